/- A text is the program's just where it is the page's: told of the printed functions, rune by rune. -/
import Derived.Test.YtajbopckmjjcfaaDoorPx1
import Derived.Test.YtajbopckmjjcfaaDoorPx2
import Derived.Test.YtajbopckmjjcfaaDoorPx5
import Derived.Test.YtajbopckmjjcfaaDoorXCheck
import Derived.Test.YtajbopckmjjcfaaDoorVbiBack
namespace Go.Proofs.YtajbopckmjjcfaaDoor.P
open Go.RowKit Go.Proofs.YtajbopckmjjcfaaDoorW.PrintWords Go.Proofs.YtajbopckmjjcfaaDoorW.PrintLast Go.Proofs.YtajbopckmjjcfaaDoorW.PrintMore
set_option linter.unusedSimpArgs false
set_option linter.unusedVariables false

theorem and_fffe (r : Nat) : r &&& 65534 = 2 * (r / 2 % 32768) := by
  have h1 : (r &&& 65534) / 2 = r / 2 % 32768 := by
    rw [Nat.and_div_two, show 65534 / 2 = 2 ^ 15 - 1 from rfl, Nat.and_two_pow_sub_one_eq_mod]
  have h2 : (r &&& 65534) % 2 = 0 := by
    have := Nat.and_mod_two_pow (a := r) (b := 65534) (n := 1)
    rw [show (2 : Nat) ^ 1 = 2 from rfl, show 65534 % 2 = 0 from rfl, Nat.and_zero] at this
    exact this
  omega
theorem fffe {r : Int} (h0 : 0 ≤ r) (h1 : r < 2147483648) : (Go.bits .and .i32 r 65534 != 65534) = decide (r % 65536 < 65534) := by
  obtain ⟨a, rfl⟩ := Int.eq_ofNat_of_zero_le h0
  have h := (bits_nat .i32 31 (by decide) wraps_i32 a 65534 (Nat.lt_of_lt_of_le (show a < 2147483648 by omega) (by decide)) (by decide)).1
  rw [show ((65534 : Nat) : Int) = 65534 from rfl] at h
  rw [h, and_fffe]
  rw [Bool.eq_iff_iff]
  simp only [bne_iff_ne, decide_eq_true_eq]
  omega
/-- Which code points may be: the two say one thing. -/
theorem good_is {r : Int} (h0 : 0 ≤ r) (h1 : r < 2147483648) : fairwayref1_good.f r = some (mayT r) := by
  have hf := fffe h0 h1
  unfold fairwayref1_good.f mayT
  rw [hf, Int.tmod_eq_emod_of_nonneg h0]
  by_cases c1 : r < 32
  · simp [c1]
  · by_cases c4 : 1114111 < r
    · by_cases c2 : 127 ≤ r
      · by_cases c3 : r ≤ 159
        · omega
        · simp [c1, c2, c3, c4]
      · omega
    · by_cases c2 : 127 ≤ r
      · by_cases c3 : r ≤ 159
        · simp [c1, c2, c3]
        · by_cases c5 : 55296 ≤ r
          · by_cases c6 : r ≤ 57343
            · simp [c1, c2, c3, c4, c5, c6]
            · by_cases c7 : 64976 ≤ r
              · by_cases c8 : r ≤ 65007
                · simp [c1, c2, c3, c4, c5, c6, c7, c8]
                · simp [c1, c2, c3, c4, c5, c6, c7, c8]
              · simp [c1, c2, c3, c4, c5, c6, c7]
          · have c7 : ¬ 64976 ≤ r := by omega
            simp [c1, c2, c3, c4, c5, c7]
      · have c5 : ¬ 55296 ≤ r := by omega
        have c7 : ¬ 64976 ≤ r := by omega
        simp [c1, c2, c4, c5, c7]

theorem bt_get (x : ByteArray) (j : Nat) (h : j < x.size) : bt x j = ((x.get! j).toNat : Int) := by
  unfold bt
  rw [dif_pos (by simpa using h)]
  have : x.get! j = x[j]'h := by
    have e : x.get! j = x.data[j]! := rfl
    rw [e, getElem!_pos x.data j h]
    rfl
  rw [this]
  simp
/-- The code point at the front, told with what the model's decoder tells. -/
def pt (x : ByteArray) : Int × Int := if mayT (Utf8.decode x 0).1 = true ∧ ¬ (((Utf8.decode x 0).1 : Int) = 65533 ∧ ¬ (((Utf8.decode x 0).2 : Int) > 1)) then (((Utf8.decode x 0).1 : Int), ((Utf8.decode x 0).2 : Int)) else (0, 0)
theorem point_tail (k : Nat) (x : ByteArray) (n low r : Int) (h0 : 0 ≤ r) (h1 : r < 2147483648) :
    fairwayref1_point.l0 (k + 1) x n low r n = some (if low ≤ r ∧ mayT r = true then (r, n) else (0, 0)) := by
  simp only [fairwayref1_point.l0]
  rw [if_neg (by omega)]
  by_cases hl : r < low
  · rw [if_pos hl, if_neg (by omega)]
  · rw [if_neg hl, good_is h0 h1]
    simp only [Option.bind_some]
    by_cases hm : mayT r = true
    · rw [if_pos hm, if_pos ⟨by omega, hm⟩]
    · rw [if_neg hm, if_neg (fun h => hm h.2)]
theorem point_step (k : Nat) (x : ByteArray) (n low r i : Int) (h0 : 0 ≤ r) (h1 : r < 2097152) (hi : i < n) (hi0 : 0 ≤ i) (hx : i < x.size) (hn : n ≤ 4) :
    fairwayref1_point.l0 (k + 1) x n low r i = if 128 ≤ bt x i ∧ bt x i < 192 then fairwayref1_point.l0 k x n low (r * 64 + (bt x i - 128)) (i + 1) else some (0, 0) := by
  have b := bt_range x i
  simp only [fairwayref1_point.l0]
  rw [if_pos hi, if_pos hi0, if_pos hx, w64bt]
  by_cases hlo : bt x i < 128
  · rw [if_pos hlo, if_neg (by omega)]
  · rw [if_neg hlo]
    by_cases hhi : bt x i ≥ 192
    · rw [if_pos hhi, if_neg (by omega)]
    · rw [if_neg hhi, if_pos (by omega), w64 (n := r * 64) (by omega) (by omega), w64 (n := r * 64 + bt x i) (by omega) (by omega), w64 (n := r * 64 + bt x i - 128) (by omega) (by omega), w64 (n := i + 1) (by omega) (by omega)]
      congr 1
      omega
theorem dN_1 (n b0 b1 b2 b3 : Nat) (h : b0 < 128) : Go.Lib.decodeN n b0 b1 b2 b3 = (b0, 1) := by
  unfold Go.Lib.decodeN
  rw [if_pos h]
theorem dN_2 (n b0 b1 b2 b3 : Nat) (h0 : 192 ≤ b0) (h1 : b0 < 224) : Go.Lib.decodeN n b0 b1 b2 b3 = if 1 < n ∧ b1 / 64 = 2 then (if b0 % 32 * 64 + b1 % 64 ≥ 128 then (b0 % 32 * 64 + b1 % 64, 2) else (65533, 1)) else (65533, 1) := by
  unfold Go.Lib.decodeN
  rw [if_neg (by omega)]
  by_cases h : 1 < n ∧ b1 / 64 = 2
  · rw [if_pos ⟨by omega, h⟩, if_pos h]
  · rw [if_neg (by omega), if_neg h, if_neg (by omega), if_neg (by omega)]
theorem dN_3 (n b0 b1 b2 b3 : Nat) (h0 : 224 ≤ b0) (h1 : b0 < 240) : Go.Lib.decodeN n b0 b1 b2 b3 = if (1 < n ∧ b1 / 64 = 2) ∧ (2 < n ∧ b2 / 64 = 2) then (if b0 % 16 * 4096 + b1 % 64 * 64 + b2 % 64 ≥ 2048 ∧ (b0 % 16 * 4096 + b1 % 64 * 64 + b2 % 64 < 55296 ∨ (57344 ≤ b0 % 16 * 4096 + b1 % 64 * 64 + b2 % 64 ∧ b0 % 16 * 4096 + b1 % 64 * 64 + b2 % 64 ≤ 1114111)) then (b0 % 16 * 4096 + b1 % 64 * 64 + b2 % 64, 3) else (65533, 1)) else (65533, 1) := by
  unfold Go.Lib.decodeN
  rw [if_neg (by omega), if_neg (by omega)]
  by_cases h : (1 < n ∧ b1 / 64 = 2) ∧ (2 < n ∧ b2 / 64 = 2)
  · rw [if_pos ⟨by omega, h⟩, if_pos h]
  · rw [if_neg (by omega), if_neg h, if_neg (by omega)]
theorem dN_4 (n b0 b1 b2 b3 : Nat) (h0 : 240 ≤ b0) (h1 : b0 < 248) : Go.Lib.decodeN n b0 b1 b2 b3 = if (1 < n ∧ b1 / 64 = 2) ∧ (2 < n ∧ b2 / 64 = 2) ∧ (3 < n ∧ b3 / 64 = 2) then (if b0 % 8 * 262144 + b1 % 64 * 4096 + b2 % 64 * 64 + b3 % 64 ≥ 65536 ∧ (b0 % 8 * 262144 + b1 % 64 * 4096 + b2 % 64 * 64 + b3 % 64 < 55296 ∨ (57344 ≤ b0 % 8 * 262144 + b1 % 64 * 4096 + b2 % 64 * 64 + b3 % 64 ∧ b0 % 8 * 262144 + b1 % 64 * 4096 + b2 % 64 * 64 + b3 % 64 ≤ 1114111)) then (b0 % 8 * 262144 + b1 % 64 * 4096 + b2 % 64 * 64 + b3 % 64, 4) else (65533, 1)) else (65533, 1) := by
  unfold Go.Lib.decodeN
  rw [if_neg (by omega), if_neg (by omega), if_neg (by omega)]
  by_cases h : (1 < n ∧ b1 / 64 = 2) ∧ (2 < n ∧ b2 / 64 = 2) ∧ (3 < n ∧ b3 / 64 = 2)
  · rw [if_pos ⟨by omega, h⟩, if_pos h]
  · rw [if_neg (by omega), if_neg h]
theorem dN_no (n b0 b1 b2 b3 : Nat) (h : (128 ≤ b0 ∧ b0 < 192) ∨ 248 ≤ b0 ∧ b0 < 256) : Go.Lib.decodeN n b0 b1 b2 b3 = (65533, 1) := by
  unfold Go.Lib.decodeN
  rw [if_neg (by omega), if_neg (by omega), if_neg (by omega), if_neg (by omega)]
/-- What is decoded lies in the text. -/
theorem decode_width (x : ByteArray) (hx : 0 < x.size) : (Utf8.decode x 0).2 ≤ x.size := by
  rw [Go.Lib.decode_at]
  unfold Go.Lib.decodeN
  repeat' split
  all_goals simp only
  all_goals omega
theorem mayT_fffd : mayT 65533 = true := by
  unfold mayT
  rw [fffe (by decide) (by decide)]
  decide
set_option maxHeartbeats 1000000 in
theorem point_ev (x : ByteArray) (hx : 0 < x.size) : Ev (fun k => fairwayref1_point.f k x) (pt x) := by
  refine ⟨20, fun k hk => ?_⟩
  obtain ⟨k, rfl⟩ : ∃ m, k = m + 20 := ⟨k - 20, by omega⟩
  dsimp only
  have g0 : bt x 0 = ((x.get! 0).toNat : Int) := bt_get x 0 hx
  have g1 : 1 < x.size → bt x 1 = ((x.get! 1).toNat : Int) := bt_get x 1
  have g2 : 2 < x.size → bt x 2 = ((x.get! 2).toNat : Int) := bt_get x 2
  have g3 : 3 < x.size → bt x 3 = ((x.get! 3).toNat : Int) := bt_get x 3
  have r0 := bt_range x 0; have r1 := bt_range x 1; have r2 := bt_range x 2; have r3 := bt_range x 3
  have hd : Utf8.decode x 0 = Go.Lib.decodeN x.size (x.get! 0).toNat (x.get! 1).toNat (x.get! 2).toNat (x.get! 3).toNat := Go.Lib.decode_at x 0
  unfold pt
  rw [hd]
  generalize hb0 : (x.get! 0).toNat = b0 at *
  generalize hb1 : (x.get! 1).toNat = b1 at *
  generalize hb2 : (x.get! 2).toNat = b2 at *
  generalize hb3 : (x.get! 3).toNat = b3 at *
  clear hd hb0 hb1 hb2 hb3
  unfold fairwayref1_point.f
  rw [if_pos (by omega), w64bt]
  have bad : Go.Lib.decodeN x.size b0 b1 b2 b3 = (65533, 1) → (some ((0 : Int), (0 : Int)) = some (if mayT ((Go.Lib.decodeN x.size b0 b1 b2 b3).1 : Int) = true ∧ ¬ (((Go.Lib.decodeN x.size b0 b1 b2 b3).1 : Int) = 65533 ∧ ¬ (((Go.Lib.decodeN x.size b0 b1 b2 b3).2 : Int) > 1)) then (((Go.Lib.decodeN x.size b0 b1 b2 b3).1 : Int), ((Go.Lib.decodeN x.size b0 b1 b2 b3).2 : Int)) else (0, 0))) := by
    intro h
    rw [h, if_neg (by simp)]
  have fine : ∀ (r : Int) (n : Nat) (low : Int), (low ≤ r → Go.Lib.decodeN x.size b0 b1 b2 b3 = (r.toNat, n) ∨ (mayT r = false ∧ Go.Lib.decodeN x.size b0 b1 b2 b3 = (65533, 1))) → (¬ low ≤ r → Go.Lib.decodeN x.size b0 b1 b2 b3 = (65533, 1)) → 0 ≤ r → (1 < n ∨ r < 65533) →
      (some (if low ≤ r ∧ mayT r = true then (r, (n : Int)) else (0, 0)) = some (if mayT ((Go.Lib.decodeN x.size b0 b1 b2 b3).1 : Int) = true ∧ ¬ (((Go.Lib.decodeN x.size b0 b1 b2 b3).1 : Int) = 65533 ∧ ¬ (((Go.Lib.decodeN x.size b0 b1 b2 b3).2 : Int) > 1)) then (((Go.Lib.decodeN x.size b0 b1 b2 b3).1 : Int), ((Go.Lib.decodeN x.size b0 b1 b2 b3).2 : Int)) else (0, 0))) := by
    intro r n low h1 h2 h0 hn
    by_cases hl : low ≤ r
    · rcases h1 hl with h1 | ⟨hm, h1⟩
      · rw [h1]
        have e : ((r.toNat : Nat) : Int) = r := by omega
        simp only [e]
        by_cases hm : mayT r = true
        · rw [if_pos ⟨hl, hm⟩, if_pos ⟨hm, by omega⟩]
        · rw [if_neg (fun h => hm h.2), if_neg (fun h => hm h.1)]
      · rw [← bad h1, if_neg (by rw [hm]; simp)]
    · rw [← bad (h2 hl), if_neg (fun h => hl h.1)]
  have sur : ∀ r : Int, (55296 ≤ r ∧ r ≤ 57343) ∨ 1114111 < r → mayT r = false := by
    intro r h
    unfold mayT
    rcases h with h | h
    · simp [h.1, h.2]
    · simp [h]
  by_cases c240 : bt x 0 ≥ 240
  · rw [if_pos c240]
    simp only [fairwayref1_point.j0]
    by_cases c248 : bt x 0 < 248
    · rw [if_pos (by simpa using c248), w64 (by omega) (by omega)]
      simp only [fairwayref1_point.j3]
      have hdN := dN_4 x.size b0 b1 b2 b3 (by omega) (by omega)
      by_cases hs : (x.size : Int) < 4
      · rw [if_pos hs]
        exact bad (by rw [hdN, if_neg (by omega)])
      · have g1 := g1 (by omega); have g2 := g2 (by omega); have g3 := g3 (by omega)
        rw [if_neg hs, point_step _ x 4 65536 _ 1 (by omega) (by omega) (by omega) (by omega) (by omega) (by omega)]
        by_cases e1 : 128 ≤ bt x 1 ∧ bt x 1 < 192
        · rw [if_pos e1, show (1 : Int) + 1 = 2 from rfl, point_step _ x 4 65536 _ 2 (by omega) (by omega) (by omega) (by omega) (by omega) (by omega)]
          by_cases e2 : 128 ≤ bt x 2 ∧ bt x 2 < 192
          · rw [if_pos e2, show (2 : Int) + 1 = 3 from rfl, point_step _ x 4 65536 _ 3 (by omega) (by omega) (by omega) (by omega) (by omega) (by omega)]
            by_cases e3 : 128 ≤ bt x 3 ∧ bt x 3 < 192
            · rw [if_pos e3, show (3 : Int) + 1 = 4 from rfl, point_tail _ x 4 65536 _ (by omega) (by omega)]
              refine fine _ 4 65536 (fun hl => ?_) (fun hl => ?_) (by omega) (.inl (by decide))
              · by_cases hv : b0 % 8 * 262144 + b1 % 64 * 4096 + b2 % 64 * 64 + b3 % 64 < 55296 ∨ (57344 ≤ b0 % 8 * 262144 + b1 % 64 * 4096 + b2 % 64 * 64 + b3 % 64 ∧ b0 % 8 * 262144 + b1 % 64 * 4096 + b2 % 64 * 64 + b3 % 64 ≤ 1114111)
                · left
                  rw [hdN, if_pos (by omega), if_pos ⟨by omega, hv⟩]
                  refine Prod.ext ?_ rfl
                  show b0 % 8 * 262144 + b1 % 64 * 4096 + b2 % 64 * 64 + b3 % 64 = _
                  omega
                · right
                  exact ⟨sur _ (by omega), by rw [hdN, if_pos (by omega), if_neg (fun h => hv h.2)]⟩
              · rw [hdN, if_pos (by omega), if_neg (by omega)]
            · rw [if_neg e3]; exact bad (by rw [hdN, if_neg (by omega)])
          · rw [if_neg e2]; exact bad (by rw [hdN, if_neg (by omega)])
        · rw [if_neg e1]; exact bad (by rw [hdN, if_neg (by omega)])
    · rw [if_neg (by simpa using c248), if_pos (by omega)]
      simp only [fairwayref1_point.j1]
      rw [if_neg (by simp; omega), if_pos (by omega)]
      simp only [fairwayref1_point.j2]
      rw [if_neg (by simp; omega), if_pos (by omega)]
      exact bad (dN_no x.size b0 b1 b2 b3 (by omega))
  · rw [if_neg c240]
    simp only [fairwayref1_point.j0]
    rw [if_neg (by simp)]
    by_cases c224 : bt x 0 ≥ 224
    · rw [if_pos c224]
      simp only [fairwayref1_point.j1]
      rw [if_pos (by simp; omega), w64 (by omega) (by omega)]
      simp only [fairwayref1_point.j3]
      have hdN := dN_3 x.size b0 b1 b2 b3 (by omega) (by omega)
      by_cases hs : (x.size : Int) < 3
      · rw [if_pos hs]
        exact bad (by rw [hdN, if_neg (by omega)])
      · have g1 := g1 (by omega); have g2 := g2 (by omega)
        rw [if_neg hs, point_step _ x 3 2048 _ 1 (by omega) (by omega) (by omega) (by omega) (by omega) (by omega)]
        by_cases e1 : 128 ≤ bt x 1 ∧ bt x 1 < 192
        · rw [if_pos e1, show (1 : Int) + 1 = 2 from rfl, point_step _ x 3 2048 _ 2 (by omega) (by omega) (by omega) (by omega) (by omega) (by omega)]
          by_cases e2 : 128 ≤ bt x 2 ∧ bt x 2 < 192
          · rw [if_pos e2, show (2 : Int) + 1 = 3 from rfl, point_tail _ x 3 2048 _ (by omega) (by omega)]
            refine fine _ 3 2048 (fun hl => ?_) (fun hl => ?_) (by omega) (.inl (by decide))
            · by_cases hv : b0 % 16 * 4096 + b1 % 64 * 64 + b2 % 64 < 55296 ∨ (57344 ≤ b0 % 16 * 4096 + b1 % 64 * 64 + b2 % 64 ∧ b0 % 16 * 4096 + b1 % 64 * 64 + b2 % 64 ≤ 1114111)
              · left
                rw [hdN, if_pos (by omega), if_pos ⟨by omega, hv⟩]
                refine Prod.ext ?_ rfl
                show b0 % 16 * 4096 + b1 % 64 * 64 + b2 % 64 = _
                omega
              · right
                exact ⟨sur _ (by omega), by rw [hdN, if_pos (by omega), if_neg (fun h => hv h.2)]⟩
            · rw [hdN, if_pos (by omega), if_neg (by omega)]
          · rw [if_neg e2]; exact bad (by rw [hdN, if_neg (by omega)])
        · rw [if_neg e1]; exact bad (by rw [hdN, if_neg (by omega)])
    · rw [if_neg c224]
      simp only [fairwayref1_point.j1]
      rw [if_neg (by simp)]
      by_cases c192 : bt x 0 ≥ 192
      · rw [if_pos c192]
        simp only [fairwayref1_point.j2]
        rw [if_pos (by simp; omega), w64 (by omega) (by omega)]
        simp only [fairwayref1_point.j3]
        have hdN := dN_2 x.size b0 b1 b2 b3 (by omega) (by omega)
        by_cases hs : (x.size : Int) < 2
        · rw [if_pos hs]
          exact bad (by rw [hdN, if_neg (by omega)])
        · have g1 := g1 (by omega)
          rw [if_neg hs, point_step _ x 2 128 _ 1 (by omega) (by omega) (by omega) (by omega) (by omega) (by omega)]
          by_cases e1 : 128 ≤ bt x 1 ∧ bt x 1 < 192
          · rw [if_pos e1, show (1 : Int) + 1 = 2 from rfl, point_tail _ x 2 128 _ (by omega) (by omega)]
            refine fine _ 2 128 (fun hl => .inl ?_) (fun hl => ?_) (by omega) (.inl (by decide))
            · rw [hdN, if_pos (by omega), if_pos (by omega)]
              refine Prod.ext ?_ rfl
              show b0 % 32 * 64 + b1 % 64 = _
              omega
            · rw [hdN, if_pos (by omega), if_neg (by omega)]
          · rw [if_neg e1]; exact bad (by rw [hdN, if_neg (by omega)])
      · rw [if_neg c192]
        simp only [fairwayref1_point.j2]
        rw [if_neg (by simp)]
        by_cases c128 : bt x 0 ≥ 128
        · rw [if_pos c128]
          exact bad (dN_no x.size b0 b1 b2 b3 (by omega))
        · rw [if_neg c128]
          simp only [fairwayref1_point.j3]
          rw [if_neg (by omega), point_tail _ x 1 0 _ (by omega) (by omega)]
          refine fine _ 1 0 (fun hl => .inl ?_) (fun hl => by omega) (by omega) (.inr (by omega))
          rw [dN_1 x.size b0 b1 b2 b3 (by omega)]
          refine Prod.ext ?_ rfl
          show b0 = _
          omega

/-! ### a text, rune by rune -/
theorem get_extract (s : ByteArray) (p j : Nat) : (s.extract p s.size).get! j = s.get! (p + j) := by
  by_cases h : p + j < s.size
  · have hs : (s.extract p s.size).size = s.size - p := extract_size s (by omega) (Nat.le_refl _)
    have a := bt_get (s.extract p s.size) j (by omega)
    have b := bt_get s (p + j) h
    have c : bt (s.extract p s.size) j = bt s ((p + j : Nat) : Int) := by
      rw [bt_list _ j (by omega), bt_list _ (p + j) h]
      simp only [bytesOf_extract, List.extract_eq_take_drop]
      rw [List.getElem_take, List.getElem_drop]
    rw [c, b] at a
    exact UInt8.toNat_inj.1 (by exact_mod_cast a.symm)
  · have e1 : s.get! (p + j) = default := by
      show s.data[p + j]! = default
      exact getElem!_neg s.data (p + j) (by show ¬ p + j < s.size; omega)
    have e2 : (s.extract p s.size).get! j = default := by
      show (s.extract p s.size).data[j]! = default
      refine getElem!_neg _ j ?_
      show ¬ j < (s.extract p s.size).size
      rw [← bytesOf_len, bytesOf_extract, List.extract_eq_take_drop, List.length_take, List.length_drop, bytesOf_len]
      omega
    rw [e1, e2]
theorem decode_extract (s : ByteArray) (p : Nat) (hp : p ≤ s.size) : Utf8.decode (s.extract p s.size) 0 = Utf8.decode s p := by
  rw [Go.Lib.decode_at, Go.Lib.decode_at]
  simp only [get_extract, Nat.zero_add, Nat.add_zero, Nat.sub_zero]
  rw [extract_size s hp (Nat.le_refl _)]
theorem extract_twice (s : ByteArray) (p n : Nat) (hp : p ≤ s.size) : (s.extract p s.size).extract n (s.extract p s.size).size = s.extract (p + n) s.size := bytesOf_inj (by
  rw [extract_size s hp (Nat.le_refl _)]
  simp only [bytesOf_extract, List.extract_eq_take_drop]
  rw [List.drop_take, List.drop_drop, List.take_take]
  congr 1
  omega)
theorem text_loop (s : ByteArray) (d : Nat) : ∀ p f : Nat, p ≤ s.size → s.size - p ≤ d → s.size - p ≤ f → Ev (fun k => fairwayref1_Text.l0 k (s.extract p s.size)) (chk s f p) := by
  induction d with
  | zero =>
    intro p f hp hd hf
    refine ⟨1, fun k hk => ?_⟩
    obtain ⟨k, rfl⟩ : ∃ m, k = m + 1 := ⟨k - 1, by omega⟩
    simp only [fairwayref1_Text.l0]
    rw [if_neg (by rw [extract_size s hp (Nat.le_refl _)]; omega), chk_end s f p (by omega)]
  | succ d ih =>
    intro p f hp hd hf
    by_cases he : s.size ≤ p
    · exact ih p f hp (by omega) hf
    · have hs : (s.extract p s.size).size = s.size - p := extract_size s hp (Nat.le_refl _)
      obtain ⟨K, h⟩ := point_ev (s.extract p s.size) (by omega)
      dsimp only at h
      have hdx := decode_extract s p hp
      have hw : wholeT s p = decide (((Utf8.decode s p).2 : Int) > 1) := by
        unfold wholeT Go.Lib.decodeGo
        rw [if_neg (by omega), hdx]
      have hwd := width_pos s p (by omega)
      have hle := decode_le s p
      obtain ⟨f, rfl⟩ : ∃ m, f = m + 1 := ⟨f - 1, by omega⟩
      unfold pt at h
      rw [hdx] at h
      have hchk : chk s (f + 1) p = if mayT (Utf8.decode s p).1 = true ∧ ¬ (((Utf8.decode s p).1 : Int) = 65533 ∧ ¬ (((Utf8.decode s p).2 : Int) > 1)) then chk s f (p + (Utf8.decode s p).2) else 8 := by
        simp only [chk, show p < s.size by omega, if_true]
        by_cases hm : mayT (Utf8.decode s p).1 = true
        · rw [if_pos hm, hw]
          by_cases h5 : ((Utf8.decode s p).1 : Int) = 65533
          · by_cases h1 : ((Utf8.decode s p).2 : Int) > 1
            · rw [if_neg (by simp [h1]), if_pos ⟨hm, fun h => h.2 h1⟩]
            · rw [if_pos ⟨h5, by simpa using h1⟩, if_neg (fun h => h.2 ⟨h5, h1⟩)]
          · rw [if_neg (fun h => h5 h.1), if_pos ⟨hm, fun h => h5 h.1⟩]
        · rw [if_neg hm, if_neg (fun h => hm h.1)]
      rw [hchk]
      by_cases hok : mayT (Utf8.decode s p).1 = true ∧ ¬ (((Utf8.decode s p).1 : Int) = 65533 ∧ ¬ (((Utf8.decode s p).2 : Int) > 1))
      · rw [if_pos hok]
        rw [if_pos hok] at h
        have hle2 : p + (Utf8.decode s p).2 ≤ s.size := by
          have hw2 := decode_width (s.extract p s.size) (by omega)
          rw [hdx, hs] at hw2
          omega
        obtain ⟨K2, h2⟩ := ih (p + (Utf8.decode s p).2) f hle2 (by omega) (by omega)
        dsimp only at h2
        refine ⟨K + K2 + 1, fun k hk => ?_⟩
        obtain ⟨k, rfl⟩ : ∃ m, k = m + 1 := ⟨k - 1, by omega⟩
        simp only [fairwayref1_Text.l0]
        rw [if_pos (by omega), h k (by omega)]
        simp only [Option.bind_some]
        rw [if_neg (by omega), if_pos (by omega), if_pos (by omega), Int.toNat_natCast, extract_twice s p _ hp]
        exact h2 k (by omega)
      · rw [if_neg hok]
        rw [if_neg hok] at h
        refine ⟨K + 1, fun k hk => ?_⟩
        obtain ⟨k, rfl⟩ : ∃ m, k = m + 1 := ⟨k - 1, by omega⟩
        simp only [fairwayref1_Text.l0]
        rw [if_pos (by omega), h k (by omega)]
        simp
/-- The page's text is the program's. -/
theorem text_ev (s : ByteArray) : Ev (fun k => fairwayref1_Text.f k s) (checkT s) := by
  by_cases hs : s.size > 1024
  · refine ⟨0, fun k hk => ?_⟩
    dsimp only
    unfold fairwayref1_Text.f checkT
    rw [if_pos (by omega), if_pos hs]
  · obtain ⟨K, h⟩ := text_loop s s.size 0 s.size (by omega) (by omega) (by omega)
    refine ⟨K, fun k hk => ?_⟩
    dsimp only at h ⊢
    unfold fairwayref1_Text.f checkT
    rw [if_neg (by omega), if_neg hs, ← h k hk, extract_all]

/-! ### a text, or bytes, behind their length -/
/-- The bytes of a text (or of any bytes) with its length ahead; the error. -/
def longT (s : ByteArray) (text : Bool) : ByteArray × Int :=
  if text = true then (if checkT s = 0 then (two s.size ++ s, 0) else ((⟨#[]⟩ : ByteArray), checkT s)) else (if (s.size : Int) > 1024 then ((⟨#[]⟩ : ByteArray), 2) else (two s.size ++ s, 0))
/-- Back. -/
def takeT (s : ByteArray) (text : Bool) : ByteArray × Int × Int :=
  if (tbin s).2.2 = 0 then (if text = true then (if checkT (tbin s).1 = 0 then tbin s else ((⟨#[]⟩ : ByteArray), 0, checkT (tbin s).1)) else tbin s) else tbin s
theorem check_small {s : ByteArray} (h : checkT s = 0) : ¬ (s.size : Int) > 1024 := by
  intro h2
  unfold checkT at h
  rw [if_pos (by omega)] at h
  cases h
theorem two_fits (s : ByteArray) (h : s.size ≤ 9223372036854775000) : (two (s.size : Int)).size + s.size ≤ 9223372036854775807 := by rw [two_size]; omega
theorem long_ev (s : ByteArray) (text : Bool) (hs : s.size ≤ 9223372036854775000) : Ev (fun k => fairwayref1_Long.f k s text) (longT s text) := by
  obtain ⟨K, h⟩ := text_ev s
  obtain ⟨K2, h2⟩ := fixed2_ev (s.size : Int)
  refine ⟨K + K2, fun k hk => ?_⟩
  dsimp only at h h2 ⊢
  have hf := two_fits s hs
  unfold fairwayref1_Long.f longT
  cases text with
  | true =>
    rw [if_pos rfl, if_pos rfl, h k (by omega)]
    simp only [Option.bind_some]
    by_cases hc : checkT s = 0
    · rw [if_pos hc, if_pos hc, h2 k (by omega)]
      simp only [Option.bind_some]
      rw [if_pos hf]
    · rw [if_neg hc, if_neg hc]
  | false =>
    have h2 := h2 k (by omega)
    by_cases hc : (s.size : Int) > 1024
    · simp [hc]
    · simp only [hc, Bool.false_eq_true, if_false, if_true, h2, Option.bind_some, hf]
theorem takeLong_ev (s : ByteArray) (text : Bool) (hs : s.size ≤ 9223372036854775000) : Ev (fun k => fairwayref1_TakeLong.f k s text) (takeT s text) := by
  obtain ⟨K, h⟩ := text_ev (tbin s).1
  obtain ⟨K2, h2⟩ := ref_take2_ev s
  refine ⟨K + K2, fun k hk => ?_⟩
  dsimp only at h h2 ⊢
  have h := h k (by omega)
  unfold fairwayref1_TakeLong.f takeT
  rw [h2 k (by omega)]
  simp only [Option.bind_some]
  unfold tbin at h ⊢
  obtain ⟨v0, v1⟩ := val2_range s
  by_cases c1 : (s.size : Int) < 2
  · simp [c1]
  · rw [if_neg c1]
    simp only [c1, if_false, if_true] at h ⊢
    rw [w64 (n := (s.size : Int) - 2) (by omega) (by omega), w64 (n := 2 + val2 s) (by omega) (by omega)]
    by_cases c2 : val2 s > 1024
    · simp [c2]
    · simp only [c2, if_false] at h ⊢
      by_cases c3 : (s.size : Int) - 2 < val2 s
      · simp [c3]
      · simp only [c3, if_false] at h ⊢
        rw [if_pos (by omega), if_pos (by omega)]
        cases text with
        | true =>
          rw [if_pos rfl, h]
          simp only [Option.bind_some, if_true]
          split <;> rfl
        | false => simp
theorem vtext_ev (s : ByteArray) : Ev (fun k => vbi_Text.f k s) (longT s true) := by
  obtain ⟨K, h⟩ := bin_ev s
  refine ⟨K, fun k hk => ?_⟩
  dsimp only at h ⊢
  unfold vbi_Text.f longT text_Check.f
  simp only [Option.bind_some, if_true]
  by_cases hc : checkT s = 0
  · rw [if_pos hc, if_pos hc, h k hk, if_neg (check_small hc)]
    rfl
  · rw [if_neg hc, if_neg hc]
theorem vtakeText_ev (s : ByteArray) (hs : s.size ≤ 9223372036854775807) : Ev (fun k => vbi_TakeText.f k s) (takeT s true) := by
  obtain ⟨K, h⟩ := takeBin_ev s hs
  refine ⟨K, fun k hk => ?_⟩
  dsimp only at h ⊢
  unfold vbi_TakeText.f takeT text_Check.f
  rw [h k hk]
  simp only [Option.bind_some, if_true]
  by_cases hc : (tbin s).2.2 = 0
  · rw [if_pos hc, if_pos hc]
    by_cases h2 : checkT (tbin s).1 = 0
    · rw [if_pos h2, if_pos h2, ← hc]
    · rw [if_neg h2, if_neg h2]
  · rw [if_neg hc, if_neg hc]
    have : tbin s = ((⟨#[]⟩ : ByteArray), 0, (tbin s).2.2) := by
      unfold tbin at hc ⊢
      repeat' split
      all_goals first | rfl | simp_all
    rw [← this]
end Go.Proofs.YtajbopckmjjcfaaDoor.P
