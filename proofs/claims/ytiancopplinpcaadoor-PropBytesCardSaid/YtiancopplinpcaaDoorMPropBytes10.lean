/- The statement PropBytes: for every input the law answers true, and its argument reads behind the call as it did (part 11 of 13 of the proof). -/
import Derived.Test.YtiancopplinpcaaDoorMPropBytes9
section
namespace Go.Proofs.YtiancopplinpcaaDoor.P
open Go.RowKit Go.Proofs.YtiancopplinpcaaDoorW.PrintWords Go.Proofs.YtiancopplinpcaaDoorW.PrintLast Go.Proofs.YtiancopplinpcaaDoorW.PrintMore
set_option linter.unusedSimpArgs false
set_option linter.unusedVariables false
theorem and_fffe (r : Nat) : r &&& 65534 = 2 * (r / 2 % 32768) := by
  have h1 : (r &&& 65534) / 2 = r / 2 % 32768 := by
    rw [Nat.and_div_two, show 65534 / 2 = 2 ^ 15 - 1 from rfl, Nat.and_two_pow_sub_one_eq_mod]
  have h2 : (r &&& 65534) % 2 = 0 := by
    have := Nat.and_mod_two_pow (a := r) (b := 65534) (n := 1)
    rw [show (2 : Nat) ^ 1 = 2 from rfl, show 65534 % 2 = 0 from rfl, Nat.and_zero] at this
    exact this
  omega
theorem fffe {r : Int} (h0 : 0 ≤ r) (h1 : r < 2147483648) : (Go.bits .and .i32 r 65534 != 65534) = decide (r % 65536 < 65534) := by
  obtain ⟨a, rfl⟩ := Int.eq_ofNat_of_zero_le h0
  have h := (bits_nat .i32 31 (by decide) wraps_i32 a 65534 (Nat.lt_of_lt_of_le (show a < 2147483648 by omega) (by decide)) (by decide)).1
  rw [show ((65534 : Nat) : Int) = 65534 from rfl] at h
  rw [h, and_fffe]
  rw [Bool.eq_iff_iff]
  simp only [bne_iff_ne, decide_eq_true_eq]
  omega
theorem good_is {r : Int} (h0 : 0 ≤ r) (h1 : r < 2147483648) : fairwayref1_good.f r = some (mayT r) := by
  have hf := fffe h0 h1
  unfold fairwayref1_good.f mayT
  rw [hf, Int.tmod_eq_emod_of_nonneg h0]
  by_cases c1 : r < 32
  · simp [c1]
  · by_cases c4 : 1114111 < r
    · by_cases c2 : 127 ≤ r
      · by_cases c3 : r ≤ 159
        · omega
        · simp [c1, c2, c3, c4]
      · omega
    · by_cases c2 : 127 ≤ r
      · by_cases c3 : r ≤ 159
        · simp [c1, c2, c3]
        · by_cases c5 : 55296 ≤ r
          · by_cases c6 : r ≤ 57343
            · simp [c1, c2, c3, c4, c5, c6]
            · by_cases c7 : 64976 ≤ r
              · by_cases c8 : r ≤ 65007
                · simp [c1, c2, c3, c4, c5, c6, c7, c8]
                · simp [c1, c2, c3, c4, c5, c6, c7, c8]
              · simp [c1, c2, c3, c4, c5, c6, c7]
          · have c7 : ¬ 64976 ≤ r := by omega
            simp [c1, c2, c3, c4, c5, c7]
      · have c5 : ¬ 55296 ≤ r := by omega
        have c7 : ¬ 64976 ≤ r := by omega
        simp [c1, c2, c4, c5, c7]
theorem bt_get (x : ByteArray) (j : Nat) (h : j < x.size) : bt x j = ((x.get! j).toNat : Int) := by
  unfold bt
  rw [dif_pos (by simpa using h)]
  have : x.get! j = x[j]'h := by
    have e : x.get! j = x.data[j]! := rfl
    rw [e, getElem!_pos x.data j h]
    rfl
  rw [this]
  simp
def pt (x : ByteArray) : Int × Int := if mayT (Utf8.decode x 0).1 = true ∧ ¬ (((Utf8.decode x 0).1 : Int) = 65533 ∧ ¬ (((Utf8.decode x 0).2 : Int) > 1)) then (((Utf8.decode x 0).1 : Int), ((Utf8.decode x 0).2 : Int)) else (0, 0)
theorem point_tail (k : Nat) (x : ByteArray) (n low r : Int) (h0 : 0 ≤ r) (h1 : r < 2147483648) :
    fairwayref1_point.l0 (k + 1) x n low r n = some (if low ≤ r ∧ mayT r = true then (r, n) else (0, 0)) := by
  simp only [fairwayref1_point.l0]
  rw [if_neg (by omega)]
  by_cases hl : r < low
  · rw [if_pos hl, if_neg (by omega)]
  · rw [if_neg hl, good_is h0 h1]
    simp only [Option.bind_some]
    by_cases hm : mayT r = true
    · rw [if_pos hm, if_pos ⟨by omega, hm⟩]
    · rw [if_neg hm, if_neg (fun h => hm h.2)]
theorem point_step (k : Nat) (x : ByteArray) (n low r i : Int) (h0 : 0 ≤ r) (h1 : r < 2097152) (hi : i < n) (hi0 : 0 ≤ i) (hx : i < x.size) (hn : n ≤ 4) :
    fairwayref1_point.l0 (k + 1) x n low r i = if 128 ≤ bt x i ∧ bt x i < 192 then fairwayref1_point.l0 k x n low (r * 64 + (bt x i - 128)) (i + 1) else some (0, 0) := by
  have b := bt_range x i
  simp only [fairwayref1_point.l0]
  rw [if_pos hi, if_pos hi0, if_pos hx, w64bt]
  by_cases hlo : bt x i < 128
  · rw [if_pos hlo, if_neg (by omega)]
  · rw [if_neg hlo]
    by_cases hhi : bt x i ≥ 192
    · rw [if_pos hhi, if_neg (by omega)]
    · rw [if_neg hhi, if_pos (by omega), w64 (n := r * 64) (by omega) (by omega), w64 (n := r * 64 + bt x i) (by omega) (by omega), w64 (n := r * 64 + bt x i - 128) (by omega) (by omega), w64 (n := i + 1) (by omega) (by omega)]
      congr 1
      omega
theorem dN_1 (n b0 b1 b2 b3 : Nat) (h : b0 < 128) : Go.Lib.decodeN n b0 b1 b2 b3 = (b0, 1) := by
  unfold Go.Lib.decodeN
  rw [if_pos h]
theorem dN_2 (n b0 b1 b2 b3 : Nat) (h0 : 192 ≤ b0) (h1 : b0 < 224) : Go.Lib.decodeN n b0 b1 b2 b3 = if 1 < n ∧ b1 / 64 = 2 then (if b0 % 32 * 64 + b1 % 64 ≥ 128 then (b0 % 32 * 64 + b1 % 64, 2) else (65533, 1)) else (65533, 1) := by
  unfold Go.Lib.decodeN
  rw [if_neg (by omega)]
  by_cases h : 1 < n ∧ b1 / 64 = 2
  · rw [if_pos ⟨by omega, h⟩, if_pos h]
  · rw [if_neg (by omega), if_neg h, if_neg (by omega), if_neg (by omega)]
theorem dN_3 (n b0 b1 b2 b3 : Nat) (h0 : 224 ≤ b0) (h1 : b0 < 240) : Go.Lib.decodeN n b0 b1 b2 b3 = if (1 < n ∧ b1 / 64 = 2) ∧ (2 < n ∧ b2 / 64 = 2) then (if b0 % 16 * 4096 + b1 % 64 * 64 + b2 % 64 ≥ 2048 ∧ (b0 % 16 * 4096 + b1 % 64 * 64 + b2 % 64 < 55296 ∨ (57344 ≤ b0 % 16 * 4096 + b1 % 64 * 64 + b2 % 64 ∧ b0 % 16 * 4096 + b1 % 64 * 64 + b2 % 64 ≤ 1114111)) then (b0 % 16 * 4096 + b1 % 64 * 64 + b2 % 64, 3) else (65533, 1)) else (65533, 1) := by
  unfold Go.Lib.decodeN
  rw [if_neg (by omega), if_neg (by omega)]
  by_cases h : (1 < n ∧ b1 / 64 = 2) ∧ (2 < n ∧ b2 / 64 = 2)
  · rw [if_pos ⟨by omega, h⟩, if_pos h]
  · rw [if_neg (by omega), if_neg h, if_neg (by omega)]
theorem dN_4 (n b0 b1 b2 b3 : Nat) (h0 : 240 ≤ b0) (h1 : b0 < 248) : Go.Lib.decodeN n b0 b1 b2 b3 = if (1 < n ∧ b1 / 64 = 2) ∧ (2 < n ∧ b2 / 64 = 2) ∧ (3 < n ∧ b3 / 64 = 2) then (if b0 % 8 * 262144 + b1 % 64 * 4096 + b2 % 64 * 64 + b3 % 64 ≥ 65536 ∧ (b0 % 8 * 262144 + b1 % 64 * 4096 + b2 % 64 * 64 + b3 % 64 < 55296 ∨ (57344 ≤ b0 % 8 * 262144 + b1 % 64 * 4096 + b2 % 64 * 64 + b3 % 64 ∧ b0 % 8 * 262144 + b1 % 64 * 4096 + b2 % 64 * 64 + b3 % 64 ≤ 1114111)) then (b0 % 8 * 262144 + b1 % 64 * 4096 + b2 % 64 * 64 + b3 % 64, 4) else (65533, 1)) else (65533, 1) := by
  unfold Go.Lib.decodeN
  rw [if_neg (by omega), if_neg (by omega), if_neg (by omega)]
  by_cases h : (1 < n ∧ b1 / 64 = 2) ∧ (2 < n ∧ b2 / 64 = 2) ∧ (3 < n ∧ b3 / 64 = 2)
  · rw [if_pos ⟨by omega, h⟩, if_pos h]
  · rw [if_neg (by omega), if_neg h]
theorem dN_no (n b0 b1 b2 b3 : Nat) (h : (128 ≤ b0 ∧ b0 < 192) ∨ 248 ≤ b0 ∧ b0 < 256) : Go.Lib.decodeN n b0 b1 b2 b3 = (65533, 1) := by
  unfold Go.Lib.decodeN
  rw [if_neg (by omega), if_neg (by omega), if_neg (by omega), if_neg (by omega)]
theorem decode_width (x : ByteArray) (hx : 0 < x.size) : (Utf8.decode x 0).2 ≤ x.size := by
  rw [Go.Lib.decode_at]
  unfold Go.Lib.decodeN
  repeat' split
  all_goals simp only
  all_goals omega
set_option maxHeartbeats 1000000 in
theorem point_ev (x : ByteArray) (hx : 0 < x.size) : Ev (fun k => fairwayref1_point.f k x) (pt x) := by
  refine ⟨20, fun k hk => ?_⟩
  obtain ⟨k, rfl⟩ : ∃ m, k = m + 20 := ⟨k - 20, by omega⟩
  dsimp only
  have g0 : bt x 0 = ((x.get! 0).toNat : Int) := bt_get x 0 hx
  have g1 : 1 < x.size → bt x 1 = ((x.get! 1).toNat : Int) := bt_get x 1
  have g2 : 2 < x.size → bt x 2 = ((x.get! 2).toNat : Int) := bt_get x 2
  have g3 : 3 < x.size → bt x 3 = ((x.get! 3).toNat : Int) := bt_get x 3
  have r0 := bt_range x 0; have r1 := bt_range x 1; have r2 := bt_range x 2; have r3 := bt_range x 3
  have hd : Utf8.decode x 0 = Go.Lib.decodeN x.size (x.get! 0).toNat (x.get! 1).toNat (x.get! 2).toNat (x.get! 3).toNat := Go.Lib.decode_at x 0
  unfold pt
  rw [hd]
  generalize hb0 : (x.get! 0).toNat = b0 at *
  generalize hb1 : (x.get! 1).toNat = b1 at *
  generalize hb2 : (x.get! 2).toNat = b2 at *
  generalize hb3 : (x.get! 3).toNat = b3 at *
  clear hd hb0 hb1 hb2 hb3
  unfold fairwayref1_point.f
  rw [if_pos (by omega), w64bt]
  have bad : Go.Lib.decodeN x.size b0 b1 b2 b3 = (65533, 1) → (some ((0 : Int), (0 : Int)) = some (if mayT ((Go.Lib.decodeN x.size b0 b1 b2 b3).1 : Int) = true ∧ ¬ (((Go.Lib.decodeN x.size b0 b1 b2 b3).1 : Int) = 65533 ∧ ¬ (((Go.Lib.decodeN x.size b0 b1 b2 b3).2 : Int) > 1)) then (((Go.Lib.decodeN x.size b0 b1 b2 b3).1 : Int), ((Go.Lib.decodeN x.size b0 b1 b2 b3).2 : Int)) else (0, 0))) := by
    intro h
    rw [h, if_neg (by simp)]
  have fine : ∀ (r : Int) (n : Nat) (low : Int), (low ≤ r → Go.Lib.decodeN x.size b0 b1 b2 b3 = (r.toNat, n) ∨ (mayT r = false ∧ Go.Lib.decodeN x.size b0 b1 b2 b3 = (65533, 1))) → (¬ low ≤ r → Go.Lib.decodeN x.size b0 b1 b2 b3 = (65533, 1)) → 0 ≤ r → (1 < n ∨ r < 65533) →
      (some (if low ≤ r ∧ mayT r = true then (r, (n : Int)) else (0, 0)) = some (if mayT ((Go.Lib.decodeN x.size b0 b1 b2 b3).1 : Int) = true ∧ ¬ (((Go.Lib.decodeN x.size b0 b1 b2 b3).1 : Int) = 65533 ∧ ¬ (((Go.Lib.decodeN x.size b0 b1 b2 b3).2 : Int) > 1)) then (((Go.Lib.decodeN x.size b0 b1 b2 b3).1 : Int), ((Go.Lib.decodeN x.size b0 b1 b2 b3).2 : Int)) else (0, 0))) := by
    intro r n low h1 h2 h0 hn
    by_cases hl : low ≤ r
    · rcases h1 hl with h1 | ⟨hm, h1⟩
      · rw [h1]
        have e : ((r.toNat : Nat) : Int) = r := by omega
        simp only [e]
        by_cases hm : mayT r = true
        · rw [if_pos ⟨hl, hm⟩, if_pos ⟨hm, by omega⟩]
        · rw [if_neg (fun h => hm h.2), if_neg (fun h => hm h.1)]
      · rw [← bad h1, if_neg (by rw [hm]; simp)]
    · rw [← bad (h2 hl), if_neg (fun h => hl h.1)]
  have sur : ∀ r : Int, (55296 ≤ r ∧ r ≤ 57343) ∨ 1114111 < r → mayT r = false := by
    intro r h
    unfold mayT
    rcases h with h | h
    · simp [h.1, h.2]
    · simp [h]
  by_cases c240 : bt x 0 ≥ 240
  · rw [if_pos c240]
    simp only [fairwayref1_point.j0]
    by_cases c248 : bt x 0 < 248
    · rw [if_pos (by simpa using c248), w64 (by omega) (by omega)]
      simp only [fairwayref1_point.j3]
      have hdN := dN_4 x.size b0 b1 b2 b3 (by omega) (by omega)
      by_cases hs : (x.size : Int) < 4
      · rw [if_pos hs]
        exact bad (by rw [hdN, if_neg (by omega)])
      · have g1 := g1 (by omega); have g2 := g2 (by omega); have g3 := g3 (by omega)
        rw [if_neg hs, point_step _ x 4 65536 _ 1 (by omega) (by omega) (by omega) (by omega) (by omega) (by omega)]
        by_cases e1 : 128 ≤ bt x 1 ∧ bt x 1 < 192
        · rw [if_pos e1, show (1 : Int) + 1 = 2 from rfl, point_step _ x 4 65536 _ 2 (by omega) (by omega) (by omega) (by omega) (by omega) (by omega)]
          by_cases e2 : 128 ≤ bt x 2 ∧ bt x 2 < 192
          · rw [if_pos e2, show (2 : Int) + 1 = 3 from rfl, point_step _ x 4 65536 _ 3 (by omega) (by omega) (by omega) (by omega) (by omega) (by omega)]
            by_cases e3 : 128 ≤ bt x 3 ∧ bt x 3 < 192
            · rw [if_pos e3, show (3 : Int) + 1 = 4 from rfl, point_tail _ x 4 65536 _ (by omega) (by omega)]
              refine fine _ 4 65536 (fun hl => ?_) (fun hl => ?_) (by omega) (.inl (by decide))
              · by_cases hv : b0 % 8 * 262144 + b1 % 64 * 4096 + b2 % 64 * 64 + b3 % 64 < 55296 ∨ (57344 ≤ b0 % 8 * 262144 + b1 % 64 * 4096 + b2 % 64 * 64 + b3 % 64 ∧ b0 % 8 * 262144 + b1 % 64 * 4096 + b2 % 64 * 64 + b3 % 64 ≤ 1114111)
                · left
                  rw [hdN, if_pos (by omega), if_pos ⟨by omega, hv⟩]
                  refine Prod.ext ?_ rfl
                  show b0 % 8 * 262144 + b1 % 64 * 4096 + b2 % 64 * 64 + b3 % 64 = _
                  omega
                · right
                  exact ⟨sur _ (by omega), by rw [hdN, if_pos (by omega), if_neg (fun h => hv h.2)]⟩
              · rw [hdN, if_pos (by omega), if_neg (by omega)]
            · rw [if_neg e3]; exact bad (by rw [hdN, if_neg (by omega)])
          · rw [if_neg e2]; exact bad (by rw [hdN, if_neg (by omega)])
        · rw [if_neg e1]; exact bad (by rw [hdN, if_neg (by omega)])
    · rw [if_neg (by simpa using c248), if_pos (by omega)]
      simp only [fairwayref1_point.j1]
      rw [if_neg (by simp; omega), if_pos (by omega)]
      simp only [fairwayref1_point.j2]
      rw [if_neg (by simp; omega), if_pos (by omega)]
      exact bad (dN_no x.size b0 b1 b2 b3 (by omega))
  · rw [if_neg c240]
    simp only [fairwayref1_point.j0]
    rw [if_neg (by simp)]
    by_cases c224 : bt x 0 ≥ 224
    · rw [if_pos c224]
      simp only [fairwayref1_point.j1]
      rw [if_pos (by simp; omega), w64 (by omega) (by omega)]
      simp only [fairwayref1_point.j3]
      have hdN := dN_3 x.size b0 b1 b2 b3 (by omega) (by omega)
      by_cases hs : (x.size : Int) < 3
      · rw [if_pos hs]
        exact bad (by rw [hdN, if_neg (by omega)])
      · have g1 := g1 (by omega); have g2 := g2 (by omega)
        rw [if_neg hs, point_step _ x 3 2048 _ 1 (by omega) (by omega) (by omega) (by omega) (by omega) (by omega)]
        by_cases e1 : 128 ≤ bt x 1 ∧ bt x 1 < 192
        · rw [if_pos e1, show (1 : Int) + 1 = 2 from rfl, point_step _ x 3 2048 _ 2 (by omega) (by omega) (by omega) (by omega) (by omega) (by omega)]
          by_cases e2 : 128 ≤ bt x 2 ∧ bt x 2 < 192
          · rw [if_pos e2, show (2 : Int) + 1 = 3 from rfl, point_tail _ x 3 2048 _ (by omega) (by omega)]
            refine fine _ 3 2048 (fun hl => ?_) (fun hl => ?_) (by omega) (.inl (by decide))
            · by_cases hv : b0 % 16 * 4096 + b1 % 64 * 64 + b2 % 64 < 55296 ∨ (57344 ≤ b0 % 16 * 4096 + b1 % 64 * 64 + b2 % 64 ∧ b0 % 16 * 4096 + b1 % 64 * 64 + b2 % 64 ≤ 1114111)
              · left
                rw [hdN, if_pos (by omega), if_pos ⟨by omega, hv⟩]
                refine Prod.ext ?_ rfl
                show b0 % 16 * 4096 + b1 % 64 * 64 + b2 % 64 = _
                omega
              · right
                exact ⟨sur _ (by omega), by rw [hdN, if_pos (by omega), if_neg (fun h => hv h.2)]⟩
            · rw [hdN, if_pos (by omega), if_neg (by omega)]
          · rw [if_neg e2]; exact bad (by rw [hdN, if_neg (by omega)])
        · rw [if_neg e1]; exact bad (by rw [hdN, if_neg (by omega)])
    · rw [if_neg c224]
      simp only [fairwayref1_point.j1]
      rw [if_neg (by simp)]
      by_cases c192 : bt x 0 ≥ 192
      · rw [if_pos c192]
        simp only [fairwayref1_point.j2]
        rw [if_pos (by simp; omega), w64 (by omega) (by omega)]
        simp only [fairwayref1_point.j3]
        have hdN := dN_2 x.size b0 b1 b2 b3 (by omega) (by omega)
        by_cases hs : (x.size : Int) < 2
        · rw [if_pos hs]
          exact bad (by rw [hdN, if_neg (by omega)])
        · have g1 := g1 (by omega)
          rw [if_neg hs, point_step _ x 2 128 _ 1 (by omega) (by omega) (by omega) (by omega) (by omega) (by omega)]
          by_cases e1 : 128 ≤ bt x 1 ∧ bt x 1 < 192
          · rw [if_pos e1, show (1 : Int) + 1 = 2 from rfl, point_tail _ x 2 128 _ (by omega) (by omega)]
            refine fine _ 2 128 (fun hl => .inl ?_) (fun hl => ?_) (by omega) (.inl (by decide))
            · rw [hdN, if_pos (by omega), if_pos (by omega)]
              refine Prod.ext ?_ rfl
              show b0 % 32 * 64 + b1 % 64 = _
              omega
            · rw [hdN, if_pos (by omega), if_neg (by omega)]
          · rw [if_neg e1]; exact bad (by rw [hdN, if_neg (by omega)])
      · rw [if_neg c192]
        simp only [fairwayref1_point.j2]
        rw [if_neg (by simp)]
        by_cases c128 : bt x 0 ≥ 128
        · rw [if_pos c128]
          exact bad (dN_no x.size b0 b1 b2 b3 (by omega))
        · rw [if_neg c128]
          simp only [fairwayref1_point.j3]
          rw [if_neg (by omega), point_tail _ x 1 0 _ (by omega) (by omega)]
          refine fine _ 1 0 (fun hl => .inl ?_) (fun hl => by omega) (by omega) (.inr (by omega))
          rw [dN_1 x.size b0 b1 b2 b3 (by omega)]
          refine Prod.ext ?_ rfl
          show b0 = _
          omega
theorem get_extract (s : ByteArray) (p j : Nat) : (s.extract p s.size).get! j = s.get! (p + j) := by
  by_cases h : p + j < s.size
  · have hs : (s.extract p s.size).size = s.size - p := extract_size s (by omega) (Nat.le_refl _)
    have a := bt_get (s.extract p s.size) j (by omega)
    have b := bt_get s (p + j) h
    have c : bt (s.extract p s.size) j = bt s ((p + j : Nat) : Int) := by
      rw [bt_list _ j (by omega), bt_list _ (p + j) h]
      simp only [bytesOf_extract, List.extract_eq_take_drop]
      rw [List.getElem_take, List.getElem_drop]
    rw [c, b] at a
    exact UInt8.toNat_inj.1 (by exact_mod_cast a.symm)
  · have e1 : s.get! (p + j) = default := by
      show s.data[p + j]! = default
      exact getElem!_neg s.data (p + j) (by show ¬ p + j < s.size; omega)
    have e2 : (s.extract p s.size).get! j = default := by
      show (s.extract p s.size).data[j]! = default
      refine getElem!_neg _ j ?_
      show ¬ j < (s.extract p s.size).size
      rw [← bytesOf_len, bytesOf_extract, List.extract_eq_take_drop, List.length_take, List.length_drop, bytesOf_len]
      omega
    rw [e1, e2]
theorem decode_extract (s : ByteArray) (p : Nat) (hp : p ≤ s.size) : Utf8.decode (s.extract p s.size) 0 = Utf8.decode s p := by
  rw [Go.Lib.decode_at, Go.Lib.decode_at]
  simp only [get_extract, Nat.zero_add, Nat.add_zero, Nat.sub_zero]
  rw [extract_size s hp (Nat.le_refl _)]
theorem extract_twice (s : ByteArray) (p n : Nat) (hp : p ≤ s.size) : (s.extract p s.size).extract n (s.extract p s.size).size = s.extract (p + n) s.size := bytesOf_inj (by
  rw [extract_size s hp (Nat.le_refl _)]
  simp only [bytesOf_extract, List.extract_eq_take_drop]
  rw [List.drop_take, List.drop_drop, List.take_take]
  congr 1
  omega)
theorem text_loop (s : ByteArray) (d : Nat) : ∀ p f : Nat, p ≤ s.size → s.size - p ≤ d → s.size - p ≤ f → Ev (fun k => fairwayref1_Text.l0 k (s.extract p s.size)) (chk s f p) := by
  induction d with
  | zero =>
    intro p f hp hd hf
    refine ⟨1, fun k hk => ?_⟩
    obtain ⟨k, rfl⟩ : ∃ m, k = m + 1 := ⟨k - 1, by omega⟩
    simp only [fairwayref1_Text.l0]
    rw [if_neg (by rw [extract_size s hp (Nat.le_refl _)]; omega), chk_end s f p (by omega)]
  | succ d ih =>
    intro p f hp hd hf
    by_cases he : s.size ≤ p
    · exact ih p f hp (by omega) hf
    · have hs : (s.extract p s.size).size = s.size - p := extract_size s hp (Nat.le_refl _)
      obtain ⟨K, h⟩ := point_ev (s.extract p s.size) (by omega)
      dsimp only at h
      have hdx := decode_extract s p hp
      have hw : wholeT s p = decide (((Utf8.decode s p).2 : Int) > 1) := by
        unfold wholeT Go.Lib.decodeGo
        rw [if_neg (by omega), hdx]
      have hwd := width_pos s p (by omega)
      have hle := decode_le s p
      obtain ⟨f, rfl⟩ : ∃ m, f = m + 1 := ⟨f - 1, by omega⟩
      unfold pt at h
      rw [hdx] at h
      have hchk : chk s (f + 1) p = if mayT (Utf8.decode s p).1 = true ∧ ¬ (((Utf8.decode s p).1 : Int) = 65533 ∧ ¬ (((Utf8.decode s p).2 : Int) > 1)) then chk s f (p + (Utf8.decode s p).2) else 8 := by
        simp only [chk, show p < s.size by omega, if_true]
        by_cases hm : mayT (Utf8.decode s p).1 = true
        · rw [if_pos hm, hw]
          by_cases h5 : ((Utf8.decode s p).1 : Int) = 65533
          · by_cases h1 : ((Utf8.decode s p).2 : Int) > 1
            · rw [if_neg (by simp [h1]), if_pos ⟨hm, fun h => h.2 h1⟩]
            · rw [if_pos ⟨h5, by simpa using h1⟩, if_neg (fun h => h.2 ⟨h5, h1⟩)]
          · rw [if_neg (fun h => h5 h.1), if_pos ⟨hm, fun h => h5 h.1⟩]
        · rw [if_neg hm, if_neg (fun h => hm h.1)]
      rw [hchk]
      by_cases hok : mayT (Utf8.decode s p).1 = true ∧ ¬ (((Utf8.decode s p).1 : Int) = 65533 ∧ ¬ (((Utf8.decode s p).2 : Int) > 1))
      · rw [if_pos hok]
        rw [if_pos hok] at h
        have hle2 : p + (Utf8.decode s p).2 ≤ s.size := by
          have hw2 := decode_width (s.extract p s.size) (by omega)
          rw [hdx, hs] at hw2
          omega
        obtain ⟨K2, h2⟩ := ih (p + (Utf8.decode s p).2) f hle2 (by omega) (by omega)
        dsimp only at h2
        refine ⟨K + K2 + 1, fun k hk => ?_⟩
        obtain ⟨k, rfl⟩ : ∃ m, k = m + 1 := ⟨k - 1, by omega⟩
        simp only [fairwayref1_Text.l0]
        rw [if_pos (by omega), h k (by omega)]
        simp only [Option.bind_some]
        rw [if_neg (by omega), if_pos (by omega), if_pos (by omega), Int.toNat_natCast, extract_twice s p _ hp]
        exact h2 k (by omega)
      · rw [if_neg hok]
        rw [if_neg hok] at h
        refine ⟨K + 1, fun k hk => ?_⟩
        obtain ⟨k, rfl⟩ : ∃ m, k = m + 1 := ⟨k - 1, by omega⟩
        simp only [fairwayref1_Text.l0]
        rw [if_pos (by omega), h k (by omega)]
        simp
theorem text_ev (s : ByteArray) : Ev (fun k => fairwayref1_Text.f k s) (checkT s) := by
  by_cases hs : s.size > 1024
  · refine ⟨0, fun k hk => ?_⟩
    dsimp only
    unfold fairwayref1_Text.f checkT
    rw [if_pos (by omega), if_pos hs]
  · obtain ⟨K, h⟩ := text_loop s s.size 0 s.size (by omega) (by omega) (by omega)
    refine ⟨K, fun k hk => ?_⟩
    dsimp only at h ⊢
    unfold fairwayref1_Text.f checkT
    rw [if_neg (by omega), if_neg hs, ← h k hk, extract_all]
def longT (s : ByteArray) (text : Bool) : ByteArray × Int :=
  if text = true then (if checkT s = 0 then (two s.size ++ s, 0) else ((⟨#[]⟩ : ByteArray), checkT s)) else (if (s.size : Int) > 1024 then ((⟨#[]⟩ : ByteArray), 2) else (two s.size ++ s, 0))
def takeT (s : ByteArray) (text : Bool) : ByteArray × Int × Int :=
  if (tbin s).2.2 = 0 then (if text = true then (if checkT (tbin s).1 = 0 then tbin s else ((⟨#[]⟩ : ByteArray), 0, checkT (tbin s).1)) else tbin s) else tbin s
theorem check_small {s : ByteArray} (h : checkT s = 0) : ¬ (s.size : Int) > 1024 := by
  intro h2
  unfold checkT at h
  rw [if_pos (by omega)] at h
  cases h
theorem vtext_ev (s : ByteArray) : Ev (fun k => vbi_Text.f k s) (longT s true) := by
  obtain ⟨K, h⟩ := bin_ev s
  refine ⟨K, fun k hk => ?_⟩
  dsimp only at h ⊢
  unfold vbi_Text.f longT text_Check.f
  simp only [Option.bind_some, if_true]
  by_cases hc : checkT s = 0
  · rw [if_pos hc, if_pos hc, h k hk, if_neg (check_small hc)]
    rfl
  · rw [if_neg hc, if_neg hc]
end Go.Proofs.YtiancopplinpcaaDoor.P
end
section
namespace Go.Proofs.YtiancopplinpcaaDoor.P
open Go.RowKit Go.Proofs.YtiancopplinpcaaDoorW.PrintWords Go.Proofs.YtiancopplinpcaaDoorW.PrintLast Go.Proofs.YtiancopplinpcaaDoorW.PrintMore
set_option linter.unusedSimpArgs false
set_option linter.unusedVariables false
def mostK (k : Int) : Int := if k = 1 then 1 else if k = 2 then 65535 else if k = 3 then 4294967295 else 268435455
def okP (a n : Int) (s v : ByteArray) : Bool :=
  if kindOf a = 0 then false
  else if kindOf a ≤ 4 then decide (¬ ((a = 33 ∨ a = 35 ∨ a = 39 ∨ a = 11) ∧ n = 0) ∧ 0 ≤ n ∧ n ≤ mostK (kindOf a) ∧ s.toList = [] ∧ v.toList = [])
  else if kindOf a = 5 then decide (n = 0 ∧ v.toList = [] ∧ checkT s = 0)
  else if kindOf a = 6 then decide (n = 0 ∧ v.toList = [] ∧ (s.size : Int) ≤ 1024)
  else decide (n = 0 ∧ checkT s = 0 ∧ checkT v = 0)
theorem kind_cases (a : Int) : kindOf a = 0 ∨ kindOf a = 1 ∨ kindOf a = 2 ∨ kindOf a = 3 ∨ kindOf a = 4 ∨ kindOf a = 5 ∨ kindOf a = 6 ∨ kindOf a = 7 := by
  have := kindOf_range a
  omega
set_option maxHeartbeats 1000000 in
theorem refFits_ev (a n : Int) (s v : ByteArray) : Ev (fun k => fairwayref4_fits.f k a n s v) (okP a n s v) := by
  obtain ⟨K0, h0⟩ := refKind_ev a
  obtain ⟨K1, h1⟩ := text_ev s
  obtain ⟨K2, h2⟩ := text_ev v
  refine ⟨K0 + K1 + K2 + 1, fun k hk => ?_⟩
  obtain ⟨k, rfl⟩ : ∃ m, k = m + 1 := ⟨k - 1, by omega⟩
  have e0 := h0 (k + 1) (by omega)
  have e1 := h1 k (by omega)
  have e2 := h2 k (by omega)
  dsimp only at e0 e1 e2 ⊢
  have hc := kind_cases a
  unfold fairwayref4_fits.f okP
  rw [e0]
  simp only [Option.bind_some]
  generalize kindOf a = kd at hc
  have num : ∀ m : Int, fairwayref0_Num.f n m = some (decide (0 ≤ n ∧ n ≤ m)) := by
    intro m
    unfold fairwayref0_Num.f
    by_cases h : n ≥ 0
    · rw [if_pos h]; simp [show 0 ≤ n from h]
    · rw [if_neg h]; simp [show ¬ 0 ≤ n from h]
  have low : ∀ m : Int, 1 ≤ kd → kd ≤ 4 → rd [0, 1, 65535, 4294967295, 268435455] kd = m → fairwayref4_fits.j0 (k + 1) kd kd true a n s v = some (decide (¬ ((a = 33 ∨ a = 35 ∨ a = 39 ∨ a = 11) ∧ n = 0) ∧ 0 ≤ n ∧ n ≤ m ∧ s.toList = [] ∧ v.toList = [])) := by
    intro m hl hh hm
    simp only [fairwayref4_fits.j0, if_true, Option.bind_some, List.length_cons, List.length_nil, num, hm]
    rw [if_pos (by omega), if_pos (by omega)]
    have hX : ((some (decide (0 ≤ n ∧ n ≤ m))).bind fun t => if t = true then (if s.toList = ([] : List UInt8) then some (v.toList == ([] : List UInt8)) else some false) else some false) = some (decide (0 ≤ n ∧ n ≤ m ∧ s.toList = [] ∧ v.toList = [])) := by
      by_cases x6 : 0 ≤ n ∧ n ≤ m <;> by_cases x7 : s.toList = [] <;> by_cases x8 : v.toList = [] <;> simp [x6, x7, x8, List.beq_nil_eq]
      all_goals first | (exact fun h => absurd h x6) | (intro h1 h2; exact absurd ⟨h1, h2⟩ x6) | skip
    simp only [Option.bind_some] at hX ⊢
    rw [hX]
    by_cases x5 : n = 0 <;> by_cases x1 : a = 33 <;> by_cases x2 : a = 35 <;> by_cases x3 : a = 39 <;> by_cases x4 : a = 11 <;> simp [x1, x2, x3, x4, x5]
  have e3 : (v.toList == ([] : List UInt8)) = decide (v.toList = []) := by
    by_cases h : v.toList = [] <;> simp [h]
  rcases hc with rfl | rfl | rfl | rfl | rfl | rfl | rfl | rfl
  · simp [fairwayref4_fits.j0]
  · simpa [mostK] using low 1 (by omega) (by omega) rfl
  · simpa [mostK] using low 65535 (by omega) (by omega) rfl
  · simpa [mostK] using low 4294967295 (by omega) (by omega) rfl
  · simpa [mostK] using low 268435455 (by omega) (by omega) rfl
  · by_cases x1 : n = 0 <;> by_cases x2 : v.toList = [] <;> simp [fairwayref4_fits.j0, x1, x2, e1]
    rfl
  · by_cases x1 : n = 0 <;> by_cases x2 : v.toList = [] <;> simp [fairwayref4_fits.j0, x1, x2]
  · by_cases x1 : n = 0 <;> by_cases x2 : checkT s = 0 <;> simp [fairwayref4_fits.j0, x1, x2, e1, e2]
    rfl
def againP (p a : Int) (l : List S42) : Bool := if a = 38 ∨ a = 11 ∧ p = 3 then false else l.any fun x => x.f0 == a
theorem twice_loop (a : Int) (l : List S42) (hl : l.length ≤ 100000) (d : Nat) : ∀ (i k : Nat), l.length - i = d → d < k → fairwayref4_twice.l0 k a l (i : Int) = some ((l.drop i).any fun x => x.f0 == a) := by
  induction d with
  | zero =>
    intro i k hd hk
    obtain ⟨k, rfl⟩ : ∃ m, k = m + 1 := ⟨k - 1, by omega⟩
    simp only [fairwayref4_twice.l0]
    rw [if_neg (by omega), List.drop_of_length_le (by omega)]
    rfl
  | succ d ih =>
    intro i k hd hk
    obtain ⟨k, rfl⟩ : ∃ m, k = m + 1 := ⟨k - 1, by omega⟩
    have hi : i < l.length := by omega
    have hrd : rd_T42 l (i : Int) = l[i] := by simp [rd_T42, hi]
    rw [List.drop_eq_getElem_cons hi]
    simp only [fairwayref4_twice.l0]
    rw [if_pos (by omega), if_pos (by omega), hrd, w64 (by omega) (by omega)]
    by_cases h : l[i].f0 = a
    · rw [if_pos h, List.any_cons, beq_iff_eq.2 h, Bool.true_or]
    · rw [if_neg h, show ((i : Int) + 1) = ((i + 1 : Nat) : Int) by omega, ih (i + 1) k (by omega) (by omega), List.any_cons, beq_eq_false_iff_ne.2 h, Bool.false_or]
theorem refTwice_ev (p a : Int) (l : List S42) (hl : l.length ≤ 100000) : Ev (fun k => fairwayref4_twice.f k p a l) (againP p a l) := by
  refine ⟨l.length + 3, fun k hk => ?_⟩
  obtain ⟨k, rfl⟩ : ∃ m, k = m + 1 := ⟨k - 1, by omega⟩
  have h := twice_loop a l hl l.length 0 k (by omega) (by omega)
  rw [List.drop_zero] at h
  dsimp only
  unfold fairwayref4_twice.f againP
  by_cases x1 : a = 38
  · simp [x1, fairwayref4_twice.j0]
  · by_cases x2 : a = 11
    · by_cases x3 : p = 3
      · simp [x1, x2, x3, fairwayref4_twice.j0]
      · simp [x1, x2, x3, fairwayref4_twice.j0]
        rw [x2] at h
        simpa using h
    · simp [x1, x2, fairwayref4_twice.j0]
      simpa using h
def valT (a n : Int) (s v : ByteArray) : AnyV × Bool :=
  if kindOf a < 5 ∧ s.toList = [] ∧ v.toList = [] then (AnyV.num n, decide (kindOf a > 0))
  else if n ≠ 0 ∨ kindOf a < 5 ∨ kindOf a ≠ 7 ∧ v.toList ≠ [] then (AnyV.no, false)
  else if kindOf a = 7 then (AnyV.two s v, true) else (AnyV.str s, true)
theorem value_ev (a n : Int) (s v : ByteArray) : Ev (fun k => prop_value.f k a n s v) (valT a n s v) := by
  obtain ⟨K0, h0⟩ := kind_ev a
  refine ⟨K0 + 3, fun k hk => ?_⟩
  obtain ⟨k, rfl⟩ : ∃ m, k = m + 2 := ⟨k - 2, by omega⟩
  have e0 := h0 (k + 2) (by omega)
  dsimp only at e0 ⊢
  have hc := kind_cases a
  unfold prop_value.f valT
  rw [e0]
  simp only [Option.bind_some]
  generalize kindOf a = kd at hc
  have e3 : (v.toList == ([] : List UInt8)) = decide (v.toList = []) := by
    by_cases h : v.toList = [] <;> simp [h]
  rcases hc with rfl | rfl | rfl | rfl | rfl | rfl | rfl | rfl <;> by_cases x1 : n = 0 <;> by_cases x2 : s.toList = [] <;> by_cases x3 : v.toList = [] <;> simp [prop_value.j0, prop_value.j1, x1, x2, x3]
def fitsP (p : Int) (l : List S42) (a n : Int) : Bool :=
  decide (a ∈ placeL p ∧ ¬ (kindOf a = 1 ∧ n > 1) ∧ ¬ ((a = 33 ∨ a = 35 ∨ a = 39 ∨ a = 11) ∧ n = 0)) && !againP p a l
theorem fits_ev (p : Int) (l : List S42) (a n : Int) (s v : ByteArray) : Ev (fun k => prop_fits.f k p l a n s v) (fitsP p l a n) := by
  obtain ⟨K0, h0⟩ := kind_ev a
  obtain ⟨K1, h1⟩ := stands_ev p
  obtain ⟨K2, h2⟩ := contains_ev (placeL p) a (by have := placeL_len p; omega)
  refine ⟨K0 + K1 + K2, fun k hk => ?_⟩
  have e0 := h0 k (by omega)
  have e1 := h1 k (by omega)
  have e2 := h2 k (by omega)
  dsimp only at e0 e1 e2 ⊢
  unfold prop_fits.f fitsP againP
  rw [e0, e1]
  simp only [Option.bind_some]
  rw [e2, nought_is]
  simp only [Option.bind_some]
  generalize kindOf a = kd
  by_cases x1 : a ∈ placeL p
  · by_cases x2 : kd = 1 ∧ n > 1
    · simp [x1, x2]
    · by_cases x3 : (a = 33 ∨ a = 35 ∨ a = 39 ∨ a = 11) ∧ n = 0
      · rw [if_pos (by simpa using x1), if_neg x2, if_pos (by simpa using x3)]
        simp [x3]
      · rw [if_pos (by simpa using x1), if_neg x2, if_neg (by simpa using x3), decide_eq_true ⟨x1, x2, x3⟩, Bool.true_and]
        by_cases x4 : a = 38
        · simp [x4]
        · by_cases x5 : a = 11 ∧ p = 3
          · simp [x4, x5]
          · rw [if_neg x4, if_neg x5, if_neg (by rintro (h | h); exact x4 h; exact x5 h)]
  · simp [x1]
def bodyP (a n : Int) (s v : ByteArray) : ByteArray :=
  if kindOf a = 1 then strOfNums [n % 256] else if kindOf a = 2 then two n else if kindOf a = 3 then four n else if kindOf a = 4 then numOf n
  else if kindOf a = 5 ∨ kindOf a = 6 then two s.size ++ s else (two s.size ++ s) ++ (two v.size ++ v)
theorem checkT_pos (s : ByteArray) : 0 ≤ checkT s := by
  unfold checkT
  split
  · omega
  · generalize s.size = f at *
    have : ∀ f p, 0 ≤ chk s f p := by
      intro f
      induction f with
      | zero => intro p; unfold chk; omega
      | succ f ih => intro p; unfold chk; repeat' split
                     all_goals first | omega | exact ih _
    exact this _ _
theorem laid_ev (a n : Int) (s v : ByteArray) (hv : (valT a n s v).2 = true) (hn : ¬ (kindOf a = 1 ∧ n > 1)) (h0 : ¬ ((a = 33 ∨ a = 35 ∨ a = 39 ∨ a = 11) ∧ n = 0)) :
    ∃ b e, Ev (fun k => prop_laid.f k (kindOf a) (valT a n s v).1) (b, e) ∧ (e = 0 ↔ okP a n s v = true) ∧ (e = 0 → b = bodyP a n s v) := by
  have hc := kind_cases a
  unfold valT at hv ⊢
  unfold okP bodyP
  generalize kindOf a = kd at hc hv hn ⊢
  by_cases x1 : kd < 5 ∧ s.toList = [] ∧ v.toList = []
  · rw [if_pos x1] at hv ⊢
    have hp : kd > 0 := by simpa using hv
    dsimp only
    rcases hc with rfl | rfl | rfl | rfl | rfl | rfl | rfl | rfl
    · omega
    · have hn1 : n ≤ 1 := by omega
      by_cases hz : n < 0
      · refine ⟨strOfNums [n % 256], 2, Ev.of (prop_laid.mono _ _) (k := 0) (by simp [prop_laid.f, prop_within.f, hz]), ?_, ?_⟩
        · simp [mostK, x1]; intros; omega
        · simp
      · refine ⟨strOfNums [n % 256], 0, Ev.of (prop_laid.mono _ _) (k := 0) (by simp [prop_laid.f, prop_within.f, hz, show ¬ n > 255 by omega]), ?_, ?_⟩
        · simp [mostK, x1, show 0 ≤ n by omega, show n ≤ 1 by omega]; omega
        · simp
    · have ⟨K, hK⟩ := two_ev n
      by_cases h : 0 ≤ n ∧ n ≤ 65535
      · rw [if_pos h] at hK
        refine ⟨_, _, ⟨K, fun k hk => by have := hK k hk; simpa [prop_laid.f] using this⟩, ?_, ?_⟩
        · simp [mostK, x1, h]; omega
        · simp
      · rw [if_neg h] at hK
        refine ⟨_, _, ⟨K, fun k hk => by have := hK k hk; simpa [prop_laid.f] using this⟩, ?_, ?_⟩
        · simp [mostK, x1]; intros; omega
        · simp
    · have ⟨K, hK⟩ := four_ev n
      by_cases h : 0 ≤ n ∧ n ≤ 4294967295
      · rw [if_pos h] at hK
        refine ⟨_, _, ⟨K, fun k hk => by have := hK k hk; simpa [prop_laid.f] using this⟩, ?_, ?_⟩
        · simp [mostK, x1, h]; omega
        · simp
      · rw [if_neg h] at hK
        refine ⟨_, _, ⟨K, fun k hk => by have := hK k hk; simpa [prop_laid.f] using this⟩, ?_, ?_⟩
        · simp [mostK, x1]; intros; omega
        · simp
    · by_cases h : 0 ≤ n ∧ n ≤ 268435455
      · have ⟨K, hK⟩ := num_ok h.1 h.2
        refine ⟨_, _, ⟨K, fun k hk => by have := hK k hk; simpa [prop_laid.f] using this⟩, ?_, ?_⟩
        · simp [mostK, x1, h]; omega
        · simp
      · have ⟨K, hK⟩ := num_no (n := n) (by omega)
        refine ⟨_, _, ⟨K, fun k hk => by have := hK k hk; simpa [prop_laid.f] using this⟩, ?_, ?_⟩
        · simp [mostK, x1]; intros; omega
        · simp
    · omega
    · omega
    · omega
  · rw [if_neg x1] at hv ⊢
    by_cases x2 : n ≠ 0 ∨ kd < 5 ∨ kd ≠ 7 ∧ v.toList ≠ []
    · rw [if_pos x2] at hv
      simp at hv
    · rw [if_neg x2] at hv ⊢
      have hn0 : n = 0 := by omega
      have t1 := vtext_ev s
      have t2 := vtext_ev v
      have b1 := bin_ev s
      unfold longT at t1 t2
      rw [if_pos rfl] at t1 t2
      rcases hc with rfl | rfl | rfl | rfl | rfl | rfl | rfl | rfl
      · omega
      · omega
      · omega
      · omega
      · omega
      · have hv0 : v.toList = [] := (show n = 0 ∧ v.toList = [] by simpa using x2).2
        have ⟨K, hK⟩ := t1
        by_cases h : checkT s = 0
        · rw [if_pos h] at hK
          exact ⟨_, _, ⟨K, fun k hk => by have := hK k hk; simpa [prop_laid.f] using this⟩, by simp [hn0, hv0, h], by simp⟩
        · rw [if_neg h] at hK
          exact ⟨_, _, ⟨K, fun k hk => by have := hK k hk; simpa [prop_laid.f] using this⟩, by simp [hn0, hv0, h], by simp [h]⟩
      · have hv0 : v.toList = [] := (show n = 0 ∧ v.toList = [] by simpa using x2).2
        have ⟨K, hK⟩ := b1
        by_cases h : (s.size : Int) > 1024
        · rw [if_pos h] at hK
          exact ⟨_, _, ⟨K, fun k hk => by have := hK k hk; simpa [prop_laid.f] using this⟩, by simp [hn0, hv0]; omega, by simp⟩
        · rw [if_neg h] at hK
          exact ⟨_, _, ⟨K, fun k hk => by have := hK k hk; simpa [prop_laid.f] using this⟩, by simp [hn0, hv0]; omega, by simp⟩
      · obtain ⟨K1, h1⟩ := t1
        obtain ⟨K2, h2⟩ := t2
        have p1 := checkT_pos s
        have p2 := checkT_pos v
        have z1 : (if checkT s = 0 then (two s.size ++ s, (0 : Int)) else ((⟨#[]⟩ : ByteArray), checkT s)).1.size ≤ 2000 := by
          split
          · rename_i h
            have := check_small h
            rw [app_size, two_size]; omega
          · exact Nat.zero_le _
        have z2 : (if checkT v = 0 then (two v.size ++ v, (0 : Int)) else ((⟨#[]⟩ : ByteArray), checkT v)).1.size ≤ 2000 := by
          split
          · rename_i h
            have := check_small h
            rw [app_size, two_size]; omega
          · exact Nat.zero_le _
        refine ⟨_, _, ⟨K1 + K2, fun k hk => by
          have a1 := h1 k (by omega)
          have a2 := h2 k (by omega)
          dsimp only at a1 a2 ⊢
          simp only [prop_laid.f, if_true]
          rw [if_neg (by omega), a1, a2]
          simp only [Option.bind_some]
          rw [if_pos (by omega)]⟩, ?_, ?_⟩
        · by_cases h : checkT s = 0 <;> by_cases h' : checkT v = 0 <;> simp [hn0, h, h', mx] <;> omega
        · by_cases h : checkT s = 0 <;> by_cases h' : checkT v = 0 <;> simp [h, h', mx] <;> omega
theorem value_no {a n : Int} {s v : ByteArray} (h : (valT a n s v).2 = false) : okP a n s v = false := by
  have hc := kind_cases a
  unfold valT at h
  unfold okP
  generalize kindOf a = kd at hc h ⊢
  by_cases x1 : kd < 5 ∧ s.toList = [] ∧ v.toList = []
  · rw [if_pos x1] at h
    have : ¬ kd > 0 := by simpa using h
    rw [if_pos (by omega)]
  · rw [if_neg x1] at h
    by_cases x2 : n ≠ 0 ∨ kd < 5 ∨ kd ≠ 7 ∧ v.toList ≠ []
    · rcases hc with rfl | rfl | rfl | rfl | rfl | rfl | rfl | rfl <;> simp at x1 x2 ⊢ <;> intros <;> first | (simp_all; done) | omega
    · rw [if_neg x2] at h
      by_cases x3 : kd = 7 <;> simp [x3] at h
def stepP (p : Int) (l : List S42) (a n : Int) (s v : ByteArray) : Bool := okP a n s v && decide (a ∈ placeL p) && !againP p a l
theorem nought_kind {a : Int} (h : a = 33 ∨ a = 35 ∨ a = 39 ∨ a = 11) : kindOf a = 2 ∨ kindOf a = 3 ∨ kindOf a = 4 := by
  rcases h with rfl | rfl | rfl | rfl <;> decide
theorem fits_no {p : Int} {l : List S42} {a n : Int} {s v : ByteArray} (h : fitsP p l a n = false) : stepP p l a n s v = false := by
  unfold fitsP at h
  unfold stepP
  by_cases x1 : a ∈ placeL p
  · by_cases x2 : kindOf a = 1 ∧ n > 1
    · have : okP a n s v = false := by
        unfold okP
        simp [x2.1, mostK]
        intros; omega
      rw [this]; rfl
    · by_cases x3 : (a = 33 ∨ a = 35 ∨ a = 39 ∨ a = 11) ∧ n = 0
      · have : okP a n s v = false := by
          unfold okP
          have hk := nought_kind x3.1
          rw [if_neg (by omega), if_pos (by omega)]
          exact decide_eq_false fun h => h.1 x3
        rw [this]; rfl
      · rw [decide_eq_true ⟨x1, x2, x3⟩, Bool.true_and] at h
        rw [h, Bool.and_false]
  · rw [decide_eq_false x1]; simp
theorem fits_yes {p : Int} {l : List S42} {a n : Int} {s v : ByteArray} (h : fitsP p l a n = true) : stepP p l a n s v = okP a n s v ∧ ¬ (kindOf a = 1 ∧ n > 1) ∧ ¬ ((a = 33 ∨ a = 35 ∨ a = 39 ∨ a = 11) ∧ n = 0) := by
  unfold fitsP at h
  rw [Bool.and_eq_true, decide_eq_true_eq] at h
  unfold stepP
  rw [decide_eq_true h.1.1, h.2, Bool.and_true, Bool.and_true]
  exact ⟨rfl, h.1.2⟩
theorem vb_len5 (n : Nat) (h : n ≤ 268435455) : (vb n).length ≤ 4 := vb_len (d := 4) (by omega) (by omega)
theorem str_size (l : List Int) : (strOfNums l).size = l.length := by simp [strOfNums, ByteArray.size]
theorem body_size {a n : Int} {s v : ByteArray} (h : okP a n s v = true) : (bodyP a n s v).size ≤ 2100 := by
  have hc := kind_cases a
  unfold okP at h
  unfold bodyP
  generalize kindOf a = kd at hc h ⊢
  rcases hc with rfl | rfl | rfl | rfl | rfl | rfl | rfl | rfl
  · simp at h
  · simp [str_size]
  · simp [two_size]
  · simp [four, str_size]
  · simp [mostK] at h
    simp [numOf_size]
    have := vb_len5 n.toNat (by omega)
    omega
  · simp at h
    have := check_small h.2.2
    simp [app_size, two_size]; omega
  · simp at h
    simp [app_size, two_size]; omega
  · simp at h
    have := check_small h.2.1
    have := check_small h.2.2
    simp [app_size, two_size]; omega
def oneP (x : S42) : ByteArray := strOfNums [x.f0 % 256] ++ bodyP x.f0 x.f1 x.f2 x.f3
def allP (p : Int) : List S42 → List S42 → Bool
  | _, [] => true
  | pre, x :: r => stepP p pre x.f0 x.f1 x.f2 x.f3 && allP p (pre ++ [x]) r
def bytesP (l : List S42) : ByteArray := l.foldl (fun a x => a ++ oneP x) (⟨#[]⟩ : ByteArray)
theorem rd_pre (pre r : List S42) (x : S42) : rd_T42 (pre ++ x :: r) (pre.length : Int) = x := by simp [rd_T42]
theorem take_pre (pre r : List S42) : (pre ++ r).take (pre.length : Int).toNat = pre := by simp
theorem props_loop (p : Int) (r : List S42) : ∀ pre : List S42, (pre ++ r).length ≤ 100000 → Ev (fun k => fairwayref4_Props.l0 k p (pre ++ r) (pre.length : Int)) (allP p pre r) := by
  induction r with
  | nil =>
    intro pre hl
    refine ⟨1, fun k hk => ?_⟩
    obtain ⟨k, rfl⟩ : ∃ m, k = m + 1 := ⟨k - 1, by omega⟩
    dsimp only
    simp only [fairwayref4_Props.l0, List.append_nil]
    rw [if_neg (by omega)]
    rfl
  | cons x r ih =>
    intro pre hl
    have hL : (pre ++ x :: r).length = pre.length + 1 + r.length := by simp; omega
    obtain ⟨K0, h0⟩ := refFits_ev x.f0 x.f1 x.f2 x.f3
    obtain ⟨K1, h1⟩ := refStands_ev p x.f0
    obtain ⟨K2, h2⟩ := refTwice_ev p x.f0 pre (by omega)
    obtain ⟨K3, h3⟩ := ih (pre ++ [x]) (by simpa using hl)
    refine ⟨K0 + K1 + K2 + K3 + 1, fun k hk => ?_⟩
    obtain ⟨k, rfl⟩ : ∃ m, k = m + 1 := ⟨k - 1, by omega⟩
    have e0 := h0 k (by omega)
    have e1 := h1 k (by omega)
    have e2 := h2 k (by omega)
    have e3 := h3 k (by omega)
    dsimp only at e0 e1 e2 e3 ⊢
    simp only [fairwayref4_Props.l0, rd_pre, take_pre]
    rw [if_pos (by omega), if_pos (by omega), e0]
    simp only [Option.bind_some, allP, stepP]
    cases okP x.f0 x.f1 x.f2 x.f3 with
    | false => simp
    | true =>
      rw [if_pos rfl, e1]
      simp only [Option.bind_some, Bool.true_and]
      by_cases hs : x.f0 ∈ placeL p
      · rw [if_pos (by simpa using hs), if_pos (by omega), e2]
        simp only [Option.bind_some]
        cases againP p x.f0 pre with
        | true => simp
        | false =>
          simp only [List.append_assoc, List.singleton_append, List.length_append, List.length_singleton] at e3
          rw [if_neg (by simp), w64 (by omega) (by omega), show ((pre.length : Int) + 1) = ((pre.length + 1 : Nat) : Int) by omega, e3]
          simp [hs]
      · rw [if_neg (by simpa using hs)]
        simp [hs]
def layR (p : Int) : List S42 → List S42 → ByteArray → ByteArray × Bool
  | _, [], acc => (acc, true)
  | pre, x :: r, acc => if stepP p pre x.f0 x.f1 x.f2 x.f3 = true then layR p (pre ++ [x]) r (acc ++ oneP x) else ((⟨#[]⟩ : ByteArray), false)
theorem lay_loop (p : Int) (r : List S42) : ∀ (pre : List S42) (acc : ByteArray), (pre ++ r).length ≤ 100000 → acc.size ≤ 3000 * pre.length →
    Ev (fun k => prop_lay.l0 k p (pre ++ r) acc (pre ++ r) ((pre ++ r).length : Int) (pre.length : Int)) (layR p pre r acc) := by
  induction r with
  | nil =>
    intro pre acc hl ha
    refine ⟨1, fun k hk => ?_⟩
    obtain ⟨k, rfl⟩ : ∃ m, k = m + 1 := ⟨k - 1, by omega⟩
    dsimp only
    simp only [prop_lay.l0, List.append_nil]
    rw [if_neg (by omega)]
    rfl
  | cons x r ih =>
    intro pre acc hl ha
    have hL : (pre ++ x :: r).length = pre.length + 1 + r.length := by simp; omega
    obtain ⟨K0, h0⟩ := value_ev x.f0 x.f1 x.f2 x.f3
    obtain ⟨K1, h1⟩ := fits_ev p pre x.f0 x.f1 x.f2 x.f3
    obtain ⟨K2, h2⟩ := kind_ev x.f0
    have main : ∃ K, ∀ k, K ≤ k → prop_lay.l0 (k + 2) p (pre ++ x :: r) acc (pre ++ x :: r) ((pre ++ x :: r).length : Int) (pre.length : Int) = some (layR p pre (x :: r) acc) := by
      unfold layR
      cases hv : (valT x.f0 x.f1 x.f2 x.f3).2 with
      | false =>
        refine ⟨K0 + K1 + K2, fun k hk => ?_⟩
        have e0 := h0 (k + 1) (by omega)
        dsimp only at e0
        simp only [prop_lay.l0, rd_pre]
        rw [if_pos (by omega), if_pos (by omega), if_pos (by omega), e0]
        simp only [Option.bind_some]
        rw [if_neg (by rw [hv]; simp)]
        have : stepP p pre x.f0 x.f1 x.f2 x.f3 = false := by unfold stepP; rw [value_no hv]; rfl
        rw [this]
        simp [prop_lay.j2]
      | true =>
        cases hf : fitsP p pre x.f0 x.f1 with
        | false =>
          refine ⟨K0 + K1 + K2, fun k hk => ?_⟩
          have e0 := h0 (k + 1) (by omega)
          have e1 := h1 (k + 1) (by omega)
          dsimp only at e0 e1
          simp only [prop_lay.l0, rd_pre, take_pre]
          rw [if_pos (by omega), if_pos (by omega), if_pos (by omega), e0]
          simp only [Option.bind_some]
          rw [if_pos hv, if_pos (by omega), e1, fits_no hf]
          simp only [Option.bind_some]
          simp [prop_lay.j2, hf]
        | true =>
          obtain ⟨hs, hn, hz⟩ := fits_yes (s := x.f2) (v := x.f3) hf
          obtain ⟨b, e, ⟨K3, h3⟩, hok, hb⟩ := laid_ev x.f0 x.f1 x.f2 x.f3 hv hn hz
          rw [hs]
          by_cases he : e = 0
          · have ok := hok.1 he
            have bs := body_size ok
            have sz : (acc ++ oneP x).size ≤ 3000 * (pre ++ [x]).length := by
              simp only [oneP, app_size, str_size, List.length_append, List.length_singleton]
              omega
            obtain ⟨K4, h4⟩ := ih (pre ++ [x]) (acc ++ oneP x) (by simpa using hl) sz
            refine ⟨K0 + K1 + K2 + K3 + K4, fun k hk => ?_⟩
            have e0 := h0 (k + 1) (by omega)
            have e1 := h1 (k + 1) (by omega)
            have e2 := h2 k (by omega)
            have e3 := h3 k (by omega)
            have e4 := h4 k (by omega)
            dsimp only at e0 e1 e2 e3 e4
            simp only [prop_lay.l0, rd_pre, take_pre]
            rw [if_pos (by omega), if_pos (by omega), if_pos (by omega), e0]
            simp only [Option.bind_some]
            rw [if_pos hv, if_pos (by omega), e1, hf]
            simp only [Option.bind_some]
            simp only [prop_lay.j2, Bool.not_true, Bool.false_eq_true, if_false]
            rw [e2]
            simp only [Option.bind_some]
            rw [e3]
            simp only [Option.bind_some]
            rw [if_pos he, hb he]
            have s1 : (strOfNums [x.f0 % 256]).size = 1 := str_size _
            have s2 : (acc ++ (strOfNums [x.f0 % 256] ++ bodyP x.f0 x.f1 x.f2 x.f3)).size ≤ 3000 * (pre ++ [x]).length := sz
            rw [app_size] at s2
            simp only [List.length_append, List.length_singleton] at s2
            rw [if_pos (by omega), if_pos (by omega), if_pos ok]
            simp only [List.append_assoc, List.singleton_append, List.length_append, List.length_singleton] at e4
            rw [w64 (by omega) (by omega), show ((pre.length : Int) + 1) = ((pre.length + 1 : Nat) : Int) by omega]
            simpa [oneP] using e4
          · have ok : okP x.f0 x.f1 x.f2 x.f3 = false := by
              cases h : okP x.f0 x.f1 x.f2 x.f3 with
              | false => rfl
              | true => exact absurd (hok.2 h) he
            refine ⟨K0 + K1 + K2 + K3, fun k hk => ?_⟩
            have e0 := h0 (k + 1) (by omega)
            have e1 := h1 (k + 1) (by omega)
            have e2 := h2 k (by omega)
            have e3 := h3 k (by omega)
            dsimp only at e0 e1 e2 e3
            simp only [prop_lay.l0, rd_pre, take_pre]
            rw [if_pos (by omega), if_pos (by omega), if_pos (by omega), e0]
            simp only [Option.bind_some]
            rw [if_pos hv, if_pos (by omega), e1, hf]
            simp only [Option.bind_some]
            simp only [prop_lay.j2, Bool.not_true, Bool.false_eq_true, if_false]
            rw [e2]
            simp only [Option.bind_some]
            rw [e3]
            simp only [Option.bind_some]
            rw [if_neg he, ok, if_neg (by simp)]
    obtain ⟨K, h⟩ := main
    refine ⟨K + 2, fun k hk => ?_⟩
    obtain ⟨k, rfl⟩ : ∃ m, k = m + 2 := ⟨k - 2, by omega⟩
    exact h k (by omega)
theorem layR_is (p : Int) (r : List S42) : ∀ (pre : List S42) (acc : ByteArray), layR p pre r acc = if allP p pre r = true then (r.foldl (fun a x => a ++ oneP x) acc, true) else ((⟨#[]⟩ : ByteArray), false) := by
  induction r with
  | nil => intro pre acc; rfl
  | cons x r ih =>
    intro pre acc
    unfold layR allP
    rw [ih]
    cases stepP p pre x.f0 x.f1 x.f2 x.f3 with
    | false => rfl
    | true => rfl
theorem allP_ok (p : Int) (r : List S42) : ∀ pre : List S42, allP p pre r = true → ∀ x ∈ r, okP x.f0 x.f1 x.f2 x.f3 = true := by
  induction r with
  | nil => intro pre h x hx; cases hx
  | cons y r ih =>
    intro pre h x hx
    simp only [allP, Bool.and_eq_true] at h
    rcases List.mem_cons.1 hx with rfl | hx
    · have := h.1
      simp only [stepP, Bool.and_eq_true] at this
      exact this.1.1
    · exact ih _ h.2 x hx
theorem fold_size (r : List S42) (h : ∀ x ∈ r, okP x.f0 x.f1 x.f2 x.f3 = true) : ∀ acc : ByteArray, (r.foldl (fun a x => a ++ oneP x) acc).size ≤ acc.size + 3000 * r.length := by
  induction r with
  | nil => intro acc; simp
  | cons x r ih =>
    intro acc
    have := ih (fun y hy => h y (List.mem_cons_of_mem _ hy)) (acc ++ oneP x)
    have b := body_size (h x List.mem_cons_self)
    rw [List.foldl_cons]
    simp only [oneP, app_size, str_size, List.length_cons, List.length_nil] at this ⊢
    omega
theorem step_w {n : Nat} (h : n ≤ 1000000) : wrap64 ((n : Int) + 1) = ((n + 1 : Nat) : Int) := by rw [w64 (by omega) (by omega)]; omega
set_option maxHeartbeats 1000000 in
theorem bytes_loop (r : List S42) (hr : ∀ x ∈ r, okP x.f0 x.f1 x.f2 x.f3 = true) : ∀ (pre : List S42) (acc : ByteArray), (pre ++ r).length ≤ 1000 → acc.size ≤ 3000 * pre.length →
    Ev (fun k => fairwayref4_PropBytes.l0 k (pre ++ r) acc (pre.length : Int)) (numOf ((r.foldl (fun a x => a ++ oneP x) acc).size : Int) ++ r.foldl (fun a x => a ++ oneP x) acc) := by
  induction r with
  | nil =>
    intro pre acc hl ha
    simp only [List.append_nil] at hl
    obtain ⟨K, h⟩ := ref_num_ok (n := (acc.size : Int)) (by omega) (by omega)
    refine ⟨K + 1, fun k hk => ?_⟩
    obtain ⟨k, rfl⟩ : ∃ m, k = m + 1 := ⟨k - 1, by omega⟩
    have e := h k (by omega)
    dsimp only at e ⊢
    simp only [fairwayref4_PropBytes.l0, List.append_nil, List.foldl_nil]
    rw [if_neg (by omega), e]
    simp only [Option.bind_some]
    have := numOf_size (acc.size : Int)
    have := vb_len5 (acc.size : Int).toNat (by omega)
    rw [if_pos (by omega)]
  | cons x r ih =>
    intro pre acc hl ha
    have hL : (pre ++ x :: r).length = pre.length + 1 + r.length := by simp; omega
    have ok := hr x List.mem_cons_self
    have bs := body_size ok
    have s1 : (strOfNums [x.f0 % 256]).size = 1 := str_size _
    have sz : (acc ++ oneP x).size ≤ 3000 * (pre ++ [x]).length := by
      simp only [oneP, app_size, str_size, List.length_append, List.length_singleton]
      omega
    have w : wrap64 ((pre.length : Int) + 1) = ((pre.length + 1 : Nat) : Int) := step_w (by omega)
    have c1 : (pre.length : Int) < ((pre ++ x :: r).length : Int) := by omega
    have c2 : 0 ≤ (pre.length : Int) := Int.natCast_nonneg _
    have c3 : acc.size + (strOfNums [x.f0 % 256]).size ≤ 9223372036854775807 := Nat.le_trans (m := 4000000) (by omega) (by decide)
    obtain ⟨K3, h3⟩ := ih (fun y hy => hr y (List.mem_cons_of_mem _ hy)) (pre ++ [x]) (acc ++ oneP x) (by simpa using hl) sz
    obtain ⟨K0, h0⟩ := refKind_ev x.f0
    obtain ⟨K1, h1⟩ := fixed2_ev x.f1
    obtain ⟨K2, h2⟩ := fixed4_ev x.f1
    obtain ⟨K5, h5⟩ := fixed2_ev (x.f2.size : Int)
    obtain ⟨K6, h6⟩ := fixed2_ev (x.f3.size : Int)
    have hn : ∃ K, kindOf x.f0 = 4 → ∀ k, K ≤ k → fairwayref1_Num.f k x.f1 = some (numOf x.f1) := by
      by_cases h4 : kindOf x.f0 = 4
      · have b : 0 ≤ x.f1 ∧ x.f1 ≤ 268435455 := by
          unfold okP at ok
          simp [h4, mostK] at ok
          omega
        obtain ⟨K, h⟩ := ref_num_ok (n := x.f1) b.1 (by omega)
        exact ⟨K, fun _ => h⟩
      · exact ⟨0, fun h => absurd h h4⟩
    obtain ⟨K4, h4⟩ := hn
    refine ⟨K0 + K1 + K2 + K3 + K4 + K5 + K6 + 2, fun k hk => ?_⟩
    obtain ⟨k, rfl⟩ : ∃ m, k = m + 1 := ⟨k - 1, by omega⟩
    have e0 := h0 k (by omega)
    have e1 := h1 k (by omega)
    have e2 := h2 k (by omega)
    have e3 := h3 k (by omega)
    have e4 := fun hk4 => h4 hk4 k (by omega)
    dsimp only at e0 e1 e2 e3 ⊢
    rw [List.foldl_cons]
    simp only [List.append_assoc, List.singleton_append, List.length_append, List.length_singleton] at e3
    simp only [fairwayref4_PropBytes.l0, rd_pre]
    rw [if_pos c1, if_pos c2]
    simp only [Option.bind_some]
    rw [if_pos c3, e0]
    simp only [Option.bind_some, w]
    have hc := kind_cases x.f0
    have hk0 : kindOf x.f0 ≠ 0 := by
      intro h
      unfold okP at ok
      simp [h] at ok
    unfold oneP at e3
    have fit : ∀ b : ByteArray, b.size ≤ 2100 → (acc ++ strOfNums [x.f0 % 256]).size + b.size ≤ 9223372036854775807 := by
      intro b hb
      rw [app_size, s1]
      exact Nat.le_trans (m := 4000000) (by omega) (by decide)
    have fit2 : ∀ a b : ByteArray, (a ++ b).size ≤ 2100 → ((acc ++ strOfNums [x.f0 % 256]) ++ a).size + b.size ≤ 9223372036854775807 := by
      intro a b hb
      rw [app_size] at hb
      rw [app_size, app_size, s1]
      exact Nat.le_trans (m := 4000000) (by omega) (by decide)
    rcases hc with h | h | h | h | h | h | h | h
    · exact absurd h hk0
    · have bd : bodyP x.f0 x.f1 x.f2 x.f3 = strOfNums [x.f1 % 256] := by simp [bodyP, h]
      rw [bd] at bs
      unfold oneP
      rw [bd] at e3 ⊢
      simp only [h, if_true, Option.bind_some]
      rw [if_pos (fit _ bs), ByteArray.append_assoc]
      exact e3
    · have bd : bodyP x.f0 x.f1 x.f2 x.f3 = two x.f1 := by simp [bodyP, h]
      rw [bd] at bs
      unfold oneP
      rw [bd] at e3 ⊢
      simp only [h, Int.reduceEq, if_true, if_false]
      rw [e1]
      simp only [Option.bind_some]
      rw [if_pos (fit _ bs), ByteArray.append_assoc]
      exact e3
    · have bd : bodyP x.f0 x.f1 x.f2 x.f3 = four x.f1 := by simp [bodyP, h]
      rw [bd] at bs
      unfold oneP
      rw [bd] at e3 ⊢
      simp only [h, Int.reduceEq, if_true, if_false]
      rw [e2]
      simp only [Option.bind_some]
      rw [if_pos (fit _ bs), ByteArray.append_assoc]
      exact e3
    · have bd : bodyP x.f0 x.f1 x.f2 x.f3 = numOf x.f1 := by simp [bodyP, h]
      rw [bd] at bs
      unfold oneP
      rw [bd] at e3 ⊢
      have e4' := e4 h
      simp only [h, Int.reduceEq, if_true, if_false]
      rw [e4']
      simp only [Option.bind_some]
      rw [if_pos (fit _ bs), ByteArray.append_assoc]
      exact e3
    all_goals obtain ⟨k, rfl⟩ : ∃ m, k = m + 1 := ⟨k - 1, by omega⟩
    all_goals have e5 := h5 k (by omega)
    all_goals have e6 := h6 k (by omega)
    all_goals have e3'' := h3 k (by omega)
    all_goals dsimp only at e5 e6 e3''
    all_goals simp only [List.append_assoc, List.singleton_append, List.length_append, List.length_singleton] at e3''
    all_goals unfold oneP at e3''
    · have bd : bodyP x.f0 x.f1 x.f2 x.f3 = two x.f2.size ++ x.f2 := by simp [bodyP, h]
      rw [bd] at bs
      unfold oneP
      rw [bd] at e3'' ⊢
      simp only [h, Int.reduceEq, if_true, if_false, Int.reduceBEq, fairwayref4_PropBytes.j1, Bool.false_eq_true]
      rw [e5]
      simp only [Option.bind_some]
      rw [app_size, two_size] at bs
      rw [if_pos (fit _ (by rw [two_size]; omega)), if_pos (fit2 _ _ (by rw [app_size, two_size]; omega)), w, ByteArray.append_assoc, ByteArray.append_assoc]
      exact e3''
    · have bd : bodyP x.f0 x.f1 x.f2 x.f3 = two x.f2.size ++ x.f2 := by simp [bodyP, h]
      rw [bd] at bs
      unfold oneP
      rw [bd] at e3'' ⊢
      simp only [h, Int.reduceEq, if_true, if_false, Int.reduceBEq, fairwayref4_PropBytes.j1, Bool.false_eq_true]
      rw [e5]
      simp only [Option.bind_some]
      rw [app_size, two_size] at bs
      rw [if_pos (fit _ (by rw [two_size]; omega)), if_pos (fit2 _ _ (by rw [app_size, two_size]; omega)), w, ByteArray.append_assoc, ByteArray.append_assoc]
      exact e3''
    · have bd : bodyP x.f0 x.f1 x.f2 x.f3 = (two x.f2.size ++ x.f2) ++ (two x.f3.size ++ x.f3) := by simp [bodyP, h]
      rw [bd] at bs
      unfold oneP
      rw [bd] at e3'' ⊢
      simp only [h, Int.reduceEq, if_true, if_false, Int.reduceBEq, fairwayref4_PropBytes.j1, Bool.false_eq_true]
      rw [e5]
      simp only [Option.bind_some]
      rw [app_size, app_size, app_size, two_size, two_size] at bs
      have g3 : ((acc ++ strOfNums [x.f0 % 256]) ++ two x.f2.size ++ x.f2).size + (two x.f3.size).size ≤ 9223372036854775807 := by
        rw [app_size, app_size, app_size, s1, two_size, two_size]
        exact Nat.le_trans (m := 4000000) (by omega) (by decide)
      have g4 : ((acc ++ strOfNums [x.f0 % 256]) ++ two x.f2.size ++ x.f2 ++ two x.f3.size).size + x.f3.size ≤ 9223372036854775807 := by
        rw [app_size, app_size, app_size, app_size, s1, two_size, two_size]
        exact Nat.le_trans (m := 4000000) (by omega) (by decide)
      rw [if_pos (fit _ (by rw [two_size]; omega)), if_pos (fit2 _ _ (by rw [app_size, two_size]; omega)), e6]
      simp only [Option.bind_some]
      rw [if_pos g3, if_pos g4, w]
      simp only [ByteArray.append_assoc] at e3'' ⊢
      exact e3''
def propsP (p : Int) (l : List S42) : Bool := decide (0 ≤ p ∧ p ≤ 15) && decide (l.length ≤ 8) && allP p [] l
theorem lay_ev (p : Int) (l : List S42) (hl : l.length ≤ 100000) : Ev (fun k => prop_lay.f k p l) (if propsP p l = true then (bytesP l, true) else ((⟨#[]⟩ : ByteArray), false)) := by
  obtain ⟨K0, h0⟩ := stands_ev p
  obtain ⟨K1, h1⟩ := lay_loop p l [] (⟨#[]⟩ : ByteArray) (by simpa using hl) (Nat.zero_le _)
  refine ⟨K0 + K1 + 1, fun k hk => ?_⟩
  obtain ⟨k, rfl⟩ : ∃ m, k = m + 1 := ⟨k - 1, by omega⟩
  have e0 := h0 (k + 1) (by omega)
  have e1 := h1 k (by omega)
  dsimp only at e0 e1 ⊢
  rw [layR_is] at e1
  simp only [List.nil_append, List.length_nil] at e1
  unfold prop_lay.f propsP
  rw [e0]
  simp only [Option.bind_some]
  by_cases x1 : 0 ≤ p ∧ p ≤ 15
  · by_cases x2 : l.length ≤ 8
    · rw [decide_eq_true x1, decide_eq_true x2, if_pos rfl, decide_eq_false (by omega), Bool.true_and, Bool.true_and]
      simp only [prop_lay.j0, Bool.false_eq_true, if_false]
      exact e1
    · rw [decide_eq_true x1, decide_eq_false x2, if_pos rfl, decide_eq_true (by omega)]
      simp [prop_lay.j0]
  · rw [decide_eq_false x1]
    simp [prop_lay.j0]
theorem check_ev (p : Int) (l : List S42) (hl : l.length ≤ 100000) : Ev (fun k => prop_Check.f k p l) (if propsP p l = true then 0 else 1) := by
  obtain ⟨K0, h0⟩ := lay_ev p l hl
  refine ⟨K0, fun k hk => ?_⟩
  have e0 := h0 k hk
  dsimp only at e0 ⊢
  unfold prop_Check.f
  rw [e0]
  cases propsP p l <;> rfl
theorem bytesP_size {p : Int} {l : List S42} (h : propsP p l = true) : (bytesP l).size ≤ 24000 := by
  unfold propsP at h
  simp only [Bool.and_eq_true, decide_eq_true_eq] at h
  have := fold_size l (allP_ok p l [] h.2) (⟨#[]⟩ : ByteArray)
  have z : (⟨#[]⟩ : ByteArray).size = 0 := rfl
  unfold bytesP
  omega
theorem bytes_ev (p : Int) (l : List S42) (hl : l.length ≤ 100000) : Ev (fun k => prop_Bytes.f k p l) (if propsP p l = true then (numOf ((bytesP l).size : Int) ++ bytesP l, 0) else ((⟨#[]⟩ : ByteArray), 1)) := by
  obtain ⟨K0, h0⟩ := lay_ev p l hl
  cases hp : propsP p l with
  | false =>
    refine ⟨K0, fun k hk => ?_⟩
    have e0 := h0 k hk
    dsimp only at e0 ⊢
    unfold prop_Bytes.f
    rw [e0, hp]
    rfl
  | true =>
    have hs := bytesP_size hp
    obtain ⟨K1, h1⟩ := num_ok (n := ((bytesP l).size : Int)) (by omega) (by omega)
    refine ⟨K0 + K1, fun k hk => ?_⟩
    have e0 := h0 k (by omega)
    have e1 := h1 k (by omega)
    dsimp only at e0 e1 ⊢
    unfold prop_Bytes.f
    rw [e0, hp]
    simp only [if_true, Option.bind_some]
    rw [e1]
    simp only [Option.bind_some]
    have := numOf_size ((bytesP l).size : Int)
    have := vb_len5 ((bytesP l).size : Int).toNat (by omega)
    rw [if_pos (Nat.le_trans (m := 100000) (by omega) (by decide))]
theorem refProps_ev (p : Int) (l : List S42) (hl : l.length ≤ 100000) : Ev (fun k => fairwayref4_Props.f k p l) (propsP p l) := by
  obtain ⟨K1, h1⟩ := props_loop p l [] (by simpa using hl)
  refine ⟨K1 + 1, fun k hk => ?_⟩
  obtain ⟨k, rfl⟩ : ∃ m, k = m + 1 := ⟨k - 1, by omega⟩
  have e1 := h1 k (by omega)
  simp only [List.nil_append, List.length_nil] at e1
  dsimp only at e1 ⊢
  unfold fairwayref4_Props.f propsP
  rw [place_is]
  simp only [Option.bind_some]
  by_cases x1 : 0 ≤ p ∧ p ≤ 15
  · by_cases x2 : l.length ≤ 8
    · rw [decide_eq_true x1, decide_eq_true x2, if_pos rfl, decide_eq_false (by omega), Bool.true_and, Bool.true_and]
      simp only [fairwayref4_Props.j0, Bool.false_eq_true, if_false]
      exact e1
    · rw [decide_eq_true x1, decide_eq_false x2, if_pos rfl, decide_eq_true (by omega)]
      simp [fairwayref4_Props.j0]
  · rw [decide_eq_false x1]
    simp [fairwayref4_Props.j0]
theorem refBytes_ev {p : Int} {l : List S42} (h : propsP p l = true) : Ev (fun k => fairwayref4_PropBytes.f k l) (numOf ((bytesP l).size : Int) ++ bytesP l) := by
  have h' := h
  unfold propsP at h'
  simp only [Bool.and_eq_true, decide_eq_true_eq] at h'
  exact bytes_loop l (allP_ok p l [] h'.2) [] (⟨#[]⟩ : ByteArray) (by simp; omega) (Nat.zero_le _)
end Go.Proofs.YtiancopplinpcaaDoor.P
end
section
namespace Go.Proofs.YtiancopplinpcaaDoor.P
open Go.RowKit Go.Proofs.YtiancopplinpcaaDoorW.PrintWords Go.Proofs.YtiancopplinpcaaDoorW.PrintLast Go.Proofs.YtiancopplinpcaaDoorW.PrintMore
set_option linter.unusedVariables false
set_option linter.unusedSimpArgs false
noncomputable def prop_Bytes.fL (a0 : Int) (l1 : List (S42)) : Option (ByteArray × Int) := lim fun k => prop_Bytes.f k a0 l1
noncomputable def fairwaylaw4_wakes.fL : Option (Bool) := lim fun k => fairwaylaw4_wakes.f k
end Go.Proofs.YtiancopplinpcaaDoor.P
end
section
namespace Go.Proofs.YtiancopplinpcaaDoor.P
open Go.RowKit Go.Proofs.YtiancopplinpcaaDoorW.PrintWords Go.Proofs.YtiancopplinpcaaDoorW.PrintLast Go.Proofs.YtiancopplinpcaaDoorW.PrintMore
set_option linter.unusedVariables false
set_option linter.unusedSimpArgs false
noncomputable def fairwaylaw0_PropsWeight.fL (l0 : List (S42)) : Option (Int) := lim fun k => fairwaylaw0_PropsWeight.f k l0
noncomputable def fairwaylaw4_heavy.fL (a0_0 : Int) (l0_1 : List (S42)) (a0_2 : ByteArray) : Option (Bool) := lim fun k => fairwaylaw4_heavy.f k a0_0 l0_1 a0_2
noncomputable def fairwayref0_CopyProps.fL (l0 : List (S42)) : Option ((List (S42))) := lim fun k => fairwayref0_CopyProps.f k l0
noncomputable def fairwaylaw0_PropsWeight.l0L (x0 : List (S42)) (x3 : Int) (x4 : Int) : Option (Int) := lim fun k => fairwaylaw0_PropsWeight.l0 k x0 x3 x4
noncomputable def fairwayref0_CopyProps.l0L (x0 : List (S42)) (x3 : List (S42)) (x4 : Int) : Option ((List (S42))) := lim fun k => fairwayref0_CopyProps.l0 k x0 x3 x4
theorem fairwaylaw0_PropsWeight.fL_eq (l0 : List (S42)) : fairwaylaw0_PropsWeight.fL l0 = fairwaylaw0_PropsWeight.l0L l0 (l0.length : Int) 0 := by
  show lim (fun k => fairwaylaw0_PropsWeight.f k l0) = _
  show lim (fun k => fairwaylaw0_PropsWeight.l0 k l0 (l0.length : Int) 0) = _
  repeat' (first | exact lim_const _ | (with_reducible refine lim_ite' ?_ ?_) | ((with_reducible refine lim_bind' ?hm ?hx (fun _ => ?_)); (case hm => exact (fun k => by first | exact LeO.refl _)); (case hx => first | exact lim_const _ | rfl)) | rfl)
theorem fairwaylaw4_heavy.fL_eq (a0_0 : Int) (l0_1 : List (S42)) (a0_2 : ByteArray) : fairwaylaw4_heavy.fL a0_0 l0_1 a0_2 = (fairwaylaw0_PropsWeight.fL l0_1).bind fun t194 => (if t194 > 10000 then (some true) else (some (decide ((a0_2.size : Int) > 9000)))) := by
  show lim (fun k => fairwaylaw4_heavy.f k a0_0 l0_1 a0_2) = _
  show lim (fun k => (fairwaylaw0_PropsWeight.f k l0_1).bind fun t194 => (if t194 > 10000 then (some true) else (some (decide ((a0_2.size : Int) > 9000))))) = _
  repeat' (first | exact lim_const _ | (with_reducible refine lim_ite' ?_ ?_) | ((with_reducible refine lim_bind' ?hm ?hx (fun _ => ?_)); (case hm => exact (fun k => by first | exact LeO.refl _ | apply fairwaylaw0_PropsWeight.mono)); (case hx => first | exact lim_const _ | rfl)) | rfl)
theorem fairwayref0_CopyProps.fL_eq (l0 : List (S42)) : fairwayref0_CopyProps.fL l0 = fairwayref0_CopyProps.l0L l0 ([] : List (S42)) 0 := by
  show lim (fun k => fairwayref0_CopyProps.f k l0) = _
  show lim (fun k => fairwayref0_CopyProps.l0 k l0 ([] : List (S42)) 0) = _
  repeat' (first | exact lim_const _ | (with_reducible refine lim_ite' ?_ ?_) | ((with_reducible refine lim_bind' ?hm ?hx (fun _ => ?_)); (case hm => exact (fun k => by first | exact LeO.refl _)); (case hx => first | exact lim_const _ | rfl)) | rfl)
theorem fairwaylaw0_PropsWeight.l0L_eq (x0 : List (S42)) (x3 : Int) (x4 : Int) : fairwaylaw0_PropsWeight.l0L x0 x3 x4 = if x4 < (x0.length : Int) then (if x3 < 1048576 then (if 0 ≤ x4 then (fairwaylaw0_PropsWeight.l0L x0 (wrap64 ((wrap64 (x3 + (((rd_T42 x0 x4).f2).size : Int))) + (((rd_T42 x0 x4).f3).size : Int))) (wrap64 (x4 + 1))) else (none)) else (some x3)) else (some x3) := by
  show lim (fun k => fairwaylaw0_PropsWeight.l0 k x0 x3 x4) = _
  rw [lim_step (f := fun k => if x4 < (x0.length : Int) then (if x3 < 1048576 then (if 0 ≤ x4 then (fairwaylaw0_PropsWeight.l0 k x0 (wrap64 ((wrap64 (x3 + (((rd_T42 x0 x4).f2).size : Int))) + (((rd_T42 x0 x4).f3).size : Int))) (wrap64 (x4 + 1))) else (none)) else (some x3)) else (some x3)) (fun k => by first | rfl | simp only [fairwaylaw0_PropsWeight.l0])]
  repeat' (first | exact lim_const _ | (with_reducible refine lim_ite' ?_ ?_) | ((with_reducible refine lim_bind' ?hm ?hx (fun _ => ?_)); (case hm => exact (fun k => by first | exact LeO.refl _)); (case hx => first | exact lim_const _ | rfl)) | rfl)
theorem fairwayref0_CopyProps.l0L_eq (x0 : List (S42)) (x3 : List (S42)) (x4 : Int) : fairwayref0_CopyProps.l0L x0 x3 x4 = if x4 < (x0.length : Int) then (if 0 ≤ x4 then (if x3.length < 2932031007402 then (fairwayref0_CopyProps.l0L x0 (x3 ++ [(⟨(rd_T42 x0 x4).f0, (rd_T42 x0 x4).f1, (rd_T42 x0 x4).f2, (rd_T42 x0 x4).f3⟩ : S42)]) (wrap64 (x4 + 1))) else (none)) else (none)) else (some x3) := by
  show lim (fun k => fairwayref0_CopyProps.l0 k x0 x3 x4) = _
  rw [lim_step (f := fun k => if x4 < (x0.length : Int) then (if 0 ≤ x4 then (if x3.length < 2932031007402 then (fairwayref0_CopyProps.l0 k x0 (x3 ++ [(⟨(rd_T42 x0 x4).f0, (rd_T42 x0 x4).f1, (rd_T42 x0 x4).f2, (rd_T42 x0 x4).f3⟩ : S42)]) (wrap64 (x4 + 1))) else (none)) else (none)) else (some x3)) (fun k => by first | rfl | simp only [fairwayref0_CopyProps.l0])]
  repeat' (first | exact lim_const _ | (with_reducible refine lim_ite' ?_ ?_) | ((with_reducible refine lim_bind' ?hm ?hx (fun _ => ?_)); (case hm => exact (fun k => by first | exact LeO.refl _)); (case hx => first | exact lim_const _ | rfl)) | rfl)
end Go.Proofs.YtiancopplinpcaaDoor.P
end
section
namespace Go.Proofs.YtiancopplinpcaaDoor.P
open Go.RowKit Go.Proofs.YtiancopplinpcaaDoorW.PrintWords Go.Proofs.YtiancopplinpcaaDoorW.PrintLast Go.Proofs.YtiancopplinpcaaDoorW.PrintMore
set_option linter.unusedVariables false
set_option linter.unusedSimpArgs false
noncomputable def fairwayref4_Props.fL (a0 : Int) (l1 : List (S42)) : Option (Bool) := lim fun k => fairwayref4_Props.f k a0 l1
end Go.Proofs.YtiancopplinpcaaDoor.P
end
section
namespace Go.Proofs.YtiancopplinpcaaDoor.P
open Go.RowKit Go.Proofs.YtiancopplinpcaaDoorW.PrintWords Go.Proofs.YtiancopplinpcaaDoorW.PrintLast Go.Proofs.YtiancopplinpcaaDoorW.PrintMore
set_option linter.unusedVariables false
set_option linter.unusedSimpArgs false
noncomputable def prop_Check.fL (a0 : Int) (l1 : List (S42)) : Option (Int) := lim fun k => prop_Check.f k a0 l1
noncomputable def fairwayref0_EqProps.fL (l0 : List (S42)) (l1 : List (S42)) : Option (Bool) := lim fun k => fairwayref0_EqProps.f k l0 l1
noncomputable def fairwaylaw4_PropBytes.fL (l0 : List (S25)) : Option (Bool) := lim fun k => fairwaylaw4_PropBytes.f k l0
noncomputable def fairwayref0_EqProps.l0L (x0 : List (S42)) (x1 : List (S42)) (x5 : Int) : Option (Bool) := lim fun k => fairwayref0_EqProps.l0 k x0 x1 x5
noncomputable def fairwaylaw4_PropBytes.l0L (x0 : List (S25)) (x3 : Int) : Option (Bool) := lim fun k => fairwaylaw4_PropBytes.l0 k x0 x3
noncomputable def fairwaylaw4_PropBytes.j1L (x0 : List (S25)) (x3 : Int) (x18 : Bool) : Option (Bool) := lim fun k => fairwaylaw4_PropBytes.j1 k x0 x3 x18
noncomputable def fairwaylaw4_PropBytes.l1L (x0 : List (S25)) (x3 : Int) (x5 : Int) (x298000 : Int) (x298001 : List (S42)) (x298002 : ByteArray) : Option (Bool) := lim fun k => fairwaylaw4_PropBytes.l1 k x0 x3 x5 x298000 x298001 x298002
noncomputable def fairwaylaw4_PropBytes.j3L (x0 : List (S25)) (x3 : Int) (x5 : Int) (x6 : List (S42)) (x7 : ByteArray) (x8 : Int) (x9 : Int) (x10 : ByteArray) (x298000 : Int) (x298001 : List (S42)) (x298002 : ByteArray) : Option (Bool) := lim fun k => fairwaylaw4_PropBytes.j3 k x0 x3 x5 x6 x7 x8 x9 x10 x298000 x298001 x298002
theorem fairwayref0_EqProps.fL_eq (l0 : List (S42)) (l1 : List (S42)) : fairwayref0_EqProps.fL l0 l1 = if (l0.length : Int) = (l1.length : Int) then (fairwayref0_EqProps.l0L l0 l1 0) else (some false) := by
  show lim (fun k => fairwayref0_EqProps.f k l0 l1) = _
  show lim (fun k => if (l0.length : Int) = (l1.length : Int) then (fairwayref0_EqProps.l0 k l0 l1 0) else (some false)) = _
  repeat' (first | exact lim_const _ | (with_reducible refine lim_ite' ?_ ?_) | ((with_reducible refine lim_bind' ?hm ?hx (fun _ => ?_)); (case hm => exact (fun k => by first | exact LeO.refl _)); (case hx => first | exact lim_const _ | rfl)) | rfl)
theorem fairwaylaw4_PropBytes.fL_eq (l0 : List (S25)) : fairwaylaw4_PropBytes.fL l0 = fairwaylaw4_PropBytes.l0L l0 0 := by
  show lim (fun k => fairwaylaw4_PropBytes.f k l0) = _
  show lim (fun k => fairwaylaw4_PropBytes.l0 k l0 0) = _
  repeat' (first | exact lim_const _ | (with_reducible refine lim_ite' ?_ ?_) | ((with_reducible refine lim_bind' ?hm ?hx (fun _ => ?_)); (case hm => exact (fun k => by first | exact LeO.refl _)); (case hx => first | exact lim_const _ | rfl)) | rfl)
theorem fairwayref0_EqProps.l0L_eq (x0 : List (S42)) (x1 : List (S42)) (x5 : Int) : fairwayref0_EqProps.l0L x0 x1 x5 = if x5 < (x0.length : Int) then (if 0 ≤ x5 then (if x5 < (x1.length : Int) then (if (!(((rd_T42 x0 x5).f0) == ((rd_T42 x1 x5).f0)) || (!(((rd_T42 x0 x5).f1) == ((rd_T42 x1 x5).f1)) || (!((((rd_T42 x0 x5).f2).toList) == (((rd_T42 x1 x5).f2).toList)) || (!((((rd_T42 x0 x5).f3).toList) == (((rd_T42 x1 x5).f3).toList)))))) = true then (some false) else (fairwayref0_EqProps.l0L x0 x1 (wrap64 (x5 + 1)))) else (none)) else (none)) else (some true) := by
  show lim (fun k => fairwayref0_EqProps.l0 k x0 x1 x5) = _
  rw [lim_step (f := fun k => if x5 < (x0.length : Int) then (if 0 ≤ x5 then (if x5 < (x1.length : Int) then (if (!(((rd_T42 x0 x5).f0) == ((rd_T42 x1 x5).f0)) || (!(((rd_T42 x0 x5).f1) == ((rd_T42 x1 x5).f1)) || (!((((rd_T42 x0 x5).f2).toList) == (((rd_T42 x1 x5).f2).toList)) || (!((((rd_T42 x0 x5).f3).toList) == (((rd_T42 x1 x5).f3).toList)))))) = true then (some false) else (fairwayref0_EqProps.l0 k x0 x1 (wrap64 (x5 + 1)))) else (none)) else (none)) else (some true)) (fun k => by first | rfl | simp only [fairwayref0_EqProps.l0])]
  repeat' (first | exact lim_const _ | (with_reducible refine lim_ite' ?_ ?_) | ((with_reducible refine lim_bind' ?hm ?hx (fun _ => ?_)); (case hm => exact (fun k => by first | exact LeO.refl _)); (case hx => first | exact lim_const _ | rfl)) | rfl)
theorem fairwaylaw4_PropBytes.l0L_eq (x0 : List (S25)) (x3 : Int) : fairwaylaw4_PropBytes.l0L x0 x3 = if x3 < (x0.length : Int) then (fairwaylaw4_PropBytes.j1L x0 x3 (decide (x3 < 10))) else (fairwaylaw4_PropBytes.j1L x0 x3 false) := by
  show lim (fun k => fairwaylaw4_PropBytes.l0 k x0 x3) = _
  rw [lim_step (f := fun k => if x3 < (x0.length : Int) then (fairwaylaw4_PropBytes.j1 k x0 x3 (decide (x3 < 10))) else (fairwaylaw4_PropBytes.j1 k x0 x3 false)) (fun k => by first | rfl | simp only [fairwaylaw4_PropBytes.l0])]
  repeat' (first | exact lim_const _ | (with_reducible refine lim_ite' ?_ ?_) | ((with_reducible refine lim_bind' ?hm ?hx (fun _ => ?_)); (case hm => exact (fun k => by first | exact LeO.refl _)); (case hx => first | exact lim_const _ | rfl)) | rfl)
theorem fairwaylaw4_PropBytes.j1L_eq (x0 : List (S25)) (x3 : Int) (x18 : Bool) : fairwaylaw4_PropBytes.j1L x0 x3 x18 = if x18 = true then (if 0 ≤ x3 then (if x3 < (x0.length : Int) then ((fairwaylaw4_heavy.fL ((rd_T25 x0 x3).f0) ((rd_T25 x0 x3).f1) ((rd_T25 x0 x3).f2)).bind fun t298 => (if t298 = true then (some true) else (fairwaylaw4_PropBytes.l1L x0 x3 (-1) ((rd_T25 x0 x3).f0) ((rd_T25 x0 x3).f1) ((rd_T25 x0 x3).f2)))) else (none)) else (none)) else ((fairwaylaw4_wakes.fL).bind fun t295 => (some t295)) := by
  show lim (fun k => fairwaylaw4_PropBytes.j1 k x0 x3 x18) = _
  rw [lim_step (f := fun k => if x18 = true then (if 0 ≤ x3 then (if x3 < (x0.length : Int) then ((fairwaylaw4_heavy.f k ((rd_T25 x0 x3).f0) ((rd_T25 x0 x3).f1) ((rd_T25 x0 x3).f2)).bind fun t298 => (if t298 = true then (some true) else (fairwaylaw4_PropBytes.l1 k x0 x3 (-1) ((rd_T25 x0 x3).f0) ((rd_T25 x0 x3).f1) ((rd_T25 x0 x3).f2)))) else (none)) else (none)) else ((fairwaylaw4_wakes.f k).bind fun t295 => (some t295))) (fun k => by first | rfl | simp only [fairwaylaw4_PropBytes.j1])]
  repeat' (first | exact lim_const _ | (with_reducible refine lim_ite' ?_ ?_) | ((with_reducible refine lim_bind' ?hm ?hx (fun _ => ?_)); (case hm => exact (fun k => by first | exact LeO.refl _ | apply fairwaylaw4_heavy.mono | apply fairwaylaw4_wakes.mono)); (case hx => first | exact lim_const _ | rfl)) | rfl)
theorem fairwaylaw4_PropBytes.l1L_eq (x0 : List (S25)) (x3 : Int) (x5 : Int) (x298000 : Int) (x298001 : List (S42)) (x298002 : ByteArray) : fairwaylaw4_PropBytes.l1L x0 x3 x5 x298000 x298001 x298002 = if x5 ≤ 16 then ((fairwayref0_CopyProps.fL x298001).bind fun t299 => ((prop_Bytes.fL x5 t299).bind fun bt302 => ((fairwayref4_Props.fL x5 x298001).bind fun t304 => (if t304 = true then ((fairwayref4_PropBytes.fL x298001).bind fun t305 => (fairwaylaw4_PropBytes.j3L x0 x3 x5 t299 bt302.1 bt302.2 0 t305 x298000 x298001 x298002)) else (fairwaylaw4_PropBytes.j3L x0 x3 x5 t299 bt302.1 bt302.2 1 (⟨#[]⟩ : ByteArray) x298000 x298001 x298002))))) else (fairwaylaw4_PropBytes.l0L x0 (wrap64 (x3 + 1))) := by
  show lim (fun k => fairwaylaw4_PropBytes.l1 k x0 x3 x5 x298000 x298001 x298002) = _
  rw [lim_step (f := fun k => if x5 ≤ 16 then ((fairwayref0_CopyProps.f k x298001).bind fun t299 => ((prop_Bytes.f k x5 t299).bind fun bt302 => ((fairwayref4_Props.f k x5 x298001).bind fun t304 => (if t304 = true then ((fairwayref4_PropBytes.f k x298001).bind fun t305 => (fairwaylaw4_PropBytes.j3 k x0 x3 x5 t299 bt302.1 bt302.2 0 t305 x298000 x298001 x298002)) else (fairwaylaw4_PropBytes.j3 k x0 x3 x5 t299 bt302.1 bt302.2 1 (⟨#[]⟩ : ByteArray) x298000 x298001 x298002))))) else (fairwaylaw4_PropBytes.l0 k x0 (wrap64 (x3 + 1)))) (fun k => by first | rfl | simp only [fairwaylaw4_PropBytes.l1])]
  repeat' (first | exact lim_const _ | (with_reducible refine lim_ite' ?_ ?_) | ((with_reducible refine lim_bind' ?hm ?hx (fun _ => ?_)); (case hm => exact (fun k => by first | exact LeO.refl _ | apply fairwayref0_CopyProps.mono | apply fairwayref4_PropBytes.mono | apply fairwayref4_Props.mono | apply prop_Bytes.mono)); (case hx => first | exact lim_const _ | rfl)) | rfl)
theorem fairwaylaw4_PropBytes.j3L_eq (x0 : List (S25)) (x3 : Int) (x5 : Int) (x6 : List (S42)) (x7 : ByteArray) (x8 : Int) (x9 : Int) (x10 : ByteArray) (x298000 : Int) (x298001 : List (S42)) (x298002 : ByteArray) : fairwaylaw4_PropBytes.j3L x0 x3 x5 x6 x7 x8 x9 x10 x298000 x298001 x298002 = (prop_Check.fL x5 x6).bind fun t306 => ((fairwaylaw4_num.f t306).bind fun t307 => (if t307 = x9 then ((fairwaylaw4_num.f x8).bind fun t308 => (if t308 = x9 then (if x7.toList = x10.toList then ((fairwayref0_EqProps.fL x6 x298001).bind fun t309 => (if t309 = true then (fairwaylaw4_PropBytes.l1L x0 x3 (wrap64 (x5 + 1)) x298000 x298001 x298002) else (some false))) else (some false)) else (some false))) else (some false))) := by
  show lim (fun k => fairwaylaw4_PropBytes.j3 k x0 x3 x5 x6 x7 x8 x9 x10 x298000 x298001 x298002) = _
  rw [lim_step (f := fun k => (prop_Check.f k x5 x6).bind fun t306 => ((fairwaylaw4_num.f t306).bind fun t307 => (if t307 = x9 then ((fairwaylaw4_num.f x8).bind fun t308 => (if t308 = x9 then (if x7.toList = x10.toList then ((fairwayref0_EqProps.f k x6 x298001).bind fun t309 => (if t309 = true then (fairwaylaw4_PropBytes.l1 k x0 x3 (wrap64 (x5 + 1)) x298000 x298001 x298002) else (some false))) else (some false)) else (some false))) else (some false)))) (fun k => by first | rfl | simp only [fairwaylaw4_PropBytes.j3])]
  repeat' (first | exact lim_const _ | (with_reducible refine lim_ite' ?_ ?_) | ((with_reducible refine lim_bind' ?hm ?hx (fun _ => ?_)); (case hm => exact (fun k => by first | exact LeO.refl _ | apply fairwayref0_EqProps.mono | apply prop_Check.mono)); (case hx => first | exact lim_const _ | rfl)) | rfl)
end Go.Proofs.YtiancopplinpcaaDoor.P
end
