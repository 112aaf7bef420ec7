/- What the numbers' functions come to, told in plain arithmetic: the program's and the page's alike. -/
import Derived.Test.YtiancopplinpcaaDoorPx12
import Derived.Test.YtiancopplinpcaaDoorPx17
import Derived.Test.YtiancopplinpcaaDoorPx20
import Derived.Test.YtiancopplinpcaaDoorPx4
import Derived.Test.YtiancopplinpcaaDoorPx5
import Derived.Test.YtiancopplinpcaaDoorPx9
namespace Go.Proofs.YtiancopplinpcaaDoor.P
open Go.RowKit Go.Proofs.YtiancopplinpcaaDoorW.PrintWords Go.Proofs.YtiancopplinpcaaDoorW.PrintLast Go.Proofs.YtiancopplinpcaaDoorW.PrintMore
set_option linter.unusedSimpArgs false
set_option linter.unusedVariables false

theorem w64 {n : Int} (h0 : -9223372036854775808 ≤ n) (h1 : n ≤ 9223372036854775807) : wrap64 n = n := by unfold wrap64; omega
theorem wraps_i64 (n : Int) (h₀ : 0 ≤ n) (h₁ : n < 2 ^ 63) : IntKind.i64.wrap n = n := by rw [IntKind.wrap_i64]; omega
theorem bt_lo (s : ByteArray) (i : Int) : 0 ≤ bt s i := (bt_range s i).1
theorem bt_hi (s : ByteArray) (i : Int) : bt s i ≤ 255 := (bt_range s i).2
theorem w64bt (s : ByteArray) (i : Int) : wrap64 (bt s i) = bt s i := w64 (by have := bt_lo s i; omega) (by have := bt_hi s i; omega)
/-- The low seven bits. -/
theorem and127 {x : Int} (h0 : 0 ≤ x) (h1 : x < 9223372036854775808) : Go.bits .and .i64 x 127 = x % 128 :=
  bits_mask .i64 63 (by decide) wraps_i64 7 (by decide) x h0 (by simpa using h1)
theorem or128 {x : Int} (h0 : 0 ≤ x) (h1 : x < 128) : Go.bits .or .i64 x 128 = x + 128 := by
  obtain ⟨a, rfl⟩ := Int.eq_ofNat_of_zero_le h0
  have h := (bits_nat .i64 63 (by decide) wraps_i64 a 128 (by have : a < 128 := by omega
                                                              exact Nat.lt_of_lt_of_le this (by decide)) (by decide)).2
  have e : a ||| 128 = a + 128 := by
    have : a < 2 ^ 7 := by omega
    rw [Nat.or_comm, show (128 : Nat) = 2 ^ 7 * 1 from rfl, ← Nat.two_pow_add_eq_or_of_lt this 1, Nat.add_comm]
  rw [e] at h
  simpa using h
/-- A shifted number beside a lower one. -/
theorem or_shl {x y : Int} (m : Nat) (hx : 0 ≤ x) (hx1 : x < 2 ^ m) (hy : 0 ≤ y) (hm : y * 2 ^ m + 2 ^ m ≤ 9223372036854775808) : Go.bits .or .i64 x (y * 2 ^ m) = x + y * 2 ^ m := by
  obtain ⟨a, rfl⟩ := Int.eq_ofNat_of_zero_le hx
  obtain ⟨b, rfl⟩ := Int.eq_ofNat_of_zero_le hy
  have ha : a < 2 ^ m := by exact_mod_cast hx1
  have hb : b * 2 ^ m + 2 ^ m ≤ 9223372036854775808 := by
    have e : (((b * 2 ^ m + 2 ^ m : Nat)) : Int) = (b : Int) * 2 ^ m + 2 ^ m := by simp
    omega
  have hp : 0 < 2 ^ m := Nat.two_pow_pos m
  have h := (bits_nat .i64 63 (by decide) wraps_i64 a (b * 2 ^ m) (Nat.lt_of_lt_of_le (by omega) (show 9223372036854775808 ≤ 2 ^ 63 by decide)) (Nat.lt_of_lt_of_le (by omega) (show 9223372036854775808 ≤ 2 ^ 63 by decide))).2
  rw [Nat.or_comm, show b * 2 ^ m = 2 ^ m * b from Nat.mul_comm _ _, ← Nat.two_pow_add_eq_or_of_lt ha b] at h
  have e : ((b : Int) * 2 ^ m) = ((2 ^ m * b : Nat) : Int) := by rw [Nat.mul_comm]; simp
  rw [e, h]
  simp [Int.add_comm]
/-- One byte behind a number. -/
theorem or_byte {x y : Int} (hx : 0 ≤ x) (hx1 : x < 36028797018963968) (hy : 0 ≤ y) (hy1 : y < 256) : Go.bits .or .i64 (x * 256) y = x * 256 + y :=
  bits_join .i64 63 (by decide) wraps_i64 8 (x * 256) y (by omega) (by omega) (by omega) hy (by omega) (by omega)

/-! ### numbers in seven bits -/
/-- A number's bytes. -/
def vb (n : Nat) : List Int := if n < 128 then [(n : Int)] else ((n % 128 + 128 : Nat) : Int) :: vb (n / 128)
termination_by n
decreasing_by omega
theorem vb_small {n : Nat} (h : n < 128) : vb n = [(n : Int)] := by rw [vb, if_pos h]
theorem vb_big {n : Nat} (h : 128 ≤ n) : vb n = ((n % 128 + 128 : Nat) : Int) :: vb (n / 128) := by rw [vb, if_neg (by omega)]

theorem num_loop (n : Nat) : ∀ (k : Nat) (acc : List Int), n < k → (acc.length : Int) + n < 140737488355328 → vbi_Num.l0 k (n : Int) acc = some (strOfNums (acc ++ vb n), 0) := by
  induction n using Nat.strongRecOn with
  | _ n ih =>
    intro k acc hk hl
    obtain ⟨k, rfl⟩ : ∃ m, k = m + 1 := ⟨k - 1, by omega⟩
    simp only [vbi_Num.l0]
    rw [if_pos (show acc.length < 140737488355328 by omega)]
    by_cases h : n < 128
    · rw [if_neg (by omega), vb_small h, if_pos (by omega)]
      rw [show (n : Int) % 256 = n by omega]
    · have e : (Go.bits .or .i64 (Go.bits .and .i64 (n : Int) 127) 128) % 256 = ((n % 128 + 128 : Nat) : Int) := by
        rw [and127 (by omega) (by omega), or128 (by omega) (by omega)]; omega
      rw [if_pos (by omega), vb_big (by omega), e, show (n : Int) / 128 = ((n / 128 : Nat) : Int) by omega]
      rw [ih (n / 128) (by omega) k _ (by omega) (by simp; omega)]
      simp
theorem ref_num_loop (n : Nat) (hn : n ≤ 9223372036854775807) : ∀ (k : Nat) (acc : List Int), n < k → (acc.length : Int) + n < 140737488355328 → fairwayref1_Num.l0 k (n : Int) acc = some (strOfNums (acc ++ vb n)) := by
  induction n using Nat.strongRecOn with
  | _ n ih =>
    intro k acc hk hl
    obtain ⟨k, rfl⟩ : ∃ m, k = m + 1 := ⟨k - 1, by omega⟩
    simp only [fairwayref1_Num.l0]
    rw [if_pos (show acc.length < 140737488355328 by omega)]
    by_cases h : n < 128
    · rw [if_neg (by omega), vb_small h, if_pos (by omega)]
      rw [show (n : Int) % 256 = n by omega]
    · have e1 : wrap64 (Int.tdiv (n : Int) 128) = ((n / 128 : Nat) : Int) := by
        rw [Int.tdiv_eq_ediv_of_nonneg (by omega)]; unfold wrap64; omega
      have e2 : (wrap64 ((Int.tmod (n : Int) 128) + 128)) % 256 = ((n % 128 + 128 : Nat) : Int) := by
        rw [Int.tmod_eq_emod_of_nonneg (by omega)]; unfold wrap64; omega
      rw [if_pos (by omega), vb_big (by omega), e1, e2]
      rw [ih (n / 128) (by omega) (by omega) k _ (by omega) (by simp; omega)]
      simp
/-- The bytes of a number of at most four of them. -/
def numOf (n : Int) : ByteArray := strOfNums (vb n.toNat)
theorem num_ok {n : Int} (h0 : 0 ≤ n) (h1 : n ≤ 268435455) : Ev (fun k => vbi_Num.f k n) (numOf n, 0) := by
  refine ⟨n.toNat + 3, fun k hk => ?_⟩
  obtain ⟨k, rfl⟩ : ∃ m, k = m + 1 := ⟨k - 1, by omega⟩
  obtain ⟨m, rfl⟩ := Int.eq_ofNat_of_zero_le h0
  dsimp only
  unfold vbi_Num.f
  rw [if_neg (by omega)]
  simp only [vbi_Num.j0]
  rw [if_neg (by simp; omega), num_loop m k [] (by omega) (by simp; omega)]
  rfl
theorem num_no {n : Int} (h : n < 0 ∨ 268435455 < n) : Ev (fun k => vbi_Num.f k n) ((⟨#[]⟩ : ByteArray), 2) := by
  refine ⟨1, fun k hk => ?_⟩
  obtain ⟨k, rfl⟩ : ∃ m, k = m + 1 := ⟨k - 1, by omega⟩
  dsimp only
  unfold vbi_Num.f
  rcases h with h | h
  · rw [if_pos h]; rfl
  · rw [if_neg (by omega)]
    simp only [vbi_Num.j0]
    rw [if_pos (by simp; omega)]
theorem ref_num_ok {n : Int} (h0 : 0 ≤ n) (h1 : n ≤ 1000000000) : Ev (fun k => fairwayref1_Num.f k n) (numOf n) := by
  refine ⟨n.toNat + 3, fun k hk => ?_⟩
  obtain ⟨m, rfl⟩ := Int.eq_ofNat_of_zero_le h0
  dsimp only
  unfold fairwayref1_Num.f
  rw [ref_num_loop m (by omega) k [] (by omega) (by simp; omega)]
  rfl
/-- What a number's bytes are taken as: with d bytes to go, from byte i on, n so far. -/
def tk (s : ByteArray) : Nat → Nat → Int → Int × Int × Int
  | 0, _, _ => (0, 0, 8)
  | d + 1, i, n => if s.size ≤ i then (0, 0, 7) else if 128 ≤ bt s i then tk s d (i + 1) (n + bt s i % 128 * 2 ^ (7 * i)) else if bt s i = 0 ∧ 0 < i then (0, 0, 8) else (n + bt s i % 128 * 2 ^ (7 * i), ((i + 1 : Nat) : Int), 0)
/-- The number that bytes begin with, how many bytes it has, the error. -/
def tkn (s : ByteArray) : Int × Int × Int := tk s 4 0 0

theorem w7 (i : Nat) (hi : i < 4) : wrap64 (7 * (i : Int)) = ((7 * i : Nat) : Int) := by unfold wrap64; omega
theorem tk_step (i : Nat) (hi : i < 4) (n : Int) (h0 : 0 ≤ n) (h1 : n < 2 ^ (7 * i)) (c : Int) (hc0 : 0 ≤ c) (hc1 : c < 128) :
    Go.bits .or .i64 n (shl .i64 c (wrap64 (7 * (i : Int)))) = n + c * 2 ^ (7 * i) ∧ 0 ≤ n + c * 2 ^ (7 * i) ∧ n + c * 2 ^ (7 * i) < 2 ^ (7 * (i + 1)) := by
  have hw := w7 i hi
  have hs : shl .i64 c (wrap64 (7 * (i : Int))) = c * 2 ^ (7 * i) := by
    unfold shl
    rw [hw, Int.toNat_natCast, Nat.min_eq_left (by simp [IntKind.bits]; omega)]
    refine wraps_i64 _ ?_ ?_
    · exact Int.mul_nonneg hc0 (Int.pow_nonneg (by decide))
    · rcases (show i = 0 ∨ i = 1 ∨ i = 2 ∨ i = 3 by omega) with rfl | rfl | rfl | rfl <;> omega
  rw [hs]
  rcases (show i = 0 ∨ i = 1 ∨ i = 2 ∨ i = 3 by omega) with rfl | rfl | rfl | rfl
  all_goals refine ⟨or_shl _ h0 h1 hc0 (by omega), by omega, by omega⟩

theorem take_loop (s : ByteArray) (d : Nat) : ∀ (i : Nat) (n : Int) (k : Nat), i + d = 4 → 0 < d → 0 ≤ n → n < 2 ^ (7 * i) → 3 * d < k → vbi_TakeNum.l0 k s n (i : Int) = some (tk s d i n) := by
  induction d with
  | zero => intro i n k _ h; omega
  | succ d ih =>
    intro i n k hid _ h0 h1 hk
    obtain ⟨k, rfl⟩ : ∃ m, k = m + 3 := ⟨k - 3, by omega⟩
    have hb0 := bt_lo s i; have hb1 := bt_hi s i
    simp only [vbi_TakeNum.l0, tk]
    by_cases hs : s.size ≤ i
    · rw [if_neg (by omega), if_pos hs]
    · rw [if_pos (by omega), if_pos (by omega), if_pos (by rw [w7 i (by omega)]; exact Int.natCast_nonneg _), if_neg hs, w64bt, and127 hb0 (by omega)]
      obtain ⟨hv, hv0, hv1⟩ := tk_step i (by omega) n h0 h1 (bt s i % 128) (by omega) (by omega)
      rw [hv, w64 (n := (i : Int) + 1) (by omega) (by omega)]
      by_cases hc : 128 ≤ bt s i
      · rw [if_pos (by omega), if_pos hc]
        simp only [vbi_TakeNum.j1]
        by_cases h4 : (i : Int) + 1 = 4
        · have : d = 0 := by omega
          subst this
          rw [if_pos (by simp [h4])]
          simp only [vbi_TakeNum.j2]
          rw [if_pos (by simp [h4])]
          rfl
        · rw [if_neg (by simp [h4]), if_neg (by omega)]
          simp only [vbi_TakeNum.j2]
          rw [if_neg (by simp), if_neg (by omega)]
          exact ih (i + 1) _ k (by omega) (by omega) hv0 hv1 (by omega)
      · rw [if_neg (by omega), if_neg hc]
        simp only [vbi_TakeNum.j1]
        rw [if_neg (by simp)]
        by_cases hz : bt s i = 0
        · rw [if_pos hz]
          simp only [vbi_TakeNum.j2]
          by_cases hp : 0 < i
          · rw [if_pos (by simp; omega), if_pos ⟨hz, hp⟩]
          · rw [if_neg (by simp; omega), if_pos (by omega), if_neg (by omega)]
            rfl
        · rw [if_neg hz]
          simp only [vbi_TakeNum.j2]
          rw [if_neg (by simp), if_pos (by omega), if_neg (by omega)]
          rfl
theorem take_ev (s : ByteArray) : Ev (fun k => vbi_TakeNum.f k s) (tkn s) :=
  ⟨20, fun k hk => take_loop s 4 0 0 k rfl (by decide) (by decide) (by decide) (by omega)⟩
theorem ref_take_loop (s : ByteArray) (d : Nat) : ∀ (i : Nat) (n : Int) (k : Nat), i + d = 4 → 0 ≤ n → n < 2 ^ (7 * i) → d < k → fairwayref1_TakeNum.l0 k s n (i : Int) = some (tk s d i n) := by
  induction d with
  | zero =>
    intro i n k hid _ _ hk
    obtain ⟨k, rfl⟩ : ∃ m, k = m + 1 := ⟨k - 1, by omega⟩
    simp only [fairwayref1_TakeNum.l0, tk]
    rw [if_neg (by omega)]
  | succ d ih =>
    intro i n k hid h0 h1 hk
    obtain ⟨k, rfl⟩ : ∃ m, k = m + 1 := ⟨k - 1, by omega⟩
    have hb0 := bt_lo s i; have hb1 := bt_hi s i
    simp only [fairwayref1_TakeNum.l0, tk]
    rw [if_pos (by omega)]
    by_cases hs : s.size ≤ i
    · rw [if_pos (by omega), if_pos hs]
    · rw [if_neg (by omega), if_pos (by omega), if_pos (by omega), if_pos (by rw [w7 i (by omega)]; exact Int.natCast_nonneg _), if_neg hs, w64bt, Int.tmod_eq_emod_of_nonneg hb0]
      obtain ⟨hv, hv0, hv1⟩ := tk_step i (by omega) n h0 h1 (bt s i % 128) (by omega) (by omega)
      rw [hv, w64 (n := (i : Int) + 1) (by omega) (by omega)]
      by_cases hc : 128 ≤ bt s i
      · rw [if_neg (by omega), if_pos hc]
        exact ih (i + 1) _ k (by omega) hv0 hv1 (by omega)
      · rw [if_pos (by omega), if_neg hc]
        by_cases hz : bt s i = 0
        · rw [if_pos hz]
          by_cases hp : 0 < i
          · rw [if_pos (by omega), if_pos ⟨hz, hp⟩]
          · rw [if_neg (by omega), if_neg (by omega)]
            rfl
        · rw [if_neg hz, if_neg (by omega)]
          rfl
theorem ref_take_ev (s : ByteArray) : Ev (fun k => fairwayref1_TakeNum.f k s) (tkn s) :=
  ⟨20, fun k hk => ref_take_loop s 4 0 0 k rfl (by decide) (by decide) (by omega)⟩
/-! ### numbers in so many bytes -/
theorem shr_at {n : Int} (m : Nat) (j : Int) (hj : wrap64 j = (m : Int)) (hm : m ≤ 64) : shr .i64 n (wrap64 j) = n / 2 ^ m := by
  unfold shr
  rw [hj, Int.toNat_natCast, Nat.min_eq_left (by simpa [IntKind.bits] using hm)]
def two (n : Int) : ByteArray := strOfNums [n / 256 % 256, n % 256]
def four (n : Int) : ByteArray := strOfNums [n / 16777216 % 256, n / 65536 % 256, n / 256 % 256, n % 256]
theorem two_ev (n : Int) : Ev (fun k => vbi_Two.f k n) (if 0 ≤ n ∧ n ≤ 65535 then (two n, 0) else ((⟨#[]⟩ : ByteArray), 2)) := by
  refine ⟨10, fun k hk => ?_⟩
  obtain ⟨k, rfl⟩ : ∃ m, k = m + 10 := ⟨k - 10, by omega⟩
  have e0 : shr .i64 n (wrap64 (8 * 0)) = n := by rw [shr_at 0 _ (by unfold wrap64; omega) (by decide)]; simp
  have e1 : shr .i64 n (wrap64 (8 * 1)) = n / 256 := by rw [shr_at 8 _ (by unfold wrap64; omega) (by decide)]; rfl
  have e2 : shr .i64 n (wrap64 (8 * 2)) = n / 65536 := by rw [shr_at 16 _ (by unfold wrap64; omega) (by decide)]; rfl
  dsimp only
  unfold vbi_Two.f vbi_high.f
  by_cases h0 : n < 0
  · rw [if_pos h0, if_neg (by omega)]
    simp only [vbi_high.j0, if_true, Option.bind_some]
  · rw [if_neg h0, if_pos (by unfold wrap64; omega), e2]
    simp only [vbi_high.j0]
    by_cases h1 : n ≤ 65535
    · have hz : n / 65536 = 0 := by omega
      rw [hz, if_neg (by decide), if_pos (by decide), if_pos (by decide), if_pos ⟨by omega, h1⟩]
      simp only [Option.bind_some, vbi_high.l0]
      simp only [show (wrap64 (wrap64 (2 - 1) - 0)) = 1 by unfold wrap64; omega, show wrap64 (0 + 1) = 1 by unfold wrap64; omega, show (wrap64 (wrap64 (2 - 1) - 1)) = 0 by unfold wrap64; omega, show wrap64 (1 + 1) = 2 by unfold wrap64; omega, e0, e1,
        show (0 : Int) < ((List.replicate (2 : Int).toNat 0 : List Int).length : Int) by decide, show (1 : Int) < ((List.replicate (2 : Int).toNat 0 : List Int).length : Int) by decide, show ¬ (2 : Int) < ((List.replicate (2 : Int).toNat 0 : List Int).length : Int) by decide,
        if_true, if_false, List.length_set, show (0 : Int) ≤ wrap64 (8 * 0) by unfold wrap64; omega, show (0 : Int) ≤ wrap64 (8 * 1) by unfold wrap64; omega, show (0 : Int) ≤ 1 by decide, Int.le_refl]
      rfl
    · rw [if_pos (by simp; omega), if_neg (by omega)]
      rfl
theorem four_ev (n : Int) : Ev (fun k => vbi_Four.f k n) (if 0 ≤ n ∧ n ≤ 4294967295 then (four n, 0) else ((⟨#[]⟩ : ByteArray), 2)) := by
  refine ⟨10, fun k hk => ?_⟩
  obtain ⟨k, rfl⟩ : ∃ m, k = m + 10 := ⟨k - 10, by omega⟩
  have e0 : shr .i64 n (wrap64 (8 * 0)) = n := by rw [shr_at 0 _ (by unfold wrap64; omega) (by decide)]; simp
  have e1 : shr .i64 n (wrap64 (8 * 1)) = n / 256 := by rw [shr_at 8 _ (by unfold wrap64; omega) (by decide)]; rfl
  have e2 : shr .i64 n (wrap64 (8 * 2)) = n / 65536 := by rw [shr_at 16 _ (by unfold wrap64; omega) (by decide)]; rfl
  have e3 : shr .i64 n (wrap64 (8 * 3)) = n / 16777216 := by rw [shr_at 24 _ (by unfold wrap64; omega) (by decide)]; rfl
  have e4 : shr .i64 n (wrap64 (8 * 4)) = n / 4294967296 := by rw [shr_at 32 _ (by unfold wrap64; omega) (by decide)]; rfl
  dsimp only
  unfold vbi_Four.f vbi_high.f
  by_cases h0 : n < 0
  · rw [if_pos h0, if_neg (by omega)]
    simp only [vbi_high.j0, if_true, Option.bind_some]
  · rw [if_neg h0, if_pos (by unfold wrap64; omega), e4]
    simp only [vbi_high.j0]
    by_cases h1 : n ≤ 4294967295
    · have hz : n / 4294967296 = 0 := by omega
      rw [hz, if_neg (by decide), if_pos (by decide), if_pos (by decide), if_pos ⟨by omega, h1⟩]
      simp only [Option.bind_some, vbi_high.l0]
      simp only [show (wrap64 (wrap64 (4 - 1) - 0)) = 3 by unfold wrap64; omega, show wrap64 (0 + 1) = 1 by unfold wrap64; omega, show (wrap64 (wrap64 (4 - 1) - 1)) = 2 by unfold wrap64; omega, show wrap64 (1 + 1) = 2 by unfold wrap64; omega, show (wrap64 (wrap64 (4 - 1) - 2)) = 1 by unfold wrap64; omega, show wrap64 (2 + 1) = 3 by unfold wrap64; omega, show (wrap64 (wrap64 (4 - 1) - 3)) = 0 by unfold wrap64; omega, show wrap64 (3 + 1) = 4 by unfold wrap64; omega, e0, e1, e2, e3,
        show (0 : Int) < ((List.replicate (4 : Int).toNat 0 : List Int).length : Int) by decide, show (1 : Int) < ((List.replicate (4 : Int).toNat 0 : List Int).length : Int) by decide, show (2 : Int) < ((List.replicate (4 : Int).toNat 0 : List Int).length : Int) by decide, show (3 : Int) < ((List.replicate (4 : Int).toNat 0 : List Int).length : Int) by decide, show ¬ (4 : Int) < ((List.replicate (4 : Int).toNat 0 : List Int).length : Int) by decide,
        if_true, if_false, List.length_set, show (0 : Int) ≤ wrap64 (8 * 0) by unfold wrap64; omega, show (0 : Int) ≤ wrap64 (8 * 1) by unfold wrap64; omega, show (0 : Int) ≤ wrap64 (8 * 2) by unfold wrap64; omega, show (0 : Int) ≤ wrap64 (8 * 3) by unfold wrap64; omega, show (0 : Int) ≤ 1 by decide, show (0 : Int) ≤ 2 by decide, show (0 : Int) ≤ 3 by decide, Int.le_refl]
      rfl
    · rw [if_pos (by simp; omega), if_neg (by omega)]
      rfl
theorem fixed2_ev (n : Int) : Ev (fun k => fairwayref1_Fixed.f k n 2) (two n) := by
  refine ⟨10, fun k hk => ?_⟩
  obtain ⟨k, rfl⟩ : ∃ m, k = m + 10 := ⟨k - 10, by omega⟩
  have e0 : shr .i64 n (wrap64 (8 * 0)) = n := by rw [shr_at 0 _ (by unfold wrap64; omega) (by decide)]; simp
  have e1 : shr .i64 n (wrap64 (8 * 1)) = n / 256 := by rw [shr_at 8 _ (by unfold wrap64; omega) (by decide)]; rfl
  dsimp only
  unfold fairwayref1_Fixed.f
  simp only [show wrap64 (2 - 1) = 1 by unfold wrap64; omega, fairwayref1_Fixed.l0, show wrap64 (1 - 1) = 0 by unfold wrap64; omega, show wrap64 (0 - 1) = -1 by unfold wrap64; omega, e0, e1, show (1 : Int) ≥ 0 by decide, show (0 : Int) ≥ 0 by decide, show ¬ (-1 : Int) ≥ 0 by decide,
    show (0 : Int) ≤ wrap64 (8 * 0) by unfold wrap64; omega, show (0 : Int) ≤ wrap64 (8 * 1) by unfold wrap64; omega, if_true, if_false, List.length_nil, List.length_append, List.length_cons, List.nil_append, List.cons_append, show (0 : Nat) < 140737488355328 by decide, show (0 + 1 : Nat) < 140737488355328 by decide]
  rfl
theorem fixed4_ev (n : Int) : Ev (fun k => fairwayref1_Fixed.f k n 4) (four n) := by
  refine ⟨10, fun k hk => ?_⟩
  obtain ⟨k, rfl⟩ : ∃ m, k = m + 10 := ⟨k - 10, by omega⟩
  have e0 : shr .i64 n (wrap64 (8 * 0)) = n := by rw [shr_at 0 _ (by unfold wrap64; omega) (by decide)]; simp
  have e1 : shr .i64 n (wrap64 (8 * 1)) = n / 256 := by rw [shr_at 8 _ (by unfold wrap64; omega) (by decide)]; rfl
  have e2 : shr .i64 n (wrap64 (8 * 2)) = n / 65536 := by rw [shr_at 16 _ (by unfold wrap64; omega) (by decide)]; rfl
  have e3 : shr .i64 n (wrap64 (8 * 3)) = n / 16777216 := by rw [shr_at 24 _ (by unfold wrap64; omega) (by decide)]; rfl
  dsimp only
  unfold fairwayref1_Fixed.f
  simp only [show wrap64 (4 - 1) = 3 by unfold wrap64; omega, fairwayref1_Fixed.l0, show wrap64 (3 - 1) = 2 by unfold wrap64; omega, show wrap64 (2 - 1) = 1 by unfold wrap64; omega, show wrap64 (1 - 1) = 0 by unfold wrap64; omega, show wrap64 (0 - 1) = -1 by unfold wrap64; omega, e0, e1, e2, e3, show (3 : Int) ≥ 0 by decide, show (2 : Int) ≥ 0 by decide, show (1 : Int) ≥ 0 by decide, show (0 : Int) ≥ 0 by decide, show ¬ (-1 : Int) ≥ 0 by decide,
    show (0 : Int) ≤ wrap64 (8 * 0) by unfold wrap64; omega, show (0 : Int) ≤ wrap64 (8 * 1) by unfold wrap64; omega, show (0 : Int) ≤ wrap64 (8 * 2) by unfold wrap64; omega, show (0 : Int) ≤ wrap64 (8 * 3) by unfold wrap64; omega, if_true, if_false, List.length_nil, List.length_append, List.length_cons, List.nil_append, List.cons_append, show (0 : Nat) < 140737488355328 by decide, show (0 + 1 : Nat) < 140737488355328 by decide, show (0 + 1 + 1 : Nat) < 140737488355328 by decide, show (0 + 1 + 1 + 1 : Nat) < 140737488355328 by decide]
  rfl
/-- Bytes from a place on as a number. -/
def val2 (s : ByteArray) : Int := bt s 0 * 256 + bt s 1
def val4 (s : ByteArray) : Int := ((bt s 0 * 256 + bt s 1) * 256 + bt s 2) * 256 + bt s 3
theorem or00 {y : Int} (hy : 0 ≤ y) (hy1 : y < 256) : Go.bits .or .i64 (wrap64 (0 * 256)) y = y := by
  have := or_byte (x := 0) (by decide) (by decide) hy hy1
  rw [show wrap64 (0 * 256) = 0 * 256 by unfold wrap64; omega, this]; omega
theorem orb {x y : Int} (hx : 0 ≤ x) (hx1 : x < 36028797018963968) (hy : 0 ≤ y) (hy1 : y < 256) : Go.bits .or .i64 (wrap64 (x * 256)) y = x * 256 + y := by
  rw [w64 (by omega) (by omega), or_byte hx hx1 hy hy1]
theorem takeTwo_ev (s : ByteArray) : Ev (fun k => vbi_TakeTwo.f k s) (if (s.size : Int) < 2 then (0, 7) else (val2 s, 0)) := by
  refine ⟨10, fun k hk => ?_⟩
  obtain ⟨k, rfl⟩ : ∃ m, k = m + 10 := ⟨k - 10, by omega⟩
  dsimp only
  unfold vbi_TakeTwo.f vbi_taken.f
  by_cases h : (s.size : Int) < 2
  · rw [if_pos h, if_pos h]; rfl
  · have h0 := bt_range s 0; have h1 := bt_range s 1
    rw [if_neg h, if_neg h]
    simp only [vbi_taken.l0, show wrap64 (0 + 1) = 1 by unfold wrap64; omega, show wrap64 (1 + 1) = 2 by unfold wrap64; omega, w64bt, or00 h0.1 (show bt s 0 < 256 by omega), orb h0.1 (show bt s 0 < 36028797018963968 by omega) h1.1 (show bt s 1 < 256 by omega),
      show (0 : Int) < 2 by decide, show (1 : Int) < 2 by decide, Int.lt_irrefl, Int.le_refl, show (0 : Int) ≤ 1 by decide, show (0 : Int) < (s.size : Int) by omega, show (1 : Int) < (s.size : Int) by omega, if_true, if_false, Option.bind_some]
    rfl
theorem takeFour_ev (s : ByteArray) : Ev (fun k => vbi_TakeFour.f k s) (if (s.size : Int) < 4 then (0, 7) else (val4 s, 0)) := by
  refine ⟨10, fun k hk => ?_⟩
  obtain ⟨k, rfl⟩ : ∃ m, k = m + 10 := ⟨k - 10, by omega⟩
  dsimp only
  unfold vbi_TakeFour.f vbi_taken.f
  by_cases h : (s.size : Int) < 4
  · rw [if_pos h, if_pos h]; rfl
  · have h0 := bt_range s 0; have h1 := bt_range s 1; have h2 := bt_range s 2; have h3 := bt_range s 3
    rw [if_neg h, if_neg h]
    simp only [vbi_taken.l0, show wrap64 (0 + 1) = 1 by unfold wrap64; omega, show wrap64 (1 + 1) = 2 by unfold wrap64; omega, show wrap64 (2 + 1) = 3 by unfold wrap64; omega, show wrap64 (3 + 1) = 4 by unfold wrap64; omega, w64bt, or00 h0.1 (show bt s 0 < 256 by omega), orb h0.1 (show bt s 0 < 36028797018963968 by omega) h1.1 (show bt s 1 < 256 by omega),
      orb (show 0 ≤ bt s 0 * 256 + bt s 1 by omega) (show bt s 0 * 256 + bt s 1 < 36028797018963968 by omega) h2.1 (show bt s 2 < 256 by omega), orb (show 0 ≤ (bt s 0 * 256 + bt s 1) * 256 + bt s 2 by omega) (show (bt s 0 * 256 + bt s 1) * 256 + bt s 2 < 36028797018963968 by omega) h3.1 (show bt s 3 < 256 by omega),
      show (0 : Int) < 4 by decide, show (1 : Int) < 4 by decide, show (2 : Int) < 4 by decide, show (3 : Int) < 4 by decide, Int.lt_irrefl, Int.le_refl, show (0 : Int) ≤ 1 by decide, show (0 : Int) ≤ 2 by decide, show (0 : Int) ≤ 3 by decide, show (0 : Int) < (s.size : Int) by omega, show (1 : Int) < (s.size : Int) by omega, show (2 : Int) < (s.size : Int) by omega, show (3 : Int) < (s.size : Int) by omega, if_true, if_false, Option.bind_some]
    rfl
theorem ref_take1_ev (s : ByteArray) : Ev (fun k => fairwayref1_TakeFixed.f k s 1) (if (s.size : Int) < 1 then (0, false) else (bt s 0, true)) := by
  refine ⟨10, fun k hk => ?_⟩
  obtain ⟨k, rfl⟩ : ∃ m, k = m + 10 := ⟨k - 10, by omega⟩
  dsimp only
  unfold fairwayref1_TakeFixed.f
  by_cases h : (s.size : Int) < 1
  · rw [if_pos h, if_pos h]
  · have h0 := bt_range s 0
    rw [if_neg h, if_neg h]
    simp only [fairwayref1_TakeFixed.l0, show wrap64 (0 + 1) = 1 by unfold wrap64; omega, w64bt, or00 h0.1 (show bt s 0 < 256 by omega),
      show (0 : Int) < 1 by decide, Int.lt_irrefl, Int.le_refl, show (0 : Int) < (s.size : Int) by omega, if_true, if_false]
theorem ref_take2_ev (s : ByteArray) : Ev (fun k => fairwayref1_TakeFixed.f k s 2) (if (s.size : Int) < 2 then (0, false) else (val2 s, true)) := by
  refine ⟨10, fun k hk => ?_⟩
  obtain ⟨k, rfl⟩ : ∃ m, k = m + 10 := ⟨k - 10, by omega⟩
  dsimp only
  unfold fairwayref1_TakeFixed.f
  by_cases h : (s.size : Int) < 2
  · rw [if_pos h, if_pos h]
  · have h0 := bt_range s 0; have h1 := bt_range s 1
    rw [if_neg h, if_neg h]
    simp only [fairwayref1_TakeFixed.l0, show wrap64 (0 + 1) = 1 by unfold wrap64; omega, show wrap64 (1 + 1) = 2 by unfold wrap64; omega, w64bt, or00 h0.1 (show bt s 0 < 256 by omega), orb h0.1 (show bt s 0 < 36028797018963968 by omega) h1.1 (show bt s 1 < 256 by omega),
      show (0 : Int) < 2 by decide, show (1 : Int) < 2 by decide, Int.lt_irrefl, Int.le_refl, show (0 : Int) ≤ 1 by decide, show (0 : Int) < (s.size : Int) by omega, show (1 : Int) < (s.size : Int) by omega, if_true, if_false]
    rfl
theorem ref_take4_ev (s : ByteArray) : Ev (fun k => fairwayref1_TakeFixed.f k s 4) (if (s.size : Int) < 4 then (0, false) else (val4 s, true)) := by
  refine ⟨10, fun k hk => ?_⟩
  obtain ⟨k, rfl⟩ : ∃ m, k = m + 10 := ⟨k - 10, by omega⟩
  dsimp only
  unfold fairwayref1_TakeFixed.f
  by_cases h : (s.size : Int) < 4
  · rw [if_pos h, if_pos h]
  · have h0 := bt_range s 0; have h1 := bt_range s 1; have h2 := bt_range s 2; have h3 := bt_range s 3
    rw [if_neg h, if_neg h]
    simp only [fairwayref1_TakeFixed.l0, show wrap64 (0 + 1) = 1 by unfold wrap64; omega, show wrap64 (1 + 1) = 2 by unfold wrap64; omega, show wrap64 (2 + 1) = 3 by unfold wrap64; omega, show wrap64 (3 + 1) = 4 by unfold wrap64; omega, w64bt, or00 h0.1 (show bt s 0 < 256 by omega), orb h0.1 (show bt s 0 < 36028797018963968 by omega) h1.1 (show bt s 1 < 256 by omega),
      orb (show 0 ≤ bt s 0 * 256 + bt s 1 by omega) (show bt s 0 * 256 + bt s 1 < 36028797018963968 by omega) h2.1 (show bt s 2 < 256 by omega), orb (show 0 ≤ (bt s 0 * 256 + bt s 1) * 256 + bt s 2 by omega) (show (bt s 0 * 256 + bt s 1) * 256 + bt s 2 < 36028797018963968 by omega) h3.1 (show bt s 3 < 256 by omega),
      show (0 : Int) < 4 by decide, show (1 : Int) < 4 by decide, show (2 : Int) < 4 by decide, show (3 : Int) < 4 by decide, Int.lt_irrefl, Int.le_refl, show (0 : Int) ≤ 1 by decide, show (0 : Int) ≤ 2 by decide, show (0 : Int) ≤ 3 by decide, show (0 : Int) < (s.size : Int) by omega, show (1 : Int) < (s.size : Int) by omega, show (2 : Int) < (s.size : Int) by omega, show (3 : Int) < (s.size : Int) by omega, if_true, if_false]
    rfl
end Go.Proofs.YtiancopplinpcaaDoor.P
