/- The statement VbiNums, told of the printed functions alone. -/
import Derived.Test.YtajbopckmjjcfaaPx1
import Derived.Test.YtajbopckmjjcfaaPx2
import Derived.Test.YtajbopckmjjcfaaPureVbi1
import Derived.Test.YtajbopckmjjcfaaDVbiNums
namespace Go.Proofs.Ytajbopckmjjcfaa.P
open Go.RowKit Go.Proofs.YtajbopckmjjcfaaW.PrintWords Go.Proofs.YtajbopckmjjcfaaW.PrintLast Go.Proofs.YtajbopckmjjcfaaW.PrintMore
set_option linter.unusedSimpArgs false
set_option linter.unusedVariables false

theorem refNum (n m : Int) : fairwayref0_Num.f n m = some (decide (0 ≤ n ∧ n ≤ m)) := by
  unfold fairwayref0_Num.f
  by_cases h : 0 ≤ n
  · rw [if_pos h]; simp [h]
  · rw [if_neg h]; simp [h]
theorem nums_loop (l : List S24) (d : Nat) : ∀ i : Nat, l.length - i = d → Ev (fun k => fairwaylaw2_VbiNums.l0 k l (i : Int)) true := by
  induction d with
  | zero =>
    intro i hd
    obtain ⟨K, hw⟩ := wakes_ev
    refine ⟨K + 2, fun k hk => ?_⟩
    obtain ⟨k, rfl⟩ : ∃ m, k = m + 2 := ⟨k - 2, by omega⟩
    dsimp only at hw ⊢
    simp only [fairwaylaw2_VbiNums.l0, fairwaylaw2_VbiNums.j1]
    rw [if_neg (by omega), if_neg (by simp), hw k (by omega)]
    rfl
  | succ d ih =>
    intro i hd
    have hl : i < l.length := by omega
    by_cases h15 : (i : Int) < 15
    · obtain ⟨K0, h0⟩ := ih (i + 1) (by omega)
      generalize hn : (rd_T24 l i).f0 = n
      obtain ⟨K1, h1⟩ : Ev (fun k => vbi_Num.f k n) (if 0 ≤ n ∧ n ≤ 268435455 then (numOf n, 0) else ((⟨#[]⟩ : ByteArray), 2)) := by
        by_cases hz : 0 ≤ n ∧ n ≤ 268435455
        · rw [if_pos hz]; exact num_ok hz.1 hz.2
        · rw [if_neg hz]; exact num_no (by omega)
      obtain ⟨K2, h2⟩ := two_ev n
      obtain ⟨K3, h3⟩ := four_ev n
      obtain ⟨K4, h4⟩ := fixed2_ev n
      obtain ⟨K5, h5⟩ := fixed4_ev n
      obtain ⟨K6, h6⟩ : ∃ K, ∀ k, K ≤ k → 0 ≤ n ∧ n ≤ 268435455 → fairwayref1_Num.f k n = some (numOf n) := by
        by_cases hz : 0 ≤ n ∧ n ≤ 268435455
        · obtain ⟨K, h⟩ := ref_num_ok hz.1 (by omega)
          exact ⟨K, fun k hk _ => h k hk⟩
        · exact ⟨0, fun k hk h => absurd h hz⟩
      dsimp only at h0 h1 h2 h3 h4 h5
      refine ⟨K0 + K1 + K2 + K3 + K4 + K5 + K6 + 6, fun k hk => ?_⟩
      obtain ⟨k, rfl⟩ : ∃ m, k = m + 5 := ⟨k - 5, by omega⟩
      have hend := h0 k (by omega)
      have e1 : wrap64 ((i : Int) + 1) = ((i + 1 : Nat) : Int) := by unfold wrap64; omega
      rw [← e1] at hend
      clear e1
      have j4 : ∀ (a b d : ByteArray) (e f g : Int), fairwaylaw2_VbiNums.j4 (k + 1) l (i : Int) a e b f d g a b d e f g = some true := by
        intro a b d e f g
        simp only [fairwaylaw2_VbiNums.j4, num_id, Option.bind_some, if_true]
        exact hend
      dsimp only
      simp only [fairwaylaw2_VbiNums.l0]
      rw [if_pos (by omega)]
      simp only [fairwaylaw2_VbiNums.j1]
      rw [if_pos (by simpa using h15), if_pos (by omega), if_pos (by omega), hn, h1 _ (by omega)]
      simp only [Option.bind_some]
      rw [h2 _ (by omega)]
      simp only [Option.bind_some]
      rw [h3 _ (by omega)]
      simp only [Option.bind_some, refNum]
      have h6 := h6 (k + 3) (by omega)
      have h4 := h4 (k + 2) (by omega)
      have h5 := h5 (k + 1) (by omega)
      by_cases z1 : 0 ≤ n ∧ n ≤ 268435455
      · have z2 : 0 ≤ n ∧ n ≤ 4294967295 := by omega
        rw [if_pos (decide_eq_true z1), h6 z1, if_pos z1]
        simp only [Option.bind_some, fairwaylaw2_VbiNums.j2, refNum]
        by_cases z3 : 0 ≤ n ∧ n ≤ 65535
        · rw [if_pos (decide_eq_true z3), if_pos z3, h4]
          simp only [Option.bind_some, fairwaylaw2_VbiNums.j3, refNum]
          rw [if_pos (decide_eq_true z2), if_pos z2, h5]
          simp only [Option.bind_some]
          exact j4 _ _ _ _ _ _
        · rw [if_neg (by simpa using z3), if_neg z3]
          simp only [Option.bind_some, fairwaylaw2_VbiNums.j3, refNum]
          rw [if_pos (decide_eq_true z2), if_pos z2, h5]
          simp only [Option.bind_some]
          exact j4 _ _ _ _ _ _
      · rw [if_neg (by simpa using z1), if_neg z1]
        simp only [Option.bind_some, fairwaylaw2_VbiNums.j2, refNum]
        have z3 : ¬ (0 ≤ n ∧ n ≤ 65535) := by omega
        rw [if_neg (by simpa using z3), if_neg z3]
        simp only [Option.bind_some, fairwaylaw2_VbiNums.j3, refNum]
        by_cases z2 : 0 ≤ n ∧ n ≤ 4294967295
        · rw [if_pos (decide_eq_true z2), if_pos z2, h5]
          simp only [Option.bind_some]
          exact j4 _ _ _ _ _ _
        · rw [if_neg (by simpa using z2), if_neg z2]
          exact j4 _ _ _ _ _ _
    · obtain ⟨K, hw⟩ := wakes_ev
      refine ⟨K + 2, fun k hk => ?_⟩
      obtain ⟨k, rfl⟩ : ∃ m, k = m + 2 := ⟨k - 2, by omega⟩
      dsimp only at hw ⊢
      simp only [fairwaylaw2_VbiNums.l0]
      rw [if_pos (by omega)]
      simp only [fairwaylaw2_VbiNums.j1]
      rw [if_neg (by simpa using h15), hw k (by omega)]
      rfl
theorem VbiNums_pure : VbiNums.Pure := fun l _ => Ev.rounds (nums_loop l l.length 0 (by omega))
end Go.Proofs.Ytajbopckmjjcfaa.P
