/- The statement VbiBack, told of the printed functions alone. -/
import Derived.Test.YtajbopckmjjcfaaPx1
import Derived.Test.YtajbopckmjjcfaaPx2
import Derived.Test.YtajbopckmjjcfaaPx4
import Derived.Test.YtajbopckmjjcfaaPx6
import Derived.Test.YtajbopckmjjcfaaVbiBack
import Derived.Test.YtajbopckmjjcfaaPureVbi1
import Derived.Test.YtajbopckmjjcfaaDVbiBack
namespace Go.Proofs.Ytajbopckmjjcfaa.P
open Go.RowKit Go.Proofs.YtajbopckmjjcfaaW.PrintWords Go.Proofs.YtajbopckmjjcfaaW.PrintLast Go.Proofs.YtajbopckmjjcfaaW.PrintMore
set_option linter.unusedSimpArgs false
set_option linter.unusedVariables false

theorem within_ok (a : Int) {n : Int} (h0 : 0 < n) (h1 : n ≤ 1000000000) : ∃ m, fairwaylaw0_Within.f a n = some m ∧ 0 ≤ m ∧ m < n := by
  have e : IntKind.u64.wrap n = n := by simp [IntKind.wrap, IntKind.bits, IntKind.signed]; omega
  have u : 0 ≤ IntKind.u64.wrap a := by simp [IntKind.wrap, IntKind.bits, IntKind.signed]; omega
  unfold fairwaylaw0_Within.f
  rw [e, if_neg (by omega)]
  refine ⟨_, rfl, ?_⟩
  rw [Int.tmod_eq_emod_of_nonneg u]
  have := Int.emod_nonneg (IntKind.u64.wrap a) (show n ≠ 0 by omega)
  have := Int.emod_lt_of_pos (IntKind.u64.wrap a) h0
  rw [w64 (by omega) (by omega)]
  omega

theorem toList_eq (a b : ByteArray) : a.toList = b.toList ↔ a = b := by
  constructor
  · intro h
    rw [ByteArray.toList_eq, ByteArray.toList_eq] at h
    cases a; cases b
    simp only [ByteArray.mk.injEq]
    exact Array.toList_inj.1 h
  · rintro rfl; rfl

theorem w64_up (x : Nat) (h : x ≤ 3000) : wrap64 (2 + (x : Int)) = 2 + (x : Int) := by unfold wrap64; omega
theorem w64_dn (x : Nat) (h : x ≤ 5000) : wrap64 ((x : Int) - 1) = (x : Int) - 1 := by unfold wrap64; omega

theorem back_j4 (l : List S24) (i : Nat) (hl : i < l.length) (h0 : Ev (fun k => fairwaylaw2_VbiBack.l0 k l ((i + 1 : Nat) : Int)) true) (hi : (i : Int) < 15) :
    Ev (fun k => fairwaylaw2_VbiBack.j4 k l (i : Int)) true := by
  obtain ⟨K0, h0⟩ := h0
  obtain ⟨K1, h1⟩ := take_ev (rd_T24 l i).f2
  obtain ⟨K2, h2⟩ : ∃ K, ∀ k, K ≤ k → vbi_Num.f k (tkn (rd_T24 l i).f2).1 = some (if (0 ≤ (tkn (rd_T24 l i).f2).1 ∧ (tkn (rd_T24 l i).f2).1 ≤ 268435455) then (numOf (tkn (rd_T24 l i).f2).1, 0) else ((⟨#[]⟩ : ByteArray), 2)) := by
    by_cases hz : 0 ≤ (tkn (rd_T24 l i).f2).1 ∧ (tkn (rd_T24 l i).f2).1 ≤ 268435455
    · rw [if_pos hz]; exact num_ok hz.1 hz.2
    · rw [if_neg hz]; exact num_no (by omega)
  refine ⟨K0 + K1 + K2 + 4, fun k hk => ?_⟩
  obtain ⟨k, rfl⟩ : ∃ m, k = m + 4 := ⟨k - 4, by omega⟩
  dsimp only at h0 h1 ⊢
  simp only [fairwaylaw2_VbiBack.j4]
  rw [if_pos (by omega), if_pos (by omega), h1 _ (by omega)]
  have e1 : wrap64 ((i : Int) + 1) = ((i + 1 : Nat) : Int) := by unfold wrap64; omega
  simp only [Option.bind_some, num_id, e1]
  by_cases hz : (tkn (rd_T24 l i).f2).2.2 = 0
  · obtain ⟨a0, a1, a2, a3, a4, _⟩ := tkn_was (x := (rd_T24 l i).f2) (m := (tkn (rd_T24 l i).f2).1) (k := (tkn (rd_T24 l i).f2).2.1) (by rw [← hz])
    rw [if_pos hz, h2 _ (by omega), if_pos ⟨a0, a1⟩]
    simp only [Option.bind_some, num_id, if_true]
    rw [if_neg (by omega), if_neg (by omega), if_pos a2, if_pos a3, if_pos (by rw [toList_eq]; exact a4)]
    exact h0 _ (by omega)
  · rw [if_neg hz]
    exact h0 _ (by omega)

theorem back_tail (l : List S24) (i : Nat) (hl : i < l.length) (h0 : Ev (fun k => fairwaylaw2_VbiBack.l0 k l ((i + 1 : Nat) : Int)) true) (hs : (rd_T24 l i).f1.size ≤ 3000) (hx : (rd_T24 l i).f2.size ≤ 3000) (hi : (i : Int) < 15) (b : ByteArray) (hb : b.size ≤ 1000000) :
    Ev (fun k => fairwaylaw2_VbiBack.l1 k l (i : Int) b (b.size : Int)) true := by
  obtain ⟨K0, h0⟩ := back_j4 l i hl h0 hi
  obtain ⟨K1, h1⟩ := bin_ev (rd_T24 l i).f1
  dsimp only at h0 h1
  by_cases hz : ((rd_T24 l i).f1.size : Int) > 1024
  · rw [if_pos hz] at h1
    refine ⟨K0 + K1 + 4, fun k hk => ?_⟩
    obtain ⟨k, rfl⟩ : ∃ m, k = m + 1 := ⟨k - 1, by omega⟩
    dsimp only
    simp only [fairwaylaw2_VbiBack.l1]
    rw [if_neg (by omega), if_pos (by omega), if_pos (by omega), h1 _ (by omega)]
    simp only [Option.bind_some, num_id]
    rw [if_neg (by decide)]
    exact h0 _ (by omega)
  · rw [if_neg hz] at h1
    generalize hT : two ((rd_T24 l i).f1.size : Int) ++ (rd_T24 l i).f1 = t at h1
    have ht : t.size = 2 + (rd_T24 l i).f1.size := by rw [← hT, app_size, two_size]
    obtain ⟨K2, h2⟩ := takeBin_ev (t ++ (rd_T24 l i).f2) (by rw [app_size]; omega)
    obtain ⟨K3, h3⟩ := takeBin_ev (t.extract 0 (t.size - 1)) (by rw [extract_size _ (by omega) (by omega)]; omega)
    dsimp only at h2 h3
    have e2 : tbin (t ++ (rd_T24 l i).f2) = ((rd_T24 l i).f1, (t.size : Int), 0) := by rw [← hT]; exact tbin_back hz _
    have e3 : tbin (t.extract 0 (t.size - 1)) = ((⟨#[]⟩ : ByteArray), 0, 7) := by rw [← hT]; exact tbin_cut hz _ (by rw [app_size, two_size]; omega)
    rw [e2] at h2
    rw [e3] at h3
    refine ⟨K0 + K1 + K2 + K3 + 4, fun k hk => ?_⟩
    obtain ⟨k, rfl⟩ : ∃ m, k = m + 1 := ⟨k - 1, by omega⟩
    dsimp only
    simp only [fairwaylaw2_VbiBack.l1]
    rw [if_neg (by omega), if_pos (by omega), if_pos (by omega), h1 _ (by omega)]
    have o1 : (t.size : Int) = 2 + ((rd_T24 l i).f1.size : Int) := by omega
    have o2 : (0 : Int) ≤ (t.size : Int) - 1 := by omega
    have o3 : (t.size : Int) - 1 ≤ (t.size : Int) := by omega
    have o4 : t.size + (rd_T24 l i).f2.size ≤ 9223372036854775807 := by omega
    have w3 : ((t.size : Int) - 1).toNat = t.size - 1 := by omega
    simp only [Option.bind_some, num_id, w64_up _ hs, w64_dn _ (show t.size ≤ 5000 by omega), w3, if_true]
    rw [if_pos o1, if_pos o4, h2 _ (by omega)]
    simp only [Option.bind_some, num_id, if_true]
    rw [if_pos o2, if_pos o3, h3 _ (by omega)]
    simp only [Option.bind_some, num_id, if_true]
    exact h0 _ (by omega)

theorem back_cuts (l : List S24) (i : Nat) (b : ByteArray) (hb : b.size ≤ 1000000) (hcut : ∀ j, j < b.size → tkn (b.extract 0 j) = (0, 0, 7))
    (hend : Ev (fun k => fairwaylaw2_VbiBack.l1 k l (i : Int) b (b.size : Int)) true) (d : Nat) : ∀ j, b.size - j = d → j ≤ b.size → Ev (fun k => fairwaylaw2_VbiBack.l1 k l (i : Int) b (j : Int)) true := by
  induction d with
  | zero => intro j hd hj; have : j = b.size := by omega
            subst this; exact hend
  | succ d ih =>
    intro j hd hj
    obtain ⟨K0, h0⟩ := ih (j + 1) (by omega) (by omega)
    obtain ⟨K1, h1⟩ := take_ev (b.extract 0 j)
    refine ⟨K0 + K1 + 4, fun k hk => ?_⟩
    obtain ⟨k, rfl⟩ : ∃ m, k = m + 1 := ⟨k - 1, by omega⟩
    dsimp only at h0 h1 ⊢
    simp only [fairwaylaw2_VbiBack.l1]
    rw [if_pos (by omega), if_pos (by omega), if_pos (by omega), Int.toNat_natCast, h1 _ (by omega), hcut j (by omega)]
    simp only [Option.bind_some, num_id, if_true]
    rw [w64 (by omega) (by omega)]
    exact h0 _ (by omega)

theorem back_loop (l : List S24) (d : Nat) : ∀ i : Nat, l.length - i = d → Ev (fun k => fairwaylaw2_VbiBack.l0 k l (i : Int)) true := by
  induction d with
  | zero =>
    intro i hd
    obtain ⟨K, hw⟩ := wakes_ev
    refine ⟨K + 2, fun k hk => ?_⟩
    obtain ⟨k, rfl⟩ : ∃ m, k = m + 2 := ⟨k - 2, by omega⟩
    dsimp only at hw ⊢
    simp only [fairwaylaw2_VbiBack.l0, fairwaylaw2_VbiBack.j1]
    rw [if_neg (by omega), if_neg (by simp), hw k (by omega)]
    rfl
  | succ d ih =>
    intro i hd
    have hl : i < l.length := by omega
    by_cases h15 : (i : Int) < 15
    · have hh : fairwaylaw2_heavy.f (rd_T24 l i).f0 (rd_T24 l i).f1 (rd_T24 l i).f2 = some (decide (3000 < (rd_T24 l i).f1.size ∨ 3000 < (rd_T24 l i).f2.size)) := by
        unfold fairwaylaw2_heavy.f
        by_cases h1 : ((rd_T24 l i).f1.size : Int) > 3000
        · rw [if_pos h1]; simp; omega
        · have h2 : ¬ 3000 < (rd_T24 l i).f1.size := by omega
          rw [if_neg h1]; simp only [h2, false_or]; congr 1; exact decide_eq_decide.2 (by omega)
      by_cases hv : 3000 < (rd_T24 l i).f1.size ∨ 3000 < (rd_T24 l i).f2.size
      · refine ⟨2, fun k hk => ?_⟩
        obtain ⟨k, rfl⟩ : ∃ m, k = m + 2 := ⟨k - 2, by omega⟩
        dsimp only
        simp only [fairwaylaw2_VbiBack.l0]
        rw [if_pos (by omega)]
        simp only [fairwaylaw2_VbiBack.j1]
        rw [if_pos (by simpa using h15), if_pos (by omega), if_pos (by omega), hh]
        simp [hv]
      · rw [decide_eq_false hv] at hh
        obtain ⟨n, hn, hn0, hn1⟩ := within_ok (rd_T24 l i).f0 (n := 268435456) (by decide) (by decide)
        have hsz : (numOf n).size ≤ 4 := by rw [numOf_size]; exact vb_len (by omega) (by decide)
        obtain ⟨K0, h0⟩ := back_cuts l i (numOf n) (by omega) (fun j hj => tkn_cut hn0 (by omega) j hj) (back_tail l i hl (ih (i + 1) (by omega)) (by omega) (by omega) h15 (numOf n) (by omega)) (numOf n).size 0 (by omega) (by omega)
        obtain ⟨K1, h1⟩ := num_ok hn0 (show n ≤ 268435455 by omega)
        obtain ⟨K2, h2⟩ := take_ev (numOf n ++ (rd_T24 l i).f2)
        rw [tkn_back hn0 (by omega)] at h2
        refine ⟨K0 + K1 + K2 + 4, fun k hk => ?_⟩
        obtain ⟨k, rfl⟩ : ∃ m, k = m + 3 := ⟨k - 3, by omega⟩
        dsimp only at h0 h1 h2 ⊢
        simp only [fairwaylaw2_VbiBack.l0]
        rw [if_pos (by omega)]
        simp only [fairwaylaw2_VbiBack.j1]
        rw [if_pos (by simpa using h15), if_pos (by omega), if_pos (by omega), hh]
        simp only [Option.bind_some]
        rw [if_neg (by decide), hn]
        simp only [Option.bind_some]
        rw [h1 _ (by omega)]
        simp only [Option.bind_some]
        rw [if_pos (by omega), h2 _ (by omega)]
        simp only [Option.bind_some, num_id, if_true, bne_self_eq_false, fairwaylaw2_VbiBack.j2]
        rw [if_neg (by decide)]
        exact h0 _ (by omega)
    · obtain ⟨K, hw⟩ := wakes_ev
      refine ⟨K + 2, fun k hk => ?_⟩
      obtain ⟨k, rfl⟩ : ∃ m, k = m + 2 := ⟨k - 2, by omega⟩
      dsimp only at hw ⊢
      simp only [fairwaylaw2_VbiBack.l0]
      rw [if_pos (by omega)]
      simp only [fairwaylaw2_VbiBack.j1]
      rw [if_neg (by simpa using h15), hw k (by omega)]
      rfl
theorem VbiBack_pure : VbiBack.Pure := fun l _ => Ev.rounds (back_loop l l.length 0 (by omega))
end Go.Proofs.Ytajbopckmjjcfaa.P
