-- PRINTED by print.py (a twelfth state) out of the translation. Not trusted: Lean checks it.
import Derived.Test.YtajbopckmjjcfaaPx0
import Derived.Test.YtajbopckmjjcfaaPx4
namespace Go.Proofs.Ytajbopckmjjcfaa.P
open Go.RowKit Go.Proofs.YtajbopckmjjcfaaW.PrintWords Go.Proofs.YtajbopckmjjcfaaW.PrintLast Go.Proofs.YtajbopckmjjcfaaW.PrintMore
attribute [local go_sem] max2_int min2_int max_two min_two max_three min_three max_four min_four   -- for this text's walks alone
set_option linter.unusedVariables false
set_option linter.unusedSimpArgs false

/-! ### vbi_TakeBin: function 23 -/
def vbi_TakeBin.f (k : Nat) (a0 : ByteArray) : Option (ByteArray × Int × Int) := (vbi_TakeTwo.f k a0).bind fun bt211 => (if bt211.2 = 0 then (if bt211.1 > 1024 then (some ((⟨#[]⟩ : ByteArray), 0, 2)) else (if (wrap64 ((a0.size : Int) - 2)) < bt211.1 then (some ((⟨#[]⟩ : ByteArray), 0, 7)) else (if 2 ≤ (wrap64 (2 + bt211.1)) then (if (wrap64 (2 + bt211.1)) ≤ (a0.size : Int) then (some (a0.extract 2 ((wrap64 (2 + bt211.1)) : Int).toNat, wrap64 (2 + bt211.1), 0)) else (none)) else (none)))) else (some ((⟨#[]⟩ : ByteArray), 0, bt211.2)))
theorem vbi_TakeBin.mono : ∀ a0 k, LeO (vbi_TakeBin.f k a0) (vbi_TakeBin.f (k + 1) a0) := by
 intro a0 k
 unfold vbi_TakeBin.f
 repeat' first
   | (with_reducible exact vbi_TakeTwo.mono _ _)
   | (with_reducible exact LeO.refl _)
   | (with_reducible exact LeO.none _)
   | (with_reducible refine LeO.ite ?_ ?_)
   | (with_reducible refine LeO.bind ?_ (fun _ => ?_))
   | exact vbi_TakeTwo.mono _ _
   | exact LeO.none _
   | refine LeO.ite ?_ ?_
   | refine LeO.bind ?_ (fun _ => ?_)
set_option maxHeartbeats 8000000 in
set_option maxRecDepth 100000 in
theorem vbi_TakeBin.calls (k : Nat) (a0 : ByteArray) (r1 : ByteArray) (r2 : Int) (r3 : Int) (w : World) (h : vbi_TakeBin.f k a0 = some (r1, r2, r3)) :
  Calls Try.prog 23 #[.string a0] w fun e w' => e = .returned (.tuple #[.string r1, .int .i64 r2, .int .i64 r3]) ∧ Drawn0 w w' := by
 have H : ((vbi_TakeTwo.f k a0).bind fun bt211 => (if bt211.2 = 0 then (if bt211.1 > 1024 then (some ((⟨#[]⟩ : ByteArray), 0, 2)) else (if (wrap64 ((a0.size : Int) - 2)) < bt211.1 then (some ((⟨#[]⟩ : ByteArray), 0, 7)) else (if 2 ≤ (wrap64 (2 + bt211.1)) then (if (wrap64 (2 + bt211.1)) ≤ (a0.size : Int) then (some (a0.extract 2 ((wrap64 (2 + bt211.1)) : Int).toNat, wrap64 (2 + bt211.1), 0)) else (none)) else (none)))) else (some ((⟨#[]⟩ : ByteArray), 0, bt211.2)))) = some (r1, r2, r3) := h
 clear h
 replace H := Option.bind_eq_some_iff.mp H
 obtain ⟨⟨t211, t212⟩, A20, H⟩ := H
 replace H : (if t212 = 0 then (if t211 > 1024 then (some ((⟨#[]⟩ : ByteArray), 0, 2)) else (if (wrap64 ((a0.size : Int) - 2)) < t211 then (some ((⟨#[]⟩ : ByteArray), 0, 7)) else (if 2 ≤ (wrap64 (2 + t211)) then (if (wrap64 (2 + t211)) ≤ (a0.size : Int) then (some (a0.extract 2 ((wrap64 (2 + t211)) : Int).toNat, wrap64 (2 + t211), 0)) else (none)) else (none)))) else (some ((⟨#[]⟩ : ByteArray), 0, t212))) = some (r1, r2, r3) := H
 have A2 := Aside0.mk A20
 clear A20
 by_cases c3 : t212 = 0
 ·
  rw [if_pos c3] at H
  have c3b0 : (t212 == 0) = true := beq_iff_eq.mpr c3
  have c3b1 : (t212 != 0) = false := bne_eq_false_iff_eq.mpr c3
  clear c3
  by_cases c4 : t211 > 1024
  ·
   rw [if_pos c4] at H
   have c4b0 : decide (1024 < t211) = true := decide_eq_true c4
   clear c4
   simp only [Option.some.injEq, Prod.mk.injEq] at H
   obtain ⟨rfl, rfl, rfl⟩ := H
   go_enter Try.func23, Try.ntmps23
   go_wp2_with (first | ((with_reducible refine gate_callee (f := 18) rfl ?_); refine goesL_ (some 8) rfl rfl Try.func18 (by kernel_rfl) rfl #[.string a0] rfl (by (try simp only [List.map_toArray, List.map_cons, List.map_nil]); first | done | rfl | (simp only [List.length_drop, List.length_take]; rfl)) ?_; (with_reducible refine (vbi_TakeTwo.calls k a0 t211 t212 _ A2.out).mono ?_); rintro e w' ⟨rfl, ⟨nd, rfl⟩⟩; refine ⟨_, rfl, ?_⟩))
   go_ret3
   exact ⟨by first | rfl | (simp; done) | (simp [*]; done), by repeat (first | exact Drawn0.refl _ | apply Drawn0.step)⟩
  rw [if_neg c4] at H
  have c4b0 : decide (1024 < t211) = false := decide_eq_false c4
  clear c4
  by_cases c5 : (wrap64 ((a0.size : Int) - 2)) < t211
  ·
   rw [if_pos c5] at H
   have c5b0 : decide ((wrap64 ((a0.size : Int) - 2)) < t211) = true := decide_eq_true c5
   clear c5
   simp only [Option.some.injEq, Prod.mk.injEq] at H
   obtain ⟨rfl, rfl, rfl⟩ := H
   go_enter Try.func23, Try.ntmps23
   go_wp2_with (first | ((with_reducible refine gate_callee (f := 18) rfl ?_); refine goesL_ (some 8) rfl rfl Try.func18 (by kernel_rfl) rfl #[.string a0] rfl (by (try simp only [List.map_toArray, List.map_cons, List.map_nil]); first | done | rfl | (simp only [List.length_drop, List.length_take]; rfl)) ?_; (with_reducible refine (vbi_TakeTwo.calls k a0 t211 t212 _ A2.out).mono ?_); rintro e w' ⟨rfl, ⟨nd, rfl⟩⟩; refine ⟨_, rfl, ?_⟩))
   go_ret3
   exact ⟨by first | rfl | (simp; done) | (simp [*]; done), by repeat (first | exact Drawn0.refl _ | apply Drawn0.step)⟩
  rw [if_neg c5] at H
  have c5b0 : decide ((wrap64 ((a0.size : Int) - 2)) < t211) = false := decide_eq_false c5
  clear c5
  by_cases c6 : 2 ≤ (wrap64 (2 + t211))
  ·
   rw [if_pos c6] at H
   have c6b0 := eq_true c6
   have c6b1 : decide (2 ≤ (wrap64 (2 + t211))) = true := decide_eq_true c6
   by_cases c7 : (wrap64 (2 + t211)) ≤ (a0.size : Int)
   ·
    rw [if_pos c7] at H
    have c7b0 := eq_true c7
    have c7b1 : decide ((wrap64 (2 + t211)) ≤ (a0.size : Int)) = true := decide_eq_true c7
    simp only [Option.some.injEq, Prod.mk.injEq] at H
    obtain ⟨rfl, rfl, rfl⟩ := H
    go_enter Try.func23, Try.ntmps23
    go_wp2_with (first | ((with_reducible refine gate_callee (f := 18) rfl ?_); refine goesL_ (some 8) rfl rfl Try.func18 (by kernel_rfl) rfl #[.string a0] rfl (by (try simp only [List.map_toArray, List.map_cons, List.map_nil]); first | done | rfl | (simp only [List.length_drop, List.length_take]; rfl)) ?_; (with_reducible refine (vbi_TakeTwo.calls k a0 t211 t212 _ A2.out).mono ?_); rintro e w' ⟨rfl, ⟨nd, rfl⟩⟩; refine ⟨_, rfl, ?_⟩))
    go_ret3
    exact ⟨by first | rfl | (simp; done) | (simp [*]; done), by repeat (first | exact Drawn0.refl _ | apply Drawn0.step)⟩
   rw [if_neg c7] at H
   exact absurd H (by simp)
  rw [if_neg c6] at H
  exact absurd H (by simp)
 rw [if_neg c3] at H
 have c3b0 : (t212 == 0) = false := beq_eq_false_iff_ne.mpr c3
 have c3b1 : (t212 != 0) = true := bne_iff_ne.mpr c3
 simp only [Option.some.injEq, Prod.mk.injEq] at H
 obtain ⟨rfl, rfl, rfl⟩ := H
 go_enter Try.func23, Try.ntmps23
 go_wp2_with (first | ((with_reducible refine gate_callee (f := 18) rfl ?_); refine goesL_ (some 8) rfl rfl Try.func18 (by kernel_rfl) rfl #[.string a0] rfl (by (try simp only [List.map_toArray, List.map_cons, List.map_nil]); first | done | rfl | (simp only [List.length_drop, List.length_take]; rfl)) ?_; (with_reducible refine (vbi_TakeTwo.calls k a0 t211 t212 _ A2.out).mono ?_); rintro e w' ⟨rfl, ⟨nd, rfl⟩⟩; refine ⟨_, rfl, ?_⟩))
 go_ret3
 exact ⟨by first | rfl | (simp; done) | (simp [*]; done), by repeat (first | exact Drawn0.refl _ | apply Drawn0.step)⟩

end Go.Proofs.Ytajbopckmjjcfaa.P
