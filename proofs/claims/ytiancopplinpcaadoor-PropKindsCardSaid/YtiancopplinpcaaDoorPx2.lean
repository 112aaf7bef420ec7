-- PRINTED by print.py (a twelfth state) out of the translation. Not trusted: Lean checks it.
import Derived.Test.YtiancopplinpcaaDoorPx0
namespace Go.Proofs.YtiancopplinpcaaDoor.P
open Go.RowKit Go.Proofs.YtiancopplinpcaaDoorW.PrintWords Go.Proofs.YtiancopplinpcaaDoorW.PrintLast Go.Proofs.YtiancopplinpcaaDoorW.PrintMore
attribute [local go_sem] max2_int min2_int max_two min_two max_three min_three max_four min_four   -- for this text's walks alone
set_option linter.unusedVariables false
set_option linter.unusedSimpArgs false

/-! ### fairwaylaw4_num: function 13 -/
def fairwaylaw4_num.f (a0 : Int) : Option (Int) := some a0
set_option maxHeartbeats 8000000 in
set_option maxRecDepth 100000 in
theorem fairwaylaw4_num.calls (a0 : Int) (r : Int) (w : World) (h : fairwaylaw4_num.f a0 = some r) :
  Calls Tryd.prog 13 #[.int .i64 a0] w fun e w' => e = .returned (.int .i64 r) ∧ Drawn0 w w' := by
 have H : (some a0) = some r := h
 clear h
 obtain rfl := Option.some.inj H
 go_enter Tryd.func13, Tryd.ntmps13
 go_wp2
 go_ret
 exact ⟨by first | rfl | (simp; done) | (simp [*]; done), by repeat (first | exact Drawn0.refl _ | apply Drawn0.step)⟩

/-! ### prop_Kind: function 11 -/
mutual
def prop_Kind.j0 : Nat → Int → Bool → Option (Int × Int)
  | 0, _, _ => none
  | k + 1, x4, x5 => if x5 = true then (some (1, 0)) else (if x4 = 19 then (prop_Kind.j1 k x4 (x4 == 19)) else (if x4 = 33 then (prop_Kind.j1 k x4 (x4 == 33)) else (if x4 = 34 then (prop_Kind.j1 k x4 (x4 == 34)) else (prop_Kind.j1 k x4 (x4 == 35)))))
def prop_Kind.j1 : Nat → Int → Bool → Option (Int × Int)
  | 0, _, _ => none
  | k + 1, x4, x14 => if x14 = true then (some (2, 0)) else (if x4 = 2 then (prop_Kind.j2 k x4 (x4 == 2)) else (if x4 = 17 then (prop_Kind.j2 k x4 (x4 == 17)) else (if x4 = 24 then (prop_Kind.j2 k x4 (x4 == 24)) else (prop_Kind.j2 k x4 (x4 == 39)))))
def prop_Kind.j2 : Nat → Int → Bool → Option (Int × Int)
  | 0, _, _ => none
  | k + 1, x4, x19 => if x19 = true then (some (3, 0)) else (if x4 = 11 then (some (4, 0)) else (if x4 = 3 then (prop_Kind.j3 k x4 (x4 == 3)) else (if x4 = 8 then (prop_Kind.j3 k x4 (x4 == 8)) else (if x4 = 18 then (prop_Kind.j3 k x4 (x4 == 18)) else (if x4 = 21 then (prop_Kind.j3 k x4 (x4 == 21)) else (if x4 = 26 then (prop_Kind.j3 k x4 (x4 == 26)) else (if x4 = 28 then (prop_Kind.j3 k x4 (x4 == 28)) else (prop_Kind.j3 k x4 (x4 == 31)))))))))
def prop_Kind.j3 : Nat → Int → Bool → Option (Int × Int)
  | 0, _, _ => none
  | k + 1, x4, x26 => if x26 = true then (some (5, 0)) else (if x4 = 9 then (prop_Kind.j4 k x4 (x4 == 9)) else (prop_Kind.j4 k x4 (x4 == 22)))
def prop_Kind.j4 : Nat → Int → Bool → Option (Int × Int)
  | 0, _, _ => none
  | k + 1, x4, x34 => if x34 = true then (some (6, 0)) else (if x4 = 38 then (some (7, 0)) else (some (0, 3)))
end
def prop_Kind.f (k : Nat) (a0 : Int) : Option (Int × Int) := if a0 = 1 then (prop_Kind.j0 k a0 (a0 == 1)) else (if a0 = 23 then (prop_Kind.j0 k a0 (a0 == 23)) else (if a0 = 25 then (prop_Kind.j0 k a0 (a0 == 25)) else (if a0 = 36 then (prop_Kind.j0 k a0 (a0 == 36)) else (if a0 = 37 then (prop_Kind.j0 k a0 (a0 == 37)) else (if a0 = 40 then (prop_Kind.j0 k a0 (a0 == 40)) else (if a0 = 41 then (prop_Kind.j0 k a0 (a0 == 41)) else (prop_Kind.j0 k a0 (a0 == 42))))))))
theorem prop_Kind.mono_l : ∀ k, (∀ y0 y1, LeO (prop_Kind.j0 k y0 y1) (prop_Kind.j0 (k + 1) y0 y1)) ∧ (∀ y0 y1, LeO (prop_Kind.j1 k y0 y1) (prop_Kind.j1 (k + 1) y0 y1)) ∧ (∀ y0 y1, LeO (prop_Kind.j2 k y0 y1) (prop_Kind.j2 (k + 1) y0 y1)) ∧ (∀ y0 y1, LeO (prop_Kind.j3 k y0 y1) (prop_Kind.j3 (k + 1) y0 y1)) ∧ (∀ y0 y1, LeO (prop_Kind.j4 k y0 y1) (prop_Kind.j4 (k + 1) y0 y1))
 | 0 => ⟨fun _ _ r h => by simp [prop_Kind.j0] at h, fun _ _ r h => by simp [prop_Kind.j1] at h, fun _ _ r h => by simp [prop_Kind.j2] at h, fun _ _ r h => by simp [prop_Kind.j3] at h, fun _ _ r h => by simp [prop_Kind.j4] at h⟩
 | k + 1 => by
  obtain ⟨ih0, ih1, ih2, ih3, ih4⟩ := prop_Kind.mono_l k
  refine ⟨?_, ?_, ?_, ?_, ?_⟩
  ·
   intro y0 y1
   unfold prop_Kind.j0
   repeat' first
   | (with_reducible exact ih0 _ _)
   | (with_reducible exact ih1 _ _)
   | (with_reducible exact ih2 _ _)
   | (with_reducible exact ih3 _ _)
   | (with_reducible exact ih4 _ _)
   | (with_reducible exact LeO.refl _)
   | (with_reducible exact LeO.none _)
   | (with_reducible refine LeO.ite ?_ ?_)
   | (with_reducible refine LeO.bind ?_ (fun _ => ?_))
   | exact ih0 _ _
   | exact ih1 _ _
   | exact ih2 _ _
   | exact ih3 _ _
   | exact ih4 _ _
   | exact LeO.none _
   | refine LeO.ite ?_ ?_
   | refine LeO.bind ?_ (fun _ => ?_)
  ·
   intro y0 y1
   unfold prop_Kind.j1
   repeat' first
   | (with_reducible exact ih0 _ _)
   | (with_reducible exact ih1 _ _)
   | (with_reducible exact ih2 _ _)
   | (with_reducible exact ih3 _ _)
   | (with_reducible exact ih4 _ _)
   | (with_reducible exact LeO.refl _)
   | (with_reducible exact LeO.none _)
   | (with_reducible refine LeO.ite ?_ ?_)
   | (with_reducible refine LeO.bind ?_ (fun _ => ?_))
   | exact ih0 _ _
   | exact ih1 _ _
   | exact ih2 _ _
   | exact ih3 _ _
   | exact ih4 _ _
   | exact LeO.none _
   | refine LeO.ite ?_ ?_
   | refine LeO.bind ?_ (fun _ => ?_)
  ·
   intro y0 y1
   unfold prop_Kind.j2
   repeat' first
   | (with_reducible exact ih0 _ _)
   | (with_reducible exact ih1 _ _)
   | (with_reducible exact ih2 _ _)
   | (with_reducible exact ih3 _ _)
   | (with_reducible exact ih4 _ _)
   | (with_reducible exact LeO.refl _)
   | (with_reducible exact LeO.none _)
   | (with_reducible refine LeO.ite ?_ ?_)
   | (with_reducible refine LeO.bind ?_ (fun _ => ?_))
   | exact ih0 _ _
   | exact ih1 _ _
   | exact ih2 _ _
   | exact ih3 _ _
   | exact ih4 _ _
   | exact LeO.none _
   | refine LeO.ite ?_ ?_
   | refine LeO.bind ?_ (fun _ => ?_)
  ·
   intro y0 y1
   unfold prop_Kind.j3
   repeat' first
   | (with_reducible exact ih0 _ _)
   | (with_reducible exact ih1 _ _)
   | (with_reducible exact ih2 _ _)
   | (with_reducible exact ih3 _ _)
   | (with_reducible exact ih4 _ _)
   | (with_reducible exact LeO.refl _)
   | (with_reducible exact LeO.none _)
   | (with_reducible refine LeO.ite ?_ ?_)
   | (with_reducible refine LeO.bind ?_ (fun _ => ?_))
   | exact ih0 _ _
   | exact ih1 _ _
   | exact ih2 _ _
   | exact ih3 _ _
   | exact ih4 _ _
   | exact LeO.none _
   | refine LeO.ite ?_ ?_
   | refine LeO.bind ?_ (fun _ => ?_)
  ·
   intro y0 y1
   unfold prop_Kind.j4
   repeat' first
   | (with_reducible exact ih0 _ _)
   | (with_reducible exact ih1 _ _)
   | (with_reducible exact ih2 _ _)
   | (with_reducible exact ih3 _ _)
   | (with_reducible exact ih4 _ _)
   | (with_reducible exact LeO.refl _)
   | (with_reducible exact LeO.none _)
   | (with_reducible refine LeO.ite ?_ ?_)
   | (with_reducible refine LeO.bind ?_ (fun _ => ?_))
   | exact ih0 _ _
   | exact ih1 _ _
   | exact ih2 _ _
   | exact ih3 _ _
   | exact ih4 _ _
   | exact LeO.none _
   | refine LeO.ite ?_ ?_
   | refine LeO.bind ?_ (fun _ => ?_)
theorem prop_Kind.mono : ∀ a0 k, LeO (prop_Kind.f k a0) (prop_Kind.f (k + 1) a0) := by
 intro a0 k
 obtain ⟨ih0, ih1, ih2, ih3, ih4⟩ := prop_Kind.mono_l k
 unfold prop_Kind.f
 repeat' first
   | (with_reducible exact ih0 _ _)
   | (with_reducible exact ih1 _ _)
   | (with_reducible exact ih2 _ _)
   | (with_reducible exact ih3 _ _)
   | (with_reducible exact ih4 _ _)
   | (with_reducible exact LeO.refl _)
   | (with_reducible exact LeO.none _)
   | (with_reducible refine LeO.ite ?_ ?_)
   | (with_reducible refine LeO.bind ?_ (fun _ => ?_))
   | exact ih0 _ _
   | exact ih1 _ _
   | exact ih2 _ _
   | exact ih3 _ _
   | exact ih4 _ _
   | exact LeO.none _
   | refine LeO.ite ?_ ?_
   | refine LeO.bind ?_ (fun _ => ?_)
set_option maxHeartbeats 8000000 in
set_option maxRecDepth 100000 in
theorem prop_Kind.calls (k : Nat) (a0 : Int) (r1 : Int) (r2 : Int) (w : World) (h : prop_Kind.f k a0 = some (r1, r2)) :
  Calls Tryd.prog 11 #[.int .i64 a0] w fun e w' => e = .returned (.tuple #[.int .i64 r1, .int .i64 r2]) ∧ Drawn0 w w' := by
 have H : (if a0 = 1 then (prop_Kind.j0 k a0 (a0 == 1)) else (if a0 = 23 then (prop_Kind.j0 k a0 (a0 == 23)) else (if a0 = 25 then (prop_Kind.j0 k a0 (a0 == 25)) else (if a0 = 36 then (prop_Kind.j0 k a0 (a0 == 36)) else (if a0 = 37 then (prop_Kind.j0 k a0 (a0 == 37)) else (if a0 = 40 then (prop_Kind.j0 k a0 (a0 == 40)) else (if a0 = 41 then (prop_Kind.j0 k a0 (a0 == 41)) else (prop_Kind.j0 k a0 (a0 == 42))))))))) = some (r1, r2) := h
 clear h
 have HC2 := Aside0.mk H
 clear H
 go_enter Tryd.func11, Tryd.ntmps11
 go_upto_if 5 with (fail)
 go_cut [5] (fun v5 wc => ∃ (kq : Nat) (x5_1 : Bool), v5 = .bool x5_1 ∧ Aside0 (prop_Kind.j0 kq a0 x5_1 = some (r1, r2)) ∧ Aside0 (kq ≤ k) ∧ Drawn0 w wc)
 case first =>
  have H := HC2.out
  clear HC2
  by_cases c3 : a0 = 1
  ·
   rw [if_pos c3] at H
   have c3b0 : (a0 == 1) = true := beq_iff_eq.mpr c3
   have c3b1 : (a0 != 1) = false := bne_eq_false_iff_eq.mpr c3
   clear c3
   (first | rw [c3b0] | (simp only [i64_w, i32_w]; rw [c3b0]) | skip)
   have H' := Aside0.mk H
   clear H
   go_wp2
   go_meet
   case rel => exact ⟨_, ((a0 == 1)), (by first | rfl | (simp; done) | (simp [*]; done)), H', ⟨by first | omega | exact Nat.le_refl _⟩, by repeat (first | exact Drawn0.refl _ | apply Drawn0.step)⟩
  rw [if_neg c3] at H
  have c3b0 : (a0 == 1) = false := beq_eq_false_iff_ne.mpr c3
  have c3b1 : (a0 != 1) = true := bne_iff_ne.mpr c3
  (first | rw [c3b0] | (simp only [i64_w, i32_w]; rw [c3b0]) | skip)
  by_cases c4 : a0 = 23
  ·
   rw [if_pos c4] at H
   have c4b0 : (a0 == 23) = true := beq_iff_eq.mpr c4
   have c4b1 : (a0 != 23) = false := bne_eq_false_iff_eq.mpr c4
   clear c4
   have H' := Aside0.mk H
   clear H
   go_wp2
   go_meet
   case rel => exact ⟨_, ((a0 == 23)), (by first | rfl | (simp; done) | (simp [*]; done)), H', ⟨by first | omega | exact Nat.le_refl _⟩, by repeat (first | exact Drawn0.refl _ | apply Drawn0.step)⟩
  rw [if_neg c4] at H
  have c4b0 : (a0 == 23) = false := beq_eq_false_iff_ne.mpr c4
  have c4b1 : (a0 != 23) = true := bne_iff_ne.mpr c4
  by_cases c5 : a0 = 25
  ·
   rw [if_pos c5] at H
   have c5b0 : (a0 == 25) = true := beq_iff_eq.mpr c5
   have c5b1 : (a0 != 25) = false := bne_eq_false_iff_eq.mpr c5
   clear c5
   have H' := Aside0.mk H
   clear H
   go_wp2
   go_meet
   case rel => exact ⟨_, ((a0 == 25)), (by first | rfl | (simp; done) | (simp [*]; done)), H', ⟨by first | omega | exact Nat.le_refl _⟩, by repeat (first | exact Drawn0.refl _ | apply Drawn0.step)⟩
  rw [if_neg c5] at H
  have c5b0 : (a0 == 25) = false := beq_eq_false_iff_ne.mpr c5
  have c5b1 : (a0 != 25) = true := bne_iff_ne.mpr c5
  by_cases c6 : a0 = 36
  ·
   rw [if_pos c6] at H
   have c6b0 : (a0 == 36) = true := beq_iff_eq.mpr c6
   have c6b1 : (a0 != 36) = false := bne_eq_false_iff_eq.mpr c6
   clear c6
   have H' := Aside0.mk H
   clear H
   go_wp2
   go_meet
   case rel => exact ⟨_, ((a0 == 36)), (by first | rfl | (simp; done) | (simp [*]; done)), H', ⟨by first | omega | exact Nat.le_refl _⟩, by repeat (first | exact Drawn0.refl _ | apply Drawn0.step)⟩
  rw [if_neg c6] at H
  have c6b0 : (a0 == 36) = false := beq_eq_false_iff_ne.mpr c6
  have c6b1 : (a0 != 36) = true := bne_iff_ne.mpr c6
  by_cases c7 : a0 = 37
  ·
   rw [if_pos c7] at H
   have c7b0 : (a0 == 37) = true := beq_iff_eq.mpr c7
   have c7b1 : (a0 != 37) = false := bne_eq_false_iff_eq.mpr c7
   clear c7
   have H' := Aside0.mk H
   clear H
   go_wp2
   go_meet
   case rel => exact ⟨_, ((a0 == 37)), (by first | rfl | (simp; done) | (simp [*]; done)), H', ⟨by first | omega | exact Nat.le_refl _⟩, by repeat (first | exact Drawn0.refl _ | apply Drawn0.step)⟩
  rw [if_neg c7] at H
  have c7b0 : (a0 == 37) = false := beq_eq_false_iff_ne.mpr c7
  have c7b1 : (a0 != 37) = true := bne_iff_ne.mpr c7
  by_cases c8 : a0 = 40
  ·
   rw [if_pos c8] at H
   have c8b0 : (a0 == 40) = true := beq_iff_eq.mpr c8
   have c8b1 : (a0 != 40) = false := bne_eq_false_iff_eq.mpr c8
   clear c8
   have H' := Aside0.mk H
   clear H
   go_wp2
   go_meet
   case rel => exact ⟨_, ((a0 == 40)), (by first | rfl | (simp; done) | (simp [*]; done)), H', ⟨by first | omega | exact Nat.le_refl _⟩, by repeat (first | exact Drawn0.refl _ | apply Drawn0.step)⟩
  rw [if_neg c8] at H
  have c8b0 : (a0 == 40) = false := beq_eq_false_iff_ne.mpr c8
  have c8b1 : (a0 != 40) = true := bne_iff_ne.mpr c8
  by_cases c9 : a0 = 41
  ·
   rw [if_pos c9] at H
   have c9b0 : (a0 == 41) = true := beq_iff_eq.mpr c9
   have c9b1 : (a0 != 41) = false := bne_eq_false_iff_eq.mpr c9
   clear c9
   have H' := Aside0.mk H
   clear H
   go_wp2
   go_meet
   case rel => exact ⟨_, ((a0 == 41)), (by first | rfl | (simp; done) | (simp [*]; done)), H', ⟨by first | omega | exact Nat.le_refl _⟩, by repeat (first | exact Drawn0.refl _ | apply Drawn0.step)⟩
  rw [if_neg c9] at H
  have c9b0 : (a0 == 41) = false := beq_eq_false_iff_ne.mpr c9
  have c9b1 : (a0 != 41) = true := bne_iff_ne.mpr c9
  have H' := Aside0.mk H
  clear H
  go_wp2
  go_meet
  case rel => exact ⟨_, ((a0 == 42)), (by first | rfl | (simp; done) | (simp [*]; done)), H', ⟨by first | omega | exact Nat.le_refl _⟩, by repeat (first | exact Drawn0.refl _ | apply Drawn0.step)⟩
 case rest =>
  as_aux_lemma =>
   clear HC2
   try clear c1
   try clear p2
   try clear c3
   try clear c3b0
   try clear c3b1
   try clear c4
   try clear c4b0
   try clear c4b1
   try clear c5
   try clear c5b0
   try clear c5b1
   try clear c6
   try clear c6b0
   try clear c6b1
   try clear c7
   try clear c7b0
   try clear c7b1
   try clear c8
   try clear c8b0
   try clear c8b1
   try clear c9
   try clear c9b0
   try clear c9b1
   obtain ⟨kq, x5_1, rfl, HA, HJ1, ⟨mc1, rfl⟩⟩ := hcut
   cases kq with
   | zero => exact absurd HA.out (by simp [prop_Kind.j0])
   | succ kj1 =>
    have H := HA.out
    clear HA
    simp only [prop_Kind.j0] at H
    by_cases c10 : x5_1 = true
    ·
     subst c10
     have H1 : (some (1, 0)) = some (r1, r2) := by rw [if_pos rfl] at H; exact H
     clear H
     have H := H1
     clear H1
     simp only [Option.some.injEq, Prod.mk.injEq] at H
     obtain ⟨rfl, rfl⟩ := H
     go_wp2
     go_ret2
     exact ⟨by first | rfl | (simp; done) | (simp [*]; done), by repeat (first | exact Drawn0.refl _ | apply Drawn0.step)⟩
    replace c10 := Bool.eq_false_iff.mpr c10
    subst c10
    have H1 : (if a0 = 19 then (prop_Kind.j1 kj1 a0 (a0 == 19)) else (if a0 = 33 then (prop_Kind.j1 kj1 a0 (a0 == 33)) else (if a0 = 34 then (prop_Kind.j1 kj1 a0 (a0 == 34)) else (prop_Kind.j1 kj1 a0 (a0 == 35))))) = some (r1, r2) := by rw [if_neg (show ¬ (false = true) by decide)] at H; exact H
    clear H
    have H := H1
    clear H1
    have HC11 := Aside0.mk H
    clear H
    go_upto_if 14 with (fail)
    go_cut [14] (fun v14 wc => ∃ (kq : Nat) (x14_10 : Bool), v14 = .bool x14_10 ∧ Aside0 (prop_Kind.j1 kq a0 x14_10 = some (r1, r2)) ∧ Aside0 (kq ≤ kj1) ∧ Drawn0 w wc)
    case first =>
     have H := HC11.out
     clear HC11
     by_cases c12 : a0 = 19
     ·
      rw [if_pos c12] at H
      have c12b0 : (a0 == 19) = true := beq_iff_eq.mpr c12
      have c12b1 : (a0 != 19) = false := bne_eq_false_iff_eq.mpr c12
      clear c12
      (first | rw [c12b0] | (simp only [i64_w, i32_w]; rw [c12b0]) | skip)
      have H' := Aside0.mk H
      clear H
      go_wp2
      go_meet
      case rel => exact ⟨_, ((a0 == 19)), (by first | rfl | (simp; done) | (simp [*]; done)), H', ⟨by have := HJ1.out; first | omega | exact Nat.le_refl _⟩, by repeat (first | exact Drawn0.refl _ | apply Drawn0.step)⟩
     rw [if_neg c12] at H
     have c12b0 : (a0 == 19) = false := beq_eq_false_iff_ne.mpr c12
     have c12b1 : (a0 != 19) = true := bne_iff_ne.mpr c12
     (first | rw [c12b0] | (simp only [i64_w, i32_w]; rw [c12b0]) | skip)
     by_cases c13 : a0 = 33
     ·
      rw [if_pos c13] at H
      have c13b0 : (a0 == 33) = true := beq_iff_eq.mpr c13
      have c13b1 : (a0 != 33) = false := bne_eq_false_iff_eq.mpr c13
      clear c13
      have H' := Aside0.mk H
      clear H
      go_wp2
      go_meet
      case rel => exact ⟨_, ((a0 == 33)), (by first | rfl | (simp; done) | (simp [*]; done)), H', ⟨by have := HJ1.out; first | omega | exact Nat.le_refl _⟩, by repeat (first | exact Drawn0.refl _ | apply Drawn0.step)⟩
     rw [if_neg c13] at H
     have c13b0 : (a0 == 33) = false := beq_eq_false_iff_ne.mpr c13
     have c13b1 : (a0 != 33) = true := bne_iff_ne.mpr c13
     by_cases c14 : a0 = 34
     ·
      rw [if_pos c14] at H
      have c14b0 : (a0 == 34) = true := beq_iff_eq.mpr c14
      have c14b1 : (a0 != 34) = false := bne_eq_false_iff_eq.mpr c14
      clear c14
      have H' := Aside0.mk H
      clear H
      go_wp2
      go_meet
      case rel => exact ⟨_, ((a0 == 34)), (by first | rfl | (simp; done) | (simp [*]; done)), H', ⟨by have := HJ1.out; first | omega | exact Nat.le_refl _⟩, by repeat (first | exact Drawn0.refl _ | apply Drawn0.step)⟩
     rw [if_neg c14] at H
     have c14b0 : (a0 == 34) = false := beq_eq_false_iff_ne.mpr c14
     have c14b1 : (a0 != 34) = true := bne_iff_ne.mpr c14
     have H' := Aside0.mk H
     clear H
     go_wp2
     go_meet
     case rel => exact ⟨_, ((a0 == 35)), (by first | rfl | (simp; done) | (simp [*]; done)), H', ⟨by have := HJ1.out; first | omega | exact Nat.le_refl _⟩, by repeat (first | exact Drawn0.refl _ | apply Drawn0.step)⟩
    case rest =>
     as_aux_lemma =>
      clear HC11
      try clear c1
      try clear p2
      try clear c3
      try clear c3b0
      try clear c3b1
      try clear c4
      try clear c4b0
      try clear c4b1
      try clear c5
      try clear c5b0
      try clear c5b1
      try clear c6
      try clear c6b0
      try clear c6b1
      try clear c7
      try clear c7b0
      try clear c7b1
      try clear c8
      try clear c8b0
      try clear c8b1
      try clear c9
      try clear c9b0
      try clear c9b1
      try clear c10
      try clear c11
      try clear c12
      try clear c12b0
      try clear c12b1
      try clear c13
      try clear c13b0
      try clear c13b1
      try clear c14
      try clear c14b0
      try clear c14b1
      try clear p2
      obtain ⟨kq, x14_10, rfl, HA, HJ10, ⟨mc10, rfl⟩⟩ := hcut
      cases kq with
      | zero => exact absurd HA.out (by simp [prop_Kind.j1])
      | succ kj10 =>
       have H := HA.out
       clear HA
       simp only [prop_Kind.j1] at H
       by_cases c15 : x14_10 = true
       ·
        subst c15
        have H1 : (some (2, 0)) = some (r1, r2) := by rw [if_pos rfl] at H; exact H
        clear H
        have H := H1
        clear H1
        simp only [Option.some.injEq, Prod.mk.injEq] at H
        obtain ⟨rfl, rfl⟩ := H
        go_wp2
        go_ret2
        exact ⟨by first | rfl | (simp; done) | (simp [*]; done), by repeat (first | exact Drawn0.refl _ | apply Drawn0.step)⟩
       replace c15 := Bool.eq_false_iff.mpr c15
       subst c15
       have H1 : (if a0 = 2 then (prop_Kind.j2 kj10 a0 (a0 == 2)) else (if a0 = 17 then (prop_Kind.j2 kj10 a0 (a0 == 17)) else (if a0 = 24 then (prop_Kind.j2 kj10 a0 (a0 == 24)) else (prop_Kind.j2 kj10 a0 (a0 == 39))))) = some (r1, r2) := by rw [if_neg (show ¬ (false = true) by decide)] at H; exact H
       clear H
       have H := H1
       clear H1
       have HC16 := Aside0.mk H
       clear H
       go_upto_if 19 with (fail)
       go_cut [19] (fun v19 wc => ∃ (kq : Nat) (x19_15 : Bool), v19 = .bool x19_15 ∧ Aside0 (prop_Kind.j2 kq a0 x19_15 = some (r1, r2)) ∧ Aside0 (kq ≤ kj10) ∧ Drawn0 w wc)
       case first =>
        have H := HC16.out
        clear HC16
        by_cases c17 : a0 = 2
        ·
         rw [if_pos c17] at H
         have c17b0 : (a0 == 2) = true := beq_iff_eq.mpr c17
         have c17b1 : (a0 != 2) = false := bne_eq_false_iff_eq.mpr c17
         clear c17
         (first | rw [c17b0] | (simp only [i64_w, i32_w]; rw [c17b0]) | skip)
         have H' := Aside0.mk H
         clear H
         go_wp2
         go_meet
         case rel => exact ⟨_, ((a0 == 2)), (by first | rfl | (simp; done) | (simp [*]; done)), H', ⟨by have := HJ1.out; have := HJ10.out; first | omega | exact Nat.le_refl _⟩, by repeat (first | exact Drawn0.refl _ | apply Drawn0.step)⟩
        rw [if_neg c17] at H
        have c17b0 : (a0 == 2) = false := beq_eq_false_iff_ne.mpr c17
        have c17b1 : (a0 != 2) = true := bne_iff_ne.mpr c17
        (first | rw [c17b0] | (simp only [i64_w, i32_w]; rw [c17b0]) | skip)
        by_cases c18 : a0 = 17
        ·
         rw [if_pos c18] at H
         have c18b0 : (a0 == 17) = true := beq_iff_eq.mpr c18
         have c18b1 : (a0 != 17) = false := bne_eq_false_iff_eq.mpr c18
         clear c18
         have H' := Aside0.mk H
         clear H
         go_wp2
         go_meet
         case rel => exact ⟨_, ((a0 == 17)), (by first | rfl | (simp; done) | (simp [*]; done)), H', ⟨by have := HJ1.out; have := HJ10.out; first | omega | exact Nat.le_refl _⟩, by repeat (first | exact Drawn0.refl _ | apply Drawn0.step)⟩
        rw [if_neg c18] at H
        have c18b0 : (a0 == 17) = false := beq_eq_false_iff_ne.mpr c18
        have c18b1 : (a0 != 17) = true := bne_iff_ne.mpr c18
        by_cases c19 : a0 = 24
        ·
         rw [if_pos c19] at H
         have c19b0 : (a0 == 24) = true := beq_iff_eq.mpr c19
         have c19b1 : (a0 != 24) = false := bne_eq_false_iff_eq.mpr c19
         clear c19
         have H' := Aside0.mk H
         clear H
         go_wp2
         go_meet
         case rel => exact ⟨_, ((a0 == 24)), (by first | rfl | (simp; done) | (simp [*]; done)), H', ⟨by have := HJ1.out; have := HJ10.out; first | omega | exact Nat.le_refl _⟩, by repeat (first | exact Drawn0.refl _ | apply Drawn0.step)⟩
        rw [if_neg c19] at H
        have c19b0 : (a0 == 24) = false := beq_eq_false_iff_ne.mpr c19
        have c19b1 : (a0 != 24) = true := bne_iff_ne.mpr c19
        have H' := Aside0.mk H
        clear H
        go_wp2
        go_meet
        case rel => exact ⟨_, ((a0 == 39)), (by first | rfl | (simp; done) | (simp [*]; done)), H', ⟨by have := HJ1.out; have := HJ10.out; first | omega | exact Nat.le_refl _⟩, by repeat (first | exact Drawn0.refl _ | apply Drawn0.step)⟩
       case rest =>
        as_aux_lemma =>
         clear HC16
         try clear c1
         try clear p2
         try clear c3
         try clear c3b0
         try clear c3b1
         try clear c4
         try clear c4b0
         try clear c4b1
         try clear c5
         try clear c5b0
         try clear c5b1
         try clear c6
         try clear c6b0
         try clear c6b1
         try clear c7
         try clear c7b0
         try clear c7b1
         try clear c8
         try clear c8b0
         try clear c8b1
         try clear c9
         try clear c9b0
         try clear c9b1
         try clear c10
         try clear c11
         try clear c12
         try clear c12b0
         try clear c12b1
         try clear c13
         try clear c13b0
         try clear c13b1
         try clear c14
         try clear c14b0
         try clear c14b1
         try clear c15
         try clear c17
         try clear c17b0
         try clear c17b1
         try clear c18
         try clear c18b0
         try clear c18b1
         try clear c19
         try clear c19b0
         try clear c19b1
         try clear p2
         obtain ⟨kq, x19_15, rfl, HA, HJ15, ⟨mc15, rfl⟩⟩ := hcut
         cases kq with
         | zero => exact absurd HA.out (by simp [prop_Kind.j2])
         | succ kj15 =>
          have H := HA.out
          clear HA
          simp only [prop_Kind.j2] at H
          by_cases c20 : x19_15 = true
          ·
           subst c20
           have H1 : (some (3, 0)) = some (r1, r2) := by rw [if_pos rfl] at H; exact H
           clear H
           have H := H1
           clear H1
           simp only [Option.some.injEq, Prod.mk.injEq] at H
           obtain ⟨rfl, rfl⟩ := H
           go_wp2
           go_ret2
           exact ⟨by first | rfl | (simp; done) | (simp [*]; done), by repeat (first | exact Drawn0.refl _ | apply Drawn0.step)⟩
          replace c20 := Bool.eq_false_iff.mpr c20
          subst c20
          have H1 : (if a0 = 11 then (some (4, 0)) else (if a0 = 3 then (prop_Kind.j3 kj15 a0 (a0 == 3)) else (if a0 = 8 then (prop_Kind.j3 kj15 a0 (a0 == 8)) else (if a0 = 18 then (prop_Kind.j3 kj15 a0 (a0 == 18)) else (if a0 = 21 then (prop_Kind.j3 kj15 a0 (a0 == 21)) else (if a0 = 26 then (prop_Kind.j3 kj15 a0 (a0 == 26)) else (if a0 = 28 then (prop_Kind.j3 kj15 a0 (a0 == 28)) else (prop_Kind.j3 kj15 a0 (a0 == 31))))))))) = some (r1, r2) := by rw [if_neg (show ¬ (false = true) by decide)] at H; exact H
          clear H
          have H := H1
          clear H1
          by_cases c21 : a0 = 11
          ·
           rw [if_pos c21] at H
           have c21b0 : (a0 == 11) = true := beq_iff_eq.mpr c21
           have c21b1 : (a0 != 11) = false := bne_eq_false_iff_eq.mpr c21
           clear c21
           simp only [Option.some.injEq, Prod.mk.injEq] at H
           obtain ⟨rfl, rfl⟩ := H
           go_wp2
           go_ret2
           exact ⟨by first | rfl | (simp; done) | (simp [*]; done), by repeat (first | exact Drawn0.refl _ | apply Drawn0.step)⟩
          rw [if_neg c21] at H
          have c21b0 : (a0 == 11) = false := beq_eq_false_iff_ne.mpr c21
          have c21b1 : (a0 != 11) = true := bne_iff_ne.mpr c21
          have HC22 := Aside0.mk H
          clear H
          go_upto_if 26 with (fail)
          go_cut [26] (fun v26 wc => ∃ (kq : Nat) (x26_21 : Bool), v26 = .bool x26_21 ∧ Aside0 (prop_Kind.j3 kq a0 x26_21 = some (r1, r2)) ∧ Aside0 (kq ≤ kj15) ∧ Drawn0 w wc)
          case first =>
           have H := HC22.out
           clear HC22
           by_cases c23 : a0 = 3
           ·
            rw [if_pos c23] at H
            have c23b0 : (a0 == 3) = true := beq_iff_eq.mpr c23
            have c23b1 : (a0 != 3) = false := bne_eq_false_iff_eq.mpr c23
            clear c23
            (first | rw [c23b0] | (simp only [i64_w, i32_w]; rw [c23b0]) | skip)
            have H' := Aside0.mk H
            clear H
            go_wp2
            go_meet
            case rel => exact ⟨_, ((a0 == 3)), (by first | rfl | (simp; done) | (simp [*]; done)), H', ⟨by have := HJ1.out; have := HJ10.out; have := HJ15.out; first | omega | exact Nat.le_refl _⟩, by repeat (first | exact Drawn0.refl _ | apply Drawn0.step)⟩
           rw [if_neg c23] at H
           have c23b0 : (a0 == 3) = false := beq_eq_false_iff_ne.mpr c23
           have c23b1 : (a0 != 3) = true := bne_iff_ne.mpr c23
           (first | rw [c23b0] | (simp only [i64_w, i32_w]; rw [c23b0]) | skip)
           by_cases c24 : a0 = 8
           ·
            rw [if_pos c24] at H
            have c24b0 : (a0 == 8) = true := beq_iff_eq.mpr c24
            have c24b1 : (a0 != 8) = false := bne_eq_false_iff_eq.mpr c24
            clear c24
            have H' := Aside0.mk H
            clear H
            go_wp2
            go_meet
            case rel => exact ⟨_, ((a0 == 8)), (by first | rfl | (simp; done) | (simp [*]; done)), H', ⟨by have := HJ1.out; have := HJ10.out; have := HJ15.out; first | omega | exact Nat.le_refl _⟩, by repeat (first | exact Drawn0.refl _ | apply Drawn0.step)⟩
           rw [if_neg c24] at H
           have c24b0 : (a0 == 8) = false := beq_eq_false_iff_ne.mpr c24
           have c24b1 : (a0 != 8) = true := bne_iff_ne.mpr c24
           by_cases c25 : a0 = 18
           ·
            rw [if_pos c25] at H
            have c25b0 : (a0 == 18) = true := beq_iff_eq.mpr c25
            have c25b1 : (a0 != 18) = false := bne_eq_false_iff_eq.mpr c25
            clear c25
            have H' := Aside0.mk H
            clear H
            go_wp2
            go_meet
            case rel => exact ⟨_, ((a0 == 18)), (by first | rfl | (simp; done) | (simp [*]; done)), H', ⟨by have := HJ1.out; have := HJ10.out; have := HJ15.out; first | omega | exact Nat.le_refl _⟩, by repeat (first | exact Drawn0.refl _ | apply Drawn0.step)⟩
           rw [if_neg c25] at H
           have c25b0 : (a0 == 18) = false := beq_eq_false_iff_ne.mpr c25
           have c25b1 : (a0 != 18) = true := bne_iff_ne.mpr c25
           by_cases c26 : a0 = 21
           ·
            rw [if_pos c26] at H
            have c26b0 : (a0 == 21) = true := beq_iff_eq.mpr c26
            have c26b1 : (a0 != 21) = false := bne_eq_false_iff_eq.mpr c26
            clear c26
            have H' := Aside0.mk H
            clear H
            go_wp2
            go_meet
            case rel => exact ⟨_, ((a0 == 21)), (by first | rfl | (simp; done) | (simp [*]; done)), H', ⟨by have := HJ1.out; have := HJ10.out; have := HJ15.out; first | omega | exact Nat.le_refl _⟩, by repeat (first | exact Drawn0.refl _ | apply Drawn0.step)⟩
           rw [if_neg c26] at H
           have c26b0 : (a0 == 21) = false := beq_eq_false_iff_ne.mpr c26
           have c26b1 : (a0 != 21) = true := bne_iff_ne.mpr c26
           by_cases c27 : a0 = 26
           ·
            rw [if_pos c27] at H
            have c27b0 : (a0 == 26) = true := beq_iff_eq.mpr c27
            have c27b1 : (a0 != 26) = false := bne_eq_false_iff_eq.mpr c27
            clear c27
            have H' := Aside0.mk H
            clear H
            go_wp2
            go_meet
            case rel => exact ⟨_, ((a0 == 26)), (by first | rfl | (simp; done) | (simp [*]; done)), H', ⟨by have := HJ1.out; have := HJ10.out; have := HJ15.out; first | omega | exact Nat.le_refl _⟩, by repeat (first | exact Drawn0.refl _ | apply Drawn0.step)⟩
           rw [if_neg c27] at H
           have c27b0 : (a0 == 26) = false := beq_eq_false_iff_ne.mpr c27
           have c27b1 : (a0 != 26) = true := bne_iff_ne.mpr c27
           by_cases c28 : a0 = 28
           ·
            rw [if_pos c28] at H
            have c28b0 : (a0 == 28) = true := beq_iff_eq.mpr c28
            have c28b1 : (a0 != 28) = false := bne_eq_false_iff_eq.mpr c28
            clear c28
            have H' := Aside0.mk H
            clear H
            go_wp2
            go_meet
            case rel => exact ⟨_, ((a0 == 28)), (by first | rfl | (simp; done) | (simp [*]; done)), H', ⟨by have := HJ1.out; have := HJ10.out; have := HJ15.out; first | omega | exact Nat.le_refl _⟩, by repeat (first | exact Drawn0.refl _ | apply Drawn0.step)⟩
           rw [if_neg c28] at H
           have c28b0 : (a0 == 28) = false := beq_eq_false_iff_ne.mpr c28
           have c28b1 : (a0 != 28) = true := bne_iff_ne.mpr c28
           have H' := Aside0.mk H
           clear H
           go_wp2
           go_meet
           case rel => exact ⟨_, ((a0 == 31)), (by first | rfl | (simp; done) | (simp [*]; done)), H', ⟨by have := HJ1.out; have := HJ10.out; have := HJ15.out; first | omega | exact Nat.le_refl _⟩, by repeat (first | exact Drawn0.refl _ | apply Drawn0.step)⟩
          case rest =>
           as_aux_lemma =>
            clear HC22
            try clear c1
            try clear c2
            try clear p2
            try clear c3
            try clear c3b0
            try clear c3b1
            try clear c4
            try clear c4b0
            try clear c4b1
            try clear c5
            try clear c5b0
            try clear c5b1
            try clear c6
            try clear c6b0
            try clear c6b1
            try clear c7
            try clear c7b0
            try clear c7b1
            try clear c8
            try clear c8b0
            try clear c8b1
            try clear c9
            try clear c9b0
            try clear c9b1
            try clear c10
            try clear c11
            try clear c12
            try clear c12b0
            try clear c12b1
            try clear c13
            try clear c13b0
            try clear c13b1
            try clear c14
            try clear c14b0
            try clear c14b1
            try clear c15
            try clear c17
            try clear c17b0
            try clear c17b1
            try clear c18
            try clear c18b0
            try clear c18b1
            try clear c19
            try clear c19b0
            try clear c19b1
            try clear c20
            try clear c21
            try clear c21b0
            try clear c21b1
            try clear c23
            try clear c23b0
            try clear c23b1
            try clear c24
            try clear c24b0
            try clear c24b1
            try clear c25
            try clear c25b0
            try clear c25b1
            try clear c26
            try clear c26b0
            try clear c26b1
            try clear c27
            try clear c27b0
            try clear c27b1
            try clear c28
            try clear c28b0
            try clear c28b1
            try clear p2
            obtain ⟨kq, x26_21, rfl, HA, HJ21, ⟨mc21, rfl⟩⟩ := hcut
            cases kq with
            | zero => exact absurd HA.out (by simp [prop_Kind.j3])
            | succ kj21 =>
             have H := HA.out
             clear HA
             simp only [prop_Kind.j3] at H
             by_cases c29 : x26_21 = true
             ·
              subst c29
              have H1 : (some (5, 0)) = some (r1, r2) := by rw [if_pos rfl] at H; exact H
              clear H
              have H := H1
              clear H1
              simp only [Option.some.injEq, Prod.mk.injEq] at H
              obtain ⟨rfl, rfl⟩ := H
              go_wp2
              go_ret2
              exact ⟨by first | rfl | (simp; done) | (simp [*]; done), by repeat (first | exact Drawn0.refl _ | apply Drawn0.step)⟩
             replace c29 := Bool.eq_false_iff.mpr c29
             subst c29
             have H1 : (if a0 = 9 then (prop_Kind.j4 kj21 a0 (a0 == 9)) else (prop_Kind.j4 kj21 a0 (a0 == 22))) = some (r1, r2) := by rw [if_neg (show ¬ (false = true) by decide)] at H; exact H
             clear H
             have H := H1
             clear H1
             have HC30 := Aside0.mk H
             clear H
             go_upto_if 34 with (fail)
             go_cut [34] (fun v34 wc => ∃ (kq : Nat) (x34_29 : Bool), v34 = .bool x34_29 ∧ Aside0 (prop_Kind.j4 kq a0 x34_29 = some (r1, r2)) ∧ Aside0 (kq ≤ kj21) ∧ Drawn0 w wc)
             case first =>
              have H := HC30.out
              clear HC30
              by_cases c31 : a0 = 9
              ·
               rw [if_pos c31] at H
               have c31b0 : (a0 == 9) = true := beq_iff_eq.mpr c31
               have c31b1 : (a0 != 9) = false := bne_eq_false_iff_eq.mpr c31
               clear c31
               (first | rw [c31b0] | (simp only [i64_w, i32_w]; rw [c31b0]) | skip)
               have H' := Aside0.mk H
               clear H
               go_wp2
               go_meet
               case rel => exact ⟨_, ((a0 == 9)), (by first | rfl | (simp; done) | (simp [*]; done)), H', ⟨by have := HJ1.out; have := HJ10.out; have := HJ15.out; have := HJ21.out; first | omega | exact Nat.le_refl _⟩, by repeat (first | exact Drawn0.refl _ | apply Drawn0.step)⟩
              rw [if_neg c31] at H
              have c31b0 : (a0 == 9) = false := beq_eq_false_iff_ne.mpr c31
              have c31b1 : (a0 != 9) = true := bne_iff_ne.mpr c31
              (first | rw [c31b0] | (simp only [i64_w, i32_w]; rw [c31b0]) | skip)
              have H' := Aside0.mk H
              clear H
              go_wp2
              go_meet
              case rel => exact ⟨_, ((a0 == 22)), (by first | rfl | (simp; done) | (simp [*]; done)), H', ⟨by have := HJ1.out; have := HJ10.out; have := HJ15.out; have := HJ21.out; first | omega | exact Nat.le_refl _⟩, by repeat (first | exact Drawn0.refl _ | apply Drawn0.step)⟩
             case rest =>
              as_aux_lemma =>
               clear HC30
               try clear c1
               try clear c2
               try clear p2
               try clear c3
               try clear c3b0
               try clear c3b1
               try clear c4
               try clear c4b0
               try clear c4b1
               try clear c5
               try clear c5b0
               try clear c5b1
               try clear c6
               try clear c6b0
               try clear c6b1
               try clear c7
               try clear c7b0
               try clear c7b1
               try clear c8
               try clear c8b0
               try clear c8b1
               try clear c9
               try clear c9b0
               try clear c9b1
               try clear c10
               try clear c11
               try clear c12
               try clear c12b0
               try clear c12b1
               try clear c13
               try clear c13b0
               try clear c13b1
               try clear c14
               try clear c14b0
               try clear c14b1
               try clear c15
               try clear c17
               try clear c17b0
               try clear c17b1
               try clear c18
               try clear c18b0
               try clear c18b1
               try clear c19
               try clear c19b0
               try clear c19b1
               try clear c20
               try clear c21
               try clear c21b0
               try clear c21b1
               try clear c23
               try clear c23b0
               try clear c23b1
               try clear c24
               try clear c24b0
               try clear c24b1
               try clear c25
               try clear c25b0
               try clear c25b1
               try clear c26
               try clear c26b0
               try clear c26b1
               try clear c27
               try clear c27b0
               try clear c27b1
               try clear c28
               try clear c28b0
               try clear c28b1
               try clear c29
               try clear c31
               try clear c31b0
               try clear c31b1
               try clear p2
               obtain ⟨kq, x34_29, rfl, HA, HJ29, ⟨mc29, rfl⟩⟩ := hcut
               cases kq with
               | zero => exact absurd HA.out (by simp [prop_Kind.j4])
               | succ kj29 =>
                have H := HA.out
                clear HA
                simp only [prop_Kind.j4] at H
                by_cases c32 : x34_29 = true
                ·
                 subst c32
                 have H1 : (some (6, 0)) = some (r1, r2) := by rw [if_pos rfl] at H; exact H
                 clear H
                 have H := H1
                 clear H1
                 simp only [Option.some.injEq, Prod.mk.injEq] at H
                 obtain ⟨rfl, rfl⟩ := H
                 go_wp2
                 go_ret2
                 exact ⟨by first | rfl | (simp; done) | (simp [*]; done), by repeat (first | exact Drawn0.refl _ | apply Drawn0.step)⟩
                replace c32 := Bool.eq_false_iff.mpr c32
                subst c32
                have H1 : (if a0 = 38 then (some (7, 0)) else (some (0, 3))) = some (r1, r2) := by rw [if_neg (show ¬ (false = true) by decide)] at H; exact H
                clear H
                have H := H1
                clear H1
                by_cases c33 : a0 = 38
                ·
                 rw [if_pos c33] at H
                 have c33b0 : (a0 == 38) = true := beq_iff_eq.mpr c33
                 have c33b1 : (a0 != 38) = false := bne_eq_false_iff_eq.mpr c33
                 clear c33
                 simp only [Option.some.injEq, Prod.mk.injEq] at H
                 obtain ⟨rfl, rfl⟩ := H
                 go_wp2
                 go_ret2
                 exact ⟨by first | rfl | (simp; done) | (simp [*]; done), by repeat (first | exact Drawn0.refl _ | apply Drawn0.step)⟩
                rw [if_neg c33] at H
                have c33b0 : (a0 == 38) = false := beq_eq_false_iff_ne.mpr c33
                have c33b1 : (a0 != 38) = true := bne_iff_ne.mpr c33
                simp only [Option.some.injEq, Prod.mk.injEq] at H
                obtain ⟨rfl, rfl⟩ := H
                go_wp2
                go_ret2
                exact ⟨by first | rfl | (simp; done) | (simp [*]; done), by repeat (first | exact Drawn0.refl _ | apply Drawn0.step)⟩

end Go.Proofs.YtiancopplinpcaaDoor.P
