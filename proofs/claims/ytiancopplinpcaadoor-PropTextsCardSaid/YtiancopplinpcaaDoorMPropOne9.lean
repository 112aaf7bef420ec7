/- The statement PropNumbers, PropTexts, PropPairs: for every input the law answers true, and its argument reads behind the call as it did (part 10 of 14 of the proof). -/
import Derived.Test.YtiancopplinpcaaDoorMPropOne8
section
namespace Go.Proofs.YtiancopplinpcaaDoor.P
open Go.RowKit Go.Proofs.YtiancopplinpcaaDoorW.PrintWords Go.Proofs.YtiancopplinpcaaDoorW.PrintLast Go.Proofs.YtiancopplinpcaaDoorW.PrintMore
attribute [local go_sem] max2_int min2_int max_two min_two max_three min_three max_four min_four
set_option linter.unusedVariables false
set_option linter.unusedSimpArgs false
def fairwayref4_stands.j0 : Nat → Int → List Int → Int → Bool → Option (Bool)
  | 0, _, _, _, _ => none
  | k + 1, x1, x5, x6, x19 => if x19 = true then ((fairwayref0_In.f k (([31, 38] : List Int)) x1).bind fun t236 => (some (decide (t236 ≥ 0)))) else (if x6 = 8 then ((fairwayref0_In.f k (([11, 38] : List Int)) x1).bind fun t240 => (some (decide (t240 ≥ 0)))) else (if x6 = 10 then ((fairwayref0_In.f k (([38] : List Int)) x1).bind fun t244 => (some (decide (t244 ≥ 0)))) else (if x6 = 14 then ((fairwayref0_In.f k (([17, 28, 31, 38] : List Int)) x1).bind fun t248 => (some (decide (t248 ≥ 0)))) else (if x6 = 15 then ((fairwayref0_In.f k (([21, 22, 31, 38] : List Int)) x1).bind fun t252 => (some (decide (t252 ≥ 0)))) else ((fairwayref0_In.f k x5 x1).bind fun t253 => (some (decide (t253 ≥ 0))))))))
def fairwayref4_stands.f (k : Nat) (a0 : Int) (a1 : Int) : Option (Bool) := if a0 = 0 then ((fairwayref0_In.f k (([1, 2, 3, 8, 9, 24, 38] : List Int)) a1).bind fun t220 => (some (decide (t220 ≥ 0)))) else (if a0 = 1 then ((fairwayref0_In.f k (([17, 21, 22, 23, 25, 33, 34, 38, 39] : List Int)) a1).bind fun t224 => (some (decide (t224 ≥ 0)))) else (if a0 = 2 then ((fairwayref0_In.f k (([17, 18, 19, 21, 22, 26, 28, 31, 33, 34, 36, 37, 38, 39, 40, 41, 42] : List Int)) a1).bind fun t228 => (some (decide (t228 ≥ 0)))) else (if a0 = 3 then ((fairwayref0_In.f k (([1, 2, 3, 8, 9, 11, 35, 38] : List Int)) a1).bind fun t232 => (some (decide (t232 ≥ 0)))) else (if a0 = 4 then (fairwayref4_stands.j0 k a1 ([] : List Int) a0 (a0 == 4)) else (if a0 = 5 then (fairwayref4_stands.j0 k a1 ([] : List Int) a0 (a0 == 5)) else (if a0 = 6 then (fairwayref4_stands.j0 k a1 ([] : List Int) a0 (a0 == 6)) else (if a0 = 7 then (fairwayref4_stands.j0 k a1 ([] : List Int) a0 (a0 == 7)) else (if a0 = 9 then (fairwayref4_stands.j0 k a1 ([] : List Int) a0 (a0 == 9)) else (fairwayref4_stands.j0 k a1 ([] : List Int) a0 (a0 == 11))))))))))
theorem fairwayref4_stands.mono_l : ∀ k, (∀ y0 y1 y2 y3, LeO (fairwayref4_stands.j0 k y0 y1 y2 y3) (fairwayref4_stands.j0 (k + 1) y0 y1 y2 y3))
 | 0 => fun _ _ _ _ r h => by simp [fairwayref4_stands.j0] at h
 | k + 1 => by
  have ih0 := fairwayref4_stands.mono_l k
  ·
   intro y0 y1 y2 y3
   unfold fairwayref4_stands.j0; repeat' first
   | (with_reducible exact ih0 _ _ _ _)
   | (with_reducible exact fairwayref0_In.mono _ _ _)
   | (with_reducible exact LeO.refl _)
   | (with_reducible exact LeO.none _)
   | (with_reducible refine LeO.ite ?_ ?_)
   | (with_reducible refine LeO.bind ?_ (fun _ => ?_))
   | exact ih0 _ _ _ _
   | exact fairwayref0_In.mono _ _ _
   | exact LeO.none _
   | refine LeO.ite ?_ ?_
   | refine LeO.bind ?_ (fun _ => ?_)
theorem fairwayref4_stands.mono : ∀ a0 a1 k, LeO (fairwayref4_stands.f k a0 a1) (fairwayref4_stands.f (k + 1) a0 a1) := by
 intro a0 a1 k
 have ih0 := fairwayref4_stands.mono_l k; unfold fairwayref4_stands.f; repeat' first
   | (with_reducible exact ih0 _ _ _ _)
   | (with_reducible exact fairwayref0_In.mono _ _ _)
   | (with_reducible exact LeO.refl _)
   | (with_reducible exact LeO.none _)
   | (with_reducible refine LeO.ite ?_ ?_)
   | (with_reducible refine LeO.bind ?_ (fun _ => ?_))
   | exact ih0 _ _ _ _
   | exact fairwayref0_In.mono _ _ _
   | exact LeO.none _
   | refine LeO.ite ?_ ?_
   | refine LeO.bind ?_ (fun _ => ?_)
set_option maxHeartbeats 8000000 in
set_option maxRecDepth 100000 in
theorem fairwayref4_stands.calls (k : Nat) (a0 : Int) (a1 : Int) (r : Bool) (w : World) (h : fairwayref4_stands.f k a0 a1 = some r) :
  Calls Tryd.prog 31 #[.int .i64 a0, .int .i64 a1] w fun e w' => e = .returned (.bool r) ∧ Below w.heap.size w w' := by
 have HB := Aside0.mk (Below.refl w.heap.size w); have H : (if a0 = 0 then ((fairwayref0_In.f k (([1, 2, 3, 8, 9, 24, 38] : List Int)) a1).bind fun t220 => (some (decide (t220 ≥ 0)))) else (if a0 = 1 then ((fairwayref0_In.f k (([17, 21, 22, 23, 25, 33, 34, 38, 39] : List Int)) a1).bind fun t224 => (some (decide (t224 ≥ 0)))) else (if a0 = 2 then ((fairwayref0_In.f k (([17, 18, 19, 21, 22, 26, 28, 31, 33, 34, 36, 37, 38, 39, 40, 41, 42] : List Int)) a1).bind fun t228 => (some (decide (t228 ≥ 0)))) else (if a0 = 3 then ((fairwayref0_In.f k (([1, 2, 3, 8, 9, 11, 35, 38] : List Int)) a1).bind fun t232 => (some (decide (t232 ≥ 0)))) else (if a0 = 4 then (fairwayref4_stands.j0 k a1 ([] : List Int) a0 (a0 == 4)) else (if a0 = 5 then (fairwayref4_stands.j0 k a1 ([] : List Int) a0 (a0 == 5)) else (if a0 = 6 then (fairwayref4_stands.j0 k a1 ([] : List Int) a0 (a0 == 6)) else (if a0 = 7 then (fairwayref4_stands.j0 k a1 ([] : List Int) a0 (a0 == 7)) else (if a0 = 9 then (fairwayref4_stands.j0 k a1 ([] : List Int) a0 (a0 == 9)) else (fairwayref4_stands.j0 k a1 ([] : List Int) a0 (a0 == 11))))))))))) = some r := h; clear h; by_cases c3 : a0 = 0
 ·
  rw [if_pos c3] at H; have c3b0 : (a0 == 0) = true := beq_iff_eq.mpr c3; have c3b1 : (a0 != 0) = false := bne_eq_false_iff_eq.mpr c3; clear c3; obtain ⟨y217, hy217⟩ : ∃ y_ : List Int, y_ = (([1, 2, 3, 8, 9, 24, 38] : List Int)) := ⟨_, rfl⟩; replace H : ((fairwayref0_In.f k y217 a1).bind fun t220 => (some (decide (t220 ≥ 0)))) = some r := by first | (rw [hy217]; with_reducible exact H) | (have H2_ := (Option.bind_some _ _).symm.trans H; rw [hy217]; with_reducible exact H2_) | (have H2_ := (Option.bind_some _ _).symm.trans H; with_reducible exact H2_) | with_reducible exact H | (rw [hy217]; exact H) | exact H
  have Ny217 := Aside0.mk hy217; clear hy217; replace H := Option.bind_eq_some_iff.mp H; obtain ⟨t220, A40, H⟩ := H; replace H : (some (decide (t220 ≥ 0))) = some r := H; have A4 := Aside0.mk A40; clear A40; obtain rfl := Option.some.inj H; go_enter Tryd.func31, Tryd.ntmps31
  go_wp2_with (first | ((with_reducible refine gate_dst (N := 9) rfl ?_); refine Kd.R_lit (Kd.int .i64) _ 3 ?hg (N := 9) ?hd (xs := ([1, 2, 3, 8, 9, 24, 38] : List Int)) (inner := [.int .i64 1, .int .i64 2, .int .i64 3, .int .i64 8, .int .i64 9, .int .i64 24, .int .i64 38]) (ok := fun _ => True) (okp := fun _ => True) ?hr ?hp (fun _ hk => hk) trivial (Below.refl _ _) (Nat.le_refl _) (by simp) ?_; (case hd => rfl); (case hg => rfl); (case hr => first | (go_simp; done) | (go_simp; rfl)); (case hp => exact (Reps.one (show Kd.M (Kd.int .i64) _ _ _ 1 [.int .i64 1] from rfl) (Reps.one (show Kd.M (Kd.int .i64) _ _ _ 2 [.int .i64 2] from rfl) (Reps.one (show Kd.M (Kd.int .i64) _ _ _ 3 [.int .i64 3] from rfl) (Reps.one (show Kd.M (Kd.int .i64) _ _ _ 8 [.int .i64 8] from rfl) (Reps.one (show Kd.M (Kd.int .i64) _ _ _ 9 [.int .i64 9] from rfl) (Reps.one (show Kd.M (Kd.int .i64) _ _ _ 24 [.int .i64 24] from rfl) (Reps.one (show Kd.M (Kd.int .i64) _ _ _ 38 [.int .i64 38] from rfl) (Reps.none _ _))))))))); intro v218 w5 ho6 hb hg_ hnew_; clear hg_ hnew_; (first | rw [← Ny217.out] at ho6 | (simp only [Int.reduceToNat] at ho6; rw [← Ny217.out] at ho6)); have n0_ := Aside0.mk (Kd.R_lower ho6 (below_size zz21)); have n1_ := Aside0.mk (below_step zz21 hb); clear HB; have HO219 := n0_; have HB := n1_; clear n0_ n1_; clear hb ho6; obtain ⟨Ao7, co7, eo7⟩ := Kd.R_slice HO219.out; subst eo7) | ((with_reducible refine gate_callee (f := 45) rfl ?_); refine goesL_ (some 41) rfl rfl Tryd.func45 zz49 rfl #[.slice Ao7 y217.length co7, .int .i64 a1] rfl zz20 ?_; (with_reducible refine (fairwayref0_In.calls k _ _ y217 a1 t220 _ ?side1 ?side2 A4.out).mono ?_); (case side1 => repeat (first | exact (Kd.R_reads' HO219.out).2.2 | (with_reducible refine Kd.C_alloc ?_ _) | (with_reducible refine Kd.C_drewN ?_ _) | (with_reducible refine Kd.C_drew ?_))); (case side2 => exact (Kd.R_reads' HO219.out).2.1); rintro e w' ⟨rfl, ⟨nd, rfl⟩⟩; refine ⟨_, rfl, ?_⟩))
  go_ret
  exact ⟨zz40, zz21⟩
 rw [if_neg c3] at H; have c3b0 : (a0 == 0) = false := beq_eq_false_iff_ne.mpr c3; have c3b1 : (a0 != 0) = true := bne_iff_ne.mpr c3; by_cases c8 : a0 = 1
 ·
  rw [if_pos c8] at H; have c8b0 : (a0 == 1) = true := beq_iff_eq.mpr c8; have c8b1 : (a0 != 1) = false := bne_eq_false_iff_eq.mpr c8; clear c8; obtain ⟨y221, hy221⟩ : ∃ y_ : List Int, y_ = (([17, 21, 22, 23, 25, 33, 34, 38, 39] : List Int)) := ⟨_, rfl⟩; replace H : ((fairwayref0_In.f k y221 a1).bind fun t224 => (some (decide (t224 ≥ 0)))) = some r := by first | (rw [hy221]; with_reducible exact H) | (have H2_ := (Option.bind_some _ _).symm.trans H; rw [hy221]; with_reducible exact H2_) | (have H2_ := (Option.bind_some _ _).symm.trans H; with_reducible exact H2_) | with_reducible exact H | (rw [hy221]; exact H) | exact H
  have Ny221 := Aside0.mk hy221; clear hy221; replace H := Option.bind_eq_some_iff.mp H; obtain ⟨t224, A90, H⟩ := H; replace H : (some (decide (t224 ≥ 0))) = some r := H; have A9 := Aside0.mk A90; clear A90; obtain rfl := Option.some.inj H; go_enter Tryd.func31, Tryd.ntmps31
  go_wp2_with (first | ((with_reducible refine gate_dst (N := 12) rfl ?_); refine Kd.R_lit (Kd.int .i64) _ 3 ?hg (N := 12) ?hd (xs := ([17, 21, 22, 23, 25, 33, 34, 38, 39] : List Int)) (inner := [.int .i64 17, .int .i64 21, .int .i64 22, .int .i64 23, .int .i64 25, .int .i64 33, .int .i64 34, .int .i64 38, .int .i64 39]) (ok := fun _ => True) (okp := fun _ => True) ?hr ?hp (fun _ hk => hk) trivial (Below.refl _ _) (Nat.le_refl _) (by simp) ?_; (case hd => rfl); (case hg => rfl); (case hr => first | (go_simp; done) | (go_simp; rfl)); (case hp => exact (Reps.one (show Kd.M (Kd.int .i64) _ _ _ 17 [.int .i64 17] from rfl) (Reps.one (show Kd.M (Kd.int .i64) _ _ _ 21 [.int .i64 21] from rfl) (Reps.one (show Kd.M (Kd.int .i64) _ _ _ 22 [.int .i64 22] from rfl) (Reps.one (show Kd.M (Kd.int .i64) _ _ _ 23 [.int .i64 23] from rfl) (Reps.one (show Kd.M (Kd.int .i64) _ _ _ 25 [.int .i64 25] from rfl) (Reps.one (show Kd.M (Kd.int .i64) _ _ _ 33 [.int .i64 33] from rfl) (Reps.one (show Kd.M (Kd.int .i64) _ _ _ 34 [.int .i64 34] from rfl) (Reps.one (show Kd.M (Kd.int .i64) _ _ _ 38 [.int .i64 38] from rfl) (Reps.one (show Kd.M (Kd.int .i64) _ _ _ 39 [.int .i64 39] from rfl) (Reps.none _ _))))))))))); intro v222 w10 ho11 hb hg_ hnew_; clear hg_ hnew_; (first | rw [← Ny221.out] at ho11 | (simp only [Int.reduceToNat] at ho11; rw [← Ny221.out] at ho11)); have n0_ := Aside0.mk (Kd.R_lower ho11 (below_size zz21)); have n1_ := Aside0.mk (below_step zz21 hb); clear HB; have HO223 := n0_; have HB := n1_; clear n0_ n1_; clear hb ho11; obtain ⟨Ao12, co12, eo12⟩ := Kd.R_slice HO223.out; subst eo12) | ((with_reducible refine gate_callee (f := 45) rfl ?_); refine goesL_ (some 41) rfl rfl Tryd.func45 zz49 rfl #[.slice Ao12 y221.length co12, .int .i64 a1] rfl zz20 ?_; (with_reducible refine (fairwayref0_In.calls k _ _ y221 a1 t224 _ ?side1 ?side2 A9.out).mono ?_); (case side1 => repeat (first | exact (Kd.R_reads' HO223.out).2.2 | (with_reducible refine Kd.C_alloc ?_ _) | (with_reducible refine Kd.C_drewN ?_ _) | (with_reducible refine Kd.C_drew ?_))); (case side2 => exact (Kd.R_reads' HO223.out).2.1); rintro e w' ⟨rfl, ⟨nd, rfl⟩⟩; refine ⟨_, rfl, ?_⟩))
  go_ret
  exact ⟨zz40, zz21⟩
 rw [if_neg c8] at H; have c8b0 : (a0 == 1) = false := beq_eq_false_iff_ne.mpr c8; have c8b1 : (a0 != 1) = true := bne_iff_ne.mpr c8; by_cases c13 : a0 = 2
 ·
  rw [if_pos c13] at H; have c13b0 : (a0 == 2) = true := beq_iff_eq.mpr c13; have c13b1 : (a0 != 2) = false := bne_eq_false_iff_eq.mpr c13; clear c13; obtain ⟨y225, hy225⟩ : ∃ y_ : List Int, y_ = (([17, 18, 19, 21, 22, 26, 28, 31, 33, 34, 36, 37, 38, 39, 40, 41, 42] : List Int)) := ⟨_, rfl⟩; replace H : ((fairwayref0_In.f k y225 a1).bind fun t228 => (some (decide (t228 ≥ 0)))) = some r := by first | (rw [hy225]; with_reducible exact H) | (have H2_ := (Option.bind_some _ _).symm.trans H; rw [hy225]; with_reducible exact H2_) | (have H2_ := (Option.bind_some _ _).symm.trans H; with_reducible exact H2_) | with_reducible exact H | (rw [hy225]; exact H) | exact H
  have Ny225 := Aside0.mk hy225; clear hy225; replace H := Option.bind_eq_some_iff.mp H; obtain ⟨t228, A140, H⟩ := H; replace H : (some (decide (t228 ≥ 0))) = some r := H; have A14 := Aside0.mk A140; clear A140; obtain rfl := Option.some.inj H; go_enter Tryd.func31, Tryd.ntmps31
  go_wp2_with (first | ((with_reducible refine gate_dst (N := 15) rfl ?_); refine Kd.R_lit (Kd.int .i64) _ 3 ?hg (N := 15) ?hd (xs := ([17, 18, 19, 21, 22, 26, 28, 31, 33, 34, 36, 37, 38, 39, 40, 41, 42] : List Int)) (inner := [.int .i64 17, .int .i64 18, .int .i64 19, .int .i64 21, .int .i64 22, .int .i64 26, .int .i64 28, .int .i64 31, .int .i64 33, .int .i64 34, .int .i64 36, .int .i64 37, .int .i64 38, .int .i64 39, .int .i64 40, .int .i64 41, .int .i64 42]) (ok := fun _ => True) (okp := fun _ => True) ?hr ?hp (fun _ hk => hk) trivial (Below.refl _ _) (Nat.le_refl _) (by simp) ?_; (case hd => rfl); (case hg => rfl); (case hr => first | (go_simp; done) | (go_simp; rfl)); (case hp => exact (Reps.one (show Kd.M (Kd.int .i64) _ _ _ 17 [.int .i64 17] from rfl) (Reps.one (show Kd.M (Kd.int .i64) _ _ _ 18 [.int .i64 18] from rfl) (Reps.one (show Kd.M (Kd.int .i64) _ _ _ 19 [.int .i64 19] from rfl) (Reps.one (show Kd.M (Kd.int .i64) _ _ _ 21 [.int .i64 21] from rfl) (Reps.one (show Kd.M (Kd.int .i64) _ _ _ 22 [.int .i64 22] from rfl) (Reps.one (show Kd.M (Kd.int .i64) _ _ _ 26 [.int .i64 26] from rfl) (Reps.one (show Kd.M (Kd.int .i64) _ _ _ 28 [.int .i64 28] from rfl) (Reps.one (show Kd.M (Kd.int .i64) _ _ _ 31 [.int .i64 31] from rfl) (Reps.one (show Kd.M (Kd.int .i64) _ _ _ 33 [.int .i64 33] from rfl) (Reps.one (show Kd.M (Kd.int .i64) _ _ _ 34 [.int .i64 34] from rfl) (Reps.one (show Kd.M (Kd.int .i64) _ _ _ 36 [.int .i64 36] from rfl) (Reps.one (show Kd.M (Kd.int .i64) _ _ _ 37 [.int .i64 37] from rfl) (Reps.one (show Kd.M (Kd.int .i64) _ _ _ 38 [.int .i64 38] from rfl) (Reps.one (show Kd.M (Kd.int .i64) _ _ _ 39 [.int .i64 39] from rfl) (Reps.one (show Kd.M (Kd.int .i64) _ _ _ 40 [.int .i64 40] from rfl) (Reps.one (show Kd.M (Kd.int .i64) _ _ _ 41 [.int .i64 41] from rfl) (Reps.one (show Kd.M (Kd.int .i64) _ _ _ 42 [.int .i64 42] from rfl) (Reps.none _ _))))))))))))))))))); intro v226 w15 ho16 hb hg_ hnew_; clear hg_ hnew_; (first | rw [← Ny225.out] at ho16 | (simp only [Int.reduceToNat] at ho16; rw [← Ny225.out] at ho16)); have n0_ := Aside0.mk (Kd.R_lower ho16 (below_size zz21)); have n1_ := Aside0.mk (below_step zz21 hb); clear HB; have HO227 := n0_; have HB := n1_; clear n0_ n1_; clear hb ho16; obtain ⟨Ao17, co17, eo17⟩ := Kd.R_slice HO227.out; subst eo17) | ((with_reducible refine gate_callee (f := 45) rfl ?_); refine goesL_ (some 41) rfl rfl Tryd.func45 zz49 rfl #[.slice Ao17 y225.length co17, .int .i64 a1] rfl zz20 ?_; (with_reducible refine (fairwayref0_In.calls k _ _ y225 a1 t228 _ ?side1 ?side2 A14.out).mono ?_); (case side1 => repeat (first | exact (Kd.R_reads' HO227.out).2.2 | (with_reducible refine Kd.C_alloc ?_ _) | (with_reducible refine Kd.C_drewN ?_ _) | (with_reducible refine Kd.C_drew ?_))); (case side2 => exact (Kd.R_reads' HO227.out).2.1); rintro e w' ⟨rfl, ⟨nd, rfl⟩⟩; refine ⟨_, rfl, ?_⟩))
  go_ret
  exact ⟨zz40, zz21⟩
 rw [if_neg c13] at H; have c13b0 : (a0 == 2) = false := beq_eq_false_iff_ne.mpr c13; have c13b1 : (a0 != 2) = true := bne_iff_ne.mpr c13; by_cases c18 : a0 = 3
 ·
  rw [if_pos c18] at H; have c18b0 : (a0 == 3) = true := beq_iff_eq.mpr c18; have c18b1 : (a0 != 3) = false := bne_eq_false_iff_eq.mpr c18; clear c18; obtain ⟨y229, hy229⟩ : ∃ y_ : List Int, y_ = (([1, 2, 3, 8, 9, 11, 35, 38] : List Int)) := ⟨_, rfl⟩; replace H : ((fairwayref0_In.f k y229 a1).bind fun t232 => (some (decide (t232 ≥ 0)))) = some r := by first | (rw [hy229]; with_reducible exact H) | (have H2_ := (Option.bind_some _ _).symm.trans H; rw [hy229]; with_reducible exact H2_) | (have H2_ := (Option.bind_some _ _).symm.trans H; with_reducible exact H2_) | with_reducible exact H | (rw [hy229]; exact H) | exact H
  have Ny229 := Aside0.mk hy229; clear hy229; replace H := Option.bind_eq_some_iff.mp H; obtain ⟨t232, A190, H⟩ := H; replace H : (some (decide (t232 ≥ 0))) = some r := H; have A19 := Aside0.mk A190; clear A190; obtain rfl := Option.some.inj H; go_enter Tryd.func31, Tryd.ntmps31
  go_wp2_with (first | ((with_reducible refine gate_dst (N := 18) rfl ?_); refine Kd.R_lit (Kd.int .i64) _ 3 ?hg (N := 18) ?hd (xs := ([1, 2, 3, 8, 9, 11, 35, 38] : List Int)) (inner := [.int .i64 1, .int .i64 2, .int .i64 3, .int .i64 8, .int .i64 9, .int .i64 11, .int .i64 35, .int .i64 38]) (ok := fun _ => True) (okp := fun _ => True) ?hr ?hp (fun _ hk => hk) trivial (Below.refl _ _) (Nat.le_refl _) (by simp) ?_; (case hd => rfl); (case hg => rfl); (case hr => first | (go_simp; done) | (go_simp; rfl)); (case hp => exact (Reps.one (show Kd.M (Kd.int .i64) _ _ _ 1 [.int .i64 1] from rfl) (Reps.one (show Kd.M (Kd.int .i64) _ _ _ 2 [.int .i64 2] from rfl) (Reps.one (show Kd.M (Kd.int .i64) _ _ _ 3 [.int .i64 3] from rfl) (Reps.one (show Kd.M (Kd.int .i64) _ _ _ 8 [.int .i64 8] from rfl) (Reps.one (show Kd.M (Kd.int .i64) _ _ _ 9 [.int .i64 9] from rfl) (Reps.one (show Kd.M (Kd.int .i64) _ _ _ 11 [.int .i64 11] from rfl) (Reps.one (show Kd.M (Kd.int .i64) _ _ _ 35 [.int .i64 35] from rfl) (Reps.one (show Kd.M (Kd.int .i64) _ _ _ 38 [.int .i64 38] from rfl) (Reps.none _ _)))))))))); intro v230 w20 ho21 hb hg_ hnew_; clear hg_ hnew_; (first | rw [← Ny229.out] at ho21 | (simp only [Int.reduceToNat] at ho21; rw [← Ny229.out] at ho21)); have n0_ := Aside0.mk (Kd.R_lower ho21 (below_size zz21)); have n1_ := Aside0.mk (below_step zz21 hb); clear HB; have HO231 := n0_; have HB := n1_; clear n0_ n1_; clear hb ho21; obtain ⟨Ao22, co22, eo22⟩ := Kd.R_slice HO231.out; subst eo22) | ((with_reducible refine gate_callee (f := 45) rfl ?_); refine goesL_ (some 41) rfl rfl Tryd.func45 zz49 rfl #[.slice Ao22 y229.length co22, .int .i64 a1] rfl zz20 ?_; (with_reducible refine (fairwayref0_In.calls k _ _ y229 a1 t232 _ ?side1 ?side2 A19.out).mono ?_); (case side1 => repeat (first | exact (Kd.R_reads' HO231.out).2.2 | (with_reducible refine Kd.C_alloc ?_ _) | (with_reducible refine Kd.C_drewN ?_ _) | (with_reducible refine Kd.C_drew ?_))); (case side2 => exact (Kd.R_reads' HO231.out).2.1); rintro e w' ⟨rfl, ⟨nd, rfl⟩⟩; refine ⟨_, rfl, ?_⟩))
  go_ret
  exact ⟨zz40, zz21⟩
 rw [if_neg c18] at H; have c18b0 : (a0 == 3) = false := beq_eq_false_iff_ne.mpr c18; have c18b1 : (a0 != 3) = true := bne_iff_ne.mpr c18; have HC23 := Aside0.mk H; clear H; go_enter Tryd.func31, Tryd.ntmps31
 go_upto_if 19 with (fail)
 go_cut [19] (fun v19 wc => ∃ (kq : Nat) (x19_22 : Bool), v19 = .bool x19_22 ∧ Aside0 (fairwayref4_stands.j0 kq a1 ([] : List Int) a0 x19_22 = some r) ∧ Aside0 (kq ≤ k) ∧ Aside0 (Kd.R (Kd.int .i64) 3 wc w.heap.size (fun _ => True) (.slice none 0 0) ([] : List Int)) ∧ Aside0 (Below w.heap.size w wc))
 case first =>
  have H := HC23.out; clear HC23; by_cases c24 : a0 = 4
  ·
   rw [if_pos c24] at H; have c24b0 : (a0 == 4) = true := beq_iff_eq.mpr c24; have c24b1 : (a0 != 4) = false := bne_eq_false_iff_eq.mpr c24; clear c24; (first | rw [c24b0] | (simp only [i64_w, i32_w]; rw [c24b0]) | skip)
   have H' := Aside0.mk H; clear H; go_wp2
   go_meet
   case rel => exact ⟨_, ((a0 == 4)), zz47, H', ⟨zz48⟩, ⟨zz16⟩, ⟨zz21⟩⟩
  rw [if_neg c24] at H; have c24b0 : (a0 == 4) = false := beq_eq_false_iff_ne.mpr c24; have c24b1 : (a0 != 4) = true := bne_iff_ne.mpr c24; (first | rw [c24b0] | (simp only [i64_w, i32_w]; rw [c24b0]) | skip)
  by_cases c25 : a0 = 5
  ·
   rw [if_pos c25] at H; have c25b0 : (a0 == 5) = true := beq_iff_eq.mpr c25; have c25b1 : (a0 != 5) = false := bne_eq_false_iff_eq.mpr c25; clear c25; have H' := Aside0.mk H; clear H; go_wp2
   go_meet
   case rel => exact ⟨_, ((a0 == 5)), zz47, H', ⟨zz48⟩, ⟨zz16⟩, ⟨zz21⟩⟩
  rw [if_neg c25] at H; have c25b0 : (a0 == 5) = false := beq_eq_false_iff_ne.mpr c25; have c25b1 : (a0 != 5) = true := bne_iff_ne.mpr c25; by_cases c26 : a0 = 6
  ·
   rw [if_pos c26] at H; have c26b0 : (a0 == 6) = true := beq_iff_eq.mpr c26; have c26b1 : (a0 != 6) = false := bne_eq_false_iff_eq.mpr c26; clear c26; have H' := Aside0.mk H; clear H; go_wp2
   go_meet
   case rel => exact ⟨_, ((a0 == 6)), zz47, H', ⟨zz48⟩, ⟨zz16⟩, ⟨zz21⟩⟩
  rw [if_neg c26] at H; have c26b0 : (a0 == 6) = false := beq_eq_false_iff_ne.mpr c26; have c26b1 : (a0 != 6) = true := bne_iff_ne.mpr c26; by_cases c27 : a0 = 7
  ·
   rw [if_pos c27] at H; have c27b0 : (a0 == 7) = true := beq_iff_eq.mpr c27; have c27b1 : (a0 != 7) = false := bne_eq_false_iff_eq.mpr c27; clear c27; have H' := Aside0.mk H; clear H; go_wp2
   go_meet
   case rel => exact ⟨_, ((a0 == 7)), zz47, H', ⟨zz48⟩, ⟨zz16⟩, ⟨zz21⟩⟩
  rw [if_neg c27] at H; have c27b0 : (a0 == 7) = false := beq_eq_false_iff_ne.mpr c27; have c27b1 : (a0 != 7) = true := bne_iff_ne.mpr c27; by_cases c28 : a0 = 9
  ·
   rw [if_pos c28] at H; have c28b0 : (a0 == 9) = true := beq_iff_eq.mpr c28; have c28b1 : (a0 != 9) = false := bne_eq_false_iff_eq.mpr c28; clear c28; have H' := Aside0.mk H; clear H; go_wp2
   go_meet
   case rel => exact ⟨_, ((a0 == 9)), zz47, H', ⟨zz48⟩, ⟨zz16⟩, ⟨zz21⟩⟩
  rw [if_neg c28] at H; have c28b0 : (a0 == 9) = false := beq_eq_false_iff_ne.mpr c28; have c28b1 : (a0 != 9) = true := bne_iff_ne.mpr c28; have H' := Aside0.mk H; clear H; go_wp2
  go_meet
  case rel => exact ⟨_, ((a0 == 11)), zz47, H', ⟨zz48⟩, ⟨zz16⟩, ⟨zz21⟩⟩
 case rest =>
  clear HC23; (try clear c1); (try clear c2); (try clear p2); (try clear c3); (try clear c3b0); (try clear c3b1); (try clear c4); (try clear c8); (try clear c8b0); (try clear c8b1); (try clear c13); (try clear c13b0); (try clear c13b1); (try clear c18); (try clear c18b0); (try clear c18b1); (try clear c24); (try clear c24b0); (try clear c24b1); (try clear c25); (try clear c25b0); (try clear c25b1); (try clear c26); (try clear c26b0); (try clear c26b1); (try clear c27); (try clear c27b0); (try clear c27b1); (try clear c28); (try clear c28b0); (try clear c28b1); obtain ⟨kq, x19_22, rfl, HA, HJ22, HO_5, HB⟩ := hcut; cases kq with
  | zero => exact absurd HA.out (by simp [fairwayref4_stands.j0])
  | succ kj22 =>
   have H := HA.out; clear HA; simp only [fairwayref4_stands.j0] at H; by_cases c29 : x19_22 = true
   ·
    subst c29; have H1 : ((fairwayref0_In.f kj22 (([31, 38] : List Int)) a1).bind fun t236 => (some (decide (t236 ≥ 0)))) = some r := by rw [if_pos rfl] at H; exact H
    clear H; have H := H1; clear H1; obtain ⟨y233, hy233⟩ : ∃ y_ : List Int, y_ = (([31, 38] : List Int)) := ⟨_, rfl⟩; replace H : ((fairwayref0_In.f kj22 y233 a1).bind fun t236 => (some (decide (t236 ≥ 0)))) = some r := by first | (rw [hy233]; with_reducible exact H) | (have H2_ := (Option.bind_some _ _).symm.trans H; rw [hy233]; with_reducible exact H2_) | (have H2_ := (Option.bind_some _ _).symm.trans H; with_reducible exact H2_) | with_reducible exact H | (rw [hy233]; exact H) | exact H
    have Ny233 := Aside0.mk hy233; clear hy233; replace H := Option.bind_eq_some_iff.mp H; obtain ⟨t236, A300, H⟩ := H; replace H : (some (decide (t236 ≥ 0))) = some r := H; have A30 := Aside0.mk A300; clear A300; obtain rfl := Option.some.inj H; go_wp2_with (first | ((with_reducible refine gate_dst (N := 26) rfl ?_); refine Kd.R_lit (Kd.int .i64) _ 3 ?hg (N := 26) ?hd (xs := ([31, 38] : List Int)) (inner := [.int .i64 31, .int .i64 38]) (ok := fun _ => True) (okp := fun _ => True) ?hr ?hp (fun _ hk => hk) trivial (Below.refl _ _) (Nat.le_refl _) (by simp) ?_; (case hd => rfl); (case hg => rfl); (case hr => first | (go_simp; done) | (go_simp; rfl)); (case hp => exact (Reps.one (show Kd.M (Kd.int .i64) _ _ _ 31 [.int .i64 31] from rfl) (Reps.one (show Kd.M (Kd.int .i64) _ _ _ 38 [.int .i64 38] from rfl) (Reps.none _ _)))); intro v234 w31 ho32 hb hg_ hnew_; clear hg_ hnew_; (first | rw [← Ny233.out] at ho32 | (simp only [Int.reduceToNat] at ho32; rw [← Ny233.out] at ho32)); have n0_ := Aside0.mk (Kd.R_elder' zz39 (Kd.R_base ho32) hb); have n1_ := Aside0.mk (Kd.R_lower (Kd.R_new' ho32 (Kd.R_lt zz39)) (below_size zz21)); have n2_ := Aside0.mk (below_step zz21 hb); clear HO_5; clear HB; have HO_5 := n0_; have HO235 := n1_; have HB := n2_; clear n0_ n1_ n2_; clear hb ho32; obtain ⟨Ao33, co33, eo33⟩ := Kd.R_slice HO235.out; subst eo33) | ((with_reducible refine gate_callee (f := 45) rfl ?_); refine goesL_ (some 41) rfl rfl Tryd.func45 zz49 rfl #[.slice Ao33 y233.length co33, .int .i64 a1] rfl zz20 ?_; (with_reducible refine (fairwayref0_In.calls kj22 _ _ y233 a1 t236 _ ?side1 ?side2 A30.out).mono ?_); (case side1 => repeat (first | exact (Kd.R_reads' HO235.out).2.2 | (with_reducible refine Kd.C_alloc ?_ _) | (with_reducible refine Kd.C_drewN ?_ _) | (with_reducible refine Kd.C_drew ?_))); (case side2 => exact (Kd.R_reads' HO235.out).2.1); rintro e w' ⟨rfl, ⟨nd, rfl⟩⟩; refine ⟨_, rfl, ?_⟩))
    go_ret
    exact ⟨zz40, zz21⟩
   replace c29 := Bool.eq_false_iff.mpr c29; subst c29; have H1 : (if a0 = 8 then ((fairwayref0_In.f kj22 (([11, 38] : List Int)) a1).bind fun t240 => (some (decide (t240 ≥ 0)))) else (if a0 = 10 then ((fairwayref0_In.f kj22 (([38] : List Int)) a1).bind fun t244 => (some (decide (t244 ≥ 0)))) else (if a0 = 14 then ((fairwayref0_In.f kj22 (([17, 28, 31, 38] : List Int)) a1).bind fun t248 => (some (decide (t248 ≥ 0)))) else (if a0 = 15 then ((fairwayref0_In.f kj22 (([21, 22, 31, 38] : List Int)) a1).bind fun t252 => (some (decide (t252 ≥ 0)))) else ((fairwayref0_In.f kj22 ([] : List Int) a1).bind fun t253 => (some (decide (t253 ≥ 0)))))))) = some r := by rw [if_neg (show ¬ (false = true) by decide)] at H; exact H
   clear H; have H := H1; clear H1; by_cases c34 : a0 = 8
   ·
    rw [if_pos c34] at H; have c34b0 : (a0 == 8) = true := beq_iff_eq.mpr c34; have c34b1 : (a0 != 8) = false := bne_eq_false_iff_eq.mpr c34; clear c34; obtain ⟨y237, hy237⟩ : ∃ y_ : List Int, y_ = (([11, 38] : List Int)) := ⟨_, rfl⟩; replace H : ((fairwayref0_In.f kj22 y237 a1).bind fun t240 => (some (decide (t240 ≥ 0)))) = some r := by first | (rw [hy237]; with_reducible exact H) | (have H2_ := (Option.bind_some _ _).symm.trans H; rw [hy237]; with_reducible exact H2_) | (have H2_ := (Option.bind_some _ _).symm.trans H; with_reducible exact H2_) | with_reducible exact H | (rw [hy237]; exact H) | exact H
    have Ny237 := Aside0.mk hy237; clear hy237; replace H := Option.bind_eq_some_iff.mp H; obtain ⟨t240, A350, H⟩ := H; replace H : (some (decide (t240 ≥ 0))) = some r := H; have A35 := Aside0.mk A350; clear A350; obtain rfl := Option.some.inj H; go_wp2_with (first | ((with_reducible refine gate_dst (N := 29) rfl ?_); refine Kd.R_lit (Kd.int .i64) _ 3 ?hg (N := 29) ?hd (xs := ([11, 38] : List Int)) (inner := [.int .i64 11, .int .i64 38]) (ok := fun _ => True) (okp := fun _ => True) ?hr ?hp (fun _ hk => hk) trivial (Below.refl _ _) (Nat.le_refl _) (by simp) ?_; (case hd => rfl); (case hg => rfl); (case hr => first | (go_simp; done) | (go_simp; rfl)); (case hp => exact (Reps.one (show Kd.M (Kd.int .i64) _ _ _ 11 [.int .i64 11] from rfl) (Reps.one (show Kd.M (Kd.int .i64) _ _ _ 38 [.int .i64 38] from rfl) (Reps.none _ _)))); intro v238 w36 ho37 hb hg_ hnew_; clear hg_ hnew_; (first | rw [← Ny237.out] at ho37 | (simp only [Int.reduceToNat] at ho37; rw [← Ny237.out] at ho37)); have n0_ := Aside0.mk (Kd.R_elder' zz39 (Kd.R_base ho37) hb); have n1_ := Aside0.mk (Kd.R_lower (Kd.R_new' ho37 (Kd.R_lt zz39)) (below_size zz21)); have n2_ := Aside0.mk (below_step zz21 hb); clear HO_5; clear HB; have HO_5 := n0_; have HO239 := n1_; have HB := n2_; clear n0_ n1_ n2_; clear hb ho37; obtain ⟨Ao38, co38, eo38⟩ := Kd.R_slice HO239.out; subst eo38) | ((with_reducible refine gate_callee (f := 45) rfl ?_); refine goesL_ (some 41) rfl rfl Tryd.func45 zz49 rfl #[.slice Ao38 y237.length co38, .int .i64 a1] rfl zz20 ?_; (with_reducible refine (fairwayref0_In.calls kj22 _ _ y237 a1 t240 _ ?side1 ?side2 A35.out).mono ?_); (case side1 => repeat (first | exact (Kd.R_reads' HO239.out).2.2 | (with_reducible refine Kd.C_alloc ?_ _) | (with_reducible refine Kd.C_drewN ?_ _) | (with_reducible refine Kd.C_drew ?_))); (case side2 => exact (Kd.R_reads' HO239.out).2.1); rintro e w' ⟨rfl, ⟨nd, rfl⟩⟩; refine ⟨_, rfl, ?_⟩))
    go_ret
    exact ⟨zz40, zz21⟩
   rw [if_neg c34] at H; have c34b0 : (a0 == 8) = false := beq_eq_false_iff_ne.mpr c34; have c34b1 : (a0 != 8) = true := bne_iff_ne.mpr c34; by_cases c39 : a0 = 10
   ·
    rw [if_pos c39] at H; have c39b0 : (a0 == 10) = true := beq_iff_eq.mpr c39; have c39b1 : (a0 != 10) = false := bne_eq_false_iff_eq.mpr c39; clear c39; obtain ⟨y241, hy241⟩ : ∃ y_ : List Int, y_ = (([38] : List Int)) := ⟨_, rfl⟩; replace H : ((fairwayref0_In.f kj22 y241 a1).bind fun t244 => (some (decide (t244 ≥ 0)))) = some r := by first | (rw [hy241]; with_reducible exact H) | (have H2_ := (Option.bind_some _ _).symm.trans H; rw [hy241]; with_reducible exact H2_) | (have H2_ := (Option.bind_some _ _).symm.trans H; with_reducible exact H2_) | with_reducible exact H | (rw [hy241]; exact H) | exact H
    have Ny241 := Aside0.mk hy241; clear hy241; replace H := Option.bind_eq_some_iff.mp H; obtain ⟨t244, A400, H⟩ := H; replace H : (some (decide (t244 ≥ 0))) = some r := H; have A40 := Aside0.mk A400; clear A400; obtain rfl := Option.some.inj H; go_wp2_with (first | ((with_reducible refine gate_dst (N := 32) rfl ?_); refine Kd.R_lit (Kd.int .i64) _ 3 ?hg (N := 32) ?hd (xs := ([38] : List Int)) (inner := [.int .i64 38]) (ok := fun _ => True) (okp := fun _ => True) ?hr ?hp (fun _ hk => hk) trivial (Below.refl _ _) (Nat.le_refl _) (by simp) ?_; (case hd => rfl); (case hg => rfl); (case hr => first | (go_simp; done) | (go_simp; rfl)); (case hp => exact (Reps.one (show Kd.M (Kd.int .i64) _ _ _ 38 [.int .i64 38] from rfl) (Reps.none _ _))); intro v242 w41 ho42 hb hg_ hnew_; clear hg_ hnew_; (first | rw [← Ny241.out] at ho42 | (simp only [Int.reduceToNat] at ho42; rw [← Ny241.out] at ho42)); have n0_ := Aside0.mk (Kd.R_elder' zz39 (Kd.R_base ho42) hb); have n1_ := Aside0.mk (Kd.R_lower (Kd.R_new' ho42 (Kd.R_lt zz39)) (below_size zz21)); have n2_ := Aside0.mk (below_step zz21 hb); clear HO_5; clear HB; have HO_5 := n0_; have HO243 := n1_; have HB := n2_; clear n0_ n1_ n2_; clear hb ho42; obtain ⟨Ao43, co43, eo43⟩ := Kd.R_slice HO243.out; subst eo43) | ((with_reducible refine gate_callee (f := 45) rfl ?_); refine goesL_ (some 41) rfl rfl Tryd.func45 zz49 rfl #[.slice Ao43 y241.length co43, .int .i64 a1] rfl zz20 ?_; (with_reducible refine (fairwayref0_In.calls kj22 _ _ y241 a1 t244 _ ?side1 ?side2 A40.out).mono ?_); (case side1 => repeat (first | exact (Kd.R_reads' HO243.out).2.2 | (with_reducible refine Kd.C_alloc ?_ _) | (with_reducible refine Kd.C_drewN ?_ _) | (with_reducible refine Kd.C_drew ?_))); (case side2 => exact (Kd.R_reads' HO243.out).2.1); rintro e w' ⟨rfl, ⟨nd, rfl⟩⟩; refine ⟨_, rfl, ?_⟩))
    go_ret
    exact ⟨zz40, zz21⟩
   rw [if_neg c39] at H; have c39b0 : (a0 == 10) = false := beq_eq_false_iff_ne.mpr c39; have c39b1 : (a0 != 10) = true := bne_iff_ne.mpr c39; by_cases c44 : a0 = 14
   ·
    rw [if_pos c44] at H; have c44b0 : (a0 == 14) = true := beq_iff_eq.mpr c44; have c44b1 : (a0 != 14) = false := bne_eq_false_iff_eq.mpr c44; clear c44; obtain ⟨y245, hy245⟩ : ∃ y_ : List Int, y_ = (([17, 28, 31, 38] : List Int)) := ⟨_, rfl⟩; replace H : ((fairwayref0_In.f kj22 y245 a1).bind fun t248 => (some (decide (t248 ≥ 0)))) = some r := by first | (rw [hy245]; with_reducible exact H) | (have H2_ := (Option.bind_some _ _).symm.trans H; rw [hy245]; with_reducible exact H2_) | (have H2_ := (Option.bind_some _ _).symm.trans H; with_reducible exact H2_) | with_reducible exact H | (rw [hy245]; exact H) | exact H
    have Ny245 := Aside0.mk hy245; clear hy245; replace H := Option.bind_eq_some_iff.mp H; obtain ⟨t248, A450, H⟩ := H; replace H : (some (decide (t248 ≥ 0))) = some r := H; have A45 := Aside0.mk A450; clear A450; obtain rfl := Option.some.inj H; go_wp2_with (first | ((with_reducible refine gate_dst (N := 35) rfl ?_); refine Kd.R_lit (Kd.int .i64) _ 3 ?hg (N := 35) ?hd (xs := ([17, 28, 31, 38] : List Int)) (inner := [.int .i64 17, .int .i64 28, .int .i64 31, .int .i64 38]) (ok := fun _ => True) (okp := fun _ => True) ?hr ?hp (fun _ hk => hk) trivial (Below.refl _ _) (Nat.le_refl _) (by simp) ?_; (case hd => rfl); (case hg => rfl); (case hr => first | (go_simp; done) | (go_simp; rfl)); (case hp => exact (Reps.one (show Kd.M (Kd.int .i64) _ _ _ 17 [.int .i64 17] from rfl) (Reps.one (show Kd.M (Kd.int .i64) _ _ _ 28 [.int .i64 28] from rfl) (Reps.one (show Kd.M (Kd.int .i64) _ _ _ 31 [.int .i64 31] from rfl) (Reps.one (show Kd.M (Kd.int .i64) _ _ _ 38 [.int .i64 38] from rfl) (Reps.none _ _)))))); intro v246 w46 ho47 hb hg_ hnew_; clear hg_ hnew_; (first | rw [← Ny245.out] at ho47 | (simp only [Int.reduceToNat] at ho47; rw [← Ny245.out] at ho47)); have n0_ := Aside0.mk (Kd.R_elder' zz39 (Kd.R_base ho47) hb); have n1_ := Aside0.mk (Kd.R_lower (Kd.R_new' ho47 (Kd.R_lt zz39)) (below_size zz21)); have n2_ := Aside0.mk (below_step zz21 hb); clear HO_5; clear HB; have HO_5 := n0_; have HO247 := n1_; have HB := n2_; clear n0_ n1_ n2_; clear hb ho47; obtain ⟨Ao48, co48, eo48⟩ := Kd.R_slice HO247.out; subst eo48) | ((with_reducible refine gate_callee (f := 45) rfl ?_); refine goesL_ (some 41) rfl rfl Tryd.func45 zz49 rfl #[.slice Ao48 y245.length co48, .int .i64 a1] rfl zz20 ?_; (with_reducible refine (fairwayref0_In.calls kj22 _ _ y245 a1 t248 _ ?side1 ?side2 A45.out).mono ?_); (case side1 => repeat (first | exact (Kd.R_reads' HO247.out).2.2 | (with_reducible refine Kd.C_alloc ?_ _) | (with_reducible refine Kd.C_drewN ?_ _) | (with_reducible refine Kd.C_drew ?_))); (case side2 => exact (Kd.R_reads' HO247.out).2.1); rintro e w' ⟨rfl, ⟨nd, rfl⟩⟩; refine ⟨_, rfl, ?_⟩))
    go_ret
    exact ⟨zz40, zz21⟩
   rw [if_neg c44] at H; have c44b0 : (a0 == 14) = false := beq_eq_false_iff_ne.mpr c44; have c44b1 : (a0 != 14) = true := bne_iff_ne.mpr c44; by_cases c49 : a0 = 15
   ·
    rw [if_pos c49] at H; have c49b0 : (a0 == 15) = true := beq_iff_eq.mpr c49; have c49b1 : (a0 != 15) = false := bne_eq_false_iff_eq.mpr c49; clear c49; obtain ⟨y249, hy249⟩ : ∃ y_ : List Int, y_ = (([21, 22, 31, 38] : List Int)) := ⟨_, rfl⟩; replace H : ((fairwayref0_In.f kj22 y249 a1).bind fun t252 => (some (decide (t252 ≥ 0)))) = some r := by first | (rw [hy249]; with_reducible exact H) | (have H2_ := (Option.bind_some _ _).symm.trans H; rw [hy249]; with_reducible exact H2_) | (have H2_ := (Option.bind_some _ _).symm.trans H; with_reducible exact H2_) | with_reducible exact H | (rw [hy249]; exact H) | exact H
    have Ny249 := Aside0.mk hy249; clear hy249; replace H := Option.bind_eq_some_iff.mp H; obtain ⟨t252, A500, H⟩ := H; replace H : (some (decide (t252 ≥ 0))) = some r := H; have A50 := Aside0.mk A500; clear A500; obtain rfl := Option.some.inj H; go_wp2_with (first | ((with_reducible refine gate_dst (N := 38) rfl ?_); refine Kd.R_lit (Kd.int .i64) _ 3 ?hg (N := 38) ?hd (xs := ([21, 22, 31, 38] : List Int)) (inner := [.int .i64 21, .int .i64 22, .int .i64 31, .int .i64 38]) (ok := fun _ => True) (okp := fun _ => True) ?hr ?hp (fun _ hk => hk) trivial (Below.refl _ _) (Nat.le_refl _) (by simp) ?_; (case hd => rfl); (case hg => rfl); (case hr => first | (go_simp; done) | (go_simp; rfl)); (case hp => exact (Reps.one (show Kd.M (Kd.int .i64) _ _ _ 21 [.int .i64 21] from rfl) (Reps.one (show Kd.M (Kd.int .i64) _ _ _ 22 [.int .i64 22] from rfl) (Reps.one (show Kd.M (Kd.int .i64) _ _ _ 31 [.int .i64 31] from rfl) (Reps.one (show Kd.M (Kd.int .i64) _ _ _ 38 [.int .i64 38] from rfl) (Reps.none _ _)))))); intro v250 w51 ho52 hb hg_ hnew_; clear hg_ hnew_; (first | rw [← Ny249.out] at ho52 | (simp only [Int.reduceToNat] at ho52; rw [← Ny249.out] at ho52)); have n0_ := Aside0.mk (Kd.R_elder' zz39 (Kd.R_base ho52) hb); have n1_ := Aside0.mk (Kd.R_lower (Kd.R_new' ho52 (Kd.R_lt zz39)) (below_size zz21)); have n2_ := Aside0.mk (below_step zz21 hb); clear HO_5; clear HB; have HO_5 := n0_; have HO251 := n1_; have HB := n2_; clear n0_ n1_ n2_; clear hb ho52; obtain ⟨Ao53, co53, eo53⟩ := Kd.R_slice HO251.out; subst eo53) | ((with_reducible refine gate_callee (f := 45) rfl ?_); refine goesL_ (some 41) rfl rfl Tryd.func45 zz49 rfl #[.slice Ao53 y249.length co53, .int .i64 a1] rfl zz20 ?_; (with_reducible refine (fairwayref0_In.calls kj22 _ _ y249 a1 t252 _ ?side1 ?side2 A50.out).mono ?_); (case side1 => repeat (first | exact (Kd.R_reads' HO251.out).2.2 | (with_reducible refine Kd.C_alloc ?_ _) | (with_reducible refine Kd.C_drewN ?_ _) | (with_reducible refine Kd.C_drew ?_))); (case side2 => exact (Kd.R_reads' HO251.out).2.1); rintro e w' ⟨rfl, ⟨nd, rfl⟩⟩; refine ⟨_, rfl, ?_⟩))
    go_ret
    exact ⟨zz40, zz21⟩
   rw [if_neg c49] at H; have c49b0 : (a0 == 15) = false := beq_eq_false_iff_ne.mpr c49; have c49b1 : (a0 != 15) = true := bne_iff_ne.mpr c49; replace H := Option.bind_eq_some_iff.mp H; obtain ⟨t253, A540, H⟩ := H; replace H : (some (decide (t253 ≥ 0))) = some r := H; have A54 := Aside0.mk A540; clear A540; obtain rfl := Option.some.inj H; go_wp2_with (first | ((with_reducible refine gate_callee (f := 45) rfl ?_); refine goesL_ (some 41) rfl rfl Tryd.func45 zz49 rfl #[.slice none ([] : List Int).length 0, .int .i64 a1] rfl (by (try simp only [List.map_toArray, List.map_cons, List.map_nil]); first | done | (rw [show ([] : List Int).length = 0 from (Kd.R_reads' HO_5.out).1.symm] <;> rfl) | rfl | (simp only [List.length_drop, List.length_take]; rfl)) ?_; (with_reducible refine (fairwayref0_In.calls kj22 _ _ ([] : List Int) a1 t253 _ ?side1 ?side2 A54.out).mono ?_); (case side1 => repeat (first | exact (Kd.R_reads' HO_5.out).2.2 | (with_reducible refine Kd.C_alloc ?_ _) | (with_reducible refine Kd.C_drewN ?_ _) | (with_reducible refine Kd.C_drew ?_))); (case side2 => rw [show ([] : List Int).length = 0 from (Kd.R_reads' HO_5.out).1.symm]; exact (Kd.R_reads' HO_5.out).2.1); rintro e w' ⟨rfl, ⟨nd, rfl⟩⟩; refine ⟨_, rfl, ?_⟩))
   go_ret
   exact ⟨zz40, zz21⟩
mutual
def fairwayref4_twice.j0 : Nat → Int → List (S42) → Bool → Option (Bool)
  | 0, _, _, _ => none
  | k + 1, x1, x2, x17 => if x17 = true then (some false) else (fairwayref4_twice.l0 k x1 x2 0)
def fairwayref4_twice.l0 : Nat → Int → List (S42) → Int → Option (Bool)
  | 0, _, _, _ => none
  | k + 1, x1, x2, x7 => if x7 < (x2.length : Int) then (if 0 ≤ x7 then (if ((rd_T42 x2 x7).f0) = x1 then (some true) else (fairwayref4_twice.l0 k x1 x2 (wrap64 (x7 + 1)))) else (none)) else (some false)
end
def fairwayref4_twice.f (k : Nat) (a0 : Int) (a1 : Int) (l2 : List (S42)) : Option (Bool) := if a1 = 38 then (fairwayref4_twice.j0 k a1 l2 true) else (if a1 = 11 then (fairwayref4_twice.j0 k a1 l2 (a0 == 3)) else (fairwayref4_twice.j0 k a1 l2 false))
theorem fairwayref4_twice.mono_l : ∀ k, (∀ y0 y1 y2, LeO (fairwayref4_twice.j0 k y0 y1 y2) (fairwayref4_twice.j0 (k + 1) y0 y1 y2)) ∧ (∀ y0 y1 y2, LeO (fairwayref4_twice.l0 k y0 y1 y2) (fairwayref4_twice.l0 (k + 1) y0 y1 y2))
 | 0 => ⟨fun _ _ _ r h => by simp [fairwayref4_twice.j0] at h, fun _ _ _ r h => by simp [fairwayref4_twice.l0] at h⟩
 | k + 1 => by
  obtain ⟨ih0, ih1⟩ := fairwayref4_twice.mono_l k; refine ⟨?_, ?_⟩ <;> intros
  all_goals first | unfold fairwayref4_twice.j0 | unfold fairwayref4_twice.l0
  all_goals repeat' first
   | (with_reducible exact ih0 _ _ _)
   | (with_reducible exact ih1 _ _ _)
   | (with_reducible exact LeO.refl _)
   | (with_reducible exact LeO.none _)
   | (with_reducible refine LeO.ite ?_ ?_)
   | (with_reducible refine LeO.bind ?_ (fun _ => ?_))
   | exact ih0 _ _ _
   | exact ih1 _ _ _
   | exact LeO.none _
   | refine LeO.ite ?_ ?_
   | refine LeO.bind ?_ (fun _ => ?_)
theorem fairwayref4_twice.mono : ∀ a0 a1 a2 k, LeO (fairwayref4_twice.f k a0 a1 a2) (fairwayref4_twice.f (k + 1) a0 a1 a2) := by
 intro a0 a1 a2 k
 obtain ⟨ih0, ih1⟩ := fairwayref4_twice.mono_l k; unfold fairwayref4_twice.f; repeat' first
   | (with_reducible exact ih0 _ _ _)
   | (with_reducible exact ih1 _ _ _)
   | (with_reducible exact LeO.refl _)
   | (with_reducible exact LeO.none _)
   | (with_reducible refine LeO.ite ?_ ?_)
   | (with_reducible refine LeO.bind ?_ (fun _ => ?_))
   | exact ih0 _ _ _
   | exact ih1 _ _ _
   | exact LeO.none _
   | refine LeO.ite ?_ ?_
   | refine LeO.bind ?_ (fun _ => ?_)
set_option maxHeartbeats 8000000 in
set_option maxRecDepth 100000 in
theorem fairwayref4_twice.calls (k : Nat) (a0 : Int) (a1 : Int) (A2 : Option Addr) (c2 : Nat) (l2 : List (S42)) (r : Bool) (w : World) (hr2 : Kd.C k42 w A2 l2.length l2) (hc2 : l2.length ≤ c2) (h : fairwayref4_twice.f k a0 a1 l2 = some r) :
  Calls Tryd.prog 32 #[.int .i64 a0, .int .i64 a1, .slice A2 l2.length c2] w fun e w' => e = .returned (.bool r) ∧ Drawn0 w w' := by
 have HR2 := Aside0.mk hr2; have HC2 := Aside0.mk hc2; clear hr2 hc2; have H : (if a1 = 38 then (fairwayref4_twice.j0 k a1 l2 true) else (if a1 = 11 then (fairwayref4_twice.j0 k a1 l2 (a0 == 3)) else (fairwayref4_twice.j0 k a1 l2 false))) = some r := h; clear h; have HC4 := Aside0.mk H; clear H; go_enter Tryd.func32, Tryd.ntmps32
 go_upto_region 1 with (fail)
 go_cut [17] (fun v17 wc => ∃ (kq : Nat) (x17_3 : Bool), v17 = .bool x17_3 ∧ Aside0 (fairwayref4_twice.j0 kq a1 l2 x17_3 = some r) ∧ Aside0 (kq ≤ k) ∧ Drawn0 w wc)
 case first =>
  have H := HC4.out; clear HC4; by_cases c5 : a1 = 38
  ·
   rw [if_pos c5] at H; have c5b0 : (a1 == 38) = true := beq_iff_eq.mpr c5; have c5b1 : (a1 != 38) = false := bne_eq_false_iff_eq.mpr c5; clear c5; (first | rw [c5b0] | (simp only [i64_w, i32_w]; rw [c5b0]) | skip)
   have H' := Aside0.mk H; clear H; go_wp2
   go_meet
   case rel => exact ⟨_, (true), zz47, H', ⟨zz48⟩, zz43⟩
  rw [if_neg c5] at H; have c5b0 : (a1 == 38) = false := beq_eq_false_iff_ne.mpr c5; have c5b1 : (a1 != 38) = true := bne_iff_ne.mpr c5; (first | rw [c5b0] | (simp only [i64_w, i32_w]; rw [c5b0]) | skip)
  by_cases c6 : a1 = 11
  ·
   rw [if_pos c6] at H; have c6b0 : (a1 == 11) = true := beq_iff_eq.mpr c6; have c6b1 : (a1 != 11) = false := bne_eq_false_iff_eq.mpr c6; clear c6; have H' := Aside0.mk H; clear H; go_wp2
   go_meet
   case rel => exact ⟨_, ((a0 == 3)), zz47, H', ⟨zz48⟩, zz43⟩
  rw [if_neg c6] at H; have c6b0 : (a1 == 11) = false := beq_eq_false_iff_ne.mpr c6; have c6b1 : (a1 != 11) = true := bne_iff_ne.mpr c6; have H' := Aside0.mk H; clear H; go_wp2
  go_meet
  case rel => exact ⟨_, (false), zz47, H', ⟨zz48⟩, zz43⟩
 case rest =>
  clear HC4; (try clear c2); (try clear p2); (try clear c3); (try clear c5); (try clear c5b0); (try clear c5b1); (try clear c6); (try clear c6b0); (try clear c6b1); obtain ⟨kq, x17_3, rfl, HA, HJ3, ⟨mc3, rfl⟩⟩ := hcut; cases kq with
  | zero => exact absurd HA.out (by simp [fairwayref4_twice.j0])
  | succ kj3 =>
   have H := HA.out; clear HA; simp only [fairwayref4_twice.j0] at H; by_cases c7 : x17_3 = true
   ·
    subst c7; have H1 : (some false) = some r := by rw [if_pos rfl] at H; exact H
    clear H; have H := H1; clear H1; obtain rfl := Option.some.inj H; go_wp2
    go_ret
    exact ⟨zz47, zz43⟩
   replace c7 := Bool.eq_false_iff.mpr c7; subst c7; have H1 : (fairwayref4_twice.l0 kj3 a1 l2 0) = some r := by rw [if_neg (show ¬ (false = true) by decide)] at H; exact H
   clear H; have H := H1; clear H1; have H' := Aside0.mk H; clear H; go_wp2
   go_loopg [7] kj3 (fun kq v7 w' => ∃ (x7_2 : Int), v7 = .int .i64 x7_2 ∧ Aside0 (fairwayref4_twice.l0 kq a1 l2 x7_2 = some r) ∧ Aside0 (kq ≤ kj3) ∧ Drawn0 w w')
   case atStart => exact ⟨(0), zz47, H', ⟨Nat.le_refl _⟩, zz43⟩
   case round =>
    clear H'; (try clear c2); (try clear p2); (try clear c3); (try clear c5); (try clear c5b0); (try clear c5b1); (try clear c6); (try clear c6b0); (try clear c6b1); (try clear c7); (try clear p2); obtain ⟨x7_2, rfl, HA, HK2, ⟨m2, rfl⟩⟩ := hrel; cases gk with
    | zero => exact absurd HA.out (by simp [fairwayref4_twice.l0])
    | succ k2 =>
     have H := HA.out; clear HA; simp only [fairwayref4_twice.l0] at H; by_cases c8 : x7_2 < (l2.length : Int)
     ·
      rw [if_pos c8] at H; have c8b0 : decide (x7_2 < (l2.length : Int)) = true := decide_eq_true c8; clear c8; by_cases c9 : 0 ≤ x7_2
      ·
       rw [if_pos c9] at H; have c9b0 : decide (0 ≤ x7_2) = true := decide_eq_true c9; clear c9; by_cases c10 : ((rd_T42 l2 x7_2).f0) = a1
       ·
        rw [if_pos c10] at H; have c10b0 : (((rd_T42 l2 x7_2).f0) == a1) = true := beq_iff_eq.mpr c10; have c10b1 : (((rd_T42 l2 x7_2).f0) != a1) = false := bne_eq_false_iff_eq.mpr c10; clear c10; obtain rfl := Option.some.inj H; have p254 : 0 ≤ (x7_2 : Int) := of_decide_eq_true zz46; have q254 : x7_2 < (l2.length : Int) := of_decide_eq_true zz46; obtain ⟨ad254, e254, hx254_0, hx254_1, hx254_2, hx254_3⟩ := at_T42 HR2.out x7_2 p254 q254; cases e254; replace p254 := eq_true p254; replace q254 := eq_true q254; go_wp2
        go_ret
        exact ⟨zz47, zz43⟩
       rw [if_neg c10] at H; have c10b0 : (((rd_T42 l2 x7_2).f0) == a1) = false := beq_eq_false_iff_ne.mpr c10; have c10b1 : (((rd_T42 l2 x7_2).f0) != a1) = true := bne_iff_ne.mpr c10; have H' := Aside0.mk H; clear H; have p254 : 0 ≤ (x7_2 : Int) := of_decide_eq_true zz46; have q254 : x7_2 < (l2.length : Int) := of_decide_eq_true zz46; obtain ⟨ad254, e254, hx254_0, hx254_1, hx254_2, hx254_3⟩ := at_T42 HR2.out x7_2 p254 q254; cases e254; replace p254 := eq_true p254; replace q254 := eq_true q254; go_wp2
       go_roundg k2
       case measure => have := HJ3.out; have := HK2.out; omega
       case rel => exact ⟨(wrap64 (x7_2 + 1)), zz47, H', ⟨by have := HJ3.out; have := HK2.out; omega⟩, zz43⟩
      rw [if_neg c9] at H; exact absurd H (by simp)
     rw [if_neg c8] at H; have c8b0 : decide (x7_2 < (l2.length : Int)) = false := decide_eq_false c8; clear c8; obtain rfl := Option.some.inj H; go_wp2
     go_ret
     exact ⟨zz47, zz43⟩
end Go.Proofs.YtiancopplinpcaaDoor.P
end
section
namespace Go.Proofs.YtiancopplinpcaaDoor.P
open Go.RowKit Go.Proofs.YtiancopplinpcaaDoorW.PrintWords Go.Proofs.YtiancopplinpcaaDoorW.PrintLast Go.Proofs.YtiancopplinpcaaDoorW.PrintMore
attribute [local go_sem] max2_int min2_int max_two min_two max_three min_three max_four min_four
set_option linter.unusedVariables false
set_option linter.unusedSimpArgs false
mutual
def fairwayref4_Props.j0 : Nat → Int → List (S42) → Bool → Option (Bool)
  | 0, _, _, _ => none
  | k + 1, x0, x1, x13 => if x13 = true then (some false) else (fairwayref4_Props.l0 k x0 x1 0)
def fairwayref4_Props.l0 : Nat → Int → List (S42) → Int → Option (Bool)
  | 0, _, _, _ => none
  | k + 1, x0, x1, x5 => if x5 < (x1.length : Int) then (if 0 ≤ x5 then ((fairwayref4_fits.f k ((rd_T42 x1 x5).f0) ((rd_T42 x1 x5).f1) ((rd_T42 x1 x5).f2) ((rd_T42 x1 x5).f3)).bind fun t257 => (if t257 = true then ((fairwayref4_stands.f k x0 ((rd_T42 x1 x5).f0)).bind fun t259 => (if t259 = true then (if x5 ≤ (x1.length : Int) then ((fairwayref4_twice.f k x0 ((rd_T42 x1 x5).f0) (x1.take (x5 : Int).toNat)).bind fun t265 => (if t265 = true then (some false) else (fairwayref4_Props.l0 k x0 x1 (wrap64 (x5 + 1))))) else (none)) else (some false))) else (some false))) else (none)) else (some true)
end
def fairwayref4_Props.f (k : Nat) (a0 : Int) (l1 : List (S42)) : Option (Bool) := (fairwayref4_Place.f a0).bind fun t255 => (if t255 = true then (fairwayref4_Props.j0 k a0 l1 (decide ((l1.length : Int) > 8))) else (fairwayref4_Props.j0 k a0 l1 true))
theorem fairwayref4_Props.mono_l : ∀ k, (∀ y0 y1 y2, LeO (fairwayref4_Props.j0 k y0 y1 y2) (fairwayref4_Props.j0 (k + 1) y0 y1 y2)) ∧ (∀ y0 y1 y2, LeO (fairwayref4_Props.l0 k y0 y1 y2) (fairwayref4_Props.l0 (k + 1) y0 y1 y2))
 | 0 => ⟨fun _ _ _ r h => by simp [fairwayref4_Props.j0] at h, fun _ _ _ r h => by simp [fairwayref4_Props.l0] at h⟩
 | k + 1 => by
  obtain ⟨ih0, ih1⟩ := fairwayref4_Props.mono_l k; refine ⟨?_, ?_⟩ <;> intros
  all_goals first | unfold fairwayref4_Props.j0 | unfold fairwayref4_Props.l0
  all_goals repeat' first
   | (with_reducible exact ih0 _ _ _)
   | (with_reducible exact ih1 _ _ _)
   | (with_reducible exact fairwayref4_fits.mono _ _ _ _ _)
   | (with_reducible exact fairwayref4_stands.mono _ _ _)
   | (with_reducible exact fairwayref4_twice.mono _ _ _ _)
   | (with_reducible exact LeO.refl _)
   | (with_reducible exact LeO.none _)
   | (with_reducible refine LeO.ite ?_ ?_)
   | (with_reducible refine LeO.bind ?_ (fun _ => ?_))
   | exact ih0 _ _ _
   | exact ih1 _ _ _
   | exact fairwayref4_fits.mono _ _ _ _ _
   | exact fairwayref4_stands.mono _ _ _
   | exact fairwayref4_twice.mono _ _ _ _
   | exact LeO.none _
   | refine LeO.ite ?_ ?_
   | refine LeO.bind ?_ (fun _ => ?_)
theorem fairwayref4_Props.mono : ∀ a0 a1 k, LeO (fairwayref4_Props.f k a0 a1) (fairwayref4_Props.f (k + 1) a0 a1) := by
 intro a0 a1 k
 obtain ⟨ih0, ih1⟩ := fairwayref4_Props.mono_l k; unfold fairwayref4_Props.f; repeat' first
   | (with_reducible exact ih0 _ _ _)
   | (with_reducible exact ih1 _ _ _)
   | (with_reducible exact fairwayref4_fits.mono _ _ _ _ _)
   | (with_reducible exact fairwayref4_stands.mono _ _ _)
   | (with_reducible exact fairwayref4_twice.mono _ _ _ _)
   | (with_reducible exact LeO.refl _)
   | (with_reducible exact LeO.none _)
   | (with_reducible refine LeO.ite ?_ ?_)
   | (with_reducible refine LeO.bind ?_ (fun _ => ?_))
   | exact ih0 _ _ _
   | exact ih1 _ _ _
   | exact fairwayref4_fits.mono _ _ _ _ _
   | exact fairwayref4_stands.mono _ _ _
   | exact fairwayref4_twice.mono _ _ _ _
   | exact LeO.none _
   | refine LeO.ite ?_ ?_
   | refine LeO.bind ?_ (fun _ => ?_)
def fairwayref4_Props.T6 : Bool × List (List Nat × List Nat) := (true, [([], []), ([], []), ([0, 1], [0, 1]), ([2], [2]), ([3], [3]), ([4], [4]), ([5, 4], [5]), ([6], [6]), ([6], [6]), ([6], [6]), ([8, 9, 6], [6, 8, 9]), ([10, 6], [6, 10]), ([11, 6], [6, 11]), ([7, 12, 6, 6], [6, 7, 12]), ([13, 6], [6, 13]), ([6, 14], [6, 14]), ([15, 13], [15]), ([16], [16]), ([16], [16]), ([16], [16]), ([18, 19, 16], [16, 18, 19]), ([20, 16], [16, 20]), ([21, 16], [16, 21]), ([16], [16]), ([16], [16]), ([23, 24, 16], [16, 23, 24]), ([17, 22, 25, 16, 16], [16, 17, 22, 25]), ([16, 26], [16, 26])])
def fairwayref4_Props.B6 : List Nat := [0, 0, 3, 7, 15, 31, 63, 127, 127, 127, 895, 1919, 3967, 8191, 16383, 32767, 65535, 131071, 131071, 131071, 917503, 1966079, 4063231, 131071, 131071, 25296895, 67108863, 134217727]
theorem fairwayref4_Props.tab6 : rtab .any (opsOf Tryd.f18 6) = fairwayref4_Props.T6 := by kernel_rfl
theorem fairwayref4_Props.bits6 : waitsOk fairwayref4_Props.T6.2 fairwayref4_Props.B6 = true := by kernel_rfl
set_option maxHeartbeats 8000000 in
set_option maxRecDepth 100000 in
theorem fairwayref4_Props.calls (k : Nat) (a0 : Int) (A1 : Option Addr) (c1 : Nat) (l1 : List (S42)) (r : Bool) (w : World) (hr1 : Kd.C k42 w A1 l1.length l1) (hc1 : l1.length ≤ c1) (h : fairwayref4_Props.f k a0 l1 = some r) :
  Calls Tryd.prog 18 #[.int .i64 a0, .slice A1 l1.length c1] w fun e w' => e = .returned (.bool r) ∧ Below w.heap.size w w' := by
 have hu42 := Tryd.underlying42; have HR1 := Aside0.mk hr1; have HC1 := Aside0.mk hc1; clear hr1 hc1; have HB := Aside0.mk (Below.refl w.heap.size w); have H : ((fairwayref4_Place.f a0).bind fun t255 => (if t255 = true then (fairwayref4_Props.j0 k a0 l1 (decide ((l1.length : Int) > 8))) else (fairwayref4_Props.j0 k a0 l1 true))) = some r := h; clear h; have HC3 := Aside0.mk H; clear H; go_enter Tryd.func18, Tryd.ntmps18
 go_upto_region 1 with (fail)
 go_cut [13] (fun v13 wc => ∃ (kq : Nat) (x13_2 : Bool), v13 = .bool x13_2 ∧ Aside0 (fairwayref4_Props.j0 kq a0 l1 x13_2 = some r) ∧ Aside0 (kq ≤ k) ∧ Aside0 (Below w.heap.size w wc))
 case first =>
  have H := HC3.out; clear HC3; replace H := Option.bind_eq_some_iff.mp H; obtain ⟨t255, A40, H⟩ := H; replace H : (if t255 = true then (fairwayref4_Props.j0 k a0 l1 (decide ((l1.length : Int) > 8))) else (fairwayref4_Props.j0 k a0 l1 true)) = some r := H; have A4 := Aside0.mk A40; clear A40; by_cases c5 : t255 = true
  ·
   subst c5; have H1 : (fairwayref4_Props.j0 k a0 l1 (decide ((l1.length : Int) > 8))) = some r := by rw [if_pos rfl] at H; exact H
   clear H; have H := H1; clear H1; have H' := Aside0.mk H; clear H; go_wp2_with (first | ((with_reducible refine gate_callee (f := 23) rfl ?_); refine goesL_ (some 7) rfl rfl Tryd.func23 zz49 rfl #[.int .i64 a0] rfl zz20 ?_; (with_reducible refine (fairwayref4_Place.calls a0 true _ A4.out).mono ?_); rintro e w' ⟨rfl, ⟨nd, rfl⟩⟩; refine ⟨_, rfl, ?_⟩))
   go_meet
   case rel => exact ⟨_, (decide ((l1.length : Int) > 8)), zz47, H', ⟨zz48⟩, ⟨zz21⟩⟩
  replace c5 := Bool.eq_false_iff.mpr c5; subst c5; have H1 : (fairwayref4_Props.j0 k a0 l1 true) = some r := by rw [if_neg (show ¬ (false = true) by decide)] at H; exact H
  clear H; have H := H1; clear H1; have H' := Aside0.mk H; clear H; go_wp2_with (first | ((with_reducible refine gate_callee (f := 23) rfl ?_); refine goesL_ (some 7) rfl rfl Tryd.func23 zz49 rfl #[.int .i64 a0] rfl zz20 ?_; (with_reducible refine (fairwayref4_Place.calls a0 false _ A4.out).mono ?_); rintro e w' ⟨rfl, ⟨nd, rfl⟩⟩; refine ⟨_, rfl, ?_⟩))
  go_meet
  case rel => exact ⟨_, (true), zz47, H', ⟨zz48⟩, ⟨zz21⟩⟩
 case rest =>
  as_aux_lemma =>
   clear HC3; (try clear c1); (try clear c2); (try clear p2); (try clear c5); obtain ⟨kq, x13_2, rfl, HA, HJ2, HB⟩ := hcut; cases kq with
   | zero => exact absurd HA.out (by simp [fairwayref4_Props.j0])
   | succ kj2 =>
    have H := HA.out; clear HA; simp only [fairwayref4_Props.j0] at H; by_cases c6 : x13_2 = true
    ·
     subst c6; have H1 : (some false) = some r := by rw [if_pos rfl] at H; exact H
     clear H; have H := H1; clear H1; obtain rfl := Option.some.inj H; go_wp2
     go_ret
     exact ⟨zz40, zz21⟩
    replace c6 := Bool.eq_false_iff.mpr c6; subst c6; have H1 : (fairwayref4_Props.l0 kj2 a0 l1 0) = some r := by rw [if_neg (show ¬ (false = true) by decide)] at H; exact H
    clear H; have H := H1; clear H1; have H' := Aside0.mk H; clear H; go_wp2
    go_loopg [5] kj2 (fun kq v5 w' => ∃ (x5_2 : Int), v5 = .int .i64 x5_2 ∧ Aside0 (fairwayref4_Props.l0 kq a0 l1 x5_2 = some r) ∧ Aside0 (kq ≤ kj2) ∧ Aside0 (Below w.heap.size w w'))
    case atStart => exact ⟨(0), zz47, H', ⟨Nat.le_refl _⟩, ⟨zz21⟩⟩
    case round =>
     as_aux_lemma =>
      clear H'; (try clear c1); (try clear c2); (try clear p2); (try clear c5); (try clear c6); (try clear p2); obtain ⟨x5_2, rfl, HA, HK2, HB⟩ := hrel; cases gk with
      | zero => exact absurd HA.out (by simp [fairwayref4_Props.l0])
      | succ k2 =>
       have H := HA.out; clear HA; simp only [fairwayref4_Props.l0] at H; by_cases c7 : x5_2 < (l1.length : Int)
       ·
        rw [if_pos c7] at H; have c7b0 : decide (x5_2 < (l1.length : Int)) = true := decide_eq_true c7; clear c7; by_cases c8 : 0 ≤ x5_2
        ·
         rw [if_pos c8] at H; have c8b0 : decide (0 ≤ x5_2) = true := decide_eq_true c8; clear c8; replace H := Option.bind_eq_some_iff.mp H; obtain ⟨t257, A90, H⟩ := H; replace H : (if t257 = true then ((fairwayref4_stands.f k2 a0 ((rd_T42 l1 x5_2).f0)).bind fun t259 => (if t259 = true then (if x5_2 ≤ (l1.length : Int) then ((fairwayref4_twice.f k2 a0 ((rd_T42 l1 x5_2).f0) (l1.take (x5_2 : Int).toNat)).bind fun t265 => (if t265 = true then (some false) else (fairwayref4_Props.l0 k2 a0 l1 (wrap64 (x5_2 + 1))))) else (none)) else (some false))) else (some false)) = some r := H; have A9 := Aside0.mk A90; clear A90; by_cases c10 : t257 = true
         ·
          subst c10; have H1 : ((fairwayref4_stands.f k2 a0 ((rd_T42 l1 x5_2).f0)).bind fun t259 => (if t259 = true then (if x5_2 ≤ (l1.length : Int) then ((fairwayref4_twice.f k2 a0 ((rd_T42 l1 x5_2).f0) (l1.take (x5_2 : Int).toNat)).bind fun t265 => (if t265 = true then (some false) else (fairwayref4_Props.l0 k2 a0 l1 (wrap64 (x5_2 + 1))))) else (none)) else (some false))) = some r := by rw [if_pos rfl] at H; exact H
          clear H; have H := H1; clear H1; replace H := Option.bind_eq_some_iff.mp H; obtain ⟨t259, A110, H⟩ := H; replace H : (if t259 = true then (if x5_2 ≤ (l1.length : Int) then ((fairwayref4_twice.f k2 a0 ((rd_T42 l1 x5_2).f0) (l1.take (x5_2 : Int).toNat)).bind fun t265 => (if t265 = true then (some false) else (fairwayref4_Props.l0 k2 a0 l1 (wrap64 (x5_2 + 1))))) else (none)) else (some false)) = some r := H; have A11 := Aside0.mk A110; clear A110; by_cases c12 : t259 = true
          ·
           subst c12; have H1 : (if x5_2 ≤ (l1.length : Int) then ((fairwayref4_twice.f k2 a0 ((rd_T42 l1 x5_2).f0) (l1.take (x5_2 : Int).toNat)).bind fun t265 => (if t265 = true then (some false) else (fairwayref4_Props.l0 k2 a0 l1 (wrap64 (x5_2 + 1))))) else (none)) = some r := by rw [if_pos rfl] at H; exact H
           clear H; have H := H1; clear H1; have c13b0 := eq_true (of_decide_eq_true zz46 : 0 ≤ x5_2); by_cases c14 : x5_2 ≤ (l1.length : Int)
           ·
            rw [if_pos c14] at H; have c14b0 := eq_true c14; have c14b1 : decide (x5_2 ≤ (l1.length : Int)) = true := decide_eq_true c14; clear c14; obtain ⟨y261, hy261⟩ : ∃ y_ : List (S42), y_ = (l1.take (x5_2 : Int).toNat) := ⟨_, rfl⟩; replace H : ((fairwayref4_twice.f k2 a0 ((rd_T42 l1 x5_2).f0) y261).bind fun t265 => (if t265 = true then (some false) else (fairwayref4_Props.l0 k2 a0 l1 (wrap64 (x5_2 + 1))))) = some r := by first | (rw [hy261]; with_reducible exact H) | (have H2_ := (Option.bind_some _ _).symm.trans H; rw [hy261]; with_reducible exact H2_) | (have H2_ := (Option.bind_some _ _).symm.trans H; with_reducible exact H2_) | with_reducible exact H | (rw [hy261]; exact H) | exact H
            have Ny261 := Aside0.mk hy261; clear hy261; replace H := Option.bind_eq_some_iff.mp H; obtain ⟨t265, A150, H⟩ := H; replace H : (if t265 = true then (some false) else (fairwayref4_Props.l0 k2 a0 l1 (wrap64 (x5_2 + 1)))) = some r := H; have A15 := Aside0.mk A150; clear A150; by_cases c16 : t265 = true
            ·
             subst c16; have H1 : (some false) = some r := by rw [if_pos rfl] at H; exact H
             clear H; have H := H1; clear H1; obtain rfl := Option.some.inj H; try go_wp2
             have n0_ := Aside0.mk (below_drew1 HB.out); clear HB; have HB := n0_; clear n0_; have p256 : 0 ≤ (x5_2 : Int) := of_decide_eq_true zz46; have q256 : x5_2 < (l1.length : Int) := of_decide_eq_true zz46; obtain ⟨ad256, e256, hx256_0, hx256_1, hx256_2, hx256_3⟩ := at_T42 HR1.out x5_2 p256 q256; have hw256_3 := hx256_3; have hw256_2 := hx256_2; have hw256_1 := hx256_1; have hw256_0 := hx256_0; cases e256; replace hx256_0 := (HB.out.cell (World.block_lt_of_cell? w _ hx256_0)).trans hx256_0; replace hx256_1 := (HB.out.cell (World.block_lt_of_cell? w _ hx256_1)).trans hx256_1; replace hx256_2 := (HB.out.cell (World.block_lt_of_cell? w _ hx256_2)).trans hx256_2; replace hx256_3 := (HB.out.cell (World.block_lt_of_cell? w _ hx256_3)).trans hx256_3; replace p256 := eq_true p256; replace q256 := eq_true q256; have p258 : 0 ≤ (x5_2 : Int) := of_decide_eq_true zz46; have q258 : x5_2 < (l1.length : Int) := of_decide_eq_true zz46; obtain ⟨ad258, e258, hx258_0, hx258_1, hx258_2, hx258_3⟩ := at_T42 HR1.out x5_2 p258 q258; have hw258_3 := hx258_3; have hw258_2 := hx258_2; have hw258_1 := hx258_1; have hw258_0 := hx258_0; obtain rfl : ad256 = ad258 := (by injection e258); replace hx258_0 := (HB.out.cell (World.block_lt_of_cell? w _ hx258_0)).trans hx258_0; replace hx258_1 := (HB.out.cell (World.block_lt_of_cell? w _ hx258_1)).trans hx258_1; replace hx258_2 := (HB.out.cell (World.block_lt_of_cell? w _ hx258_2)).trans hx258_2; replace hx258_3 := (HB.out.cell (World.block_lt_of_cell? w _ hx258_3)).trans hx258_3; replace p258 := eq_true p258; replace q258 := eq_true q258; have p260 : 0 ≤ (x5_2 : Int) := of_decide_eq_true zz46; have q260 : x5_2 < (l1.length : Int) := of_decide_eq_true zz46; obtain ⟨ad260, e260, hx260_0, hx260_1, hx260_2, hx260_3⟩ := at_T42 HR1.out x5_2 p260 q260; have hw260_3 := hx260_3; have hw260_2 := hx260_2; have hw260_1 := hx260_1; have hw260_0 := hx260_0; obtain rfl : ad256 = ad260 := (by injection e260); replace hx260_0 := (HB.out.cell (World.block_lt_of_cell? w _ hx260_0)).trans hx260_0; replace hx260_1 := (HB.out.cell (World.block_lt_of_cell? w _ hx260_1)).trans hx260_1; replace hx260_2 := (HB.out.cell (World.block_lt_of_cell? w _ hx260_2)).trans hx260_2; replace hx260_3 := (HB.out.cell (World.block_lt_of_cell? w _ hx260_3)).trans hx260_3; replace p260 := eq_true p260; replace q260 := eq_true q260; refine start_ (n := 28) (S := fun w' => w'.cell? (ad256.add ((x5_2).toNat * 4)) = some (.int .i64 ((rd_T42 l1 x5_2).f0)) ∧ w'.cell? ⟨(ad256.add ((x5_2).toNat * 4)).block, (ad256.add ((x5_2).toNat * 4)).off + 1, none⟩ = some (.int .i64 ((rd_T42 l1 x5_2).f1)) ∧ w'.cell? ⟨(ad256.add ((x5_2).toNat * 4)).block, (ad256.add ((x5_2).toNat * 4)).off + 2, none⟩ = some (.string ((rd_T42 l1 x5_2).f2)) ∧ w'.cell? ⟨(ad256.add ((x5_2).toNat * 4)).block, (ad256.add ((x5_2).toNat * 4)).off + 3, none⟩ = some (.string ((rd_T42 l1 x5_2).f3)) ∧ w'.cell? (ad256.add ((x5_2).toNat * 4)) = some (.int .i64 ((rd_T42 l1 x5_2).f0)) ∧ w'.cell? ⟨(ad256.add ((x5_2).toNat * 4)).block, (ad256.add ((x5_2).toNat * 4)).off + 1, none⟩ = some (.int .i64 ((rd_T42 l1 x5_2).f1)) ∧ w'.cell? ⟨(ad256.add ((x5_2).toNat * 4)).block, (ad256.add ((x5_2).toNat * 4)).off + 2, none⟩ = some (.string ((rd_T42 l1 x5_2).f2)) ∧ w'.cell? ⟨(ad256.add ((x5_2).toNat * 4)).block, (ad256.add ((x5_2).toNat * 4)).off + 3, none⟩ = some (.string ((rd_T42 l1 x5_2).f3)) ∧ w'.cell? (ad256.add ((x5_2).toNat * 4)) = some (.int .i64 ((rd_T42 l1 x5_2).f0)) ∧ w'.cell? ⟨(ad256.add ((x5_2).toNat * 4)).block, (ad256.add ((x5_2).toNat * 4)).off + 1, none⟩ = some (.int .i64 ((rd_T42 l1 x5_2).f1)) ∧ w'.cell? ⟨(ad256.add ((x5_2).toNat * 4)).block, (ad256.add ((x5_2).toNat * 4)).off + 2, none⟩ = some (.string ((rd_T42 l1 x5_2).f2)) ∧ w'.cell? ⟨(ad256.add ((x5_2).toNat * 4)).block, (ad256.add ((x5_2).toNat * 4)).off + 3, none⟩ = some (.string ((rd_T42 l1 x5_2).f3))) (ds := []) #[false, false, false, false, false, false, false, false, false, false, false, false, false, false, false, false, false, false, false, false, false, false, false, false, false, false, false, false] zz49 rfl rfl ⟨((HB.out.cell (World.block_lt_of_cell? w _ hw256_0)).trans hw256_0), ((HB.out.cell (World.block_lt_of_cell? w _ hw256_1)).trans hw256_1), ((HB.out.cell (World.block_lt_of_cell? w _ hw256_2)).trans hw256_2), ((HB.out.cell (World.block_lt_of_cell? w _ hw256_3)).trans hw256_3), ((HB.out.cell (World.block_lt_of_cell? w _ hw258_0)).trans hw258_0), ((HB.out.cell (World.block_lt_of_cell? w _ hw258_1)).trans hw258_1), ((HB.out.cell (World.block_lt_of_cell? w _ hw258_2)).trans hw258_2), ((HB.out.cell (World.block_lt_of_cell? w _ hw258_3)).trans hw258_3), ((HB.out.cell (World.block_lt_of_cell? w _ hw260_0)).trans hw260_0), ((HB.out.cell (World.block_lt_of_cell? w _ hw260_1)).trans hw260_1), ((HB.out.cell (World.block_lt_of_cell? w _ hw260_2)).trans hw260_2), ((HB.out.cell (World.block_lt_of_cell? w _ hw260_3)).trans hw260_3)⟩ (fun hHeld => ?_); refine with_tabW fairwayref4_Props.tab6 fairwayref4_Props.bits6 (fun HT_ HW_ => ?_)
             generalize wr.drew = w17 at HB hx256_0 hx256_1 hx256_2 hx256_3 hx258_0 hx258_1 hx258_2 hx258_3 hx260_0 hx260_1 hx260_2 hx260_3 hHeld ⊢
             refine pure_ (i := 0) (N := some 20) (v := ?_) (a' := ?_) #[true, false, false, false, false, false, false, false, false, false, false, false, false, false, false, false, false, false, false, false, false, false, false, false, false, false, false, false] rfl rfl (any_of HT_.out zz49) (fun _ _ _ h => h) (Or.inl ⟨by rfl, ?_⟩) ?_ ?_
             rotate_left
             ·
              intro w'
              go_simp
              with_reducible rfl
             rotate_left
             ·
              simp only [Act.put, List.setIfInBounds_toArray, List.set_cons_zero, List.set_cons_succ, i64_w, i32_w]; rfl
             refine pure_ (i := 1) (N := some 21) (v := ?_) (a' := ?_) #[true, true, false, false, false, false, false, false, false, false, false, false, false, false, false, false, false, false, false, false, false, false, false, false, false, false, false, false] rfl rfl (any_of HT_.out zz49) (fun _ _ _ h => h) (Or.inl ⟨by rfl, ?_⟩) ?_ ?_
             rotate_left
             ·
              intro w'
              go_simp
              with_reducible rfl
             rotate_left
             ·
              simp only [Act.put, List.setIfInBounds_toArray, List.set_cons_zero, List.set_cons_succ, i64_w, i32_w]; rfl
             refine pure_ (i := 2) (N := some 22) (v := ?_) (a' := ?_) #[true, true, true, false, false, false, false, false, false, false, false, false, false, false, false, false, false, false, false, false, false, false, false, false, false, false, false, false] rfl rfl (any_of HT_.out zz49) (fun _ _ _ h => h) (Or.inl ⟨by rfl, ?_⟩) ?_ ?_
             rotate_left
             ·
              intro w'
              go_simp
              with_reducible rfl
             rotate_left
             ·
              simp only [Act.put, List.setIfInBounds_toArray, List.set_cons_zero, List.set_cons_succ, i64_w, i32_w]; rfl
             refine take_ (i := 3) (N := some 23) (v := ?_) (a' := ?_) #[true, true, true, true, false, false, false, false, false, false, false, false, false, false, false, false, false, false, false, false, false, false, false, false, false, false, false, false] rfl rfl (take_ofW HT_.out HW_.out zz49) (fun _ _ _ h => h) (Or.inl ⟨by rfl, ?_⟩) hHeld ?_ ?_
             rotate_left
             ·
              rintro w' ⟨s0, s1, s2, s3, s4, s5, s6, s7, s8, s9, s10, s11⟩
              go_simp
              with_reducible rfl
             rotate_left
             ·
              simp only [Act.put, List.setIfInBounds_toArray, List.set_cons_zero, List.set_cons_succ, i64_w, i32_w]; rfl
             refine one_ (i := 4) (N := some 24) #[true, true, true, true, true, false, false, false, false, false, false, false, false, false, false, false, false, false, false, false, false, false, false, false, false, false, false, false] rfl rfl (one_of HT_.out zz49) (by decide) (fun K hK => ?_)
             refine goes_ Tryd.func30 zz49 rfl #[.agg #[.int .i64 ((rd_T42 l1 x5_2).f0), .int .i64 ((rd_T42 l1 x5_2).f1), .string ((rd_T42 l1 x5_2).f2), .string ((rd_T42 l1 x5_2).f3)]] (by rfl) rfl rfl zz20 ?_
             with_reducible refine (fairwayref4_fits.calls k2 ((rd_T42 l1 x5_2).f0) ((rd_T42 l1 x5_2).f1) ((rd_T42 l1 x5_2).f2) ((rd_T42 l1 x5_2).f3) true _ A9.out).mono ?_
             rintro e w18 ⟨rfl, hb⟩
             refine ⟨_, rfl, ?_⟩
             have n0_ := Aside0.mk (below_step zz21 hb); clear HB; have HB := n0_; clear n0_; (try clear hb)
             (try clear hb2)
             (try clear hk)
             (try clear hi)
             refine hK.out _ _ ⟨((HB.out.cell (World.block_lt_of_cell? w _ hw256_0)).trans hw256_0), ((HB.out.cell (World.block_lt_of_cell? w _ hw256_1)).trans hw256_1), ((HB.out.cell (World.block_lt_of_cell? w _ hw256_2)).trans hw256_2), ((HB.out.cell (World.block_lt_of_cell? w _ hw256_3)).trans hw256_3), ((HB.out.cell (World.block_lt_of_cell? w _ hw258_0)).trans hw258_0), ((HB.out.cell (World.block_lt_of_cell? w _ hw258_1)).trans hw258_1), ((HB.out.cell (World.block_lt_of_cell? w _ hw258_2)).trans hw258_2), ((HB.out.cell (World.block_lt_of_cell? w _ hw258_3)).trans hw258_3), ((HB.out.cell (World.block_lt_of_cell? w _ hw260_0)).trans hw260_0), ((HB.out.cell (World.block_lt_of_cell? w _ hw260_1)).trans hw260_1), ((HB.out.cell (World.block_lt_of_cell? w _ hw260_2)).trans hw260_2), ((HB.out.cell (World.block_lt_of_cell? w _ hw260_3)).trans hw260_3)⟩ (fun hHeld => ?_)
             clear hK K; refine norm_ (a' := ?_) ?_ ?_
             rotate_left
             ·
              show Act.put _ (some 24) _ = _
              simp only [Act.put, List.setIfInBounds_toArray, List.set_cons_zero, List.set_cons_succ, i64_w, i32_w]; rfl
             refine pure_ (i := 5) (N := some 25) (v := ?_) (a' := ?_) #[true, true, true, true, true, true, false, false, false, false, false, false, false, false, false, false, false, false, false, false, false, false, false, false, false, false, false, false] rfl rfl (any_of HT_.out zz49) (fun _ _ _ h => h) (Or.inl ⟨by rfl, ?_⟩) ?_ ?_
             rotate_left
             ·
              intro w'
              go_simp
              with_reducible rfl
             rotate_left
             ·
              simp only [Act.put, List.setIfInBounds_toArray, List.set_cons_zero, List.set_cons_succ, i64_w, i32_w]; rfl
             refine pure_ (i := 6) (N := some 26) (v := ?_) (a' := ?_) #[true, true, true, true, true, true, true, false, false, false, false, false, false, false, false, false, false, false, false, false, false, false, false, false, false, false, false, false] rfl rfl (any_of HT_.out zz49) (fun _ _ _ h => h) (Or.inl ⟨by rfl, ?_⟩) ?_ ?_
             rotate_left
             ·
              intro w'
              go_simp
              with_reducible rfl
             rotate_left
             ·
              simp only [Act.put, List.setIfInBounds_toArray, List.set_cons_zero, List.set_cons_succ, i64_w, i32_w]; rfl
             refine pure_ (i := 7) (N := some 27) (v := ?_) (a' := ?_) #[true, true, true, true, true, true, true, true, false, false, false, false, false, false, false, false, false, false, false, false, false, false, false, false, false, false, false, false] rfl rfl (any_of HT_.out zz49) (fun _ _ _ h => h) (Or.inl ⟨by rfl, ?_⟩) ?_ ?_
             rotate_left
             ·
              intro w'
              go_simp
              with_reducible rfl
             rotate_left
             ·
              simp only [Act.put, List.setIfInBounds_toArray, List.set_cons_zero, List.set_cons_succ, i64_w, i32_w]; rfl
             refine pure_ (i := 8) (N := some 28) (v := ?_) (a' := ?_) #[true, true, true, true, true, true, true, true, true, false, false, false, false, false, false, false, false, false, false, false, false, false, false, false, false, false, false, false] rfl rfl (any_of HT_.out zz49) (fun _ _ _ h => h) (Or.inl ⟨by rfl, ?_⟩) ?_ ?_
             rotate_left
             ·
              intro w'
              go_simp
              with_reducible rfl
             rotate_left
             ·
              simp only [Act.put, List.setIfInBounds_toArray, List.set_cons_zero, List.set_cons_succ, i64_w, i32_w]; rfl
             refine pure_ (i := 9) (N := some 29) (v := ?_) (a' := ?_) #[true, true, true, true, true, true, true, true, true, true, false, false, false, false, false, false, false, false, false, false, false, false, false, false, false, false, false, false] rfl rfl (any_of HT_.out zz49) (fun _ _ _ h => h) (Or.inl ⟨by rfl, ?_⟩) ?_ ?_
             rotate_left
             ·
              intro w'
              go_simp
              with_reducible rfl
             rotate_left
             ·
              simp only [Act.put, List.setIfInBounds_toArray, List.set_cons_zero, List.set_cons_succ, i64_w, i32_w]; rfl
             refine pure_ (i := 10) (N := some 30) (v := ?_) (a' := ?_) #[true, true, true, true, true, true, true, true, true, true, true, false, false, false, false, false, false, false, false, false, false, false, false, false, false, false, false, false] rfl rfl (any_of HT_.out zz49) (fun _ _ _ h => h) (Or.inl ⟨by rfl, ?_⟩) ?_ ?_
             rotate_left
             ·
              intro w'
              go_simp
              with_reducible rfl
             rotate_left
             ·
              simp only [Act.put, List.setIfInBounds_toArray, List.set_cons_zero, List.set_cons_succ, i64_w, i32_w]; rfl
             refine pure_ (i := 11) (N := some 31) (v := ?_) (a' := ?_) #[true, true, true, true, true, true, true, true, true, true, true, true, false, false, false, false, false, false, false, false, false, false, false, false, false, false, false, false] rfl rfl (any_of HT_.out zz49) (fun _ _ _ h => h) (Or.inl ⟨by rfl, ?_⟩) ?_ ?_
             rotate_left
             ·
              intro w'
              go_simp
              with_reducible rfl
             rotate_left
             ·
              simp only [Act.put, List.setIfInBounds_toArray, List.set_cons_zero, List.set_cons_succ, i64_w, i32_w]; rfl
             refine take_ (i := 12) (N := some 32) (v := ?_) (a' := ?_) #[true, true, true, true, true, true, true, true, true, true, true, true, true, false, false, false, false, false, false, false, false, false, false, false, false, false, false, false] rfl rfl (take_ofW HT_.out HW_.out zz49) (fun _ _ _ h => h) (Or.inl ⟨by rfl, ?_⟩) hHeld ?_ ?_
             rotate_left
             ·
              rintro w' ⟨s0, s1, s2, s3, s4, s5, s6, s7, s8, s9, s10, s11⟩
              go_simp
              with_reducible rfl
             rotate_left
             ·
              simp only [Act.put, List.setIfInBounds_toArray, List.set_cons_zero, List.set_cons_succ, i64_w, i32_w]; rfl
             refine one_ (i := 13) (N := some 33) #[true, true, true, true, true, true, true, true, true, true, true, true, true, true, false, false, false, false, false, false, false, false, false, false, false, false, false, false] rfl rfl (one_of HT_.out zz49) (by decide) (fun K hK => ?_)
             refine goes_ Tryd.func31 zz49 rfl #[.int .i64 a0, .int .i64 ((rd_T42 l1 x5_2).f0)] (by rfl) rfl rfl zz20 ?_
             with_reducible refine (fairwayref4_stands.calls k2 a0 ((rd_T42 l1 x5_2).f0) true _ A11.out).mono ?_
             rintro e w19 ⟨rfl, hb⟩
             refine ⟨_, rfl, ?_⟩
             have n0_ := Aside0.mk (below_step zz21 hb); clear HB; have HB := n0_; clear n0_; (try clear hb)
             (try clear hb2)
             (try clear hk)
             (try clear hi)
             have q20 : (x5_2 : Int) ≤ ((l1.length : Int) : Int) := of_decide_eq_true zz46; obtain ⟨i020, hi020, _, hsz20, _⟩ := info_parts info42; have hroom20 : l1.length ≤ c1 := HC1.out; have hC20 : Kd.C k42 _ (some ad256) l1.length l1 := HR1.out; have hcut20 := cut_to (P := Tryd.prog) 23 42 .i64 Tryd.underlying23 hi020 (some ad256) l1.length c1 x5_2 (of_decide_eq_true zz46) q20 hroom20; have hr20 := Kd.C_take (m := (x5_2 : Int).toNat) hC20 (by omega); have hy20 : y261.length = (x5_2 : Int).toNat := (by rw [Ny261.out, List.length_take]; omega); rw [← Ny261.out] at hr20; rw [← hy20] at hcut20; have HR264 := Aside0.mk hr20; have HC264 := Aside0.mk (show y261.length ≤ c1 from by omega); clear hr20 hC20 hroom20 hi020 hsz20; have KY20 := Aside0.mk hy20; clear hy20; replace q20 := eq_true q20; refine hK.out _ _ ⟨((HB.out.cell (World.block_lt_of_cell? w _ hw256_0)).trans hw256_0), ((HB.out.cell (World.block_lt_of_cell? w _ hw256_1)).trans hw256_1), ((HB.out.cell (World.block_lt_of_cell? w _ hw256_2)).trans hw256_2), ((HB.out.cell (World.block_lt_of_cell? w _ hw256_3)).trans hw256_3), ((HB.out.cell (World.block_lt_of_cell? w _ hw258_0)).trans hw258_0), ((HB.out.cell (World.block_lt_of_cell? w _ hw258_1)).trans hw258_1), ((HB.out.cell (World.block_lt_of_cell? w _ hw258_2)).trans hw258_2), ((HB.out.cell (World.block_lt_of_cell? w _ hw258_3)).trans hw258_3), ((HB.out.cell (World.block_lt_of_cell? w _ hw260_0)).trans hw260_0), ((HB.out.cell (World.block_lt_of_cell? w _ hw260_1)).trans hw260_1), ((HB.out.cell (World.block_lt_of_cell? w _ hw260_2)).trans hw260_2), ((HB.out.cell (World.block_lt_of_cell? w _ hw260_3)).trans hw260_3)⟩ (fun hHeld => ?_)
             clear hK K; refine norm_ (a' := ?_) ?_ ?_
             rotate_left
             ·
              show Act.put _ (some 33) _ = _
              simp only [Act.put, List.setIfInBounds_toArray, List.set_cons_zero, List.set_cons_succ, i64_w, i32_w]; rfl
             refine pure_ (i := 14) (N := some 34) (v := ?_) (a' := ?_) #[true, true, true, true, true, true, true, true, true, true, true, true, true, true, true, false, false, false, false, false, false, false, false, false, false, false, false, false] rfl rfl (any_of HT_.out zz49) (fun _ _ _ h => h) (Or.inl ⟨by rfl, ?_⟩) ?_ ?_
             rotate_left
             ·
              intro w'
              go_simp
              with_reducible rfl
             rotate_left
             ·
              simp only [Act.put, List.setIfInBounds_toArray, List.set_cons_zero, List.set_cons_succ, i64_w, i32_w]; rfl
             refine pure_ (i := 15) (N := some 35) (v := ?_) (a' := ?_) #[true, true, true, true, true, true, true, true, true, true, true, true, true, true, true, true, false, false, false, false, false, false, false, false, false, false, false, false] rfl rfl (any_of HT_.out zz49) (fun _ _ _ h => h) (Or.inl ⟨by rfl, ?_⟩) ?_ ?_
             rotate_left
             ·
              intro w'
              go_simp
              with_reducible rfl
             rotate_left
             ·
              simp only [Act.put, List.setIfInBounds_toArray, List.set_cons_zero, List.set_cons_succ, i64_w, i32_w]; rfl
             refine pure_ (i := 16) (N := some 36) (v := ?_) (a' := ?_) #[true, true, true, true, true, true, true, true, true, true, true, true, true, true, true, true, true, false, false, false, false, false, false, false, false, false, false, false] rfl rfl (any_of HT_.out zz49) (fun _ _ _ h => h) (Or.inl ⟨by rfl, ?_⟩) ?_ ?_
             rotate_left
             ·
              intro w'
              go_simp
              with_reducible rfl
             rotate_left
             ·
              simp only [Act.put, List.setIfInBounds_toArray, List.set_cons_zero, List.set_cons_succ, i64_w, i32_w]; rfl
             refine pure_ (i := 17) (N := some 37) (v := ?_) (a' := ?_) #[true, true, true, true, true, true, true, true, true, true, true, true, true, true, true, true, true, true, false, false, false, false, false, false, false, false, false, false] rfl rfl (any_of HT_.out zz49) (fun _ _ _ h => h) (Or.inl ⟨by rfl, ?_⟩) ?_ ?_
             rotate_left
             ·
              intro w'
              go_simp
              with_reducible rfl
             rotate_left
             ·
              simp only [Act.put, List.setIfInBounds_toArray, List.set_cons_zero, List.set_cons_succ, i64_w, i32_w]; rfl
             refine pure_ (i := 18) (N := some 38) (v := ?_) (a' := ?_) #[true, true, true, true, true, true, true, true, true, true, true, true, true, true, true, true, true, true, true, false, false, false, false, false, false, false, false, false] rfl rfl (any_of HT_.out zz49) (fun _ _ _ h => h) (Or.inl ⟨by rfl, ?_⟩) ?_ ?_
             rotate_left
             ·
              intro w'
              go_simp
              with_reducible rfl
             rotate_left
             ·
              simp only [Act.put, List.setIfInBounds_toArray, List.set_cons_zero, List.set_cons_succ, i64_w, i32_w]; rfl
             refine pure_ (i := 19) (N := some 39) (v := ?_) (a' := ?_) #[true, true, true, true, true, true, true, true, true, true, true, true, true, true, true, true, true, true, true, true, false, false, false, false, false, false, false, false] rfl rfl (any_of HT_.out zz49) (fun _ _ _ h => h) (Or.inl ⟨by rfl, ?_⟩) ?_ ?_
             rotate_left
             ·
              intro w'
              go_simp
              with_reducible rfl
             rotate_left
             ·
              simp only [Act.put, List.setIfInBounds_toArray, List.set_cons_zero, List.set_cons_succ, i64_w, i32_w]; rfl
             refine pure_ (i := 20) (N := some 40) (v := ?_) (a' := ?_) #[true, true, true, true, true, true, true, true, true, true, true, true, true, true, true, true, true, true, true, true, true, false, false, false, false, false, false, false] rfl rfl (any_of HT_.out zz49) (fun _ _ _ h => h) (Or.inl ⟨by rfl, ?_⟩) ?_ ?_
             rotate_left
             ·
              intro w'
              go_simp
              with_reducible rfl
             rotate_left
             ·
              simp only [Act.put, List.setIfInBounds_toArray, List.set_cons_zero, List.set_cons_succ, i64_w, i32_w]; rfl
             refine pure_ (i := 21) (N := some 41) (v := ?_) (a' := ?_) #[true, true, true, true, true, true, true, true, true, true, true, true, true, true, true, true, true, true, true, true, true, true, false, false, false, false, false, false] rfl rfl (any_of HT_.out zz49) (fun _ _ _ h => h) (Or.inl ⟨by rfl, ?_⟩) ?_ ?_
             rotate_left
             ·
              intro w'
              go_simp
              with_reducible rfl
             rotate_left
             ·
              simp only [Act.put, List.setIfInBounds_toArray, List.set_cons_zero, List.set_cons_succ, i64_w, i32_w]; rfl
             refine pure_ (i := 23) (N := some 43) (v := ?_) (a' := ?_) #[true, true, true, true, true, true, true, true, true, true, true, true, true, true, true, true, true, true, true, true, true, true, false, true, false, false, false, false] rfl rfl (any_of HT_.out zz49) (fun _ _ _ h => h) (Or.inl ⟨by rfl, ?_⟩) ?_ ?_
             rotate_left
             ·
              intro w'
              go_simp
              with_reducible rfl
             rotate_left
             ·
              simp only [Act.put, List.setIfInBounds_toArray, List.set_cons_zero, List.set_cons_succ, i64_w, i32_w]; rfl
             refine pure_ (i := 24) (N := some 44) (v := ?_) (a' := ?_) #[true, true, true, true, true, true, true, true, true, true, true, true, true, true, true, true, true, true, true, true, true, true, false, true, true, false, false, false] rfl rfl (any_of HT_.out zz49) (fun _ _ _ h => h) (Or.inl ⟨by rfl, ?_⟩) ?_ ?_
             rotate_left
             ·
              intro w'
              go_simp
              with_reducible rfl
             rotate_left
             ·
              simp only [Act.put, List.setIfInBounds_toArray, List.set_cons_zero, List.set_cons_succ, i64_w, i32_w]; rfl
             refine pure_ (i := 25) (N := some 45) (v := ?_) (a' := ?_) #[true, true, true, true, true, true, true, true, true, true, true, true, true, true, true, true, true, true, true, true, true, true, false, true, true, true, false, false] rfl rfl (any_of HT_.out zz49) (fun _ _ _ h => h) (Or.inl ⟨by rfl, ?_⟩) ?_ ?_
             rotate_left
             ·
              intro w'
              go_simp
              with_reducible rfl
             rotate_left
             ·
              simp only [Act.put, List.setIfInBounds_toArray, List.set_cons_zero, List.set_cons_succ, i64_w, i32_w]; rfl
             refine take_ (i := 22) (N := some 42) (v := ?_) (a' := ?_) #[true, true, true, true, true, true, true, true, true, true, true, true, true, true, true, true, true, true, true, true, true, true, true, true, true, true, false, false] rfl rfl (take_ofW HT_.out HW_.out zz49) (fun _ _ _ h => h) (Or.inl ⟨by rfl, ?_⟩) hHeld ?_ ?_
             rotate_left
             ·
              rintro w' ⟨s0, s1, s2, s3, s4, s5, s6, s7, s8, s9, s10, s11⟩
              go_simp
              with_reducible rfl
             rotate_left
             ·
              simp only [Act.put, List.setIfInBounds_toArray, List.set_cons_zero, List.set_cons_succ, i64_w, i32_w]; rfl
             refine one_ (i := 26) (N := some 46) #[true, true, true, true, true, true, true, true, true, true, true, true, true, true, true, true, true, true, true, true, true, true, true, true, true, true, true, false] rfl rfl (one_of HT_.out zz49) (by decide) (fun K hK => ?_)
             refine goes_ Tryd.func32 zz49 rfl #[.int .i64 a0, .int .i64 ((rd_T42 l1 x5_2).f0), .slice (some ad256) y261.length c1] (by rfl) rfl rfl zz20 ?_
             with_reducible refine (fairwayref4_twice.calls k2 a0 ((rd_T42 l1 x5_2).f0) _ _ y261 true _ ?side1 ?side2 A15.out).mono ?_
             (case side1 => repeat (first | exact (Kd.C_below HR264.out HB.out) | (with_reducible refine Kd.C_alloc ?_ _) | (with_reducible refine Kd.C_drewN ?_ _) | (with_reducible refine Kd.C_drew ?_)))
             (case side2 => exact HC264.out)
             rintro e w' ⟨rfl, ⟨nd, rfl⟩⟩
             refine ⟨_, rfl, ?_⟩
             refine hK.out _ _ ⟨((HB.out.cell (World.block_lt_of_cell? w _ hw256_0)).trans hw256_0), ((HB.out.cell (World.block_lt_of_cell? w _ hw256_1)).trans hw256_1), ((HB.out.cell (World.block_lt_of_cell? w _ hw256_2)).trans hw256_2), ((HB.out.cell (World.block_lt_of_cell? w _ hw256_3)).trans hw256_3), ((HB.out.cell (World.block_lt_of_cell? w _ hw258_0)).trans hw258_0), ((HB.out.cell (World.block_lt_of_cell? w _ hw258_1)).trans hw258_1), ((HB.out.cell (World.block_lt_of_cell? w _ hw258_2)).trans hw258_2), ((HB.out.cell (World.block_lt_of_cell? w _ hw258_3)).trans hw258_3), ((HB.out.cell (World.block_lt_of_cell? w _ hw260_0)).trans hw260_0), ((HB.out.cell (World.block_lt_of_cell? w _ hw260_1)).trans hw260_1), ((HB.out.cell (World.block_lt_of_cell? w _ hw260_2)).trans hw260_2), ((HB.out.cell (World.block_lt_of_cell? w _ hw260_3)).trans hw260_3)⟩ (fun hHeld => ?_)
             clear hK K; refine norm_ (a' := ?_) ?_ ?_
             rotate_left
             ·
              show Act.put _ (some 46) _ = _
              simp only [Act.put, List.setIfInBounds_toArray, List.set_cons_zero, List.set_cons_succ, i64_w, i32_w]; rfl
             refine pure_ (i := 27) (N := some 47) (v := ?_) (a' := ?_) #[true, true, true, true, true, true, true, true, true, true, true, true, true, true, true, true, true, true, true, true, true, true, true, true, true, true, true, true] rfl rfl (any_of HT_.out zz49) (fun _ _ _ h => h) (Or.inl ⟨by rfl, ?_⟩) ?_ ?_
             rotate_left
             ·
              intro w'
              go_simp
              with_reducible rfl
             rotate_left
             ·
              simp only [Act.put, List.setIfInBounds_toArray, List.set_cons_zero, List.set_cons_succ, i64_w, i32_w]; rfl
             refine done_ (done_of HT_.out zz49) ?_
             try go_wp2
             go_ret
             exact ⟨zz40, zz21⟩
            replace c16 := Bool.eq_false_iff.mpr c16; subst c16; have H1 : (fairwayref4_Props.l0 k2 a0 l1 (wrap64 (x5_2 + 1))) = some r := by rw [if_neg (show ¬ (false = true) by decide)] at H; exact H
            clear H; have H := H1; clear H1; have H' := Aside0.mk H; clear H; try go_wp2
            have n0_ := Aside0.mk (below_drew1 HB.out); clear HB; have HB := n0_; clear n0_; have p256 : 0 ≤ (x5_2 : Int) := of_decide_eq_true zz46; have q256 : x5_2 < (l1.length : Int) := of_decide_eq_true zz46; obtain ⟨ad256, e256, hx256_0, hx256_1, hx256_2, hx256_3⟩ := at_T42 HR1.out x5_2 p256 q256; have hw256_3 := hx256_3; have hw256_2 := hx256_2; have hw256_1 := hx256_1; have hw256_0 := hx256_0; cases e256; replace hx256_0 := (HB.out.cell (World.block_lt_of_cell? w _ hx256_0)).trans hx256_0; replace hx256_1 := (HB.out.cell (World.block_lt_of_cell? w _ hx256_1)).trans hx256_1; replace hx256_2 := (HB.out.cell (World.block_lt_of_cell? w _ hx256_2)).trans hx256_2; replace hx256_3 := (HB.out.cell (World.block_lt_of_cell? w _ hx256_3)).trans hx256_3; replace p256 := eq_true p256; replace q256 := eq_true q256; have p258 : 0 ≤ (x5_2 : Int) := of_decide_eq_true zz46; have q258 : x5_2 < (l1.length : Int) := of_decide_eq_true zz46; obtain ⟨ad258, e258, hx258_0, hx258_1, hx258_2, hx258_3⟩ := at_T42 HR1.out x5_2 p258 q258; have hw258_3 := hx258_3; have hw258_2 := hx258_2; have hw258_1 := hx258_1; have hw258_0 := hx258_0; obtain rfl : ad256 = ad258 := (by injection e258); replace hx258_0 := (HB.out.cell (World.block_lt_of_cell? w _ hx258_0)).trans hx258_0; replace hx258_1 := (HB.out.cell (World.block_lt_of_cell? w _ hx258_1)).trans hx258_1; replace hx258_2 := (HB.out.cell (World.block_lt_of_cell? w _ hx258_2)).trans hx258_2; replace hx258_3 := (HB.out.cell (World.block_lt_of_cell? w _ hx258_3)).trans hx258_3; replace p258 := eq_true p258; replace q258 := eq_true q258; have p260 : 0 ≤ (x5_2 : Int) := of_decide_eq_true zz46; have q260 : x5_2 < (l1.length : Int) := of_decide_eq_true zz46; obtain ⟨ad260, e260, hx260_0, hx260_1, hx260_2, hx260_3⟩ := at_T42 HR1.out x5_2 p260 q260; have hw260_3 := hx260_3; have hw260_2 := hx260_2; have hw260_1 := hx260_1; have hw260_0 := hx260_0; obtain rfl : ad256 = ad260 := (by injection e260); replace hx260_0 := (HB.out.cell (World.block_lt_of_cell? w _ hx260_0)).trans hx260_0; replace hx260_1 := (HB.out.cell (World.block_lt_of_cell? w _ hx260_1)).trans hx260_1; replace hx260_2 := (HB.out.cell (World.block_lt_of_cell? w _ hx260_2)).trans hx260_2; replace hx260_3 := (HB.out.cell (World.block_lt_of_cell? w _ hx260_3)).trans hx260_3; replace p260 := eq_true p260; replace q260 := eq_true q260; refine start_ (n := 28) (S := fun w' => w'.cell? (ad256.add ((x5_2).toNat * 4)) = some (.int .i64 ((rd_T42 l1 x5_2).f0)) ∧ w'.cell? ⟨(ad256.add ((x5_2).toNat * 4)).block, (ad256.add ((x5_2).toNat * 4)).off + 1, none⟩ = some (.int .i64 ((rd_T42 l1 x5_2).f1)) ∧ w'.cell? ⟨(ad256.add ((x5_2).toNat * 4)).block, (ad256.add ((x5_2).toNat * 4)).off + 2, none⟩ = some (.string ((rd_T42 l1 x5_2).f2)) ∧ w'.cell? ⟨(ad256.add ((x5_2).toNat * 4)).block, (ad256.add ((x5_2).toNat * 4)).off + 3, none⟩ = some (.string ((rd_T42 l1 x5_2).f3)) ∧ w'.cell? (ad256.add ((x5_2).toNat * 4)) = some (.int .i64 ((rd_T42 l1 x5_2).f0)) ∧ w'.cell? ⟨(ad256.add ((x5_2).toNat * 4)).block, (ad256.add ((x5_2).toNat * 4)).off + 1, none⟩ = some (.int .i64 ((rd_T42 l1 x5_2).f1)) ∧ w'.cell? ⟨(ad256.add ((x5_2).toNat * 4)).block, (ad256.add ((x5_2).toNat * 4)).off + 2, none⟩ = some (.string ((rd_T42 l1 x5_2).f2)) ∧ w'.cell? ⟨(ad256.add ((x5_2).toNat * 4)).block, (ad256.add ((x5_2).toNat * 4)).off + 3, none⟩ = some (.string ((rd_T42 l1 x5_2).f3)) ∧ w'.cell? (ad256.add ((x5_2).toNat * 4)) = some (.int .i64 ((rd_T42 l1 x5_2).f0)) ∧ w'.cell? ⟨(ad256.add ((x5_2).toNat * 4)).block, (ad256.add ((x5_2).toNat * 4)).off + 1, none⟩ = some (.int .i64 ((rd_T42 l1 x5_2).f1)) ∧ w'.cell? ⟨(ad256.add ((x5_2).toNat * 4)).block, (ad256.add ((x5_2).toNat * 4)).off + 2, none⟩ = some (.string ((rd_T42 l1 x5_2).f2)) ∧ w'.cell? ⟨(ad256.add ((x5_2).toNat * 4)).block, (ad256.add ((x5_2).toNat * 4)).off + 3, none⟩ = some (.string ((rd_T42 l1 x5_2).f3))) (ds := []) #[false, false, false, false, false, false, false, false, false, false, false, false, false, false, false, false, false, false, false, false, false, false, false, false, false, false, false, false] zz49 rfl rfl ⟨((HB.out.cell (World.block_lt_of_cell? w _ hw256_0)).trans hw256_0), ((HB.out.cell (World.block_lt_of_cell? w _ hw256_1)).trans hw256_1), ((HB.out.cell (World.block_lt_of_cell? w _ hw256_2)).trans hw256_2), ((HB.out.cell (World.block_lt_of_cell? w _ hw256_3)).trans hw256_3), ((HB.out.cell (World.block_lt_of_cell? w _ hw258_0)).trans hw258_0), ((HB.out.cell (World.block_lt_of_cell? w _ hw258_1)).trans hw258_1), ((HB.out.cell (World.block_lt_of_cell? w _ hw258_2)).trans hw258_2), ((HB.out.cell (World.block_lt_of_cell? w _ hw258_3)).trans hw258_3), ((HB.out.cell (World.block_lt_of_cell? w _ hw260_0)).trans hw260_0), ((HB.out.cell (World.block_lt_of_cell? w _ hw260_1)).trans hw260_1), ((HB.out.cell (World.block_lt_of_cell? w _ hw260_2)).trans hw260_2), ((HB.out.cell (World.block_lt_of_cell? w _ hw260_3)).trans hw260_3)⟩ (fun hHeld => ?_); refine with_tabW fairwayref4_Props.tab6 fairwayref4_Props.bits6 (fun HT_ HW_ => ?_)
            generalize wr.drew = w21 at HB hx256_0 hx256_1 hx256_2 hx256_3 hx258_0 hx258_1 hx258_2 hx258_3 hx260_0 hx260_1 hx260_2 hx260_3 hHeld ⊢
            refine pure_ (i := 0) (N := some 20) (v := ?_) (a' := ?_) #[true, false, false, false, false, false, false, false, false, false, false, false, false, false, false, false, false, false, false, false, false, false, false, false, false, false, false, false] rfl rfl (any_of HT_.out zz49) (fun _ _ _ h => h) (Or.inl ⟨by rfl, ?_⟩) ?_ ?_
            rotate_left
            ·
             intro w'
             go_simp
             with_reducible rfl
            rotate_left
            ·
             simp only [Act.put, List.setIfInBounds_toArray, List.set_cons_zero, List.set_cons_succ, i64_w, i32_w]; rfl
            refine pure_ (i := 1) (N := some 21) (v := ?_) (a' := ?_) #[true, true, false, false, false, false, false, false, false, false, false, false, false, false, false, false, false, false, false, false, false, false, false, false, false, false, false, false] rfl rfl (any_of HT_.out zz49) (fun _ _ _ h => h) (Or.inl ⟨by rfl, ?_⟩) ?_ ?_
            rotate_left
            ·
             intro w'
             go_simp
             with_reducible rfl
            rotate_left
            ·
             simp only [Act.put, List.setIfInBounds_toArray, List.set_cons_zero, List.set_cons_succ, i64_w, i32_w]; rfl
            refine pure_ (i := 2) (N := some 22) (v := ?_) (a' := ?_) #[true, true, true, false, false, false, false, false, false, false, false, false, false, false, false, false, false, false, false, false, false, false, false, false, false, false, false, false] rfl rfl (any_of HT_.out zz49) (fun _ _ _ h => h) (Or.inl ⟨by rfl, ?_⟩) ?_ ?_
            rotate_left
            ·
             intro w'
             go_simp
             with_reducible rfl
            rotate_left
            ·
             simp only [Act.put, List.setIfInBounds_toArray, List.set_cons_zero, List.set_cons_succ, i64_w, i32_w]; rfl
            refine take_ (i := 3) (N := some 23) (v := ?_) (a' := ?_) #[true, true, true, true, false, false, false, false, false, false, false, false, false, false, false, false, false, false, false, false, false, false, false, false, false, false, false, false] rfl rfl (take_ofW HT_.out HW_.out zz49) (fun _ _ _ h => h) (Or.inl ⟨by rfl, ?_⟩) hHeld ?_ ?_
            rotate_left
            ·
             rintro w' ⟨s0, s1, s2, s3, s4, s5, s6, s7, s8, s9, s10, s11⟩
             go_simp
             with_reducible rfl
            rotate_left
            ·
             simp only [Act.put, List.setIfInBounds_toArray, List.set_cons_zero, List.set_cons_succ, i64_w, i32_w]; rfl
            refine one_ (i := 4) (N := some 24) #[true, true, true, true, true, false, false, false, false, false, false, false, false, false, false, false, false, false, false, false, false, false, false, false, false, false, false, false] rfl rfl (one_of HT_.out zz49) (by decide) (fun K hK => ?_)
            refine goes_ Tryd.func30 zz49 rfl #[.agg #[.int .i64 ((rd_T42 l1 x5_2).f0), .int .i64 ((rd_T42 l1 x5_2).f1), .string ((rd_T42 l1 x5_2).f2), .string ((rd_T42 l1 x5_2).f3)]] (by rfl) rfl rfl zz20 ?_
            with_reducible refine (fairwayref4_fits.calls k2 ((rd_T42 l1 x5_2).f0) ((rd_T42 l1 x5_2).f1) ((rd_T42 l1 x5_2).f2) ((rd_T42 l1 x5_2).f3) true _ A9.out).mono ?_
            rintro e w22 ⟨rfl, hb⟩
            refine ⟨_, rfl, ?_⟩
            have n0_ := Aside0.mk (below_step zz21 hb); clear HB; have HB := n0_; clear n0_; (try clear hb)
            (try clear hb2)
            (try clear hk)
            (try clear hi)
            refine hK.out _ _ ⟨((HB.out.cell (World.block_lt_of_cell? w _ hw256_0)).trans hw256_0), ((HB.out.cell (World.block_lt_of_cell? w _ hw256_1)).trans hw256_1), ((HB.out.cell (World.block_lt_of_cell? w _ hw256_2)).trans hw256_2), ((HB.out.cell (World.block_lt_of_cell? w _ hw256_3)).trans hw256_3), ((HB.out.cell (World.block_lt_of_cell? w _ hw258_0)).trans hw258_0), ((HB.out.cell (World.block_lt_of_cell? w _ hw258_1)).trans hw258_1), ((HB.out.cell (World.block_lt_of_cell? w _ hw258_2)).trans hw258_2), ((HB.out.cell (World.block_lt_of_cell? w _ hw258_3)).trans hw258_3), ((HB.out.cell (World.block_lt_of_cell? w _ hw260_0)).trans hw260_0), ((HB.out.cell (World.block_lt_of_cell? w _ hw260_1)).trans hw260_1), ((HB.out.cell (World.block_lt_of_cell? w _ hw260_2)).trans hw260_2), ((HB.out.cell (World.block_lt_of_cell? w _ hw260_3)).trans hw260_3)⟩ (fun hHeld => ?_)
            clear hK K; refine norm_ (a' := ?_) ?_ ?_
            rotate_left
            ·
             show Act.put _ (some 24) _ = _
             simp only [Act.put, List.setIfInBounds_toArray, List.set_cons_zero, List.set_cons_succ, i64_w, i32_w]; rfl
            refine pure_ (i := 5) (N := some 25) (v := ?_) (a' := ?_) #[true, true, true, true, true, true, false, false, false, false, false, false, false, false, false, false, false, false, false, false, false, false, false, false, false, false, false, false] rfl rfl (any_of HT_.out zz49) (fun _ _ _ h => h) (Or.inl ⟨by rfl, ?_⟩) ?_ ?_
            rotate_left
            ·
             intro w'
             go_simp
             with_reducible rfl
            rotate_left
            ·
             simp only [Act.put, List.setIfInBounds_toArray, List.set_cons_zero, List.set_cons_succ, i64_w, i32_w]; rfl
            refine pure_ (i := 6) (N := some 26) (v := ?_) (a' := ?_) #[true, true, true, true, true, true, true, false, false, false, false, false, false, false, false, false, false, false, false, false, false, false, false, false, false, false, false, false] rfl rfl (any_of HT_.out zz49) (fun _ _ _ h => h) (Or.inl ⟨by rfl, ?_⟩) ?_ ?_
            rotate_left
            ·
             intro w'
             go_simp
             with_reducible rfl
            rotate_left
            ·
             simp only [Act.put, List.setIfInBounds_toArray, List.set_cons_zero, List.set_cons_succ, i64_w, i32_w]; rfl
            refine pure_ (i := 7) (N := some 27) (v := ?_) (a' := ?_) #[true, true, true, true, true, true, true, true, false, false, false, false, false, false, false, false, false, false, false, false, false, false, false, false, false, false, false, false] rfl rfl (any_of HT_.out zz49) (fun _ _ _ h => h) (Or.inl ⟨by rfl, ?_⟩) ?_ ?_
            rotate_left
            ·
             intro w'
             go_simp
             with_reducible rfl
            rotate_left
            ·
             simp only [Act.put, List.setIfInBounds_toArray, List.set_cons_zero, List.set_cons_succ, i64_w, i32_w]; rfl
            refine pure_ (i := 8) (N := some 28) (v := ?_) (a' := ?_) #[true, true, true, true, true, true, true, true, true, false, false, false, false, false, false, false, false, false, false, false, false, false, false, false, false, false, false, false] rfl rfl (any_of HT_.out zz49) (fun _ _ _ h => h) (Or.inl ⟨by rfl, ?_⟩) ?_ ?_
            rotate_left
            ·
             intro w'
             go_simp
             with_reducible rfl
            rotate_left
            ·
             simp only [Act.put, List.setIfInBounds_toArray, List.set_cons_zero, List.set_cons_succ, i64_w, i32_w]; rfl
            refine pure_ (i := 9) (N := some 29) (v := ?_) (a' := ?_) #[true, true, true, true, true, true, true, true, true, true, false, false, false, false, false, false, false, false, false, false, false, false, false, false, false, false, false, false] rfl rfl (any_of HT_.out zz49) (fun _ _ _ h => h) (Or.inl ⟨by rfl, ?_⟩) ?_ ?_
            rotate_left
            ·
             intro w'
             go_simp
             with_reducible rfl
            rotate_left
            ·
             simp only [Act.put, List.setIfInBounds_toArray, List.set_cons_zero, List.set_cons_succ, i64_w, i32_w]; rfl
            refine pure_ (i := 10) (N := some 30) (v := ?_) (a' := ?_) #[true, true, true, true, true, true, true, true, true, true, true, false, false, false, false, false, false, false, false, false, false, false, false, false, false, false, false, false] rfl rfl (any_of HT_.out zz49) (fun _ _ _ h => h) (Or.inl ⟨by rfl, ?_⟩) ?_ ?_
            rotate_left
            ·
             intro w'
             go_simp
             with_reducible rfl
            rotate_left
            ·
             simp only [Act.put, List.setIfInBounds_toArray, List.set_cons_zero, List.set_cons_succ, i64_w, i32_w]; rfl
            refine pure_ (i := 11) (N := some 31) (v := ?_) (a' := ?_) #[true, true, true, true, true, true, true, true, true, true, true, true, false, false, false, false, false, false, false, false, false, false, false, false, false, false, false, false] rfl rfl (any_of HT_.out zz49) (fun _ _ _ h => h) (Or.inl ⟨by rfl, ?_⟩) ?_ ?_
            rotate_left
            ·
             intro w'
             go_simp
             with_reducible rfl
            rotate_left
            ·
             simp only [Act.put, List.setIfInBounds_toArray, List.set_cons_zero, List.set_cons_succ, i64_w, i32_w]; rfl
            refine take_ (i := 12) (N := some 32) (v := ?_) (a' := ?_) #[true, true, true, true, true, true, true, true, true, true, true, true, true, false, false, false, false, false, false, false, false, false, false, false, false, false, false, false] rfl rfl (take_ofW HT_.out HW_.out zz49) (fun _ _ _ h => h) (Or.inl ⟨by rfl, ?_⟩) hHeld ?_ ?_
            rotate_left
            ·
             rintro w' ⟨s0, s1, s2, s3, s4, s5, s6, s7, s8, s9, s10, s11⟩
             go_simp
             with_reducible rfl
            rotate_left
            ·
             simp only [Act.put, List.setIfInBounds_toArray, List.set_cons_zero, List.set_cons_succ, i64_w, i32_w]; rfl
            refine one_ (i := 13) (N := some 33) #[true, true, true, true, true, true, true, true, true, true, true, true, true, true, false, false, false, false, false, false, false, false, false, false, false, false, false, false] rfl rfl (one_of HT_.out zz49) (by decide) (fun K hK => ?_)
            refine goes_ Tryd.func31 zz49 rfl #[.int .i64 a0, .int .i64 ((rd_T42 l1 x5_2).f0)] (by rfl) rfl rfl zz20 ?_
            with_reducible refine (fairwayref4_stands.calls k2 a0 ((rd_T42 l1 x5_2).f0) true _ A11.out).mono ?_
            rintro e w23 ⟨rfl, hb⟩
            refine ⟨_, rfl, ?_⟩
            have n0_ := Aside0.mk (below_step zz21 hb); clear HB; have HB := n0_; clear n0_; (try clear hb)
            (try clear hb2)
            (try clear hk)
            (try clear hi)
            have q24 : (x5_2 : Int) ≤ ((l1.length : Int) : Int) := of_decide_eq_true zz46; obtain ⟨i024, hi024, _, hsz24, _⟩ := info_parts info42; have hroom24 : l1.length ≤ c1 := HC1.out; have hC24 : Kd.C k42 _ (some ad256) l1.length l1 := HR1.out; have hcut24 := cut_to (P := Tryd.prog) 23 42 .i64 Tryd.underlying23 hi024 (some ad256) l1.length c1 x5_2 (of_decide_eq_true zz46) q24 hroom24; have hr24 := Kd.C_take (m := (x5_2 : Int).toNat) hC24 (by omega); have hy24 : y261.length = (x5_2 : Int).toNat := (by rw [Ny261.out, List.length_take]; omega); rw [← Ny261.out] at hr24; rw [← hy24] at hcut24; have HR264 := Aside0.mk hr24; have HC264 := Aside0.mk (show y261.length ≤ c1 from by omega); clear hr24 hC24 hroom24 hi024 hsz24; have KY24 := Aside0.mk hy24; clear hy24; replace q24 := eq_true q24; refine hK.out _ _ ⟨((HB.out.cell (World.block_lt_of_cell? w _ hw256_0)).trans hw256_0), ((HB.out.cell (World.block_lt_of_cell? w _ hw256_1)).trans hw256_1), ((HB.out.cell (World.block_lt_of_cell? w _ hw256_2)).trans hw256_2), ((HB.out.cell (World.block_lt_of_cell? w _ hw256_3)).trans hw256_3), ((HB.out.cell (World.block_lt_of_cell? w _ hw258_0)).trans hw258_0), ((HB.out.cell (World.block_lt_of_cell? w _ hw258_1)).trans hw258_1), ((HB.out.cell (World.block_lt_of_cell? w _ hw258_2)).trans hw258_2), ((HB.out.cell (World.block_lt_of_cell? w _ hw258_3)).trans hw258_3), ((HB.out.cell (World.block_lt_of_cell? w _ hw260_0)).trans hw260_0), ((HB.out.cell (World.block_lt_of_cell? w _ hw260_1)).trans hw260_1), ((HB.out.cell (World.block_lt_of_cell? w _ hw260_2)).trans hw260_2), ((HB.out.cell (World.block_lt_of_cell? w _ hw260_3)).trans hw260_3)⟩ (fun hHeld => ?_)
            clear hK K; refine norm_ (a' := ?_) ?_ ?_
            rotate_left
            ·
             show Act.put _ (some 33) _ = _
             simp only [Act.put, List.setIfInBounds_toArray, List.set_cons_zero, List.set_cons_succ, i64_w, i32_w]; rfl
            refine pure_ (i := 14) (N := some 34) (v := ?_) (a' := ?_) #[true, true, true, true, true, true, true, true, true, true, true, true, true, true, true, false, false, false, false, false, false, false, false, false, false, false, false, false] rfl rfl (any_of HT_.out zz49) (fun _ _ _ h => h) (Or.inl ⟨by rfl, ?_⟩) ?_ ?_
            rotate_left
            ·
             intro w'
             go_simp
             with_reducible rfl
            rotate_left
            ·
             simp only [Act.put, List.setIfInBounds_toArray, List.set_cons_zero, List.set_cons_succ, i64_w, i32_w]; rfl
            refine pure_ (i := 15) (N := some 35) (v := ?_) (a' := ?_) #[true, true, true, true, true, true, true, true, true, true, true, true, true, true, true, true, false, false, false, false, false, false, false, false, false, false, false, false] rfl rfl (any_of HT_.out zz49) (fun _ _ _ h => h) (Or.inl ⟨by rfl, ?_⟩) ?_ ?_
            rotate_left
            ·
             intro w'
             go_simp
             with_reducible rfl
            rotate_left
            ·
             simp only [Act.put, List.setIfInBounds_toArray, List.set_cons_zero, List.set_cons_succ, i64_w, i32_w]; rfl
            refine pure_ (i := 16) (N := some 36) (v := ?_) (a' := ?_) #[true, true, true, true, true, true, true, true, true, true, true, true, true, true, true, true, true, false, false, false, false, false, false, false, false, false, false, false] rfl rfl (any_of HT_.out zz49) (fun _ _ _ h => h) (Or.inl ⟨by rfl, ?_⟩) ?_ ?_
            rotate_left
            ·
             intro w'
             go_simp
             with_reducible rfl
            rotate_left
            ·
             simp only [Act.put, List.setIfInBounds_toArray, List.set_cons_zero, List.set_cons_succ, i64_w, i32_w]; rfl
            refine pure_ (i := 17) (N := some 37) (v := ?_) (a' := ?_) #[true, true, true, true, true, true, true, true, true, true, true, true, true, true, true, true, true, true, false, false, false, false, false, false, false, false, false, false] rfl rfl (any_of HT_.out zz49) (fun _ _ _ h => h) (Or.inl ⟨by rfl, ?_⟩) ?_ ?_
            rotate_left
            ·
             intro w'
             go_simp
             with_reducible rfl
            rotate_left
            ·
             simp only [Act.put, List.setIfInBounds_toArray, List.set_cons_zero, List.set_cons_succ, i64_w, i32_w]; rfl
            refine pure_ (i := 18) (N := some 38) (v := ?_) (a' := ?_) #[true, true, true, true, true, true, true, true, true, true, true, true, true, true, true, true, true, true, true, false, false, false, false, false, false, false, false, false] rfl rfl (any_of HT_.out zz49) (fun _ _ _ h => h) (Or.inl ⟨by rfl, ?_⟩) ?_ ?_
            rotate_left
            ·
             intro w'
             go_simp
             with_reducible rfl
            rotate_left
            ·
             simp only [Act.put, List.setIfInBounds_toArray, List.set_cons_zero, List.set_cons_succ, i64_w, i32_w]; rfl
            refine pure_ (i := 19) (N := some 39) (v := ?_) (a' := ?_) #[true, true, true, true, true, true, true, true, true, true, true, true, true, true, true, true, true, true, true, true, false, false, false, false, false, false, false, false] rfl rfl (any_of HT_.out zz49) (fun _ _ _ h => h) (Or.inl ⟨by rfl, ?_⟩) ?_ ?_
            rotate_left
            ·
             intro w'
             go_simp
             with_reducible rfl
            rotate_left
            ·
             simp only [Act.put, List.setIfInBounds_toArray, List.set_cons_zero, List.set_cons_succ, i64_w, i32_w]; rfl
            refine pure_ (i := 20) (N := some 40) (v := ?_) (a' := ?_) #[true, true, true, true, true, true, true, true, true, true, true, true, true, true, true, true, true, true, true, true, true, false, false, false, false, false, false, false] rfl rfl (any_of HT_.out zz49) (fun _ _ _ h => h) (Or.inl ⟨by rfl, ?_⟩) ?_ ?_
            rotate_left
            ·
             intro w'
             go_simp
             with_reducible rfl
            rotate_left
            ·
             simp only [Act.put, List.setIfInBounds_toArray, List.set_cons_zero, List.set_cons_succ, i64_w, i32_w]; rfl
            refine pure_ (i := 21) (N := some 41) (v := ?_) (a' := ?_) #[true, true, true, true, true, true, true, true, true, true, true, true, true, true, true, true, true, true, true, true, true, true, false, false, false, false, false, false] rfl rfl (any_of HT_.out zz49) (fun _ _ _ h => h) (Or.inl ⟨by rfl, ?_⟩) ?_ ?_
            rotate_left
            ·
             intro w'
             go_simp
             with_reducible rfl
            rotate_left
            ·
             simp only [Act.put, List.setIfInBounds_toArray, List.set_cons_zero, List.set_cons_succ, i64_w, i32_w]; rfl
            refine pure_ (i := 23) (N := some 43) (v := ?_) (a' := ?_) #[true, true, true, true, true, true, true, true, true, true, true, true, true, true, true, true, true, true, true, true, true, true, false, true, false, false, false, false] rfl rfl (any_of HT_.out zz49) (fun _ _ _ h => h) (Or.inl ⟨by rfl, ?_⟩) ?_ ?_
            rotate_left
            ·
             intro w'
             go_simp
             with_reducible rfl
            rotate_left
            ·
             simp only [Act.put, List.setIfInBounds_toArray, List.set_cons_zero, List.set_cons_succ, i64_w, i32_w]; rfl
            refine pure_ (i := 24) (N := some 44) (v := ?_) (a' := ?_) #[true, true, true, true, true, true, true, true, true, true, true, true, true, true, true, true, true, true, true, true, true, true, false, true, true, false, false, false] rfl rfl (any_of HT_.out zz49) (fun _ _ _ h => h) (Or.inl ⟨by rfl, ?_⟩) ?_ ?_
            rotate_left
            ·
             intro w'
             go_simp
             with_reducible rfl
            rotate_left
            ·
             simp only [Act.put, List.setIfInBounds_toArray, List.set_cons_zero, List.set_cons_succ, i64_w, i32_w]; rfl
            refine pure_ (i := 25) (N := some 45) (v := ?_) (a' := ?_) #[true, true, true, true, true, true, true, true, true, true, true, true, true, true, true, true, true, true, true, true, true, true, false, true, true, true, false, false] rfl rfl (any_of HT_.out zz49) (fun _ _ _ h => h) (Or.inl ⟨by rfl, ?_⟩) ?_ ?_
            rotate_left
            ·
             intro w'
             go_simp
             with_reducible rfl
            rotate_left
            ·
             simp only [Act.put, List.setIfInBounds_toArray, List.set_cons_zero, List.set_cons_succ, i64_w, i32_w]; rfl
            refine take_ (i := 22) (N := some 42) (v := ?_) (a' := ?_) #[true, true, true, true, true, true, true, true, true, true, true, true, true, true, true, true, true, true, true, true, true, true, true, true, true, true, false, false] rfl rfl (take_ofW HT_.out HW_.out zz49) (fun _ _ _ h => h) (Or.inl ⟨by rfl, ?_⟩) hHeld ?_ ?_
            rotate_left
            ·
             rintro w' ⟨s0, s1, s2, s3, s4, s5, s6, s7, s8, s9, s10, s11⟩
             go_simp
             with_reducible rfl
            rotate_left
            ·
             simp only [Act.put, List.setIfInBounds_toArray, List.set_cons_zero, List.set_cons_succ, i64_w, i32_w]; rfl
            refine one_ (i := 26) (N := some 46) #[true, true, true, true, true, true, true, true, true, true, true, true, true, true, true, true, true, true, true, true, true, true, true, true, true, true, true, false] rfl rfl (one_of HT_.out zz49) (by decide) (fun K hK => ?_)
            refine goes_ Tryd.func32 zz49 rfl #[.int .i64 a0, .int .i64 ((rd_T42 l1 x5_2).f0), .slice (some ad256) y261.length c1] (by rfl) rfl rfl zz20 ?_
            with_reducible refine (fairwayref4_twice.calls k2 a0 ((rd_T42 l1 x5_2).f0) _ _ y261 false _ ?side1 ?side2 A15.out).mono ?_
            (case side1 => repeat (first | exact (Kd.C_below HR264.out HB.out) | (with_reducible refine Kd.C_alloc ?_ _) | (with_reducible refine Kd.C_drewN ?_ _) | (with_reducible refine Kd.C_drew ?_)))
            (case side2 => exact HC264.out)
            rintro e w' ⟨rfl, ⟨nd, rfl⟩⟩
            refine ⟨_, rfl, ?_⟩
            refine hK.out _ _ ⟨((HB.out.cell (World.block_lt_of_cell? w _ hw256_0)).trans hw256_0), ((HB.out.cell (World.block_lt_of_cell? w _ hw256_1)).trans hw256_1), ((HB.out.cell (World.block_lt_of_cell? w _ hw256_2)).trans hw256_2), ((HB.out.cell (World.block_lt_of_cell? w _ hw256_3)).trans hw256_3), ((HB.out.cell (World.block_lt_of_cell? w _ hw258_0)).trans hw258_0), ((HB.out.cell (World.block_lt_of_cell? w _ hw258_1)).trans hw258_1), ((HB.out.cell (World.block_lt_of_cell? w _ hw258_2)).trans hw258_2), ((HB.out.cell (World.block_lt_of_cell? w _ hw258_3)).trans hw258_3), ((HB.out.cell (World.block_lt_of_cell? w _ hw260_0)).trans hw260_0), ((HB.out.cell (World.block_lt_of_cell? w _ hw260_1)).trans hw260_1), ((HB.out.cell (World.block_lt_of_cell? w _ hw260_2)).trans hw260_2), ((HB.out.cell (World.block_lt_of_cell? w _ hw260_3)).trans hw260_3)⟩ (fun hHeld => ?_)
            clear hK K; refine norm_ (a' := ?_) ?_ ?_
            rotate_left
            ·
             show Act.put _ (some 46) _ = _
             simp only [Act.put, List.setIfInBounds_toArray, List.set_cons_zero, List.set_cons_succ, i64_w, i32_w]; rfl
            refine pure_ (i := 27) (N := some 47) (v := ?_) (a' := ?_) #[true, true, true, true, true, true, true, true, true, true, true, true, true, true, true, true, true, true, true, true, true, true, true, true, true, true, true, true] rfl rfl (any_of HT_.out zz49) (fun _ _ _ h => h) (Or.inl ⟨by rfl, ?_⟩) ?_ ?_
            rotate_left
            ·
             intro w'
             go_simp
             with_reducible rfl
            rotate_left
            ·
             simp only [Act.put, List.setIfInBounds_toArray, List.set_cons_zero, List.set_cons_succ, i64_w, i32_w]; rfl
            refine done_ (done_of HT_.out zz49) ?_
            try go_wp2
            go_roundg k2
            case measure => have := HJ2.out; have := HK2.out; omega
            case rel => exact ⟨(wrap64 (x5_2 + 1)), zz47, H', ⟨by have := HJ2.out; have := HK2.out; omega⟩, ⟨zz21⟩⟩
           rw [if_neg c14] at H; exact absurd H (by simp)
          replace c12 := Bool.eq_false_iff.mpr c12; subst c12; have H1 : (some false) = some r := by rw [if_neg (show ¬ (false = true) by decide)] at H; exact H
          clear H; have H := H1; clear H1; obtain rfl := Option.some.inj H; try go_wp2
          have n0_ := Aside0.mk (below_drew1 HB.out); clear HB; have HB := n0_; clear n0_; have p256 : 0 ≤ (x5_2 : Int) := of_decide_eq_true zz46; have q256 : x5_2 < (l1.length : Int) := of_decide_eq_true zz46; obtain ⟨ad256, e256, hx256_0, hx256_1, hx256_2, hx256_3⟩ := at_T42 HR1.out x5_2 p256 q256; have hw256_3 := hx256_3; have hw256_2 := hx256_2; have hw256_1 := hx256_1; have hw256_0 := hx256_0; cases e256; replace hx256_0 := (HB.out.cell (World.block_lt_of_cell? w _ hx256_0)).trans hx256_0; replace hx256_1 := (HB.out.cell (World.block_lt_of_cell? w _ hx256_1)).trans hx256_1; replace hx256_2 := (HB.out.cell (World.block_lt_of_cell? w _ hx256_2)).trans hx256_2; replace hx256_3 := (HB.out.cell (World.block_lt_of_cell? w _ hx256_3)).trans hx256_3; replace p256 := eq_true p256; replace q256 := eq_true q256; have p258 : 0 ≤ (x5_2 : Int) := of_decide_eq_true zz46; have q258 : x5_2 < (l1.length : Int) := of_decide_eq_true zz46; obtain ⟨ad258, e258, hx258_0, hx258_1, hx258_2, hx258_3⟩ := at_T42 HR1.out x5_2 p258 q258; have hw258_3 := hx258_3; have hw258_2 := hx258_2; have hw258_1 := hx258_1; have hw258_0 := hx258_0; obtain rfl : ad256 = ad258 := (by injection e258); replace hx258_0 := (HB.out.cell (World.block_lt_of_cell? w _ hx258_0)).trans hx258_0; replace hx258_1 := (HB.out.cell (World.block_lt_of_cell? w _ hx258_1)).trans hx258_1; replace hx258_2 := (HB.out.cell (World.block_lt_of_cell? w _ hx258_2)).trans hx258_2; replace hx258_3 := (HB.out.cell (World.block_lt_of_cell? w _ hx258_3)).trans hx258_3; replace p258 := eq_true p258; replace q258 := eq_true q258; refine start_ (n := 28) (S := fun w' => w'.cell? (ad256.add ((x5_2).toNat * 4)) = some (.int .i64 ((rd_T42 l1 x5_2).f0)) ∧ w'.cell? ⟨(ad256.add ((x5_2).toNat * 4)).block, (ad256.add ((x5_2).toNat * 4)).off + 1, none⟩ = some (.int .i64 ((rd_T42 l1 x5_2).f1)) ∧ w'.cell? ⟨(ad256.add ((x5_2).toNat * 4)).block, (ad256.add ((x5_2).toNat * 4)).off + 2, none⟩ = some (.string ((rd_T42 l1 x5_2).f2)) ∧ w'.cell? ⟨(ad256.add ((x5_2).toNat * 4)).block, (ad256.add ((x5_2).toNat * 4)).off + 3, none⟩ = some (.string ((rd_T42 l1 x5_2).f3)) ∧ w'.cell? (ad256.add ((x5_2).toNat * 4)) = some (.int .i64 ((rd_T42 l1 x5_2).f0)) ∧ w'.cell? ⟨(ad256.add ((x5_2).toNat * 4)).block, (ad256.add ((x5_2).toNat * 4)).off + 1, none⟩ = some (.int .i64 ((rd_T42 l1 x5_2).f1)) ∧ w'.cell? ⟨(ad256.add ((x5_2).toNat * 4)).block, (ad256.add ((x5_2).toNat * 4)).off + 2, none⟩ = some (.string ((rd_T42 l1 x5_2).f2)) ∧ w'.cell? ⟨(ad256.add ((x5_2).toNat * 4)).block, (ad256.add ((x5_2).toNat * 4)).off + 3, none⟩ = some (.string ((rd_T42 l1 x5_2).f3))) (ds := []) #[false, false, false, false, false, false, false, false, false, false, false, false, false, false, false, false, false, false, false, false, false, false, false, false, false, false, false, false] zz49 rfl rfl ⟨((HB.out.cell (World.block_lt_of_cell? w _ hw256_0)).trans hw256_0), ((HB.out.cell (World.block_lt_of_cell? w _ hw256_1)).trans hw256_1), ((HB.out.cell (World.block_lt_of_cell? w _ hw256_2)).trans hw256_2), ((HB.out.cell (World.block_lt_of_cell? w _ hw256_3)).trans hw256_3), ((HB.out.cell (World.block_lt_of_cell? w _ hw258_0)).trans hw258_0), ((HB.out.cell (World.block_lt_of_cell? w _ hw258_1)).trans hw258_1), ((HB.out.cell (World.block_lt_of_cell? w _ hw258_2)).trans hw258_2), ((HB.out.cell (World.block_lt_of_cell? w _ hw258_3)).trans hw258_3)⟩ (fun hHeld => ?_); refine with_tabW fairwayref4_Props.tab6 fairwayref4_Props.bits6 (fun HT_ HW_ => ?_)
          generalize wr.drew = w25 at HB hx256_0 hx256_1 hx256_2 hx256_3 hx258_0 hx258_1 hx258_2 hx258_3 hHeld ⊢
          refine pure_ (i := 0) (N := some 20) (v := ?_) (a' := ?_) #[true, false, false, false, false, false, false, false, false, false, false, false, false, false, false, false, false, false, false, false, false, false, false, false, false, false, false, false] rfl rfl (any_of HT_.out zz49) (fun _ _ _ h => h) (Or.inl ⟨by rfl, ?_⟩) ?_ ?_
          rotate_left
          ·
           intro w'
           go_simp
           with_reducible rfl
          rotate_left
          ·
           simp only [Act.put, List.setIfInBounds_toArray, List.set_cons_zero, List.set_cons_succ, i64_w, i32_w]; rfl
          refine pure_ (i := 1) (N := some 21) (v := ?_) (a' := ?_) #[true, true, false, false, false, false, false, false, false, false, false, false, false, false, false, false, false, false, false, false, false, false, false, false, false, false, false, false] rfl rfl (any_of HT_.out zz49) (fun _ _ _ h => h) (Or.inl ⟨by rfl, ?_⟩) ?_ ?_
          rotate_left
          ·
           intro w'
           go_simp
           with_reducible rfl
          rotate_left
          ·
           simp only [Act.put, List.setIfInBounds_toArray, List.set_cons_zero, List.set_cons_succ, i64_w, i32_w]; rfl
          refine pure_ (i := 2) (N := some 22) (v := ?_) (a' := ?_) #[true, true, true, false, false, false, false, false, false, false, false, false, false, false, false, false, false, false, false, false, false, false, false, false, false, false, false, false] rfl rfl (any_of HT_.out zz49) (fun _ _ _ h => h) (Or.inl ⟨by rfl, ?_⟩) ?_ ?_
          rotate_left
          ·
           intro w'
           go_simp
           with_reducible rfl
          rotate_left
          ·
           simp only [Act.put, List.setIfInBounds_toArray, List.set_cons_zero, List.set_cons_succ, i64_w, i32_w]; rfl
          refine take_ (i := 3) (N := some 23) (v := ?_) (a' := ?_) #[true, true, true, true, false, false, false, false, false, false, false, false, false, false, false, false, false, false, false, false, false, false, false, false, false, false, false, false] rfl rfl (take_ofW HT_.out HW_.out zz49) (fun _ _ _ h => h) (Or.inl ⟨by rfl, ?_⟩) hHeld ?_ ?_
          rotate_left
          ·
           rintro w' ⟨s0, s1, s2, s3, s4, s5, s6, s7⟩
           go_simp
           with_reducible rfl
          rotate_left
          ·
           simp only [Act.put, List.setIfInBounds_toArray, List.set_cons_zero, List.set_cons_succ, i64_w, i32_w]; rfl
          refine one_ (i := 4) (N := some 24) #[true, true, true, true, true, false, false, false, false, false, false, false, false, false, false, false, false, false, false, false, false, false, false, false, false, false, false, false] rfl rfl (one_of HT_.out zz49) (by decide) (fun K hK => ?_)
          refine goes_ Tryd.func30 zz49 rfl #[.agg #[.int .i64 ((rd_T42 l1 x5_2).f0), .int .i64 ((rd_T42 l1 x5_2).f1), .string ((rd_T42 l1 x5_2).f2), .string ((rd_T42 l1 x5_2).f3)]] (by rfl) rfl rfl zz20 ?_
          with_reducible refine (fairwayref4_fits.calls k2 ((rd_T42 l1 x5_2).f0) ((rd_T42 l1 x5_2).f1) ((rd_T42 l1 x5_2).f2) ((rd_T42 l1 x5_2).f3) true _ A9.out).mono ?_
          rintro e w26 ⟨rfl, hb⟩
          refine ⟨_, rfl, ?_⟩
          have n0_ := Aside0.mk (below_step zz21 hb); clear HB; have HB := n0_; clear n0_; (try clear hb)
          (try clear hb2)
          (try clear hk)
          (try clear hi)
          refine hK.out _ _ ⟨((HB.out.cell (World.block_lt_of_cell? w _ hw256_0)).trans hw256_0), ((HB.out.cell (World.block_lt_of_cell? w _ hw256_1)).trans hw256_1), ((HB.out.cell (World.block_lt_of_cell? w _ hw256_2)).trans hw256_2), ((HB.out.cell (World.block_lt_of_cell? w _ hw256_3)).trans hw256_3), ((HB.out.cell (World.block_lt_of_cell? w _ hw258_0)).trans hw258_0), ((HB.out.cell (World.block_lt_of_cell? w _ hw258_1)).trans hw258_1), ((HB.out.cell (World.block_lt_of_cell? w _ hw258_2)).trans hw258_2), ((HB.out.cell (World.block_lt_of_cell? w _ hw258_3)).trans hw258_3)⟩ (fun hHeld => ?_)
          clear hK K; refine norm_ (a' := ?_) ?_ ?_
          rotate_left
          ·
           show Act.put _ (some 24) _ = _
           simp only [Act.put, List.setIfInBounds_toArray, List.set_cons_zero, List.set_cons_succ, i64_w, i32_w]; rfl
          refine pure_ (i := 5) (N := some 25) (v := ?_) (a' := ?_) #[true, true, true, true, true, true, false, false, false, false, false, false, false, false, false, false, false, false, false, false, false, false, false, false, false, false, false, false] rfl rfl (any_of HT_.out zz49) (fun _ _ _ h => h) (Or.inl ⟨by rfl, ?_⟩) ?_ ?_
          rotate_left
          ·
           intro w'
           go_simp
           with_reducible rfl
          rotate_left
          ·
           simp only [Act.put, List.setIfInBounds_toArray, List.set_cons_zero, List.set_cons_succ, i64_w, i32_w]; rfl
          refine pure_ (i := 6) (N := some 26) (v := ?_) (a' := ?_) #[true, true, true, true, true, true, true, false, false, false, false, false, false, false, false, false, false, false, false, false, false, false, false, false, false, false, false, false] rfl rfl (any_of HT_.out zz49) (fun _ _ _ h => h) (Or.inl ⟨by rfl, ?_⟩) ?_ ?_
          rotate_left
          ·
           intro w'
           go_simp
           with_reducible rfl
          rotate_left
          ·
           simp only [Act.put, List.setIfInBounds_toArray, List.set_cons_zero, List.set_cons_succ, i64_w, i32_w]; rfl
          refine pure_ (i := 7) (N := some 27) (v := ?_) (a' := ?_) #[true, true, true, true, true, true, true, true, false, false, false, false, false, false, false, false, false, false, false, false, false, false, false, false, false, false, false, false] rfl rfl (any_of HT_.out zz49) (fun _ _ _ h => h) (Or.inl ⟨by rfl, ?_⟩) ?_ ?_
          rotate_left
          ·
           intro w'
           go_simp
           with_reducible rfl
          rotate_left
          ·
           simp only [Act.put, List.setIfInBounds_toArray, List.set_cons_zero, List.set_cons_succ, i64_w, i32_w]; rfl
          refine pure_ (i := 8) (N := some 28) (v := ?_) (a' := ?_) #[true, true, true, true, true, true, true, true, true, false, false, false, false, false, false, false, false, false, false, false, false, false, false, false, false, false, false, false] rfl rfl (any_of HT_.out zz49) (fun _ _ _ h => h) (Or.inl ⟨by rfl, ?_⟩) ?_ ?_
          rotate_left
          ·
           intro w'
           go_simp
           with_reducible rfl
          rotate_left
          ·
           simp only [Act.put, List.setIfInBounds_toArray, List.set_cons_zero, List.set_cons_succ, i64_w, i32_w]; rfl
          refine pure_ (i := 9) (N := some 29) (v := ?_) (a' := ?_) #[true, true, true, true, true, true, true, true, true, true, false, false, false, false, false, false, false, false, false, false, false, false, false, false, false, false, false, false] rfl rfl (any_of HT_.out zz49) (fun _ _ _ h => h) (Or.inl ⟨by rfl, ?_⟩) ?_ ?_
          rotate_left
          ·
           intro w'
           go_simp
           with_reducible rfl
          rotate_left
          ·
           simp only [Act.put, List.setIfInBounds_toArray, List.set_cons_zero, List.set_cons_succ, i64_w, i32_w]; rfl
          refine pure_ (i := 10) (N := some 30) (v := ?_) (a' := ?_) #[true, true, true, true, true, true, true, true, true, true, true, false, false, false, false, false, false, false, false, false, false, false, false, false, false, false, false, false] rfl rfl (any_of HT_.out zz49) (fun _ _ _ h => h) (Or.inl ⟨by rfl, ?_⟩) ?_ ?_
          rotate_left
          ·
           intro w'
           go_simp
           with_reducible rfl
          rotate_left
          ·
           simp only [Act.put, List.setIfInBounds_toArray, List.set_cons_zero, List.set_cons_succ, i64_w, i32_w]; rfl
          refine pure_ (i := 11) (N := some 31) (v := ?_) (a' := ?_) #[true, true, true, true, true, true, true, true, true, true, true, true, false, false, false, false, false, false, false, false, false, false, false, false, false, false, false, false] rfl rfl (any_of HT_.out zz49) (fun _ _ _ h => h) (Or.inl ⟨by rfl, ?_⟩) ?_ ?_
          rotate_left
          ·
           intro w'
           go_simp
           with_reducible rfl
          rotate_left
          ·
           simp only [Act.put, List.setIfInBounds_toArray, List.set_cons_zero, List.set_cons_succ, i64_w, i32_w]; rfl
          refine take_ (i := 12) (N := some 32) (v := ?_) (a' := ?_) #[true, true, true, true, true, true, true, true, true, true, true, true, true, false, false, false, false, false, false, false, false, false, false, false, false, false, false, false] rfl rfl (take_ofW HT_.out HW_.out zz49) (fun _ _ _ h => h) (Or.inl ⟨by rfl, ?_⟩) hHeld ?_ ?_
          rotate_left
          ·
           rintro w' ⟨s0, s1, s2, s3, s4, s5, s6, s7⟩
           go_simp
           with_reducible rfl
          rotate_left
          ·
           simp only [Act.put, List.setIfInBounds_toArray, List.set_cons_zero, List.set_cons_succ, i64_w, i32_w]; rfl
          refine one_ (i := 13) (N := some 33) #[true, true, true, true, true, true, true, true, true, true, true, true, true, true, false, false, false, false, false, false, false, false, false, false, false, false, false, false] rfl rfl (one_of HT_.out zz49) (by decide) (fun K hK => ?_)
          refine goes_ Tryd.func31 zz49 rfl #[.int .i64 a0, .int .i64 ((rd_T42 l1 x5_2).f0)] (by rfl) rfl rfl zz20 ?_
          with_reducible refine (fairwayref4_stands.calls k2 a0 ((rd_T42 l1 x5_2).f0) false _ A11.out).mono ?_
          rintro e w27 ⟨rfl, hb⟩
          refine ⟨_, rfl, ?_⟩
          have n0_ := Aside0.mk (below_step zz21 hb); clear HB; have HB := n0_; clear n0_; (try clear hb)
          (try clear hb2)
          (try clear hk)
          (try clear hi)
          refine hK.out _ _ ⟨((HB.out.cell (World.block_lt_of_cell? w _ hw256_0)).trans hw256_0), ((HB.out.cell (World.block_lt_of_cell? w _ hw256_1)).trans hw256_1), ((HB.out.cell (World.block_lt_of_cell? w _ hw256_2)).trans hw256_2), ((HB.out.cell (World.block_lt_of_cell? w _ hw256_3)).trans hw256_3), ((HB.out.cell (World.block_lt_of_cell? w _ hw258_0)).trans hw258_0), ((HB.out.cell (World.block_lt_of_cell? w _ hw258_1)).trans hw258_1), ((HB.out.cell (World.block_lt_of_cell? w _ hw258_2)).trans hw258_2), ((HB.out.cell (World.block_lt_of_cell? w _ hw258_3)).trans hw258_3)⟩ (fun hHeld => ?_)
          clear hK K; refine norm_ (a' := ?_) ?_ ?_
          rotate_left
          ·
           show Act.put _ (some 33) _ = _
           simp only [Act.put, List.setIfInBounds_toArray, List.set_cons_zero, List.set_cons_succ, i64_w, i32_w]; rfl
          refine pure_ (i := 14) (N := some 34) (v := ?_) (a' := ?_) #[true, true, true, true, true, true, true, true, true, true, true, true, true, true, true, false, false, false, false, false, false, false, false, false, false, false, false, false] rfl rfl (any_of HT_.out zz49) (fun _ _ _ h => h) (Or.inl ⟨by rfl, ?_⟩) ?_ ?_
          rotate_left
          ·
           intro w'
           go_simp
           with_reducible rfl
          rotate_left
          ·
           simp only [Act.put, List.setIfInBounds_toArray, List.set_cons_zero, List.set_cons_succ, i64_w, i32_w]; rfl
          refine pure_ (i := 15) (N := some 35) (v := ?_) (a' := ?_) #[true, true, true, true, true, true, true, true, true, true, true, true, true, true, true, true, false, false, false, false, false, false, false, false, false, false, false, false] rfl rfl (any_of HT_.out zz49) (fun _ _ _ h => h) (Or.inl ⟨by rfl, ?_⟩) ?_ ?_
          rotate_left
          ·
           intro w'
           go_simp
           with_reducible rfl
          rotate_left
          ·
           simp only [Act.put, List.setIfInBounds_toArray, List.set_cons_zero, List.set_cons_succ, i64_w, i32_w]; rfl
          refine pure_ (i := 16) (N := some 36) (v := ?_) (a' := ?_) #[true, true, true, true, true, true, true, true, true, true, true, true, true, true, true, true, true, false, false, false, false, false, false, false, false, false, false, false] rfl rfl (any_of HT_.out zz49) (fun _ _ _ h => h) (Or.inl ⟨by rfl, ?_⟩) ?_ ?_
          rotate_left
          ·
           intro w'
           go_simp
           with_reducible rfl
          rotate_left
          ·
           simp only [Act.put, List.setIfInBounds_toArray, List.set_cons_zero, List.set_cons_succ, i64_w, i32_w]; rfl
          refine pure_ (i := 17) (N := some 37) (v := undef) (a' := ?_) #[true, true, true, true, true, true, true, true, true, true, true, true, true, true, true, true, true, true, false, false, false, false, false, false, false, false, false, false] rfl rfl (any_of HT_.out zz49) (fun _ _ _ h => h) (Or.inr ⟨by rfl, rfl⟩) ?_ ?_
          rotate_left
          ·
           simp only [Act.put, List.setIfInBounds_toArray, List.set_cons_zero, List.set_cons_succ, i64_w, i32_w]; rfl
          refine pure_ (i := 18) (N := some 38) (v := undef) (a' := ?_) #[true, true, true, true, true, true, true, true, true, true, true, true, true, true, true, true, true, true, true, false, false, false, false, false, false, false, false, false] rfl rfl (any_of HT_.out zz49) (fun _ _ _ h => h) (Or.inr ⟨by rfl, rfl⟩) ?_ ?_
          rotate_left
          ·
           simp only [Act.put, List.setIfInBounds_toArray, List.set_cons_zero, List.set_cons_succ, i64_w, i32_w]; rfl
          refine pure_ (i := 19) (N := some 39) (v := undef) (a' := ?_) #[true, true, true, true, true, true, true, true, true, true, true, true, true, true, true, true, true, true, true, true, false, false, false, false, false, false, false, false] rfl rfl (any_of HT_.out zz49) (fun _ _ _ h => h) (Or.inr ⟨by rfl, rfl⟩) ?_ ?_
          rotate_left
          ·
           simp only [Act.put, List.setIfInBounds_toArray, List.set_cons_zero, List.set_cons_succ, i64_w, i32_w]; rfl
          refine pure_ (i := 20) (N := some 40) (v := undef) (a' := ?_) #[true, true, true, true, true, true, true, true, true, true, true, true, true, true, true, true, true, true, true, true, true, false, false, false, false, false, false, false] rfl rfl (any_of HT_.out zz49) (fun _ _ _ h => h) (Or.inr ⟨by rfl, rfl⟩) ?_ ?_
          rotate_left
          ·
           simp only [Act.put, List.setIfInBounds_toArray, List.set_cons_zero, List.set_cons_succ, i64_w, i32_w]; rfl
          refine pure_ (i := 21) (N := some 41) (v := undef) (a' := ?_) #[true, true, true, true, true, true, true, true, true, true, true, true, true, true, true, true, true, true, true, true, true, true, false, false, false, false, false, false] rfl rfl (any_of HT_.out zz49) (fun _ _ _ h => h) (Or.inr ⟨by rfl, rfl⟩) ?_ ?_
          rotate_left
          ·
           simp only [Act.put, List.setIfInBounds_toArray, List.set_cons_zero, List.set_cons_succ, i64_w, i32_w]; rfl
          refine pure_ (i := 22) (N := some 42) (v := undef) (a' := ?_) #[true, true, true, true, true, true, true, true, true, true, true, true, true, true, true, true, true, true, true, true, true, true, true, false, false, false, false, false] rfl rfl (any_of HT_.out zz49) (fun _ _ _ h => h) (Or.inr ⟨by rfl, rfl⟩) ?_ ?_
          rotate_left
          ·
           simp only [Act.put, List.setIfInBounds_toArray, List.set_cons_zero, List.set_cons_succ, i64_w, i32_w]; rfl
          refine pure_ (i := 23) (N := some 43) (v := undef) (a' := ?_) #[true, true, true, true, true, true, true, true, true, true, true, true, true, true, true, true, true, true, true, true, true, true, true, true, false, false, false, false] rfl rfl (any_of HT_.out zz49) (fun _ _ _ h => h) (Or.inr ⟨by rfl, rfl⟩) ?_ ?_
          rotate_left
          ·
           simp only [Act.put, List.setIfInBounds_toArray, List.set_cons_zero, List.set_cons_succ, i64_w, i32_w]; rfl
          refine pure_ (i := 24) (N := some 44) (v := undef) (a' := ?_) #[true, true, true, true, true, true, true, true, true, true, true, true, true, true, true, true, true, true, true, true, true, true, true, true, true, false, false, false] rfl rfl (any_of HT_.out zz49) (fun _ _ _ h => h) (Or.inr ⟨by rfl, rfl⟩) ?_ ?_
          rotate_left
          ·
           simp only [Act.put, List.setIfInBounds_toArray, List.set_cons_zero, List.set_cons_succ, i64_w, i32_w]; rfl
          refine pure_ (i := 25) (N := some 45) (v := undef) (a' := ?_) #[true, true, true, true, true, true, true, true, true, true, true, true, true, true, true, true, true, true, true, true, true, true, true, true, true, true, false, false] rfl rfl (any_of HT_.out zz49) (fun _ _ _ h => h) (Or.inr ⟨by rfl, rfl⟩) ?_ ?_
          rotate_left
          ·
           simp only [Act.put, List.setIfInBounds_toArray, List.set_cons_zero, List.set_cons_succ, i64_w, i32_w]; rfl
          refine pure_ (i := 26) (N := some 46) (v := undef) (a' := ?_) #[true, true, true, true, true, true, true, true, true, true, true, true, true, true, true, true, true, true, true, true, true, true, true, true, true, true, true, false] rfl rfl (any_of HT_.out zz49) (fun _ _ _ h => h) (Or.inr ⟨by rfl, rfl⟩) ?_ ?_
          rotate_left
          ·
           simp only [Act.put, List.setIfInBounds_toArray, List.set_cons_zero, List.set_cons_succ, i64_w, i32_w]; rfl
          refine pure_ (i := 27) (N := some 47) (v := ?_) (a' := ?_) #[true, true, true, true, true, true, true, true, true, true, true, true, true, true, true, true, true, true, true, true, true, true, true, true, true, true, true, true] rfl rfl (any_of HT_.out zz49) (fun _ _ _ h => h) (Or.inl ⟨by rfl, ?_⟩) ?_ ?_
          rotate_left
          ·
           intro w'
           go_simp
           with_reducible rfl
          rotate_left
          ·
           simp only [Act.put, List.setIfInBounds_toArray, List.set_cons_zero, List.set_cons_succ, i64_w, i32_w]; rfl
          refine done_ (done_of HT_.out zz49) ?_
          try go_wp2
          go_ret
          exact ⟨zz40, zz21⟩
         replace c10 := Bool.eq_false_iff.mpr c10; subst c10; have H1 : (some false) = some r := by rw [if_neg (show ¬ (false = true) by decide)] at H; exact H
         clear H; have H := H1; clear H1; obtain rfl := Option.some.inj H; try go_wp2
         have n0_ := Aside0.mk (below_drew1 HB.out); clear HB; have HB := n0_; clear n0_; have p256 : 0 ≤ (x5_2 : Int) := of_decide_eq_true zz46; have q256 : x5_2 < (l1.length : Int) := of_decide_eq_true zz46; obtain ⟨ad256, e256, hx256_0, hx256_1, hx256_2, hx256_3⟩ := at_T42 HR1.out x5_2 p256 q256; have hw256_3 := hx256_3; have hw256_2 := hx256_2; have hw256_1 := hx256_1; have hw256_0 := hx256_0; cases e256; replace hx256_0 := (HB.out.cell (World.block_lt_of_cell? w _ hx256_0)).trans hx256_0; replace hx256_1 := (HB.out.cell (World.block_lt_of_cell? w _ hx256_1)).trans hx256_1; replace hx256_2 := (HB.out.cell (World.block_lt_of_cell? w _ hx256_2)).trans hx256_2; replace hx256_3 := (HB.out.cell (World.block_lt_of_cell? w _ hx256_3)).trans hx256_3; replace p256 := eq_true p256; replace q256 := eq_true q256; refine start_ (n := 28) (S := fun w' => w'.cell? (ad256.add ((x5_2).toNat * 4)) = some (.int .i64 ((rd_T42 l1 x5_2).f0)) ∧ w'.cell? ⟨(ad256.add ((x5_2).toNat * 4)).block, (ad256.add ((x5_2).toNat * 4)).off + 1, none⟩ = some (.int .i64 ((rd_T42 l1 x5_2).f1)) ∧ w'.cell? ⟨(ad256.add ((x5_2).toNat * 4)).block, (ad256.add ((x5_2).toNat * 4)).off + 2, none⟩ = some (.string ((rd_T42 l1 x5_2).f2)) ∧ w'.cell? ⟨(ad256.add ((x5_2).toNat * 4)).block, (ad256.add ((x5_2).toNat * 4)).off + 3, none⟩ = some (.string ((rd_T42 l1 x5_2).f3))) (ds := []) #[false, false, false, false, false, false, false, false, false, false, false, false, false, false, false, false, false, false, false, false, false, false, false, false, false, false, false, false] zz49 rfl rfl ⟨((HB.out.cell (World.block_lt_of_cell? w _ hw256_0)).trans hw256_0), ((HB.out.cell (World.block_lt_of_cell? w _ hw256_1)).trans hw256_1), ((HB.out.cell (World.block_lt_of_cell? w _ hw256_2)).trans hw256_2), ((HB.out.cell (World.block_lt_of_cell? w _ hw256_3)).trans hw256_3)⟩ (fun hHeld => ?_); refine with_tabW fairwayref4_Props.tab6 fairwayref4_Props.bits6 (fun HT_ HW_ => ?_)
         generalize wr.drew = w28 at HB hx256_0 hx256_1 hx256_2 hx256_3 hHeld ⊢
         refine pure_ (i := 0) (N := some 20) (v := ?_) (a' := ?_) #[true, false, false, false, false, false, false, false, false, false, false, false, false, false, false, false, false, false, false, false, false, false, false, false, false, false, false, false] rfl rfl (any_of HT_.out zz49) (fun _ _ _ h => h) (Or.inl ⟨by rfl, ?_⟩) ?_ ?_
         rotate_left
         ·
          intro w'
          go_simp
          with_reducible rfl
         rotate_left
         ·
          simp only [Act.put, List.setIfInBounds_toArray, List.set_cons_zero, List.set_cons_succ, i64_w, i32_w]; rfl
         refine pure_ (i := 1) (N := some 21) (v := ?_) (a' := ?_) #[true, true, false, false, false, false, false, false, false, false, false, false, false, false, false, false, false, false, false, false, false, false, false, false, false, false, false, false] rfl rfl (any_of HT_.out zz49) (fun _ _ _ h => h) (Or.inl ⟨by rfl, ?_⟩) ?_ ?_
         rotate_left
         ·
          intro w'
          go_simp
          with_reducible rfl
         rotate_left
         ·
          simp only [Act.put, List.setIfInBounds_toArray, List.set_cons_zero, List.set_cons_succ, i64_w, i32_w]; rfl
         refine pure_ (i := 2) (N := some 22) (v := ?_) (a' := ?_) #[true, true, true, false, false, false, false, false, false, false, false, false, false, false, false, false, false, false, false, false, false, false, false, false, false, false, false, false] rfl rfl (any_of HT_.out zz49) (fun _ _ _ h => h) (Or.inl ⟨by rfl, ?_⟩) ?_ ?_
         rotate_left
         ·
          intro w'
          go_simp
          with_reducible rfl
         rotate_left
         ·
          simp only [Act.put, List.setIfInBounds_toArray, List.set_cons_zero, List.set_cons_succ, i64_w, i32_w]; rfl
         refine take_ (i := 3) (N := some 23) (v := ?_) (a' := ?_) #[true, true, true, true, false, false, false, false, false, false, false, false, false, false, false, false, false, false, false, false, false, false, false, false, false, false, false, false] rfl rfl (take_ofW HT_.out HW_.out zz49) (fun _ _ _ h => h) (Or.inl ⟨by rfl, ?_⟩) hHeld ?_ ?_
         rotate_left
         ·
          rintro w' ⟨s0, s1, s2, s3⟩
          go_simp
          with_reducible rfl
         rotate_left
         ·
          simp only [Act.put, List.setIfInBounds_toArray, List.set_cons_zero, List.set_cons_succ, i64_w, i32_w]; rfl
         refine one_ (i := 4) (N := some 24) #[true, true, true, true, true, false, false, false, false, false, false, false, false, false, false, false, false, false, false, false, false, false, false, false, false, false, false, false] rfl rfl (one_of HT_.out zz49) (by decide) (fun K hK => ?_)
         refine goes_ Tryd.func30 zz49 rfl #[.agg #[.int .i64 ((rd_T42 l1 x5_2).f0), .int .i64 ((rd_T42 l1 x5_2).f1), .string ((rd_T42 l1 x5_2).f2), .string ((rd_T42 l1 x5_2).f3)]] (by rfl) rfl rfl zz20 ?_
         with_reducible refine (fairwayref4_fits.calls k2 ((rd_T42 l1 x5_2).f0) ((rd_T42 l1 x5_2).f1) ((rd_T42 l1 x5_2).f2) ((rd_T42 l1 x5_2).f3) false _ A9.out).mono ?_
         rintro e w29 ⟨rfl, hb⟩
         refine ⟨_, rfl, ?_⟩
         have n0_ := Aside0.mk (below_step zz21 hb); clear HB; have HB := n0_; clear n0_; (try clear hb)
         (try clear hb2)
         (try clear hk)
         (try clear hi)
         refine hK.out _ _ ⟨((HB.out.cell (World.block_lt_of_cell? w _ hw256_0)).trans hw256_0), ((HB.out.cell (World.block_lt_of_cell? w _ hw256_1)).trans hw256_1), ((HB.out.cell (World.block_lt_of_cell? w _ hw256_2)).trans hw256_2), ((HB.out.cell (World.block_lt_of_cell? w _ hw256_3)).trans hw256_3)⟩ (fun hHeld => ?_)
         clear hK K; refine norm_ (a' := ?_) ?_ ?_
         rotate_left
         ·
          show Act.put _ (some 24) _ = _
          simp only [Act.put, List.setIfInBounds_toArray, List.set_cons_zero, List.set_cons_succ, i64_w, i32_w]; rfl
         refine pure_ (i := 5) (N := some 25) (v := ?_) (a' := ?_) #[true, true, true, true, true, true, false, false, false, false, false, false, false, false, false, false, false, false, false, false, false, false, false, false, false, false, false, false] rfl rfl (any_of HT_.out zz49) (fun _ _ _ h => h) (Or.inl ⟨by rfl, ?_⟩) ?_ ?_
         rotate_left
         ·
          intro w'
          go_simp
          with_reducible rfl
         rotate_left
         ·
          simp only [Act.put, List.setIfInBounds_toArray, List.set_cons_zero, List.set_cons_succ, i64_w, i32_w]; rfl
         refine pure_ (i := 6) (N := some 26) (v := ?_) (a' := ?_) #[true, true, true, true, true, true, true, false, false, false, false, false, false, false, false, false, false, false, false, false, false, false, false, false, false, false, false, false] rfl rfl (any_of HT_.out zz49) (fun _ _ _ h => h) (Or.inl ⟨by rfl, ?_⟩) ?_ ?_
         rotate_left
         ·
          intro w'
          go_simp
          with_reducible rfl
         rotate_left
         ·
          simp only [Act.put, List.setIfInBounds_toArray, List.set_cons_zero, List.set_cons_succ, i64_w, i32_w]; rfl
         refine pure_ (i := 7) (N := some 27) (v := undef) (a' := ?_) #[true, true, true, true, true, true, true, true, false, false, false, false, false, false, false, false, false, false, false, false, false, false, false, false, false, false, false, false] rfl rfl (any_of HT_.out zz49) (fun _ _ _ h => h) (Or.inr ⟨by rfl, rfl⟩) ?_ ?_
         rotate_left
         ·
          simp only [Act.put, List.setIfInBounds_toArray, List.set_cons_zero, List.set_cons_succ, i64_w, i32_w]; rfl
         refine pure_ (i := 8) (N := some 28) (v := undef) (a' := ?_) #[true, true, true, true, true, true, true, true, true, false, false, false, false, false, false, false, false, false, false, false, false, false, false, false, false, false, false, false] rfl rfl (any_of HT_.out zz49) (fun _ _ _ h => h) (Or.inr ⟨by rfl, rfl⟩) ?_ ?_
         rotate_left
         ·
          simp only [Act.put, List.setIfInBounds_toArray, List.set_cons_zero, List.set_cons_succ, i64_w, i32_w]; rfl
         refine pure_ (i := 9) (N := some 29) (v := undef) (a' := ?_) #[true, true, true, true, true, true, true, true, true, true, false, false, false, false, false, false, false, false, false, false, false, false, false, false, false, false, false, false] rfl rfl (any_of HT_.out zz49) (fun _ _ _ h => h) (Or.inr ⟨by rfl, rfl⟩) ?_ ?_
         rotate_left
         ·
          simp only [Act.put, List.setIfInBounds_toArray, List.set_cons_zero, List.set_cons_succ, i64_w, i32_w]; rfl
         refine pure_ (i := 10) (N := some 30) (v := undef) (a' := ?_) #[true, true, true, true, true, true, true, true, true, true, true, false, false, false, false, false, false, false, false, false, false, false, false, false, false, false, false, false] rfl rfl (any_of HT_.out zz49) (fun _ _ _ h => h) (Or.inr ⟨by rfl, rfl⟩) ?_ ?_
         rotate_left
         ·
          simp only [Act.put, List.setIfInBounds_toArray, List.set_cons_zero, List.set_cons_succ, i64_w, i32_w]; rfl
         refine pure_ (i := 11) (N := some 31) (v := undef) (a' := ?_) #[true, true, true, true, true, true, true, true, true, true, true, true, false, false, false, false, false, false, false, false, false, false, false, false, false, false, false, false] rfl rfl (any_of HT_.out zz49) (fun _ _ _ h => h) (Or.inr ⟨by rfl, rfl⟩) ?_ ?_
         rotate_left
         ·
          simp only [Act.put, List.setIfInBounds_toArray, List.set_cons_zero, List.set_cons_succ, i64_w, i32_w]; rfl
         refine pure_ (i := 12) (N := some 32) (v := undef) (a' := ?_) #[true, true, true, true, true, true, true, true, true, true, true, true, true, false, false, false, false, false, false, false, false, false, false, false, false, false, false, false] rfl rfl (any_of HT_.out zz49) (fun _ _ _ h => h) (Or.inr ⟨by rfl, rfl⟩) ?_ ?_
         rotate_left
         ·
          simp only [Act.put, List.setIfInBounds_toArray, List.set_cons_zero, List.set_cons_succ, i64_w, i32_w]; rfl
         refine pure_ (i := 13) (N := some 33) (v := undef) (a' := ?_) #[true, true, true, true, true, true, true, true, true, true, true, true, true, true, false, false, false, false, false, false, false, false, false, false, false, false, false, false] rfl rfl (any_of HT_.out zz49) (fun _ _ _ h => h) (Or.inr ⟨by rfl, rfl⟩) ?_ ?_
         rotate_left
         ·
          simp only [Act.put, List.setIfInBounds_toArray, List.set_cons_zero, List.set_cons_succ, i64_w, i32_w]; rfl
         refine pure_ (i := 14) (N := some 34) (v := undef) (a' := ?_) #[true, true, true, true, true, true, true, true, true, true, true, true, true, true, true, false, false, false, false, false, false, false, false, false, false, false, false, false] rfl rfl (any_of HT_.out zz49) (fun _ _ _ h => h) (Or.inr ⟨by rfl, rfl⟩) ?_ ?_
         rotate_left
         ·
          simp only [Act.put, List.setIfInBounds_toArray, List.set_cons_zero, List.set_cons_succ, i64_w, i32_w]; rfl
         refine pure_ (i := 15) (N := some 35) (v := ?_) (a' := ?_) #[true, true, true, true, true, true, true, true, true, true, true, true, true, true, true, true, false, false, false, false, false, false, false, false, false, false, false, false] rfl rfl (any_of HT_.out zz49) (fun _ _ _ h => h) (Or.inl ⟨by rfl, ?_⟩) ?_ ?_
         rotate_left
         ·
          intro w'
          go_simp
          with_reducible rfl
         rotate_left
         ·
          simp only [Act.put, List.setIfInBounds_toArray, List.set_cons_zero, List.set_cons_succ, i64_w, i32_w]; rfl
         refine pure_ (i := 16) (N := some 36) (v := ?_) (a' := ?_) #[true, true, true, true, true, true, true, true, true, true, true, true, true, true, true, true, true, false, false, false, false, false, false, false, false, false, false, false] rfl rfl (any_of HT_.out zz49) (fun _ _ _ h => h) (Or.inl ⟨by rfl, ?_⟩) ?_ ?_
         rotate_left
         ·
          intro w'
          go_simp
          with_reducible rfl
         rotate_left
         ·
          simp only [Act.put, List.setIfInBounds_toArray, List.set_cons_zero, List.set_cons_succ, i64_w, i32_w]; rfl
         refine pure_ (i := 17) (N := some 37) (v := undef) (a' := ?_) #[true, true, true, true, true, true, true, true, true, true, true, true, true, true, true, true, true, true, false, false, false, false, false, false, false, false, false, false] rfl rfl (any_of HT_.out zz49) (fun _ _ _ h => h) (Or.inr ⟨by rfl, rfl⟩) ?_ ?_
         rotate_left
         ·
          simp only [Act.put, List.setIfInBounds_toArray, List.set_cons_zero, List.set_cons_succ, i64_w, i32_w]; rfl
         refine pure_ (i := 18) (N := some 38) (v := undef) (a' := ?_) #[true, true, true, true, true, true, true, true, true, true, true, true, true, true, true, true, true, true, true, false, false, false, false, false, false, false, false, false] rfl rfl (any_of HT_.out zz49) (fun _ _ _ h => h) (Or.inr ⟨by rfl, rfl⟩) ?_ ?_
         rotate_left
         ·
          simp only [Act.put, List.setIfInBounds_toArray, List.set_cons_zero, List.set_cons_succ, i64_w, i32_w]; rfl
         refine pure_ (i := 19) (N := some 39) (v := undef) (a' := ?_) #[true, true, true, true, true, true, true, true, true, true, true, true, true, true, true, true, true, true, true, true, false, false, false, false, false, false, false, false] rfl rfl (any_of HT_.out zz49) (fun _ _ _ h => h) (Or.inr ⟨by rfl, rfl⟩) ?_ ?_
         rotate_left
         ·
          simp only [Act.put, List.setIfInBounds_toArray, List.set_cons_zero, List.set_cons_succ, i64_w, i32_w]; rfl
         refine pure_ (i := 20) (N := some 40) (v := undef) (a' := ?_) #[true, true, true, true, true, true, true, true, true, true, true, true, true, true, true, true, true, true, true, true, true, false, false, false, false, false, false, false] rfl rfl (any_of HT_.out zz49) (fun _ _ _ h => h) (Or.inr ⟨by rfl, rfl⟩) ?_ ?_
         rotate_left
         ·
          simp only [Act.put, List.setIfInBounds_toArray, List.set_cons_zero, List.set_cons_succ, i64_w, i32_w]; rfl
         refine pure_ (i := 21) (N := some 41) (v := undef) (a' := ?_) #[true, true, true, true, true, true, true, true, true, true, true, true, true, true, true, true, true, true, true, true, true, true, false, false, false, false, false, false] rfl rfl (any_of HT_.out zz49) (fun _ _ _ h => h) (Or.inr ⟨by rfl, rfl⟩) ?_ ?_
         rotate_left
         ·
          simp only [Act.put, List.setIfInBounds_toArray, List.set_cons_zero, List.set_cons_succ, i64_w, i32_w]; rfl
         refine pure_ (i := 22) (N := some 42) (v := undef) (a' := ?_) #[true, true, true, true, true, true, true, true, true, true, true, true, true, true, true, true, true, true, true, true, true, true, true, false, false, false, false, false] rfl rfl (any_of HT_.out zz49) (fun _ _ _ h => h) (Or.inr ⟨by rfl, rfl⟩) ?_ ?_
         rotate_left
         ·
          simp only [Act.put, List.setIfInBounds_toArray, List.set_cons_zero, List.set_cons_succ, i64_w, i32_w]; rfl
         refine pure_ (i := 23) (N := some 43) (v := undef) (a' := ?_) #[true, true, true, true, true, true, true, true, true, true, true, true, true, true, true, true, true, true, true, true, true, true, true, true, false, false, false, false] rfl rfl (any_of HT_.out zz49) (fun _ _ _ h => h) (Or.inr ⟨by rfl, rfl⟩) ?_ ?_
         rotate_left
         ·
          simp only [Act.put, List.setIfInBounds_toArray, List.set_cons_zero, List.set_cons_succ, i64_w, i32_w]; rfl
         refine pure_ (i := 24) (N := some 44) (v := undef) (a' := ?_) #[true, true, true, true, true, true, true, true, true, true, true, true, true, true, true, true, true, true, true, true, true, true, true, true, true, false, false, false] rfl rfl (any_of HT_.out zz49) (fun _ _ _ h => h) (Or.inr ⟨by rfl, rfl⟩) ?_ ?_
         rotate_left
         ·
          simp only [Act.put, List.setIfInBounds_toArray, List.set_cons_zero, List.set_cons_succ, i64_w, i32_w]; rfl
         refine pure_ (i := 25) (N := some 45) (v := undef) (a' := ?_) #[true, true, true, true, true, true, true, true, true, true, true, true, true, true, true, true, true, true, true, true, true, true, true, true, true, true, false, false] rfl rfl (any_of HT_.out zz49) (fun _ _ _ h => h) (Or.inr ⟨by rfl, rfl⟩) ?_ ?_
         rotate_left
         ·
          simp only [Act.put, List.setIfInBounds_toArray, List.set_cons_zero, List.set_cons_succ, i64_w, i32_w]; rfl
         refine pure_ (i := 26) (N := some 46) (v := undef) (a' := ?_) #[true, true, true, true, true, true, true, true, true, true, true, true, true, true, true, true, true, true, true, true, true, true, true, true, true, true, true, false] rfl rfl (any_of HT_.out zz49) (fun _ _ _ h => h) (Or.inr ⟨by rfl, rfl⟩) ?_ ?_
         rotate_left
         ·
          simp only [Act.put, List.setIfInBounds_toArray, List.set_cons_zero, List.set_cons_succ, i64_w, i32_w]; rfl
         refine pure_ (i := 27) (N := some 47) (v := ?_) (a' := ?_) #[true, true, true, true, true, true, true, true, true, true, true, true, true, true, true, true, true, true, true, true, true, true, true, true, true, true, true, true] rfl rfl (any_of HT_.out zz49) (fun _ _ _ h => h) (Or.inl ⟨by rfl, ?_⟩) ?_ ?_
         rotate_left
         ·
          intro w'
          go_simp
          with_reducible rfl
         rotate_left
         ·
          simp only [Act.put, List.setIfInBounds_toArray, List.set_cons_zero, List.set_cons_succ, i64_w, i32_w]; rfl
         refine done_ (done_of HT_.out zz49) ?_
         try go_wp2
         go_ret
         exact ⟨zz40, zz21⟩
        rw [if_neg c8] at H; exact absurd H (by simp)
       rw [if_neg c7] at H; have c7b0 : decide (x5_2 < (l1.length : Int)) = false := decide_eq_false c7; clear c7; obtain rfl := Option.some.inj H; go_wp2
       go_ret
       exact ⟨zz40, zz21⟩
end Go.Proofs.YtiancopplinpcaaDoor.P
end
section
namespace Go.Proofs.YtiancopplinpcaaDoor.P
open Go.RowKit Go.Proofs.YtiancopplinpcaaDoorW.PrintWords Go.Proofs.YtiancopplinpcaaDoorW.PrintLast Go.Proofs.YtiancopplinpcaaDoorW.PrintMore
attribute [local go_sem] max2_int min2_int max_two min_two max_three min_three max_four min_four
set_option linter.unusedVariables false
set_option linter.unusedSimpArgs false
attribute [local go_sem high] eqA42
def prop_Check.f (k : Nat) (a0 : Int) (l1 : List (S42)) : Option (Int) := (prop_lay.f k a0 l1).bind fun bt291 => (if bt291.2 = true then (some 0) else (some 1))
def fairwayref0_EqProps.l0 : Nat → List (S42) → List (S42) → Int → Option (Bool)
  | 0, _, _, _ => none
  | k + 1, x0, x1, x5 => if x5 < (x0.length : Int) then (if 0 ≤ x5 then (if x5 < (x1.length : Int) then (if (!(((rd_T42 x0 x5).f0) == ((rd_T42 x1 x5).f0)) || (!(((rd_T42 x0 x5).f1) == ((rd_T42 x1 x5).f1)) || (!((((rd_T42 x0 x5).f2).toList) == (((rd_T42 x1 x5).f2).toList)) || (!((((rd_T42 x0 x5).f3).toList) == (((rd_T42 x1 x5).f3).toList)))))) = true then (some false) else (fairwayref0_EqProps.l0 k x0 x1 (wrap64 (x5 + 1)))) else (none)) else (none)) else (some true)
def fairwayref0_EqProps.f (k : Nat) (l0 : List (S42)) (l1 : List (S42)) : Option (Bool) := if (l0.length : Int) = (l1.length : Int) then (fairwayref0_EqProps.l0 k l0 l1 0) else (some false)
theorem fairwayref0_EqProps.mono_l : ∀ k, (∀ y0 y1 y2, LeO (fairwayref0_EqProps.l0 k y0 y1 y2) (fairwayref0_EqProps.l0 (k + 1) y0 y1 y2))
 | 0 => fun _ _ _ r h => by simp [fairwayref0_EqProps.l0] at h
 | k + 1 => by
  have ih0 := fairwayref0_EqProps.mono_l k
  ·
   intro y0 y1 y2
   unfold fairwayref0_EqProps.l0; repeat' first
   | (with_reducible exact ih0 _ _ _)
   | (with_reducible exact LeO.refl _)
   | (with_reducible exact LeO.none _)
   | (with_reducible refine LeO.ite ?_ ?_)
   | (with_reducible refine LeO.bind ?_ (fun _ => ?_))
   | exact ih0 _ _ _
   | exact LeO.none _
   | refine LeO.ite ?_ ?_
   | refine LeO.bind ?_ (fun _ => ?_)
theorem fairwayref0_EqProps.mono : ∀ a0 a1 k, LeO (fairwayref0_EqProps.f k a0 a1) (fairwayref0_EqProps.f (k + 1) a0 a1) := by
 intro a0 a1 k
 have ih0 := fairwayref0_EqProps.mono_l k; unfold fairwayref0_EqProps.f; repeat' first
   | (with_reducible exact ih0 _ _ _)
   | (with_reducible exact LeO.refl _)
   | (with_reducible exact LeO.none _)
   | (with_reducible refine LeO.ite ?_ ?_)
   | (with_reducible refine LeO.bind ?_ (fun _ => ?_))
   | exact ih0 _ _ _
   | exact LeO.none _
   | refine LeO.ite ?_ ?_
   | refine LeO.bind ?_ (fun _ => ?_)
set_option maxHeartbeats 8000000 in
set_option maxRecDepth 100000 in
theorem fairwayref0_EqProps.calls (k : Nat) (A0 : Option Addr) (c0 : Nat) (l0 : List (S42)) (A1 : Option Addr) (c1 : Nat) (l1 : List (S42)) (r : Bool) (w : World) (hr0 : Kd.C k42 w A0 l0.length l0) (hc0 : l0.length ≤ c0) (hr1 : Kd.C k42 w A1 l1.length l1) (hc1 : l1.length ≤ c1) (h : fairwayref0_EqProps.f k l0 l1 = some r) :
  Calls Tryd.prog 21 #[.slice A0 l0.length c0, .slice A1 l1.length c1] w fun e w' => e = .returned (.bool r) ∧ Drawn0 w w' := by
 have hu42 := Tryd.underlying42; have HR0 := Aside0.mk hr0; have HC0 := Aside0.mk hc0; clear hr0 hc0; have HR1 := Aside0.mk hr1; have HC1 := Aside0.mk hc1; clear hr1 hc1; have H : (if (l0.length : Int) = (l1.length : Int) then (fairwayref0_EqProps.l0 k l0 l1 0) else (some false)) = some r := h; clear h; by_cases c3 : (l0.length : Int) = (l1.length : Int)
 ·
  rw [if_pos c3] at H; have c3b0 : ((l0.length : Int) == (l1.length : Int)) = true := beq_iff_eq.mpr c3; have c3b1 : ((l0.length : Int) != (l1.length : Int)) = false := bne_eq_false_iff_eq.mpr c3; have c3b2 : (l0.length == l1.length) = true := by first | simpa using c3 | (simp at c3 ⊢; omega)
  clear c3; have H' := Aside0.mk H; clear H; go_enter Tryd.func21, Tryd.ntmps21
  go_wp2
  repeat (go_quiet (fail); try go_wp2)
  go_loopg [5] k (fun kq v5 w' => ∃ (x5_1 : Int), v5 = .int .i64 x5_1 ∧ Aside0 (fairwayref0_EqProps.l0 kq l0 l1 x5_1 = some r) ∧ Aside0 (kq ≤ k) ∧ Drawn0 w w')
  case atStart => exact ⟨(0), zz47, H', ⟨Nat.le_refl _⟩, zz43⟩
  case round =>
   clear H'; (try clear c1); (try clear c2); (try clear p2); (try clear c3); (try clear c3b0); (try clear c3b1); (try clear c3b2); obtain ⟨x5_1, rfl, HA, HK1, ⟨m1, rfl⟩⟩ := hrel; cases gk with
   | zero => exact absurd HA.out (by simp [fairwayref0_EqProps.l0])
   | succ k1 =>
    have H := HA.out; clear HA; simp only [fairwayref0_EqProps.l0] at H; by_cases c4 : x5_1 < (l0.length : Int)
    ·
     rw [if_pos c4] at H; have c4b0 : decide (x5_1 < (l0.length : Int)) = true := decide_eq_true c4; clear c4; by_cases c5 : 0 ≤ x5_1
     ·
      rw [if_pos c5] at H; have c5b0 : decide (0 ≤ x5_1) = true := decide_eq_true c5; clear c5; by_cases c6 : x5_1 < (l1.length : Int)
      ·
       rw [if_pos c6] at H; have c6b0 : decide (x5_1 < (l1.length : Int)) = true := decide_eq_true c6; clear c6; by_cases c7 : (!(((rd_T42 l0 x5_1).f0) == ((rd_T42 l1 x5_1).f0)) || (!(((rd_T42 l0 x5_1).f1) == ((rd_T42 l1 x5_1).f1)) || (!((((rd_T42 l0 x5_1).f2).toList) == (((rd_T42 l1 x5_1).f2).toList)) || (!((((rd_T42 l0 x5_1).f3).toList) == (((rd_T42 l1 x5_1).f3).toList)))))) = true
       ·
        rw [if_pos c7] at H; have c7b0 : (!(((rd_T42 l0 x5_1).f0) == ((rd_T42 l1 x5_1).f0)) || (!(((rd_T42 l0 x5_1).f1) == ((rd_T42 l1 x5_1).f1)) || (!((((rd_T42 l0 x5_1).f2).toList) == (((rd_T42 l1 x5_1).f2).toList)) || (!((((rd_T42 l0 x5_1).f3).toList) == (((rd_T42 l1 x5_1).f3).toList)))))) = true := c7; clear c7; obtain rfl := Option.some.inj H; have p293 : 0 ≤ (x5_1 : Int) := of_decide_eq_true zz46; have q293 : x5_1 < (l0.length : Int) := of_decide_eq_true zz46; obtain ⟨ad293, e293, hx293_0, hx293_1, hx293_2, hx293_3⟩ := at_T42 HR0.out x5_1 p293 q293; cases e293; replace p293 := eq_true p293; replace q293 := eq_true q293; have p294 : 0 ≤ (x5_1 : Int) := of_decide_eq_true zz46; have q294 : x5_1 < (l1.length : Int) := of_decide_eq_true zz46; obtain ⟨ad294, e294, hx294_0, hx294_1, hx294_2, hx294_3⟩ := at_T42 HR1.out x5_1 p294 q294; cases e294; replace p294 := eq_true p294; replace q294 := eq_true q294; go_wp2
        repeat (go_quiet (fail); try go_wp2)
        go_ret
        exact ⟨zz47, zz43⟩
       rw [if_neg c7] at H; have c7b0 : (!(((rd_T42 l0 x5_1).f0) == ((rd_T42 l1 x5_1).f0)) || (!(((rd_T42 l0 x5_1).f1) == ((rd_T42 l1 x5_1).f1)) || (!((((rd_T42 l0 x5_1).f2).toList) == (((rd_T42 l1 x5_1).f2).toList)) || (!((((rd_T42 l0 x5_1).f3).toList) == (((rd_T42 l1 x5_1).f3).toList)))))) = false := by simpa using c7
       clear c7; have H' := Aside0.mk H; clear H; have p293 : 0 ≤ (x5_1 : Int) := of_decide_eq_true zz46; have q293 : x5_1 < (l0.length : Int) := of_decide_eq_true zz46; obtain ⟨ad293, e293, hx293_0, hx293_1, hx293_2, hx293_3⟩ := at_T42 HR0.out x5_1 p293 q293; cases e293; replace p293 := eq_true p293; replace q293 := eq_true q293; have p294 : 0 ≤ (x5_1 : Int) := of_decide_eq_true zz46; have q294 : x5_1 < (l1.length : Int) := of_decide_eq_true zz46; obtain ⟨ad294, e294, hx294_0, hx294_1, hx294_2, hx294_3⟩ := at_T42 HR1.out x5_1 p294 q294; cases e294; replace p294 := eq_true p294; replace q294 := eq_true q294; go_wp2
       repeat (go_quiet (fail); try go_wp2)
       go_roundg k1
       case measure => have := HK1.out; omega
       case rel => exact ⟨(wrap64 (x5_1 + 1)), zz47, H', ⟨by have := HK1.out; omega⟩, zz43⟩
      rw [if_neg c6] at H; exact absurd H (by simp)
     rw [if_neg c5] at H; exact absurd H (by simp)
    rw [if_neg c4] at H; have c4b0 : decide (x5_1 < (l0.length : Int)) = false := decide_eq_false c4; clear c4; obtain rfl := Option.some.inj H; go_wp2
    repeat (go_quiet (fail); try go_wp2)
    go_ret
    exact ⟨zz47, zz43⟩
 rw [if_neg c3] at H; have c3b0 : ((l0.length : Int) == (l1.length : Int)) = false := beq_eq_false_iff_ne.mpr c3; have c3b1 : ((l0.length : Int) != (l1.length : Int)) = true := bne_iff_ne.mpr c3; have c3b2 : (l0.length == l1.length) = false := by first | simpa using c3 | (simp at c3 ⊢; omega)
 obtain rfl := Option.some.inj H; go_enter Tryd.func21, Tryd.ntmps21
 go_wp2
 repeat (go_quiet (fail); try go_wp2)
 go_ret
 exact ⟨zz47, zz43⟩
mutual
def fairwaylaw4_PropBytes.l0 : Nat → List (S25) → Int → Option (Bool)
  | 0, _, _ => none
  | k + 1, x0, x3 => if x3 < (x0.length : Int) then (fairwaylaw4_PropBytes.j1 k x0 x3 (decide (x3 < 10))) else (fairwaylaw4_PropBytes.j1 k x0 x3 false)
def fairwaylaw4_PropBytes.j1 : Nat → List (S25) → Int → Bool → Option (Bool)
  | 0, _, _, _ => none
  | k + 1, x0, x3, x18 => if x18 = true then (if 0 ≤ x3 then (if x3 < (x0.length : Int) then ((fairwaylaw4_heavy.f k ((rd_T25 x0 x3).f0) ((rd_T25 x0 x3).f1) ((rd_T25 x0 x3).f2)).bind fun t298 => (if t298 = true then (some true) else (fairwaylaw4_PropBytes.l1 k x0 x3 (-1) ((rd_T25 x0 x3).f0) ((rd_T25 x0 x3).f1) ((rd_T25 x0 x3).f2)))) else (none)) else (none)) else ((fairwaylaw4_wakes.f k).bind fun t295 => (some t295))
def fairwaylaw4_PropBytes.l1 : Nat → List (S25) → Int → Int → Int → List (S42) → ByteArray → Option (Bool)
  | 0, _, _, _, _, _, _ => none
  | k + 1, x0, x3, x5, x298000, x298001, x298002 => if x5 ≤ 16 then ((fairwayref0_CopyProps.f k x298001).bind fun t299 => ((prop_Bytes.f k x5 t299).bind fun bt302 => ((fairwayref4_Props.f k x5 x298001).bind fun t304 => (if t304 = true then ((fairwayref4_PropBytes.f k x298001).bind fun t305 => (fairwaylaw4_PropBytes.j3 k x0 x3 x5 t299 bt302.1 bt302.2 0 t305 x298000 x298001 x298002)) else (fairwaylaw4_PropBytes.j3 k x0 x3 x5 t299 bt302.1 bt302.2 1 (⟨#[]⟩ : ByteArray) x298000 x298001 x298002))))) else (fairwaylaw4_PropBytes.l0 k x0 (wrap64 (x3 + 1)))
def fairwaylaw4_PropBytes.j3 : Nat → List (S25) → Int → Int → List (S42) → ByteArray → Int → Int → ByteArray → Int → List (S42) → ByteArray → Option (Bool)
  | 0, _, _, _, _, _, _, _, _, _, _, _ => none
  | k + 1, x0, x3, x5, x6, x7, x8, x9, x10, x298000, x298001, x298002 => (prop_Check.f k x5 x6).bind fun t306 => ((fairwaylaw4_num.f t306).bind fun t307 => (if t307 = x9 then ((fairwaylaw4_num.f x8).bind fun t308 => (if t308 = x9 then (if x7.toList = x10.toList then ((fairwayref0_EqProps.f k x6 x298001).bind fun t309 => (if t309 = true then (fairwaylaw4_PropBytes.l1 k x0 x3 (wrap64 (x5 + 1)) x298000 x298001 x298002) else (some false))) else (some false)) else (some false))) else (some false)))
end
def fairwaylaw4_PropBytes.f (k : Nat) (l0 : List (S25)) : Option (Bool) := fairwaylaw4_PropBytes.l0 k l0 0
end Go.Proofs.YtiancopplinpcaaDoor.P
end
section
namespace Go.Proofs.YtiancopplinpcaaDoor.P
open Go.RowKit Go.Proofs.YtiancopplinpcaaDoorW.PrintWords Go.Proofs.YtiancopplinpcaaDoorW.PrintLast Go.Proofs.YtiancopplinpcaaDoorW.PrintMore
set_option linter.unusedSimpArgs false
set_option linter.unusedVariables false
theorem w64 {n : Int} (h0 : -9223372036854775808 ≤ n) (h1 : n ≤ 9223372036854775807) : wrap64 n = n := by unfold wrap64; omega
theorem wraps_i64 (n : Int) (h₀ : 0 ≤ n) (h₁ : n < 2 ^ 63) : IntKind.i64.wrap n = n := by rw [IntKind.wrap_i64]; omega
theorem bt_lo (s : ByteArray) (i : Int) : 0 ≤ bt s i := (bt_range s i).1
theorem bt_hi (s : ByteArray) (i : Int) : bt s i ≤ 255 := (bt_range s i).2
theorem w64bt (s : ByteArray) (i : Int) : wrap64 (bt s i) = bt s i := w64 (by have := bt_lo s i; omega) (by have := bt_hi s i; omega)
theorem and127 {x : Int} (h0 : 0 ≤ x) (h1 : x < 9223372036854775808) : Go.bits .and .i64 x 127 = x % 128 :=
  bits_mask .i64 63 (by decide) wraps_i64 7 (by decide) x h0 (by simpa using h1)
theorem or128 {x : Int} (h0 : 0 ≤ x) (h1 : x < 128) : Go.bits .or .i64 x 128 = x + 128 := by
  obtain ⟨a, rfl⟩ := Int.eq_ofNat_of_zero_le h0
  have h := (bits_nat .i64 63 (by decide) wraps_i64 a 128 (by have : a < 128 := by omega
                                                              exact Nat.lt_of_lt_of_le this (by decide)) (by decide)).2
  have e : a ||| 128 = a + 128 := by
    have : a < 2 ^ 7 := by omega
    rw [Nat.or_comm, show (128 : Nat) = 2 ^ 7 * 1 from rfl, ← Nat.two_pow_add_eq_or_of_lt this 1, Nat.add_comm]
  rw [e] at h
  simpa using h
theorem or_shl {x y : Int} (m : Nat) (hx : 0 ≤ x) (hx1 : x < 2 ^ m) (hy : 0 ≤ y) (hm : y * 2 ^ m + 2 ^ m ≤ 9223372036854775808) : Go.bits .or .i64 x (y * 2 ^ m) = x + y * 2 ^ m := by
  obtain ⟨a, rfl⟩ := Int.eq_ofNat_of_zero_le hx
  obtain ⟨b, rfl⟩ := Int.eq_ofNat_of_zero_le hy
  have ha : a < 2 ^ m := by exact_mod_cast hx1
  have hb : b * 2 ^ m + 2 ^ m ≤ 9223372036854775808 := by
    have e : (((b * 2 ^ m + 2 ^ m : Nat)) : Int) = (b : Int) * 2 ^ m + 2 ^ m := by simp
    omega
  have hp : 0 < 2 ^ m := Nat.two_pow_pos m
  have h := (bits_nat .i64 63 (by decide) wraps_i64 a (b * 2 ^ m) (Nat.lt_of_lt_of_le (by omega) (show 9223372036854775808 ≤ 2 ^ 63 by decide)) (Nat.lt_of_lt_of_le (by omega) (show 9223372036854775808 ≤ 2 ^ 63 by decide))).2
  rw [Nat.or_comm, show b * 2 ^ m = 2 ^ m * b from Nat.mul_comm _ _, ← Nat.two_pow_add_eq_or_of_lt ha b] at h
  have e : ((b : Int) * 2 ^ m) = ((2 ^ m * b : Nat) : Int) := by rw [Nat.mul_comm]; simp
  rw [e, h]
  simp [Int.add_comm]
theorem or_byte {x y : Int} (hx : 0 ≤ x) (hx1 : x < 36028797018963968) (hy : 0 ≤ y) (hy1 : y < 256) : Go.bits .or .i64 (x * 256) y = x * 256 + y :=
  bits_join .i64 63 (by decide) wraps_i64 8 (x * 256) y (by omega) (by omega) (by omega) hy (by omega) (by omega)
def vb (n : Nat) : List Int := if n < 128 then [(n : Int)] else ((n % 128 + 128 : Nat) : Int) :: vb (n / 128)
termination_by n
decreasing_by omega
theorem vb_small {n : Nat} (h : n < 128) : vb n = [(n : Int)] := by rw [vb, if_pos h]
theorem vb_big {n : Nat} (h : 128 ≤ n) : vb n = ((n % 128 + 128 : Nat) : Int) :: vb (n / 128) := by rw [vb, if_neg (by omega)]
theorem num_loop (n : Nat) : ∀ (k : Nat) (acc : List Int), n < k → (acc.length : Int) + n < 140737488355328 → vbi_Num.l0 k (n : Int) acc = some (strOfNums (acc ++ vb n), 0) := by
  induction n using Nat.strongRecOn with
  | _ n ih =>
    intro k acc hk hl
    obtain ⟨k, rfl⟩ : ∃ m, k = m + 1 := ⟨k - 1, by omega⟩
    simp only [vbi_Num.l0]
    rw [if_pos (show acc.length < 140737488355328 by omega)]
    by_cases h : n < 128
    · rw [if_neg (by omega), vb_small h, if_pos (by omega)]
      rw [show (n : Int) % 256 = n by omega]
    · have e : (Go.bits .or .i64 (Go.bits .and .i64 (n : Int) 127) 128) % 256 = ((n % 128 + 128 : Nat) : Int) := by
        rw [and127 (by omega) (by omega), or128 (by omega) (by omega)]; omega
      rw [if_pos (by omega), vb_big (by omega), e, show (n : Int) / 128 = ((n / 128 : Nat) : Int) by omega]
      rw [ih (n / 128) (by omega) k _ (by omega) (by simp; omega)]
      simp
theorem ref_num_loop (n : Nat) (hn : n ≤ 9223372036854775807) : ∀ (k : Nat) (acc : List Int), n < k → (acc.length : Int) + n < 140737488355328 → fairwayref1_Num.l0 k (n : Int) acc = some (strOfNums (acc ++ vb n)) := by
  induction n using Nat.strongRecOn with
  | _ n ih =>
    intro k acc hk hl
    obtain ⟨k, rfl⟩ : ∃ m, k = m + 1 := ⟨k - 1, by omega⟩
    simp only [fairwayref1_Num.l0]
    rw [if_pos (show acc.length < 140737488355328 by omega)]
    by_cases h : n < 128
    · rw [if_neg (by omega), vb_small h, if_pos (by omega)]
      rw [show (n : Int) % 256 = n by omega]
    · have e1 : wrap64 (Int.tdiv (n : Int) 128) = ((n / 128 : Nat) : Int) := by
        rw [Int.tdiv_eq_ediv_of_nonneg (by omega)]; unfold wrap64; omega
      have e2 : (wrap64 ((Int.tmod (n : Int) 128) + 128)) % 256 = ((n % 128 + 128 : Nat) : Int) := by
        rw [Int.tmod_eq_emod_of_nonneg (by omega)]; unfold wrap64; omega
      rw [if_pos (by omega), vb_big (by omega), e1, e2]
      rw [ih (n / 128) (by omega) (by omega) k _ (by omega) (by simp; omega)]
      simp
def numOf (n : Int) : ByteArray := strOfNums (vb n.toNat)
theorem num_ok {n : Int} (h0 : 0 ≤ n) (h1 : n ≤ 268435455) : Ev (fun k => vbi_Num.f k n) (numOf n, 0) := by
  refine ⟨n.toNat + 3, fun k hk => ?_⟩
  obtain ⟨k, rfl⟩ : ∃ m, k = m + 1 := ⟨k - 1, by omega⟩
  obtain ⟨m, rfl⟩ := Int.eq_ofNat_of_zero_le h0
  dsimp only
  unfold vbi_Num.f
  rw [if_neg (by omega)]
  simp only [vbi_Num.j0]
  rw [if_neg (by simp; omega), num_loop m k [] (by omega) (by simp; omega)]
  rfl
theorem num_no {n : Int} (h : n < 0 ∨ 268435455 < n) : Ev (fun k => vbi_Num.f k n) ((⟨#[]⟩ : ByteArray), 2) := by
  refine ⟨1, fun k hk => ?_⟩
  obtain ⟨k, rfl⟩ : ∃ m, k = m + 1 := ⟨k - 1, by omega⟩
  dsimp only
  unfold vbi_Num.f
  rcases h with h | h
  · rw [if_pos h]; rfl
  · rw [if_neg (by omega)]
    simp only [vbi_Num.j0]
    rw [if_pos (by simp; omega)]
theorem ref_num_ok {n : Int} (h0 : 0 ≤ n) (h1 : n ≤ 1000000000) : Ev (fun k => fairwayref1_Num.f k n) (numOf n) := by
  refine ⟨n.toNat + 3, fun k hk => ?_⟩
  obtain ⟨m, rfl⟩ := Int.eq_ofNat_of_zero_le h0
  dsimp only
  unfold fairwayref1_Num.f
  rw [ref_num_loop m (by omega) k [] (by omega) (by simp; omega)]
  rfl
def tk (s : ByteArray) : Nat → Nat → Int → Int × Int × Int
  | 0, _, _ => (0, 0, 8)
  | d + 1, i, n => if s.size ≤ i then (0, 0, 7) else if 128 ≤ bt s i then tk s d (i + 1) (n + bt s i % 128 * 2 ^ (7 * i)) else if bt s i = 0 ∧ 0 < i then (0, 0, 8) else (n + bt s i % 128 * 2 ^ (7 * i), ((i + 1 : Nat) : Int), 0)
def tkn (s : ByteArray) : Int × Int × Int := tk s 4 0 0
theorem w7 (i : Nat) (hi : i < 4) : wrap64 (7 * (i : Int)) = ((7 * i : Nat) : Int) := by unfold wrap64; omega
theorem tk_step (i : Nat) (hi : i < 4) (n : Int) (h0 : 0 ≤ n) (h1 : n < 2 ^ (7 * i)) (c : Int) (hc0 : 0 ≤ c) (hc1 : c < 128) :
    Go.bits .or .i64 n (shl .i64 c (wrap64 (7 * (i : Int)))) = n + c * 2 ^ (7 * i) ∧ 0 ≤ n + c * 2 ^ (7 * i) ∧ n + c * 2 ^ (7 * i) < 2 ^ (7 * (i + 1)) := by
  have hw := w7 i hi
  have hs : shl .i64 c (wrap64 (7 * (i : Int))) = c * 2 ^ (7 * i) := by
    unfold shl
    rw [hw, Int.toNat_natCast, Nat.min_eq_left (by simp [IntKind.bits]; omega)]
    refine wraps_i64 _ ?_ ?_
    · exact Int.mul_nonneg hc0 (Int.pow_nonneg (by decide))
    · rcases (show i = 0 ∨ i = 1 ∨ i = 2 ∨ i = 3 by omega) with rfl | rfl | rfl | rfl <;> omega
  rw [hs]
  rcases (show i = 0 ∨ i = 1 ∨ i = 2 ∨ i = 3 by omega) with rfl | rfl | rfl | rfl
  all_goals refine ⟨or_shl _ h0 h1 hc0 (by omega), by omega, by omega⟩
theorem take_loop (s : ByteArray) (d : Nat) : ∀ (i : Nat) (n : Int) (k : Nat), i + d = 4 → 0 < d → 0 ≤ n → n < 2 ^ (7 * i) → 3 * d < k → vbi_TakeNum.l0 k s n (i : Int) = some (tk s d i n) := by
  induction d with
  | zero => intro i n k _ h; omega
  | succ d ih =>
    intro i n k hid _ h0 h1 hk
    obtain ⟨k, rfl⟩ : ∃ m, k = m + 3 := ⟨k - 3, by omega⟩
    have hb0 := bt_lo s i; have hb1 := bt_hi s i
    simp only [vbi_TakeNum.l0, tk]
    by_cases hs : s.size ≤ i
    · rw [if_neg (by omega), if_pos hs]
    · rw [if_pos (by omega), if_pos (by omega), if_pos (by rw [w7 i (by omega)]; exact Int.natCast_nonneg _), if_neg hs, w64bt, and127 hb0 (by omega)]
      obtain ⟨hv, hv0, hv1⟩ := tk_step i (by omega) n h0 h1 (bt s i % 128) (by omega) (by omega)
      rw [hv, w64 (n := (i : Int) + 1) (by omega) (by omega)]
      by_cases hc : 128 ≤ bt s i
      · rw [if_pos (by omega), if_pos hc]
        simp only [vbi_TakeNum.j1]
        by_cases h4 : (i : Int) + 1 = 4
        · have : d = 0 := by omega
          subst this
          rw [if_pos (by simp [h4])]
          simp only [vbi_TakeNum.j2]
          rw [if_pos (by simp [h4])]
          rfl
        · rw [if_neg (by simp [h4]), if_neg (by omega)]
          simp only [vbi_TakeNum.j2]
          rw [if_neg (by simp), if_neg (by omega)]
          exact ih (i + 1) _ k (by omega) (by omega) hv0 hv1 (by omega)
      · rw [if_neg (by omega), if_neg hc]
        simp only [vbi_TakeNum.j1]
        rw [if_neg (by simp)]
        by_cases hz : bt s i = 0
        · rw [if_pos hz]
          simp only [vbi_TakeNum.j2]
          by_cases hp : 0 < i
          · rw [if_pos (by simp; omega), if_pos ⟨hz, hp⟩]
          · rw [if_neg (by simp; omega), if_pos (by omega), if_neg (by omega)]
            rfl
        · rw [if_neg hz]
          simp only [vbi_TakeNum.j2]
          rw [if_neg (by simp), if_pos (by omega), if_neg (by omega)]
          rfl
theorem take_ev (s : ByteArray) : Ev (fun k => vbi_TakeNum.f k s) (tkn s) :=
  ⟨20, fun k hk => take_loop s 4 0 0 k rfl (by decide) (by decide) (by decide) (by omega)⟩
theorem ref_take_loop (s : ByteArray) (d : Nat) : ∀ (i : Nat) (n : Int) (k : Nat), i + d = 4 → 0 ≤ n → n < 2 ^ (7 * i) → d < k → fairwayref1_TakeNum.l0 k s n (i : Int) = some (tk s d i n) := by
  induction d with
  | zero =>
    intro i n k hid _ _ hk
    obtain ⟨k, rfl⟩ : ∃ m, k = m + 1 := ⟨k - 1, by omega⟩
    simp only [fairwayref1_TakeNum.l0, tk]
    rw [if_neg (by omega)]
  | succ d ih =>
    intro i n k hid h0 h1 hk
    obtain ⟨k, rfl⟩ : ∃ m, k = m + 1 := ⟨k - 1, by omega⟩
    have hb0 := bt_lo s i; have hb1 := bt_hi s i
    simp only [fairwayref1_TakeNum.l0, tk]
    rw [if_pos (by omega)]
    by_cases hs : s.size ≤ i
    · rw [if_pos (by omega), if_pos hs]
    · rw [if_neg (by omega), if_pos (by omega), if_pos (by omega), if_pos (by rw [w7 i (by omega)]; exact Int.natCast_nonneg _), if_neg hs, w64bt, Int.tmod_eq_emod_of_nonneg hb0]
      obtain ⟨hv, hv0, hv1⟩ := tk_step i (by omega) n h0 h1 (bt s i % 128) (by omega) (by omega)
      rw [hv, w64 (n := (i : Int) + 1) (by omega) (by omega)]
      by_cases hc : 128 ≤ bt s i
      · rw [if_neg (by omega), if_pos hc]
        exact ih (i + 1) _ k (by omega) hv0 hv1 (by omega)
      · rw [if_pos (by omega), if_neg hc]
        by_cases hz : bt s i = 0
        · rw [if_pos hz]
          by_cases hp : 0 < i
          · rw [if_pos (by omega), if_pos ⟨hz, hp⟩]
          · rw [if_neg (by omega), if_neg (by omega)]
            rfl
        · rw [if_neg hz, if_neg (by omega)]
          rfl
theorem ref_take_ev (s : ByteArray) : Ev (fun k => fairwayref1_TakeNum.f k s) (tkn s) :=
  ⟨20, fun k hk => ref_take_loop s 4 0 0 k rfl (by decide) (by decide) (by omega)⟩
theorem shr_at {n : Int} (m : Nat) (j : Int) (hj : wrap64 j = (m : Int)) (hm : m ≤ 64) : shr .i64 n (wrap64 j) = n / 2 ^ m := by
  unfold shr
  rw [hj, Int.toNat_natCast, Nat.min_eq_left (by simpa [IntKind.bits] using hm)]
def two (n : Int) : ByteArray := strOfNums [n / 256 % 256, n % 256]
def four (n : Int) : ByteArray := strOfNums [n / 16777216 % 256, n / 65536 % 256, n / 256 % 256, n % 256]
theorem two_ev (n : Int) : Ev (fun k => vbi_Two.f k n) (if 0 ≤ n ∧ n ≤ 65535 then (two n, 0) else ((⟨#[]⟩ : ByteArray), 2)) := by
  refine ⟨10, fun k hk => ?_⟩
  obtain ⟨k, rfl⟩ : ∃ m, k = m + 10 := ⟨k - 10, by omega⟩
  have e0 : shr .i64 n (wrap64 (8 * 0)) = n := by rw [shr_at 0 _ (by unfold wrap64; omega) (by decide)]; simp
  have e1 : shr .i64 n (wrap64 (8 * 1)) = n / 256 := by rw [shr_at 8 _ (by unfold wrap64; omega) (by decide)]; rfl
  have e2 : shr .i64 n (wrap64 (8 * 2)) = n / 65536 := by rw [shr_at 16 _ (by unfold wrap64; omega) (by decide)]; rfl
  dsimp only
  unfold vbi_Two.f vbi_high.f
  by_cases h0 : n < 0
  · rw [if_pos h0, if_neg (by omega)]
    simp only [vbi_high.j0, if_true, Option.bind_some]
  · rw [if_neg h0, if_pos (by unfold wrap64; omega), e2]
    simp only [vbi_high.j0]
    by_cases h1 : n ≤ 65535
    · have hz : n / 65536 = 0 := by omega
      rw [hz, if_neg (by decide), if_pos (by decide), if_pos (by decide), if_pos ⟨by omega, h1⟩]
      simp only [Option.bind_some, vbi_high.l0]
      simp only [show (wrap64 (wrap64 (2 - 1) - 0)) = 1 by unfold wrap64; omega, show wrap64 (0 + 1) = 1 by unfold wrap64; omega, show (wrap64 (wrap64 (2 - 1) - 1)) = 0 by unfold wrap64; omega, show wrap64 (1 + 1) = 2 by unfold wrap64; omega, e0, e1,
        show (0 : Int) < ((List.replicate (2 : Int).toNat 0 : List Int).length : Int) by decide, show (1 : Int) < ((List.replicate (2 : Int).toNat 0 : List Int).length : Int) by decide, show ¬ (2 : Int) < ((List.replicate (2 : Int).toNat 0 : List Int).length : Int) by decide,
        if_true, if_false, List.length_set, show (0 : Int) ≤ wrap64 (8 * 0) by unfold wrap64; omega, show (0 : Int) ≤ wrap64 (8 * 1) by unfold wrap64; omega, show (0 : Int) ≤ 1 by decide, Int.le_refl]
      rfl
    · rw [if_pos (by simp; omega), if_neg (by omega)]
      rfl
theorem four_ev (n : Int) : Ev (fun k => vbi_Four.f k n) (if 0 ≤ n ∧ n ≤ 4294967295 then (four n, 0) else ((⟨#[]⟩ : ByteArray), 2)) := by
  refine ⟨10, fun k hk => ?_⟩
  obtain ⟨k, rfl⟩ : ∃ m, k = m + 10 := ⟨k - 10, by omega⟩
  have e0 : shr .i64 n (wrap64 (8 * 0)) = n := by rw [shr_at 0 _ (by unfold wrap64; omega) (by decide)]; simp
  have e1 : shr .i64 n (wrap64 (8 * 1)) = n / 256 := by rw [shr_at 8 _ (by unfold wrap64; omega) (by decide)]; rfl
  have e2 : shr .i64 n (wrap64 (8 * 2)) = n / 65536 := by rw [shr_at 16 _ (by unfold wrap64; omega) (by decide)]; rfl
  have e3 : shr .i64 n (wrap64 (8 * 3)) = n / 16777216 := by rw [shr_at 24 _ (by unfold wrap64; omega) (by decide)]; rfl
  have e4 : shr .i64 n (wrap64 (8 * 4)) = n / 4294967296 := by rw [shr_at 32 _ (by unfold wrap64; omega) (by decide)]; rfl
  dsimp only
  unfold vbi_Four.f vbi_high.f
  by_cases h0 : n < 0
  · rw [if_pos h0, if_neg (by omega)]
    simp only [vbi_high.j0, if_true, Option.bind_some]
  · rw [if_neg h0, if_pos (by unfold wrap64; omega), e4]
    simp only [vbi_high.j0]
    by_cases h1 : n ≤ 4294967295
    · have hz : n / 4294967296 = 0 := by omega
      rw [hz, if_neg (by decide), if_pos (by decide), if_pos (by decide), if_pos ⟨by omega, h1⟩]
      simp only [Option.bind_some, vbi_high.l0]
      simp only [show (wrap64 (wrap64 (4 - 1) - 0)) = 3 by unfold wrap64; omega, show wrap64 (0 + 1) = 1 by unfold wrap64; omega, show (wrap64 (wrap64 (4 - 1) - 1)) = 2 by unfold wrap64; omega, show wrap64 (1 + 1) = 2 by unfold wrap64; omega, show (wrap64 (wrap64 (4 - 1) - 2)) = 1 by unfold wrap64; omega, show wrap64 (2 + 1) = 3 by unfold wrap64; omega, show (wrap64 (wrap64 (4 - 1) - 3)) = 0 by unfold wrap64; omega, show wrap64 (3 + 1) = 4 by unfold wrap64; omega, e0, e1, e2, e3,
        show (0 : Int) < ((List.replicate (4 : Int).toNat 0 : List Int).length : Int) by decide, show (1 : Int) < ((List.replicate (4 : Int).toNat 0 : List Int).length : Int) by decide, show (2 : Int) < ((List.replicate (4 : Int).toNat 0 : List Int).length : Int) by decide, show (3 : Int) < ((List.replicate (4 : Int).toNat 0 : List Int).length : Int) by decide, show ¬ (4 : Int) < ((List.replicate (4 : Int).toNat 0 : List Int).length : Int) by decide,
        if_true, if_false, List.length_set, show (0 : Int) ≤ wrap64 (8 * 0) by unfold wrap64; omega, show (0 : Int) ≤ wrap64 (8 * 1) by unfold wrap64; omega, show (0 : Int) ≤ wrap64 (8 * 2) by unfold wrap64; omega, show (0 : Int) ≤ wrap64 (8 * 3) by unfold wrap64; omega, show (0 : Int) ≤ 1 by decide, show (0 : Int) ≤ 2 by decide, show (0 : Int) ≤ 3 by decide, Int.le_refl]
      rfl
    · rw [if_pos (by simp; omega), if_neg (by omega)]
      rfl
theorem fixed2_ev (n : Int) : Ev (fun k => fairwayref1_Fixed.f k n 2) (two n) := by
  refine ⟨10, fun k hk => ?_⟩
  obtain ⟨k, rfl⟩ : ∃ m, k = m + 10 := ⟨k - 10, by omega⟩
  have e0 : shr .i64 n (wrap64 (8 * 0)) = n := by rw [shr_at 0 _ (by unfold wrap64; omega) (by decide)]; simp
  have e1 : shr .i64 n (wrap64 (8 * 1)) = n / 256 := by rw [shr_at 8 _ (by unfold wrap64; omega) (by decide)]; rfl
  dsimp only
  unfold fairwayref1_Fixed.f
  simp only [show wrap64 (2 - 1) = 1 by unfold wrap64; omega, fairwayref1_Fixed.l0, show wrap64 (1 - 1) = 0 by unfold wrap64; omega, show wrap64 (0 - 1) = -1 by unfold wrap64; omega, e0, e1, show (1 : Int) ≥ 0 by decide, show (0 : Int) ≥ 0 by decide, show ¬ (-1 : Int) ≥ 0 by decide,
    show (0 : Int) ≤ wrap64 (8 * 0) by unfold wrap64; omega, show (0 : Int) ≤ wrap64 (8 * 1) by unfold wrap64; omega, if_true, if_false, List.length_nil, List.length_append, List.length_cons, List.nil_append, List.cons_append, show (0 : Nat) < 140737488355328 by decide, show (0 + 1 : Nat) < 140737488355328 by decide]
  rfl
theorem fixed4_ev (n : Int) : Ev (fun k => fairwayref1_Fixed.f k n 4) (four n) := by
  refine ⟨10, fun k hk => ?_⟩
  obtain ⟨k, rfl⟩ : ∃ m, k = m + 10 := ⟨k - 10, by omega⟩
  have e0 : shr .i64 n (wrap64 (8 * 0)) = n := by rw [shr_at 0 _ (by unfold wrap64; omega) (by decide)]; simp
  have e1 : shr .i64 n (wrap64 (8 * 1)) = n / 256 := by rw [shr_at 8 _ (by unfold wrap64; omega) (by decide)]; rfl
  have e2 : shr .i64 n (wrap64 (8 * 2)) = n / 65536 := by rw [shr_at 16 _ (by unfold wrap64; omega) (by decide)]; rfl
  have e3 : shr .i64 n (wrap64 (8 * 3)) = n / 16777216 := by rw [shr_at 24 _ (by unfold wrap64; omega) (by decide)]; rfl
  dsimp only
  unfold fairwayref1_Fixed.f
  simp only [show wrap64 (4 - 1) = 3 by unfold wrap64; omega, fairwayref1_Fixed.l0, show wrap64 (3 - 1) = 2 by unfold wrap64; omega, show wrap64 (2 - 1) = 1 by unfold wrap64; omega, show wrap64 (1 - 1) = 0 by unfold wrap64; omega, show wrap64 (0 - 1) = -1 by unfold wrap64; omega, e0, e1, e2, e3, show (3 : Int) ≥ 0 by decide, show (2 : Int) ≥ 0 by decide, show (1 : Int) ≥ 0 by decide, show (0 : Int) ≥ 0 by decide, show ¬ (-1 : Int) ≥ 0 by decide,
    show (0 : Int) ≤ wrap64 (8 * 0) by unfold wrap64; omega, show (0 : Int) ≤ wrap64 (8 * 1) by unfold wrap64; omega, show (0 : Int) ≤ wrap64 (8 * 2) by unfold wrap64; omega, show (0 : Int) ≤ wrap64 (8 * 3) by unfold wrap64; omega, if_true, if_false, List.length_nil, List.length_append, List.length_cons, List.nil_append, List.cons_append, show (0 : Nat) < 140737488355328 by decide, show (0 + 1 : Nat) < 140737488355328 by decide, show (0 + 1 + 1 : Nat) < 140737488355328 by decide, show (0 + 1 + 1 + 1 : Nat) < 140737488355328 by decide]
  rfl
def val2 (s : ByteArray) : Int := bt s 0 * 256 + bt s 1
def val4 (s : ByteArray) : Int := ((bt s 0 * 256 + bt s 1) * 256 + bt s 2) * 256 + bt s 3
theorem or00 {y : Int} (hy : 0 ≤ y) (hy1 : y < 256) : Go.bits .or .i64 (wrap64 (0 * 256)) y = y := by
  have := or_byte (x := 0) (by decide) (by decide) hy hy1
  rw [show wrap64 (0 * 256) = 0 * 256 by unfold wrap64; omega, this]; omega
theorem orb {x y : Int} (hx : 0 ≤ x) (hx1 : x < 36028797018963968) (hy : 0 ≤ y) (hy1 : y < 256) : Go.bits .or .i64 (wrap64 (x * 256)) y = x * 256 + y := by
  rw [w64 (by omega) (by omega), or_byte hx hx1 hy hy1]
theorem takeTwo_ev (s : ByteArray) : Ev (fun k => vbi_TakeTwo.f k s) (if (s.size : Int) < 2 then (0, 7) else (val2 s, 0)) := by
  refine ⟨10, fun k hk => ?_⟩
  obtain ⟨k, rfl⟩ : ∃ m, k = m + 10 := ⟨k - 10, by omega⟩
  dsimp only
  unfold vbi_TakeTwo.f vbi_taken.f
  by_cases h : (s.size : Int) < 2
  · rw [if_pos h, if_pos h]; rfl
  · have h0 := bt_range s 0; have h1 := bt_range s 1
    rw [if_neg h, if_neg h]
    simp only [vbi_taken.l0, show wrap64 (0 + 1) = 1 by unfold wrap64; omega, show wrap64 (1 + 1) = 2 by unfold wrap64; omega, w64bt, or00 h0.1 (show bt s 0 < 256 by omega), orb h0.1 (show bt s 0 < 36028797018963968 by omega) h1.1 (show bt s 1 < 256 by omega),
      show (0 : Int) < 2 by decide, show (1 : Int) < 2 by decide, Int.lt_irrefl, Int.le_refl, show (0 : Int) ≤ 1 by decide, show (0 : Int) < (s.size : Int) by omega, show (1 : Int) < (s.size : Int) by omega, if_true, if_false, Option.bind_some]
    rfl
theorem takeFour_ev (s : ByteArray) : Ev (fun k => vbi_TakeFour.f k s) (if (s.size : Int) < 4 then (0, 7) else (val4 s, 0)) := by
  refine ⟨10, fun k hk => ?_⟩
  obtain ⟨k, rfl⟩ : ∃ m, k = m + 10 := ⟨k - 10, by omega⟩
  dsimp only
  unfold vbi_TakeFour.f vbi_taken.f
  by_cases h : (s.size : Int) < 4
  · rw [if_pos h, if_pos h]; rfl
  · have h0 := bt_range s 0; have h1 := bt_range s 1; have h2 := bt_range s 2; have h3 := bt_range s 3
    rw [if_neg h, if_neg h]
    simp only [vbi_taken.l0, show wrap64 (0 + 1) = 1 by unfold wrap64; omega, show wrap64 (1 + 1) = 2 by unfold wrap64; omega, show wrap64 (2 + 1) = 3 by unfold wrap64; omega, show wrap64 (3 + 1) = 4 by unfold wrap64; omega, w64bt, or00 h0.1 (show bt s 0 < 256 by omega), orb h0.1 (show bt s 0 < 36028797018963968 by omega) h1.1 (show bt s 1 < 256 by omega),
      orb (show 0 ≤ bt s 0 * 256 + bt s 1 by omega) (show bt s 0 * 256 + bt s 1 < 36028797018963968 by omega) h2.1 (show bt s 2 < 256 by omega), orb (show 0 ≤ (bt s 0 * 256 + bt s 1) * 256 + bt s 2 by omega) (show (bt s 0 * 256 + bt s 1) * 256 + bt s 2 < 36028797018963968 by omega) h3.1 (show bt s 3 < 256 by omega),
      show (0 : Int) < 4 by decide, show (1 : Int) < 4 by decide, show (2 : Int) < 4 by decide, show (3 : Int) < 4 by decide, Int.lt_irrefl, Int.le_refl, show (0 : Int) ≤ 1 by decide, show (0 : Int) ≤ 2 by decide, show (0 : Int) ≤ 3 by decide, show (0 : Int) < (s.size : Int) by omega, show (1 : Int) < (s.size : Int) by omega, show (2 : Int) < (s.size : Int) by omega, show (3 : Int) < (s.size : Int) by omega, if_true, if_false, Option.bind_some]
    rfl
theorem ref_take1_ev (s : ByteArray) : Ev (fun k => fairwayref1_TakeFixed.f k s 1) (if (s.size : Int) < 1 then (0, false) else (bt s 0, true)) := by
  refine ⟨10, fun k hk => ?_⟩
  obtain ⟨k, rfl⟩ : ∃ m, k = m + 10 := ⟨k - 10, by omega⟩
  dsimp only
  unfold fairwayref1_TakeFixed.f
  by_cases h : (s.size : Int) < 1
  · rw [if_pos h, if_pos h]
  · have h0 := bt_range s 0
    rw [if_neg h, if_neg h]
    simp only [fairwayref1_TakeFixed.l0, show wrap64 (0 + 1) = 1 by unfold wrap64; omega, w64bt, or00 h0.1 (show bt s 0 < 256 by omega),
      show (0 : Int) < 1 by decide, Int.lt_irrefl, Int.le_refl, show (0 : Int) < (s.size : Int) by omega, if_true, if_false]
theorem ref_take2_ev (s : ByteArray) : Ev (fun k => fairwayref1_TakeFixed.f k s 2) (if (s.size : Int) < 2 then (0, false) else (val2 s, true)) := by
  refine ⟨10, fun k hk => ?_⟩
  obtain ⟨k, rfl⟩ : ∃ m, k = m + 10 := ⟨k - 10, by omega⟩
  dsimp only
  unfold fairwayref1_TakeFixed.f
  by_cases h : (s.size : Int) < 2
  · rw [if_pos h, if_pos h]
  · have h0 := bt_range s 0; have h1 := bt_range s 1
    rw [if_neg h, if_neg h]
    simp only [fairwayref1_TakeFixed.l0, show wrap64 (0 + 1) = 1 by unfold wrap64; omega, show wrap64 (1 + 1) = 2 by unfold wrap64; omega, w64bt, or00 h0.1 (show bt s 0 < 256 by omega), orb h0.1 (show bt s 0 < 36028797018963968 by omega) h1.1 (show bt s 1 < 256 by omega),
      show (0 : Int) < 2 by decide, show (1 : Int) < 2 by decide, Int.lt_irrefl, Int.le_refl, show (0 : Int) ≤ 1 by decide, show (0 : Int) < (s.size : Int) by omega, show (1 : Int) < (s.size : Int) by omega, if_true, if_false]
    rfl
theorem ref_take4_ev (s : ByteArray) : Ev (fun k => fairwayref1_TakeFixed.f k s 4) (if (s.size : Int) < 4 then (0, false) else (val4 s, true)) := by
  refine ⟨10, fun k hk => ?_⟩
  obtain ⟨k, rfl⟩ : ∃ m, k = m + 10 := ⟨k - 10, by omega⟩
  dsimp only
  unfold fairwayref1_TakeFixed.f
  by_cases h : (s.size : Int) < 4
  · rw [if_pos h, if_pos h]
  · have h0 := bt_range s 0; have h1 := bt_range s 1; have h2 := bt_range s 2; have h3 := bt_range s 3
    rw [if_neg h, if_neg h]
    simp only [fairwayref1_TakeFixed.l0, show wrap64 (0 + 1) = 1 by unfold wrap64; omega, show wrap64 (1 + 1) = 2 by unfold wrap64; omega, show wrap64 (2 + 1) = 3 by unfold wrap64; omega, show wrap64 (3 + 1) = 4 by unfold wrap64; omega, w64bt, or00 h0.1 (show bt s 0 < 256 by omega), orb h0.1 (show bt s 0 < 36028797018963968 by omega) h1.1 (show bt s 1 < 256 by omega),
      orb (show 0 ≤ bt s 0 * 256 + bt s 1 by omega) (show bt s 0 * 256 + bt s 1 < 36028797018963968 by omega) h2.1 (show bt s 2 < 256 by omega), orb (show 0 ≤ (bt s 0 * 256 + bt s 1) * 256 + bt s 2 by omega) (show (bt s 0 * 256 + bt s 1) * 256 + bt s 2 < 36028797018963968 by omega) h3.1 (show bt s 3 < 256 by omega),
      show (0 : Int) < 4 by decide, show (1 : Int) < 4 by decide, show (2 : Int) < 4 by decide, show (3 : Int) < 4 by decide, Int.lt_irrefl, Int.le_refl, show (0 : Int) ≤ 1 by decide, show (0 : Int) ≤ 2 by decide, show (0 : Int) ≤ 3 by decide, show (0 : Int) < (s.size : Int) by omega, show (1 : Int) < (s.size : Int) by omega, show (2 : Int) < (s.size : Int) by omega, show (3 : Int) < (s.size : Int) by omega, if_true, if_false]
    rfl
end Go.Proofs.YtiancopplinpcaaDoor.P
end
section
namespace Go.Proofs.YtiancopplinpcaaDoor.P
open Go.RowKit Go.Proofs.YtiancopplinpcaaDoorW.PrintWords Go.Proofs.YtiancopplinpcaaDoorW.PrintLast Go.Proofs.YtiancopplinpcaaDoorW.PrintMore
set_option linter.unusedSimpArgs false
set_option linter.unusedVariables false
def kindOf (id : Int) : Int :=
  if id ∈ [1, 23, 25, 36, 37, 40, 41, 42] then 1 else if id ∈ [19, 33, 34, 35] then 2 else if id ∈ [2, 17, 24, 39] then 3 else if id = 11 then 4 else if id ∈ [3, 8, 18, 21, 26, 28, 31] then 5 else if id ∈ [9, 22] then 6 else if id = 38 then 7 else 0
theorem kindOf_range (id : Int) : 0 ≤ kindOf id ∧ kindOf id ≤ 7 := by
  unfold kindOf
  repeat' split
  all_goals omega
theorem kindOf_out {id : Int} (h : id < 0 ∨ 42 < id) : kindOf id = 0 := by
  unfold kindOf
  simp only [List.mem_cons, List.not_mem_nil, or_false]
  repeat rw [if_neg (by omega)]
set_option maxRecDepth 100000 in
theorem kind_in : ∀ n : Fin 43, prop_Kind.f 6 (n.val : Int) = some (kindOf (n.val : Int), if kindOf (n.val : Int) = 0 then 3 else 0) := by decide
set_option maxRecDepth 100000 in
theorem refKind_in : ∀ n : Fin 43, fairwayref4_Kind.f 6 (n.val : Int) = some (kindOf (n.val : Int)) := by decide
theorem kind_ev (id : Int) : Ev (fun k => prop_Kind.f k id) (kindOf id, if kindOf id = 0 then 3 else 0) := by
  refine Ev.of (prop_Kind.mono id) (k := 6) ?_
  by_cases h : id < 0 ∨ 42 < id
  · rw [kindOf_out h, if_pos rfl]
    simp only [prop_Kind.f, prop_Kind.j0, prop_Kind.j1, prop_Kind.j2, prop_Kind.j3, prop_Kind.j4, beq_iff_eq]
    repeat rw [if_neg (by omega)]
  · have := kind_in ⟨id.toNat, by omega⟩
    have e : ((id.toNat : Nat) : Int) = id := by omega
    simpa only [e] using this
theorem refKind_ev (id : Int) : Ev (fun k => fairwayref4_Kind.f k id) (kindOf id) := by
  refine Ev.of (fairwayref4_Kind.mono id) (k := 6) ?_
  by_cases h : id < 0 ∨ 42 < id
  · rw [kindOf_out h]
    simp only [fairwayref4_Kind.f, fairwayref4_Kind.j0, fairwayref4_Kind.j1, fairwayref4_Kind.j2, fairwayref4_Kind.j3, fairwayref4_Kind.j4, beq_iff_eq]
    repeat rw [if_neg (by omega)]
  · have := refKind_in ⟨id.toNat, by omega⟩
    have e : ((id.toNat : Nat) : Int) = id := by omega
    simpa only [e] using this
def placeL (p : Int) : List Int :=
  if p = 0 then [1, 2, 3, 8, 9, 24, 38] else if p = 1 then [17, 21, 22, 23, 25, 33, 34, 38, 39] else if p = 2 then [17, 18, 19, 21, 22, 26, 28, 31, 33, 34, 36, 37, 38, 39, 40, 41, 42] else if p = 3 then [1, 2, 3, 8, 9, 11, 35, 38]
  else if p = 4 ∨ p = 5 ∨ p = 6 ∨ p = 7 ∨ p = 9 ∨ p = 11 then [31, 38] else if p = 8 then [11, 38] else if p = 10 then [38] else if p = 14 then [17, 28, 31, 38] else if p = 15 then [21, 22, 31, 38] else []
theorem placeL_out {p : Int} (h : p < 0 ∨ 15 < p) : placeL p = [] := by
  unfold placeL
  repeat rw [if_neg (by omega)]
set_option maxRecDepth 100000 in
theorem stands_in : ∀ n : Fin 16, prop_stands.f 3 (n.val : Int) = some (placeL (n.val : Int), true) := by decide
theorem stands_ev (p : Int) : Ev (fun k => prop_stands.f k p) (placeL p, decide (0 ≤ p ∧ p ≤ 15)) := by
  refine Ev.of (prop_stands.mono p) (k := 3) ?_
  by_cases h : p < 0 ∨ 15 < p
  · rw [placeL_out h, decide_eq_false (by omega)]
    simp only [prop_stands.f, prop_stands.j0, beq_iff_eq]
    repeat rw [if_neg (by omega)]
  · have := stands_in ⟨p.toNat, by omega⟩
    have e : ((p.toNat : Nat) : Int) = p := by omega
    rw [decide_eq_true (by omega)]
    simpa only [e] using this
theorem in_loop (l : List Int) (x : Int) (hl : l.length ≤ 1000) (d : Nat) : ∀ (i k : Nat), l.length - i = d → d < k → ∃ r, fairwayref0_In.l0 k l x (i : Int) = some r ∧ (r ≥ 0 ↔ x ∈ l.drop i) := by
  induction d with
  | zero =>
    intro i k hd hk
    obtain ⟨k, rfl⟩ : ∃ m, k = m + 1 := ⟨k - 1, by omega⟩
    refine ⟨-1, ?_, ?_⟩
    · simp only [fairwayref0_In.l0]
      rw [if_neg (by omega)]
    · rw [List.drop_of_length_le (by omega)]
      simp
  | succ d ih =>
    intro i k hd hk
    obtain ⟨k, rfl⟩ : ∃ m, k = m + 1 := ⟨k - 1, by omega⟩
    have hi : i < l.length := by omega
    have hrd : rd l (i : Int) = l[i] := by simp [rd, hi]
    rw [List.drop_eq_getElem_cons hi]
    by_cases h : l[i] = x
    · refine ⟨i, ?_, by simp [h]⟩
      simp only [fairwayref0_In.l0]
      rw [if_pos (by omega), if_pos (by omega), hrd, if_pos h]
    · obtain ⟨r, hr, hm⟩ := ih (i + 1) k (by omega) (by omega)
      refine ⟨r, ?_, ?_⟩
      · simp only [fairwayref0_In.l0]
        rw [if_pos (by omega), if_pos (by omega), hrd, if_neg h, w64 (by omega) (by omega)]
        exact hr
      · rw [hm, List.mem_cons]
        constructor
        · exact .inr
        · rintro (rfl | h2)
          · exact absurd rfl h
          · exact h2
theorem in_ev (l : List Int) (x : Int) (hl : l.length ≤ 1000) : ∃ r, Ev (fun k => fairwayref0_In.f k l x) r ∧ (r ≥ 0 ↔ x ∈ l) := by
  obtain ⟨r, hr, hm⟩ := in_loop l x hl l.length 0 (l.length + 1) (by omega) (by omega)
  exact ⟨r, Ev.of (fairwayref0_In.mono l x) hr, by simpa using hm⟩
theorem index_loop (l : List Int) (x : Int) (hl : l.length ≤ 1000) (d : Nat) : ∀ (i k : Nat), l.length - i = d → d < k → ∃ r, slices_Index_int_int.l0 k l x (l.length : Int) (i : Int) = some r ∧ (r ≥ 0 ↔ x ∈ l.drop i) := by
  induction d with
  | zero =>
    intro i k hd hk
    obtain ⟨k, rfl⟩ : ∃ m, k = m + 1 := ⟨k - 1, by omega⟩
    refine ⟨-1, ?_, ?_⟩
    · simp only [slices_Index_int_int.l0]
      rw [if_neg (by omega)]
    · rw [List.drop_of_length_le (by omega)]
      simp
  | succ d ih =>
    intro i k hd hk
    obtain ⟨k, rfl⟩ : ∃ m, k = m + 1 := ⟨k - 1, by omega⟩
    have hi : i < l.length := by omega
    have hrd : rd l (i : Int) = l[i] := by simp [rd, hi]
    rw [List.drop_eq_getElem_cons hi]
    by_cases h : x = l[i]
    · refine ⟨i, ?_, ⟨fun _ => by rw [h]; exact List.mem_cons_self, fun _ => Int.natCast_nonneg _⟩⟩
      simp only [slices_Index_int_int.l0]
      rw [if_pos (by omega), if_pos (by omega), if_pos (by omega), hrd, if_pos h]
    · obtain ⟨r, hr, hm⟩ := ih (i + 1) k (by omega) (by omega)
      refine ⟨r, ?_, ?_⟩
      · simp only [slices_Index_int_int.l0]
        rw [if_pos (by omega), if_pos (by omega), if_pos (by omega), hrd, if_neg h, w64 (by omega) (by omega)]
        exact hr
      · rw [hm, List.mem_cons]
        constructor
        · exact .inr
        · rintro (rfl | h2)
          · exact absurd rfl h
          · exact h2
theorem contains_ev (l : List Int) (x : Int) (hl : l.length ≤ 1000) : Ev (fun k => slices_Contains_int_int.f k l x) (decide (x ∈ l)) := by
  obtain ⟨r, hr, hm⟩ := index_loop l x hl l.length 0 (l.length + 1) (by omega) (by omega)
  refine Ev.of (slices_Contains_int_int.mono l x) (k := l.length + 1) ?_
  unfold slices_Contains_int_int.f slices_Index_int_int.f
  rw [show (0 : Int) = ((0 : Nat) : Int) from rfl, hr]
  simp only [Option.bind_some, Option.some.injEq]
  exact decide_eq_decide.2 (by simpa using hm)
theorem placeL_len (p : Int) : (placeL p).length ≤ 17 := by
  unfold placeL
  repeat' split
  all_goals decide
theorem refStands_ev (p id : Int) : Ev (fun k => fairwayref4_stands.f k p id) (decide (id ∈ placeL p)) := by
  obtain ⟨r, ⟨K, hr⟩, hm⟩ := in_ev (placeL p) id (by have := placeL_len p; omega)
  refine ⟨K + 3, fun k hk => ?_⟩
  obtain ⟨k, rfl⟩ : ∃ m, k = m + 1 := ⟨k - 1, by omega⟩
  have h0 := hr (k + 1) (by omega)
  have h1 := hr k (by omega)
  have e : decide (r ≥ 0) = decide (id ∈ placeL p) := decide_eq_decide.2 hm
  dsimp only at h0 h1 ⊢
  by_cases hp : p < 0 ∨ 15 < p
  · rw [placeL_out hp] at h0 h1 e ⊢
    simp only [fairwayref4_stands.f, fairwayref4_stands.j0, beq_iff_eq]
    repeat rw [if_neg (by omega)]
    rw [h1]
    simp only [Option.bind_some, e]
  · have hc : p = 0 ∨ p = 1 ∨ p = 2 ∨ p = 3 ∨ p = 4 ∨ p = 5 ∨ p = 6 ∨ p = 7 ∨ p = 8 ∨ p = 9 ∨ p = 10 ∨ p = 11 ∨ p = 12 ∨ p = 13 ∨ p = 14 ∨ p = 15 := by omega
    unfold placeL at h0 h1
    rw [← e]
    rcases hc with rfl | rfl | rfl | rfl | rfl | rfl | rfl | rfl | rfl | rfl | rfl | rfl | rfl | rfl | rfl | rfl
    all_goals simp only [fairwayref4_stands.f, fairwayref4_stands.j0, beq_iff_eq, reduceIte, Int.reduceEq, or_self, or_true, or_false, true_or, false_or, if_true, if_false] at h0 h1 ⊢
    all_goals first | (rw [h0]; rfl) | (rw [h1]; rfl)
theorem nought_is (id : Int) : prop_nought.f id = some (decide (id = 33 ∨ id = 35 ∨ id = 39 ∨ id = 11)) := by
  unfold prop_nought.f
  by_cases a : id = 33
  · simp [a]
  · by_cases b : id = 35
    · simp [b]
    · by_cases c : id = 39
      · simp [c]
      · simp only [a, b, c, if_false, false_or]
        rfl
theorem place_is (p : Int) : fairwayref4_Place.f p = some (decide (0 ≤ p ∧ p ≤ 15)) := by
  unfold fairwayref4_Place.f
  by_cases h : p ≥ 0
  · rw [if_pos h]; simp; omega
  · rw [if_neg h]; simp; omega
end Go.Proofs.YtiancopplinpcaaDoor.P
end
