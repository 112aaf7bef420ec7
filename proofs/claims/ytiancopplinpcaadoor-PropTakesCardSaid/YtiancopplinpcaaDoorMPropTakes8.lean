/- The statement PropTakes: for every input the law answers true, and its argument reads behind the call as it did (part 9 of 12 of the proof). -/
import Derived.Test.YtiancopplinpcaaDoorMPropTakes7
section
namespace Go.Proofs.YtiancopplinpcaaDoor.P
open Go.RowKit Go.Proofs.YtiancopplinpcaaDoorW.PrintWords Go.Proofs.YtiancopplinpcaaDoorW.PrintLast Go.Proofs.YtiancopplinpcaaDoorW.PrintMore
attribute [local go_sem] max2_int min2_int max_two min_two max_three min_three max_four min_four
set_option linter.unusedVariables false
set_option linter.unusedSimpArgs false
def fairwayref4_stands.j0 : Nat → Int → List Int → Int → Bool → Option (Bool)
  | 0, _, _, _, _ => none
  | k + 1, x1, x5, x6, x19 => if x19 = true then ((fairwayref0_In.f k (([31, 38] : List Int)) x1).bind fun t236 => (some (decide (t236 ≥ 0)))) else (if x6 = 8 then ((fairwayref0_In.f k (([11, 38] : List Int)) x1).bind fun t240 => (some (decide (t240 ≥ 0)))) else (if x6 = 10 then ((fairwayref0_In.f k (([38] : List Int)) x1).bind fun t244 => (some (decide (t244 ≥ 0)))) else (if x6 = 14 then ((fairwayref0_In.f k (([17, 28, 31, 38] : List Int)) x1).bind fun t248 => (some (decide (t248 ≥ 0)))) else (if x6 = 15 then ((fairwayref0_In.f k (([21, 22, 31, 38] : List Int)) x1).bind fun t252 => (some (decide (t252 ≥ 0)))) else ((fairwayref0_In.f k x5 x1).bind fun t253 => (some (decide (t253 ≥ 0))))))))
def fairwayref4_stands.f (k : Nat) (a0 : Int) (a1 : Int) : Option (Bool) := if a0 = 0 then ((fairwayref0_In.f k (([1, 2, 3, 8, 9, 24, 38] : List Int)) a1).bind fun t220 => (some (decide (t220 ≥ 0)))) else (if a0 = 1 then ((fairwayref0_In.f k (([17, 21, 22, 23, 25, 33, 34, 38, 39] : List Int)) a1).bind fun t224 => (some (decide (t224 ≥ 0)))) else (if a0 = 2 then ((fairwayref0_In.f k (([17, 18, 19, 21, 22, 26, 28, 31, 33, 34, 36, 37, 38, 39, 40, 41, 42] : List Int)) a1).bind fun t228 => (some (decide (t228 ≥ 0)))) else (if a0 = 3 then ((fairwayref0_In.f k (([1, 2, 3, 8, 9, 11, 35, 38] : List Int)) a1).bind fun t232 => (some (decide (t232 ≥ 0)))) else (if a0 = 4 then (fairwayref4_stands.j0 k a1 ([] : List Int) a0 (a0 == 4)) else (if a0 = 5 then (fairwayref4_stands.j0 k a1 ([] : List Int) a0 (a0 == 5)) else (if a0 = 6 then (fairwayref4_stands.j0 k a1 ([] : List Int) a0 (a0 == 6)) else (if a0 = 7 then (fairwayref4_stands.j0 k a1 ([] : List Int) a0 (a0 == 7)) else (if a0 = 9 then (fairwayref4_stands.j0 k a1 ([] : List Int) a0 (a0 == 9)) else (fairwayref4_stands.j0 k a1 ([] : List Int) a0 (a0 == 11))))))))))
theorem fairwayref4_stands.mono_l : ∀ k, (∀ y0 y1 y2 y3, LeO (fairwayref4_stands.j0 k y0 y1 y2 y3) (fairwayref4_stands.j0 (k + 1) y0 y1 y2 y3))
 | 0 => fun _ _ _ _ r h => by simp [fairwayref4_stands.j0] at h
 | k + 1 => by
  have ih0 := fairwayref4_stands.mono_l k
  ·
   intro y0 y1 y2 y3
   unfold fairwayref4_stands.j0
   repeat' first
   | (with_reducible exact ih0 _ _ _ _)
   | (with_reducible exact fairwayref0_In.mono _ _ _)
   | (with_reducible exact LeO.refl _)
   | (with_reducible exact LeO.none _)
   | (with_reducible refine LeO.ite ?_ ?_)
   | (with_reducible refine LeO.bind ?_ (fun _ => ?_))
   | exact ih0 _ _ _ _
   | exact fairwayref0_In.mono _ _ _
   | exact LeO.none _
   | refine LeO.ite ?_ ?_
   | refine LeO.bind ?_ (fun _ => ?_)
theorem fairwayref4_stands.mono : ∀ a0 a1 k, LeO (fairwayref4_stands.f k a0 a1) (fairwayref4_stands.f (k + 1) a0 a1) := by
 intro a0 a1 k
 have ih0 := fairwayref4_stands.mono_l k
 unfold fairwayref4_stands.f
 repeat' first
   | (with_reducible exact ih0 _ _ _ _)
   | (with_reducible exact fairwayref0_In.mono _ _ _)
   | (with_reducible exact LeO.refl _)
   | (with_reducible exact LeO.none _)
   | (with_reducible refine LeO.ite ?_ ?_)
   | (with_reducible refine LeO.bind ?_ (fun _ => ?_))
   | exact ih0 _ _ _ _
   | exact fairwayref0_In.mono _ _ _
   | exact LeO.none _
   | refine LeO.ite ?_ ?_
   | refine LeO.bind ?_ (fun _ => ?_)
set_option maxHeartbeats 8000000 in
set_option maxRecDepth 100000 in
theorem fairwayref4_stands.calls (k : Nat) (a0 : Int) (a1 : Int) (r : Bool) (w : World) (h : fairwayref4_stands.f k a0 a1 = some r) :
  Calls Tryd.prog 31 #[.int .i64 a0, .int .i64 a1] w fun e w' => e = .returned (.bool r) ∧ Below w.heap.size w w' := by
 have HB := Aside0.mk (Below.refl w.heap.size w)
 have H : (if a0 = 0 then ((fairwayref0_In.f k (([1, 2, 3, 8, 9, 24, 38] : List Int)) a1).bind fun t220 => (some (decide (t220 ≥ 0)))) else (if a0 = 1 then ((fairwayref0_In.f k (([17, 21, 22, 23, 25, 33, 34, 38, 39] : List Int)) a1).bind fun t224 => (some (decide (t224 ≥ 0)))) else (if a0 = 2 then ((fairwayref0_In.f k (([17, 18, 19, 21, 22, 26, 28, 31, 33, 34, 36, 37, 38, 39, 40, 41, 42] : List Int)) a1).bind fun t228 => (some (decide (t228 ≥ 0)))) else (if a0 = 3 then ((fairwayref0_In.f k (([1, 2, 3, 8, 9, 11, 35, 38] : List Int)) a1).bind fun t232 => (some (decide (t232 ≥ 0)))) else (if a0 = 4 then (fairwayref4_stands.j0 k a1 ([] : List Int) a0 (a0 == 4)) else (if a0 = 5 then (fairwayref4_stands.j0 k a1 ([] : List Int) a0 (a0 == 5)) else (if a0 = 6 then (fairwayref4_stands.j0 k a1 ([] : List Int) a0 (a0 == 6)) else (if a0 = 7 then (fairwayref4_stands.j0 k a1 ([] : List Int) a0 (a0 == 7)) else (if a0 = 9 then (fairwayref4_stands.j0 k a1 ([] : List Int) a0 (a0 == 9)) else (fairwayref4_stands.j0 k a1 ([] : List Int) a0 (a0 == 11))))))))))) = some r := h
 clear h
 by_cases c3 : a0 = 0
 ·
  rw [if_pos c3] at H
  have c3b0 : (a0 == 0) = true := beq_iff_eq.mpr c3
  have c3b1 : (a0 != 0) = false := bne_eq_false_iff_eq.mpr c3
  clear c3
  obtain ⟨y217, hy217⟩ : ∃ y_ : List Int, y_ = (([1, 2, 3, 8, 9, 24, 38] : List Int)) := ⟨_, rfl⟩
  replace H : ((fairwayref0_In.f k y217 a1).bind fun t220 => (some (decide (t220 ≥ 0)))) = some r := by first | (rw [hy217]; with_reducible exact H) | (have H2_ := (Option.bind_some _ _).symm.trans H; rw [hy217]; with_reducible exact H2_) | (have H2_ := (Option.bind_some _ _).symm.trans H; with_reducible exact H2_) | with_reducible exact H | (rw [hy217]; exact H) | exact H
  have Ny217 := Aside0.mk hy217
  clear hy217
  replace H := Option.bind_eq_some_iff.mp H
  obtain ⟨t220, A40, H⟩ := H
  replace H : (some (decide (t220 ≥ 0))) = some r := H
  have A4 := Aside0.mk A40
  clear A40
  obtain rfl := Option.some.inj H
  go_enter Tryd.func31, Tryd.ntmps31
  go_wp2_with (first | ((with_reducible refine gate_dst (N := 9) rfl ?_); refine Kd.R_lit (Kd.int .i64) _ 3 ?hg (N := 9) ?hd (xs := ([1, 2, 3, 8, 9, 24, 38] : List Int)) (inner := [.int .i64 1, .int .i64 2, .int .i64 3, .int .i64 8, .int .i64 9, .int .i64 24, .int .i64 38]) (ok := fun _ => True) (okp := fun _ => True) ?hr ?hp (fun _ hk => hk) trivial (Below.refl _ _) (Nat.le_refl _) (by simp) ?_; (case hd => rfl); (case hg => rfl); (case hr => first | (go_simp; done) | (go_simp; rfl)); (case hp => exact (Reps.one (show Kd.M (Kd.int .i64) _ _ _ 1 [.int .i64 1] from rfl) (Reps.one (show Kd.M (Kd.int .i64) _ _ _ 2 [.int .i64 2] from rfl) (Reps.one (show Kd.M (Kd.int .i64) _ _ _ 3 [.int .i64 3] from rfl) (Reps.one (show Kd.M (Kd.int .i64) _ _ _ 8 [.int .i64 8] from rfl) (Reps.one (show Kd.M (Kd.int .i64) _ _ _ 9 [.int .i64 9] from rfl) (Reps.one (show Kd.M (Kd.int .i64) _ _ _ 24 [.int .i64 24] from rfl) (Reps.one (show Kd.M (Kd.int .i64) _ _ _ 38 [.int .i64 38] from rfl) (Reps.none _ _))))))))); intro v218 w5 ho6 hb hg_ hnew_; clear hg_ hnew_; (first | rw [← Ny217.out] at ho6 | (simp only [Int.reduceToNat] at ho6; rw [← Ny217.out] at ho6)); have n0_ := Aside0.mk (Kd.R_lower ho6 (below_size (by repeat (first | (with_reducible first | exact HB.out | apply below_alloc | apply pw_below_drewN | apply below_drew1) | exact HB.out)))); have n1_ := Aside0.mk (below_step (by repeat (first | (with_reducible first | exact HB.out | apply below_alloc | apply pw_below_drewN | apply below_drew1) | exact HB.out)) hb); clear HB; have HO219 := n0_; have HB := n1_; clear n0_ n1_; clear hb ho6; obtain ⟨Ao7, co7, eo7⟩ := Kd.R_slice HO219.out; subst eo7) | ((with_reducible refine gate_callee (f := 45) rfl ?_); refine goesL_ (some 41) rfl rfl Tryd.func45 (by kernel_rfl) rfl #[.slice Ao7 y217.length co7, .int .i64 a1] rfl (by (try simp only [List.map_toArray, List.map_cons, List.map_nil]); first | done | rfl | (simp only [List.length_drop, List.length_take]; rfl)) ?_; (with_reducible refine (fairwayref0_In.calls k _ _ y217 a1 t220 _ ?side1 ?side2 A4.out).mono ?_); (case side1 => repeat (first | exact (Kd.R_reads' HO219.out).2.2 | (with_reducible refine Kd.C_alloc ?_ _) | (with_reducible refine Kd.C_drewN ?_ _) | (with_reducible refine Kd.C_drew ?_))); (case side2 => exact (Kd.R_reads' HO219.out).2.1); rintro e w' ⟨rfl, ⟨nd, rfl⟩⟩; refine ⟨_, rfl, ?_⟩))
  go_ret
  exact ⟨by first | rfl | (simp [errW_none, errW_some] <;> rfl) | (simp [*, errW_none, errW_some] <;> rfl), by repeat (first | (with_reducible first | exact HB.out | apply below_alloc | apply pw_below_drewN | apply below_drew1) | exact HB.out)⟩
 rw [if_neg c3] at H
 have c3b0 : (a0 == 0) = false := beq_eq_false_iff_ne.mpr c3
 have c3b1 : (a0 != 0) = true := bne_iff_ne.mpr c3
 by_cases c8 : a0 = 1
 ·
  rw [if_pos c8] at H
  have c8b0 : (a0 == 1) = true := beq_iff_eq.mpr c8
  have c8b1 : (a0 != 1) = false := bne_eq_false_iff_eq.mpr c8
  clear c8
  obtain ⟨y221, hy221⟩ : ∃ y_ : List Int, y_ = (([17, 21, 22, 23, 25, 33, 34, 38, 39] : List Int)) := ⟨_, rfl⟩
  replace H : ((fairwayref0_In.f k y221 a1).bind fun t224 => (some (decide (t224 ≥ 0)))) = some r := by first | (rw [hy221]; with_reducible exact H) | (have H2_ := (Option.bind_some _ _).symm.trans H; rw [hy221]; with_reducible exact H2_) | (have H2_ := (Option.bind_some _ _).symm.trans H; with_reducible exact H2_) | with_reducible exact H | (rw [hy221]; exact H) | exact H
  have Ny221 := Aside0.mk hy221
  clear hy221
  replace H := Option.bind_eq_some_iff.mp H
  obtain ⟨t224, A90, H⟩ := H
  replace H : (some (decide (t224 ≥ 0))) = some r := H
  have A9 := Aside0.mk A90
  clear A90
  obtain rfl := Option.some.inj H
  go_enter Tryd.func31, Tryd.ntmps31
  go_wp2_with (first | ((with_reducible refine gate_dst (N := 12) rfl ?_); refine Kd.R_lit (Kd.int .i64) _ 3 ?hg (N := 12) ?hd (xs := ([17, 21, 22, 23, 25, 33, 34, 38, 39] : List Int)) (inner := [.int .i64 17, .int .i64 21, .int .i64 22, .int .i64 23, .int .i64 25, .int .i64 33, .int .i64 34, .int .i64 38, .int .i64 39]) (ok := fun _ => True) (okp := fun _ => True) ?hr ?hp (fun _ hk => hk) trivial (Below.refl _ _) (Nat.le_refl _) (by simp) ?_; (case hd => rfl); (case hg => rfl); (case hr => first | (go_simp; done) | (go_simp; rfl)); (case hp => exact (Reps.one (show Kd.M (Kd.int .i64) _ _ _ 17 [.int .i64 17] from rfl) (Reps.one (show Kd.M (Kd.int .i64) _ _ _ 21 [.int .i64 21] from rfl) (Reps.one (show Kd.M (Kd.int .i64) _ _ _ 22 [.int .i64 22] from rfl) (Reps.one (show Kd.M (Kd.int .i64) _ _ _ 23 [.int .i64 23] from rfl) (Reps.one (show Kd.M (Kd.int .i64) _ _ _ 25 [.int .i64 25] from rfl) (Reps.one (show Kd.M (Kd.int .i64) _ _ _ 33 [.int .i64 33] from rfl) (Reps.one (show Kd.M (Kd.int .i64) _ _ _ 34 [.int .i64 34] from rfl) (Reps.one (show Kd.M (Kd.int .i64) _ _ _ 38 [.int .i64 38] from rfl) (Reps.one (show Kd.M (Kd.int .i64) _ _ _ 39 [.int .i64 39] from rfl) (Reps.none _ _))))))))))); intro v222 w10 ho11 hb hg_ hnew_; clear hg_ hnew_; (first | rw [← Ny221.out] at ho11 | (simp only [Int.reduceToNat] at ho11; rw [← Ny221.out] at ho11)); have n0_ := Aside0.mk (Kd.R_lower ho11 (below_size (by repeat (first | (with_reducible first | exact HB.out | apply below_alloc | apply pw_below_drewN | apply below_drew1) | exact HB.out)))); have n1_ := Aside0.mk (below_step (by repeat (first | (with_reducible first | exact HB.out | apply below_alloc | apply pw_below_drewN | apply below_drew1) | exact HB.out)) hb); clear HB; have HO223 := n0_; have HB := n1_; clear n0_ n1_; clear hb ho11; obtain ⟨Ao12, co12, eo12⟩ := Kd.R_slice HO223.out; subst eo12) | ((with_reducible refine gate_callee (f := 45) rfl ?_); refine goesL_ (some 41) rfl rfl Tryd.func45 (by kernel_rfl) rfl #[.slice Ao12 y221.length co12, .int .i64 a1] rfl (by (try simp only [List.map_toArray, List.map_cons, List.map_nil]); first | done | rfl | (simp only [List.length_drop, List.length_take]; rfl)) ?_; (with_reducible refine (fairwayref0_In.calls k _ _ y221 a1 t224 _ ?side1 ?side2 A9.out).mono ?_); (case side1 => repeat (first | exact (Kd.R_reads' HO223.out).2.2 | (with_reducible refine Kd.C_alloc ?_ _) | (with_reducible refine Kd.C_drewN ?_ _) | (with_reducible refine Kd.C_drew ?_))); (case side2 => exact (Kd.R_reads' HO223.out).2.1); rintro e w' ⟨rfl, ⟨nd, rfl⟩⟩; refine ⟨_, rfl, ?_⟩))
  go_ret
  exact ⟨by first | rfl | (simp [errW_none, errW_some] <;> rfl) | (simp [*, errW_none, errW_some] <;> rfl), by repeat (first | (with_reducible first | exact HB.out | apply below_alloc | apply pw_below_drewN | apply below_drew1) | exact HB.out)⟩
 rw [if_neg c8] at H
 have c8b0 : (a0 == 1) = false := beq_eq_false_iff_ne.mpr c8
 have c8b1 : (a0 != 1) = true := bne_iff_ne.mpr c8
 by_cases c13 : a0 = 2
 ·
  rw [if_pos c13] at H
  have c13b0 : (a0 == 2) = true := beq_iff_eq.mpr c13
  have c13b1 : (a0 != 2) = false := bne_eq_false_iff_eq.mpr c13
  clear c13
  obtain ⟨y225, hy225⟩ : ∃ y_ : List Int, y_ = (([17, 18, 19, 21, 22, 26, 28, 31, 33, 34, 36, 37, 38, 39, 40, 41, 42] : List Int)) := ⟨_, rfl⟩
  replace H : ((fairwayref0_In.f k y225 a1).bind fun t228 => (some (decide (t228 ≥ 0)))) = some r := by first | (rw [hy225]; with_reducible exact H) | (have H2_ := (Option.bind_some _ _).symm.trans H; rw [hy225]; with_reducible exact H2_) | (have H2_ := (Option.bind_some _ _).symm.trans H; with_reducible exact H2_) | with_reducible exact H | (rw [hy225]; exact H) | exact H
  have Ny225 := Aside0.mk hy225
  clear hy225
  replace H := Option.bind_eq_some_iff.mp H
  obtain ⟨t228, A140, H⟩ := H
  replace H : (some (decide (t228 ≥ 0))) = some r := H
  have A14 := Aside0.mk A140
  clear A140
  obtain rfl := Option.some.inj H
  go_enter Tryd.func31, Tryd.ntmps31
  go_wp2_with (first | ((with_reducible refine gate_dst (N := 15) rfl ?_); refine Kd.R_lit (Kd.int .i64) _ 3 ?hg (N := 15) ?hd (xs := ([17, 18, 19, 21, 22, 26, 28, 31, 33, 34, 36, 37, 38, 39, 40, 41, 42] : List Int)) (inner := [.int .i64 17, .int .i64 18, .int .i64 19, .int .i64 21, .int .i64 22, .int .i64 26, .int .i64 28, .int .i64 31, .int .i64 33, .int .i64 34, .int .i64 36, .int .i64 37, .int .i64 38, .int .i64 39, .int .i64 40, .int .i64 41, .int .i64 42]) (ok := fun _ => True) (okp := fun _ => True) ?hr ?hp (fun _ hk => hk) trivial (Below.refl _ _) (Nat.le_refl _) (by simp) ?_; (case hd => rfl); (case hg => rfl); (case hr => first | (go_simp; done) | (go_simp; rfl)); (case hp => exact (Reps.one (show Kd.M (Kd.int .i64) _ _ _ 17 [.int .i64 17] from rfl) (Reps.one (show Kd.M (Kd.int .i64) _ _ _ 18 [.int .i64 18] from rfl) (Reps.one (show Kd.M (Kd.int .i64) _ _ _ 19 [.int .i64 19] from rfl) (Reps.one (show Kd.M (Kd.int .i64) _ _ _ 21 [.int .i64 21] from rfl) (Reps.one (show Kd.M (Kd.int .i64) _ _ _ 22 [.int .i64 22] from rfl) (Reps.one (show Kd.M (Kd.int .i64) _ _ _ 26 [.int .i64 26] from rfl) (Reps.one (show Kd.M (Kd.int .i64) _ _ _ 28 [.int .i64 28] from rfl) (Reps.one (show Kd.M (Kd.int .i64) _ _ _ 31 [.int .i64 31] from rfl) (Reps.one (show Kd.M (Kd.int .i64) _ _ _ 33 [.int .i64 33] from rfl) (Reps.one (show Kd.M (Kd.int .i64) _ _ _ 34 [.int .i64 34] from rfl) (Reps.one (show Kd.M (Kd.int .i64) _ _ _ 36 [.int .i64 36] from rfl) (Reps.one (show Kd.M (Kd.int .i64) _ _ _ 37 [.int .i64 37] from rfl) (Reps.one (show Kd.M (Kd.int .i64) _ _ _ 38 [.int .i64 38] from rfl) (Reps.one (show Kd.M (Kd.int .i64) _ _ _ 39 [.int .i64 39] from rfl) (Reps.one (show Kd.M (Kd.int .i64) _ _ _ 40 [.int .i64 40] from rfl) (Reps.one (show Kd.M (Kd.int .i64) _ _ _ 41 [.int .i64 41] from rfl) (Reps.one (show Kd.M (Kd.int .i64) _ _ _ 42 [.int .i64 42] from rfl) (Reps.none _ _))))))))))))))))))); intro v226 w15 ho16 hb hg_ hnew_; clear hg_ hnew_; (first | rw [← Ny225.out] at ho16 | (simp only [Int.reduceToNat] at ho16; rw [← Ny225.out] at ho16)); have n0_ := Aside0.mk (Kd.R_lower ho16 (below_size (by repeat (first | (with_reducible first | exact HB.out | apply below_alloc | apply pw_below_drewN | apply below_drew1) | exact HB.out)))); have n1_ := Aside0.mk (below_step (by repeat (first | (with_reducible first | exact HB.out | apply below_alloc | apply pw_below_drewN | apply below_drew1) | exact HB.out)) hb); clear HB; have HO227 := n0_; have HB := n1_; clear n0_ n1_; clear hb ho16; obtain ⟨Ao17, co17, eo17⟩ := Kd.R_slice HO227.out; subst eo17) | ((with_reducible refine gate_callee (f := 45) rfl ?_); refine goesL_ (some 41) rfl rfl Tryd.func45 (by kernel_rfl) rfl #[.slice Ao17 y225.length co17, .int .i64 a1] rfl (by (try simp only [List.map_toArray, List.map_cons, List.map_nil]); first | done | rfl | (simp only [List.length_drop, List.length_take]; rfl)) ?_; (with_reducible refine (fairwayref0_In.calls k _ _ y225 a1 t228 _ ?side1 ?side2 A14.out).mono ?_); (case side1 => repeat (first | exact (Kd.R_reads' HO227.out).2.2 | (with_reducible refine Kd.C_alloc ?_ _) | (with_reducible refine Kd.C_drewN ?_ _) | (with_reducible refine Kd.C_drew ?_))); (case side2 => exact (Kd.R_reads' HO227.out).2.1); rintro e w' ⟨rfl, ⟨nd, rfl⟩⟩; refine ⟨_, rfl, ?_⟩))
  go_ret
  exact ⟨by first | rfl | (simp [errW_none, errW_some] <;> rfl) | (simp [*, errW_none, errW_some] <;> rfl), by repeat (first | (with_reducible first | exact HB.out | apply below_alloc | apply pw_below_drewN | apply below_drew1) | exact HB.out)⟩
 rw [if_neg c13] at H
 have c13b0 : (a0 == 2) = false := beq_eq_false_iff_ne.mpr c13
 have c13b1 : (a0 != 2) = true := bne_iff_ne.mpr c13
 by_cases c18 : a0 = 3
 ·
  rw [if_pos c18] at H
  have c18b0 : (a0 == 3) = true := beq_iff_eq.mpr c18
  have c18b1 : (a0 != 3) = false := bne_eq_false_iff_eq.mpr c18
  clear c18
  obtain ⟨y229, hy229⟩ : ∃ y_ : List Int, y_ = (([1, 2, 3, 8, 9, 11, 35, 38] : List Int)) := ⟨_, rfl⟩
  replace H : ((fairwayref0_In.f k y229 a1).bind fun t232 => (some (decide (t232 ≥ 0)))) = some r := by first | (rw [hy229]; with_reducible exact H) | (have H2_ := (Option.bind_some _ _).symm.trans H; rw [hy229]; with_reducible exact H2_) | (have H2_ := (Option.bind_some _ _).symm.trans H; with_reducible exact H2_) | with_reducible exact H | (rw [hy229]; exact H) | exact H
  have Ny229 := Aside0.mk hy229
  clear hy229
  replace H := Option.bind_eq_some_iff.mp H
  obtain ⟨t232, A190, H⟩ := H
  replace H : (some (decide (t232 ≥ 0))) = some r := H
  have A19 := Aside0.mk A190
  clear A190
  obtain rfl := Option.some.inj H
  go_enter Tryd.func31, Tryd.ntmps31
  go_wp2_with (first | ((with_reducible refine gate_dst (N := 18) rfl ?_); refine Kd.R_lit (Kd.int .i64) _ 3 ?hg (N := 18) ?hd (xs := ([1, 2, 3, 8, 9, 11, 35, 38] : List Int)) (inner := [.int .i64 1, .int .i64 2, .int .i64 3, .int .i64 8, .int .i64 9, .int .i64 11, .int .i64 35, .int .i64 38]) (ok := fun _ => True) (okp := fun _ => True) ?hr ?hp (fun _ hk => hk) trivial (Below.refl _ _) (Nat.le_refl _) (by simp) ?_; (case hd => rfl); (case hg => rfl); (case hr => first | (go_simp; done) | (go_simp; rfl)); (case hp => exact (Reps.one (show Kd.M (Kd.int .i64) _ _ _ 1 [.int .i64 1] from rfl) (Reps.one (show Kd.M (Kd.int .i64) _ _ _ 2 [.int .i64 2] from rfl) (Reps.one (show Kd.M (Kd.int .i64) _ _ _ 3 [.int .i64 3] from rfl) (Reps.one (show Kd.M (Kd.int .i64) _ _ _ 8 [.int .i64 8] from rfl) (Reps.one (show Kd.M (Kd.int .i64) _ _ _ 9 [.int .i64 9] from rfl) (Reps.one (show Kd.M (Kd.int .i64) _ _ _ 11 [.int .i64 11] from rfl) (Reps.one (show Kd.M (Kd.int .i64) _ _ _ 35 [.int .i64 35] from rfl) (Reps.one (show Kd.M (Kd.int .i64) _ _ _ 38 [.int .i64 38] from rfl) (Reps.none _ _)))))))))); intro v230 w20 ho21 hb hg_ hnew_; clear hg_ hnew_; (first | rw [← Ny229.out] at ho21 | (simp only [Int.reduceToNat] at ho21; rw [← Ny229.out] at ho21)); have n0_ := Aside0.mk (Kd.R_lower ho21 (below_size (by repeat (first | (with_reducible first | exact HB.out | apply below_alloc | apply pw_below_drewN | apply below_drew1) | exact HB.out)))); have n1_ := Aside0.mk (below_step (by repeat (first | (with_reducible first | exact HB.out | apply below_alloc | apply pw_below_drewN | apply below_drew1) | exact HB.out)) hb); clear HB; have HO231 := n0_; have HB := n1_; clear n0_ n1_; clear hb ho21; obtain ⟨Ao22, co22, eo22⟩ := Kd.R_slice HO231.out; subst eo22) | ((with_reducible refine gate_callee (f := 45) rfl ?_); refine goesL_ (some 41) rfl rfl Tryd.func45 (by kernel_rfl) rfl #[.slice Ao22 y229.length co22, .int .i64 a1] rfl (by (try simp only [List.map_toArray, List.map_cons, List.map_nil]); first | done | rfl | (simp only [List.length_drop, List.length_take]; rfl)) ?_; (with_reducible refine (fairwayref0_In.calls k _ _ y229 a1 t232 _ ?side1 ?side2 A19.out).mono ?_); (case side1 => repeat (first | exact (Kd.R_reads' HO231.out).2.2 | (with_reducible refine Kd.C_alloc ?_ _) | (with_reducible refine Kd.C_drewN ?_ _) | (with_reducible refine Kd.C_drew ?_))); (case side2 => exact (Kd.R_reads' HO231.out).2.1); rintro e w' ⟨rfl, ⟨nd, rfl⟩⟩; refine ⟨_, rfl, ?_⟩))
  go_ret
  exact ⟨by first | rfl | (simp [errW_none, errW_some] <;> rfl) | (simp [*, errW_none, errW_some] <;> rfl), by repeat (first | (with_reducible first | exact HB.out | apply below_alloc | apply pw_below_drewN | apply below_drew1) | exact HB.out)⟩
 rw [if_neg c18] at H
 have c18b0 : (a0 == 3) = false := beq_eq_false_iff_ne.mpr c18
 have c18b1 : (a0 != 3) = true := bne_iff_ne.mpr c18
 have HC23 := Aside0.mk H
 clear H
 go_enter Tryd.func31, Tryd.ntmps31
 go_upto_if 19 with (fail)
 go_cut [19] (fun v19 wc => ∃ (kq : Nat) (x19_22 : Bool), v19 = .bool x19_22 ∧ Aside0 (fairwayref4_stands.j0 kq a1 ([] : List Int) a0 x19_22 = some r) ∧ Aside0 (kq ≤ k) ∧ Aside0 (Kd.R (Kd.int .i64) 3 wc w.heap.size (fun _ => True) (.slice none 0 0) ([] : List Int)) ∧ Aside0 (Below w.heap.size w wc))
 case first =>
  have H := HC23.out
  clear HC23
  by_cases c24 : a0 = 4
  ·
   rw [if_pos c24] at H
   have c24b0 : (a0 == 4) = true := beq_iff_eq.mpr c24
   have c24b1 : (a0 != 4) = false := bne_eq_false_iff_eq.mpr c24
   clear c24
   (first | rw [c24b0] | (simp only [i64_w, i32_w]; rw [c24b0]) | skip)
   have H' := Aside0.mk H
   clear H
   go_wp2
   go_meet
   case rel => exact ⟨_, ((a0 == 4)), (by first | rfl | (simp; done) | (simp [*]; done)), H', ⟨by first | omega | exact Nat.le_refl _⟩, ⟨by first | exact Kd.R_nil _ _ _ _ _ | exact Kd.N_nil _ _ _ _ _ | exact Kd.V_nil _ _ _ _ _ | exact Kd.Q_nil _ _ _ _ _ | exact Kd.S_nil _ _ _ _ _⟩, ⟨by repeat (first | (with_reducible first | exact HB.out | apply below_alloc | apply pw_below_drewN | apply below_drew1) | exact HB.out)⟩⟩
  rw [if_neg c24] at H
  have c24b0 : (a0 == 4) = false := beq_eq_false_iff_ne.mpr c24
  have c24b1 : (a0 != 4) = true := bne_iff_ne.mpr c24
  (first | rw [c24b0] | (simp only [i64_w, i32_w]; rw [c24b0]) | skip)
  by_cases c25 : a0 = 5
  ·
   rw [if_pos c25] at H
   have c25b0 : (a0 == 5) = true := beq_iff_eq.mpr c25
   have c25b1 : (a0 != 5) = false := bne_eq_false_iff_eq.mpr c25
   clear c25
   have H' := Aside0.mk H
   clear H
   go_wp2
   go_meet
   case rel => exact ⟨_, ((a0 == 5)), (by first | rfl | (simp; done) | (simp [*]; done)), H', ⟨by first | omega | exact Nat.le_refl _⟩, ⟨by first | exact Kd.R_nil _ _ _ _ _ | exact Kd.N_nil _ _ _ _ _ | exact Kd.V_nil _ _ _ _ _ | exact Kd.Q_nil _ _ _ _ _ | exact Kd.S_nil _ _ _ _ _⟩, ⟨by repeat (first | (with_reducible first | exact HB.out | apply below_alloc | apply pw_below_drewN | apply below_drew1) | exact HB.out)⟩⟩
  rw [if_neg c25] at H
  have c25b0 : (a0 == 5) = false := beq_eq_false_iff_ne.mpr c25
  have c25b1 : (a0 != 5) = true := bne_iff_ne.mpr c25
  by_cases c26 : a0 = 6
  ·
   rw [if_pos c26] at H
   have c26b0 : (a0 == 6) = true := beq_iff_eq.mpr c26
   have c26b1 : (a0 != 6) = false := bne_eq_false_iff_eq.mpr c26
   clear c26
   have H' := Aside0.mk H
   clear H
   go_wp2
   go_meet
   case rel => exact ⟨_, ((a0 == 6)), (by first | rfl | (simp; done) | (simp [*]; done)), H', ⟨by first | omega | exact Nat.le_refl _⟩, ⟨by first | exact Kd.R_nil _ _ _ _ _ | exact Kd.N_nil _ _ _ _ _ | exact Kd.V_nil _ _ _ _ _ | exact Kd.Q_nil _ _ _ _ _ | exact Kd.S_nil _ _ _ _ _⟩, ⟨by repeat (first | (with_reducible first | exact HB.out | apply below_alloc | apply pw_below_drewN | apply below_drew1) | exact HB.out)⟩⟩
  rw [if_neg c26] at H
  have c26b0 : (a0 == 6) = false := beq_eq_false_iff_ne.mpr c26
  have c26b1 : (a0 != 6) = true := bne_iff_ne.mpr c26
  by_cases c27 : a0 = 7
  ·
   rw [if_pos c27] at H
   have c27b0 : (a0 == 7) = true := beq_iff_eq.mpr c27
   have c27b1 : (a0 != 7) = false := bne_eq_false_iff_eq.mpr c27
   clear c27
   have H' := Aside0.mk H
   clear H
   go_wp2
   go_meet
   case rel => exact ⟨_, ((a0 == 7)), (by first | rfl | (simp; done) | (simp [*]; done)), H', ⟨by first | omega | exact Nat.le_refl _⟩, ⟨by first | exact Kd.R_nil _ _ _ _ _ | exact Kd.N_nil _ _ _ _ _ | exact Kd.V_nil _ _ _ _ _ | exact Kd.Q_nil _ _ _ _ _ | exact Kd.S_nil _ _ _ _ _⟩, ⟨by repeat (first | (with_reducible first | exact HB.out | apply below_alloc | apply pw_below_drewN | apply below_drew1) | exact HB.out)⟩⟩
  rw [if_neg c27] at H
  have c27b0 : (a0 == 7) = false := beq_eq_false_iff_ne.mpr c27
  have c27b1 : (a0 != 7) = true := bne_iff_ne.mpr c27
  by_cases c28 : a0 = 9
  ·
   rw [if_pos c28] at H
   have c28b0 : (a0 == 9) = true := beq_iff_eq.mpr c28
   have c28b1 : (a0 != 9) = false := bne_eq_false_iff_eq.mpr c28
   clear c28
   have H' := Aside0.mk H
   clear H
   go_wp2
   go_meet
   case rel => exact ⟨_, ((a0 == 9)), (by first | rfl | (simp; done) | (simp [*]; done)), H', ⟨by first | omega | exact Nat.le_refl _⟩, ⟨by first | exact Kd.R_nil _ _ _ _ _ | exact Kd.N_nil _ _ _ _ _ | exact Kd.V_nil _ _ _ _ _ | exact Kd.Q_nil _ _ _ _ _ | exact Kd.S_nil _ _ _ _ _⟩, ⟨by repeat (first | (with_reducible first | exact HB.out | apply below_alloc | apply pw_below_drewN | apply below_drew1) | exact HB.out)⟩⟩
  rw [if_neg c28] at H
  have c28b0 : (a0 == 9) = false := beq_eq_false_iff_ne.mpr c28
  have c28b1 : (a0 != 9) = true := bne_iff_ne.mpr c28
  have H' := Aside0.mk H
  clear H
  go_wp2
  go_meet
  case rel => exact ⟨_, ((a0 == 11)), (by first | rfl | (simp; done) | (simp [*]; done)), H', ⟨by first | omega | exact Nat.le_refl _⟩, ⟨by first | exact Kd.R_nil _ _ _ _ _ | exact Kd.N_nil _ _ _ _ _ | exact Kd.V_nil _ _ _ _ _ | exact Kd.Q_nil _ _ _ _ _ | exact Kd.S_nil _ _ _ _ _⟩, ⟨by repeat (first | (with_reducible first | exact HB.out | apply below_alloc | apply pw_below_drewN | apply below_drew1) | exact HB.out)⟩⟩
 case rest =>
  clear HC23
  try clear c1
  try clear c2
  try clear p2
  try clear c3
  try clear c3b0
  try clear c3b1
  try clear c4
  try clear c8
  try clear c8b0
  try clear c8b1
  try clear c13
  try clear c13b0
  try clear c13b1
  try clear c18
  try clear c18b0
  try clear c18b1
  try clear c24
  try clear c24b0
  try clear c24b1
  try clear c25
  try clear c25b0
  try clear c25b1
  try clear c26
  try clear c26b0
  try clear c26b1
  try clear c27
  try clear c27b0
  try clear c27b1
  try clear c28
  try clear c28b0
  try clear c28b1
  obtain ⟨kq, x19_22, rfl, HA, HJ22, HO_5, HB⟩ := hcut
  cases kq with
  | zero => exact absurd HA.out (by simp [fairwayref4_stands.j0])
  | succ kj22 =>
   have H := HA.out
   clear HA
   simp only [fairwayref4_stands.j0] at H
   by_cases c29 : x19_22 = true
   ·
    subst c29
    have H1 : ((fairwayref0_In.f kj22 (([31, 38] : List Int)) a1).bind fun t236 => (some (decide (t236 ≥ 0)))) = some r := by rw [if_pos rfl] at H; exact H
    clear H
    have H := H1
    clear H1
    obtain ⟨y233, hy233⟩ : ∃ y_ : List Int, y_ = (([31, 38] : List Int)) := ⟨_, rfl⟩
    replace H : ((fairwayref0_In.f kj22 y233 a1).bind fun t236 => (some (decide (t236 ≥ 0)))) = some r := by first | (rw [hy233]; with_reducible exact H) | (have H2_ := (Option.bind_some _ _).symm.trans H; rw [hy233]; with_reducible exact H2_) | (have H2_ := (Option.bind_some _ _).symm.trans H; with_reducible exact H2_) | with_reducible exact H | (rw [hy233]; exact H) | exact H
    have Ny233 := Aside0.mk hy233
    clear hy233
    replace H := Option.bind_eq_some_iff.mp H
    obtain ⟨t236, A300, H⟩ := H
    replace H : (some (decide (t236 ≥ 0))) = some r := H
    have A30 := Aside0.mk A300
    clear A300
    obtain rfl := Option.some.inj H
    go_wp2_with (first | ((with_reducible refine gate_dst (N := 26) rfl ?_); refine Kd.R_lit (Kd.int .i64) _ 3 ?hg (N := 26) ?hd (xs := ([31, 38] : List Int)) (inner := [.int .i64 31, .int .i64 38]) (ok := fun _ => True) (okp := fun _ => True) ?hr ?hp (fun _ hk => hk) trivial (Below.refl _ _) (Nat.le_refl _) (by simp) ?_; (case hd => rfl); (case hg => rfl); (case hr => first | (go_simp; done) | (go_simp; rfl)); (case hp => exact (Reps.one (show Kd.M (Kd.int .i64) _ _ _ 31 [.int .i64 31] from rfl) (Reps.one (show Kd.M (Kd.int .i64) _ _ _ 38 [.int .i64 38] from rfl) (Reps.none _ _)))); intro v234 w31 ho32 hb hg_ hnew_; clear hg_ hnew_; (first | rw [← Ny233.out] at ho32 | (simp only [Int.reduceToNat] at ho32; rw [← Ny233.out] at ho32)); have n0_ := Aside0.mk (Kd.R_elder' (by (with_reducible repeat (first | apply Kd.R_alloc | apply Kd.R_drewN | apply Kd.R_drew)); exact HO_5.out) (Kd.R_base ho32) hb); have n1_ := Aside0.mk (Kd.R_lower (Kd.R_new' ho32 (Kd.R_lt (by (with_reducible repeat (first | apply Kd.R_alloc | apply Kd.R_drewN | apply Kd.R_drew)); exact HO_5.out))) (below_size (by repeat (first | (with_reducible first | exact HB.out | apply below_alloc | apply pw_below_drewN | apply below_drew1) | exact HB.out)))); have n2_ := Aside0.mk (below_step (by repeat (first | (with_reducible first | exact HB.out | apply below_alloc | apply pw_below_drewN | apply below_drew1) | exact HB.out)) hb); clear HO_5; clear HB; have HO_5 := n0_; have HO235 := n1_; have HB := n2_; clear n0_ n1_ n2_; clear hb ho32; obtain ⟨Ao33, co33, eo33⟩ := Kd.R_slice HO235.out; subst eo33) | ((with_reducible refine gate_callee (f := 45) rfl ?_); refine goesL_ (some 41) rfl rfl Tryd.func45 (by kernel_rfl) rfl #[.slice Ao33 y233.length co33, .int .i64 a1] rfl (by (try simp only [List.map_toArray, List.map_cons, List.map_nil]); first | done | rfl | (simp only [List.length_drop, List.length_take]; rfl)) ?_; (with_reducible refine (fairwayref0_In.calls kj22 _ _ y233 a1 t236 _ ?side1 ?side2 A30.out).mono ?_); (case side1 => repeat (first | exact (Kd.R_reads' HO235.out).2.2 | (with_reducible refine Kd.C_alloc ?_ _) | (with_reducible refine Kd.C_drewN ?_ _) | (with_reducible refine Kd.C_drew ?_))); (case side2 => exact (Kd.R_reads' HO235.out).2.1); rintro e w' ⟨rfl, ⟨nd, rfl⟩⟩; refine ⟨_, rfl, ?_⟩))
    go_ret
    exact ⟨by first | rfl | (simp [errW_none, errW_some] <;> rfl) | (simp [*, errW_none, errW_some] <;> rfl), by repeat (first | (with_reducible first | exact HB.out | apply below_alloc | apply pw_below_drewN | apply below_drew1) | exact HB.out)⟩
   replace c29 := Bool.eq_false_iff.mpr c29
   subst c29
   have H1 : (if a0 = 8 then ((fairwayref0_In.f kj22 (([11, 38] : List Int)) a1).bind fun t240 => (some (decide (t240 ≥ 0)))) else (if a0 = 10 then ((fairwayref0_In.f kj22 (([38] : List Int)) a1).bind fun t244 => (some (decide (t244 ≥ 0)))) else (if a0 = 14 then ((fairwayref0_In.f kj22 (([17, 28, 31, 38] : List Int)) a1).bind fun t248 => (some (decide (t248 ≥ 0)))) else (if a0 = 15 then ((fairwayref0_In.f kj22 (([21, 22, 31, 38] : List Int)) a1).bind fun t252 => (some (decide (t252 ≥ 0)))) else ((fairwayref0_In.f kj22 ([] : List Int) a1).bind fun t253 => (some (decide (t253 ≥ 0)))))))) = some r := by rw [if_neg (show ¬ (false = true) by decide)] at H; exact H
   clear H
   have H := H1
   clear H1
   by_cases c34 : a0 = 8
   ·
    rw [if_pos c34] at H
    have c34b0 : (a0 == 8) = true := beq_iff_eq.mpr c34
    have c34b1 : (a0 != 8) = false := bne_eq_false_iff_eq.mpr c34
    clear c34
    obtain ⟨y237, hy237⟩ : ∃ y_ : List Int, y_ = (([11, 38] : List Int)) := ⟨_, rfl⟩
    replace H : ((fairwayref0_In.f kj22 y237 a1).bind fun t240 => (some (decide (t240 ≥ 0)))) = some r := by first | (rw [hy237]; with_reducible exact H) | (have H2_ := (Option.bind_some _ _).symm.trans H; rw [hy237]; with_reducible exact H2_) | (have H2_ := (Option.bind_some _ _).symm.trans H; with_reducible exact H2_) | with_reducible exact H | (rw [hy237]; exact H) | exact H
    have Ny237 := Aside0.mk hy237
    clear hy237
    replace H := Option.bind_eq_some_iff.mp H
    obtain ⟨t240, A350, H⟩ := H
    replace H : (some (decide (t240 ≥ 0))) = some r := H
    have A35 := Aside0.mk A350
    clear A350
    obtain rfl := Option.some.inj H
    go_wp2_with (first | ((with_reducible refine gate_dst (N := 29) rfl ?_); refine Kd.R_lit (Kd.int .i64) _ 3 ?hg (N := 29) ?hd (xs := ([11, 38] : List Int)) (inner := [.int .i64 11, .int .i64 38]) (ok := fun _ => True) (okp := fun _ => True) ?hr ?hp (fun _ hk => hk) trivial (Below.refl _ _) (Nat.le_refl _) (by simp) ?_; (case hd => rfl); (case hg => rfl); (case hr => first | (go_simp; done) | (go_simp; rfl)); (case hp => exact (Reps.one (show Kd.M (Kd.int .i64) _ _ _ 11 [.int .i64 11] from rfl) (Reps.one (show Kd.M (Kd.int .i64) _ _ _ 38 [.int .i64 38] from rfl) (Reps.none _ _)))); intro v238 w36 ho37 hb hg_ hnew_; clear hg_ hnew_; (first | rw [← Ny237.out] at ho37 | (simp only [Int.reduceToNat] at ho37; rw [← Ny237.out] at ho37)); have n0_ := Aside0.mk (Kd.R_elder' (by (with_reducible repeat (first | apply Kd.R_alloc | apply Kd.R_drewN | apply Kd.R_drew)); exact HO_5.out) (Kd.R_base ho37) hb); have n1_ := Aside0.mk (Kd.R_lower (Kd.R_new' ho37 (Kd.R_lt (by (with_reducible repeat (first | apply Kd.R_alloc | apply Kd.R_drewN | apply Kd.R_drew)); exact HO_5.out))) (below_size (by repeat (first | (with_reducible first | exact HB.out | apply below_alloc | apply pw_below_drewN | apply below_drew1) | exact HB.out)))); have n2_ := Aside0.mk (below_step (by repeat (first | (with_reducible first | exact HB.out | apply below_alloc | apply pw_below_drewN | apply below_drew1) | exact HB.out)) hb); clear HO_5; clear HB; have HO_5 := n0_; have HO239 := n1_; have HB := n2_; clear n0_ n1_ n2_; clear hb ho37; obtain ⟨Ao38, co38, eo38⟩ := Kd.R_slice HO239.out; subst eo38) | ((with_reducible refine gate_callee (f := 45) rfl ?_); refine goesL_ (some 41) rfl rfl Tryd.func45 (by kernel_rfl) rfl #[.slice Ao38 y237.length co38, .int .i64 a1] rfl (by (try simp only [List.map_toArray, List.map_cons, List.map_nil]); first | done | rfl | (simp only [List.length_drop, List.length_take]; rfl)) ?_; (with_reducible refine (fairwayref0_In.calls kj22 _ _ y237 a1 t240 _ ?side1 ?side2 A35.out).mono ?_); (case side1 => repeat (first | exact (Kd.R_reads' HO239.out).2.2 | (with_reducible refine Kd.C_alloc ?_ _) | (with_reducible refine Kd.C_drewN ?_ _) | (with_reducible refine Kd.C_drew ?_))); (case side2 => exact (Kd.R_reads' HO239.out).2.1); rintro e w' ⟨rfl, ⟨nd, rfl⟩⟩; refine ⟨_, rfl, ?_⟩))
    go_ret
    exact ⟨by first | rfl | (simp [errW_none, errW_some] <;> rfl) | (simp [*, errW_none, errW_some] <;> rfl), by repeat (first | (with_reducible first | exact HB.out | apply below_alloc | apply pw_below_drewN | apply below_drew1) | exact HB.out)⟩
   rw [if_neg c34] at H
   have c34b0 : (a0 == 8) = false := beq_eq_false_iff_ne.mpr c34
   have c34b1 : (a0 != 8) = true := bne_iff_ne.mpr c34
   by_cases c39 : a0 = 10
   ·
    rw [if_pos c39] at H
    have c39b0 : (a0 == 10) = true := beq_iff_eq.mpr c39
    have c39b1 : (a0 != 10) = false := bne_eq_false_iff_eq.mpr c39
    clear c39
    obtain ⟨y241, hy241⟩ : ∃ y_ : List Int, y_ = (([38] : List Int)) := ⟨_, rfl⟩
    replace H : ((fairwayref0_In.f kj22 y241 a1).bind fun t244 => (some (decide (t244 ≥ 0)))) = some r := by first | (rw [hy241]; with_reducible exact H) | (have H2_ := (Option.bind_some _ _).symm.trans H; rw [hy241]; with_reducible exact H2_) | (have H2_ := (Option.bind_some _ _).symm.trans H; with_reducible exact H2_) | with_reducible exact H | (rw [hy241]; exact H) | exact H
    have Ny241 := Aside0.mk hy241
    clear hy241
    replace H := Option.bind_eq_some_iff.mp H
    obtain ⟨t244, A400, H⟩ := H
    replace H : (some (decide (t244 ≥ 0))) = some r := H
    have A40 := Aside0.mk A400
    clear A400
    obtain rfl := Option.some.inj H
    go_wp2_with (first | ((with_reducible refine gate_dst (N := 32) rfl ?_); refine Kd.R_lit (Kd.int .i64) _ 3 ?hg (N := 32) ?hd (xs := ([38] : List Int)) (inner := [.int .i64 38]) (ok := fun _ => True) (okp := fun _ => True) ?hr ?hp (fun _ hk => hk) trivial (Below.refl _ _) (Nat.le_refl _) (by simp) ?_; (case hd => rfl); (case hg => rfl); (case hr => first | (go_simp; done) | (go_simp; rfl)); (case hp => exact (Reps.one (show Kd.M (Kd.int .i64) _ _ _ 38 [.int .i64 38] from rfl) (Reps.none _ _))); intro v242 w41 ho42 hb hg_ hnew_; clear hg_ hnew_; (first | rw [← Ny241.out] at ho42 | (simp only [Int.reduceToNat] at ho42; rw [← Ny241.out] at ho42)); have n0_ := Aside0.mk (Kd.R_elder' (by (with_reducible repeat (first | apply Kd.R_alloc | apply Kd.R_drewN | apply Kd.R_drew)); exact HO_5.out) (Kd.R_base ho42) hb); have n1_ := Aside0.mk (Kd.R_lower (Kd.R_new' ho42 (Kd.R_lt (by (with_reducible repeat (first | apply Kd.R_alloc | apply Kd.R_drewN | apply Kd.R_drew)); exact HO_5.out))) (below_size (by repeat (first | (with_reducible first | exact HB.out | apply below_alloc | apply pw_below_drewN | apply below_drew1) | exact HB.out)))); have n2_ := Aside0.mk (below_step (by repeat (first | (with_reducible first | exact HB.out | apply below_alloc | apply pw_below_drewN | apply below_drew1) | exact HB.out)) hb); clear HO_5; clear HB; have HO_5 := n0_; have HO243 := n1_; have HB := n2_; clear n0_ n1_ n2_; clear hb ho42; obtain ⟨Ao43, co43, eo43⟩ := Kd.R_slice HO243.out; subst eo43) | ((with_reducible refine gate_callee (f := 45) rfl ?_); refine goesL_ (some 41) rfl rfl Tryd.func45 (by kernel_rfl) rfl #[.slice Ao43 y241.length co43, .int .i64 a1] rfl (by (try simp only [List.map_toArray, List.map_cons, List.map_nil]); first | done | rfl | (simp only [List.length_drop, List.length_take]; rfl)) ?_; (with_reducible refine (fairwayref0_In.calls kj22 _ _ y241 a1 t244 _ ?side1 ?side2 A40.out).mono ?_); (case side1 => repeat (first | exact (Kd.R_reads' HO243.out).2.2 | (with_reducible refine Kd.C_alloc ?_ _) | (with_reducible refine Kd.C_drewN ?_ _) | (with_reducible refine Kd.C_drew ?_))); (case side2 => exact (Kd.R_reads' HO243.out).2.1); rintro e w' ⟨rfl, ⟨nd, rfl⟩⟩; refine ⟨_, rfl, ?_⟩))
    go_ret
    exact ⟨by first | rfl | (simp [errW_none, errW_some] <;> rfl) | (simp [*, errW_none, errW_some] <;> rfl), by repeat (first | (with_reducible first | exact HB.out | apply below_alloc | apply pw_below_drewN | apply below_drew1) | exact HB.out)⟩
   rw [if_neg c39] at H
   have c39b0 : (a0 == 10) = false := beq_eq_false_iff_ne.mpr c39
   have c39b1 : (a0 != 10) = true := bne_iff_ne.mpr c39
   by_cases c44 : a0 = 14
   ·
    rw [if_pos c44] at H
    have c44b0 : (a0 == 14) = true := beq_iff_eq.mpr c44
    have c44b1 : (a0 != 14) = false := bne_eq_false_iff_eq.mpr c44
    clear c44
    obtain ⟨y245, hy245⟩ : ∃ y_ : List Int, y_ = (([17, 28, 31, 38] : List Int)) := ⟨_, rfl⟩
    replace H : ((fairwayref0_In.f kj22 y245 a1).bind fun t248 => (some (decide (t248 ≥ 0)))) = some r := by first | (rw [hy245]; with_reducible exact H) | (have H2_ := (Option.bind_some _ _).symm.trans H; rw [hy245]; with_reducible exact H2_) | (have H2_ := (Option.bind_some _ _).symm.trans H; with_reducible exact H2_) | with_reducible exact H | (rw [hy245]; exact H) | exact H
    have Ny245 := Aside0.mk hy245
    clear hy245
    replace H := Option.bind_eq_some_iff.mp H
    obtain ⟨t248, A450, H⟩ := H
    replace H : (some (decide (t248 ≥ 0))) = some r := H
    have A45 := Aside0.mk A450
    clear A450
    obtain rfl := Option.some.inj H
    go_wp2_with (first | ((with_reducible refine gate_dst (N := 35) rfl ?_); refine Kd.R_lit (Kd.int .i64) _ 3 ?hg (N := 35) ?hd (xs := ([17, 28, 31, 38] : List Int)) (inner := [.int .i64 17, .int .i64 28, .int .i64 31, .int .i64 38]) (ok := fun _ => True) (okp := fun _ => True) ?hr ?hp (fun _ hk => hk) trivial (Below.refl _ _) (Nat.le_refl _) (by simp) ?_; (case hd => rfl); (case hg => rfl); (case hr => first | (go_simp; done) | (go_simp; rfl)); (case hp => exact (Reps.one (show Kd.M (Kd.int .i64) _ _ _ 17 [.int .i64 17] from rfl) (Reps.one (show Kd.M (Kd.int .i64) _ _ _ 28 [.int .i64 28] from rfl) (Reps.one (show Kd.M (Kd.int .i64) _ _ _ 31 [.int .i64 31] from rfl) (Reps.one (show Kd.M (Kd.int .i64) _ _ _ 38 [.int .i64 38] from rfl) (Reps.none _ _)))))); intro v246 w46 ho47 hb hg_ hnew_; clear hg_ hnew_; (first | rw [← Ny245.out] at ho47 | (simp only [Int.reduceToNat] at ho47; rw [← Ny245.out] at ho47)); have n0_ := Aside0.mk (Kd.R_elder' (by (with_reducible repeat (first | apply Kd.R_alloc | apply Kd.R_drewN | apply Kd.R_drew)); exact HO_5.out) (Kd.R_base ho47) hb); have n1_ := Aside0.mk (Kd.R_lower (Kd.R_new' ho47 (Kd.R_lt (by (with_reducible repeat (first | apply Kd.R_alloc | apply Kd.R_drewN | apply Kd.R_drew)); exact HO_5.out))) (below_size (by repeat (first | (with_reducible first | exact HB.out | apply below_alloc | apply pw_below_drewN | apply below_drew1) | exact HB.out)))); have n2_ := Aside0.mk (below_step (by repeat (first | (with_reducible first | exact HB.out | apply below_alloc | apply pw_below_drewN | apply below_drew1) | exact HB.out)) hb); clear HO_5; clear HB; have HO_5 := n0_; have HO247 := n1_; have HB := n2_; clear n0_ n1_ n2_; clear hb ho47; obtain ⟨Ao48, co48, eo48⟩ := Kd.R_slice HO247.out; subst eo48) | ((with_reducible refine gate_callee (f := 45) rfl ?_); refine goesL_ (some 41) rfl rfl Tryd.func45 (by kernel_rfl) rfl #[.slice Ao48 y245.length co48, .int .i64 a1] rfl (by (try simp only [List.map_toArray, List.map_cons, List.map_nil]); first | done | rfl | (simp only [List.length_drop, List.length_take]; rfl)) ?_; (with_reducible refine (fairwayref0_In.calls kj22 _ _ y245 a1 t248 _ ?side1 ?side2 A45.out).mono ?_); (case side1 => repeat (first | exact (Kd.R_reads' HO247.out).2.2 | (with_reducible refine Kd.C_alloc ?_ _) | (with_reducible refine Kd.C_drewN ?_ _) | (with_reducible refine Kd.C_drew ?_))); (case side2 => exact (Kd.R_reads' HO247.out).2.1); rintro e w' ⟨rfl, ⟨nd, rfl⟩⟩; refine ⟨_, rfl, ?_⟩))
    go_ret
    exact ⟨by first | rfl | (simp [errW_none, errW_some] <;> rfl) | (simp [*, errW_none, errW_some] <;> rfl), by repeat (first | (with_reducible first | exact HB.out | apply below_alloc | apply pw_below_drewN | apply below_drew1) | exact HB.out)⟩
   rw [if_neg c44] at H
   have c44b0 : (a0 == 14) = false := beq_eq_false_iff_ne.mpr c44
   have c44b1 : (a0 != 14) = true := bne_iff_ne.mpr c44
   by_cases c49 : a0 = 15
   ·
    rw [if_pos c49] at H
    have c49b0 : (a0 == 15) = true := beq_iff_eq.mpr c49
    have c49b1 : (a0 != 15) = false := bne_eq_false_iff_eq.mpr c49
    clear c49
    obtain ⟨y249, hy249⟩ : ∃ y_ : List Int, y_ = (([21, 22, 31, 38] : List Int)) := ⟨_, rfl⟩
    replace H : ((fairwayref0_In.f kj22 y249 a1).bind fun t252 => (some (decide (t252 ≥ 0)))) = some r := by first | (rw [hy249]; with_reducible exact H) | (have H2_ := (Option.bind_some _ _).symm.trans H; rw [hy249]; with_reducible exact H2_) | (have H2_ := (Option.bind_some _ _).symm.trans H; with_reducible exact H2_) | with_reducible exact H | (rw [hy249]; exact H) | exact H
    have Ny249 := Aside0.mk hy249
    clear hy249
    replace H := Option.bind_eq_some_iff.mp H
    obtain ⟨t252, A500, H⟩ := H
    replace H : (some (decide (t252 ≥ 0))) = some r := H
    have A50 := Aside0.mk A500
    clear A500
    obtain rfl := Option.some.inj H
    go_wp2_with (first | ((with_reducible refine gate_dst (N := 38) rfl ?_); refine Kd.R_lit (Kd.int .i64) _ 3 ?hg (N := 38) ?hd (xs := ([21, 22, 31, 38] : List Int)) (inner := [.int .i64 21, .int .i64 22, .int .i64 31, .int .i64 38]) (ok := fun _ => True) (okp := fun _ => True) ?hr ?hp (fun _ hk => hk) trivial (Below.refl _ _) (Nat.le_refl _) (by simp) ?_; (case hd => rfl); (case hg => rfl); (case hr => first | (go_simp; done) | (go_simp; rfl)); (case hp => exact (Reps.one (show Kd.M (Kd.int .i64) _ _ _ 21 [.int .i64 21] from rfl) (Reps.one (show Kd.M (Kd.int .i64) _ _ _ 22 [.int .i64 22] from rfl) (Reps.one (show Kd.M (Kd.int .i64) _ _ _ 31 [.int .i64 31] from rfl) (Reps.one (show Kd.M (Kd.int .i64) _ _ _ 38 [.int .i64 38] from rfl) (Reps.none _ _)))))); intro v250 w51 ho52 hb hg_ hnew_; clear hg_ hnew_; (first | rw [← Ny249.out] at ho52 | (simp only [Int.reduceToNat] at ho52; rw [← Ny249.out] at ho52)); have n0_ := Aside0.mk (Kd.R_elder' (by (with_reducible repeat (first | apply Kd.R_alloc | apply Kd.R_drewN | apply Kd.R_drew)); exact HO_5.out) (Kd.R_base ho52) hb); have n1_ := Aside0.mk (Kd.R_lower (Kd.R_new' ho52 (Kd.R_lt (by (with_reducible repeat (first | apply Kd.R_alloc | apply Kd.R_drewN | apply Kd.R_drew)); exact HO_5.out))) (below_size (by repeat (first | (with_reducible first | exact HB.out | apply below_alloc | apply pw_below_drewN | apply below_drew1) | exact HB.out)))); have n2_ := Aside0.mk (below_step (by repeat (first | (with_reducible first | exact HB.out | apply below_alloc | apply pw_below_drewN | apply below_drew1) | exact HB.out)) hb); clear HO_5; clear HB; have HO_5 := n0_; have HO251 := n1_; have HB := n2_; clear n0_ n1_ n2_; clear hb ho52; obtain ⟨Ao53, co53, eo53⟩ := Kd.R_slice HO251.out; subst eo53) | ((with_reducible refine gate_callee (f := 45) rfl ?_); refine goesL_ (some 41) rfl rfl Tryd.func45 (by kernel_rfl) rfl #[.slice Ao53 y249.length co53, .int .i64 a1] rfl (by (try simp only [List.map_toArray, List.map_cons, List.map_nil]); first | done | rfl | (simp only [List.length_drop, List.length_take]; rfl)) ?_; (with_reducible refine (fairwayref0_In.calls kj22 _ _ y249 a1 t252 _ ?side1 ?side2 A50.out).mono ?_); (case side1 => repeat (first | exact (Kd.R_reads' HO251.out).2.2 | (with_reducible refine Kd.C_alloc ?_ _) | (with_reducible refine Kd.C_drewN ?_ _) | (with_reducible refine Kd.C_drew ?_))); (case side2 => exact (Kd.R_reads' HO251.out).2.1); rintro e w' ⟨rfl, ⟨nd, rfl⟩⟩; refine ⟨_, rfl, ?_⟩))
    go_ret
    exact ⟨by first | rfl | (simp [errW_none, errW_some] <;> rfl) | (simp [*, errW_none, errW_some] <;> rfl), by repeat (first | (with_reducible first | exact HB.out | apply below_alloc | apply pw_below_drewN | apply below_drew1) | exact HB.out)⟩
   rw [if_neg c49] at H
   have c49b0 : (a0 == 15) = false := beq_eq_false_iff_ne.mpr c49
   have c49b1 : (a0 != 15) = true := bne_iff_ne.mpr c49
   replace H := Option.bind_eq_some_iff.mp H
   obtain ⟨t253, A540, H⟩ := H
   replace H : (some (decide (t253 ≥ 0))) = some r := H
   have A54 := Aside0.mk A540
   clear A540
   obtain rfl := Option.some.inj H
   go_wp2_with (first | ((with_reducible refine gate_callee (f := 45) rfl ?_); refine goesL_ (some 41) rfl rfl Tryd.func45 (by kernel_rfl) rfl #[.slice none ([] : List Int).length 0, .int .i64 a1] rfl (by (try simp only [List.map_toArray, List.map_cons, List.map_nil]); first | done | (rw [show ([] : List Int).length = 0 from (Kd.R_reads' HO_5.out).1.symm] <;> rfl) | rfl | (simp only [List.length_drop, List.length_take]; rfl)) ?_; (with_reducible refine (fairwayref0_In.calls kj22 _ _ ([] : List Int) a1 t253 _ ?side1 ?side2 A54.out).mono ?_); (case side1 => repeat (first | exact (Kd.R_reads' HO_5.out).2.2 | (with_reducible refine Kd.C_alloc ?_ _) | (with_reducible refine Kd.C_drewN ?_ _) | (with_reducible refine Kd.C_drew ?_))); (case side2 => rw [show ([] : List Int).length = 0 from (Kd.R_reads' HO_5.out).1.symm]; exact (Kd.R_reads' HO_5.out).2.1); rintro e w' ⟨rfl, ⟨nd, rfl⟩⟩; refine ⟨_, rfl, ?_⟩))
   go_ret
   exact ⟨by first | rfl | (simp [errW_none, errW_some] <;> rfl) | (simp [*, errW_none, errW_some] <;> rfl), by repeat (first | (with_reducible first | exact HB.out | apply below_alloc | apply pw_below_drewN | apply below_drew1) | exact HB.out)⟩
mutual
def fairwayref4_twice.j0 : Nat → Int → List (S42) → Bool → Option (Bool)
  | 0, _, _, _ => none
  | k + 1, x1, x2, x17 => if x17 = true then (some false) else (fairwayref4_twice.l0 k x1 x2 0)
def fairwayref4_twice.l0 : Nat → Int → List (S42) → Int → Option (Bool)
  | 0, _, _, _ => none
  | k + 1, x1, x2, x7 => if x7 < (x2.length : Int) then (if 0 ≤ x7 then (if ((rd_T42 x2 x7).f0) = x1 then (some true) else (fairwayref4_twice.l0 k x1 x2 (wrap64 (x7 + 1)))) else (none)) else (some false)
end
def fairwayref4_twice.f (k : Nat) (a0 : Int) (a1 : Int) (l2 : List (S42)) : Option (Bool) := if a1 = 38 then (fairwayref4_twice.j0 k a1 l2 true) else (if a1 = 11 then (fairwayref4_twice.j0 k a1 l2 (a0 == 3)) else (fairwayref4_twice.j0 k a1 l2 false))
theorem fairwayref4_twice.mono_l : ∀ k, (∀ y0 y1 y2, LeO (fairwayref4_twice.j0 k y0 y1 y2) (fairwayref4_twice.j0 (k + 1) y0 y1 y2)) ∧ (∀ y0 y1 y2, LeO (fairwayref4_twice.l0 k y0 y1 y2) (fairwayref4_twice.l0 (k + 1) y0 y1 y2))
 | 0 => ⟨fun _ _ _ r h => by simp [fairwayref4_twice.j0] at h, fun _ _ _ r h => by simp [fairwayref4_twice.l0] at h⟩
 | k + 1 => by
  obtain ⟨ih0, ih1⟩ := fairwayref4_twice.mono_l k
  refine ⟨?_, ?_⟩
  ·
   intro y0 y1 y2
   unfold fairwayref4_twice.j0
   repeat' first
   | (with_reducible exact ih0 _ _ _)
   | (with_reducible exact ih1 _ _ _)
   | (with_reducible exact LeO.refl _)
   | (with_reducible exact LeO.none _)
   | (with_reducible refine LeO.ite ?_ ?_)
   | (with_reducible refine LeO.bind ?_ (fun _ => ?_))
   | exact ih0 _ _ _
   | exact ih1 _ _ _
   | exact LeO.none _
   | refine LeO.ite ?_ ?_
   | refine LeO.bind ?_ (fun _ => ?_)
  ·
   intro y0 y1 y2
   unfold fairwayref4_twice.l0
   repeat' first
   | (with_reducible exact ih0 _ _ _)
   | (with_reducible exact ih1 _ _ _)
   | (with_reducible exact LeO.refl _)
   | (with_reducible exact LeO.none _)
   | (with_reducible refine LeO.ite ?_ ?_)
   | (with_reducible refine LeO.bind ?_ (fun _ => ?_))
   | exact ih0 _ _ _
   | exact ih1 _ _ _
   | exact LeO.none _
   | refine LeO.ite ?_ ?_
   | refine LeO.bind ?_ (fun _ => ?_)
theorem fairwayref4_twice.mono : ∀ a0 a1 a2 k, LeO (fairwayref4_twice.f k a0 a1 a2) (fairwayref4_twice.f (k + 1) a0 a1 a2) := by
 intro a0 a1 a2 k
 obtain ⟨ih0, ih1⟩ := fairwayref4_twice.mono_l k
 unfold fairwayref4_twice.f
 repeat' first
   | (with_reducible exact ih0 _ _ _)
   | (with_reducible exact ih1 _ _ _)
   | (with_reducible exact LeO.refl _)
   | (with_reducible exact LeO.none _)
   | (with_reducible refine LeO.ite ?_ ?_)
   | (with_reducible refine LeO.bind ?_ (fun _ => ?_))
   | exact ih0 _ _ _
   | exact ih1 _ _ _
   | exact LeO.none _
   | refine LeO.ite ?_ ?_
   | refine LeO.bind ?_ (fun _ => ?_)
set_option maxHeartbeats 8000000 in
set_option maxRecDepth 100000 in
theorem fairwayref4_twice.calls (k : Nat) (a0 : Int) (a1 : Int) (A2 : Option Addr) (c2 : Nat) (l2 : List (S42)) (r : Bool) (w : World) (hr2 : Kd.C k42 w A2 l2.length l2) (hc2 : l2.length ≤ c2) (h : fairwayref4_twice.f k a0 a1 l2 = some r) :
  Calls Tryd.prog 32 #[.int .i64 a0, .int .i64 a1, .slice A2 l2.length c2] w fun e w' => e = .returned (.bool r) ∧ Drawn0 w w' := by
 have HR2 := Aside0.mk hr2
 have HC2 := Aside0.mk hc2
 clear hr2 hc2
 have H : (if a1 = 38 then (fairwayref4_twice.j0 k a1 l2 true) else (if a1 = 11 then (fairwayref4_twice.j0 k a1 l2 (a0 == 3)) else (fairwayref4_twice.j0 k a1 l2 false))) = some r := h
 clear h
 have HC4 := Aside0.mk H
 clear H
 go_enter Tryd.func32, Tryd.ntmps32
 go_upto_region 1 with (fail)
 go_cut [17] (fun v17 wc => ∃ (kq : Nat) (x17_3 : Bool), v17 = .bool x17_3 ∧ Aside0 (fairwayref4_twice.j0 kq a1 l2 x17_3 = some r) ∧ Aside0 (kq ≤ k) ∧ Drawn0 w wc)
 case first =>
  have H := HC4.out
  clear HC4
  by_cases c5 : a1 = 38
  ·
   rw [if_pos c5] at H
   have c5b0 : (a1 == 38) = true := beq_iff_eq.mpr c5
   have c5b1 : (a1 != 38) = false := bne_eq_false_iff_eq.mpr c5
   clear c5
   (first | rw [c5b0] | (simp only [i64_w, i32_w]; rw [c5b0]) | skip)
   have H' := Aside0.mk H
   clear H
   go_wp2
   go_meet
   case rel => exact ⟨_, (true), (by first | rfl | (simp; done) | (simp [*]; done)), H', ⟨by first | omega | exact Nat.le_refl _⟩, by repeat (first | exact Drawn0.refl _ | apply Drawn0.step)⟩
  rw [if_neg c5] at H
  have c5b0 : (a1 == 38) = false := beq_eq_false_iff_ne.mpr c5
  have c5b1 : (a1 != 38) = true := bne_iff_ne.mpr c5
  (first | rw [c5b0] | (simp only [i64_w, i32_w]; rw [c5b0]) | skip)
  by_cases c6 : a1 = 11
  ·
   rw [if_pos c6] at H
   have c6b0 : (a1 == 11) = true := beq_iff_eq.mpr c6
   have c6b1 : (a1 != 11) = false := bne_eq_false_iff_eq.mpr c6
   clear c6
   have H' := Aside0.mk H
   clear H
   go_wp2
   go_meet
   case rel => exact ⟨_, ((a0 == 3)), (by first | rfl | (simp; done) | (simp [*]; done)), H', ⟨by first | omega | exact Nat.le_refl _⟩, by repeat (first | exact Drawn0.refl _ | apply Drawn0.step)⟩
  rw [if_neg c6] at H
  have c6b0 : (a1 == 11) = false := beq_eq_false_iff_ne.mpr c6
  have c6b1 : (a1 != 11) = true := bne_iff_ne.mpr c6
  have H' := Aside0.mk H
  clear H
  go_wp2
  go_meet
  case rel => exact ⟨_, (false), (by first | rfl | (simp; done) | (simp [*]; done)), H', ⟨by first | omega | exact Nat.le_refl _⟩, by repeat (first | exact Drawn0.refl _ | apply Drawn0.step)⟩
 case rest =>
  clear HC4
  try clear c2
  try clear p2
  try clear c3
  try clear c5
  try clear c5b0
  try clear c5b1
  try clear c6
  try clear c6b0
  try clear c6b1
  obtain ⟨kq, x17_3, rfl, HA, HJ3, ⟨mc3, rfl⟩⟩ := hcut
  cases kq with
  | zero => exact absurd HA.out (by simp [fairwayref4_twice.j0])
  | succ kj3 =>
   have H := HA.out
   clear HA
   simp only [fairwayref4_twice.j0] at H
   by_cases c7 : x17_3 = true
   ·
    subst c7
    have H1 : (some false) = some r := by rw [if_pos rfl] at H; exact H
    clear H
    have H := H1
    clear H1
    obtain rfl := Option.some.inj H
    go_wp2
    go_ret
    exact ⟨by first | rfl | (simp; done) | (simp [*]; done), by repeat (first | exact Drawn0.refl _ | apply Drawn0.step)⟩
   replace c7 := Bool.eq_false_iff.mpr c7
   subst c7
   have H1 : (fairwayref4_twice.l0 kj3 a1 l2 0) = some r := by rw [if_neg (show ¬ (false = true) by decide)] at H; exact H
   clear H
   have H := H1
   clear H1
   have H' := Aside0.mk H
   clear H
   go_wp2
   go_loopg [7] kj3 (fun kq v7 w' => ∃ (x7_2 : Int), v7 = .int .i64 x7_2 ∧ Aside0 (fairwayref4_twice.l0 kq a1 l2 x7_2 = some r) ∧ Aside0 (kq ≤ kj3) ∧ Drawn0 w w')
   case atStart => exact ⟨(0), (by first | rfl | (simp; done) | (simp [*]; done)), H', ⟨Nat.le_refl _⟩, by repeat (first | exact Drawn0.refl _ | apply Drawn0.step)⟩
   case round =>
    clear H'
    try clear c2
    try clear p2
    try clear c3
    try clear c5
    try clear c5b0
    try clear c5b1
    try clear c6
    try clear c6b0
    try clear c6b1
    try clear c7
    try clear p2
    obtain ⟨x7_2, rfl, HA, HK2, ⟨m2, rfl⟩⟩ := hrel
    cases gk with
    | zero => exact absurd HA.out (by simp [fairwayref4_twice.l0])
    | succ k2 =>
     have H := HA.out
     clear HA
     simp only [fairwayref4_twice.l0] at H
     by_cases c8 : x7_2 < (l2.length : Int)
     ·
      rw [if_pos c8] at H
      have c8b0 : decide (x7_2 < (l2.length : Int)) = true := decide_eq_true c8
      clear c8
      by_cases c9 : 0 ≤ x7_2
      ·
       rw [if_pos c9] at H
       have c9b0 : decide (0 ≤ x7_2) = true := decide_eq_true c9
       clear c9
       by_cases c10 : ((rd_T42 l2 x7_2).f0) = a1
       ·
        rw [if_pos c10] at H
        have c10b0 : (((rd_T42 l2 x7_2).f0) == a1) = true := beq_iff_eq.mpr c10
        have c10b1 : (((rd_T42 l2 x7_2).f0) != a1) = false := bne_eq_false_iff_eq.mpr c10
        clear c10
        obtain rfl := Option.some.inj H
        have p254 : 0 ≤ (x7_2 : Int) := of_decide_eq_true (by first | (with_reducible assumption) | assumption)
        have q254 : x7_2 < (l2.length : Int) := of_decide_eq_true (by first | (with_reducible assumption) | assumption)
        obtain ⟨ad254, e254, hx254_0, hx254_1, hx254_2, hx254_3⟩ := at_T42 HR2.out x7_2 p254 q254
        cases e254
        replace p254 := eq_true p254
        replace q254 := eq_true q254
        go_wp2
        go_ret
        exact ⟨by first | rfl | (simp; done) | (simp [*]; done), by repeat (first | exact Drawn0.refl _ | apply Drawn0.step)⟩
       rw [if_neg c10] at H
       have c10b0 : (((rd_T42 l2 x7_2).f0) == a1) = false := beq_eq_false_iff_ne.mpr c10
       have c10b1 : (((rd_T42 l2 x7_2).f0) != a1) = true := bne_iff_ne.mpr c10
       have H' := Aside0.mk H
       clear H
       have p254 : 0 ≤ (x7_2 : Int) := of_decide_eq_true (by first | (with_reducible assumption) | assumption)
       have q254 : x7_2 < (l2.length : Int) := of_decide_eq_true (by first | (with_reducible assumption) | assumption)
       obtain ⟨ad254, e254, hx254_0, hx254_1, hx254_2, hx254_3⟩ := at_T42 HR2.out x7_2 p254 q254
       cases e254
       replace p254 := eq_true p254
       replace q254 := eq_true q254
       go_wp2
       go_roundg k2
       case measure => have := HJ3.out; have := HK2.out; omega
       case rel => exact ⟨(wrap64 (x7_2 + 1)), (by first | rfl | (simp; done) | (simp [*]; done)), H', ⟨by have := HJ3.out; have := HK2.out; omega⟩, by repeat (first | exact Drawn0.refl _ | apply Drawn0.step)⟩
      rw [if_neg c9] at H
      exact absurd H (by simp)
     rw [if_neg c8] at H
     have c8b0 : decide (x7_2 < (l2.length : Int)) = false := decide_eq_false c8
     clear c8
     obtain rfl := Option.some.inj H
     go_wp2
     go_ret
     exact ⟨by first | rfl | (simp; done) | (simp [*]; done), by repeat (first | exact Drawn0.refl _ | apply Drawn0.step)⟩
end Go.Proofs.YtiancopplinpcaaDoor.P
end
section
namespace Go.Proofs.YtiancopplinpcaaDoor.P
open Go.RowKit Go.Proofs.YtiancopplinpcaaDoorW.PrintWords Go.Proofs.YtiancopplinpcaaDoorW.PrintLast Go.Proofs.YtiancopplinpcaaDoorW.PrintMore
attribute [local go_sem] max2_int min2_int max_two min_two max_three min_three max_four min_four
set_option linter.unusedVariables false
set_option linter.unusedSimpArgs false
mutual
def fairwayref4_Props.j0 : Nat → Int → List (S42) → Bool → Option (Bool)
  | 0, _, _, _ => none
  | k + 1, x0, x1, x13 => if x13 = true then (some false) else (fairwayref4_Props.l0 k x0 x1 0)
def fairwayref4_Props.l0 : Nat → Int → List (S42) → Int → Option (Bool)
  | 0, _, _, _ => none
  | k + 1, x0, x1, x5 => if x5 < (x1.length : Int) then (if 0 ≤ x5 then ((fairwayref4_fits.f k ((rd_T42 x1 x5).f0) ((rd_T42 x1 x5).f1) ((rd_T42 x1 x5).f2) ((rd_T42 x1 x5).f3)).bind fun t257 => (if t257 = true then ((fairwayref4_stands.f k x0 ((rd_T42 x1 x5).f0)).bind fun t259 => (if t259 = true then (if x5 ≤ (x1.length : Int) then ((fairwayref4_twice.f k x0 ((rd_T42 x1 x5).f0) (x1.take (x5 : Int).toNat)).bind fun t265 => (if t265 = true then (some false) else (fairwayref4_Props.l0 k x0 x1 (wrap64 (x5 + 1))))) else (none)) else (some false))) else (some false))) else (none)) else (some true)
end
def fairwayref4_Props.f (k : Nat) (a0 : Int) (l1 : List (S42)) : Option (Bool) := (fairwayref4_Place.f a0).bind fun t255 => (if t255 = true then (fairwayref4_Props.j0 k a0 l1 (decide ((l1.length : Int) > 8))) else (fairwayref4_Props.j0 k a0 l1 true))
end Go.Proofs.YtiancopplinpcaaDoor.P
end
section
namespace Go.Proofs.YtiancopplinpcaaDoor.P
open Go.RowKit Go.Proofs.YtiancopplinpcaaDoorW.PrintWords Go.Proofs.YtiancopplinpcaaDoorW.PrintLast Go.Proofs.YtiancopplinpcaaDoorW.PrintMore
attribute [local go_sem] max2_int min2_int max_two min_two max_three min_three max_four min_four
set_option linter.unusedVariables false
set_option linter.unusedSimpArgs false
attribute [local go_sem high] eqA42
def prop_Check.f (k : Nat) (a0 : Int) (l1 : List (S42)) : Option (Int) := (prop_lay.f k a0 l1).bind fun bt291 => (if bt291.2 = true then (some 0) else (some 1))
def fairwayref0_EqProps.l0 : Nat → List (S42) → List (S42) → Int → Option (Bool)
  | 0, _, _, _ => none
  | k + 1, x0, x1, x5 => if x5 < (x0.length : Int) then (if 0 ≤ x5 then (if x5 < (x1.length : Int) then (if (!(((rd_T42 x0 x5).f0) == ((rd_T42 x1 x5).f0)) || (!(((rd_T42 x0 x5).f1) == ((rd_T42 x1 x5).f1)) || (!((((rd_T42 x0 x5).f2).toList) == (((rd_T42 x1 x5).f2).toList)) || (!((((rd_T42 x0 x5).f3).toList) == (((rd_T42 x1 x5).f3).toList)))))) = true then (some false) else (fairwayref0_EqProps.l0 k x0 x1 (wrap64 (x5 + 1)))) else (none)) else (none)) else (some true)
def fairwayref0_EqProps.f (k : Nat) (l0 : List (S42)) (l1 : List (S42)) : Option (Bool) := if (l0.length : Int) = (l1.length : Int) then (fairwayref0_EqProps.l0 k l0 l1 0) else (some false)
theorem fairwayref0_EqProps.mono_l : ∀ k, (∀ y0 y1 y2, LeO (fairwayref0_EqProps.l0 k y0 y1 y2) (fairwayref0_EqProps.l0 (k + 1) y0 y1 y2))
 | 0 => fun _ _ _ r h => by simp [fairwayref0_EqProps.l0] at h
 | k + 1 => by
  have ih0 := fairwayref0_EqProps.mono_l k
  ·
   intro y0 y1 y2
   unfold fairwayref0_EqProps.l0
   repeat' first
   | (with_reducible exact ih0 _ _ _)
   | (with_reducible exact LeO.refl _)
   | (with_reducible exact LeO.none _)
   | (with_reducible refine LeO.ite ?_ ?_)
   | (with_reducible refine LeO.bind ?_ (fun _ => ?_))
   | exact ih0 _ _ _
   | exact LeO.none _
   | refine LeO.ite ?_ ?_
   | refine LeO.bind ?_ (fun _ => ?_)
theorem fairwayref0_EqProps.mono : ∀ a0 a1 k, LeO (fairwayref0_EqProps.f k a0 a1) (fairwayref0_EqProps.f (k + 1) a0 a1) := by
 intro a0 a1 k
 have ih0 := fairwayref0_EqProps.mono_l k
 unfold fairwayref0_EqProps.f
 repeat' first
   | (with_reducible exact ih0 _ _ _)
   | (with_reducible exact LeO.refl _)
   | (with_reducible exact LeO.none _)
   | (with_reducible refine LeO.ite ?_ ?_)
   | (with_reducible refine LeO.bind ?_ (fun _ => ?_))
   | exact ih0 _ _ _
   | exact LeO.none _
   | refine LeO.ite ?_ ?_
   | refine LeO.bind ?_ (fun _ => ?_)
set_option maxHeartbeats 8000000 in
set_option maxRecDepth 100000 in
theorem fairwayref0_EqProps.calls (k : Nat) (A0 : Option Addr) (c0 : Nat) (l0 : List (S42)) (A1 : Option Addr) (c1 : Nat) (l1 : List (S42)) (r : Bool) (w : World) (hr0 : Kd.C k42 w A0 l0.length l0) (hc0 : l0.length ≤ c0) (hr1 : Kd.C k42 w A1 l1.length l1) (hc1 : l1.length ≤ c1) (h : fairwayref0_EqProps.f k l0 l1 = some r) :
  Calls Tryd.prog 21 #[.slice A0 l0.length c0, .slice A1 l1.length c1] w fun e w' => e = .returned (.bool r) ∧ Drawn0 w w' := by
 have hu42 := Tryd.underlying42
 have HR0 := Aside0.mk hr0
 have HC0 := Aside0.mk hc0
 clear hr0 hc0
 have HR1 := Aside0.mk hr1
 have HC1 := Aside0.mk hc1
 clear hr1 hc1
 have H : (if (l0.length : Int) = (l1.length : Int) then (fairwayref0_EqProps.l0 k l0 l1 0) else (some false)) = some r := h
 clear h
 by_cases c3 : (l0.length : Int) = (l1.length : Int)
 ·
  rw [if_pos c3] at H
  have c3b0 : ((l0.length : Int) == (l1.length : Int)) = true := beq_iff_eq.mpr c3
  have c3b1 : ((l0.length : Int) != (l1.length : Int)) = false := bne_eq_false_iff_eq.mpr c3
  have c3b2 : (l0.length == l1.length) = true := by first | simpa using c3 | (simp at c3 ⊢; omega)
  clear c3
  have H' := Aside0.mk H
  clear H
  go_enter Tryd.func21, Tryd.ntmps21
  go_wp2
  repeat (go_quiet (fail); try go_wp2)
  go_loopg [5] k (fun kq v5 w' => ∃ (x5_1 : Int), v5 = .int .i64 x5_1 ∧ Aside0 (fairwayref0_EqProps.l0 kq l0 l1 x5_1 = some r) ∧ Aside0 (kq ≤ k) ∧ Drawn0 w w')
  case atStart => exact ⟨(0), (by first | rfl | (simp; done) | (simp [*]; done)), H', ⟨Nat.le_refl _⟩, by repeat (first | exact Drawn0.refl _ | apply Drawn0.step)⟩
  case round =>
   clear H'
   try clear c1
   try clear c2
   try clear p2
   try clear c3
   try clear c3b0
   try clear c3b1
   try clear c3b2
   obtain ⟨x5_1, rfl, HA, HK1, ⟨m1, rfl⟩⟩ := hrel
   cases gk with
   | zero => exact absurd HA.out (by simp [fairwayref0_EqProps.l0])
   | succ k1 =>
    have H := HA.out
    clear HA
    simp only [fairwayref0_EqProps.l0] at H
    by_cases c4 : x5_1 < (l0.length : Int)
    ·
     rw [if_pos c4] at H
     have c4b0 : decide (x5_1 < (l0.length : Int)) = true := decide_eq_true c4
     clear c4
     by_cases c5 : 0 ≤ x5_1
     ·
      rw [if_pos c5] at H
      have c5b0 : decide (0 ≤ x5_1) = true := decide_eq_true c5
      clear c5
      by_cases c6 : x5_1 < (l1.length : Int)
      ·
       rw [if_pos c6] at H
       have c6b0 : decide (x5_1 < (l1.length : Int)) = true := decide_eq_true c6
       clear c6
       by_cases c7 : (!(((rd_T42 l0 x5_1).f0) == ((rd_T42 l1 x5_1).f0)) || (!(((rd_T42 l0 x5_1).f1) == ((rd_T42 l1 x5_1).f1)) || (!((((rd_T42 l0 x5_1).f2).toList) == (((rd_T42 l1 x5_1).f2).toList)) || (!((((rd_T42 l0 x5_1).f3).toList) == (((rd_T42 l1 x5_1).f3).toList)))))) = true
       ·
        rw [if_pos c7] at H
        have c7b0 : (!(((rd_T42 l0 x5_1).f0) == ((rd_T42 l1 x5_1).f0)) || (!(((rd_T42 l0 x5_1).f1) == ((rd_T42 l1 x5_1).f1)) || (!((((rd_T42 l0 x5_1).f2).toList) == (((rd_T42 l1 x5_1).f2).toList)) || (!((((rd_T42 l0 x5_1).f3).toList) == (((rd_T42 l1 x5_1).f3).toList)))))) = true := c7
        clear c7
        obtain rfl := Option.some.inj H
        have p293 : 0 ≤ (x5_1 : Int) := of_decide_eq_true (by first | (with_reducible assumption) | assumption)
        have q293 : x5_1 < (l0.length : Int) := of_decide_eq_true (by first | (with_reducible assumption) | assumption)
        obtain ⟨ad293, e293, hx293_0, hx293_1, hx293_2, hx293_3⟩ := at_T42 HR0.out x5_1 p293 q293
        cases e293
        replace p293 := eq_true p293
        replace q293 := eq_true q293
        have p294 : 0 ≤ (x5_1 : Int) := of_decide_eq_true (by first | (with_reducible assumption) | assumption)
        have q294 : x5_1 < (l1.length : Int) := of_decide_eq_true (by first | (with_reducible assumption) | assumption)
        obtain ⟨ad294, e294, hx294_0, hx294_1, hx294_2, hx294_3⟩ := at_T42 HR1.out x5_1 p294 q294
        cases e294
        replace p294 := eq_true p294
        replace q294 := eq_true q294
        go_wp2
        repeat (go_quiet (fail); try go_wp2)
        go_ret
        exact ⟨by first | rfl | (simp; done) | (simp [*]; done), by repeat (first | exact Drawn0.refl _ | apply Drawn0.step)⟩
       rw [if_neg c7] at H
       have c7b0 : (!(((rd_T42 l0 x5_1).f0) == ((rd_T42 l1 x5_1).f0)) || (!(((rd_T42 l0 x5_1).f1) == ((rd_T42 l1 x5_1).f1)) || (!((((rd_T42 l0 x5_1).f2).toList) == (((rd_T42 l1 x5_1).f2).toList)) || (!((((rd_T42 l0 x5_1).f3).toList) == (((rd_T42 l1 x5_1).f3).toList)))))) = false := by simpa using c7
       clear c7
       have H' := Aside0.mk H
       clear H
       have p293 : 0 ≤ (x5_1 : Int) := of_decide_eq_true (by first | (with_reducible assumption) | assumption)
       have q293 : x5_1 < (l0.length : Int) := of_decide_eq_true (by first | (with_reducible assumption) | assumption)
       obtain ⟨ad293, e293, hx293_0, hx293_1, hx293_2, hx293_3⟩ := at_T42 HR0.out x5_1 p293 q293
       cases e293
       replace p293 := eq_true p293
       replace q293 := eq_true q293
       have p294 : 0 ≤ (x5_1 : Int) := of_decide_eq_true (by first | (with_reducible assumption) | assumption)
       have q294 : x5_1 < (l1.length : Int) := of_decide_eq_true (by first | (with_reducible assumption) | assumption)
       obtain ⟨ad294, e294, hx294_0, hx294_1, hx294_2, hx294_3⟩ := at_T42 HR1.out x5_1 p294 q294
       cases e294
       replace p294 := eq_true p294
       replace q294 := eq_true q294
       go_wp2
       repeat (go_quiet (fail); try go_wp2)
       go_roundg k1
       case measure => have := HK1.out; omega
       case rel => exact ⟨(wrap64 (x5_1 + 1)), (by first | rfl | (simp; done) | (simp [*]; done)), H', ⟨by have := HK1.out; omega⟩, by repeat (first | exact Drawn0.refl _ | apply Drawn0.step)⟩
      rw [if_neg c6] at H
      exact absurd H (by simp)
     rw [if_neg c5] at H
     exact absurd H (by simp)
    rw [if_neg c4] at H
    have c4b0 : decide (x5_1 < (l0.length : Int)) = false := decide_eq_false c4
    clear c4
    obtain rfl := Option.some.inj H
    go_wp2
    repeat (go_quiet (fail); try go_wp2)
    go_ret
    exact ⟨by first | rfl | (simp; done) | (simp [*]; done), by repeat (first | exact Drawn0.refl _ | apply Drawn0.step)⟩
 rw [if_neg c3] at H
 have c3b0 : ((l0.length : Int) == (l1.length : Int)) = false := beq_eq_false_iff_ne.mpr c3
 have c3b1 : ((l0.length : Int) != (l1.length : Int)) = true := bne_iff_ne.mpr c3
 have c3b2 : (l0.length == l1.length) = false := by first | simpa using c3 | (simp at c3 ⊢; omega)
 obtain rfl := Option.some.inj H
 go_enter Tryd.func21, Tryd.ntmps21
 go_wp2
 repeat (go_quiet (fail); try go_wp2)
 go_ret
 exact ⟨by first | rfl | (simp; done) | (simp [*]; done), by repeat (first | exact Drawn0.refl _ | apply Drawn0.step)⟩
mutual
def fairwaylaw4_PropBytes.l0 : Nat → List (S25) → Int → Option (Bool)
  | 0, _, _ => none
  | k + 1, x0, x3 => if x3 < (x0.length : Int) then (fairwaylaw4_PropBytes.j1 k x0 x3 (decide (x3 < 10))) else (fairwaylaw4_PropBytes.j1 k x0 x3 false)
def fairwaylaw4_PropBytes.j1 : Nat → List (S25) → Int → Bool → Option (Bool)
  | 0, _, _, _ => none
  | k + 1, x0, x3, x18 => if x18 = true then (if 0 ≤ x3 then (if x3 < (x0.length : Int) then ((fairwaylaw4_heavy.f k ((rd_T25 x0 x3).f0) ((rd_T25 x0 x3).f1) ((rd_T25 x0 x3).f2)).bind fun t298 => (if t298 = true then (some true) else (fairwaylaw4_PropBytes.l1 k x0 x3 (-1) ((rd_T25 x0 x3).f0) ((rd_T25 x0 x3).f1) ((rd_T25 x0 x3).f2)))) else (none)) else (none)) else ((fairwaylaw4_wakes.f k).bind fun t295 => (some t295))
def fairwaylaw4_PropBytes.l1 : Nat → List (S25) → Int → Int → Int → List (S42) → ByteArray → Option (Bool)
  | 0, _, _, _, _, _, _ => none
  | k + 1, x0, x3, x5, x298000, x298001, x298002 => if x5 ≤ 16 then ((fairwayref0_CopyProps.f k x298001).bind fun t299 => ((prop_Bytes.f k x5 t299).bind fun bt302 => ((fairwayref4_Props.f k x5 x298001).bind fun t304 => (if t304 = true then ((fairwayref4_PropBytes.f k x298001).bind fun t305 => (fairwaylaw4_PropBytes.j3 k x0 x3 x5 t299 bt302.1 bt302.2 0 t305 x298000 x298001 x298002)) else (fairwaylaw4_PropBytes.j3 k x0 x3 x5 t299 bt302.1 bt302.2 1 (⟨#[]⟩ : ByteArray) x298000 x298001 x298002))))) else (fairwaylaw4_PropBytes.l0 k x0 (wrap64 (x3 + 1)))
def fairwaylaw4_PropBytes.j3 : Nat → List (S25) → Int → Int → List (S42) → ByteArray → Int → Int → ByteArray → Int → List (S42) → ByteArray → Option (Bool)
  | 0, _, _, _, _, _, _, _, _, _, _, _ => none
  | k + 1, x0, x3, x5, x6, x7, x8, x9, x10, x298000, x298001, x298002 => (prop_Check.f k x5 x6).bind fun t306 => ((fairwaylaw4_num.f t306).bind fun t307 => (if t307 = x9 then ((fairwaylaw4_num.f x8).bind fun t308 => (if t308 = x9 then (if x7.toList = x10.toList then ((fairwayref0_EqProps.f k x6 x298001).bind fun t309 => (if t309 = true then (fairwaylaw4_PropBytes.l1 k x0 x3 (wrap64 (x5 + 1)) x298000 x298001 x298002) else (some false))) else (some false)) else (some false))) else (some false)))
end
def fairwaylaw4_PropBytes.f (k : Nat) (l0 : List (S25)) : Option (Bool) := fairwaylaw4_PropBytes.l0 k l0 0
end Go.Proofs.YtiancopplinpcaaDoor.P
end
section
namespace Go.Proofs.YtiancopplinpcaaDoor.P
open Go.RowKit Go.Proofs.YtiancopplinpcaaDoorW.PrintWords Go.Proofs.YtiancopplinpcaaDoorW.PrintLast Go.Proofs.YtiancopplinpcaaDoorW.PrintMore
set_option linter.unusedSimpArgs false
set_option linter.unusedVariables false
theorem w64 {n : Int} (h0 : -9223372036854775808 ≤ n) (h1 : n ≤ 9223372036854775807) : wrap64 n = n := by unfold wrap64; omega
theorem wraps_i64 (n : Int) (h₀ : 0 ≤ n) (h₁ : n < 2 ^ 63) : IntKind.i64.wrap n = n := by rw [IntKind.wrap_i64]; omega
theorem bt_lo (s : ByteArray) (i : Int) : 0 ≤ bt s i := (bt_range s i).1
theorem bt_hi (s : ByteArray) (i : Int) : bt s i ≤ 255 := (bt_range s i).2
theorem w64bt (s : ByteArray) (i : Int) : wrap64 (bt s i) = bt s i := w64 (by have := bt_lo s i; omega) (by have := bt_hi s i; omega)
theorem and127 {x : Int} (h0 : 0 ≤ x) (h1 : x < 9223372036854775808) : Go.bits .and .i64 x 127 = x % 128 :=
  bits_mask .i64 63 (by decide) wraps_i64 7 (by decide) x h0 (by simpa using h1)
theorem or128 {x : Int} (h0 : 0 ≤ x) (h1 : x < 128) : Go.bits .or .i64 x 128 = x + 128 := by
  obtain ⟨a, rfl⟩ := Int.eq_ofNat_of_zero_le h0
  have h := (bits_nat .i64 63 (by decide) wraps_i64 a 128 (by have : a < 128 := by omega
                                                              exact Nat.lt_of_lt_of_le this (by decide)) (by decide)).2
  have e : a ||| 128 = a + 128 := by
    have : a < 2 ^ 7 := by omega
    rw [Nat.or_comm, show (128 : Nat) = 2 ^ 7 * 1 from rfl, ← Nat.two_pow_add_eq_or_of_lt this 1, Nat.add_comm]
  rw [e] at h
  simpa using h
theorem or_shl {x y : Int} (m : Nat) (hx : 0 ≤ x) (hx1 : x < 2 ^ m) (hy : 0 ≤ y) (hm : y * 2 ^ m + 2 ^ m ≤ 9223372036854775808) : Go.bits .or .i64 x (y * 2 ^ m) = x + y * 2 ^ m := by
  obtain ⟨a, rfl⟩ := Int.eq_ofNat_of_zero_le hx
  obtain ⟨b, rfl⟩ := Int.eq_ofNat_of_zero_le hy
  have ha : a < 2 ^ m := by exact_mod_cast hx1
  have hb : b * 2 ^ m + 2 ^ m ≤ 9223372036854775808 := by
    have e : (((b * 2 ^ m + 2 ^ m : Nat)) : Int) = (b : Int) * 2 ^ m + 2 ^ m := by simp
    omega
  have hp : 0 < 2 ^ m := Nat.two_pow_pos m
  have h := (bits_nat .i64 63 (by decide) wraps_i64 a (b * 2 ^ m) (Nat.lt_of_lt_of_le (by omega) (show 9223372036854775808 ≤ 2 ^ 63 by decide)) (Nat.lt_of_lt_of_le (by omega) (show 9223372036854775808 ≤ 2 ^ 63 by decide))).2
  rw [Nat.or_comm, show b * 2 ^ m = 2 ^ m * b from Nat.mul_comm _ _, ← Nat.two_pow_add_eq_or_of_lt ha b] at h
  have e : ((b : Int) * 2 ^ m) = ((2 ^ m * b : Nat) : Int) := by rw [Nat.mul_comm]; simp
  rw [e, h]
  simp [Int.add_comm]
theorem or_byte {x y : Int} (hx : 0 ≤ x) (hx1 : x < 36028797018963968) (hy : 0 ≤ y) (hy1 : y < 256) : Go.bits .or .i64 (x * 256) y = x * 256 + y :=
  bits_join .i64 63 (by decide) wraps_i64 8 (x * 256) y (by omega) (by omega) (by omega) hy (by omega) (by omega)
def vb (n : Nat) : List Int := if n < 128 then [(n : Int)] else ((n % 128 + 128 : Nat) : Int) :: vb (n / 128)
termination_by n
decreasing_by omega
theorem vb_small {n : Nat} (h : n < 128) : vb n = [(n : Int)] := by rw [vb, if_pos h]
theorem vb_big {n : Nat} (h : 128 ≤ n) : vb n = ((n % 128 + 128 : Nat) : Int) :: vb (n / 128) := by rw [vb, if_neg (by omega)]
theorem num_loop (n : Nat) : ∀ (k : Nat) (acc : List Int), n < k → (acc.length : Int) + n < 140737488355328 → vbi_Num.l0 k (n : Int) acc = some (strOfNums (acc ++ vb n), 0) := by
  induction n using Nat.strongRecOn with
  | _ n ih =>
    intro k acc hk hl
    obtain ⟨k, rfl⟩ : ∃ m, k = m + 1 := ⟨k - 1, by omega⟩
    simp only [vbi_Num.l0]
    rw [if_pos (show acc.length < 140737488355328 by omega)]
    by_cases h : n < 128
    · rw [if_neg (by omega), vb_small h, if_pos (by omega)]
      rw [show (n : Int) % 256 = n by omega]
    · have e : (Go.bits .or .i64 (Go.bits .and .i64 (n : Int) 127) 128) % 256 = ((n % 128 + 128 : Nat) : Int) := by
        rw [and127 (by omega) (by omega), or128 (by omega) (by omega)]; omega
      rw [if_pos (by omega), vb_big (by omega), e, show (n : Int) / 128 = ((n / 128 : Nat) : Int) by omega]
      rw [ih (n / 128) (by omega) k _ (by omega) (by simp; omega)]
      simp
def numOf (n : Int) : ByteArray := strOfNums (vb n.toNat)
theorem num_ok {n : Int} (h0 : 0 ≤ n) (h1 : n ≤ 268435455) : Ev (fun k => vbi_Num.f k n) (numOf n, 0) := by
  refine ⟨n.toNat + 3, fun k hk => ?_⟩
  obtain ⟨k, rfl⟩ : ∃ m, k = m + 1 := ⟨k - 1, by omega⟩
  obtain ⟨m, rfl⟩ := Int.eq_ofNat_of_zero_le h0
  dsimp only
  unfold vbi_Num.f
  rw [if_neg (by omega)]
  simp only [vbi_Num.j0]
  rw [if_neg (by simp; omega), num_loop m k [] (by omega) (by simp; omega)]
  rfl
def tk (s : ByteArray) : Nat → Nat → Int → Int × Int × Int
  | 0, _, _ => (0, 0, 8)
  | d + 1, i, n => if s.size ≤ i then (0, 0, 7) else if 128 ≤ bt s i then tk s d (i + 1) (n + bt s i % 128 * 2 ^ (7 * i)) else if bt s i = 0 ∧ 0 < i then (0, 0, 8) else (n + bt s i % 128 * 2 ^ (7 * i), ((i + 1 : Nat) : Int), 0)
def tkn (s : ByteArray) : Int × Int × Int := tk s 4 0 0
theorem w7 (i : Nat) (hi : i < 4) : wrap64 (7 * (i : Int)) = ((7 * i : Nat) : Int) := by unfold wrap64; omega
theorem tk_step (i : Nat) (hi : i < 4) (n : Int) (h0 : 0 ≤ n) (h1 : n < 2 ^ (7 * i)) (c : Int) (hc0 : 0 ≤ c) (hc1 : c < 128) :
    Go.bits .or .i64 n (shl .i64 c (wrap64 (7 * (i : Int)))) = n + c * 2 ^ (7 * i) ∧ 0 ≤ n + c * 2 ^ (7 * i) ∧ n + c * 2 ^ (7 * i) < 2 ^ (7 * (i + 1)) := by
  have hw := w7 i hi
  have hs : shl .i64 c (wrap64 (7 * (i : Int))) = c * 2 ^ (7 * i) := by
    unfold shl
    rw [hw, Int.toNat_natCast, Nat.min_eq_left (by simp [IntKind.bits]; omega)]
    refine wraps_i64 _ ?_ ?_
    · exact Int.mul_nonneg hc0 (Int.pow_nonneg (by decide))
    · rcases (show i = 0 ∨ i = 1 ∨ i = 2 ∨ i = 3 by omega) with rfl | rfl | rfl | rfl <;> omega
  rw [hs]
  rcases (show i = 0 ∨ i = 1 ∨ i = 2 ∨ i = 3 by omega) with rfl | rfl | rfl | rfl
  all_goals refine ⟨or_shl _ h0 h1 hc0 (by omega), by omega, by omega⟩
theorem take_loop (s : ByteArray) (d : Nat) : ∀ (i : Nat) (n : Int) (k : Nat), i + d = 4 → 0 < d → 0 ≤ n → n < 2 ^ (7 * i) → 3 * d < k → vbi_TakeNum.l0 k s n (i : Int) = some (tk s d i n) := by
  induction d with
  | zero => intro i n k _ h; omega
  | succ d ih =>
    intro i n k hid _ h0 h1 hk
    obtain ⟨k, rfl⟩ : ∃ m, k = m + 3 := ⟨k - 3, by omega⟩
    have hb0 := bt_lo s i; have hb1 := bt_hi s i
    simp only [vbi_TakeNum.l0, tk]
    by_cases hs : s.size ≤ i
    · rw [if_neg (by omega), if_pos hs]
    · rw [if_pos (by omega), if_pos (by omega), if_pos (by rw [w7 i (by omega)]; exact Int.natCast_nonneg _), if_neg hs, w64bt, and127 hb0 (by omega)]
      obtain ⟨hv, hv0, hv1⟩ := tk_step i (by omega) n h0 h1 (bt s i % 128) (by omega) (by omega)
      rw [hv, w64 (n := (i : Int) + 1) (by omega) (by omega)]
      by_cases hc : 128 ≤ bt s i
      · rw [if_pos (by omega), if_pos hc]
        simp only [vbi_TakeNum.j1]
        by_cases h4 : (i : Int) + 1 = 4
        · have : d = 0 := by omega
          subst this
          rw [if_pos (by simp [h4])]
          simp only [vbi_TakeNum.j2]
          rw [if_pos (by simp [h4])]
          rfl
        · rw [if_neg (by simp [h4]), if_neg (by omega)]
          simp only [vbi_TakeNum.j2]
          rw [if_neg (by simp), if_neg (by omega)]
          exact ih (i + 1) _ k (by omega) (by omega) hv0 hv1 (by omega)
      · rw [if_neg (by omega), if_neg hc]
        simp only [vbi_TakeNum.j1]
        rw [if_neg (by simp)]
        by_cases hz : bt s i = 0
        · rw [if_pos hz]
          simp only [vbi_TakeNum.j2]
          by_cases hp : 0 < i
          · rw [if_pos (by simp; omega), if_pos ⟨hz, hp⟩]
          · rw [if_neg (by simp; omega), if_pos (by omega), if_neg (by omega)]
            rfl
        · rw [if_neg hz]
          simp only [vbi_TakeNum.j2]
          rw [if_neg (by simp), if_pos (by omega), if_neg (by omega)]
          rfl
theorem take_ev (s : ByteArray) : Ev (fun k => vbi_TakeNum.f k s) (tkn s) :=
  ⟨20, fun k hk => take_loop s 4 0 0 k rfl (by decide) (by decide) (by decide) (by omega)⟩
theorem ref_take_loop (s : ByteArray) (d : Nat) : ∀ (i : Nat) (n : Int) (k : Nat), i + d = 4 → 0 ≤ n → n < 2 ^ (7 * i) → d < k → fairwayref1_TakeNum.l0 k s n (i : Int) = some (tk s d i n) := by
  induction d with
  | zero =>
    intro i n k hid _ _ hk
    obtain ⟨k, rfl⟩ : ∃ m, k = m + 1 := ⟨k - 1, by omega⟩
    simp only [fairwayref1_TakeNum.l0, tk]
    rw [if_neg (by omega)]
  | succ d ih =>
    intro i n k hid h0 h1 hk
    obtain ⟨k, rfl⟩ : ∃ m, k = m + 1 := ⟨k - 1, by omega⟩
    have hb0 := bt_lo s i; have hb1 := bt_hi s i
    simp only [fairwayref1_TakeNum.l0, tk]
    rw [if_pos (by omega)]
    by_cases hs : s.size ≤ i
    · rw [if_pos (by omega), if_pos hs]
    · rw [if_neg (by omega), if_pos (by omega), if_pos (by omega), if_pos (by rw [w7 i (by omega)]; exact Int.natCast_nonneg _), if_neg hs, w64bt, Int.tmod_eq_emod_of_nonneg hb0]
      obtain ⟨hv, hv0, hv1⟩ := tk_step i (by omega) n h0 h1 (bt s i % 128) (by omega) (by omega)
      rw [hv, w64 (n := (i : Int) + 1) (by omega) (by omega)]
      by_cases hc : 128 ≤ bt s i
      · rw [if_neg (by omega), if_pos hc]
        exact ih (i + 1) _ k (by omega) hv0 hv1 (by omega)
      · rw [if_pos (by omega), if_neg hc]
        by_cases hz : bt s i = 0
        · rw [if_pos hz]
          by_cases hp : 0 < i
          · rw [if_pos (by omega), if_pos ⟨hz, hp⟩]
          · rw [if_neg (by omega), if_neg (by omega)]
            rfl
        · rw [if_neg hz, if_neg (by omega)]
          rfl
theorem ref_take_ev (s : ByteArray) : Ev (fun k => fairwayref1_TakeNum.f k s) (tkn s) :=
  ⟨20, fun k hk => ref_take_loop s 4 0 0 k rfl (by decide) (by decide) (by omega)⟩
def two (n : Int) : ByteArray := strOfNums [n / 256 % 256, n % 256]
def four (n : Int) : ByteArray := strOfNums [n / 16777216 % 256, n / 65536 % 256, n / 256 % 256, n % 256]
def val2 (s : ByteArray) : Int := bt s 0 * 256 + bt s 1
def val4 (s : ByteArray) : Int := ((bt s 0 * 256 + bt s 1) * 256 + bt s 2) * 256 + bt s 3
theorem or00 {y : Int} (hy : 0 ≤ y) (hy1 : y < 256) : Go.bits .or .i64 (wrap64 (0 * 256)) y = y := by
  have := or_byte (x := 0) (by decide) (by decide) hy hy1
  rw [show wrap64 (0 * 256) = 0 * 256 by unfold wrap64; omega, this]; omega
theorem orb {x y : Int} (hx : 0 ≤ x) (hx1 : x < 36028797018963968) (hy : 0 ≤ y) (hy1 : y < 256) : Go.bits .or .i64 (wrap64 (x * 256)) y = x * 256 + y := by
  rw [w64 (by omega) (by omega), or_byte hx hx1 hy hy1]
theorem takeTwo_ev (s : ByteArray) : Ev (fun k => vbi_TakeTwo.f k s) (if (s.size : Int) < 2 then (0, 7) else (val2 s, 0)) := by
  refine ⟨10, fun k hk => ?_⟩
  obtain ⟨k, rfl⟩ : ∃ m, k = m + 10 := ⟨k - 10, by omega⟩
  dsimp only
  unfold vbi_TakeTwo.f vbi_taken.f
  by_cases h : (s.size : Int) < 2
  · rw [if_pos h, if_pos h]; rfl
  · have h0 := bt_range s 0; have h1 := bt_range s 1
    rw [if_neg h, if_neg h]
    simp only [vbi_taken.l0, show wrap64 (0 + 1) = 1 by unfold wrap64; omega, show wrap64 (1 + 1) = 2 by unfold wrap64; omega, w64bt, or00 h0.1 (show bt s 0 < 256 by omega), orb h0.1 (show bt s 0 < 36028797018963968 by omega) h1.1 (show bt s 1 < 256 by omega),
      show (0 : Int) < 2 by decide, show (1 : Int) < 2 by decide, Int.lt_irrefl, Int.le_refl, show (0 : Int) ≤ 1 by decide, show (0 : Int) < (s.size : Int) by omega, show (1 : Int) < (s.size : Int) by omega, if_true, if_false, Option.bind_some]
    rfl
theorem takeFour_ev (s : ByteArray) : Ev (fun k => vbi_TakeFour.f k s) (if (s.size : Int) < 4 then (0, 7) else (val4 s, 0)) := by
  refine ⟨10, fun k hk => ?_⟩
  obtain ⟨k, rfl⟩ : ∃ m, k = m + 10 := ⟨k - 10, by omega⟩
  dsimp only
  unfold vbi_TakeFour.f vbi_taken.f
  by_cases h : (s.size : Int) < 4
  · rw [if_pos h, if_pos h]; rfl
  · have h0 := bt_range s 0; have h1 := bt_range s 1; have h2 := bt_range s 2; have h3 := bt_range s 3
    rw [if_neg h, if_neg h]
    simp only [vbi_taken.l0, show wrap64 (0 + 1) = 1 by unfold wrap64; omega, show wrap64 (1 + 1) = 2 by unfold wrap64; omega, show wrap64 (2 + 1) = 3 by unfold wrap64; omega, show wrap64 (3 + 1) = 4 by unfold wrap64; omega, w64bt, or00 h0.1 (show bt s 0 < 256 by omega), orb h0.1 (show bt s 0 < 36028797018963968 by omega) h1.1 (show bt s 1 < 256 by omega),
      orb (show 0 ≤ bt s 0 * 256 + bt s 1 by omega) (show bt s 0 * 256 + bt s 1 < 36028797018963968 by omega) h2.1 (show bt s 2 < 256 by omega), orb (show 0 ≤ (bt s 0 * 256 + bt s 1) * 256 + bt s 2 by omega) (show (bt s 0 * 256 + bt s 1) * 256 + bt s 2 < 36028797018963968 by omega) h3.1 (show bt s 3 < 256 by omega),
      show (0 : Int) < 4 by decide, show (1 : Int) < 4 by decide, show (2 : Int) < 4 by decide, show (3 : Int) < 4 by decide, Int.lt_irrefl, Int.le_refl, show (0 : Int) ≤ 1 by decide, show (0 : Int) ≤ 2 by decide, show (0 : Int) ≤ 3 by decide, show (0 : Int) < (s.size : Int) by omega, show (1 : Int) < (s.size : Int) by omega, show (2 : Int) < (s.size : Int) by omega, show (3 : Int) < (s.size : Int) by omega, if_true, if_false, Option.bind_some]
    rfl
theorem ref_take1_ev (s : ByteArray) : Ev (fun k => fairwayref1_TakeFixed.f k s 1) (if (s.size : Int) < 1 then (0, false) else (bt s 0, true)) := by
  refine ⟨10, fun k hk => ?_⟩
  obtain ⟨k, rfl⟩ : ∃ m, k = m + 10 := ⟨k - 10, by omega⟩
  dsimp only
  unfold fairwayref1_TakeFixed.f
  by_cases h : (s.size : Int) < 1
  · rw [if_pos h, if_pos h]
  · have h0 := bt_range s 0
    rw [if_neg h, if_neg h]
    simp only [fairwayref1_TakeFixed.l0, show wrap64 (0 + 1) = 1 by unfold wrap64; omega, w64bt, or00 h0.1 (show bt s 0 < 256 by omega),
      show (0 : Int) < 1 by decide, Int.lt_irrefl, Int.le_refl, show (0 : Int) < (s.size : Int) by omega, if_true, if_false]
theorem ref_take2_ev (s : ByteArray) : Ev (fun k => fairwayref1_TakeFixed.f k s 2) (if (s.size : Int) < 2 then (0, false) else (val2 s, true)) := by
  refine ⟨10, fun k hk => ?_⟩
  obtain ⟨k, rfl⟩ : ∃ m, k = m + 10 := ⟨k - 10, by omega⟩
  dsimp only
  unfold fairwayref1_TakeFixed.f
  by_cases h : (s.size : Int) < 2
  · rw [if_pos h, if_pos h]
  · have h0 := bt_range s 0; have h1 := bt_range s 1
    rw [if_neg h, if_neg h]
    simp only [fairwayref1_TakeFixed.l0, show wrap64 (0 + 1) = 1 by unfold wrap64; omega, show wrap64 (1 + 1) = 2 by unfold wrap64; omega, w64bt, or00 h0.1 (show bt s 0 < 256 by omega), orb h0.1 (show bt s 0 < 36028797018963968 by omega) h1.1 (show bt s 1 < 256 by omega),
      show (0 : Int) < 2 by decide, show (1 : Int) < 2 by decide, Int.lt_irrefl, Int.le_refl, show (0 : Int) ≤ 1 by decide, show (0 : Int) < (s.size : Int) by omega, show (1 : Int) < (s.size : Int) by omega, if_true, if_false]
    rfl
theorem ref_take4_ev (s : ByteArray) : Ev (fun k => fairwayref1_TakeFixed.f k s 4) (if (s.size : Int) < 4 then (0, false) else (val4 s, true)) := by
  refine ⟨10, fun k hk => ?_⟩
  obtain ⟨k, rfl⟩ : ∃ m, k = m + 10 := ⟨k - 10, by omega⟩
  dsimp only
  unfold fairwayref1_TakeFixed.f
  by_cases h : (s.size : Int) < 4
  · rw [if_pos h, if_pos h]
  · have h0 := bt_range s 0; have h1 := bt_range s 1; have h2 := bt_range s 2; have h3 := bt_range s 3
    rw [if_neg h, if_neg h]
    simp only [fairwayref1_TakeFixed.l0, show wrap64 (0 + 1) = 1 by unfold wrap64; omega, show wrap64 (1 + 1) = 2 by unfold wrap64; omega, show wrap64 (2 + 1) = 3 by unfold wrap64; omega, show wrap64 (3 + 1) = 4 by unfold wrap64; omega, w64bt, or00 h0.1 (show bt s 0 < 256 by omega), orb h0.1 (show bt s 0 < 36028797018963968 by omega) h1.1 (show bt s 1 < 256 by omega),
      orb (show 0 ≤ bt s 0 * 256 + bt s 1 by omega) (show bt s 0 * 256 + bt s 1 < 36028797018963968 by omega) h2.1 (show bt s 2 < 256 by omega), orb (show 0 ≤ (bt s 0 * 256 + bt s 1) * 256 + bt s 2 by omega) (show (bt s 0 * 256 + bt s 1) * 256 + bt s 2 < 36028797018963968 by omega) h3.1 (show bt s 3 < 256 by omega),
      show (0 : Int) < 4 by decide, show (1 : Int) < 4 by decide, show (2 : Int) < 4 by decide, show (3 : Int) < 4 by decide, Int.lt_irrefl, Int.le_refl, show (0 : Int) ≤ 1 by decide, show (0 : Int) ≤ 2 by decide, show (0 : Int) ≤ 3 by decide, show (0 : Int) < (s.size : Int) by omega, show (1 : Int) < (s.size : Int) by omega, show (2 : Int) < (s.size : Int) by omega, show (3 : Int) < (s.size : Int) by omega, if_true, if_false]
    rfl
end Go.Proofs.YtiancopplinpcaaDoor.P
end
section
namespace Go.Proofs.YtiancopplinpcaaDoor.P
open Go.RowKit Go.Proofs.YtiancopplinpcaaDoorW.PrintWords Go.Proofs.YtiancopplinpcaaDoorW.PrintLast Go.Proofs.YtiancopplinpcaaDoorW.PrintMore
set_option linter.unusedSimpArgs false
set_option linter.unusedVariables false
def kindOf (id : Int) : Int :=
  if id ∈ [1, 23, 25, 36, 37, 40, 41, 42] then 1 else if id ∈ [19, 33, 34, 35] then 2 else if id ∈ [2, 17, 24, 39] then 3 else if id = 11 then 4 else if id ∈ [3, 8, 18, 21, 26, 28, 31] then 5 else if id ∈ [9, 22] then 6 else if id = 38 then 7 else 0
theorem kindOf_range (id : Int) : 0 ≤ kindOf id ∧ kindOf id ≤ 7 := by
  unfold kindOf
  repeat' split
  all_goals omega
theorem kindOf_out {id : Int} (h : id < 0 ∨ 42 < id) : kindOf id = 0 := by
  unfold kindOf
  simp only [List.mem_cons, List.not_mem_nil, or_false]
  repeat rw [if_neg (by omega)]
set_option maxRecDepth 100000 in
theorem kind_in : ∀ n : Fin 43, prop_Kind.f 6 (n.val : Int) = some (kindOf (n.val : Int), if kindOf (n.val : Int) = 0 then 3 else 0) := by decide
set_option maxRecDepth 100000 in
theorem refKind_in : ∀ n : Fin 43, fairwayref4_Kind.f 6 (n.val : Int) = some (kindOf (n.val : Int)) := by decide
theorem kind_ev (id : Int) : Ev (fun k => prop_Kind.f k id) (kindOf id, if kindOf id = 0 then 3 else 0) := by
  refine Ev.of (prop_Kind.mono id) (k := 6) ?_
  by_cases h : id < 0 ∨ 42 < id
  · rw [kindOf_out h, if_pos rfl]
    simp only [prop_Kind.f, prop_Kind.j0, prop_Kind.j1, prop_Kind.j2, prop_Kind.j3, prop_Kind.j4, beq_iff_eq]
    repeat rw [if_neg (by omega)]
  · have := kind_in ⟨id.toNat, by omega⟩
    have e : ((id.toNat : Nat) : Int) = id := by omega
    simpa only [e] using this
theorem refKind_ev (id : Int) : Ev (fun k => fairwayref4_Kind.f k id) (kindOf id) := by
  refine Ev.of (fairwayref4_Kind.mono id) (k := 6) ?_
  by_cases h : id < 0 ∨ 42 < id
  · rw [kindOf_out h]
    simp only [fairwayref4_Kind.f, fairwayref4_Kind.j0, fairwayref4_Kind.j1, fairwayref4_Kind.j2, fairwayref4_Kind.j3, fairwayref4_Kind.j4, beq_iff_eq]
    repeat rw [if_neg (by omega)]
  · have := refKind_in ⟨id.toNat, by omega⟩
    have e : ((id.toNat : Nat) : Int) = id := by omega
    simpa only [e] using this
def placeL (p : Int) : List Int :=
  if p = 0 then [1, 2, 3, 8, 9, 24, 38] else if p = 1 then [17, 21, 22, 23, 25, 33, 34, 38, 39] else if p = 2 then [17, 18, 19, 21, 22, 26, 28, 31, 33, 34, 36, 37, 38, 39, 40, 41, 42] else if p = 3 then [1, 2, 3, 8, 9, 11, 35, 38]
  else if p = 4 ∨ p = 5 ∨ p = 6 ∨ p = 7 ∨ p = 9 ∨ p = 11 then [31, 38] else if p = 8 then [11, 38] else if p = 10 then [38] else if p = 14 then [17, 28, 31, 38] else if p = 15 then [21, 22, 31, 38] else []
theorem placeL_out {p : Int} (h : p < 0 ∨ 15 < p) : placeL p = [] := by
  unfold placeL
  repeat rw [if_neg (by omega)]
set_option maxRecDepth 100000 in
theorem stands_in : ∀ n : Fin 16, prop_stands.f 3 (n.val : Int) = some (placeL (n.val : Int), true) := by decide
theorem stands_ev (p : Int) : Ev (fun k => prop_stands.f k p) (placeL p, decide (0 ≤ p ∧ p ≤ 15)) := by
  refine Ev.of (prop_stands.mono p) (k := 3) ?_
  by_cases h : p < 0 ∨ 15 < p
  · rw [placeL_out h, decide_eq_false (by omega)]
    simp only [prop_stands.f, prop_stands.j0, beq_iff_eq]
    repeat rw [if_neg (by omega)]
  · have := stands_in ⟨p.toNat, by omega⟩
    have e : ((p.toNat : Nat) : Int) = p := by omega
    rw [decide_eq_true (by omega)]
    simpa only [e] using this
theorem in_loop (l : List Int) (x : Int) (hl : l.length ≤ 1000) (d : Nat) : ∀ (i k : Nat), l.length - i = d → d < k → ∃ r, fairwayref0_In.l0 k l x (i : Int) = some r ∧ (r ≥ 0 ↔ x ∈ l.drop i) := by
  induction d with
  | zero =>
    intro i k hd hk
    obtain ⟨k, rfl⟩ : ∃ m, k = m + 1 := ⟨k - 1, by omega⟩
    refine ⟨-1, ?_, ?_⟩
    · simp only [fairwayref0_In.l0]
      rw [if_neg (by omega)]
    · rw [List.drop_of_length_le (by omega)]
      simp
  | succ d ih =>
    intro i k hd hk
    obtain ⟨k, rfl⟩ : ∃ m, k = m + 1 := ⟨k - 1, by omega⟩
    have hi : i < l.length := by omega
    have hrd : rd l (i : Int) = l[i] := by simp [rd, hi]
    rw [List.drop_eq_getElem_cons hi]
    by_cases h : l[i] = x
    · refine ⟨i, ?_, by simp [h]⟩
      simp only [fairwayref0_In.l0]
      rw [if_pos (by omega), if_pos (by omega), hrd, if_pos h]
    · obtain ⟨r, hr, hm⟩ := ih (i + 1) k (by omega) (by omega)
      refine ⟨r, ?_, ?_⟩
      · simp only [fairwayref0_In.l0]
        rw [if_pos (by omega), if_pos (by omega), hrd, if_neg h, w64 (by omega) (by omega)]
        exact hr
      · rw [hm, List.mem_cons]
        constructor
        · exact .inr
        · rintro (rfl | h2)
          · exact absurd rfl h
          · exact h2
theorem in_ev (l : List Int) (x : Int) (hl : l.length ≤ 1000) : ∃ r, Ev (fun k => fairwayref0_In.f k l x) r ∧ (r ≥ 0 ↔ x ∈ l) := by
  obtain ⟨r, hr, hm⟩ := in_loop l x hl l.length 0 (l.length + 1) (by omega) (by omega)
  exact ⟨r, Ev.of (fairwayref0_In.mono l x) hr, by simpa using hm⟩
theorem index_loop (l : List Int) (x : Int) (hl : l.length ≤ 1000) (d : Nat) : ∀ (i k : Nat), l.length - i = d → d < k → ∃ r, slices_Index_int_int.l0 k l x (l.length : Int) (i : Int) = some r ∧ (r ≥ 0 ↔ x ∈ l.drop i) := by
  induction d with
  | zero =>
    intro i k hd hk
    obtain ⟨k, rfl⟩ : ∃ m, k = m + 1 := ⟨k - 1, by omega⟩
    refine ⟨-1, ?_, ?_⟩
    · simp only [slices_Index_int_int.l0]
      rw [if_neg (by omega)]
    · rw [List.drop_of_length_le (by omega)]
      simp
  | succ d ih =>
    intro i k hd hk
    obtain ⟨k, rfl⟩ : ∃ m, k = m + 1 := ⟨k - 1, by omega⟩
    have hi : i < l.length := by omega
    have hrd : rd l (i : Int) = l[i] := by simp [rd, hi]
    rw [List.drop_eq_getElem_cons hi]
    by_cases h : x = l[i]
    · refine ⟨i, ?_, ⟨fun _ => by rw [h]; exact List.mem_cons_self, fun _ => Int.natCast_nonneg _⟩⟩
      simp only [slices_Index_int_int.l0]
      rw [if_pos (by omega), if_pos (by omega), if_pos (by omega), hrd, if_pos h]
    · obtain ⟨r, hr, hm⟩ := ih (i + 1) k (by omega) (by omega)
      refine ⟨r, ?_, ?_⟩
      · simp only [slices_Index_int_int.l0]
        rw [if_pos (by omega), if_pos (by omega), if_pos (by omega), hrd, if_neg h, w64 (by omega) (by omega)]
        exact hr
      · rw [hm, List.mem_cons]
        constructor
        · exact .inr
        · rintro (rfl | h2)
          · exact absurd rfl h
          · exact h2
theorem contains_ev (l : List Int) (x : Int) (hl : l.length ≤ 1000) : Ev (fun k => slices_Contains_int_int.f k l x) (decide (x ∈ l)) := by
  obtain ⟨r, hr, hm⟩ := index_loop l x hl l.length 0 (l.length + 1) (by omega) (by omega)
  refine Ev.of (slices_Contains_int_int.mono l x) (k := l.length + 1) ?_
  unfold slices_Contains_int_int.f slices_Index_int_int.f
  rw [show (0 : Int) = ((0 : Nat) : Int) from rfl, hr]
  simp only [Option.bind_some, Option.some.injEq]
  exact decide_eq_decide.2 (by simpa using hm)
theorem placeL_len (p : Int) : (placeL p).length ≤ 17 := by
  unfold placeL
  repeat' split
  all_goals decide
theorem refStands_ev (p id : Int) : Ev (fun k => fairwayref4_stands.f k p id) (decide (id ∈ placeL p)) := by
  obtain ⟨r, ⟨K, hr⟩, hm⟩ := in_ev (placeL p) id (by have := placeL_len p; omega)
  refine ⟨K + 3, fun k hk => ?_⟩
  obtain ⟨k, rfl⟩ : ∃ m, k = m + 1 := ⟨k - 1, by omega⟩
  have h0 := hr (k + 1) (by omega)
  have h1 := hr k (by omega)
  have e : decide (r ≥ 0) = decide (id ∈ placeL p) := decide_eq_decide.2 hm
  dsimp only at h0 h1 ⊢
  by_cases hp : p < 0 ∨ 15 < p
  · rw [placeL_out hp] at h0 h1 e ⊢
    simp only [fairwayref4_stands.f, fairwayref4_stands.j0, beq_iff_eq]
    repeat rw [if_neg (by omega)]
    rw [h1]
    simp only [Option.bind_some, e]
  · have hc : p = 0 ∨ p = 1 ∨ p = 2 ∨ p = 3 ∨ p = 4 ∨ p = 5 ∨ p = 6 ∨ p = 7 ∨ p = 8 ∨ p = 9 ∨ p = 10 ∨ p = 11 ∨ p = 12 ∨ p = 13 ∨ p = 14 ∨ p = 15 := by omega
    unfold placeL at h0 h1
    rw [← e]
    rcases hc with rfl | rfl | rfl | rfl | rfl | rfl | rfl | rfl | rfl | rfl | rfl | rfl | rfl | rfl | rfl | rfl
    all_goals simp only [fairwayref4_stands.f, fairwayref4_stands.j0, beq_iff_eq, reduceIte, Int.reduceEq, or_self, or_true, or_false, true_or, false_or, if_true, if_false] at h0 h1 ⊢
    all_goals first | (rw [h0]; rfl) | (rw [h1]; rfl)
theorem nought_is (id : Int) : prop_nought.f id = some (decide (id = 33 ∨ id = 35 ∨ id = 39 ∨ id = 11)) := by
  unfold prop_nought.f
  by_cases a : id = 33
  · simp [a]
  · by_cases b : id = 35
    · simp [b]
    · by_cases c : id = 39
      · simp [c]
      · simp only [a, b, c, if_false, false_or]
        rfl
theorem place_is (p : Int) : fairwayref4_Place.f p = some (decide (0 ≤ p ∧ p ≤ 15)) := by
  unfold fairwayref4_Place.f
  by_cases h : p ≥ 0
  · rw [if_pos h]; simp; omega
  · rw [if_neg h]; simp; omega
end Go.Proofs.YtiancopplinpcaaDoor.P
end
section
namespace Go.Proofs.YtiancopplinpcaaDoor.P
open Go.RowKit Go.Proofs.YtiancopplinpcaaDoorW.PrintWords Go.Proofs.YtiancopplinpcaaDoorW.PrintLast Go.Proofs.YtiancopplinpcaaDoorW.PrintMore
attribute [local go_sem] max2_int min2_int max_two min_two max_three min_three max_four min_four
set_option linter.unusedVariables false
set_option linter.unusedSimpArgs false
def fairwayref1_TakeLong.f (k : Nat) (a0 : ByteArray) (a1 : Bool) : Option (ByteArray × Int × Int) := (fairwayref1_TakeFixed.f k a0 2).bind fun bt402 => (if bt402.2 = true then (if bt402.1 > 1024 then (some ((⟨#[]⟩ : ByteArray), 0, 2)) else (if (wrap64 ((a0.size : Int) - 2)) < bt402.1 then (some ((⟨#[]⟩ : ByteArray), 0, 7)) else (if 2 ≤ (wrap64 (2 + bt402.1)) then (if (wrap64 (2 + bt402.1)) ≤ (a0.size : Int) then (if a1 = true then ((fairwayref1_Text.f k (a0.extract 2 ((wrap64 (2 + bt402.1)) : Int).toNat)).bind fun t404 => (if t404 = 0 then (some (a0.extract 2 ((wrap64 (2 + bt402.1)) : Int).toNat, wrap64 (2 + bt402.1), 0)) else (some ((⟨#[]⟩ : ByteArray), 0, t404)))) else (some (a0.extract 2 ((wrap64 (2 + bt402.1)) : Int).toNat, wrap64 (2 + bt402.1), 0))) else (none)) else (none)))) else (some ((⟨#[]⟩ : ByteArray), 0, 7)))
theorem fairwayref1_TakeLong.mono : ∀ a0 a1 k, LeO (fairwayref1_TakeLong.f k a0 a1) (fairwayref1_TakeLong.f (k + 1) a0 a1) := by
 intro a0 a1 k
 unfold fairwayref1_TakeLong.f
 repeat' first
   | (with_reducible exact fairwayref1_TakeFixed.mono _ _ _)
   | (with_reducible exact fairwayref1_Text.mono _ _)
   | (with_reducible exact LeO.refl _)
   | (with_reducible exact LeO.none _)
   | (with_reducible refine LeO.ite ?_ ?_)
   | (with_reducible refine LeO.bind ?_ (fun _ => ?_))
   | exact fairwayref1_TakeFixed.mono _ _ _
   | exact fairwayref1_Text.mono _ _
   | exact LeO.none _
   | refine LeO.ite ?_ ?_
   | refine LeO.bind ?_ (fun _ => ?_)
set_option maxHeartbeats 8000000 in
set_option maxRecDepth 100000 in
theorem fairwayref1_TakeLong.calls (k : Nat) (a0 : ByteArray) (a1 : Bool) (r1 : ByteArray) (r2 : Int) (r3 : Int) (w : World) (h : fairwayref1_TakeLong.f k a0 a1 = some (r1, r2, r3)) :
  Calls Tryd.prog 54 #[.string a0, .bool a1] w fun e w' => e = .returned (.tuple #[.string r1, .int .i64 r2, .int .i64 r3]) ∧ Drawn0 w w' := by
 have H : ((fairwayref1_TakeFixed.f k a0 2).bind fun bt402 => (if bt402.2 = true then (if bt402.1 > 1024 then (some ((⟨#[]⟩ : ByteArray), 0, 2)) else (if (wrap64 ((a0.size : Int) - 2)) < bt402.1 then (some ((⟨#[]⟩ : ByteArray), 0, 7)) else (if 2 ≤ (wrap64 (2 + bt402.1)) then (if (wrap64 (2 + bt402.1)) ≤ (a0.size : Int) then (if a1 = true then ((fairwayref1_Text.f k (a0.extract 2 ((wrap64 (2 + bt402.1)) : Int).toNat)).bind fun t404 => (if t404 = 0 then (some (a0.extract 2 ((wrap64 (2 + bt402.1)) : Int).toNat, wrap64 (2 + bt402.1), 0)) else (some ((⟨#[]⟩ : ByteArray), 0, t404)))) else (some (a0.extract 2 ((wrap64 (2 + bt402.1)) : Int).toNat, wrap64 (2 + bt402.1), 0))) else (none)) else (none)))) else (some ((⟨#[]⟩ : ByteArray), 0, 7)))) = some (r1, r2, r3) := h
 clear h
 replace H := Option.bind_eq_some_iff.mp H
 obtain ⟨⟨t402, t403⟩, A30, H⟩ := H
 replace H : (if t403 = true then (if t402 > 1024 then (some ((⟨#[]⟩ : ByteArray), 0, 2)) else (if (wrap64 ((a0.size : Int) - 2)) < t402 then (some ((⟨#[]⟩ : ByteArray), 0, 7)) else (if 2 ≤ (wrap64 (2 + t402)) then (if (wrap64 (2 + t402)) ≤ (a0.size : Int) then (if a1 = true then ((fairwayref1_Text.f k (a0.extract 2 ((wrap64 (2 + t402)) : Int).toNat)).bind fun t404 => (if t404 = 0 then (some (a0.extract 2 ((wrap64 (2 + t402)) : Int).toNat, wrap64 (2 + t402), 0)) else (some ((⟨#[]⟩ : ByteArray), 0, t404)))) else (some (a0.extract 2 ((wrap64 (2 + t402)) : Int).toNat, wrap64 (2 + t402), 0))) else (none)) else (none)))) else (some ((⟨#[]⟩ : ByteArray), 0, 7))) = some (r1, r2, r3) := H
 have A3 := Aside0.mk A30
 clear A30
 by_cases c4 : t403 = true
 ·
  subst c4
  have H1 : (if t402 > 1024 then (some ((⟨#[]⟩ : ByteArray), 0, 2)) else (if (wrap64 ((a0.size : Int) - 2)) < t402 then (some ((⟨#[]⟩ : ByteArray), 0, 7)) else (if 2 ≤ (wrap64 (2 + t402)) then (if (wrap64 (2 + t402)) ≤ (a0.size : Int) then (if a1 = true then ((fairwayref1_Text.f k (a0.extract 2 ((wrap64 (2 + t402)) : Int).toNat)).bind fun t404 => (if t404 = 0 then (some (a0.extract 2 ((wrap64 (2 + t402)) : Int).toNat, wrap64 (2 + t402), 0)) else (some ((⟨#[]⟩ : ByteArray), 0, t404)))) else (some (a0.extract 2 ((wrap64 (2 + t402)) : Int).toNat, wrap64 (2 + t402), 0))) else (none)) else (none)))) = some (r1, r2, r3) := by rw [if_pos rfl] at H; exact H
  clear H
  have H := H1
  clear H1
  by_cases c5 : t402 > 1024
  ·
   rw [if_pos c5] at H
   have c5b0 : decide (1024 < t402) = true := decide_eq_true c5
   clear c5
   simp only [Option.some.injEq, Prod.mk.injEq] at H
   obtain ⟨rfl, rfl, rfl⟩ := H
   go_enter Tryd.func54, Tryd.ntmps54
   go_wp2_with (first | ((with_reducible refine gate_callee (f := 52) rfl ?_); refine goesL_ (some 13) rfl rfl Tryd.func52 (by kernel_rfl) rfl #[.string a0, .int .i64 2] rfl (by (try simp only [List.map_toArray, List.map_cons, List.map_nil]); first | done | rfl | (simp only [List.length_drop, List.length_take]; rfl)) ?_; (with_reducible refine (fairwayref1_TakeFixed.calls k a0 2 t402 true _ A3.out).mono ?_); rintro e w' ⟨rfl, ⟨nd, rfl⟩⟩; refine ⟨_, rfl, ?_⟩))
   go_ret3
   exact ⟨by first | rfl | (simp; done) | (simp [*]; done), by repeat (first | exact Drawn0.refl _ | apply Drawn0.step)⟩
  rw [if_neg c5] at H
  have c5b0 : decide (1024 < t402) = false := decide_eq_false c5
  clear c5
  by_cases c6 : (wrap64 ((a0.size : Int) - 2)) < t402
  ·
   rw [if_pos c6] at H
   have c6b0 : decide ((wrap64 ((a0.size : Int) - 2)) < t402) = true := decide_eq_true c6
   clear c6
   simp only [Option.some.injEq, Prod.mk.injEq] at H
   obtain ⟨rfl, rfl, rfl⟩ := H
   go_enter Tryd.func54, Tryd.ntmps54
   go_wp2_with (first | ((with_reducible refine gate_callee (f := 52) rfl ?_); refine goesL_ (some 13) rfl rfl Tryd.func52 (by kernel_rfl) rfl #[.string a0, .int .i64 2] rfl (by (try simp only [List.map_toArray, List.map_cons, List.map_nil]); first | done | rfl | (simp only [List.length_drop, List.length_take]; rfl)) ?_; (with_reducible refine (fairwayref1_TakeFixed.calls k a0 2 t402 true _ A3.out).mono ?_); rintro e w' ⟨rfl, ⟨nd, rfl⟩⟩; refine ⟨_, rfl, ?_⟩))
   go_ret3
   exact ⟨by first | rfl | (simp; done) | (simp [*]; done), by repeat (first | exact Drawn0.refl _ | apply Drawn0.step)⟩
  rw [if_neg c6] at H
  have c6b0 : decide ((wrap64 ((a0.size : Int) - 2)) < t402) = false := decide_eq_false c6
  clear c6
  by_cases c7 : 2 ≤ (wrap64 (2 + t402))
  ·
   rw [if_pos c7] at H
   have c7b0 := eq_true c7
   have c7b1 : decide (2 ≤ (wrap64 (2 + t402))) = true := decide_eq_true c7
   by_cases c8 : (wrap64 (2 + t402)) ≤ (a0.size : Int)
   ·
    rw [if_pos c8] at H
    have c8b0 := eq_true c8
    have c8b1 : decide ((wrap64 (2 + t402)) ≤ (a0.size : Int)) = true := decide_eq_true c8
    by_cases c9 : a1 = true
    ·
     subst c9
     have H1 : ((fairwayref1_Text.f k (a0.extract 2 ((wrap64 (2 + t402)) : Int).toNat)).bind fun t404 => (if t404 = 0 then (some (a0.extract 2 ((wrap64 (2 + t402)) : Int).toNat, wrap64 (2 + t402), 0)) else (some ((⟨#[]⟩ : ByteArray), 0, t404)))) = some (r1, r2, r3) := by rw [if_pos rfl] at H; exact H
     clear H
     have H := H1
     clear H1
     replace H := Option.bind_eq_some_iff.mp H
     obtain ⟨t404, A100, H⟩ := H
     replace H : (if t404 = 0 then (some (a0.extract 2 ((wrap64 (2 + t402)) : Int).toNat, wrap64 (2 + t402), 0)) else (some ((⟨#[]⟩ : ByteArray), 0, t404))) = some (r1, r2, r3) := H
     have A10 := Aside0.mk A100
     clear A100
     by_cases c11 : t404 = 0
     ·
      rw [if_pos c11] at H
      have c11b0 : (t404 == 0) = true := beq_iff_eq.mpr c11
      have c11b1 : (t404 != 0) = false := bne_eq_false_iff_eq.mpr c11
      clear c11
      simp only [Option.some.injEq, Prod.mk.injEq] at H
      obtain ⟨rfl, rfl, rfl⟩ := H
      go_enter Tryd.func54, Tryd.ntmps54
      go_wp2_with (first | ((with_reducible refine gate_callee (f := 52) rfl ?_); refine goesL_ (some 13) rfl rfl Tryd.func52 (by kernel_rfl) rfl #[.string a0, .int .i64 2] rfl (by (try simp only [List.map_toArray, List.map_cons, List.map_nil]); first | done | rfl | (simp only [List.length_drop, List.length_take]; rfl)) ?_; (with_reducible refine (fairwayref1_TakeFixed.calls k a0 2 t402 true _ A3.out).mono ?_); rintro e w' ⟨rfl, ⟨nd, rfl⟩⟩; refine ⟨_, rfl, ?_⟩) | ((with_reducible refine gate_callee (f := 44) rfl ?_); refine goesL_ (some 31) rfl rfl Tryd.func44 (by kernel_rfl) rfl #[.string (a0.extract 2 ((wrap64 (2 + t402)) : Int).toNat)] rfl (by (try simp only [List.map_toArray, List.map_cons, List.map_nil]); first | done | rfl | (simp only [List.length_drop, List.length_take]; rfl)) ?_; (with_reducible refine (fairwayref1_Text.calls k (a0.extract 2 ((wrap64 (2 + t402)) : Int).toNat) t404 _ A10.out).mono ?_); rintro e w' ⟨rfl, ⟨nd, rfl⟩⟩; refine ⟨_, rfl, ?_⟩))
      go_ret3
      exact ⟨by first | rfl | (simp; done) | (simp [*]; done), by repeat (first | exact Drawn0.refl _ | apply Drawn0.step)⟩
     rw [if_neg c11] at H
     have c11b0 : (t404 == 0) = false := beq_eq_false_iff_ne.mpr c11
     have c11b1 : (t404 != 0) = true := bne_iff_ne.mpr c11
     simp only [Option.some.injEq, Prod.mk.injEq] at H
     obtain ⟨rfl, rfl, rfl⟩ := H
     go_enter Tryd.func54, Tryd.ntmps54
     go_wp2_with (first | ((with_reducible refine gate_callee (f := 52) rfl ?_); refine goesL_ (some 13) rfl rfl Tryd.func52 (by kernel_rfl) rfl #[.string a0, .int .i64 2] rfl (by (try simp only [List.map_toArray, List.map_cons, List.map_nil]); first | done | rfl | (simp only [List.length_drop, List.length_take]; rfl)) ?_; (with_reducible refine (fairwayref1_TakeFixed.calls k a0 2 t402 true _ A3.out).mono ?_); rintro e w' ⟨rfl, ⟨nd, rfl⟩⟩; refine ⟨_, rfl, ?_⟩) | ((with_reducible refine gate_callee (f := 44) rfl ?_); refine goesL_ (some 31) rfl rfl Tryd.func44 (by kernel_rfl) rfl #[.string (a0.extract 2 ((wrap64 (2 + t402)) : Int).toNat)] rfl (by (try simp only [List.map_toArray, List.map_cons, List.map_nil]); first | done | rfl | (simp only [List.length_drop, List.length_take]; rfl)) ?_; (with_reducible refine (fairwayref1_Text.calls k (a0.extract 2 ((wrap64 (2 + t402)) : Int).toNat) t404 _ A10.out).mono ?_); rintro e w' ⟨rfl, ⟨nd, rfl⟩⟩; refine ⟨_, rfl, ?_⟩))
     go_ret3
     exact ⟨by first | rfl | (simp; done) | (simp [*]; done), by repeat (first | exact Drawn0.refl _ | apply Drawn0.step)⟩
    replace c9 := Bool.eq_false_iff.mpr c9
    subst c9
    have H1 : (some (a0.extract 2 ((wrap64 (2 + t402)) : Int).toNat, wrap64 (2 + t402), 0)) = some (r1, r2, r3) := by rw [if_neg (show ¬ (false = true) by decide)] at H; exact H
    clear H
    have H := H1
    clear H1
    simp only [Option.some.injEq, Prod.mk.injEq] at H
    obtain ⟨rfl, rfl, rfl⟩ := H
    go_enter Tryd.func54, Tryd.ntmps54
    go_wp2_with (first | ((with_reducible refine gate_callee (f := 52) rfl ?_); refine goesL_ (some 13) rfl rfl Tryd.func52 (by kernel_rfl) rfl #[.string a0, .int .i64 2] rfl (by (try simp only [List.map_toArray, List.map_cons, List.map_nil]); first | done | rfl | (simp only [List.length_drop, List.length_take]; rfl)) ?_; (with_reducible refine (fairwayref1_TakeFixed.calls k a0 2 t402 true _ A3.out).mono ?_); rintro e w' ⟨rfl, ⟨nd, rfl⟩⟩; refine ⟨_, rfl, ?_⟩))
    go_ret3
    exact ⟨by first | rfl | (simp; done) | (simp [*]; done), by repeat (first | exact Drawn0.refl _ | apply Drawn0.step)⟩
   rw [if_neg c8] at H
   exact absurd H (by simp)
  rw [if_neg c7] at H
  exact absurd H (by simp)
 replace c4 := Bool.eq_false_iff.mpr c4
 subst c4
 have H1 : (some ((⟨#[]⟩ : ByteArray), 0, 7)) = some (r1, r2, r3) := by rw [if_neg (show ¬ (false = true) by decide)] at H; exact H
 clear H
 have H := H1
 clear H1
 simp only [Option.some.injEq, Prod.mk.injEq] at H
 obtain ⟨rfl, rfl, rfl⟩ := H
 go_enter Tryd.func54, Tryd.ntmps54
 go_wp2_with (first | ((with_reducible refine gate_callee (f := 52) rfl ?_); refine goesL_ (some 13) rfl rfl Tryd.func52 (by kernel_rfl) rfl #[.string a0, .int .i64 2] rfl (by (try simp only [List.map_toArray, List.map_cons, List.map_nil]); first | done | rfl | (simp only [List.length_drop, List.length_take]; rfl)) ?_; (with_reducible refine (fairwayref1_TakeFixed.calls k a0 2 t402 false _ A3.out).mono ?_); rintro e w' ⟨rfl, ⟨nd, rfl⟩⟩; refine ⟨_, rfl, ?_⟩))
 go_ret3
 exact ⟨by first | rfl | (simp; done) | (simp [*]; done), by repeat (first | exact Drawn0.refl _ | apply Drawn0.step)⟩
mutual
def fairwayref4_value.j0 : Nat → ByteArray → Int → Int → Bool → Int → Int → ByteArray → ByteArray → Option (Int × Int × ByteArray × ByteArray × Int × Int)
  | 0, _, _, _, _, _, _, _, _ => none
  | k + 1, x1, x8, x24, x25, x407000, x407001, x407002, x407003 => if x25 = true then ((some (([0, 1, 2, 4] : List Int) : List Int)).bind fun y408 => (if 0 ≤ x8 then (if x8 < (y408.length : Int) then ((fairwayref1_TakeFixed.f k x1 (rd y408 x8)).bind fun bt412 => (if bt412.2 = true then (some (x407000, bt412.1, x407002, x407003, rd y408 x8, 0)) else (some (x407000, x407001, x407002, x407003, 0, 8)))) else (none)) else (none))) else (if x24 = 4 then ((fairwayref1_TakeNum.f k x1).bind fun bt414 => ((fairwayref4_inner.f bt414.2.2).bind fun t417 => (some (x407000, bt414.1, x407002, x407003, bt414.2.1, t417)))) else ((fairwayref1_TakeLong.f k x1 (x8 != 6)).bind fun bt418 => (if bt418.2.2 = 0 then (fairwayref4_value.j1 k x1 bt418.1 bt418.2.1 bt418.2.2 (x8 != 7) x407000 x407001 x407002 x407003) else (fairwayref4_value.j1 k x1 bt418.1 bt418.2.1 bt418.2.2 true x407000 x407001 x407002 x407003))))
def fairwayref4_value.j1 : Nat → ByteArray → ByteArray → Int → Int → Bool → Int → Int → ByteArray → ByteArray → Option (Int × Int × ByteArray × ByteArray × Int × Int)
  | 0, _, _, _, _, _, _, _, _, _ => none
  | k + 1, x1, x15, x16, x17, x73, x407000, x407001, x407002, x407003 => if x73 = true then ((fairwayref4_inner.f x17).bind fun t421 => (some (x407000, x407001, x15, x407003, x16, t421))) else (if 0 ≤ x16 then (if x16 ≤ (x1.size : Int) then ((fairwayref1_TakeLong.f k (x1.extract (x16 : Int).toNat x1.size) true).bind fun bt422 => ((fairwayref4_inner.f bt422.2.2).bind fun t425 => (some (x407000, x407001, x15, bt422.1, wrap64 (x16 + bt422.2.1), t425)))) else (none)) else (none))
end
def fairwayref4_value.f (k : Nat) (a0 : Int) (a1 : ByteArray) : Option (Int × Int × ByteArray × ByteArray × Int × Int) := (fairwayref4_Kind.f k a0).bind fun t407 => (if t407 = 1 then (fairwayref4_value.j0 k a1 t407 t407 (t407 == 1) a0 0 (⟨#[]⟩ : ByteArray) (⟨#[]⟩ : ByteArray)) else (if t407 = 2 then (fairwayref4_value.j0 k a1 t407 t407 (t407 == 2) a0 0 (⟨#[]⟩ : ByteArray) (⟨#[]⟩ : ByteArray)) else (fairwayref4_value.j0 k a1 t407 t407 (t407 == 3) a0 0 (⟨#[]⟩ : ByteArray) (⟨#[]⟩ : ByteArray))))
theorem fairwayref4_value.mono_l : ∀ k, (∀ y0 y1 y2 y3 y4 y5 y6 y7, LeO (fairwayref4_value.j0 k y0 y1 y2 y3 y4 y5 y6 y7) (fairwayref4_value.j0 (k + 1) y0 y1 y2 y3 y4 y5 y6 y7)) ∧ (∀ y0 y1 y2 y3 y4 y5 y6 y7 y8, LeO (fairwayref4_value.j1 k y0 y1 y2 y3 y4 y5 y6 y7 y8) (fairwayref4_value.j1 (k + 1) y0 y1 y2 y3 y4 y5 y6 y7 y8))
 | 0 => ⟨fun _ _ _ _ _ _ _ _ r h => by simp [fairwayref4_value.j0] at h, fun _ _ _ _ _ _ _ _ _ r h => by simp [fairwayref4_value.j1] at h⟩
 | k + 1 => by
  obtain ⟨ih0, ih1⟩ := fairwayref4_value.mono_l k
  refine ⟨?_, ?_⟩
  ·
   intro y0 y1 y2 y3 y4 y5 y6 y7
   unfold fairwayref4_value.j0
   repeat' first
   | (with_reducible exact ih0 _ _ _ _ _ _ _ _)
   | (with_reducible exact ih1 _ _ _ _ _ _ _ _ _)
   | (with_reducible exact fairwayref1_TakeFixed.mono _ _ _)
   | (with_reducible exact fairwayref1_TakeLong.mono _ _ _)
   | (with_reducible exact fairwayref1_TakeNum.mono _ _)
   | (with_reducible exact fairwayref4_Kind.mono _ _)
   | (with_reducible exact LeO.refl _)
   | (with_reducible exact LeO.none _)
   | (with_reducible refine LeO.ite ?_ ?_)
   | (with_reducible refine LeO.bind ?_ (fun _ => ?_))
   | exact ih0 _ _ _ _ _ _ _ _
   | exact ih1 _ _ _ _ _ _ _ _ _
   | exact fairwayref1_TakeFixed.mono _ _ _
   | exact fairwayref1_TakeLong.mono _ _ _
   | exact fairwayref1_TakeNum.mono _ _
   | exact fairwayref4_Kind.mono _ _
   | exact LeO.none _
   | refine LeO.ite ?_ ?_
   | refine LeO.bind ?_ (fun _ => ?_)
  ·
   intro y0 y1 y2 y3 y4 y5 y6 y7 y8
   unfold fairwayref4_value.j1
   repeat' first
   | (with_reducible exact ih0 _ _ _ _ _ _ _ _)
   | (with_reducible exact ih1 _ _ _ _ _ _ _ _ _)
   | (with_reducible exact fairwayref1_TakeFixed.mono _ _ _)
   | (with_reducible exact fairwayref1_TakeLong.mono _ _ _)
   | (with_reducible exact fairwayref1_TakeNum.mono _ _)
   | (with_reducible exact fairwayref4_Kind.mono _ _)
   | (with_reducible exact LeO.refl _)
   | (with_reducible exact LeO.none _)
   | (with_reducible refine LeO.ite ?_ ?_)
   | (with_reducible refine LeO.bind ?_ (fun _ => ?_))
   | exact ih0 _ _ _ _ _ _ _ _
   | exact ih1 _ _ _ _ _ _ _ _ _
   | exact fairwayref1_TakeFixed.mono _ _ _
   | exact fairwayref1_TakeLong.mono _ _ _
   | exact fairwayref1_TakeNum.mono _ _
   | exact fairwayref4_Kind.mono _ _
   | exact LeO.none _
   | refine LeO.ite ?_ ?_
   | refine LeO.bind ?_ (fun _ => ?_)
theorem fairwayref4_value.mono : ∀ a0 a1 k, LeO (fairwayref4_value.f k a0 a1) (fairwayref4_value.f (k + 1) a0 a1) := by
 intro a0 a1 k
 obtain ⟨ih0, ih1⟩ := fairwayref4_value.mono_l k
 unfold fairwayref4_value.f
 repeat' first
   | (with_reducible exact ih0 _ _ _ _ _ _ _ _)
   | (with_reducible exact ih1 _ _ _ _ _ _ _ _ _)
   | (with_reducible exact fairwayref1_TakeFixed.mono _ _ _)
   | (with_reducible exact fairwayref1_TakeLong.mono _ _ _)
   | (with_reducible exact fairwayref1_TakeNum.mono _ _)
   | (with_reducible exact fairwayref4_Kind.mono _ _)
   | (with_reducible exact LeO.refl _)
   | (with_reducible exact LeO.none _)
   | (with_reducible refine LeO.ite ?_ ?_)
   | (with_reducible refine LeO.bind ?_ (fun _ => ?_))
   | exact ih0 _ _ _ _ _ _ _ _
   | exact ih1 _ _ _ _ _ _ _ _ _
   | exact fairwayref1_TakeFixed.mono _ _ _
   | exact fairwayref1_TakeLong.mono _ _ _
   | exact fairwayref1_TakeNum.mono _ _
   | exact fairwayref4_Kind.mono _ _
   | exact LeO.none _
   | refine LeO.ite ?_ ?_
   | refine LeO.bind ?_ (fun _ => ?_)
def fairwayref4_value.T23 : Bool × List (List Nat × List Nat) := (true, [([], []), ([], []), ([], []), ([1, 2], [1, 2]), ([], []), ([4], [4]), ([0, 5, 0], [0]), ([3, 6, 0, 1, 2, 3, 6], [3]), ([5, 7, 0, 1, 2, 3, 4, 5, 6, 7], [5])])
def fairwayref4_value.B23 : List Nat := [0, 0, 0, 6, 0, 16, 49, 127, 255]
theorem fairwayref4_value.tab23 : rtab .any (opsOf Tryd.f40 23) = fairwayref4_value.T23 := by kernel_rfl
theorem fairwayref4_value.bits23 : waitsOk fairwayref4_value.T23.2 fairwayref4_value.B23 = true := by kernel_rfl
set_option maxHeartbeats 8000000 in
set_option maxRecDepth 100000 in
theorem fairwayref4_value.calls (k : Nat) (a0 : Int) (a1 : ByteArray) (r1 : Int) (r2 : Int) (r3 : ByteArray) (r4 : ByteArray) (r5 : Int) (r6 : Int) (w : World) (h : fairwayref4_value.f k a0 a1 = some (r1, r2, r3, r4, r5, r6)) :
  Calls Tryd.prog 40 #[.int .i64 a0, .string a1] w fun e w' => e = .returned (.tuple #[.agg #[.int .i64 r1, .int .i64 r2, .string r3, .string r4], .int .i64 r5, .int .i64 r6]) ∧ Below w.heap.size w w' := by
 have hu42 := Tryd.underlying42
 have HB := Aside0.mk (Below.refl w.heap.size w)
 have H : ((fairwayref4_Kind.f k a0).bind fun t407 => (if t407 = 1 then (fairwayref4_value.j0 k a1 t407 t407 (t407 == 1) a0 0 (⟨#[]⟩ : ByteArray) (⟨#[]⟩ : ByteArray)) else (if t407 = 2 then (fairwayref4_value.j0 k a1 t407 t407 (t407 == 2) a0 0 (⟨#[]⟩ : ByteArray) (⟨#[]⟩ : ByteArray)) else (fairwayref4_value.j0 k a1 t407 t407 (t407 == 3) a0 0 (⟨#[]⟩ : ByteArray) (⟨#[]⟩ : ByteArray))))) = some (r1, r2, r3, r4, r5, r6) := h
 clear h
 replace H := Option.bind_eq_some_iff.mp H
 obtain ⟨t407, A30, H⟩ := H
 replace H : (if t407 = 1 then (fairwayref4_value.j0 k a1 t407 t407 (t407 == 1) a0 0 (⟨#[]⟩ : ByteArray) (⟨#[]⟩ : ByteArray)) else (if t407 = 2 then (fairwayref4_value.j0 k a1 t407 t407 (t407 == 2) a0 0 (⟨#[]⟩ : ByteArray) (⟨#[]⟩ : ByteArray)) else (fairwayref4_value.j0 k a1 t407 t407 (t407 == 3) a0 0 (⟨#[]⟩ : ByteArray) (⟨#[]⟩ : ByteArray)))) = some (r1, r2, r3, r4, r5, r6) := H
 have A3 := Aside0.mk A30
 clear A30
 have HC4 := Aside0.mk H
 clear H
 go_enter Tryd.func40, Tryd.ntmps40
 go_upto_if 25 with (first | ((with_reducible refine gate_dst (N := 4) rfl ?_); refine box_event ?hg (N := 4) ?hd (cs := #[.int .i64 0, .int .i64 0, .string (⟨#[]⟩ : ByteArray), .string (⟨#[]⟩ : ByteArray)]) (t := 42) ?hr ?_; (case hd => rfl); (case hg => rfl); (case hr => first | (go_simp; done) | (go_simp; rfl)); intro gb405 hg w5 hbox hb; have n0_ := Aside0.mk (below_step (by repeat (first | (with_reducible first | exact HB.out | apply below_alloc | apply pw_below_drewN | apply below_drew1) | exact HB.out)) hb); have n1_ := Aside0.mk (hbox); have n2_ := Aside0.mk ((by rw [hg]; exact (below_size (by repeat (first | (with_reducible first | exact HB.out | apply below_alloc | apply pw_below_drewN | apply below_drew1) | exact HB.out))) : w.heap.size ≤ gb405)); have n3_ := Aside0.mk ((by rw [hg]; exact (below_size (by repeat (first | (with_reducible first | exact HB.out | apply below_alloc | apply pw_below_drewN | apply below_drew1) | exact HB.out))) : w.heap.size ≤ gb405)); clear HB; have HB := n0_; have BK405 := n1_; have GW405 := n2_; have GE405 := n3_; clear n0_ n1_ n2_ n3_; clear hb hbox hg) | ((with_reducible refine gate_dst (N := 7) rfl ?_); refine box_event ?hg (N := 7) ?hd (cs := #[.int .i64 0, .int .i64 0, .string (⟨#[]⟩ : ByteArray), .string (⟨#[]⟩ : ByteArray)]) (t := 42) ?hr ?_; (case hd => rfl); (case hg => rfl); (case hr => first | (go_simp; done) | (go_simp; rfl)); intro gb406 hg w6 hbox hb; have n0_ := Aside0.mk (blk_below (g := gb405) (o := .cells #[.int .i64 0, .int .i64 0, .string (⟨#[]⟩ : ByteArray), .string (⟨#[]⟩ : ByteArray)] 42 (0, 0)) (by (with_reducible repeat (first | refine blk_drewN ?_ _ | refine blk_drew ?_ | refine blk_alloc ?_ _)); exact BK405.out) hb); have n1_ := Aside0.mk (below_step (by repeat (first | (with_reducible first | exact HB.out | apply below_alloc | apply pw_below_drewN | apply below_drew1 | refine below_set ?_ GE405.out) | exact HB.out)) hb); have n2_ := Aside0.mk (hbox); have n3_ := Aside0.mk ((by rw [hg]; exact (below_size (by repeat (first | (with_reducible first | exact HB.out | apply below_alloc | apply pw_below_drewN | apply below_drew1 | refine below_set ?_ GE405.out) | exact HB.out))) : w.heap.size ≤ gb406)); have n4_ := Aside0.mk ((by rw [hg]; exact (below_size (by repeat (first | (with_reducible first | exact HB.out | apply below_alloc | apply pw_below_drewN | apply below_drew1 | refine below_set ?_ GE405.out) | exact HB.out))) : w.heap.size ≤ gb406)); have n5_ := Aside0.mk ((by rw [hg]; exact Nat.ne_of_lt (blk_lt (g := gb405) (o := .cells #[.int .i64 0, .int .i64 0, .string (⟨#[]⟩ : ByteArray), .string (⟨#[]⟩ : ByteArray)] 42 (0, 0)) (by (with_reducible repeat (first | refine blk_drewN ?_ _ | refine blk_drew ?_ | refine blk_alloc ?_ _)); exact BK405.out)) : gb405 ≠ gb406)); have n6_ := Aside0.mk ((by rw [hg]; exact Nat.ne_of_gt (blk_lt (g := gb405) (o := .cells #[.int .i64 0, .int .i64 0, .string (⟨#[]⟩ : ByteArray), .string (⟨#[]⟩ : ByteArray)] 42 (0, 0)) (by (with_reducible repeat (first | refine blk_drewN ?_ _ | refine blk_drew ?_ | refine blk_alloc ?_ _)); exact BK405.out)) : gb406 ≠ gb405)); clear BK405; clear HB; have BK405 := n0_; have HB := n1_; have BK406 := n2_; have GW406 := n3_; have GE406 := n4_; have NB405_406 := n5_; have NB406_405 := n6_; clear n0_ n1_ n2_ n3_ n4_ n5_ n6_; clear hb hbox hg; have hnb7 := NB406_405.out; have hnc7 := NB405_406.out; have hcz8_0 : w6.cell? ⟨gb406, 0, none⟩ = some (.int .i64 0) := (blk_cell BK406.out 0).trans rfl; have hcz8_1 : w6.cell? ⟨gb406, 1, none⟩ = some (.int .i64 0) := (blk_cell BK406.out 1).trans rfl; have hcz8_2 : w6.cell? ⟨gb406, 2, none⟩ = some (.string (⟨#[]⟩ : ByteArray)) := (blk_cell BK406.out 2).trans rfl; have hcz8_3 : w6.cell? ⟨gb406, 3, none⟩ = some (.string (⟨#[]⟩ : ByteArray)) := (blk_cell BK406.out 3).trans rfl; have hfz8_0 := blk_frozen BK406.out 0; have hfz8_1 := blk_frozen BK406.out 1; have hfz8_2 := blk_frozen BK406.out 2; have hfz8_3 := blk_frozen BK406.out 3) | ((with_reducible refine gate_callee (f := 12) rfl ?_); refine goesL_ (some 23) rfl rfl Tryd.func12 (by kernel_rfl) rfl #[.int .i64 a0] rfl (by (try simp only [List.map_toArray, List.map_cons, List.map_nil]); first | done | rfl | (simp only [List.length_drop, List.length_take]; rfl)) ?_; (with_reducible refine (fairwayref4_Kind.calls k a0 t407 _ A3.out).mono ?_); rintro e w' ⟨rfl, ⟨nd, rfl⟩⟩; refine ⟨_, rfl, ?_⟩))
 (try simp only [Act.put, List.setIfInBounds_toArray, List.set_cons_zero, List.set_cons_succ])
 go_cut [25] (fun v25 wc => ∃ (kq : Nat) (x25_3 : Bool), v25 = .bool x25_3 ∧ Aside0 (fairwayref4_value.j0 kq a1 t407 t407 x25_3 a0 0 (⟨#[]⟩ : ByteArray) (⟨#[]⟩ : ByteArray) = some (r1, r2, r3, r4, r5, r6)) ∧ Aside0 (kq ≤ k) ∧ Aside0 (wc.heap[gb405]? = some (.cells #[.int .i64 0, .int .i64 0, .string (⟨#[]⟩ : ByteArray), .string (⟨#[]⟩ : ByteArray)] 42 (0, 0))) ∧ Aside0 (wc.heap[gb406]? = some (.cells #[.int .i64 a0, .int .i64 0, .string (⟨#[]⟩ : ByteArray), .string (⟨#[]⟩ : ByteArray)] 42 (0, 0))) ∧ Aside0 (Below w.heap.size w wc))
 case first =>
  have H := HC4.out
  clear HC4
  by_cases c9 : t407 = 1
  ·
   rw [if_pos c9] at H
   have c9b0 : (t407 == 1) = true := beq_iff_eq.mpr c9
   have c9b1 : (t407 != 1) = false := bne_eq_false_iff_eq.mpr c9
   clear c9
   (first | rw [c9b0] | (simp only [i64_w, i32_w]; rw [c9b0]) | skip)
   have H' := Aside0.mk H
   clear H
   go_wp2
   go_meet
   case rel => exact ⟨_, ((t407 == 1)), (by first | rfl | (simp; done) | (simp [*]; done)), H', ⟨by first | omega | exact Nat.le_refl _⟩, ⟨by (with_reducible repeat (first | refine blk_drewN ?_ _ | refine blk_drew ?_ | refine blk_alloc ?_ _)); refine blk_far ?_ NB405_406.out _; (with_reducible repeat (first | refine blk_drewN ?_ _ | refine blk_drew ?_ | refine blk_alloc ?_ _)); refine blk_far ?_ NB405_406.out _; (with_reducible repeat (first | refine blk_drewN ?_ _ | refine blk_drew ?_ | refine blk_alloc ?_ _)); refine blk_far ?_ NB405_406.out _; (with_reducible repeat (first | refine blk_drewN ?_ _ | refine blk_drew ?_ | refine blk_alloc ?_ _)); refine blk_far ?_ NB405_406.out _; (with_reducible repeat (first | refine blk_drewN ?_ _ | refine blk_drew ?_ | refine blk_alloc ?_ _)); exact BK405.out⟩, ⟨by (with_reducible repeat (first | refine blk_drewN ?_ _ | refine blk_drew ?_ | refine blk_alloc ?_ _)); refine blk_put (cs := #[.int .i64 a0, .int .i64 0, .string (⟨#[]⟩ : ByteArray), .string (⟨#[]⟩ : ByteArray)]) ?_ 3 _ rfl; (with_reducible repeat (first | refine blk_drewN ?_ _ | refine blk_drew ?_ | refine blk_alloc ?_ _)); refine blk_put (cs := #[.int .i64 a0, .int .i64 0, .string (⟨#[]⟩ : ByteArray), .string (⟨#[]⟩ : ByteArray)]) ?_ 2 _ rfl; (with_reducible repeat (first | refine blk_drewN ?_ _ | refine blk_drew ?_ | refine blk_alloc ?_ _)); refine blk_put (cs := #[.int .i64 a0, .int .i64 0, .string (⟨#[]⟩ : ByteArray), .string (⟨#[]⟩ : ByteArray)]) ?_ 1 _ rfl; (with_reducible repeat (first | refine blk_drewN ?_ _ | refine blk_drew ?_ | refine blk_alloc ?_ _)); refine blk_put (cs := #[.int .i64 0, .int .i64 0, .string (⟨#[]⟩ : ByteArray), .string (⟨#[]⟩ : ByteArray)]) ?_ 0 _ rfl; (with_reducible repeat (first | refine blk_drewN ?_ _ | refine blk_drew ?_ | refine blk_alloc ?_ _)); exact BK406.out⟩, ⟨by repeat (first | (with_reducible first | exact HB.out | apply below_alloc | apply pw_below_drewN | apply below_drew1 | refine below_set ?_ GE405.out | refine below_set ?_ GE406.out) | exact HB.out)⟩⟩
  rw [if_neg c9] at H
  have c9b0 : (t407 == 1) = false := beq_eq_false_iff_ne.mpr c9
  have c9b1 : (t407 != 1) = true := bne_iff_ne.mpr c9
  (first | rw [c9b0] | (simp only [i64_w, i32_w]; rw [c9b0]) | skip)
  by_cases c10 : t407 = 2
  ·
   rw [if_pos c10] at H
   have c10b0 : (t407 == 2) = true := beq_iff_eq.mpr c10
   have c10b1 : (t407 != 2) = false := bne_eq_false_iff_eq.mpr c10
   clear c10
   have H' := Aside0.mk H
   clear H
   go_wp2
   go_meet
   case rel => exact ⟨_, ((t407 == 2)), (by first | rfl | (simp; done) | (simp [*]; done)), H', ⟨by first | omega | exact Nat.le_refl _⟩, ⟨by (with_reducible repeat (first | refine blk_drewN ?_ _ | refine blk_drew ?_ | refine blk_alloc ?_ _)); refine blk_far ?_ NB405_406.out _; (with_reducible repeat (first | refine blk_drewN ?_ _ | refine blk_drew ?_ | refine blk_alloc ?_ _)); refine blk_far ?_ NB405_406.out _; (with_reducible repeat (first | refine blk_drewN ?_ _ | refine blk_drew ?_ | refine blk_alloc ?_ _)); refine blk_far ?_ NB405_406.out _; (with_reducible repeat (first | refine blk_drewN ?_ _ | refine blk_drew ?_ | refine blk_alloc ?_ _)); refine blk_far ?_ NB405_406.out _; (with_reducible repeat (first | refine blk_drewN ?_ _ | refine blk_drew ?_ | refine blk_alloc ?_ _)); exact BK405.out⟩, ⟨by (with_reducible repeat (first | refine blk_drewN ?_ _ | refine blk_drew ?_ | refine blk_alloc ?_ _)); refine blk_put (cs := #[.int .i64 a0, .int .i64 0, .string (⟨#[]⟩ : ByteArray), .string (⟨#[]⟩ : ByteArray)]) ?_ 3 _ rfl; (with_reducible repeat (first | refine blk_drewN ?_ _ | refine blk_drew ?_ | refine blk_alloc ?_ _)); refine blk_put (cs := #[.int .i64 a0, .int .i64 0, .string (⟨#[]⟩ : ByteArray), .string (⟨#[]⟩ : ByteArray)]) ?_ 2 _ rfl; (with_reducible repeat (first | refine blk_drewN ?_ _ | refine blk_drew ?_ | refine blk_alloc ?_ _)); refine blk_put (cs := #[.int .i64 a0, .int .i64 0, .string (⟨#[]⟩ : ByteArray), .string (⟨#[]⟩ : ByteArray)]) ?_ 1 _ rfl; (with_reducible repeat (first | refine blk_drewN ?_ _ | refine blk_drew ?_ | refine blk_alloc ?_ _)); refine blk_put (cs := #[.int .i64 0, .int .i64 0, .string (⟨#[]⟩ : ByteArray), .string (⟨#[]⟩ : ByteArray)]) ?_ 0 _ rfl; (with_reducible repeat (first | refine blk_drewN ?_ _ | refine blk_drew ?_ | refine blk_alloc ?_ _)); exact BK406.out⟩, ⟨by repeat (first | (with_reducible first | exact HB.out | apply below_alloc | apply pw_below_drewN | apply below_drew1 | refine below_set ?_ GE405.out | refine below_set ?_ GE406.out) | exact HB.out)⟩⟩
  rw [if_neg c10] at H
  have c10b0 : (t407 == 2) = false := beq_eq_false_iff_ne.mpr c10
  have c10b1 : (t407 != 2) = true := bne_iff_ne.mpr c10
  have H' := Aside0.mk H
  clear H
  go_wp2
  go_meet
  case rel => exact ⟨_, ((t407 == 3)), (by first | rfl | (simp; done) | (simp [*]; done)), H', ⟨by first | omega | exact Nat.le_refl _⟩, ⟨by (with_reducible repeat (first | refine blk_drewN ?_ _ | refine blk_drew ?_ | refine blk_alloc ?_ _)); refine blk_far ?_ NB405_406.out _; (with_reducible repeat (first | refine blk_drewN ?_ _ | refine blk_drew ?_ | refine blk_alloc ?_ _)); refine blk_far ?_ NB405_406.out _; (with_reducible repeat (first | refine blk_drewN ?_ _ | refine blk_drew ?_ | refine blk_alloc ?_ _)); refine blk_far ?_ NB405_406.out _; (with_reducible repeat (first | refine blk_drewN ?_ _ | refine blk_drew ?_ | refine blk_alloc ?_ _)); refine blk_far ?_ NB405_406.out _; (with_reducible repeat (first | refine blk_drewN ?_ _ | refine blk_drew ?_ | refine blk_alloc ?_ _)); exact BK405.out⟩, ⟨by (with_reducible repeat (first | refine blk_drewN ?_ _ | refine blk_drew ?_ | refine blk_alloc ?_ _)); refine blk_put (cs := #[.int .i64 a0, .int .i64 0, .string (⟨#[]⟩ : ByteArray), .string (⟨#[]⟩ : ByteArray)]) ?_ 3 _ rfl; (with_reducible repeat (first | refine blk_drewN ?_ _ | refine blk_drew ?_ | refine blk_alloc ?_ _)); refine blk_put (cs := #[.int .i64 a0, .int .i64 0, .string (⟨#[]⟩ : ByteArray), .string (⟨#[]⟩ : ByteArray)]) ?_ 2 _ rfl; (with_reducible repeat (first | refine blk_drewN ?_ _ | refine blk_drew ?_ | refine blk_alloc ?_ _)); refine blk_put (cs := #[.int .i64 a0, .int .i64 0, .string (⟨#[]⟩ : ByteArray), .string (⟨#[]⟩ : ByteArray)]) ?_ 1 _ rfl; (with_reducible repeat (first | refine blk_drewN ?_ _ | refine blk_drew ?_ | refine blk_alloc ?_ _)); refine blk_put (cs := #[.int .i64 0, .int .i64 0, .string (⟨#[]⟩ : ByteArray), .string (⟨#[]⟩ : ByteArray)]) ?_ 0 _ rfl; (with_reducible repeat (first | refine blk_drewN ?_ _ | refine blk_drew ?_ | refine blk_alloc ?_ _)); exact BK406.out⟩, ⟨by repeat (first | (with_reducible first | exact HB.out | apply below_alloc | apply pw_below_drewN | apply below_drew1 | refine below_set ?_ GE405.out | refine below_set ?_ GE406.out) | exact HB.out)⟩⟩
 case rest =>
  as_aux_lemma =>
   clear HC4
   try clear c1
   try clear p2
   try clear c4
   try clear c7
   try clear c9
   try clear c9b0
   try clear c9b1
   try clear c10
   try clear c10b0
   try clear c10b1
   try clear hcz8_0
   try clear hcz8_1
   try clear hcz8_2
   try clear hcz8_3
   try clear hfz8_0
   try clear hfz8_1
   try clear hfz8_2
   try clear hfz8_3
   obtain ⟨kq, x25_3, rfl, HA, HJ3, BK405, BK406, HB⟩ := hcut
   cases kq with
   | zero => exact absurd HA.out (by simp [fairwayref4_value.j0])
   | succ kj3 =>
    have H := HA.out
    clear HA
    simp only [fairwayref4_value.j0] at H
    by_cases c11 : x25_3 = true
    ·
     subst c11
     have H1 : ((some (([0, 1, 2, 4] : List Int) : List Int)).bind fun y408 => (if 0 ≤ t407 then (if t407 < (y408.length : Int) then ((fairwayref1_TakeFixed.f kj3 a1 (rd y408 t407)).bind fun bt412 => (if bt412.2 = true then (some (a0, bt412.1, (⟨#[]⟩ : ByteArray), (⟨#[]⟩ : ByteArray), rd y408 t407, 0)) else (some (a0, 0, (⟨#[]⟩ : ByteArray), (⟨#[]⟩ : ByteArray), 0, 8)))) else (none)) else (none))) = some (r1, r2, r3, r4, r5, r6) := by rw [if_pos rfl] at H; exact H
     clear H
     have H := H1
     clear H1
     obtain ⟨y408, hy408⟩ : ∃ y_ : List Int, y_ = (([0, 1, 2, 4] : List Int)) := ⟨_, rfl⟩
     replace H : (if 0 ≤ t407 then (if t407 < (y408.length : Int) then ((fairwayref1_TakeFixed.f kj3 a1 (rd y408 t407)).bind fun bt412 => (if bt412.2 = true then (some (a0, bt412.1, (⟨#[]⟩ : ByteArray), (⟨#[]⟩ : ByteArray), rd y408 t407, 0)) else (some (a0, 0, (⟨#[]⟩ : ByteArray), (⟨#[]⟩ : ByteArray), 0, 8)))) else (none)) else (none)) = some (r1, r2, r3, r4, r5, r6) := by first | (rw [hy408]; with_reducible exact H) | (have H2_ := (Option.bind_some _ _).symm.trans H; rw [hy408]; with_reducible exact H2_) | (have H2_ := (Option.bind_some _ _).symm.trans H; with_reducible exact H2_) | with_reducible exact H | (rw [hy408]; exact H) | exact H
     have Ny408 := Aside0.mk hy408
     clear hy408
     by_cases c12 : 0 ≤ t407
     ·
      rw [if_pos c12] at H
      have c12b0 : decide (0 ≤ t407) = true := decide_eq_true c12
      clear c12
      by_cases c13 : t407 < (y408.length : Int)
      ·
       rw [if_pos c13] at H
       have c13b0 : decide (t407 < (y408.length : Int)) = true := decide_eq_true c13
       clear c13
       replace H := Option.bind_eq_some_iff.mp H
       obtain ⟨⟨t412, t413⟩, A140, H⟩ := H
       replace H : (if t413 = true then (some (a0, t412, (⟨#[]⟩ : ByteArray), (⟨#[]⟩ : ByteArray), rd y408 t407, 0)) else (some (a0, 0, (⟨#[]⟩ : ByteArray), (⟨#[]⟩ : ByteArray), 0, 8))) = some (r1, r2, r3, r4, r5, r6) := H
       have A14 := Aside0.mk A140
       clear A140
       by_cases c15 : t413 = true
       ·
        subst c15
        have H1 : (some (a0, t412, (⟨#[]⟩ : ByteArray), (⟨#[]⟩ : ByteArray), rd y408 t407, 0)) = some (r1, r2, r3, r4, r5, r6) := by rw [if_pos rfl] at H; exact H
        clear H
        have H := H1
        clear H1
        simp only [Option.some.injEq, Prod.mk.injEq] at H
        obtain ⟨rfl, rfl, rfl, rfl, rfl, rfl⟩ := H
        go_wp2_with (first | ((with_reducible refine gate_dst (N := 29) rfl ?_); refine Kd.R_lit (Kd.int .i64) _ 3 ?hg (N := 29) ?hd (xs := ([0, 1, 2, 4] : List Int)) (inner := [.int .i64 0, .int .i64 1, .int .i64 2, .int .i64 4]) (ok := fun _ => True) (okp := fun _ => True) ?hr ?hp (fun _ hk => hk) trivial (Below.refl _ _) (Nat.le_refl _) (by simp) ?_; (case hd => rfl); (case hg => rfl); (case hr => first | (go_simp; done) | (go_simp; rfl)); (case hp => exact (Reps.one (show Kd.M (Kd.int .i64) _ _ _ 0 [.int .i64 0] from rfl) (Reps.one (show Kd.M (Kd.int .i64) _ _ _ 1 [.int .i64 1] from rfl) (Reps.one (show Kd.M (Kd.int .i64) _ _ _ 2 [.int .i64 2] from rfl) (Reps.one (show Kd.M (Kd.int .i64) _ _ _ 4 [.int .i64 4] from rfl) (Reps.none _ _)))))); intro v409 w16 ho17 hb hg_ hnew_; clear hg_ hnew_; (first | rw [← Ny408.out] at ho17 | (simp only [Int.reduceToNat] at ho17; rw [← Ny408.out] at ho17)); have n0_ := Aside0.mk (Kd.R_lower ho17 (below_size (by repeat (first | (with_reducible first | exact HB.out | apply below_alloc | apply pw_below_drewN | apply below_drew1 | refine below_set ?_ GE405.out | refine below_set ?_ GE406.out) | exact HB.out)))); have n1_ := Aside0.mk (blk_below (g := gb405) (o := .cells #[.int .i64 0, .int .i64 0, .string (⟨#[]⟩ : ByteArray), .string (⟨#[]⟩ : ByteArray)] 42 (0, 0)) (by (with_reducible repeat (first | refine blk_drewN ?_ _ | refine blk_drew ?_ | refine blk_alloc ?_ _)); exact BK405.out) hb); have n2_ := Aside0.mk (blk_below (g := gb406) (o := .cells #[.int .i64 a0, .int .i64 0, .string (⟨#[]⟩ : ByteArray), .string (⟨#[]⟩ : ByteArray)] 42 (0, 0)) (by (with_reducible repeat (first | refine blk_drewN ?_ _ | refine blk_drew ?_ | refine blk_alloc ?_ _)); exact BK406.out) hb); have n3_ := Aside0.mk (below_step (by repeat (first | (with_reducible first | exact HB.out | apply below_alloc | apply pw_below_drewN | apply below_drew1 | refine below_set ?_ GE405.out | refine below_set ?_ GE406.out) | exact HB.out)) hb); clear BK405; clear BK406; clear HB; have HO410 := n0_; have BK405 := n1_; have BK406 := n2_; have HB := n3_; clear n0_ n1_ n2_ n3_; clear hb ho17; obtain ⟨Ao18, co18, eo18⟩ := Kd.R_slice HO410.out; subst eo18; have p411 : 0 ≤ (t407 : Int) := of_decide_eq_true (by first | (with_reducible assumption) | assumption); have q411 : t407 < (y408.length : Int) := of_decide_eq_true (by first | (with_reducible assumption) | assumption); obtain ⟨ad411, e411, hx411_0⟩ := Kd.at_int (Kd.R_reads' HO410.out).2.2 t407 p411 q411; cases e411; replace p411 := eq_true p411; replace q411 := eq_true q411) | ((with_reducible refine gate_callee (f := 52) rfl ?_); refine goesL_ (some 36) rfl rfl Tryd.func52 (by kernel_rfl) rfl #[.string a1, .int .i64 (rd y408 t407)] rfl (by (try simp only [List.map_toArray, List.map_cons, List.map_nil]); first | done | rfl | (simp only [List.length_drop, List.length_take]; rfl)) ?_; (with_reducible refine (fairwayref1_TakeFixed.calls kj3 a1 (rd y408 t407) t412 true _ A14.out).mono ?_); rintro e w' ⟨rfl, ⟨nd, rfl⟩⟩; refine ⟨_, rfl, ?_⟩; (try (rw [drewN_self w16]; generalize hq_ : World.drewN w16 _ = w16; have n0_ : Aside0 (Kd.R (Kd.int .i64) 3 w16 w.heap.size (fun _ => True) (.slice (some ad411) y408.length co18) y408) := ⟨by rw [← hq_]; exact (by (with_reducible repeat (first | apply Kd.R_alloc | apply Kd.R_drewN | apply Kd.R_drew)); exact HO410.out)⟩; have n1_ : Aside0 (w16.heap[gb405]? = some (.cells #[.int .i64 0, .int .i64 0, .string (⟨#[]⟩ : ByteArray), .string (⟨#[]⟩ : ByteArray)] 42 (0, 0))) := ⟨by rw [← hq_]; exact (by (with_reducible repeat (first | refine blk_drewN ?_ _ | refine blk_drew ?_ | refine blk_alloc ?_ _)); exact BK405.out)⟩; have n2_ : Aside0 (w16.heap[gb406]? = some (.cells #[.int .i64 a0, .int .i64 0, .string (⟨#[]⟩ : ByteArray), .string (⟨#[]⟩ : ByteArray)] 42 (0, 0))) := ⟨by rw [← hq_]; exact (by (with_reducible repeat (first | refine blk_drewN ?_ _ | refine blk_drew ?_ | refine blk_alloc ?_ _)); exact BK406.out)⟩; have n3_ : Aside0 (Below w.heap.size w w16) := ⟨by rw [← hq_]; exact (by repeat (first | (with_reducible first | exact HB.out | apply below_alloc | apply pw_below_drewN | apply below_drew1 | refine below_set ?_ GE405.out | refine below_set ?_ GE406.out) | exact HB.out))⟩; clear HO410 BK405 BK406 HB hq_; have HO410 := n0_; have BK405 := n1_; have BK406 := n2_; have HB := n3_; clear n0_ n1_ n2_ n3_)); have hnb19 := NB406_405.out; have hnc19 := NB405_406.out; have hcz20_0 : w16.cell? ⟨gb406, 0, none⟩ = some (.int .i64 a0) := (blk_cell BK406.out 0).trans rfl; have hcz20_1 : w16.cell? ⟨gb406, 1, none⟩ = some (.int .i64 0) := (blk_cell BK406.out 1).trans rfl; have hcz20_2 : w16.cell? ⟨gb406, 2, none⟩ = some (.string (⟨#[]⟩ : ByteArray)) := (blk_cell BK406.out 2).trans rfl; have hcz20_3 : w16.cell? ⟨gb406, 3, none⟩ = some (.string (⟨#[]⟩ : ByteArray)) := (blk_cell BK406.out 3).trans rfl; have hfz20_0 := blk_frozen BK406.out 0; have hfz20_1 := blk_frozen BK406.out 1; have hfz20_2 := blk_frozen BK406.out 2; have hfz20_3 := blk_frozen BK406.out 3; have hcz21_0 : w16.cell? ⟨gb405, 0, none⟩ = some (.int .i64 0) := (blk_cell BK405.out 0).trans rfl; have hcz21_1 : w16.cell? ⟨gb405, 1, none⟩ = some (.int .i64 0) := (blk_cell BK405.out 1).trans rfl; have hcz21_2 : w16.cell? ⟨gb405, 2, none⟩ = some (.string (⟨#[]⟩ : ByteArray)) := (blk_cell BK405.out 2).trans rfl; have hcz21_3 : w16.cell? ⟨gb405, 3, none⟩ = some (.string (⟨#[]⟩ : ByteArray)) := (blk_cell BK405.out 3).trans rfl; have hfz21_0 := blk_frozen BK405.out 0; have hfz21_1 := blk_frozen BK405.out 1; have hfz21_2 := blk_frozen BK405.out 2; have hfz21_3 := blk_frozen BK405.out 3))
        refine bodyPost_ret (results_ctt rfl _ _ gb405 42 #[.int .i64 a0, .int .i64 t412, .string (⟨#[]⟩ : ByteArray), .string (⟨#[]⟩ : ByteArray)] (0, 0) _ rfl (by (with_reducible repeat (first | refine blk_drewN ?_ _ | refine blk_drew ?_ | refine blk_alloc ?_ _)); refine blk_put (cs := #[.int .i64 a0, .int .i64 t412, .string (⟨#[]⟩ : ByteArray), .string (⟨#[]⟩ : ByteArray)]) ?_ 3 _ rfl; (with_reducible repeat (first | refine blk_drewN ?_ _ | refine blk_drew ?_ | refine blk_alloc ?_ _)); refine blk_put (cs := #[.int .i64 a0, .int .i64 t412, .string (⟨#[]⟩ : ByteArray), .string (⟨#[]⟩ : ByteArray)]) ?_ 2 _ rfl; (with_reducible repeat (first | refine blk_drewN ?_ _ | refine blk_drew ?_ | refine blk_alloc ?_ _)); refine blk_put (cs := #[.int .i64 a0, .int .i64 0, .string (⟨#[]⟩ : ByteArray), .string (⟨#[]⟩ : ByteArray)]) ?_ 1 _ rfl; (with_reducible repeat (first | refine blk_drewN ?_ _ | refine blk_drew ?_ | refine blk_alloc ?_ _)); refine blk_put (cs := #[.int .i64 0, .int .i64 0, .string (⟨#[]⟩ : ByteArray), .string (⟨#[]⟩ : ByteArray)]) ?_ 0 _ rfl; (with_reducible repeat (first | refine blk_drewN ?_ _ | refine blk_drew ?_ | refine blk_alloc ?_ _)); refine blk_far ?_ NB405_406.out _; (with_reducible repeat (first | refine blk_drewN ?_ _ | refine blk_drew ?_ | refine blk_alloc ?_ _)); exact BK405.out) Tryd.underlying42 rfl (by kernel_rfl)) rfl ?_
        exact ⟨by first | rfl | (simp [errW_none, errW_some] <;> rfl) | (simp [*, errW_none, errW_some] <;> rfl), by repeat (first | (with_reducible first | exact HB.out | apply below_alloc | apply pw_below_drewN | apply below_drew1 | refine below_set ?_ GE405.out | refine below_set ?_ GE406.out) | exact HB.out)⟩
       replace c15 := Bool.eq_false_iff.mpr c15
       subst c15
       have H1 : (some (a0, 0, (⟨#[]⟩ : ByteArray), (⟨#[]⟩ : ByteArray), 0, 8)) = some (r1, r2, r3, r4, r5, r6) := by rw [if_neg (show ¬ (false = true) by decide)] at H; exact H
       clear H
       have H := H1
       clear H1
       simp only [Option.some.injEq, Prod.mk.injEq] at H
       obtain ⟨rfl, rfl, rfl, rfl, rfl, rfl⟩ := H
       go_wp2_with (first | ((with_reducible refine gate_dst (N := 29) rfl ?_); refine Kd.R_lit (Kd.int .i64) _ 3 ?hg (N := 29) ?hd (xs := ([0, 1, 2, 4] : List Int)) (inner := [.int .i64 0, .int .i64 1, .int .i64 2, .int .i64 4]) (ok := fun _ => True) (okp := fun _ => True) ?hr ?hp (fun _ hk => hk) trivial (Below.refl _ _) (Nat.le_refl _) (by simp) ?_; (case hd => rfl); (case hg => rfl); (case hr => first | (go_simp; done) | (go_simp; rfl)); (case hp => exact (Reps.one (show Kd.M (Kd.int .i64) _ _ _ 0 [.int .i64 0] from rfl) (Reps.one (show Kd.M (Kd.int .i64) _ _ _ 1 [.int .i64 1] from rfl) (Reps.one (show Kd.M (Kd.int .i64) _ _ _ 2 [.int .i64 2] from rfl) (Reps.one (show Kd.M (Kd.int .i64) _ _ _ 4 [.int .i64 4] from rfl) (Reps.none _ _)))))); intro v409 w22 ho23 hb hg_ hnew_; clear hg_ hnew_; (first | rw [← Ny408.out] at ho23 | (simp only [Int.reduceToNat] at ho23; rw [← Ny408.out] at ho23)); have n0_ := Aside0.mk (Kd.R_lower ho23 (below_size (by repeat (first | (with_reducible first | exact HB.out | apply below_alloc | apply pw_below_drewN | apply below_drew1 | refine below_set ?_ GE405.out | refine below_set ?_ GE406.out) | exact HB.out)))); have n1_ := Aside0.mk (blk_below (g := gb405) (o := .cells #[.int .i64 0, .int .i64 0, .string (⟨#[]⟩ : ByteArray), .string (⟨#[]⟩ : ByteArray)] 42 (0, 0)) (by (with_reducible repeat (first | refine blk_drewN ?_ _ | refine blk_drew ?_ | refine blk_alloc ?_ _)); exact BK405.out) hb); have n2_ := Aside0.mk (blk_below (g := gb406) (o := .cells #[.int .i64 a0, .int .i64 0, .string (⟨#[]⟩ : ByteArray), .string (⟨#[]⟩ : ByteArray)] 42 (0, 0)) (by (with_reducible repeat (first | refine blk_drewN ?_ _ | refine blk_drew ?_ | refine blk_alloc ?_ _)); exact BK406.out) hb); have n3_ := Aside0.mk (below_step (by repeat (first | (with_reducible first | exact HB.out | apply below_alloc | apply pw_below_drewN | apply below_drew1 | refine below_set ?_ GE405.out | refine below_set ?_ GE406.out) | exact HB.out)) hb); clear BK405; clear BK406; clear HB; have HO410 := n0_; have BK405 := n1_; have BK406 := n2_; have HB := n3_; clear n0_ n1_ n2_ n3_; clear hb ho23; obtain ⟨Ao24, co24, eo24⟩ := Kd.R_slice HO410.out; subst eo24; have p411 : 0 ≤ (t407 : Int) := of_decide_eq_true (by first | (with_reducible assumption) | assumption); have q411 : t407 < (y408.length : Int) := of_decide_eq_true (by first | (with_reducible assumption) | assumption); obtain ⟨ad411, e411, hx411_0⟩ := Kd.at_int (Kd.R_reads' HO410.out).2.2 t407 p411 q411; cases e411; replace p411 := eq_true p411; replace q411 := eq_true q411) | ((with_reducible refine gate_callee (f := 52) rfl ?_); refine goesL_ (some 36) rfl rfl Tryd.func52 (by kernel_rfl) rfl #[.string a1, .int .i64 (rd y408 t407)] rfl (by (try simp only [List.map_toArray, List.map_cons, List.map_nil]); first | done | rfl | (simp only [List.length_drop, List.length_take]; rfl)) ?_; (with_reducible refine (fairwayref1_TakeFixed.calls kj3 a1 (rd y408 t407) t412 false _ A14.out).mono ?_); rintro e w' ⟨rfl, ⟨nd, rfl⟩⟩; refine ⟨_, rfl, ?_⟩; (try (rw [drewN_self w22]; generalize hq_ : World.drewN w22 _ = w22; have n0_ : Aside0 (Kd.R (Kd.int .i64) 3 w22 w.heap.size (fun _ => True) (.slice (some ad411) y408.length co24) y408) := ⟨by rw [← hq_]; exact (by (with_reducible repeat (first | apply Kd.R_alloc | apply Kd.R_drewN | apply Kd.R_drew)); exact HO410.out)⟩; have n1_ : Aside0 (w22.heap[gb405]? = some (.cells #[.int .i64 0, .int .i64 0, .string (⟨#[]⟩ : ByteArray), .string (⟨#[]⟩ : ByteArray)] 42 (0, 0))) := ⟨by rw [← hq_]; exact (by (with_reducible repeat (first | refine blk_drewN ?_ _ | refine blk_drew ?_ | refine blk_alloc ?_ _)); exact BK405.out)⟩; have n2_ : Aside0 (w22.heap[gb406]? = some (.cells #[.int .i64 a0, .int .i64 0, .string (⟨#[]⟩ : ByteArray), .string (⟨#[]⟩ : ByteArray)] 42 (0, 0))) := ⟨by rw [← hq_]; exact (by (with_reducible repeat (first | refine blk_drewN ?_ _ | refine blk_drew ?_ | refine blk_alloc ?_ _)); exact BK406.out)⟩; have n3_ : Aside0 (Below w.heap.size w w22) := ⟨by rw [← hq_]; exact (by repeat (first | (with_reducible first | exact HB.out | apply below_alloc | apply pw_below_drewN | apply below_drew1 | refine below_set ?_ GE405.out | refine below_set ?_ GE406.out) | exact HB.out))⟩; clear HO410 BK405 BK406 HB hq_; have HO410 := n0_; have BK405 := n1_; have BK406 := n2_; have HB := n3_; clear n0_ n1_ n2_ n3_)); have hnb25 := NB406_405.out; have hnc25 := NB405_406.out; have hcz26_0 : w22.cell? ⟨gb406, 0, none⟩ = some (.int .i64 a0) := (blk_cell BK406.out 0).trans rfl; have hcz26_1 : w22.cell? ⟨gb406, 1, none⟩ = some (.int .i64 0) := (blk_cell BK406.out 1).trans rfl; have hcz26_2 : w22.cell? ⟨gb406, 2, none⟩ = some (.string (⟨#[]⟩ : ByteArray)) := (blk_cell BK406.out 2).trans rfl; have hcz26_3 : w22.cell? ⟨gb406, 3, none⟩ = some (.string (⟨#[]⟩ : ByteArray)) := (blk_cell BK406.out 3).trans rfl; have hfz26_0 := blk_frozen BK406.out 0; have hfz26_1 := blk_frozen BK406.out 1; have hfz26_2 := blk_frozen BK406.out 2; have hfz26_3 := blk_frozen BK406.out 3; have hcz27_0 : w22.cell? ⟨gb405, 0, none⟩ = some (.int .i64 0) := (blk_cell BK405.out 0).trans rfl; have hcz27_1 : w22.cell? ⟨gb405, 1, none⟩ = some (.int .i64 0) := (blk_cell BK405.out 1).trans rfl; have hcz27_2 : w22.cell? ⟨gb405, 2, none⟩ = some (.string (⟨#[]⟩ : ByteArray)) := (blk_cell BK405.out 2).trans rfl; have hcz27_3 : w22.cell? ⟨gb405, 3, none⟩ = some (.string (⟨#[]⟩ : ByteArray)) := (blk_cell BK405.out 3).trans rfl; have hfz27_0 := blk_frozen BK405.out 0; have hfz27_1 := blk_frozen BK405.out 1; have hfz27_2 := blk_frozen BK405.out 2; have hfz27_3 := blk_frozen BK405.out 3))
       refine bodyPost_ret (results_ctt rfl _ _ gb405 42 #[.int .i64 a0, .int .i64 0, .string (⟨#[]⟩ : ByteArray), .string (⟨#[]⟩ : ByteArray)] (0, 0) _ rfl (by (with_reducible repeat (first | refine blk_drewN ?_ _ | refine blk_drew ?_ | refine blk_alloc ?_ _)); refine blk_put (cs := #[.int .i64 a0, .int .i64 0, .string (⟨#[]⟩ : ByteArray), .string (⟨#[]⟩ : ByteArray)]) ?_ 3 _ rfl; (with_reducible repeat (first | refine blk_drewN ?_ _ | refine blk_drew ?_ | refine blk_alloc ?_ _)); refine blk_put (cs := #[.int .i64 a0, .int .i64 0, .string (⟨#[]⟩ : ByteArray), .string (⟨#[]⟩ : ByteArray)]) ?_ 2 _ rfl; (with_reducible repeat (first | refine blk_drewN ?_ _ | refine blk_drew ?_ | refine blk_alloc ?_ _)); refine blk_put (cs := #[.int .i64 a0, .int .i64 0, .string (⟨#[]⟩ : ByteArray), .string (⟨#[]⟩ : ByteArray)]) ?_ 1 _ rfl; (with_reducible repeat (first | refine blk_drewN ?_ _ | refine blk_drew ?_ | refine blk_alloc ?_ _)); refine blk_put (cs := #[.int .i64 0, .int .i64 0, .string (⟨#[]⟩ : ByteArray), .string (⟨#[]⟩ : ByteArray)]) ?_ 0 _ rfl; (with_reducible repeat (first | refine blk_drewN ?_ _ | refine blk_drew ?_ | refine blk_alloc ?_ _)); exact BK405.out) Tryd.underlying42 rfl (by kernel_rfl)) rfl ?_
       exact ⟨by first | rfl | (simp [errW_none, errW_some] <;> rfl) | (simp [*, errW_none, errW_some] <;> rfl), by repeat (first | (with_reducible first | exact HB.out | apply below_alloc | apply pw_below_drewN | apply below_drew1 | refine below_set ?_ GE405.out | refine below_set ?_ GE406.out) | exact HB.out)⟩
      rw [if_neg c13] at H
      exact absurd H (by simp)
     rw [if_neg c12] at H
     exact absurd H (by simp)
    replace c11 := Bool.eq_false_iff.mpr c11
    subst c11
    have H1 : (if t407 = 4 then ((fairwayref1_TakeNum.f kj3 a1).bind fun bt414 => ((fairwayref4_inner.f bt414.2.2).bind fun t417 => (some (a0, bt414.1, (⟨#[]⟩ : ByteArray), (⟨#[]⟩ : ByteArray), bt414.2.1, t417)))) else ((fairwayref1_TakeLong.f kj3 a1 (t407 != 6)).bind fun bt418 => (if bt418.2.2 = 0 then (fairwayref4_value.j1 kj3 a1 bt418.1 bt418.2.1 bt418.2.2 (t407 != 7) a0 0 (⟨#[]⟩ : ByteArray) (⟨#[]⟩ : ByteArray)) else (fairwayref4_value.j1 kj3 a1 bt418.1 bt418.2.1 bt418.2.2 true a0 0 (⟨#[]⟩ : ByteArray) (⟨#[]⟩ : ByteArray))))) = some (r1, r2, r3, r4, r5, r6) := by rw [if_neg (show ¬ (false = true) by decide)] at H; exact H
    clear H
    have H := H1
    clear H1
    by_cases c28 : t407 = 4
    ·
     rw [if_pos c28] at H
     have c28b0 : (t407 == 4) = true := beq_iff_eq.mpr c28
     have c28b1 : (t407 != 4) = false := bne_eq_false_iff_eq.mpr c28
     clear c28
     replace H := Option.bind_eq_some_iff.mp H
     obtain ⟨⟨t414, t415, t416⟩, A290, H⟩ := H
     replace H : ((fairwayref4_inner.f t416).bind fun t417 => (some (a0, t414, (⟨#[]⟩ : ByteArray), (⟨#[]⟩ : ByteArray), t415, t417))) = some (r1, r2, r3, r4, r5, r6) := H
     have A29 := Aside0.mk A290
     clear A290
     replace H := Option.bind_eq_some_iff.mp H
     obtain ⟨t417, A300, H⟩ := H
     replace H : (some (a0, t414, (⟨#[]⟩ : ByteArray), (⟨#[]⟩ : ByteArray), t415, t417)) = some (r1, r2, r3, r4, r5, r6) := H
     have A30 := Aside0.mk A300
     clear A300
     simp only [Option.some.injEq, Prod.mk.injEq] at H
     obtain ⟨rfl, rfl, rfl, rfl, rfl, rfl⟩ := H
     try go_wp2_with (first | ((with_reducible refine gate_callee (f := 39) rfl ?_); refine goesL_ (some 50) rfl rfl Tryd.func39 (by kernel_rfl) rfl #[.string a1] rfl (by (try simp only [List.map_toArray, List.map_cons, List.map_nil]); first | done | rfl | (simp only [List.length_drop, List.length_take]; rfl)) ?_; (with_reducible refine (fairwayref1_TakeNum.calls kj3 a1 t414 t415 t416 _ A29.out).mono ?_); rintro e w' ⟨rfl, ⟨nd, rfl⟩⟩; refine ⟨_, rfl, ?_⟩; (try (rw [drewN_self wc]; generalize hq_ : World.drewN wc _ = wc; have n0_ : Aside0 (wc.heap[gb405]? = some (.cells #[.int .i64 0, .int .i64 0, .string (⟨#[]⟩ : ByteArray), .string (⟨#[]⟩ : ByteArray)] 42 (0, 0))) := ⟨by rw [← hq_]; exact (by (with_reducible repeat (first | refine blk_drewN ?_ _ | refine blk_drew ?_ | refine blk_alloc ?_ _)); exact BK405.out)⟩; have n1_ : Aside0 (wc.heap[gb406]? = some (.cells #[.int .i64 a0, .int .i64 0, .string (⟨#[]⟩ : ByteArray), .string (⟨#[]⟩ : ByteArray)] 42 (0, 0))) := ⟨by rw [← hq_]; exact (by (with_reducible repeat (first | refine blk_drewN ?_ _ | refine blk_drew ?_ | refine blk_alloc ?_ _)); exact BK406.out)⟩; have n2_ : Aside0 (Below w.heap.size w wc) := ⟨by rw [← hq_]; exact (by repeat (first | (with_reducible first | exact HB.out | apply below_alloc | apply pw_below_drewN | apply below_drew1 | refine below_set ?_ GE405.out | refine below_set ?_ GE406.out) | exact HB.out))⟩; clear BK405 BK406 HB hq_; have BK405 := n0_; have BK406 := n1_; have HB := n2_; clear n0_ n1_ n2_)); have hnb31 := NB406_405.out; have hnc31 := NB405_406.out; have hcz32_0 : wc.cell? ⟨gb406, 0, none⟩ = some (.int .i64 a0) := (blk_cell BK406.out 0).trans rfl; have hcz32_1 : wc.cell? ⟨gb406, 1, none⟩ = some (.int .i64 0) := (blk_cell BK406.out 1).trans rfl; have hcz32_2 : wc.cell? ⟨gb406, 2, none⟩ = some (.string (⟨#[]⟩ : ByteArray)) := (blk_cell BK406.out 2).trans rfl; have hcz32_3 : wc.cell? ⟨gb406, 3, none⟩ = some (.string (⟨#[]⟩ : ByteArray)) := (blk_cell BK406.out 3).trans rfl; have hfz32_0 := blk_frozen BK406.out 0; have hfz32_1 := blk_frozen BK406.out 1; have hfz32_2 := blk_frozen BK406.out 2; have hfz32_3 := blk_frozen BK406.out 3))
     have n0_ : Aside0 ((wc.setCell ⟨gb406, 1, none⟩ (.int .i64 t414)).heap[gb405]? = some (.cells #[.int .i64 0, .int .i64 0, .string (⟨#[]⟩ : ByteArray), .string (⟨#[]⟩ : ByteArray)] 42 (0, 0))) := ⟨by (with_reducible repeat (first | refine blk_drewN ?_ _ | refine blk_drew ?_ | refine blk_alloc ?_ _)); refine blk_far ?_ NB405_406.out _; (with_reducible repeat (first | refine blk_drewN ?_ _ | refine blk_drew ?_ | refine blk_alloc ?_ _)); exact BK405.out⟩
     have n1_ : Aside0 ((wc.setCell ⟨gb406, 1, none⟩ (.int .i64 t414)).heap[gb406]? = some (.cells #[.int .i64 a0, .int .i64 t414, .string (⟨#[]⟩ : ByteArray), .string (⟨#[]⟩ : ByteArray)] 42 (0, 0))) := ⟨by (with_reducible repeat (first | refine blk_drewN ?_ _ | refine blk_drew ?_ | refine blk_alloc ?_ _)); refine blk_put (cs := #[.int .i64 a0, .int .i64 0, .string (⟨#[]⟩ : ByteArray), .string (⟨#[]⟩ : ByteArray)]) ?_ 1 _ rfl; (with_reducible repeat (first | refine blk_drewN ?_ _ | refine blk_drew ?_ | refine blk_alloc ?_ _)); exact BK406.out⟩
     have n2_ : Aside0 (Below w.heap.size w (wc.setCell ⟨gb406, 1, none⟩ (.int .i64 t414))) := ⟨by repeat (first | (with_reducible first | exact HB.out | apply below_alloc | apply pw_below_drewN | apply below_drew1 | refine below_set ?_ GE405.out | refine below_set ?_ GE406.out) | exact HB.out)⟩
     (try clear BK405)
     (try clear BK406)
     (try clear HB)
     generalize (wc.setCell ⟨gb406, 1, none⟩ (.int .i64 t414)) = w33 at n0_ n1_ n2_ ⊢
     have BK405 := n0_
     have BK406 := n1_
     have HB := n2_
     clear n0_ n1_ n2_
     have n0_ := Aside0.mk (blk_drew BK405.out)
     have n1_ := Aside0.mk (blk_drew BK406.out)
     have n2_ := Aside0.mk (below_drew1 HB.out)
     clear BK405
     clear BK406
     clear HB
     have BK405 := n0_
     have BK406 := n1_
     have HB := n2_
     clear n0_ n1_ n2_
     refine start_ (n := 7) (S := fun w' => w'.cell? ⟨gb406, 0, none⟩ = some (.int .i64 a0) ∧ w'.cell? ⟨gb406, 1, none⟩ = some (.int .i64 t414) ∧ w'.cell? ⟨gb406, 2, none⟩ = some (.string (⟨#[]⟩ : ByteArray)) ∧ w'.cell? ⟨gb406, 3, none⟩ = some (.string (⟨#[]⟩ : ByteArray))) (ds := []) #[false, false, false, false, false, false, false] (by kernel_rfl) rfl rfl ⟨(blk_cell BK406.out 0).trans rfl, (blk_cell BK406.out 1).trans rfl, (blk_cell BK406.out 2).trans rfl, (blk_cell BK406.out 3).trans rfl⟩ (fun hHeld => ?_)
     generalize w33.drew = w34 at BK405 BK406 HB hHeld ⊢
     refine pure_ (i := 1) (N := some 57) (v := ?_) (a' := ?_) #[false, true, false, false, false, false, false] rfl rfl (by kernel_rfl) (fun _ _ _ h => h) (Or.inl ⟨by rfl, ?_⟩) ?_ ?_
     rotate_left
     ·
      intro w'
      go_simp
      with_reducible rfl
     rotate_left
     ·
      simp only [Act.put, List.setIfInBounds_toArray, List.set_cons_zero, List.set_cons_succ, i64_w, i32_w]
      rfl
     refine pure_ (i := 2) (N := some 58) (v := ?_) (a' := ?_) #[false, true, true, false, false, false, false] rfl rfl (by kernel_rfl) (fun _ _ _ h => h) (Or.inl ⟨by rfl, ?_⟩) ?_ ?_
     rotate_left
     ·
      intro w'
      go_simp
      with_reducible rfl
     rotate_left
     ·
      simp only [Act.put, List.setIfInBounds_toArray, List.set_cons_zero, List.set_cons_succ, i64_w, i32_w]
      rfl
     refine take_ (i := 0) (N := some 56) (v := ?_) (a' := ?_) #[true, true, true, false, false, false, false] rfl rfl (by kernel_rfl) (fun _ _ _ h => h) (Or.inl ⟨by rfl, ?_⟩) hHeld ?_ ?_
     rotate_left
     ·
      rintro w' ⟨s0, s1, s2, s3⟩
      go_simp
      with_reducible rfl
     rotate_left
     ·
      simp only [Act.put, List.setIfInBounds_toArray, List.set_cons_zero, List.set_cons_succ, i64_w, i32_w]
      rfl
     refine one_ (i := 3) (N := some 59) #[true, true, true, true, false, false, false] rfl rfl (by kernel_rfl) (by decide) (fun K hK => ?_)
     refine goes_ Tryd.func53 (by kernel_rfl) rfl #[.int .i64 t416] (by rfl) rfl rfl (by (try simp only [List.map_toArray, List.map_cons, List.map_nil]); first | done | rfl | (simp only [List.length_drop, List.length_take]; rfl)) ?_
     with_reducible refine (fairwayref4_inner.calls t416 t417 _ A30.out).mono ?_
     rintro e w' ⟨rfl, ⟨nd, rfl⟩⟩
     refine ⟨_, rfl, ?_⟩
     refine hK.out _ _ ⟨(blk_cell BK406.out 0).trans rfl, (blk_cell BK406.out 1).trans rfl, (blk_cell BK406.out 2).trans rfl, (blk_cell BK406.out 3).trans rfl⟩ (fun hHeld => ?_)
     clear hK K
     refine norm_ (a' := ?_) ?_ ?_
     rotate_left
     ·
      show Act.put _ (some 59) _ = _
      simp only [Act.put, List.setIfInBounds_toArray, List.set_cons_zero, List.set_cons_succ, i64_w, i32_w]
      rfl
     refine one_ (i := 4) (N := none) #[true, true, true, true, true, false, false] rfl rfl (by kernel_rfl) (by decide) (fun K hK => ?_)
     have hs35 : w34.cell? ⟨gb405, 0, none⟩ = some (.int .i64 0) := (blk_cell BK405.out 0).trans rfl
     have hfs35 := blk_frozen BK405.out 0
     have hns35_1 := NB406_405.out
     have hms35_1 := NB405_406.out
     have hs36 : w34.cell? ⟨gb405, 1, none⟩ = some (.int .i64 0) := (blk_cell BK405.out 1).trans rfl
     have hfs36 := blk_frozen BK405.out 1
     have hns36_1 := NB406_405.out
     have hms36_1 := NB405_406.out
     have hs37 : w34.cell? ⟨gb405, 2, none⟩ = some (.string (⟨#[]⟩ : ByteArray)) := (blk_cell BK405.out 2).trans rfl
     have hfs37 := blk_frozen BK405.out 2
     have hns37_1 := NB406_405.out
     have hms37_1 := NB405_406.out
     have hs38 : w34.cell? ⟨gb405, 3, none⟩ = some (.string (⟨#[]⟩ : ByteArray)) := (blk_cell BK405.out 3).trans rfl
     have hfs38 := blk_frozen BK405.out 3
     have hns38_1 := NB406_405.out
     have hms38_1 := NB405_406.out
     refine skip_ (w1 := ?_) (by rfl) rfl ?_ ?_
     rotate_left
     ·
      go_simp
      rfl
     refine hK.out _ _ ⟨((cell_far (p := ⟨gb405, _, none⟩) NB406_405.out _).trans (((cell_far (p := ⟨gb405, _, none⟩) NB406_405.out _).trans (((cell_far (p := ⟨gb405, _, none⟩) NB406_405.out _).trans (((cell_far (p := ⟨gb405, _, none⟩) NB406_405.out _).trans (hHeld.1)))))))), ((cell_far (p := ⟨gb405, _, none⟩) NB406_405.out _).trans (((cell_far (p := ⟨gb405, _, none⟩) NB406_405.out _).trans (((cell_far (p := ⟨gb405, _, none⟩) NB406_405.out _).trans (((cell_far (p := ⟨gb405, _, none⟩) NB406_405.out _).trans (hHeld.2.1)))))))), ((cell_far (p := ⟨gb405, _, none⟩) NB406_405.out _).trans (((cell_far (p := ⟨gb405, _, none⟩) NB406_405.out _).trans (((cell_far (p := ⟨gb405, _, none⟩) NB406_405.out _).trans (((cell_far (p := ⟨gb405, _, none⟩) NB406_405.out _).trans (hHeld.2.2.1)))))))), ((cell_far (p := ⟨gb405, _, none⟩) NB406_405.out _).trans (((cell_far (p := ⟨gb405, _, none⟩) NB406_405.out _).trans (((cell_far (p := ⟨gb405, _, none⟩) NB406_405.out _).trans (((cell_far (p := ⟨gb405, _, none⟩) NB406_405.out _).trans (hHeld.2.2.2))))))))⟩ (fun hHeld => ?_)
     clear hK K
     refine pure_ (i := 5) (N := some 5) (v := ?_) (a' := ?_) #[true, true, true, true, true, true, false] rfl rfl (by kernel_rfl) (fun _ _ _ h => h) (Or.inl ⟨by rfl, ?_⟩) ?_ ?_
     rotate_left
     ·
      intro w'
      go_simp
      with_reducible rfl
     rotate_left
     ·
      simp only [Act.put, List.setIfInBounds_toArray, List.set_cons_zero, List.set_cons_succ, i64_w, i32_w]
      rfl
     refine pure_ (i := 6) (N := some 6) (v := ?_) (a' := ?_) #[true, true, true, true, true, true, true] rfl rfl (by kernel_rfl) (fun _ _ _ h => h) (Or.inl ⟨by rfl, ?_⟩) ?_ ?_
     rotate_left
     ·
      intro w'
      go_simp
      with_reducible rfl
     rotate_left
     ·
      simp only [Act.put, List.setIfInBounds_toArray, List.set_cons_zero, List.set_cons_succ, i64_w, i32_w]
      rfl
     refine done_ (by kernel_rfl) ?_
     try go_wp2
     refine bodyPost_ret (results_ctt rfl _ _ gb405 42 #[.int .i64 a0, .int .i64 t414, .string (⟨#[]⟩ : ByteArray), .string (⟨#[]⟩ : ByteArray)] (0, 0) _ rfl (by (with_reducible repeat (first | refine blk_drewN ?_ _ | refine blk_drew ?_ | refine blk_alloc ?_ _)); refine blk_put (cs := #[.int .i64 a0, .int .i64 t414, .string (⟨#[]⟩ : ByteArray), .string (⟨#[]⟩ : ByteArray)]) ?_ 3 _ rfl; (with_reducible repeat (first | refine blk_drewN ?_ _ | refine blk_drew ?_ | refine blk_alloc ?_ _)); refine blk_put (cs := #[.int .i64 a0, .int .i64 t414, .string (⟨#[]⟩ : ByteArray), .string (⟨#[]⟩ : ByteArray)]) ?_ 2 _ rfl; (with_reducible repeat (first | refine blk_drewN ?_ _ | refine blk_drew ?_ | refine blk_alloc ?_ _)); refine blk_put (cs := #[.int .i64 a0, .int .i64 0, .string (⟨#[]⟩ : ByteArray), .string (⟨#[]⟩ : ByteArray)]) ?_ 1 _ rfl; (with_reducible repeat (first | refine blk_drewN ?_ _ | refine blk_drew ?_ | refine blk_alloc ?_ _)); refine blk_put (cs := #[.int .i64 0, .int .i64 0, .string (⟨#[]⟩ : ByteArray), .string (⟨#[]⟩ : ByteArray)]) ?_ 0 _ rfl; (with_reducible repeat (first | refine blk_drewN ?_ _ | refine blk_drew ?_ | refine blk_alloc ?_ _)); exact BK405.out) Tryd.underlying42 rfl (by kernel_rfl)) rfl ?_
     exact ⟨by first | rfl | (simp [errW_none, errW_some] <;> rfl) | (simp [*, errW_none, errW_some] <;> rfl), by repeat (first | (with_reducible first | exact HB.out | apply below_alloc | apply pw_below_drewN | apply below_drew1 | refine below_set ?_ GE405.out | refine below_set ?_ GE406.out) | exact HB.out)⟩
    rw [if_neg c28] at H
    have c28b0 : (t407 == 4) = false := beq_eq_false_iff_ne.mpr c28
    have c28b1 : (t407 != 4) = true := bne_iff_ne.mpr c28
    replace H := Option.bind_eq_some_iff.mp H
    obtain ⟨⟨t418, t419, t420⟩, A390, H⟩ := H
    replace H : (if t420 = 0 then (fairwayref4_value.j1 kj3 a1 t418 t419 t420 (t407 != 7) a0 0 (⟨#[]⟩ : ByteArray) (⟨#[]⟩ : ByteArray)) else (fairwayref4_value.j1 kj3 a1 t418 t419 t420 true a0 0 (⟨#[]⟩ : ByteArray) (⟨#[]⟩ : ByteArray))) = some (r1, r2, r3, r4, r5, r6) := H
    have A39 := Aside0.mk A390
    clear A390
    have HC40 := Aside0.mk H
    clear H
    go_upto_region 18 with (first | ((with_reducible refine gate_callee (f := 54) rfl ?_); refine goesL_ (some 64) rfl rfl Tryd.func54 (by kernel_rfl) rfl #[.string a1, .bool (t407 != 6)] rfl (by (try simp only [List.map_toArray, List.map_cons, List.map_nil]); first | done | rfl | (simp only [List.length_drop, List.length_take]; rfl)) ?_; (with_reducible refine (fairwayref1_TakeLong.calls kj3 a1 (t407 != 6) t418 t419 t420 _ A39.out).mono ?_); rintro e w' ⟨rfl, ⟨nd, rfl⟩⟩; refine ⟨_, rfl, ?_⟩))
    (try simp only [Act.put, List.setIfInBounds_toArray, List.set_cons_zero, List.set_cons_succ])
    go_cut [73] (fun v73 wc => ∃ (kq : Nat) (x73_39 : Bool), v73 = .bool x73_39 ∧ Aside0 (fairwayref4_value.j1 kq a1 t418 t419 t420 x73_39 a0 0 (⟨#[]⟩ : ByteArray) (⟨#[]⟩ : ByteArray) = some (r1, r2, r3, r4, r5, r6)) ∧ Aside0 (kq ≤ kj3) ∧ Aside0 (wc.heap[gb405]? = some (.cells #[.int .i64 0, .int .i64 0, .string (⟨#[]⟩ : ByteArray), .string (⟨#[]⟩ : ByteArray)] 42 (0, 0))) ∧ Aside0 (wc.heap[gb406]? = some (.cells #[.int .i64 a0, .int .i64 0, .string (⟨#[]⟩ : ByteArray), .string (⟨#[]⟩ : ByteArray)] 42 (0, 0))) ∧ Aside0 (Below w.heap.size w wc))
    case first =>
     have H := HC40.out
     clear HC40
     by_cases c41 : t420 = 0
     ·
      rw [if_pos c41] at H
      have c41b0 : (t420 == 0) = true := beq_iff_eq.mpr c41
      have c41b1 : (t420 != 0) = false := bne_eq_false_iff_eq.mpr c41
      clear c41
      (first | rw [c41b0] | (simp only [i64_w, i32_w]; rw [c41b0]) | skip)
      have H' := Aside0.mk H
      clear H
      go_wp2
      go_meet
      case rel => exact ⟨_, ((t407 != 7)), (by first | rfl | (simp; done) | (simp [*]; done)), H', ⟨by have := HJ3.out; first | omega | exact Nat.le_refl _⟩, ⟨by (with_reducible repeat (first | refine blk_drewN ?_ _ | refine blk_drew ?_ | refine blk_alloc ?_ _)); exact BK405.out⟩, ⟨by (with_reducible repeat (first | refine blk_drewN ?_ _ | refine blk_drew ?_ | refine blk_alloc ?_ _)); exact BK406.out⟩, ⟨by repeat (first | (with_reducible first | exact HB.out | apply below_alloc | apply pw_below_drewN | apply below_drew1 | refine below_set ?_ GE405.out | refine below_set ?_ GE406.out) | exact HB.out)⟩⟩
     rw [if_neg c41] at H
     have c41b0 : (t420 == 0) = false := beq_eq_false_iff_ne.mpr c41
     have c41b1 : (t420 != 0) = true := bne_iff_ne.mpr c41
     (first | rw [c41b0] | (simp only [i64_w, i32_w]; rw [c41b0]) | skip)
     have H' := Aside0.mk H
     clear H
     go_wp2
     go_meet
     case rel => exact ⟨_, (true), (by first | rfl | (simp; done) | (simp [*]; done)), H', ⟨by have := HJ3.out; first | omega | exact Nat.le_refl _⟩, ⟨by (with_reducible repeat (first | refine blk_drewN ?_ _ | refine blk_drew ?_ | refine blk_alloc ?_ _)); exact BK405.out⟩, ⟨by (with_reducible repeat (first | refine blk_drewN ?_ _ | refine blk_drew ?_ | refine blk_alloc ?_ _)); exact BK406.out⟩, ⟨by repeat (first | (with_reducible first | exact HB.out | apply below_alloc | apply pw_below_drewN | apply below_drew1 | refine below_set ?_ GE405.out | refine below_set ?_ GE406.out) | exact HB.out)⟩⟩
    case rest =>
     as_aux_lemma =>
      clear HC40
      try clear c1
      try clear c2
      try clear p2
      try clear c3
      try clear c4
      try clear p4
      try clear q4
      try clear hx4
      try clear c5
      try clear c7
      try clear c9
      try clear c9b0
      try clear c9b1
      try clear c10
      try clear c10b0
      try clear c10b1
      try clear c11
      try clear c12
      try clear c12b0
      try clear c13
      try clear c13b0
      try clear c15
      try clear c19
      try clear c25
      try clear c28
      try clear c28b0
      try clear c28b1
      try clear c31
      try clear c39
      try clear c40
      try clear c41
      try clear c41b0
      try clear c41b1
      try clear p41
      try clear q41
      try clear hx41
      try clear hcz20_0
      try clear hcz20_1
      try clear hcz20_2
      try clear hcz20_3
      try clear hcz21_0
      try clear hcz21_1
      try clear hcz21_2
      try clear hcz21_3
      try clear hcz26_0
      try clear hcz26_1
      try clear hcz26_2
      try clear hcz26_3
      try clear hcz27_0
      try clear hcz27_1
      try clear hcz27_2
      try clear hcz27_3
      try clear hcz32_0
      try clear hcz32_1
      try clear hcz32_2
      try clear hcz32_3
      try clear hcz8_0
      try clear hcz8_1
      try clear hcz8_2
      try clear hcz8_3
      try clear hfz20_0
      try clear hfz20_1
      try clear hfz20_2
      try clear hfz20_3
      try clear hfz21_0
      try clear hfz21_1
      try clear hfz21_2
      try clear hfz21_3
      try clear hfz26_0
      try clear hfz26_1
      try clear hfz26_2
      try clear hfz26_3
      try clear hfz27_0
      try clear hfz27_1
      try clear hfz27_2
      try clear hfz27_3
      try clear hfz32_0
      try clear hfz32_1
      try clear hfz32_2
      try clear hfz32_3
      try clear hfz8_0
      try clear hfz8_1
      try clear hfz8_2
      try clear hfz8_3
      try clear hx411_0
      try clear p2
      try clear p411
      try clear q411
      obtain ⟨kq, x73_39, rfl, HA, HJ39, BK405, BK406, HB⟩ := hcut
      cases kq with
      | zero => exact absurd HA.out (by simp [fairwayref4_value.j1])
      | succ kj39 =>
       have H := HA.out
       clear HA
       simp only [fairwayref4_value.j1] at H
       by_cases c42 : x73_39 = true
       ·
        subst c42
        have H1 : ((fairwayref4_inner.f t420).bind fun t421 => (some (a0, 0, t418, (⟨#[]⟩ : ByteArray), t419, t421))) = some (r1, r2, r3, r4, r5, r6) := by rw [if_pos rfl] at H; exact H
        clear H
        have H := H1
        clear H1
        replace H := Option.bind_eq_some_iff.mp H
        obtain ⟨t421, A430, H⟩ := H
        replace H : (some (a0, 0, t418, (⟨#[]⟩ : ByteArray), t419, t421)) = some (r1, r2, r3, r4, r5, r6) := H
        have A43 := Aside0.mk A430
        clear A430
        simp only [Option.some.injEq, Prod.mk.injEq] at H
        obtain ⟨rfl, rfl, rfl, rfl, rfl, rfl⟩ := H
        have hnb44 := NB406_405.out
        have hnc44 := NB405_406.out
        have hcz45_0 : wc.cell? ⟨gb406, 0, none⟩ = some (.int .i64 a0) := (blk_cell BK406.out 0).trans rfl
        have hcz45_1 : wc.cell? ⟨gb406, 1, none⟩ = some (.int .i64 0) := (blk_cell BK406.out 1).trans rfl
        have hcz45_2 : wc.cell? ⟨gb406, 2, none⟩ = some (.string (⟨#[]⟩ : ByteArray)) := (blk_cell BK406.out 2).trans rfl
        have hcz45_3 : wc.cell? ⟨gb406, 3, none⟩ = some (.string (⟨#[]⟩ : ByteArray)) := (blk_cell BK406.out 3).trans rfl
        have hfz45_0 := blk_frozen BK406.out 0
        have hfz45_1 := blk_frozen BK406.out 1
        have hfz45_2 := blk_frozen BK406.out 2
        have hfz45_3 := blk_frozen BK406.out 3
        try go_wp2
        have n0_ : Aside0 ((wc.setCell ⟨gb406, 2, none⟩ (.string t418)).heap[gb405]? = some (.cells #[.int .i64 0, .int .i64 0, .string (⟨#[]⟩ : ByteArray), .string (⟨#[]⟩ : ByteArray)] 42 (0, 0))) := ⟨by (with_reducible repeat (first | refine blk_drewN ?_ _ | refine blk_drew ?_ | refine blk_alloc ?_ _)); refine blk_far ?_ NB405_406.out _; (with_reducible repeat (first | refine blk_drewN ?_ _ | refine blk_drew ?_ | refine blk_alloc ?_ _)); exact BK405.out⟩
        have n1_ : Aside0 ((wc.setCell ⟨gb406, 2, none⟩ (.string t418)).heap[gb406]? = some (.cells #[.int .i64 a0, .int .i64 0, .string t418, .string (⟨#[]⟩ : ByteArray)] 42 (0, 0))) := ⟨by (with_reducible repeat (first | refine blk_drewN ?_ _ | refine blk_drew ?_ | refine blk_alloc ?_ _)); refine blk_put (cs := #[.int .i64 a0, .int .i64 0, .string (⟨#[]⟩ : ByteArray), .string (⟨#[]⟩ : ByteArray)]) ?_ 2 _ rfl; (with_reducible repeat (first | refine blk_drewN ?_ _ | refine blk_drew ?_ | refine blk_alloc ?_ _)); exact BK406.out⟩
        have n2_ : Aside0 (Below w.heap.size w (wc.setCell ⟨gb406, 2, none⟩ (.string t418))) := ⟨by repeat (first | (with_reducible first | exact HB.out | apply below_alloc | apply pw_below_drewN | apply below_drew1 | refine below_set ?_ GE405.out | refine below_set ?_ GE406.out) | exact HB.out)⟩
        (try clear BK405)
        (try clear BK406)
        (try clear HB)
        generalize (wc.setCell ⟨gb406, 2, none⟩ (.string t418)) = w46 at n0_ n1_ n2_ ⊢
        have BK405 := n0_
        have BK406 := n1_
        have HB := n2_
        clear n0_ n1_ n2_
        have n0_ := Aside0.mk (blk_drew BK405.out)
        have n1_ := Aside0.mk (blk_drew BK406.out)
        have n2_ := Aside0.mk (below_drew1 HB.out)
        clear BK405
        clear BK406
        clear HB
        have BK405 := n0_
        have BK406 := n1_
        have HB := n2_
        clear n0_ n1_ n2_
        refine start_ (n := 7) (S := fun w' => w'.cell? ⟨gb406, 0, none⟩ = some (.int .i64 a0) ∧ w'.cell? ⟨gb406, 1, none⟩ = some (.int .i64 0) ∧ w'.cell? ⟨gb406, 2, none⟩ = some (.string t418) ∧ w'.cell? ⟨gb406, 3, none⟩ = some (.string (⟨#[]⟩ : ByteArray))) (ds := []) #[false, false, false, false, false, false, false] (by kernel_rfl) rfl rfl ⟨(blk_cell BK406.out 0).trans rfl, (blk_cell BK406.out 1).trans rfl, (blk_cell BK406.out 2).trans rfl, (blk_cell BK406.out 3).trans rfl⟩ (fun hHeld => ?_)
        generalize w46.drew = w47 at BK405 BK406 HB hHeld ⊢
        refine pure_ (i := 1) (N := some 77) (v := ?_) (a' := ?_) #[false, true, false, false, false, false, false] rfl rfl (by kernel_rfl) (fun _ _ _ h => h) (Or.inl ⟨by rfl, ?_⟩) ?_ ?_
        rotate_left
        ·
         intro w'
         go_simp
         with_reducible rfl
        rotate_left
        ·
         simp only [Act.put, List.setIfInBounds_toArray, List.set_cons_zero, List.set_cons_succ, i64_w, i32_w]
         rfl
        refine pure_ (i := 2) (N := some 78) (v := ?_) (a' := ?_) #[false, true, true, false, false, false, false] rfl rfl (by kernel_rfl) (fun _ _ _ h => h) (Or.inl ⟨by rfl, ?_⟩) ?_ ?_
        rotate_left
        ·
         intro w'
         go_simp
         with_reducible rfl
        rotate_left
        ·
         simp only [Act.put, List.setIfInBounds_toArray, List.set_cons_zero, List.set_cons_succ, i64_w, i32_w]
         rfl
        refine take_ (i := 0) (N := some 76) (v := ?_) (a' := ?_) #[true, true, true, false, false, false, false] rfl rfl (by kernel_rfl) (fun _ _ _ h => h) (Or.inl ⟨by rfl, ?_⟩) hHeld ?_ ?_
        rotate_left
        ·
         rintro w' ⟨s0, s1, s2, s3⟩
         go_simp
         with_reducible rfl
        rotate_left
        ·
         simp only [Act.put, List.setIfInBounds_toArray, List.set_cons_zero, List.set_cons_succ, i64_w, i32_w]
         rfl
        refine one_ (i := 3) (N := some 79) #[true, true, true, true, false, false, false] rfl rfl (by kernel_rfl) (by decide) (fun K hK => ?_)
        refine goes_ Tryd.func53 (by kernel_rfl) rfl #[.int .i64 t420] (by rfl) rfl rfl (by (try simp only [List.map_toArray, List.map_cons, List.map_nil]); first | done | rfl | (simp only [List.length_drop, List.length_take]; rfl)) ?_
        with_reducible refine (fairwayref4_inner.calls t420 t421 _ A43.out).mono ?_
        rintro e w' ⟨rfl, ⟨nd, rfl⟩⟩
        refine ⟨_, rfl, ?_⟩
        refine hK.out _ _ ⟨(blk_cell BK406.out 0).trans rfl, (blk_cell BK406.out 1).trans rfl, (blk_cell BK406.out 2).trans rfl, (blk_cell BK406.out 3).trans rfl⟩ (fun hHeld => ?_)
        clear hK K
        refine norm_ (a' := ?_) ?_ ?_
        rotate_left
        ·
         show Act.put _ (some 79) _ = _
         simp only [Act.put, List.setIfInBounds_toArray, List.set_cons_zero, List.set_cons_succ, i64_w, i32_w]
         rfl
        refine one_ (i := 4) (N := none) #[true, true, true, true, true, false, false] rfl rfl (by kernel_rfl) (by decide) (fun K hK => ?_)
        have hs48 : w47.cell? ⟨gb405, 0, none⟩ = some (.int .i64 0) := (blk_cell BK405.out 0).trans rfl
        have hfs48 := blk_frozen BK405.out 0
        have hns48_1 := NB406_405.out
        have hms48_1 := NB405_406.out
        have hs49 : w47.cell? ⟨gb405, 1, none⟩ = some (.int .i64 0) := (blk_cell BK405.out 1).trans rfl
        have hfs49 := blk_frozen BK405.out 1
        have hns49_1 := NB406_405.out
        have hms49_1 := NB405_406.out
        have hs50 : w47.cell? ⟨gb405, 2, none⟩ = some (.string (⟨#[]⟩ : ByteArray)) := (blk_cell BK405.out 2).trans rfl
        have hfs50 := blk_frozen BK405.out 2
        have hns50_1 := NB406_405.out
        have hms50_1 := NB405_406.out
        have hs51 : w47.cell? ⟨gb405, 3, none⟩ = some (.string (⟨#[]⟩ : ByteArray)) := (blk_cell BK405.out 3).trans rfl
        have hfs51 := blk_frozen BK405.out 3
        have hns51_1 := NB406_405.out
        have hms51_1 := NB405_406.out
        refine skip_ (w1 := ?_) (by rfl) rfl ?_ ?_
        rotate_left
        ·
         go_simp
         rfl
        refine hK.out _ _ ⟨((cell_far (p := ⟨gb405, _, none⟩) NB406_405.out _).trans (((cell_far (p := ⟨gb405, _, none⟩) NB406_405.out _).trans (((cell_far (p := ⟨gb405, _, none⟩) NB406_405.out _).trans (((cell_far (p := ⟨gb405, _, none⟩) NB406_405.out _).trans (hHeld.1)))))))), ((cell_far (p := ⟨gb405, _, none⟩) NB406_405.out _).trans (((cell_far (p := ⟨gb405, _, none⟩) NB406_405.out _).trans (((cell_far (p := ⟨gb405, _, none⟩) NB406_405.out _).trans (((cell_far (p := ⟨gb405, _, none⟩) NB406_405.out _).trans (hHeld.2.1)))))))), ((cell_far (p := ⟨gb405, _, none⟩) NB406_405.out _).trans (((cell_far (p := ⟨gb405, _, none⟩) NB406_405.out _).trans (((cell_far (p := ⟨gb405, _, none⟩) NB406_405.out _).trans (((cell_far (p := ⟨gb405, _, none⟩) NB406_405.out _).trans (hHeld.2.2.1)))))))), ((cell_far (p := ⟨gb405, _, none⟩) NB406_405.out _).trans (((cell_far (p := ⟨gb405, _, none⟩) NB406_405.out _).trans (((cell_far (p := ⟨gb405, _, none⟩) NB406_405.out _).trans (((cell_far (p := ⟨gb405, _, none⟩) NB406_405.out _).trans (hHeld.2.2.2))))))))⟩ (fun hHeld => ?_)
        clear hK K
        refine pure_ (i := 5) (N := some 5) (v := ?_) (a' := ?_) #[true, true, true, true, true, true, false] rfl rfl (by kernel_rfl) (fun _ _ _ h => h) (Or.inl ⟨by rfl, ?_⟩) ?_ ?_
        rotate_left
        ·
         intro w'
         go_simp
         with_reducible rfl
        rotate_left
        ·
         simp only [Act.put, List.setIfInBounds_toArray, List.set_cons_zero, List.set_cons_succ, i64_w, i32_w]
         rfl
        refine pure_ (i := 6) (N := some 6) (v := ?_) (a' := ?_) #[true, true, true, true, true, true, true] rfl rfl (by kernel_rfl) (fun _ _ _ h => h) (Or.inl ⟨by rfl, ?_⟩) ?_ ?_
        rotate_left
        ·
         intro w'
         go_simp
         with_reducible rfl
        rotate_left
        ·
         simp only [Act.put, List.setIfInBounds_toArray, List.set_cons_zero, List.set_cons_succ, i64_w, i32_w]
         rfl
        refine done_ (by kernel_rfl) ?_
        try go_wp2
        refine bodyPost_ret (results_ctt rfl _ _ gb405 42 #[.int .i64 a0, .int .i64 0, .string t418, .string (⟨#[]⟩ : ByteArray)] (0, 0) _ rfl (by (with_reducible repeat (first | refine blk_drewN ?_ _ | refine blk_drew ?_ | refine blk_alloc ?_ _)); refine blk_put (cs := #[.int .i64 a0, .int .i64 0, .string t418, .string (⟨#[]⟩ : ByteArray)]) ?_ 3 _ rfl; (with_reducible repeat (first | refine blk_drewN ?_ _ | refine blk_drew ?_ | refine blk_alloc ?_ _)); refine blk_put (cs := #[.int .i64 a0, .int .i64 0, .string (⟨#[]⟩ : ByteArray), .string (⟨#[]⟩ : ByteArray)]) ?_ 2 _ rfl; (with_reducible repeat (first | refine blk_drewN ?_ _ | refine blk_drew ?_ | refine blk_alloc ?_ _)); refine blk_put (cs := #[.int .i64 a0, .int .i64 0, .string (⟨#[]⟩ : ByteArray), .string (⟨#[]⟩ : ByteArray)]) ?_ 1 _ rfl; (with_reducible repeat (first | refine blk_drewN ?_ _ | refine blk_drew ?_ | refine blk_alloc ?_ _)); refine blk_put (cs := #[.int .i64 0, .int .i64 0, .string (⟨#[]⟩ : ByteArray), .string (⟨#[]⟩ : ByteArray)]) ?_ 0 _ rfl; (with_reducible repeat (first | refine blk_drewN ?_ _ | refine blk_drew ?_ | refine blk_alloc ?_ _)); exact BK405.out) Tryd.underlying42 rfl (by kernel_rfl)) rfl ?_
        exact ⟨by first | rfl | (simp [errW_none, errW_some] <;> rfl) | (simp [*, errW_none, errW_some] <;> rfl), by repeat (first | (with_reducible first | exact HB.out | apply below_alloc | apply pw_below_drewN | apply below_drew1 | refine below_set ?_ GE405.out | refine below_set ?_ GE406.out) | exact HB.out)⟩
       replace c42 := Bool.eq_false_iff.mpr c42
       subst c42
       have H1 : (if 0 ≤ t419 then (if t419 ≤ (a1.size : Int) then ((fairwayref1_TakeLong.f kj39 (a1.extract (t419 : Int).toNat a1.size) true).bind fun bt422 => ((fairwayref4_inner.f bt422.2.2).bind fun t425 => (some (a0, 0, t418, bt422.1, wrap64 (t419 + bt422.2.1), t425)))) else (none)) else (none)) = some (r1, r2, r3, r4, r5, r6) := by rw [if_neg (show ¬ (false = true) by decide)] at H; exact H
       clear H
       have H := H1
       clear H1
       by_cases c52 : 0 ≤ t419
       ·
        rw [if_pos c52] at H
        have c52b0 := eq_true c52
        have c52b1 : decide (0 ≤ t419) = true := decide_eq_true c52
        clear c52
        by_cases c53 : t419 ≤ (a1.size : Int)
        ·
         rw [if_pos c53] at H
         have c53b0 := eq_true c53
         have c53b1 : decide (t419 ≤ (a1.size : Int)) = true := decide_eq_true c53
         clear c53
         replace H := Option.bind_eq_some_iff.mp H
         obtain ⟨⟨t422, t423, t424⟩, A540, H⟩ := H
         replace H : ((fairwayref4_inner.f t424).bind fun t425 => (some (a0, 0, t418, t422, wrap64 (t419 + t423), t425))) = some (r1, r2, r3, r4, r5, r6) := H
         have A54 := Aside0.mk A540
         clear A540
         replace H := Option.bind_eq_some_iff.mp H
         obtain ⟨t425, A550, H⟩ := H
         replace H : (some (a0, 0, t418, t422, wrap64 (t419 + t423), t425)) = some (r1, r2, r3, r4, r5, r6) := H
         have A55 := Aside0.mk A550
         clear A550
         simp only [Option.some.injEq, Prod.mk.injEq] at H
         obtain ⟨rfl, rfl, rfl, rfl, rfl, rfl⟩ := H
         try go_wp2_with (first | ((with_reducible refine gate_callee (f := 54) rfl ?_); refine goesL_ (some 84) rfl rfl Tryd.func54 (by kernel_rfl) rfl #[.string (a1.extract (t419 : Int).toNat a1.size), .bool true] rfl (by (try simp only [List.map_toArray, List.map_cons, List.map_nil]); first | done | rfl | (simp only [List.length_drop, List.length_take]; rfl)) ?_; (with_reducible refine (fairwayref1_TakeLong.calls kj39 (a1.extract (t419 : Int).toNat a1.size) true t422 t423 t424 _ A54.out).mono ?_); rintro e w' ⟨rfl, ⟨nd, rfl⟩⟩; refine ⟨_, rfl, ?_⟩; (try (rw [drewN_self wc]; generalize hq_ : World.drewN wc _ = wc; have n0_ : Aside0 (wc.heap[gb405]? = some (.cells #[.int .i64 0, .int .i64 0, .string (⟨#[]⟩ : ByteArray), .string (⟨#[]⟩ : ByteArray)] 42 (0, 0))) := ⟨by rw [← hq_]; exact (by (with_reducible repeat (first | refine blk_drewN ?_ _ | refine blk_drew ?_ | refine blk_alloc ?_ _)); exact BK405.out)⟩; have n1_ : Aside0 (wc.heap[gb406]? = some (.cells #[.int .i64 a0, .int .i64 0, .string (⟨#[]⟩ : ByteArray), .string (⟨#[]⟩ : ByteArray)] 42 (0, 0))) := ⟨by rw [← hq_]; exact (by (with_reducible repeat (first | refine blk_drewN ?_ _ | refine blk_drew ?_ | refine blk_alloc ?_ _)); exact BK406.out)⟩; have n2_ : Aside0 (Below w.heap.size w wc) := ⟨by rw [← hq_]; exact (by repeat (first | (with_reducible first | exact HB.out | apply below_alloc | apply pw_below_drewN | apply below_drew1 | refine below_set ?_ GE405.out | refine below_set ?_ GE406.out) | exact HB.out))⟩; clear BK405 BK406 HB hq_; have BK405 := n0_; have BK406 := n1_; have HB := n2_; clear n0_ n1_ n2_)); have hnb56 := NB406_405.out; have hnc56 := NB405_406.out; have hcz57_0 : wc.cell? ⟨gb406, 0, none⟩ = some (.int .i64 a0) := (blk_cell BK406.out 0).trans rfl; have hcz57_1 : wc.cell? ⟨gb406, 1, none⟩ = some (.int .i64 0) := (blk_cell BK406.out 1).trans rfl; have hcz57_2 : wc.cell? ⟨gb406, 2, none⟩ = some (.string (⟨#[]⟩ : ByteArray)) := (blk_cell BK406.out 2).trans rfl; have hcz57_3 : wc.cell? ⟨gb406, 3, none⟩ = some (.string (⟨#[]⟩ : ByteArray)) := (blk_cell BK406.out 3).trans rfl; have hfz57_0 := blk_frozen BK406.out 0; have hfz57_1 := blk_frozen BK406.out 1; have hfz57_2 := blk_frozen BK406.out 2; have hfz57_3 := blk_frozen BK406.out 3))
         have n0_ : Aside0 (((wc.setCell ⟨gb406, 2, none⟩ (.string t418)).setCell ⟨gb406, 3, none⟩ (.string t422)).heap[gb405]? = some (.cells #[.int .i64 0, .int .i64 0, .string (⟨#[]⟩ : ByteArray), .string (⟨#[]⟩ : ByteArray)] 42 (0, 0))) := ⟨by (with_reducible repeat (first | refine blk_drewN ?_ _ | refine blk_drew ?_ | refine blk_alloc ?_ _)); refine blk_far ?_ NB405_406.out _; (with_reducible repeat (first | refine blk_drewN ?_ _ | refine blk_drew ?_ | refine blk_alloc ?_ _)); refine blk_far ?_ NB405_406.out _; (with_reducible repeat (first | refine blk_drewN ?_ _ | refine blk_drew ?_ | refine blk_alloc ?_ _)); exact BK405.out⟩
         have n1_ : Aside0 (((wc.setCell ⟨gb406, 2, none⟩ (.string t418)).setCell ⟨gb406, 3, none⟩ (.string t422)).heap[gb406]? = some (.cells #[.int .i64 a0, .int .i64 0, .string t418, .string t422] 42 (0, 0))) := ⟨by (with_reducible repeat (first | refine blk_drewN ?_ _ | refine blk_drew ?_ | refine blk_alloc ?_ _)); refine blk_put (cs := #[.int .i64 a0, .int .i64 0, .string t418, .string (⟨#[]⟩ : ByteArray)]) ?_ 3 _ rfl; (with_reducible repeat (first | refine blk_drewN ?_ _ | refine blk_drew ?_ | refine blk_alloc ?_ _)); refine blk_put (cs := #[.int .i64 a0, .int .i64 0, .string (⟨#[]⟩ : ByteArray), .string (⟨#[]⟩ : ByteArray)]) ?_ 2 _ rfl; (with_reducible repeat (first | refine blk_drewN ?_ _ | refine blk_drew ?_ | refine blk_alloc ?_ _)); exact BK406.out⟩
         have n2_ : Aside0 (Below w.heap.size w ((wc.setCell ⟨gb406, 2, none⟩ (.string t418)).setCell ⟨gb406, 3, none⟩ (.string t422))) := ⟨by repeat (first | (with_reducible first | exact HB.out | apply below_alloc | apply pw_below_drewN | apply below_drew1 | refine below_set ?_ GE405.out | refine below_set ?_ GE406.out) | exact HB.out)⟩
         (try clear BK405)
         (try clear BK406)
         (try clear HB)
         generalize ((wc.setCell ⟨gb406, 2, none⟩ (.string t418)).setCell ⟨gb406, 3, none⟩ (.string t422)) = w58 at n0_ n1_ n2_ ⊢
         have BK405 := n0_
         have BK406 := n1_
         have HB := n2_
         clear n0_ n1_ n2_
         have n0_ := Aside0.mk (blk_drew BK405.out)
         have n1_ := Aside0.mk (blk_drew BK406.out)
         have n2_ := Aside0.mk (below_drew1 HB.out)
         clear BK405
         clear BK406
         clear HB
         have BK405 := n0_
         have BK406 := n1_
         have HB := n2_
         clear n0_ n1_ n2_
         refine start_ (n := 9) (S := fun w' => w'.cell? ⟨gb406, 0, none⟩ = some (.int .i64 a0) ∧ w'.cell? ⟨gb406, 1, none⟩ = some (.int .i64 0) ∧ w'.cell? ⟨gb406, 2, none⟩ = some (.string t418) ∧ w'.cell? ⟨gb406, 3, none⟩ = some (.string t422)) (ds := []) #[false, false, false, false, false, false, false, false, false] (by kernel_rfl) rfl rfl ⟨(blk_cell BK406.out 0).trans rfl, (blk_cell BK406.out 1).trans rfl, (blk_cell BK406.out 2).trans rfl, (blk_cell BK406.out 3).trans rfl⟩ (fun hHeld => ?_); refine with_tabW fairwayref4_value.tab23 fairwayref4_value.bits23 (fun HT_ HW_ => ?_)
         generalize w58.drew = w59 at BK405 BK406 HB hHeld ⊢
         refine pure_ (i := 1) (N := some 93) (v := ?_) (a' := ?_) #[false, true, false, false, false, false, false, false, false] rfl rfl (any_of HT_.out (by kernel_rfl)) (fun _ _ _ h => h) (Or.inl ⟨by rfl, ?_⟩) ?_ ?_
         rotate_left
         ·
          intro w'
          go_simp
          with_reducible rfl
         rotate_left
         ·
          simp only [Act.put, List.setIfInBounds_toArray, List.set_cons_zero, List.set_cons_succ, i64_w, i32_w]
          rfl
         refine pure_ (i := 2) (N := some 94) (v := ?_) (a' := ?_) #[false, true, true, false, false, false, false, false, false] rfl rfl (any_of HT_.out (by kernel_rfl)) (fun _ _ _ h => h) (Or.inl ⟨by rfl, ?_⟩) ?_ ?_
         rotate_left
         ·
          intro w'
          go_simp
          with_reducible rfl
         rotate_left
         ·
          simp only [Act.put, List.setIfInBounds_toArray, List.set_cons_zero, List.set_cons_succ, i64_w, i32_w]
          rfl
         refine pure_ (i := 3) (N := some 95) (v := ?_) (a' := ?_) #[false, true, true, true, false, false, false, false, false] rfl rfl (any_of HT_.out (by kernel_rfl)) (fun _ _ _ h => h) (Or.inl ⟨by rfl, ?_⟩) ?_ ?_
         rotate_left
         ·
          intro w'
          go_simp
          with_reducible rfl
         rotate_left
         ·
          simp only [Act.put, List.setIfInBounds_toArray, List.set_cons_zero, List.set_cons_succ, i64_w, i32_w]
          rfl
         refine pure_ (i := 4) (N := some 96) (v := ?_) (a' := ?_) #[false, true, true, true, true, false, false, false, false] rfl rfl (any_of HT_.out (by kernel_rfl)) (fun _ _ _ h => h) (Or.inl ⟨by rfl, ?_⟩) ?_ ?_
         rotate_left
         ·
          intro w'
          go_simp
          with_reducible rfl
         rotate_left
         ·
          simp only [Act.put, List.setIfInBounds_toArray, List.set_cons_zero, List.set_cons_succ, i64_w, i32_w]
          rfl
         refine take_ (i := 0) (N := some 92) (v := ?_) (a' := ?_) #[true, true, true, true, true, false, false, false, false] rfl rfl (take_ofW HT_.out HW_.out (by kernel_rfl)) (fun _ _ _ h => h) (Or.inl ⟨by rfl, ?_⟩) hHeld ?_ ?_
         rotate_left
         ·
          rintro w' ⟨s0, s1, s2, s3⟩
          go_simp
          with_reducible rfl
         rotate_left
         ·
          simp only [Act.put, List.setIfInBounds_toArray, List.set_cons_zero, List.set_cons_succ, i64_w, i32_w]
          rfl
         refine one_ (i := 5) (N := some 97) #[true, true, true, true, true, true, false, false, false] rfl rfl (one_of HT_.out (by kernel_rfl)) (by decide) (fun K hK => ?_)
         refine goes_ Tryd.func53 (by kernel_rfl) rfl #[.int .i64 t424] (by rfl) rfl rfl (by (try simp only [List.map_toArray, List.map_cons, List.map_nil]); first | done | rfl | (simp only [List.length_drop, List.length_take]; rfl)) ?_
         with_reducible refine (fairwayref4_inner.calls t424 t425 _ A55.out).mono ?_
         rintro e w' ⟨rfl, ⟨nd, rfl⟩⟩
         refine ⟨_, rfl, ?_⟩
         refine hK.out _ _ ⟨(blk_cell BK406.out 0).trans rfl, (blk_cell BK406.out 1).trans rfl, (blk_cell BK406.out 2).trans rfl, (blk_cell BK406.out 3).trans rfl⟩ (fun hHeld => ?_)
         clear hK K
         refine norm_ (a' := ?_) ?_ ?_
         rotate_left
         ·
          show Act.put _ (some 97) _ = _
          simp only [Act.put, List.setIfInBounds_toArray, List.set_cons_zero, List.set_cons_succ, i64_w, i32_w]
          rfl
         refine one_ (i := 6) (N := none) #[true, true, true, true, true, true, true, false, false] rfl rfl (one_of HT_.out (by kernel_rfl)) (by decide) (fun K hK => ?_)
         have hs60 : w59.cell? ⟨gb405, 0, none⟩ = some (.int .i64 0) := (blk_cell BK405.out 0).trans rfl
         have hfs60 := blk_frozen BK405.out 0
         have hns60_1 := NB406_405.out
         have hms60_1 := NB405_406.out
         have hs61 : w59.cell? ⟨gb405, 1, none⟩ = some (.int .i64 0) := (blk_cell BK405.out 1).trans rfl
         have hfs61 := blk_frozen BK405.out 1
         have hns61_1 := NB406_405.out
         have hms61_1 := NB405_406.out
         have hs62 : w59.cell? ⟨gb405, 2, none⟩ = some (.string (⟨#[]⟩ : ByteArray)) := (blk_cell BK405.out 2).trans rfl
         have hfs62 := blk_frozen BK405.out 2
         have hns62_1 := NB406_405.out
         have hms62_1 := NB405_406.out
         have hs63 : w59.cell? ⟨gb405, 3, none⟩ = some (.string (⟨#[]⟩ : ByteArray)) := (blk_cell BK405.out 3).trans rfl
         have hfs63 := blk_frozen BK405.out 3
         have hns63_1 := NB406_405.out
         have hms63_1 := NB405_406.out
         refine skip_ (w1 := ?_) (by rfl) rfl ?_ ?_
         rotate_left
         ·
          go_simp
          rfl
         refine hK.out _ _ ⟨((cell_far (p := ⟨gb405, _, none⟩) NB406_405.out _).trans (((cell_far (p := ⟨gb405, _, none⟩) NB406_405.out _).trans (((cell_far (p := ⟨gb405, _, none⟩) NB406_405.out _).trans (((cell_far (p := ⟨gb405, _, none⟩) NB406_405.out _).trans (hHeld.1)))))))), ((cell_far (p := ⟨gb405, _, none⟩) NB406_405.out _).trans (((cell_far (p := ⟨gb405, _, none⟩) NB406_405.out _).trans (((cell_far (p := ⟨gb405, _, none⟩) NB406_405.out _).trans (((cell_far (p := ⟨gb405, _, none⟩) NB406_405.out _).trans (hHeld.2.1)))))))), ((cell_far (p := ⟨gb405, _, none⟩) NB406_405.out _).trans (((cell_far (p := ⟨gb405, _, none⟩) NB406_405.out _).trans (((cell_far (p := ⟨gb405, _, none⟩) NB406_405.out _).trans (((cell_far (p := ⟨gb405, _, none⟩) NB406_405.out _).trans (hHeld.2.2.1)))))))), ((cell_far (p := ⟨gb405, _, none⟩) NB406_405.out _).trans (((cell_far (p := ⟨gb405, _, none⟩) NB406_405.out _).trans (((cell_far (p := ⟨gb405, _, none⟩) NB406_405.out _).trans (((cell_far (p := ⟨gb405, _, none⟩) NB406_405.out _).trans (hHeld.2.2.2))))))))⟩ (fun hHeld => ?_)
         clear hK K
         refine pure_ (i := 7) (N := some 5) (v := ?_) (a' := ?_) #[true, true, true, true, true, true, true, true, false] rfl rfl (any_of HT_.out (by kernel_rfl)) (fun _ _ _ h => h) (Or.inl ⟨by rfl, ?_⟩) ?_ ?_
         rotate_left
         ·
          intro w'
          go_simp
          with_reducible rfl
         rotate_left
         ·
          simp only [Act.put, List.setIfInBounds_toArray, List.set_cons_zero, List.set_cons_succ, i64_w, i32_w]
          rfl
         refine pure_ (i := 8) (N := some 6) (v := ?_) (a' := ?_) #[true, true, true, true, true, true, true, true, true] rfl rfl (any_of HT_.out (by kernel_rfl)) (fun _ _ _ h => h) (Or.inl ⟨by rfl, ?_⟩) ?_ ?_
         rotate_left
         ·
          intro w'
          go_simp
          with_reducible rfl
         rotate_left
         ·
          simp only [Act.put, List.setIfInBounds_toArray, List.set_cons_zero, List.set_cons_succ, i64_w, i32_w]
          rfl
         refine done_ (done_of HT_.out (by kernel_rfl)) ?_
         try go_wp2
         refine bodyPost_ret (results_ctt rfl _ _ gb405 42 #[.int .i64 a0, .int .i64 0, .string t418, .string t422] (0, 0) _ rfl (by (with_reducible repeat (first | refine blk_drewN ?_ _ | refine blk_drew ?_ | refine blk_alloc ?_ _)); refine blk_put (cs := #[.int .i64 a0, .int .i64 0, .string t418, .string (⟨#[]⟩ : ByteArray)]) ?_ 3 _ rfl; (with_reducible repeat (first | refine blk_drewN ?_ _ | refine blk_drew ?_ | refine blk_alloc ?_ _)); refine blk_put (cs := #[.int .i64 a0, .int .i64 0, .string (⟨#[]⟩ : ByteArray), .string (⟨#[]⟩ : ByteArray)]) ?_ 2 _ rfl; (with_reducible repeat (first | refine blk_drewN ?_ _ | refine blk_drew ?_ | refine blk_alloc ?_ _)); refine blk_put (cs := #[.int .i64 a0, .int .i64 0, .string (⟨#[]⟩ : ByteArray), .string (⟨#[]⟩ : ByteArray)]) ?_ 1 _ rfl; (with_reducible repeat (first | refine blk_drewN ?_ _ | refine blk_drew ?_ | refine blk_alloc ?_ _)); refine blk_put (cs := #[.int .i64 0, .int .i64 0, .string (⟨#[]⟩ : ByteArray), .string (⟨#[]⟩ : ByteArray)]) ?_ 0 _ rfl; (with_reducible repeat (first | refine blk_drewN ?_ _ | refine blk_drew ?_ | refine blk_alloc ?_ _)); exact BK405.out) Tryd.underlying42 rfl (by kernel_rfl)) rfl ?_
         exact ⟨by first | rfl | (simp [errW_none, errW_some] <;> rfl) | (simp [*, errW_none, errW_some] <;> rfl), by repeat (first | (with_reducible first | exact HB.out | apply below_alloc | apply pw_below_drewN | apply below_drew1 | refine below_set ?_ GE405.out | refine below_set ?_ GE406.out) | exact HB.out)⟩
        rw [if_neg c53] at H
        exact absurd H (by simp)
       rw [if_neg c52] at H
       exact absurd H (by simp)
end Go.Proofs.YtiancopplinpcaaDoor.P
end
section
namespace Go.Proofs.YtiancopplinpcaaDoor.P
open Go.RowKit Go.Proofs.YtiancopplinpcaaDoorW.PrintWords Go.Proofs.YtiancopplinpcaaDoorW.PrintLast Go.Proofs.YtiancopplinpcaaDoorW.PrintMore
set_option linter.unusedSimpArgs false
set_option linter.unusedVariables false
theorem bytesOf_range (s : ByteArray) : ∀ c ∈ bytesOf s, 0 ≤ c ∧ c < 256 := by
  intro c hc
  simp only [bytesOf, List.mem_map] at hc
  obtain ⟨b, _, rfl⟩ := hc
  have := b.toNat_lt
  omega
theorem bytesOf_str {l : List Int} (h : ∀ c ∈ l, 0 ≤ c ∧ c < 256) : bytesOf (strOfNums l) = l := by
  simp only [bytesOf, strOfNums, List.map_map]
  conv => rhs; rw [← List.map_id l]
  refine List.map_congr_left fun c hc => ?_
  obtain ⟨h0, h1⟩ := h c hc
  simp only [Function.comp]
  rw [UInt8.toNat_ofNat_of_lt' (by show c.toNat < 256; omega)]
  simp; omega
theorem bytesOf_inj {a b : ByteArray} (h : bytesOf a = bytesOf b) : a = b := by
  have : a.data.toList = b.data.toList := by
    exact (List.map_inj_right (fun x y hxy => UInt8.toNat_inj.1 (by exact_mod_cast hxy))).1 h
  cases a; cases b
  simp only [ByteArray.mk.injEq]
  exact Array.toList_inj.1 this
theorem bytesOf_extract (s : ByteArray) (i j : Nat) : bytesOf (s.extract i j) = (bytesOf s).extract i j := by
  simp [bytesOf, List.extract_eq_take_drop, List.map_take, List.map_drop]
theorem bytesOf_len (s : ByteArray) : (bytesOf s).length = s.size := bytesOf_length s
theorem bt_list (s : ByteArray) (i : Nat) (h : i < s.size) : bt s i = (bytesOf s)[i]'(by rw [bytesOf_len]; exact h) := by
  rw [← rd_bytesOf]
  simp [rd, bytesOf_len, h]
theorem vb_range (n : Nat) : ∀ c ∈ vb n, 0 ≤ c ∧ c < 256 := by
  induction n using Nat.strongRecOn with
  | _ n ih =>
    by_cases h : n < 128
    · rw [vb_small h]; intro c hc; simp at hc; omega
    · rw [vb_big (by omega)]
      intro c hc
      rcases List.mem_cons.1 hc with rfl | hc
      · omega
      · exact ih (n / 128) (by omega) c hc
def tl : Nat → Nat → Int → List Int → Int × Int × Int
  | 0, _, _, _ => (0, 0, 8)
  | _ + 1, _, _, [] => (0, 0, 7)
  | d + 1, i, n, c :: r => if 128 ≤ c then tl d (i + 1) (n + c % 128 * 2 ^ (7 * i)) r else if c = 0 ∧ 0 < i then (0, 0, 8) else (n + c % 128 * 2 ^ (7 * i), ((i + 1 : Nat) : Int), 0)
theorem tk_list (s : ByteArray) (d : Nat) : ∀ (i : Nat) (n : Int), tk s d i n = tl d i n ((bytesOf s).drop i) := by
  induction d with
  | zero => intro i n; rfl
  | succ d ih =>
    intro i n
    by_cases h : s.size ≤ i
    · rw [List.drop_of_length_le (by rw [bytesOf_len]; exact h)]
      simp only [tk, tl, h, if_true]
    · have hi : i < (bytesOf s).length := by rw [bytesOf_len]; omega
      rw [List.drop_eq_getElem_cons hi]
      simp only [tk, tl]
      rw [if_neg h, ← bt_list s i (by omega), ih]
theorem tkn_list (s : ByteArray) : tkn s = tl 4 0 0 (bytesOf s) := by rw [tkn, tk_list, List.drop_zero]
theorem pow7 (i : Nat) : (2 : Int) ^ (7 * (i + 1)) = 128 * 2 ^ (7 * i) := by
  rw [Nat.mul_add, Int.pow_add, Int.mul_comm]; rfl
theorem tl_was (d : Nat) : ∀ (i : Nat) (a : Int) (l : List Int) (m k : Int), (∀ c ∈ l, 0 ≤ c ∧ c < 256) → tl d i a l = (m, k, 0) →
    ∃ (q : Nat) (r : List Int), l = vb q ++ r ∧ m = a + q * 2 ^ (7 * i) ∧ k = ((i + (vb q).length : Nat) : Int) ∧ q < 128 ^ d ∧ (0 < q ∨ i = 0) := by
  induction d with
  | zero => intro i a l m k _ h; simp [tl] at h
  | succ d ih =>
    intro i a l m k hl h
    cases l with
    | nil => simp [tl] at h
    | cons c r =>
      obtain ⟨h0, h1⟩ := hl c List.mem_cons_self
      simp only [tl] at h
      have hp : 0 < 128 ^ d := Nat.pow_pos (by decide)
      by_cases hc : 128 ≤ c
      · rw [if_pos hc] at h
        obtain ⟨q, r', hr, hm, hk, hq, hz⟩ := ih (i + 1) _ r m k (fun x hx => hl x (List.mem_cons_of_mem _ hx)) h
        have hq0 : 0 < q := by omega
        have hb : vb (128 * q + (c % 128).toNat) = c :: vb q := by
          rw [vb_big (by omega)]
          congr 1
          · omega
          · congr 1; omega
        refine ⟨128 * q + (c % 128).toNat, r', by rw [hb, hr]; rfl, ?_, by rw [hb, hk]; simp; omega, by rw [Nat.pow_succ]; omega, .inl (by omega)⟩
        rw [hm, pow7]
        have e : ((128 * q + (c % 128).toNat : Nat) : Int) = 128 * (q : Int) + c % 128 := by omega
        rw [e]
        generalize (2 : Int) ^ (7 * i) = p
        generalize c % 128 = y
        grind
      · rw [if_neg hc] at h
        by_cases hz : c = 0 ∧ 0 < i
        · rw [if_pos hz] at h; simp at h
        · rw [if_neg hz] at h
          simp only [Prod.mk.injEq] at h
          obtain ⟨rfl, rfl, _⟩ := h
          have hv : vb c.toNat = [c] := by rw [vb_small (by omega)]; simp; omega
          refine ⟨c.toNat, r, by rw [hv]; rfl, ?_, by rw [hv]; rfl, by rw [Nat.pow_succ]; omega, by omega⟩
          have e : ((c.toNat : Nat) : Int) = c % 128 := by omega
          rw [e]
theorem bytesOf_num (n : Int) : bytesOf (numOf n) = vb n.toNat := bytesOf_str (vb_range _)
theorem numOf_size (n : Int) : (numOf n).size = (vb n.toNat).length := by rw [← bytesOf_len, bytesOf_num]
theorem tkn_was {x : ByteArray} {m k : Int} (h : tkn x = (m, k, 0)) : 0 ≤ m ∧ m ≤ 268435455 ∧ 0 ≤ k ∧ k ≤ x.size ∧ numOf m = x.extract 0 k.toNat ∧ k = (numOf m).size := by
  rw [tkn_list] at h
  obtain ⟨q, r, hl, hm, hk, hq, _⟩ := tl_was 4 0 0 _ m k (bytesOf_range x) h
  have hm' : m = q := by simp at hm; exact hm
  subst hm'
  have hlen : (bytesOf x).length = (vb q).length + r.length := by rw [hl, List.length_append]
  rw [bytesOf_len] at hlen
  refine ⟨by omega, by omega, by omega, by omega, bytesOf_inj ?_, ?_⟩
  · rw [bytesOf_num, bytesOf_extract, hl, List.extract_eq_take_drop, List.drop_zero, Nat.sub_zero, hk]
    simp
  · rw [numOf_size, hk]; simp
theorem extract_size (a : ByteArray) {i j : Nat} (hij : i ≤ j) (hj : j ≤ a.size) : (a.extract i j).size = j - i := by
  rw [← bytesOf_len, bytesOf_extract, List.extract_eq_take_drop, List.length_take, List.length_drop, bytesOf_len]; omega
theorem extract_all (a : ByteArray) : a.extract 0 a.size = a := bytesOf_inj (by
  rw [bytesOf_extract, List.extract_eq_take_drop, List.drop_zero, Nat.sub_zero, ← bytesOf_len, List.take_length])
def tbin (s : ByteArray) : ByteArray × Int × Int :=
  if (s.size : Int) < 2 then ((⟨#[]⟩ : ByteArray), 0, 7) else if val2 s > 1024 then ((⟨#[]⟩ : ByteArray), 0, 2) else if (s.size : Int) - 2 < val2 s then ((⟨#[]⟩ : ByteArray), 0, 7) else (s.extract 2 (2 + val2 s).toNat, 2 + val2 s, 0)
theorem val2_range (s : ByteArray) : 0 ≤ val2 s ∧ val2 s ≤ 65535 := by
  have := bt_range s 0; have := bt_range s 1; unfold val2; omega
theorem takeBin_ev (s : ByteArray) (hs : s.size ≤ 9223372036854775807) : Ev (fun k => vbi_TakeBin.f k s) (tbin s) := by
  obtain ⟨K, h⟩ := takeTwo_ev s
  refine ⟨K, fun k hk => ?_⟩
  dsimp only at h ⊢
  unfold vbi_TakeBin.f tbin
  rw [h k hk]
  simp only [Option.bind_some]
  by_cases h2 : (s.size : Int) < 2
  · rw [if_pos h2, if_pos h2]; rfl
  · obtain ⟨v0, v1⟩ := val2_range s
    rw [if_neg h2, if_neg h2]
    simp only [if_true]
    rw [w64 (n := (s.size : Int) - 2) (by omega) (by omega), w64 (n := 2 + val2 s) (by omega) (by omega)]
    by_cases h3 : val2 s > 1024
    · rw [if_pos h3, if_pos h3]
    · rw [if_neg h3, if_neg h3]
      by_cases h4 : (s.size : Int) - 2 < val2 s
      · rw [if_pos h4, if_pos h4]
      · rw [if_neg h4, if_neg h4, if_pos (by omega), if_pos (by omega)]
end Go.Proofs.YtiancopplinpcaaDoor.P
end
section
namespace Go.Proofs.YtiancopplinpcaaDoor.P
open Go.RowKit Go.Proofs.YtiancopplinpcaaDoorW.PrintWords Go.Proofs.YtiancopplinpcaaDoorW.PrintLast Go.Proofs.YtiancopplinpcaaDoorW.PrintMore
set_option linter.unusedSimpArgs false
set_option linter.unusedVariables false
theorem and_fffe (r : Nat) : r &&& 65534 = 2 * (r / 2 % 32768) := by
  have h1 : (r &&& 65534) / 2 = r / 2 % 32768 := by
    rw [Nat.and_div_two, show 65534 / 2 = 2 ^ 15 - 1 from rfl, Nat.and_two_pow_sub_one_eq_mod]
  have h2 : (r &&& 65534) % 2 = 0 := by
    have := Nat.and_mod_two_pow (a := r) (b := 65534) (n := 1)
    rw [show (2 : Nat) ^ 1 = 2 from rfl, show 65534 % 2 = 0 from rfl, Nat.and_zero] at this
    exact this
  omega
theorem fffe {r : Int} (h0 : 0 ≤ r) (h1 : r < 2147483648) : (Go.bits .and .i32 r 65534 != 65534) = decide (r % 65536 < 65534) := by
  obtain ⟨a, rfl⟩ := Int.eq_ofNat_of_zero_le h0
  have h := (bits_nat .i32 31 (by decide) wraps_i32 a 65534 (Nat.lt_of_lt_of_le (show a < 2147483648 by omega) (by decide)) (by decide)).1
  rw [show ((65534 : Nat) : Int) = 65534 from rfl] at h
  rw [h, and_fffe]
  rw [Bool.eq_iff_iff]
  simp only [bne_iff_ne, decide_eq_true_eq]
  omega
theorem good_is {r : Int} (h0 : 0 ≤ r) (h1 : r < 2147483648) : fairwayref1_good.f r = some (mayT r) := by
  have hf := fffe h0 h1
  unfold fairwayref1_good.f mayT
  rw [hf, Int.tmod_eq_emod_of_nonneg h0]
  by_cases c1 : r < 32
  · simp [c1]
  · by_cases c4 : 1114111 < r
    · by_cases c2 : 127 ≤ r
      · by_cases c3 : r ≤ 159
        · omega
        · simp [c1, c2, c3, c4]
      · omega
    · by_cases c2 : 127 ≤ r
      · by_cases c3 : r ≤ 159
        · simp [c1, c2, c3]
        · by_cases c5 : 55296 ≤ r
          · by_cases c6 : r ≤ 57343
            · simp [c1, c2, c3, c4, c5, c6]
            · by_cases c7 : 64976 ≤ r
              · by_cases c8 : r ≤ 65007
                · simp [c1, c2, c3, c4, c5, c6, c7, c8]
                · simp [c1, c2, c3, c4, c5, c6, c7, c8]
              · simp [c1, c2, c3, c4, c5, c6, c7]
          · have c7 : ¬ 64976 ≤ r := by omega
            simp [c1, c2, c3, c4, c5, c7]
      · have c5 : ¬ 55296 ≤ r := by omega
        have c7 : ¬ 64976 ≤ r := by omega
        simp [c1, c2, c4, c5, c7]
theorem bt_get (x : ByteArray) (j : Nat) (h : j < x.size) : bt x j = ((x.get! j).toNat : Int) := by
  unfold bt
  rw [dif_pos (by simpa using h)]
  have : x.get! j = x[j]'h := by
    have e : x.get! j = x.data[j]! := rfl
    rw [e, getElem!_pos x.data j h]
    rfl
  rw [this]
  simp
def pt (x : ByteArray) : Int × Int := if mayT (Utf8.decode x 0).1 = true ∧ ¬ (((Utf8.decode x 0).1 : Int) = 65533 ∧ ¬ (((Utf8.decode x 0).2 : Int) > 1)) then (((Utf8.decode x 0).1 : Int), ((Utf8.decode x 0).2 : Int)) else (0, 0)
theorem point_tail (k : Nat) (x : ByteArray) (n low r : Int) (h0 : 0 ≤ r) (h1 : r < 2147483648) :
    fairwayref1_point.l0 (k + 1) x n low r n = some (if low ≤ r ∧ mayT r = true then (r, n) else (0, 0)) := by
  simp only [fairwayref1_point.l0]
  rw [if_neg (by omega)]
  by_cases hl : r < low
  · rw [if_pos hl, if_neg (by omega)]
  · rw [if_neg hl, good_is h0 h1]
    simp only [Option.bind_some]
    by_cases hm : mayT r = true
    · rw [if_pos hm, if_pos ⟨by omega, hm⟩]
    · rw [if_neg hm, if_neg (fun h => hm h.2)]
theorem point_step (k : Nat) (x : ByteArray) (n low r i : Int) (h0 : 0 ≤ r) (h1 : r < 2097152) (hi : i < n) (hi0 : 0 ≤ i) (hx : i < x.size) (hn : n ≤ 4) :
    fairwayref1_point.l0 (k + 1) x n low r i = if 128 ≤ bt x i ∧ bt x i < 192 then fairwayref1_point.l0 k x n low (r * 64 + (bt x i - 128)) (i + 1) else some (0, 0) := by
  have b := bt_range x i
  simp only [fairwayref1_point.l0]
  rw [if_pos hi, if_pos hi0, if_pos hx, w64bt]
  by_cases hlo : bt x i < 128
  · rw [if_pos hlo, if_neg (by omega)]
  · rw [if_neg hlo]
    by_cases hhi : bt x i ≥ 192
    · rw [if_pos hhi, if_neg (by omega)]
    · rw [if_neg hhi, if_pos (by omega), w64 (n := r * 64) (by omega) (by omega), w64 (n := r * 64 + bt x i) (by omega) (by omega), w64 (n := r * 64 + bt x i - 128) (by omega) (by omega), w64 (n := i + 1) (by omega) (by omega)]
      congr 1
      omega
theorem dN_1 (n b0 b1 b2 b3 : Nat) (h : b0 < 128) : Go.Lib.decodeN n b0 b1 b2 b3 = (b0, 1) := by
  unfold Go.Lib.decodeN
  rw [if_pos h]
theorem dN_2 (n b0 b1 b2 b3 : Nat) (h0 : 192 ≤ b0) (h1 : b0 < 224) : Go.Lib.decodeN n b0 b1 b2 b3 = if 1 < n ∧ b1 / 64 = 2 then (if b0 % 32 * 64 + b1 % 64 ≥ 128 then (b0 % 32 * 64 + b1 % 64, 2) else (65533, 1)) else (65533, 1) := by
  unfold Go.Lib.decodeN
  rw [if_neg (by omega)]
  by_cases h : 1 < n ∧ b1 / 64 = 2
  · rw [if_pos ⟨by omega, h⟩, if_pos h]
  · rw [if_neg (by omega), if_neg h, if_neg (by omega), if_neg (by omega)]
theorem dN_3 (n b0 b1 b2 b3 : Nat) (h0 : 224 ≤ b0) (h1 : b0 < 240) : Go.Lib.decodeN n b0 b1 b2 b3 = if (1 < n ∧ b1 / 64 = 2) ∧ (2 < n ∧ b2 / 64 = 2) then (if b0 % 16 * 4096 + b1 % 64 * 64 + b2 % 64 ≥ 2048 ∧ (b0 % 16 * 4096 + b1 % 64 * 64 + b2 % 64 < 55296 ∨ (57344 ≤ b0 % 16 * 4096 + b1 % 64 * 64 + b2 % 64 ∧ b0 % 16 * 4096 + b1 % 64 * 64 + b2 % 64 ≤ 1114111)) then (b0 % 16 * 4096 + b1 % 64 * 64 + b2 % 64, 3) else (65533, 1)) else (65533, 1) := by
  unfold Go.Lib.decodeN
  rw [if_neg (by omega), if_neg (by omega)]
  by_cases h : (1 < n ∧ b1 / 64 = 2) ∧ (2 < n ∧ b2 / 64 = 2)
  · rw [if_pos ⟨by omega, h⟩, if_pos h]
  · rw [if_neg (by omega), if_neg h, if_neg (by omega)]
theorem dN_4 (n b0 b1 b2 b3 : Nat) (h0 : 240 ≤ b0) (h1 : b0 < 248) : Go.Lib.decodeN n b0 b1 b2 b3 = if (1 < n ∧ b1 / 64 = 2) ∧ (2 < n ∧ b2 / 64 = 2) ∧ (3 < n ∧ b3 / 64 = 2) then (if b0 % 8 * 262144 + b1 % 64 * 4096 + b2 % 64 * 64 + b3 % 64 ≥ 65536 ∧ (b0 % 8 * 262144 + b1 % 64 * 4096 + b2 % 64 * 64 + b3 % 64 < 55296 ∨ (57344 ≤ b0 % 8 * 262144 + b1 % 64 * 4096 + b2 % 64 * 64 + b3 % 64 ∧ b0 % 8 * 262144 + b1 % 64 * 4096 + b2 % 64 * 64 + b3 % 64 ≤ 1114111)) then (b0 % 8 * 262144 + b1 % 64 * 4096 + b2 % 64 * 64 + b3 % 64, 4) else (65533, 1)) else (65533, 1) := by
  unfold Go.Lib.decodeN
  rw [if_neg (by omega), if_neg (by omega), if_neg (by omega)]
  by_cases h : (1 < n ∧ b1 / 64 = 2) ∧ (2 < n ∧ b2 / 64 = 2) ∧ (3 < n ∧ b3 / 64 = 2)
  · rw [if_pos ⟨by omega, h⟩, if_pos h]
  · rw [if_neg (by omega), if_neg h]
theorem dN_no (n b0 b1 b2 b3 : Nat) (h : (128 ≤ b0 ∧ b0 < 192) ∨ 248 ≤ b0 ∧ b0 < 256) : Go.Lib.decodeN n b0 b1 b2 b3 = (65533, 1) := by
  unfold Go.Lib.decodeN
  rw [if_neg (by omega), if_neg (by omega), if_neg (by omega), if_neg (by omega)]
theorem decode_width (x : ByteArray) (hx : 0 < x.size) : (Utf8.decode x 0).2 ≤ x.size := by
  rw [Go.Lib.decode_at]
  unfold Go.Lib.decodeN
  repeat' split
  all_goals simp only
  all_goals omega
set_option maxHeartbeats 1000000 in
theorem point_ev (x : ByteArray) (hx : 0 < x.size) : Ev (fun k => fairwayref1_point.f k x) (pt x) := by
  refine ⟨20, fun k hk => ?_⟩
  obtain ⟨k, rfl⟩ : ∃ m, k = m + 20 := ⟨k - 20, by omega⟩
  dsimp only
  have g0 : bt x 0 = ((x.get! 0).toNat : Int) := bt_get x 0 hx
  have g1 : 1 < x.size → bt x 1 = ((x.get! 1).toNat : Int) := bt_get x 1
  have g2 : 2 < x.size → bt x 2 = ((x.get! 2).toNat : Int) := bt_get x 2
  have g3 : 3 < x.size → bt x 3 = ((x.get! 3).toNat : Int) := bt_get x 3
  have r0 := bt_range x 0; have r1 := bt_range x 1; have r2 := bt_range x 2; have r3 := bt_range x 3
  have hd : Utf8.decode x 0 = Go.Lib.decodeN x.size (x.get! 0).toNat (x.get! 1).toNat (x.get! 2).toNat (x.get! 3).toNat := Go.Lib.decode_at x 0
  unfold pt
  rw [hd]
  generalize hb0 : (x.get! 0).toNat = b0 at *
  generalize hb1 : (x.get! 1).toNat = b1 at *
  generalize hb2 : (x.get! 2).toNat = b2 at *
  generalize hb3 : (x.get! 3).toNat = b3 at *
  clear hd hb0 hb1 hb2 hb3
  unfold fairwayref1_point.f
  rw [if_pos (by omega), w64bt]
  have bad : Go.Lib.decodeN x.size b0 b1 b2 b3 = (65533, 1) → (some ((0 : Int), (0 : Int)) = some (if mayT ((Go.Lib.decodeN x.size b0 b1 b2 b3).1 : Int) = true ∧ ¬ (((Go.Lib.decodeN x.size b0 b1 b2 b3).1 : Int) = 65533 ∧ ¬ (((Go.Lib.decodeN x.size b0 b1 b2 b3).2 : Int) > 1)) then (((Go.Lib.decodeN x.size b0 b1 b2 b3).1 : Int), ((Go.Lib.decodeN x.size b0 b1 b2 b3).2 : Int)) else (0, 0))) := by
    intro h
    rw [h, if_neg (by simp)]
  have fine : ∀ (r : Int) (n : Nat) (low : Int), (low ≤ r → Go.Lib.decodeN x.size b0 b1 b2 b3 = (r.toNat, n) ∨ (mayT r = false ∧ Go.Lib.decodeN x.size b0 b1 b2 b3 = (65533, 1))) → (¬ low ≤ r → Go.Lib.decodeN x.size b0 b1 b2 b3 = (65533, 1)) → 0 ≤ r → (1 < n ∨ r < 65533) →
      (some (if low ≤ r ∧ mayT r = true then (r, (n : Int)) else (0, 0)) = some (if mayT ((Go.Lib.decodeN x.size b0 b1 b2 b3).1 : Int) = true ∧ ¬ (((Go.Lib.decodeN x.size b0 b1 b2 b3).1 : Int) = 65533 ∧ ¬ (((Go.Lib.decodeN x.size b0 b1 b2 b3).2 : Int) > 1)) then (((Go.Lib.decodeN x.size b0 b1 b2 b3).1 : Int), ((Go.Lib.decodeN x.size b0 b1 b2 b3).2 : Int)) else (0, 0))) := by
    intro r n low h1 h2 h0 hn
    by_cases hl : low ≤ r
    · rcases h1 hl with h1 | ⟨hm, h1⟩
      · rw [h1]
        have e : ((r.toNat : Nat) : Int) = r := by omega
        simp only [e]
        by_cases hm : mayT r = true
        · rw [if_pos ⟨hl, hm⟩, if_pos ⟨hm, by omega⟩]
        · rw [if_neg (fun h => hm h.2), if_neg (fun h => hm h.1)]
      · rw [← bad h1, if_neg (by rw [hm]; simp)]
    · rw [← bad (h2 hl), if_neg (fun h => hl h.1)]
  have sur : ∀ r : Int, (55296 ≤ r ∧ r ≤ 57343) ∨ 1114111 < r → mayT r = false := by
    intro r h
    unfold mayT
    rcases h with h | h
    · simp [h.1, h.2]
    · simp [h]
  by_cases c240 : bt x 0 ≥ 240
  · rw [if_pos c240]
    simp only [fairwayref1_point.j0]
    by_cases c248 : bt x 0 < 248
    · rw [if_pos (by simpa using c248), w64 (by omega) (by omega)]
      simp only [fairwayref1_point.j3]
      have hdN := dN_4 x.size b0 b1 b2 b3 (by omega) (by omega)
      by_cases hs : (x.size : Int) < 4
      · rw [if_pos hs]
        exact bad (by rw [hdN, if_neg (by omega)])
      · have g1 := g1 (by omega); have g2 := g2 (by omega); have g3 := g3 (by omega)
        rw [if_neg hs, point_step _ x 4 65536 _ 1 (by omega) (by omega) (by omega) (by omega) (by omega) (by omega)]
        by_cases e1 : 128 ≤ bt x 1 ∧ bt x 1 < 192
        · rw [if_pos e1, show (1 : Int) + 1 = 2 from rfl, point_step _ x 4 65536 _ 2 (by omega) (by omega) (by omega) (by omega) (by omega) (by omega)]
          by_cases e2 : 128 ≤ bt x 2 ∧ bt x 2 < 192
          · rw [if_pos e2, show (2 : Int) + 1 = 3 from rfl, point_step _ x 4 65536 _ 3 (by omega) (by omega) (by omega) (by omega) (by omega) (by omega)]
            by_cases e3 : 128 ≤ bt x 3 ∧ bt x 3 < 192
            · rw [if_pos e3, show (3 : Int) + 1 = 4 from rfl, point_tail _ x 4 65536 _ (by omega) (by omega)]
              refine fine _ 4 65536 (fun hl => ?_) (fun hl => ?_) (by omega) (.inl (by decide))
              · by_cases hv : b0 % 8 * 262144 + b1 % 64 * 4096 + b2 % 64 * 64 + b3 % 64 < 55296 ∨ (57344 ≤ b0 % 8 * 262144 + b1 % 64 * 4096 + b2 % 64 * 64 + b3 % 64 ∧ b0 % 8 * 262144 + b1 % 64 * 4096 + b2 % 64 * 64 + b3 % 64 ≤ 1114111)
                · left
                  rw [hdN, if_pos (by omega), if_pos ⟨by omega, hv⟩]
                  refine Prod.ext ?_ rfl
                  show b0 % 8 * 262144 + b1 % 64 * 4096 + b2 % 64 * 64 + b3 % 64 = _
                  omega
                · right
                  exact ⟨sur _ (by omega), by rw [hdN, if_pos (by omega), if_neg (fun h => hv h.2)]⟩
              · rw [hdN, if_pos (by omega), if_neg (by omega)]
            · rw [if_neg e3]; exact bad (by rw [hdN, if_neg (by omega)])
          · rw [if_neg e2]; exact bad (by rw [hdN, if_neg (by omega)])
        · rw [if_neg e1]; exact bad (by rw [hdN, if_neg (by omega)])
    · rw [if_neg (by simpa using c248), if_pos (by omega)]
      simp only [fairwayref1_point.j1]
      rw [if_neg (by simp; omega), if_pos (by omega)]
      simp only [fairwayref1_point.j2]
      rw [if_neg (by simp; omega), if_pos (by omega)]
      exact bad (dN_no x.size b0 b1 b2 b3 (by omega))
  · rw [if_neg c240]
    simp only [fairwayref1_point.j0]
    rw [if_neg (by simp)]
    by_cases c224 : bt x 0 ≥ 224
    · rw [if_pos c224]
      simp only [fairwayref1_point.j1]
      rw [if_pos (by simp; omega), w64 (by omega) (by omega)]
      simp only [fairwayref1_point.j3]
      have hdN := dN_3 x.size b0 b1 b2 b3 (by omega) (by omega)
      by_cases hs : (x.size : Int) < 3
      · rw [if_pos hs]
        exact bad (by rw [hdN, if_neg (by omega)])
      · have g1 := g1 (by omega); have g2 := g2 (by omega)
        rw [if_neg hs, point_step _ x 3 2048 _ 1 (by omega) (by omega) (by omega) (by omega) (by omega) (by omega)]
        by_cases e1 : 128 ≤ bt x 1 ∧ bt x 1 < 192
        · rw [if_pos e1, show (1 : Int) + 1 = 2 from rfl, point_step _ x 3 2048 _ 2 (by omega) (by omega) (by omega) (by omega) (by omega) (by omega)]
          by_cases e2 : 128 ≤ bt x 2 ∧ bt x 2 < 192
          · rw [if_pos e2, show (2 : Int) + 1 = 3 from rfl, point_tail _ x 3 2048 _ (by omega) (by omega)]
            refine fine _ 3 2048 (fun hl => ?_) (fun hl => ?_) (by omega) (.inl (by decide))
            · by_cases hv : b0 % 16 * 4096 + b1 % 64 * 64 + b2 % 64 < 55296 ∨ (57344 ≤ b0 % 16 * 4096 + b1 % 64 * 64 + b2 % 64 ∧ b0 % 16 * 4096 + b1 % 64 * 64 + b2 % 64 ≤ 1114111)
              · left
                rw [hdN, if_pos (by omega), if_pos ⟨by omega, hv⟩]
                refine Prod.ext ?_ rfl
                show b0 % 16 * 4096 + b1 % 64 * 64 + b2 % 64 = _
                omega
              · right
                exact ⟨sur _ (by omega), by rw [hdN, if_pos (by omega), if_neg (fun h => hv h.2)]⟩
            · rw [hdN, if_pos (by omega), if_neg (by omega)]
          · rw [if_neg e2]; exact bad (by rw [hdN, if_neg (by omega)])
        · rw [if_neg e1]; exact bad (by rw [hdN, if_neg (by omega)])
    · rw [if_neg c224]
      simp only [fairwayref1_point.j1]
      rw [if_neg (by simp)]
      by_cases c192 : bt x 0 ≥ 192
      · rw [if_pos c192]
        simp only [fairwayref1_point.j2]
        rw [if_pos (by simp; omega), w64 (by omega) (by omega)]
        simp only [fairwayref1_point.j3]
        have hdN := dN_2 x.size b0 b1 b2 b3 (by omega) (by omega)
        by_cases hs : (x.size : Int) < 2
        · rw [if_pos hs]
          exact bad (by rw [hdN, if_neg (by omega)])
        · have g1 := g1 (by omega)
          rw [if_neg hs, point_step _ x 2 128 _ 1 (by omega) (by omega) (by omega) (by omega) (by omega) (by omega)]
          by_cases e1 : 128 ≤ bt x 1 ∧ bt x 1 < 192
          · rw [if_pos e1, show (1 : Int) + 1 = 2 from rfl, point_tail _ x 2 128 _ (by omega) (by omega)]
            refine fine _ 2 128 (fun hl => .inl ?_) (fun hl => ?_) (by omega) (.inl (by decide))
            · rw [hdN, if_pos (by omega), if_pos (by omega)]
              refine Prod.ext ?_ rfl
              show b0 % 32 * 64 + b1 % 64 = _
              omega
            · rw [hdN, if_pos (by omega), if_neg (by omega)]
          · rw [if_neg e1]; exact bad (by rw [hdN, if_neg (by omega)])
      · rw [if_neg c192]
        simp only [fairwayref1_point.j2]
        rw [if_neg (by simp)]
        by_cases c128 : bt x 0 ≥ 128
        · rw [if_pos c128]
          exact bad (dN_no x.size b0 b1 b2 b3 (by omega))
        · rw [if_neg c128]
          simp only [fairwayref1_point.j3]
          rw [if_neg (by omega), point_tail _ x 1 0 _ (by omega) (by omega)]
          refine fine _ 1 0 (fun hl => .inl ?_) (fun hl => by omega) (by omega) (.inr (by omega))
          rw [dN_1 x.size b0 b1 b2 b3 (by omega)]
          refine Prod.ext ?_ rfl
          show b0 = _
          omega
theorem get_extract (s : ByteArray) (p j : Nat) : (s.extract p s.size).get! j = s.get! (p + j) := by
  by_cases h : p + j < s.size
  · have hs : (s.extract p s.size).size = s.size - p := extract_size s (by omega) (Nat.le_refl _)
    have a := bt_get (s.extract p s.size) j (by omega)
    have b := bt_get s (p + j) h
    have c : bt (s.extract p s.size) j = bt s ((p + j : Nat) : Int) := by
      rw [bt_list _ j (by omega), bt_list _ (p + j) h]
      simp only [bytesOf_extract, List.extract_eq_take_drop]
      rw [List.getElem_take, List.getElem_drop]
    rw [c, b] at a
    exact UInt8.toNat_inj.1 (by exact_mod_cast a.symm)
  · have e1 : s.get! (p + j) = default := by
      show s.data[p + j]! = default
      exact getElem!_neg s.data (p + j) (by show ¬ p + j < s.size; omega)
    have e2 : (s.extract p s.size).get! j = default := by
      show (s.extract p s.size).data[j]! = default
      refine getElem!_neg _ j ?_
      show ¬ j < (s.extract p s.size).size
      rw [← bytesOf_len, bytesOf_extract, List.extract_eq_take_drop, List.length_take, List.length_drop, bytesOf_len]
      omega
    rw [e1, e2]
theorem decode_extract (s : ByteArray) (p : Nat) (hp : p ≤ s.size) : Utf8.decode (s.extract p s.size) 0 = Utf8.decode s p := by
  rw [Go.Lib.decode_at, Go.Lib.decode_at]
  simp only [get_extract, Nat.zero_add, Nat.add_zero, Nat.sub_zero]
  rw [extract_size s hp (Nat.le_refl _)]
theorem extract_twice (s : ByteArray) (p n : Nat) (hp : p ≤ s.size) : (s.extract p s.size).extract n (s.extract p s.size).size = s.extract (p + n) s.size := bytesOf_inj (by
  rw [extract_size s hp (Nat.le_refl _)]
  simp only [bytesOf_extract, List.extract_eq_take_drop]
  rw [List.drop_take, List.drop_drop, List.take_take]
  congr 1
  omega)
theorem text_loop (s : ByteArray) (d : Nat) : ∀ p f : Nat, p ≤ s.size → s.size - p ≤ d → s.size - p ≤ f → Ev (fun k => fairwayref1_Text.l0 k (s.extract p s.size)) (chk s f p) := by
  induction d with
  | zero =>
    intro p f hp hd hf
    refine ⟨1, fun k hk => ?_⟩
    obtain ⟨k, rfl⟩ : ∃ m, k = m + 1 := ⟨k - 1, by omega⟩
    simp only [fairwayref1_Text.l0]
    rw [if_neg (by rw [extract_size s hp (Nat.le_refl _)]; omega), chk_end s f p (by omega)]
  | succ d ih =>
    intro p f hp hd hf
    by_cases he : s.size ≤ p
    · exact ih p f hp (by omega) hf
    · have hs : (s.extract p s.size).size = s.size - p := extract_size s hp (Nat.le_refl _)
      obtain ⟨K, h⟩ := point_ev (s.extract p s.size) (by omega)
      dsimp only at h
      have hdx := decode_extract s p hp
      have hw : wholeT s p = decide (((Utf8.decode s p).2 : Int) > 1) := by
        unfold wholeT Go.Lib.decodeGo
        rw [if_neg (by omega), hdx]
      have hwd := width_pos s p (by omega)
      have hle := decode_le s p
      obtain ⟨f, rfl⟩ : ∃ m, f = m + 1 := ⟨f - 1, by omega⟩
      unfold pt at h
      rw [hdx] at h
      have hchk : chk s (f + 1) p = if mayT (Utf8.decode s p).1 = true ∧ ¬ (((Utf8.decode s p).1 : Int) = 65533 ∧ ¬ (((Utf8.decode s p).2 : Int) > 1)) then chk s f (p + (Utf8.decode s p).2) else 8 := by
        simp only [chk, show p < s.size by omega, if_true]
        by_cases hm : mayT (Utf8.decode s p).1 = true
        · rw [if_pos hm, hw]
          by_cases h5 : ((Utf8.decode s p).1 : Int) = 65533
          · by_cases h1 : ((Utf8.decode s p).2 : Int) > 1
            · rw [if_neg (by simp [h1]), if_pos ⟨hm, fun h => h.2 h1⟩]
            · rw [if_pos ⟨h5, by simpa using h1⟩, if_neg (fun h => h.2 ⟨h5, h1⟩)]
          · rw [if_neg (fun h => h5 h.1), if_pos ⟨hm, fun h => h5 h.1⟩]
        · rw [if_neg hm, if_neg (fun h => hm h.1)]
      rw [hchk]
      by_cases hok : mayT (Utf8.decode s p).1 = true ∧ ¬ (((Utf8.decode s p).1 : Int) = 65533 ∧ ¬ (((Utf8.decode s p).2 : Int) > 1))
      · rw [if_pos hok]
        rw [if_pos hok] at h
        have hle2 : p + (Utf8.decode s p).2 ≤ s.size := by
          have hw2 := decode_width (s.extract p s.size) (by omega)
          rw [hdx, hs] at hw2
          omega
        obtain ⟨K2, h2⟩ := ih (p + (Utf8.decode s p).2) f hle2 (by omega) (by omega)
        dsimp only at h2
        refine ⟨K + K2 + 1, fun k hk => ?_⟩
        obtain ⟨k, rfl⟩ : ∃ m, k = m + 1 := ⟨k - 1, by omega⟩
        simp only [fairwayref1_Text.l0]
        rw [if_pos (by omega), h k (by omega)]
        simp only [Option.bind_some]
        rw [if_neg (by omega), if_pos (by omega), if_pos (by omega), Int.toNat_natCast, extract_twice s p _ hp]
        exact h2 k (by omega)
      · rw [if_neg hok]
        rw [if_neg hok] at h
        refine ⟨K + 1, fun k hk => ?_⟩
        obtain ⟨k, rfl⟩ : ∃ m, k = m + 1 := ⟨k - 1, by omega⟩
        simp only [fairwayref1_Text.l0]
        rw [if_pos (by omega), h k (by omega)]
        simp
theorem text_ev (s : ByteArray) : Ev (fun k => fairwayref1_Text.f k s) (checkT s) := by
  by_cases hs : s.size > 1024
  · refine ⟨0, fun k hk => ?_⟩
    dsimp only
    unfold fairwayref1_Text.f checkT
    rw [if_pos (by omega), if_pos hs]
  · obtain ⟨K, h⟩ := text_loop s s.size 0 s.size (by omega) (by omega) (by omega)
    refine ⟨K, fun k hk => ?_⟩
    dsimp only at h ⊢
    unfold fairwayref1_Text.f checkT
    rw [if_neg (by omega), if_neg hs, ← h k hk, extract_all]
def takeT (s : ByteArray) (text : Bool) : ByteArray × Int × Int :=
  if (tbin s).2.2 = 0 then (if text = true then (if checkT (tbin s).1 = 0 then tbin s else ((⟨#[]⟩ : ByteArray), 0, checkT (tbin s).1)) else tbin s) else tbin s
theorem takeLong_ev (s : ByteArray) (text : Bool) (hs : s.size ≤ 9223372036854775000) : Ev (fun k => fairwayref1_TakeLong.f k s text) (takeT s text) := by
  obtain ⟨K, h⟩ := text_ev (tbin s).1
  obtain ⟨K2, h2⟩ := ref_take2_ev s
  refine ⟨K + K2, fun k hk => ?_⟩
  dsimp only at h h2 ⊢
  have h := h k (by omega)
  unfold fairwayref1_TakeLong.f takeT
  rw [h2 k (by omega)]
  simp only [Option.bind_some]
  unfold tbin at h ⊢
  obtain ⟨v0, v1⟩ := val2_range s
  by_cases c1 : (s.size : Int) < 2
  · simp [c1]
  · rw [if_neg c1]
    simp only [c1, if_false, if_true] at h ⊢
    rw [w64 (n := (s.size : Int) - 2) (by omega) (by omega), w64 (n := 2 + val2 s) (by omega) (by omega)]
    by_cases c2 : val2 s > 1024
    · simp [c2]
    · simp only [c2, if_false] at h ⊢
      by_cases c3 : (s.size : Int) - 2 < val2 s
      · simp [c3]
      · simp only [c3, if_false] at h ⊢
        rw [if_pos (by omega), if_pos (by omega)]
        cases text with
        | true =>
          rw [if_pos rfl, h]
          simp only [Option.bind_some, if_true]
          split <;> rfl
        | false => simp
theorem vtakeText_ev (s : ByteArray) (hs : s.size ≤ 9223372036854775807) : Ev (fun k => vbi_TakeText.f k s) (takeT s true) := by
  obtain ⟨K, h⟩ := takeBin_ev s hs
  refine ⟨K, fun k hk => ?_⟩
  dsimp only at h ⊢
  unfold vbi_TakeText.f takeT text_Check.f
  rw [h k hk]
  simp only [Option.bind_some, if_true]
  by_cases hc : (tbin s).2.2 = 0
  · rw [if_pos hc, if_pos hc]
    by_cases h2 : checkT (tbin s).1 = 0
    · rw [if_pos h2, if_pos h2, ← hc]
    · rw [if_neg h2, if_neg h2]
  · rw [if_neg hc, if_neg hc]
    have : tbin s = ((⟨#[]⟩ : ByteArray), 0, (tbin s).2.2) := by
      unfold tbin at hc ⊢
      repeat' split
      all_goals first | rfl | simp_all
    rw [← this]
end Go.Proofs.YtiancopplinpcaaDoor.P
end
section
namespace Go.Proofs.YtiancopplinpcaaDoor.P
open Go.RowKit Go.Proofs.YtiancopplinpcaaDoorW.PrintWords Go.Proofs.YtiancopplinpcaaDoorW.PrintLast Go.Proofs.YtiancopplinpcaaDoorW.PrintMore
set_option linter.unusedSimpArgs false
set_option linter.unusedVariables false
def mostK (k : Int) : Int := if k = 1 then 1 else if k = 2 then 65535 else if k = 3 then 4294967295 else 268435455
def okP (a n : Int) (s v : ByteArray) : Bool :=
  if kindOf a = 0 then false
  else if kindOf a ≤ 4 then decide (¬ ((a = 33 ∨ a = 35 ∨ a = 39 ∨ a = 11) ∧ n = 0) ∧ 0 ≤ n ∧ n ≤ mostK (kindOf a) ∧ s.toList = [] ∧ v.toList = [])
  else if kindOf a = 5 then decide (n = 0 ∧ v.toList = [] ∧ checkT s = 0)
  else if kindOf a = 6 then decide (n = 0 ∧ v.toList = [] ∧ (s.size : Int) ≤ 1024)
  else decide (n = 0 ∧ checkT s = 0 ∧ checkT v = 0)
theorem kind_cases (a : Int) : kindOf a = 0 ∨ kindOf a = 1 ∨ kindOf a = 2 ∨ kindOf a = 3 ∨ kindOf a = 4 ∨ kindOf a = 5 ∨ kindOf a = 6 ∨ kindOf a = 7 := by
  have := kindOf_range a
  omega
set_option maxHeartbeats 1000000 in
theorem refFits_ev (a n : Int) (s v : ByteArray) : Ev (fun k => fairwayref4_fits.f k a n s v) (okP a n s v) := by
  obtain ⟨K0, h0⟩ := refKind_ev a
  obtain ⟨K1, h1⟩ := text_ev s
  obtain ⟨K2, h2⟩ := text_ev v
  refine ⟨K0 + K1 + K2 + 1, fun k hk => ?_⟩
  obtain ⟨k, rfl⟩ : ∃ m, k = m + 1 := ⟨k - 1, by omega⟩
  have e0 := h0 (k + 1) (by omega)
  have e1 := h1 k (by omega)
  have e2 := h2 k (by omega)
  dsimp only at e0 e1 e2 ⊢
  have hc := kind_cases a
  unfold fairwayref4_fits.f okP
  rw [e0]
  simp only [Option.bind_some]
  generalize kindOf a = kd at hc
  have num : ∀ m : Int, fairwayref0_Num.f n m = some (decide (0 ≤ n ∧ n ≤ m)) := by
    intro m
    unfold fairwayref0_Num.f
    by_cases h : n ≥ 0
    · rw [if_pos h]; simp [show 0 ≤ n from h]
    · rw [if_neg h]; simp [show ¬ 0 ≤ n from h]
  have low : ∀ m : Int, 1 ≤ kd → kd ≤ 4 → rd [0, 1, 65535, 4294967295, 268435455] kd = m → fairwayref4_fits.j0 (k + 1) kd kd true a n s v = some (decide (¬ ((a = 33 ∨ a = 35 ∨ a = 39 ∨ a = 11) ∧ n = 0) ∧ 0 ≤ n ∧ n ≤ m ∧ s.toList = [] ∧ v.toList = [])) := by
    intro m hl hh hm
    simp only [fairwayref4_fits.j0, if_true, Option.bind_some, List.length_cons, List.length_nil, num, hm]
    rw [if_pos (by omega), if_pos (by omega)]
    have hX : ((some (decide (0 ≤ n ∧ n ≤ m))).bind fun t => if t = true then (if s.toList = ([] : List UInt8) then some (v.toList == ([] : List UInt8)) else some false) else some false) = some (decide (0 ≤ n ∧ n ≤ m ∧ s.toList = [] ∧ v.toList = [])) := by
      by_cases x6 : 0 ≤ n ∧ n ≤ m <;> by_cases x7 : s.toList = [] <;> by_cases x8 : v.toList = [] <;> simp [x6, x7, x8, List.beq_nil_eq]
      all_goals first | (exact fun h => absurd h x6) | (intro h1 h2; exact absurd ⟨h1, h2⟩ x6) | skip
    simp only [Option.bind_some] at hX ⊢
    rw [hX]
    by_cases x5 : n = 0 <;> by_cases x1 : a = 33 <;> by_cases x2 : a = 35 <;> by_cases x3 : a = 39 <;> by_cases x4 : a = 11 <;> simp [x1, x2, x3, x4, x5]
  have e3 : (v.toList == ([] : List UInt8)) = decide (v.toList = []) := by
    by_cases h : v.toList = [] <;> simp [h]
  rcases hc with rfl | rfl | rfl | rfl | rfl | rfl | rfl | rfl
  · simp [fairwayref4_fits.j0]
  · simpa [mostK] using low 1 (by omega) (by omega) rfl
  · simpa [mostK] using low 65535 (by omega) (by omega) rfl
  · simpa [mostK] using low 4294967295 (by omega) (by omega) rfl
  · simpa [mostK] using low 268435455 (by omega) (by omega) rfl
  · by_cases x1 : n = 0 <;> by_cases x2 : v.toList = [] <;> simp [fairwayref4_fits.j0, x1, x2, e1]
    rfl
  · by_cases x1 : n = 0 <;> by_cases x2 : v.toList = [] <;> simp [fairwayref4_fits.j0, x1, x2]
  · by_cases x1 : n = 0 <;> by_cases x2 : checkT s = 0 <;> simp [fairwayref4_fits.j0, x1, x2, e1, e2]
    rfl
def againP (p a : Int) (l : List S42) : Bool := if a = 38 ∨ a = 11 ∧ p = 3 then false else l.any fun x => x.f0 == a
theorem twice_loop (a : Int) (l : List S42) (hl : l.length ≤ 100000) (d : Nat) : ∀ (i k : Nat), l.length - i = d → d < k → fairwayref4_twice.l0 k a l (i : Int) = some ((l.drop i).any fun x => x.f0 == a) := by
  induction d with
  | zero =>
    intro i k hd hk
    obtain ⟨k, rfl⟩ : ∃ m, k = m + 1 := ⟨k - 1, by omega⟩
    simp only [fairwayref4_twice.l0]
    rw [if_neg (by omega), List.drop_of_length_le (by omega)]
    rfl
  | succ d ih =>
    intro i k hd hk
    obtain ⟨k, rfl⟩ : ∃ m, k = m + 1 := ⟨k - 1, by omega⟩
    have hi : i < l.length := by omega
    have hrd : rd_T42 l (i : Int) = l[i] := by simp [rd_T42, hi]
    rw [List.drop_eq_getElem_cons hi]
    simp only [fairwayref4_twice.l0]
    rw [if_pos (by omega), if_pos (by omega), hrd, w64 (by omega) (by omega)]
    by_cases h : l[i].f0 = a
    · rw [if_pos h, List.any_cons, beq_iff_eq.2 h, Bool.true_or]
    · rw [if_neg h, show ((i : Int) + 1) = ((i + 1 : Nat) : Int) by omega, ih (i + 1) k (by omega) (by omega), List.any_cons, beq_eq_false_iff_ne.2 h, Bool.false_or]
theorem refTwice_ev (p a : Int) (l : List S42) (hl : l.length ≤ 100000) : Ev (fun k => fairwayref4_twice.f k p a l) (againP p a l) := by
  refine ⟨l.length + 3, fun k hk => ?_⟩
  obtain ⟨k, rfl⟩ : ∃ m, k = m + 1 := ⟨k - 1, by omega⟩
  have h := twice_loop a l hl l.length 0 k (by omega) (by omega)
  rw [List.drop_zero] at h
  dsimp only
  unfold fairwayref4_twice.f againP
  by_cases x1 : a = 38
  · simp [x1, fairwayref4_twice.j0]
  · by_cases x2 : a = 11
    · by_cases x3 : p = 3
      · simp [x1, x2, x3, fairwayref4_twice.j0]
      · simp [x1, x2, x3, fairwayref4_twice.j0]
        rw [x2] at h
        simpa using h
    · simp [x1, x2, fairwayref4_twice.j0]
      simpa using h
def fitsP (p : Int) (l : List S42) (a n : Int) : Bool :=
  decide (a ∈ placeL p ∧ ¬ (kindOf a = 1 ∧ n > 1) ∧ ¬ ((a = 33 ∨ a = 35 ∨ a = 39 ∨ a = 11) ∧ n = 0)) && !againP p a l
theorem fits_ev (p : Int) (l : List S42) (a n : Int) (s v : ByteArray) : Ev (fun k => prop_fits.f k p l a n s v) (fitsP p l a n) := by
  obtain ⟨K0, h0⟩ := kind_ev a
  obtain ⟨K1, h1⟩ := stands_ev p
  obtain ⟨K2, h2⟩ := contains_ev (placeL p) a (by have := placeL_len p; omega)
  refine ⟨K0 + K1 + K2, fun k hk => ?_⟩
  have e0 := h0 k (by omega)
  have e1 := h1 k (by omega)
  have e2 := h2 k (by omega)
  dsimp only at e0 e1 e2 ⊢
  unfold prop_fits.f fitsP againP
  rw [e0, e1]
  simp only [Option.bind_some]
  rw [e2, nought_is]
  simp only [Option.bind_some]
  generalize kindOf a = kd
  by_cases x1 : a ∈ placeL p
  · by_cases x2 : kd = 1 ∧ n > 1
    · simp [x1, x2]
    · by_cases x3 : (a = 33 ∨ a = 35 ∨ a = 39 ∨ a = 11) ∧ n = 0
      · rw [if_pos (by simpa using x1), if_neg x2, if_pos (by simpa using x3)]
        simp [x3]
      · rw [if_pos (by simpa using x1), if_neg x2, if_neg (by simpa using x3), decide_eq_true ⟨x1, x2, x3⟩, Bool.true_and]
        by_cases x4 : a = 38
        · simp [x4]
        · by_cases x5 : a = 11 ∧ p = 3
          · simp [x4, x5]
          · rw [if_neg x4, if_neg x5, if_neg (by rintro (h | h); exact x4 h; exact x5 h)]
  · simp [x1]
def stepP (p : Int) (l : List S42) (a n : Int) (s v : ByteArray) : Bool := okP a n s v && decide (a ∈ placeL p) && !againP p a l
theorem nought_kind {a : Int} (h : a = 33 ∨ a = 35 ∨ a = 39 ∨ a = 11) : kindOf a = 2 ∨ kindOf a = 3 ∨ kindOf a = 4 := by
  rcases h with rfl | rfl | rfl | rfl <;> decide
theorem fits_no {p : Int} {l : List S42} {a n : Int} {s v : ByteArray} (h : fitsP p l a n = false) : stepP p l a n s v = false := by
  unfold fitsP at h
  unfold stepP
  by_cases x1 : a ∈ placeL p
  · by_cases x2 : kindOf a = 1 ∧ n > 1
    · have : okP a n s v = false := by
        unfold okP
        simp [x2.1, mostK]
        intros; omega
      rw [this]; rfl
    · by_cases x3 : (a = 33 ∨ a = 35 ∨ a = 39 ∨ a = 11) ∧ n = 0
      · have : okP a n s v = false := by
          unfold okP
          have hk := nought_kind x3.1
          rw [if_neg (by omega), if_pos (by omega)]
          exact decide_eq_false fun h => h.1 x3
        rw [this]; rfl
      · rw [decide_eq_true ⟨x1, x2, x3⟩, Bool.true_and] at h
        rw [h, Bool.and_false]
  · rw [decide_eq_false x1]; simp
theorem fits_yes {p : Int} {l : List S42} {a n : Int} {s v : ByteArray} (h : fitsP p l a n = true) : stepP p l a n s v = okP a n s v ∧ ¬ (kindOf a = 1 ∧ n > 1) ∧ ¬ ((a = 33 ∨ a = 35 ∨ a = 39 ∨ a = 11) ∧ n = 0) := by
  unfold fitsP at h
  rw [Bool.and_eq_true, decide_eq_true_eq] at h
  unfold stepP
  rw [decide_eq_true h.1.1, h.2, Bool.and_true, Bool.and_true]
  exact ⟨rfl, h.1.2⟩
end Go.Proofs.YtiancopplinpcaaDoor.P
end
