/- The statement PropNumbers, PropTexts, PropPairs: for every input the law answers true, and its argument reads behind the call as it did (part 5 of 14 of the proof). -/
import Derived.Test.YtiancopplinpcaaDoorMPropOne3
section
theorem zz8 {p : Prop} (h : p := by repeat (first | (with_reducible first | exact HB.out | apply below_alloc | apply pw_below_drewN | apply below_drew1 | refine below_set ?_ GE277.out) | exact HB.out)) : p := h
theorem zz33 {p : Prop} (h : p := by (with_reducible repeat (first | apply Kd.R_alloc | apply Kd.R_drewN | apply Kd.R_drew)); exact HO280.out) : p := h
theorem zz23 {p : Prop} (h : p := by (with_reducible repeat (first | refine blk_drewN ?_ _ | refine blk_drew ?_ | refine blk_alloc ?_ _)); exact BK277.out) : p := h
theorem zz45 {p : Prop} (h : p := by have := HK1.out; first | omega | exact Nat.le_refl _) : p := h
namespace Go.Proofs.YtiancopplinpcaaDoor.P
open Go.RowKit Go.Proofs.YtiancopplinpcaaDoorW.PrintWords Go.Proofs.YtiancopplinpcaaDoorW.PrintLast Go.Proofs.YtiancopplinpcaaDoorW.PrintMore
attribute [local go_sem] max2_int min2_int max_two min_two max_three min_three max_four min_four
set_option linter.unusedVariables false
set_option linter.unusedSimpArgs false
mutual
def fairwayref4_PropBytes.l0 : Nat → List (S42) → ByteArray → Int → Option (ByteArray)
  | 0, _, _, _ => none
  | k + 1, x0, x3, x4 => if x4 < (x0.length : Int) then (if 0 ≤ x4 then ((some (([((rd_T42 x0 x4).f0) % 256] : List Int) : List Int)).bind fun y278 => (if x3.size + (strOfNums y278).size ≤ 9223372036854775807 then ((fairwayref4_Kind.f k ((rd_T42 x0 x4).f0)).bind fun t281 => (if t281 = 1 then ((some (([((rd_T42 x0 x4).f1) % 256] : List Int) : List Int)).bind fun y282 => (if (x3 ++ (strOfNums y278)).size + (strOfNums y282).size ≤ 9223372036854775807 then (fairwayref4_PropBytes.l0 k x0 ((x3 ++ (strOfNums y278)) ++ (strOfNums y282)) (wrap64 (x4 + 1))) else (none))) else (if t281 = 2 then ((fairwayref1_Fixed.f k ((rd_T42 x0 x4).f1) 2).bind fun t285 => (if (x3 ++ (strOfNums y278)).size + t285.size ≤ 9223372036854775807 then (fairwayref4_PropBytes.l0 k x0 ((x3 ++ (strOfNums y278)) ++ t285) (wrap64 (x4 + 1))) else (none))) else (if t281 = 3 then ((fairwayref1_Fixed.f k ((rd_T42 x0 x4).f1) 4).bind fun t286 => (if (x3 ++ (strOfNums y278)).size + t286.size ≤ 9223372036854775807 then (fairwayref4_PropBytes.l0 k x0 ((x3 ++ (strOfNums y278)) ++ t286) (wrap64 (x4 + 1))) else (none))) else (if t281 = 4 then ((fairwayref1_Num.f k ((rd_T42 x0 x4).f1)).bind fun t287 => (if (x3 ++ (strOfNums y278)).size + t287.size ≤ 9223372036854775807 then (fairwayref4_PropBytes.l0 k x0 ((x3 ++ (strOfNums y278)) ++ t287) (wrap64 (x4 + 1))) else (none))) else (if t281 = 5 then (fairwayref4_PropBytes.j1 k x0 (x3 ++ (strOfNums y278)) x4 (t281 == 5) ((rd_T42 x0 x4).f0) ((rd_T42 x0 x4).f1) ((rd_T42 x0 x4).f2) ((rd_T42 x0 x4).f3)) else (fairwayref4_PropBytes.j1 k x0 (x3 ++ (strOfNums y278)) x4 (t281 == 6) ((rd_T42 x0 x4).f0) ((rd_T42 x0 x4).f1) ((rd_T42 x0 x4).f2) ((rd_T42 x0 x4).f3)))))))) else (none))) else (none)) else ((fairwayref1_Num.f k (x3.size : Int)).bind fun t275 => (if t275.size + x3.size ≤ 9223372036854775807 then (some (t275 ++ x3)) else (none)))
def fairwayref4_PropBytes.j1 : Nat → List (S42) → ByteArray → Int → Bool → Int → Int → ByteArray → ByteArray → Option (ByteArray)
  | 0, _, _, _, _, _, _, _, _ => none
  | k + 1, x0, x3, x4, x73, x278000, x278001, x278002, x278003 => if x73 = true then ((fairwayref1_Fixed.f k (x278002.size : Int) 2).bind fun t288 => (if x3.size + t288.size ≤ 9223372036854775807 then (if (x3 ++ t288).size + x278002.size ≤ 9223372036854775807 then (fairwayref4_PropBytes.l0 k x0 ((x3 ++ t288) ++ x278002) (wrap64 (x4 + 1))) else (none)) else (none))) else ((fairwayref1_Fixed.f k (x278002.size : Int) 2).bind fun t289 => (if x3.size + t289.size ≤ 9223372036854775807 then (if (x3 ++ t289).size + x278002.size ≤ 9223372036854775807 then ((fairwayref1_Fixed.f k (x278003.size : Int) 2).bind fun t290 => (if ((x3 ++ t289) ++ x278002).size + t290.size ≤ 9223372036854775807 then (if (((x3 ++ t289) ++ x278002) ++ t290).size + x278003.size ≤ 9223372036854775807 then (fairwayref4_PropBytes.l0 k x0 ((((x3 ++ t289) ++ x278002) ++ t290) ++ x278003) (wrap64 (x4 + 1))) else (none)) else (none))) else (none)) else (none)))
end
def fairwayref4_PropBytes.f (k : Nat) (l0 : List (S42)) : Option (ByteArray) := fairwayref4_PropBytes.l0 k l0 (⟨#[]⟩ : ByteArray) 0
theorem fairwayref4_PropBytes.mono_l : ∀ k, (∀ y0 y1 y2, LeO (fairwayref4_PropBytes.l0 k y0 y1 y2) (fairwayref4_PropBytes.l0 (k + 1) y0 y1 y2)) ∧ (∀ y0 y1 y2 y3 y4 y5 y6 y7, LeO (fairwayref4_PropBytes.j1 k y0 y1 y2 y3 y4 y5 y6 y7) (fairwayref4_PropBytes.j1 (k + 1) y0 y1 y2 y3 y4 y5 y6 y7))
 | 0 => ⟨fun _ _ _ r h => by simp [fairwayref4_PropBytes.l0] at h, fun _ _ _ _ _ _ _ _ r h => by simp [fairwayref4_PropBytes.j1] at h⟩
 | k + 1 => by
  obtain ⟨ih0, ih1⟩ := fairwayref4_PropBytes.mono_l k; refine ⟨?_, ?_⟩ <;> intros
  all_goals first | unfold fairwayref4_PropBytes.l0 | unfold fairwayref4_PropBytes.j1
  all_goals repeat' first
   | (with_reducible exact ih0 _ _ _)
   | (with_reducible exact ih1 _ _ _ _ _ _ _ _)
   | (with_reducible exact fairwayref1_Fixed.mono _ _ _)
   | (with_reducible exact fairwayref1_Num.mono _ _)
   | (with_reducible exact fairwayref4_Kind.mono _ _)
   | (with_reducible exact LeO.refl _)
   | (with_reducible exact LeO.none _)
   | (with_reducible refine LeO.ite ?_ ?_)
   | (with_reducible refine LeO.bind ?_ (fun _ => ?_))
   | exact ih0 _ _ _
   | exact ih1 _ _ _ _ _ _ _ _
   | exact fairwayref1_Fixed.mono _ _ _
   | exact fairwayref1_Num.mono _ _
   | exact fairwayref4_Kind.mono _ _
   | exact LeO.none _
   | refine LeO.ite ?_ ?_
   | refine LeO.bind ?_ (fun _ => ?_)
theorem fairwayref4_PropBytes.mono : ∀ a0 k, LeO (fairwayref4_PropBytes.f k a0) (fairwayref4_PropBytes.f (k + 1) a0) := by
 intro a0 k
 obtain ⟨ih0, ih1⟩ := fairwayref4_PropBytes.mono_l k; unfold fairwayref4_PropBytes.f; repeat' first
   | (with_reducible exact ih0 _ _ _)
   | (with_reducible exact ih1 _ _ _ _ _ _ _ _)
   | (with_reducible exact fairwayref1_Fixed.mono _ _ _)
   | (with_reducible exact fairwayref1_Num.mono _ _)
   | (with_reducible exact fairwayref4_Kind.mono _ _)
   | (with_reducible exact LeO.refl _)
   | (with_reducible exact LeO.none _)
   | (with_reducible refine LeO.ite ?_ ?_)
   | (with_reducible refine LeO.bind ?_ (fun _ => ?_))
   | exact ih0 _ _ _
   | exact ih1 _ _ _ _ _ _ _ _
   | exact fairwayref1_Fixed.mono _ _ _
   | exact fairwayref1_Num.mono _ _
   | exact fairwayref4_Kind.mono _ _
   | exact LeO.none _
   | refine LeO.ite ?_ ?_
   | refine LeO.bind ?_ (fun _ => ?_)
def fairwayref4_PropBytes.T8 : Bool × List (List Nat × List Nat) := (true, [([], []), ([], []), ([1], [1]), ([2], [2]), ([3], [3]), ([0, 4], [0, 4]), ([], []), ([6], [6]), ([5, 7], [5, 7]), ([], []), ([9], [9]), ([10], [10]), ([11, 4], [11]), ([8, 12], [8, 12]), ([], []), ([14], [14]), ([13, 15], [13, 15]), ([16, 12, 0, 1, 2, 3, 4, 5, 6, 7, 8, 9, 10, 11, 12, 13, 14, 15, 16], [0, 16])])
def fairwayref4_PropBytes.B8 : List Nat := [0, 0, 2, 6, 14, 31, 0, 64, 255, 0, 512, 1536, 3614, 8191, 0, 16384, 65535, 131071]
theorem fairwayref4_PropBytes.tab8 : rtab .any (opsOf Tryd.f19 8) = fairwayref4_PropBytes.T8 := by kernel_rfl
theorem fairwayref4_PropBytes.bits8 : waitsOk fairwayref4_PropBytes.T8.2 fairwayref4_PropBytes.B8 = true := by kernel_rfl
def fairwayref4_PropBytes.T19 : Bool × List (List Nat × List Nat) := (true, [([], []), ([], []), ([1], [1]), ([2], [2]), ([3], [3]), ([0, 4], [0, 4]), ([], []), ([6], [6]), ([5, 7], [5, 7]), ([8, 4, 0, 1, 2, 3, 4, 5, 6, 7, 8], [0, 8])])
def fairwayref4_PropBytes.B19 : List Nat := [0, 0, 2, 6, 14, 31, 0, 64, 255, 511]
theorem fairwayref4_PropBytes.tab19 : rtab .any (opsOf Tryd.f19 19) = fairwayref4_PropBytes.T19 := by kernel_rfl
theorem fairwayref4_PropBytes.bits19 : waitsOk fairwayref4_PropBytes.T19.2 fairwayref4_PropBytes.B19 = true := by kernel_rfl
set_option maxHeartbeats 8000000 in
set_option maxRecDepth 100000 in
theorem fairwayref4_PropBytes.calls (k : Nat) (A0 : Option Addr) (c0 : Nat) (l0 : List (S42)) (r : ByteArray) (w : World) (hr0 : Kd.C k42 w A0 l0.length l0) (hc0 : l0.length ≤ c0) (h : fairwayref4_PropBytes.f k l0 = some r) :
  Calls Tryd.prog 19 #[.slice A0 l0.length c0] w fun e w' => e = .returned (.string r) ∧ Below w.heap.size w w' := by
 have hu42 := Tryd.underlying42; have HR0 := Aside0.mk hr0; have HC0 := Aside0.mk hc0; clear hr0 hc0; have HB := Aside0.mk (Below.refl w.heap.size w); have H : (fairwayref4_PropBytes.l0 k l0 (⟨#[]⟩ : ByteArray) 0) = some r := h; clear h; have H' := Aside0.mk H; clear H; go_enter Tryd.func19, Tryd.ntmps19
 go_wp2
 go_loopg [3, 4] k (fun kq v3 v4 w' => ∃ (x3_1 : ByteArray) (x4_1 : Int), v3 = .string x3_1 ∧ v4 = .int .i64 x4_1 ∧ Aside0 (fairwayref4_PropBytes.l0 kq l0 x3_1 x4_1 = some r) ∧ Aside0 (kq ≤ k) ∧ Aside0 (Below w.heap.size w w'))
 case atStart => exact ⟨((⟨#[]⟩ : ByteArray)), (0), zz47, zz47, H', ⟨Nat.le_refl _⟩, ⟨zz21⟩⟩
 case round =>
  as_aux_lemma =>
   clear H'; (try clear c1); obtain ⟨x3_1, x4_1, rfl, rfl, HA, HK1, HB⟩ := hrel; cases gk with
   | zero => exact absurd HA.out (by simp [fairwayref4_PropBytes.l0])
   | succ k1 =>
    have H := HA.out; clear HA; simp only [fairwayref4_PropBytes.l0] at H; by_cases c2 : x4_1 < (l0.length : Int)
    ·
     rw [if_pos c2] at H; have c2b0 : decide (x4_1 < (l0.length : Int)) = true := decide_eq_true c2; clear c2; by_cases c3 : 0 ≤ x4_1
     ·
      rw [if_pos c3] at H; have c3b0 : decide (0 ≤ x4_1) = true := decide_eq_true c3; clear c3; obtain ⟨y278, hy278⟩ : ∃ y_ : List Int, y_ = (([((rd_T42 l0 x4_1).f0) % 256] : List Int)) := ⟨_, rfl⟩; replace H : (if x3_1.size + (strOfNums y278).size ≤ 9223372036854775807 then ((fairwayref4_Kind.f k1 ((rd_T42 l0 x4_1).f0)).bind fun t281 => (if t281 = 1 then ((some (([((rd_T42 l0 x4_1).f1) % 256] : List Int) : List Int)).bind fun y282 => (if (x3_1 ++ (strOfNums y278)).size + (strOfNums y282).size ≤ 9223372036854775807 then (fairwayref4_PropBytes.l0 k1 l0 ((x3_1 ++ (strOfNums y278)) ++ (strOfNums y282)) (wrap64 (x4_1 + 1))) else (none))) else (if t281 = 2 then ((fairwayref1_Fixed.f k1 ((rd_T42 l0 x4_1).f1) 2).bind fun t285 => (if (x3_1 ++ (strOfNums y278)).size + t285.size ≤ 9223372036854775807 then (fairwayref4_PropBytes.l0 k1 l0 ((x3_1 ++ (strOfNums y278)) ++ t285) (wrap64 (x4_1 + 1))) else (none))) else (if t281 = 3 then ((fairwayref1_Fixed.f k1 ((rd_T42 l0 x4_1).f1) 4).bind fun t286 => (if (x3_1 ++ (strOfNums y278)).size + t286.size ≤ 9223372036854775807 then (fairwayref4_PropBytes.l0 k1 l0 ((x3_1 ++ (strOfNums y278)) ++ t286) (wrap64 (x4_1 + 1))) else (none))) else (if t281 = 4 then ((fairwayref1_Num.f k1 ((rd_T42 l0 x4_1).f1)).bind fun t287 => (if (x3_1 ++ (strOfNums y278)).size + t287.size ≤ 9223372036854775807 then (fairwayref4_PropBytes.l0 k1 l0 ((x3_1 ++ (strOfNums y278)) ++ t287) (wrap64 (x4_1 + 1))) else (none))) else (if t281 = 5 then (fairwayref4_PropBytes.j1 k1 l0 (x3_1 ++ (strOfNums y278)) x4_1 (t281 == 5) ((rd_T42 l0 x4_1).f0) ((rd_T42 l0 x4_1).f1) ((rd_T42 l0 x4_1).f2) ((rd_T42 l0 x4_1).f3)) else (fairwayref4_PropBytes.j1 k1 l0 (x3_1 ++ (strOfNums y278)) x4_1 (t281 == 6) ((rd_T42 l0 x4_1).f0) ((rd_T42 l0 x4_1).f1) ((rd_T42 l0 x4_1).f2) ((rd_T42 l0 x4_1).f3)))))))) else (none)) = some r := by first | (rw [hy278]; with_reducible exact H) | (have H2_ := (Option.bind_some _ _).symm.trans H; rw [hy278]; with_reducible exact H2_) | (have H2_ := (Option.bind_some _ _).symm.trans H; with_reducible exact H2_) | with_reducible exact H | (rw [hy278]; exact H) | exact H
      have Ny278 := Aside0.mk hy278; clear hy278; by_cases c4 : x3_1.size + (strOfNums y278).size ≤ 9223372036854775807
      ·
       rw [if_pos c4] at H; have c4b0 := eq_true c4; have c4b1 : decide (x3_1.size + (strOfNums y278).size ≤ 9223372036854775807) = true := decide_eq_true c4; try have c4b2 : (9223372036854775807 < x3_1.size + (strOfNums y278).size) = False := eq_false (Nat.not_lt.2 c4)
       replace H := Option.bind_eq_some_iff.mp H; obtain ⟨t281, A50, H⟩ := H; replace H : (if t281 = 1 then ((some (([((rd_T42 l0 x4_1).f1) % 256] : List Int) : List Int)).bind fun y282 => (if (x3_1 ++ (strOfNums y278)).size + (strOfNums y282).size ≤ 9223372036854775807 then (fairwayref4_PropBytes.l0 k1 l0 ((x3_1 ++ (strOfNums y278)) ++ (strOfNums y282)) (wrap64 (x4_1 + 1))) else (none))) else (if t281 = 2 then ((fairwayref1_Fixed.f k1 ((rd_T42 l0 x4_1).f1) 2).bind fun t285 => (if (x3_1 ++ (strOfNums y278)).size + t285.size ≤ 9223372036854775807 then (fairwayref4_PropBytes.l0 k1 l0 ((x3_1 ++ (strOfNums y278)) ++ t285) (wrap64 (x4_1 + 1))) else (none))) else (if t281 = 3 then ((fairwayref1_Fixed.f k1 ((rd_T42 l0 x4_1).f1) 4).bind fun t286 => (if (x3_1 ++ (strOfNums y278)).size + t286.size ≤ 9223372036854775807 then (fairwayref4_PropBytes.l0 k1 l0 ((x3_1 ++ (strOfNums y278)) ++ t286) (wrap64 (x4_1 + 1))) else (none))) else (if t281 = 4 then ((fairwayref1_Num.f k1 ((rd_T42 l0 x4_1).f1)).bind fun t287 => (if (x3_1 ++ (strOfNums y278)).size + t287.size ≤ 9223372036854775807 then (fairwayref4_PropBytes.l0 k1 l0 ((x3_1 ++ (strOfNums y278)) ++ t287) (wrap64 (x4_1 + 1))) else (none))) else (if t281 = 5 then (fairwayref4_PropBytes.j1 k1 l0 (x3_1 ++ (strOfNums y278)) x4_1 (t281 == 5) ((rd_T42 l0 x4_1).f0) ((rd_T42 l0 x4_1).f1) ((rd_T42 l0 x4_1).f2) ((rd_T42 l0 x4_1).f3)) else (fairwayref4_PropBytes.j1 k1 l0 (x3_1 ++ (strOfNums y278)) x4_1 (t281 == 6) ((rd_T42 l0 x4_1).f0) ((rd_T42 l0 x4_1).f1) ((rd_T42 l0 x4_1).f2) ((rd_T42 l0 x4_1).f3))))))) = some r := H; have A5 := Aside0.mk A50; clear A50; by_cases c6 : t281 = 1
       ·
        rw [if_pos c6] at H; have c6b0 : (t281 == 1) = true := beq_iff_eq.mpr c6; have c6b1 : (t281 != 1) = false := bne_eq_false_iff_eq.mpr c6; clear c6; obtain ⟨y282, hy282⟩ : ∃ y_ : List Int, y_ = (([((rd_T42 l0 x4_1).f1) % 256] : List Int)) := ⟨_, rfl⟩; replace H : (if (x3_1 ++ (strOfNums y278)).size + (strOfNums y282).size ≤ 9223372036854775807 then (fairwayref4_PropBytes.l0 k1 l0 ((x3_1 ++ (strOfNums y278)) ++ (strOfNums y282)) (wrap64 (x4_1 + 1))) else (none)) = some r := by first | (rw [hy282]; with_reducible exact H) | (have H2_ := (Option.bind_some _ _).symm.trans H; rw [hy282]; with_reducible exact H2_) | (have H2_ := (Option.bind_some _ _).symm.trans H; with_reducible exact H2_) | with_reducible exact H | (rw [hy282]; exact H) | exact H
        have Ny282 := Aside0.mk hy282; clear hy282; by_cases c7 : (x3_1 ++ (strOfNums y278)).size + (strOfNums y282).size ≤ 9223372036854775807
        ·
         rw [if_pos c7] at H; have c7b0 := eq_true c7; have c7b1 : decide ((x3_1 ++ (strOfNums y278)).size + (strOfNums y282).size ≤ 9223372036854775807) = true := decide_eq_true c7; try have c7b2 : (9223372036854775807 < (x3_1 ++ (strOfNums y278)).size + (strOfNums y282).size) = False := eq_false (Nat.not_lt.2 c7)
         (try (have c7b2_ := c7b2; simp only [ByteArray.size_append] at c7b2_))
         have H' := Aside0.mk H; clear H; have p276 : 0 ≤ (x4_1 : Int) := of_decide_eq_true zz46; have q276 : x4_1 < (l0.length : Int) := of_decide_eq_true zz46; obtain ⟨ad276, e276, hx276_0, hx276_1, hx276_2, hx276_3⟩ := at_T42 HR0.out x4_1 p276 q276; cases e276; replace hx276_0 := (HB.out.cell (World.block_lt_of_cell? w _ hx276_0)).trans hx276_0; replace hx276_1 := (HB.out.cell (World.block_lt_of_cell? w _ hx276_1)).trans hx276_1; replace hx276_2 := (HB.out.cell (World.block_lt_of_cell? w _ hx276_2)).trans hx276_2; replace hx276_3 := (HB.out.cell (World.block_lt_of_cell? w _ hx276_3)).trans hx276_3; replace p276 := eq_true p276; replace q276 := eq_true q276; go_wp2_with (first | ((with_reducible refine gate_dst (N := 5) rfl ?_); refine box_event ?hg (N := 5) ?hd (cs := #[.int .i64 0, .int .i64 0, .string (⟨#[]⟩ : ByteArray), .string (⟨#[]⟩ : ByteArray)]) (t := 42) ?hr ?_; (case hd => rfl); (case hg => rfl); (case hr => first | (go_simp; done) | (go_simp; rfl)); intro gb277 hg w8 hbox hb; have n0_ := Aside0.mk (below_step zz21 hb); have n1_ := Aside0.mk (hbox); have n2_ := Aside0.mk ((by rw [hg]; exact (below_size zz21) : w.heap.size ≤ gb277)); have n3_ := Aside0.mk ((by rw [hg]; exact (below_size zz21) : w.heap.size ≤ gb277)); clear HB; have HB := n0_; have BK277 := n1_; have GW277 := n2_; have GE277 := n3_; clear n0_ n1_ n2_ n3_; clear hb hbox hg; have hcz9_0 : w8.cell? ⟨gb277, 0, none⟩ = some (.int .i64 0) := (blk_cell BK277.out 0).trans rfl; have hcz9_1 : w8.cell? ⟨gb277, 1, none⟩ = some (.int .i64 0) := (blk_cell BK277.out 1).trans rfl; have hcz9_2 : w8.cell? ⟨gb277, 2, none⟩ = some (.string (⟨#[]⟩ : ByteArray)) := (blk_cell BK277.out 2).trans rfl; have hcz9_3 : w8.cell? ⟨gb277, 3, none⟩ = some (.string (⟨#[]⟩ : ByteArray)) := (blk_cell BK277.out 3).trans rfl; have hfz9_0 := blk_frozen BK277.out 0; have hfz9_1 := blk_frozen BK277.out 1; have hfz9_2 := blk_frozen BK277.out 2; have hfz9_3 := blk_frozen BK277.out 3) | ((with_reducible refine gate_dst (N := 20) rfl ?_); refine Kd.R_lit (Kd.int .u8) _ 5 ?hg (N := 20) ?hd (xs := ([((rd_T42 l0 x4_1).f0) % 256] : List Int)) (inner := [.int .u8 (((rd_T42 l0 x4_1).f0) % 256)]) (ok := fun _ => True) (okp := fun _ => True) ?hr ?hp (fun _ hk => hk) trivial (Below.refl _ _) (Nat.le_refl _) (by simp) ?_; (case hd => rfl); (case hg => rfl); (case hr => first | (go_simp; done) | (go_simp; rfl)); (case hp => exact (Reps.one (show Kd.M (Kd.int .u8) _ _ _ (((rd_T42 l0 x4_1).f0) % 256) [.int .u8 (((rd_T42 l0 x4_1).f0) % 256)] from rfl) (Reps.none _ _))); intro v279 w10 ho11 hb hg_ hnew_; clear hg_ hnew_; (first | rw [← Ny278.out] at ho11 | (simp only [Int.reduceToNat] at ho11; rw [← Ny278.out] at ho11)); have n0_ := Aside0.mk (Kd.R_lower ho11 (below_size zz8)); have n1_ := Aside0.mk (blk_below (g := gb277) (o := .cells #[.int .i64 ((rd_T42 l0 x4_1).f0), .int .i64 ((rd_T42 l0 x4_1).f1), .string ((rd_T42 l0 x4_1).f2), .string ((rd_T42 l0 x4_1).f3)] 42 (0, 0)) (by (with_reducible repeat (first | refine blk_drewN ?_ _ | refine blk_drew ?_ | refine blk_alloc ?_ _)); refine blk_put (cs := #[.int .i64 ((rd_T42 l0 x4_1).f0), .int .i64 ((rd_T42 l0 x4_1).f1), .string ((rd_T42 l0 x4_1).f2), .string (⟨#[]⟩ : ByteArray)]) ?_ 3 _ rfl; (with_reducible repeat (first | refine blk_drewN ?_ _ | refine blk_drew ?_ | refine blk_alloc ?_ _)); refine blk_put (cs := #[.int .i64 ((rd_T42 l0 x4_1).f0), .int .i64 ((rd_T42 l0 x4_1).f1), .string (⟨#[]⟩ : ByteArray), .string (⟨#[]⟩ : ByteArray)]) ?_ 2 _ rfl; (with_reducible repeat (first | refine blk_drewN ?_ _ | refine blk_drew ?_ | refine blk_alloc ?_ _)); refine blk_put (cs := #[.int .i64 ((rd_T42 l0 x4_1).f0), .int .i64 0, .string (⟨#[]⟩ : ByteArray), .string (⟨#[]⟩ : ByteArray)]) ?_ 1 _ rfl; (with_reducible repeat (first | refine blk_drewN ?_ _ | refine blk_drew ?_ | refine blk_alloc ?_ _)); refine blk_put (cs := #[.int .i64 0, .int .i64 0, .string (⟨#[]⟩ : ByteArray), .string (⟨#[]⟩ : ByteArray)]) ?_ 0 _ rfl; (with_reducible repeat (first | refine blk_drewN ?_ _ | refine blk_drew ?_ | refine blk_alloc ?_ _)); exact BK277.out) hb); have n2_ := Aside0.mk (below_step zz8 hb); clear BK277; clear HB; have HO280 := n0_; have BK277 := n1_; have HB := n2_; clear n0_ n1_ n2_; clear hb ho11; have hcv12 := own_string (P := Tryd.prog) Tryd.underlying58 Tryd.underlying5 Tryd.underlying9 (Kd.own_of_R HO280.out); have hcz13_0 : w10.cell? ⟨gb277, 0, none⟩ = some (.int .i64 ((rd_T42 l0 x4_1).f0)) := (blk_cell BK277.out 0).trans rfl; have hcz13_1 : w10.cell? ⟨gb277, 1, none⟩ = some (.int .i64 ((rd_T42 l0 x4_1).f1)) := (blk_cell BK277.out 1).trans rfl; have hcz13_2 : w10.cell? ⟨gb277, 2, none⟩ = some (.string ((rd_T42 l0 x4_1).f2)) := (blk_cell BK277.out 2).trans rfl; have hcz13_3 : w10.cell? ⟨gb277, 3, none⟩ = some (.string ((rd_T42 l0 x4_1).f3)) := (blk_cell BK277.out 3).trans rfl; have hfz13_0 := blk_frozen BK277.out 0; have hfz13_1 := blk_frozen BK277.out 1; have hfz13_2 := blk_frozen BK277.out 2; have hfz13_3 := blk_frozen BK277.out 3) | ((with_reducible refine gate_callee (f := 12) rfl ?_); refine goesL_ (some 25) rfl rfl Tryd.func12 zz49 rfl #[.int .i64 ((rd_T42 l0 x4_1).f0)] rfl zz20 ?_; (with_reducible refine (fairwayref4_Kind.calls k1 ((rd_T42 l0 x4_1).f0) t281 _ A5.out).mono ?_); rintro e w' ⟨rfl, ⟨nd, rfl⟩⟩; refine ⟨_, rfl, ?_⟩) | ((with_reducible refine gate_dst (N := 49) rfl ?_); refine Kd.R_lit (Kd.int .u8) _ 5 ?hg (N := 49) ?hd (xs := ([((rd_T42 l0 x4_1).f1) % 256] : List Int)) (inner := [.int .u8 (((rd_T42 l0 x4_1).f1) % 256)]) (ok := fun _ => True) (okp := fun _ => True) ?hr ?hp (fun _ hk => hk) trivial (Below.refl _ _) (Nat.le_refl _) (by simp) ?_; (case hd => rfl); (case hg => rfl); (case hr => first | (go_simp; done) | (go_simp; rfl)); (case hp => exact (Reps.one (show Kd.M (Kd.int .u8) _ _ _ (((rd_T42 l0 x4_1).f1) % 256) [.int .u8 (((rd_T42 l0 x4_1).f1) % 256)] from rfl) (Reps.none _ _))); intro v283 w14 ho15 hb hg_ hnew_; clear hg_ hnew_; (first | rw [← Ny282.out] at ho15 | (simp only [Int.reduceToNat] at ho15; rw [← Ny282.out] at ho15)); have n0_ := Aside0.mk (Kd.R_elder' zz33 (Kd.R_base ho15) hb); have n1_ := Aside0.mk (Kd.R_lower (Kd.R_new' ho15 (Kd.R_lt zz33)) (below_size zz8)); have n2_ := Aside0.mk (blk_below (g := gb277) (o := .cells #[.int .i64 ((rd_T42 l0 x4_1).f0), .int .i64 ((rd_T42 l0 x4_1).f1), .string ((rd_T42 l0 x4_1).f2), .string ((rd_T42 l0 x4_1).f3)] 42 (0, 0)) zz23 hb); have n3_ := Aside0.mk (below_step zz8 hb); clear HO280; clear BK277; clear HB; have HO280 := n0_; have HO284 := n1_; have BK277 := n2_; have HB := n3_; clear n0_ n1_ n2_ n3_; clear hb ho15; have hcv16 := own_string (P := Tryd.prog) Tryd.underlying58 Tryd.underlying5 Tryd.underlying9 (Kd.own_of_R HO284.out)))
         go_roundg k1
         case measure => have := HK1.out; omega
         case rel => exact ⟨((x3_1 ++ (strOfNums y278)) ++ (strOfNums y282)), (wrap64 (x4_1 + 1)), zz47, zz47, H', ⟨by have := HK1.out; omega⟩, ⟨zz8⟩⟩
        rw [if_neg c7] at H; exact absurd H (by simp)
       rw [if_neg c6] at H; have c6b0 : (t281 == 1) = false := beq_eq_false_iff_ne.mpr c6; have c6b1 : (t281 != 1) = true := bne_iff_ne.mpr c6; by_cases c17 : t281 = 2
       ·
        rw [if_pos c17] at H; have c17b0 : (t281 == 2) = true := beq_iff_eq.mpr c17; have c17b1 : (t281 != 2) = false := bne_eq_false_iff_eq.mpr c17; clear c17; replace H := Option.bind_eq_some_iff.mp H; obtain ⟨t285, A180, H⟩ := H; replace H : (if (x3_1 ++ (strOfNums y278)).size + t285.size ≤ 9223372036854775807 then (fairwayref4_PropBytes.l0 k1 l0 ((x3_1 ++ (strOfNums y278)) ++ t285) (wrap64 (x4_1 + 1))) else (none)) = some r := H; have A18 := Aside0.mk A180; clear A180; by_cases c19 : (x3_1 ++ (strOfNums y278)).size + t285.size ≤ 9223372036854775807
        ·
         rw [if_pos c19] at H; have c19b0 := eq_true c19; have c19b1 : decide ((x3_1 ++ (strOfNums y278)).size + t285.size ≤ 9223372036854775807) = true := decide_eq_true c19; try have c19b2 : (9223372036854775807 < (x3_1 ++ (strOfNums y278)).size + t285.size) = False := eq_false (Nat.not_lt.2 c19)
         (try (have c19b2_ := c19b2; simp only [ByteArray.size_append] at c19b2_))
         have H' := Aside0.mk H; clear H; have p276 : 0 ≤ (x4_1 : Int) := of_decide_eq_true zz46; have q276 : x4_1 < (l0.length : Int) := of_decide_eq_true zz46; obtain ⟨ad276, e276, hx276_0, hx276_1, hx276_2, hx276_3⟩ := at_T42 HR0.out x4_1 p276 q276; cases e276; replace hx276_0 := (HB.out.cell (World.block_lt_of_cell? w _ hx276_0)).trans hx276_0; replace hx276_1 := (HB.out.cell (World.block_lt_of_cell? w _ hx276_1)).trans hx276_1; replace hx276_2 := (HB.out.cell (World.block_lt_of_cell? w _ hx276_2)).trans hx276_2; replace hx276_3 := (HB.out.cell (World.block_lt_of_cell? w _ hx276_3)).trans hx276_3; replace p276 := eq_true p276; replace q276 := eq_true q276; go_wp2_with (first | ((with_reducible refine gate_dst (N := 5) rfl ?_); refine box_event ?hg (N := 5) ?hd (cs := #[.int .i64 0, .int .i64 0, .string (⟨#[]⟩ : ByteArray), .string (⟨#[]⟩ : ByteArray)]) (t := 42) ?hr ?_; (case hd => rfl); (case hg => rfl); (case hr => first | (go_simp; done) | (go_simp; rfl)); intro gb277 hg w20 hbox hb; have n0_ := Aside0.mk (below_step zz21 hb); have n1_ := Aside0.mk (hbox); have n2_ := Aside0.mk ((by rw [hg]; exact (below_size zz21) : w.heap.size ≤ gb277)); have n3_ := Aside0.mk ((by rw [hg]; exact (below_size zz21) : w.heap.size ≤ gb277)); clear HB; have HB := n0_; have BK277 := n1_; have GW277 := n2_; have GE277 := n3_; clear n0_ n1_ n2_ n3_; clear hb hbox hg; have hcz21_0 : w20.cell? ⟨gb277, 0, none⟩ = some (.int .i64 0) := (blk_cell BK277.out 0).trans rfl; have hcz21_1 : w20.cell? ⟨gb277, 1, none⟩ = some (.int .i64 0) := (blk_cell BK277.out 1).trans rfl; have hcz21_2 : w20.cell? ⟨gb277, 2, none⟩ = some (.string (⟨#[]⟩ : ByteArray)) := (blk_cell BK277.out 2).trans rfl; have hcz21_3 : w20.cell? ⟨gb277, 3, none⟩ = some (.string (⟨#[]⟩ : ByteArray)) := (blk_cell BK277.out 3).trans rfl; have hfz21_0 := blk_frozen BK277.out 0; have hfz21_1 := blk_frozen BK277.out 1; have hfz21_2 := blk_frozen BK277.out 2; have hfz21_3 := blk_frozen BK277.out 3) | ((with_reducible refine gate_dst (N := 20) rfl ?_); refine Kd.R_lit (Kd.int .u8) _ 5 ?hg (N := 20) ?hd (xs := ([((rd_T42 l0 x4_1).f0) % 256] : List Int)) (inner := [.int .u8 (((rd_T42 l0 x4_1).f0) % 256)]) (ok := fun _ => True) (okp := fun _ => True) ?hr ?hp (fun _ hk => hk) trivial (Below.refl _ _) (Nat.le_refl _) (by simp) ?_; (case hd => rfl); (case hg => rfl); (case hr => first | (go_simp; done) | (go_simp; rfl)); (case hp => exact (Reps.one (show Kd.M (Kd.int .u8) _ _ _ (((rd_T42 l0 x4_1).f0) % 256) [.int .u8 (((rd_T42 l0 x4_1).f0) % 256)] from rfl) (Reps.none _ _))); intro v279 w22 ho23 hb hg_ hnew_; clear hg_ hnew_; (first | rw [← Ny278.out] at ho23 | (simp only [Int.reduceToNat] at ho23; rw [← Ny278.out] at ho23)); have n0_ := Aside0.mk (Kd.R_lower ho23 (below_size zz8)); have n1_ := Aside0.mk (blk_below (g := gb277) (o := .cells #[.int .i64 ((rd_T42 l0 x4_1).f0), .int .i64 ((rd_T42 l0 x4_1).f1), .string ((rd_T42 l0 x4_1).f2), .string ((rd_T42 l0 x4_1).f3)] 42 (0, 0)) (by (with_reducible repeat (first | refine blk_drewN ?_ _ | refine blk_drew ?_ | refine blk_alloc ?_ _)); refine blk_put (cs := #[.int .i64 ((rd_T42 l0 x4_1).f0), .int .i64 ((rd_T42 l0 x4_1).f1), .string ((rd_T42 l0 x4_1).f2), .string (⟨#[]⟩ : ByteArray)]) ?_ 3 _ rfl; (with_reducible repeat (first | refine blk_drewN ?_ _ | refine blk_drew ?_ | refine blk_alloc ?_ _)); refine blk_put (cs := #[.int .i64 ((rd_T42 l0 x4_1).f0), .int .i64 ((rd_T42 l0 x4_1).f1), .string (⟨#[]⟩ : ByteArray), .string (⟨#[]⟩ : ByteArray)]) ?_ 2 _ rfl; (with_reducible repeat (first | refine blk_drewN ?_ _ | refine blk_drew ?_ | refine blk_alloc ?_ _)); refine blk_put (cs := #[.int .i64 ((rd_T42 l0 x4_1).f0), .int .i64 0, .string (⟨#[]⟩ : ByteArray), .string (⟨#[]⟩ : ByteArray)]) ?_ 1 _ rfl; (with_reducible repeat (first | refine blk_drewN ?_ _ | refine blk_drew ?_ | refine blk_alloc ?_ _)); refine blk_put (cs := #[.int .i64 0, .int .i64 0, .string (⟨#[]⟩ : ByteArray), .string (⟨#[]⟩ : ByteArray)]) ?_ 0 _ rfl; (with_reducible repeat (first | refine blk_drewN ?_ _ | refine blk_drew ?_ | refine blk_alloc ?_ _)); exact BK277.out) hb); have n2_ := Aside0.mk (below_step zz8 hb); clear BK277; clear HB; have HO280 := n0_; have BK277 := n1_; have HB := n2_; clear n0_ n1_ n2_; clear hb ho23; have hcv24 := own_string (P := Tryd.prog) Tryd.underlying58 Tryd.underlying5 Tryd.underlying9 (Kd.own_of_R HO280.out); have hcz25_0 : w22.cell? ⟨gb277, 0, none⟩ = some (.int .i64 ((rd_T42 l0 x4_1).f0)) := (blk_cell BK277.out 0).trans rfl; have hcz25_1 : w22.cell? ⟨gb277, 1, none⟩ = some (.int .i64 ((rd_T42 l0 x4_1).f1)) := (blk_cell BK277.out 1).trans rfl; have hcz25_2 : w22.cell? ⟨gb277, 2, none⟩ = some (.string ((rd_T42 l0 x4_1).f2)) := (blk_cell BK277.out 2).trans rfl; have hcz25_3 : w22.cell? ⟨gb277, 3, none⟩ = some (.string ((rd_T42 l0 x4_1).f3)) := (blk_cell BK277.out 3).trans rfl; have hfz25_0 := blk_frozen BK277.out 0; have hfz25_1 := blk_frozen BK277.out 1; have hfz25_2 := blk_frozen BK277.out 2; have hfz25_3 := blk_frozen BK277.out 3) | ((with_reducible refine gate_callee (f := 12) rfl ?_); refine goesL_ (some 25) rfl rfl Tryd.func12 zz49 rfl #[.int .i64 ((rd_T42 l0 x4_1).f0)] rfl zz20 ?_; (with_reducible refine (fairwayref4_Kind.calls k1 ((rd_T42 l0 x4_1).f0) t281 _ A5.out).mono ?_); rintro e w' ⟨rfl, ⟨nd, rfl⟩⟩; refine ⟨_, rfl, ?_⟩) | ((with_reducible refine gate_callee (f := 33) rfl ?_); refine goesL_ (some 57) rfl rfl Tryd.func33 zz49 rfl #[.int .i64 ((rd_T42 l0 x4_1).f1), .int .i64 2] rfl zz20 ?_; (with_reducible refine (fairwayref1_Fixed.calls k1 ((rd_T42 l0 x4_1).f1) 2 t285 _ A18.out).mono ?_); rintro e w26 ⟨rfl, hb⟩; refine ⟨_, rfl, ?_⟩; have n0_ := Aside0.mk (Kd.R_below zz33 hb); have n1_ := Aside0.mk (blk_below (g := gb277) (o := .cells #[.int .i64 ((rd_T42 l0 x4_1).f0), .int .i64 ((rd_T42 l0 x4_1).f1), .string ((rd_T42 l0 x4_1).f2), .string ((rd_T42 l0 x4_1).f3)] 42 (0, 0)) zz23 hb); have n2_ := Aside0.mk (below_step zz8 hb); clear HO280; clear BK277; clear HB; have HO280 := n0_; have BK277 := n1_; have HB := n2_; clear n0_ n1_ n2_; (try clear hb); (try clear hb2); (try clear hk); (try clear hi)))
         go_roundg k1
         case measure => have := HK1.out; omega
         case rel => exact ⟨((x3_1 ++ (strOfNums y278)) ++ t285), (wrap64 (x4_1 + 1)), zz47, zz47, H', ⟨by have := HK1.out; omega⟩, ⟨zz8⟩⟩
        rw [if_neg c19] at H; exact absurd H (by simp)
       rw [if_neg c17] at H; have c17b0 : (t281 == 2) = false := beq_eq_false_iff_ne.mpr c17; have c17b1 : (t281 != 2) = true := bne_iff_ne.mpr c17; by_cases c27 : t281 = 3
       ·
        rw [if_pos c27] at H; have c27b0 : (t281 == 3) = true := beq_iff_eq.mpr c27; have c27b1 : (t281 != 3) = false := bne_eq_false_iff_eq.mpr c27; clear c27; replace H := Option.bind_eq_some_iff.mp H; obtain ⟨t286, A280, H⟩ := H; replace H : (if (x3_1 ++ (strOfNums y278)).size + t286.size ≤ 9223372036854775807 then (fairwayref4_PropBytes.l0 k1 l0 ((x3_1 ++ (strOfNums y278)) ++ t286) (wrap64 (x4_1 + 1))) else (none)) = some r := H; have A28 := Aside0.mk A280; clear A280; by_cases c29 : (x3_1 ++ (strOfNums y278)).size + t286.size ≤ 9223372036854775807
        ·
         rw [if_pos c29] at H; have c29b0 := eq_true c29; have c29b1 : decide ((x3_1 ++ (strOfNums y278)).size + t286.size ≤ 9223372036854775807) = true := decide_eq_true c29; try have c29b2 : (9223372036854775807 < (x3_1 ++ (strOfNums y278)).size + t286.size) = False := eq_false (Nat.not_lt.2 c29)
         (try (have c29b2_ := c29b2; simp only [ByteArray.size_append] at c29b2_))
         have H' := Aside0.mk H; clear H; have p276 : 0 ≤ (x4_1 : Int) := of_decide_eq_true zz46; have q276 : x4_1 < (l0.length : Int) := of_decide_eq_true zz46; obtain ⟨ad276, e276, hx276_0, hx276_1, hx276_2, hx276_3⟩ := at_T42 HR0.out x4_1 p276 q276; cases e276; replace hx276_0 := (HB.out.cell (World.block_lt_of_cell? w _ hx276_0)).trans hx276_0; replace hx276_1 := (HB.out.cell (World.block_lt_of_cell? w _ hx276_1)).trans hx276_1; replace hx276_2 := (HB.out.cell (World.block_lt_of_cell? w _ hx276_2)).trans hx276_2; replace hx276_3 := (HB.out.cell (World.block_lt_of_cell? w _ hx276_3)).trans hx276_3; replace p276 := eq_true p276; replace q276 := eq_true q276; go_wp2_with (first | ((with_reducible refine gate_dst (N := 5) rfl ?_); refine box_event ?hg (N := 5) ?hd (cs := #[.int .i64 0, .int .i64 0, .string (⟨#[]⟩ : ByteArray), .string (⟨#[]⟩ : ByteArray)]) (t := 42) ?hr ?_; (case hd => rfl); (case hg => rfl); (case hr => first | (go_simp; done) | (go_simp; rfl)); intro gb277 hg w30 hbox hb; have n0_ := Aside0.mk (below_step zz21 hb); have n1_ := Aside0.mk (hbox); have n2_ := Aside0.mk ((by rw [hg]; exact (below_size zz21) : w.heap.size ≤ gb277)); have n3_ := Aside0.mk ((by rw [hg]; exact (below_size zz21) : w.heap.size ≤ gb277)); clear HB; have HB := n0_; have BK277 := n1_; have GW277 := n2_; have GE277 := n3_; clear n0_ n1_ n2_ n3_; clear hb hbox hg; have hcz31_0 : w30.cell? ⟨gb277, 0, none⟩ = some (.int .i64 0) := (blk_cell BK277.out 0).trans rfl; have hcz31_1 : w30.cell? ⟨gb277, 1, none⟩ = some (.int .i64 0) := (blk_cell BK277.out 1).trans rfl; have hcz31_2 : w30.cell? ⟨gb277, 2, none⟩ = some (.string (⟨#[]⟩ : ByteArray)) := (blk_cell BK277.out 2).trans rfl; have hcz31_3 : w30.cell? ⟨gb277, 3, none⟩ = some (.string (⟨#[]⟩ : ByteArray)) := (blk_cell BK277.out 3).trans rfl; have hfz31_0 := blk_frozen BK277.out 0; have hfz31_1 := blk_frozen BK277.out 1; have hfz31_2 := blk_frozen BK277.out 2; have hfz31_3 := blk_frozen BK277.out 3) | ((with_reducible refine gate_dst (N := 20) rfl ?_); refine Kd.R_lit (Kd.int .u8) _ 5 ?hg (N := 20) ?hd (xs := ([((rd_T42 l0 x4_1).f0) % 256] : List Int)) (inner := [.int .u8 (((rd_T42 l0 x4_1).f0) % 256)]) (ok := fun _ => True) (okp := fun _ => True) ?hr ?hp (fun _ hk => hk) trivial (Below.refl _ _) (Nat.le_refl _) (by simp) ?_; (case hd => rfl); (case hg => rfl); (case hr => first | (go_simp; done) | (go_simp; rfl)); (case hp => exact (Reps.one (show Kd.M (Kd.int .u8) _ _ _ (((rd_T42 l0 x4_1).f0) % 256) [.int .u8 (((rd_T42 l0 x4_1).f0) % 256)] from rfl) (Reps.none _ _))); intro v279 w32 ho33 hb hg_ hnew_; clear hg_ hnew_; (first | rw [← Ny278.out] at ho33 | (simp only [Int.reduceToNat] at ho33; rw [← Ny278.out] at ho33)); have n0_ := Aside0.mk (Kd.R_lower ho33 (below_size zz8)); have n1_ := Aside0.mk (blk_below (g := gb277) (o := .cells #[.int .i64 ((rd_T42 l0 x4_1).f0), .int .i64 ((rd_T42 l0 x4_1).f1), .string ((rd_T42 l0 x4_1).f2), .string ((rd_T42 l0 x4_1).f3)] 42 (0, 0)) (by (with_reducible repeat (first | refine blk_drewN ?_ _ | refine blk_drew ?_ | refine blk_alloc ?_ _)); refine blk_put (cs := #[.int .i64 ((rd_T42 l0 x4_1).f0), .int .i64 ((rd_T42 l0 x4_1).f1), .string ((rd_T42 l0 x4_1).f2), .string (⟨#[]⟩ : ByteArray)]) ?_ 3 _ rfl; (with_reducible repeat (first | refine blk_drewN ?_ _ | refine blk_drew ?_ | refine blk_alloc ?_ _)); refine blk_put (cs := #[.int .i64 ((rd_T42 l0 x4_1).f0), .int .i64 ((rd_T42 l0 x4_1).f1), .string (⟨#[]⟩ : ByteArray), .string (⟨#[]⟩ : ByteArray)]) ?_ 2 _ rfl; (with_reducible repeat (first | refine blk_drewN ?_ _ | refine blk_drew ?_ | refine blk_alloc ?_ _)); refine blk_put (cs := #[.int .i64 ((rd_T42 l0 x4_1).f0), .int .i64 0, .string (⟨#[]⟩ : ByteArray), .string (⟨#[]⟩ : ByteArray)]) ?_ 1 _ rfl; (with_reducible repeat (first | refine blk_drewN ?_ _ | refine blk_drew ?_ | refine blk_alloc ?_ _)); refine blk_put (cs := #[.int .i64 0, .int .i64 0, .string (⟨#[]⟩ : ByteArray), .string (⟨#[]⟩ : ByteArray)]) ?_ 0 _ rfl; (with_reducible repeat (first | refine blk_drewN ?_ _ | refine blk_drew ?_ | refine blk_alloc ?_ _)); exact BK277.out) hb); have n2_ := Aside0.mk (below_step zz8 hb); clear BK277; clear HB; have HO280 := n0_; have BK277 := n1_; have HB := n2_; clear n0_ n1_ n2_; clear hb ho33; have hcv34 := own_string (P := Tryd.prog) Tryd.underlying58 Tryd.underlying5 Tryd.underlying9 (Kd.own_of_R HO280.out); have hcz35_0 : w32.cell? ⟨gb277, 0, none⟩ = some (.int .i64 ((rd_T42 l0 x4_1).f0)) := (blk_cell BK277.out 0).trans rfl; have hcz35_1 : w32.cell? ⟨gb277, 1, none⟩ = some (.int .i64 ((rd_T42 l0 x4_1).f1)) := (blk_cell BK277.out 1).trans rfl; have hcz35_2 : w32.cell? ⟨gb277, 2, none⟩ = some (.string ((rd_T42 l0 x4_1).f2)) := (blk_cell BK277.out 2).trans rfl; have hcz35_3 : w32.cell? ⟨gb277, 3, none⟩ = some (.string ((rd_T42 l0 x4_1).f3)) := (blk_cell BK277.out 3).trans rfl; have hfz35_0 := blk_frozen BK277.out 0; have hfz35_1 := blk_frozen BK277.out 1; have hfz35_2 := blk_frozen BK277.out 2; have hfz35_3 := blk_frozen BK277.out 3) | ((with_reducible refine gate_callee (f := 12) rfl ?_); refine goesL_ (some 25) rfl rfl Tryd.func12 zz49 rfl #[.int .i64 ((rd_T42 l0 x4_1).f0)] rfl zz20 ?_; (with_reducible refine (fairwayref4_Kind.calls k1 ((rd_T42 l0 x4_1).f0) t281 _ A5.out).mono ?_); rintro e w' ⟨rfl, ⟨nd, rfl⟩⟩; refine ⟨_, rfl, ?_⟩) | ((with_reducible refine gate_callee (f := 33) rfl ?_); refine goesL_ (some 64) rfl rfl Tryd.func33 zz49 rfl #[.int .i64 ((rd_T42 l0 x4_1).f1), .int .i64 4] rfl zz20 ?_; (with_reducible refine (fairwayref1_Fixed.calls k1 ((rd_T42 l0 x4_1).f1) 4 t286 _ A28.out).mono ?_); rintro e w36 ⟨rfl, hb⟩; refine ⟨_, rfl, ?_⟩; have n0_ := Aside0.mk (Kd.R_below zz33 hb); have n1_ := Aside0.mk (blk_below (g := gb277) (o := .cells #[.int .i64 ((rd_T42 l0 x4_1).f0), .int .i64 ((rd_T42 l0 x4_1).f1), .string ((rd_T42 l0 x4_1).f2), .string ((rd_T42 l0 x4_1).f3)] 42 (0, 0)) zz23 hb); have n2_ := Aside0.mk (below_step zz8 hb); clear HO280; clear BK277; clear HB; have HO280 := n0_; have BK277 := n1_; have HB := n2_; clear n0_ n1_ n2_; (try clear hb); (try clear hb2); (try clear hk); (try clear hi)))
         go_roundg k1
         case measure => have := HK1.out; omega
         case rel => exact ⟨((x3_1 ++ (strOfNums y278)) ++ t286), (wrap64 (x4_1 + 1)), zz47, zz47, H', ⟨by have := HK1.out; omega⟩, ⟨zz8⟩⟩
        rw [if_neg c29] at H; exact absurd H (by simp)
       rw [if_neg c27] at H; have c27b0 : (t281 == 3) = false := beq_eq_false_iff_ne.mpr c27; have c27b1 : (t281 != 3) = true := bne_iff_ne.mpr c27; by_cases c37 : t281 = 4
       ·
        rw [if_pos c37] at H; have c37b0 : (t281 == 4) = true := beq_iff_eq.mpr c37; have c37b1 : (t281 != 4) = false := bne_eq_false_iff_eq.mpr c37; clear c37; replace H := Option.bind_eq_some_iff.mp H; obtain ⟨t287, A380, H⟩ := H; replace H : (if (x3_1 ++ (strOfNums y278)).size + t287.size ≤ 9223372036854775807 then (fairwayref4_PropBytes.l0 k1 l0 ((x3_1 ++ (strOfNums y278)) ++ t287) (wrap64 (x4_1 + 1))) else (none)) = some r := H; have A38 := Aside0.mk A380; clear A380; by_cases c39 : (x3_1 ++ (strOfNums y278)).size + t287.size ≤ 9223372036854775807
        ·
         rw [if_pos c39] at H; have c39b0 := eq_true c39; have c39b1 : decide ((x3_1 ++ (strOfNums y278)).size + t287.size ≤ 9223372036854775807) = true := decide_eq_true c39; try have c39b2 : (9223372036854775807 < (x3_1 ++ (strOfNums y278)).size + t287.size) = False := eq_false (Nat.not_lt.2 c39)
         (try (have c39b2_ := c39b2; simp only [ByteArray.size_append] at c39b2_))
         have H' := Aside0.mk H; clear H; have p276 : 0 ≤ (x4_1 : Int) := of_decide_eq_true zz46; have q276 : x4_1 < (l0.length : Int) := of_decide_eq_true zz46; obtain ⟨ad276, e276, hx276_0, hx276_1, hx276_2, hx276_3⟩ := at_T42 HR0.out x4_1 p276 q276; cases e276; replace hx276_0 := (HB.out.cell (World.block_lt_of_cell? w _ hx276_0)).trans hx276_0; replace hx276_1 := (HB.out.cell (World.block_lt_of_cell? w _ hx276_1)).trans hx276_1; replace hx276_2 := (HB.out.cell (World.block_lt_of_cell? w _ hx276_2)).trans hx276_2; replace hx276_3 := (HB.out.cell (World.block_lt_of_cell? w _ hx276_3)).trans hx276_3; replace p276 := eq_true p276; replace q276 := eq_true q276; go_wp2_with (first | ((with_reducible refine gate_dst (N := 5) rfl ?_); refine box_event ?hg (N := 5) ?hd (cs := #[.int .i64 0, .int .i64 0, .string (⟨#[]⟩ : ByteArray), .string (⟨#[]⟩ : ByteArray)]) (t := 42) ?hr ?_; (case hd => rfl); (case hg => rfl); (case hr => first | (go_simp; done) | (go_simp; rfl)); intro gb277 hg w40 hbox hb; have n0_ := Aside0.mk (below_step zz21 hb); have n1_ := Aside0.mk (hbox); have n2_ := Aside0.mk ((by rw [hg]; exact (below_size zz21) : w.heap.size ≤ gb277)); have n3_ := Aside0.mk ((by rw [hg]; exact (below_size zz21) : w.heap.size ≤ gb277)); clear HB; have HB := n0_; have BK277 := n1_; have GW277 := n2_; have GE277 := n3_; clear n0_ n1_ n2_ n3_; clear hb hbox hg; have hcz41_0 : w40.cell? ⟨gb277, 0, none⟩ = some (.int .i64 0) := (blk_cell BK277.out 0).trans rfl; have hcz41_1 : w40.cell? ⟨gb277, 1, none⟩ = some (.int .i64 0) := (blk_cell BK277.out 1).trans rfl; have hcz41_2 : w40.cell? ⟨gb277, 2, none⟩ = some (.string (⟨#[]⟩ : ByteArray)) := (blk_cell BK277.out 2).trans rfl; have hcz41_3 : w40.cell? ⟨gb277, 3, none⟩ = some (.string (⟨#[]⟩ : ByteArray)) := (blk_cell BK277.out 3).trans rfl; have hfz41_0 := blk_frozen BK277.out 0; have hfz41_1 := blk_frozen BK277.out 1; have hfz41_2 := blk_frozen BK277.out 2; have hfz41_3 := blk_frozen BK277.out 3) | ((with_reducible refine gate_dst (N := 20) rfl ?_); refine Kd.R_lit (Kd.int .u8) _ 5 ?hg (N := 20) ?hd (xs := ([((rd_T42 l0 x4_1).f0) % 256] : List Int)) (inner := [.int .u8 (((rd_T42 l0 x4_1).f0) % 256)]) (ok := fun _ => True) (okp := fun _ => True) ?hr ?hp (fun _ hk => hk) trivial (Below.refl _ _) (Nat.le_refl _) (by simp) ?_; (case hd => rfl); (case hg => rfl); (case hr => first | (go_simp; done) | (go_simp; rfl)); (case hp => exact (Reps.one (show Kd.M (Kd.int .u8) _ _ _ (((rd_T42 l0 x4_1).f0) % 256) [.int .u8 (((rd_T42 l0 x4_1).f0) % 256)] from rfl) (Reps.none _ _))); intro v279 w42 ho43 hb hg_ hnew_; clear hg_ hnew_; (first | rw [← Ny278.out] at ho43 | (simp only [Int.reduceToNat] at ho43; rw [← Ny278.out] at ho43)); have n0_ := Aside0.mk (Kd.R_lower ho43 (below_size zz8)); have n1_ := Aside0.mk (blk_below (g := gb277) (o := .cells #[.int .i64 ((rd_T42 l0 x4_1).f0), .int .i64 ((rd_T42 l0 x4_1).f1), .string ((rd_T42 l0 x4_1).f2), .string ((rd_T42 l0 x4_1).f3)] 42 (0, 0)) (by (with_reducible repeat (first | refine blk_drewN ?_ _ | refine blk_drew ?_ | refine blk_alloc ?_ _)); refine blk_put (cs := #[.int .i64 ((rd_T42 l0 x4_1).f0), .int .i64 ((rd_T42 l0 x4_1).f1), .string ((rd_T42 l0 x4_1).f2), .string (⟨#[]⟩ : ByteArray)]) ?_ 3 _ rfl; (with_reducible repeat (first | refine blk_drewN ?_ _ | refine blk_drew ?_ | refine blk_alloc ?_ _)); refine blk_put (cs := #[.int .i64 ((rd_T42 l0 x4_1).f0), .int .i64 ((rd_T42 l0 x4_1).f1), .string (⟨#[]⟩ : ByteArray), .string (⟨#[]⟩ : ByteArray)]) ?_ 2 _ rfl; (with_reducible repeat (first | refine blk_drewN ?_ _ | refine blk_drew ?_ | refine blk_alloc ?_ _)); refine blk_put (cs := #[.int .i64 ((rd_T42 l0 x4_1).f0), .int .i64 0, .string (⟨#[]⟩ : ByteArray), .string (⟨#[]⟩ : ByteArray)]) ?_ 1 _ rfl; (with_reducible repeat (first | refine blk_drewN ?_ _ | refine blk_drew ?_ | refine blk_alloc ?_ _)); refine blk_put (cs := #[.int .i64 0, .int .i64 0, .string (⟨#[]⟩ : ByteArray), .string (⟨#[]⟩ : ByteArray)]) ?_ 0 _ rfl; (with_reducible repeat (first | refine blk_drewN ?_ _ | refine blk_drew ?_ | refine blk_alloc ?_ _)); exact BK277.out) hb); have n2_ := Aside0.mk (below_step zz8 hb); clear BK277; clear HB; have HO280 := n0_; have BK277 := n1_; have HB := n2_; clear n0_ n1_ n2_; clear hb ho43; have hcv44 := own_string (P := Tryd.prog) Tryd.underlying58 Tryd.underlying5 Tryd.underlying9 (Kd.own_of_R HO280.out); have hcz45_0 : w42.cell? ⟨gb277, 0, none⟩ = some (.int .i64 ((rd_T42 l0 x4_1).f0)) := (blk_cell BK277.out 0).trans rfl; have hcz45_1 : w42.cell? ⟨gb277, 1, none⟩ = some (.int .i64 ((rd_T42 l0 x4_1).f1)) := (blk_cell BK277.out 1).trans rfl; have hcz45_2 : w42.cell? ⟨gb277, 2, none⟩ = some (.string ((rd_T42 l0 x4_1).f2)) := (blk_cell BK277.out 2).trans rfl; have hcz45_3 : w42.cell? ⟨gb277, 3, none⟩ = some (.string ((rd_T42 l0 x4_1).f3)) := (blk_cell BK277.out 3).trans rfl; have hfz45_0 := blk_frozen BK277.out 0; have hfz45_1 := blk_frozen BK277.out 1; have hfz45_2 := blk_frozen BK277.out 2; have hfz45_3 := blk_frozen BK277.out 3) | ((with_reducible refine gate_callee (f := 12) rfl ?_); refine goesL_ (some 25) rfl rfl Tryd.func12 zz49 rfl #[.int .i64 ((rd_T42 l0 x4_1).f0)] rfl zz20 ?_; (with_reducible refine (fairwayref4_Kind.calls k1 ((rd_T42 l0 x4_1).f0) t281 _ A5.out).mono ?_); rintro e w' ⟨rfl, ⟨nd, rfl⟩⟩; refine ⟨_, rfl, ?_⟩) | ((with_reducible refine gate_callee (f := 34) rfl ?_); refine goesL_ (some 71) rfl rfl Tryd.func34 zz49 rfl #[.int .i64 ((rd_T42 l0 x4_1).f1)] rfl zz20 ?_; (with_reducible refine (fairwayref1_Num.calls k1 ((rd_T42 l0 x4_1).f1) t287 _ A38.out).mono ?_); rintro e w46 ⟨rfl, hb⟩; refine ⟨_, rfl, ?_⟩; have n0_ := Aside0.mk (Kd.R_below zz33 hb); have n1_ := Aside0.mk (blk_below (g := gb277) (o := .cells #[.int .i64 ((rd_T42 l0 x4_1).f0), .int .i64 ((rd_T42 l0 x4_1).f1), .string ((rd_T42 l0 x4_1).f2), .string ((rd_T42 l0 x4_1).f3)] 42 (0, 0)) zz23 hb); have n2_ := Aside0.mk (below_step zz8 hb); clear HO280; clear BK277; clear HB; have HO280 := n0_; have BK277 := n1_; have HB := n2_; clear n0_ n1_ n2_; (try clear hb); (try clear hb2); (try clear hk); (try clear hi)))
         go_roundg k1
         case measure => have := HK1.out; omega
         case rel => exact ⟨((x3_1 ++ (strOfNums y278)) ++ t287), (wrap64 (x4_1 + 1)), zz47, zz47, H', ⟨by have := HK1.out; omega⟩, ⟨zz8⟩⟩
        rw [if_neg c39] at H; exact absurd H (by simp)
       rw [if_neg c37] at H; have c37b0 : (t281 == 4) = false := beq_eq_false_iff_ne.mpr c37; have c37b1 : (t281 != 4) = true := bne_iff_ne.mpr c37; have HC47 := Aside0.mk H; clear H; have p276 : 0 ≤ (x4_1 : Int) := of_decide_eq_true zz46; have q276 : x4_1 < (l0.length : Int) := of_decide_eq_true zz46; obtain ⟨ad276, e276, hx276_0, hx276_1, hx276_2, hx276_3⟩ := at_T42 HR0.out x4_1 p276 q276; cases e276; replace hx276_0 := (HB.out.cell (World.block_lt_of_cell? w _ hx276_0)).trans hx276_0; replace hx276_1 := (HB.out.cell (World.block_lt_of_cell? w _ hx276_1)).trans hx276_1; replace hx276_2 := (HB.out.cell (World.block_lt_of_cell? w _ hx276_2)).trans hx276_2; replace hx276_3 := (HB.out.cell (World.block_lt_of_cell? w _ hx276_3)).trans hx276_3; replace p276 := eq_true p276; replace q276 := eq_true q276; go_upto_if 73 with (first | ((with_reducible refine gate_dst (N := 5) rfl ?_); refine box_event ?hg (N := 5) ?hd (cs := #[.int .i64 0, .int .i64 0, .string (⟨#[]⟩ : ByteArray), .string (⟨#[]⟩ : ByteArray)]) (t := 42) ?hr ?_; (case hd => rfl); (case hg => rfl); (case hr => first | (go_simp; done) | (go_simp; rfl)); intro gb277 hg w48 hbox hb; have n0_ := Aside0.mk (below_step zz21 hb); have n1_ := Aside0.mk (hbox); have n2_ := Aside0.mk ((by rw [hg]; exact (below_size zz21) : w.heap.size ≤ gb277)); have n3_ := Aside0.mk ((by rw [hg]; exact (below_size zz21) : w.heap.size ≤ gb277)); clear HB; have HB := n0_; have BK277 := n1_; have GW277 := n2_; have GE277 := n3_; clear n0_ n1_ n2_ n3_; clear hb hbox hg; have hcz49_0 : w48.cell? ⟨gb277, 0, none⟩ = some (.int .i64 0) := (blk_cell BK277.out 0).trans rfl; have hcz49_1 : w48.cell? ⟨gb277, 1, none⟩ = some (.int .i64 0) := (blk_cell BK277.out 1).trans rfl; have hcz49_2 : w48.cell? ⟨gb277, 2, none⟩ = some (.string (⟨#[]⟩ : ByteArray)) := (blk_cell BK277.out 2).trans rfl; have hcz49_3 : w48.cell? ⟨gb277, 3, none⟩ = some (.string (⟨#[]⟩ : ByteArray)) := (blk_cell BK277.out 3).trans rfl; have hfz49_0 := blk_frozen BK277.out 0; have hfz49_1 := blk_frozen BK277.out 1; have hfz49_2 := blk_frozen BK277.out 2; have hfz49_3 := blk_frozen BK277.out 3) | ((with_reducible refine gate_dst (N := 20) rfl ?_); refine Kd.R_lit (Kd.int .u8) _ 5 ?hg (N := 20) ?hd (xs := ([((rd_T42 l0 x4_1).f0) % 256] : List Int)) (inner := [.int .u8 (((rd_T42 l0 x4_1).f0) % 256)]) (ok := fun _ => True) (okp := fun _ => True) ?hr ?hp (fun _ hk => hk) trivial (Below.refl _ _) (Nat.le_refl _) (by simp) ?_; (case hd => rfl); (case hg => rfl); (case hr => first | (go_simp; done) | (go_simp; rfl)); (case hp => exact (Reps.one (show Kd.M (Kd.int .u8) _ _ _ (((rd_T42 l0 x4_1).f0) % 256) [.int .u8 (((rd_T42 l0 x4_1).f0) % 256)] from rfl) (Reps.none _ _))); intro v279 w50 ho51 hb hg_ hnew_; clear hg_ hnew_; (first | rw [← Ny278.out] at ho51 | (simp only [Int.reduceToNat] at ho51; rw [← Ny278.out] at ho51)); have n0_ := Aside0.mk (Kd.R_lower ho51 (below_size zz8)); have n1_ := Aside0.mk (blk_below (g := gb277) (o := .cells #[.int .i64 ((rd_T42 l0 x4_1).f0), .int .i64 ((rd_T42 l0 x4_1).f1), .string ((rd_T42 l0 x4_1).f2), .string ((rd_T42 l0 x4_1).f3)] 42 (0, 0)) (by (with_reducible repeat (first | refine blk_drewN ?_ _ | refine blk_drew ?_ | refine blk_alloc ?_ _)); refine blk_put (cs := #[.int .i64 ((rd_T42 l0 x4_1).f0), .int .i64 ((rd_T42 l0 x4_1).f1), .string ((rd_T42 l0 x4_1).f2), .string (⟨#[]⟩ : ByteArray)]) ?_ 3 _ rfl; (with_reducible repeat (first | refine blk_drewN ?_ _ | refine blk_drew ?_ | refine blk_alloc ?_ _)); refine blk_put (cs := #[.int .i64 ((rd_T42 l0 x4_1).f0), .int .i64 ((rd_T42 l0 x4_1).f1), .string (⟨#[]⟩ : ByteArray), .string (⟨#[]⟩ : ByteArray)]) ?_ 2 _ rfl; (with_reducible repeat (first | refine blk_drewN ?_ _ | refine blk_drew ?_ | refine blk_alloc ?_ _)); refine blk_put (cs := #[.int .i64 ((rd_T42 l0 x4_1).f0), .int .i64 0, .string (⟨#[]⟩ : ByteArray), .string (⟨#[]⟩ : ByteArray)]) ?_ 1 _ rfl; (with_reducible repeat (first | refine blk_drewN ?_ _ | refine blk_drew ?_ | refine blk_alloc ?_ _)); refine blk_put (cs := #[.int .i64 0, .int .i64 0, .string (⟨#[]⟩ : ByteArray), .string (⟨#[]⟩ : ByteArray)]) ?_ 0 _ rfl; (with_reducible repeat (first | refine blk_drewN ?_ _ | refine blk_drew ?_ | refine blk_alloc ?_ _)); exact BK277.out) hb); have n2_ := Aside0.mk (below_step zz8 hb); clear BK277; clear HB; have HO280 := n0_; have BK277 := n1_; have HB := n2_; clear n0_ n1_ n2_; clear hb ho51; have hcv52 := own_string (P := Tryd.prog) Tryd.underlying58 Tryd.underlying5 Tryd.underlying9 (Kd.own_of_R HO280.out); have hcz53_0 : w50.cell? ⟨gb277, 0, none⟩ = some (.int .i64 ((rd_T42 l0 x4_1).f0)) := (blk_cell BK277.out 0).trans rfl; have hcz53_1 : w50.cell? ⟨gb277, 1, none⟩ = some (.int .i64 ((rd_T42 l0 x4_1).f1)) := (blk_cell BK277.out 1).trans rfl; have hcz53_2 : w50.cell? ⟨gb277, 2, none⟩ = some (.string ((rd_T42 l0 x4_1).f2)) := (blk_cell BK277.out 2).trans rfl; have hcz53_3 : w50.cell? ⟨gb277, 3, none⟩ = some (.string ((rd_T42 l0 x4_1).f3)) := (blk_cell BK277.out 3).trans rfl; have hfz53_0 := blk_frozen BK277.out 0; have hfz53_1 := blk_frozen BK277.out 1; have hfz53_2 := blk_frozen BK277.out 2; have hfz53_3 := blk_frozen BK277.out 3) | ((with_reducible refine gate_callee (f := 12) rfl ?_); refine goesL_ (some 25) rfl rfl Tryd.func12 zz49 rfl #[.int .i64 ((rd_T42 l0 x4_1).f0)] rfl zz20 ?_; (with_reducible refine (fairwayref4_Kind.calls k1 ((rd_T42 l0 x4_1).f0) t281 _ A5.out).mono ?_); rintro e w' ⟨rfl, ⟨nd, rfl⟩⟩; refine ⟨_, rfl, ?_⟩))
       (try simp only [Act.put, List.setIfInBounds_toArray, List.set_cons_zero, List.set_cons_succ])
       go_cut [73] (fun v73 wc => ∃ (kq : Nat) (x73_46 : Bool), v73 = .bool x73_46 ∧ Aside0 (fairwayref4_PropBytes.j1 kq l0 (x3_1 ++ (strOfNums y278)) x4_1 x73_46 ((rd_T42 l0 x4_1).f0) ((rd_T42 l0 x4_1).f1) ((rd_T42 l0 x4_1).f2) ((rd_T42 l0 x4_1).f3) = some r) ∧ Aside0 (kq ≤ k1) ∧ Aside0 (wc.heap[gb277]? = some (.cells #[.int .i64 ((rd_T42 l0 x4_1).f0), .int .i64 ((rd_T42 l0 x4_1).f1), .string ((rd_T42 l0 x4_1).f2), .string ((rd_T42 l0 x4_1).f3)] 42 (0, 0))) ∧ Aside0 (Below w.heap.size w wc))
       case first =>
        have H := HC47.out; clear HC47; by_cases c54 : t281 = 5
        ·
         rw [if_pos c54] at H; have c54b0 : (t281 == 5) = true := beq_iff_eq.mpr c54; have c54b1 : (t281 != 5) = false := bne_eq_false_iff_eq.mpr c54; clear c54; (first | rw [c54b0] | (simp only [i64_w, i32_w]; rw [c54b0]) | skip)
         have H' := Aside0.mk H; clear H; go_wp2
         go_meet
         case rel => exact ⟨_, ((t281 == 5)), zz47, H', ⟨zz45⟩, ⟨zz23⟩, ⟨zz8⟩⟩
        rw [if_neg c54] at H; have c54b0 : (t281 == 5) = false := beq_eq_false_iff_ne.mpr c54; have c54b1 : (t281 != 5) = true := bne_iff_ne.mpr c54; (first | rw [c54b0] | (simp only [i64_w, i32_w]; rw [c54b0]) | skip)
        have H' := Aside0.mk H; clear H; go_wp2
        go_meet
        case rel => exact ⟨_, ((t281 == 6)), zz47, H', ⟨zz45⟩, ⟨zz23⟩, ⟨zz8⟩⟩
       case rest =>
        as_aux_lemma =>
         clear HC47; (try clear c1); (try clear hcv1); (try clear c2); (try clear c2b0); (try clear p2); (try clear q2); (try clear hx2); (try clear hcv2); (try clear c3); (try clear c3b0); (try clear hcv3); (try clear c4); (try clear c4b0); (try clear c4b1); (try clear c4b2); (try clear hcv4); (try clear c5); (try clear hcv5); (try clear c6); (try clear c6b0); (try clear c6b1); (try clear p6); (try clear c7); (try clear c7b0); (try clear c7b1); (try clear c7b2); (try clear c12); (try clear hcv12); (try clear hcv16); (try clear c17); (try clear c17b0); (try clear c17b1); (try clear c19); (try clear c19b0); (try clear c19b1); (try clear c19b2); (try clear hcv24); (try clear c27); (try clear c27b0); (try clear c27b1); (try clear p27); (try clear q27); (try clear hx27); (try clear c29); (try clear c29b0); (try clear c29b1); (try clear c29b2); (try clear c33); (try clear c34); (try clear hcv34); (try clear c37); (try clear c37b0); (try clear c37b1); (try clear c39); (try clear c39b0); (try clear c39b1); (try clear c39b2); (try clear hcv44); (try clear hcv52); (try clear c54); (try clear c54b0); (try clear c54b1); (try clear hcz13_0); (try clear hcz13_1); (try clear hcz13_2); (try clear hcz13_3); (try clear hcz21_0); (try clear hcz21_1); (try clear hcz21_2); (try clear hcz21_3); (try clear hcz25_0); (try clear hcz25_1); (try clear hcz25_2); (try clear hcz25_3); (try clear hcz31_0); (try clear hcz31_1); (try clear hcz31_2); (try clear hcz31_3); (try clear hcz35_0); (try clear hcz35_1); (try clear hcz35_2); (try clear hcz35_3); (try clear hcz41_0); (try clear hcz41_1); (try clear hcz41_2); (try clear hcz41_3); (try clear hcz45_0); (try clear hcz45_1); (try clear hcz45_2); (try clear hcz45_3); (try clear hcz49_0); (try clear hcz49_1); (try clear hcz49_2); (try clear hcz49_3); (try clear hcz53_0); (try clear hcz53_1); (try clear hcz53_2); (try clear hcz53_3); (try clear hcz9_0); (try clear hcz9_1); (try clear hcz9_2); (try clear hcz9_3); (try clear hfz13_0); (try clear hfz13_1); (try clear hfz13_2); (try clear hfz13_3); (try clear hfz21_0); (try clear hfz21_1); (try clear hfz21_2); (try clear hfz21_3); (try clear hfz25_0); (try clear hfz25_1); (try clear hfz25_2); (try clear hfz25_3); (try clear hfz31_0); (try clear hfz31_1); (try clear hfz31_2); (try clear hfz31_3); (try clear hfz35_0); (try clear hfz35_1); (try clear hfz35_2); (try clear hfz35_3); (try clear hfz41_0); (try clear hfz41_1); (try clear hfz41_2); (try clear hfz41_3); (try clear hfz45_0); (try clear hfz45_1); (try clear hfz45_2); (try clear hfz45_3); (try clear hfz49_0); (try clear hfz49_1); (try clear hfz49_2); (try clear hfz49_3); (try clear hfz53_0); (try clear hfz53_1); (try clear hfz53_2); (try clear hfz53_3); (try clear hfz9_0); (try clear hfz9_1); (try clear hfz9_2); (try clear hfz9_3); (try clear hx276_0); (try clear hx276_1); (try clear hx276_2); (try clear hx276_3); (try clear p276); (try clear q276); obtain ⟨kq, x73_46, rfl, HA, HJ46, BK277, HB⟩ := hcut; cases kq with
         | zero => exact absurd HA.out (by simp [fairwayref4_PropBytes.j1])
         | succ kj46 =>
          have H := HA.out; clear HA; simp only [fairwayref4_PropBytes.j1] at H; by_cases c55 : x73_46 = true
          ·
           subst c55; have H1 : ((fairwayref1_Fixed.f kj46 (((rd_T42 l0 x4_1).f2).size : Int) 2).bind fun t288 => (if (x3_1 ++ (strOfNums y278)).size + t288.size ≤ 9223372036854775807 then (if ((x3_1 ++ (strOfNums y278)) ++ t288).size + ((rd_T42 l0 x4_1).f2).size ≤ 9223372036854775807 then (fairwayref4_PropBytes.l0 kj46 l0 (((x3_1 ++ (strOfNums y278)) ++ t288) ++ ((rd_T42 l0 x4_1).f2)) (wrap64 (x4_1 + 1))) else (none)) else (none))) = some r := by rw [if_pos rfl] at H; exact H
           clear H; have H := H1; clear H1; replace H := Option.bind_eq_some_iff.mp H; obtain ⟨t288, A560, H⟩ := H; replace H : (if (x3_1 ++ (strOfNums y278)).size + t288.size ≤ 9223372036854775807 then (if ((x3_1 ++ (strOfNums y278)) ++ t288).size + ((rd_T42 l0 x4_1).f2).size ≤ 9223372036854775807 then (fairwayref4_PropBytes.l0 kj46 l0 (((x3_1 ++ (strOfNums y278)) ++ t288) ++ ((rd_T42 l0 x4_1).f2)) (wrap64 (x4_1 + 1))) else (none)) else (none)) = some r := H; have A56 := Aside0.mk A560; clear A560; by_cases c57 : (x3_1 ++ (strOfNums y278)).size + t288.size ≤ 9223372036854775807
           ·
            rw [if_pos c57] at H; have c57b0 := eq_true c57; have c57b1 : decide ((x3_1 ++ (strOfNums y278)).size + t288.size ≤ 9223372036854775807) = true := decide_eq_true c57; try have c57b2 : (9223372036854775807 < (x3_1 ++ (strOfNums y278)).size + t288.size) = False := eq_false (Nat.not_lt.2 c57)
            (try (have c57b2_ := c57b2; simp only [ByteArray.size_append] at c57b2_))
            by_cases c58 : ((x3_1 ++ (strOfNums y278)) ++ t288).size + ((rd_T42 l0 x4_1).f2).size ≤ 9223372036854775807
            ·
             rw [if_pos c58] at H; have c58b0 := eq_true c58; have c58b1 : decide (((x3_1 ++ (strOfNums y278)) ++ t288).size + ((rd_T42 l0 x4_1).f2).size ≤ 9223372036854775807) = true := decide_eq_true c58; try have c58b2 : (9223372036854775807 < ((x3_1 ++ (strOfNums y278)) ++ t288).size + ((rd_T42 l0 x4_1).f2).size) = False := eq_false (Nat.not_lt.2 c58)
             (try (have c58b2_ := c58b2; simp only [ByteArray.size_append] at c58b2_))
             have H' := Aside0.mk H; clear H; try go_wp2
             have n0_ := Aside0.mk (blk_drew BK277.out); have n1_ := Aside0.mk (below_drew1 HB.out); clear BK277; clear HB; have BK277 := n0_; have HB := n1_; clear n0_ n1_; refine start_ (n := 10) (S := fun w' => w'.cell? ⟨gb277, 0, none⟩ = some (.int .i64 ((rd_T42 l0 x4_1).f0)) ∧ w'.cell? ⟨gb277, 1, none⟩ = some (.int .i64 ((rd_T42 l0 x4_1).f1)) ∧ w'.cell? ⟨gb277, 2, none⟩ = some (.string ((rd_T42 l0 x4_1).f2)) ∧ w'.cell? ⟨gb277, 3, none⟩ = some (.string ((rd_T42 l0 x4_1).f3))) (ds := []) #[false, false, false, false, false, false, false, false, false, false] zz49 rfl rfl ⟨(blk_cell BK277.out 0).trans rfl, (blk_cell BK277.out 1).trans rfl, (blk_cell BK277.out 2).trans rfl, (blk_cell BK277.out 3).trans rfl⟩ (fun hHeld => ?_); refine with_tabW fairwayref4_PropBytes.tab19 fairwayref4_PropBytes.bits19 (fun HT_ HW_ => ?_)
             generalize wc.drew = w59 at BK277 HB hHeld ⊢
             refine pure_ (i := 0) (N := some 76) (v := ?_) (a' := ?_) #[true, false, false, false, false, false, false, false, false, false] rfl rfl (any_of HT_.out zz49) (fun _ _ _ h => h) (Or.inl ⟨by rfl, ?_⟩) ?_ ?_
             rotate_left
             ·
              intro w'
              go_simp
              with_reducible rfl
             rotate_left
             ·
              simp only [Act.put, List.setIfInBounds_toArray, List.set_cons_zero, List.set_cons_succ, i64_w, i32_w]; rfl
             refine pure_ (i := 1) (N := some 77) (v := ?_) (a' := ?_) #[true, true, false, false, false, false, false, false, false, false] rfl rfl (any_of HT_.out zz49) (fun _ _ _ h => h) (Or.inl ⟨by rfl, ?_⟩) ?_ ?_
             rotate_left
             ·
              intro w'
              go_simp
              with_reducible rfl
             rotate_left
             ·
              simp only [Act.put, List.setIfInBounds_toArray, List.set_cons_zero, List.set_cons_succ, i64_w, i32_w]; rfl
             refine pure_ (i := 6) (N := some 82) (v := ?_) (a' := ?_) #[true, true, false, false, false, false, true, false, false, false] rfl rfl (any_of HT_.out zz49) (fun _ _ _ h => h) (Or.inl ⟨by rfl, ?_⟩) ?_ ?_
             rotate_left
             ·
              intro w'
              go_simp
              with_reducible rfl
             rotate_left
             ·
              simp only [Act.put, List.setIfInBounds_toArray, List.set_cons_zero, List.set_cons_succ, i64_w, i32_w]; rfl
             refine take_ (i := 2) (N := some 78) (v := ?_) (a' := ?_) #[true, true, true, false, false, false, true, false, false, false] rfl rfl (take_ofW HT_.out HW_.out zz49) (fun _ _ _ h => h) (Or.inl ⟨by rfl, ?_⟩) hHeld ?_ ?_
             rotate_left
             ·
              rintro w' ⟨s0, s1, s2, s3⟩
              go_simp
              with_reducible rfl
             rotate_left
             ·
              simp only [Act.put, List.setIfInBounds_toArray, List.set_cons_zero, List.set_cons_succ, i64_w, i32_w]; rfl
             refine pure_ (i := 3) (N := some 79) (v := ?_) (a' := ?_) #[true, true, true, true, false, false, true, false, false, false] rfl rfl (any_of HT_.out zz49) (fun _ _ _ h => h) (Or.inl ⟨by rfl, ?_⟩) ?_ ?_
             rotate_left
             ·
              intro w'
              go_simp
              with_reducible rfl
             rotate_left
             ·
              simp only [Act.put, List.setIfInBounds_toArray, List.set_cons_zero, List.set_cons_succ, i64_w, i32_w]; rfl
             refine take_ (i := 7) (N := some 83) (v := ?_) (a' := ?_) #[true, true, true, true, false, false, true, true, false, false] rfl rfl (take_ofW HT_.out HW_.out zz49) (fun _ _ _ h => h) (Or.inl ⟨by rfl, ?_⟩) hHeld ?_ ?_
             rotate_left
             ·
              rintro w' ⟨s0, s1, s2, s3⟩
              go_simp
              with_reducible rfl
             rotate_left
             ·
              simp only [Act.put, List.setIfInBounds_toArray, List.set_cons_zero, List.set_cons_succ, i64_w, i32_w]; rfl
             refine one_ (i := 4) (N := some 80) #[true, true, true, true, true, false, true, true, false, false] rfl rfl (one_of HT_.out zz49) (by decide) (fun K hK => ?_)
             refine goes_ Tryd.func33 zz49 rfl #[.int .i64 (((rd_T42 l0 x4_1).f2).size : Int), .int .i64 2] (by rfl) rfl rfl zz20 ?_
             with_reducible refine (fairwayref1_Fixed.calls kj46 (((rd_T42 l0 x4_1).f2).size : Int) 2 t288 _ A56.out).mono ?_
             rintro e w60 ⟨rfl, hb⟩
             refine ⟨_, rfl, ?_⟩
             have n0_ := Aside0.mk (blk_below (g := gb277) (o := .cells #[.int .i64 ((rd_T42 l0 x4_1).f0), .int .i64 ((rd_T42 l0 x4_1).f1), .string ((rd_T42 l0 x4_1).f2), .string ((rd_T42 l0 x4_1).f3)] 42 (0, 0)) zz23 hb); have n1_ := Aside0.mk (below_step zz8 hb); clear BK277; clear HB; have BK277 := n0_; have HB := n1_; clear n0_ n1_; (try clear hb)
             (try clear hb2)
             (try clear hk)
             (try clear hi)
             refine hK.out _ _ ⟨(blk_cell BK277.out 0).trans rfl, (blk_cell BK277.out 1).trans rfl, (blk_cell BK277.out 2).trans rfl, (blk_cell BK277.out 3).trans rfl⟩ (fun hHeld => ?_)
             clear hK K; refine norm_ (a' := ?_) ?_ ?_
             rotate_left
             ·
              show Act.put _ (some 80) _ = _
              simp only [Act.put, List.setIfInBounds_toArray, List.set_cons_zero, List.set_cons_succ, i64_w, i32_w]; rfl
             refine pure_ (i := 5) (N := some 81) (v := ?_) (a' := ?_) #[true, true, true, true, true, true, true, true, false, false] rfl rfl (any_of HT_.out zz49) (fun _ _ _ h => h) (Or.inl ⟨by rfl, ?_⟩) ?_ ?_
             rotate_left
             ·
              intro w'
              go_simp
              with_reducible rfl
             rotate_left
             ·
              simp only [Act.put, List.setIfInBounds_toArray, List.set_cons_zero, List.set_cons_succ, i64_w, i32_w]; rfl
             refine pure_ (i := 8) (N := some 84) (v := ?_) (a' := ?_) #[true, true, true, true, true, true, true, true, true, false] rfl rfl (any_of HT_.out zz49) (fun _ _ _ h => h) (Or.inl ⟨by rfl, ?_⟩) ?_ ?_
             rotate_left
             ·
              intro w'
              go_simp
              with_reducible rfl
             rotate_left
             ·
              simp only [Act.put, List.setIfInBounds_toArray, List.set_cons_zero, List.set_cons_succ, i64_w, i32_w]; rfl
             refine pure_ (i := 9) (N := some 3) (v := ?_) (a' := ?_) #[true, true, true, true, true, true, true, true, true, true] rfl rfl (any_of HT_.out zz49) (fun _ _ _ h => h) (Or.inl ⟨by rfl, ?_⟩) ?_ ?_
             rotate_left
             ·
              intro w'
              go_simp
              with_reducible rfl
             rotate_left
             ·
              simp only [Act.put, List.setIfInBounds_toArray, List.set_cons_zero, List.set_cons_succ, i64_w, i32_w]; rfl
             refine done_ (done_of HT_.out zz49) ?_
             try go_wp2
             go_roundg kj46
             case measure => have := HK1.out; have := HJ46.out; omega
             case rel => exact ⟨(((x3_1 ++ (strOfNums y278)) ++ t288) ++ ((rd_T42 l0 x4_1).f2)), (wrap64 (x4_1 + 1)), zz47, zz47, H', ⟨by have := HK1.out; have := HJ46.out; omega⟩, ⟨zz8⟩⟩
            rw [if_neg c58] at H; exact absurd H (by simp)
           rw [if_neg c57] at H; exact absurd H (by simp)
          replace c55 := Bool.eq_false_iff.mpr c55; subst c55; have H1 : ((fairwayref1_Fixed.f kj46 (((rd_T42 l0 x4_1).f2).size : Int) 2).bind fun t289 => (if (x3_1 ++ (strOfNums y278)).size + t289.size ≤ 9223372036854775807 then (if ((x3_1 ++ (strOfNums y278)) ++ t289).size + ((rd_T42 l0 x4_1).f2).size ≤ 9223372036854775807 then ((fairwayref1_Fixed.f kj46 (((rd_T42 l0 x4_1).f3).size : Int) 2).bind fun t290 => (if (((x3_1 ++ (strOfNums y278)) ++ t289) ++ ((rd_T42 l0 x4_1).f2)).size + t290.size ≤ 9223372036854775807 then (if ((((x3_1 ++ (strOfNums y278)) ++ t289) ++ ((rd_T42 l0 x4_1).f2)) ++ t290).size + ((rd_T42 l0 x4_1).f3).size ≤ 9223372036854775807 then (fairwayref4_PropBytes.l0 kj46 l0 (((((x3_1 ++ (strOfNums y278)) ++ t289) ++ ((rd_T42 l0 x4_1).f2)) ++ t290) ++ ((rd_T42 l0 x4_1).f3)) (wrap64 (x4_1 + 1))) else (none)) else (none))) else (none)) else (none))) = some r := by rw [if_neg (show ¬ (false = true) by decide)] at H; exact H
          clear H; have H := H1; clear H1; replace H := Option.bind_eq_some_iff.mp H; obtain ⟨t289, A610, H⟩ := H; replace H : (if (x3_1 ++ (strOfNums y278)).size + t289.size ≤ 9223372036854775807 then (if ((x3_1 ++ (strOfNums y278)) ++ t289).size + ((rd_T42 l0 x4_1).f2).size ≤ 9223372036854775807 then ((fairwayref1_Fixed.f kj46 (((rd_T42 l0 x4_1).f3).size : Int) 2).bind fun t290 => (if (((x3_1 ++ (strOfNums y278)) ++ t289) ++ ((rd_T42 l0 x4_1).f2)).size + t290.size ≤ 9223372036854775807 then (if ((((x3_1 ++ (strOfNums y278)) ++ t289) ++ ((rd_T42 l0 x4_1).f2)) ++ t290).size + ((rd_T42 l0 x4_1).f3).size ≤ 9223372036854775807 then (fairwayref4_PropBytes.l0 kj46 l0 (((((x3_1 ++ (strOfNums y278)) ++ t289) ++ ((rd_T42 l0 x4_1).f2)) ++ t290) ++ ((rd_T42 l0 x4_1).f3)) (wrap64 (x4_1 + 1))) else (none)) else (none))) else (none)) else (none)) = some r := H; have A61 := Aside0.mk A610; clear A610; by_cases c62 : (x3_1 ++ (strOfNums y278)).size + t289.size ≤ 9223372036854775807
          ·
           rw [if_pos c62] at H; have c62b0 := eq_true c62; have c62b1 : decide ((x3_1 ++ (strOfNums y278)).size + t289.size ≤ 9223372036854775807) = true := decide_eq_true c62; try have c62b2 : (9223372036854775807 < (x3_1 ++ (strOfNums y278)).size + t289.size) = False := eq_false (Nat.not_lt.2 c62)
           (try (have c62b2_ := c62b2; simp only [ByteArray.size_append] at c62b2_))
           by_cases c63 : ((x3_1 ++ (strOfNums y278)) ++ t289).size + ((rd_T42 l0 x4_1).f2).size ≤ 9223372036854775807
           ·
            rw [if_pos c63] at H; have c63b0 := eq_true c63; have c63b1 : decide (((x3_1 ++ (strOfNums y278)) ++ t289).size + ((rd_T42 l0 x4_1).f2).size ≤ 9223372036854775807) = true := decide_eq_true c63; try have c63b2 : (9223372036854775807 < ((x3_1 ++ (strOfNums y278)) ++ t289).size + ((rd_T42 l0 x4_1).f2).size) = False := eq_false (Nat.not_lt.2 c63)
            (try (have c63b2_ := c63b2; simp only [ByteArray.size_append] at c63b2_))
            replace H := Option.bind_eq_some_iff.mp H; obtain ⟨t290, A640, H⟩ := H; replace H : (if (((x3_1 ++ (strOfNums y278)) ++ t289) ++ ((rd_T42 l0 x4_1).f2)).size + t290.size ≤ 9223372036854775807 then (if ((((x3_1 ++ (strOfNums y278)) ++ t289) ++ ((rd_T42 l0 x4_1).f2)) ++ t290).size + ((rd_T42 l0 x4_1).f3).size ≤ 9223372036854775807 then (fairwayref4_PropBytes.l0 kj46 l0 (((((x3_1 ++ (strOfNums y278)) ++ t289) ++ ((rd_T42 l0 x4_1).f2)) ++ t290) ++ ((rd_T42 l0 x4_1).f3)) (wrap64 (x4_1 + 1))) else (none)) else (none)) = some r := H; have A64 := Aside0.mk A640; clear A640; by_cases c65 : (((x3_1 ++ (strOfNums y278)) ++ t289) ++ ((rd_T42 l0 x4_1).f2)).size + t290.size ≤ 9223372036854775807
            ·
             rw [if_pos c65] at H; have c65b0 := eq_true c65; have c65b1 : decide ((((x3_1 ++ (strOfNums y278)) ++ t289) ++ ((rd_T42 l0 x4_1).f2)).size + t290.size ≤ 9223372036854775807) = true := decide_eq_true c65; try have c65b2 : (9223372036854775807 < (((x3_1 ++ (strOfNums y278)) ++ t289) ++ ((rd_T42 l0 x4_1).f2)).size + t290.size) = False := eq_false (Nat.not_lt.2 c65)
             (try (have c65b2_ := c65b2; simp only [ByteArray.size_append] at c65b2_))
             by_cases c66 : ((((x3_1 ++ (strOfNums y278)) ++ t289) ++ ((rd_T42 l0 x4_1).f2)) ++ t290).size + ((rd_T42 l0 x4_1).f3).size ≤ 9223372036854775807
             ·
              rw [if_pos c66] at H; have c66b0 := eq_true c66; have c66b1 : decide (((((x3_1 ++ (strOfNums y278)) ++ t289) ++ ((rd_T42 l0 x4_1).f2)) ++ t290).size + ((rd_T42 l0 x4_1).f3).size ≤ 9223372036854775807) = true := decide_eq_true c66; try have c66b2 : (9223372036854775807 < ((((x3_1 ++ (strOfNums y278)) ++ t289) ++ ((rd_T42 l0 x4_1).f2)) ++ t290).size + ((rd_T42 l0 x4_1).f3).size) = False := eq_false (Nat.not_lt.2 c66)
              (try (have c66b2_ := c66b2; simp only [ByteArray.size_append] at c66b2_))
              have H' := Aside0.mk H; clear H; try go_wp2
              have n0_ := Aside0.mk (blk_drew BK277.out); have n1_ := Aside0.mk (below_drew1 HB.out); clear BK277; clear HB; have BK277 := n0_; have HB := n1_; clear n0_ n1_; refine start_ (n := 18) (S := fun w' => w'.cell? ⟨gb277, 0, none⟩ = some (.int .i64 ((rd_T42 l0 x4_1).f0)) ∧ w'.cell? ⟨gb277, 1, none⟩ = some (.int .i64 ((rd_T42 l0 x4_1).f1)) ∧ w'.cell? ⟨gb277, 2, none⟩ = some (.string ((rd_T42 l0 x4_1).f2)) ∧ w'.cell? ⟨gb277, 3, none⟩ = some (.string ((rd_T42 l0 x4_1).f3))) (ds := []) #[false, false, false, false, false, false, false, false, false, false, false, false, false, false, false, false, false, false] zz49 rfl rfl ⟨(blk_cell BK277.out 0).trans rfl, (blk_cell BK277.out 1).trans rfl, (blk_cell BK277.out 2).trans rfl, (blk_cell BK277.out 3).trans rfl⟩ (fun hHeld => ?_); refine with_tabW fairwayref4_PropBytes.tab8 fairwayref4_PropBytes.bits8 (fun HT_ HW_ => ?_)
              generalize wc.drew = w67 at BK277 HB hHeld ⊢
              refine pure_ (i := 0) (N := some 26) (v := ?_) (a' := ?_) #[true, false, false, false, false, false, false, false, false, false, false, false, false, false, false, false, false, false] rfl rfl (any_of HT_.out zz49) (fun _ _ _ h => h) (Or.inl ⟨by rfl, ?_⟩) ?_ ?_
              rotate_left
              ·
               intro w'
               go_simp
               with_reducible rfl
              rotate_left
              ·
               simp only [Act.put, List.setIfInBounds_toArray, List.set_cons_zero, List.set_cons_succ, i64_w, i32_w]; rfl
              refine pure_ (i := 1) (N := some 27) (v := ?_) (a' := ?_) #[true, true, false, false, false, false, false, false, false, false, false, false, false, false, false, false, false, false] rfl rfl (any_of HT_.out zz49) (fun _ _ _ h => h) (Or.inl ⟨by rfl, ?_⟩) ?_ ?_
              rotate_left
              ·
               intro w'
               go_simp
               with_reducible rfl
              rotate_left
              ·
               simp only [Act.put, List.setIfInBounds_toArray, List.set_cons_zero, List.set_cons_succ, i64_w, i32_w]; rfl
              refine pure_ (i := 6) (N := some 32) (v := ?_) (a' := ?_) #[true, true, false, false, false, false, true, false, false, false, false, false, false, false, false, false, false, false] rfl rfl (any_of HT_.out zz49) (fun _ _ _ h => h) (Or.inl ⟨by rfl, ?_⟩) ?_ ?_
              rotate_left
              ·
               intro w'
               go_simp
               with_reducible rfl
              rotate_left
              ·
               simp only [Act.put, List.setIfInBounds_toArray, List.set_cons_zero, List.set_cons_succ, i64_w, i32_w]; rfl
              refine pure_ (i := 9) (N := some 35) (v := ?_) (a' := ?_) #[true, true, false, false, false, false, true, false, false, true, false, false, false, false, false, false, false, false] rfl rfl (any_of HT_.out zz49) (fun _ _ _ h => h) (Or.inl ⟨by rfl, ?_⟩) ?_ ?_
              rotate_left
              ·
               intro w'
               go_simp
               with_reducible rfl
              rotate_left
              ·
               simp only [Act.put, List.setIfInBounds_toArray, List.set_cons_zero, List.set_cons_succ, i64_w, i32_w]; rfl
              refine pure_ (i := 14) (N := some 40) (v := ?_) (a' := ?_) #[true, true, false, false, false, false, true, false, false, true, false, false, false, false, true, false, false, false] rfl rfl (any_of HT_.out zz49) (fun _ _ _ h => h) (Or.inl ⟨by rfl, ?_⟩) ?_ ?_
              rotate_left
              ·
               intro w'
               go_simp
               with_reducible rfl
              rotate_left
              ·
               simp only [Act.put, List.setIfInBounds_toArray, List.set_cons_zero, List.set_cons_succ, i64_w, i32_w]; rfl
              refine take_ (i := 2) (N := some 28) (v := ?_) (a' := ?_) #[true, true, true, false, false, false, true, false, false, true, false, false, false, false, true, false, false, false] rfl rfl (take_ofW HT_.out HW_.out zz49) (fun _ _ _ h => h) (Or.inl ⟨by rfl, ?_⟩) hHeld ?_ ?_
              rotate_left
              ·
               rintro w' ⟨s0, s1, s2, s3⟩
               go_simp
               with_reducible rfl
              rotate_left
              ·
               simp only [Act.put, List.setIfInBounds_toArray, List.set_cons_zero, List.set_cons_succ, i64_w, i32_w]; rfl
              refine pure_ (i := 3) (N := some 29) (v := ?_) (a' := ?_) #[true, true, true, true, false, false, true, false, false, true, false, false, false, false, true, false, false, false] rfl rfl (any_of HT_.out zz49) (fun _ _ _ h => h) (Or.inl ⟨by rfl, ?_⟩) ?_ ?_
              rotate_left
              ·
               intro w'
               go_simp
               with_reducible rfl
              rotate_left
              ·
               simp only [Act.put, List.setIfInBounds_toArray, List.set_cons_zero, List.set_cons_succ, i64_w, i32_w]; rfl
              refine take_ (i := 7) (N := some 33) (v := ?_) (a' := ?_) #[true, true, true, true, false, false, true, true, false, true, false, false, false, false, true, false, false, false] rfl rfl (take_ofW HT_.out HW_.out zz49) (fun _ _ _ h => h) (Or.inl ⟨by rfl, ?_⟩) hHeld ?_ ?_
              rotate_left
              ·
               rintro w' ⟨s0, s1, s2, s3⟩
               go_simp
               with_reducible rfl
              rotate_left
              ·
               simp only [Act.put, List.setIfInBounds_toArray, List.set_cons_zero, List.set_cons_succ, i64_w, i32_w]; rfl
              refine take_ (i := 10) (N := some 36) (v := ?_) (a' := ?_) #[true, true, true, true, false, false, true, true, false, true, true, false, false, false, true, false, false, false] rfl rfl (take_ofW HT_.out HW_.out zz49) (fun _ _ _ h => h) (Or.inl ⟨by rfl, ?_⟩) hHeld ?_ ?_
              rotate_left
              ·
               rintro w' ⟨s0, s1, s2, s3⟩
               go_simp
               with_reducible rfl
              rotate_left
              ·
               simp only [Act.put, List.setIfInBounds_toArray, List.set_cons_zero, List.set_cons_succ, i64_w, i32_w]; rfl
              refine pure_ (i := 11) (N := some 37) (v := ?_) (a' := ?_) #[true, true, true, true, false, false, true, true, false, true, true, true, false, false, true, false, false, false] rfl rfl (any_of HT_.out zz49) (fun _ _ _ h => h) (Or.inl ⟨by rfl, ?_⟩) ?_ ?_
              rotate_left
              ·
               intro w'
               go_simp
               with_reducible rfl
              rotate_left
              ·
               simp only [Act.put, List.setIfInBounds_toArray, List.set_cons_zero, List.set_cons_succ, i64_w, i32_w]; rfl
              refine take_ (i := 15) (N := some 41) (v := ?_) (a' := ?_) #[true, true, true, true, false, false, true, true, false, true, true, true, false, false, true, true, false, false] rfl rfl (take_ofW HT_.out HW_.out zz49) (fun _ _ _ h => h) (Or.inl ⟨by rfl, ?_⟩) hHeld ?_ ?_
              rotate_left
              ·
               rintro w' ⟨s0, s1, s2, s3⟩
               go_simp
               with_reducible rfl
              rotate_left
              ·
               simp only [Act.put, List.setIfInBounds_toArray, List.set_cons_zero, List.set_cons_succ, i64_w, i32_w]; rfl
              refine one_ (i := 4) (N := some 30) #[true, true, true, true, true, false, true, true, false, true, true, true, false, false, true, true, false, false] rfl rfl (one_of HT_.out zz49) (by decide) (fun K hK => ?_)
              refine goes_ Tryd.func33 zz49 rfl #[.int .i64 (((rd_T42 l0 x4_1).f2).size : Int), .int .i64 2] (by rfl) rfl rfl zz20 ?_
              with_reducible refine (fairwayref1_Fixed.calls kj46 (((rd_T42 l0 x4_1).f2).size : Int) 2 t289 _ A61.out).mono ?_
              rintro e w68 ⟨rfl, hb⟩
              refine ⟨_, rfl, ?_⟩
              have n0_ := Aside0.mk (blk_below (g := gb277) (o := .cells #[.int .i64 ((rd_T42 l0 x4_1).f0), .int .i64 ((rd_T42 l0 x4_1).f1), .string ((rd_T42 l0 x4_1).f2), .string ((rd_T42 l0 x4_1).f3)] 42 (0, 0)) zz23 hb); have n1_ := Aside0.mk (below_step zz8 hb); clear BK277; clear HB; have BK277 := n0_; have HB := n1_; clear n0_ n1_; (try clear hb)
              (try clear hb2)
              (try clear hk)
              (try clear hi)
              refine hK.out _ _ ⟨(blk_cell BK277.out 0).trans rfl, (blk_cell BK277.out 1).trans rfl, (blk_cell BK277.out 2).trans rfl, (blk_cell BK277.out 3).trans rfl⟩ (fun hHeld => ?_)
              clear hK K; refine norm_ (a' := ?_) ?_ ?_
              rotate_left
              ·
               show Act.put _ (some 30) _ = _
               simp only [Act.put, List.setIfInBounds_toArray, List.set_cons_zero, List.set_cons_succ, i64_w, i32_w]; rfl
              refine pure_ (i := 5) (N := some 31) (v := ?_) (a' := ?_) #[true, true, true, true, true, true, true, true, false, true, true, true, false, false, true, true, false, false] rfl rfl (any_of HT_.out zz49) (fun _ _ _ h => h) (Or.inl ⟨by rfl, ?_⟩) ?_ ?_
              rotate_left
              ·
               intro w'
               go_simp
               with_reducible rfl
              rotate_left
              ·
               simp only [Act.put, List.setIfInBounds_toArray, List.set_cons_zero, List.set_cons_succ, i64_w, i32_w]; rfl
              refine pure_ (i := 8) (N := some 34) (v := ?_) (a' := ?_) #[true, true, true, true, true, true, true, true, true, true, true, true, false, false, true, true, false, false] rfl rfl (any_of HT_.out zz49) (fun _ _ _ h => h) (Or.inl ⟨by rfl, ?_⟩) ?_ ?_
              rotate_left
              ·
               intro w'
               go_simp
               with_reducible rfl
              rotate_left
              ·
               simp only [Act.put, List.setIfInBounds_toArray, List.set_cons_zero, List.set_cons_succ, i64_w, i32_w]; rfl
              refine one_ (i := 12) (N := some 38) #[true, true, true, true, true, true, true, true, true, true, true, true, true, false, true, true, false, false] rfl rfl (one_of HT_.out zz49) (by decide) (fun K hK => ?_)
              refine goes_ Tryd.func33 zz49 rfl #[.int .i64 (((rd_T42 l0 x4_1).f3).size : Int), .int .i64 2] (by rfl) rfl rfl zz20 ?_
              with_reducible refine (fairwayref1_Fixed.calls kj46 (((rd_T42 l0 x4_1).f3).size : Int) 2 t290 _ A64.out).mono ?_
              rintro e w69 ⟨rfl, hb⟩
              refine ⟨_, rfl, ?_⟩
              have n0_ := Aside0.mk (blk_below (g := gb277) (o := .cells #[.int .i64 ((rd_T42 l0 x4_1).f0), .int .i64 ((rd_T42 l0 x4_1).f1), .string ((rd_T42 l0 x4_1).f2), .string ((rd_T42 l0 x4_1).f3)] 42 (0, 0)) zz23 hb); have n1_ := Aside0.mk (below_step zz8 hb); clear BK277; clear HB; have BK277 := n0_; have HB := n1_; clear n0_ n1_; (try clear hb)
              (try clear hb2)
              (try clear hk)
              (try clear hi)
              refine hK.out _ _ ⟨(blk_cell BK277.out 0).trans rfl, (blk_cell BK277.out 1).trans rfl, (blk_cell BK277.out 2).trans rfl, (blk_cell BK277.out 3).trans rfl⟩ (fun hHeld => ?_)
              clear hK K; refine norm_ (a' := ?_) ?_ ?_
              rotate_left
              ·
               show Act.put _ (some 38) _ = _
               simp only [Act.put, List.setIfInBounds_toArray, List.set_cons_zero, List.set_cons_succ, i64_w, i32_w]; rfl
              refine pure_ (i := 13) (N := some 39) (v := ?_) (a' := ?_) #[true, true, true, true, true, true, true, true, true, true, true, true, true, true, true, true, false, false] rfl rfl (any_of HT_.out zz49) (fun _ _ _ h => h) (Or.inl ⟨by rfl, ?_⟩) ?_ ?_
              rotate_left
              ·
               intro w'
               go_simp
               with_reducible rfl
              rotate_left
              ·
               simp only [Act.put, List.setIfInBounds_toArray, List.set_cons_zero, List.set_cons_succ, i64_w, i32_w]; rfl
              refine pure_ (i := 16) (N := some 42) (v := ?_) (a' := ?_) #[true, true, true, true, true, true, true, true, true, true, true, true, true, true, true, true, true, false] rfl rfl (any_of HT_.out zz49) (fun _ _ _ h => h) (Or.inl ⟨by rfl, ?_⟩) ?_ ?_
              rotate_left
              ·
               intro w'
               go_simp
               with_reducible rfl
              rotate_left
              ·
               simp only [Act.put, List.setIfInBounds_toArray, List.set_cons_zero, List.set_cons_succ, i64_w, i32_w]; rfl
              refine pure_ (i := 17) (N := some 3) (v := ?_) (a' := ?_) #[true, true, true, true, true, true, true, true, true, true, true, true, true, true, true, true, true, true] rfl rfl (any_of HT_.out zz49) (fun _ _ _ h => h) (Or.inl ⟨by rfl, ?_⟩) ?_ ?_
              rotate_left
              ·
               intro w'
               go_simp
               with_reducible rfl
              rotate_left
              ·
               simp only [Act.put, List.setIfInBounds_toArray, List.set_cons_zero, List.set_cons_succ, i64_w, i32_w]; rfl
              refine done_ (done_of HT_.out zz49) ?_
              try go_wp2
              go_roundg kj46
              case measure => have := HK1.out; have := HJ46.out; omega
              case rel => exact ⟨(((((x3_1 ++ (strOfNums y278)) ++ t289) ++ ((rd_T42 l0 x4_1).f2)) ++ t290) ++ ((rd_T42 l0 x4_1).f3)), (wrap64 (x4_1 + 1)), zz47, zz47, H', ⟨by have := HK1.out; have := HJ46.out; omega⟩, ⟨zz8⟩⟩
             rw [if_neg c66] at H; exact absurd H (by simp)
            rw [if_neg c65] at H; exact absurd H (by simp)
           rw [if_neg c63] at H; exact absurd H (by simp)
          rw [if_neg c62] at H; exact absurd H (by simp)
      rw [if_neg c4] at H; exact absurd H (by simp)
     rw [if_neg c3] at H; exact absurd H (by simp)
    rw [if_neg c2] at H; have c2b0 : decide (x4_1 < (l0.length : Int)) = false := decide_eq_false c2; clear c2; replace H := Option.bind_eq_some_iff.mp H; obtain ⟨t275, A700, H⟩ := H; replace H : (if t275.size + x3_1.size ≤ 9223372036854775807 then (some (t275 ++ x3_1)) else (none)) = some r := H; have A70 := Aside0.mk A700; clear A700; by_cases c71 : t275.size + x3_1.size ≤ 9223372036854775807
    ·
     rw [if_pos c71] at H; have c71b0 := eq_true c71; have c71b1 : decide (t275.size + x3_1.size ≤ 9223372036854775807) = true := decide_eq_true c71; try have c71b2 : (9223372036854775807 < t275.size + x3_1.size) = False := eq_false (Nat.not_lt.2 c71)
     obtain rfl := Option.some.inj H; go_wp2_with (first | ((with_reducible refine gate_callee (f := 34) rfl ?_); refine goesL_ (some 87) rfl rfl Tryd.func34 zz49 rfl #[.int .i64 (x3_1.size : Int)] rfl zz20 ?_; (with_reducible refine (fairwayref1_Num.calls k1 (x3_1.size : Int) t275 _ A70.out).mono ?_); rintro e w72 ⟨rfl, hb⟩; refine ⟨_, rfl, ?_⟩; have n0_ := Aside0.mk (below_step zz21 hb); clear HB; have HB := n0_; clear n0_; (try clear hb); (try clear hb2); (try clear hk); (try clear hi)))
     go_ret
     exact ⟨zz40, zz21⟩
    rw [if_neg c71] at H; exact absurd H (by simp)
end Go.Proofs.YtiancopplinpcaaDoor.P
end
section
namespace Go.Proofs.YtiancopplinpcaaDoor.P
open Go.RowKit Go.Proofs.YtiancopplinpcaaDoorW.PrintWords Go.Proofs.YtiancopplinpcaaDoorW.PrintLast Go.Proofs.YtiancopplinpcaaDoorW.PrintMore
attribute [local go_sem] max2_int min2_int max_two min_two max_three min_three max_four min_four
set_option linter.unusedVariables false
set_option linter.unusedSimpArgs false
theorem eqA42 (d : Nat) (w : World) (x0 y0 : Int) (x1 y1 : Int) (x2 y2 : ByteArray) (x3 y3 : ByteArray) :
  (Op.equalIn (d + 2) 42 (.agg #[.int .i64 x0, .int .i64 x1, .string x2, .string x3]) (.agg #[.int .i64 y0, .int .i64 y1, .string y2, .string y3])).run Tryd.prog w = .ok (x0 == y0 && (x1 == y1 && (x2.toList == y2.toList && (x3.toList == y3.toList)))) w := by
 refine eqA_of Tryd.underlying42 zz49 ?_
 refine eqf_cons (by rfl) (by go_simp; rfl) (by go_simp; rfl) (by go_simp) ?_
 refine eqf_cons (by rfl) (by go_simp; rfl) (by go_simp; rfl) (by go_simp) ?_
 refine eqf_cons (by rfl) (by go_simp; rfl) (by go_simp; rfl) (by go_simp) ?_
 exact eqf_last (by rfl) (by go_simp; rfl) (by go_simp; rfl) (by go_simp)
end Go.Proofs.YtiancopplinpcaaDoor.P
end
section
namespace Go.Proofs.YtiancopplinpcaaDoor.P
open Go.RowKit Go.Proofs.YtiancopplinpcaaDoorW.PrintWords Go.Proofs.YtiancopplinpcaaDoorW.PrintLast Go.Proofs.YtiancopplinpcaaDoorW.PrintMore
set_option linter.unusedVariables false
set_option linter.unusedSimpArgs false
noncomputable def prop_Kind.fL (a0 : Int) : Option (Int × Int) := lim fun k => prop_Kind.f k a0
end Go.Proofs.YtiancopplinpcaaDoor.P
end
section
namespace Go.Proofs.YtiancopplinpcaaDoor.P
open Go.RowKit Go.Proofs.YtiancopplinpcaaDoorW.PrintWords Go.Proofs.YtiancopplinpcaaDoorW.PrintLast Go.Proofs.YtiancopplinpcaaDoorW.PrintMore
set_option linter.unusedVariables false
set_option linter.unusedSimpArgs false
noncomputable def prop_stands.fL (a0 : Int) : Option (List Int × Bool) := lim fun k => prop_stands.f k a0
end Go.Proofs.YtiancopplinpcaaDoor.P
end
section
namespace Go.Proofs.YtiancopplinpcaaDoor.P
open Go.RowKit Go.Proofs.YtiancopplinpcaaDoorW.PrintWords Go.Proofs.YtiancopplinpcaaDoorW.PrintLast Go.Proofs.YtiancopplinpcaaDoorW.PrintMore
set_option linter.unusedVariables false
set_option linter.unusedSimpArgs false
noncomputable def fairwayref4_Kind.fL (a0 : Int) : Option (Int) := lim fun k => fairwayref4_Kind.f k a0
end Go.Proofs.YtiancopplinpcaaDoor.P
end
section
namespace Go.Proofs.YtiancopplinpcaaDoor.P
open Go.RowKit Go.Proofs.YtiancopplinpcaaDoorW.PrintWords Go.Proofs.YtiancopplinpcaaDoorW.PrintLast Go.Proofs.YtiancopplinpcaaDoorW.PrintMore
set_option linter.unusedVariables false
set_option linter.unusedSimpArgs false
noncomputable def fairwayref4_PropBytes.fL (l0 : List (S42)) : Option (ByteArray) := lim fun k => fairwayref4_PropBytes.f k l0
end Go.Proofs.YtiancopplinpcaaDoor.P
end
