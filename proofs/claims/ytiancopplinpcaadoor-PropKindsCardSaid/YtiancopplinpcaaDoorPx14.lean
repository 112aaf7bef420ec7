-- PRINTED by print.py (a twelfth state) out of the translation. Not trusted: Lean checks it.
import Derived.Test.YtiancopplinpcaaDoorPx0
import Derived.Test.YtiancopplinpcaaDoorPx12
import Derived.Test.YtiancopplinpcaaDoorPx13
namespace Go.Proofs.YtiancopplinpcaaDoor.P
open Go.RowKit Go.Proofs.YtiancopplinpcaaDoorW.PrintWords Go.Proofs.YtiancopplinpcaaDoorW.PrintLast Go.Proofs.YtiancopplinpcaaDoorW.PrintMore
attribute [local go_sem] max2_int min2_int max_two min_two max_three min_three max_four min_four   -- for this text's walks alone
set_option linter.unusedVariables false
set_option linter.unusedSimpArgs false

/-! ### fairwayref1_Text: function 44 -/
def fairwayref1_Text.l0 : Nat → ByteArray → Option (Int)
  | 0, _ => none
  | k + 1, x0 => if (x0.size : Int) > 0 then ((fairwayref1_point.f k x0).bind fun bt281 => (if bt281.2 = 0 then (some 8) else (if 0 ≤ bt281.2 then (if bt281.2 ≤ (x0.size : Int) then (fairwayref1_Text.l0 k (x0.extract (bt281.2 : Int).toNat x0.size)) else (none)) else (none)))) else (some 0)
def fairwayref1_Text.f (k : Nat) (a0 : ByteArray) : Option (Int) := if (a0.size : Int) > 1024 then (some 2) else (fairwayref1_Text.l0 k a0)
theorem fairwayref1_Text.mono_l : ∀ k, (∀ y0, LeO (fairwayref1_Text.l0 k y0) (fairwayref1_Text.l0 (k + 1) y0))
 | 0 => fun _ r h => by simp [fairwayref1_Text.l0] at h
 | k + 1 => by
  have ih0 := fairwayref1_Text.mono_l k
  ·
   intro y0
   unfold fairwayref1_Text.l0
   repeat' first
   | (with_reducible exact ih0 _)
   | (with_reducible exact fairwayref1_point.mono _ _)
   | (with_reducible exact LeO.refl _)
   | (with_reducible exact LeO.none _)
   | (with_reducible refine LeO.ite ?_ ?_)
   | (with_reducible refine LeO.bind ?_ (fun _ => ?_))
   | exact ih0 _
   | exact fairwayref1_point.mono _ _
   | exact LeO.none _
   | refine LeO.ite ?_ ?_
   | refine LeO.bind ?_ (fun _ => ?_)
theorem fairwayref1_Text.mono : ∀ a0 k, LeO (fairwayref1_Text.f k a0) (fairwayref1_Text.f (k + 1) a0) := by
 intro a0 k
 have ih0 := fairwayref1_Text.mono_l k
 unfold fairwayref1_Text.f
 repeat' first
   | (with_reducible exact ih0 _)
   | (with_reducible exact fairwayref1_point.mono _ _)
   | (with_reducible exact LeO.refl _)
   | (with_reducible exact LeO.none _)
   | (with_reducible refine LeO.ite ?_ ?_)
   | (with_reducible refine LeO.bind ?_ (fun _ => ?_))
   | exact ih0 _
   | exact fairwayref1_point.mono _ _
   | exact LeO.none _
   | refine LeO.ite ?_ ?_
   | refine LeO.bind ?_ (fun _ => ?_)
set_option maxHeartbeats 8000000 in
set_option maxRecDepth 100000 in
theorem fairwayref1_Text.calls (k : Nat) (a0 : ByteArray) (r : Int) (w : World) (h : fairwayref1_Text.f k a0 = some r) :
  Calls Tryd.prog 44 #[.string a0] w fun e w' => e = .returned (.int .i64 r) ∧ Drawn0 w w' := by
 have H : (if (a0.size : Int) > 1024 then (some 2) else (fairwayref1_Text.l0 k a0)) = some r := h
 clear h
 by_cases c2 : (a0.size : Int) > 1024
 ·
  rw [if_pos c2] at H
  have c2b0 : decide (1024 < (a0.size : Int)) = true := decide_eq_true c2
  have c2b1 : decide (1024 < a0.size) = true := decide_eq_true (by omega)
  clear c2
  obtain rfl := Option.some.inj H
  go_enter Tryd.func44, Tryd.ntmps44
  go_wp2
  go_ret
  exact ⟨by first | rfl | (simp; done) | (simp [*]; done), by repeat (first | exact Drawn0.refl _ | apply Drawn0.step)⟩
 rw [if_neg c2] at H
 have c2b0 : decide (1024 < (a0.size : Int)) = false := decide_eq_false c2
 have c2b1 : decide (1024 < a0.size) = false := decide_eq_false (by omega)
 clear c2
 have H' := Aside0.mk H
 clear H
 go_enter Tryd.func44, Tryd.ntmps44
 go_wp2
 go_loopg [0] k (fun kq v0 w' => ∃ (x0_1 : ByteArray), v0 = .string x0_1 ∧ Aside0 (fairwayref1_Text.l0 kq x0_1 = some r) ∧ Aside0 (kq ≤ k) ∧ Drawn0 w w')
 case atStart => exact ⟨(a0), (by first | rfl | (simp; done) | (simp [*]; done)), H', ⟨Nat.le_refl _⟩, by repeat (first | exact Drawn0.refl _ | apply Drawn0.step)⟩
 case round =>
  clear H'
  try clear c2
  try clear c2b0
  try clear c2b1
  try clear p2
  obtain ⟨x0_1, rfl, HA, HK1, ⟨m1, rfl⟩⟩ := hrel
  cases gk with
  | zero => exact absurd HA.out (by simp [fairwayref1_Text.l0])
  | succ k1 =>
   have H := HA.out
   clear HA
   simp only [fairwayref1_Text.l0] at H
   by_cases c3 : (x0_1.size : Int) > 0
   ·
    rw [if_pos c3] at H
    have c3b0 : decide (0 < (x0_1.size : Int)) = true := decide_eq_true c3
    have c3b1 : decide (0 < x0_1.size) = true := decide_eq_true (by omega)
    clear c3
    replace H := Option.bind_eq_some_iff.mp H
    obtain ⟨⟨t281, t282⟩, A40, H⟩ := H
    replace H : (if t282 = 0 then (some 8) else (if 0 ≤ t282 then (if t282 ≤ (x0_1.size : Int) then (fairwayref1_Text.l0 k1 (x0_1.extract (t282 : Int).toNat x0_1.size)) else (none)) else (none))) = some r := H
    have A4 := Aside0.mk A40
    clear A40
    by_cases c5 : t282 = 0
    ·
     rw [if_pos c5] at H
     have c5b0 : (t282 == 0) = true := beq_iff_eq.mpr c5
     have c5b1 : (t282 != 0) = false := bne_eq_false_iff_eq.mpr c5
     clear c5
     obtain rfl := Option.some.inj H
     go_wp2_with (first | ((with_reducible refine gate_callee (f := 60) rfl ?_); refine goesL_ (some 13) rfl rfl Tryd.func60 (by kernel_rfl) rfl #[.string x0_1] rfl (by (try simp only [List.map_toArray, List.map_cons, List.map_nil]); first | done | rfl | (simp only [List.length_drop, List.length_take]; rfl)) ?_; (with_reducible refine (fairwayref1_point.calls k1 x0_1 t281 t282 _ A4.out).mono ?_); rintro e w' ⟨rfl, ⟨nd, rfl⟩⟩; refine ⟨_, rfl, ?_⟩))
     go_ret
     exact ⟨by first | rfl | (simp; done) | (simp [*]; done), by repeat (first | exact Drawn0.refl _ | apply Drawn0.step)⟩
    rw [if_neg c5] at H
    have c5b0 : (t282 == 0) = false := beq_eq_false_iff_ne.mpr c5
    have c5b1 : (t282 != 0) = true := bne_iff_ne.mpr c5
    by_cases c6 : 0 ≤ t282
    ·
     rw [if_pos c6] at H
     have c6b0 := eq_true c6
     have c6b1 : decide (0 ≤ t282) = true := decide_eq_true c6
     clear c6
     by_cases c7 : t282 ≤ (x0_1.size : Int)
     ·
      rw [if_pos c7] at H
      have c7b0 := eq_true c7
      have c7b1 : decide (t282 ≤ (x0_1.size : Int)) = true := decide_eq_true c7
      clear c7
      have H' := Aside0.mk H
      clear H
      go_wp2_with (first | ((with_reducible refine gate_callee (f := 60) rfl ?_); refine goesL_ (some 13) rfl rfl Tryd.func60 (by kernel_rfl) rfl #[.string x0_1] rfl (by (try simp only [List.map_toArray, List.map_cons, List.map_nil]); first | done | rfl | (simp only [List.length_drop, List.length_take]; rfl)) ?_; (with_reducible refine (fairwayref1_point.calls k1 x0_1 t281 t282 _ A4.out).mono ?_); rintro e w' ⟨rfl, ⟨nd, rfl⟩⟩; refine ⟨_, rfl, ?_⟩))
      go_roundg k1
      case measure => have := HK1.out; omega
      case rel => exact ⟨(x0_1.extract (t282 : Int).toNat x0_1.size), (by first | rfl | (simp; done) | (simp [*]; done)), H', ⟨by have := HK1.out; omega⟩, by repeat (first | exact Drawn0.refl _ | apply Drawn0.step)⟩
     rw [if_neg c7] at H
     exact absurd H (by simp)
    rw [if_neg c6] at H
    exact absurd H (by simp)
   rw [if_neg c3] at H
   have c3b0 : decide (0 < (x0_1.size : Int)) = false := decide_eq_false c3
   have c3b1 : decide (0 < x0_1.size) = false := decide_eq_false (by omega)
   clear c3
   obtain rfl := Option.some.inj H
   go_wp2
   go_ret
   exact ⟨by first | rfl | (simp; done) | (simp [*]; done), by repeat (first | exact Drawn0.refl _ | apply Drawn0.step)⟩

/-! ### fairwayref4_fits: function 30 -/
def fairwayref4_fits.j0 : Nat → Int → Int → Bool → Int → Int → ByteArray → ByteArray → Option (Bool)
  | 0, _, _, _, _, _, _, _ => none
  | k + 1, x3, x8, x9, x284000, x284001, x284002, x284003 => if x9 = true then ((some (([0, 1, 65535, 4294967295, 268435455] : List Int) : List Int)).bind fun y285 => (if 0 ≤ x3 then (if x3 < (y285.length : Int) then (if x284000 = 33 then (if x284001 = 0 then (some false) else ((fairwayref0_Num.f x284001 (rd y285 x3)).bind fun t289 => (if t289 = true then (if x284002.toList = ([] : List UInt8) then (some (x284003.toList == ([] : List UInt8))) else (some false)) else (some false)))) else (if x284000 = 35 then (if x284001 = 0 then (some false) else ((fairwayref0_Num.f x284001 (rd y285 x3)).bind fun t290 => (if t290 = true then (if x284002.toList = ([] : List UInt8) then (some (x284003.toList == ([] : List UInt8))) else (some false)) else (some false)))) else (if x284000 = 39 then (if x284001 = 0 then (some false) else ((fairwayref0_Num.f x284001 (rd y285 x3)).bind fun t291 => (if t291 = true then (if x284002.toList = ([] : List UInt8) then (some (x284003.toList == ([] : List UInt8))) else (some false)) else (some false)))) else (if x284000 = 11 then (if x284001 = 0 then (some false) else ((fairwayref0_Num.f x284001 (rd y285 x3)).bind fun t292 => (if t292 = true then (if x284002.toList = ([] : List UInt8) then (some (x284003.toList == ([] : List UInt8))) else (some false)) else (some false)))) else ((fairwayref0_Num.f x284001 (rd y285 x3)).bind fun t293 => (if t293 = true then (if x284002.toList = ([] : List UInt8) then (some (x284003.toList == ([] : List UInt8))) else (some false)) else (some false))))))) else (none)) else (none))) else (if x8 = 5 then (if x284001 = 0 then (if x284003.toList = ([] : List UInt8) then ((fairwayref1_Text.f k x284002).bind fun t294 => (some (t294 == 0))) else (some false)) else (some false)) else (if x8 = 6 then (if x284001 = 0 then (if x284003.toList = ([] : List UInt8) then (some (decide ((x284002.size : Int) ≤ 1024))) else (some false)) else (some false)) else (if x8 = 7 then (if x284001 = 0 then ((fairwayref1_Text.f k x284002).bind fun t295 => (if t295 = 0 then ((fairwayref1_Text.f k x284003).bind fun t296 => (some (t296 == 0))) else (some false))) else (some false)) else (some false))))
def fairwayref4_fits.f (k : Nat) (a0_0 : Int) (a0_1 : Int) (a0_2 : ByteArray) (a0_3 : ByteArray) : Option (Bool) := (fairwayref4_Kind.f k a0_0).bind fun t284 => (if t284 = 1 then (fairwayref4_fits.j0 k t284 t284 (t284 == 1) a0_0 a0_1 a0_2 a0_3) else (if t284 = 2 then (fairwayref4_fits.j0 k t284 t284 (t284 == 2) a0_0 a0_1 a0_2 a0_3) else (if t284 = 3 then (fairwayref4_fits.j0 k t284 t284 (t284 == 3) a0_0 a0_1 a0_2 a0_3) else (fairwayref4_fits.j0 k t284 t284 (t284 == 4) a0_0 a0_1 a0_2 a0_3))))
theorem fairwayref4_fits.mono_l : ∀ k, (∀ y0 y1 y2 y3 y4 y5 y6, LeO (fairwayref4_fits.j0 k y0 y1 y2 y3 y4 y5 y6) (fairwayref4_fits.j0 (k + 1) y0 y1 y2 y3 y4 y5 y6))
 | 0 => fun _ _ _ _ _ _ _ r h => by simp [fairwayref4_fits.j0] at h
 | k + 1 => by
  have ih0 := fairwayref4_fits.mono_l k
  ·
   intro y0 y1 y2 y3 y4 y5 y6
   unfold fairwayref4_fits.j0
   repeat' first
   | (with_reducible exact ih0 _ _ _ _ _ _ _)
   | (with_reducible exact fairwayref1_Text.mono _ _)
   | (with_reducible exact fairwayref4_Kind.mono _ _)
   | (with_reducible exact LeO.refl _)
   | (with_reducible exact LeO.none _)
   | (with_reducible refine LeO.ite ?_ ?_)
   | (with_reducible refine LeO.bind ?_ (fun _ => ?_))
   | exact ih0 _ _ _ _ _ _ _
   | exact fairwayref1_Text.mono _ _
   | exact fairwayref4_Kind.mono _ _
   | exact LeO.none _
   | refine LeO.ite ?_ ?_
   | refine LeO.bind ?_ (fun _ => ?_)
theorem fairwayref4_fits.mono : ∀ a0 a1 a2 a3 k, LeO (fairwayref4_fits.f k a0 a1 a2 a3) (fairwayref4_fits.f (k + 1) a0 a1 a2 a3) := by
 intro a0 a1 a2 a3 k
 have ih0 := fairwayref4_fits.mono_l k
 unfold fairwayref4_fits.f
 repeat' first
   | (with_reducible exact ih0 _ _ _ _ _ _ _)
   | (with_reducible exact fairwayref1_Text.mono _ _)
   | (with_reducible exact fairwayref4_Kind.mono _ _)
   | (with_reducible exact LeO.refl _)
   | (with_reducible exact LeO.none _)
   | (with_reducible refine LeO.ite ?_ ?_)
   | (with_reducible refine LeO.bind ?_ (fun _ => ?_))
   | exact ih0 _ _ _ _ _ _ _
   | exact fairwayref1_Text.mono _ _
   | exact fairwayref4_Kind.mono _ _
   | exact LeO.none _
   | refine LeO.ite ?_ ?_
   | refine LeO.bind ?_ (fun _ => ?_)
set_option maxHeartbeats 8000000 in
set_option maxRecDepth 100000 in
theorem fairwayref4_fits.calls (k : Nat) (a0_0 : Int) (a0_1 : Int) (a0_2 : ByteArray) (a0_3 : ByteArray) (r : Bool) (w : World) (h : fairwayref4_fits.f k a0_0 a0_1 a0_2 a0_3 = some r) :
  Calls Tryd.prog 30 #[.agg #[.int .i64 a0_0, .int .i64 a0_1, .string a0_2, .string a0_3]] w fun e w' => e = .returned (.bool r) ∧ Below w.heap.size w w' := by
 have hu42 := Tryd.underlying42
 have HB := Aside0.mk (Below.refl w.heap.size w)
 have H : ((fairwayref4_Kind.f k a0_0).bind fun t284 => (if t284 = 1 then (fairwayref4_fits.j0 k t284 t284 (t284 == 1) a0_0 a0_1 a0_2 a0_3) else (if t284 = 2 then (fairwayref4_fits.j0 k t284 t284 (t284 == 2) a0_0 a0_1 a0_2 a0_3) else (if t284 = 3 then (fairwayref4_fits.j0 k t284 t284 (t284 == 3) a0_0 a0_1 a0_2 a0_3) else (fairwayref4_fits.j0 k t284 t284 (t284 == 4) a0_0 a0_1 a0_2 a0_3))))) = some r := h
 clear h
 replace H := Option.bind_eq_some_iff.mp H
 obtain ⟨t284, A20, H⟩ := H
 replace H : (if t284 = 1 then (fairwayref4_fits.j0 k t284 t284 (t284 == 1) a0_0 a0_1 a0_2 a0_3) else (if t284 = 2 then (fairwayref4_fits.j0 k t284 t284 (t284 == 2) a0_0 a0_1 a0_2 a0_3) else (if t284 = 3 then (fairwayref4_fits.j0 k t284 t284 (t284 == 3) a0_0 a0_1 a0_2 a0_3) else (fairwayref4_fits.j0 k t284 t284 (t284 == 4) a0_0 a0_1 a0_2 a0_3)))) = some r := H
 have A2 := Aside0.mk A20
 clear A20
 have HC3 := Aside0.mk H
 clear H
 go_enter Tryd.func30, Tryd.ntmps30
 go_upto_if 9 with (first | ((with_reducible refine gate_dst (N := 1) rfl ?_); (try (refine gate_guard (by rfl) ?_; dsimp only)); refine box_event ?hg (N := 1) ?hd (cs := #[.int .i64 a0_0, .int .i64 a0_1, .string a0_2, .string a0_3]) (t := 42) ?hr ?_; (case hd => rfl); (case hg => rfl); (case hr => first | (go_simp; done) | (go_simp; rfl)); intro gb283 hg w4 hbox hb; have n0_ := Aside0.mk (below_step (by repeat (first | (with_reducible first | exact HB.out | apply below_alloc | apply pw_below_drewN | apply below_drew1) | exact HB.out)) hb); have n1_ := Aside0.mk (hbox); have n2_ := Aside0.mk ((by rw [hg]; exact (below_size (by repeat (first | (with_reducible first | exact HB.out | apply below_alloc | apply pw_below_drewN | apply below_drew1) | exact HB.out))) : w.heap.size ≤ gb283)); have n3_ := Aside0.mk ((by rw [hg]; exact (below_size (by repeat (first | (with_reducible first | exact HB.out | apply below_alloc | apply pw_below_drewN | apply below_drew1) | exact HB.out))) : w.heap.size ≤ gb283)); clear HB; have HB := n0_; have BK283 := n1_; have GW283 := n2_; have GE283 := n3_; clear n0_ n1_ n2_ n3_; clear hb hbox hg; have hcz5_0 : w4.cell? ⟨gb283, 0, none⟩ = some (.int .i64 a0_0) := (blk_cell BK283.out 0).trans rfl; have hcz5_1 : w4.cell? ⟨gb283, 1, none⟩ = some (.int .i64 a0_1) := (blk_cell BK283.out 1).trans rfl; have hcz5_2 : w4.cell? ⟨gb283, 2, none⟩ = some (.string a0_2) := (blk_cell BK283.out 2).trans rfl; have hcz5_3 : w4.cell? ⟨gb283, 3, none⟩ = some (.string a0_3) := (blk_cell BK283.out 3).trans rfl; have hfz5_0 := blk_frozen BK283.out 0; have hfz5_1 := blk_frozen BK283.out 1; have hfz5_2 := blk_frozen BK283.out 2; have hfz5_3 := blk_frozen BK283.out 3) | ((with_reducible refine gate_callee (f := 12) rfl ?_); refine goesL_ (some 7) rfl rfl Tryd.func12 (by kernel_rfl) rfl #[.int .i64 a0_0] rfl (by (try simp only [List.map_toArray, List.map_cons, List.map_nil]); first | done | rfl | (simp only [List.length_drop, List.length_take]; rfl)) ?_; (with_reducible refine (fairwayref4_Kind.calls k a0_0 t284 _ A2.out).mono ?_); rintro e w' ⟨rfl, ⟨nd, rfl⟩⟩; refine ⟨_, rfl, ?_⟩))
 (try simp only [Act.put, List.setIfInBounds_toArray, List.set_cons_zero, List.set_cons_succ])
 go_cut [9] (fun v9 wc => ∃ (kq : Nat) (x9_2 : Bool), v9 = .bool x9_2 ∧ Aside0 (fairwayref4_fits.j0 kq t284 t284 x9_2 a0_0 a0_1 a0_2 a0_3 = some r) ∧ Aside0 (kq ≤ k) ∧ Aside0 (wc.heap[gb283]? = some (.cells #[.int .i64 a0_0, .int .i64 a0_1, .string a0_2, .string a0_3] 42 (0, 0))) ∧ Aside0 (Below w.heap.size w wc))
 case first =>
  have H := HC3.out
  clear HC3
  by_cases c6 : t284 = 1
  ·
   rw [if_pos c6] at H
   have c6b0 : (t284 == 1) = true := beq_iff_eq.mpr c6
   have c6b1 : (t284 != 1) = false := bne_eq_false_iff_eq.mpr c6
   clear c6
   (first | rw [c6b0] | (simp only [i64_w, i32_w]; rw [c6b0]) | skip)
   have H' := Aside0.mk H
   clear H
   go_wp2
   go_meet
   case rel => exact ⟨_, ((t284 == 1)), (by first | rfl | (simp; done) | (simp [*]; done)), H', ⟨by first | omega | exact Nat.le_refl _⟩, ⟨by (with_reducible repeat (first | refine blk_drewN ?_ _ | refine blk_drew ?_ | refine blk_alloc ?_ _)); exact BK283.out⟩, ⟨by repeat (first | (with_reducible first | exact HB.out | apply below_alloc | apply pw_below_drewN | apply below_drew1 | refine below_set ?_ GE283.out) | exact HB.out)⟩⟩
  rw [if_neg c6] at H
  have c6b0 : (t284 == 1) = false := beq_eq_false_iff_ne.mpr c6
  have c6b1 : (t284 != 1) = true := bne_iff_ne.mpr c6
  (first | rw [c6b0] | (simp only [i64_w, i32_w]; rw [c6b0]) | skip)
  by_cases c7 : t284 = 2
  ·
   rw [if_pos c7] at H
   have c7b0 : (t284 == 2) = true := beq_iff_eq.mpr c7
   have c7b1 : (t284 != 2) = false := bne_eq_false_iff_eq.mpr c7
   clear c7
   have H' := Aside0.mk H
   clear H
   go_wp2
   go_meet
   case rel => exact ⟨_, ((t284 == 2)), (by first | rfl | (simp; done) | (simp [*]; done)), H', ⟨by first | omega | exact Nat.le_refl _⟩, ⟨by (with_reducible repeat (first | refine blk_drewN ?_ _ | refine blk_drew ?_ | refine blk_alloc ?_ _)); exact BK283.out⟩, ⟨by repeat (first | (with_reducible first | exact HB.out | apply below_alloc | apply pw_below_drewN | apply below_drew1 | refine below_set ?_ GE283.out) | exact HB.out)⟩⟩
  rw [if_neg c7] at H
  have c7b0 : (t284 == 2) = false := beq_eq_false_iff_ne.mpr c7
  have c7b1 : (t284 != 2) = true := bne_iff_ne.mpr c7
  by_cases c8 : t284 = 3
  ·
   rw [if_pos c8] at H
   have c8b0 : (t284 == 3) = true := beq_iff_eq.mpr c8
   have c8b1 : (t284 != 3) = false := bne_eq_false_iff_eq.mpr c8
   clear c8
   have H' := Aside0.mk H
   clear H
   go_wp2
   go_meet
   case rel => exact ⟨_, ((t284 == 3)), (by first | rfl | (simp; done) | (simp [*]; done)), H', ⟨by first | omega | exact Nat.le_refl _⟩, ⟨by (with_reducible repeat (first | refine blk_drewN ?_ _ | refine blk_drew ?_ | refine blk_alloc ?_ _)); exact BK283.out⟩, ⟨by repeat (first | (with_reducible first | exact HB.out | apply below_alloc | apply pw_below_drewN | apply below_drew1 | refine below_set ?_ GE283.out) | exact HB.out)⟩⟩
  rw [if_neg c8] at H
  have c8b0 : (t284 == 3) = false := beq_eq_false_iff_ne.mpr c8
  have c8b1 : (t284 != 3) = true := bne_iff_ne.mpr c8
  have H' := Aside0.mk H
  clear H
  go_wp2
  go_meet
  case rel => exact ⟨_, ((t284 == 4)), (by first | rfl | (simp; done) | (simp [*]; done)), H', ⟨by first | omega | exact Nat.le_refl _⟩, ⟨by (with_reducible repeat (first | refine blk_drewN ?_ _ | refine blk_drew ?_ | refine blk_alloc ?_ _)); exact BK283.out⟩, ⟨by repeat (first | (with_reducible first | exact HB.out | apply below_alloc | apply pw_below_drewN | apply below_drew1 | refine below_set ?_ GE283.out) | exact HB.out)⟩⟩
 case rest =>
  as_aux_lemma =>
   clear HC3
   try clear c1
   try clear p2
   try clear c3
   try clear c6
   try clear c6b0
   try clear c6b1
   try clear c7
   try clear c7b0
   try clear c7b1
   try clear c8
   try clear c8b0
   try clear c8b1
   try clear hcz5_0
   try clear hcz5_1
   try clear hcz5_2
   try clear hcz5_3
   try clear hfz5_0
   try clear hfz5_1
   try clear hfz5_2
   try clear hfz5_3
   obtain ⟨kq, x9_2, rfl, HA, HJ2, BK283, HB⟩ := hcut
   cases kq with
   | zero => exact absurd HA.out (by simp [fairwayref4_fits.j0])
   | succ kj2 =>
    have H := HA.out
    clear HA
    simp only [fairwayref4_fits.j0] at H
    by_cases c9 : x9_2 = true
    ·
     subst c9
     have H1 : ((some (([0, 1, 65535, 4294967295, 268435455] : List Int) : List Int)).bind fun y285 => (if 0 ≤ t284 then (if t284 < (y285.length : Int) then (if a0_0 = 33 then (if a0_1 = 0 then (some false) else ((fairwayref0_Num.f a0_1 (rd y285 t284)).bind fun t289 => (if t289 = true then (if a0_2.toList = ([] : List UInt8) then (some (a0_3.toList == ([] : List UInt8))) else (some false)) else (some false)))) else (if a0_0 = 35 then (if a0_1 = 0 then (some false) else ((fairwayref0_Num.f a0_1 (rd y285 t284)).bind fun t290 => (if t290 = true then (if a0_2.toList = ([] : List UInt8) then (some (a0_3.toList == ([] : List UInt8))) else (some false)) else (some false)))) else (if a0_0 = 39 then (if a0_1 = 0 then (some false) else ((fairwayref0_Num.f a0_1 (rd y285 t284)).bind fun t291 => (if t291 = true then (if a0_2.toList = ([] : List UInt8) then (some (a0_3.toList == ([] : List UInt8))) else (some false)) else (some false)))) else (if a0_0 = 11 then (if a0_1 = 0 then (some false) else ((fairwayref0_Num.f a0_1 (rd y285 t284)).bind fun t292 => (if t292 = true then (if a0_2.toList = ([] : List UInt8) then (some (a0_3.toList == ([] : List UInt8))) else (some false)) else (some false)))) else ((fairwayref0_Num.f a0_1 (rd y285 t284)).bind fun t293 => (if t293 = true then (if a0_2.toList = ([] : List UInt8) then (some (a0_3.toList == ([] : List UInt8))) else (some false)) else (some false))))))) else (none)) else (none))) = some r := by rw [if_pos rfl] at H; exact H
     clear H
     have H := H1
     clear H1
     obtain ⟨y285, hy285⟩ : ∃ y_ : List Int, y_ = (([0, 1, 65535, 4294967295, 268435455] : List Int)) := ⟨_, rfl⟩
     replace H : (if 0 ≤ t284 then (if t284 < (y285.length : Int) then (if a0_0 = 33 then (if a0_1 = 0 then (some false) else ((fairwayref0_Num.f a0_1 (rd y285 t284)).bind fun t289 => (if t289 = true then (if a0_2.toList = ([] : List UInt8) then (some (a0_3.toList == ([] : List UInt8))) else (some false)) else (some false)))) else (if a0_0 = 35 then (if a0_1 = 0 then (some false) else ((fairwayref0_Num.f a0_1 (rd y285 t284)).bind fun t290 => (if t290 = true then (if a0_2.toList = ([] : List UInt8) then (some (a0_3.toList == ([] : List UInt8))) else (some false)) else (some false)))) else (if a0_0 = 39 then (if a0_1 = 0 then (some false) else ((fairwayref0_Num.f a0_1 (rd y285 t284)).bind fun t291 => (if t291 = true then (if a0_2.toList = ([] : List UInt8) then (some (a0_3.toList == ([] : List UInt8))) else (some false)) else (some false)))) else (if a0_0 = 11 then (if a0_1 = 0 then (some false) else ((fairwayref0_Num.f a0_1 (rd y285 t284)).bind fun t292 => (if t292 = true then (if a0_2.toList = ([] : List UInt8) then (some (a0_3.toList == ([] : List UInt8))) else (some false)) else (some false)))) else ((fairwayref0_Num.f a0_1 (rd y285 t284)).bind fun t293 => (if t293 = true then (if a0_2.toList = ([] : List UInt8) then (some (a0_3.toList == ([] : List UInt8))) else (some false)) else (some false))))))) else (none)) else (none)) = some r := by first | (rw [hy285]; with_reducible exact H) | (have H2_ := (Option.bind_some _ _).symm.trans H; rw [hy285]; with_reducible exact H2_) | (have H2_ := (Option.bind_some _ _).symm.trans H; with_reducible exact H2_) | with_reducible exact H | (rw [hy285]; exact H) | exact H
     have Ny285 := Aside0.mk hy285
     clear hy285
     by_cases c10 : 0 ≤ t284
     ·
      rw [if_pos c10] at H
      have c10b0 : decide (0 ≤ t284) = true := decide_eq_true c10
      clear c10
      by_cases c11 : t284 < (y285.length : Int)
      ·
       rw [if_pos c11] at H
       have c11b0 : decide (t284 < (y285.length : Int)) = true := decide_eq_true c11
       clear c11
       by_cases c12 : a0_0 = 33
       ·
        rw [if_pos c12] at H
        have c12b0 : (a0_0 == 33) = true := beq_iff_eq.mpr c12
        have c12b1 : (a0_0 != 33) = false := bne_eq_false_iff_eq.mpr c12
        clear c12
        by_cases c13 : a0_1 = 0
        ·
         rw [if_pos c13] at H
         have c13b0 : (a0_1 == 0) = true := beq_iff_eq.mpr c13
         have c13b1 : (a0_1 != 0) = false := bne_eq_false_iff_eq.mpr c13
         clear c13
         obtain rfl := Option.some.inj H
         go_wp2_with (first | ((with_reducible refine gate_dst (N := 14) rfl ?_); (try (refine gate_guard (by rfl) ?_; dsimp only)); refine Kd.R_lit (Kd.int .i64) _ 3 ?hg (N := 14) ?hd (xs := ([0, 1, 65535, 4294967295, 268435455] : List Int)) (inner := [.int .i64 0, .int .i64 1, .int .i64 65535, .int .i64 4294967295, .int .i64 268435455]) (ok := fun _ => True) (okp := fun _ => True) ?hr ?hp (fun _ hk => hk) trivial (Below.refl _ _) (Nat.le_refl _) (by simp) ?_; (case hd => rfl); (case hg => rfl); (case hr => first | (go_simp; done) | (go_simp; rfl)); (case hp => exact (Reps.one (show Kd.M (Kd.int .i64) _ _ _ 0 [.int .i64 0] from rfl) (Reps.one (show Kd.M (Kd.int .i64) _ _ _ 1 [.int .i64 1] from rfl) (Reps.one (show Kd.M (Kd.int .i64) _ _ _ 65535 [.int .i64 65535] from rfl) (Reps.one (show Kd.M (Kd.int .i64) _ _ _ 4294967295 [.int .i64 4294967295] from rfl) (Reps.one (show Kd.M (Kd.int .i64) _ _ _ 268435455 [.int .i64 268435455] from rfl) (Reps.none _ _))))))); intro v286 w14 ho15 hb hg_ hnew_; clear hg_ hnew_; (first | rw [← Ny285.out] at ho15 | (simp only [Int.reduceToNat] at ho15; rw [← Ny285.out] at ho15)); have n0_ := Aside0.mk (Kd.R_lower ho15 (below_size (by repeat (first | (with_reducible first | exact HB.out | apply below_alloc | apply pw_below_drewN | apply below_drew1 | refine below_set ?_ GE283.out) | exact HB.out)))); have n1_ := Aside0.mk (blk_below (g := gb283) (o := .cells #[.int .i64 a0_0, .int .i64 a0_1, .string a0_2, .string a0_3] 42 (0, 0)) (by (with_reducible repeat (first | refine blk_drewN ?_ _ | refine blk_drew ?_ | refine blk_alloc ?_ _)); exact BK283.out) hb); have n2_ := Aside0.mk (below_step (by repeat (first | (with_reducible first | exact HB.out | apply below_alloc | apply pw_below_drewN | apply below_drew1 | refine below_set ?_ GE283.out) | exact HB.out)) hb); clear BK283; clear HB; have HO287 := n0_; have BK283 := n1_; have HB := n2_; clear n0_ n1_ n2_; clear hb ho15; obtain ⟨Ao16, co16, eo16⟩ := Kd.R_slice HO287.out; subst eo16; have p288 : 0 ≤ (t284 : Int) := of_decide_eq_true (by first | (with_reducible assumption) | assumption); have q288 : t284 < (y285.length : Int) := of_decide_eq_true (by first | (with_reducible assumption) | assumption); obtain ⟨ad288, e288, hx288_0⟩ := Kd.at_int (Kd.R_reads' HO287.out).2.2 t284 p288 q288; cases e288; replace p288 := eq_true p288; replace q288 := eq_true q288; have hcz17_0 : w14.cell? ⟨gb283, 0, none⟩ = some (.int .i64 a0_0) := (blk_cell BK283.out 0).trans rfl; have hcz17_1 : w14.cell? ⟨gb283, 1, none⟩ = some (.int .i64 a0_1) := (blk_cell BK283.out 1).trans rfl; have hcz17_2 : w14.cell? ⟨gb283, 2, none⟩ = some (.string a0_2) := (blk_cell BK283.out 2).trans rfl; have hcz17_3 : w14.cell? ⟨gb283, 3, none⟩ = some (.string a0_3) := (blk_cell BK283.out 3).trans rfl; have hfz17_0 := blk_frozen BK283.out 0; have hfz17_1 := blk_frozen BK283.out 1; have hfz17_2 := blk_frozen BK283.out 2; have hfz17_3 := blk_frozen BK283.out 3))
         go_ret
         exact ⟨by first | rfl | (simp [errW_none, errW_some] <;> rfl) | (simp [*, errW_none, errW_some] <;> rfl), by repeat (first | (with_reducible first | exact HB.out | apply below_alloc | apply pw_below_drewN | apply below_drew1 | refine below_set ?_ GE283.out) | exact HB.out)⟩
        rw [if_neg c13] at H
        have c13b0 : (a0_1 == 0) = false := beq_eq_false_iff_ne.mpr c13
        have c13b1 : (a0_1 != 0) = true := bne_iff_ne.mpr c13
        replace H := Option.bind_eq_some_iff.mp H
        obtain ⟨t289, A180, H⟩ := H
        replace H : (if t289 = true then (if a0_2.toList = ([] : List UInt8) then (some (a0_3.toList == ([] : List UInt8))) else (some false)) else (some false)) = some r := H
        have A18 := Aside0.mk A180
        clear A180
        by_cases c19 : t289 = true
        ·
         subst c19
         have H1 : (if a0_2.toList = ([] : List UInt8) then (some (a0_3.toList == ([] : List UInt8))) else (some false)) = some r := by rw [if_pos rfl] at H; exact H
         clear H
         have H := H1
         clear H1
         by_cases c20 : a0_2.toList = ([] : List UInt8)
         ·
          rw [if_pos c20] at H
          have c20b0 : (a0_2.toList == ([] : List UInt8)) = true := beq_iff_eq.mpr c20
          have c20b1 : (a0_2.toList != ([] : List UInt8)) = false := bne_eq_false_iff_eq.mpr c20
          clear c20
          obtain rfl := Option.some.inj H
          go_wp2_with (first | ((with_reducible refine gate_dst (N := 14) rfl ?_); (try (refine gate_guard (by rfl) ?_; dsimp only)); refine Kd.R_lit (Kd.int .i64) _ 3 ?hg (N := 14) ?hd (xs := ([0, 1, 65535, 4294967295, 268435455] : List Int)) (inner := [.int .i64 0, .int .i64 1, .int .i64 65535, .int .i64 4294967295, .int .i64 268435455]) (ok := fun _ => True) (okp := fun _ => True) ?hr ?hp (fun _ hk => hk) trivial (Below.refl _ _) (Nat.le_refl _) (by simp) ?_; (case hd => rfl); (case hg => rfl); (case hr => first | (go_simp; done) | (go_simp; rfl)); (case hp => exact (Reps.one (show Kd.M (Kd.int .i64) _ _ _ 0 [.int .i64 0] from rfl) (Reps.one (show Kd.M (Kd.int .i64) _ _ _ 1 [.int .i64 1] from rfl) (Reps.one (show Kd.M (Kd.int .i64) _ _ _ 65535 [.int .i64 65535] from rfl) (Reps.one (show Kd.M (Kd.int .i64) _ _ _ 4294967295 [.int .i64 4294967295] from rfl) (Reps.one (show Kd.M (Kd.int .i64) _ _ _ 268435455 [.int .i64 268435455] from rfl) (Reps.none _ _))))))); intro v286 w21 ho22 hb hg_ hnew_; clear hg_ hnew_; (first | rw [← Ny285.out] at ho22 | (simp only [Int.reduceToNat] at ho22; rw [← Ny285.out] at ho22)); have n0_ := Aside0.mk (Kd.R_lower ho22 (below_size (by repeat (first | (with_reducible first | exact HB.out | apply below_alloc | apply pw_below_drewN | apply below_drew1 | refine below_set ?_ GE283.out) | exact HB.out)))); have n1_ := Aside0.mk (blk_below (g := gb283) (o := .cells #[.int .i64 a0_0, .int .i64 a0_1, .string a0_2, .string a0_3] 42 (0, 0)) (by (with_reducible repeat (first | refine blk_drewN ?_ _ | refine blk_drew ?_ | refine blk_alloc ?_ _)); exact BK283.out) hb); have n2_ := Aside0.mk (below_step (by repeat (first | (with_reducible first | exact HB.out | apply below_alloc | apply pw_below_drewN | apply below_drew1 | refine below_set ?_ GE283.out) | exact HB.out)) hb); clear BK283; clear HB; have HO287 := n0_; have BK283 := n1_; have HB := n2_; clear n0_ n1_ n2_; clear hb ho22; obtain ⟨Ao23, co23, eo23⟩ := Kd.R_slice HO287.out; subst eo23; have p288 : 0 ≤ (t284 : Int) := of_decide_eq_true (by first | (with_reducible assumption) | assumption); have q288 : t284 < (y285.length : Int) := of_decide_eq_true (by first | (with_reducible assumption) | assumption); obtain ⟨ad288, e288, hx288_0⟩ := Kd.at_int (Kd.R_reads' HO287.out).2.2 t284 p288 q288; cases e288; replace p288 := eq_true p288; replace q288 := eq_true q288; have hcz24_0 : w21.cell? ⟨gb283, 0, none⟩ = some (.int .i64 a0_0) := (blk_cell BK283.out 0).trans rfl; have hcz24_1 : w21.cell? ⟨gb283, 1, none⟩ = some (.int .i64 a0_1) := (blk_cell BK283.out 1).trans rfl; have hcz24_2 : w21.cell? ⟨gb283, 2, none⟩ = some (.string a0_2) := (blk_cell BK283.out 2).trans rfl; have hcz24_3 : w21.cell? ⟨gb283, 3, none⟩ = some (.string a0_3) := (blk_cell BK283.out 3).trans rfl; have hfz24_0 := blk_frozen BK283.out 0; have hfz24_1 := blk_frozen BK283.out 1; have hfz24_2 := blk_frozen BK283.out 2; have hfz24_3 := blk_frozen BK283.out 3) | ((with_reducible refine gate_callee (f := 43) rfl ?_); refine goesL_ (some 44) rfl rfl Tryd.func43 (by kernel_rfl) rfl #[.int .i64 a0_1, .int .i64 (rd y285 t284)] rfl (by (try simp only [List.map_toArray, List.map_cons, List.map_nil]); first | done | rfl | (simp only [List.length_drop, List.length_take]; rfl)) ?_; (with_reducible refine (fairwayref0_Num.calls a0_1 (rd y285 t284) true _ A18.out).mono ?_); rintro e w' ⟨rfl, ⟨nd, rfl⟩⟩; refine ⟨_, rfl, ?_⟩))
          go_ret
          exact ⟨by first | rfl | (simp [errW_none, errW_some] <;> rfl) | (simp [*, errW_none, errW_some] <;> rfl), by repeat (first | (with_reducible first | exact HB.out | apply below_alloc | apply pw_below_drewN | apply below_drew1 | refine below_set ?_ GE283.out) | exact HB.out)⟩
         rw [if_neg c20] at H
         have c20b0 : (a0_2.toList == ([] : List UInt8)) = false := beq_eq_false_iff_ne.mpr c20
         have c20b1 : (a0_2.toList != ([] : List UInt8)) = true := bne_iff_ne.mpr c20
         obtain rfl := Option.some.inj H
         go_wp2_with (first | ((with_reducible refine gate_dst (N := 14) rfl ?_); (try (refine gate_guard (by rfl) ?_; dsimp only)); refine Kd.R_lit (Kd.int .i64) _ 3 ?hg (N := 14) ?hd (xs := ([0, 1, 65535, 4294967295, 268435455] : List Int)) (inner := [.int .i64 0, .int .i64 1, .int .i64 65535, .int .i64 4294967295, .int .i64 268435455]) (ok := fun _ => True) (okp := fun _ => True) ?hr ?hp (fun _ hk => hk) trivial (Below.refl _ _) (Nat.le_refl _) (by simp) ?_; (case hd => rfl); (case hg => rfl); (case hr => first | (go_simp; done) | (go_simp; rfl)); (case hp => exact (Reps.one (show Kd.M (Kd.int .i64) _ _ _ 0 [.int .i64 0] from rfl) (Reps.one (show Kd.M (Kd.int .i64) _ _ _ 1 [.int .i64 1] from rfl) (Reps.one (show Kd.M (Kd.int .i64) _ _ _ 65535 [.int .i64 65535] from rfl) (Reps.one (show Kd.M (Kd.int .i64) _ _ _ 4294967295 [.int .i64 4294967295] from rfl) (Reps.one (show Kd.M (Kd.int .i64) _ _ _ 268435455 [.int .i64 268435455] from rfl) (Reps.none _ _))))))); intro v286 w25 ho26 hb hg_ hnew_; clear hg_ hnew_; (first | rw [← Ny285.out] at ho26 | (simp only [Int.reduceToNat] at ho26; rw [← Ny285.out] at ho26)); have n0_ := Aside0.mk (Kd.R_lower ho26 (below_size (by repeat (first | (with_reducible first | exact HB.out | apply below_alloc | apply pw_below_drewN | apply below_drew1 | refine below_set ?_ GE283.out) | exact HB.out)))); have n1_ := Aside0.mk (blk_below (g := gb283) (o := .cells #[.int .i64 a0_0, .int .i64 a0_1, .string a0_2, .string a0_3] 42 (0, 0)) (by (with_reducible repeat (first | refine blk_drewN ?_ _ | refine blk_drew ?_ | refine blk_alloc ?_ _)); exact BK283.out) hb); have n2_ := Aside0.mk (below_step (by repeat (first | (with_reducible first | exact HB.out | apply below_alloc | apply pw_below_drewN | apply below_drew1 | refine below_set ?_ GE283.out) | exact HB.out)) hb); clear BK283; clear HB; have HO287 := n0_; have BK283 := n1_; have HB := n2_; clear n0_ n1_ n2_; clear hb ho26; obtain ⟨Ao27, co27, eo27⟩ := Kd.R_slice HO287.out; subst eo27; have p288 : 0 ≤ (t284 : Int) := of_decide_eq_true (by first | (with_reducible assumption) | assumption); have q288 : t284 < (y285.length : Int) := of_decide_eq_true (by first | (with_reducible assumption) | assumption); obtain ⟨ad288, e288, hx288_0⟩ := Kd.at_int (Kd.R_reads' HO287.out).2.2 t284 p288 q288; cases e288; replace p288 := eq_true p288; replace q288 := eq_true q288; have hcz28_0 : w25.cell? ⟨gb283, 0, none⟩ = some (.int .i64 a0_0) := (blk_cell BK283.out 0).trans rfl; have hcz28_1 : w25.cell? ⟨gb283, 1, none⟩ = some (.int .i64 a0_1) := (blk_cell BK283.out 1).trans rfl; have hcz28_2 : w25.cell? ⟨gb283, 2, none⟩ = some (.string a0_2) := (blk_cell BK283.out 2).trans rfl; have hcz28_3 : w25.cell? ⟨gb283, 3, none⟩ = some (.string a0_3) := (blk_cell BK283.out 3).trans rfl; have hfz28_0 := blk_frozen BK283.out 0; have hfz28_1 := blk_frozen BK283.out 1; have hfz28_2 := blk_frozen BK283.out 2; have hfz28_3 := blk_frozen BK283.out 3) | ((with_reducible refine gate_callee (f := 43) rfl ?_); refine goesL_ (some 44) rfl rfl Tryd.func43 (by kernel_rfl) rfl #[.int .i64 a0_1, .int .i64 (rd y285 t284)] rfl (by (try simp only [List.map_toArray, List.map_cons, List.map_nil]); first | done | rfl | (simp only [List.length_drop, List.length_take]; rfl)) ?_; (with_reducible refine (fairwayref0_Num.calls a0_1 (rd y285 t284) true _ A18.out).mono ?_); rintro e w' ⟨rfl, ⟨nd, rfl⟩⟩; refine ⟨_, rfl, ?_⟩))
         go_ret
         exact ⟨by first | rfl | (simp [errW_none, errW_some] <;> rfl) | (simp [*, errW_none, errW_some] <;> rfl), by repeat (first | (with_reducible first | exact HB.out | apply below_alloc | apply pw_below_drewN | apply below_drew1 | refine below_set ?_ GE283.out) | exact HB.out)⟩
        replace c19 := Bool.eq_false_iff.mpr c19
        subst c19
        have H1 : (some false) = some r := by rw [if_neg (show ¬ (false = true) by decide)] at H; exact H
        clear H
        have H := H1
        clear H1
        obtain rfl := Option.some.inj H
        go_wp2_with (first | ((with_reducible refine gate_dst (N := 14) rfl ?_); (try (refine gate_guard (by rfl) ?_; dsimp only)); refine Kd.R_lit (Kd.int .i64) _ 3 ?hg (N := 14) ?hd (xs := ([0, 1, 65535, 4294967295, 268435455] : List Int)) (inner := [.int .i64 0, .int .i64 1, .int .i64 65535, .int .i64 4294967295, .int .i64 268435455]) (ok := fun _ => True) (okp := fun _ => True) ?hr ?hp (fun _ hk => hk) trivial (Below.refl _ _) (Nat.le_refl _) (by simp) ?_; (case hd => rfl); (case hg => rfl); (case hr => first | (go_simp; done) | (go_simp; rfl)); (case hp => exact (Reps.one (show Kd.M (Kd.int .i64) _ _ _ 0 [.int .i64 0] from rfl) (Reps.one (show Kd.M (Kd.int .i64) _ _ _ 1 [.int .i64 1] from rfl) (Reps.one (show Kd.M (Kd.int .i64) _ _ _ 65535 [.int .i64 65535] from rfl) (Reps.one (show Kd.M (Kd.int .i64) _ _ _ 4294967295 [.int .i64 4294967295] from rfl) (Reps.one (show Kd.M (Kd.int .i64) _ _ _ 268435455 [.int .i64 268435455] from rfl) (Reps.none _ _))))))); intro v286 w29 ho30 hb hg_ hnew_; clear hg_ hnew_; (first | rw [← Ny285.out] at ho30 | (simp only [Int.reduceToNat] at ho30; rw [← Ny285.out] at ho30)); have n0_ := Aside0.mk (Kd.R_lower ho30 (below_size (by repeat (first | (with_reducible first | exact HB.out | apply below_alloc | apply pw_below_drewN | apply below_drew1 | refine below_set ?_ GE283.out) | exact HB.out)))); have n1_ := Aside0.mk (blk_below (g := gb283) (o := .cells #[.int .i64 a0_0, .int .i64 a0_1, .string a0_2, .string a0_3] 42 (0, 0)) (by (with_reducible repeat (first | refine blk_drewN ?_ _ | refine blk_drew ?_ | refine blk_alloc ?_ _)); exact BK283.out) hb); have n2_ := Aside0.mk (below_step (by repeat (first | (with_reducible first | exact HB.out | apply below_alloc | apply pw_below_drewN | apply below_drew1 | refine below_set ?_ GE283.out) | exact HB.out)) hb); clear BK283; clear HB; have HO287 := n0_; have BK283 := n1_; have HB := n2_; clear n0_ n1_ n2_; clear hb ho30; obtain ⟨Ao31, co31, eo31⟩ := Kd.R_slice HO287.out; subst eo31; have p288 : 0 ≤ (t284 : Int) := of_decide_eq_true (by first | (with_reducible assumption) | assumption); have q288 : t284 < (y285.length : Int) := of_decide_eq_true (by first | (with_reducible assumption) | assumption); obtain ⟨ad288, e288, hx288_0⟩ := Kd.at_int (Kd.R_reads' HO287.out).2.2 t284 p288 q288; cases e288; replace p288 := eq_true p288; replace q288 := eq_true q288; have hcz32_0 : w29.cell? ⟨gb283, 0, none⟩ = some (.int .i64 a0_0) := (blk_cell BK283.out 0).trans rfl; have hcz32_1 : w29.cell? ⟨gb283, 1, none⟩ = some (.int .i64 a0_1) := (blk_cell BK283.out 1).trans rfl; have hcz32_2 : w29.cell? ⟨gb283, 2, none⟩ = some (.string a0_2) := (blk_cell BK283.out 2).trans rfl; have hcz32_3 : w29.cell? ⟨gb283, 3, none⟩ = some (.string a0_3) := (blk_cell BK283.out 3).trans rfl; have hfz32_0 := blk_frozen BK283.out 0; have hfz32_1 := blk_frozen BK283.out 1; have hfz32_2 := blk_frozen BK283.out 2; have hfz32_3 := blk_frozen BK283.out 3) | ((with_reducible refine gate_callee (f := 43) rfl ?_); refine goesL_ (some 44) rfl rfl Tryd.func43 (by kernel_rfl) rfl #[.int .i64 a0_1, .int .i64 (rd y285 t284)] rfl (by (try simp only [List.map_toArray, List.map_cons, List.map_nil]); first | done | rfl | (simp only [List.length_drop, List.length_take]; rfl)) ?_; (with_reducible refine (fairwayref0_Num.calls a0_1 (rd y285 t284) false _ A18.out).mono ?_); rintro e w' ⟨rfl, ⟨nd, rfl⟩⟩; refine ⟨_, rfl, ?_⟩))
        go_ret
        exact ⟨by first | rfl | (simp [errW_none, errW_some] <;> rfl) | (simp [*, errW_none, errW_some] <;> rfl), by repeat (first | (with_reducible first | exact HB.out | apply below_alloc | apply pw_below_drewN | apply below_drew1 | refine below_set ?_ GE283.out) | exact HB.out)⟩
       rw [if_neg c12] at H
       have c12b0 : (a0_0 == 33) = false := beq_eq_false_iff_ne.mpr c12
       have c12b1 : (a0_0 != 33) = true := bne_iff_ne.mpr c12
       by_cases c33 : a0_0 = 35
       ·
        rw [if_pos c33] at H
        have c33b0 : (a0_0 == 35) = true := beq_iff_eq.mpr c33
        have c33b1 : (a0_0 != 35) = false := bne_eq_false_iff_eq.mpr c33
        clear c33
        by_cases c34 : a0_1 = 0
        ·
         rw [if_pos c34] at H
         have c34b0 : (a0_1 == 0) = true := beq_iff_eq.mpr c34
         have c34b1 : (a0_1 != 0) = false := bne_eq_false_iff_eq.mpr c34
         clear c34
         obtain rfl := Option.some.inj H
         go_wp2_with (first | ((with_reducible refine gate_dst (N := 14) rfl ?_); (try (refine gate_guard (by rfl) ?_; dsimp only)); refine Kd.R_lit (Kd.int .i64) _ 3 ?hg (N := 14) ?hd (xs := ([0, 1, 65535, 4294967295, 268435455] : List Int)) (inner := [.int .i64 0, .int .i64 1, .int .i64 65535, .int .i64 4294967295, .int .i64 268435455]) (ok := fun _ => True) (okp := fun _ => True) ?hr ?hp (fun _ hk => hk) trivial (Below.refl _ _) (Nat.le_refl _) (by simp) ?_; (case hd => rfl); (case hg => rfl); (case hr => first | (go_simp; done) | (go_simp; rfl)); (case hp => exact (Reps.one (show Kd.M (Kd.int .i64) _ _ _ 0 [.int .i64 0] from rfl) (Reps.one (show Kd.M (Kd.int .i64) _ _ _ 1 [.int .i64 1] from rfl) (Reps.one (show Kd.M (Kd.int .i64) _ _ _ 65535 [.int .i64 65535] from rfl) (Reps.one (show Kd.M (Kd.int .i64) _ _ _ 4294967295 [.int .i64 4294967295] from rfl) (Reps.one (show Kd.M (Kd.int .i64) _ _ _ 268435455 [.int .i64 268435455] from rfl) (Reps.none _ _))))))); intro v286 w35 ho36 hb hg_ hnew_; clear hg_ hnew_; (first | rw [← Ny285.out] at ho36 | (simp only [Int.reduceToNat] at ho36; rw [← Ny285.out] at ho36)); have n0_ := Aside0.mk (Kd.R_lower ho36 (below_size (by repeat (first | (with_reducible first | exact HB.out | apply below_alloc | apply pw_below_drewN | apply below_drew1 | refine below_set ?_ GE283.out) | exact HB.out)))); have n1_ := Aside0.mk (blk_below (g := gb283) (o := .cells #[.int .i64 a0_0, .int .i64 a0_1, .string a0_2, .string a0_3] 42 (0, 0)) (by (with_reducible repeat (first | refine blk_drewN ?_ _ | refine blk_drew ?_ | refine blk_alloc ?_ _)); exact BK283.out) hb); have n2_ := Aside0.mk (below_step (by repeat (first | (with_reducible first | exact HB.out | apply below_alloc | apply pw_below_drewN | apply below_drew1 | refine below_set ?_ GE283.out) | exact HB.out)) hb); clear BK283; clear HB; have HO287 := n0_; have BK283 := n1_; have HB := n2_; clear n0_ n1_ n2_; clear hb ho36; obtain ⟨Ao37, co37, eo37⟩ := Kd.R_slice HO287.out; subst eo37; have p288 : 0 ≤ (t284 : Int) := of_decide_eq_true (by first | (with_reducible assumption) | assumption); have q288 : t284 < (y285.length : Int) := of_decide_eq_true (by first | (with_reducible assumption) | assumption); obtain ⟨ad288, e288, hx288_0⟩ := Kd.at_int (Kd.R_reads' HO287.out).2.2 t284 p288 q288; cases e288; replace p288 := eq_true p288; replace q288 := eq_true q288; have hcz38_0 : w35.cell? ⟨gb283, 0, none⟩ = some (.int .i64 a0_0) := (blk_cell BK283.out 0).trans rfl; have hcz38_1 : w35.cell? ⟨gb283, 1, none⟩ = some (.int .i64 a0_1) := (blk_cell BK283.out 1).trans rfl; have hcz38_2 : w35.cell? ⟨gb283, 2, none⟩ = some (.string a0_2) := (blk_cell BK283.out 2).trans rfl; have hcz38_3 : w35.cell? ⟨gb283, 3, none⟩ = some (.string a0_3) := (blk_cell BK283.out 3).trans rfl; have hfz38_0 := blk_frozen BK283.out 0; have hfz38_1 := blk_frozen BK283.out 1; have hfz38_2 := blk_frozen BK283.out 2; have hfz38_3 := blk_frozen BK283.out 3))
         go_ret
         exact ⟨by first | rfl | (simp [errW_none, errW_some] <;> rfl) | (simp [*, errW_none, errW_some] <;> rfl), by repeat (first | (with_reducible first | exact HB.out | apply below_alloc | apply pw_below_drewN | apply below_drew1 | refine below_set ?_ GE283.out) | exact HB.out)⟩
        rw [if_neg c34] at H
        have c34b0 : (a0_1 == 0) = false := beq_eq_false_iff_ne.mpr c34
        have c34b1 : (a0_1 != 0) = true := bne_iff_ne.mpr c34
        replace H := Option.bind_eq_some_iff.mp H
        obtain ⟨t290, A390, H⟩ := H
        replace H : (if t290 = true then (if a0_2.toList = ([] : List UInt8) then (some (a0_3.toList == ([] : List UInt8))) else (some false)) else (some false)) = some r := H
        have A39 := Aside0.mk A390
        clear A390
        by_cases c40 : t290 = true
        ·
         subst c40
         have H1 : (if a0_2.toList = ([] : List UInt8) then (some (a0_3.toList == ([] : List UInt8))) else (some false)) = some r := by rw [if_pos rfl] at H; exact H
         clear H
         have H := H1
         clear H1
         by_cases c41 : a0_2.toList = ([] : List UInt8)
         ·
          rw [if_pos c41] at H
          have c41b0 : (a0_2.toList == ([] : List UInt8)) = true := beq_iff_eq.mpr c41
          have c41b1 : (a0_2.toList != ([] : List UInt8)) = false := bne_eq_false_iff_eq.mpr c41
          clear c41
          obtain rfl := Option.some.inj H
          go_wp2_with (first | ((with_reducible refine gate_dst (N := 14) rfl ?_); (try (refine gate_guard (by rfl) ?_; dsimp only)); refine Kd.R_lit (Kd.int .i64) _ 3 ?hg (N := 14) ?hd (xs := ([0, 1, 65535, 4294967295, 268435455] : List Int)) (inner := [.int .i64 0, .int .i64 1, .int .i64 65535, .int .i64 4294967295, .int .i64 268435455]) (ok := fun _ => True) (okp := fun _ => True) ?hr ?hp (fun _ hk => hk) trivial (Below.refl _ _) (Nat.le_refl _) (by simp) ?_; (case hd => rfl); (case hg => rfl); (case hr => first | (go_simp; done) | (go_simp; rfl)); (case hp => exact (Reps.one (show Kd.M (Kd.int .i64) _ _ _ 0 [.int .i64 0] from rfl) (Reps.one (show Kd.M (Kd.int .i64) _ _ _ 1 [.int .i64 1] from rfl) (Reps.one (show Kd.M (Kd.int .i64) _ _ _ 65535 [.int .i64 65535] from rfl) (Reps.one (show Kd.M (Kd.int .i64) _ _ _ 4294967295 [.int .i64 4294967295] from rfl) (Reps.one (show Kd.M (Kd.int .i64) _ _ _ 268435455 [.int .i64 268435455] from rfl) (Reps.none _ _))))))); intro v286 w42 ho43 hb hg_ hnew_; clear hg_ hnew_; (first | rw [← Ny285.out] at ho43 | (simp only [Int.reduceToNat] at ho43; rw [← Ny285.out] at ho43)); have n0_ := Aside0.mk (Kd.R_lower ho43 (below_size (by repeat (first | (with_reducible first | exact HB.out | apply below_alloc | apply pw_below_drewN | apply below_drew1 | refine below_set ?_ GE283.out) | exact HB.out)))); have n1_ := Aside0.mk (blk_below (g := gb283) (o := .cells #[.int .i64 a0_0, .int .i64 a0_1, .string a0_2, .string a0_3] 42 (0, 0)) (by (with_reducible repeat (first | refine blk_drewN ?_ _ | refine blk_drew ?_ | refine blk_alloc ?_ _)); exact BK283.out) hb); have n2_ := Aside0.mk (below_step (by repeat (first | (with_reducible first | exact HB.out | apply below_alloc | apply pw_below_drewN | apply below_drew1 | refine below_set ?_ GE283.out) | exact HB.out)) hb); clear BK283; clear HB; have HO287 := n0_; have BK283 := n1_; have HB := n2_; clear n0_ n1_ n2_; clear hb ho43; obtain ⟨Ao44, co44, eo44⟩ := Kd.R_slice HO287.out; subst eo44; have p288 : 0 ≤ (t284 : Int) := of_decide_eq_true (by first | (with_reducible assumption) | assumption); have q288 : t284 < (y285.length : Int) := of_decide_eq_true (by first | (with_reducible assumption) | assumption); obtain ⟨ad288, e288, hx288_0⟩ := Kd.at_int (Kd.R_reads' HO287.out).2.2 t284 p288 q288; cases e288; replace p288 := eq_true p288; replace q288 := eq_true q288; have hcz45_0 : w42.cell? ⟨gb283, 0, none⟩ = some (.int .i64 a0_0) := (blk_cell BK283.out 0).trans rfl; have hcz45_1 : w42.cell? ⟨gb283, 1, none⟩ = some (.int .i64 a0_1) := (blk_cell BK283.out 1).trans rfl; have hcz45_2 : w42.cell? ⟨gb283, 2, none⟩ = some (.string a0_2) := (blk_cell BK283.out 2).trans rfl; have hcz45_3 : w42.cell? ⟨gb283, 3, none⟩ = some (.string a0_3) := (blk_cell BK283.out 3).trans rfl; have hfz45_0 := blk_frozen BK283.out 0; have hfz45_1 := blk_frozen BK283.out 1; have hfz45_2 := blk_frozen BK283.out 2; have hfz45_3 := blk_frozen BK283.out 3) | ((with_reducible refine gate_callee (f := 43) rfl ?_); refine goesL_ (some 44) rfl rfl Tryd.func43 (by kernel_rfl) rfl #[.int .i64 a0_1, .int .i64 (rd y285 t284)] rfl (by (try simp only [List.map_toArray, List.map_cons, List.map_nil]); first | done | rfl | (simp only [List.length_drop, List.length_take]; rfl)) ?_; (with_reducible refine (fairwayref0_Num.calls a0_1 (rd y285 t284) true _ A39.out).mono ?_); rintro e w' ⟨rfl, ⟨nd, rfl⟩⟩; refine ⟨_, rfl, ?_⟩))
          go_ret
          exact ⟨by first | rfl | (simp [errW_none, errW_some] <;> rfl) | (simp [*, errW_none, errW_some] <;> rfl), by repeat (first | (with_reducible first | exact HB.out | apply below_alloc | apply pw_below_drewN | apply below_drew1 | refine below_set ?_ GE283.out) | exact HB.out)⟩
         rw [if_neg c41] at H
         have c41b0 : (a0_2.toList == ([] : List UInt8)) = false := beq_eq_false_iff_ne.mpr c41
         have c41b1 : (a0_2.toList != ([] : List UInt8)) = true := bne_iff_ne.mpr c41
         obtain rfl := Option.some.inj H
         go_wp2_with (first | ((with_reducible refine gate_dst (N := 14) rfl ?_); (try (refine gate_guard (by rfl) ?_; dsimp only)); refine Kd.R_lit (Kd.int .i64) _ 3 ?hg (N := 14) ?hd (xs := ([0, 1, 65535, 4294967295, 268435455] : List Int)) (inner := [.int .i64 0, .int .i64 1, .int .i64 65535, .int .i64 4294967295, .int .i64 268435455]) (ok := fun _ => True) (okp := fun _ => True) ?hr ?hp (fun _ hk => hk) trivial (Below.refl _ _) (Nat.le_refl _) (by simp) ?_; (case hd => rfl); (case hg => rfl); (case hr => first | (go_simp; done) | (go_simp; rfl)); (case hp => exact (Reps.one (show Kd.M (Kd.int .i64) _ _ _ 0 [.int .i64 0] from rfl) (Reps.one (show Kd.M (Kd.int .i64) _ _ _ 1 [.int .i64 1] from rfl) (Reps.one (show Kd.M (Kd.int .i64) _ _ _ 65535 [.int .i64 65535] from rfl) (Reps.one (show Kd.M (Kd.int .i64) _ _ _ 4294967295 [.int .i64 4294967295] from rfl) (Reps.one (show Kd.M (Kd.int .i64) _ _ _ 268435455 [.int .i64 268435455] from rfl) (Reps.none _ _))))))); intro v286 w46 ho47 hb hg_ hnew_; clear hg_ hnew_; (first | rw [← Ny285.out] at ho47 | (simp only [Int.reduceToNat] at ho47; rw [← Ny285.out] at ho47)); have n0_ := Aside0.mk (Kd.R_lower ho47 (below_size (by repeat (first | (with_reducible first | exact HB.out | apply below_alloc | apply pw_below_drewN | apply below_drew1 | refine below_set ?_ GE283.out) | exact HB.out)))); have n1_ := Aside0.mk (blk_below (g := gb283) (o := .cells #[.int .i64 a0_0, .int .i64 a0_1, .string a0_2, .string a0_3] 42 (0, 0)) (by (with_reducible repeat (first | refine blk_drewN ?_ _ | refine blk_drew ?_ | refine blk_alloc ?_ _)); exact BK283.out) hb); have n2_ := Aside0.mk (below_step (by repeat (first | (with_reducible first | exact HB.out | apply below_alloc | apply pw_below_drewN | apply below_drew1 | refine below_set ?_ GE283.out) | exact HB.out)) hb); clear BK283; clear HB; have HO287 := n0_; have BK283 := n1_; have HB := n2_; clear n0_ n1_ n2_; clear hb ho47; obtain ⟨Ao48, co48, eo48⟩ := Kd.R_slice HO287.out; subst eo48; have p288 : 0 ≤ (t284 : Int) := of_decide_eq_true (by first | (with_reducible assumption) | assumption); have q288 : t284 < (y285.length : Int) := of_decide_eq_true (by first | (with_reducible assumption) | assumption); obtain ⟨ad288, e288, hx288_0⟩ := Kd.at_int (Kd.R_reads' HO287.out).2.2 t284 p288 q288; cases e288; replace p288 := eq_true p288; replace q288 := eq_true q288; have hcz49_0 : w46.cell? ⟨gb283, 0, none⟩ = some (.int .i64 a0_0) := (blk_cell BK283.out 0).trans rfl; have hcz49_1 : w46.cell? ⟨gb283, 1, none⟩ = some (.int .i64 a0_1) := (blk_cell BK283.out 1).trans rfl; have hcz49_2 : w46.cell? ⟨gb283, 2, none⟩ = some (.string a0_2) := (blk_cell BK283.out 2).trans rfl; have hcz49_3 : w46.cell? ⟨gb283, 3, none⟩ = some (.string a0_3) := (blk_cell BK283.out 3).trans rfl; have hfz49_0 := blk_frozen BK283.out 0; have hfz49_1 := blk_frozen BK283.out 1; have hfz49_2 := blk_frozen BK283.out 2; have hfz49_3 := blk_frozen BK283.out 3) | ((with_reducible refine gate_callee (f := 43) rfl ?_); refine goesL_ (some 44) rfl rfl Tryd.func43 (by kernel_rfl) rfl #[.int .i64 a0_1, .int .i64 (rd y285 t284)] rfl (by (try simp only [List.map_toArray, List.map_cons, List.map_nil]); first | done | rfl | (simp only [List.length_drop, List.length_take]; rfl)) ?_; (with_reducible refine (fairwayref0_Num.calls a0_1 (rd y285 t284) true _ A39.out).mono ?_); rintro e w' ⟨rfl, ⟨nd, rfl⟩⟩; refine ⟨_, rfl, ?_⟩))
         go_ret
         exact ⟨by first | rfl | (simp [errW_none, errW_some] <;> rfl) | (simp [*, errW_none, errW_some] <;> rfl), by repeat (first | (with_reducible first | exact HB.out | apply below_alloc | apply pw_below_drewN | apply below_drew1 | refine below_set ?_ GE283.out) | exact HB.out)⟩
        replace c40 := Bool.eq_false_iff.mpr c40
        subst c40
        have H1 : (some false) = some r := by rw [if_neg (show ¬ (false = true) by decide)] at H; exact H
        clear H
        have H := H1
        clear H1
        obtain rfl := Option.some.inj H
        go_wp2_with (first | ((with_reducible refine gate_dst (N := 14) rfl ?_); (try (refine gate_guard (by rfl) ?_; dsimp only)); refine Kd.R_lit (Kd.int .i64) _ 3 ?hg (N := 14) ?hd (xs := ([0, 1, 65535, 4294967295, 268435455] : List Int)) (inner := [.int .i64 0, .int .i64 1, .int .i64 65535, .int .i64 4294967295, .int .i64 268435455]) (ok := fun _ => True) (okp := fun _ => True) ?hr ?hp (fun _ hk => hk) trivial (Below.refl _ _) (Nat.le_refl _) (by simp) ?_; (case hd => rfl); (case hg => rfl); (case hr => first | (go_simp; done) | (go_simp; rfl)); (case hp => exact (Reps.one (show Kd.M (Kd.int .i64) _ _ _ 0 [.int .i64 0] from rfl) (Reps.one (show Kd.M (Kd.int .i64) _ _ _ 1 [.int .i64 1] from rfl) (Reps.one (show Kd.M (Kd.int .i64) _ _ _ 65535 [.int .i64 65535] from rfl) (Reps.one (show Kd.M (Kd.int .i64) _ _ _ 4294967295 [.int .i64 4294967295] from rfl) (Reps.one (show Kd.M (Kd.int .i64) _ _ _ 268435455 [.int .i64 268435455] from rfl) (Reps.none _ _))))))); intro v286 w50 ho51 hb hg_ hnew_; clear hg_ hnew_; (first | rw [← Ny285.out] at ho51 | (simp only [Int.reduceToNat] at ho51; rw [← Ny285.out] at ho51)); have n0_ := Aside0.mk (Kd.R_lower ho51 (below_size (by repeat (first | (with_reducible first | exact HB.out | apply below_alloc | apply pw_below_drewN | apply below_drew1 | refine below_set ?_ GE283.out) | exact HB.out)))); have n1_ := Aside0.mk (blk_below (g := gb283) (o := .cells #[.int .i64 a0_0, .int .i64 a0_1, .string a0_2, .string a0_3] 42 (0, 0)) (by (with_reducible repeat (first | refine blk_drewN ?_ _ | refine blk_drew ?_ | refine blk_alloc ?_ _)); exact BK283.out) hb); have n2_ := Aside0.mk (below_step (by repeat (first | (with_reducible first | exact HB.out | apply below_alloc | apply pw_below_drewN | apply below_drew1 | refine below_set ?_ GE283.out) | exact HB.out)) hb); clear BK283; clear HB; have HO287 := n0_; have BK283 := n1_; have HB := n2_; clear n0_ n1_ n2_; clear hb ho51; obtain ⟨Ao52, co52, eo52⟩ := Kd.R_slice HO287.out; subst eo52; have p288 : 0 ≤ (t284 : Int) := of_decide_eq_true (by first | (with_reducible assumption) | assumption); have q288 : t284 < (y285.length : Int) := of_decide_eq_true (by first | (with_reducible assumption) | assumption); obtain ⟨ad288, e288, hx288_0⟩ := Kd.at_int (Kd.R_reads' HO287.out).2.2 t284 p288 q288; cases e288; replace p288 := eq_true p288; replace q288 := eq_true q288; have hcz53_0 : w50.cell? ⟨gb283, 0, none⟩ = some (.int .i64 a0_0) := (blk_cell BK283.out 0).trans rfl; have hcz53_1 : w50.cell? ⟨gb283, 1, none⟩ = some (.int .i64 a0_1) := (blk_cell BK283.out 1).trans rfl; have hcz53_2 : w50.cell? ⟨gb283, 2, none⟩ = some (.string a0_2) := (blk_cell BK283.out 2).trans rfl; have hcz53_3 : w50.cell? ⟨gb283, 3, none⟩ = some (.string a0_3) := (blk_cell BK283.out 3).trans rfl; have hfz53_0 := blk_frozen BK283.out 0; have hfz53_1 := blk_frozen BK283.out 1; have hfz53_2 := blk_frozen BK283.out 2; have hfz53_3 := blk_frozen BK283.out 3) | ((with_reducible refine gate_callee (f := 43) rfl ?_); refine goesL_ (some 44) rfl rfl Tryd.func43 (by kernel_rfl) rfl #[.int .i64 a0_1, .int .i64 (rd y285 t284)] rfl (by (try simp only [List.map_toArray, List.map_cons, List.map_nil]); first | done | rfl | (simp only [List.length_drop, List.length_take]; rfl)) ?_; (with_reducible refine (fairwayref0_Num.calls a0_1 (rd y285 t284) false _ A39.out).mono ?_); rintro e w' ⟨rfl, ⟨nd, rfl⟩⟩; refine ⟨_, rfl, ?_⟩))
        go_ret
        exact ⟨by first | rfl | (simp [errW_none, errW_some] <;> rfl) | (simp [*, errW_none, errW_some] <;> rfl), by repeat (first | (with_reducible first | exact HB.out | apply below_alloc | apply pw_below_drewN | apply below_drew1 | refine below_set ?_ GE283.out) | exact HB.out)⟩
       rw [if_neg c33] at H
       have c33b0 : (a0_0 == 35) = false := beq_eq_false_iff_ne.mpr c33
       have c33b1 : (a0_0 != 35) = true := bne_iff_ne.mpr c33
       by_cases c54 : a0_0 = 39
       ·
        rw [if_pos c54] at H
        have c54b0 : (a0_0 == 39) = true := beq_iff_eq.mpr c54
        have c54b1 : (a0_0 != 39) = false := bne_eq_false_iff_eq.mpr c54
        clear c54
        by_cases c55 : a0_1 = 0
        ·
         rw [if_pos c55] at H
         have c55b0 : (a0_1 == 0) = true := beq_iff_eq.mpr c55
         have c55b1 : (a0_1 != 0) = false := bne_eq_false_iff_eq.mpr c55
         clear c55
         obtain rfl := Option.some.inj H
         go_wp2_with (first | ((with_reducible refine gate_dst (N := 14) rfl ?_); (try (refine gate_guard (by rfl) ?_; dsimp only)); refine Kd.R_lit (Kd.int .i64) _ 3 ?hg (N := 14) ?hd (xs := ([0, 1, 65535, 4294967295, 268435455] : List Int)) (inner := [.int .i64 0, .int .i64 1, .int .i64 65535, .int .i64 4294967295, .int .i64 268435455]) (ok := fun _ => True) (okp := fun _ => True) ?hr ?hp (fun _ hk => hk) trivial (Below.refl _ _) (Nat.le_refl _) (by simp) ?_; (case hd => rfl); (case hg => rfl); (case hr => first | (go_simp; done) | (go_simp; rfl)); (case hp => exact (Reps.one (show Kd.M (Kd.int .i64) _ _ _ 0 [.int .i64 0] from rfl) (Reps.one (show Kd.M (Kd.int .i64) _ _ _ 1 [.int .i64 1] from rfl) (Reps.one (show Kd.M (Kd.int .i64) _ _ _ 65535 [.int .i64 65535] from rfl) (Reps.one (show Kd.M (Kd.int .i64) _ _ _ 4294967295 [.int .i64 4294967295] from rfl) (Reps.one (show Kd.M (Kd.int .i64) _ _ _ 268435455 [.int .i64 268435455] from rfl) (Reps.none _ _))))))); intro v286 w56 ho57 hb hg_ hnew_; clear hg_ hnew_; (first | rw [← Ny285.out] at ho57 | (simp only [Int.reduceToNat] at ho57; rw [← Ny285.out] at ho57)); have n0_ := Aside0.mk (Kd.R_lower ho57 (below_size (by repeat (first | (with_reducible first | exact HB.out | apply below_alloc | apply pw_below_drewN | apply below_drew1 | refine below_set ?_ GE283.out) | exact HB.out)))); have n1_ := Aside0.mk (blk_below (g := gb283) (o := .cells #[.int .i64 a0_0, .int .i64 a0_1, .string a0_2, .string a0_3] 42 (0, 0)) (by (with_reducible repeat (first | refine blk_drewN ?_ _ | refine blk_drew ?_ | refine blk_alloc ?_ _)); exact BK283.out) hb); have n2_ := Aside0.mk (below_step (by repeat (first | (with_reducible first | exact HB.out | apply below_alloc | apply pw_below_drewN | apply below_drew1 | refine below_set ?_ GE283.out) | exact HB.out)) hb); clear BK283; clear HB; have HO287 := n0_; have BK283 := n1_; have HB := n2_; clear n0_ n1_ n2_; clear hb ho57; obtain ⟨Ao58, co58, eo58⟩ := Kd.R_slice HO287.out; subst eo58; have p288 : 0 ≤ (t284 : Int) := of_decide_eq_true (by first | (with_reducible assumption) | assumption); have q288 : t284 < (y285.length : Int) := of_decide_eq_true (by first | (with_reducible assumption) | assumption); obtain ⟨ad288, e288, hx288_0⟩ := Kd.at_int (Kd.R_reads' HO287.out).2.2 t284 p288 q288; cases e288; replace p288 := eq_true p288; replace q288 := eq_true q288; have hcz59_0 : w56.cell? ⟨gb283, 0, none⟩ = some (.int .i64 a0_0) := (blk_cell BK283.out 0).trans rfl; have hcz59_1 : w56.cell? ⟨gb283, 1, none⟩ = some (.int .i64 a0_1) := (blk_cell BK283.out 1).trans rfl; have hcz59_2 : w56.cell? ⟨gb283, 2, none⟩ = some (.string a0_2) := (blk_cell BK283.out 2).trans rfl; have hcz59_3 : w56.cell? ⟨gb283, 3, none⟩ = some (.string a0_3) := (blk_cell BK283.out 3).trans rfl; have hfz59_0 := blk_frozen BK283.out 0; have hfz59_1 := blk_frozen BK283.out 1; have hfz59_2 := blk_frozen BK283.out 2; have hfz59_3 := blk_frozen BK283.out 3))
         go_ret
         exact ⟨by first | rfl | (simp [errW_none, errW_some] <;> rfl) | (simp [*, errW_none, errW_some] <;> rfl), by repeat (first | (with_reducible first | exact HB.out | apply below_alloc | apply pw_below_drewN | apply below_drew1 | refine below_set ?_ GE283.out) | exact HB.out)⟩
        rw [if_neg c55] at H
        have c55b0 : (a0_1 == 0) = false := beq_eq_false_iff_ne.mpr c55
        have c55b1 : (a0_1 != 0) = true := bne_iff_ne.mpr c55
        replace H := Option.bind_eq_some_iff.mp H
        obtain ⟨t291, A600, H⟩ := H
        replace H : (if t291 = true then (if a0_2.toList = ([] : List UInt8) then (some (a0_3.toList == ([] : List UInt8))) else (some false)) else (some false)) = some r := H
        have A60 := Aside0.mk A600
        clear A600
        by_cases c61 : t291 = true
        ·
         subst c61
         have H1 : (if a0_2.toList = ([] : List UInt8) then (some (a0_3.toList == ([] : List UInt8))) else (some false)) = some r := by rw [if_pos rfl] at H; exact H
         clear H
         have H := H1
         clear H1
         by_cases c62 : a0_2.toList = ([] : List UInt8)
         ·
          rw [if_pos c62] at H
          have c62b0 : (a0_2.toList == ([] : List UInt8)) = true := beq_iff_eq.mpr c62
          have c62b1 : (a0_2.toList != ([] : List UInt8)) = false := bne_eq_false_iff_eq.mpr c62
          clear c62
          obtain rfl := Option.some.inj H
          go_wp2_with (first | ((with_reducible refine gate_dst (N := 14) rfl ?_); (try (refine gate_guard (by rfl) ?_; dsimp only)); refine Kd.R_lit (Kd.int .i64) _ 3 ?hg (N := 14) ?hd (xs := ([0, 1, 65535, 4294967295, 268435455] : List Int)) (inner := [.int .i64 0, .int .i64 1, .int .i64 65535, .int .i64 4294967295, .int .i64 268435455]) (ok := fun _ => True) (okp := fun _ => True) ?hr ?hp (fun _ hk => hk) trivial (Below.refl _ _) (Nat.le_refl _) (by simp) ?_; (case hd => rfl); (case hg => rfl); (case hr => first | (go_simp; done) | (go_simp; rfl)); (case hp => exact (Reps.one (show Kd.M (Kd.int .i64) _ _ _ 0 [.int .i64 0] from rfl) (Reps.one (show Kd.M (Kd.int .i64) _ _ _ 1 [.int .i64 1] from rfl) (Reps.one (show Kd.M (Kd.int .i64) _ _ _ 65535 [.int .i64 65535] from rfl) (Reps.one (show Kd.M (Kd.int .i64) _ _ _ 4294967295 [.int .i64 4294967295] from rfl) (Reps.one (show Kd.M (Kd.int .i64) _ _ _ 268435455 [.int .i64 268435455] from rfl) (Reps.none _ _))))))); intro v286 w63 ho64 hb hg_ hnew_; clear hg_ hnew_; (first | rw [← Ny285.out] at ho64 | (simp only [Int.reduceToNat] at ho64; rw [← Ny285.out] at ho64)); have n0_ := Aside0.mk (Kd.R_lower ho64 (below_size (by repeat (first | (with_reducible first | exact HB.out | apply below_alloc | apply pw_below_drewN | apply below_drew1 | refine below_set ?_ GE283.out) | exact HB.out)))); have n1_ := Aside0.mk (blk_below (g := gb283) (o := .cells #[.int .i64 a0_0, .int .i64 a0_1, .string a0_2, .string a0_3] 42 (0, 0)) (by (with_reducible repeat (first | refine blk_drewN ?_ _ | refine blk_drew ?_ | refine blk_alloc ?_ _)); exact BK283.out) hb); have n2_ := Aside0.mk (below_step (by repeat (first | (with_reducible first | exact HB.out | apply below_alloc | apply pw_below_drewN | apply below_drew1 | refine below_set ?_ GE283.out) | exact HB.out)) hb); clear BK283; clear HB; have HO287 := n0_; have BK283 := n1_; have HB := n2_; clear n0_ n1_ n2_; clear hb ho64; obtain ⟨Ao65, co65, eo65⟩ := Kd.R_slice HO287.out; subst eo65; have p288 : 0 ≤ (t284 : Int) := of_decide_eq_true (by first | (with_reducible assumption) | assumption); have q288 : t284 < (y285.length : Int) := of_decide_eq_true (by first | (with_reducible assumption) | assumption); obtain ⟨ad288, e288, hx288_0⟩ := Kd.at_int (Kd.R_reads' HO287.out).2.2 t284 p288 q288; cases e288; replace p288 := eq_true p288; replace q288 := eq_true q288; have hcz66_0 : w63.cell? ⟨gb283, 0, none⟩ = some (.int .i64 a0_0) := (blk_cell BK283.out 0).trans rfl; have hcz66_1 : w63.cell? ⟨gb283, 1, none⟩ = some (.int .i64 a0_1) := (blk_cell BK283.out 1).trans rfl; have hcz66_2 : w63.cell? ⟨gb283, 2, none⟩ = some (.string a0_2) := (blk_cell BK283.out 2).trans rfl; have hcz66_3 : w63.cell? ⟨gb283, 3, none⟩ = some (.string a0_3) := (blk_cell BK283.out 3).trans rfl; have hfz66_0 := blk_frozen BK283.out 0; have hfz66_1 := blk_frozen BK283.out 1; have hfz66_2 := blk_frozen BK283.out 2; have hfz66_3 := blk_frozen BK283.out 3) | ((with_reducible refine gate_callee (f := 43) rfl ?_); refine goesL_ (some 44) rfl rfl Tryd.func43 (by kernel_rfl) rfl #[.int .i64 a0_1, .int .i64 (rd y285 t284)] rfl (by (try simp only [List.map_toArray, List.map_cons, List.map_nil]); first | done | rfl | (simp only [List.length_drop, List.length_take]; rfl)) ?_; (with_reducible refine (fairwayref0_Num.calls a0_1 (rd y285 t284) true _ A60.out).mono ?_); rintro e w' ⟨rfl, ⟨nd, rfl⟩⟩; refine ⟨_, rfl, ?_⟩))
          go_ret
          exact ⟨by first | rfl | (simp [errW_none, errW_some] <;> rfl) | (simp [*, errW_none, errW_some] <;> rfl), by repeat (first | (with_reducible first | exact HB.out | apply below_alloc | apply pw_below_drewN | apply below_drew1 | refine below_set ?_ GE283.out) | exact HB.out)⟩
         rw [if_neg c62] at H
         have c62b0 : (a0_2.toList == ([] : List UInt8)) = false := beq_eq_false_iff_ne.mpr c62
         have c62b1 : (a0_2.toList != ([] : List UInt8)) = true := bne_iff_ne.mpr c62
         obtain rfl := Option.some.inj H
         go_wp2_with (first | ((with_reducible refine gate_dst (N := 14) rfl ?_); (try (refine gate_guard (by rfl) ?_; dsimp only)); refine Kd.R_lit (Kd.int .i64) _ 3 ?hg (N := 14) ?hd (xs := ([0, 1, 65535, 4294967295, 268435455] : List Int)) (inner := [.int .i64 0, .int .i64 1, .int .i64 65535, .int .i64 4294967295, .int .i64 268435455]) (ok := fun _ => True) (okp := fun _ => True) ?hr ?hp (fun _ hk => hk) trivial (Below.refl _ _) (Nat.le_refl _) (by simp) ?_; (case hd => rfl); (case hg => rfl); (case hr => first | (go_simp; done) | (go_simp; rfl)); (case hp => exact (Reps.one (show Kd.M (Kd.int .i64) _ _ _ 0 [.int .i64 0] from rfl) (Reps.one (show Kd.M (Kd.int .i64) _ _ _ 1 [.int .i64 1] from rfl) (Reps.one (show Kd.M (Kd.int .i64) _ _ _ 65535 [.int .i64 65535] from rfl) (Reps.one (show Kd.M (Kd.int .i64) _ _ _ 4294967295 [.int .i64 4294967295] from rfl) (Reps.one (show Kd.M (Kd.int .i64) _ _ _ 268435455 [.int .i64 268435455] from rfl) (Reps.none _ _))))))); intro v286 w67 ho68 hb hg_ hnew_; clear hg_ hnew_; (first | rw [← Ny285.out] at ho68 | (simp only [Int.reduceToNat] at ho68; rw [← Ny285.out] at ho68)); have n0_ := Aside0.mk (Kd.R_lower ho68 (below_size (by repeat (first | (with_reducible first | exact HB.out | apply below_alloc | apply pw_below_drewN | apply below_drew1 | refine below_set ?_ GE283.out) | exact HB.out)))); have n1_ := Aside0.mk (blk_below (g := gb283) (o := .cells #[.int .i64 a0_0, .int .i64 a0_1, .string a0_2, .string a0_3] 42 (0, 0)) (by (with_reducible repeat (first | refine blk_drewN ?_ _ | refine blk_drew ?_ | refine blk_alloc ?_ _)); exact BK283.out) hb); have n2_ := Aside0.mk (below_step (by repeat (first | (with_reducible first | exact HB.out | apply below_alloc | apply pw_below_drewN | apply below_drew1 | refine below_set ?_ GE283.out) | exact HB.out)) hb); clear BK283; clear HB; have HO287 := n0_; have BK283 := n1_; have HB := n2_; clear n0_ n1_ n2_; clear hb ho68; obtain ⟨Ao69, co69, eo69⟩ := Kd.R_slice HO287.out; subst eo69; have p288 : 0 ≤ (t284 : Int) := of_decide_eq_true (by first | (with_reducible assumption) | assumption); have q288 : t284 < (y285.length : Int) := of_decide_eq_true (by first | (with_reducible assumption) | assumption); obtain ⟨ad288, e288, hx288_0⟩ := Kd.at_int (Kd.R_reads' HO287.out).2.2 t284 p288 q288; cases e288; replace p288 := eq_true p288; replace q288 := eq_true q288; have hcz70_0 : w67.cell? ⟨gb283, 0, none⟩ = some (.int .i64 a0_0) := (blk_cell BK283.out 0).trans rfl; have hcz70_1 : w67.cell? ⟨gb283, 1, none⟩ = some (.int .i64 a0_1) := (blk_cell BK283.out 1).trans rfl; have hcz70_2 : w67.cell? ⟨gb283, 2, none⟩ = some (.string a0_2) := (blk_cell BK283.out 2).trans rfl; have hcz70_3 : w67.cell? ⟨gb283, 3, none⟩ = some (.string a0_3) := (blk_cell BK283.out 3).trans rfl; have hfz70_0 := blk_frozen BK283.out 0; have hfz70_1 := blk_frozen BK283.out 1; have hfz70_2 := blk_frozen BK283.out 2; have hfz70_3 := blk_frozen BK283.out 3) | ((with_reducible refine gate_callee (f := 43) rfl ?_); refine goesL_ (some 44) rfl rfl Tryd.func43 (by kernel_rfl) rfl #[.int .i64 a0_1, .int .i64 (rd y285 t284)] rfl (by (try simp only [List.map_toArray, List.map_cons, List.map_nil]); first | done | rfl | (simp only [List.length_drop, List.length_take]; rfl)) ?_; (with_reducible refine (fairwayref0_Num.calls a0_1 (rd y285 t284) true _ A60.out).mono ?_); rintro e w' ⟨rfl, ⟨nd, rfl⟩⟩; refine ⟨_, rfl, ?_⟩))
         go_ret
         exact ⟨by first | rfl | (simp [errW_none, errW_some] <;> rfl) | (simp [*, errW_none, errW_some] <;> rfl), by repeat (first | (with_reducible first | exact HB.out | apply below_alloc | apply pw_below_drewN | apply below_drew1 | refine below_set ?_ GE283.out) | exact HB.out)⟩
        replace c61 := Bool.eq_false_iff.mpr c61
        subst c61
        have H1 : (some false) = some r := by rw [if_neg (show ¬ (false = true) by decide)] at H; exact H
        clear H
        have H := H1
        clear H1
        obtain rfl := Option.some.inj H
        go_wp2_with (first | ((with_reducible refine gate_dst (N := 14) rfl ?_); (try (refine gate_guard (by rfl) ?_; dsimp only)); refine Kd.R_lit (Kd.int .i64) _ 3 ?hg (N := 14) ?hd (xs := ([0, 1, 65535, 4294967295, 268435455] : List Int)) (inner := [.int .i64 0, .int .i64 1, .int .i64 65535, .int .i64 4294967295, .int .i64 268435455]) (ok := fun _ => True) (okp := fun _ => True) ?hr ?hp (fun _ hk => hk) trivial (Below.refl _ _) (Nat.le_refl _) (by simp) ?_; (case hd => rfl); (case hg => rfl); (case hr => first | (go_simp; done) | (go_simp; rfl)); (case hp => exact (Reps.one (show Kd.M (Kd.int .i64) _ _ _ 0 [.int .i64 0] from rfl) (Reps.one (show Kd.M (Kd.int .i64) _ _ _ 1 [.int .i64 1] from rfl) (Reps.one (show Kd.M (Kd.int .i64) _ _ _ 65535 [.int .i64 65535] from rfl) (Reps.one (show Kd.M (Kd.int .i64) _ _ _ 4294967295 [.int .i64 4294967295] from rfl) (Reps.one (show Kd.M (Kd.int .i64) _ _ _ 268435455 [.int .i64 268435455] from rfl) (Reps.none _ _))))))); intro v286 w71 ho72 hb hg_ hnew_; clear hg_ hnew_; (first | rw [← Ny285.out] at ho72 | (simp only [Int.reduceToNat] at ho72; rw [← Ny285.out] at ho72)); have n0_ := Aside0.mk (Kd.R_lower ho72 (below_size (by repeat (first | (with_reducible first | exact HB.out | apply below_alloc | apply pw_below_drewN | apply below_drew1 | refine below_set ?_ GE283.out) | exact HB.out)))); have n1_ := Aside0.mk (blk_below (g := gb283) (o := .cells #[.int .i64 a0_0, .int .i64 a0_1, .string a0_2, .string a0_3] 42 (0, 0)) (by (with_reducible repeat (first | refine blk_drewN ?_ _ | refine blk_drew ?_ | refine blk_alloc ?_ _)); exact BK283.out) hb); have n2_ := Aside0.mk (below_step (by repeat (first | (with_reducible first | exact HB.out | apply below_alloc | apply pw_below_drewN | apply below_drew1 | refine below_set ?_ GE283.out) | exact HB.out)) hb); clear BK283; clear HB; have HO287 := n0_; have BK283 := n1_; have HB := n2_; clear n0_ n1_ n2_; clear hb ho72; obtain ⟨Ao73, co73, eo73⟩ := Kd.R_slice HO287.out; subst eo73; have p288 : 0 ≤ (t284 : Int) := of_decide_eq_true (by first | (with_reducible assumption) | assumption); have q288 : t284 < (y285.length : Int) := of_decide_eq_true (by first | (with_reducible assumption) | assumption); obtain ⟨ad288, e288, hx288_0⟩ := Kd.at_int (Kd.R_reads' HO287.out).2.2 t284 p288 q288; cases e288; replace p288 := eq_true p288; replace q288 := eq_true q288; have hcz74_0 : w71.cell? ⟨gb283, 0, none⟩ = some (.int .i64 a0_0) := (blk_cell BK283.out 0).trans rfl; have hcz74_1 : w71.cell? ⟨gb283, 1, none⟩ = some (.int .i64 a0_1) := (blk_cell BK283.out 1).trans rfl; have hcz74_2 : w71.cell? ⟨gb283, 2, none⟩ = some (.string a0_2) := (blk_cell BK283.out 2).trans rfl; have hcz74_3 : w71.cell? ⟨gb283, 3, none⟩ = some (.string a0_3) := (blk_cell BK283.out 3).trans rfl; have hfz74_0 := blk_frozen BK283.out 0; have hfz74_1 := blk_frozen BK283.out 1; have hfz74_2 := blk_frozen BK283.out 2; have hfz74_3 := blk_frozen BK283.out 3) | ((with_reducible refine gate_callee (f := 43) rfl ?_); refine goesL_ (some 44) rfl rfl Tryd.func43 (by kernel_rfl) rfl #[.int .i64 a0_1, .int .i64 (rd y285 t284)] rfl (by (try simp only [List.map_toArray, List.map_cons, List.map_nil]); first | done | rfl | (simp only [List.length_drop, List.length_take]; rfl)) ?_; (with_reducible refine (fairwayref0_Num.calls a0_1 (rd y285 t284) false _ A60.out).mono ?_); rintro e w' ⟨rfl, ⟨nd, rfl⟩⟩; refine ⟨_, rfl, ?_⟩))
        go_ret
        exact ⟨by first | rfl | (simp [errW_none, errW_some] <;> rfl) | (simp [*, errW_none, errW_some] <;> rfl), by repeat (first | (with_reducible first | exact HB.out | apply below_alloc | apply pw_below_drewN | apply below_drew1 | refine below_set ?_ GE283.out) | exact HB.out)⟩
       rw [if_neg c54] at H
       have c54b0 : (a0_0 == 39) = false := beq_eq_false_iff_ne.mpr c54
       have c54b1 : (a0_0 != 39) = true := bne_iff_ne.mpr c54
       by_cases c75 : a0_0 = 11
       ·
        rw [if_pos c75] at H
        have c75b0 : (a0_0 == 11) = true := beq_iff_eq.mpr c75
        have c75b1 : (a0_0 != 11) = false := bne_eq_false_iff_eq.mpr c75
        clear c75
        by_cases c76 : a0_1 = 0
        ·
         rw [if_pos c76] at H
         have c76b0 : (a0_1 == 0) = true := beq_iff_eq.mpr c76
         have c76b1 : (a0_1 != 0) = false := bne_eq_false_iff_eq.mpr c76
         clear c76
         obtain rfl := Option.some.inj H
         go_wp2_with (first | ((with_reducible refine gate_dst (N := 14) rfl ?_); (try (refine gate_guard (by rfl) ?_; dsimp only)); refine Kd.R_lit (Kd.int .i64) _ 3 ?hg (N := 14) ?hd (xs := ([0, 1, 65535, 4294967295, 268435455] : List Int)) (inner := [.int .i64 0, .int .i64 1, .int .i64 65535, .int .i64 4294967295, .int .i64 268435455]) (ok := fun _ => True) (okp := fun _ => True) ?hr ?hp (fun _ hk => hk) trivial (Below.refl _ _) (Nat.le_refl _) (by simp) ?_; (case hd => rfl); (case hg => rfl); (case hr => first | (go_simp; done) | (go_simp; rfl)); (case hp => exact (Reps.one (show Kd.M (Kd.int .i64) _ _ _ 0 [.int .i64 0] from rfl) (Reps.one (show Kd.M (Kd.int .i64) _ _ _ 1 [.int .i64 1] from rfl) (Reps.one (show Kd.M (Kd.int .i64) _ _ _ 65535 [.int .i64 65535] from rfl) (Reps.one (show Kd.M (Kd.int .i64) _ _ _ 4294967295 [.int .i64 4294967295] from rfl) (Reps.one (show Kd.M (Kd.int .i64) _ _ _ 268435455 [.int .i64 268435455] from rfl) (Reps.none _ _))))))); intro v286 w77 ho78 hb hg_ hnew_; clear hg_ hnew_; (first | rw [← Ny285.out] at ho78 | (simp only [Int.reduceToNat] at ho78; rw [← Ny285.out] at ho78)); have n0_ := Aside0.mk (Kd.R_lower ho78 (below_size (by repeat (first | (with_reducible first | exact HB.out | apply below_alloc | apply pw_below_drewN | apply below_drew1 | refine below_set ?_ GE283.out) | exact HB.out)))); have n1_ := Aside0.mk (blk_below (g := gb283) (o := .cells #[.int .i64 a0_0, .int .i64 a0_1, .string a0_2, .string a0_3] 42 (0, 0)) (by (with_reducible repeat (first | refine blk_drewN ?_ _ | refine blk_drew ?_ | refine blk_alloc ?_ _)); exact BK283.out) hb); have n2_ := Aside0.mk (below_step (by repeat (first | (with_reducible first | exact HB.out | apply below_alloc | apply pw_below_drewN | apply below_drew1 | refine below_set ?_ GE283.out) | exact HB.out)) hb); clear BK283; clear HB; have HO287 := n0_; have BK283 := n1_; have HB := n2_; clear n0_ n1_ n2_; clear hb ho78; obtain ⟨Ao79, co79, eo79⟩ := Kd.R_slice HO287.out; subst eo79; have p288 : 0 ≤ (t284 : Int) := of_decide_eq_true (by first | (with_reducible assumption) | assumption); have q288 : t284 < (y285.length : Int) := of_decide_eq_true (by first | (with_reducible assumption) | assumption); obtain ⟨ad288, e288, hx288_0⟩ := Kd.at_int (Kd.R_reads' HO287.out).2.2 t284 p288 q288; cases e288; replace p288 := eq_true p288; replace q288 := eq_true q288; have hcz80_0 : w77.cell? ⟨gb283, 0, none⟩ = some (.int .i64 a0_0) := (blk_cell BK283.out 0).trans rfl; have hcz80_1 : w77.cell? ⟨gb283, 1, none⟩ = some (.int .i64 a0_1) := (blk_cell BK283.out 1).trans rfl; have hcz80_2 : w77.cell? ⟨gb283, 2, none⟩ = some (.string a0_2) := (blk_cell BK283.out 2).trans rfl; have hcz80_3 : w77.cell? ⟨gb283, 3, none⟩ = some (.string a0_3) := (blk_cell BK283.out 3).trans rfl; have hfz80_0 := blk_frozen BK283.out 0; have hfz80_1 := blk_frozen BK283.out 1; have hfz80_2 := blk_frozen BK283.out 2; have hfz80_3 := blk_frozen BK283.out 3))
         go_ret
         exact ⟨by first | rfl | (simp [errW_none, errW_some] <;> rfl) | (simp [*, errW_none, errW_some] <;> rfl), by repeat (first | (with_reducible first | exact HB.out | apply below_alloc | apply pw_below_drewN | apply below_drew1 | refine below_set ?_ GE283.out) | exact HB.out)⟩
        rw [if_neg c76] at H
        have c76b0 : (a0_1 == 0) = false := beq_eq_false_iff_ne.mpr c76
        have c76b1 : (a0_1 != 0) = true := bne_iff_ne.mpr c76
        replace H := Option.bind_eq_some_iff.mp H
        obtain ⟨t292, A810, H⟩ := H
        replace H : (if t292 = true then (if a0_2.toList = ([] : List UInt8) then (some (a0_3.toList == ([] : List UInt8))) else (some false)) else (some false)) = some r := H
        have A81 := Aside0.mk A810
        clear A810
        by_cases c82 : t292 = true
        ·
         subst c82
         have H1 : (if a0_2.toList = ([] : List UInt8) then (some (a0_3.toList == ([] : List UInt8))) else (some false)) = some r := by rw [if_pos rfl] at H; exact H
         clear H
         have H := H1
         clear H1
         by_cases c83 : a0_2.toList = ([] : List UInt8)
         ·
          rw [if_pos c83] at H
          have c83b0 : (a0_2.toList == ([] : List UInt8)) = true := beq_iff_eq.mpr c83
          have c83b1 : (a0_2.toList != ([] : List UInt8)) = false := bne_eq_false_iff_eq.mpr c83
          clear c83
          obtain rfl := Option.some.inj H
          go_wp2_with (first | ((with_reducible refine gate_dst (N := 14) rfl ?_); (try (refine gate_guard (by rfl) ?_; dsimp only)); refine Kd.R_lit (Kd.int .i64) _ 3 ?hg (N := 14) ?hd (xs := ([0, 1, 65535, 4294967295, 268435455] : List Int)) (inner := [.int .i64 0, .int .i64 1, .int .i64 65535, .int .i64 4294967295, .int .i64 268435455]) (ok := fun _ => True) (okp := fun _ => True) ?hr ?hp (fun _ hk => hk) trivial (Below.refl _ _) (Nat.le_refl _) (by simp) ?_; (case hd => rfl); (case hg => rfl); (case hr => first | (go_simp; done) | (go_simp; rfl)); (case hp => exact (Reps.one (show Kd.M (Kd.int .i64) _ _ _ 0 [.int .i64 0] from rfl) (Reps.one (show Kd.M (Kd.int .i64) _ _ _ 1 [.int .i64 1] from rfl) (Reps.one (show Kd.M (Kd.int .i64) _ _ _ 65535 [.int .i64 65535] from rfl) (Reps.one (show Kd.M (Kd.int .i64) _ _ _ 4294967295 [.int .i64 4294967295] from rfl) (Reps.one (show Kd.M (Kd.int .i64) _ _ _ 268435455 [.int .i64 268435455] from rfl) (Reps.none _ _))))))); intro v286 w84 ho85 hb hg_ hnew_; clear hg_ hnew_; (first | rw [← Ny285.out] at ho85 | (simp only [Int.reduceToNat] at ho85; rw [← Ny285.out] at ho85)); have n0_ := Aside0.mk (Kd.R_lower ho85 (below_size (by repeat (first | (with_reducible first | exact HB.out | apply below_alloc | apply pw_below_drewN | apply below_drew1 | refine below_set ?_ GE283.out) | exact HB.out)))); have n1_ := Aside0.mk (blk_below (g := gb283) (o := .cells #[.int .i64 a0_0, .int .i64 a0_1, .string a0_2, .string a0_3] 42 (0, 0)) (by (with_reducible repeat (first | refine blk_drewN ?_ _ | refine blk_drew ?_ | refine blk_alloc ?_ _)); exact BK283.out) hb); have n2_ := Aside0.mk (below_step (by repeat (first | (with_reducible first | exact HB.out | apply below_alloc | apply pw_below_drewN | apply below_drew1 | refine below_set ?_ GE283.out) | exact HB.out)) hb); clear BK283; clear HB; have HO287 := n0_; have BK283 := n1_; have HB := n2_; clear n0_ n1_ n2_; clear hb ho85; obtain ⟨Ao86, co86, eo86⟩ := Kd.R_slice HO287.out; subst eo86; have p288 : 0 ≤ (t284 : Int) := of_decide_eq_true (by first | (with_reducible assumption) | assumption); have q288 : t284 < (y285.length : Int) := of_decide_eq_true (by first | (with_reducible assumption) | assumption); obtain ⟨ad288, e288, hx288_0⟩ := Kd.at_int (Kd.R_reads' HO287.out).2.2 t284 p288 q288; cases e288; replace p288 := eq_true p288; replace q288 := eq_true q288; have hcz87_0 : w84.cell? ⟨gb283, 0, none⟩ = some (.int .i64 a0_0) := (blk_cell BK283.out 0).trans rfl; have hcz87_1 : w84.cell? ⟨gb283, 1, none⟩ = some (.int .i64 a0_1) := (blk_cell BK283.out 1).trans rfl; have hcz87_2 : w84.cell? ⟨gb283, 2, none⟩ = some (.string a0_2) := (blk_cell BK283.out 2).trans rfl; have hcz87_3 : w84.cell? ⟨gb283, 3, none⟩ = some (.string a0_3) := (blk_cell BK283.out 3).trans rfl; have hfz87_0 := blk_frozen BK283.out 0; have hfz87_1 := blk_frozen BK283.out 1; have hfz87_2 := blk_frozen BK283.out 2; have hfz87_3 := blk_frozen BK283.out 3) | ((with_reducible refine gate_callee (f := 43) rfl ?_); refine goesL_ (some 44) rfl rfl Tryd.func43 (by kernel_rfl) rfl #[.int .i64 a0_1, .int .i64 (rd y285 t284)] rfl (by (try simp only [List.map_toArray, List.map_cons, List.map_nil]); first | done | rfl | (simp only [List.length_drop, List.length_take]; rfl)) ?_; (with_reducible refine (fairwayref0_Num.calls a0_1 (rd y285 t284) true _ A81.out).mono ?_); rintro e w' ⟨rfl, ⟨nd, rfl⟩⟩; refine ⟨_, rfl, ?_⟩))
          go_ret
          exact ⟨by first | rfl | (simp [errW_none, errW_some] <;> rfl) | (simp [*, errW_none, errW_some] <;> rfl), by repeat (first | (with_reducible first | exact HB.out | apply below_alloc | apply pw_below_drewN | apply below_drew1 | refine below_set ?_ GE283.out) | exact HB.out)⟩
         rw [if_neg c83] at H
         have c83b0 : (a0_2.toList == ([] : List UInt8)) = false := beq_eq_false_iff_ne.mpr c83
         have c83b1 : (a0_2.toList != ([] : List UInt8)) = true := bne_iff_ne.mpr c83
         obtain rfl := Option.some.inj H
         go_wp2_with (first | ((with_reducible refine gate_dst (N := 14) rfl ?_); (try (refine gate_guard (by rfl) ?_; dsimp only)); refine Kd.R_lit (Kd.int .i64) _ 3 ?hg (N := 14) ?hd (xs := ([0, 1, 65535, 4294967295, 268435455] : List Int)) (inner := [.int .i64 0, .int .i64 1, .int .i64 65535, .int .i64 4294967295, .int .i64 268435455]) (ok := fun _ => True) (okp := fun _ => True) ?hr ?hp (fun _ hk => hk) trivial (Below.refl _ _) (Nat.le_refl _) (by simp) ?_; (case hd => rfl); (case hg => rfl); (case hr => first | (go_simp; done) | (go_simp; rfl)); (case hp => exact (Reps.one (show Kd.M (Kd.int .i64) _ _ _ 0 [.int .i64 0] from rfl) (Reps.one (show Kd.M (Kd.int .i64) _ _ _ 1 [.int .i64 1] from rfl) (Reps.one (show Kd.M (Kd.int .i64) _ _ _ 65535 [.int .i64 65535] from rfl) (Reps.one (show Kd.M (Kd.int .i64) _ _ _ 4294967295 [.int .i64 4294967295] from rfl) (Reps.one (show Kd.M (Kd.int .i64) _ _ _ 268435455 [.int .i64 268435455] from rfl) (Reps.none _ _))))))); intro v286 w88 ho89 hb hg_ hnew_; clear hg_ hnew_; (first | rw [← Ny285.out] at ho89 | (simp only [Int.reduceToNat] at ho89; rw [← Ny285.out] at ho89)); have n0_ := Aside0.mk (Kd.R_lower ho89 (below_size (by repeat (first | (with_reducible first | exact HB.out | apply below_alloc | apply pw_below_drewN | apply below_drew1 | refine below_set ?_ GE283.out) | exact HB.out)))); have n1_ := Aside0.mk (blk_below (g := gb283) (o := .cells #[.int .i64 a0_0, .int .i64 a0_1, .string a0_2, .string a0_3] 42 (0, 0)) (by (with_reducible repeat (first | refine blk_drewN ?_ _ | refine blk_drew ?_ | refine blk_alloc ?_ _)); exact BK283.out) hb); have n2_ := Aside0.mk (below_step (by repeat (first | (with_reducible first | exact HB.out | apply below_alloc | apply pw_below_drewN | apply below_drew1 | refine below_set ?_ GE283.out) | exact HB.out)) hb); clear BK283; clear HB; have HO287 := n0_; have BK283 := n1_; have HB := n2_; clear n0_ n1_ n2_; clear hb ho89; obtain ⟨Ao90, co90, eo90⟩ := Kd.R_slice HO287.out; subst eo90; have p288 : 0 ≤ (t284 : Int) := of_decide_eq_true (by first | (with_reducible assumption) | assumption); have q288 : t284 < (y285.length : Int) := of_decide_eq_true (by first | (with_reducible assumption) | assumption); obtain ⟨ad288, e288, hx288_0⟩ := Kd.at_int (Kd.R_reads' HO287.out).2.2 t284 p288 q288; cases e288; replace p288 := eq_true p288; replace q288 := eq_true q288; have hcz91_0 : w88.cell? ⟨gb283, 0, none⟩ = some (.int .i64 a0_0) := (blk_cell BK283.out 0).trans rfl; have hcz91_1 : w88.cell? ⟨gb283, 1, none⟩ = some (.int .i64 a0_1) := (blk_cell BK283.out 1).trans rfl; have hcz91_2 : w88.cell? ⟨gb283, 2, none⟩ = some (.string a0_2) := (blk_cell BK283.out 2).trans rfl; have hcz91_3 : w88.cell? ⟨gb283, 3, none⟩ = some (.string a0_3) := (blk_cell BK283.out 3).trans rfl; have hfz91_0 := blk_frozen BK283.out 0; have hfz91_1 := blk_frozen BK283.out 1; have hfz91_2 := blk_frozen BK283.out 2; have hfz91_3 := blk_frozen BK283.out 3) | ((with_reducible refine gate_callee (f := 43) rfl ?_); refine goesL_ (some 44) rfl rfl Tryd.func43 (by kernel_rfl) rfl #[.int .i64 a0_1, .int .i64 (rd y285 t284)] rfl (by (try simp only [List.map_toArray, List.map_cons, List.map_nil]); first | done | rfl | (simp only [List.length_drop, List.length_take]; rfl)) ?_; (with_reducible refine (fairwayref0_Num.calls a0_1 (rd y285 t284) true _ A81.out).mono ?_); rintro e w' ⟨rfl, ⟨nd, rfl⟩⟩; refine ⟨_, rfl, ?_⟩))
         go_ret
         exact ⟨by first | rfl | (simp [errW_none, errW_some] <;> rfl) | (simp [*, errW_none, errW_some] <;> rfl), by repeat (first | (with_reducible first | exact HB.out | apply below_alloc | apply pw_below_drewN | apply below_drew1 | refine below_set ?_ GE283.out) | exact HB.out)⟩
        replace c82 := Bool.eq_false_iff.mpr c82
        subst c82
        have H1 : (some false) = some r := by rw [if_neg (show ¬ (false = true) by decide)] at H; exact H
        clear H
        have H := H1
        clear H1
        obtain rfl := Option.some.inj H
        go_wp2_with (first | ((with_reducible refine gate_dst (N := 14) rfl ?_); (try (refine gate_guard (by rfl) ?_; dsimp only)); refine Kd.R_lit (Kd.int .i64) _ 3 ?hg (N := 14) ?hd (xs := ([0, 1, 65535, 4294967295, 268435455] : List Int)) (inner := [.int .i64 0, .int .i64 1, .int .i64 65535, .int .i64 4294967295, .int .i64 268435455]) (ok := fun _ => True) (okp := fun _ => True) ?hr ?hp (fun _ hk => hk) trivial (Below.refl _ _) (Nat.le_refl _) (by simp) ?_; (case hd => rfl); (case hg => rfl); (case hr => first | (go_simp; done) | (go_simp; rfl)); (case hp => exact (Reps.one (show Kd.M (Kd.int .i64) _ _ _ 0 [.int .i64 0] from rfl) (Reps.one (show Kd.M (Kd.int .i64) _ _ _ 1 [.int .i64 1] from rfl) (Reps.one (show Kd.M (Kd.int .i64) _ _ _ 65535 [.int .i64 65535] from rfl) (Reps.one (show Kd.M (Kd.int .i64) _ _ _ 4294967295 [.int .i64 4294967295] from rfl) (Reps.one (show Kd.M (Kd.int .i64) _ _ _ 268435455 [.int .i64 268435455] from rfl) (Reps.none _ _))))))); intro v286 w92 ho93 hb hg_ hnew_; clear hg_ hnew_; (first | rw [← Ny285.out] at ho93 | (simp only [Int.reduceToNat] at ho93; rw [← Ny285.out] at ho93)); have n0_ := Aside0.mk (Kd.R_lower ho93 (below_size (by repeat (first | (with_reducible first | exact HB.out | apply below_alloc | apply pw_below_drewN | apply below_drew1 | refine below_set ?_ GE283.out) | exact HB.out)))); have n1_ := Aside0.mk (blk_below (g := gb283) (o := .cells #[.int .i64 a0_0, .int .i64 a0_1, .string a0_2, .string a0_3] 42 (0, 0)) (by (with_reducible repeat (first | refine blk_drewN ?_ _ | refine blk_drew ?_ | refine blk_alloc ?_ _)); exact BK283.out) hb); have n2_ := Aside0.mk (below_step (by repeat (first | (with_reducible first | exact HB.out | apply below_alloc | apply pw_below_drewN | apply below_drew1 | refine below_set ?_ GE283.out) | exact HB.out)) hb); clear BK283; clear HB; have HO287 := n0_; have BK283 := n1_; have HB := n2_; clear n0_ n1_ n2_; clear hb ho93; obtain ⟨Ao94, co94, eo94⟩ := Kd.R_slice HO287.out; subst eo94; have p288 : 0 ≤ (t284 : Int) := of_decide_eq_true (by first | (with_reducible assumption) | assumption); have q288 : t284 < (y285.length : Int) := of_decide_eq_true (by first | (with_reducible assumption) | assumption); obtain ⟨ad288, e288, hx288_0⟩ := Kd.at_int (Kd.R_reads' HO287.out).2.2 t284 p288 q288; cases e288; replace p288 := eq_true p288; replace q288 := eq_true q288; have hcz95_0 : w92.cell? ⟨gb283, 0, none⟩ = some (.int .i64 a0_0) := (blk_cell BK283.out 0).trans rfl; have hcz95_1 : w92.cell? ⟨gb283, 1, none⟩ = some (.int .i64 a0_1) := (blk_cell BK283.out 1).trans rfl; have hcz95_2 : w92.cell? ⟨gb283, 2, none⟩ = some (.string a0_2) := (blk_cell BK283.out 2).trans rfl; have hcz95_3 : w92.cell? ⟨gb283, 3, none⟩ = some (.string a0_3) := (blk_cell BK283.out 3).trans rfl; have hfz95_0 := blk_frozen BK283.out 0; have hfz95_1 := blk_frozen BK283.out 1; have hfz95_2 := blk_frozen BK283.out 2; have hfz95_3 := blk_frozen BK283.out 3) | ((with_reducible refine gate_callee (f := 43) rfl ?_); refine goesL_ (some 44) rfl rfl Tryd.func43 (by kernel_rfl) rfl #[.int .i64 a0_1, .int .i64 (rd y285 t284)] rfl (by (try simp only [List.map_toArray, List.map_cons, List.map_nil]); first | done | rfl | (simp only [List.length_drop, List.length_take]; rfl)) ?_; (with_reducible refine (fairwayref0_Num.calls a0_1 (rd y285 t284) false _ A81.out).mono ?_); rintro e w' ⟨rfl, ⟨nd, rfl⟩⟩; refine ⟨_, rfl, ?_⟩))
        go_ret
        exact ⟨by first | rfl | (simp [errW_none, errW_some] <;> rfl) | (simp [*, errW_none, errW_some] <;> rfl), by repeat (first | (with_reducible first | exact HB.out | apply below_alloc | apply pw_below_drewN | apply below_drew1 | refine below_set ?_ GE283.out) | exact HB.out)⟩
       rw [if_neg c75] at H
       have c75b0 : (a0_0 == 11) = false := beq_eq_false_iff_ne.mpr c75
       have c75b1 : (a0_0 != 11) = true := bne_iff_ne.mpr c75
       replace H := Option.bind_eq_some_iff.mp H
       obtain ⟨t293, A960, H⟩ := H
       replace H : (if t293 = true then (if a0_2.toList = ([] : List UInt8) then (some (a0_3.toList == ([] : List UInt8))) else (some false)) else (some false)) = some r := H
       have A96 := Aside0.mk A960
       clear A960
       by_cases c97 : t293 = true
       ·
        subst c97
        have H1 : (if a0_2.toList = ([] : List UInt8) then (some (a0_3.toList == ([] : List UInt8))) else (some false)) = some r := by rw [if_pos rfl] at H; exact H
        clear H
        have H := H1
        clear H1
        by_cases c98 : a0_2.toList = ([] : List UInt8)
        ·
         rw [if_pos c98] at H
         have c98b0 : (a0_2.toList == ([] : List UInt8)) = true := beq_iff_eq.mpr c98
         have c98b1 : (a0_2.toList != ([] : List UInt8)) = false := bne_eq_false_iff_eq.mpr c98
         clear c98
         obtain rfl := Option.some.inj H
         go_wp2_with (first | ((with_reducible refine gate_dst (N := 14) rfl ?_); (try (refine gate_guard (by rfl) ?_; dsimp only)); refine Kd.R_lit (Kd.int .i64) _ 3 ?hg (N := 14) ?hd (xs := ([0, 1, 65535, 4294967295, 268435455] : List Int)) (inner := [.int .i64 0, .int .i64 1, .int .i64 65535, .int .i64 4294967295, .int .i64 268435455]) (ok := fun _ => True) (okp := fun _ => True) ?hr ?hp (fun _ hk => hk) trivial (Below.refl _ _) (Nat.le_refl _) (by simp) ?_; (case hd => rfl); (case hg => rfl); (case hr => first | (go_simp; done) | (go_simp; rfl)); (case hp => exact (Reps.one (show Kd.M (Kd.int .i64) _ _ _ 0 [.int .i64 0] from rfl) (Reps.one (show Kd.M (Kd.int .i64) _ _ _ 1 [.int .i64 1] from rfl) (Reps.one (show Kd.M (Kd.int .i64) _ _ _ 65535 [.int .i64 65535] from rfl) (Reps.one (show Kd.M (Kd.int .i64) _ _ _ 4294967295 [.int .i64 4294967295] from rfl) (Reps.one (show Kd.M (Kd.int .i64) _ _ _ 268435455 [.int .i64 268435455] from rfl) (Reps.none _ _))))))); intro v286 w99 ho100 hb hg_ hnew_; clear hg_ hnew_; (first | rw [← Ny285.out] at ho100 | (simp only [Int.reduceToNat] at ho100; rw [← Ny285.out] at ho100)); have n0_ := Aside0.mk (Kd.R_lower ho100 (below_size (by repeat (first | (with_reducible first | exact HB.out | apply below_alloc | apply pw_below_drewN | apply below_drew1 | refine below_set ?_ GE283.out) | exact HB.out)))); have n1_ := Aside0.mk (blk_below (g := gb283) (o := .cells #[.int .i64 a0_0, .int .i64 a0_1, .string a0_2, .string a0_3] 42 (0, 0)) (by (with_reducible repeat (first | refine blk_drewN ?_ _ | refine blk_drew ?_ | refine blk_alloc ?_ _)); exact BK283.out) hb); have n2_ := Aside0.mk (below_step (by repeat (first | (with_reducible first | exact HB.out | apply below_alloc | apply pw_below_drewN | apply below_drew1 | refine below_set ?_ GE283.out) | exact HB.out)) hb); clear BK283; clear HB; have HO287 := n0_; have BK283 := n1_; have HB := n2_; clear n0_ n1_ n2_; clear hb ho100; obtain ⟨Ao101, co101, eo101⟩ := Kd.R_slice HO287.out; subst eo101; have p288 : 0 ≤ (t284 : Int) := of_decide_eq_true (by first | (with_reducible assumption) | assumption); have q288 : t284 < (y285.length : Int) := of_decide_eq_true (by first | (with_reducible assumption) | assumption); obtain ⟨ad288, e288, hx288_0⟩ := Kd.at_int (Kd.R_reads' HO287.out).2.2 t284 p288 q288; cases e288; replace p288 := eq_true p288; replace q288 := eq_true q288; have hcz102_0 : w99.cell? ⟨gb283, 0, none⟩ = some (.int .i64 a0_0) := (blk_cell BK283.out 0).trans rfl; have hcz102_1 : w99.cell? ⟨gb283, 1, none⟩ = some (.int .i64 a0_1) := (blk_cell BK283.out 1).trans rfl; have hcz102_2 : w99.cell? ⟨gb283, 2, none⟩ = some (.string a0_2) := (blk_cell BK283.out 2).trans rfl; have hcz102_3 : w99.cell? ⟨gb283, 3, none⟩ = some (.string a0_3) := (blk_cell BK283.out 3).trans rfl; have hfz102_0 := blk_frozen BK283.out 0; have hfz102_1 := blk_frozen BK283.out 1; have hfz102_2 := blk_frozen BK283.out 2; have hfz102_3 := blk_frozen BK283.out 3) | ((with_reducible refine gate_callee (f := 43) rfl ?_); refine goesL_ (some 44) rfl rfl Tryd.func43 (by kernel_rfl) rfl #[.int .i64 a0_1, .int .i64 (rd y285 t284)] rfl (by (try simp only [List.map_toArray, List.map_cons, List.map_nil]); first | done | rfl | (simp only [List.length_drop, List.length_take]; rfl)) ?_; (with_reducible refine (fairwayref0_Num.calls a0_1 (rd y285 t284) true _ A96.out).mono ?_); rintro e w' ⟨rfl, ⟨nd, rfl⟩⟩; refine ⟨_, rfl, ?_⟩))
         go_ret
         exact ⟨by first | rfl | (simp [errW_none, errW_some] <;> rfl) | (simp [*, errW_none, errW_some] <;> rfl), by repeat (first | (with_reducible first | exact HB.out | apply below_alloc | apply pw_below_drewN | apply below_drew1 | refine below_set ?_ GE283.out) | exact HB.out)⟩
        rw [if_neg c98] at H
        have c98b0 : (a0_2.toList == ([] : List UInt8)) = false := beq_eq_false_iff_ne.mpr c98
        have c98b1 : (a0_2.toList != ([] : List UInt8)) = true := bne_iff_ne.mpr c98
        obtain rfl := Option.some.inj H
        go_wp2_with (first | ((with_reducible refine gate_dst (N := 14) rfl ?_); (try (refine gate_guard (by rfl) ?_; dsimp only)); refine Kd.R_lit (Kd.int .i64) _ 3 ?hg (N := 14) ?hd (xs := ([0, 1, 65535, 4294967295, 268435455] : List Int)) (inner := [.int .i64 0, .int .i64 1, .int .i64 65535, .int .i64 4294967295, .int .i64 268435455]) (ok := fun _ => True) (okp := fun _ => True) ?hr ?hp (fun _ hk => hk) trivial (Below.refl _ _) (Nat.le_refl _) (by simp) ?_; (case hd => rfl); (case hg => rfl); (case hr => first | (go_simp; done) | (go_simp; rfl)); (case hp => exact (Reps.one (show Kd.M (Kd.int .i64) _ _ _ 0 [.int .i64 0] from rfl) (Reps.one (show Kd.M (Kd.int .i64) _ _ _ 1 [.int .i64 1] from rfl) (Reps.one (show Kd.M (Kd.int .i64) _ _ _ 65535 [.int .i64 65535] from rfl) (Reps.one (show Kd.M (Kd.int .i64) _ _ _ 4294967295 [.int .i64 4294967295] from rfl) (Reps.one (show Kd.M (Kd.int .i64) _ _ _ 268435455 [.int .i64 268435455] from rfl) (Reps.none _ _))))))); intro v286 w103 ho104 hb hg_ hnew_; clear hg_ hnew_; (first | rw [← Ny285.out] at ho104 | (simp only [Int.reduceToNat] at ho104; rw [← Ny285.out] at ho104)); have n0_ := Aside0.mk (Kd.R_lower ho104 (below_size (by repeat (first | (with_reducible first | exact HB.out | apply below_alloc | apply pw_below_drewN | apply below_drew1 | refine below_set ?_ GE283.out) | exact HB.out)))); have n1_ := Aside0.mk (blk_below (g := gb283) (o := .cells #[.int .i64 a0_0, .int .i64 a0_1, .string a0_2, .string a0_3] 42 (0, 0)) (by (with_reducible repeat (first | refine blk_drewN ?_ _ | refine blk_drew ?_ | refine blk_alloc ?_ _)); exact BK283.out) hb); have n2_ := Aside0.mk (below_step (by repeat (first | (with_reducible first | exact HB.out | apply below_alloc | apply pw_below_drewN | apply below_drew1 | refine below_set ?_ GE283.out) | exact HB.out)) hb); clear BK283; clear HB; have HO287 := n0_; have BK283 := n1_; have HB := n2_; clear n0_ n1_ n2_; clear hb ho104; obtain ⟨Ao105, co105, eo105⟩ := Kd.R_slice HO287.out; subst eo105; have p288 : 0 ≤ (t284 : Int) := of_decide_eq_true (by first | (with_reducible assumption) | assumption); have q288 : t284 < (y285.length : Int) := of_decide_eq_true (by first | (with_reducible assumption) | assumption); obtain ⟨ad288, e288, hx288_0⟩ := Kd.at_int (Kd.R_reads' HO287.out).2.2 t284 p288 q288; cases e288; replace p288 := eq_true p288; replace q288 := eq_true q288; have hcz106_0 : w103.cell? ⟨gb283, 0, none⟩ = some (.int .i64 a0_0) := (blk_cell BK283.out 0).trans rfl; have hcz106_1 : w103.cell? ⟨gb283, 1, none⟩ = some (.int .i64 a0_1) := (blk_cell BK283.out 1).trans rfl; have hcz106_2 : w103.cell? ⟨gb283, 2, none⟩ = some (.string a0_2) := (blk_cell BK283.out 2).trans rfl; have hcz106_3 : w103.cell? ⟨gb283, 3, none⟩ = some (.string a0_3) := (blk_cell BK283.out 3).trans rfl; have hfz106_0 := blk_frozen BK283.out 0; have hfz106_1 := blk_frozen BK283.out 1; have hfz106_2 := blk_frozen BK283.out 2; have hfz106_3 := blk_frozen BK283.out 3) | ((with_reducible refine gate_callee (f := 43) rfl ?_); refine goesL_ (some 44) rfl rfl Tryd.func43 (by kernel_rfl) rfl #[.int .i64 a0_1, .int .i64 (rd y285 t284)] rfl (by (try simp only [List.map_toArray, List.map_cons, List.map_nil]); first | done | rfl | (simp only [List.length_drop, List.length_take]; rfl)) ?_; (with_reducible refine (fairwayref0_Num.calls a0_1 (rd y285 t284) true _ A96.out).mono ?_); rintro e w' ⟨rfl, ⟨nd, rfl⟩⟩; refine ⟨_, rfl, ?_⟩))
        go_ret
        exact ⟨by first | rfl | (simp [errW_none, errW_some] <;> rfl) | (simp [*, errW_none, errW_some] <;> rfl), by repeat (first | (with_reducible first | exact HB.out | apply below_alloc | apply pw_below_drewN | apply below_drew1 | refine below_set ?_ GE283.out) | exact HB.out)⟩
       replace c97 := Bool.eq_false_iff.mpr c97
       subst c97
       have H1 : (some false) = some r := by rw [if_neg (show ¬ (false = true) by decide)] at H; exact H
       clear H
       have H := H1
       clear H1
       obtain rfl := Option.some.inj H
       go_wp2_with (first | ((with_reducible refine gate_dst (N := 14) rfl ?_); (try (refine gate_guard (by rfl) ?_; dsimp only)); refine Kd.R_lit (Kd.int .i64) _ 3 ?hg (N := 14) ?hd (xs := ([0, 1, 65535, 4294967295, 268435455] : List Int)) (inner := [.int .i64 0, .int .i64 1, .int .i64 65535, .int .i64 4294967295, .int .i64 268435455]) (ok := fun _ => True) (okp := fun _ => True) ?hr ?hp (fun _ hk => hk) trivial (Below.refl _ _) (Nat.le_refl _) (by simp) ?_; (case hd => rfl); (case hg => rfl); (case hr => first | (go_simp; done) | (go_simp; rfl)); (case hp => exact (Reps.one (show Kd.M (Kd.int .i64) _ _ _ 0 [.int .i64 0] from rfl) (Reps.one (show Kd.M (Kd.int .i64) _ _ _ 1 [.int .i64 1] from rfl) (Reps.one (show Kd.M (Kd.int .i64) _ _ _ 65535 [.int .i64 65535] from rfl) (Reps.one (show Kd.M (Kd.int .i64) _ _ _ 4294967295 [.int .i64 4294967295] from rfl) (Reps.one (show Kd.M (Kd.int .i64) _ _ _ 268435455 [.int .i64 268435455] from rfl) (Reps.none _ _))))))); intro v286 w107 ho108 hb hg_ hnew_; clear hg_ hnew_; (first | rw [← Ny285.out] at ho108 | (simp only [Int.reduceToNat] at ho108; rw [← Ny285.out] at ho108)); have n0_ := Aside0.mk (Kd.R_lower ho108 (below_size (by repeat (first | (with_reducible first | exact HB.out | apply below_alloc | apply pw_below_drewN | apply below_drew1 | refine below_set ?_ GE283.out) | exact HB.out)))); have n1_ := Aside0.mk (blk_below (g := gb283) (o := .cells #[.int .i64 a0_0, .int .i64 a0_1, .string a0_2, .string a0_3] 42 (0, 0)) (by (with_reducible repeat (first | refine blk_drewN ?_ _ | refine blk_drew ?_ | refine blk_alloc ?_ _)); exact BK283.out) hb); have n2_ := Aside0.mk (below_step (by repeat (first | (with_reducible first | exact HB.out | apply below_alloc | apply pw_below_drewN | apply below_drew1 | refine below_set ?_ GE283.out) | exact HB.out)) hb); clear BK283; clear HB; have HO287 := n0_; have BK283 := n1_; have HB := n2_; clear n0_ n1_ n2_; clear hb ho108; obtain ⟨Ao109, co109, eo109⟩ := Kd.R_slice HO287.out; subst eo109; have p288 : 0 ≤ (t284 : Int) := of_decide_eq_true (by first | (with_reducible assumption) | assumption); have q288 : t284 < (y285.length : Int) := of_decide_eq_true (by first | (with_reducible assumption) | assumption); obtain ⟨ad288, e288, hx288_0⟩ := Kd.at_int (Kd.R_reads' HO287.out).2.2 t284 p288 q288; cases e288; replace p288 := eq_true p288; replace q288 := eq_true q288; have hcz110_0 : w107.cell? ⟨gb283, 0, none⟩ = some (.int .i64 a0_0) := (blk_cell BK283.out 0).trans rfl; have hcz110_1 : w107.cell? ⟨gb283, 1, none⟩ = some (.int .i64 a0_1) := (blk_cell BK283.out 1).trans rfl; have hcz110_2 : w107.cell? ⟨gb283, 2, none⟩ = some (.string a0_2) := (blk_cell BK283.out 2).trans rfl; have hcz110_3 : w107.cell? ⟨gb283, 3, none⟩ = some (.string a0_3) := (blk_cell BK283.out 3).trans rfl; have hfz110_0 := blk_frozen BK283.out 0; have hfz110_1 := blk_frozen BK283.out 1; have hfz110_2 := blk_frozen BK283.out 2; have hfz110_3 := blk_frozen BK283.out 3) | ((with_reducible refine gate_callee (f := 43) rfl ?_); refine goesL_ (some 44) rfl rfl Tryd.func43 (by kernel_rfl) rfl #[.int .i64 a0_1, .int .i64 (rd y285 t284)] rfl (by (try simp only [List.map_toArray, List.map_cons, List.map_nil]); first | done | rfl | (simp only [List.length_drop, List.length_take]; rfl)) ?_; (with_reducible refine (fairwayref0_Num.calls a0_1 (rd y285 t284) false _ A96.out).mono ?_); rintro e w' ⟨rfl, ⟨nd, rfl⟩⟩; refine ⟨_, rfl, ?_⟩))
       go_ret
       exact ⟨by first | rfl | (simp [errW_none, errW_some] <;> rfl) | (simp [*, errW_none, errW_some] <;> rfl), by repeat (first | (with_reducible first | exact HB.out | apply below_alloc | apply pw_below_drewN | apply below_drew1 | refine below_set ?_ GE283.out) | exact HB.out)⟩
      rw [if_neg c11] at H
      exact absurd H (by simp)
     rw [if_neg c10] at H
     exact absurd H (by simp)
    replace c9 := Bool.eq_false_iff.mpr c9
    subst c9
    have H1 : (if t284 = 5 then (if a0_1 = 0 then (if a0_3.toList = ([] : List UInt8) then ((fairwayref1_Text.f kj2 a0_2).bind fun t294 => (some (t294 == 0))) else (some false)) else (some false)) else (if t284 = 6 then (if a0_1 = 0 then (if a0_3.toList = ([] : List UInt8) then (some (decide ((a0_2.size : Int) ≤ 1024))) else (some false)) else (some false)) else (if t284 = 7 then (if a0_1 = 0 then ((fairwayref1_Text.f kj2 a0_2).bind fun t295 => (if t295 = 0 then ((fairwayref1_Text.f kj2 a0_3).bind fun t296 => (some (t296 == 0))) else (some false))) else (some false)) else (some false)))) = some r := by rw [if_neg (show ¬ (false = true) by decide)] at H; exact H
    clear H
    have H := H1
    clear H1
    by_cases c111 : t284 = 5
    ·
     rw [if_pos c111] at H
     have c111b0 : (t284 == 5) = true := beq_iff_eq.mpr c111
     have c111b1 : (t284 != 5) = false := bne_eq_false_iff_eq.mpr c111
     clear c111
     by_cases c112 : a0_1 = 0
     ·
      rw [if_pos c112] at H
      have c112b0 : (a0_1 == 0) = true := beq_iff_eq.mpr c112
      have c112b1 : (a0_1 != 0) = false := bne_eq_false_iff_eq.mpr c112
      clear c112
      by_cases c113 : a0_3.toList = ([] : List UInt8)
      ·
       rw [if_pos c113] at H
       have c113b0 : (a0_3.toList == ([] : List UInt8)) = true := beq_iff_eq.mpr c113
       have c113b1 : (a0_3.toList != ([] : List UInt8)) = false := bne_eq_false_iff_eq.mpr c113
       clear c113
       replace H := Option.bind_eq_some_iff.mp H
       obtain ⟨t294, A1140, H⟩ := H
       replace H : (some (t294 == 0)) = some r := H
       have A114 := Aside0.mk A1140
       clear A1140
       obtain rfl := Option.some.inj H
       have hcz115_0 : wc.cell? ⟨gb283, 0, none⟩ = some (.int .i64 a0_0) := (blk_cell BK283.out 0).trans rfl
       have hcz115_1 : wc.cell? ⟨gb283, 1, none⟩ = some (.int .i64 a0_1) := (blk_cell BK283.out 1).trans rfl
       have hcz115_2 : wc.cell? ⟨gb283, 2, none⟩ = some (.string a0_2) := (blk_cell BK283.out 2).trans rfl
       have hcz115_3 : wc.cell? ⟨gb283, 3, none⟩ = some (.string a0_3) := (blk_cell BK283.out 3).trans rfl
       have hfz115_0 := blk_frozen BK283.out 0
       have hfz115_1 := blk_frozen BK283.out 1
       have hfz115_2 := blk_frozen BK283.out 2
       have hfz115_3 := blk_frozen BK283.out 3
       go_wp2_with (first | (go_at_call 44; (with_reducible refine (fairwayref1_Text.calls kj2 a0_2 t294 _ A114.out).mono ?_); rintro e w' ⟨rfl, ⟨nd, rfl⟩⟩))
       go_ret
       exact ⟨by first | rfl | (simp [errW_none, errW_some] <;> rfl) | (simp [*, errW_none, errW_some] <;> rfl), by repeat (first | (with_reducible first | exact HB.out | apply below_alloc | apply pw_below_drewN | apply below_drew1 | refine below_set ?_ GE283.out) | exact HB.out)⟩
      rw [if_neg c113] at H
      have c113b0 : (a0_3.toList == ([] : List UInt8)) = false := beq_eq_false_iff_ne.mpr c113
      have c113b1 : (a0_3.toList != ([] : List UInt8)) = true := bne_iff_ne.mpr c113
      obtain rfl := Option.some.inj H
      have hcz116_0 : wc.cell? ⟨gb283, 0, none⟩ = some (.int .i64 a0_0) := (blk_cell BK283.out 0).trans rfl
      have hcz116_1 : wc.cell? ⟨gb283, 1, none⟩ = some (.int .i64 a0_1) := (blk_cell BK283.out 1).trans rfl
      have hcz116_2 : wc.cell? ⟨gb283, 2, none⟩ = some (.string a0_2) := (blk_cell BK283.out 2).trans rfl
      have hcz116_3 : wc.cell? ⟨gb283, 3, none⟩ = some (.string a0_3) := (blk_cell BK283.out 3).trans rfl
      have hfz116_0 := blk_frozen BK283.out 0
      have hfz116_1 := blk_frozen BK283.out 1
      have hfz116_2 := blk_frozen BK283.out 2
      have hfz116_3 := blk_frozen BK283.out 3
      go_wp2
      go_ret
      exact ⟨by first | rfl | (simp [errW_none, errW_some] <;> rfl) | (simp [*, errW_none, errW_some] <;> rfl), by repeat (first | (with_reducible first | exact HB.out | apply below_alloc | apply pw_below_drewN | apply below_drew1 | refine below_set ?_ GE283.out) | exact HB.out)⟩
     rw [if_neg c112] at H
     have c112b0 : (a0_1 == 0) = false := beq_eq_false_iff_ne.mpr c112
     have c112b1 : (a0_1 != 0) = true := bne_iff_ne.mpr c112
     obtain rfl := Option.some.inj H
     have hcz117_0 : wc.cell? ⟨gb283, 0, none⟩ = some (.int .i64 a0_0) := (blk_cell BK283.out 0).trans rfl
     have hcz117_1 : wc.cell? ⟨gb283, 1, none⟩ = some (.int .i64 a0_1) := (blk_cell BK283.out 1).trans rfl
     have hcz117_2 : wc.cell? ⟨gb283, 2, none⟩ = some (.string a0_2) := (blk_cell BK283.out 2).trans rfl
     have hcz117_3 : wc.cell? ⟨gb283, 3, none⟩ = some (.string a0_3) := (blk_cell BK283.out 3).trans rfl
     have hfz117_0 := blk_frozen BK283.out 0
     have hfz117_1 := blk_frozen BK283.out 1
     have hfz117_2 := blk_frozen BK283.out 2
     have hfz117_3 := blk_frozen BK283.out 3
     go_wp2
     go_ret
     exact ⟨by first | rfl | (simp [errW_none, errW_some] <;> rfl) | (simp [*, errW_none, errW_some] <;> rfl), by repeat (first | (with_reducible first | exact HB.out | apply below_alloc | apply pw_below_drewN | apply below_drew1 | refine below_set ?_ GE283.out) | exact HB.out)⟩
    rw [if_neg c111] at H
    have c111b0 : (t284 == 5) = false := beq_eq_false_iff_ne.mpr c111
    have c111b1 : (t284 != 5) = true := bne_iff_ne.mpr c111
    by_cases c118 : t284 = 6
    ·
     rw [if_pos c118] at H
     have c118b0 : (t284 == 6) = true := beq_iff_eq.mpr c118
     have c118b1 : (t284 != 6) = false := bne_eq_false_iff_eq.mpr c118
     clear c118
     by_cases c119 : a0_1 = 0
     ·
      rw [if_pos c119] at H
      have c119b0 : (a0_1 == 0) = true := beq_iff_eq.mpr c119
      have c119b1 : (a0_1 != 0) = false := bne_eq_false_iff_eq.mpr c119
      clear c119
      by_cases c120 : a0_3.toList = ([] : List UInt8)
      ·
       rw [if_pos c120] at H
       have c120b0 : (a0_3.toList == ([] : List UInt8)) = true := beq_iff_eq.mpr c120
       have c120b1 : (a0_3.toList != ([] : List UInt8)) = false := bne_eq_false_iff_eq.mpr c120
       clear c120
       obtain rfl := Option.some.inj H
       have hcz121_0 : wc.cell? ⟨gb283, 0, none⟩ = some (.int .i64 a0_0) := (blk_cell BK283.out 0).trans rfl
       have hcz121_1 : wc.cell? ⟨gb283, 1, none⟩ = some (.int .i64 a0_1) := (blk_cell BK283.out 1).trans rfl
       have hcz121_2 : wc.cell? ⟨gb283, 2, none⟩ = some (.string a0_2) := (blk_cell BK283.out 2).trans rfl
       have hcz121_3 : wc.cell? ⟨gb283, 3, none⟩ = some (.string a0_3) := (blk_cell BK283.out 3).trans rfl
       have hfz121_0 := blk_frozen BK283.out 0
       have hfz121_1 := blk_frozen BK283.out 1
       have hfz121_2 := blk_frozen BK283.out 2
       have hfz121_3 := blk_frozen BK283.out 3
       go_wp2
       go_ret
       exact ⟨by first | rfl | (simp [errW_none, errW_some] <;> rfl) | (simp [*, errW_none, errW_some] <;> rfl), by repeat (first | (with_reducible first | exact HB.out | apply below_alloc | apply pw_below_drewN | apply below_drew1 | refine below_set ?_ GE283.out) | exact HB.out)⟩
      rw [if_neg c120] at H
      have c120b0 : (a0_3.toList == ([] : List UInt8)) = false := beq_eq_false_iff_ne.mpr c120
      have c120b1 : (a0_3.toList != ([] : List UInt8)) = true := bne_iff_ne.mpr c120
      obtain rfl := Option.some.inj H
      have hcz122_0 : wc.cell? ⟨gb283, 0, none⟩ = some (.int .i64 a0_0) := (blk_cell BK283.out 0).trans rfl
      have hcz122_1 : wc.cell? ⟨gb283, 1, none⟩ = some (.int .i64 a0_1) := (blk_cell BK283.out 1).trans rfl
      have hcz122_2 : wc.cell? ⟨gb283, 2, none⟩ = some (.string a0_2) := (blk_cell BK283.out 2).trans rfl
      have hcz122_3 : wc.cell? ⟨gb283, 3, none⟩ = some (.string a0_3) := (blk_cell BK283.out 3).trans rfl
      have hfz122_0 := blk_frozen BK283.out 0
      have hfz122_1 := blk_frozen BK283.out 1
      have hfz122_2 := blk_frozen BK283.out 2
      have hfz122_3 := blk_frozen BK283.out 3
      go_wp2
      go_ret
      exact ⟨by first | rfl | (simp [errW_none, errW_some] <;> rfl) | (simp [*, errW_none, errW_some] <;> rfl), by repeat (first | (with_reducible first | exact HB.out | apply below_alloc | apply pw_below_drewN | apply below_drew1 | refine below_set ?_ GE283.out) | exact HB.out)⟩
     rw [if_neg c119] at H
     have c119b0 : (a0_1 == 0) = false := beq_eq_false_iff_ne.mpr c119
     have c119b1 : (a0_1 != 0) = true := bne_iff_ne.mpr c119
     obtain rfl := Option.some.inj H
     have hcz123_0 : wc.cell? ⟨gb283, 0, none⟩ = some (.int .i64 a0_0) := (blk_cell BK283.out 0).trans rfl
     have hcz123_1 : wc.cell? ⟨gb283, 1, none⟩ = some (.int .i64 a0_1) := (blk_cell BK283.out 1).trans rfl
     have hcz123_2 : wc.cell? ⟨gb283, 2, none⟩ = some (.string a0_2) := (blk_cell BK283.out 2).trans rfl
     have hcz123_3 : wc.cell? ⟨gb283, 3, none⟩ = some (.string a0_3) := (blk_cell BK283.out 3).trans rfl
     have hfz123_0 := blk_frozen BK283.out 0
     have hfz123_1 := blk_frozen BK283.out 1
     have hfz123_2 := blk_frozen BK283.out 2
     have hfz123_3 := blk_frozen BK283.out 3
     go_wp2
     go_ret
     exact ⟨by first | rfl | (simp [errW_none, errW_some] <;> rfl) | (simp [*, errW_none, errW_some] <;> rfl), by repeat (first | (with_reducible first | exact HB.out | apply below_alloc | apply pw_below_drewN | apply below_drew1 | refine below_set ?_ GE283.out) | exact HB.out)⟩
    rw [if_neg c118] at H
    have c118b0 : (t284 == 6) = false := beq_eq_false_iff_ne.mpr c118
    have c118b1 : (t284 != 6) = true := bne_iff_ne.mpr c118
    by_cases c124 : t284 = 7
    ·
     rw [if_pos c124] at H
     have c124b0 : (t284 == 7) = true := beq_iff_eq.mpr c124
     have c124b1 : (t284 != 7) = false := bne_eq_false_iff_eq.mpr c124
     clear c124
     by_cases c125 : a0_1 = 0
     ·
      rw [if_pos c125] at H
      have c125b0 : (a0_1 == 0) = true := beq_iff_eq.mpr c125
      have c125b1 : (a0_1 != 0) = false := bne_eq_false_iff_eq.mpr c125
      clear c125
      replace H := Option.bind_eq_some_iff.mp H
      obtain ⟨t295, A1260, H⟩ := H
      replace H : (if t295 = 0 then ((fairwayref1_Text.f kj2 a0_3).bind fun t296 => (some (t296 == 0))) else (some false)) = some r := H
      have A126 := Aside0.mk A1260
      clear A1260
      by_cases c127 : t295 = 0
      ·
       rw [if_pos c127] at H
       have c127b0 : (t295 == 0) = true := beq_iff_eq.mpr c127
       have c127b1 : (t295 != 0) = false := bne_eq_false_iff_eq.mpr c127
       clear c127
       replace H := Option.bind_eq_some_iff.mp H
       obtain ⟨t296, A1280, H⟩ := H
       replace H : (some (t296 == 0)) = some r := H
       have A128 := Aside0.mk A1280
       clear A1280
       obtain rfl := Option.some.inj H
       have hcz129_0 : wc.cell? ⟨gb283, 0, none⟩ = some (.int .i64 a0_0) := (blk_cell BK283.out 0).trans rfl
       have hcz129_1 : wc.cell? ⟨gb283, 1, none⟩ = some (.int .i64 a0_1) := (blk_cell BK283.out 1).trans rfl
       have hcz129_2 : wc.cell? ⟨gb283, 2, none⟩ = some (.string a0_2) := (blk_cell BK283.out 2).trans rfl
       have hcz129_3 : wc.cell? ⟨gb283, 3, none⟩ = some (.string a0_3) := (blk_cell BK283.out 3).trans rfl
       have hfz129_0 := blk_frozen BK283.out 0
       have hfz129_1 := blk_frozen BK283.out 1
       have hfz129_2 := blk_frozen BK283.out 2
       have hfz129_3 := blk_frozen BK283.out 3
       go_wp2_with (first | (go_at_call 44; (with_reducible refine (fairwayref1_Text.calls kj2 a0_2 t295 _ A126.out).mono ?_); rintro e w' ⟨rfl, ⟨nd, rfl⟩⟩) | (go_at_call 44; (with_reducible refine (fairwayref1_Text.calls kj2 a0_3 t296 _ A128.out).mono ?_); rintro e w' ⟨rfl, ⟨nd, rfl⟩⟩))
       go_ret
       exact ⟨by first | rfl | (simp [errW_none, errW_some] <;> rfl) | (simp [*, errW_none, errW_some] <;> rfl), by repeat (first | (with_reducible first | exact HB.out | apply below_alloc | apply pw_below_drewN | apply below_drew1 | refine below_set ?_ GE283.out) | exact HB.out)⟩
      rw [if_neg c127] at H
      have c127b0 : (t295 == 0) = false := beq_eq_false_iff_ne.mpr c127
      have c127b1 : (t295 != 0) = true := bne_iff_ne.mpr c127
      obtain rfl := Option.some.inj H
      have hcz130_0 : wc.cell? ⟨gb283, 0, none⟩ = some (.int .i64 a0_0) := (blk_cell BK283.out 0).trans rfl
      have hcz130_1 : wc.cell? ⟨gb283, 1, none⟩ = some (.int .i64 a0_1) := (blk_cell BK283.out 1).trans rfl
      have hcz130_2 : wc.cell? ⟨gb283, 2, none⟩ = some (.string a0_2) := (blk_cell BK283.out 2).trans rfl
      have hcz130_3 : wc.cell? ⟨gb283, 3, none⟩ = some (.string a0_3) := (blk_cell BK283.out 3).trans rfl
      have hfz130_0 := blk_frozen BK283.out 0
      have hfz130_1 := blk_frozen BK283.out 1
      have hfz130_2 := blk_frozen BK283.out 2
      have hfz130_3 := blk_frozen BK283.out 3
      go_wp2_with (first | (go_at_call 44; (with_reducible refine (fairwayref1_Text.calls kj2 a0_2 t295 _ A126.out).mono ?_); rintro e w' ⟨rfl, ⟨nd, rfl⟩⟩))
      go_ret
      exact ⟨by first | rfl | (simp [errW_none, errW_some] <;> rfl) | (simp [*, errW_none, errW_some] <;> rfl), by repeat (first | (with_reducible first | exact HB.out | apply below_alloc | apply pw_below_drewN | apply below_drew1 | refine below_set ?_ GE283.out) | exact HB.out)⟩
     rw [if_neg c125] at H
     have c125b0 : (a0_1 == 0) = false := beq_eq_false_iff_ne.mpr c125
     have c125b1 : (a0_1 != 0) = true := bne_iff_ne.mpr c125
     obtain rfl := Option.some.inj H
     have hcz131_0 : wc.cell? ⟨gb283, 0, none⟩ = some (.int .i64 a0_0) := (blk_cell BK283.out 0).trans rfl
     have hcz131_1 : wc.cell? ⟨gb283, 1, none⟩ = some (.int .i64 a0_1) := (blk_cell BK283.out 1).trans rfl
     have hcz131_2 : wc.cell? ⟨gb283, 2, none⟩ = some (.string a0_2) := (blk_cell BK283.out 2).trans rfl
     have hcz131_3 : wc.cell? ⟨gb283, 3, none⟩ = some (.string a0_3) := (blk_cell BK283.out 3).trans rfl
     have hfz131_0 := blk_frozen BK283.out 0
     have hfz131_1 := blk_frozen BK283.out 1
     have hfz131_2 := blk_frozen BK283.out 2
     have hfz131_3 := blk_frozen BK283.out 3
     go_wp2
     go_ret
     exact ⟨by first | rfl | (simp [errW_none, errW_some] <;> rfl) | (simp [*, errW_none, errW_some] <;> rfl), by repeat (first | (with_reducible first | exact HB.out | apply below_alloc | apply pw_below_drewN | apply below_drew1 | refine below_set ?_ GE283.out) | exact HB.out)⟩
    rw [if_neg c124] at H
    have c124b0 : (t284 == 7) = false := beq_eq_false_iff_ne.mpr c124
    have c124b1 : (t284 != 7) = true := bne_iff_ne.mpr c124
    obtain rfl := Option.some.inj H
    go_wp2
    go_ret
    exact ⟨by first | rfl | (simp [errW_none, errW_some] <;> rfl) | (simp [*, errW_none, errW_some] <;> rfl), by repeat (first | (with_reducible first | exact HB.out | apply below_alloc | apply pw_below_drewN | apply below_drew1 | refine below_set ?_ GE283.out) | exact HB.out)⟩

/-! ### fairwayref0_In: function 45 -/
def fairwayref0_In.l0 : Nat → List Int → Int → Int → Option (Int)
  | 0, _, _, _ => none
  | k + 1, x0, x1, x5 => if x5 < (x0.length : Int) then (if 0 ≤ x5 then (if (rd x0 x5) = x1 then (some x5) else (fairwayref0_In.l0 k x0 x1 (wrap64 (x5 + 1)))) else (none)) else (some (-1))
def fairwayref0_In.f (k : Nat) (l0 : List Int) (a1 : Int) : Option (Int) := fairwayref0_In.l0 k l0 a1 0
theorem fairwayref0_In.mono_l : ∀ k, (∀ y0 y1 y2, LeO (fairwayref0_In.l0 k y0 y1 y2) (fairwayref0_In.l0 (k + 1) y0 y1 y2))
 | 0 => fun _ _ _ r h => by simp [fairwayref0_In.l0] at h
 | k + 1 => by
  have ih0 := fairwayref0_In.mono_l k
  ·
   intro y0 y1 y2
   unfold fairwayref0_In.l0
   repeat' first
   | (with_reducible exact ih0 _ _ _)
   | (with_reducible exact LeO.refl _)
   | (with_reducible exact LeO.none _)
   | (with_reducible refine LeO.ite ?_ ?_)
   | (with_reducible refine LeO.bind ?_ (fun _ => ?_))
   | exact ih0 _ _ _
   | exact LeO.none _
   | refine LeO.ite ?_ ?_
   | refine LeO.bind ?_ (fun _ => ?_)
theorem fairwayref0_In.mono : ∀ a0 a1 k, LeO (fairwayref0_In.f k a0 a1) (fairwayref0_In.f (k + 1) a0 a1) := by
 intro a0 a1 k
 have ih0 := fairwayref0_In.mono_l k
 unfold fairwayref0_In.f
 repeat' first
   | (with_reducible exact ih0 _ _ _)
   | (with_reducible exact LeO.refl _)
   | (with_reducible exact LeO.none _)
   | (with_reducible refine LeO.ite ?_ ?_)
   | (with_reducible refine LeO.bind ?_ (fun _ => ?_))
   | exact ih0 _ _ _
   | exact LeO.none _
   | refine LeO.ite ?_ ?_
   | refine LeO.bind ?_ (fun _ => ?_)
set_option maxHeartbeats 8000000 in
set_option maxRecDepth 100000 in
theorem fairwayref0_In.calls (k : Nat) (A0 : Option Addr) (c0 : Nat) (l0 : List Int) (a1 : Int) (r : Int) (w : World) (hr0 : Kd.C (Kd.int .i64) w A0 l0.length l0) (hc0 : l0.length ≤ c0) (h : fairwayref0_In.f k l0 a1 = some r) :
  Calls Tryd.prog 45 #[.slice A0 l0.length c0, .int .i64 a1] w fun e w' => e = .returned (.int .i64 r) ∧ Drawn0 w w' := by
 have HR0 := Aside0.mk hr0
 have HC0 := Aside0.mk hc0
 clear hr0 hc0
 have H : (fairwayref0_In.l0 k l0 a1 0) = some r := h
 clear h
 have H' := Aside0.mk H
 clear H
 go_enter Tryd.func45, Tryd.ntmps45
 go_wp2
 go_loopg [5] k (fun kq v5 w' => ∃ (x5_1 : Int), v5 = .int .i64 x5_1 ∧ Aside0 (fairwayref0_In.l0 kq l0 a1 x5_1 = some r) ∧ Aside0 (kq ≤ k) ∧ Drawn0 w w')
 case atStart => exact ⟨(0), (by first | rfl | (simp; done) | (simp [*]; done)), H', ⟨Nat.le_refl _⟩, by repeat (first | exact Drawn0.refl _ | apply Drawn0.step)⟩
 case round =>
  clear H'
  try clear p2
  obtain ⟨x5_1, rfl, HA, HK1, ⟨m1, rfl⟩⟩ := hrel
  cases gk with
  | zero => exact absurd HA.out (by simp [fairwayref0_In.l0])
  | succ k1 =>
   have H := HA.out
   clear HA
   simp only [fairwayref0_In.l0] at H
   by_cases c3 : x5_1 < (l0.length : Int)
   ·
    rw [if_pos c3] at H
    have c3b0 : decide (x5_1 < (l0.length : Int)) = true := decide_eq_true c3
    clear c3
    by_cases c4 : 0 ≤ x5_1
    ·
     rw [if_pos c4] at H
     have c4b0 : decide (0 ≤ x5_1) = true := decide_eq_true c4
     clear c4
     by_cases c5 : (rd l0 x5_1) = a1
     ·
      rw [if_pos c5] at H
      have c5b0 : ((rd l0 x5_1) == a1) = true := beq_iff_eq.mpr c5
      have c5b1 : ((rd l0 x5_1) != a1) = false := bne_eq_false_iff_eq.mpr c5
      clear c5
      obtain rfl := Option.some.inj H
      have p297 : 0 ≤ (x5_1 : Int) := of_decide_eq_true (by first | (with_reducible assumption) | assumption)
      have q297 : x5_1 < (l0.length : Int) := of_decide_eq_true (by first | (with_reducible assumption) | assumption)
      obtain ⟨ad297, e297, hx297_0⟩ := Kd.at_int HR0.out x5_1 p297 q297
      cases e297
      replace p297 := eq_true p297
      replace q297 := eq_true q297
      go_wp2
      go_ret
      exact ⟨by first | rfl | (simp; done) | (simp [*]; done), by repeat (first | exact Drawn0.refl _ | apply Drawn0.step)⟩
     rw [if_neg c5] at H
     have c5b0 : ((rd l0 x5_1) == a1) = false := beq_eq_false_iff_ne.mpr c5
     have c5b1 : ((rd l0 x5_1) != a1) = true := bne_iff_ne.mpr c5
     have H' := Aside0.mk H
     clear H
     have p297 : 0 ≤ (x5_1 : Int) := of_decide_eq_true (by first | (with_reducible assumption) | assumption)
     have q297 : x5_1 < (l0.length : Int) := of_decide_eq_true (by first | (with_reducible assumption) | assumption)
     obtain ⟨ad297, e297, hx297_0⟩ := Kd.at_int HR0.out x5_1 p297 q297
     cases e297
     replace p297 := eq_true p297
     replace q297 := eq_true q297
     go_wp2
     go_roundg k1
     case measure => have := HK1.out; omega
     case rel => exact ⟨(wrap64 (x5_1 + 1)), (by first | rfl | (simp; done) | (simp [*]; done)), H', ⟨by have := HK1.out; omega⟩, by repeat (first | exact Drawn0.refl _ | apply Drawn0.step)⟩
    rw [if_neg c4] at H
    exact absurd H (by simp)
   rw [if_neg c3] at H
   have c3b0 : decide (x5_1 < (l0.length : Int)) = false := decide_eq_false c3
   clear c3
   obtain rfl := Option.some.inj H
   go_wp2
   go_ret
   exact ⟨by first | rfl | (simp; done) | (simp [*]; done), by repeat (first | exact Drawn0.refl _ | apply Drawn0.step)⟩

end Go.Proofs.YtiancopplinpcaaDoor.P
