-- PRINTED by print.py (a twelfth state) out of the translation. Not trusted: Lean checks it.
import Derived.Test.YtiancopplinpcaaDoorPx0
import Derived.Test.YtiancopplinpcaaDoorPx2
import Derived.Test.YtiancopplinpcaaDoorPx8
import Derived.Test.YtiancopplinpcaaDoorPx12
import Derived.Test.YtiancopplinpcaaDoorPx14
namespace Go.Proofs.YtiancopplinpcaaDoor.P
open Go.RowKit Go.Proofs.YtiancopplinpcaaDoorW.PrintWords Go.Proofs.YtiancopplinpcaaDoorW.PrintLast Go.Proofs.YtiancopplinpcaaDoorW.PrintMore
attribute [local go_sem] max2_int min2_int max_two min_two max_three min_three max_four min_four   -- for this text's walks alone
set_option linter.unusedVariables false
set_option linter.unusedSimpArgs false

/-! ### fairwaylaw4_PropKinds: function 3 -/
mutual
def fairwaylaw4_PropKinds.l0 : Nat → List (S25) → Int → Option (Bool)
  | 0, _, _ => none
  | k + 1, x0, x3 => if x3 < 260 then (if x3 ≥ 250 then (fairwaylaw4_PropKinds.j1 k x0 x3 x3 (decide ((wrap64 (x3 - 250)) < (x0.length : Int)))) else (fairwaylaw4_PropKinds.j1 k x0 x3 x3 false)) else ((fairwaylaw4_wakes.f k).bind fun t389 => (some t389))
def fairwaylaw4_PropKinds.j1 : Nat → List (S25) → Int → Int → Bool → Option (Bool)
  | 0, _, _, _, _ => none
  | k + 1, x0, x3, x4, x21 => if x21 = true then (if 0 ≤ (wrap64 (x3 - 250)) then (if (wrap64 (x3 - 250)) < (x0.length : Int) then (fairwaylaw4_PropKinds.j2 k x0 x3 ((rd_T25 x0 (wrap64 (x3 - 250))).f0)) else (none)) else (none)) else (fairwaylaw4_PropKinds.j2 k x0 x3 x4)
def fairwaylaw4_PropKinds.j2 : Nat → List (S25) → Int → Int → Option (Bool)
  | 0, _, _, _ => none
  | k + 1, x0, x3, x4 => (prop_Kind.f k x4).bind fun bt391 => ((fairwayref4_Kind.f k x4).bind fun t393 => (if bt391.1 = t393 then ((fairwaylaw4_num.f bt391.2).bind fun t394 => (if ((t394 == 0) != (decide (t393 > 0))) = true then (some false) else (if t393 = 0 then ((fairwaylaw4_num.f bt391.2).bind fun t395 => (if t395 = 3 then (fairwaylaw4_PropKinds.l0 k x0 (wrap64 (x3 + 1))) else (some false))) else (fairwaylaw4_PropKinds.l0 k x0 (wrap64 (x3 + 1)))))) else (some false)))
end
def fairwaylaw4_PropKinds.f (k : Nat) (l0 : List (S25)) : Option (Bool) := fairwaylaw4_PropKinds.l0 k l0 (-3)
theorem fairwaylaw4_PropKinds.mono_l : ∀ k, (∀ y0 y1, LeO (fairwaylaw4_PropKinds.l0 k y0 y1) (fairwaylaw4_PropKinds.l0 (k + 1) y0 y1)) ∧ (∀ y0 y1 y2 y3, LeO (fairwaylaw4_PropKinds.j1 k y0 y1 y2 y3) (fairwaylaw4_PropKinds.j1 (k + 1) y0 y1 y2 y3)) ∧ (∀ y0 y1 y2, LeO (fairwaylaw4_PropKinds.j2 k y0 y1 y2) (fairwaylaw4_PropKinds.j2 (k + 1) y0 y1 y2))
 | 0 => ⟨fun _ _ r h => by simp [fairwaylaw4_PropKinds.l0] at h, fun _ _ _ _ r h => by simp [fairwaylaw4_PropKinds.j1] at h, fun _ _ _ r h => by simp [fairwaylaw4_PropKinds.j2] at h⟩
 | k + 1 => by
  obtain ⟨ih0, ih1, ih2⟩ := fairwaylaw4_PropKinds.mono_l k
  refine ⟨?_, ?_, ?_⟩
  ·
   intro y0 y1
   unfold fairwaylaw4_PropKinds.l0
   repeat' first
   | (with_reducible exact ih0 _ _)
   | (with_reducible exact ih1 _ _ _ _)
   | (with_reducible exact ih2 _ _ _)
   | (with_reducible exact fairwaylaw4_wakes.mono _)
   | (with_reducible exact fairwayref4_Kind.mono _ _)
   | (with_reducible exact prop_Kind.mono _ _)
   | (with_reducible exact LeO.refl _)
   | (with_reducible exact LeO.none _)
   | (with_reducible refine LeO.ite ?_ ?_)
   | (with_reducible refine LeO.bind ?_ (fun _ => ?_))
   | exact ih0 _ _
   | exact ih1 _ _ _ _
   | exact ih2 _ _ _
   | exact fairwaylaw4_wakes.mono _
   | exact fairwayref4_Kind.mono _ _
   | exact prop_Kind.mono _ _
   | exact LeO.none _
   | refine LeO.ite ?_ ?_
   | refine LeO.bind ?_ (fun _ => ?_)
  ·
   intro y0 y1 y2 y3
   unfold fairwaylaw4_PropKinds.j1
   repeat' first
   | (with_reducible exact ih0 _ _)
   | (with_reducible exact ih1 _ _ _ _)
   | (with_reducible exact ih2 _ _ _)
   | (with_reducible exact fairwaylaw4_wakes.mono _)
   | (with_reducible exact fairwayref4_Kind.mono _ _)
   | (with_reducible exact prop_Kind.mono _ _)
   | (with_reducible exact LeO.refl _)
   | (with_reducible exact LeO.none _)
   | (with_reducible refine LeO.ite ?_ ?_)
   | (with_reducible refine LeO.bind ?_ (fun _ => ?_))
   | exact ih0 _ _
   | exact ih1 _ _ _ _
   | exact ih2 _ _ _
   | exact fairwaylaw4_wakes.mono _
   | exact fairwayref4_Kind.mono _ _
   | exact prop_Kind.mono _ _
   | exact LeO.none _
   | refine LeO.ite ?_ ?_
   | refine LeO.bind ?_ (fun _ => ?_)
  ·
   intro y0 y1 y2
   unfold fairwaylaw4_PropKinds.j2
   repeat' first
   | (with_reducible exact ih0 _ _)
   | (with_reducible exact ih1 _ _ _ _)
   | (with_reducible exact ih2 _ _ _)
   | (with_reducible exact fairwaylaw4_wakes.mono _)
   | (with_reducible exact fairwayref4_Kind.mono _ _)
   | (with_reducible exact prop_Kind.mono _ _)
   | (with_reducible exact LeO.refl _)
   | (with_reducible exact LeO.none _)
   | (with_reducible refine LeO.ite ?_ ?_)
   | (with_reducible refine LeO.bind ?_ (fun _ => ?_))
   | exact ih0 _ _
   | exact ih1 _ _ _ _
   | exact ih2 _ _ _
   | exact fairwaylaw4_wakes.mono _
   | exact fairwayref4_Kind.mono _ _
   | exact prop_Kind.mono _ _
   | exact LeO.none _
   | refine LeO.ite ?_ ?_
   | refine LeO.bind ?_ (fun _ => ?_)
theorem fairwaylaw4_PropKinds.mono : ∀ a0 k, LeO (fairwaylaw4_PropKinds.f k a0) (fairwaylaw4_PropKinds.f (k + 1) a0) := by
 intro a0 k
 obtain ⟨ih0, ih1, ih2⟩ := fairwaylaw4_PropKinds.mono_l k
 unfold fairwaylaw4_PropKinds.f
 repeat' first
   | (with_reducible exact ih0 _ _)
   | (with_reducible exact ih1 _ _ _ _)
   | (with_reducible exact ih2 _ _ _)
   | (with_reducible exact fairwaylaw4_wakes.mono _)
   | (with_reducible exact fairwayref4_Kind.mono _ _)
   | (with_reducible exact prop_Kind.mono _ _)
   | (with_reducible exact LeO.refl _)
   | (with_reducible exact LeO.none _)
   | (with_reducible refine LeO.ite ?_ ?_)
   | (with_reducible refine LeO.bind ?_ (fun _ => ?_))
   | exact ih0 _ _
   | exact ih1 _ _ _ _
   | exact ih2 _ _ _
   | exact fairwaylaw4_wakes.mono _
   | exact fairwayref4_Kind.mono _ _
   | exact prop_Kind.mono _ _
   | exact LeO.none _
   | refine LeO.ite ?_ ?_
   | refine LeO.bind ?_ (fun _ => ?_)
set_option maxHeartbeats 8000000 in
set_option maxRecDepth 100000 in
theorem fairwaylaw4_PropKinds.calls (k : Nat) (A0 : Option Addr) (c0 : Nat) (l0 : List (S25)) (r : Bool) (w : World) (hr0 : Kd.C k25 w A0 l0.length l0) (hc0 : l0.length ≤ c0) (HLAID : Laid w) (h : fairwaylaw4_PropKinds.f k l0 = some r) :
  Calls Tryd.prog 3 #[.slice A0 l0.length c0] w fun e w' => e = .returned (.bool r) ∧ Below w.heap.size w w' := by
 have HR0 := Aside0.mk hr0
 have HC0 := Aside0.mk hc0
 clear hr0 hc0
 have HB := Aside0.mk (Below.refl w.heap.size w)
 have H : (fairwaylaw4_PropKinds.l0 k l0 (-3)) = some r := h
 clear h
 have H' := Aside0.mk H
 clear H
 go_enter Tryd.func3, Tryd.ntmps3
 go_wp2
 go_loopg [3] k (fun kq v3 w' => ∃ (x3_1 : Int), v3 = .int .i64 x3_1 ∧ Aside0 (fairwaylaw4_PropKinds.l0 kq l0 x3_1 = some r) ∧ Aside0 (kq ≤ k) ∧ Aside0 (Below w.heap.size w w'))
 case atStart => exact ⟨((-3)), (by first | rfl | (simp; done) | (simp [*]; done)), H', ⟨Nat.le_refl _⟩, ⟨by repeat (first | (with_reducible first | exact HB.out | apply below_alloc | apply pw_below_drewN | apply below_drew1) | exact HB.out)⟩⟩
 case round =>
  clear H'
  obtain ⟨x3_1, rfl, HA, HK1, HB⟩ := hrel
  cases gk with
  | zero => exact absurd HA.out (by simp [fairwaylaw4_PropKinds.l0])
  | succ k1 =>
   have H := HA.out
   clear HA
   simp only [fairwaylaw4_PropKinds.l0] at H
   by_cases c2 : x3_1 < 260
   ·
    rw [if_pos c2] at H
    have c2b0 : decide (x3_1 < 260) = true := decide_eq_true c2
    clear c2
    have HC3 := Aside0.mk H
    clear H
    go_upto_region 5 with (fail)
    go_cut [21] (fun v21 wc => ∃ (kq : Nat) (x21_2 : Bool), v21 = .bool x21_2 ∧ Aside0 (fairwaylaw4_PropKinds.j1 kq l0 x3_1 x3_1 x21_2 = some r) ∧ Aside0 (kq ≤ k1) ∧ Aside0 (Below w.heap.size w wc))
    case first =>
     have H := HC3.out
     clear HC3
     by_cases c4 : x3_1 ≥ 250
     ·
      rw [if_pos c4] at H
      have c4b0 : decide (250 ≤ x3_1) = true := decide_eq_true c4
      clear c4
      (first | rw [c4b0] | (simp only [i64_w, i32_w]; rw [c4b0]) | skip)
      have H' := Aside0.mk H
      clear H
      go_wp2
      go_meet
      case rel => exact ⟨_, (decide ((wrap64 (x3_1 - 250)) < (l0.length : Int))), (by first | rfl | (simp; done) | (simp [*]; done)), H', ⟨by have := HK1.out; first | omega | exact Nat.le_refl _⟩, ⟨by repeat (first | (with_reducible first | exact HB.out | apply below_alloc | apply pw_below_drewN | apply below_drew1) | exact HB.out)⟩⟩
     rw [if_neg c4] at H
     have c4b0 : decide (250 ≤ x3_1) = false := decide_eq_false c4
     clear c4
     (first | rw [c4b0] | (simp only [i64_w, i32_w]; rw [c4b0]) | skip)
     have H' := Aside0.mk H
     clear H
     go_wp2
     go_meet
     case rel => exact ⟨_, (false), (by first | rfl | (simp; done) | (simp [*]; done)), H', ⟨by have := HK1.out; first | omega | exact Nat.le_refl _⟩, ⟨by repeat (first | (with_reducible first | exact HB.out | apply below_alloc | apply pw_below_drewN | apply below_drew1) | exact HB.out)⟩⟩
    case rest =>
     clear HC3
     try clear c2
     try clear c2b0
     try clear p2
     try clear c3
     try clear c4
     try clear c4b0
     obtain ⟨kq, x21_2, rfl, HA, HJ2, HB⟩ := hcut
     cases kq with
     | zero => exact absurd HA.out (by simp [fairwaylaw4_PropKinds.j1])
     | succ kj2 =>
      have H := HA.out
      clear HA
      simp only [fairwaylaw4_PropKinds.j1] at H
      have HC5 := Aside0.mk H
      clear H
      go_upto_if 21 with (fail)
      go_cut [4] (fun v4 wc => ∃ (kq : Nat) (x4_4 : Int), v4 = .int .i64 x4_4 ∧ Aside0 (fairwaylaw4_PropKinds.j2 kq l0 x3_1 x4_4 = some r) ∧ Aside0 (kq ≤ kj2) ∧ Aside0 (Below w.heap.size w wc))
      case first =>
       have H := HC5.out
       clear HC5
       by_cases c6 : x21_2 = true
       ·
        subst c6
        have H1 : (if 0 ≤ (wrap64 (x3_1 - 250)) then (if (wrap64 (x3_1 - 250)) < (l0.length : Int) then (fairwaylaw4_PropKinds.j2 kj2 l0 x3_1 ((rd_T25 l0 (wrap64 (x3_1 - 250))).f0)) else (none)) else (none)) = some r := by rw [if_pos rfl] at H; exact H
        clear H
        have H := H1
        clear H1
        obtain ⟨ji7, hji7⟩ : ∃ j_ : Int, (wrap64 (x3_1 - 250)) = j_ := ⟨_, rfl⟩
        replace H : (if 0 ≤ (ji7) then (if (ji7) < (l0.length : Int) then (fairwaylaw4_PropKinds.j2 kj2 l0 x3_1 ((rd_T25 l0 (ji7)).f0)) else (none)) else (none)) = some r := by first | (rw [hji7] at H; exact H) | (simp only [hji7] at H ⊢; exact H)
        have hji7w : (IntKind.i64.wrap (x3_1 - 250)) = ji7 := (i64_w _).trans hji7
        by_cases c8 : 0 ≤ (ji7)
        ·
         rw [if_pos c8] at H
         have c8b0 : decide (0 ≤ (ji7)) = true := decide_eq_true c8
         clear c8
         (first | rw [c8b0] | (simp only [i64_w, i32_w]; rw [c8b0]) | skip)
         by_cases c9 : (ji7) < (l0.length : Int)
         ·
          rw [if_pos c9] at H
          have c9b0 : decide ((ji7) < (l0.length : Int)) = true := decide_eq_true c9
          clear c9
          have H' := Aside0.mk H
          clear H
          have p390 : 0 ≤ ((ji7) : Int) := of_decide_eq_true (by first | (with_reducible assumption) | assumption)
          have q390 : (ji7) < (l0.length : Int) := of_decide_eq_true (by first | (with_reducible assumption) | assumption)
          obtain ⟨ad390, A390_1, c390_1, e390, hx390_0, hx390_1, hx390_2, hl390_1, hi390_1⟩ := at_T25 HR0.out (ji7) p390 q390
          cases e390
          replace hx390_0 := (HB.out.cell (World.block_lt_of_cell? w _ hx390_0)).trans hx390_0
          replace hx390_1 := (HB.out.cell (World.block_lt_of_cell? w _ hx390_1)).trans hx390_1
          replace hx390_2 := (HB.out.cell (World.block_lt_of_cell? w _ hx390_2)).trans hx390_2
          have HR390_1 := Aside0.mk hi390_1
          have HC390_1 := Aside0.mk hl390_1
          clear hi390_1 hl390_1
          replace p390 := eq_true p390
          replace q390 := eq_true q390
          go_wp2
          go_meet
          case rel => exact ⟨_, ((rd_T25 l0 (ji7)).f0), (by first | rfl | (simp; done) | (simp only [← hji7] <;> (first | rfl | simp)) | (simp [*]; done)), H', ⟨by have := HK1.out; have := HJ2.out; first | omega | exact Nat.le_refl _⟩, ⟨by repeat (first | (with_reducible first | exact HB.out | apply below_alloc | apply pw_below_drewN | apply below_drew1) | exact HB.out)⟩⟩
         rw [if_neg c9] at H
         exact absurd H (by simp)
        rw [if_neg c8] at H
        exact absurd H (by simp)
       replace c6 := Bool.eq_false_iff.mpr c6
       subst c6
       have H1 : (fairwaylaw4_PropKinds.j2 kj2 l0 x3_1 x3_1) = some r := by rw [if_neg (show ¬ (false = true) by decide)] at H; exact H
       clear H
       have H := H1
       clear H1
       have H' := Aside0.mk H
       clear H
       go_wp2
       go_meet
       case rel => exact ⟨_, (x3_1), (by first | rfl | (simp; done) | (simp [*]; done)), H', ⟨by have := HK1.out; have := HJ2.out; first | omega | exact Nat.le_refl _⟩, ⟨by repeat (first | (with_reducible first | exact HB.out | apply below_alloc | apply pw_below_drewN | apply below_drew1) | exact HB.out)⟩⟩
      case rest =>
       clear HC5
       try clear c2
       try clear c2b0
       try clear p2
       try clear c3
       try clear p3
       try clear q3
       try clear hx3
       try clear c4
       try clear c4b0
       try clear c6
       try clear p6
       try clear c8
       try clear c8b0
       try clear c9
       try clear c9b0
       try clear hx390_0
       try clear hx390_1
       try clear hx390_2
       try clear p2
       try clear p390
       try clear q390
       obtain ⟨kq, x4_4, rfl, HA, HJ4, HB⟩ := hcut
       cases kq with
       | zero => exact absurd HA.out (by simp [fairwaylaw4_PropKinds.j2])
       | succ kj4 =>
        have H := HA.out
        clear HA
        simp only [fairwaylaw4_PropKinds.j2] at H
        replace H := Option.bind_eq_some_iff.mp H
        obtain ⟨⟨t391, t392⟩, A100, H⟩ := H
        replace H : ((fairwayref4_Kind.f kj4 x4_4).bind fun t393 => (if t391 = t393 then ((fairwaylaw4_num.f t392).bind fun t394 => (if ((t394 == 0) != (decide (t393 > 0))) = true then (some false) else (if t393 = 0 then ((fairwaylaw4_num.f t392).bind fun t395 => (if t395 = 3 then (fairwaylaw4_PropKinds.l0 kj4 l0 (wrap64 (x3_1 + 1))) else (some false))) else (fairwaylaw4_PropKinds.l0 kj4 l0 (wrap64 (x3_1 + 1)))))) else (some false))) = some r := H
        have A10 := Aside0.mk A100
        clear A100
        replace H := Option.bind_eq_some_iff.mp H
        obtain ⟨t393, A110, H⟩ := H
        replace H : (if t391 = t393 then ((fairwaylaw4_num.f t392).bind fun t394 => (if ((t394 == 0) != (decide (t393 > 0))) = true then (some false) else (if t393 = 0 then ((fairwaylaw4_num.f t392).bind fun t395 => (if t395 = 3 then (fairwaylaw4_PropKinds.l0 kj4 l0 (wrap64 (x3_1 + 1))) else (some false))) else (fairwaylaw4_PropKinds.l0 kj4 l0 (wrap64 (x3_1 + 1)))))) else (some false)) = some r := H
        have A11 := Aside0.mk A110
        clear A110
        by_cases c12 : t391 = t393
        ·
         rw [if_pos c12] at H
         have c12b0 : (t391 == t393) = true := beq_iff_eq.mpr c12
         have c12b1 : (t391 != t393) = false := bne_eq_false_iff_eq.mpr c12
         clear c12
         replace H := Option.bind_eq_some_iff.mp H
         obtain ⟨t394, A130, H⟩ := H
         replace H : (if ((t394 == 0) != (decide (t393 > 0))) = true then (some false) else (if t393 = 0 then ((fairwaylaw4_num.f t392).bind fun t395 => (if t395 = 3 then (fairwaylaw4_PropKinds.l0 kj4 l0 (wrap64 (x3_1 + 1))) else (some false))) else (fairwaylaw4_PropKinds.l0 kj4 l0 (wrap64 (x3_1 + 1))))) = some r := H
         have A13 := Aside0.mk A130
         clear A130
         by_cases c14 : ((t394 == 0) != (decide (t393 > 0))) = true
         ·
          rw [if_pos c14] at H
          have c14b0 : ((t394 == 0) != (decide (t393 > 0))) = true := c14
          (try (have c14b1 : decide ((t394 == 0) = (decide (t393 > 0))) = false := by simpa using c14))
          (try (have c14b2 : ((t394 == 0) == (decide (t393 > 0))) = false := by simpa using c14))
          (try (have c14b3 : ¬ ((t394 == 0) = (decide (t393 > 0))) := by simpa using c14))
          clear c14
          obtain rfl := Option.some.inj H
          go_wp2_with (first | ((with_reducible refine gate_callee (f := 11) rfl ?_); refine goesL_ (some 30) rfl rfl Tryd.func11 (by kernel_rfl) rfl #[.int .i64 x4_4] rfl (by (try simp only [List.map_toArray, List.map_cons, List.map_nil]); first | done | rfl | (simp only [List.length_drop, List.length_take]; rfl)) ?_; (with_reducible refine (prop_Kind.calls kj4 x4_4 t391 t392 _ A10.out).mono ?_); rintro e w' ⟨rfl, ⟨nd, rfl⟩⟩; refine ⟨_, rfl, ?_⟩) | ((with_reducible refine gate_callee (f := 12) rfl ?_); refine goesL_ (some 34) rfl rfl Tryd.func12 (by kernel_rfl) rfl #[.int .i64 x4_4] rfl (by (try simp only [List.map_toArray, List.map_cons, List.map_nil]); first | done | rfl | (simp only [List.length_drop, List.length_take]; rfl)) ?_; (with_reducible refine (fairwayref4_Kind.calls kj4 x4_4 t393 _ A11.out).mono ?_); rintro e w' ⟨rfl, ⟨nd, rfl⟩⟩; refine ⟨_, rfl, ?_⟩) | (go_at_call 13; (with_reducible refine (fairwaylaw4_num.calls t392 t394 _ A13.out).mono ?_); rintro e w' ⟨rfl, ⟨nd, rfl⟩⟩))
          go_ret
          exact ⟨by first | rfl | (simp [errW_none, errW_some] <;> rfl) | (simp [*, errW_none, errW_some] <;> rfl), by repeat (first | (with_reducible first | exact HB.out | apply below_alloc | apply pw_below_drewN | apply below_drew1) | exact HB.out)⟩
         rw [if_neg c14] at H
         have c14b0 : ((t394 == 0) != (decide (t393 > 0))) = false := by simpa using c14
         (try (have c14b1 : decide ((t394 == 0) = (decide (t393 > 0))) = true := by simpa using c14))
         (try (have c14b2 : ((t394 == 0) == (decide (t393 > 0))) = true := by simpa using c14))
         clear c14
         by_cases c15 : t393 = 0
         ·
          rw [if_pos c15] at H
          have c15b0 : (t393 == 0) = true := beq_iff_eq.mpr c15
          have c15b1 : (t393 != 0) = false := bne_eq_false_iff_eq.mpr c15
          clear c15
          replace H := Option.bind_eq_some_iff.mp H
          obtain ⟨t395, A160, H⟩ := H
          replace H : (if t395 = 3 then (fairwaylaw4_PropKinds.l0 kj4 l0 (wrap64 (x3_1 + 1))) else (some false)) = some r := H
          have A16 := Aside0.mk A160
          clear A160
          by_cases c17 : t395 = 3
          ·
           rw [if_pos c17] at H
           have c17b0 : (t395 == 3) = true := beq_iff_eq.mpr c17
           have c17b1 : (t395 != 3) = false := bne_eq_false_iff_eq.mpr c17
           clear c17
           have H' := Aside0.mk H
           clear H
           obtain rfl : t394 = t395 := Option.some.inj (A13.out.symm.trans A16.out)
           go_wp2_with (first | ((with_reducible refine gate_callee (f := 11) rfl ?_); refine goesL_ (some 30) rfl rfl Tryd.func11 (by kernel_rfl) rfl #[.int .i64 x4_4] rfl (by (try simp only [List.map_toArray, List.map_cons, List.map_nil]); first | done | rfl | (simp only [List.length_drop, List.length_take]; rfl)) ?_; (with_reducible refine (prop_Kind.calls kj4 x4_4 t391 t392 _ A10.out).mono ?_); rintro e w' ⟨rfl, ⟨nd, rfl⟩⟩; refine ⟨_, rfl, ?_⟩) | ((with_reducible refine gate_callee (f := 12) rfl ?_); refine goesL_ (some 34) rfl rfl Tryd.func12 (by kernel_rfl) rfl #[.int .i64 x4_4] rfl (by (try simp only [List.map_toArray, List.map_cons, List.map_nil]); first | done | rfl | (simp only [List.length_drop, List.length_take]; rfl)) ?_; (with_reducible refine (fairwayref4_Kind.calls kj4 x4_4 t393 _ A11.out).mono ?_); rintro e w' ⟨rfl, ⟨nd, rfl⟩⟩; refine ⟨_, rfl, ?_⟩) | (go_at_call 13; (with_reducible refine (fairwaylaw4_num.calls t392 t394 _ A13.out).mono ?_); rintro e w' ⟨rfl, ⟨nd, rfl⟩⟩) | (go_at_call 13; (with_reducible refine (fairwaylaw4_num.calls t392 t394 _ A16.out).mono ?_); rintro e w' ⟨rfl, ⟨nd, rfl⟩⟩))
           go_roundg kj4
           case measure => have := HK1.out; have := HJ2.out; have := HJ4.out; omega
           case rel => exact ⟨(wrap64 (x3_1 + 1)), (by first | rfl | (simp; done) | (simp [*]; done)), H', ⟨by have := HK1.out; have := HJ2.out; have := HJ4.out; omega⟩, ⟨by repeat (first | (with_reducible first | exact HB.out | apply below_alloc | apply pw_below_drewN | apply below_drew1) | exact HB.out)⟩⟩
          rw [if_neg c17] at H
          have c17b0 : (t395 == 3) = false := beq_eq_false_iff_ne.mpr c17
          have c17b1 : (t395 != 3) = true := bne_iff_ne.mpr c17
          obtain rfl := Option.some.inj H
          obtain rfl : t394 = t395 := Option.some.inj (A13.out.symm.trans A16.out)
          go_wp2_with (first | ((with_reducible refine gate_callee (f := 11) rfl ?_); refine goesL_ (some 30) rfl rfl Tryd.func11 (by kernel_rfl) rfl #[.int .i64 x4_4] rfl (by (try simp only [List.map_toArray, List.map_cons, List.map_nil]); first | done | rfl | (simp only [List.length_drop, List.length_take]; rfl)) ?_; (with_reducible refine (prop_Kind.calls kj4 x4_4 t391 t392 _ A10.out).mono ?_); rintro e w' ⟨rfl, ⟨nd, rfl⟩⟩; refine ⟨_, rfl, ?_⟩) | ((with_reducible refine gate_callee (f := 12) rfl ?_); refine goesL_ (some 34) rfl rfl Tryd.func12 (by kernel_rfl) rfl #[.int .i64 x4_4] rfl (by (try simp only [List.map_toArray, List.map_cons, List.map_nil]); first | done | rfl | (simp only [List.length_drop, List.length_take]; rfl)) ?_; (with_reducible refine (fairwayref4_Kind.calls kj4 x4_4 t393 _ A11.out).mono ?_); rintro e w' ⟨rfl, ⟨nd, rfl⟩⟩; refine ⟨_, rfl, ?_⟩) | (go_at_call 13; (with_reducible refine (fairwaylaw4_num.calls t392 t394 _ A13.out).mono ?_); rintro e w' ⟨rfl, ⟨nd, rfl⟩⟩) | (go_at_call 13; (with_reducible refine (fairwaylaw4_num.calls t392 t394 _ A16.out).mono ?_); rintro e w' ⟨rfl, ⟨nd, rfl⟩⟩))
          go_ret
          exact ⟨by first | rfl | (simp [errW_none, errW_some] <;> rfl) | (simp [*, errW_none, errW_some] <;> rfl), by repeat (first | (with_reducible first | exact HB.out | apply below_alloc | apply pw_below_drewN | apply below_drew1) | exact HB.out)⟩
         rw [if_neg c15] at H
         have c15b0 : (t393 == 0) = false := beq_eq_false_iff_ne.mpr c15
         have c15b1 : (t393 != 0) = true := bne_iff_ne.mpr c15
         have H' := Aside0.mk H
         clear H
         go_wp2_with (first | ((with_reducible refine gate_callee (f := 11) rfl ?_); refine goesL_ (some 30) rfl rfl Tryd.func11 (by kernel_rfl) rfl #[.int .i64 x4_4] rfl (by (try simp only [List.map_toArray, List.map_cons, List.map_nil]); first | done | rfl | (simp only [List.length_drop, List.length_take]; rfl)) ?_; (with_reducible refine (prop_Kind.calls kj4 x4_4 t391 t392 _ A10.out).mono ?_); rintro e w' ⟨rfl, ⟨nd, rfl⟩⟩; refine ⟨_, rfl, ?_⟩) | ((with_reducible refine gate_callee (f := 12) rfl ?_); refine goesL_ (some 34) rfl rfl Tryd.func12 (by kernel_rfl) rfl #[.int .i64 x4_4] rfl (by (try simp only [List.map_toArray, List.map_cons, List.map_nil]); first | done | rfl | (simp only [List.length_drop, List.length_take]; rfl)) ?_; (with_reducible refine (fairwayref4_Kind.calls kj4 x4_4 t393 _ A11.out).mono ?_); rintro e w' ⟨rfl, ⟨nd, rfl⟩⟩; refine ⟨_, rfl, ?_⟩) | (go_at_call 13; (with_reducible refine (fairwaylaw4_num.calls t392 t394 _ A13.out).mono ?_); rintro e w' ⟨rfl, ⟨nd, rfl⟩⟩))
         go_roundg kj4
         case measure => have := HK1.out; have := HJ2.out; have := HJ4.out; omega
         case rel => exact ⟨(wrap64 (x3_1 + 1)), (by first | rfl | (simp; done) | (simp [*]; done)), H', ⟨by have := HK1.out; have := HJ2.out; have := HJ4.out; omega⟩, ⟨by repeat (first | (with_reducible first | exact HB.out | apply below_alloc | apply pw_below_drewN | apply below_drew1) | exact HB.out)⟩⟩
        rw [if_neg c12] at H
        have c12b0 : (t391 == t393) = false := beq_eq_false_iff_ne.mpr c12
        have c12b1 : (t391 != t393) = true := bne_iff_ne.mpr c12
        obtain rfl := Option.some.inj H
        go_wp2_with (first | ((with_reducible refine gate_callee (f := 11) rfl ?_); refine goesL_ (some 30) rfl rfl Tryd.func11 (by kernel_rfl) rfl #[.int .i64 x4_4] rfl (by (try simp only [List.map_toArray, List.map_cons, List.map_nil]); first | done | rfl | (simp only [List.length_drop, List.length_take]; rfl)) ?_; (with_reducible refine (prop_Kind.calls kj4 x4_4 t391 t392 _ A10.out).mono ?_); rintro e w' ⟨rfl, ⟨nd, rfl⟩⟩; refine ⟨_, rfl, ?_⟩) | ((with_reducible refine gate_callee (f := 12) rfl ?_); refine goesL_ (some 34) rfl rfl Tryd.func12 (by kernel_rfl) rfl #[.int .i64 x4_4] rfl (by (try simp only [List.map_toArray, List.map_cons, List.map_nil]); first | done | rfl | (simp only [List.length_drop, List.length_take]; rfl)) ?_; (with_reducible refine (fairwayref4_Kind.calls kj4 x4_4 t393 _ A11.out).mono ?_); rintro e w' ⟨rfl, ⟨nd, rfl⟩⟩; refine ⟨_, rfl, ?_⟩))
        go_ret
        exact ⟨by first | rfl | (simp [errW_none, errW_some] <;> rfl) | (simp [*, errW_none, errW_some] <;> rfl), by repeat (first | (with_reducible first | exact HB.out | apply below_alloc | apply pw_below_drewN | apply below_drew1) | exact HB.out)⟩
   rw [if_neg c2] at H
   have c2b0 : decide (x3_1 < 260) = false := decide_eq_false c2
   clear c2
   replace H := Option.bind_eq_some_iff.mp H
   obtain ⟨t389, A180, H⟩ := H
   replace H : (some t389) = some r := H
   have A18 := Aside0.mk A180
   clear A180
   obtain rfl := Option.some.inj H
   go_wp2_with (first | ((with_reducible refine gate_callee (f := 14) rfl ?_); refine goesL_ (some 55) rfl rfl Tryd.func14 (by kernel_rfl) rfl #[] rfl (by (try simp only [List.map_toArray, List.map_cons, List.map_nil]); first | done | rfl | (simp only [List.length_drop, List.length_take]; rfl)) ?_; (with_reducible refine (fairwaylaw4_wakes.calls k1  t389 _ (by first | exact HLAID | exact HLAID.below (by repeat (first | (with_reducible first | exact HB.out | apply below_alloc | apply pw_below_drewN | apply below_drew1) | exact HB.out))) A18.out).mono ?_); rintro e w19 ⟨rfl, hb⟩; refine ⟨_, rfl, ?_⟩; have n0_ := Aside0.mk (below_step (by repeat (first | (with_reducible first | exact HB.out | apply below_alloc | apply pw_below_drewN | apply below_drew1) | exact HB.out)) hb); clear HB; have HB := n0_; clear n0_; (try clear hb); (try clear hb2); (try clear hk); (try clear hi)))
   go_ret
   exact ⟨by first | rfl | (simp [errW_none, errW_some] <;> rfl) | (simp [*, errW_none, errW_some] <;> rfl), by repeat (first | (with_reducible first | exact HB.out | apply below_alloc | apply pw_below_drewN | apply below_drew1) | exact HB.out)⟩

/-! ### fairwayref1_TakeNum: function 39 -/
def fairwayref1_TakeNum.l0 : Nat → ByteArray → Int → Int → Option (Int × Int × Int)
  | 0, _, _, _ => none
  | k + 1, x0, x5, x6 => if x6 < 4 then (if x6 ≥ (x0.size : Int) then (some (0, 0, 7)) else (if 0 ≤ x6 then (if x6 < (x0.size : Int) then (if 0 ≤ (wrap64 (7 * x6)) then (if (wrap64 (bt x0 x6)) < 128 then (if (wrap64 (bt x0 x6)) = 0 then (if x6 > 0 then (some (0, 0, 8)) else (some (Go.bits .or .i64 x5 (shl .i64 (Int.tmod (wrap64 (bt x0 x6)) 128) (wrap64 (7 * x6))), wrap64 (x6 + 1), 0))) else (some (Go.bits .or .i64 x5 (shl .i64 (Int.tmod (wrap64 (bt x0 x6)) 128) (wrap64 (7 * x6))), wrap64 (x6 + 1), 0))) else (fairwayref1_TakeNum.l0 k x0 (Go.bits .or .i64 x5 (shl .i64 (Int.tmod (wrap64 (bt x0 x6)) 128) (wrap64 (7 * x6)))) (wrap64 (x6 + 1)))) else (none)) else (none)) else (none))) else (some (0, 0, 8))
def fairwayref1_TakeNum.f (k : Nat) (a0 : ByteArray) : Option (Int × Int × Int) := fairwayref1_TakeNum.l0 k a0 0 0
theorem fairwayref1_TakeNum.mono_l : ∀ k, (∀ y0 y1 y2, LeO (fairwayref1_TakeNum.l0 k y0 y1 y2) (fairwayref1_TakeNum.l0 (k + 1) y0 y1 y2))
 | 0 => fun _ _ _ r h => by simp [fairwayref1_TakeNum.l0] at h
 | k + 1 => by
  have ih0 := fairwayref1_TakeNum.mono_l k
  ·
   intro y0 y1 y2
   unfold fairwayref1_TakeNum.l0
   repeat' first
   | (with_reducible exact ih0 _ _ _)
   | (with_reducible exact LeO.refl _)
   | (with_reducible exact LeO.none _)
   | (with_reducible refine LeO.ite ?_ ?_)
   | (with_reducible refine LeO.bind ?_ (fun _ => ?_))
   | exact ih0 _ _ _
   | exact LeO.none _
   | refine LeO.ite ?_ ?_
   | refine LeO.bind ?_ (fun _ => ?_)
theorem fairwayref1_TakeNum.mono : ∀ a0 k, LeO (fairwayref1_TakeNum.f k a0) (fairwayref1_TakeNum.f (k + 1) a0) := by
 intro a0 k
 have ih0 := fairwayref1_TakeNum.mono_l k
 unfold fairwayref1_TakeNum.f
 repeat' first
   | (with_reducible exact ih0 _ _ _)
   | (with_reducible exact LeO.refl _)
   | (with_reducible exact LeO.none _)
   | (with_reducible refine LeO.ite ?_ ?_)
   | (with_reducible refine LeO.bind ?_ (fun _ => ?_))
   | exact ih0 _ _ _
   | exact LeO.none _
   | refine LeO.ite ?_ ?_
   | refine LeO.bind ?_ (fun _ => ?_)
set_option maxHeartbeats 8000000 in
set_option maxRecDepth 100000 in
theorem fairwayref1_TakeNum.calls (k : Nat) (a0 : ByteArray) (r1 : Int) (r2 : Int) (r3 : Int) (w : World) (h : fairwayref1_TakeNum.f k a0 = some (r1, r2, r3)) :
  Calls Tryd.prog 39 #[.string a0] w fun e w' => e = .returned (.tuple #[.int .i64 r1, .int .i64 r2, .int .i64 r3]) ∧ Drawn0 w w' := by
 have H : (fairwayref1_TakeNum.l0 k a0 0 0) = some (r1, r2, r3) := h
 clear h
 have H' := Aside0.mk H
 clear H
 go_enter Tryd.func39, Tryd.ntmps39
 go_wp2
 go_loopg [5, 6] k (fun kq v5 v6 w' => ∃ (x5_1 : Int) (x6_1 : Int), v5 = .int .i64 x5_1 ∧ v6 = .int .i64 x6_1 ∧ Aside0 (fairwayref1_TakeNum.l0 kq a0 x5_1 x6_1 = some (r1, r2, r3)) ∧ Aside0 (kq ≤ k) ∧ Drawn0 w w')
 case atStart => exact ⟨(0), (0), (by first | rfl | (simp; done) | (simp [*]; done)), (by first | rfl | (simp; done) | (simp [*]; done)), H', ⟨Nat.le_refl _⟩, by repeat (first | exact Drawn0.refl _ | apply Drawn0.step)⟩
 case round =>
  clear H'
  obtain ⟨x5_1, x6_1, rfl, rfl, HA, HK1, ⟨m1, rfl⟩⟩ := hrel
  cases gk with
  | zero => exact absurd HA.out (by simp [fairwayref1_TakeNum.l0])
  | succ k1 =>
   have H := HA.out
   clear HA
   simp only [fairwayref1_TakeNum.l0] at H
   by_cases c2 : x6_1 < 4
   ·
    rw [if_pos c2] at H
    have c2b0 : decide (x6_1 < 4) = true := decide_eq_true c2
    clear c2
    by_cases c3 : x6_1 ≥ (a0.size : Int)
    ·
     rw [if_pos c3] at H
     have c3b0 : decide ((a0.size : Int) ≤ x6_1) = true := decide_eq_true c3
     clear c3
     simp only [Option.some.injEq, Prod.mk.injEq] at H
     obtain ⟨rfl, rfl, rfl⟩ := H
     go_wp2
     go_ret3
     exact ⟨by first | rfl | (simp; done) | (simp [*]; done), by repeat (first | exact Drawn0.refl _ | apply Drawn0.step)⟩
    rw [if_neg c3] at H
    have c3b0 : decide ((a0.size : Int) ≤ x6_1) = false := decide_eq_false c3
    clear c3
    by_cases c4 : 0 ≤ x6_1
    ·
     rw [if_pos c4] at H
     have c4b0 : decide (0 ≤ x6_1) = true := decide_eq_true c4
     clear c4
     by_cases c5 : x6_1 < (a0.size : Int)
     ·
      rw [if_pos c5] at H
      have c5b0 : decide (x6_1 < (a0.size : Int)) = true := decide_eq_true c5
      clear c5
      obtain ⟨ji7, hji7⟩ : ∃ j_ : Int, (wrap64 (7 * x6_1)) = j_ := ⟨_, rfl⟩
      replace H : (if 0 ≤ (ji7) then (if (wrap64 (bt a0 x6_1)) < 128 then (if (wrap64 (bt a0 x6_1)) = 0 then (if x6_1 > 0 then (some (0, 0, 8)) else (some (Go.bits .or .i64 x5_1 (shl .i64 (Int.tmod (wrap64 (bt a0 x6_1)) 128) (ji7)), wrap64 (x6_1 + 1), 0))) else (some (Go.bits .or .i64 x5_1 (shl .i64 (Int.tmod (wrap64 (bt a0 x6_1)) 128) (ji7)), wrap64 (x6_1 + 1), 0))) else (fairwayref1_TakeNum.l0 k1 a0 (Go.bits .or .i64 x5_1 (shl .i64 (Int.tmod (wrap64 (bt a0 x6_1)) 128) (ji7))) (wrap64 (x6_1 + 1)))) else (none)) = some (r1, r2, r3) := by first | (rw [hji7] at H; exact H) | (simp only [hji7] at H ⊢; exact H)
      have hji7w : (IntKind.i64.wrap (7 * x6_1)) = ji7 := (i64_w _).trans hji7
      by_cases c8 : 0 ≤ (ji7)
      ·
       rw [if_pos c8] at H
       have c8b0 := eq_true c8
       have c8b1 : decide (0 ≤ (ji7)) = true := decide_eq_true c8
       clear c8
       obtain ⟨ji9, hji9⟩ : ∃ j_ : Int, (shl .i64 (Int.tmod (wrap64 (bt a0 x6_1)) 128) (ji7)) = j_ := ⟨_, rfl⟩
       replace H : (if (wrap64 (bt a0 x6_1)) < 128 then (if (wrap64 (bt a0 x6_1)) = 0 then (if x6_1 > 0 then (some (0, 0, 8)) else (some (Go.bits .or .i64 x5_1 (ji9), wrap64 (x6_1 + 1), 0))) else (some (Go.bits .or .i64 x5_1 (ji9), wrap64 (x6_1 + 1), 0))) else (fairwayref1_TakeNum.l0 k1 a0 (Go.bits .or .i64 x5_1 (ji9)) (wrap64 (x6_1 + 1)))) = some (r1, r2, r3) := by first | (rw [hji9] at H; exact H) | (simp only [hji9] at H ⊢; exact H)
       have hji9_ : (IntKind.i64.wrap ((Int.tmod (wrap64 (bt a0 x6_1)) 128) * 2 ^ min (ji7).toNat 64)) = ji9 := hji9
       have hji9z : (ji7) ≤ 64 → (IntKind.i64.wrap ((Int.tmod (wrap64 (bt a0 x6_1)) 128) * 2 ^ (ji7).toNat)) = ji9 := shl_small hji9
       have hji9y : (wrap64 ((Int.tmod (wrap64 (bt a0 x6_1)) 128) * 2 ^ min (ji7).toNat 64)) = ji9 := (i64_w _).symm.trans hji9_
       have hji9x : (ji7) ≤ 64 → (wrap64 ((Int.tmod (wrap64 (bt a0 x6_1)) 128) * 2 ^ (ji7).toNat)) = ji9 := fun h_ => (i64_w _).symm.trans (hji9z h_)
       by_cases c10 : (wrap64 (bt a0 x6_1)) < 128
       ·
        rw [if_pos c10] at H
        have c10b0 : decide ((wrap64 (bt a0 x6_1)) < 128) = true := decide_eq_true c10
        clear c10
        by_cases c11 : (wrap64 (bt a0 x6_1)) = 0
        ·
         rw [if_pos c11] at H
         have c11b0 : ((wrap64 (bt a0 x6_1)) == 0) = true := beq_iff_eq.mpr c11
         have c11b1 : ((wrap64 (bt a0 x6_1)) != 0) = false := bne_eq_false_iff_eq.mpr c11
         clear c11
         by_cases c12 : x6_1 > 0
         ·
          rw [if_pos c12] at H
          have c12b0 : decide (0 < x6_1) = true := decide_eq_true c12
          clear c12
          simp only [Option.some.injEq, Prod.mk.injEq] at H
          obtain ⟨rfl, rfl, rfl⟩ := H
          have p6 : 0 ≤ (x6_1 : Int) := of_decide_eq_true (by first | (with_reducible assumption) | assumption)
          have q6 : x6_1 < (a0.size : Int) := of_decide_eq_true (by first | (with_reducible assumption) | assumption)
          have hx6 := bt_at a0 x6_1
          replace p6 := eq_true p6
          replace q6 := eq_true q6
          go_wp2
          go_ret3
          exact ⟨by first | rfl | (simp; done) | (simp only [← hji7, ← hji9] <;> (first | rfl | simp)) | (simp [*]; done), by repeat (first | exact Drawn0.refl _ | apply Drawn0.step)⟩
         rw [if_neg c12] at H
         have c12b0 : decide (0 < x6_1) = false := decide_eq_false c12
         clear c12
         simp only [Option.some.injEq, Prod.mk.injEq] at H
         obtain ⟨rfl, rfl, rfl⟩ := H
         have p6 : 0 ≤ (x6_1 : Int) := of_decide_eq_true (by first | (with_reducible assumption) | assumption)
         have q6 : x6_1 < (a0.size : Int) := of_decide_eq_true (by first | (with_reducible assumption) | assumption)
         have hx6 := bt_at a0 x6_1
         replace p6 := eq_true p6
         replace q6 := eq_true q6
         go_wp2
         go_ret3
         exact ⟨by first | rfl | (simp; done) | (simp only [← hji7, ← hji9] <;> (first | rfl | simp)) | (simp [*]; done), by repeat (first | exact Drawn0.refl _ | apply Drawn0.step)⟩
        rw [if_neg c11] at H
        have c11b0 : ((wrap64 (bt a0 x6_1)) == 0) = false := beq_eq_false_iff_ne.mpr c11
        have c11b1 : ((wrap64 (bt a0 x6_1)) != 0) = true := bne_iff_ne.mpr c11
        simp only [Option.some.injEq, Prod.mk.injEq] at H
        obtain ⟨rfl, rfl, rfl⟩ := H
        have p6 : 0 ≤ (x6_1 : Int) := of_decide_eq_true (by first | (with_reducible assumption) | assumption)
        have q6 : x6_1 < (a0.size : Int) := of_decide_eq_true (by first | (with_reducible assumption) | assumption)
        have hx6 := bt_at a0 x6_1
        replace p6 := eq_true p6
        replace q6 := eq_true q6
        go_wp2
        go_ret3
        exact ⟨by first | rfl | (simp; done) | (simp only [← hji7, ← hji9] <;> (first | rfl | simp)) | (simp [*]; done), by repeat (first | exact Drawn0.refl _ | apply Drawn0.step)⟩
       rw [if_neg c10] at H
       have c10b0 : decide ((wrap64 (bt a0 x6_1)) < 128) = false := decide_eq_false c10
       clear c10
       have H' := Aside0.mk H
       clear H
       have p6 : 0 ≤ (x6_1 : Int) := of_decide_eq_true (by first | (with_reducible assumption) | assumption)
       have q6 : x6_1 < (a0.size : Int) := of_decide_eq_true (by first | (with_reducible assumption) | assumption)
       have hx6 := bt_at a0 x6_1
       replace p6 := eq_true p6
       replace q6 := eq_true q6
       go_wp2
       go_roundg k1
       case measure => have := HK1.out; omega
       case rel => exact ⟨(Go.bits .or .i64 x5_1 (ji9)), (wrap64 (x6_1 + 1)), (by first | rfl | (simp; done) | (simp only [← hji9] <;> (first | rfl | simp)) | (simp [*]; done)), (by first | rfl | (simp; done) | (simp [*]; done)), H', ⟨by have := HK1.out; omega⟩, by repeat (first | exact Drawn0.refl _ | apply Drawn0.step)⟩
      rw [if_neg c8] at H
      exact absurd H (by simp)
     rw [if_neg c5] at H
     exact absurd H (by simp)
    rw [if_neg c4] at H
    exact absurd H (by simp)
   rw [if_neg c2] at H
   have c2b0 : decide (x6_1 < 4) = false := decide_eq_false c2
   clear c2
   simp only [Option.some.injEq, Prod.mk.injEq] at H
   obtain ⟨rfl, rfl, rfl⟩ := H
   go_wp2
   go_ret3
   exact ⟨by first | rfl | (simp; done) | (simp [*]; done), by repeat (first | exact Drawn0.refl _ | apply Drawn0.step)⟩

/-! ### fairwayref1_TakeFixed: function 52 -/
def fairwayref1_TakeFixed.l0 : Nat → ByteArray → Int → Int → Int → Option (Int × Bool)
  | 0, _, _, _, _ => none
  | k + 1, x0, x1, x6, x7 => if x7 < x1 then (if 0 ≤ x7 then (if x7 < (x0.size : Int) then (fairwayref1_TakeFixed.l0 k x0 x1 (Go.bits .or .i64 (wrap64 (x6 * 256)) (wrap64 (bt x0 x7))) (wrap64 (x7 + 1))) else (none)) else (none)) else (some (x6, true))
def fairwayref1_TakeFixed.f (k : Nat) (a0 : ByteArray) (a1 : Int) : Option (Int × Bool) := if (a0.size : Int) < a1 then (some (0, false)) else (fairwayref1_TakeFixed.l0 k a0 a1 0 0)
theorem fairwayref1_TakeFixed.mono_l : ∀ k, (∀ y0 y1 y2 y3, LeO (fairwayref1_TakeFixed.l0 k y0 y1 y2 y3) (fairwayref1_TakeFixed.l0 (k + 1) y0 y1 y2 y3))
 | 0 => fun _ _ _ _ r h => by simp [fairwayref1_TakeFixed.l0] at h
 | k + 1 => by
  have ih0 := fairwayref1_TakeFixed.mono_l k
  ·
   intro y0 y1 y2 y3
   unfold fairwayref1_TakeFixed.l0
   repeat' first
   | (with_reducible exact ih0 _ _ _ _)
   | (with_reducible exact LeO.refl _)
   | (with_reducible exact LeO.none _)
   | (with_reducible refine LeO.ite ?_ ?_)
   | (with_reducible refine LeO.bind ?_ (fun _ => ?_))
   | exact ih0 _ _ _ _
   | exact LeO.none _
   | refine LeO.ite ?_ ?_
   | refine LeO.bind ?_ (fun _ => ?_)
theorem fairwayref1_TakeFixed.mono : ∀ a0 a1 k, LeO (fairwayref1_TakeFixed.f k a0 a1) (fairwayref1_TakeFixed.f (k + 1) a0 a1) := by
 intro a0 a1 k
 have ih0 := fairwayref1_TakeFixed.mono_l k
 unfold fairwayref1_TakeFixed.f
 repeat' first
   | (with_reducible exact ih0 _ _ _ _)
   | (with_reducible exact LeO.refl _)
   | (with_reducible exact LeO.none _)
   | (with_reducible refine LeO.ite ?_ ?_)
   | (with_reducible refine LeO.bind ?_ (fun _ => ?_))
   | exact ih0 _ _ _ _
   | exact LeO.none _
   | refine LeO.ite ?_ ?_
   | refine LeO.bind ?_ (fun _ => ?_)
set_option maxHeartbeats 8000000 in
set_option maxRecDepth 100000 in
theorem fairwayref1_TakeFixed.calls (k : Nat) (a0 : ByteArray) (a1 : Int) (r1 : Int) (r2 : Bool) (w : World) (h : fairwayref1_TakeFixed.f k a0 a1 = some (r1, r2)) :
  Calls Tryd.prog 52 #[.string a0, .int .i64 a1] w fun e w' => e = .returned (.tuple #[.int .i64 r1, .bool r2]) ∧ Drawn0 w w' := by
 have H : (if (a0.size : Int) < a1 then (some (0, false)) else (fairwayref1_TakeFixed.l0 k a0 a1 0 0)) = some (r1, r2) := h
 clear h
 by_cases c3 : (a0.size : Int) < a1
 ·
  rw [if_pos c3] at H
  have c3b0 : decide ((a0.size : Int) < a1) = true := decide_eq_true c3
  clear c3
  simp only [Option.some.injEq, Prod.mk.injEq] at H
  obtain ⟨rfl, rfl⟩ := H
  go_enter Tryd.func52, Tryd.ntmps52
  go_wp2
  go_ret2
  exact ⟨by first | rfl | (simp; done) | (simp [*]; done), by repeat (first | exact Drawn0.refl _ | apply Drawn0.step)⟩
 rw [if_neg c3] at H
 have c3b0 : decide ((a0.size : Int) < a1) = false := decide_eq_false c3
 clear c3
 have H' := Aside0.mk H
 clear H
 go_enter Tryd.func52, Tryd.ntmps52
 go_wp2
 go_loopg [6, 7] k (fun kq v6 v7 w' => ∃ (x6_1 : Int) (x7_1 : Int), v6 = .int .i64 x6_1 ∧ v7 = .int .i64 x7_1 ∧ Aside0 (fairwayref1_TakeFixed.l0 kq a0 a1 x6_1 x7_1 = some (r1, r2)) ∧ Aside0 (kq ≤ k) ∧ Drawn0 w w')
 case atStart => exact ⟨(0), (0), (by first | rfl | (simp; done) | (simp [*]; done)), (by first | rfl | (simp; done) | (simp [*]; done)), H', ⟨Nat.le_refl _⟩, by repeat (first | exact Drawn0.refl _ | apply Drawn0.step)⟩
 case round =>
  clear H'
  try clear p2
  try clear c3
  try clear c3b0
  obtain ⟨x6_1, x7_1, rfl, rfl, HA, HK1, ⟨m1, rfl⟩⟩ := hrel
  cases gk with
  | zero => exact absurd HA.out (by simp [fairwayref1_TakeFixed.l0])
  | succ k1 =>
   have H := HA.out
   clear HA
   simp only [fairwayref1_TakeFixed.l0] at H
   by_cases c4 : x7_1 < a1
   ·
    rw [if_pos c4] at H
    have c4b0 : decide (x7_1 < a1) = true := decide_eq_true c4
    clear c4
    by_cases c5 : 0 ≤ x7_1
    ·
     rw [if_pos c5] at H
     have c5b0 : decide (0 ≤ x7_1) = true := decide_eq_true c5
     clear c5
     by_cases c6 : x7_1 < (a0.size : Int)
     ·
      rw [if_pos c6] at H
      have c6b0 : decide (x7_1 < (a0.size : Int)) = true := decide_eq_true c6
      clear c6
      have H' := Aside0.mk H
      clear H
      have p7 : 0 ≤ (x7_1 : Int) := of_decide_eq_true (by first | (with_reducible assumption) | assumption)
      have q7 : x7_1 < (a0.size : Int) := of_decide_eq_true (by first | (with_reducible assumption) | assumption)
      have hx7 := bt_at a0 x7_1
      replace p7 := eq_true p7
      replace q7 := eq_true q7
      go_wp2
      go_roundg k1
      case measure => have := HK1.out; omega
      case rel => exact ⟨(Go.bits .or .i64 (wrap64 (x6_1 * 256)) (wrap64 (bt a0 x7_1))), (wrap64 (x7_1 + 1)), (by first | rfl | (simp; done) | (simp [*]; done)), (by first | rfl | (simp; done) | (simp [*]; done)), H', ⟨by have := HK1.out; omega⟩, by repeat (first | exact Drawn0.refl _ | apply Drawn0.step)⟩
     rw [if_neg c6] at H
     exact absurd H (by simp)
    rw [if_neg c5] at H
    exact absurd H (by simp)
   rw [if_neg c4] at H
   have c4b0 : decide (x7_1 < a1) = false := decide_eq_false c4
   clear c4
   simp only [Option.some.injEq, Prod.mk.injEq] at H
   obtain ⟨rfl, rfl⟩ := H
   go_wp2
   go_ret2
   exact ⟨by first | rfl | (simp; done) | (simp [*]; done), by repeat (first | exact Drawn0.refl _ | apply Drawn0.step)⟩

/-! ### fairwayref4_inner: function 53 -/
def fairwayref4_inner.f (a0 : Int) : Option (Int) := if a0 = 7 then (some 8) else (some a0)
set_option maxHeartbeats 8000000 in
set_option maxRecDepth 100000 in
theorem fairwayref4_inner.calls (a0 : Int) (r : Int) (w : World) (h : fairwayref4_inner.f a0 = some r) :
  Calls Tryd.prog 53 #[.int .i64 a0] w fun e w' => e = .returned (.int .i64 r) ∧ Drawn0 w w' := by
 have H : (if a0 = 7 then (some 8) else (some a0)) = some r := h
 clear h
 by_cases c2 : a0 = 7
 ·
  rw [if_pos c2] at H
  have c2b0 : (a0 == 7) = true := beq_iff_eq.mpr c2
  have c2b1 : (a0 != 7) = false := bne_eq_false_iff_eq.mpr c2
  clear c2
  obtain rfl := Option.some.inj H
  go_enter Tryd.func53, Tryd.ntmps53
  go_wp2
  go_ret
  exact ⟨by first | rfl | (simp; done) | (simp [*]; done), by repeat (first | exact Drawn0.refl _ | apply Drawn0.step)⟩
 rw [if_neg c2] at H
 have c2b0 : (a0 == 7) = false := beq_eq_false_iff_ne.mpr c2
 have c2b1 : (a0 != 7) = true := bne_iff_ne.mpr c2
 obtain rfl := Option.some.inj H
 go_enter Tryd.func53, Tryd.ntmps53
 go_wp2
 go_ret
 exact ⟨by first | rfl | (simp; done) | (simp [*]; done), by repeat (first | exact Drawn0.refl _ | apply Drawn0.step)⟩

/-! ### fairwayref1_TakeLong: function 54 -/
def fairwayref1_TakeLong.f (k : Nat) (a0 : ByteArray) (a1 : Bool) : Option (ByteArray × Int × Int) := (fairwayref1_TakeFixed.f k a0 2).bind fun bt396 => (if bt396.2 = true then (if bt396.1 > 1024 then (some ((⟨#[]⟩ : ByteArray), 0, 2)) else (if (wrap64 ((a0.size : Int) - 2)) < bt396.1 then (some ((⟨#[]⟩ : ByteArray), 0, 7)) else (if 2 ≤ (wrap64 (2 + bt396.1)) then (if (wrap64 (2 + bt396.1)) ≤ (a0.size : Int) then (if a1 = true then ((fairwayref1_Text.f k (a0.extract 2 ((wrap64 (2 + bt396.1)) : Int).toNat)).bind fun t398 => (if t398 = 0 then (some (a0.extract 2 ((wrap64 (2 + bt396.1)) : Int).toNat, wrap64 (2 + bt396.1), 0)) else (some ((⟨#[]⟩ : ByteArray), 0, t398)))) else (some (a0.extract 2 ((wrap64 (2 + bt396.1)) : Int).toNat, wrap64 (2 + bt396.1), 0))) else (none)) else (none)))) else (some ((⟨#[]⟩ : ByteArray), 0, 7)))
theorem fairwayref1_TakeLong.mono : ∀ a0 a1 k, LeO (fairwayref1_TakeLong.f k a0 a1) (fairwayref1_TakeLong.f (k + 1) a0 a1) := by
 intro a0 a1 k
 unfold fairwayref1_TakeLong.f
 repeat' first
   | (with_reducible exact fairwayref1_TakeFixed.mono _ _ _)
   | (with_reducible exact fairwayref1_Text.mono _ _)
   | (with_reducible exact LeO.refl _)
   | (with_reducible exact LeO.none _)
   | (with_reducible refine LeO.ite ?_ ?_)
   | (with_reducible refine LeO.bind ?_ (fun _ => ?_))
   | exact fairwayref1_TakeFixed.mono _ _ _
   | exact fairwayref1_Text.mono _ _
   | exact LeO.none _
   | refine LeO.ite ?_ ?_
   | refine LeO.bind ?_ (fun _ => ?_)
set_option maxHeartbeats 8000000 in
set_option maxRecDepth 100000 in
theorem fairwayref1_TakeLong.calls (k : Nat) (a0 : ByteArray) (a1 : Bool) (r1 : ByteArray) (r2 : Int) (r3 : Int) (w : World) (h : fairwayref1_TakeLong.f k a0 a1 = some (r1, r2, r3)) :
  Calls Tryd.prog 54 #[.string a0, .bool a1] w fun e w' => e = .returned (.tuple #[.string r1, .int .i64 r2, .int .i64 r3]) ∧ Drawn0 w w' := by
 have H : ((fairwayref1_TakeFixed.f k a0 2).bind fun bt396 => (if bt396.2 = true then (if bt396.1 > 1024 then (some ((⟨#[]⟩ : ByteArray), 0, 2)) else (if (wrap64 ((a0.size : Int) - 2)) < bt396.1 then (some ((⟨#[]⟩ : ByteArray), 0, 7)) else (if 2 ≤ (wrap64 (2 + bt396.1)) then (if (wrap64 (2 + bt396.1)) ≤ (a0.size : Int) then (if a1 = true then ((fairwayref1_Text.f k (a0.extract 2 ((wrap64 (2 + bt396.1)) : Int).toNat)).bind fun t398 => (if t398 = 0 then (some (a0.extract 2 ((wrap64 (2 + bt396.1)) : Int).toNat, wrap64 (2 + bt396.1), 0)) else (some ((⟨#[]⟩ : ByteArray), 0, t398)))) else (some (a0.extract 2 ((wrap64 (2 + bt396.1)) : Int).toNat, wrap64 (2 + bt396.1), 0))) else (none)) else (none)))) else (some ((⟨#[]⟩ : ByteArray), 0, 7)))) = some (r1, r2, r3) := h
 clear h
 replace H := Option.bind_eq_some_iff.mp H
 obtain ⟨⟨t396, t397⟩, A30, H⟩ := H
 replace H : (if t397 = true then (if t396 > 1024 then (some ((⟨#[]⟩ : ByteArray), 0, 2)) else (if (wrap64 ((a0.size : Int) - 2)) < t396 then (some ((⟨#[]⟩ : ByteArray), 0, 7)) else (if 2 ≤ (wrap64 (2 + t396)) then (if (wrap64 (2 + t396)) ≤ (a0.size : Int) then (if a1 = true then ((fairwayref1_Text.f k (a0.extract 2 ((wrap64 (2 + t396)) : Int).toNat)).bind fun t398 => (if t398 = 0 then (some (a0.extract 2 ((wrap64 (2 + t396)) : Int).toNat, wrap64 (2 + t396), 0)) else (some ((⟨#[]⟩ : ByteArray), 0, t398)))) else (some (a0.extract 2 ((wrap64 (2 + t396)) : Int).toNat, wrap64 (2 + t396), 0))) else (none)) else (none)))) else (some ((⟨#[]⟩ : ByteArray), 0, 7))) = some (r1, r2, r3) := H
 have A3 := Aside0.mk A30
 clear A30
 by_cases c4 : t397 = true
 ·
  subst c4
  have H1 : (if t396 > 1024 then (some ((⟨#[]⟩ : ByteArray), 0, 2)) else (if (wrap64 ((a0.size : Int) - 2)) < t396 then (some ((⟨#[]⟩ : ByteArray), 0, 7)) else (if 2 ≤ (wrap64 (2 + t396)) then (if (wrap64 (2 + t396)) ≤ (a0.size : Int) then (if a1 = true then ((fairwayref1_Text.f k (a0.extract 2 ((wrap64 (2 + t396)) : Int).toNat)).bind fun t398 => (if t398 = 0 then (some (a0.extract 2 ((wrap64 (2 + t396)) : Int).toNat, wrap64 (2 + t396), 0)) else (some ((⟨#[]⟩ : ByteArray), 0, t398)))) else (some (a0.extract 2 ((wrap64 (2 + t396)) : Int).toNat, wrap64 (2 + t396), 0))) else (none)) else (none)))) = some (r1, r2, r3) := by rw [if_pos rfl] at H; exact H
  clear H
  have H := H1
  clear H1
  by_cases c5 : t396 > 1024
  ·
   rw [if_pos c5] at H
   have c5b0 : decide (1024 < t396) = true := decide_eq_true c5
   clear c5
   simp only [Option.some.injEq, Prod.mk.injEq] at H
   obtain ⟨rfl, rfl, rfl⟩ := H
   go_enter Tryd.func54, Tryd.ntmps54
   go_wp2_with (first | ((with_reducible refine gate_callee (f := 52) rfl ?_); refine goesL_ (some 13) rfl rfl Tryd.func52 (by kernel_rfl) rfl #[.string a0, .int .i64 2] rfl (by (try simp only [List.map_toArray, List.map_cons, List.map_nil]); first | done | rfl | (simp only [List.length_drop, List.length_take]; rfl)) ?_; (with_reducible refine (fairwayref1_TakeFixed.calls k a0 2 t396 true _ A3.out).mono ?_); rintro e w' ⟨rfl, ⟨nd, rfl⟩⟩; refine ⟨_, rfl, ?_⟩))
   go_ret3
   exact ⟨by first | rfl | (simp; done) | (simp [*]; done), by repeat (first | exact Drawn0.refl _ | apply Drawn0.step)⟩
  rw [if_neg c5] at H
  have c5b0 : decide (1024 < t396) = false := decide_eq_false c5
  clear c5
  by_cases c6 : (wrap64 ((a0.size : Int) - 2)) < t396
  ·
   rw [if_pos c6] at H
   have c6b0 : decide ((wrap64 ((a0.size : Int) - 2)) < t396) = true := decide_eq_true c6
   clear c6
   simp only [Option.some.injEq, Prod.mk.injEq] at H
   obtain ⟨rfl, rfl, rfl⟩ := H
   go_enter Tryd.func54, Tryd.ntmps54
   go_wp2_with (first | ((with_reducible refine gate_callee (f := 52) rfl ?_); refine goesL_ (some 13) rfl rfl Tryd.func52 (by kernel_rfl) rfl #[.string a0, .int .i64 2] rfl (by (try simp only [List.map_toArray, List.map_cons, List.map_nil]); first | done | rfl | (simp only [List.length_drop, List.length_take]; rfl)) ?_; (with_reducible refine (fairwayref1_TakeFixed.calls k a0 2 t396 true _ A3.out).mono ?_); rintro e w' ⟨rfl, ⟨nd, rfl⟩⟩; refine ⟨_, rfl, ?_⟩))
   go_ret3
   exact ⟨by first | rfl | (simp; done) | (simp [*]; done), by repeat (first | exact Drawn0.refl _ | apply Drawn0.step)⟩
  rw [if_neg c6] at H
  have c6b0 : decide ((wrap64 ((a0.size : Int) - 2)) < t396) = false := decide_eq_false c6
  clear c6
  by_cases c7 : 2 ≤ (wrap64 (2 + t396))
  ·
   rw [if_pos c7] at H
   have c7b0 := eq_true c7
   have c7b1 : decide (2 ≤ (wrap64 (2 + t396))) = true := decide_eq_true c7
   by_cases c8 : (wrap64 (2 + t396)) ≤ (a0.size : Int)
   ·
    rw [if_pos c8] at H
    have c8b0 := eq_true c8
    have c8b1 : decide ((wrap64 (2 + t396)) ≤ (a0.size : Int)) = true := decide_eq_true c8
    by_cases c9 : a1 = true
    ·
     subst c9
     have H1 : ((fairwayref1_Text.f k (a0.extract 2 ((wrap64 (2 + t396)) : Int).toNat)).bind fun t398 => (if t398 = 0 then (some (a0.extract 2 ((wrap64 (2 + t396)) : Int).toNat, wrap64 (2 + t396), 0)) else (some ((⟨#[]⟩ : ByteArray), 0, t398)))) = some (r1, r2, r3) := by rw [if_pos rfl] at H; exact H
     clear H
     have H := H1
     clear H1
     replace H := Option.bind_eq_some_iff.mp H
     obtain ⟨t398, A100, H⟩ := H
     replace H : (if t398 = 0 then (some (a0.extract 2 ((wrap64 (2 + t396)) : Int).toNat, wrap64 (2 + t396), 0)) else (some ((⟨#[]⟩ : ByteArray), 0, t398))) = some (r1, r2, r3) := H
     have A10 := Aside0.mk A100
     clear A100
     by_cases c11 : t398 = 0
     ·
      rw [if_pos c11] at H
      have c11b0 : (t398 == 0) = true := beq_iff_eq.mpr c11
      have c11b1 : (t398 != 0) = false := bne_eq_false_iff_eq.mpr c11
      clear c11
      simp only [Option.some.injEq, Prod.mk.injEq] at H
      obtain ⟨rfl, rfl, rfl⟩ := H
      go_enter Tryd.func54, Tryd.ntmps54
      go_wp2_with (first | ((with_reducible refine gate_callee (f := 52) rfl ?_); refine goesL_ (some 13) rfl rfl Tryd.func52 (by kernel_rfl) rfl #[.string a0, .int .i64 2] rfl (by (try simp only [List.map_toArray, List.map_cons, List.map_nil]); first | done | rfl | (simp only [List.length_drop, List.length_take]; rfl)) ?_; (with_reducible refine (fairwayref1_TakeFixed.calls k a0 2 t396 true _ A3.out).mono ?_); rintro e w' ⟨rfl, ⟨nd, rfl⟩⟩; refine ⟨_, rfl, ?_⟩) | ((with_reducible refine gate_callee (f := 44) rfl ?_); refine goesL_ (some 31) rfl rfl Tryd.func44 (by kernel_rfl) rfl #[.string (a0.extract 2 ((wrap64 (2 + t396)) : Int).toNat)] rfl (by (try simp only [List.map_toArray, List.map_cons, List.map_nil]); first | done | rfl | (simp only [List.length_drop, List.length_take]; rfl)) ?_; (with_reducible refine (fairwayref1_Text.calls k (a0.extract 2 ((wrap64 (2 + t396)) : Int).toNat) t398 _ A10.out).mono ?_); rintro e w' ⟨rfl, ⟨nd, rfl⟩⟩; refine ⟨_, rfl, ?_⟩))
      go_ret3
      exact ⟨by first | rfl | (simp; done) | (simp [*]; done), by repeat (first | exact Drawn0.refl _ | apply Drawn0.step)⟩
     rw [if_neg c11] at H
     have c11b0 : (t398 == 0) = false := beq_eq_false_iff_ne.mpr c11
     have c11b1 : (t398 != 0) = true := bne_iff_ne.mpr c11
     simp only [Option.some.injEq, Prod.mk.injEq] at H
     obtain ⟨rfl, rfl, rfl⟩ := H
     go_enter Tryd.func54, Tryd.ntmps54
     go_wp2_with (first | ((with_reducible refine gate_callee (f := 52) rfl ?_); refine goesL_ (some 13) rfl rfl Tryd.func52 (by kernel_rfl) rfl #[.string a0, .int .i64 2] rfl (by (try simp only [List.map_toArray, List.map_cons, List.map_nil]); first | done | rfl | (simp only [List.length_drop, List.length_take]; rfl)) ?_; (with_reducible refine (fairwayref1_TakeFixed.calls k a0 2 t396 true _ A3.out).mono ?_); rintro e w' ⟨rfl, ⟨nd, rfl⟩⟩; refine ⟨_, rfl, ?_⟩) | ((with_reducible refine gate_callee (f := 44) rfl ?_); refine goesL_ (some 31) rfl rfl Tryd.func44 (by kernel_rfl) rfl #[.string (a0.extract 2 ((wrap64 (2 + t396)) : Int).toNat)] rfl (by (try simp only [List.map_toArray, List.map_cons, List.map_nil]); first | done | rfl | (simp only [List.length_drop, List.length_take]; rfl)) ?_; (with_reducible refine (fairwayref1_Text.calls k (a0.extract 2 ((wrap64 (2 + t396)) : Int).toNat) t398 _ A10.out).mono ?_); rintro e w' ⟨rfl, ⟨nd, rfl⟩⟩; refine ⟨_, rfl, ?_⟩))
     go_ret3
     exact ⟨by first | rfl | (simp; done) | (simp [*]; done), by repeat (first | exact Drawn0.refl _ | apply Drawn0.step)⟩
    replace c9 := Bool.eq_false_iff.mpr c9
    subst c9
    have H1 : (some (a0.extract 2 ((wrap64 (2 + t396)) : Int).toNat, wrap64 (2 + t396), 0)) = some (r1, r2, r3) := by rw [if_neg (show ¬ (false = true) by decide)] at H; exact H
    clear H
    have H := H1
    clear H1
    simp only [Option.some.injEq, Prod.mk.injEq] at H
    obtain ⟨rfl, rfl, rfl⟩ := H
    go_enter Tryd.func54, Tryd.ntmps54
    go_wp2_with (first | ((with_reducible refine gate_callee (f := 52) rfl ?_); refine goesL_ (some 13) rfl rfl Tryd.func52 (by kernel_rfl) rfl #[.string a0, .int .i64 2] rfl (by (try simp only [List.map_toArray, List.map_cons, List.map_nil]); first | done | rfl | (simp only [List.length_drop, List.length_take]; rfl)) ?_; (with_reducible refine (fairwayref1_TakeFixed.calls k a0 2 t396 true _ A3.out).mono ?_); rintro e w' ⟨rfl, ⟨nd, rfl⟩⟩; refine ⟨_, rfl, ?_⟩))
    go_ret3
    exact ⟨by first | rfl | (simp; done) | (simp [*]; done), by repeat (first | exact Drawn0.refl _ | apply Drawn0.step)⟩
   rw [if_neg c8] at H
   exact absurd H (by simp)
  rw [if_neg c7] at H
  exact absurd H (by simp)
 replace c4 := Bool.eq_false_iff.mpr c4
 subst c4
 have H1 : (some ((⟨#[]⟩ : ByteArray), 0, 7)) = some (r1, r2, r3) := by rw [if_neg (show ¬ (false = true) by decide)] at H; exact H
 clear H
 have H := H1
 clear H1
 simp only [Option.some.injEq, Prod.mk.injEq] at H
 obtain ⟨rfl, rfl, rfl⟩ := H
 go_enter Tryd.func54, Tryd.ntmps54
 go_wp2_with (first | ((with_reducible refine gate_callee (f := 52) rfl ?_); refine goesL_ (some 13) rfl rfl Tryd.func52 (by kernel_rfl) rfl #[.string a0, .int .i64 2] rfl (by (try simp only [List.map_toArray, List.map_cons, List.map_nil]); first | done | rfl | (simp only [List.length_drop, List.length_take]; rfl)) ?_; (with_reducible refine (fairwayref1_TakeFixed.calls k a0 2 t396 false _ A3.out).mono ?_); rintro e w' ⟨rfl, ⟨nd, rfl⟩⟩; refine ⟨_, rfl, ?_⟩))
 go_ret3
 exact ⟨by first | rfl | (simp; done) | (simp [*]; done), by repeat (first | exact Drawn0.refl _ | apply Drawn0.step)⟩

end Go.Proofs.YtiancopplinpcaaDoor.P
