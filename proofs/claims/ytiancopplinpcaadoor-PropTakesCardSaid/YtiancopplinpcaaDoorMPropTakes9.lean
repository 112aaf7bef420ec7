/- The statement PropTakes: for every input the law answers true, and its argument reads behind the call as it did (part 10 of 12 of the proof). -/
import Derived.Test.YtiancopplinpcaaDoorMPropTakes8
section
namespace Go.Proofs.YtiancopplinpcaaDoor.P
open Go.RowKit Go.Proofs.YtiancopplinpcaaDoorW.PrintWords Go.Proofs.YtiancopplinpcaaDoorW.PrintLast Go.Proofs.YtiancopplinpcaaDoorW.PrintMore
attribute [local go_sem] max2_int min2_int max_two min_two max_three min_three max_four min_four
set_option linter.unusedVariables false
set_option linter.unusedSimpArgs false
mutual
def fairwayref4_TakeProps.l0 : Nat → Int → Int → Int → ByteArray → List (S42) → Option ((List (S42)) × Int × Int)
  | 0, _, _, _, _, _ => none
  | k + 1, x0, x7, x8, x10, x11 => if (x10.size : Int) > 0 then (if 0 < (x10.size : Int) then ((fairwayref4_Kind.f k (wrap64 (bt x10 0))).bind fun t429 => (if t429 = 0 then (some (([] : List (S42)), 0, 8)) else (if 1 ≤ (x10.size : Int) then ((fairwayref4_value.f k (wrap64 (bt x10 0)) (x10.extract 1 x10.size)).bind fun bt430 => (if bt430.2.2.2.2.2 = 0 then ((fairwayref4_stands.f k x0 (wrap64 (bt x10 0))).bind fun t437 => (if t437 = true then ((fairwayref4_twice.f k x0 (wrap64 (bt x10 0)) x11).bind fun t438 => (if t438 = true then (fairwayref4_TakeProps.j1 k x0 x7 x8 x10 x11 bt430.2.2.2.2.1 true bt430.1 bt430.2.1 bt430.2.2.1 bt430.2.2.2.1) else ((fairwayref4_fits.f k bt430.1 bt430.2.1 bt430.2.2.1 bt430.2.2.2.1).bind fun t439 => (fairwayref4_TakeProps.j1 k x0 x7 x8 x10 x11 bt430.2.2.2.2.1 (!t439) bt430.1 bt430.2.1 bt430.2.2.1 bt430.2.2.2.1)))) else (fairwayref4_TakeProps.j1 k x0 x7 x8 x10 x11 bt430.2.2.2.2.1 true bt430.1 bt430.2.1 bt430.2.2.1 bt430.2.2.2.1))) else (some (([] : List (S42)), 0, bt430.2.2.2.2.2)))) else (none)))) else (none)) else (some (x11, wrap64 (x8 + x7), 0))
def fairwayref4_TakeProps.j1 : Nat → Int → Int → Int → ByteArray → List (S42) → Int → Bool → Int → Int → ByteArray → ByteArray → Option ((List (S42)) × Int × Int)
  | 0, _, _, _, _, _, _, _, _, _, _, _ => none
  | k + 1, x0, x7, x8, x10, x11, x14, x71, x437000, x437001, x437002, x437003 => if x71 = true then (some (([] : List (S42)), 0, 9)) else (if (x11.length : Int) = 8 then (some (([] : List (S42)), 0, 2)) else (if x11.length < 2932031007402 then (if 0 ≤ (wrap64 (1 + x14)) then (if (wrap64 (1 + x14)) ≤ (x10.size : Int) then (fairwayref4_TakeProps.l0 k x0 x7 x8 (x10.extract ((wrap64 (1 + x14)) : Int).toNat x10.size) (x11 ++ [(⟨x437000, x437001, x437002, x437003⟩ : S42)])) else (none)) else (none)) else (none)))
end
def fairwayref4_TakeProps.f (k : Nat) (a0 : Int) (a1 : ByteArray) : Option ((List (S42)) × Int × Int) := (fairwayref1_TakeNum.f k a1).bind fun bt426 => (if bt426.2.2 = 0 then (if (wrap64 ((a1.size : Int) - bt426.2.1)) < bt426.1 then (some (([] : List (S42)), 0, 7)) else (if 0 ≤ bt426.2.1 then (if bt426.2.1 ≤ (wrap64 (bt426.2.1 + bt426.1)) then (if (wrap64 (bt426.2.1 + bt426.1)) ≤ (a1.size : Int) then (fairwayref4_TakeProps.l0 k a0 bt426.1 bt426.2.1 (a1.extract (bt426.2.1 : Int).toNat ((wrap64 (bt426.2.1 + bt426.1)) : Int).toNat) ([] : List (S42))) else (none)) else (none)) else (none))) else (some (([] : List (S42)), 0, bt426.2.2)))
theorem fairwayref4_TakeProps.mono_l : ∀ k, (∀ y0 y1 y2 y3 y4, LeO (fairwayref4_TakeProps.l0 k y0 y1 y2 y3 y4) (fairwayref4_TakeProps.l0 (k + 1) y0 y1 y2 y3 y4)) ∧ (∀ y0 y1 y2 y3 y4 y5 y6 y7 y8 y9 y10, LeO (fairwayref4_TakeProps.j1 k y0 y1 y2 y3 y4 y5 y6 y7 y8 y9 y10) (fairwayref4_TakeProps.j1 (k + 1) y0 y1 y2 y3 y4 y5 y6 y7 y8 y9 y10))
 | 0 => ⟨fun _ _ _ _ _ r h => by simp [fairwayref4_TakeProps.l0] at h, fun _ _ _ _ _ _ _ _ _ _ _ r h => by simp [fairwayref4_TakeProps.j1] at h⟩
 | k + 1 => by
  obtain ⟨ih0, ih1⟩ := fairwayref4_TakeProps.mono_l k
  refine ⟨?_, ?_⟩
  ·
   intro y0 y1 y2 y3 y4
   unfold fairwayref4_TakeProps.l0
   repeat' first
   | (with_reducible exact ih0 _ _ _ _ _)
   | (with_reducible exact ih1 _ _ _ _ _ _ _ _ _ _ _)
   | (with_reducible exact fairwayref1_TakeNum.mono _ _)
   | (with_reducible exact fairwayref4_Kind.mono _ _)
   | (with_reducible exact fairwayref4_fits.mono _ _ _ _ _)
   | (with_reducible exact fairwayref4_stands.mono _ _ _)
   | (with_reducible exact fairwayref4_twice.mono _ _ _ _)
   | (with_reducible exact fairwayref4_value.mono _ _ _)
   | (with_reducible exact LeO.refl _)
   | (with_reducible exact LeO.none _)
   | (with_reducible refine LeO.ite ?_ ?_)
   | (with_reducible refine LeO.bind ?_ (fun _ => ?_))
   | exact ih0 _ _ _ _ _
   | exact ih1 _ _ _ _ _ _ _ _ _ _ _
   | exact fairwayref1_TakeNum.mono _ _
   | exact fairwayref4_Kind.mono _ _
   | exact fairwayref4_fits.mono _ _ _ _ _
   | exact fairwayref4_stands.mono _ _ _
   | exact fairwayref4_twice.mono _ _ _ _
   | exact fairwayref4_value.mono _ _ _
   | exact LeO.none _
   | refine LeO.ite ?_ ?_
   | refine LeO.bind ?_ (fun _ => ?_)
  ·
   intro y0 y1 y2 y3 y4 y5 y6 y7 y8 y9 y10
   unfold fairwayref4_TakeProps.j1
   repeat' first
   | (with_reducible exact ih0 _ _ _ _ _)
   | (with_reducible exact ih1 _ _ _ _ _ _ _ _ _ _ _)
   | (with_reducible exact fairwayref1_TakeNum.mono _ _)
   | (with_reducible exact fairwayref4_Kind.mono _ _)
   | (with_reducible exact fairwayref4_fits.mono _ _ _ _ _)
   | (with_reducible exact fairwayref4_stands.mono _ _ _)
   | (with_reducible exact fairwayref4_twice.mono _ _ _ _)
   | (with_reducible exact fairwayref4_value.mono _ _ _)
   | (with_reducible exact LeO.refl _)
   | (with_reducible exact LeO.none _)
   | (with_reducible refine LeO.ite ?_ ?_)
   | (with_reducible refine LeO.bind ?_ (fun _ => ?_))
   | exact ih0 _ _ _ _ _
   | exact ih1 _ _ _ _ _ _ _ _ _ _ _
   | exact fairwayref1_TakeNum.mono _ _
   | exact fairwayref4_Kind.mono _ _
   | exact fairwayref4_fits.mono _ _ _ _ _
   | exact fairwayref4_stands.mono _ _ _
   | exact fairwayref4_twice.mono _ _ _ _
   | exact fairwayref4_value.mono _ _ _
   | exact LeO.none _
   | refine LeO.ite ?_ ?_
   | refine LeO.bind ?_ (fun _ => ?_)
theorem fairwayref4_TakeProps.mono : ∀ a0 a1 k, LeO (fairwayref4_TakeProps.f k a0 a1) (fairwayref4_TakeProps.f (k + 1) a0 a1) := by
 intro a0 a1 k
 obtain ⟨ih0, ih1⟩ := fairwayref4_TakeProps.mono_l k
 unfold fairwayref4_TakeProps.f
 repeat' first
   | (with_reducible exact ih0 _ _ _ _ _)
   | (with_reducible exact ih1 _ _ _ _ _ _ _ _ _ _ _)
   | (with_reducible exact fairwayref1_TakeNum.mono _ _)
   | (with_reducible exact fairwayref4_Kind.mono _ _)
   | (with_reducible exact fairwayref4_fits.mono _ _ _ _ _)
   | (with_reducible exact fairwayref4_stands.mono _ _ _)
   | (with_reducible exact fairwayref4_twice.mono _ _ _ _)
   | (with_reducible exact fairwayref4_value.mono _ _ _)
   | (with_reducible exact LeO.refl _)
   | (with_reducible exact LeO.none _)
   | (with_reducible refine LeO.ite ?_ ?_)
   | (with_reducible refine LeO.bind ?_ (fun _ => ?_))
   | exact ih0 _ _ _ _ _
   | exact ih1 _ _ _ _ _ _ _ _ _ _ _
   | exact fairwayref1_TakeNum.mono _ _
   | exact fairwayref4_Kind.mono _ _
   | exact fairwayref4_fits.mono _ _ _ _ _
   | exact fairwayref4_stands.mono _ _ _
   | exact fairwayref4_twice.mono _ _ _ _
   | exact fairwayref4_value.mono _ _ _
   | exact LeO.none _
   | refine LeO.ite ?_ ?_
   | refine LeO.bind ?_ (fun _ => ?_)
set_option maxHeartbeats 8000000 in
set_option maxRecDepth 100000 in
theorem fairwayref4_TakeProps.calls (k : Nat) (a0 : Int) (a1 : ByteArray) (r1 : List (S42)) (r2 : Int) (r3 : Int) (w : World) (h : fairwayref4_TakeProps.f k a0 a1 = some (r1, r2, r3)) :
  Calls Tryd.prog 24 #[.int .i64 a0, .string a1] w fun e w' => ∃ v0_ : Value, e = .returned (.tuple #[v0_, .int .i64 r2, .int .i64 r3]) ∧ Kd.R k42 42 w' w.heap.size (fun _ => True) v0_ r1 ∧ Below w.heap.size w w' := by
 have hu42 := Tryd.underlying42
 have HB := Aside0.mk (Below.refl w.heap.size w)
 have H : ((fairwayref1_TakeNum.f k a1).bind fun bt426 => (if bt426.2.2 = 0 then (if (wrap64 ((a1.size : Int) - bt426.2.1)) < bt426.1 then (some (([] : List (S42)), 0, 7)) else (if 0 ≤ bt426.2.1 then (if bt426.2.1 ≤ (wrap64 (bt426.2.1 + bt426.1)) then (if (wrap64 (bt426.2.1 + bt426.1)) ≤ (a1.size : Int) then (fairwayref4_TakeProps.l0 k a0 bt426.1 bt426.2.1 (a1.extract (bt426.2.1 : Int).toNat ((wrap64 (bt426.2.1 + bt426.1)) : Int).toNat) ([] : List (S42))) else (none)) else (none)) else (none))) else (some (([] : List (S42)), 0, bt426.2.2)))) = some (r1, r2, r3) := h
 clear h
 replace H := Option.bind_eq_some_iff.mp H
 obtain ⟨⟨t426, t427, t428⟩, A30, H⟩ := H
 replace H : (if t428 = 0 then (if (wrap64 ((a1.size : Int) - t427)) < t426 then (some (([] : List (S42)), 0, 7)) else (if 0 ≤ t427 then (if t427 ≤ (wrap64 (t427 + t426)) then (if (wrap64 (t427 + t426)) ≤ (a1.size : Int) then (fairwayref4_TakeProps.l0 k a0 t426 t427 (a1.extract (t427 : Int).toNat ((wrap64 (t427 + t426)) : Int).toNat) ([] : List (S42))) else (none)) else (none)) else (none))) else (some (([] : List (S42)), 0, t428))) = some (r1, r2, r3) := H
 have A3 := Aside0.mk A30
 clear A30
 by_cases c4 : t428 = 0
 ·
  rw [if_pos c4] at H
  have c4b0 : (t428 == 0) = true := beq_iff_eq.mpr c4
  have c4b1 : (t428 != 0) = false := bne_eq_false_iff_eq.mpr c4
  clear c4
  by_cases c5 : (wrap64 ((a1.size : Int) - t427)) < t426
  ·
   rw [if_pos c5] at H
   have c5b0 : decide ((wrap64 ((a1.size : Int) - t427)) < t426) = true := decide_eq_true c5
   clear c5
   simp only [Option.some.injEq, Prod.mk.injEq] at H
   obtain ⟨rfl, rfl, rfl⟩ := H
   go_enter Tryd.func24, Tryd.ntmps24
   go_wp2_with (first | ((with_reducible refine gate_callee (f := 39) rfl ?_); refine goesL_ (some 18) rfl rfl Tryd.func39 (by kernel_rfl) rfl #[.string a1] rfl (by (try simp only [List.map_toArray, List.map_cons, List.map_nil]); first | done | rfl | (simp only [List.length_drop, List.length_take]; rfl)) ?_; (with_reducible refine (fairwayref1_TakeNum.calls k a1 t426 t427 t428 _ A3.out).mono ?_); rintro e w' ⟨rfl, ⟨nd, rfl⟩⟩; refine ⟨_, rfl, ?_⟩))
   go_ret3
   exact ⟨_, by first | rfl | (simp [errW_none, errW_some] <;> rfl) | (simp [*, errW_none, errW_some] <;> rfl), by first | exact Kd.R_nil _ _ _ _ _ | exact Kd.N_nil _ _ _ _ _ | exact Kd.V_nil _ _ _ _ _ | exact Kd.Q_nil _ _ _ _ _ | exact Kd.S_nil _ _ _ _ _, by repeat (first | (with_reducible first | exact HB.out | apply below_alloc | apply pw_below_drewN | apply below_drew1) | exact HB.out)⟩
  rw [if_neg c5] at H
  have c5b0 : decide ((wrap64 ((a1.size : Int) - t427)) < t426) = false := decide_eq_false c5
  clear c5
  by_cases c6 : 0 ≤ t427
  ·
   rw [if_pos c6] at H
   have c6b0 := eq_true c6
   have c6b1 : decide (0 ≤ t427) = true := decide_eq_true c6
   clear c6
   by_cases c7 : t427 ≤ (wrap64 (t427 + t426))
   ·
    rw [if_pos c7] at H
    have c7b0 := eq_true c7
    have c7b1 : decide (t427 ≤ (wrap64 (t427 + t426))) = true := decide_eq_true c7
    by_cases c8 : (wrap64 (t427 + t426)) ≤ (a1.size : Int)
    ·
     rw [if_pos c8] at H
     have c8b0 := eq_true c8
     have c8b1 : decide ((wrap64 (t427 + t426)) ≤ (a1.size : Int)) = true := decide_eq_true c8
     have H' := Aside0.mk H
     clear H
     go_enter Tryd.func24, Tryd.ntmps24
     go_wp2_with (first | ((with_reducible refine gate_callee (f := 39) rfl ?_); refine goesL_ (some 18) rfl rfl Tryd.func39 (by kernel_rfl) rfl #[.string a1] rfl (by (try simp only [List.map_toArray, List.map_cons, List.map_nil]); first | done | rfl | (simp only [List.length_drop, List.length_take]; rfl)) ?_; (with_reducible refine (fairwayref1_TakeNum.calls k a1 t426 t427 t428 _ A3.out).mono ?_); rintro e w' ⟨rfl, ⟨nd, rfl⟩⟩; refine ⟨_, rfl, ?_⟩))
     go_loopg [10, 11] k (fun kq v10 v11 w' => ∃ (x10_1 : ByteArray) (x11_1 : List (S42)), v10 = .string x10_1 ∧ Aside0 (fairwayref4_TakeProps.l0 kq a0 t426 t427 x10_1 x11_1 = some (r1, r2, r3)) ∧ Aside0 (kq ≤ k) ∧ Aside0 (Kd.R k42 42 w' w.heap.size (fun _ => True) v11 x11_1) ∧ Aside0 (Below w.heap.size w w'))
     case atStart => exact ⟨(a1.extract (t427 : Int).toNat ((wrap64 (t427 + t426)) : Int).toNat), (([] : List (S42))), (by first | rfl | (simp; done) | (simp [*]; done)), H', ⟨Nat.le_refl _⟩, ⟨by first | exact Kd.R_nil _ _ _ _ _ | exact Kd.N_nil _ _ _ _ _ | exact Kd.V_nil _ _ _ _ _ | exact Kd.Q_nil _ _ _ _ _ | exact Kd.S_nil _ _ _ _ _⟩, ⟨by repeat (first | (with_reducible first | exact HB.out | apply below_alloc | apply pw_below_drewN | apply below_drew1) | exact HB.out)⟩⟩
     case round =>
      as_aux_lemma =>
       clear H'
       try clear c2
       try clear p2
       try clear c3
       try clear c4
       try clear c4b0
       try clear c4b1
       try clear c5
       try clear c5b0
       try clear c6
       try clear c6b0
       try clear c6b1
       try clear p6
       try clear c7
       try clear c7b0
       try clear c7b1
       try clear c8
       try clear c8b0
       try clear c8b1
       obtain ⟨x10_1, x11_1, rfl, HA, HK1, HO_11, HB⟩ := hrel
       cases gk with
       | zero => exact absurd HA.out (by simp [fairwayref4_TakeProps.l0])
       | succ k1 =>
        have H := HA.out
        clear HA
        simp only [fairwayref4_TakeProps.l0] at H
        by_cases c9 : (x10_1.size : Int) > 0
        ·
         rw [if_pos c9] at H
         have c9b0 : decide (0 < (x10_1.size : Int)) = true := decide_eq_true c9
         have c9b1 : decide (0 < x10_1.size) = true := decide_eq_true (by omega)
         clear c9
         by_cases c10 : 0 < (x10_1.size : Int)
         ·
          rw [if_pos c10] at H
          have c10b0 : decide (0 < (x10_1.size : Int)) = true := decide_eq_true c10
          have c10b1 : decide (0 < x10_1.size) = true := decide_eq_true (by omega)
          clear c10
          replace H := Option.bind_eq_some_iff.mp H
          obtain ⟨t429, A120, H⟩ := H
          replace H : (if t429 = 0 then (some (([] : List (S42)), 0, 8)) else (if 1 ≤ (x10_1.size : Int) then ((fairwayref4_value.f k1 (wrap64 (bt x10_1 0)) (x10_1.extract 1 x10_1.size)).bind fun bt430 => (if bt430.2.2.2.2.2 = 0 then ((fairwayref4_stands.f k1 a0 (wrap64 (bt x10_1 0))).bind fun t437 => (if t437 = true then ((fairwayref4_twice.f k1 a0 (wrap64 (bt x10_1 0)) x11_1).bind fun t438 => (if t438 = true then (fairwayref4_TakeProps.j1 k1 a0 t426 t427 x10_1 x11_1 bt430.2.2.2.2.1 true bt430.1 bt430.2.1 bt430.2.2.1 bt430.2.2.2.1) else ((fairwayref4_fits.f k1 bt430.1 bt430.2.1 bt430.2.2.1 bt430.2.2.2.1).bind fun t439 => (fairwayref4_TakeProps.j1 k1 a0 t426 t427 x10_1 x11_1 bt430.2.2.2.2.1 (!t439) bt430.1 bt430.2.1 bt430.2.2.1 bt430.2.2.2.1)))) else (fairwayref4_TakeProps.j1 k1 a0 t426 t427 x10_1 x11_1 bt430.2.2.2.2.1 true bt430.1 bt430.2.1 bt430.2.2.1 bt430.2.2.2.1))) else (some (([] : List (S42)), 0, bt430.2.2.2.2.2)))) else (none))) = some (r1, r2, r3) := H
          have A12 := Aside0.mk A120
          clear A120
          by_cases c13 : t429 = 0
          ·
           rw [if_pos c13] at H
           have c13b0 : (t429 == 0) = true := beq_iff_eq.mpr c13
           have c13b1 : (t429 != 0) = false := bne_eq_false_iff_eq.mpr c13
           clear c13
           simp only [Option.some.injEq, Prod.mk.injEq] at H
           obtain ⟨rfl, rfl, rfl⟩ := H
           have p11 : 0 ≤ (0 : Int) := (by omega)
           have q11 : 0 < x10_1.size := (by have : (0 : Int) < (x10_1.size : Int) := of_decide_eq_true (by first | (with_reducible assumption) | assumption); omega)
           have hx11 : ∀ h : 0 < x10_1.size, ((x10_1[0]'h).toNat : Int) = bt x10_1 0 := bt_at x10_1 0
           clear p11
           have qi11 : (0 < (x10_1.size : Int)) = True := eq_true (of_decide_eq_true (by first | (with_reducible assumption) | assumption))
           replace q11 := eq_true q11
           go_wp2_with (first | ((with_reducible refine gate_callee (f := 12) rfl ?_); refine goesL_ (some 44) rfl rfl Tryd.func12 (by kernel_rfl) rfl #[.int .i64 (wrap64 (bt x10_1 0))] rfl (by (try simp only [List.map_toArray, List.map_cons, List.map_nil]); first | done | rfl | (simp only [List.length_drop, List.length_take]; rfl)) ?_; (with_reducible refine (fairwayref4_Kind.calls k1 (wrap64 (bt x10_1 0)) t429 _ A12.out).mono ?_); rintro e w' ⟨rfl, ⟨nd, rfl⟩⟩; refine ⟨_, rfl, ?_⟩))
           go_ret3
           exact ⟨_, by first | rfl | (simp [errW_none, errW_some] <;> rfl) | (simp [*, errW_none, errW_some] <;> rfl), by first | exact Kd.R_nil _ _ _ _ _ | exact Kd.N_nil _ _ _ _ _ | exact Kd.V_nil _ _ _ _ _ | exact Kd.Q_nil _ _ _ _ _ | exact Kd.S_nil _ _ _ _ _, by repeat (first | (with_reducible first | exact HB.out | apply below_alloc | apply pw_below_drewN | apply below_drew1) | exact HB.out)⟩
          rw [if_neg c13] at H
          have c13b0 : (t429 == 0) = false := beq_eq_false_iff_ne.mpr c13
          have c13b1 : (t429 != 0) = true := bne_iff_ne.mpr c13
          by_cases c14 : 1 ≤ (x10_1.size : Int)
          ·
           rw [if_pos c14] at H
           have c14b0 := eq_true c14
           have c14b1 : decide (1 ≤ (x10_1.size : Int)) = true := decide_eq_true c14
           clear c14
           replace H := Option.bind_eq_some_iff.mp H
           obtain ⟨⟨t430, t431, t432, t433, t434, t435⟩, A150, H⟩ := H
           replace H : (if t435 = 0 then ((fairwayref4_stands.f k1 a0 (wrap64 (bt x10_1 0))).bind fun t437 => (if t437 = true then ((fairwayref4_twice.f k1 a0 (wrap64 (bt x10_1 0)) x11_1).bind fun t438 => (if t438 = true then (fairwayref4_TakeProps.j1 k1 a0 t426 t427 x10_1 x11_1 t434 true t430 t431 t432 t433) else ((fairwayref4_fits.f k1 t430 t431 t432 t433).bind fun t439 => (fairwayref4_TakeProps.j1 k1 a0 t426 t427 x10_1 x11_1 t434 (!t439) t430 t431 t432 t433)))) else (fairwayref4_TakeProps.j1 k1 a0 t426 t427 x10_1 x11_1 t434 true t430 t431 t432 t433))) else (some (([] : List (S42)), 0, t435))) = some (r1, r2, r3) := H
           have A15 := Aside0.mk A150
           clear A150
           by_cases c16 : t435 = 0
           ·
            rw [if_pos c16] at H
            have c16b0 : (t435 == 0) = true := beq_iff_eq.mpr c16
            have c16b1 : (t435 != 0) = false := bne_eq_false_iff_eq.mpr c16
            clear c16
            have HC17 := Aside0.mk H
            clear H
            have p11 : 0 ≤ (0 : Int) := (by omega)
            have q11 : 0 < x10_1.size := (by have : (0 : Int) < (x10_1.size : Int) := of_decide_eq_true (by first | (with_reducible assumption) | assumption); omega)
            have hx11 : ∀ h : 0 < x10_1.size, ((x10_1[0]'h).toNat : Int) = bt x10_1 0 := bt_at x10_1 0
            clear p11
            have qi11 : (0 < (x10_1.size : Int)) = True := eq_true (of_decide_eq_true (by first | (with_reducible assumption) | assumption))
            replace q11 := eq_true q11
            go_upto_region 15 with (first | ((with_reducible refine gate_callee (f := 12) rfl ?_); refine goesL_ (some 44) rfl rfl Tryd.func12 (by kernel_rfl) rfl #[.int .i64 (wrap64 (bt x10_1 0))] rfl (by (try simp only [List.map_toArray, List.map_cons, List.map_nil]); first | done | rfl | (simp only [List.length_drop, List.length_take]; rfl)) ?_; (with_reducible refine (fairwayref4_Kind.calls k1 (wrap64 (bt x10_1 0)) t429 _ A12.out).mono ?_); rintro e w' ⟨rfl, ⟨nd, rfl⟩⟩; refine ⟨_, rfl, ?_⟩; (try (rw [drewN_self wr]; generalize hq_ : World.drewN wr _ = wr; have n0_ : Aside0 (Kd.R k42 42 wr w.heap.size (fun _ => True) u11 x11_1) := ⟨by rw [← hq_]; exact (by (with_reducible repeat (first | apply Kd.R_alloc | apply Kd.R_drewN | apply Kd.R_drew)); exact HO_11.out)⟩; have n1_ : Aside0 (Below w.heap.size w wr) := ⟨by rw [← hq_]; exact (by repeat (first | (with_reducible first | exact HB.out | apply below_alloc | apply pw_below_drewN | apply below_drew1) | exact HB.out))⟩; clear HO_11 HB hq_; have HO_11 := n0_; have HB := n1_; clear n0_ n1_))) | ((with_reducible refine gate_callee (f := 40) rfl ?_); refine goesL_ (some 50) rfl rfl Tryd.func40 (by kernel_rfl) rfl #[.int .i64 (wrap64 (bt x10_1 0)), .string (x10_1.extract 1 x10_1.size)] rfl (by (try simp only [List.map_toArray, List.map_cons, List.map_nil]); first | done | rfl | (simp only [List.length_drop, List.length_take]; rfl)) ?_; (with_reducible refine (fairwayref4_value.calls k1 (wrap64 (bt x10_1 0)) (x10_1.extract 1 x10_1.size) t430 t431 t432 t433 t434 t435 _ A15.out).mono ?_); rintro e w18 ⟨rfl, hb⟩; refine ⟨_, rfl, ?_⟩; have n0_ := Aside0.mk (Kd.R_below (by (with_reducible repeat (first | apply Kd.R_alloc | apply Kd.R_drewN | apply Kd.R_drew)); exact HO_11.out) hb); have n1_ := Aside0.mk (below_step (by repeat (first | (with_reducible first | exact HB.out | apply below_alloc | apply pw_below_drewN | apply below_drew1) | exact HB.out)) hb); clear HO_11; clear HB; have HO_11 := n0_; have HB := n1_; clear n0_ n1_; (try clear hb); (try clear hb2); (try clear hk); (try clear hi)) | ((with_reducible refine gate_dst (N := 13) rfl ?_); refine box_event ?hg (N := 13) ?hd (cs := #[.int .i64 0, .int .i64 0, .string (⟨#[]⟩ : ByteArray), .string (⟨#[]⟩ : ByteArray)]) (t := 42) ?hr ?_; (case hd => rfl); (case hg => rfl); (case hr => first | (go_simp; done) | (go_simp; rfl)); intro gb436 hg w19 hbox hb; have n0_ := Aside0.mk (Kd.R_below (Kd.R_elderB (by (with_reducible repeat (first | apply Kd.R_alloc | apply Kd.R_drewN | apply Kd.R_drew)); exact HO_11.out) gb436 (Nat.le_of_eq hg.symm)) hb); have n1_ := Aside0.mk (below_step (by repeat (first | (with_reducible first | exact HB.out | apply below_alloc | apply pw_below_drewN | apply below_drew1) | exact HB.out)) hb); have n2_ := Aside0.mk (hbox); have n3_ := Aside0.mk ((by rw [hg]; exact (below_size (by repeat (first | (with_reducible first | exact HB.out | apply below_alloc | apply pw_below_drewN | apply below_drew1) | exact HB.out))) : w.heap.size ≤ gb436)); have n4_ := Aside0.mk ((by rw [hg]; exact (below_size (by repeat (first | (with_reducible first | exact HB.out | apply below_alloc | apply pw_below_drewN | apply below_drew1) | exact HB.out))) : w.heap.size ≤ gb436)); clear HO_11; clear HB; have HO_11 := n0_; have HB := n1_; have BK436 := n2_; have GW436 := n3_; have GE436 := n4_; clear n0_ n1_ n2_ n3_ n4_; clear hb hbox hg; have hcz20_0 : w19.cell? ⟨gb436, 0, none⟩ = some (.int .i64 0) := (blk_cell BK436.out 0).trans rfl; have hcz20_1 : w19.cell? ⟨gb436, 1, none⟩ = some (.int .i64 0) := (blk_cell BK436.out 1).trans rfl; have hcz20_2 : w19.cell? ⟨gb436, 2, none⟩ = some (.string (⟨#[]⟩ : ByteArray)) := (blk_cell BK436.out 2).trans rfl; have hcz20_3 : w19.cell? ⟨gb436, 3, none⟩ = some (.string (⟨#[]⟩ : ByteArray)) := (blk_cell BK436.out 3).trans rfl; have hfz20_0 := blk_frozen BK436.out 0; have hfz20_1 := blk_frozen BK436.out 1; have hfz20_2 := blk_frozen BK436.out 2; have hfz20_3 := blk_frozen BK436.out 3))
            (try simp only [Act.put, List.setIfInBounds_toArray, List.set_cons_zero, List.set_cons_succ])
            go_cut [71] (fun v71 wc => ∃ (kq : Nat) (x71_16 : Bool), v71 = .bool x71_16 ∧ Aside0 (fairwayref4_TakeProps.j1 kq a0 t426 t427 x10_1 x11_1 t434 x71_16 t430 t431 t432 t433 = some (r1, r2, r3)) ∧ Aside0 (kq ≤ k1) ∧ Aside0 (Kd.R k42 42 wc w.heap.size (fun k_ => k_ ≠ gb436) u11 x11_1) ∧ Aside0 (wc.heap[gb436]? = some (.cells #[.int .i64 t430, .int .i64 t431, .string t432, .string t433] 42 (0, 0))) ∧ Aside0 (Below w.heap.size w wc))
            case first =>
             have H := HC17.out
             clear HC17
             replace H := Option.bind_eq_some_iff.mp H
             obtain ⟨t437, A210, H⟩ := H
             replace H : (if t437 = true then ((fairwayref4_twice.f k1 a0 (wrap64 (bt x10_1 0)) x11_1).bind fun t438 => (if t438 = true then (fairwayref4_TakeProps.j1 k1 a0 t426 t427 x10_1 x11_1 t434 true t430 t431 t432 t433) else ((fairwayref4_fits.f k1 t430 t431 t432 t433).bind fun t439 => (fairwayref4_TakeProps.j1 k1 a0 t426 t427 x10_1 x11_1 t434 (!t439) t430 t431 t432 t433)))) else (fairwayref4_TakeProps.j1 k1 a0 t426 t427 x10_1 x11_1 t434 true t430 t431 t432 t433)) = some (r1, r2, r3) := H
             have A21 := Aside0.mk A210
             clear A210
             by_cases c22 : t437 = true
             ·
              subst c22
              have H1 : ((fairwayref4_twice.f k1 a0 (wrap64 (bt x10_1 0)) x11_1).bind fun t438 => (if t438 = true then (fairwayref4_TakeProps.j1 k1 a0 t426 t427 x10_1 x11_1 t434 true t430 t431 t432 t433) else ((fairwayref4_fits.f k1 t430 t431 t432 t433).bind fun t439 => (fairwayref4_TakeProps.j1 k1 a0 t426 t427 x10_1 x11_1 t434 (!t439) t430 t431 t432 t433)))) = some (r1, r2, r3) := by rw [if_pos rfl] at H; exact H
              clear H
              have H := H1
              clear H1
              replace H := Option.bind_eq_some_iff.mp H
              obtain ⟨t438, A230, H⟩ := H
              replace H : (if t438 = true then (fairwayref4_TakeProps.j1 k1 a0 t426 t427 x10_1 x11_1 t434 true t430 t431 t432 t433) else ((fairwayref4_fits.f k1 t430 t431 t432 t433).bind fun t439 => (fairwayref4_TakeProps.j1 k1 a0 t426 t427 x10_1 x11_1 t434 (!t439) t430 t431 t432 t433))) = some (r1, r2, r3) := H
              have A23 := Aside0.mk A230
              clear A230
              by_cases c24 : t438 = true
              ·
               subst c24
               have H1 : (fairwayref4_TakeProps.j1 k1 a0 t426 t427 x10_1 x11_1 t434 true t430 t431 t432 t433) = some (r1, r2, r3) := by rw [if_pos rfl] at H; exact H
               clear H
               have H := H1
               clear H1
               have H' := Aside0.mk H
               clear H
               go_wp2_with (first | ((with_reducible refine gate_callee (f := 31) rfl ?_); refine goesL_ (some 59) rfl rfl Tryd.func31 (by kernel_rfl) rfl #[.int .i64 a0, .int .i64 (wrap64 (bt x10_1 0))] rfl (by (try simp only [List.map_toArray, List.map_cons, List.map_nil]); first | done | rfl | (simp only [List.length_drop, List.length_take]; rfl)) ?_; (with_reducible refine (fairwayref4_stands.calls k1 a0 (wrap64 (bt x10_1 0)) true _ A21.out).mono ?_); rintro e w25 ⟨rfl, hb⟩; refine ⟨_, rfl, ?_⟩; have n0_ := Aside0.mk (Kd.R_below (by (with_reducible repeat (first | apply Kd.R_alloc | apply Kd.R_drewN | apply Kd.R_drew)); exact (Kd.R_mono (Kd.R_far (p := ⟨gb436, 3, none⟩) (Kd.R_far (p := ⟨gb436, 2, none⟩) (Kd.R_far (p := ⟨gb436, 1, none⟩) (Kd.R_far (p := ⟨gb436, 0, none⟩) (Kd.R_mono HO_11.out (fun k_ hk => (⟨hk, hk.2⟩ : _ ∧ k_ ≠ gb436))) (fun _ hk => hk.2) (.int .i64 t430)) (fun _ hk => hk.2) (.int .i64 t431)) (fun _ hk => hk.2) (.string t432)) (fun _ hk => hk.2) (.string t433)) (fun _ h_ => h_.1))) hb); have n1_ := Aside0.mk (blk_below (g := gb436) (o := .cells #[.int .i64 t430, .int .i64 t431, .string t432, .string t433] 42 (0, 0)) (by (with_reducible repeat (first | refine blk_drewN ?_ _ | refine blk_drew ?_ | refine blk_alloc ?_ _)); refine blk_put (cs := #[.int .i64 t430, .int .i64 t431, .string t432, .string (⟨#[]⟩ : ByteArray)]) ?_ 3 _ rfl; (with_reducible repeat (first | refine blk_drewN ?_ _ | refine blk_drew ?_ | refine blk_alloc ?_ _)); refine blk_put (cs := #[.int .i64 t430, .int .i64 t431, .string (⟨#[]⟩ : ByteArray), .string (⟨#[]⟩ : ByteArray)]) ?_ 2 _ rfl; (with_reducible repeat (first | refine blk_drewN ?_ _ | refine blk_drew ?_ | refine blk_alloc ?_ _)); refine blk_put (cs := #[.int .i64 t430, .int .i64 0, .string (⟨#[]⟩ : ByteArray), .string (⟨#[]⟩ : ByteArray)]) ?_ 1 _ rfl; (with_reducible repeat (first | refine blk_drewN ?_ _ | refine blk_drew ?_ | refine blk_alloc ?_ _)); refine blk_put (cs := #[.int .i64 0, .int .i64 0, .string (⟨#[]⟩ : ByteArray), .string (⟨#[]⟩ : ByteArray)]) ?_ 0 _ rfl; (with_reducible repeat (first | refine blk_drewN ?_ _ | refine blk_drew ?_ | refine blk_alloc ?_ _)); exact BK436.out) hb); have n2_ := Aside0.mk (below_step (by repeat (first | (with_reducible first | exact HB.out | apply below_alloc | apply pw_below_drewN | apply below_drew1 | refine below_set ?_ GE436.out) | exact HB.out)) hb); clear HO_11; clear BK436; clear HB; have HO_11 := n0_; have BK436 := n1_; have HB := n2_; clear n0_ n1_ n2_; (try clear hb); (try clear hb2); (try clear hk); (try clear hi); obtain ⟨Ao26, co26, eo26⟩ := Kd.R_slice HO_11.out; subst eo26) | (go_at_call 32; (with_reducible refine (fairwayref4_twice.calls k1 a0 (wrap64 (bt x10_1 0)) _ _ x11_1 true _ ?side1 ?side2 A23.out).mono ?_); (case side1 => repeat (first | exact (Kd.R_reads' HO_11.out).2.2 | (with_reducible refine Kd.C_alloc ?_ _) | (with_reducible refine Kd.C_drewN ?_ _) | (with_reducible refine Kd.C_drew ?_))); (case side2 => exact (Kd.R_reads' HO_11.out).2.1); rintro e w' ⟨rfl, ⟨nd, rfl⟩⟩))
               go_meet
               case rel => exact ⟨_, (true), (by first | rfl | (simp; done) | (simp [*]; done)), H', ⟨by have := HK1.out; first | omega | exact Nat.le_refl _⟩, ⟨by (with_reducible repeat (first | apply Kd.R_alloc | apply Kd.R_drewN | apply Kd.R_drew)); exact Kd.R_mono HO_11.out (fun _ hk => hk.2)⟩, ⟨by (with_reducible repeat (first | refine blk_drewN ?_ _ | refine blk_drew ?_ | refine blk_alloc ?_ _)); exact BK436.out⟩, ⟨by repeat (first | (with_reducible first | exact HB.out | apply below_alloc | apply pw_below_drewN | apply below_drew1 | refine below_set ?_ GE436.out) | exact HB.out)⟩⟩
              replace c24 := Bool.eq_false_iff.mpr c24
              subst c24
              have H1 : ((fairwayref4_fits.f k1 t430 t431 t432 t433).bind fun t439 => (fairwayref4_TakeProps.j1 k1 a0 t426 t427 x10_1 x11_1 t434 (!t439) t430 t431 t432 t433)) = some (r1, r2, r3) := by rw [if_neg (show ¬ (false = true) by decide)] at H; exact H
              clear H
              have H := H1
              clear H1
              replace H := Option.bind_eq_some_iff.mp H
              obtain ⟨t439, A270, H⟩ := H
              replace H : (fairwayref4_TakeProps.j1 k1 a0 t426 t427 x10_1 x11_1 t434 (!t439) t430 t431 t432 t433) = some (r1, r2, r3) := H
              have A27 := Aside0.mk A270
              clear A270
              have H' := Aside0.mk H
              clear H
              go_wp2_with (first | ((with_reducible refine gate_callee (f := 31) rfl ?_); refine goesL_ (some 59) rfl rfl Tryd.func31 (by kernel_rfl) rfl #[.int .i64 a0, .int .i64 (wrap64 (bt x10_1 0))] rfl (by (try simp only [List.map_toArray, List.map_cons, List.map_nil]); first | done | rfl | (simp only [List.length_drop, List.length_take]; rfl)) ?_; (with_reducible refine (fairwayref4_stands.calls k1 a0 (wrap64 (bt x10_1 0)) true _ A21.out).mono ?_); rintro e w28 ⟨rfl, hb⟩; refine ⟨_, rfl, ?_⟩; have n0_ := Aside0.mk (Kd.R_below (by (with_reducible repeat (first | apply Kd.R_alloc | apply Kd.R_drewN | apply Kd.R_drew)); exact (Kd.R_mono (Kd.R_far (p := ⟨gb436, 3, none⟩) (Kd.R_far (p := ⟨gb436, 2, none⟩) (Kd.R_far (p := ⟨gb436, 1, none⟩) (Kd.R_far (p := ⟨gb436, 0, none⟩) (Kd.R_mono HO_11.out (fun k_ hk => (⟨hk, hk.2⟩ : _ ∧ k_ ≠ gb436))) (fun _ hk => hk.2) (.int .i64 t430)) (fun _ hk => hk.2) (.int .i64 t431)) (fun _ hk => hk.2) (.string t432)) (fun _ hk => hk.2) (.string t433)) (fun _ h_ => h_.1))) hb); have n1_ := Aside0.mk (blk_below (g := gb436) (o := .cells #[.int .i64 t430, .int .i64 t431, .string t432, .string t433] 42 (0, 0)) (by (with_reducible repeat (first | refine blk_drewN ?_ _ | refine blk_drew ?_ | refine blk_alloc ?_ _)); refine blk_put (cs := #[.int .i64 t430, .int .i64 t431, .string t432, .string (⟨#[]⟩ : ByteArray)]) ?_ 3 _ rfl; (with_reducible repeat (first | refine blk_drewN ?_ _ | refine blk_drew ?_ | refine blk_alloc ?_ _)); refine blk_put (cs := #[.int .i64 t430, .int .i64 t431, .string (⟨#[]⟩ : ByteArray), .string (⟨#[]⟩ : ByteArray)]) ?_ 2 _ rfl; (with_reducible repeat (first | refine blk_drewN ?_ _ | refine blk_drew ?_ | refine blk_alloc ?_ _)); refine blk_put (cs := #[.int .i64 t430, .int .i64 0, .string (⟨#[]⟩ : ByteArray), .string (⟨#[]⟩ : ByteArray)]) ?_ 1 _ rfl; (with_reducible repeat (first | refine blk_drewN ?_ _ | refine blk_drew ?_ | refine blk_alloc ?_ _)); refine blk_put (cs := #[.int .i64 0, .int .i64 0, .string (⟨#[]⟩ : ByteArray), .string (⟨#[]⟩ : ByteArray)]) ?_ 0 _ rfl; (with_reducible repeat (first | refine blk_drewN ?_ _ | refine blk_drew ?_ | refine blk_alloc ?_ _)); exact BK436.out) hb); have n2_ := Aside0.mk (below_step (by repeat (first | (with_reducible first | exact HB.out | apply below_alloc | apply pw_below_drewN | apply below_drew1 | refine below_set ?_ GE436.out) | exact HB.out)) hb); clear HO_11; clear BK436; clear HB; have HO_11 := n0_; have BK436 := n1_; have HB := n2_; clear n0_ n1_ n2_; (try clear hb); (try clear hb2); (try clear hk); (try clear hi); obtain ⟨Ao29, co29, eo29⟩ := Kd.R_slice HO_11.out; subst eo29) | (go_at_call 32; (with_reducible refine (fairwayref4_twice.calls k1 a0 (wrap64 (bt x10_1 0)) _ _ x11_1 false _ ?side1 ?side2 A23.out).mono ?_); (case side1 => repeat (first | exact (Kd.R_reads' HO_11.out).2.2 | (with_reducible refine Kd.C_alloc ?_ _) | (with_reducible refine Kd.C_drewN ?_ _) | (with_reducible refine Kd.C_drew ?_))); (case side2 => exact (Kd.R_reads' HO_11.out).2.1); rintro e w' ⟨rfl, ⟨nd, rfl⟩⟩; have hcz30_0 : w28.cell? ⟨gb436, 0, none⟩ = some (.int .i64 t430) := (blk_cell BK436.out 0).trans rfl; have hcz30_1 : w28.cell? ⟨gb436, 1, none⟩ = some (.int .i64 t431) := (blk_cell BK436.out 1).trans rfl; have hcz30_2 : w28.cell? ⟨gb436, 2, none⟩ = some (.string t432) := (blk_cell BK436.out 2).trans rfl; have hcz30_3 : w28.cell? ⟨gb436, 3, none⟩ = some (.string t433) := (blk_cell BK436.out 3).trans rfl; have hfz30_0 := blk_frozen BK436.out 0; have hfz30_1 := blk_frozen BK436.out 1; have hfz30_2 := blk_frozen BK436.out 2; have hfz30_3 := blk_frozen BK436.out 3) | (go_at_call 30; (with_reducible refine (fairwayref4_fits.calls k1 t430 t431 t432 t433 t439 _ A27.out).mono ?_); rintro e w31 ⟨rfl, hb⟩; have n0_ := Aside0.mk (Kd.R_below (by (with_reducible repeat (first | apply Kd.R_alloc | apply Kd.R_drewN | apply Kd.R_drew)); exact HO_11.out) hb); have n1_ := Aside0.mk (blk_below (g := gb436) (o := .cells #[.int .i64 t430, .int .i64 t431, .string t432, .string t433] 42 (0, 0)) (by (with_reducible repeat (first | refine blk_drewN ?_ _ | refine blk_drew ?_ | refine blk_alloc ?_ _)); exact BK436.out) hb); have n2_ := Aside0.mk (below_step (by repeat (first | (with_reducible first | exact HB.out | apply below_alloc | apply pw_below_drewN | apply below_drew1 | refine below_set ?_ GE436.out) | exact HB.out)) hb); clear HO_11; clear BK436; clear HB; have HO_11 := n0_; have BK436 := n1_; have HB := n2_; clear n0_ n1_ n2_; (try clear hb); (try clear hb2); (try clear hk); (try clear hi)))
              go_meet
              case rel => exact ⟨_, (!t439), (by first | rfl | (simp; done) | (simp [*]; done)), H', ⟨by have := HK1.out; first | omega | exact Nat.le_refl _⟩, ⟨by (with_reducible repeat (first | apply Kd.R_alloc | apply Kd.R_drewN | apply Kd.R_drew)); exact Kd.R_mono HO_11.out (fun _ hk => hk.2)⟩, ⟨by (with_reducible repeat (first | refine blk_drewN ?_ _ | refine blk_drew ?_ | refine blk_alloc ?_ _)); exact BK436.out⟩, ⟨by repeat (first | (with_reducible first | exact HB.out | apply below_alloc | apply pw_below_drewN | apply below_drew1 | refine below_set ?_ GE436.out) | exact HB.out)⟩⟩
             replace c22 := Bool.eq_false_iff.mpr c22
             subst c22
             have H1 : (fairwayref4_TakeProps.j1 k1 a0 t426 t427 x10_1 x11_1 t434 true t430 t431 t432 t433) = some (r1, r2, r3) := by rw [if_neg (show ¬ (false = true) by decide)] at H; exact H
             clear H
             have H := H1
             clear H1
             have H' := Aside0.mk H
             clear H
             go_wp2_with (first | ((with_reducible refine gate_callee (f := 31) rfl ?_); refine goesL_ (some 59) rfl rfl Tryd.func31 (by kernel_rfl) rfl #[.int .i64 a0, .int .i64 (wrap64 (bt x10_1 0))] rfl (by (try simp only [List.map_toArray, List.map_cons, List.map_nil]); first | done | rfl | (simp only [List.length_drop, List.length_take]; rfl)) ?_; (with_reducible refine (fairwayref4_stands.calls k1 a0 (wrap64 (bt x10_1 0)) false _ A21.out).mono ?_); rintro e w32 ⟨rfl, hb⟩; refine ⟨_, rfl, ?_⟩; have n0_ := Aside0.mk (Kd.R_below (by (with_reducible repeat (first | apply Kd.R_alloc | apply Kd.R_drewN | apply Kd.R_drew)); exact (Kd.R_mono (Kd.R_far (p := ⟨gb436, 3, none⟩) (Kd.R_far (p := ⟨gb436, 2, none⟩) (Kd.R_far (p := ⟨gb436, 1, none⟩) (Kd.R_far (p := ⟨gb436, 0, none⟩) (Kd.R_mono HO_11.out (fun k_ hk => (⟨hk, hk.2⟩ : _ ∧ k_ ≠ gb436))) (fun _ hk => hk.2) (.int .i64 t430)) (fun _ hk => hk.2) (.int .i64 t431)) (fun _ hk => hk.2) (.string t432)) (fun _ hk => hk.2) (.string t433)) (fun _ h_ => h_.1))) hb); have n1_ := Aside0.mk (blk_below (g := gb436) (o := .cells #[.int .i64 t430, .int .i64 t431, .string t432, .string t433] 42 (0, 0)) (by (with_reducible repeat (first | refine blk_drewN ?_ _ | refine blk_drew ?_ | refine blk_alloc ?_ _)); refine blk_put (cs := #[.int .i64 t430, .int .i64 t431, .string t432, .string (⟨#[]⟩ : ByteArray)]) ?_ 3 _ rfl; (with_reducible repeat (first | refine blk_drewN ?_ _ | refine blk_drew ?_ | refine blk_alloc ?_ _)); refine blk_put (cs := #[.int .i64 t430, .int .i64 t431, .string (⟨#[]⟩ : ByteArray), .string (⟨#[]⟩ : ByteArray)]) ?_ 2 _ rfl; (with_reducible repeat (first | refine blk_drewN ?_ _ | refine blk_drew ?_ | refine blk_alloc ?_ _)); refine blk_put (cs := #[.int .i64 t430, .int .i64 0, .string (⟨#[]⟩ : ByteArray), .string (⟨#[]⟩ : ByteArray)]) ?_ 1 _ rfl; (with_reducible repeat (first | refine blk_drewN ?_ _ | refine blk_drew ?_ | refine blk_alloc ?_ _)); refine blk_put (cs := #[.int .i64 0, .int .i64 0, .string (⟨#[]⟩ : ByteArray), .string (⟨#[]⟩ : ByteArray)]) ?_ 0 _ rfl; (with_reducible repeat (first | refine blk_drewN ?_ _ | refine blk_drew ?_ | refine blk_alloc ?_ _)); exact BK436.out) hb); have n2_ := Aside0.mk (below_step (by repeat (first | (with_reducible first | exact HB.out | apply below_alloc | apply pw_below_drewN | apply below_drew1 | refine below_set ?_ GE436.out) | exact HB.out)) hb); clear HO_11; clear BK436; clear HB; have HO_11 := n0_; have BK436 := n1_; have HB := n2_; clear n0_ n1_ n2_; (try clear hb); (try clear hb2); (try clear hk); (try clear hi)))
             go_meet
             case rel => exact ⟨_, (true), (by first | rfl | (simp; done) | (simp [*]; done)), H', ⟨by have := HK1.out; first | omega | exact Nat.le_refl _⟩, ⟨by (with_reducible repeat (first | apply Kd.R_alloc | apply Kd.R_drewN | apply Kd.R_drew)); exact Kd.R_mono HO_11.out (fun _ hk => hk.2)⟩, ⟨by (with_reducible repeat (first | refine blk_drewN ?_ _ | refine blk_drew ?_ | refine blk_alloc ?_ _)); exact BK436.out⟩, ⟨by repeat (first | (with_reducible first | exact HB.out | apply below_alloc | apply pw_below_drewN | apply below_drew1 | refine below_set ?_ GE436.out) | exact HB.out)⟩⟩
            case rest =>
             as_aux_lemma =>
              clear HC17
              try clear c1
              try clear p1
              try clear q1
              try clear hx1
              try clear qi1
              try clear c2
              try clear p2
              try clear c3
              try clear c4
              try clear c4b0
              try clear c4b1
              try clear c5
              try clear c5b0
              try clear c6
              try clear c6b0
              try clear c6b1
              try clear p6
              try clear c7
              try clear c7b0
              try clear c7b1
              try clear c8
              try clear c8b0
              try clear c8b1
              try clear c9
              try clear c9b0
              try clear c9b1
              try clear c10
              try clear c10b0
              try clear c10b1
              try clear p11
              try clear q11
              try clear hx11
              try clear qi11
              try clear c12
              try clear c13
              try clear c13b0
              try clear c13b1
              try clear c14
              try clear c14b0
              try clear c14b1
              try clear c16
              try clear c16b0
              try clear c16b1
              try clear c22
              try clear c24
              try clear c31
              try clear hcz20_0
              try clear hcz20_1
              try clear hcz20_2
              try clear hcz20_3
              try clear hcz30_0
              try clear hcz30_1
              try clear hcz30_2
              try clear hcz30_3
              try clear hfz20_0
              try clear hfz20_1
              try clear hfz20_2
              try clear hfz20_3
              try clear hfz30_0
              try clear hfz30_1
              try clear hfz30_2
              try clear hfz30_3
              try clear p11
              try clear p2
              try clear p6
              try clear q11
              obtain ⟨kq, x71_16, rfl, HA, HJ16, HO_11, BK436, HB⟩ := hcut
              cases kq with
              | zero => exact absurd HA.out (by simp [fairwayref4_TakeProps.j1])
              | succ kj16 =>
               have H := HA.out
               clear HA
               simp only [fairwayref4_TakeProps.j1] at H
               by_cases c33 : x71_16 = true
               ·
                subst c33
                have H1 : (some (([] : List (S42)), 0, 9)) = some (r1, r2, r3) := by rw [if_pos rfl] at H; exact H
                clear H
                have H := H1
                clear H1
                simp only [Option.some.injEq, Prod.mk.injEq] at H
                obtain ⟨rfl, rfl, rfl⟩ := H
                go_wp2
                go_ret3
                exact ⟨_, by first | rfl | (simp [errW_none, errW_some] <;> rfl) | (simp [*, errW_none, errW_some] <;> rfl), by first | exact Kd.R_nil _ _ _ _ _ | exact Kd.N_nil _ _ _ _ _ | exact Kd.V_nil _ _ _ _ _ | exact Kd.Q_nil _ _ _ _ _ | exact Kd.S_nil _ _ _ _ _, by repeat (first | (with_reducible first | exact HB.out | apply below_alloc | apply pw_below_drewN | apply below_drew1 | refine below_set ?_ GE436.out) | exact HB.out)⟩
               replace c33 := Bool.eq_false_iff.mpr c33
               subst c33
               have H1 : (if (x11_1.length : Int) = 8 then (some (([] : List (S42)), 0, 2)) else (if x11_1.length < 2932031007402 then (if 0 ≤ (wrap64 (1 + t434)) then (if (wrap64 (1 + t434)) ≤ (x10_1.size : Int) then (fairwayref4_TakeProps.l0 kj16 a0 t426 t427 (x10_1.extract ((wrap64 (1 + t434)) : Int).toNat x10_1.size) (x11_1 ++ [(⟨t430, t431, t432, t433⟩ : S42)])) else (none)) else (none)) else (none))) = some (r1, r2, r3) := by rw [if_neg (show ¬ (false = true) by decide)] at H; exact H
               clear H
               have H := H1
               clear H1
               by_cases c34 : (x11_1.length : Int) = 8
               ·
                rw [if_pos c34] at H
                have c34b0 : ((x11_1.length : Int) == 8) = true := beq_iff_eq.mpr c34
                have c34b1 : ((x11_1.length : Int) != 8) = false := bne_eq_false_iff_eq.mpr c34
                clear c34
                simp only [Option.some.injEq, Prod.mk.injEq] at H
                obtain ⟨rfl, rfl, rfl⟩ := H
                obtain ⟨Ao35, co35, eo35⟩ := Kd.R_slice HO_11.out
                subst eo35
                go_wp2
                go_ret3
                exact ⟨_, by first | rfl | (simp [errW_none, errW_some] <;> rfl) | (simp [*, errW_none, errW_some] <;> rfl), by first | exact Kd.R_nil _ _ _ _ _ | exact Kd.N_nil _ _ _ _ _ | exact Kd.V_nil _ _ _ _ _ | exact Kd.Q_nil _ _ _ _ _ | exact Kd.S_nil _ _ _ _ _, by repeat (first | (with_reducible first | exact HB.out | apply below_alloc | apply pw_below_drewN | apply below_drew1 | refine below_set ?_ GE436.out) | exact HB.out)⟩
               rw [if_neg c34] at H
               have c34b0 : ((x11_1.length : Int) == 8) = false := beq_eq_false_iff_ne.mpr c34
               have c34b1 : ((x11_1.length : Int) != 8) = true := bne_iff_ne.mpr c34
               by_cases c36 : x11_1.length < 2932031007402
               ·
                rw [if_pos c36] at H
                have LMc36 := Aside0.mk c36
                clear c36
                obtain ⟨y440, hy440⟩ : ∃ y_ : List (S42), y_ = (x11_1 ++ [(⟨t430, t431, t432, t433⟩ : S42)]) := ⟨_, rfl⟩
                replace H : (if 0 ≤ (wrap64 (1 + t434)) then (if (wrap64 (1 + t434)) ≤ (x10_1.size : Int) then (fairwayref4_TakeProps.l0 kj16 a0 t426 t427 (x10_1.extract ((wrap64 (1 + t434)) : Int).toNat x10_1.size) y440) else (none)) else (none)) = some (r1, r2, r3) := by first | (rw [hy440]; with_reducible exact H) | (have H2_ := (Option.bind_some _ _).symm.trans H; rw [hy440]; with_reducible exact H2_) | (have H2_ := (Option.bind_some _ _).symm.trans H; with_reducible exact H2_) | with_reducible exact H | (rw [hy440]; exact H) | exact H
                have Ny440 := Aside0.mk hy440
                clear hy440
                obtain ⟨ji37, hji37⟩ : ∃ j_ : Int, (wrap64 (1 + t434)) = j_ := ⟨_, rfl⟩
                replace H : (if 0 ≤ (ji37) then (if (ji37) ≤ (x10_1.size : Int) then (fairwayref4_TakeProps.l0 kj16 a0 t426 t427 (x10_1.extract ((ji37) : Int).toNat x10_1.size) y440) else (none)) else (none)) = some (r1, r2, r3) := by first | (rw [hji37] at H; exact H) | (simp only [hji37] at H ⊢; exact H)
                have hji37w : (IntKind.i64.wrap (1 + t434)) = ji37 := (i64_w _).trans hji37
                by_cases c38 : 0 ≤ (ji37)
                ·
                 rw [if_pos c38] at H
                 have c38b0 := eq_true c38
                 have c38b1 : decide (0 ≤ (ji37)) = true := decide_eq_true c38
                 clear c38
                 by_cases c39 : (ji37) ≤ (x10_1.size : Int)
                 ·
                  rw [if_pos c39] at H
                  have c39b0 := eq_true c39
                  have c39b1 : decide ((ji37) ≤ (x10_1.size : Int)) = true := decide_eq_true c39
                  clear c39
                  have H' := Aside0.mk H
                  clear H
                  obtain ⟨Ao40, co40, eo40⟩ := Kd.R_slice HO_11.out
                  subst eo40
                  have hcz41_0 : wc.cell? ⟨gb436, 0, none⟩ = some (.int .i64 t430) := (blk_cell BK436.out 0).trans rfl
                  have hcz41_1 : wc.cell? ⟨gb436, 1, none⟩ = some (.int .i64 t431) := (blk_cell BK436.out 1).trans rfl
                  have hcz41_2 : wc.cell? ⟨gb436, 2, none⟩ = some (.string t432) := (blk_cell BK436.out 2).trans rfl
                  have hcz41_3 : wc.cell? ⟨gb436, 3, none⟩ = some (.string t433) := (blk_cell BK436.out 3).trans rfl
                  have hfz41_0 := blk_frozen BK436.out 0
                  have hfz41_1 := blk_frozen BK436.out 1
                  have hfz41_2 := blk_frozen BK436.out 2
                  have hfz41_3 := blk_frozen BK436.out 3
                  go_wp2_with (first | ((with_reducible refine gate_builtin (b := .append) (xs := #[.tmp 75, .tmp 77]) rfl ?_); at_builtin; refine Kd.R_append k42 (w0 := w) w.heap.size rfl (.tmp 75) (.tmp 77) 23 42 (.agg #[(.int .i64 0), (.int .i64 0), (.string ⟨#[]⟩), (.string ⟨#[]⟩)]) 48 rfl Tryd.underlying23 info42 rfl (by decide) (by omega) (.slice Ao40 x11_1.length co40) x11_1 (⟨t430, t431, t432, t433⟩ : S42) [.int .i64 t430, .int .i64 t431, .string t432, .string t433] (fun k_ => k_ ≠ gb436) (fun _ => False) rfl rfl ?aP (fun _ hk => hk.elim) ?aF ?aO ?aB ?aS ?aL ?_; (case aP => exact k42_mkM _ _ _ (⟨t430, t431, t432, t433⟩ : S42)); (case aB => exact (by repeat (first | (with_reducible first | exact HB.out | apply below_alloc | apply pw_below_drewN | apply below_drew1 | refine below_set ?_ GE436.out) | exact HB.out))); (case aF => exact (fun k_ hk => Kd.freshB (g := gb436) (o := .cells #[.int .i64 t430, .int .i64 t431, .string t432, .string t433] 42 (0, 0)) (by (with_reducible repeat (first | refine blk_drewN ?_ _ | refine blk_drew ?_ | refine blk_alloc ?_ _)); exact BK436.out) k_ hk)); (case aO => exact (by (with_reducible repeat (first | apply Kd.R_alloc | apply Kd.R_drewN | apply Kd.R_drew)); exact HO_11.out)); (case aS => exact (below_size (by repeat (first | (with_reducible first | exact HB.out | apply below_alloc | apply pw_below_drewN | apply below_drew1 | refine below_set ?_ GE436.out) | exact HB.out)))); (case aL => have := LMc36.out; omega); intro v441 w42 ho hb hg hat; rw [← Ny440.out] at ho; have n0_ := Aside0.mk (blk_grown (g := gb436) (o := .cells #[.int .i64 t430, .int .i64 t431, .string t432, .string t433] 42 (0, 0)) (by (with_reducible repeat (first | refine blk_drewN ?_ _ | refine blk_drew ?_ | refine blk_alloc ?_ _)); exact BK436.out) hg (Kd.R_away HO_11.out (fun _ hk => hk))); have n1_ := Aside0.mk (hb); have n2_ := Aside0.mk (ho); clear BK436; clear HB; clear HO_11; have BK436 := n0_; have HB := n1_; have HO442 := n2_; clear n0_ n1_ n2_; clear ho hb hg hat))
                  go_roundg kj16
                  case measure => have := HK1.out; have := HJ16.out; omega
                  case rel => exact ⟨(x10_1.extract ((ji37) : Int).toNat x10_1.size), (y440), (by first | rfl | (simp; done) | (simp only [← hji37] <;> (first | rfl | simp)) | (simp [*]; done)), H', ⟨by have := HK1.out; have := HJ16.out; omega⟩, ⟨by (with_reducible repeat (first | apply Kd.R_alloc | apply Kd.R_drewN | apply Kd.R_drew)); exact Kd.R_mono HO442.out (fun _ hk => trivial)⟩, ⟨by repeat (first | (with_reducible first | exact HB.out | apply below_alloc | apply pw_below_drewN | apply below_drew1 | refine below_set ?_ GE436.out) | exact HB.out)⟩⟩
                 rw [if_neg c39] at H
                 exact absurd H (by simp)
                rw [if_neg c38] at H
                exact absurd H (by simp)
               rw [if_neg c36] at H
               exact absurd H (by simp)
           rw [if_neg c16] at H
           have c16b0 : (t435 == 0) = false := beq_eq_false_iff_ne.mpr c16
           have c16b1 : (t435 != 0) = true := bne_iff_ne.mpr c16
           simp only [Option.some.injEq, Prod.mk.injEq] at H
           obtain ⟨rfl, rfl, rfl⟩ := H
           have p11 : 0 ≤ (0 : Int) := (by omega)
           have q11 : 0 < x10_1.size := (by have : (0 : Int) < (x10_1.size : Int) := of_decide_eq_true (by first | (with_reducible assumption) | assumption); omega)
           have hx11 : ∀ h : 0 < x10_1.size, ((x10_1[0]'h).toNat : Int) = bt x10_1 0 := bt_at x10_1 0
           clear p11
           have qi11 : (0 < (x10_1.size : Int)) = True := eq_true (of_decide_eq_true (by first | (with_reducible assumption) | assumption))
           replace q11 := eq_true q11
           go_wp2_with (first | ((with_reducible refine gate_callee (f := 12) rfl ?_); refine goesL_ (some 44) rfl rfl Tryd.func12 (by kernel_rfl) rfl #[.int .i64 (wrap64 (bt x10_1 0))] rfl (by (try simp only [List.map_toArray, List.map_cons, List.map_nil]); first | done | rfl | (simp only [List.length_drop, List.length_take]; rfl)) ?_; (with_reducible refine (fairwayref4_Kind.calls k1 (wrap64 (bt x10_1 0)) t429 _ A12.out).mono ?_); rintro e w' ⟨rfl, ⟨nd, rfl⟩⟩; refine ⟨_, rfl, ?_⟩; (try (rw [drewN_self wr]; generalize hq_ : World.drewN wr _ = wr; have n0_ : Aside0 (Kd.R k42 42 wr w.heap.size (fun _ => True) u11 x11_1) := ⟨by rw [← hq_]; exact (by (with_reducible repeat (first | apply Kd.R_alloc | apply Kd.R_drewN | apply Kd.R_drew)); exact HO_11.out)⟩; have n1_ : Aside0 (Below w.heap.size w wr) := ⟨by rw [← hq_]; exact (by repeat (first | (with_reducible first | exact HB.out | apply below_alloc | apply pw_below_drewN | apply below_drew1) | exact HB.out))⟩; clear HO_11 HB hq_; have HO_11 := n0_; have HB := n1_; clear n0_ n1_))) | ((with_reducible refine gate_callee (f := 40) rfl ?_); refine goesL_ (some 50) rfl rfl Tryd.func40 (by kernel_rfl) rfl #[.int .i64 (wrap64 (bt x10_1 0)), .string (x10_1.extract 1 x10_1.size)] rfl (by (try simp only [List.map_toArray, List.map_cons, List.map_nil]); first | done | rfl | (simp only [List.length_drop, List.length_take]; rfl)) ?_; (with_reducible refine (fairwayref4_value.calls k1 (wrap64 (bt x10_1 0)) (x10_1.extract 1 x10_1.size) t430 t431 t432 t433 t434 t435 _ A15.out).mono ?_); rintro e w43 ⟨rfl, hb⟩; refine ⟨_, rfl, ?_⟩; have n0_ := Aside0.mk (Kd.R_below (by (with_reducible repeat (first | apply Kd.R_alloc | apply Kd.R_drewN | apply Kd.R_drew)); exact HO_11.out) hb); have n1_ := Aside0.mk (below_step (by repeat (first | (with_reducible first | exact HB.out | apply below_alloc | apply pw_below_drewN | apply below_drew1) | exact HB.out)) hb); clear HO_11; clear HB; have HO_11 := n0_; have HB := n1_; clear n0_ n1_; (try clear hb); (try clear hb2); (try clear hk); (try clear hi)) | ((with_reducible refine gate_dst (N := 13) rfl ?_); refine box_event ?hg (N := 13) ?hd (cs := #[.int .i64 0, .int .i64 0, .string (⟨#[]⟩ : ByteArray), .string (⟨#[]⟩ : ByteArray)]) (t := 42) ?hr ?_; (case hd => rfl); (case hg => rfl); (case hr => first | (go_simp; done) | (go_simp; rfl)); intro gb436 hg w44 hbox hb; have n0_ := Aside0.mk (Kd.R_below (Kd.R_elderB (by (with_reducible repeat (first | apply Kd.R_alloc | apply Kd.R_drewN | apply Kd.R_drew)); exact HO_11.out) gb436 (Nat.le_of_eq hg.symm)) hb); have n1_ := Aside0.mk (below_step (by repeat (first | (with_reducible first | exact HB.out | apply below_alloc | apply pw_below_drewN | apply below_drew1) | exact HB.out)) hb); have n2_ := Aside0.mk (hbox); have n3_ := Aside0.mk ((by rw [hg]; exact (below_size (by repeat (first | (with_reducible first | exact HB.out | apply below_alloc | apply pw_below_drewN | apply below_drew1) | exact HB.out))) : w.heap.size ≤ gb436)); have n4_ := Aside0.mk ((by rw [hg]; exact (below_size (by repeat (first | (with_reducible first | exact HB.out | apply below_alloc | apply pw_below_drewN | apply below_drew1) | exact HB.out))) : w.heap.size ≤ gb436)); clear HO_11; clear HB; have HO_11 := n0_; have HB := n1_; have BK436 := n2_; have GW436 := n3_; have GE436 := n4_; clear n0_ n1_ n2_ n3_ n4_; clear hb hbox hg; have hcz45_0 : w44.cell? ⟨gb436, 0, none⟩ = some (.int .i64 0) := (blk_cell BK436.out 0).trans rfl; have hcz45_1 : w44.cell? ⟨gb436, 1, none⟩ = some (.int .i64 0) := (blk_cell BK436.out 1).trans rfl; have hcz45_2 : w44.cell? ⟨gb436, 2, none⟩ = some (.string (⟨#[]⟩ : ByteArray)) := (blk_cell BK436.out 2).trans rfl; have hcz45_3 : w44.cell? ⟨gb436, 3, none⟩ = some (.string (⟨#[]⟩ : ByteArray)) := (blk_cell BK436.out 3).trans rfl; have hfz45_0 := blk_frozen BK436.out 0; have hfz45_1 := blk_frozen BK436.out 1; have hfz45_2 := blk_frozen BK436.out 2; have hfz45_3 := blk_frozen BK436.out 3))
           go_ret3
           exact ⟨_, by first | rfl | (simp [errW_none, errW_some] <;> rfl) | (simp [*, errW_none, errW_some] <;> rfl), by first | exact Kd.R_nil _ _ _ _ _ | exact Kd.N_nil _ _ _ _ _ | exact Kd.V_nil _ _ _ _ _ | exact Kd.Q_nil _ _ _ _ _ | exact Kd.S_nil _ _ _ _ _, by repeat (first | (with_reducible first | exact HB.out | apply below_alloc | apply pw_below_drewN | apply below_drew1 | refine below_set ?_ GE436.out) | exact HB.out)⟩
          rw [if_neg c14] at H
          exact absurd H (by simp)
         rw [if_neg c10] at H
         exact absurd H (by simp)
        rw [if_neg c9] at H
        have c9b0 : decide (0 < (x10_1.size : Int)) = false := decide_eq_false c9
        have c9b1 : decide (0 < x10_1.size) = false := decide_eq_false (by omega)
        clear c9
        simp only [Option.some.injEq, Prod.mk.injEq] at H
        obtain ⟨rfl, rfl, rfl⟩ := H
        go_wp2
        go_ret3
        exact ⟨_, by first | rfl | (simp [errW_none, errW_some] <;> rfl) | (simp [*, errW_none, errW_some] <;> rfl), by (with_reducible repeat (first | apply Kd.R_alloc | apply Kd.R_drewN | apply Kd.R_drew)); exact HO_11.out, by repeat (first | (with_reducible first | exact HB.out | apply below_alloc | apply pw_below_drewN | apply below_drew1) | exact HB.out)⟩
    rw [if_neg c8] at H
    exact absurd H (by simp)
   rw [if_neg c7] at H
   exact absurd H (by simp)
  rw [if_neg c6] at H
  exact absurd H (by simp)
 rw [if_neg c4] at H
 have c4b0 : (t428 == 0) = false := beq_eq_false_iff_ne.mpr c4
 have c4b1 : (t428 != 0) = true := bne_iff_ne.mpr c4
 simp only [Option.some.injEq, Prod.mk.injEq] at H
 obtain ⟨rfl, rfl, rfl⟩ := H
 go_enter Tryd.func24, Tryd.ntmps24
 go_wp2_with (first | ((with_reducible refine gate_callee (f := 39) rfl ?_); refine goesL_ (some 18) rfl rfl Tryd.func39 (by kernel_rfl) rfl #[.string a1] rfl (by (try simp only [List.map_toArray, List.map_cons, List.map_nil]); first | done | rfl | (simp only [List.length_drop, List.length_take]; rfl)) ?_; (with_reducible refine (fairwayref1_TakeNum.calls k a1 t426 t427 t428 _ A3.out).mono ?_); rintro e w' ⟨rfl, ⟨nd, rfl⟩⟩; refine ⟨_, rfl, ?_⟩))
 go_ret3
 exact ⟨_, by first | rfl | (simp [errW_none, errW_some] <;> rfl) | (simp [*, errW_none, errW_some] <;> rfl), by first | exact Kd.R_nil _ _ _ _ _ | exact Kd.N_nil _ _ _ _ _ | exact Kd.V_nil _ _ _ _ _ | exact Kd.Q_nil _ _ _ _ _ | exact Kd.S_nil _ _ _ _ _, by repeat (first | (with_reducible first | exact HB.out | apply below_alloc | apply pw_below_drewN | apply below_drew1) | exact HB.out)⟩
def fairwaylaw0_Props.l0 : Nat → List (S42) → Int → Option (Unit)
  | 0, _, _ => none
  | k + 1, x0, x2 => if x2 < (x0.length : Int) then (if 0 ≤ x2 then (fairwaylaw0_Props.l0 k (x0.set (x2 : Int).toNat (⟨(-9), 0, (⟨#[]⟩ : ByteArray), (⟨#[]⟩ : ByteArray)⟩ : S42)) (wrap64 (x2 + 1))) else (none)) else (if x0.length < 2932031007402 then (some ()) else (none))
def fairwaylaw0_Props.f (k : Nat) (l0 : List (S42)) : Option (Unit) := fairwaylaw0_Props.l0 k l0 0
theorem fairwaylaw0_Props.mono_l : ∀ k, (∀ y0 y1, LeO (fairwaylaw0_Props.l0 k y0 y1) (fairwaylaw0_Props.l0 (k + 1) y0 y1))
 | 0 => fun _ _ r h => by simp [fairwaylaw0_Props.l0] at h
 | k + 1 => by
  have ih0 := fairwaylaw0_Props.mono_l k
  ·
   intro y0 y1
   unfold fairwaylaw0_Props.l0
   repeat' first
   | (with_reducible exact ih0 _ _)
   | (with_reducible exact LeO.refl _)
   | (with_reducible exact LeO.none _)
   | (with_reducible refine LeO.ite ?_ ?_)
   | (with_reducible refine LeO.bind ?_ (fun _ => ?_))
   | exact ih0 _ _
   | exact LeO.none _
   | refine LeO.ite ?_ ?_
   | refine LeO.bind ?_ (fun _ => ?_)
theorem fairwaylaw0_Props.mono : ∀ a0 k, LeO (fairwaylaw0_Props.f k a0) (fairwaylaw0_Props.f (k + 1) a0) := by
 intro a0 k
 have ih0 := fairwaylaw0_Props.mono_l k
 unfold fairwaylaw0_Props.f
 repeat' first
   | (with_reducible exact ih0 _ _)
   | (with_reducible exact LeO.refl _)
   | (with_reducible exact LeO.none _)
   | (with_reducible refine LeO.ite ?_ ?_)
   | (with_reducible refine LeO.bind ?_ (fun _ => ?_))
   | exact ih0 _ _
   | exact LeO.none _
   | refine LeO.ite ?_ ?_
   | refine LeO.bind ?_ (fun _ => ?_)
set_option maxHeartbeats 8000000 in
set_option maxRecDepth 100000 in
theorem fairwaylaw0_Props.calls (k : Nat) (P0_ : Nat → Prop) (u9000_ : Value) (l0 : List (S42)) (w0 w : World) (hB : Below w0.heap.size w0 w) (ho0 : Kd.R k42 42 w w0.heap.size P0_ u9000_ l0) (h : fairwaylaw0_Props.f k l0 = some ()) :
  Calls Tryd.prog 25 #[u9000_] w fun e w' => e = .returned (.tuple #[]) ∧ Below w0.heap.size w0 w' ∧ Kept w w' (fun k_ => P0_ k_) := by
 have hu42 := Tryd.underlying42
 have HO0 := Aside0.mk (show Kd.R k42 42 w w0.heap.size (fun k_ => (P0_ k_ ∨ w.heap.size ≤ k_)) u9000_ l0 from Kd.R_mono ho0 (fun k_ hk => (.inl hk)))
 have HK := Aside0.mk (Kept.refl w (fun k_ => P0_ k_))
 have HW0 := Aside0.mk hB.size
 have HB := Aside0.mk hB
 clear hB
 have H : (fairwaylaw0_Props.l0 k l0 0) = some () := h
 clear h
 have H' := Aside0.mk H
 clear H
 go_enter Tryd.func25, Tryd.ntmps25
 go_wp2
 go_loopg [2] k (fun kq v2 w' => ∃ (x0_1 : List (S42)) (x2_1 : Int), v2 = .int .i64 x2_1 ∧ Aside0 (fairwaylaw0_Props.l0 kq x0_1 x2_1 = some ()) ∧ Aside0 (kq ≤ k) ∧ Aside0 (Kd.R k42 42 w' w0.heap.size (fun k_ => (P0_ k_ ∨ w.heap.size ≤ k_)) u9000_ x0_1) ∧ Aside0 (Kept w w' (fun k_ => P0_ k_)) ∧ Aside0 (Below w0.heap.size w0 w'))
 case atStart => exact ⟨(l0), (0), (by first | rfl | (simp; done) | (simp [*]; done)), H', ⟨Nat.le_refl _⟩, ⟨by (with_reducible repeat (first | apply Kd.R_alloc | apply Kd.R_drewN | apply Kd.R_drew)); exact HO0.out⟩, ⟨by repeat (first | (with_reducible first | exact HK.out | apply Kept.alloc | apply Kept.drewN | apply Kept.drew) | exact HK.out)⟩, ⟨by repeat (first | (with_reducible first | exact HB.out | apply below_alloc | apply pw_below_drewN | apply below_drew1) | exact HB.out)⟩⟩
 case round =>
  clear H'
  obtain ⟨x0_1, x2_1, rfl, HA, HK1, HO_0, HK, HB⟩ := hrel
  cases gk with
  | zero => exact absurd HA.out (by simp [fairwaylaw0_Props.l0])
  | succ k1 =>
   have H := HA.out
   clear HA
   simp only [fairwaylaw0_Props.l0] at H
   by_cases c2 : x2_1 < (x0_1.length : Int)
   ·
    rw [if_pos c2] at H
    have c2b0 : decide (x2_1 < (x0_1.length : Int)) = true := decide_eq_true c2
    clear c2
    by_cases c3 : 0 ≤ x2_1
    ·
     rw [if_pos c3] at H
     have c3b0 : decide (0 ≤ x2_1) = true := decide_eq_true c3
     clear c3
     obtain ⟨y443, hy443⟩ : ∃ y_ : List (S42), y_ = (x0_1.set (x2_1 : Int).toNat (⟨(-9), 0, (⟨#[]⟩ : ByteArray), (⟨#[]⟩ : ByteArray)⟩ : S42)) := ⟨_, rfl⟩
     replace H : (fairwaylaw0_Props.l0 k1 y443 (wrap64 (x2_1 + 1))) = some () := by first | (rw [hy443]; with_reducible exact H) | (have H2_ := (Option.bind_some _ _).symm.trans H; rw [hy443]; with_reducible exact H2_) | (have H2_ := (Option.bind_some _ _).symm.trans H; with_reducible exact H2_) | with_reducible exact H | (rw [hy443]; exact H) | exact H
     have Ny443 := Aside0.mk hy443
     clear hy443
     have H' := Aside0.mk H
     clear H
     obtain ⟨Ao5, co5, eo5⟩ := Kd.R_slice HO_0.out
     subst eo5
     have p4 : 0 ≤ (x2_1 : Int) := of_decide_eq_true (by first | (with_reducible assumption) | assumption)
     have q4 : (x2_1 : Int) < ((x0_1.length : Int) : Int) := of_decide_eq_true (by first | (with_reducible assumption) | assumption)
     obtain ⟨go4, co4, eo4, gb4, gl4, cl4, HG4⟩ := Kd.R_form HO_0.out (by omega)
     (first | cases eo4 | (injection eo4 with ea_ en_ ec_; (first | subst ea_ | (injection ea_ with ea_; subst ea_)); subst ec_; clear en_))
     have GB4 := Aside0.mk gb4
     have GG4 := Aside0.mk HG4
     clear gb4 gl4 HG4
     have HMgo4 := Aside0.mk (show (P0_ go4 ∨ w.heap.size ≤ go4) from (HO_0.out.1 _ rfl))
     obtain ⟨ce4, hcl4, hM4, hcc4, hfr4⟩ := Kd.R_elem HO_0.out z42 (x2_1 : Int) p4 q4
     obtain rfl := k42_openM hM4
     have hx4_0 : wr.cell? ⟨go4, (x2_1 : Int).toNat * 4, none⟩ = some (.int .i64 ((rd_T42 x0_1 x2_1).f0)) := hcc4 0 _ rfl
     have hx4_1 : wr.cell? ⟨go4, (x2_1 : Int).toNat * 4 + 1, none⟩ = some (.int .i64 ((rd_T42 x0_1 x2_1).f1)) := hcc4 1 _ rfl
     have hx4_2 : wr.cell? ⟨go4, (x2_1 : Int).toNat * 4 + 2, none⟩ = some (.string ((rd_T42 x0_1 x2_1).f2)) := hcc4 2 _ rfl
     have hx4_3 : wr.cell? ⟨go4, (x2_1 : Int).toNat * 4 + 3, none⟩ = some (.string ((rd_T42 x0_1 x2_1).f3)) := hcc4 3 _ rfl
     have hf4_0 : wr.frozen? ⟨go4, (x2_1 : Int).toNat * 4, none⟩ = false := hfr4 0
     have hf4_1 : wr.frozen? ⟨go4, (x2_1 : Int).toNat * 4 + 1, none⟩ = false := hfr4 1
     have hf4_2 : wr.frozen? ⟨go4, (x2_1 : Int).toNat * 4 + 2, none⟩ = false := hfr4 2
     have hf4_3 : wr.frozen? ⟨go4, (x2_1 : Int).toNat * 4 + 3, none⟩ = false := hfr4 3
     clear hcl4 hcc4 hfr4 hM4
     replace p4 := eq_true p4
     replace q4 := eq_true q4
     have HX6 := Aside0.mk (show Kd.R k42 42 wr w0.heap.size (fun k_ => (P0_ k_ ∨ w.heap.size ≤ k_)) (.slice (some ⟨go4, 0, none⟩) x0_1.length co5) x0_1 from (by (with_reducible repeat (first | apply Kd.R_alloc | apply Kd.R_drewN | apply Kd.R_drew)); exact HO_0.out))
     obtain ⟨ce6, hcl6, hM6, hcc6, hfr6⟩ := Kd.R_elem HX6.out z42 (x2_1 : Int) (of_decide_eq_true (by first | (with_reducible assumption) | assumption)) (by have h_ : (x2_1 : Int) < ((x0_1.length : Int) : Int) := of_decide_eq_true (by first | (with_reducible assumption) | assumption); first | exact h_ | (have e_ := (Kd.R_reads' HO_0.out).1; omega) | simpa using h_)
     obtain rfl := k42_openM hM6
     have HP6 := Kd.R_seg HX6.out (x2_1 : Int) (of_decide_eq_true (by first | (with_reducible assumption) | assumption)) (by have h_ : (x2_1 : Int) < ((x0_1.length : Int) : Int) := of_decide_eq_true (by first | (with_reducible assumption) | assumption); first | exact h_ | (have e_ := (Kd.R_reads' HO_0.out).1; omega) | simpa using h_) (seg := [.int .i64 (-9), .int .i64 0, .string (⟨#[]⟩ : ByteArray), .string (⟨#[]⟩ : ByteArray)]) (j := 0) hcl6 hcc6 (show 4 ≤ 4 from by decide) (x' := (⟨(-9), 0, (⟨#[]⟩ : ByteArray), (⟨#[]⟩ : ByteArray)⟩ : S42)) (k42_mkM _ _ _ (⟨(-9), 0, (⟨#[]⟩ : ByteArray), (⟨#[]⟩ : ByteArray)⟩ : S42) ) (fun _ hk => hk)
     have hx6_0 := hcc6 0 _ rfl
     (try simp only [show (k42).sz = 4 from rfl, Nat.mul_one, Nat.add_zero] at hx6_0)
     have hf6_0 := hfr6 0
     (try simp only [show (k42).sz = 4 from rfl, Nat.mul_one, Nat.add_zero] at hf6_0)
     have hx6_1 := hcc6 1 _ rfl
     (try simp only [show (k42).sz = 4 from rfl, Nat.mul_one, Nat.add_zero] at hx6_1)
     have hf6_1 := hfr6 1
     (try simp only [show (k42).sz = 4 from rfl, Nat.mul_one, Nat.add_zero] at hf6_1)
     have hx6_2 := hcc6 2 _ rfl
     (try simp only [show (k42).sz = 4 from rfl, Nat.mul_one, Nat.add_zero] at hx6_2)
     have hf6_2 := hfr6 2
     (try simp only [show (k42).sz = 4 from rfl, Nat.mul_one, Nat.add_zero] at hf6_2)
     have hx6_3 := hcc6 3 _ rfl
     (try simp only [show (k42).sz = 4 from rfl, Nat.mul_one, Nat.add_zero] at hx6_3)
     have hf6_3 := hfr6 3
     (try simp only [show (k42).sz = 4 from rfl, Nat.mul_one, Nat.add_zero] at hf6_3)
     clear hcl6 hcc6 hfr6 hM6
     go_wp2_with (first | ((with_reducible refine gate_store (t := 42) (p := 12) rfl ?_); refine store_event (t := 42) (p := 12) (v := ?vo_w7) (w1 := ((((wr.setCell ⟨go4, (x2_1 : Int).toNat * 4, none⟩ (.int .i64 (-9))).setCell ⟨go4, (x2_1 : Int).toNat * 4 + 1, none⟩ (.int .i64 0)).setCell ⟨go4, (x2_1 : Int).toNat * 4 + 2, none⟩ (.string (⟨#[]⟩ : ByteArray))).setCell ⟨go4, (x2_1 : Int).toNat * 4 + 3, none⟩ (.string (⟨#[]⟩ : ByteArray)))) ?hg ?ho ?hn ?hr ?_; (case ho => rfl); (case hg => rfl); (case hn => rfl); (case hr => first | (go_simp; done) | (go_simp; rfl)); intro w7 hw; have hg : wr.grownBy w7 (some go4) := (by rw [hw]; exact HP6.2); have hp_ : Kd.R k42 42 w7 w0.heap.size (fun k_ => (P0_ k_ ∨ w.heap.size ≤ k_)) (.slice (some ⟨go4, 0, none⟩) x0_1.length co5) y443 := (by rw [hw, Ny443.out]; exact HP6.1); clear HP6; have n0_ := Aside0.mk (hp_); have n1_ := Aside0.mk ((by rw [hw]; exact below_set (below_set (below_set (below_set (HB.out) GB4.out) GB4.out) GB4.out) GB4.out : Below w0.heap.size w0 w7)); have n2_ := Aside0.mk (Kept.of_grown (S := (fun k_ => P0_ k_)) hg (by repeat (first | (with_reducible first | exact HK.out | apply Kept.alloc | apply Kept.drewN | apply Kept.drew) | exact HK.out)) (fun k_ e_ => (HO_0.out.1 k_ e_))); clear HO_0; clear HB; clear HK; have HO_0 := n0_; have HB := n1_; have HK := n2_; clear n0_ n1_ n2_; clear hg hw hp_))
     go_roundg k1
     case measure => have := HK1.out; omega
     case rel => exact ⟨(y443), (wrap64 (x2_1 + 1)), (by first | rfl | (simp; done) | (simp [*]; done)), H', ⟨by have := HK1.out; omega⟩, ⟨by (with_reducible repeat (first | apply Kd.R_alloc | apply Kd.R_drewN | apply Kd.R_drew)); exact HO_0.out⟩, ⟨by repeat (first | (with_reducible first | exact HK.out | apply Kept.alloc | apply Kept.drewN | apply Kept.drew) | exact HK.out)⟩, ⟨by repeat (first | (with_reducible first | exact HB.out | apply below_alloc | apply pw_below_drewN | apply below_drew1) | exact HB.out)⟩⟩
    rw [if_neg c3] at H
    exact absurd H (by simp)
   rw [if_neg c2] at H
   have c2b0 : decide (x2_1 < (x0_1.length : Int)) = false := decide_eq_false c2
   clear c2
   by_cases c8 : x0_1.length < 2932031007402
   ·
    rw [if_pos c8] at H
    have LMc8 := Aside0.mk c8
    clear c8
    obtain ⟨y444, hy444⟩ : ∃ y_ : List (S42), y_ = (x0_1 ++ [(⟨0, 0, (⟨#[]⟩ : ByteArray), (⟨#[]⟩ : ByteArray)⟩ : S42)]) := ⟨_, rfl⟩
    replace H : (some ()) = some () := by first | (rw [hy444]; with_reducible exact H) | (have H2_ := (Option.bind_some _ _).symm.trans H; rw [hy444]; with_reducible exact H2_) | (have H2_ := (Option.bind_some _ _).symm.trans H; with_reducible exact H2_) | with_reducible exact H | (rw [hy444]; exact H) | exact H
    have Ny444 := Aside0.mk hy444
    clear hy444
    obtain ⟨Ao9, co9, eo9⟩ := Kd.R_slice HO_0.out
    subst eo9
    go_wp2_with (first | ((with_reducible refine gate_builtin (b := .append) (xs := #[.tmp 13, .tmp 15]) rfl ?_); at_builtin; refine Kd.R_append k42 (w0 := w0) w0.heap.size rfl (.tmp 13) (.tmp 15) 23 42 (.agg #[(.int .i64 0), (.int .i64 0), (.string ⟨#[]⟩), (.string ⟨#[]⟩)]) 48 rfl Tryd.underlying23 info42 rfl (by decide) (by omega) (.slice Ao9 x0_1.length co9) x0_1 (⟨0, 0, (⟨#[]⟩ : ByteArray), (⟨#[]⟩ : ByteArray)⟩ : S42) [.int .i64 0, .int .i64 0, .string (⟨#[]⟩ : ByteArray), .string (⟨#[]⟩ : ByteArray)] (fun k_ => (P0_ k_ ∨ w.heap.size ≤ k_)) (fun _ => False) rfl rfl ?aP (fun _ hk => hk.elim) ?aF ?aO ?aB ?aS ?aL ?_; (case aP => exact k42_mkM _ _ _ (⟨0, 0, (⟨#[]⟩ : ByteArray), (⟨#[]⟩ : ByteArray)⟩ : S42)); (case aB => exact (by repeat (first | (with_reducible first | exact HB.out | apply below_alloc | apply pw_below_drewN | apply below_drew1) | exact HB.out))); (case aF => exact (fun k_ hk => (.inr (Nat.le_trans (by first | exact HK.out.1 | exact (show Kept w _ (fun k_ => P0_ k_) from by repeat (first | (with_reducible first | exact HK.out | apply Kept.alloc | apply Kept.drewN | apply Kept.drew) | exact HK.out)).1) hk)))); (case aO => exact (by (with_reducible repeat (first | apply Kd.R_alloc | apply Kd.R_drewN | apply Kd.R_drew)); exact HO_0.out)); (case aS => exact (below_size (by repeat (first | (with_reducible first | exact HB.out | apply below_alloc | apply pw_below_drewN | apply below_drew1) | exact HB.out)))); (case aL => have := LMc8.out; omega); intro v445 w10 ho hb hg hat; rw [← Ny444.out] at ho; have n0_ := Aside0.mk (hb); have n1_ := Aside0.mk (Kept.of_grown (S := (fun k_ => P0_ k_)) hg (by repeat (first | (with_reducible first | exact HK.out | apply Kept.alloc | apply Kept.drewN | apply Kept.drew) | exact HK.out)) (fun k_ e_ => (HO_0.out.1 k_ e_))); have n2_ := Aside0.mk (ho); clear HB; clear HK; clear HO_0; have HB := n0_; have HK := n1_; have HO446 := n2_; clear n0_ n1_ n2_; clear ho hb hg hat))
    first | go_end0 | ((try simp only [Exit.inBlock, Exit.then]); refine bodyPost_ret (results_none rfl _ _ _) rfl ?_)
    exact ⟨by first | rfl | (simp [errW_none, errW_some] <;> rfl) | (simp [*, errW_none, errW_some] <;> rfl), by repeat (first | (with_reducible first | exact HB.out | apply below_alloc | apply pw_below_drewN | apply below_drew1) | exact HB.out), by repeat (first | (with_reducible first | exact HK.out | apply Kept.alloc | apply Kept.drewN | apply Kept.drew) | exact HK.out)⟩
   rw [if_neg c8] at H
   exact absurd H (by simp)
end Go.Proofs.YtiancopplinpcaaDoor.P
end
section
namespace Go.Proofs.YtiancopplinpcaaDoor.P
open Go.RowKit Go.Proofs.YtiancopplinpcaaDoorW.PrintWords Go.Proofs.YtiancopplinpcaaDoorW.PrintLast Go.Proofs.YtiancopplinpcaaDoorW.PrintMore
set_option linter.unusedVariables false
set_option linter.unusedSimpArgs false
noncomputable def fairwayref4_fits.fL (a0_0 : Int) (a0_1 : Int) (a0_2 : ByteArray) (a0_3 : ByteArray) : Option (Bool) := lim fun k => fairwayref4_fits.f k a0_0 a0_1 a0_2 a0_3
end Go.Proofs.YtiancopplinpcaaDoor.P
end
section
namespace Go.Proofs.YtiancopplinpcaaDoor.P
open Go.RowKit Go.Proofs.YtiancopplinpcaaDoorW.PrintWords Go.Proofs.YtiancopplinpcaaDoorW.PrintLast Go.Proofs.YtiancopplinpcaaDoorW.PrintMore
set_option linter.unusedVariables false
set_option linter.unusedSimpArgs false
noncomputable def fairwayref4_stands.fL (a0 : Int) (a1 : Int) : Option (Bool) := lim fun k => fairwayref4_stands.f k a0 a1
noncomputable def fairwayref4_twice.fL (a0 : Int) (a1 : Int) (l2 : List (S42)) : Option (Bool) := lim fun k => fairwayref4_twice.f k a0 a1 l2
end Go.Proofs.YtiancopplinpcaaDoor.P
end
section
namespace Go.Proofs.YtiancopplinpcaaDoor.P
open Go.RowKit Go.Proofs.YtiancopplinpcaaDoorW.PrintWords Go.Proofs.YtiancopplinpcaaDoorW.PrintLast Go.Proofs.YtiancopplinpcaaDoorW.PrintMore
set_option linter.unusedVariables false
set_option linter.unusedSimpArgs false
noncomputable def fairwayref1_TakeLong.fL (a0 : ByteArray) (a1 : Bool) : Option (ByteArray × Int × Int) := lim fun k => fairwayref1_TakeLong.f k a0 a1
noncomputable def fairwayref4_value.fL (a0 : Int) (a1 : ByteArray) : Option (Int × Int × ByteArray × ByteArray × Int × Int) := lim fun k => fairwayref4_value.f k a0 a1
noncomputable def fairwayref4_value.j0L (x1 : ByteArray) (x8 : Int) (x24 : Int) (x25 : Bool) (x407000 : Int) (x407001 : Int) (x407002 : ByteArray) (x407003 : ByteArray) : Option (Int × Int × ByteArray × ByteArray × Int × Int) := lim fun k => fairwayref4_value.j0 k x1 x8 x24 x25 x407000 x407001 x407002 x407003
noncomputable def fairwayref4_value.j1L (x1 : ByteArray) (x15 : ByteArray) (x16 : Int) (x17 : Int) (x73 : Bool) (x407000 : Int) (x407001 : Int) (x407002 : ByteArray) (x407003 : ByteArray) : Option (Int × Int × ByteArray × ByteArray × Int × Int) := lim fun k => fairwayref4_value.j1 k x1 x15 x16 x17 x73 x407000 x407001 x407002 x407003
theorem fairwayref4_value.fL_eq (a0 : Int) (a1 : ByteArray) : fairwayref4_value.fL a0 a1 = (fairwayref4_Kind.fL a0).bind fun t407 => (if t407 = 1 then (fairwayref4_value.j0L a1 t407 t407 (t407 == 1) a0 0 (⟨#[]⟩ : ByteArray) (⟨#[]⟩ : ByteArray)) else (if t407 = 2 then (fairwayref4_value.j0L a1 t407 t407 (t407 == 2) a0 0 (⟨#[]⟩ : ByteArray) (⟨#[]⟩ : ByteArray)) else (fairwayref4_value.j0L a1 t407 t407 (t407 == 3) a0 0 (⟨#[]⟩ : ByteArray) (⟨#[]⟩ : ByteArray)))) := by
  show lim (fun k => fairwayref4_value.f k a0 a1) = _
  show lim (fun k => (fairwayref4_Kind.f k a0).bind fun t407 => (if t407 = 1 then (fairwayref4_value.j0 k a1 t407 t407 (t407 == 1) a0 0 (⟨#[]⟩ : ByteArray) (⟨#[]⟩ : ByteArray)) else (if t407 = 2 then (fairwayref4_value.j0 k a1 t407 t407 (t407 == 2) a0 0 (⟨#[]⟩ : ByteArray) (⟨#[]⟩ : ByteArray)) else (fairwayref4_value.j0 k a1 t407 t407 (t407 == 3) a0 0 (⟨#[]⟩ : ByteArray) (⟨#[]⟩ : ByteArray))))) = _
  repeat' (first | exact lim_const _ | (with_reducible refine lim_ite' ?_ ?_) | ((with_reducible refine lim_bind' ?hm ?hx (fun _ => ?_)); (case hm => exact (fun k => by first | exact LeO.refl _ | apply fairwayref4_Kind.mono)); (case hx => first | exact lim_const _ | rfl)) | rfl)
theorem fairwayref4_value.j0L_eq (x1 : ByteArray) (x8 : Int) (x24 : Int) (x25 : Bool) (x407000 : Int) (x407001 : Int) (x407002 : ByteArray) (x407003 : ByteArray) : fairwayref4_value.j0L x1 x8 x24 x25 x407000 x407001 x407002 x407003 = if x25 = true then ((some (([0, 1, 2, 4] : List Int) : List Int)).bind fun y408 => (if 0 ≤ x8 then (if x8 < (y408.length : Int) then ((fairwayref1_TakeFixed.fL x1 (rd y408 x8)).bind fun bt412 => (if bt412.2 = true then (some (x407000, bt412.1, x407002, x407003, rd y408 x8, 0)) else (some (x407000, x407001, x407002, x407003, 0, 8)))) else (none)) else (none))) else (if x24 = 4 then ((fairwayref1_TakeNum.fL x1).bind fun bt414 => ((fairwayref4_inner.f bt414.2.2).bind fun t417 => (some (x407000, bt414.1, x407002, x407003, bt414.2.1, t417)))) else ((fairwayref1_TakeLong.fL x1 (x8 != 6)).bind fun bt418 => (if bt418.2.2 = 0 then (fairwayref4_value.j1L x1 bt418.1 bt418.2.1 bt418.2.2 (x8 != 7) x407000 x407001 x407002 x407003) else (fairwayref4_value.j1L x1 bt418.1 bt418.2.1 bt418.2.2 true x407000 x407001 x407002 x407003)))) := by
  show lim (fun k => fairwayref4_value.j0 k x1 x8 x24 x25 x407000 x407001 x407002 x407003) = _
  rw [lim_step (f := fun k => if x25 = true then ((some (([0, 1, 2, 4] : List Int) : List Int)).bind fun y408 => (if 0 ≤ x8 then (if x8 < (y408.length : Int) then ((fairwayref1_TakeFixed.f k x1 (rd y408 x8)).bind fun bt412 => (if bt412.2 = true then (some (x407000, bt412.1, x407002, x407003, rd y408 x8, 0)) else (some (x407000, x407001, x407002, x407003, 0, 8)))) else (none)) else (none))) else (if x24 = 4 then ((fairwayref1_TakeNum.f k x1).bind fun bt414 => ((fairwayref4_inner.f bt414.2.2).bind fun t417 => (some (x407000, bt414.1, x407002, x407003, bt414.2.1, t417)))) else ((fairwayref1_TakeLong.f k x1 (x8 != 6)).bind fun bt418 => (if bt418.2.2 = 0 then (fairwayref4_value.j1 k x1 bt418.1 bt418.2.1 bt418.2.2 (x8 != 7) x407000 x407001 x407002 x407003) else (fairwayref4_value.j1 k x1 bt418.1 bt418.2.1 bt418.2.2 true x407000 x407001 x407002 x407003))))) (fun k => by first | rfl | simp only [fairwayref4_value.j0])]
  repeat' (first | exact lim_const _ | (with_reducible refine lim_ite' ?_ ?_) | ((with_reducible refine lim_bind' ?hm ?hx (fun _ => ?_)); (case hm => exact (fun k => by first | exact LeO.refl _ | apply fairwayref1_TakeFixed.mono | apply fairwayref1_TakeLong.mono | apply fairwayref1_TakeNum.mono)); (case hx => first | exact lim_const _ | rfl)) | rfl)
theorem fairwayref4_value.j1L_eq (x1 : ByteArray) (x15 : ByteArray) (x16 : Int) (x17 : Int) (x73 : Bool) (x407000 : Int) (x407001 : Int) (x407002 : ByteArray) (x407003 : ByteArray) : fairwayref4_value.j1L x1 x15 x16 x17 x73 x407000 x407001 x407002 x407003 = if x73 = true then ((fairwayref4_inner.f x17).bind fun t421 => (some (x407000, x407001, x15, x407003, x16, t421))) else (if 0 ≤ x16 then (if x16 ≤ (x1.size : Int) then ((fairwayref1_TakeLong.fL (x1.extract (x16 : Int).toNat x1.size) true).bind fun bt422 => ((fairwayref4_inner.f bt422.2.2).bind fun t425 => (some (x407000, x407001, x15, bt422.1, wrap64 (x16 + bt422.2.1), t425)))) else (none)) else (none)) := by
  show lim (fun k => fairwayref4_value.j1 k x1 x15 x16 x17 x73 x407000 x407001 x407002 x407003) = _
  rw [lim_step (f := fun k => if x73 = true then ((fairwayref4_inner.f x17).bind fun t421 => (some (x407000, x407001, x15, x407003, x16, t421))) else (if 0 ≤ x16 then (if x16 ≤ (x1.size : Int) then ((fairwayref1_TakeLong.f k (x1.extract (x16 : Int).toNat x1.size) true).bind fun bt422 => ((fairwayref4_inner.f bt422.2.2).bind fun t425 => (some (x407000, x407001, x15, bt422.1, wrap64 (x16 + bt422.2.1), t425)))) else (none)) else (none))) (fun k => by first | rfl | simp only [fairwayref4_value.j1])]
  repeat' (first | exact lim_const _ | (with_reducible refine lim_ite' ?_ ?_) | ((with_reducible refine lim_bind' ?hm ?hx (fun _ => ?_)); (case hm => exact (fun k => by first | exact LeO.refl _ | apply fairwayref1_TakeLong.mono)); (case hx => first | exact lim_const _ | rfl)) | rfl)
end Go.Proofs.YtiancopplinpcaaDoor.P
end
section
namespace Go.Proofs.YtiancopplinpcaaDoor.P
open Go.RowKit Go.Proofs.YtiancopplinpcaaDoorW.PrintWords Go.Proofs.YtiancopplinpcaaDoorW.PrintLast Go.Proofs.YtiancopplinpcaaDoorW.PrintMore
set_option linter.unusedVariables false
set_option linter.unusedSimpArgs false
noncomputable def fairwayref4_TakeProps.fL (a0 : Int) (a1 : ByteArray) : Option ((List (S42)) × Int × Int) := lim fun k => fairwayref4_TakeProps.f k a0 a1
noncomputable def fairwaylaw0_Props.fL (l0 : List (S42)) : Option (Unit) := lim fun k => fairwaylaw0_Props.f k l0
noncomputable def fairwayref4_TakeProps.l0L (x0 : Int) (x7 : Int) (x8 : Int) (x10 : ByteArray) (x11 : List (S42)) : Option ((List (S42)) × Int × Int) := lim fun k => fairwayref4_TakeProps.l0 k x0 x7 x8 x10 x11
noncomputable def fairwayref4_TakeProps.j1L (x0 : Int) (x7 : Int) (x8 : Int) (x10 : ByteArray) (x11 : List (S42)) (x14 : Int) (x71 : Bool) (x437000 : Int) (x437001 : Int) (x437002 : ByteArray) (x437003 : ByteArray) : Option ((List (S42)) × Int × Int) := lim fun k => fairwayref4_TakeProps.j1 k x0 x7 x8 x10 x11 x14 x71 x437000 x437001 x437002 x437003
noncomputable def fairwaylaw0_Props.l0L (x0 : List (S42)) (x2 : Int) : Option (Unit) := lim fun k => fairwaylaw0_Props.l0 k x0 x2
theorem fairwayref4_TakeProps.fL_eq (a0 : Int) (a1 : ByteArray) : fairwayref4_TakeProps.fL a0 a1 = (fairwayref1_TakeNum.fL a1).bind fun bt426 => (if bt426.2.2 = 0 then (if (wrap64 ((a1.size : Int) - bt426.2.1)) < bt426.1 then (some (([] : List (S42)), 0, 7)) else (if 0 ≤ bt426.2.1 then (if bt426.2.1 ≤ (wrap64 (bt426.2.1 + bt426.1)) then (if (wrap64 (bt426.2.1 + bt426.1)) ≤ (a1.size : Int) then (fairwayref4_TakeProps.l0L a0 bt426.1 bt426.2.1 (a1.extract (bt426.2.1 : Int).toNat ((wrap64 (bt426.2.1 + bt426.1)) : Int).toNat) ([] : List (S42))) else (none)) else (none)) else (none))) else (some (([] : List (S42)), 0, bt426.2.2))) := by
  show lim (fun k => fairwayref4_TakeProps.f k a0 a1) = _
  show lim (fun k => (fairwayref1_TakeNum.f k a1).bind fun bt426 => (if bt426.2.2 = 0 then (if (wrap64 ((a1.size : Int) - bt426.2.1)) < bt426.1 then (some (([] : List (S42)), 0, 7)) else (if 0 ≤ bt426.2.1 then (if bt426.2.1 ≤ (wrap64 (bt426.2.1 + bt426.1)) then (if (wrap64 (bt426.2.1 + bt426.1)) ≤ (a1.size : Int) then (fairwayref4_TakeProps.l0 k a0 bt426.1 bt426.2.1 (a1.extract (bt426.2.1 : Int).toNat ((wrap64 (bt426.2.1 + bt426.1)) : Int).toNat) ([] : List (S42))) else (none)) else (none)) else (none))) else (some (([] : List (S42)), 0, bt426.2.2)))) = _
  repeat' (first | exact lim_const _ | (with_reducible refine lim_ite' ?_ ?_) | ((with_reducible refine lim_bind' ?hm ?hx (fun _ => ?_)); (case hm => exact (fun k => by first | exact LeO.refl _ | apply fairwayref1_TakeNum.mono)); (case hx => first | exact lim_const _ | rfl)) | rfl)
theorem fairwaylaw0_Props.fL_eq (l0 : List (S42)) : fairwaylaw0_Props.fL l0 = fairwaylaw0_Props.l0L l0 0 := by
  show lim (fun k => fairwaylaw0_Props.f k l0) = _
  show lim (fun k => fairwaylaw0_Props.l0 k l0 0) = _
  repeat' (first | exact lim_const _ | (with_reducible refine lim_ite' ?_ ?_) | ((with_reducible refine lim_bind' ?hm ?hx (fun _ => ?_)); (case hm => exact (fun k => by first | exact LeO.refl _)); (case hx => first | exact lim_const _ | rfl)) | rfl)
theorem fairwayref4_TakeProps.l0L_eq (x0 : Int) (x7 : Int) (x8 : Int) (x10 : ByteArray) (x11 : List (S42)) : fairwayref4_TakeProps.l0L x0 x7 x8 x10 x11 = if (x10.size : Int) > 0 then (if 0 < (x10.size : Int) then ((fairwayref4_Kind.fL (wrap64 (bt x10 0))).bind fun t429 => (if t429 = 0 then (some (([] : List (S42)), 0, 8)) else (if 1 ≤ (x10.size : Int) then ((fairwayref4_value.fL (wrap64 (bt x10 0)) (x10.extract 1 x10.size)).bind fun bt430 => (if bt430.2.2.2.2.2 = 0 then ((fairwayref4_stands.fL x0 (wrap64 (bt x10 0))).bind fun t437 => (if t437 = true then ((fairwayref4_twice.fL x0 (wrap64 (bt x10 0)) x11).bind fun t438 => (if t438 = true then (fairwayref4_TakeProps.j1L x0 x7 x8 x10 x11 bt430.2.2.2.2.1 true bt430.1 bt430.2.1 bt430.2.2.1 bt430.2.2.2.1) else ((fairwayref4_fits.fL bt430.1 bt430.2.1 bt430.2.2.1 bt430.2.2.2.1).bind fun t439 => (fairwayref4_TakeProps.j1L x0 x7 x8 x10 x11 bt430.2.2.2.2.1 (!t439) bt430.1 bt430.2.1 bt430.2.2.1 bt430.2.2.2.1)))) else (fairwayref4_TakeProps.j1L x0 x7 x8 x10 x11 bt430.2.2.2.2.1 true bt430.1 bt430.2.1 bt430.2.2.1 bt430.2.2.2.1))) else (some (([] : List (S42)), 0, bt430.2.2.2.2.2)))) else (none)))) else (none)) else (some (x11, wrap64 (x8 + x7), 0)) := by
  show lim (fun k => fairwayref4_TakeProps.l0 k x0 x7 x8 x10 x11) = _
  rw [lim_step (f := fun k => if (x10.size : Int) > 0 then (if 0 < (x10.size : Int) then ((fairwayref4_Kind.f k (wrap64 (bt x10 0))).bind fun t429 => (if t429 = 0 then (some (([] : List (S42)), 0, 8)) else (if 1 ≤ (x10.size : Int) then ((fairwayref4_value.f k (wrap64 (bt x10 0)) (x10.extract 1 x10.size)).bind fun bt430 => (if bt430.2.2.2.2.2 = 0 then ((fairwayref4_stands.f k x0 (wrap64 (bt x10 0))).bind fun t437 => (if t437 = true then ((fairwayref4_twice.f k x0 (wrap64 (bt x10 0)) x11).bind fun t438 => (if t438 = true then (fairwayref4_TakeProps.j1 k x0 x7 x8 x10 x11 bt430.2.2.2.2.1 true bt430.1 bt430.2.1 bt430.2.2.1 bt430.2.2.2.1) else ((fairwayref4_fits.f k bt430.1 bt430.2.1 bt430.2.2.1 bt430.2.2.2.1).bind fun t439 => (fairwayref4_TakeProps.j1 k x0 x7 x8 x10 x11 bt430.2.2.2.2.1 (!t439) bt430.1 bt430.2.1 bt430.2.2.1 bt430.2.2.2.1)))) else (fairwayref4_TakeProps.j1 k x0 x7 x8 x10 x11 bt430.2.2.2.2.1 true bt430.1 bt430.2.1 bt430.2.2.1 bt430.2.2.2.1))) else (some (([] : List (S42)), 0, bt430.2.2.2.2.2)))) else (none)))) else (none)) else (some (x11, wrap64 (x8 + x7), 0))) (fun k => by first | rfl | simp only [fairwayref4_TakeProps.l0])]
  repeat' (first | exact lim_const _ | (with_reducible refine lim_ite' ?_ ?_) | ((with_reducible refine lim_bind' ?hm ?hx (fun _ => ?_)); (case hm => exact (fun k => by first | exact LeO.refl _ | apply fairwayref4_Kind.mono | apply fairwayref4_fits.mono | apply fairwayref4_stands.mono | apply fairwayref4_twice.mono | apply fairwayref4_value.mono)); (case hx => first | exact lim_const _ | rfl)) | rfl)
theorem fairwayref4_TakeProps.j1L_eq (x0 : Int) (x7 : Int) (x8 : Int) (x10 : ByteArray) (x11 : List (S42)) (x14 : Int) (x71 : Bool) (x437000 : Int) (x437001 : Int) (x437002 : ByteArray) (x437003 : ByteArray) : fairwayref4_TakeProps.j1L x0 x7 x8 x10 x11 x14 x71 x437000 x437001 x437002 x437003 = if x71 = true then (some (([] : List (S42)), 0, 9)) else (if (x11.length : Int) = 8 then (some (([] : List (S42)), 0, 2)) else (if x11.length < 2932031007402 then (if 0 ≤ (wrap64 (1 + x14)) then (if (wrap64 (1 + x14)) ≤ (x10.size : Int) then (fairwayref4_TakeProps.l0L x0 x7 x8 (x10.extract ((wrap64 (1 + x14)) : Int).toNat x10.size) (x11 ++ [(⟨x437000, x437001, x437002, x437003⟩ : S42)])) else (none)) else (none)) else (none))) := by
  show lim (fun k => fairwayref4_TakeProps.j1 k x0 x7 x8 x10 x11 x14 x71 x437000 x437001 x437002 x437003) = _
  rw [lim_step (f := fun k => if x71 = true then (some (([] : List (S42)), 0, 9)) else (if (x11.length : Int) = 8 then (some (([] : List (S42)), 0, 2)) else (if x11.length < 2932031007402 then (if 0 ≤ (wrap64 (1 + x14)) then (if (wrap64 (1 + x14)) ≤ (x10.size : Int) then (fairwayref4_TakeProps.l0 k x0 x7 x8 (x10.extract ((wrap64 (1 + x14)) : Int).toNat x10.size) (x11 ++ [(⟨x437000, x437001, x437002, x437003⟩ : S42)])) else (none)) else (none)) else (none)))) (fun k => by first | rfl | simp only [fairwayref4_TakeProps.j1])]
  repeat' (first | exact lim_const _ | (with_reducible refine lim_ite' ?_ ?_) | ((with_reducible refine lim_bind' ?hm ?hx (fun _ => ?_)); (case hm => exact (fun k => by first | exact LeO.refl _)); (case hx => first | exact lim_const _ | rfl)) | rfl)
theorem fairwaylaw0_Props.l0L_eq (x0 : List (S42)) (x2 : Int) : fairwaylaw0_Props.l0L x0 x2 = if x2 < (x0.length : Int) then (if 0 ≤ x2 then (fairwaylaw0_Props.l0L (x0.set (x2 : Int).toNat (⟨(-9), 0, (⟨#[]⟩ : ByteArray), (⟨#[]⟩ : ByteArray)⟩ : S42)) (wrap64 (x2 + 1))) else (none)) else (if x0.length < 2932031007402 then (some ()) else (none)) := by
  show lim (fun k => fairwaylaw0_Props.l0 k x0 x2) = _
  rw [lim_step (f := fun k => if x2 < (x0.length : Int) then (if 0 ≤ x2 then (fairwaylaw0_Props.l0 k (x0.set (x2 : Int).toNat (⟨(-9), 0, (⟨#[]⟩ : ByteArray), (⟨#[]⟩ : ByteArray)⟩ : S42)) (wrap64 (x2 + 1))) else (none)) else (if x0.length < 2932031007402 then (some ()) else (none))) (fun k => by first | rfl | simp only [fairwaylaw0_Props.l0])]
  repeat' (first | exact lim_const _ | (with_reducible refine lim_ite' ?_ ?_) | ((with_reducible refine lim_bind' ?hm ?hx (fun _ => ?_)); (case hm => exact (fun k => by first | exact LeO.refl _)); (case hx => first | exact lim_const _ | rfl)) | rfl)
end Go.Proofs.YtiancopplinpcaaDoor.P
end
section
namespace Go.Proofs.YtiancopplinpcaaDoor.P
open Go.RowKit Go.Proofs.YtiancopplinpcaaDoorW.PrintWords Go.Proofs.YtiancopplinpcaaDoorW.PrintLast Go.Proofs.YtiancopplinpcaaDoorW.PrintMore
set_option linter.unusedSimpArgs false
set_option linter.unusedVariables false
theorem size_list (x : ByteArray) : x.toList = ([] : List UInt8) ↔ x.size = 0 := by
  rw [ByteArray.toList_eq]
  constructor
  · intro h
    have := congrArg List.length h
    rw [Array.length_toList] at this
    exact this
  · intro h
    apply List.eq_nil_of_length_eq_zero
    rw [Array.length_toList]
    exact h
theorem chk_of (s : ByteArray) (f : Nat) : ∀ p, chk s f p = 0 ∨ chk s f p = 8 := by
  induction f with
  | zero => intro p; exact .inl rfl
  | succ f ih =>
    intro p
    unfold chk
    repeat' split
    all_goals first | exact .inl rfl | exact .inr rfl | exact ih _
theorem checkT_of (s : ByteArray) : checkT s = 0 ∨ checkT s = 2 ∨ checkT s = 8 := by
  unfold checkT
  split
  · exact .inr (.inl rfl)
  · rcases chk_of s s.size 0 with h | h
    · exact .inl h
    · exact .inr (.inr h)
theorem tbin_of (s : ByteArray) (hs : s.size ≤ 100000) : ((tbin s).2.2 = 0 ∧ 2 ≤ (tbin s).2.1 ∧ (tbin s).2.1 ≤ s.size ∧ ((tbin s).1.size : Int) ≤ 1024) ∨ (tbin s).2.2 = 2 ∨ (tbin s).2.2 = 7 := by
  have hv := val2_range s
  unfold tbin
  by_cases a : (s.size : Int) < 2
  · rw [if_pos a]; exact .inr (.inr rfl)
  · rw [if_neg a]
    by_cases b : val2 s > 1024
    · rw [if_pos b]; exact .inr (.inl rfl)
    · rw [if_neg b]
      by_cases c : (s.size : Int) - 2 < val2 s
      · rw [if_pos c]; exact .inr (.inr rfl)
      · rw [if_neg c]
        refine .inl ⟨rfl, ?_, ?_, ?_⟩
        · show 2 ≤ 2 + val2 s; omega
        · show 2 + val2 s ≤ s.size; omega
        · show ((s.extract 2 (2 + val2 s).toNat).size : Int) ≤ 1024
          rw [extract_size s (by omega) (by omega)]; omega
theorem takeT_of (s : ByteArray) (hs : s.size ≤ 100000) : ((takeT s true).2.2 = 0 ∧ 2 ≤ (takeT s true).2.1 ∧ (takeT s true).2.1 ≤ s.size ∧ checkT (takeT s true).1 = 0) ∨ (takeT s true).2.2 = 2 ∨ (takeT s true).2.2 = 7 ∨ (takeT s true).2.2 = 8 := by
  unfold takeT
  have h := tbin_of s hs
  by_cases a : (tbin s).2.2 = 0
  · rw [if_pos a, if_pos rfl]
    by_cases b : checkT (tbin s).1 = 0
    · rw [if_pos b]
      refine .inl ⟨a, ?_, ?_, b⟩ <;> omega
    · rw [if_neg b]
      have := checkT_of (tbin s).1
      right
      show checkT (tbin s).1 = 2 ∨ checkT (tbin s).1 = 7 ∨ checkT (tbin s).1 = 8
      omega
  · rw [if_neg a]
    right
    omega
theorem tk_of (s : ByteArray) (d : Nat) : ∀ (i : Nat) (n : Int), (tk s d i n).2.2 = 0 ∨ (tk s d i n).2.2 = 7 ∨ (tk s d i n).2.2 = 8 := by
  induction d with
  | zero => intro i n; exact .inr (.inr rfl)
  | succ d ih =>
    intro i n
    unfold tk
    repeat' split
    all_goals first | exact .inl rfl | exact .inr (.inl rfl) | exact .inr (.inr rfl) | exact ih _ _
theorem tkn_of (s : ByteArray) : ((tkn s).2.2 = 0 ∧ 0 ≤ (tkn s).1 ∧ (tkn s).1 ≤ 268435455 ∧ 0 ≤ (tkn s).2.1 ∧ (tkn s).2.1 ≤ s.size) ∨ (tkn s).2.2 = 7 ∨ (tkn s).2.2 = 8 := by
  rcases tk_of s 4 0 0 with h | h | h
  · have := tkn_was (x := s) (m := (tkn s).1) (k := (tkn s).2.1) (by rw [← show (tkn s).2.2 = 0 from h])
    exact .inl ⟨h, this.1, this.2.1, this.2.2.1, this.2.2.2.1⟩
  · exact .inr (.inl h)
  · exact .inr (.inr h)
def innerT (e : Int) : Int := if e = 7 then 8 else e
theorem inner_is (e : Int) : fairwayref4_inner.f e = some (innerT e) := by
  unfold fairwayref4_inner.f innerT
  split <;> rfl
theorem innerT0 : innerT 0 = 0 := by decide
theorem kind_is (id : Int) : prop_Kind.fL id = some (kindOf id, if kindOf id = 0 then 3 else 0) := lim_of (kind_ev id)
theorem refKind_is (id : Int) : fairwayref4_Kind.fL id = some (kindOf id) := lim_of (refKind_ev id)
theorem takeNum_is (s : ByteArray) : vbi_TakeNum.fL s = some (tkn s) := lim_of (take_ev s)
theorem refTakeNum_is (s : ByteArray) : fairwayref1_TakeNum.fL s = some (tkn s) := lim_of (ref_take_ev s)
theorem takeText_is (s : ByteArray) (hs : s.size ≤ 100000) : vbi_TakeText.fL s = some (takeT s true) := lim_of (vtakeText_ev s (by omega))
theorem takeBin_is (s : ByteArray) (hs : s.size ≤ 100000) : vbi_TakeBin.fL s = some (tbin s) := lim_of (takeBin_ev s (by omega))
theorem takeLong_is (s : ByteArray) (t : Bool) (hs : s.size ≤ 100000) : fairwayref1_TakeLong.fL s t = some (takeT s t) := lim_of (takeLong_ev s t (by omega))
theorem takeT_no (s : ByteArray) : takeT s false = tbin s := by
  unfold takeT
  split <;> rfl
theorem next_ok {x : ByteArray} (hx : 0 < x.size) (hk : kindOf (bt x 0) ≠ 0) {v : AnyV} {k n : Int} {S V : ByteArray} (hr : prop_read.fL (kindOf (bt x 0)) (x.extract 1 x.size) = some (v, k, 0)) (hw : prop_with.f (bt x 0) v = some (bt x 0, n, S, V)) (h0 : 0 ≤ k) (h1 : k ≤ 100000) :
    prop_next.fL x = some (bt x 0, n, S, V, 1 + k, 0) := by
  rw [prop_next.fL_eq, if_pos (by omega), w64bt, kind_is]
  simp only [Option.bind_some]
  rw [if_neg hk, if_pos rfl, if_pos (by omega), hr]
  simp only [Option.bind_some, if_true]
  rw [hw]
  simp only [Option.bind_some]
  rw [w64 (by omega) (by omega)]
theorem next_no {x : ByteArray} (hx : 0 < x.size) (hk : kindOf (bt x 0) ≠ 0) {v : AnyV} {k e : Int} (hr : prop_read.fL (kindOf (bt x 0)) (x.extract 1 x.size) = some (v, k, e)) (he : e = 2 ∨ e = 7 ∨ e = 8) :
    ∃ t, prop_next.fL x = some t ∧ t.2.2.2.2.2 = innerT e := by
  rw [prop_next.fL_eq, if_pos (by omega), w64bt, kind_is]
  simp only [Option.bind_some]
  rw [if_neg hk, if_pos rfl, if_pos (by omega), hr]
  simp only [Option.bind_some]
  rw [if_neg (by omega)]
  rcases he with rfl | rfl | rfl
  · exact ⟨_, rfl, rfl⟩
  · exact ⟨_, rfl, rfl⟩
  · exact ⟨_, rfl, rfl⟩
def Same (x : ByteArray) : Prop :=
  (∃ n S V k, prop_next.fL x = some (bt x 0, n, S, V, 1 + k, 0) ∧ fairwayref4_value.fL (bt x 0) (x.extract 1 x.size) = some (bt x 0, n, S, V, k, 0) ∧ 0 ≤ k ∧ k ≤ (x.size : Int) - 1 ∧
    (¬ (kindOf (bt x 0) = 1 ∧ n > 1) → ¬ ((bt x 0 = 33 ∨ bt x 0 = 35 ∨ bt x 0 = 39 ∨ bt x 0 = 11) ∧ n = 0) → okP (bt x 0) n S V = true)) ∨
  (∃ e t u, e ≠ 0 ∧ prop_next.fL x = some t ∧ t.2.2.2.2.2 = e ∧ fairwayref4_value.fL (bt x 0) (x.extract 1 x.size) = some u ∧ u.2.2.2.2.2 = e)
theorem eB_list' : (⟨#[]⟩ : ByteArray).toList = [] := by decide +kernel
theorem val4_range (s : ByteArray) : 0 ≤ val4 s ∧ val4 s ≤ 4294967295 := by
  have := bt_range s 0; have := bt_range s 1; have := bt_range s 2; have := bt_range s 3; unfold val4; omega
theorem same_no {x : ByteArray} (hx : 0 < x.size) (hk : kindOf (bt x 0) ≠ 0) {v : AnyV} {k e : Int} (hr : prop_read.fL (kindOf (bt x 0)) (x.extract 1 x.size) = some (v, k, e)) (he : e = 2 ∨ e = 7 ∨ e = 8) {u : Int × Int × ByteArray × ByteArray × Int × Int}
    (hu : fairwayref4_value.fL (bt x 0) (x.extract 1 x.size) = some u) (hue : u.2.2.2.2.2 = innerT e) : Same x := by
  obtain ⟨t, ht, hte⟩ := next_no hx hk hr he
  refine .inr ⟨innerT e, t, u, ?_, ht, hte, hu, hue⟩
  rcases he with rfl | rfl | rfl <;> decide
set_option maxHeartbeats 4000000 in
theorem next_same (x : ByteArray) (hx : 0 < x.size) (hs : x.size ≤ 100000) (hk : kindOf (bt x 0) ≠ 0) : Same x := by
  have hz : (x.extract 1 x.size).size = x.size - 1 := extract_size x (by omega) (Nat.le_refl _)
  have hc := kind_cases (bt x 0)
  have hv := fairwayref4_value.fL_eq (bt x 0) (x.extract 1 x.size)
  rw [refKind_is] at hv
  simp only [Option.bind_some] at hv
  have nx_ok := fun v k n S V => @next_ok x hx hk v k n S V
  have nx_no := fun v k e => @same_no x hx hk v k e
  have hss : (x.extract 1 x.size).size ≤ 100000 := by omega
  rcases hc with h | h | h | h | h | h | h | h
  · exact absurd h hk
  ·
    rw [h] at nx_ok nx_no hv
    rw [if_pos rfl, fairwayref4_value.j0L_eq] at hv
    simp only [Option.bind_some, beq_self_eq_true, if_true] at hv
    rw [if_pos (by decide), if_pos (by decide), show rd [0, 1, 2, 4] 1 = 1 from rfl, show fairwayref1_TakeFixed.fL (x.extract 1 x.size) 1 = _ from lim_of (ref_take1_ev _)] at hv
    simp only [Option.bind_some] at hv
    by_cases e : ((x.extract 1 x.size).size : Int) < 1
    · rw [if_pos e] at hv
      simp only [Bool.false_eq_true, if_false] at hv
      refine nx_no .no 0 7 ?_ (by decide) hv rfl
      rw [prop_read.fL_eq, if_pos rfl, if_pos ((size_list _).2 (by omega))]
    · rw [if_neg e] at hv
      simp only [if_true] at hv
      refine .inl ⟨bt (x.extract 1 x.size) 0, _, _, 1, nx_ok (.num (bt (x.extract 1 x.size) 0)) 1 _ _ _ ?_ rfl (by decide) (by decide), hv, by decide, by omega, fun q1 q2 => ?_⟩
      · rw [prop_read.fL_eq, if_pos rfl, if_neg (by rw [size_list]; omega), if_pos (by omega), w64bt]
      · have := bt_range (x.extract 1 x.size) 0
        unfold okP
        rw [h] at q1 ⊢
        rw [if_neg (by decide), if_pos (by decide)]
        exact decide_eq_true ⟨q2, by omega, by simp [mostK]; omega, eB_list', eB_list'⟩
  · rw [h] at nx_ok nx_no hv
    rw [if_neg (by decide), if_pos rfl, fairwayref4_value.j0L_eq] at hv
    simp only [Option.bind_some, beq_self_eq_true, if_true] at hv
    rw [if_pos (by decide), if_pos (by decide), show rd [0, 1, 2, 4] 2 = 2 from rfl, show fairwayref1_TakeFixed.fL (x.extract 1 x.size) 2 = _ from lim_of (ref_take2_ev _)] at hv
    simp only [Option.bind_some] at hv
    have hr : prop_read.fL 2 (x.extract 1 x.size) = (vbi_TakeTwo.fL (x.extract 1 x.size)).bind fun t => some (AnyV.num t.1, 2, t.2) := by rw [prop_read.fL_eq, if_neg (by decide), if_pos rfl]
    rw [show vbi_TakeTwo.fL (x.extract 1 x.size) = _ from lim_of (takeTwo_ev _)] at hr
    simp only [Option.bind_some] at hr
    by_cases e : ((x.extract 1 x.size).size : Int) < 2
    · rw [if_pos e] at hv hr
      simp only [Bool.false_eq_true, if_false] at hv
      exact nx_no _ _ _ hr (by decide) hv rfl
    · rw [if_neg e] at hv hr
      simp only [if_true] at hv
      refine .inl ⟨_, _, _, 2, nx_ok _ 2 _ _ _ hr rfl (by decide) (by decide), hv, by decide, by omega, fun q1 q2 => ?_⟩
      have := val2_range (x.extract 1 x.size)
      unfold okP
      rw [h, if_neg (by decide), if_pos (by decide)]
      exact decide_eq_true ⟨q2, this.1, by simp [mostK]; omega, eB_list', eB_list'⟩
  · rw [h] at nx_ok nx_no hv
    rw [if_neg (by decide), if_neg (by decide), fairwayref4_value.j0L_eq] at hv
    simp only [Option.bind_some, beq_self_eq_true, if_true] at hv
    rw [if_pos (by decide), if_pos (by decide), show rd [0, 1, 2, 4] 3 = 4 from rfl, show fairwayref1_TakeFixed.fL (x.extract 1 x.size) 4 = _ from lim_of (ref_take4_ev _)] at hv
    simp only [Option.bind_some] at hv
    have hr : prop_read.fL 3 (x.extract 1 x.size) = (vbi_TakeFour.fL (x.extract 1 x.size)).bind fun t => some (AnyV.num t.1, 4, t.2) := by rw [prop_read.fL_eq, if_neg (by decide), if_neg (by decide), if_pos rfl]
    rw [show vbi_TakeFour.fL (x.extract 1 x.size) = _ from lim_of (takeFour_ev _)] at hr
    simp only [Option.bind_some] at hr
    by_cases e : ((x.extract 1 x.size).size : Int) < 4
    · rw [if_pos e] at hv hr
      simp only [Bool.false_eq_true, if_false] at hv
      exact nx_no _ _ _ hr (by decide) hv rfl
    · rw [if_neg e] at hv hr
      simp only [if_true] at hv
      refine .inl ⟨_, _, _, 4, nx_ok _ 4 _ _ _ hr rfl (by decide) (by decide), hv, by decide, by omega, fun q1 q2 => ?_⟩
      have := val4_range (x.extract 1 x.size)
      unfold okP
      rw [h, if_neg (by decide), if_pos (by decide)]
      exact decide_eq_true ⟨q2, this.1, by simp [mostK]; omega, eB_list', eB_list'⟩
  · rw [h] at nx_ok nx_no hv
    rw [if_neg (by decide), if_neg (by decide), fairwayref4_value.j0L_eq] at hv
    rw [if_neg (by decide), if_pos rfl, refTakeNum_is] at hv
    simp only [Option.bind_some, inner_is] at hv
    have hr : prop_read.fL 4 (x.extract 1 x.size) = (vbi_TakeNum.fL (x.extract 1 x.size)).bind fun t => some (AnyV.num t.1, t.2.1, t.2.2) := by rw [prop_read.fL_eq, if_neg (by decide), if_neg (by decide), if_neg (by decide), if_pos rfl]
    rw [takeNum_is] at hr
    simp only [Option.bind_some] at hr
    rcases tkn_of (x.extract 1 x.size) with ⟨e, q1, q2, q3, q4⟩ | e
    · rw [e] at hv hr
      rw [innerT0] at hv
      refine .inl ⟨_, _, _, _, nx_ok _ _ _ _ _ hr rfl q3 (by omega), hv, q3, by omega, fun q5 q6 => ?_⟩
      unfold okP
      rw [h, if_neg (by decide), if_pos (by decide)]
      exact decide_eq_true ⟨q6, q1, by simp [mostK]; omega, eB_list', eB_list'⟩
    · exact nx_no _ _ _ hr (.inr e) hv rfl
  · rw [h] at nx_ok nx_no hv
    rw [if_neg (by decide), if_neg (by decide), fairwayref4_value.j0L_eq] at hv
    rw [if_neg (by decide), if_neg (by decide), show ((5 : Int) != 6) = true from rfl, show ((5 : Int) != 7) = true from rfl, takeLong_is _ _ hss] at hv
    simp only [Option.bind_some, fairwayref4_value.j1L_eq, if_true, inner_is, ite_self] at hv
    have hr : prop_read.fL 5 (x.extract 1 x.size) = (vbi_TakeText.fL (x.extract 1 x.size)).bind fun t => some (AnyV.str t.1, t.2.1, t.2.2) := by rw [prop_read.fL_eq, if_neg (by decide), if_neg (by decide), if_neg (by decide), if_neg (by decide), if_pos rfl]
    rw [takeText_is _ hss] at hr
    simp only [Option.bind_some] at hr
    rcases takeT_of (x.extract 1 x.size) hss with ⟨e, q1, q2, q3⟩ | e
    · rw [e] at hv hr
      rw [innerT0] at hv
      refine .inl ⟨_, _, _, _, nx_ok _ _ _ _ _ hr rfl (by omega) (by omega), hv, by omega, by omega, fun q5 q6 => ?_⟩
      unfold okP
      rw [h, if_neg (by decide), if_neg (by decide), if_pos rfl]
      exact decide_eq_true ⟨rfl, eB_list', q3⟩
    · exact nx_no _ _ _ hr (by omega) hv rfl
  · rw [h] at nx_ok nx_no hv
    rw [if_neg (by decide), if_neg (by decide), fairwayref4_value.j0L_eq] at hv
    rw [if_neg (by decide), if_neg (by decide), show ((6 : Int) != 6) = false from rfl, show ((6 : Int) != 7) = true from rfl, takeLong_is _ _ hss, takeT_no] at hv
    simp only [Option.bind_some, fairwayref4_value.j1L_eq, if_true, inner_is, ite_self] at hv
    have hr : prop_read.fL 6 (x.extract 1 x.size) = (vbi_TakeBin.fL (x.extract 1 x.size)).bind fun t => some (AnyV.str t.1, t.2.1, t.2.2) := by rw [prop_read.fL_eq, if_neg (by decide), if_neg (by decide), if_neg (by decide), if_neg (by decide), if_neg (by decide), if_pos rfl]
    rw [takeBin_is _ hss] at hr
    simp only [Option.bind_some] at hr
    rcases tbin_of (x.extract 1 x.size) hss with ⟨e, q1, q2, q3⟩ | e
    · rw [e] at hv hr
      rw [innerT0] at hv
      refine .inl ⟨_, _, _, _, nx_ok _ _ _ _ _ hr rfl (by omega) (by omega), hv, by omega, by omega, fun q5 q6 => ?_⟩
      unfold okP
      rw [h, if_neg (by decide), if_neg (by decide), if_neg (by decide), if_pos rfl]
      exact decide_eq_true ⟨rfl, eB_list', q3⟩
    · exact nx_no _ _ _ hr (by omega) hv rfl
  · rw [h] at nx_ok nx_no hv
    rw [if_neg (by decide), if_neg (by decide), fairwayref4_value.j0L_eq] at hv
    rw [if_neg (by decide), if_neg (by decide), show ((7 : Int) != 6) = true from rfl, show ((7 : Int) != 7) = false from rfl, takeLong_is _ _ hss] at hv
    simp only [Option.bind_some] at hv
    have hr : prop_read.fL 7 (x.extract 1 x.size) = _ := prop_read.fL_eq 7 _
    rw [if_neg (by decide), if_neg (by decide), if_neg (by decide), if_neg (by decide), if_neg (by decide), if_neg (by decide), takeText_is _ hss] at hr
    simp only [Option.bind_some] at hr
    rcases takeT_of (x.extract 1 x.size) hss with ⟨e, q1, q2, q3⟩ | e
    · have hz2 : ((x.extract 1 x.size).extract (takeT (x.extract 1 x.size) true).2.1.toNat (x.extract 1 x.size).size).size = (x.extract 1 x.size).size - (takeT (x.extract 1 x.size) true).2.1.toNat := extract_size _ (by omega) (Nat.le_refl _)
      rw [if_pos e, if_pos (by omega), if_pos q2, takeText_is _ (by omega)] at hr
      simp only [Option.bind_some] at hr
      rw [if_pos e, fairwayref4_value.j1L_eq, if_neg (by decide), if_pos (by omega), if_pos q2, takeLong_is _ _ (by omega)] at hv
      simp only [Option.bind_some, inner_is] at hv
      rcases takeT_of ((x.extract 1 x.size).extract (takeT (x.extract 1 x.size) true).2.1.toNat (x.extract 1 x.size).size) (by omega) with ⟨e', q1', q2', q3'⟩ | e'
      · rw [e', w64 (by omega) (by omega)] at hv hr
        rw [innerT0] at hv
        refine .inl ⟨_, _, _, _, nx_ok _ _ _ _ _ hr rfl (by omega) (by omega), hv, by omega, by omega, fun q5 q6 => ?_⟩
        unfold okP
        rw [h, if_neg (by decide), if_neg (by decide), if_neg (by decide), if_neg (by decide)]
        exact decide_eq_true ⟨rfl, q3, q3'⟩
      · have a1 := nx_no _ _ _ hr e' hv
        dsimp only at a1
        first | exact a1 | exact a1 trivial | exact a1 (Eq.refl _)
    · rw [if_neg (by omega)] at hr
      rw [if_neg (by omega), fairwayref4_value.j1L_eq, if_pos rfl] at hv
      simp only [inner_is, Option.bind_some] at hv
      exact nx_no _ _ _ hr (by omega) hv rfl
theorem next_bad (x : ByteArray) (hx : 0 < x.size) (hk : kindOf (bt x 0) = 0) : ∃ t, prop_next.fL x = some t ∧ t.2.2.2.2.2 = 8 := by
  rw [prop_next.fL_eq, if_pos (by omega), w64bt, kind_is]
  simp only [Option.bind_some]
  rw [if_pos hk, if_neg (by decide)]
  exact ⟨_, rfl, rfl⟩
theorem fits_is (p : Int) (l : List S42) (a n : Int) (s v : ByteArray) : prop_fits.fL p l a n s v = some (fitsP p l a n) := lim_of (fits_ev p l a n s v)
theorem refStands_is (p a : Int) : fairwayref4_stands.fL p a = some (decide (a ∈ placeL p)) := lim_of (refStands_ev p a)
theorem refTwice_is (p a : Int) (l : List S42) (hl : l.length ≤ 100000) : fairwayref4_twice.fL p a l = some (againP p a l) := lim_of (refTwice_ev p a l hl)
theorem refFits_is (a n : Int) (s v : ByteArray) : fairwayref4_fits.fL a n s v = some (okP a n s v) := lim_of (refFits_ev a n s v)
theorem takes_loop (p a b : Int) (d : Nat) : ∀ (x : ByteArray) (pre : List S42), x.size ≤ d → x.size ≤ 100000 → pre.length ≤ 8 →
    ∃ R, prop_Take.l0L p pre a b x = some R ∧ fairwayref4_TakeProps.l0L p b a x pre = some R ∧ R.1.length ≤ 8 ∧ (R.2.1 = wrap64 (a + b) ∧ R.2.2 = 0 ∨ R.1 = [] ∧ R.2.1 = 0 ∧ R.2.2 ≠ 0) := by
  induction d with
  | zero =>
    intro x pre hd hs hl
    refine ⟨(pre, wrap64 (a + b), 0), ?_, ?_, hl, .inl ⟨rfl, rfl⟩⟩
    · rw [prop_Take.l0L_eq, if_pos ((size_list _).2 (by omega))]
    · rw [fairwayref4_TakeProps.l0L_eq, if_neg (by omega)]
  | succ d ih =>
    intro x pre hd hs hl
    by_cases hx : x.size = 0
    · refine ⟨(pre, wrap64 (a + b), 0), ?_, ?_, hl, .inl ⟨rfl, rfl⟩⟩
      · rw [prop_Take.l0L_eq, if_pos ((size_list _).2 hx)]
      · rw [fairwayref4_TakeProps.l0L_eq, if_neg (by omega)]
    · have hx0 : 0 < x.size := by omega
      rw [prop_Take.l0L_eq, if_neg (by rw [size_list]; exact hx), fairwayref4_TakeProps.l0L_eq, if_pos (by omega), if_pos (by omega), w64bt, refKind_is]
      simp only [Option.bind_some]
      by_cases hk : kindOf (bt x 0) = 0
      · obtain ⟨t, ht, hte⟩ := next_bad x hx0 hk
        rw [ht]
        simp only [Option.bind_some]
        rw [hte, if_neg (by decide), if_pos hk]
        exact ⟨_, rfl, rfl, by simp, .inr ⟨rfl, rfl, by show (8 : Int) ≠ 0; decide⟩⟩
      · rw [if_neg hk, if_pos (by omega)]
        rcases next_same x hx0 hs hk with ⟨n, S, V, k, h1, h2, h3, h4, h5⟩ | ⟨e, t, u, he, ht, hte, hu, hue⟩
        · rw [h1, h2]
          simp only [Option.bind_some, if_true]
          rw [fits_is, refStands_is]
          simp only [Option.bind_some]
          have hst : fitsP p pre (bt x 0) n = stepP p pre (bt x 0) n S V := by
            cases hf : fitsP p pre (bt x 0) n with
            | false => rw [fits_no hf]
            | true =>
              obtain ⟨q1, q2, q3⟩ := fits_yes (s := S) (v := V) hf
              rw [q1, h5 q2 q3]
          have hR : (if decide (bt x 0 ∈ placeL p) = true then (fairwayref4_twice.fL p (bt x 0) pre).bind fun t438 => (if t438 = true then (fairwayref4_TakeProps.j1L p b a x pre k true (bt x 0) n S V) else ((fairwayref4_fits.fL (bt x 0) n S V).bind fun t439 => (fairwayref4_TakeProps.j1L p b a x pre k (!t439) (bt x 0) n S V))) else (fairwayref4_TakeProps.j1L p b a x pre k true (bt x 0) n S V)) = fairwayref4_TakeProps.j1L p b a x pre k (!(stepP p pre (bt x 0) n S V)) (bt x 0) n S V := by
            unfold stepP
            by_cases m : bt x 0 ∈ placeL p
            · rw [if_pos (decide_eq_true m), refTwice_is _ _ _ (by omega)]
              simp only [Option.bind_some]
              cases againP p (bt x 0) pre with
              | true => simp
              | false =>
                rw [if_neg (by simp), refFits_is]
                simp [m]
            · rw [if_neg (by simpa using m)]
              simp [m]
          rw [hR, hst, fairwayref4_TakeProps.j1L_eq]
          cases hp : stepP p pre (bt x 0) n S V with
          | false => exact ⟨_, rfl, rfl, by simp, .inr ⟨rfl, rfl, by show (9 : Int) ≠ 0; decide⟩⟩
          | true =>
            simp only [if_true, Bool.not_true, Bool.false_eq_true, if_false]
            by_cases h8 : (pre.length : Int) = 8
            · rw [if_pos h8, if_pos h8]
              exact ⟨_, rfl, rfl, by simp, .inr ⟨rfl, rfl, by show (2 : Int) ≠ 0; decide⟩⟩
            · have w : wrap64 (1 + k) = 1 + k := w64 (by omega) (by omega)
              rw [if_neg h8, if_neg h8, if_pos (by omega), if_pos (by omega), if_pos (by omega), w, if_pos (by omega), if_pos (by omega), if_pos (by omega)]
              have hz : (x.extract (1 + k).toNat x.size).size = x.size - (1 + k).toNat := extract_size x (by omega) (Nat.le_refl _)
              exact ih _ _ (by omega) (by omega) (by simp; omega)
        · rw [ht, hu]
          simp only [Option.bind_some]
          rw [hte, hue, if_neg he, if_neg he]
          exact ⟨_, rfl, rfl, by simp, .inr ⟨rfl, rfl, he⟩⟩
theorem stands_is (p : Int) : prop_stands.fL p = some (placeL p, decide (0 ≤ p ∧ p ≤ 15)) := lim_of (stands_ev p)
theorem take_same (p : Int) (hp : 0 ≤ p ∧ p ≤ 15) (x : ByteArray) (hs : x.size ≤ 100000) : ∃ R, prop_Take.fL p x = some R ∧ fairwayref4_TakeProps.fL p x = some R ∧ R.1.length ≤ 8 ∧ 0 ≤ R.2.1 ∧ R.2.1 ≤ x.size := by
  rw [prop_Take.fL_eq, fairwayref4_TakeProps.fL_eq, stands_is, takeNum_is, refTakeNum_is, decide_eq_true hp]
  simp only [Option.bind_some, if_true]
  rcases tkn_of x with ⟨e, q1, q2, q3, q4⟩ | e
  · rw [if_pos e, if_pos e, w64 (by omega) (by omega)]
    by_cases h : (tkn x).1 > (x.size : Int) - (tkn x).2.1
    · rw [if_pos h, if_pos (by omega)]
      exact ⟨_, rfl, rfl, by simp, by simp, by simp⟩
    · have a1 : ((tkn x).1 > (x.size : Int) - (tkn x).2.1) = False := eq_false h
      have a2 : ((x.size : Int) - (tkn x).2.1 < (tkn x).1) = False := eq_false (by omega)
      have a3 : (0 ≤ (tkn x).2.1) = True := eq_true q3
      have a4 : ((tkn x).2.1 ≤ (tkn x).2.1 + (tkn x).1) = True := eq_true (by omega)
      have a5 : ((tkn x).2.1 + (tkn x).1 ≤ (x.size : Int)) = True := eq_true (by omega)
      have w : wrap64 ((tkn x).2.1 + (tkn x).1) = (tkn x).2.1 + (tkn x).1 := w64 (by omega) (by omega)
      simp only [a1, a2, a3, w, a4, a5, if_true, if_false]
      clear a1 a2 a3 a4 a5 w
      have hz : (x.extract (tkn x).2.1.toNat ((tkn x).2.1 + (tkn x).1).toNat).size = ((tkn x).2.1 + (tkn x).1).toNat - (tkn x).2.1.toNat := extract_size x (by omega) (by omega)
      obtain ⟨R, h1, h2, h3, h4⟩ := takes_loop p (tkn x).2.1 (tkn x).1 _ (x.extract (tkn x).2.1.toNat ((tkn x).2.1 + (tkn x).1).toNat) [] (Nat.le_refl _) (by omega) (by simp)
      refine ⟨R, h1, h2, h3, ?_⟩
      rcases h4 with ⟨h5, h6⟩ | ⟨h5, h6, h7⟩
      · rw [w64 (by omega) (by omega)] at h5
        omega
      · omega
  · rw [if_neg (by omega), if_neg (by omega)]
    exact ⟨_, rfl, rfl, by simp, by simp, by simp⟩
theorem take_nowhere (p : Int) (hp : ¬ (0 ≤ p ∧ p ≤ 15)) (x : ByteArray) : prop_Take.fL p x = some ([], 0, 1) := by
  rw [prop_Take.fL_eq, stands_is, decide_eq_false hp]
  rfl
end Go.Proofs.YtiancopplinpcaaDoor.P
end
section
namespace Go.Proofs.YtiancopplinpcaaDoor.P
open Go.RowKit Go.Proofs.YtiancopplinpcaaDoorW.PrintWords Go.Proofs.YtiancopplinpcaaDoorW.PrintLast Go.Proofs.YtiancopplinpcaaDoorW.PrintMore
set_option linter.unusedVariables false
set_option linter.unusedSimpArgs false
noncomputable def fairwaylaw4_wakes.fL : Option (Bool) := lim fun k => fairwaylaw4_wakes.f k
end Go.Proofs.YtiancopplinpcaaDoor.P
end
section
namespace Go.Proofs.YtiancopplinpcaaDoor.P
open Go.RowKit Go.Proofs.YtiancopplinpcaaDoorW.PrintWords Go.Proofs.YtiancopplinpcaaDoorW.PrintLast Go.Proofs.YtiancopplinpcaaDoorW.PrintMore
set_option linter.unusedVariables false
set_option linter.unusedSimpArgs false
noncomputable def fairwaylaw0_PropsWeight.fL (l0 : List (S42)) : Option (Int) := lim fun k => fairwaylaw0_PropsWeight.f k l0
noncomputable def fairwaylaw4_heavy.fL (a0_0 : Int) (l0_1 : List (S42)) (a0_2 : ByteArray) : Option (Bool) := lim fun k => fairwaylaw4_heavy.f k a0_0 l0_1 a0_2
noncomputable def fairwaylaw0_PropsWeight.l0L (x0 : List (S42)) (x3 : Int) (x4 : Int) : Option (Int) := lim fun k => fairwaylaw0_PropsWeight.l0 k x0 x3 x4
theorem fairwaylaw0_PropsWeight.fL_eq (l0 : List (S42)) : fairwaylaw0_PropsWeight.fL l0 = fairwaylaw0_PropsWeight.l0L l0 (l0.length : Int) 0 := by
  show lim (fun k => fairwaylaw0_PropsWeight.f k l0) = _
  show lim (fun k => fairwaylaw0_PropsWeight.l0 k l0 (l0.length : Int) 0) = _
  repeat' (first | exact lim_const _ | (with_reducible refine lim_ite' ?_ ?_) | ((with_reducible refine lim_bind' ?hm ?hx (fun _ => ?_)); (case hm => exact (fun k => by first | exact LeO.refl _)); (case hx => first | exact lim_const _ | rfl)) | rfl)
theorem fairwaylaw4_heavy.fL_eq (a0_0 : Int) (l0_1 : List (S42)) (a0_2 : ByteArray) : fairwaylaw4_heavy.fL a0_0 l0_1 a0_2 = (fairwaylaw0_PropsWeight.fL l0_1).bind fun t194 => (if t194 > 10000 then (some true) else (some (decide ((a0_2.size : Int) > 9000)))) := by
  show lim (fun k => fairwaylaw4_heavy.f k a0_0 l0_1 a0_2) = _
  show lim (fun k => (fairwaylaw0_PropsWeight.f k l0_1).bind fun t194 => (if t194 > 10000 then (some true) else (some (decide ((a0_2.size : Int) > 9000))))) = _
  repeat' (first | exact lim_const _ | (with_reducible refine lim_ite' ?_ ?_) | ((with_reducible refine lim_bind' ?hm ?hx (fun _ => ?_)); (case hm => exact (fun k => by first | exact LeO.refl _ | apply fairwaylaw0_PropsWeight.mono)); (case hx => first | exact lim_const _ | rfl)) | rfl)
theorem fairwaylaw0_PropsWeight.l0L_eq (x0 : List (S42)) (x3 : Int) (x4 : Int) : fairwaylaw0_PropsWeight.l0L x0 x3 x4 = if x4 < (x0.length : Int) then (if x3 < 1048576 then (if 0 ≤ x4 then (fairwaylaw0_PropsWeight.l0L x0 (wrap64 ((wrap64 (x3 + (((rd_T42 x0 x4).f2).size : Int))) + (((rd_T42 x0 x4).f3).size : Int))) (wrap64 (x4 + 1))) else (none)) else (some x3)) else (some x3) := by
  show lim (fun k => fairwaylaw0_PropsWeight.l0 k x0 x3 x4) = _
  rw [lim_step (f := fun k => if x4 < (x0.length : Int) then (if x3 < 1048576 then (if 0 ≤ x4 then (fairwaylaw0_PropsWeight.l0 k x0 (wrap64 ((wrap64 (x3 + (((rd_T42 x0 x4).f2).size : Int))) + (((rd_T42 x0 x4).f3).size : Int))) (wrap64 (x4 + 1))) else (none)) else (some x3)) else (some x3)) (fun k => by first | rfl | simp only [fairwaylaw0_PropsWeight.l0])]
  repeat' (first | exact lim_const _ | (with_reducible refine lim_ite' ?_ ?_) | ((with_reducible refine lim_bind' ?hm ?hx (fun _ => ?_)); (case hm => exact (fun k => by first | exact LeO.refl _)); (case hx => first | exact lim_const _ | rfl)) | rfl)
end Go.Proofs.YtiancopplinpcaaDoor.P
end
section
namespace Go.Proofs.YtiancopplinpcaaDoor.P
open Go.RowKit Go.Proofs.YtiancopplinpcaaDoorW.PrintWords Go.Proofs.YtiancopplinpcaaDoorW.PrintLast Go.Proofs.YtiancopplinpcaaDoorW.PrintMore
set_option linter.unusedVariables false
set_option linter.unusedSimpArgs false
noncomputable def fairwayref0_EqProps.fL (l0 : List (S42)) (l1 : List (S42)) : Option (Bool) := lim fun k => fairwayref0_EqProps.f k l0 l1
noncomputable def fairwayref0_EqProps.l0L (x0 : List (S42)) (x1 : List (S42)) (x5 : Int) : Option (Bool) := lim fun k => fairwayref0_EqProps.l0 k x0 x1 x5
theorem fairwayref0_EqProps.fL_eq (l0 : List (S42)) (l1 : List (S42)) : fairwayref0_EqProps.fL l0 l1 = if (l0.length : Int) = (l1.length : Int) then (fairwayref0_EqProps.l0L l0 l1 0) else (some false) := by
  show lim (fun k => fairwayref0_EqProps.f k l0 l1) = _
  show lim (fun k => if (l0.length : Int) = (l1.length : Int) then (fairwayref0_EqProps.l0 k l0 l1 0) else (some false)) = _
  repeat' (first | exact lim_const _ | (with_reducible refine lim_ite' ?_ ?_) | ((with_reducible refine lim_bind' ?hm ?hx (fun _ => ?_)); (case hm => exact (fun k => by first | exact LeO.refl _)); (case hx => first | exact lim_const _ | rfl)) | rfl)
theorem fairwayref0_EqProps.l0L_eq (x0 : List (S42)) (x1 : List (S42)) (x5 : Int) : fairwayref0_EqProps.l0L x0 x1 x5 = if x5 < (x0.length : Int) then (if 0 ≤ x5 then (if x5 < (x1.length : Int) then (if (!(((rd_T42 x0 x5).f0) == ((rd_T42 x1 x5).f0)) || (!(((rd_T42 x0 x5).f1) == ((rd_T42 x1 x5).f1)) || (!((((rd_T42 x0 x5).f2).toList) == (((rd_T42 x1 x5).f2).toList)) || (!((((rd_T42 x0 x5).f3).toList) == (((rd_T42 x1 x5).f3).toList)))))) = true then (some false) else (fairwayref0_EqProps.l0L x0 x1 (wrap64 (x5 + 1)))) else (none)) else (none)) else (some true) := by
  show lim (fun k => fairwayref0_EqProps.l0 k x0 x1 x5) = _
  rw [lim_step (f := fun k => if x5 < (x0.length : Int) then (if 0 ≤ x5 then (if x5 < (x1.length : Int) then (if (!(((rd_T42 x0 x5).f0) == ((rd_T42 x1 x5).f0)) || (!(((rd_T42 x0 x5).f1) == ((rd_T42 x1 x5).f1)) || (!((((rd_T42 x0 x5).f2).toList) == (((rd_T42 x1 x5).f2).toList)) || (!((((rd_T42 x0 x5).f3).toList) == (((rd_T42 x1 x5).f3).toList)))))) = true then (some false) else (fairwayref0_EqProps.l0 k x0 x1 (wrap64 (x5 + 1)))) else (none)) else (none)) else (some true)) (fun k => by first | rfl | simp only [fairwayref0_EqProps.l0])]
  repeat' (first | exact lim_const _ | (with_reducible refine lim_ite' ?_ ?_) | ((with_reducible refine lim_bind' ?hm ?hx (fun _ => ?_)); (case hm => exact (fun k => by first | exact LeO.refl _)); (case hx => first | exact lim_const _ | rfl)) | rfl)
end Go.Proofs.YtiancopplinpcaaDoor.P
end
section
namespace Go.Proofs.YtiancopplinpcaaDoor.P
open Go.RowKit Go.Proofs.YtiancopplinpcaaDoorW.PrintWords Go.Proofs.YtiancopplinpcaaDoorW.PrintLast Go.Proofs.YtiancopplinpcaaDoorW.PrintMore
attribute [local go_sem] max2_int min2_int max_two min_two max_three min_three max_four min_four
set_option linter.unusedVariables false
set_option linter.unusedSimpArgs false
mutual
def fairwaylaw4_PropTakes.l0 : Nat → List (S25) → Int → Option (Bool)
  | 0, _, _ => none
  | k + 1, x0, x3 => if x3 < (x0.length : Int) then (fairwaylaw4_PropTakes.j1 k x0 x3 (decide (x3 < 10))) else (fairwaylaw4_PropTakes.j1 k x0 x3 false)
def fairwaylaw4_PropTakes.j1 : Nat → List (S25) → Int → Bool → Option (Bool)
  | 0, _, _, _ => none
  | k + 1, x0, x3, x19 => if x19 = true then (if 0 ≤ x3 then (if x3 < (x0.length : Int) then ((fairwaylaw4_heavy.f k ((rd_T25 x0 x3).f0) ((rd_T25 x0 x3).f1) ((rd_T25 x0 x3).f2)).bind fun t450 => (if t450 = true then (some true) else (fairwaylaw4_PropTakes.l1 k x0 x3 (-1) ((rd_T25 x0 x3).f0) ((rd_T25 x0 x3).f1) ((rd_T25 x0 x3).f2)))) else (none)) else (none)) else ((fairwaylaw4_wakes.f k).bind fun t447 => (some t447))
def fairwaylaw4_PropTakes.l1 : Nat → List (S25) → Int → Int → Int → List (S42) → ByteArray → Option (Bool)
  | 0, _, _, _, _, _, _ => none
  | k + 1, x0, x3, x5, x450000, x450001, x450002 => if x5 ≤ 16 then ((prop_Take.f k x5 x450002).bind fun bt451 => ((fairwayref4_Place.f x5).bind fun t456 => (if t456 = true then ((fairwayref4_TakeProps.f k x5 x450002).bind fun bt457 => (fairwaylaw4_PropTakes.j3 k x0 x3 x5 bt451.1 bt451.2.1 bt451.2.2 bt457.1 bt457.2.1 bt457.2.2 x450000 x450001 x450002)) else (fairwaylaw4_PropTakes.j3 k x0 x3 x5 bt451.1 bt451.2.1 bt451.2.2 ([] : List (S42)) 0 1 x450000 x450001 x450002)))) else (fairwaylaw4_PropTakes.l0 k x0 (wrap64 (x3 + 1)))
def fairwaylaw4_PropTakes.j3 : Nat → List (S25) → Int → Int → List (S42) → Int → Int → List (S42) → Int → Int → Int → List (S42) → ByteArray → Option (Bool)
  | 0, _, _, _, _, _, _, _, _, _, _, _, _ => none
  | k + 1, x0, x3, x5, x6, x7, x8, x9, x10, x11, x450000, x450001, x450002 => (fairwaylaw4_num.f x8).bind fun t462 => (if t462 = x11 then (if x7 = x10 then ((fairwayref0_EqProps.f k x6 x9).bind fun t463 => (if t463 = true then ((fairwaylaw0_Props.f k x6).bind fun _ => (fairwaylaw4_PropTakes.l1 k x0 x3 (wrap64 (x5 + 1)) x450000 x450001 x450002)) else (some false))) else (some false)) else (some false))
end
def fairwaylaw4_PropTakes.f (k : Nat) (l0 : List (S25)) : Option (Bool) := fairwaylaw4_PropTakes.l0 k l0 0
set_option maxHeartbeats 8000000 in
set_option maxRecDepth 100000 in
theorem fairwaylaw4_PropTakes.calls (k : Nat) (A0 : Option Addr) (c0 : Nat) (l0 : List (S25)) (r : Bool) (w : World) (hr0 : Kd.C k25 w A0 l0.length l0) (hc0 : l0.length ≤ c0) (HLAID : Laid w) (h : fairwaylaw4_PropTakes.f k l0 = some r) :
  Calls Tryd.prog 6 #[.slice A0 l0.length c0] w fun e w' => e = .returned (.bool r) ∧ Below w.heap.size w w' := by
 have hu25 := Tryd.underlying25
 have HR0 := Aside0.mk hr0
 have HC0 := Aside0.mk hc0
 clear hr0 hc0
 have HB := Aside0.mk (Below.refl w.heap.size w)
 have H : (fairwaylaw4_PropTakes.l0 k l0 0) = some r := h
 clear h
 have H' := Aside0.mk H
 clear H
 go_enter Tryd.func6, Tryd.ntmps6
 go_wp2
 go_loopg [3] k (fun kq v3 w' => ∃ (x3_1 : Int), v3 = .int .i64 x3_1 ∧ Aside0 (fairwaylaw4_PropTakes.l0 kq l0 x3_1 = some r) ∧ Aside0 (kq ≤ k) ∧ Aside0 (Below w.heap.size w w'))
 case atStart => exact ⟨(0), (by first | rfl | (simp; done) | (simp [*]; done)), H', ⟨Nat.le_refl _⟩, ⟨by repeat (first | (with_reducible first | exact HB.out | apply below_alloc | apply pw_below_drewN | apply below_drew1) | exact HB.out)⟩⟩
 case round =>
  as_aux_lemma =>
   clear H'
   obtain ⟨x3_1, rfl, HA, HK1, HB⟩ := hrel
   cases gk with
   | zero => exact absurd HA.out (by simp [fairwaylaw4_PropTakes.l0])
   | succ k1 =>
    have H := HA.out
    clear HA
    simp only [fairwaylaw4_PropTakes.l0] at H
    have HC2 := Aside0.mk H
    clear H
    go_upto_region 2 with (fail)
    go_cut [19] (fun v19 wc => ∃ (kq : Nat) (x19_1 : Bool), v19 = .bool x19_1 ∧ Aside0 (fairwaylaw4_PropTakes.j1 kq l0 x3_1 x19_1 = some r) ∧ Aside0 (kq ≤ k1) ∧ Aside0 (Below w.heap.size w wc))
    case first =>
     have H := HC2.out
     clear HC2
     by_cases c3 : x3_1 < (l0.length : Int)
     ·
      rw [if_pos c3] at H
      have c3b0 : decide (x3_1 < (l0.length : Int)) = true := decide_eq_true c3
      clear c3
      (first | rw [c3b0] | (simp only [i64_w, i32_w]; rw [c3b0]) | skip)
      have H' := Aside0.mk H
      clear H
      go_wp2
      go_meet
      case rel => exact ⟨_, (decide (x3_1 < 10)), (by first | rfl | (simp; done) | (simp [*]; done)), H', ⟨by have := HK1.out; first | omega | exact Nat.le_refl _⟩, ⟨by repeat (first | (with_reducible first | exact HB.out | apply below_alloc | apply pw_below_drewN | apply below_drew1) | exact HB.out)⟩⟩
     rw [if_neg c3] at H
     have c3b0 : decide (x3_1 < (l0.length : Int)) = false := decide_eq_false c3
     clear c3
     (first | rw [c3b0] | (simp only [i64_w, i32_w]; rw [c3b0]) | skip)
     have H' := Aside0.mk H
     clear H
     go_wp2
     go_meet
     case rel => exact ⟨_, (false), (by first | rfl | (simp; done) | (simp [*]; done)), H', ⟨by have := HK1.out; first | omega | exact Nat.le_refl _⟩, ⟨by repeat (first | (with_reducible first | exact HB.out | apply below_alloc | apply pw_below_drewN | apply below_drew1) | exact HB.out)⟩⟩
    case rest =>
     as_aux_lemma =>
      clear HC2
      try clear p2
      try clear c3
      try clear c3b0
      obtain ⟨kq, x19_1, rfl, HA, HJ1, HB⟩ := hcut
      cases kq with
      | zero => exact absurd HA.out (by simp [fairwaylaw4_PropTakes.j1])
      | succ kj1 =>
       have H := HA.out
       clear HA
       simp only [fairwaylaw4_PropTakes.j1] at H
       by_cases c4 : x19_1 = true
       ·
        subst c4
        have H1 : (if 0 ≤ x3_1 then (if x3_1 < (l0.length : Int) then ((fairwaylaw4_heavy.f kj1 ((rd_T25 l0 x3_1).f0) ((rd_T25 l0 x3_1).f1) ((rd_T25 l0 x3_1).f2)).bind fun t450 => (if t450 = true then (some true) else (fairwaylaw4_PropTakes.l1 kj1 l0 x3_1 (-1) ((rd_T25 l0 x3_1).f0) ((rd_T25 l0 x3_1).f1) ((rd_T25 l0 x3_1).f2)))) else (none)) else (none)) = some r := by rw [if_pos rfl] at H; exact H
        clear H
        have H := H1
        clear H1
        by_cases c5 : 0 ≤ x3_1
        ·
         rw [if_pos c5] at H
         have c5b0 : decide (0 ≤ x3_1) = true := decide_eq_true c5
         clear c5
         by_cases c6 : x3_1 < (l0.length : Int)
         ·
          rw [if_pos c6] at H
          have c6b0 : decide (x3_1 < (l0.length : Int)) = true := decide_eq_true c6
          clear c6
          replace H := Option.bind_eq_some_iff.mp H
          obtain ⟨t450, A70, H⟩ := H
          replace H : (if t450 = true then (some true) else (fairwaylaw4_PropTakes.l1 kj1 l0 x3_1 (-1) ((rd_T25 l0 x3_1).f0) ((rd_T25 l0 x3_1).f1) ((rd_T25 l0 x3_1).f2))) = some r := H
          have A7 := Aside0.mk A70
          clear A70
          by_cases c8 : t450 = true
          ·
           subst c8
           have H1 : (some true) = some r := by rw [if_pos rfl] at H; exact H
           clear H
           have H := H1
           clear H1
           obtain rfl := Option.some.inj H
           have p448 : 0 ≤ (x3_1 : Int) := of_decide_eq_true (by first | (with_reducible assumption) | assumption)
           have q448 : x3_1 < (l0.length : Int) := of_decide_eq_true (by first | (with_reducible assumption) | assumption)
           obtain ⟨ad448, A448_1, c448_1, e448, hx448_0, hx448_1, hx448_2, hl448_1, hi448_1⟩ := at_T25 HR0.out x3_1 p448 q448
           cases e448
           replace hx448_0 := (HB.out.cell (World.block_lt_of_cell? w _ hx448_0)).trans hx448_0
           replace hx448_1 := (HB.out.cell (World.block_lt_of_cell? w _ hx448_1)).trans hx448_1
           replace hx448_2 := (HB.out.cell (World.block_lt_of_cell? w _ hx448_2)).trans hx448_2
           have HR448_1 := Aside0.mk hi448_1
           have HC448_1 := Aside0.mk hl448_1
           clear hi448_1 hl448_1
           replace p448 := eq_true p448
           replace q448 := eq_true q448
           go_wp2_with (first | ((with_reducible refine gate_dst (N := 4) rfl ?_); refine box_event ?hg (N := 4) ?hd (cs := #[.int .i64 0, .slice none 0 0, .string (⟨#[]⟩ : ByteArray)]) (t := 25) ?hr ?_; (case hd => rfl); (case hg => rfl); (case hr => first | (go_simp; done) | (go_simp; rfl)); intro gb449 hg w9 hbox hb; have n0_ := Aside0.mk (below_step (by repeat (first | (with_reducible first | exact HB.out | apply below_alloc | apply pw_below_drewN | apply below_drew1) | exact HB.out)) hb); have n1_ := Aside0.mk (hbox); have n2_ := Aside0.mk ((by rw [hg]; exact (below_size (by repeat (first | (with_reducible first | exact HB.out | apply below_alloc | apply pw_below_drewN | apply below_drew1) | exact HB.out))) : w.heap.size ≤ gb449)); have n3_ := Aside0.mk ((by rw [hg]; exact (below_size (by repeat (first | (with_reducible first | exact HB.out | apply below_alloc | apply pw_below_drewN | apply below_drew1) | exact HB.out))) : w.heap.size ≤ gb449)); clear HB; have HB := n0_; have BK449 := n1_; have GW449 := n2_; have GE449 := n3_; clear n0_ n1_ n2_ n3_; clear hb hbox hg; have hcz10_0 : w9.cell? ⟨gb449, 0, none⟩ = some (.int .i64 0) := (blk_cell BK449.out 0).trans rfl; have hcz10_1 : w9.cell? ⟨gb449, 1, none⟩ = some (.slice none 0 0) := (blk_cell BK449.out 1).trans rfl; have hcz10_2 : w9.cell? ⟨gb449, 2, none⟩ = some (.string (⟨#[]⟩ : ByteArray)) := (blk_cell BK449.out 2).trans rfl; have hfz10_0 := blk_frozen BK449.out 0; have hfz10_1 := blk_frozen BK449.out 1; have hfz10_2 := blk_frozen BK449.out 2) | ((with_reducible refine gate_callee (f := 15) rfl ?_); refine goesL_ (some 27) rfl rfl Tryd.func15 (by kernel_rfl) rfl #[.agg #[.int .i64 ((rd_T25 l0 x3_1).f0), .slice A448_1 ((rd_T25 l0 x3_1).f1).length c448_1, .string ((rd_T25 l0 x3_1).f2)]] rfl (by (try simp only [List.map_toArray, List.map_cons, List.map_nil]); first | done | rfl | (simp only [List.length_drop, List.length_take]; rfl)) ?_; (with_reducible refine (fairwaylaw4_heavy.calls kj1 ((rd_T25 l0 x3_1).f0) _ _ ((rd_T25 l0 x3_1).f1) ((rd_T25 l0 x3_1).f2) true _ ?side1 ?side2 A7.out).mono ?_); (case side1 => exact Kd.C_below HR448_1.out (by repeat (first | (with_reducible first | exact HB.out | apply below_alloc | apply pw_below_drewN | apply below_drew1 | refine below_set ?_ GE449.out) | exact HB.out))); (case side2 => exact HC448_1.out); rintro e w11 ⟨rfl, hb⟩; refine ⟨_, rfl, ?_⟩; have n0_ := Aside0.mk (blk_below (g := gb449) (o := .cells #[.int .i64 ((rd_T25 l0 x3_1).f0), .slice A448_1 ((rd_T25 l0 x3_1).f1).length c448_1, .string ((rd_T25 l0 x3_1).f2)] 25 (0, 0)) (by (with_reducible repeat (first | refine blk_drewN ?_ _ | refine blk_drew ?_ | refine blk_alloc ?_ _)); refine blk_put (cs := #[.int .i64 ((rd_T25 l0 x3_1).f0), .slice A448_1 ((rd_T25 l0 x3_1).f1).length c448_1, .string (⟨#[]⟩ : ByteArray)]) ?_ 2 _ rfl; (with_reducible repeat (first | refine blk_drewN ?_ _ | refine blk_drew ?_ | refine blk_alloc ?_ _)); refine blk_put (cs := #[.int .i64 ((rd_T25 l0 x3_1).f0), .slice none 0 0, .string (⟨#[]⟩ : ByteArray)]) ?_ 1 _ rfl; (with_reducible repeat (first | refine blk_drewN ?_ _ | refine blk_drew ?_ | refine blk_alloc ?_ _)); refine blk_put (cs := #[.int .i64 0, .slice none 0 0, .string (⟨#[]⟩ : ByteArray)]) ?_ 0 _ rfl; (with_reducible repeat (first | refine blk_drewN ?_ _ | refine blk_drew ?_ | refine blk_alloc ?_ _)); exact BK449.out) hb); have n1_ := Aside0.mk (below_step (by repeat (first | (with_reducible first | exact HB.out | apply below_alloc | apply pw_below_drewN | apply below_drew1 | refine below_set ?_ GE449.out) | exact HB.out)) hb); clear BK449; clear HB; have BK449 := n0_; have HB := n1_; clear n0_ n1_; (try clear hb); (try clear hb2); (try clear hk); (try clear hi)))
           go_ret
           exact ⟨by first | rfl | (simp [errW_none, errW_some] <;> rfl) | (simp [*, errW_none, errW_some] <;> rfl), by repeat (first | (with_reducible first | exact HB.out | apply below_alloc | apply pw_below_drewN | apply below_drew1 | refine below_set ?_ GE449.out) | exact HB.out)⟩
          replace c8 := Bool.eq_false_iff.mpr c8
          subst c8
          have H1 : (fairwaylaw4_PropTakes.l1 kj1 l0 x3_1 (-1) ((rd_T25 l0 x3_1).f0) ((rd_T25 l0 x3_1).f1) ((rd_T25 l0 x3_1).f2)) = some r := by rw [if_neg (show ¬ (false = true) by decide)] at H; exact H
          clear H
          have H := H1
          clear H1
          have H' := Aside0.mk H
          clear H
          have p448 : 0 ≤ (x3_1 : Int) := of_decide_eq_true (by first | (with_reducible assumption) | assumption)
          have q448 : x3_1 < (l0.length : Int) := of_decide_eq_true (by first | (with_reducible assumption) | assumption)
          obtain ⟨ad448, A448_1, c448_1, e448, hx448_0, hx448_1, hx448_2, hl448_1, hi448_1⟩ := at_T25 HR0.out x3_1 p448 q448
          cases e448
          replace hx448_0 := (HB.out.cell (World.block_lt_of_cell? w _ hx448_0)).trans hx448_0
          replace hx448_1 := (HB.out.cell (World.block_lt_of_cell? w _ hx448_1)).trans hx448_1
          replace hx448_2 := (HB.out.cell (World.block_lt_of_cell? w _ hx448_2)).trans hx448_2
          have HR448_1 := Aside0.mk hi448_1
          have HC448_1 := Aside0.mk hl448_1
          clear hi448_1 hl448_1
          replace p448 := eq_true p448
          replace q448 := eq_true q448
          go_wp2_with (first | ((with_reducible refine gate_dst (N := 4) rfl ?_); refine box_event ?hg (N := 4) ?hd (cs := #[.int .i64 0, .slice none 0 0, .string (⟨#[]⟩ : ByteArray)]) (t := 25) ?hr ?_; (case hd => rfl); (case hg => rfl); (case hr => first | (go_simp; done) | (go_simp; rfl)); intro gb449 hg w12 hbox hb; have n0_ := Aside0.mk (below_step (by repeat (first | (with_reducible first | exact HB.out | apply below_alloc | apply pw_below_drewN | apply below_drew1) | exact HB.out)) hb); have n1_ := Aside0.mk (hbox); have n2_ := Aside0.mk ((by rw [hg]; exact (below_size (by repeat (first | (with_reducible first | exact HB.out | apply below_alloc | apply pw_below_drewN | apply below_drew1) | exact HB.out))) : w.heap.size ≤ gb449)); have n3_ := Aside0.mk ((by rw [hg]; exact (below_size (by repeat (first | (with_reducible first | exact HB.out | apply below_alloc | apply pw_below_drewN | apply below_drew1) | exact HB.out))) : w.heap.size ≤ gb449)); clear HB; have HB := n0_; have BK449 := n1_; have GW449 := n2_; have GE449 := n3_; clear n0_ n1_ n2_ n3_; clear hb hbox hg; have hcz13_0 : w12.cell? ⟨gb449, 0, none⟩ = some (.int .i64 0) := (blk_cell BK449.out 0).trans rfl; have hcz13_1 : w12.cell? ⟨gb449, 1, none⟩ = some (.slice none 0 0) := (blk_cell BK449.out 1).trans rfl; have hcz13_2 : w12.cell? ⟨gb449, 2, none⟩ = some (.string (⟨#[]⟩ : ByteArray)) := (blk_cell BK449.out 2).trans rfl; have hfz13_0 := blk_frozen BK449.out 0; have hfz13_1 := blk_frozen BK449.out 1; have hfz13_2 := blk_frozen BK449.out 2) | ((with_reducible refine gate_callee (f := 15) rfl ?_); refine goesL_ (some 27) rfl rfl Tryd.func15 (by kernel_rfl) rfl #[.agg #[.int .i64 ((rd_T25 l0 x3_1).f0), .slice A448_1 ((rd_T25 l0 x3_1).f1).length c448_1, .string ((rd_T25 l0 x3_1).f2)]] rfl (by (try simp only [List.map_toArray, List.map_cons, List.map_nil]); first | done | rfl | (simp only [List.length_drop, List.length_take]; rfl)) ?_; (with_reducible refine (fairwaylaw4_heavy.calls kj1 ((rd_T25 l0 x3_1).f0) _ _ ((rd_T25 l0 x3_1).f1) ((rd_T25 l0 x3_1).f2) false _ ?side1 ?side2 A7.out).mono ?_); (case side1 => exact Kd.C_below HR448_1.out (by repeat (first | (with_reducible first | exact HB.out | apply below_alloc | apply pw_below_drewN | apply below_drew1 | refine below_set ?_ GE449.out) | exact HB.out))); (case side2 => exact HC448_1.out); rintro e w14 ⟨rfl, hb⟩; refine ⟨_, rfl, ?_⟩; have n0_ := Aside0.mk (blk_below (g := gb449) (o := .cells #[.int .i64 ((rd_T25 l0 x3_1).f0), .slice A448_1 ((rd_T25 l0 x3_1).f1).length c448_1, .string ((rd_T25 l0 x3_1).f2)] 25 (0, 0)) (by (with_reducible repeat (first | refine blk_drewN ?_ _ | refine blk_drew ?_ | refine blk_alloc ?_ _)); refine blk_put (cs := #[.int .i64 ((rd_T25 l0 x3_1).f0), .slice A448_1 ((rd_T25 l0 x3_1).f1).length c448_1, .string (⟨#[]⟩ : ByteArray)]) ?_ 2 _ rfl; (with_reducible repeat (first | refine blk_drewN ?_ _ | refine blk_drew ?_ | refine blk_alloc ?_ _)); refine blk_put (cs := #[.int .i64 ((rd_T25 l0 x3_1).f0), .slice none 0 0, .string (⟨#[]⟩ : ByteArray)]) ?_ 1 _ rfl; (with_reducible repeat (first | refine blk_drewN ?_ _ | refine blk_drew ?_ | refine blk_alloc ?_ _)); refine blk_put (cs := #[.int .i64 0, .slice none 0 0, .string (⟨#[]⟩ : ByteArray)]) ?_ 0 _ rfl; (with_reducible repeat (first | refine blk_drewN ?_ _ | refine blk_drew ?_ | refine blk_alloc ?_ _)); exact BK449.out) hb); have n1_ := Aside0.mk (below_step (by repeat (first | (with_reducible first | exact HB.out | apply below_alloc | apply pw_below_drewN | apply below_drew1 | refine below_set ?_ GE449.out) | exact HB.out)) hb); clear BK449; clear HB; have BK449 := n0_; have HB := n1_; clear n0_ n1_; (try clear hb); (try clear hb2); (try clear hk); (try clear hi)))
          go_loopg [5] kj1 (fun kq v5 w' => ∃ (x5_3 : Int), v5 = .int .i64 x5_3 ∧ Aside0 (fairwaylaw4_PropTakes.l1 kq l0 x3_1 x5_3 ((rd_T25 l0 x3_1).f0) ((rd_T25 l0 x3_1).f1) ((rd_T25 l0 x3_1).f2) = some r) ∧ Aside0 (kq ≤ kj1) ∧ Aside0 (w'.heap[gb449]? = some (.cells #[.int .i64 ((rd_T25 l0 x3_1).f0), (.slice A448_1 ((rd_T25 l0 x3_1).f1).length c448_1), .string ((rd_T25 l0 x3_1).f2)] 25 (0, 0))) ∧ Aside0 (Below w.heap.size w w'))
          case atStart => exact ⟨((-1)), (by first | rfl | (simp; done) | (simp [*]; done)), H', ⟨Nat.le_refl _⟩, ⟨by (with_reducible repeat (first | refine blk_drewN ?_ _ | refine blk_drew ?_ | refine blk_alloc ?_ _)); exact BK449.out⟩, ⟨by repeat (first | (with_reducible first | exact HB.out | apply below_alloc | apply pw_below_drewN | apply below_drew1 | refine below_set ?_ GE449.out) | exact HB.out)⟩⟩
          case round =>
           as_aux_lemma =>
            clear H'
            try clear c1
            try clear p2
            try clear c3
            try clear c3b0
            try clear c4
            try clear p4
            try clear q4
            try clear hx4
            try clear c5
            try clear c5b0
            try clear c6
            try clear c6b0
            try clear c8
            try clear hcz10_0
            try clear hcz10_1
            try clear hcz10_2
            try clear hcz13_0
            try clear hcz13_1
            try clear hcz13_2
            try clear hfz10_0
            try clear hfz10_1
            try clear hfz10_2
            try clear hfz13_0
            try clear hfz13_1
            try clear hfz13_2
            try clear hx448_0
            try clear hx448_1
            try clear hx448_2
            try clear p2
            try clear p448
            try clear q448
            obtain ⟨x5_3, rfl, HA, HK3, BK449, HB⟩ := hrel
            cases gk with
            | zero => exact absurd HA.out (by simp [fairwaylaw4_PropTakes.l1])
            | succ k3 =>
             have H := HA.out
             clear HA
             simp only [fairwaylaw4_PropTakes.l1] at H
             by_cases c15 : x5_3 ≤ 16
             ·
              rw [if_pos c15] at H
              have c15b0 : decide (x5_3 ≤ 16) = true := decide_eq_true c15
              clear c15
              replace H := Option.bind_eq_some_iff.mp H
              obtain ⟨⟨t451, t452, t453⟩, A160, H⟩ := H
              replace H : ((fairwayref4_Place.f x5_3).bind fun t456 => (if t456 = true then ((fairwayref4_TakeProps.f k3 x5_3 ((rd_T25 l0 x3_1).f2)).bind fun bt457 => (fairwaylaw4_PropTakes.j3 k3 l0 x3_1 x5_3 t451 t452 t453 bt457.1 bt457.2.1 bt457.2.2 ((rd_T25 l0 x3_1).f0) ((rd_T25 l0 x3_1).f1) ((rd_T25 l0 x3_1).f2))) else (fairwaylaw4_PropTakes.j3 k3 l0 x3_1 x5_3 t451 t452 t453 ([] : List (S42)) 0 1 ((rd_T25 l0 x3_1).f0) ((rd_T25 l0 x3_1).f1) ((rd_T25 l0 x3_1).f2)))) = some r := H
              have A16 := Aside0.mk A160
              clear A160
              replace H := Option.bind_eq_some_iff.mp H
              obtain ⟨t456, A170, H⟩ := H
              replace H : (if t456 = true then ((fairwayref4_TakeProps.f k3 x5_3 ((rd_T25 l0 x3_1).f2)).bind fun bt457 => (fairwaylaw4_PropTakes.j3 k3 l0 x3_1 x5_3 t451 t452 t453 bt457.1 bt457.2.1 bt457.2.2 ((rd_T25 l0 x3_1).f0) ((rd_T25 l0 x3_1).f1) ((rd_T25 l0 x3_1).f2))) else (fairwaylaw4_PropTakes.j3 k3 l0 x3_1 x5_3 t451 t452 t453 ([] : List (S42)) 0 1 ((rd_T25 l0 x3_1).f0) ((rd_T25 l0 x3_1).f1) ((rd_T25 l0 x3_1).f2))) = some r := H
              have A17 := Aside0.mk A170
              clear A170
              have HC18 := Aside0.mk H
              clear H
              have hcz19_0 : wr.cell? ⟨gb449, 0, none⟩ = some (.int .i64 ((rd_T25 l0 x3_1).f0)) := (blk_cell BK449.out 0).trans rfl
              have hcz19_1 : wr.cell? ⟨gb449, 1, none⟩ = some (.slice A448_1 ((rd_T25 l0 x3_1).f1).length c448_1) := (blk_cell BK449.out 1).trans rfl
              have hcz19_2 : wr.cell? ⟨gb449, 2, none⟩ = some (.string ((rd_T25 l0 x3_1).f2)) := (blk_cell BK449.out 2).trans rfl
              have hfz19_0 := blk_frozen BK449.out 0
              have hfz19_1 := blk_frozen BK449.out 1
              have hfz19_2 := blk_frozen BK449.out 2
              go_upto_if 41 with (first | ((with_reducible refine gate_callee (f := 22) rfl ?_); refine goesL_ (some 36) rfl rfl Tryd.func22 (by kernel_rfl) rfl #[.int .i64 x5_3, .string ((rd_T25 l0 x3_1).f2)] rfl (by (try simp only [List.map_toArray, List.map_cons, List.map_nil]); first | done | rfl | (simp only [List.length_drop, List.length_take]; rfl)) ?_; (with_reducible refine (prop_Take.calls k3 x5_3 ((rd_T25 l0 x3_1).f2) t451 t452 t453 _ (by first | exact HLAID | exact HLAID.below (by repeat (first | (with_reducible first | exact HB.out | apply below_alloc | apply pw_below_drewN | apply below_drew1) | exact HB.out))) A16.out).mono ?_); rintro e w20 ⟨v454, rfl, ho0, hb⟩; refine ⟨_, rfl, ?_⟩; have n0_ := Aside0.mk (Kd.R_lower ho0 (below_size (by repeat (first | (with_reducible first | exact HB.out | apply below_alloc | apply pw_below_drewN | apply below_drew1 | refine below_set ?_ GE449.out) | exact HB.out)))); have n1_ := Aside0.mk (blk_below (g := gb449) (o := .cells #[.int .i64 ((rd_T25 l0 x3_1).f0), .slice A448_1 ((rd_T25 l0 x3_1).f1).length c448_1, .string ((rd_T25 l0 x3_1).f2)] 25 (0, 0)) (by (with_reducible repeat (first | refine blk_drewN ?_ _ | refine blk_drew ?_ | refine blk_alloc ?_ _)); exact BK449.out) hb); have n2_ := Aside0.mk (below_step (by repeat (first | (with_reducible first | exact HB.out | apply below_alloc | apply pw_below_drewN | apply below_drew1 | refine below_set ?_ GE449.out) | exact HB.out)) hb); clear BK449; clear HB; have HO455 := n0_; have BK449 := n1_; have HB := n2_; clear n0_ n1_ n2_; (try clear hb); (try clear hb2); (try clear hk); (try clear hi); (try clear ho0)) | ((with_reducible refine gate_callee (f := 23) rfl ?_); refine goesL_ (some 41) rfl rfl Tryd.func23 (by kernel_rfl) rfl #[.int .i64 x5_3] rfl (by (try simp only [List.map_toArray, List.map_cons, List.map_nil]); first | done | rfl | (simp only [List.length_drop, List.length_take]; rfl)) ?_; (with_reducible refine (fairwayref4_Place.calls x5_3 t456 _ A17.out).mono ?_); rintro e w' ⟨rfl, ⟨nd, rfl⟩⟩; refine ⟨_, rfl, ?_⟩))
              (try simp only [Act.put, List.setIfInBounds_toArray, List.set_cons_zero, List.set_cons_succ])
              go_cut [9, 10, 11] (fun v9 v10 v11 wc => ∃ (kq : Nat) (x9_17 : List (S42)) (x10_17 : Int) (x11_17 : Int), v10 = .int .i64 x10_17 ∧ v11 = .int .i64 x11_17 ∧ Aside0 (fairwaylaw4_PropTakes.j3 kq l0 x3_1 x5_3 t451 t452 t453 x9_17 x10_17 x11_17 ((rd_T25 l0 x3_1).f0) ((rd_T25 l0 x3_1).f1) ((rd_T25 l0 x3_1).f2) = some r) ∧ Aside0 (kq ≤ k3) ∧ Aside0 (Kd.R k42 42 wc w.heap.size (fun k_ => some k_ ≠ (v9 : Value).ownBlock) v454 t451) ∧ Aside0 (Kd.R k42 42 wc w.heap.size (fun k_ => some k_ ≠ (v454 : Value).ownBlock) v9 x9_17) ∧ Aside0 (wc.heap[gb449]? = some (.cells #[.int .i64 ((rd_T25 l0 x3_1).f0), (.slice A448_1 ((rd_T25 l0 x3_1).f1).length c448_1), .string ((rd_T25 l0 x3_1).f2)] 25 (0, 0))) ∧ Aside0 (Below w.heap.size w wc))
              case first =>
               have H := HC18.out
               clear HC18
               by_cases c21 : t456 = true
               ·
                subst c21
                have H1 : ((fairwayref4_TakeProps.f k3 x5_3 ((rd_T25 l0 x3_1).f2)).bind fun bt457 => (fairwaylaw4_PropTakes.j3 k3 l0 x3_1 x5_3 t451 t452 t453 bt457.1 bt457.2.1 bt457.2.2 ((rd_T25 l0 x3_1).f0) ((rd_T25 l0 x3_1).f1) ((rd_T25 l0 x3_1).f2))) = some r := by rw [if_pos rfl] at H; exact H
                clear H
                have H := H1
                clear H1
                replace H := Option.bind_eq_some_iff.mp H
                obtain ⟨⟨t457, t458, t459⟩, A220, H⟩ := H
                replace H : (fairwaylaw4_PropTakes.j3 k3 l0 x3_1 x5_3 t451 t452 t453 t457 t458 t459 ((rd_T25 l0 x3_1).f0) ((rd_T25 l0 x3_1).f1) ((rd_T25 l0 x3_1).f2)) = some r := H
                have A22 := Aside0.mk A220
                clear A220
                have H' := Aside0.mk H
                clear H
                have hcz23_0 : w20.cell? ⟨gb449, 0, none⟩ = some (.int .i64 ((rd_T25 l0 x3_1).f0)) := (blk_cell BK449.out 0).trans rfl
                have hcz23_1 : w20.cell? ⟨gb449, 1, none⟩ = some (.slice A448_1 ((rd_T25 l0 x3_1).f1).length c448_1) := (blk_cell BK449.out 1).trans rfl
                have hcz23_2 : w20.cell? ⟨gb449, 2, none⟩ = some (.string ((rd_T25 l0 x3_1).f2)) := (blk_cell BK449.out 2).trans rfl
                have hfz23_0 := blk_frozen BK449.out 0
                have hfz23_1 := blk_frozen BK449.out 1
                have hfz23_2 := blk_frozen BK449.out 2
                go_wp2_with (first | ((with_reducible refine gate_callee (f := 24) rfl ?_); refine goesL_ (some 46) rfl rfl Tryd.func24 (by kernel_rfl) rfl #[.int .i64 x5_3, .string ((rd_T25 l0 x3_1).f2)] rfl (by (try simp only [List.map_toArray, List.map_cons, List.map_nil]); first | done | rfl | (simp only [List.length_drop, List.length_take]; rfl)) ?_; (with_reducible refine (fairwayref4_TakeProps.calls k3 x5_3 ((rd_T25 l0 x3_1).f2) t457 t458 t459 _ A22.out).mono ?_); rintro e w24 ⟨v460, rfl, ho0, hb⟩; refine ⟨_, rfl, ?_⟩; have n0_ := Aside0.mk (Kd.R_elder' (by (with_reducible repeat (first | apply Kd.R_alloc | apply Kd.R_drewN | apply Kd.R_drew)); exact HO455.out) (Kd.R_base ho0) hb); have n1_ := Aside0.mk (Kd.R_lower (Kd.R_new' ho0 (Kd.R_lt (by (with_reducible repeat (first | apply Kd.R_alloc | apply Kd.R_drewN | apply Kd.R_drew)); exact HO455.out))) (below_size (by repeat (first | (with_reducible first | exact HB.out | apply below_alloc | apply pw_below_drewN | apply below_drew1 | refine below_set ?_ GE449.out) | exact HB.out)))); have n2_ := Aside0.mk (blk_below (g := gb449) (o := .cells #[.int .i64 ((rd_T25 l0 x3_1).f0), .slice A448_1 ((rd_T25 l0 x3_1).f1).length c448_1, .string ((rd_T25 l0 x3_1).f2)] 25 (0, 0)) (by (with_reducible repeat (first | refine blk_drewN ?_ _ | refine blk_drew ?_ | refine blk_alloc ?_ _)); exact BK449.out) hb); have n3_ := Aside0.mk (below_step (by repeat (first | (with_reducible first | exact HB.out | apply below_alloc | apply pw_below_drewN | apply below_drew1 | refine below_set ?_ GE449.out) | exact HB.out)) hb); clear HO455; clear BK449; clear HB; have HO455 := n0_; have HO461 := n1_; have BK449 := n2_; have HB := n3_; clear n0_ n1_ n2_ n3_; (try clear hb); (try clear hb2); (try clear hk); (try clear hi); (try clear ho0)))
                go_meet
                case rel => exact ⟨_, (t457), (t458), (t459), (by first | rfl | (simp; done) | (simp [*]; done)), (by first | rfl | (simp; done) | (simp [*]; done)), H', ⟨by have := HK1.out; have := HJ1.out; have := HK3.out; first | omega | exact Nat.le_refl _⟩, ⟨by (with_reducible repeat (first | apply Kd.R_alloc | apply Kd.R_drewN | apply Kd.R_drew)); exact Kd.R_mono HO455.out (fun _ hk => hk.2)⟩, ⟨by (with_reducible repeat (first | apply Kd.R_alloc | apply Kd.R_drewN | apply Kd.R_drew)); exact Kd.R_mono HO461.out (fun _ hk => hk.2)⟩, ⟨by (with_reducible repeat (first | refine blk_drewN ?_ _ | refine blk_drew ?_ | refine blk_alloc ?_ _)); exact BK449.out⟩, ⟨by repeat (first | (with_reducible first | exact HB.out | apply below_alloc | apply pw_below_drewN | apply below_drew1 | refine below_set ?_ GE449.out) | exact HB.out)⟩⟩
               replace c21 := Bool.eq_false_iff.mpr c21
               subst c21
               have H1 : (fairwaylaw4_PropTakes.j3 k3 l0 x3_1 x5_3 t451 t452 t453 ([] : List (S42)) 0 1 ((rd_T25 l0 x3_1).f0) ((rd_T25 l0 x3_1).f1) ((rd_T25 l0 x3_1).f2)) = some r := by rw [if_neg (show ¬ (false = true) by decide)] at H; exact H
               clear H
               have H := H1
               clear H1
               have H' := Aside0.mk H
               clear H
               go_wp2
               go_meet
               case rel => exact ⟨_, (([] : List (S42))), (0), (1), (by first | rfl | (simp; done) | (simp [*]; done)), (by first | rfl | (simp; done) | (simp [*]; done)), H', ⟨by have := HK1.out; have := HJ1.out; have := HK3.out; first | omega | exact Nat.le_refl _⟩, ⟨by (with_reducible repeat (first | apply Kd.R_alloc | apply Kd.R_drewN | apply Kd.R_drew)); exact Kd.R_mono HO455.out (fun _ hk => (by simp [Value.ownBlock]))⟩, ⟨by first | exact Kd.R_nil _ _ _ _ _ | exact Kd.N_nil _ _ _ _ _ | exact Kd.V_nil _ _ _ _ _ | exact Kd.Q_nil _ _ _ _ _ | exact Kd.S_nil _ _ _ _ _⟩, ⟨by (with_reducible repeat (first | refine blk_drewN ?_ _ | refine blk_drew ?_ | refine blk_alloc ?_ _)); exact BK449.out⟩, ⟨by repeat (first | (with_reducible first | exact HB.out | apply below_alloc | apply pw_below_drewN | apply below_drew1 | refine below_set ?_ GE449.out) | exact HB.out)⟩⟩
              case rest =>
               as_aux_lemma =>
                clear HC18
                try clear c1
                try clear c2
                try clear p2
                try clear c3
                try clear c3b0
                try clear c4
                try clear p4
                try clear q4
                try clear hx4
                try clear c5
                try clear c5b0
                try clear c6
                try clear c6b0
                try clear c8
                try clear c15
                try clear c15b0
                try clear c21
                try clear c22
                try clear c23
                try clear c24
                try clear hcz10_0
                try clear hcz10_1
                try clear hcz10_2
                try clear hcz13_0
                try clear hcz13_1
                try clear hcz13_2
                try clear hcz19_0
                try clear hcz19_1
                try clear hcz19_2
                try clear hcz23_0
                try clear hcz23_1
                try clear hcz23_2
                try clear hfz10_0
                try clear hfz10_1
                try clear hfz10_2
                try clear hfz13_0
                try clear hfz13_1
                try clear hfz13_2
                try clear hfz19_0
                try clear hfz19_1
                try clear hfz19_2
                try clear hfz23_0
                try clear hfz23_1
                try clear hfz23_2
                try clear hx448_0
                try clear hx448_1
                try clear hx448_2
                try clear p2
                try clear p4
                try clear p448
                try clear q4
                try clear q448
                obtain ⟨kq, x9_17, x10_17, x11_17, rfl, rfl, HA, HJ17, HO_6, HO_9, BK449, HB⟩ := hcut
                cases kq with
                | zero => exact absurd HA.out (by simp [fairwaylaw4_PropTakes.j3])
                | succ kj17 =>
                 have H := HA.out
                 clear HA
                 simp only [fairwaylaw4_PropTakes.j3] at H
                 replace H := Option.bind_eq_some_iff.mp H
                 obtain ⟨t462, A250, H⟩ := H
                 replace H : (if t462 = x11_17 then (if t452 = x10_17 then ((fairwayref0_EqProps.f kj17 t451 x9_17).bind fun t463 => (if t463 = true then ((fairwaylaw0_Props.f kj17 t451).bind fun _ => (fairwaylaw4_PropTakes.l1 kj17 l0 x3_1 (wrap64 (x5_3 + 1)) ((rd_T25 l0 x3_1).f0) ((rd_T25 l0 x3_1).f1) ((rd_T25 l0 x3_1).f2))) else (some false))) else (some false)) else (some false)) = some r := H
                 have A25 := Aside0.mk A250
                 clear A250
                 by_cases c26 : t462 = x11_17
                 ·
                  rw [if_pos c26] at H
                  have c26b0 : (t462 == x11_17) = true := beq_iff_eq.mpr c26
                  have c26b1 : (t462 != x11_17) = false := bne_eq_false_iff_eq.mpr c26
                  clear c26
                  by_cases c27 : t452 = x10_17
                  ·
                   rw [if_pos c27] at H
                   have c27b0 : (t452 == x10_17) = true := beq_iff_eq.mpr c27
                   have c27b1 : (t452 != x10_17) = false := bne_eq_false_iff_eq.mpr c27
                   clear c27
                   replace H := Option.bind_eq_some_iff.mp H
                   obtain ⟨t463, A280, H⟩ := H
                   replace H : (if t463 = true then ((fairwaylaw0_Props.f kj17 t451).bind fun _ => (fairwaylaw4_PropTakes.l1 kj17 l0 x3_1 (wrap64 (x5_3 + 1)) ((rd_T25 l0 x3_1).f0) ((rd_T25 l0 x3_1).f1) ((rd_T25 l0 x3_1).f2))) else (some false)) = some r := H
                   have A28 := Aside0.mk A280
                   clear A280
                   by_cases c29 : t463 = true
                   ·
                    subst c29
                    have H1 : ((fairwaylaw0_Props.f kj17 t451).bind fun _ => (fairwaylaw4_PropTakes.l1 kj17 l0 x3_1 (wrap64 (x5_3 + 1)) ((rd_T25 l0 x3_1).f0) ((rd_T25 l0 x3_1).f1) ((rd_T25 l0 x3_1).f2))) = some r := by rw [if_pos rfl] at H; exact H
                    clear H
                    have H := H1
                    clear H1
                    replace H := Option.bind_eq_some_iff.mp H
                    obtain ⟨_, A300, H⟩ := H
                    replace H : (fairwaylaw4_PropTakes.l1 kj17 l0 x3_1 (wrap64 (x5_3 + 1)) ((rd_T25 l0 x3_1).f0) ((rd_T25 l0 x3_1).f1) ((rd_T25 l0 x3_1).f2)) = some r := H
                    have A30 := Aside0.mk A300
                    clear A300
                    have H' := Aside0.mk H
                    clear H
                    go_wp2_with (first | ((with_reducible refine gate_callee (f := 13) rfl ?_); refine goesL_ (some 51) rfl rfl Tryd.func13 (by kernel_rfl) rfl #[.int .i64 t453] rfl (by (try simp only [List.map_toArray, List.map_cons, List.map_nil]); first | done | rfl | (simp only [List.length_drop, List.length_take]; rfl)) ?_; (with_reducible refine (fairwaylaw4_num.calls t453 t462 _ A25.out).mono ?_); rintro e w' ⟨rfl, ⟨nd, rfl⟩⟩; refine ⟨_, rfl, ?_⟩; obtain ⟨Ao31, co31, eo31⟩ := Kd.R_slice HO_6.out; subst eo31; obtain ⟨Ao32, co32, eo32⟩ := Kd.R_slice HO_9.out; subst eo32) | (go_at_call 21; (with_reducible refine (fairwayref0_EqProps.calls kj17 _ _ t451 _ _ x9_17 true _ ?side1 ?side2 ?side3 ?side4 A28.out).mono ?_); (case side1 => repeat (first | exact (Kd.R_reads' HO_6.out).2.2 | (with_reducible refine Kd.C_alloc ?_ _) | (with_reducible refine Kd.C_drewN ?_ _) | (with_reducible refine Kd.C_drew ?_))); (case side2 => exact (Kd.R_reads' HO_6.out).2.1); (case side3 => repeat (first | exact (Kd.R_reads' HO_9.out).2.2 | (with_reducible refine Kd.C_alloc ?_ _) | (with_reducible refine Kd.C_drewN ?_ _) | (with_reducible refine Kd.C_drew ?_))); (case side4 => exact (Kd.R_reads' HO_9.out).2.1); rintro e w' ⟨rfl, ⟨nd, rfl⟩⟩) | ((with_reducible refine gate_callee (f := 25) rfl ?_); refine goesL_ (some 66) rfl rfl Tryd.func25 (by kernel_rfl) rfl #[.slice Ao31 t451.length co31] rfl (by (try simp only [List.map_toArray, List.map_cons, List.map_nil]); first | done | rfl | (simp only [List.length_drop, List.length_take]; rfl)) ?_; (with_reducible refine (fairwaylaw0_Props.calls kj17 (fun k_ => some k_ = (.slice Ao31 t451.length co31 : Value).ownBlock) (.slice Ao31 t451.length co31) t451  w _ ?side1 ?side2 A30.out).mono ?_); (case side1 => repeat (first | (with_reducible first | exact HB.out | apply below_alloc | apply pw_below_drewN | apply below_drew1 | refine below_set ?_ GE449.out) | exact HB.out)); (case side2 => exact Kd.R_tight rfl HO_6.out); rintro e w33 ⟨rfl, hb, hkp⟩; refine ⟨_, rfl, ?_⟩; have n0_ := Aside0.mk (Kd.R_mono (ok' := fun k_ => True) (Kd.R_keptB (HO_9.out) hkp (fun k_ hk_ hs_ => (hk_) hs_)) (fun k_ hk_ => trivial)); have n1_ := Aside0.mk (blk_kept (by (with_reducible repeat (first | refine blk_drewN ?_ _ | refine blk_drew ?_ | refine blk_alloc ?_ _)); exact BK449.out) hkp (fun hs_ => (fun e_ => (Kd.R_ne HO_6.out BK449.out (by decide)) e_) hs_)); have n2_ := Aside0.mk (hb); clear HO_9; clear BK449; clear HB; clear HO_6; have HO_9 := n0_; have BK449 := n1_; have HB := n2_; clear n0_ n1_ n2_; (try clear hb); (try clear hkp)))
                    go_roundg kj17
                    case measure => have := HK1.out; have := HJ1.out; have := HK3.out; have := HJ17.out; omega
                    case rel => exact ⟨(wrap64 (x5_3 + 1)), (by first | rfl | (simp; done) | (simp [*]; done)), H', ⟨by have := HK1.out; have := HJ1.out; have := HK3.out; have := HJ17.out; omega⟩, ⟨by (with_reducible repeat (first | refine blk_drewN ?_ _ | refine blk_drew ?_ | refine blk_alloc ?_ _)); exact BK449.out⟩, ⟨by repeat (first | (with_reducible first | exact HB.out | apply below_alloc | apply pw_below_drewN | apply below_drew1 | refine below_set ?_ GE449.out) | exact HB.out)⟩⟩
                   replace c29 := Bool.eq_false_iff.mpr c29
                   subst c29
                   have H1 : (some false) = some r := by rw [if_neg (show ¬ (false = true) by decide)] at H; exact H
                   clear H
                   have H := H1
                   clear H1
                   obtain rfl := Option.some.inj H
                   go_wp2_with (first | ((with_reducible refine gate_callee (f := 13) rfl ?_); refine goesL_ (some 51) rfl rfl Tryd.func13 (by kernel_rfl) rfl #[.int .i64 t453] rfl (by (try simp only [List.map_toArray, List.map_cons, List.map_nil]); first | done | rfl | (simp only [List.length_drop, List.length_take]; rfl)) ?_; (with_reducible refine (fairwaylaw4_num.calls t453 t462 _ A25.out).mono ?_); rintro e w' ⟨rfl, ⟨nd, rfl⟩⟩; refine ⟨_, rfl, ?_⟩; obtain ⟨Ao34, co34, eo34⟩ := Kd.R_slice HO_6.out; subst eo34; obtain ⟨Ao35, co35, eo35⟩ := Kd.R_slice HO_9.out; subst eo35) | (go_at_call 21; (with_reducible refine (fairwayref0_EqProps.calls kj17 _ _ t451 _ _ x9_17 false _ ?side1 ?side2 ?side3 ?side4 A28.out).mono ?_); (case side1 => repeat (first | exact (Kd.R_reads' HO_6.out).2.2 | (with_reducible refine Kd.C_alloc ?_ _) | (with_reducible refine Kd.C_drewN ?_ _) | (with_reducible refine Kd.C_drew ?_))); (case side2 => exact (Kd.R_reads' HO_6.out).2.1); (case side3 => repeat (first | exact (Kd.R_reads' HO_9.out).2.2 | (with_reducible refine Kd.C_alloc ?_ _) | (with_reducible refine Kd.C_drewN ?_ _) | (with_reducible refine Kd.C_drew ?_))); (case side4 => exact (Kd.R_reads' HO_9.out).2.1); rintro e w' ⟨rfl, ⟨nd, rfl⟩⟩))
                   go_ret
                   exact ⟨by first | rfl | (simp [errW_none, errW_some] <;> rfl) | (simp [*, errW_none, errW_some] <;> rfl), by repeat (first | (with_reducible first | exact HB.out | apply below_alloc | apply pw_below_drewN | apply below_drew1 | refine below_set ?_ GE449.out) | exact HB.out)⟩
                  rw [if_neg c27] at H
                  have c27b0 : (t452 == x10_17) = false := beq_eq_false_iff_ne.mpr c27
                  have c27b1 : (t452 != x10_17) = true := bne_iff_ne.mpr c27
                  obtain rfl := Option.some.inj H
                  go_wp2_with (first | ((with_reducible refine gate_callee (f := 13) rfl ?_); refine goesL_ (some 51) rfl rfl Tryd.func13 (by kernel_rfl) rfl #[.int .i64 t453] rfl (by (try simp only [List.map_toArray, List.map_cons, List.map_nil]); first | done | rfl | (simp only [List.length_drop, List.length_take]; rfl)) ?_; (with_reducible refine (fairwaylaw4_num.calls t453 t462 _ A25.out).mono ?_); rintro e w' ⟨rfl, ⟨nd, rfl⟩⟩; refine ⟨_, rfl, ?_⟩))
                  go_ret
                  exact ⟨by first | rfl | (simp [errW_none, errW_some] <;> rfl) | (simp [*, errW_none, errW_some] <;> rfl), by repeat (first | (with_reducible first | exact HB.out | apply below_alloc | apply pw_below_drewN | apply below_drew1 | refine below_set ?_ GE449.out) | exact HB.out)⟩
                 rw [if_neg c26] at H
                 have c26b0 : (t462 == x11_17) = false := beq_eq_false_iff_ne.mpr c26
                 have c26b1 : (t462 != x11_17) = true := bne_iff_ne.mpr c26
                 obtain rfl := Option.some.inj H
                 go_wp2_with (first | ((with_reducible refine gate_callee (f := 13) rfl ?_); refine goesL_ (some 51) rfl rfl Tryd.func13 (by kernel_rfl) rfl #[.int .i64 t453] rfl (by (try simp only [List.map_toArray, List.map_cons, List.map_nil]); first | done | rfl | (simp only [List.length_drop, List.length_take]; rfl)) ?_; (with_reducible refine (fairwaylaw4_num.calls t453 t462 _ A25.out).mono ?_); rintro e w' ⟨rfl, ⟨nd, rfl⟩⟩; refine ⟨_, rfl, ?_⟩))
                 go_ret
                 exact ⟨by first | rfl | (simp [errW_none, errW_some] <;> rfl) | (simp [*, errW_none, errW_some] <;> rfl), by repeat (first | (with_reducible first | exact HB.out | apply below_alloc | apply pw_below_drewN | apply below_drew1 | refine below_set ?_ GE449.out) | exact HB.out)⟩
             rw [if_neg c15] at H
             have c15b0 : decide (x5_3 ≤ 16) = false := decide_eq_false c15
             clear c15
             have H' := Aside0.mk H
             clear H
             go_wp2
             go_roundg k3
             case measure => have := HK1.out; have := HJ1.out; have := HK3.out; omega
             case rel => exact ⟨(wrap64 (x3_1 + 1)), (by first | rfl | (simp; done) | (simp [*]; done)), H', ⟨by have := HK1.out; have := HJ1.out; have := HK3.out; omega⟩, ⟨by repeat (first | (with_reducible first | exact HB.out | apply below_alloc | apply pw_below_drewN | apply below_drew1 | refine below_set ?_ GE449.out) | exact HB.out)⟩⟩
         rw [if_neg c6] at H
         exact absurd H (by simp)
        rw [if_neg c5] at H
        exact absurd H (by simp)
       replace c4 := Bool.eq_false_iff.mpr c4
       subst c4
       have H1 : ((fairwaylaw4_wakes.f kj1).bind fun t447 => (some t447)) = some r := by rw [if_neg (show ¬ (false = true) by decide)] at H; exact H
       clear H
       have H := H1
       clear H1
       replace H := Option.bind_eq_some_iff.mp H
       obtain ⟨t447, A360, H⟩ := H
       replace H : (some t447) = some r := H
       have A36 := Aside0.mk A360
       clear A360
       obtain rfl := Option.some.inj H
       go_wp2_with (first | ((with_reducible refine gate_callee (f := 14) rfl ?_); refine goesL_ (some 67) rfl rfl Tryd.func14 (by kernel_rfl) rfl #[] rfl (by (try simp only [List.map_toArray, List.map_cons, List.map_nil]); first | done | rfl | (simp only [List.length_drop, List.length_take]; rfl)) ?_; (with_reducible refine (fairwaylaw4_wakes.calls kj1  t447 _ (by first | exact HLAID | exact HLAID.below (by repeat (first | (with_reducible first | exact HB.out | apply below_alloc | apply pw_below_drewN | apply below_drew1) | exact HB.out))) A36.out).mono ?_); rintro e w37 ⟨rfl, hb⟩; refine ⟨_, rfl, ?_⟩; have n0_ := Aside0.mk (below_step (by repeat (first | (with_reducible first | exact HB.out | apply below_alloc | apply pw_below_drewN | apply below_drew1) | exact HB.out)) hb); clear HB; have HB := n0_; clear n0_; (try clear hb); (try clear hb2); (try clear hk); (try clear hi)))
       go_ret
       exact ⟨by first | rfl | (simp [errW_none, errW_some] <;> rfl) | (simp [*, errW_none, errW_some] <;> rfl), by repeat (first | (with_reducible first | exact HB.out | apply below_alloc | apply pw_below_drewN | apply below_drew1) | exact HB.out)⟩
end Go.Proofs.YtiancopplinpcaaDoor.P
end
section
namespace Go.Proofs.YtiancopplinpcaaDoor.P
open Go.RowKit Go.Proofs.YtiancopplinpcaaDoorW.PrintWords Go.Proofs.YtiancopplinpcaaDoorW.PrintLast Go.Proofs.YtiancopplinpcaaDoorW.PrintMore
set_option linter.unusedVariables false
set_option linter.unusedSimpArgs false
noncomputable def fairwaylaw4_PropTakes.fL (l0 : List (S25)) : Option (Bool) := lim fun k => fairwaylaw4_PropTakes.f k l0
noncomputable def fairwaylaw4_PropTakes.l0L (x0 : List (S25)) (x3 : Int) : Option (Bool) := lim fun k => fairwaylaw4_PropTakes.l0 k x0 x3
noncomputable def fairwaylaw4_PropTakes.j1L (x0 : List (S25)) (x3 : Int) (x19 : Bool) : Option (Bool) := lim fun k => fairwaylaw4_PropTakes.j1 k x0 x3 x19
noncomputable def fairwaylaw4_PropTakes.l1L (x0 : List (S25)) (x3 : Int) (x5 : Int) (x450000 : Int) (x450001 : List (S42)) (x450002 : ByteArray) : Option (Bool) := lim fun k => fairwaylaw4_PropTakes.l1 k x0 x3 x5 x450000 x450001 x450002
noncomputable def fairwaylaw4_PropTakes.j3L (x0 : List (S25)) (x3 : Int) (x5 : Int) (x6 : List (S42)) (x7 : Int) (x8 : Int) (x9 : List (S42)) (x10 : Int) (x11 : Int) (x450000 : Int) (x450001 : List (S42)) (x450002 : ByteArray) : Option (Bool) := lim fun k => fairwaylaw4_PropTakes.j3 k x0 x3 x5 x6 x7 x8 x9 x10 x11 x450000 x450001 x450002
theorem fairwaylaw4_PropTakes.fL_eq (l0 : List (S25)) : fairwaylaw4_PropTakes.fL l0 = fairwaylaw4_PropTakes.l0L l0 0 := by
  show lim (fun k => fairwaylaw4_PropTakes.f k l0) = _
  show lim (fun k => fairwaylaw4_PropTakes.l0 k l0 0) = _
  repeat' (first | exact lim_const _ | (with_reducible refine lim_ite' ?_ ?_) | ((with_reducible refine lim_bind' ?hm ?hx (fun _ => ?_)); (case hm => exact (fun k => by first | exact LeO.refl _)); (case hx => first | exact lim_const _ | rfl)) | rfl)
theorem fairwaylaw4_PropTakes.l0L_eq (x0 : List (S25)) (x3 : Int) : fairwaylaw4_PropTakes.l0L x0 x3 = if x3 < (x0.length : Int) then (fairwaylaw4_PropTakes.j1L x0 x3 (decide (x3 < 10))) else (fairwaylaw4_PropTakes.j1L x0 x3 false) := by
  show lim (fun k => fairwaylaw4_PropTakes.l0 k x0 x3) = _
  rw [lim_step (f := fun k => if x3 < (x0.length : Int) then (fairwaylaw4_PropTakes.j1 k x0 x3 (decide (x3 < 10))) else (fairwaylaw4_PropTakes.j1 k x0 x3 false)) (fun k => by first | rfl | simp only [fairwaylaw4_PropTakes.l0])]
  repeat' (first | exact lim_const _ | (with_reducible refine lim_ite' ?_ ?_) | ((with_reducible refine lim_bind' ?hm ?hx (fun _ => ?_)); (case hm => exact (fun k => by first | exact LeO.refl _)); (case hx => first | exact lim_const _ | rfl)) | rfl)
theorem fairwaylaw4_PropTakes.j1L_eq (x0 : List (S25)) (x3 : Int) (x19 : Bool) : fairwaylaw4_PropTakes.j1L x0 x3 x19 = if x19 = true then (if 0 ≤ x3 then (if x3 < (x0.length : Int) then ((fairwaylaw4_heavy.fL ((rd_T25 x0 x3).f0) ((rd_T25 x0 x3).f1) ((rd_T25 x0 x3).f2)).bind fun t450 => (if t450 = true then (some true) else (fairwaylaw4_PropTakes.l1L x0 x3 (-1) ((rd_T25 x0 x3).f0) ((rd_T25 x0 x3).f1) ((rd_T25 x0 x3).f2)))) else (none)) else (none)) else ((fairwaylaw4_wakes.fL).bind fun t447 => (some t447)) := by
  show lim (fun k => fairwaylaw4_PropTakes.j1 k x0 x3 x19) = _
  rw [lim_step (f := fun k => if x19 = true then (if 0 ≤ x3 then (if x3 < (x0.length : Int) then ((fairwaylaw4_heavy.f k ((rd_T25 x0 x3).f0) ((rd_T25 x0 x3).f1) ((rd_T25 x0 x3).f2)).bind fun t450 => (if t450 = true then (some true) else (fairwaylaw4_PropTakes.l1 k x0 x3 (-1) ((rd_T25 x0 x3).f0) ((rd_T25 x0 x3).f1) ((rd_T25 x0 x3).f2)))) else (none)) else (none)) else ((fairwaylaw4_wakes.f k).bind fun t447 => (some t447))) (fun k => by first | rfl | simp only [fairwaylaw4_PropTakes.j1])]
  repeat' (first | exact lim_const _ | (with_reducible refine lim_ite' ?_ ?_) | ((with_reducible refine lim_bind' ?hm ?hx (fun _ => ?_)); (case hm => exact (fun k => by first | exact LeO.refl _ | apply fairwaylaw4_heavy.mono | apply fairwaylaw4_wakes.mono)); (case hx => first | exact lim_const _ | rfl)) | rfl)
theorem fairwaylaw4_PropTakes.l1L_eq (x0 : List (S25)) (x3 : Int) (x5 : Int) (x450000 : Int) (x450001 : List (S42)) (x450002 : ByteArray) : fairwaylaw4_PropTakes.l1L x0 x3 x5 x450000 x450001 x450002 = if x5 ≤ 16 then ((prop_Take.fL x5 x450002).bind fun bt451 => ((fairwayref4_Place.f x5).bind fun t456 => (if t456 = true then ((fairwayref4_TakeProps.fL x5 x450002).bind fun bt457 => (fairwaylaw4_PropTakes.j3L x0 x3 x5 bt451.1 bt451.2.1 bt451.2.2 bt457.1 bt457.2.1 bt457.2.2 x450000 x450001 x450002)) else (fairwaylaw4_PropTakes.j3L x0 x3 x5 bt451.1 bt451.2.1 bt451.2.2 ([] : List (S42)) 0 1 x450000 x450001 x450002)))) else (fairwaylaw4_PropTakes.l0L x0 (wrap64 (x3 + 1))) := by
  show lim (fun k => fairwaylaw4_PropTakes.l1 k x0 x3 x5 x450000 x450001 x450002) = _
  rw [lim_step (f := fun k => if x5 ≤ 16 then ((prop_Take.f k x5 x450002).bind fun bt451 => ((fairwayref4_Place.f x5).bind fun t456 => (if t456 = true then ((fairwayref4_TakeProps.f k x5 x450002).bind fun bt457 => (fairwaylaw4_PropTakes.j3 k x0 x3 x5 bt451.1 bt451.2.1 bt451.2.2 bt457.1 bt457.2.1 bt457.2.2 x450000 x450001 x450002)) else (fairwaylaw4_PropTakes.j3 k x0 x3 x5 bt451.1 bt451.2.1 bt451.2.2 ([] : List (S42)) 0 1 x450000 x450001 x450002)))) else (fairwaylaw4_PropTakes.l0 k x0 (wrap64 (x3 + 1)))) (fun k => by first | rfl | simp only [fairwaylaw4_PropTakes.l1])]
  repeat' (first | exact lim_const _ | (with_reducible refine lim_ite' ?_ ?_) | ((with_reducible refine lim_bind' ?hm ?hx (fun _ => ?_)); (case hm => exact (fun k => by first | exact LeO.refl _ | apply fairwayref4_TakeProps.mono | apply prop_Take.mono)); (case hx => first | exact lim_const _ | rfl)) | rfl)
theorem fairwaylaw4_PropTakes.j3L_eq (x0 : List (S25)) (x3 : Int) (x5 : Int) (x6 : List (S42)) (x7 : Int) (x8 : Int) (x9 : List (S42)) (x10 : Int) (x11 : Int) (x450000 : Int) (x450001 : List (S42)) (x450002 : ByteArray) : fairwaylaw4_PropTakes.j3L x0 x3 x5 x6 x7 x8 x9 x10 x11 x450000 x450001 x450002 = (fairwaylaw4_num.f x8).bind fun t462 => (if t462 = x11 then (if x7 = x10 then ((fairwayref0_EqProps.fL x6 x9).bind fun t463 => (if t463 = true then ((fairwaylaw0_Props.fL x6).bind fun _ => (fairwaylaw4_PropTakes.l1L x0 x3 (wrap64 (x5 + 1)) x450000 x450001 x450002)) else (some false))) else (some false)) else (some false)) := by
  show lim (fun k => fairwaylaw4_PropTakes.j3 k x0 x3 x5 x6 x7 x8 x9 x10 x11 x450000 x450001 x450002) = _
  rw [lim_step (f := fun k => (fairwaylaw4_num.f x8).bind fun t462 => (if t462 = x11 then (if x7 = x10 then ((fairwayref0_EqProps.f k x6 x9).bind fun t463 => (if t463 = true then ((fairwaylaw0_Props.f k x6).bind fun _ => (fairwaylaw4_PropTakes.l1 k x0 x3 (wrap64 (x5 + 1)) x450000 x450001 x450002)) else (some false))) else (some false)) else (some false))) (fun k => by first | rfl | simp only [fairwaylaw4_PropTakes.j3])]
  repeat' (first | exact lim_const _ | (with_reducible refine lim_ite' ?_ ?_) | ((with_reducible refine lim_bind' ?hm ?hx (fun _ => ?_)); (case hm => exact (fun k => by first | exact LeO.refl _ | apply fairwaylaw0_Props.mono | apply fairwayref0_EqProps.mono)); (case hx => first | exact lim_const _ | rfl)) | rfl)
end Go.Proofs.YtiancopplinpcaaDoor.P
end
