-- PRINTED by print.py (a twelfth state) out of the translation. Not trusted: Lean checks it.
import Derived.Test.YtajbopckmjjcfaaPx0
import Derived.Test.YtajbopckmjjcfaaPx1
import Derived.Test.YtajbopckmjjcfaaPx3
import Derived.Test.YtajbopckmjjcfaaPx4
namespace Go.Proofs.Ytajbopckmjjcfaa.P
open Go.RowKit Go.Proofs.YtajbopckmjjcfaaW.PrintWords Go.Proofs.YtajbopckmjjcfaaW.PrintLast Go.Proofs.YtajbopckmjjcfaaW.PrintMore
attribute [local go_sem] max2_int min2_int max_two min_two max_three min_three max_four min_four   -- for this text's walks alone
set_option linter.unusedVariables false
set_option linter.unusedSimpArgs false

/-! ### fairwaylaw2_VbiTakes: function 5 -/
mutual
def fairwaylaw2_VbiTakes.l0 : Nat → List (S24) → Int → Option (Bool)
  | 0, _, _ => none
  | k + 1, x0, x3 => if x3 < (x0.length : Int) then (fairwaylaw2_VbiTakes.j1 k x0 x3 (decide (x3 < 15))) else (fairwaylaw2_VbiTakes.j1 k x0 x3 false)
def fairwaylaw2_VbiTakes.j1 : Nat → List (S24) → Int → Bool → Option (Bool)
  | 0, _, _, _ => none
  | k + 1, x0, x3, x18 => if x18 = true then (if 0 ≤ x3 then (if x3 < (x0.length : Int) then ((fairwaylaw2_heavy.f ((rd_T24 x0 x3).f0) ((rd_T24 x0 x3).f1) ((rd_T24 x0 x3).f2)).bind fun t183 => (if t183 = true then (some true) else ((vbi_TakeNum.f k ((rd_T24 x0 x3).f2)).bind fun bt185 => ((fairwayref1_TakeNum.f k ((rd_T24 x0 x3).f2)).bind fun bt189 => (if bt185.1 = bt189.1 then (if bt185.2.1 = bt189.2.1 then ((fairwaylaw2_num.f bt185.2.2).bind fun t192 => (fairwaylaw2_VbiTakes.j2 k x0 x3 (t192 != bt189.2.2))) else (fairwaylaw2_VbiTakes.j2 k x0 x3 true)) else (fairwaylaw2_VbiTakes.j2 k x0 x3 true)))))) else (none)) else (none)) else ((fairwaylaw2_wakes.f k).bind fun t181 => (some t181))
def fairwaylaw2_VbiTakes.j2 : Nat → List (S24) → Int → Bool → Option (Bool)
  | 0, _, _, _ => none
  | k + 1, x0, x3, x59 => if x59 = true then (some false) else (if 0 ≤ x3 then (if x3 < (x0.length : Int) then ((vbi_TakeTwo.f k ((rd_T24 x0 x3).f2)).bind fun bt194 => ((fairwayref1_TakeFixed.f k ((rd_T24 x0 x3).f2) 2).bind fun bt197 => (if bt194.1 = bt197.1 then ((fairwaylaw2_num.f bt194.2).bind fun t199 => (if (bt197.2 != (t199 == 0)) = true then (fairwaylaw2_VbiTakes.j3 k x0 x3 true) else (if bt197.2 = true then (fairwaylaw2_VbiTakes.j3 k x0 x3 false) else ((fairwaylaw2_num.f bt194.2).bind fun t200 => (fairwaylaw2_VbiTakes.j3 k x0 x3 (t200 != 7)))))) else (fairwaylaw2_VbiTakes.j3 k x0 x3 true)))) else (none)) else (none))
def fairwaylaw2_VbiTakes.j3 : Nat → List (S24) → Int → Bool → Option (Bool)
  | 0, _, _, _ => none
  | k + 1, x0, x3, x96 => if x96 = true then (some false) else (if 0 ≤ x3 then (if x3 < (x0.length : Int) then ((vbi_TakeFour.f k ((rd_T24 x0 x3).f2)).bind fun bt202 => ((fairwayref1_TakeFixed.f k ((rd_T24 x0 x3).f2) 4).bind fun bt205 => (if bt202.1 = bt205.1 then ((fairwaylaw2_num.f bt202.2).bind fun t207 => (if (bt205.2 != (t207 == 0)) = true then (some false) else (if bt205.2 = true then (fairwaylaw2_VbiTakes.l0 k x0 (wrap64 (x3 + 1))) else ((fairwaylaw2_num.f bt202.2).bind fun t208 => (if t208 = 7 then (fairwaylaw2_VbiTakes.l0 k x0 (wrap64 (x3 + 1))) else (some false)))))) else (some false)))) else (none)) else (none))
end
def fairwaylaw2_VbiTakes.f (k : Nat) (l0 : List (S24)) : Option (Bool) := fairwaylaw2_VbiTakes.l0 k l0 0
theorem fairwaylaw2_VbiTakes.mono_l : ∀ k, (∀ y0 y1, LeO (fairwaylaw2_VbiTakes.l0 k y0 y1) (fairwaylaw2_VbiTakes.l0 (k + 1) y0 y1)) ∧ (∀ y0 y1 y2, LeO (fairwaylaw2_VbiTakes.j1 k y0 y1 y2) (fairwaylaw2_VbiTakes.j1 (k + 1) y0 y1 y2)) ∧ (∀ y0 y1 y2, LeO (fairwaylaw2_VbiTakes.j2 k y0 y1 y2) (fairwaylaw2_VbiTakes.j2 (k + 1) y0 y1 y2)) ∧ (∀ y0 y1 y2, LeO (fairwaylaw2_VbiTakes.j3 k y0 y1 y2) (fairwaylaw2_VbiTakes.j3 (k + 1) y0 y1 y2))
 | 0 => ⟨fun _ _ r h => by simp [fairwaylaw2_VbiTakes.l0] at h, fun _ _ _ r h => by simp [fairwaylaw2_VbiTakes.j1] at h, fun _ _ _ r h => by simp [fairwaylaw2_VbiTakes.j2] at h, fun _ _ _ r h => by simp [fairwaylaw2_VbiTakes.j3] at h⟩
 | k + 1 => by
  obtain ⟨ih0, ih1, ih2, ih3⟩ := fairwaylaw2_VbiTakes.mono_l k
  refine ⟨?_, ?_, ?_, ?_⟩
  ·
   intro y0 y1
   unfold fairwaylaw2_VbiTakes.l0
   repeat' first
   | (with_reducible exact ih0 _ _)
   | (with_reducible exact ih1 _ _ _)
   | (with_reducible exact ih2 _ _ _)
   | (with_reducible exact ih3 _ _ _)
   | (with_reducible exact fairwaylaw2_wakes.mono _)
   | (with_reducible exact fairwayref1_TakeFixed.mono _ _ _)
   | (with_reducible exact fairwayref1_TakeNum.mono _ _)
   | (with_reducible exact vbi_TakeFour.mono _ _)
   | (with_reducible exact vbi_TakeNum.mono _ _)
   | (with_reducible exact vbi_TakeTwo.mono _ _)
   | (with_reducible exact LeO.refl _)
   | (with_reducible exact LeO.none _)
   | (with_reducible refine LeO.ite ?_ ?_)
   | (with_reducible refine LeO.bind ?_ (fun _ => ?_))
   | exact ih0 _ _
   | exact ih1 _ _ _
   | exact ih2 _ _ _
   | exact ih3 _ _ _
   | exact fairwaylaw2_wakes.mono _
   | exact fairwayref1_TakeFixed.mono _ _ _
   | exact fairwayref1_TakeNum.mono _ _
   | exact vbi_TakeFour.mono _ _
   | exact vbi_TakeNum.mono _ _
   | exact vbi_TakeTwo.mono _ _
   | exact LeO.none _
   | refine LeO.ite ?_ ?_
   | refine LeO.bind ?_ (fun _ => ?_)
  ·
   intro y0 y1 y2
   unfold fairwaylaw2_VbiTakes.j1
   repeat' first
   | (with_reducible exact ih0 _ _)
   | (with_reducible exact ih1 _ _ _)
   | (with_reducible exact ih2 _ _ _)
   | (with_reducible exact ih3 _ _ _)
   | (with_reducible exact fairwaylaw2_wakes.mono _)
   | (with_reducible exact fairwayref1_TakeFixed.mono _ _ _)
   | (with_reducible exact fairwayref1_TakeNum.mono _ _)
   | (with_reducible exact vbi_TakeFour.mono _ _)
   | (with_reducible exact vbi_TakeNum.mono _ _)
   | (with_reducible exact vbi_TakeTwo.mono _ _)
   | (with_reducible exact LeO.refl _)
   | (with_reducible exact LeO.none _)
   | (with_reducible refine LeO.ite ?_ ?_)
   | (with_reducible refine LeO.bind ?_ (fun _ => ?_))
   | exact ih0 _ _
   | exact ih1 _ _ _
   | exact ih2 _ _ _
   | exact ih3 _ _ _
   | exact fairwaylaw2_wakes.mono _
   | exact fairwayref1_TakeFixed.mono _ _ _
   | exact fairwayref1_TakeNum.mono _ _
   | exact vbi_TakeFour.mono _ _
   | exact vbi_TakeNum.mono _ _
   | exact vbi_TakeTwo.mono _ _
   | exact LeO.none _
   | refine LeO.ite ?_ ?_
   | refine LeO.bind ?_ (fun _ => ?_)
  ·
   intro y0 y1 y2
   unfold fairwaylaw2_VbiTakes.j2
   repeat' first
   | (with_reducible exact ih0 _ _)
   | (with_reducible exact ih1 _ _ _)
   | (with_reducible exact ih2 _ _ _)
   | (with_reducible exact ih3 _ _ _)
   | (with_reducible exact fairwaylaw2_wakes.mono _)
   | (with_reducible exact fairwayref1_TakeFixed.mono _ _ _)
   | (with_reducible exact fairwayref1_TakeNum.mono _ _)
   | (with_reducible exact vbi_TakeFour.mono _ _)
   | (with_reducible exact vbi_TakeNum.mono _ _)
   | (with_reducible exact vbi_TakeTwo.mono _ _)
   | (with_reducible exact LeO.refl _)
   | (with_reducible exact LeO.none _)
   | (with_reducible refine LeO.ite ?_ ?_)
   | (with_reducible refine LeO.bind ?_ (fun _ => ?_))
   | exact ih0 _ _
   | exact ih1 _ _ _
   | exact ih2 _ _ _
   | exact ih3 _ _ _
   | exact fairwaylaw2_wakes.mono _
   | exact fairwayref1_TakeFixed.mono _ _ _
   | exact fairwayref1_TakeNum.mono _ _
   | exact vbi_TakeFour.mono _ _
   | exact vbi_TakeNum.mono _ _
   | exact vbi_TakeTwo.mono _ _
   | exact LeO.none _
   | refine LeO.ite ?_ ?_
   | refine LeO.bind ?_ (fun _ => ?_)
  ·
   intro y0 y1 y2
   unfold fairwaylaw2_VbiTakes.j3
   repeat' first
   | (with_reducible exact ih0 _ _)
   | (with_reducible exact ih1 _ _ _)
   | (with_reducible exact ih2 _ _ _)
   | (with_reducible exact ih3 _ _ _)
   | (with_reducible exact fairwaylaw2_wakes.mono _)
   | (with_reducible exact fairwayref1_TakeFixed.mono _ _ _)
   | (with_reducible exact fairwayref1_TakeNum.mono _ _)
   | (with_reducible exact vbi_TakeFour.mono _ _)
   | (with_reducible exact vbi_TakeNum.mono _ _)
   | (with_reducible exact vbi_TakeTwo.mono _ _)
   | (with_reducible exact LeO.refl _)
   | (with_reducible exact LeO.none _)
   | (with_reducible refine LeO.ite ?_ ?_)
   | (with_reducible refine LeO.bind ?_ (fun _ => ?_))
   | exact ih0 _ _
   | exact ih1 _ _ _
   | exact ih2 _ _ _
   | exact ih3 _ _ _
   | exact fairwaylaw2_wakes.mono _
   | exact fairwayref1_TakeFixed.mono _ _ _
   | exact fairwayref1_TakeNum.mono _ _
   | exact vbi_TakeFour.mono _ _
   | exact vbi_TakeNum.mono _ _
   | exact vbi_TakeTwo.mono _ _
   | exact LeO.none _
   | refine LeO.ite ?_ ?_
   | refine LeO.bind ?_ (fun _ => ?_)
theorem fairwaylaw2_VbiTakes.mono : ∀ a0 k, LeO (fairwaylaw2_VbiTakes.f k a0) (fairwaylaw2_VbiTakes.f (k + 1) a0) := by
 intro a0 k
 obtain ⟨ih0, ih1, ih2, ih3⟩ := fairwaylaw2_VbiTakes.mono_l k
 unfold fairwaylaw2_VbiTakes.f
 repeat' first
   | (with_reducible exact ih0 _ _)
   | (with_reducible exact ih1 _ _ _)
   | (with_reducible exact ih2 _ _ _)
   | (with_reducible exact ih3 _ _ _)
   | (with_reducible exact fairwaylaw2_wakes.mono _)
   | (with_reducible exact fairwayref1_TakeFixed.mono _ _ _)
   | (with_reducible exact fairwayref1_TakeNum.mono _ _)
   | (with_reducible exact vbi_TakeFour.mono _ _)
   | (with_reducible exact vbi_TakeNum.mono _ _)
   | (with_reducible exact vbi_TakeTwo.mono _ _)
   | (with_reducible exact LeO.refl _)
   | (with_reducible exact LeO.none _)
   | (with_reducible refine LeO.ite ?_ ?_)
   | (with_reducible refine LeO.bind ?_ (fun _ => ?_))
   | exact ih0 _ _
   | exact ih1 _ _ _
   | exact ih2 _ _ _
   | exact ih3 _ _ _
   | exact fairwaylaw2_wakes.mono _
   | exact fairwayref1_TakeFixed.mono _ _ _
   | exact fairwayref1_TakeNum.mono _ _
   | exact vbi_TakeFour.mono _ _
   | exact vbi_TakeNum.mono _ _
   | exact vbi_TakeTwo.mono _ _
   | exact LeO.none _
   | refine LeO.ite ?_ ?_
   | refine LeO.bind ?_ (fun _ => ?_)
set_option maxHeartbeats 8000000 in
set_option maxRecDepth 100000 in
theorem fairwaylaw2_VbiTakes.calls (k : Nat) (A0 : Option Addr) (c0 : Nat) (l0 : List (S24)) (r : Bool) (w : World) (hr0 : Kd.C k24 w A0 l0.length l0) (hc0 : l0.length ≤ c0) (h : fairwaylaw2_VbiTakes.f k l0 = some r) :
  Calls Try.prog 5 #[.slice A0 l0.length c0] w fun e w' => e = .returned (.bool r) ∧ Below w.heap.size w w' := by
 have hu24 := Try.underlying24
 have HR0 := Aside0.mk hr0
 have HC0 := Aside0.mk hc0
 clear hr0 hc0
 have HB := Aside0.mk (Below.refl w.heap.size w)
 have H : (fairwaylaw2_VbiTakes.l0 k l0 0) = some r := h
 clear h
 have H' := Aside0.mk H
 clear H
 go_enter Try.func5, Try.ntmps5
 go_wp2
 go_loopg [3] k (fun kq v3 w' => ∃ (x3_1 : Int), v3 = .int .i64 x3_1 ∧ Aside0 (fairwaylaw2_VbiTakes.l0 kq l0 x3_1 = some r) ∧ Aside0 (kq ≤ k) ∧ Aside0 (Below w.heap.size w w'))
 case atStart => exact ⟨(0), (by first | rfl | (simp; done) | (simp [*]; done)), H', ⟨Nat.le_refl _⟩, ⟨by repeat (first | (with_reducible first | exact HB.out | apply below_alloc | apply pw_below_drewN | apply below_drew1) | exact HB.out)⟩⟩
 case round =>
  as_aux_lemma =>
   clear H'
   obtain ⟨x3_1, rfl, HA, HK1, HB⟩ := hrel
   cases gk with
   | zero => exact absurd HA.out (by simp [fairwaylaw2_VbiTakes.l0])
   | succ k1 =>
    have H := HA.out
    clear HA
    simp only [fairwaylaw2_VbiTakes.l0] at H
    have HC2 := Aside0.mk H
    clear H
    go_upto_region 2 with (fail)
    go_cut [18] (fun v18 wc => ∃ (kq : Nat) (x18_1 : Bool), v18 = .bool x18_1 ∧ Aside0 (fairwaylaw2_VbiTakes.j1 kq l0 x3_1 x18_1 = some r) ∧ Aside0 (kq ≤ k1) ∧ Aside0 (Below w.heap.size w wc))
    case first =>
     have H := HC2.out
     clear HC2
     by_cases c3 : x3_1 < (l0.length : Int)
     ·
      rw [if_pos c3] at H
      have c3b0 : decide (x3_1 < (l0.length : Int)) = true := decide_eq_true c3
      clear c3
      (first | rw [c3b0] | (simp only [i64_w, i32_w]; rw [c3b0]) | skip)
      have H' := Aside0.mk H
      clear H
      go_wp2
      go_meet
      case rel => exact ⟨_, (decide (x3_1 < 15)), (by first | rfl | (simp; done) | (simp [*]; done)), H', ⟨by have := HK1.out; first | omega | exact Nat.le_refl _⟩, ⟨by repeat (first | (with_reducible first | exact HB.out | apply below_alloc | apply pw_below_drewN | apply below_drew1) | exact HB.out)⟩⟩
     rw [if_neg c3] at H
     have c3b0 : decide (x3_1 < (l0.length : Int)) = false := decide_eq_false c3
     clear c3
     (first | rw [c3b0] | (simp only [i64_w, i32_w]; rw [c3b0]) | skip)
     have H' := Aside0.mk H
     clear H
     go_wp2
     go_meet
     case rel => exact ⟨_, (false), (by first | rfl | (simp; done) | (simp [*]; done)), H', ⟨by have := HK1.out; first | omega | exact Nat.le_refl _⟩, ⟨by repeat (first | (with_reducible first | exact HB.out | apply below_alloc | apply pw_below_drewN | apply below_drew1) | exact HB.out)⟩⟩
    case rest =>
     as_aux_lemma =>
      clear HC2
      try clear p2
      try clear c3
      try clear c3b0
      obtain ⟨kq, x18_1, rfl, HA, HJ1, HB⟩ := hcut
      cases kq with
      | zero => exact absurd HA.out (by simp [fairwaylaw2_VbiTakes.j1])
      | succ kj1 =>
       have H := HA.out
       clear HA
       simp only [fairwaylaw2_VbiTakes.j1] at H
       by_cases c4 : x18_1 = true
       ·
        subst c4
        have H1 : (if 0 ≤ x3_1 then (if x3_1 < (l0.length : Int) then ((fairwaylaw2_heavy.f ((rd_T24 l0 x3_1).f0) ((rd_T24 l0 x3_1).f1) ((rd_T24 l0 x3_1).f2)).bind fun t183 => (if t183 = true then (some true) else ((vbi_TakeNum.f kj1 ((rd_T24 l0 x3_1).f2)).bind fun bt185 => ((fairwayref1_TakeNum.f kj1 ((rd_T24 l0 x3_1).f2)).bind fun bt189 => (if bt185.1 = bt189.1 then (if bt185.2.1 = bt189.2.1 then ((fairwaylaw2_num.f bt185.2.2).bind fun t192 => (fairwaylaw2_VbiTakes.j2 kj1 l0 x3_1 (t192 != bt189.2.2))) else (fairwaylaw2_VbiTakes.j2 kj1 l0 x3_1 true)) else (fairwaylaw2_VbiTakes.j2 kj1 l0 x3_1 true)))))) else (none)) else (none)) = some r := by rw [if_pos rfl] at H; exact H
        clear H
        have H := H1
        clear H1
        by_cases c5 : 0 ≤ x3_1
        ·
         rw [if_pos c5] at H
         have c5b0 : decide (0 ≤ x3_1) = true := decide_eq_true c5
         clear c5
         by_cases c6 : x3_1 < (l0.length : Int)
         ·
          rw [if_pos c6] at H
          have c6b0 : decide (x3_1 < (l0.length : Int)) = true := decide_eq_true c6
          clear c6
          replace H := Option.bind_eq_some_iff.mp H
          obtain ⟨t183, A70, H⟩ := H
          replace H : (if t183 = true then (some true) else ((vbi_TakeNum.f kj1 ((rd_T24 l0 x3_1).f2)).bind fun bt185 => ((fairwayref1_TakeNum.f kj1 ((rd_T24 l0 x3_1).f2)).bind fun bt189 => (if bt185.1 = bt189.1 then (if bt185.2.1 = bt189.2.1 then ((fairwaylaw2_num.f bt185.2.2).bind fun t192 => (fairwaylaw2_VbiTakes.j2 kj1 l0 x3_1 (t192 != bt189.2.2))) else (fairwaylaw2_VbiTakes.j2 kj1 l0 x3_1 true)) else (fairwaylaw2_VbiTakes.j2 kj1 l0 x3_1 true))))) = some r := H
          have A7 := Aside0.mk A70
          clear A70
          by_cases c8 : t183 = true
          ·
           subst c8
           have H1 : (some true) = some r := by rw [if_pos rfl] at H; exact H
           clear H
           have H := H1
           clear H1
           obtain rfl := Option.some.inj H
           have p182 : 0 ≤ (x3_1 : Int) := of_decide_eq_true (by first | (with_reducible assumption) | assumption)
           have q182 : x3_1 < (l0.length : Int) := of_decide_eq_true (by first | (with_reducible assumption) | assumption)
           obtain ⟨ad182, e182, hx182_0, hx182_1, hx182_2⟩ := at_T24 HR0.out x3_1 p182 q182
           cases e182
           replace hx182_0 := (HB.out.cell (World.block_lt_of_cell? w _ hx182_0)).trans hx182_0
           replace hx182_1 := (HB.out.cell (World.block_lt_of_cell? w _ hx182_1)).trans hx182_1
           replace hx182_2 := (HB.out.cell (World.block_lt_of_cell? w _ hx182_2)).trans hx182_2
           replace p182 := eq_true p182
           replace q182 := eq_true q182
           go_wp2_with (first | ((with_reducible refine gate_callee (f := 16) rfl ?_); refine goesL_ (some 25) rfl rfl Try.func16 (by kernel_rfl) rfl #[.agg #[.int .i64 ((rd_T24 l0 x3_1).f0), .string ((rd_T24 l0 x3_1).f1), .string ((rd_T24 l0 x3_1).f2)]] rfl (by (try simp only [List.map_toArray, List.map_cons, List.map_nil]); first | done | rfl | (simp only [List.length_drop, List.length_take]; rfl)) ?_; (with_reducible refine (fairwaylaw2_heavy.calls ((rd_T24 l0 x3_1).f0) ((rd_T24 l0 x3_1).f1) ((rd_T24 l0 x3_1).f2) true _ A7.out).mono ?_); rintro e w9 ⟨rfl, hb⟩; refine ⟨_, rfl, ?_⟩; have n0_ := Aside0.mk (below_step (by repeat (first | (with_reducible first | exact HB.out | apply below_alloc | apply pw_below_drewN | apply below_drew1) | exact HB.out)) hb); clear HB; have HB := n0_; clear n0_; (try clear hb); (try clear hb2); (try clear hk); (try clear hi)))
           go_ret
           exact ⟨by first | rfl | (simp [errW_none, errW_some] <;> rfl) | (simp [*, errW_none, errW_some] <;> rfl), by repeat (first | (with_reducible first | exact HB.out | apply below_alloc | apply pw_below_drewN | apply below_drew1) | exact HB.out)⟩
          replace c8 := Bool.eq_false_iff.mpr c8
          subst c8
          have H1 : ((vbi_TakeNum.f kj1 ((rd_T24 l0 x3_1).f2)).bind fun bt185 => ((fairwayref1_TakeNum.f kj1 ((rd_T24 l0 x3_1).f2)).bind fun bt189 => (if bt185.1 = bt189.1 then (if bt185.2.1 = bt189.2.1 then ((fairwaylaw2_num.f bt185.2.2).bind fun t192 => (fairwaylaw2_VbiTakes.j2 kj1 l0 x3_1 (t192 != bt189.2.2))) else (fairwaylaw2_VbiTakes.j2 kj1 l0 x3_1 true)) else (fairwaylaw2_VbiTakes.j2 kj1 l0 x3_1 true)))) = some r := by rw [if_neg (show ¬ (false = true) by decide)] at H; exact H
          clear H
          have H := H1
          clear H1
          replace H := Option.bind_eq_some_iff.mp H
          obtain ⟨⟨t185, t186, t187⟩, A100, H⟩ := H
          replace H : ((fairwayref1_TakeNum.f kj1 ((rd_T24 l0 x3_1).f2)).bind fun bt189 => (if t185 = bt189.1 then (if t186 = bt189.2.1 then ((fairwaylaw2_num.f t187).bind fun t192 => (fairwaylaw2_VbiTakes.j2 kj1 l0 x3_1 (t192 != bt189.2.2))) else (fairwaylaw2_VbiTakes.j2 kj1 l0 x3_1 true)) else (fairwaylaw2_VbiTakes.j2 kj1 l0 x3_1 true))) = some r := H
          have A10 := Aside0.mk A100
          clear A100
          replace H := Option.bind_eq_some_iff.mp H
          obtain ⟨⟨t189, t190, t191⟩, A110, H⟩ := H
          replace H : (if t185 = t189 then (if t186 = t190 then ((fairwaylaw2_num.f t187).bind fun t192 => (fairwaylaw2_VbiTakes.j2 kj1 l0 x3_1 (t192 != t191))) else (fairwaylaw2_VbiTakes.j2 kj1 l0 x3_1 true)) else (fairwaylaw2_VbiTakes.j2 kj1 l0 x3_1 true)) = some r := H
          have A11 := Aside0.mk A110
          clear A110
          have HC12 := Aside0.mk H
          clear H
          have p182 : 0 ≤ (x3_1 : Int) := of_decide_eq_true (by first | (with_reducible assumption) | assumption)
          have q182 : x3_1 < (l0.length : Int) := of_decide_eq_true (by first | (with_reducible assumption) | assumption)
          obtain ⟨ad182, e182, hx182_0, hx182_1, hx182_2⟩ := at_T24 HR0.out x3_1 p182 q182
          cases e182
          replace hx182_0 := (HB.out.cell (World.block_lt_of_cell? w _ hx182_0)).trans hx182_0
          replace hx182_1 := (HB.out.cell (World.block_lt_of_cell? w _ hx182_1)).trans hx182_1
          replace hx182_2 := (HB.out.cell (World.block_lt_of_cell? w _ hx182_2)).trans hx182_2
          replace p182 := eq_true p182
          replace q182 := eq_true q182
          go_upto_region 8 with (first | ((with_reducible refine gate_callee (f := 16) rfl ?_); refine goesL_ (some 25) rfl rfl Try.func16 (by kernel_rfl) rfl #[.agg #[.int .i64 ((rd_T24 l0 x3_1).f0), .string ((rd_T24 l0 x3_1).f1), .string ((rd_T24 l0 x3_1).f2)]] rfl (by (try simp only [List.map_toArray, List.map_cons, List.map_nil]); first | done | rfl | (simp only [List.length_drop, List.length_take]; rfl)) ?_; (with_reducible refine (fairwaylaw2_heavy.calls ((rd_T24 l0 x3_1).f0) ((rd_T24 l0 x3_1).f1) ((rd_T24 l0 x3_1).f2) false _ A7.out).mono ?_); rintro e w13 ⟨rfl, hb⟩; refine ⟨_, rfl, ?_⟩; have n0_ := Aside0.mk (below_step (by repeat (first | (with_reducible first | exact HB.out | apply below_alloc | apply pw_below_drewN | apply below_drew1) | exact HB.out)) hb); clear HB; have HB := n0_; clear n0_; (try clear hb); (try clear hb2); (try clear hk); (try clear hi); have p184 : 0 ≤ (x3_1 : Int) := of_decide_eq_true (by first | (with_reducible assumption) | assumption); have q184 : x3_1 < (l0.length : Int) := of_decide_eq_true (by first | (with_reducible assumption) | assumption); obtain ⟨ad184, e184, hx184_0, hx184_1, hx184_2⟩ := at_T24 HR0.out x3_1 p184 q184; obtain rfl : ad182 = ad184 := (by injection e184); replace hx184_0 := (HB.out.cell (World.block_lt_of_cell? w _ hx184_0)).trans hx184_0; replace hx184_1 := (HB.out.cell (World.block_lt_of_cell? w _ hx184_1)).trans hx184_1; replace hx184_2 := (HB.out.cell (World.block_lt_of_cell? w _ hx184_2)).trans hx184_2; replace p184 := eq_true p184; replace q184 := eq_true q184) | ((with_reducible refine gate_callee (f := 15) rfl ?_); refine goesL_ (some 32) rfl rfl Try.func15 (by kernel_rfl) rfl #[.string ((rd_T24 l0 x3_1).f2)] rfl (by (try simp only [List.map_toArray, List.map_cons, List.map_nil]); first | done | rfl | (simp only [List.length_drop, List.length_take]; rfl)) ?_; (with_reducible refine (vbi_TakeNum.calls kj1 ((rd_T24 l0 x3_1).f2) t185 t186 t187 _ A10.out).mono ?_); rintro e w' ⟨rfl, ⟨nd, rfl⟩⟩; refine ⟨_, rfl, ?_⟩; have p188 : 0 ≤ (x3_1 : Int) := of_decide_eq_true (by first | (with_reducible assumption) | assumption); have q188 : x3_1 < (l0.length : Int) := of_decide_eq_true (by first | (with_reducible assumption) | assumption); obtain ⟨ad188, e188, hx188_0, hx188_1, hx188_2⟩ := at_T24 HR0.out x3_1 p188 q188; obtain rfl : ad182 = ad188 := (by injection e188); replace hx188_0 := (HB.out.cell (World.block_lt_of_cell? w _ hx188_0)).trans hx188_0; replace hx188_1 := (HB.out.cell (World.block_lt_of_cell? w _ hx188_1)).trans hx188_1; replace hx188_2 := (HB.out.cell (World.block_lt_of_cell? w _ hx188_2)).trans hx188_2; replace p188 := eq_true p188; replace q188 := eq_true q188) | ((with_reducible refine gate_callee (f := 17) rfl ?_); refine goesL_ (some 42) rfl rfl Try.func17 (by kernel_rfl) rfl #[.string ((rd_T24 l0 x3_1).f2)] rfl (by (try simp only [List.map_toArray, List.map_cons, List.map_nil]); first | done | rfl | (simp only [List.length_drop, List.length_take]; rfl)) ?_; (with_reducible refine (fairwayref1_TakeNum.calls kj1 ((rd_T24 l0 x3_1).f2) t189 t190 t191 _ A11.out).mono ?_); rintro e w' ⟨rfl, ⟨nd, rfl⟩⟩; refine ⟨_, rfl, ?_⟩))
          (try simp only [Act.put, List.setIfInBounds_toArray, List.set_cons_zero, List.set_cons_succ])
          go_cut [59] (fun v59 wc => ∃ (kq : Nat) (x59_11 : Bool), v59 = .bool x59_11 ∧ Aside0 (fairwaylaw2_VbiTakes.j2 kq l0 x3_1 x59_11 = some r) ∧ Aside0 (kq ≤ kj1) ∧ Aside0 (Below w.heap.size w wc))
          case first =>
           have H := HC12.out
           clear HC12
           by_cases c14 : t185 = t189
           ·
            rw [if_pos c14] at H
            have c14b0 : (t185 == t189) = true := beq_iff_eq.mpr c14
            have c14b1 : (t185 != t189) = false := bne_eq_false_iff_eq.mpr c14
            clear c14
            (first | rw [c14b0] | (simp only [i64_w, i32_w]; rw [c14b0]) | skip)
            by_cases c15 : t186 = t190
            ·
             rw [if_pos c15] at H
             have c15b0 : (t186 == t190) = true := beq_iff_eq.mpr c15
             have c15b1 : (t186 != t190) = false := bne_eq_false_iff_eq.mpr c15
             clear c15
             replace H := Option.bind_eq_some_iff.mp H
             obtain ⟨t192, A160, H⟩ := H
             replace H : (fairwaylaw2_VbiTakes.j2 kj1 l0 x3_1 (t192 != t191)) = some r := H
             have A16 := Aside0.mk A160
             clear A160
             have H' := Aside0.mk H
             clear H
             go_wp2_with (first | (go_at_call 13; (with_reducible refine (fairwaylaw2_num.calls t187 t192 _ A16.out).mono ?_); rintro e w' ⟨rfl, ⟨nd, rfl⟩⟩))
             go_meet
             case rel => exact ⟨_, ((t192 != t191)), (by first | rfl | (simp; done) | (simp [*]; done)), H', ⟨by have := HK1.out; have := HJ1.out; first | omega | exact Nat.le_refl _⟩, ⟨by repeat (first | (with_reducible first | exact HB.out | apply below_alloc | apply pw_below_drewN | apply below_drew1) | exact HB.out)⟩⟩
            rw [if_neg c15] at H
            have c15b0 : (t186 == t190) = false := beq_eq_false_iff_ne.mpr c15
            have c15b1 : (t186 != t190) = true := bne_iff_ne.mpr c15
            have H' := Aside0.mk H
            clear H
            go_wp2
            go_meet
            case rel => exact ⟨_, (true), (by first | rfl | (simp; done) | (simp [*]; done)), H', ⟨by have := HK1.out; have := HJ1.out; first | omega | exact Nat.le_refl _⟩, ⟨by repeat (first | (with_reducible first | exact HB.out | apply below_alloc | apply pw_below_drewN | apply below_drew1) | exact HB.out)⟩⟩
           rw [if_neg c14] at H
           have c14b0 : (t185 == t189) = false := beq_eq_false_iff_ne.mpr c14
           have c14b1 : (t185 != t189) = true := bne_iff_ne.mpr c14
           (first | rw [c14b0] | (simp only [i64_w, i32_w]; rw [c14b0]) | skip)
           have H' := Aside0.mk H
           clear H
           go_wp2
           go_meet
           case rel => exact ⟨_, (true), (by first | rfl | (simp; done) | (simp [*]; done)), H', ⟨by have := HK1.out; have := HJ1.out; first | omega | exact Nat.le_refl _⟩, ⟨by repeat (first | (with_reducible first | exact HB.out | apply below_alloc | apply pw_below_drewN | apply below_drew1) | exact HB.out)⟩⟩
          case rest =>
           as_aux_lemma =>
            clear HC12
            try clear c1
            try clear p1
            try clear q1
            try clear hx1
            try clear p2
            try clear c3
            try clear c3b0
            try clear c4
            try clear c5
            try clear c5b0
            try clear c6
            try clear c6b0
            try clear c8
            try clear c14
            try clear c14b0
            try clear c14b1
            try clear c15
            try clear c15b0
            try clear c15b1
            try clear c16
            try clear hx182_0
            try clear hx182_1
            try clear hx182_2
            try clear hx184_0
            try clear hx184_1
            try clear hx184_2
            try clear hx188_0
            try clear hx188_1
            try clear hx188_2
            try clear p182
            try clear p184
            try clear p188
            try clear p2
            try clear q182
            try clear q184
            try clear q188
            obtain ⟨kq, x59_11, rfl, HA, HJ11, HB⟩ := hcut
            cases kq with
            | zero => exact absurd HA.out (by simp [fairwaylaw2_VbiTakes.j2])
            | succ kj11 =>
             have H := HA.out
             clear HA
             simp only [fairwaylaw2_VbiTakes.j2] at H
             by_cases c17 : x59_11 = true
             ·
              subst c17
              have H1 : (some false) = some r := by rw [if_pos rfl] at H; exact H
              clear H
              have H := H1
              clear H1
              obtain rfl := Option.some.inj H
              go_wp2
              go_ret
              exact ⟨by first | rfl | (simp [errW_none, errW_some] <;> rfl) | (simp [*, errW_none, errW_some] <;> rfl), by repeat (first | (with_reducible first | exact HB.out | apply below_alloc | apply pw_below_drewN | apply below_drew1) | exact HB.out)⟩
             replace c17 := Bool.eq_false_iff.mpr c17
             subst c17
             have H1 : (if 0 ≤ x3_1 then (if x3_1 < (l0.length : Int) then ((vbi_TakeTwo.f kj11 ((rd_T24 l0 x3_1).f2)).bind fun bt194 => ((fairwayref1_TakeFixed.f kj11 ((rd_T24 l0 x3_1).f2) 2).bind fun bt197 => (if bt194.1 = bt197.1 then ((fairwaylaw2_num.f bt194.2).bind fun t199 => (if (bt197.2 != (t199 == 0)) = true then (fairwaylaw2_VbiTakes.j3 kj11 l0 x3_1 true) else (if bt197.2 = true then (fairwaylaw2_VbiTakes.j3 kj11 l0 x3_1 false) else ((fairwaylaw2_num.f bt194.2).bind fun t200 => (fairwaylaw2_VbiTakes.j3 kj11 l0 x3_1 (t200 != 7)))))) else (fairwaylaw2_VbiTakes.j3 kj11 l0 x3_1 true)))) else (none)) else (none)) = some r := by rw [if_neg (show ¬ (false = true) by decide)] at H; exact H
             clear H
             have H := H1
             clear H1
             by_cases c18 : 0 ≤ x3_1
             ·
              rw [if_pos c18] at H
              have c18b0 : decide (0 ≤ x3_1) = true := decide_eq_true c18
              clear c18
              by_cases c19 : x3_1 < (l0.length : Int)
              ·
               rw [if_pos c19] at H
               have c19b0 : decide (x3_1 < (l0.length : Int)) = true := decide_eq_true c19
               clear c19
               replace H := Option.bind_eq_some_iff.mp H
               obtain ⟨⟨t194, t195⟩, A200, H⟩ := H
               replace H : ((fairwayref1_TakeFixed.f kj11 ((rd_T24 l0 x3_1).f2) 2).bind fun bt197 => (if t194 = bt197.1 then ((fairwaylaw2_num.f t195).bind fun t199 => (if (bt197.2 != (t199 == 0)) = true then (fairwaylaw2_VbiTakes.j3 kj11 l0 x3_1 true) else (if bt197.2 = true then (fairwaylaw2_VbiTakes.j3 kj11 l0 x3_1 false) else ((fairwaylaw2_num.f t195).bind fun t200 => (fairwaylaw2_VbiTakes.j3 kj11 l0 x3_1 (t200 != 7)))))) else (fairwaylaw2_VbiTakes.j3 kj11 l0 x3_1 true))) = some r := H
               have A20 := Aside0.mk A200
               clear A200
               replace H := Option.bind_eq_some_iff.mp H
               obtain ⟨⟨t197, t198⟩, A210, H⟩ := H
               replace H : (if t194 = t197 then ((fairwaylaw2_num.f t195).bind fun t199 => (if (t198 != (t199 == 0)) = true then (fairwaylaw2_VbiTakes.j3 kj11 l0 x3_1 true) else (if t198 = true then (fairwaylaw2_VbiTakes.j3 kj11 l0 x3_1 false) else ((fairwaylaw2_num.f t195).bind fun t200 => (fairwaylaw2_VbiTakes.j3 kj11 l0 x3_1 (t200 != 7)))))) else (fairwaylaw2_VbiTakes.j3 kj11 l0 x3_1 true)) = some r := H
               have A21 := Aside0.mk A210
               clear A210
               have HC22 := Aside0.mk H
               clear H
               have p193 : 0 ≤ (x3_1 : Int) := of_decide_eq_true (by first | (with_reducible assumption) | assumption)
               have q193 : x3_1 < (l0.length : Int) := of_decide_eq_true (by first | (with_reducible assumption) | assumption)
               obtain ⟨ad193, e193, hx193_0, hx193_1, hx193_2⟩ := at_T24 HR0.out x3_1 p193 q193
               obtain rfl : ad182 = ad193 := (by injection e193)
               replace hx193_0 := (HB.out.cell (World.block_lt_of_cell? w _ hx193_0)).trans hx193_0
               replace hx193_1 := (HB.out.cell (World.block_lt_of_cell? w _ hx193_1)).trans hx193_1
               replace hx193_2 := (HB.out.cell (World.block_lt_of_cell? w _ hx193_2)).trans hx193_2
               replace p193 := eq_true p193
               replace q193 := eq_true q193
               go_upto_region 12 with (first | ((with_reducible refine gate_callee (f := 18) rfl ?_); refine goesL_ (some 66) rfl rfl Try.func18 (by kernel_rfl) rfl #[.string ((rd_T24 l0 x3_1).f2)] rfl (by (try simp only [List.map_toArray, List.map_cons, List.map_nil]); first | done | rfl | (simp only [List.length_drop, List.length_take]; rfl)) ?_; (with_reducible refine (vbi_TakeTwo.calls kj11 ((rd_T24 l0 x3_1).f2) t194 t195 _ A20.out).mono ?_); rintro e w' ⟨rfl, ⟨nd, rfl⟩⟩; refine ⟨_, rfl, ?_⟩; have p196 : 0 ≤ (x3_1 : Int) := of_decide_eq_true (by first | (with_reducible assumption) | assumption); have q196 : x3_1 < (l0.length : Int) := of_decide_eq_true (by first | (with_reducible assumption) | assumption); obtain ⟨ad196, e196, hx196_0, hx196_1, hx196_2⟩ := at_T24 HR0.out x3_1 p196 q196; obtain rfl : ad182 = ad196 := (by injection e196); replace hx196_0 := (HB.out.cell (World.block_lt_of_cell? w _ hx196_0)).trans hx196_0; replace hx196_1 := (HB.out.cell (World.block_lt_of_cell? w _ hx196_1)).trans hx196_1; replace hx196_2 := (HB.out.cell (World.block_lt_of_cell? w _ hx196_2)).trans hx196_2; replace p196 := eq_true p196; replace q196 := eq_true q196) | ((with_reducible refine gate_callee (f := 19) rfl ?_); refine goesL_ (some 75) rfl rfl Try.func19 (by kernel_rfl) rfl #[.string ((rd_T24 l0 x3_1).f2), .int .i64 2] rfl (by (try simp only [List.map_toArray, List.map_cons, List.map_nil]); first | done | rfl | (simp only [List.length_drop, List.length_take]; rfl)) ?_; (with_reducible refine (fairwayref1_TakeFixed.calls kj11 ((rd_T24 l0 x3_1).f2) 2 t197 t198 _ A21.out).mono ?_); rintro e w' ⟨rfl, ⟨nd, rfl⟩⟩; refine ⟨_, rfl, ?_⟩))
               (try simp only [Act.put, List.setIfInBounds_toArray, List.set_cons_zero, List.set_cons_succ])
               go_cut [96] (fun v96 wc => ∃ (kq : Nat) (x96_21 : Bool), v96 = .bool x96_21 ∧ Aside0 (fairwaylaw2_VbiTakes.j3 kq l0 x3_1 x96_21 = some r) ∧ Aside0 (kq ≤ kj11) ∧ Aside0 (Below w.heap.size w wc))
               case first =>
                have H := HC22.out
                clear HC22
                by_cases c23 : t194 = t197
                ·
                 rw [if_pos c23] at H
                 have c23b0 : (t194 == t197) = true := beq_iff_eq.mpr c23
                 have c23b1 : (t194 != t197) = false := bne_eq_false_iff_eq.mpr c23
                 clear c23
                 (first | rw [c23b0] | (simp only [i64_w, i32_w]; rw [c23b0]) | skip)
                 replace H := Option.bind_eq_some_iff.mp H
                 obtain ⟨t199, A240, H⟩ := H
                 replace H : (if (t198 != (t199 == 0)) = true then (fairwaylaw2_VbiTakes.j3 kj11 l0 x3_1 true) else (if t198 = true then (fairwaylaw2_VbiTakes.j3 kj11 l0 x3_1 false) else ((fairwaylaw2_num.f t195).bind fun t200 => (fairwaylaw2_VbiTakes.j3 kj11 l0 x3_1 (t200 != 7))))) = some r := H
                 have A24 := Aside0.mk A240
                 clear A240
                 by_cases c25 : (t198 != (t199 == 0)) = true
                 ·
                  rw [if_pos c25] at H
                  have c25b0 : (t198 != (t199 == 0)) = true := c25
                  (try (have c25b1 : decide (t198 = (t199 == 0)) = false := by simpa using c25))
                  (try (have c25b2 : (t198 == (t199 == 0)) = false := by simpa using c25))
                  (try (have c25b3 : ¬ (t198 = (t199 == 0)) := by simpa using c25))
                  clear c25
                  have H' := Aside0.mk H
                  clear H
                  go_wp2_with (first | (go_at_call 13; (with_reducible refine (fairwaylaw2_num.calls t195 t199 _ A24.out).mono ?_); rintro e w' ⟨rfl, ⟨nd, rfl⟩⟩))
                  go_meet
                  case rel => exact ⟨_, (true), (by first | rfl | (simp; done) | (simp [*]; done)), H', ⟨by have := HK1.out; have := HJ1.out; have := HJ11.out; first | omega | exact Nat.le_refl _⟩, ⟨by repeat (first | (with_reducible first | exact HB.out | apply below_alloc | apply pw_below_drewN | apply below_drew1) | exact HB.out)⟩⟩
                 rw [if_neg c25] at H
                 have c25b0 : (t198 != (t199 == 0)) = false := by simpa using c25
                 (try (have c25b1 : decide (t198 = (t199 == 0)) = true := by simpa using c25))
                 (try (have c25b2 : (t198 == (t199 == 0)) = true := by simpa using c25))
                 clear c25
                 by_cases c26 : t198 = true
                 ·
                  subst c26
                  have H1 : (fairwaylaw2_VbiTakes.j3 kj11 l0 x3_1 false) = some r := by rw [if_pos rfl] at H; exact H
                  clear H
                  have H := H1
                  clear H1
                  have H' := Aside0.mk H
                  clear H
                  go_wp2_with (first | (go_at_call 13; (with_reducible refine (fairwaylaw2_num.calls t195 t199 _ A24.out).mono ?_); rintro e w' ⟨rfl, ⟨nd, rfl⟩⟩))
                  go_meet
                  case rel => exact ⟨_, (false), (by first | rfl | (simp; done) | (simp [*]; done)), H', ⟨by have := HK1.out; have := HJ1.out; have := HJ11.out; first | omega | exact Nat.le_refl _⟩, ⟨by repeat (first | (with_reducible first | exact HB.out | apply below_alloc | apply pw_below_drewN | apply below_drew1) | exact HB.out)⟩⟩
                 replace c26 := Bool.eq_false_iff.mpr c26
                 subst c26
                 have H1 : ((fairwaylaw2_num.f t195).bind fun t200 => (fairwaylaw2_VbiTakes.j3 kj11 l0 x3_1 (t200 != 7))) = some r := by rw [if_neg (show ¬ (false = true) by decide)] at H; exact H
                 clear H
                 have H := H1
                 clear H1
                 replace H := Option.bind_eq_some_iff.mp H
                 obtain ⟨t200, A270, H⟩ := H
                 replace H : (fairwaylaw2_VbiTakes.j3 kj11 l0 x3_1 (t200 != 7)) = some r := H
                 have A27 := Aside0.mk A270
                 clear A270
                 have H' := Aside0.mk H
                 clear H
                 obtain rfl : t199 = t200 := Option.some.inj (A24.out.symm.trans A27.out)
                 go_wp2_with (first | (go_at_call 13; (with_reducible refine (fairwaylaw2_num.calls t195 t199 _ A24.out).mono ?_); rintro e w' ⟨rfl, ⟨nd, rfl⟩⟩) | (go_at_call 13; (with_reducible refine (fairwaylaw2_num.calls t195 t199 _ A27.out).mono ?_); rintro e w' ⟨rfl, ⟨nd, rfl⟩⟩))
                 go_meet
                 case rel => exact ⟨_, ((t199 != 7)), (by first | rfl | (simp; done) | (simp [*]; done)), H', ⟨by have := HK1.out; have := HJ1.out; have := HJ11.out; first | omega | exact Nat.le_refl _⟩, ⟨by repeat (first | (with_reducible first | exact HB.out | apply below_alloc | apply pw_below_drewN | apply below_drew1) | exact HB.out)⟩⟩
                rw [if_neg c23] at H
                have c23b0 : (t194 == t197) = false := beq_eq_false_iff_ne.mpr c23
                have c23b1 : (t194 != t197) = true := bne_iff_ne.mpr c23
                (first | rw [c23b0] | (simp only [i64_w, i32_w]; rw [c23b0]) | skip)
                have H' := Aside0.mk H
                clear H
                go_wp2
                go_meet
                case rel => exact ⟨_, (true), (by first | rfl | (simp; done) | (simp [*]; done)), H', ⟨by have := HK1.out; have := HJ1.out; have := HJ11.out; first | omega | exact Nat.le_refl _⟩, ⟨by repeat (first | (with_reducible first | exact HB.out | apply below_alloc | apply pw_below_drewN | apply below_drew1) | exact HB.out)⟩⟩
               case rest =>
                as_aux_lemma =>
                 clear HC22
                 try clear c1
                 try clear p1
                 try clear q1
                 try clear hx1
                 try clear c2
                 try clear p2
                 try clear c3
                 try clear c3b0
                 try clear c4
                 try clear c5
                 try clear c5b0
                 try clear c6
                 try clear c6b0
                 try clear c8
                 try clear c14
                 try clear c14b0
                 try clear c14b1
                 try clear c15
                 try clear c15b0
                 try clear c15b1
                 try clear c16
                 try clear c17
                 try clear c18
                 try clear c18b0
                 try clear p18
                 try clear q18
                 try clear hx18
                 try clear c19
                 try clear c19b0
                 try clear p19
                 try clear q19
                 try clear hx19
                 try clear c23
                 try clear c23b0
                 try clear c23b1
                 try clear c25
                 try clear c25b0
                 try clear c25b1
                 try clear c25b2
                 try clear c26
                 try clear hx182_0
                 try clear hx182_1
                 try clear hx182_2
                 try clear hx184_0
                 try clear hx184_1
                 try clear hx184_2
                 try clear hx188_0
                 try clear hx188_1
                 try clear hx188_2
                 try clear hx193_0
                 try clear hx193_1
                 try clear hx193_2
                 try clear hx196_0
                 try clear hx196_1
                 try clear hx196_2
                 try clear p1
                 try clear p182
                 try clear p184
                 try clear p188
                 try clear p193
                 try clear p196
                 try clear p2
                 try clear q1
                 try clear q182
                 try clear q184
                 try clear q188
                 try clear q193
                 try clear q196
                 obtain ⟨kq, x96_21, rfl, HA, HJ21, HB⟩ := hcut
                 cases kq with
                 | zero => exact absurd HA.out (by simp [fairwaylaw2_VbiTakes.j3])
                 | succ kj21 =>
                  have H := HA.out
                  clear HA
                  simp only [fairwaylaw2_VbiTakes.j3] at H
                  by_cases c28 : x96_21 = true
                  ·
                   subst c28
                   have H1 : (some false) = some r := by rw [if_pos rfl] at H; exact H
                   clear H
                   have H := H1
                   clear H1
                   obtain rfl := Option.some.inj H
                   go_wp2
                   go_ret
                   exact ⟨by first | rfl | (simp [errW_none, errW_some] <;> rfl) | (simp [*, errW_none, errW_some] <;> rfl), by repeat (first | (with_reducible first | exact HB.out | apply below_alloc | apply pw_below_drewN | apply below_drew1) | exact HB.out)⟩
                  replace c28 := Bool.eq_false_iff.mpr c28
                  subst c28
                  have H1 : (if 0 ≤ x3_1 then (if x3_1 < (l0.length : Int) then ((vbi_TakeFour.f kj21 ((rd_T24 l0 x3_1).f2)).bind fun bt202 => ((fairwayref1_TakeFixed.f kj21 ((rd_T24 l0 x3_1).f2) 4).bind fun bt205 => (if bt202.1 = bt205.1 then ((fairwaylaw2_num.f bt202.2).bind fun t207 => (if (bt205.2 != (t207 == 0)) = true then (some false) else (if bt205.2 = true then (fairwaylaw2_VbiTakes.l0 kj21 l0 (wrap64 (x3_1 + 1))) else ((fairwaylaw2_num.f bt202.2).bind fun t208 => (if t208 = 7 then (fairwaylaw2_VbiTakes.l0 kj21 l0 (wrap64 (x3_1 + 1))) else (some false)))))) else (some false)))) else (none)) else (none)) = some r := by rw [if_neg (show ¬ (false = true) by decide)] at H; exact H
                  clear H
                  have H := H1
                  clear H1
                  by_cases c29 : 0 ≤ x3_1
                  ·
                   rw [if_pos c29] at H
                   have c29b0 : decide (0 ≤ x3_1) = true := decide_eq_true c29
                   clear c29
                   by_cases c30 : x3_1 < (l0.length : Int)
                   ·
                    rw [if_pos c30] at H
                    have c30b0 : decide (x3_1 < (l0.length : Int)) = true := decide_eq_true c30
                    clear c30
                    replace H := Option.bind_eq_some_iff.mp H
                    obtain ⟨⟨t202, t203⟩, A310, H⟩ := H
                    replace H : ((fairwayref1_TakeFixed.f kj21 ((rd_T24 l0 x3_1).f2) 4).bind fun bt205 => (if t202 = bt205.1 then ((fairwaylaw2_num.f t203).bind fun t207 => (if (bt205.2 != (t207 == 0)) = true then (some false) else (if bt205.2 = true then (fairwaylaw2_VbiTakes.l0 kj21 l0 (wrap64 (x3_1 + 1))) else ((fairwaylaw2_num.f t203).bind fun t208 => (if t208 = 7 then (fairwaylaw2_VbiTakes.l0 kj21 l0 (wrap64 (x3_1 + 1))) else (some false)))))) else (some false))) = some r := H
                    have A31 := Aside0.mk A310
                    clear A310
                    replace H := Option.bind_eq_some_iff.mp H
                    obtain ⟨⟨t205, t206⟩, A320, H⟩ := H
                    replace H : (if t202 = t205 then ((fairwaylaw2_num.f t203).bind fun t207 => (if (t206 != (t207 == 0)) = true then (some false) else (if t206 = true then (fairwaylaw2_VbiTakes.l0 kj21 l0 (wrap64 (x3_1 + 1))) else ((fairwaylaw2_num.f t203).bind fun t208 => (if t208 = 7 then (fairwaylaw2_VbiTakes.l0 kj21 l0 (wrap64 (x3_1 + 1))) else (some false)))))) else (some false)) = some r := H
                    have A32 := Aside0.mk A320
                    clear A320
                    by_cases c33 : t202 = t205
                    ·
                     rw [if_pos c33] at H
                     have c33b0 : (t202 == t205) = true := beq_iff_eq.mpr c33
                     have c33b1 : (t202 != t205) = false := bne_eq_false_iff_eq.mpr c33
                     clear c33
                     replace H := Option.bind_eq_some_iff.mp H
                     obtain ⟨t207, A340, H⟩ := H
                     replace H : (if (t206 != (t207 == 0)) = true then (some false) else (if t206 = true then (fairwaylaw2_VbiTakes.l0 kj21 l0 (wrap64 (x3_1 + 1))) else ((fairwaylaw2_num.f t203).bind fun t208 => (if t208 = 7 then (fairwaylaw2_VbiTakes.l0 kj21 l0 (wrap64 (x3_1 + 1))) else (some false))))) = some r := H
                     have A34 := Aside0.mk A340
                     clear A340
                     by_cases c35 : (t206 != (t207 == 0)) = true
                     ·
                      rw [if_pos c35] at H
                      have c35b0 : (t206 != (t207 == 0)) = true := c35
                      (try (have c35b1 : decide (t206 = (t207 == 0)) = false := by simpa using c35))
                      (try (have c35b2 : (t206 == (t207 == 0)) = false := by simpa using c35))
                      (try (have c35b3 : ¬ (t206 = (t207 == 0)) := by simpa using c35))
                      clear c35
                      obtain rfl := Option.some.inj H
                      have p201 : 0 ≤ (x3_1 : Int) := of_decide_eq_true (by first | (with_reducible assumption) | assumption)
                      have q201 : x3_1 < (l0.length : Int) := of_decide_eq_true (by first | (with_reducible assumption) | assumption)
                      obtain ⟨ad201, e201, hx201_0, hx201_1, hx201_2⟩ := at_T24 HR0.out x3_1 p201 q201
                      obtain rfl : ad182 = ad201 := (by injection e201)
                      replace hx201_0 := (HB.out.cell (World.block_lt_of_cell? w _ hx201_0)).trans hx201_0
                      replace hx201_1 := (HB.out.cell (World.block_lt_of_cell? w _ hx201_1)).trans hx201_1
                      replace hx201_2 := (HB.out.cell (World.block_lt_of_cell? w _ hx201_2)).trans hx201_2
                      replace p201 := eq_true p201
                      replace q201 := eq_true q201
                      go_wp2_with (first | ((with_reducible refine gate_callee (f := 20) rfl ?_); refine goesL_ (some 103) rfl rfl Try.func20 (by kernel_rfl) rfl #[.string ((rd_T24 l0 x3_1).f2)] rfl (by (try simp only [List.map_toArray, List.map_cons, List.map_nil]); first | done | rfl | (simp only [List.length_drop, List.length_take]; rfl)) ?_; (with_reducible refine (vbi_TakeFour.calls kj21 ((rd_T24 l0 x3_1).f2) t202 t203 _ A31.out).mono ?_); rintro e w' ⟨rfl, ⟨nd, rfl⟩⟩; refine ⟨_, rfl, ?_⟩; have p204 : 0 ≤ (x3_1 : Int) := of_decide_eq_true (by first | (with_reducible assumption) | assumption); have q204 : x3_1 < (l0.length : Int) := of_decide_eq_true (by first | (with_reducible assumption) | assumption); obtain ⟨ad204, e204, hx204_0, hx204_1, hx204_2⟩ := at_T24 HR0.out x3_1 p204 q204; obtain rfl : ad182 = ad204 := (by injection e204); replace hx204_0 := (HB.out.cell (World.block_lt_of_cell? w _ hx204_0)).trans hx204_0; replace hx204_1 := (HB.out.cell (World.block_lt_of_cell? w _ hx204_1)).trans hx204_1; replace hx204_2 := (HB.out.cell (World.block_lt_of_cell? w _ hx204_2)).trans hx204_2; replace p204 := eq_true p204; replace q204 := eq_true q204) | ((with_reducible refine gate_callee (f := 19) rfl ?_); refine goesL_ (some 112) rfl rfl Try.func19 (by kernel_rfl) rfl #[.string ((rd_T24 l0 x3_1).f2), .int .i64 4] rfl (by (try simp only [List.map_toArray, List.map_cons, List.map_nil]); first | done | rfl | (simp only [List.length_drop, List.length_take]; rfl)) ?_; (with_reducible refine (fairwayref1_TakeFixed.calls kj21 ((rd_T24 l0 x3_1).f2) 4 t205 t206 _ A32.out).mono ?_); rintro e w' ⟨rfl, ⟨nd, rfl⟩⟩; refine ⟨_, rfl, ?_⟩) | (go_at_call 13; (with_reducible refine (fairwaylaw2_num.calls t203 t207 _ A34.out).mono ?_); rintro e w' ⟨rfl, ⟨nd, rfl⟩⟩))
                      go_ret
                      exact ⟨by first | rfl | (simp [errW_none, errW_some] <;> rfl) | (simp [*, errW_none, errW_some] <;> rfl), by repeat (first | (with_reducible first | exact HB.out | apply below_alloc | apply pw_below_drewN | apply below_drew1) | exact HB.out)⟩
                     rw [if_neg c35] at H
                     have c35b0 : (t206 != (t207 == 0)) = false := by simpa using c35
                     (try (have c35b1 : decide (t206 = (t207 == 0)) = true := by simpa using c35))
                     (try (have c35b2 : (t206 == (t207 == 0)) = true := by simpa using c35))
                     clear c35
                     by_cases c36 : t206 = true
                     ·
                      subst c36
                      have H1 : (fairwaylaw2_VbiTakes.l0 kj21 l0 (wrap64 (x3_1 + 1))) = some r := by rw [if_pos rfl] at H; exact H
                      clear H
                      have H := H1
                      clear H1
                      have H' := Aside0.mk H
                      clear H
                      have p201 : 0 ≤ (x3_1 : Int) := of_decide_eq_true (by first | (with_reducible assumption) | assumption)
                      have q201 : x3_1 < (l0.length : Int) := of_decide_eq_true (by first | (with_reducible assumption) | assumption)
                      obtain ⟨ad201, e201, hx201_0, hx201_1, hx201_2⟩ := at_T24 HR0.out x3_1 p201 q201
                      obtain rfl : ad182 = ad201 := (by injection e201)
                      replace hx201_0 := (HB.out.cell (World.block_lt_of_cell? w _ hx201_0)).trans hx201_0
                      replace hx201_1 := (HB.out.cell (World.block_lt_of_cell? w _ hx201_1)).trans hx201_1
                      replace hx201_2 := (HB.out.cell (World.block_lt_of_cell? w _ hx201_2)).trans hx201_2
                      replace p201 := eq_true p201
                      replace q201 := eq_true q201
                      go_wp2_with (first | ((with_reducible refine gate_callee (f := 20) rfl ?_); refine goesL_ (some 103) rfl rfl Try.func20 (by kernel_rfl) rfl #[.string ((rd_T24 l0 x3_1).f2)] rfl (by (try simp only [List.map_toArray, List.map_cons, List.map_nil]); first | done | rfl | (simp only [List.length_drop, List.length_take]; rfl)) ?_; (with_reducible refine (vbi_TakeFour.calls kj21 ((rd_T24 l0 x3_1).f2) t202 t203 _ A31.out).mono ?_); rintro e w' ⟨rfl, ⟨nd, rfl⟩⟩; refine ⟨_, rfl, ?_⟩; have p204 : 0 ≤ (x3_1 : Int) := of_decide_eq_true (by first | (with_reducible assumption) | assumption); have q204 : x3_1 < (l0.length : Int) := of_decide_eq_true (by first | (with_reducible assumption) | assumption); obtain ⟨ad204, e204, hx204_0, hx204_1, hx204_2⟩ := at_T24 HR0.out x3_1 p204 q204; obtain rfl : ad182 = ad204 := (by injection e204); replace hx204_0 := (HB.out.cell (World.block_lt_of_cell? w _ hx204_0)).trans hx204_0; replace hx204_1 := (HB.out.cell (World.block_lt_of_cell? w _ hx204_1)).trans hx204_1; replace hx204_2 := (HB.out.cell (World.block_lt_of_cell? w _ hx204_2)).trans hx204_2; replace p204 := eq_true p204; replace q204 := eq_true q204) | ((with_reducible refine gate_callee (f := 19) rfl ?_); refine goesL_ (some 112) rfl rfl Try.func19 (by kernel_rfl) rfl #[.string ((rd_T24 l0 x3_1).f2), .int .i64 4] rfl (by (try simp only [List.map_toArray, List.map_cons, List.map_nil]); first | done | rfl | (simp only [List.length_drop, List.length_take]; rfl)) ?_; (with_reducible refine (fairwayref1_TakeFixed.calls kj21 ((rd_T24 l0 x3_1).f2) 4 t205 true _ A32.out).mono ?_); rintro e w' ⟨rfl, ⟨nd, rfl⟩⟩; refine ⟨_, rfl, ?_⟩) | (go_at_call 13; (with_reducible refine (fairwaylaw2_num.calls t203 t207 _ A34.out).mono ?_); rintro e w' ⟨rfl, ⟨nd, rfl⟩⟩))
                      go_roundg kj21
                      case measure => have := HK1.out; have := HJ1.out; have := HJ11.out; have := HJ21.out; omega
                      case rel => exact ⟨(wrap64 (x3_1 + 1)), (by first | rfl | (simp; done) | (simp [*]; done)), H', ⟨by have := HK1.out; have := HJ1.out; have := HJ11.out; have := HJ21.out; omega⟩, ⟨by repeat (first | (with_reducible first | exact HB.out | apply below_alloc | apply pw_below_drewN | apply below_drew1) | exact HB.out)⟩⟩
                     replace c36 := Bool.eq_false_iff.mpr c36
                     subst c36
                     have H1 : ((fairwaylaw2_num.f t203).bind fun t208 => (if t208 = 7 then (fairwaylaw2_VbiTakes.l0 kj21 l0 (wrap64 (x3_1 + 1))) else (some false))) = some r := by rw [if_neg (show ¬ (false = true) by decide)] at H; exact H
                     clear H
                     have H := H1
                     clear H1
                     replace H := Option.bind_eq_some_iff.mp H
                     obtain ⟨t208, A370, H⟩ := H
                     replace H : (if t208 = 7 then (fairwaylaw2_VbiTakes.l0 kj21 l0 (wrap64 (x3_1 + 1))) else (some false)) = some r := H
                     have A37 := Aside0.mk A370
                     clear A370
                     by_cases c38 : t208 = 7
                     ·
                      rw [if_pos c38] at H
                      have c38b0 : (t208 == 7) = true := beq_iff_eq.mpr c38
                      have c38b1 : (t208 != 7) = false := bne_eq_false_iff_eq.mpr c38
                      clear c38
                      have H' := Aside0.mk H
                      clear H
                      have p201 : 0 ≤ (x3_1 : Int) := of_decide_eq_true (by first | (with_reducible assumption) | assumption)
                      have q201 : x3_1 < (l0.length : Int) := of_decide_eq_true (by first | (with_reducible assumption) | assumption)
                      obtain ⟨ad201, e201, hx201_0, hx201_1, hx201_2⟩ := at_T24 HR0.out x3_1 p201 q201
                      obtain rfl : ad182 = ad201 := (by injection e201)
                      replace hx201_0 := (HB.out.cell (World.block_lt_of_cell? w _ hx201_0)).trans hx201_0
                      replace hx201_1 := (HB.out.cell (World.block_lt_of_cell? w _ hx201_1)).trans hx201_1
                      replace hx201_2 := (HB.out.cell (World.block_lt_of_cell? w _ hx201_2)).trans hx201_2
                      replace p201 := eq_true p201
                      replace q201 := eq_true q201
                      obtain rfl : t207 = t208 := Option.some.inj (A34.out.symm.trans A37.out)
                      go_wp2_with (first | ((with_reducible refine gate_callee (f := 20) rfl ?_); refine goesL_ (some 103) rfl rfl Try.func20 (by kernel_rfl) rfl #[.string ((rd_T24 l0 x3_1).f2)] rfl (by (try simp only [List.map_toArray, List.map_cons, List.map_nil]); first | done | rfl | (simp only [List.length_drop, List.length_take]; rfl)) ?_; (with_reducible refine (vbi_TakeFour.calls kj21 ((rd_T24 l0 x3_1).f2) t202 t203 _ A31.out).mono ?_); rintro e w' ⟨rfl, ⟨nd, rfl⟩⟩; refine ⟨_, rfl, ?_⟩; have p204 : 0 ≤ (x3_1 : Int) := of_decide_eq_true (by first | (with_reducible assumption) | assumption); have q204 : x3_1 < (l0.length : Int) := of_decide_eq_true (by first | (with_reducible assumption) | assumption); obtain ⟨ad204, e204, hx204_0, hx204_1, hx204_2⟩ := at_T24 HR0.out x3_1 p204 q204; obtain rfl : ad182 = ad204 := (by injection e204); replace hx204_0 := (HB.out.cell (World.block_lt_of_cell? w _ hx204_0)).trans hx204_0; replace hx204_1 := (HB.out.cell (World.block_lt_of_cell? w _ hx204_1)).trans hx204_1; replace hx204_2 := (HB.out.cell (World.block_lt_of_cell? w _ hx204_2)).trans hx204_2; replace p204 := eq_true p204; replace q204 := eq_true q204) | ((with_reducible refine gate_callee (f := 19) rfl ?_); refine goesL_ (some 112) rfl rfl Try.func19 (by kernel_rfl) rfl #[.string ((rd_T24 l0 x3_1).f2), .int .i64 4] rfl (by (try simp only [List.map_toArray, List.map_cons, List.map_nil]); first | done | rfl | (simp only [List.length_drop, List.length_take]; rfl)) ?_; (with_reducible refine (fairwayref1_TakeFixed.calls kj21 ((rd_T24 l0 x3_1).f2) 4 t205 false _ A32.out).mono ?_); rintro e w' ⟨rfl, ⟨nd, rfl⟩⟩; refine ⟨_, rfl, ?_⟩) | (go_at_call 13; (with_reducible refine (fairwaylaw2_num.calls t203 t207 _ A34.out).mono ?_); rintro e w' ⟨rfl, ⟨nd, rfl⟩⟩) | (go_at_call 13; (with_reducible refine (fairwaylaw2_num.calls t203 t207 _ A37.out).mono ?_); rintro e w' ⟨rfl, ⟨nd, rfl⟩⟩))
                      go_roundg kj21
                      case measure => have := HK1.out; have := HJ1.out; have := HJ11.out; have := HJ21.out; omega
                      case rel => exact ⟨(wrap64 (x3_1 + 1)), (by first | rfl | (simp; done) | (simp [*]; done)), H', ⟨by have := HK1.out; have := HJ1.out; have := HJ11.out; have := HJ21.out; omega⟩, ⟨by repeat (first | (with_reducible first | exact HB.out | apply below_alloc | apply pw_below_drewN | apply below_drew1) | exact HB.out)⟩⟩
                     rw [if_neg c38] at H
                     have c38b0 : (t208 == 7) = false := beq_eq_false_iff_ne.mpr c38
                     have c38b1 : (t208 != 7) = true := bne_iff_ne.mpr c38
                     obtain rfl := Option.some.inj H
                     have p201 : 0 ≤ (x3_1 : Int) := of_decide_eq_true (by first | (with_reducible assumption) | assumption)
                     have q201 : x3_1 < (l0.length : Int) := of_decide_eq_true (by first | (with_reducible assumption) | assumption)
                     obtain ⟨ad201, e201, hx201_0, hx201_1, hx201_2⟩ := at_T24 HR0.out x3_1 p201 q201
                     obtain rfl : ad182 = ad201 := (by injection e201)
                     replace hx201_0 := (HB.out.cell (World.block_lt_of_cell? w _ hx201_0)).trans hx201_0
                     replace hx201_1 := (HB.out.cell (World.block_lt_of_cell? w _ hx201_1)).trans hx201_1
                     replace hx201_2 := (HB.out.cell (World.block_lt_of_cell? w _ hx201_2)).trans hx201_2
                     replace p201 := eq_true p201
                     replace q201 := eq_true q201
                     obtain rfl : t207 = t208 := Option.some.inj (A34.out.symm.trans A37.out)
                     go_wp2_with (first | ((with_reducible refine gate_callee (f := 20) rfl ?_); refine goesL_ (some 103) rfl rfl Try.func20 (by kernel_rfl) rfl #[.string ((rd_T24 l0 x3_1).f2)] rfl (by (try simp only [List.map_toArray, List.map_cons, List.map_nil]); first | done | rfl | (simp only [List.length_drop, List.length_take]; rfl)) ?_; (with_reducible refine (vbi_TakeFour.calls kj21 ((rd_T24 l0 x3_1).f2) t202 t203 _ A31.out).mono ?_); rintro e w' ⟨rfl, ⟨nd, rfl⟩⟩; refine ⟨_, rfl, ?_⟩; have p204 : 0 ≤ (x3_1 : Int) := of_decide_eq_true (by first | (with_reducible assumption) | assumption); have q204 : x3_1 < (l0.length : Int) := of_decide_eq_true (by first | (with_reducible assumption) | assumption); obtain ⟨ad204, e204, hx204_0, hx204_1, hx204_2⟩ := at_T24 HR0.out x3_1 p204 q204; obtain rfl : ad182 = ad204 := (by injection e204); replace hx204_0 := (HB.out.cell (World.block_lt_of_cell? w _ hx204_0)).trans hx204_0; replace hx204_1 := (HB.out.cell (World.block_lt_of_cell? w _ hx204_1)).trans hx204_1; replace hx204_2 := (HB.out.cell (World.block_lt_of_cell? w _ hx204_2)).trans hx204_2; replace p204 := eq_true p204; replace q204 := eq_true q204) | ((with_reducible refine gate_callee (f := 19) rfl ?_); refine goesL_ (some 112) rfl rfl Try.func19 (by kernel_rfl) rfl #[.string ((rd_T24 l0 x3_1).f2), .int .i64 4] rfl (by (try simp only [List.map_toArray, List.map_cons, List.map_nil]); first | done | rfl | (simp only [List.length_drop, List.length_take]; rfl)) ?_; (with_reducible refine (fairwayref1_TakeFixed.calls kj21 ((rd_T24 l0 x3_1).f2) 4 t205 false _ A32.out).mono ?_); rintro e w' ⟨rfl, ⟨nd, rfl⟩⟩; refine ⟨_, rfl, ?_⟩) | (go_at_call 13; (with_reducible refine (fairwaylaw2_num.calls t203 t207 _ A34.out).mono ?_); rintro e w' ⟨rfl, ⟨nd, rfl⟩⟩) | (go_at_call 13; (with_reducible refine (fairwaylaw2_num.calls t203 t207 _ A37.out).mono ?_); rintro e w' ⟨rfl, ⟨nd, rfl⟩⟩))
                     go_ret
                     exact ⟨by first | rfl | (simp [errW_none, errW_some] <;> rfl) | (simp [*, errW_none, errW_some] <;> rfl), by repeat (first | (with_reducible first | exact HB.out | apply below_alloc | apply pw_below_drewN | apply below_drew1) | exact HB.out)⟩
                    rw [if_neg c33] at H
                    have c33b0 : (t202 == t205) = false := beq_eq_false_iff_ne.mpr c33
                    have c33b1 : (t202 != t205) = true := bne_iff_ne.mpr c33
                    obtain rfl := Option.some.inj H
                    have p201 : 0 ≤ (x3_1 : Int) := of_decide_eq_true (by first | (with_reducible assumption) | assumption)
                    have q201 : x3_1 < (l0.length : Int) := of_decide_eq_true (by first | (with_reducible assumption) | assumption)
                    obtain ⟨ad201, e201, hx201_0, hx201_1, hx201_2⟩ := at_T24 HR0.out x3_1 p201 q201
                    obtain rfl : ad182 = ad201 := (by injection e201)
                    replace hx201_0 := (HB.out.cell (World.block_lt_of_cell? w _ hx201_0)).trans hx201_0
                    replace hx201_1 := (HB.out.cell (World.block_lt_of_cell? w _ hx201_1)).trans hx201_1
                    replace hx201_2 := (HB.out.cell (World.block_lt_of_cell? w _ hx201_2)).trans hx201_2
                    replace p201 := eq_true p201
                    replace q201 := eq_true q201
                    go_wp2_with (first | ((with_reducible refine gate_callee (f := 20) rfl ?_); refine goesL_ (some 103) rfl rfl Try.func20 (by kernel_rfl) rfl #[.string ((rd_T24 l0 x3_1).f2)] rfl (by (try simp only [List.map_toArray, List.map_cons, List.map_nil]); first | done | rfl | (simp only [List.length_drop, List.length_take]; rfl)) ?_; (with_reducible refine (vbi_TakeFour.calls kj21 ((rd_T24 l0 x3_1).f2) t202 t203 _ A31.out).mono ?_); rintro e w' ⟨rfl, ⟨nd, rfl⟩⟩; refine ⟨_, rfl, ?_⟩; have p204 : 0 ≤ (x3_1 : Int) := of_decide_eq_true (by first | (with_reducible assumption) | assumption); have q204 : x3_1 < (l0.length : Int) := of_decide_eq_true (by first | (with_reducible assumption) | assumption); obtain ⟨ad204, e204, hx204_0, hx204_1, hx204_2⟩ := at_T24 HR0.out x3_1 p204 q204; obtain rfl : ad182 = ad204 := (by injection e204); replace hx204_0 := (HB.out.cell (World.block_lt_of_cell? w _ hx204_0)).trans hx204_0; replace hx204_1 := (HB.out.cell (World.block_lt_of_cell? w _ hx204_1)).trans hx204_1; replace hx204_2 := (HB.out.cell (World.block_lt_of_cell? w _ hx204_2)).trans hx204_2; replace p204 := eq_true p204; replace q204 := eq_true q204) | ((with_reducible refine gate_callee (f := 19) rfl ?_); refine goesL_ (some 112) rfl rfl Try.func19 (by kernel_rfl) rfl #[.string ((rd_T24 l0 x3_1).f2), .int .i64 4] rfl (by (try simp only [List.map_toArray, List.map_cons, List.map_nil]); first | done | rfl | (simp only [List.length_drop, List.length_take]; rfl)) ?_; (with_reducible refine (fairwayref1_TakeFixed.calls kj21 ((rd_T24 l0 x3_1).f2) 4 t205 t206 _ A32.out).mono ?_); rintro e w' ⟨rfl, ⟨nd, rfl⟩⟩; refine ⟨_, rfl, ?_⟩))
                    go_ret
                    exact ⟨by first | rfl | (simp [errW_none, errW_some] <;> rfl) | (simp [*, errW_none, errW_some] <;> rfl), by repeat (first | (with_reducible first | exact HB.out | apply below_alloc | apply pw_below_drewN | apply below_drew1) | exact HB.out)⟩
                   rw [if_neg c30] at H
                   exact absurd H (by simp)
                  rw [if_neg c29] at H
                  exact absurd H (by simp)
              rw [if_neg c19] at H
              exact absurd H (by simp)
             rw [if_neg c18] at H
             exact absurd H (by simp)
         rw [if_neg c6] at H
         exact absurd H (by simp)
        rw [if_neg c5] at H
        exact absurd H (by simp)
       replace c4 := Bool.eq_false_iff.mpr c4
       subst c4
       have H1 : ((fairwaylaw2_wakes.f kj1).bind fun t181 => (some t181)) = some r := by rw [if_neg (show ¬ (false = true) by decide)] at H; exact H
       clear H
       have H := H1
       clear H1
       replace H := Option.bind_eq_some_iff.mp H
       obtain ⟨t181, A390, H⟩ := H
       replace H : (some t181) = some r := H
       have A39 := Aside0.mk A390
       clear A390
       obtain rfl := Option.some.inj H
       go_wp2_with (first | ((with_reducible refine gate_callee (f := 14) rfl ?_); refine goesL_ (some 134) rfl rfl Try.func14 (by kernel_rfl) rfl #[] rfl (by (try simp only [List.map_toArray, List.map_cons, List.map_nil]); first | done | rfl | (simp only [List.length_drop, List.length_take]; rfl)) ?_; (with_reducible refine (fairwaylaw2_wakes.calls kj1  t181 _ A39.out).mono ?_); rintro e w40 ⟨rfl, hb⟩; refine ⟨_, rfl, ?_⟩; have n0_ := Aside0.mk (below_step (by repeat (first | (with_reducible first | exact HB.out | apply below_alloc | apply pw_below_drewN | apply below_drew1) | exact HB.out)) hb); clear HB; have HB := n0_; clear n0_; (try clear hb); (try clear hb2); (try clear hk); (try clear hi)))
       go_ret
       exact ⟨by first | rfl | (simp [errW_none, errW_some] <;> rfl) | (simp [*, errW_none, errW_some] <;> rfl), by repeat (first | (with_reducible first | exact HB.out | apply below_alloc | apply pw_below_drewN | apply below_drew1) | exact HB.out)⟩

/-! ### fairwaylaw0_Within: function 21 -/
def fairwaylaw0_Within.f (a0 : Int) (a1 : Int) : Option (Int) := if (IntKind.u64.wrap (a1)) = 0 then (none) else (some (wrap64 (Int.tmod (IntKind.u64.wrap (a0)) (IntKind.u64.wrap (a1)))))
set_option maxHeartbeats 8000000 in
set_option maxRecDepth 100000 in
theorem fairwaylaw0_Within.calls (a0 : Int) (a1 : Int) (r : Int) (w : World) (h : fairwaylaw0_Within.f a0 a1 = some r) :
  Calls Try.prog 21 #[.int .i64 a0, .int .i64 a1] w fun e w' => e = .returned (.int .i64 r) ∧ Drawn0 w w' := by
 have H : (if (IntKind.u64.wrap (a1)) = 0 then (none) else (some (wrap64 (Int.tmod (IntKind.u64.wrap (a0)) (IntKind.u64.wrap (a1)))))) = some r := h
 clear h
 by_cases c3 : (IntKind.u64.wrap (a1)) = 0
 ·
  rw [if_pos c3] at H
  exact absurd H (by simp)
 rw [if_neg c3] at H
 have c3b0 : ((IntKind.u64.wrap (a1)) == 0) = false := beq_eq_false_iff_ne.mpr c3
 have c3b1 : ((IntKind.u64.wrap (a1)) != 0) = true := bne_iff_ne.mpr c3
 obtain rfl := Option.some.inj H
 go_enter Try.func21, Try.ntmps21
 go_wp2
 go_ret
 exact ⟨by first | rfl | (simp; done) | (simp [*]; done), by repeat (first | exact Drawn0.refl _ | apply Drawn0.step)⟩

/-! ### vbi_Bin: function 22 -/
def vbi_Bin.f (k : Nat) (a0 : ByteArray) : Option (ByteArray × Int) := if (a0.size : Int) > 1024 then (some ((⟨#[]⟩ : ByteArray), 2)) else ((vbi_Two.f k (a0.size : Int)).bind fun bt209 => (if bt209.1.size + a0.size ≤ 9223372036854775807 then (some (bt209.1 ++ a0, bt209.2)) else (none)))
theorem vbi_Bin.mono : ∀ a0 k, LeO (vbi_Bin.f k a0) (vbi_Bin.f (k + 1) a0) := by
 intro a0 k
 unfold vbi_Bin.f
 repeat' first
   | (with_reducible exact vbi_Two.mono _ _)
   | (with_reducible exact LeO.refl _)
   | (with_reducible exact LeO.none _)
   | (with_reducible refine LeO.ite ?_ ?_)
   | (with_reducible refine LeO.bind ?_ (fun _ => ?_))
   | exact vbi_Two.mono _ _
   | exact LeO.none _
   | refine LeO.ite ?_ ?_
   | refine LeO.bind ?_ (fun _ => ?_)
set_option maxHeartbeats 8000000 in
set_option maxRecDepth 100000 in
theorem vbi_Bin.calls (k : Nat) (a0 : ByteArray) (r1 : ByteArray) (r2 : Int) (w : World) (h : vbi_Bin.f k a0 = some (r1, r2)) :
  Calls Try.prog 22 #[.string a0] w fun e w' => e = .returned (.tuple #[.string r1, .int .i64 r2]) ∧ Below w.heap.size w w' := by
 have HB := Aside0.mk (Below.refl w.heap.size w)
 have H : (if (a0.size : Int) > 1024 then (some ((⟨#[]⟩ : ByteArray), 2)) else ((vbi_Two.f k (a0.size : Int)).bind fun bt209 => (if bt209.1.size + a0.size ≤ 9223372036854775807 then (some (bt209.1 ++ a0, bt209.2)) else (none)))) = some (r1, r2) := h
 clear h
 by_cases c2 : (a0.size : Int) > 1024
 ·
  rw [if_pos c2] at H
  have c2b0 : decide (1024 < (a0.size : Int)) = true := decide_eq_true c2
  have c2b1 : decide (1024 < a0.size) = true := decide_eq_true (by omega)
  clear c2
  simp only [Option.some.injEq, Prod.mk.injEq] at H
  obtain ⟨rfl, rfl⟩ := H
  go_enter Try.func22, Try.ntmps22
  go_wp2
  go_ret2
  exact ⟨by first | rfl | (simp [errW_none, errW_some] <;> rfl) | (simp [*, errW_none, errW_some] <;> rfl), by repeat (first | (with_reducible first | exact HB.out | apply below_alloc | apply pw_below_drewN | apply below_drew1) | exact HB.out)⟩
 rw [if_neg c2] at H
 have c2b0 : decide (1024 < (a0.size : Int)) = false := decide_eq_false c2
 have c2b1 : decide (1024 < a0.size) = false := decide_eq_false (by omega)
 clear c2
 replace H := Option.bind_eq_some_iff.mp H
 obtain ⟨⟨t209, t210⟩, A30, H⟩ := H
 replace H : (if t209.size + a0.size ≤ 9223372036854775807 then (some (t209 ++ a0, t210)) else (none)) = some (r1, r2) := H
 have A3 := Aside0.mk A30
 clear A30
 by_cases c4 : t209.size + a0.size ≤ 9223372036854775807
 ·
  rw [if_pos c4] at H
  have c4b0 := eq_true c4
  have c4b1 : decide (t209.size + a0.size ≤ 9223372036854775807) = true := decide_eq_true c4
  try have c4b2 : (9223372036854775807 < t209.size + a0.size) = False := eq_false (Nat.not_lt.2 c4)
  simp only [Option.some.injEq, Prod.mk.injEq] at H
  obtain ⟨rfl, rfl⟩ := H
  go_enter Try.func22, Try.ntmps22
  go_wp2_with (first | ((with_reducible refine gate_callee (f := 8) rfl ?_); refine goesL_ (some 12) rfl rfl Try.func8 (by kernel_rfl) rfl #[.int .i64 (a0.size : Int)] rfl (by (try simp only [List.map_toArray, List.map_cons, List.map_nil]); first | done | rfl | (simp only [List.length_drop, List.length_take]; rfl)) ?_; (with_reducible refine (vbi_Two.calls k (a0.size : Int) t209 t210 _ A3.out).mono ?_); rintro e w5 ⟨rfl, hb⟩; refine ⟨_, rfl, ?_⟩; have n0_ := Aside0.mk (below_step (by repeat (first | (with_reducible first | exact HB.out | apply below_alloc | apply pw_below_drewN | apply below_drew1) | exact HB.out)) hb); clear HB; have HB := n0_; clear n0_; (try clear hb); (try clear hb2); (try clear hk); (try clear hi)))
  go_ret2
  exact ⟨by first | rfl | (simp [errW_none, errW_some] <;> rfl) | (simp [*, errW_none, errW_some] <;> rfl), by repeat (first | (with_reducible first | exact HB.out | apply below_alloc | apply pw_below_drewN | apply below_drew1) | exact HB.out)⟩
 rw [if_neg c4] at H
 exact absurd H (by simp)

end Go.Proofs.Ytajbopckmjjcfaa.P
