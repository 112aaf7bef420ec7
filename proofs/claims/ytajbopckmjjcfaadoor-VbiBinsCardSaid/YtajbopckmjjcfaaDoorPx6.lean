-- PRINTED by print.py (a twelfth state) out of the translation. Not trusted: Lean checks it.
import Derived.Test.YtajbopckmjjcfaaDoorPx0
import Derived.Test.YtajbopckmjjcfaaDoorPx1
import Derived.Test.YtajbopckmjjcfaaDoorPx2
import Derived.Test.YtajbopckmjjcfaaDoorPx3
import Derived.Test.YtajbopckmjjcfaaDoorPx5
namespace Go.Proofs.YtajbopckmjjcfaaDoor.P
open Go.RowKit Go.Proofs.YtajbopckmjjcfaaDoorW.PrintWords Go.Proofs.YtajbopckmjjcfaaDoorW.PrintLast Go.Proofs.YtajbopckmjjcfaaDoorW.PrintMore
attribute [local go_sem] max2_int min2_int max_two min_two max_three min_three max_four min_four   -- for this text's walks alone
set_option linter.unusedVariables false
set_option linter.unusedSimpArgs false

/-! ### fairwaylaw2_long: function 5 -/
mutual
def fairwaylaw2_long.l0 : Nat → List (S27) → Bool → Int → Option (Bool)
  | 0, _, _, _ => none
  | k + 1, x0, x1, x5 => if x5 < (x0.length : Int) then (fairwaylaw2_long.j1 k x0 x1 x5 (decide (x5 < 15))) else (fairwaylaw2_long.j1 k x0 x1 x5 false)
def fairwaylaw2_long.j1 : Nat → List (S27) → Bool → Int → Bool → Option (Bool)
  | 0, _, _, _, _ => none
  | k + 1, x0, x1, x5, x23 => if x23 = true then (if 0 ≤ x5 then (if x5 < (x0.length : Int) then ((fairwaylaw2_heavy.f ((rd_T27 x0 x5).f0) ((rd_T27 x0 x5).f1) ((rd_T27 x0 x5).f2)).bind fun t147 => (if t147 = true then (some true) else ((fairwayref1_Long.f k ((rd_T27 x0 x5).f1) x1).bind fun bt149 => ((fairwayref1_TakeLong.f k ((rd_T27 x0 x5).f2) x1).bind fun bt152 => ((vbi_Text.f k ((rd_T27 x0 x5).f1)).bind fun bt156 => ((vbi_TakeText.f k ((rd_T27 x0 x5).f2)).bind fun bt159 => (if x1 = true then (fairwaylaw2_long.j2 k x0 x1 x5 bt149.1 bt149.2 bt152.1 bt152.2.1 bt152.2.2 bt156.1 bt156.2 bt159.1 bt159.2.1 bt159.2.2) else ((vbi_Bin.f k ((rd_T27 x0 x5).f1)).bind fun bt163 => ((vbi_TakeBin.f k ((rd_T27 x0 x5).f2)).bind fun bt166 => (fairwaylaw2_long.j2 k x0 x1 x5 bt149.1 bt149.2 bt152.1 bt152.2.1 bt152.2.2 bt163.1 bt163.2 bt166.1 bt166.2.1 bt166.2.2)))))))))) else (none)) else (none)) else ((fairwaylaw2_wakes.f k).bind fun t145 => (some t145))
def fairwaylaw2_long.j2 : Nat → List (S27) → Bool → Int → ByteArray → Int → ByteArray → Int → Int → ByteArray → Int → ByteArray → Int → Int → Option (Bool)
  | 0, _, _, _, _, _, _, _, _, _, _, _, _, _ => none
  | k + 1, x0, x1, x5, x6, x7, x8, x9, x10, x11, x12, x13, x14, x15 => if x11.toList = x6.toList then ((fairwaylaw2_num.f x12).bind fun t169 => (if t169 = x7 then (if x13.toList = x8.toList then (if x14 = x9 then ((fairwaylaw2_num.f x15).bind fun t170 => (if t170 = x10 then (fairwaylaw2_long.l0 k x0 x1 (wrap64 (x5 + 1))) else (some false))) else (some false)) else (some false)) else (some false))) else (some false)
end
def fairwaylaw2_long.f (k : Nat) (l0 : List (S27)) (a1 : Bool) : Option (Bool) := fairwaylaw2_long.l0 k l0 a1 0
theorem fairwaylaw2_long.mono_l : ∀ k, (∀ y0 y1 y2, LeO (fairwaylaw2_long.l0 k y0 y1 y2) (fairwaylaw2_long.l0 (k + 1) y0 y1 y2)) ∧ (∀ y0 y1 y2 y3, LeO (fairwaylaw2_long.j1 k y0 y1 y2 y3) (fairwaylaw2_long.j1 (k + 1) y0 y1 y2 y3)) ∧ (∀ y0 y1 y2 y3 y4 y5 y6 y7 y8 y9 y10 y11 y12, LeO (fairwaylaw2_long.j2 k y0 y1 y2 y3 y4 y5 y6 y7 y8 y9 y10 y11 y12) (fairwaylaw2_long.j2 (k + 1) y0 y1 y2 y3 y4 y5 y6 y7 y8 y9 y10 y11 y12))
  | 0 => ⟨fun _ _ _ r h => by simp [fairwaylaw2_long.l0] at h, fun _ _ _ _ r h => by simp [fairwaylaw2_long.j1] at h, fun _ _ _ _ _ _ _ _ _ _ _ _ _ r h => by simp [fairwaylaw2_long.j2] at h⟩
  | k + 1 => by
    obtain ⟨ih0, ih1, ih2⟩ := fairwaylaw2_long.mono_l k
    refine ⟨?_, ?_, ?_⟩
    · intro y0 y1 y2
      unfold fairwaylaw2_long.l0
      repeat' first
      | (with_reducible exact ih0 _ _ _)
      | (with_reducible exact ih1 _ _ _ _)
      | (with_reducible exact ih2 _ _ _ _ _ _ _ _ _ _ _ _ _)
      | (with_reducible exact fairwaylaw2_wakes.mono _)
      | (with_reducible exact fairwayref1_Long.mono _ _ _)
      | (with_reducible exact fairwayref1_TakeLong.mono _ _ _)
      | (with_reducible exact vbi_Bin.mono _ _)
      | (with_reducible exact vbi_TakeBin.mono _ _)
      | (with_reducible exact vbi_TakeText.mono _ _)
      | (with_reducible exact vbi_Text.mono _ _)
      | (with_reducible exact LeO.refl _)
      | (with_reducible exact LeO.none _)
      | (with_reducible refine LeO.ite ?_ ?_)
      | (with_reducible refine LeO.bind ?_ (fun _ => ?_))
      | exact ih0 _ _ _
      | exact ih1 _ _ _ _
      | exact ih2 _ _ _ _ _ _ _ _ _ _ _ _ _
      | exact fairwaylaw2_wakes.mono _
      | exact fairwayref1_Long.mono _ _ _
      | exact fairwayref1_TakeLong.mono _ _ _
      | exact vbi_Bin.mono _ _
      | exact vbi_TakeBin.mono _ _
      | exact vbi_TakeText.mono _ _
      | exact vbi_Text.mono _ _
      | exact LeO.none _
      | refine LeO.ite ?_ ?_
      | refine LeO.bind ?_ (fun _ => ?_)
    · intro y0 y1 y2 y3
      unfold fairwaylaw2_long.j1
      repeat' first
      | (with_reducible exact ih0 _ _ _)
      | (with_reducible exact ih1 _ _ _ _)
      | (with_reducible exact ih2 _ _ _ _ _ _ _ _ _ _ _ _ _)
      | (with_reducible exact fairwaylaw2_wakes.mono _)
      | (with_reducible exact fairwayref1_Long.mono _ _ _)
      | (with_reducible exact fairwayref1_TakeLong.mono _ _ _)
      | (with_reducible exact vbi_Bin.mono _ _)
      | (with_reducible exact vbi_TakeBin.mono _ _)
      | (with_reducible exact vbi_TakeText.mono _ _)
      | (with_reducible exact vbi_Text.mono _ _)
      | (with_reducible exact LeO.refl _)
      | (with_reducible exact LeO.none _)
      | (with_reducible refine LeO.ite ?_ ?_)
      | (with_reducible refine LeO.bind ?_ (fun _ => ?_))
      | exact ih0 _ _ _
      | exact ih1 _ _ _ _
      | exact ih2 _ _ _ _ _ _ _ _ _ _ _ _ _
      | exact fairwaylaw2_wakes.mono _
      | exact fairwayref1_Long.mono _ _ _
      | exact fairwayref1_TakeLong.mono _ _ _
      | exact vbi_Bin.mono _ _
      | exact vbi_TakeBin.mono _ _
      | exact vbi_TakeText.mono _ _
      | exact vbi_Text.mono _ _
      | exact LeO.none _
      | refine LeO.ite ?_ ?_
      | refine LeO.bind ?_ (fun _ => ?_)
    · intro y0 y1 y2 y3 y4 y5 y6 y7 y8 y9 y10 y11 y12
      unfold fairwaylaw2_long.j2
      repeat' first
      | (with_reducible exact ih0 _ _ _)
      | (with_reducible exact ih1 _ _ _ _)
      | (with_reducible exact ih2 _ _ _ _ _ _ _ _ _ _ _ _ _)
      | (with_reducible exact fairwaylaw2_wakes.mono _)
      | (with_reducible exact fairwayref1_Long.mono _ _ _)
      | (with_reducible exact fairwayref1_TakeLong.mono _ _ _)
      | (with_reducible exact vbi_Bin.mono _ _)
      | (with_reducible exact vbi_TakeBin.mono _ _)
      | (with_reducible exact vbi_TakeText.mono _ _)
      | (with_reducible exact vbi_Text.mono _ _)
      | (with_reducible exact LeO.refl _)
      | (with_reducible exact LeO.none _)
      | (with_reducible refine LeO.ite ?_ ?_)
      | (with_reducible refine LeO.bind ?_ (fun _ => ?_))
      | exact ih0 _ _ _
      | exact ih1 _ _ _ _
      | exact ih2 _ _ _ _ _ _ _ _ _ _ _ _ _
      | exact fairwaylaw2_wakes.mono _
      | exact fairwayref1_Long.mono _ _ _
      | exact fairwayref1_TakeLong.mono _ _ _
      | exact vbi_Bin.mono _ _
      | exact vbi_TakeBin.mono _ _
      | exact vbi_TakeText.mono _ _
      | exact vbi_Text.mono _ _
      | exact LeO.none _
      | refine LeO.ite ?_ ?_
      | refine LeO.bind ?_ (fun _ => ?_)
theorem fairwaylaw2_long.mono : ∀ a0 a1 k, LeO (fairwaylaw2_long.f k a0 a1) (fairwaylaw2_long.f (k + 1) a0 a1) := by
  intro a0 a1 k
  obtain ⟨ih0, ih1, ih2⟩ := fairwaylaw2_long.mono_l k
  unfold fairwaylaw2_long.f
  repeat' first
      | (with_reducible exact ih0 _ _ _)
      | (with_reducible exact ih1 _ _ _ _)
      | (with_reducible exact ih2 _ _ _ _ _ _ _ _ _ _ _ _ _)
      | (with_reducible exact fairwaylaw2_wakes.mono _)
      | (with_reducible exact fairwayref1_Long.mono _ _ _)
      | (with_reducible exact fairwayref1_TakeLong.mono _ _ _)
      | (with_reducible exact vbi_Bin.mono _ _)
      | (with_reducible exact vbi_TakeBin.mono _ _)
      | (with_reducible exact vbi_TakeText.mono _ _)
      | (with_reducible exact vbi_Text.mono _ _)
      | (with_reducible exact LeO.refl _)
      | (with_reducible exact LeO.none _)
      | (with_reducible refine LeO.ite ?_ ?_)
      | (with_reducible refine LeO.bind ?_ (fun _ => ?_))
      | exact ih0 _ _ _
      | exact ih1 _ _ _ _
      | exact ih2 _ _ _ _ _ _ _ _ _ _ _ _ _
      | exact fairwaylaw2_wakes.mono _
      | exact fairwayref1_Long.mono _ _ _
      | exact fairwayref1_TakeLong.mono _ _ _
      | exact vbi_Bin.mono _ _
      | exact vbi_TakeBin.mono _ _
      | exact vbi_TakeText.mono _ _
      | exact vbi_Text.mono _ _
      | exact LeO.none _
      | refine LeO.ite ?_ ?_
      | refine LeO.bind ?_ (fun _ => ?_)
set_option maxHeartbeats 8000000 in
set_option maxRecDepth 100000 in
theorem fairwaylaw2_long.calls (k : Nat) (A0 : Option Addr) (c0 : Nat) (l0 : List (S27)) (a1 : Bool) (r : Bool) (w : World) (hr0 : Kd.C k27 w A0 l0.length l0) (hc0 : l0.length ≤ c0) (HLAID : Laid w) (h : fairwaylaw2_long.f k l0 a1 = some r) :
    Calls Tryd.prog 5 #[.slice A0 l0.length c0, .bool a1] w fun e w' => e = .returned (.bool r) ∧ Below w.heap.size w w' := by
  have hu27 := Tryd.underlying27
  have HR0 := Aside0.mk hr0
  have HC0 := Aside0.mk hc0
  clear hr0 hc0
  have HB := Aside0.mk (Below.refl w.heap.size w)
  have H : (fairwaylaw2_long.l0 k l0 a1 0) = some r := h
  clear h
  have H' := Aside0.mk H
  clear H
  go_enter Tryd.func5, Tryd.ntmps5
  go_wp2
  go_loopg [5] k (fun kq v5 w' => ∃ (x5_1 : Int), v5 = .int .i64 x5_1 ∧ Aside0 (fairwaylaw2_long.l0 kq l0 a1 x5_1 = some r) ∧ Aside0 (kq ≤ k) ∧ Aside0 (Below w.heap.size w w'))
  case atStart => exact ⟨(0), (by first | rfl | (simp; done) | (simp [*]; done)), H', ⟨Nat.le_refl _⟩, ⟨by repeat (first | (with_reducible first | exact HB.out | apply below_alloc | apply pw_below_drewN | apply below_drew1) | exact HB.out)⟩⟩
  case round =>
    as_aux_lemma =>
      clear H'
      try clear p2
      obtain ⟨x5_1, rfl, HA, HK1, HB⟩ := hrel
      cases gk with
      | zero => exact absurd HA.out (by simp [fairwaylaw2_long.l0])
      | succ k1 =>
        have H := HA.out
        clear HA
        simp only [fairwaylaw2_long.l0] at H
        have HC3 := Aside0.mk H
        clear H
        go_upto_region 2 with (fail)
        go_cut [23] (fun v23 wc => ∃ (kq : Nat) (x23_2 : Bool), v23 = .bool x23_2 ∧ Aside0 (fairwaylaw2_long.j1 kq l0 a1 x5_1 x23_2 = some r) ∧ Aside0 (kq ≤ k1) ∧ Aside0 (Below w.heap.size w wc))
        case first =>
          have H := HC3.out
          clear HC3
          by_cases c4 : x5_1 < (l0.length : Int)
          · rw [if_pos c4] at H
            have c4b0 : decide (x5_1 < (l0.length : Int)) = true := decide_eq_true c4
            clear c4
            (first | rw [c4b0] | (simp only [i64_w, i32_w]; rw [c4b0]) | skip)
            have H' := Aside0.mk H
            clear H
            go_wp2
            go_meet
            case rel => exact ⟨_, (decide (x5_1 < 15)), (by first | rfl | (simp; done) | (simp [*]; done)), H', ⟨by have := HK1.out; first | omega | exact Nat.le_refl _⟩, ⟨by repeat (first | (with_reducible first | exact HB.out | apply below_alloc | apply pw_below_drewN | apply below_drew1) | exact HB.out)⟩⟩
          · rw [if_neg c4] at H
            have c4b0 : decide (x5_1 < (l0.length : Int)) = false := decide_eq_false c4
            clear c4
            (first | rw [c4b0] | (simp only [i64_w, i32_w]; rw [c4b0]) | skip)
            have H' := Aside0.mk H
            clear H
            go_wp2
            go_meet
            case rel => exact ⟨_, (false), (by first | rfl | (simp; done) | (simp [*]; done)), H', ⟨by have := HK1.out; first | omega | exact Nat.le_refl _⟩, ⟨by repeat (first | (with_reducible first | exact HB.out | apply below_alloc | apply pw_below_drewN | apply below_drew1) | exact HB.out)⟩⟩
        case rest =>
          as_aux_lemma =>
            clear HC3
            try clear p2
            try clear c4
            try clear c4b0
            try clear p2
            obtain ⟨kq, x23_2, rfl, HA, HJ2, HB⟩ := hcut
            cases kq with
            | zero => exact absurd HA.out (by simp [fairwaylaw2_long.j1])
            | succ kj2 =>
              have H := HA.out
              clear HA
              simp only [fairwaylaw2_long.j1] at H
              by_cases c5 : x23_2 = true
              · subst c5
                have H1 : (if 0 ≤ x5_1 then (if x5_1 < (l0.length : Int) then ((fairwaylaw2_heavy.f ((rd_T27 l0 x5_1).f0) ((rd_T27 l0 x5_1).f1) ((rd_T27 l0 x5_1).f2)).bind fun t147 => (if t147 = true then (some true) else ((fairwayref1_Long.f kj2 ((rd_T27 l0 x5_1).f1) a1).bind fun bt149 => ((fairwayref1_TakeLong.f kj2 ((rd_T27 l0 x5_1).f2) a1).bind fun bt152 => ((vbi_Text.f kj2 ((rd_T27 l0 x5_1).f1)).bind fun bt156 => ((vbi_TakeText.f kj2 ((rd_T27 l0 x5_1).f2)).bind fun bt159 => (if a1 = true then (fairwaylaw2_long.j2 kj2 l0 a1 x5_1 bt149.1 bt149.2 bt152.1 bt152.2.1 bt152.2.2 bt156.1 bt156.2 bt159.1 bt159.2.1 bt159.2.2) else ((vbi_Bin.f kj2 ((rd_T27 l0 x5_1).f1)).bind fun bt163 => ((vbi_TakeBin.f kj2 ((rd_T27 l0 x5_1).f2)).bind fun bt166 => (fairwaylaw2_long.j2 kj2 l0 a1 x5_1 bt149.1 bt149.2 bt152.1 bt152.2.1 bt152.2.2 bt163.1 bt163.2 bt166.1 bt166.2.1 bt166.2.2)))))))))) else (none)) else (none)) = some r := by rw [if_pos rfl] at H; exact H
                clear H
                have H := H1
                clear H1
                by_cases c6 : 0 ≤ x5_1
                · rw [if_pos c6] at H
                  have c6b0 : decide (0 ≤ x5_1) = true := decide_eq_true c6
                  clear c6
                  by_cases c7 : x5_1 < (l0.length : Int)
                  · rw [if_pos c7] at H
                    have c7b0 : decide (x5_1 < (l0.length : Int)) = true := decide_eq_true c7
                    clear c7
                    replace H := Option.bind_eq_some_iff.mp H
                    obtain ⟨t147, A80, H⟩ := H
                    replace H : (if t147 = true then (some true) else ((fairwayref1_Long.f kj2 ((rd_T27 l0 x5_1).f1) a1).bind fun bt149 => ((fairwayref1_TakeLong.f kj2 ((rd_T27 l0 x5_1).f2) a1).bind fun bt152 => ((vbi_Text.f kj2 ((rd_T27 l0 x5_1).f1)).bind fun bt156 => ((vbi_TakeText.f kj2 ((rd_T27 l0 x5_1).f2)).bind fun bt159 => (if a1 = true then (fairwaylaw2_long.j2 kj2 l0 a1 x5_1 bt149.1 bt149.2 bt152.1 bt152.2.1 bt152.2.2 bt156.1 bt156.2 bt159.1 bt159.2.1 bt159.2.2) else ((vbi_Bin.f kj2 ((rd_T27 l0 x5_1).f1)).bind fun bt163 => ((vbi_TakeBin.f kj2 ((rd_T27 l0 x5_1).f2)).bind fun bt166 => (fairwaylaw2_long.j2 kj2 l0 a1 x5_1 bt149.1 bt149.2 bt152.1 bt152.2.1 bt152.2.2 bt163.1 bt163.2 bt166.1 bt166.2.1 bt166.2.2))))))))) = some r := H
                    have A8 := Aside0.mk A80
                    clear A80
                    by_cases c9 : t147 = true
                    · subst c9
                      have H1 : (some true) = some r := by rw [if_pos rfl] at H; exact H
                      clear H
                      have H := H1
                      clear H1
                      obtain rfl := Option.some.inj H
                      have p146 : 0 ≤ (x5_1 : Int) := of_decide_eq_true (by first | (with_reducible assumption) | assumption)
                      have q146 : x5_1 < (l0.length : Int) := of_decide_eq_true (by first | (with_reducible assumption) | assumption)
                      obtain ⟨ad146, e146, hx146_0, hx146_1, hx146_2⟩ := at_T27 HR0.out x5_1 p146 q146
                      cases e146
                      replace hx146_0 := (HB.out.cell (World.block_lt_of_cell? w _ hx146_0)).trans hx146_0
                      replace hx146_1 := (HB.out.cell (World.block_lt_of_cell? w _ hx146_1)).trans hx146_1
                      replace hx146_2 := (HB.out.cell (World.block_lt_of_cell? w _ hx146_2)).trans hx146_2
                      replace p146 := eq_true p146
                      replace q146 := eq_true q146
                      go_wp2_with (first | ((with_reducible refine gate_callee (f := 6) rfl ?_); refine goesL_ (some 30) rfl rfl Tryd.func6 (by kernel_rfl) rfl #[.agg #[.int .i64 ((rd_T27 l0 x5_1).f0), .string ((rd_T27 l0 x5_1).f1), .string ((rd_T27 l0 x5_1).f2)]] rfl (by (try simp only [List.map_toArray, List.map_cons, List.map_nil]); first | done | rfl | (simp only [List.length_drop, List.length_take]; rfl)) ?_; (with_reducible refine (fairwaylaw2_heavy.calls ((rd_T27 l0 x5_1).f0) ((rd_T27 l0 x5_1).f1) ((rd_T27 l0 x5_1).f2) true _ A8.out).mono ?_); rintro e w10 ⟨rfl, hb⟩; refine ⟨_, rfl, ?_⟩; have n0_ := Aside0.mk (below_step (by repeat (first | (with_reducible first | exact HB.out | apply below_alloc | apply pw_below_drewN | apply below_drew1) | exact HB.out)) hb); clear HB; have HB := n0_; clear n0_; (try clear hb); (try clear hb2); (try clear hk); (try clear hi)))
                      go_ret
                      exact ⟨by first | rfl | (simp [errW_none, errW_some] <;> rfl) | (simp [*, errW_none, errW_some] <;> rfl), by repeat (first | (with_reducible first | exact HB.out | apply below_alloc | apply pw_below_drewN | apply below_drew1) | exact HB.out)⟩
                    · replace c9 := Bool.eq_false_iff.mpr c9
                      subst c9
                      have H1 : ((fairwayref1_Long.f kj2 ((rd_T27 l0 x5_1).f1) a1).bind fun bt149 => ((fairwayref1_TakeLong.f kj2 ((rd_T27 l0 x5_1).f2) a1).bind fun bt152 => ((vbi_Text.f kj2 ((rd_T27 l0 x5_1).f1)).bind fun bt156 => ((vbi_TakeText.f kj2 ((rd_T27 l0 x5_1).f2)).bind fun bt159 => (if a1 = true then (fairwaylaw2_long.j2 kj2 l0 a1 x5_1 bt149.1 bt149.2 bt152.1 bt152.2.1 bt152.2.2 bt156.1 bt156.2 bt159.1 bt159.2.1 bt159.2.2) else ((vbi_Bin.f kj2 ((rd_T27 l0 x5_1).f1)).bind fun bt163 => ((vbi_TakeBin.f kj2 ((rd_T27 l0 x5_1).f2)).bind fun bt166 => (fairwaylaw2_long.j2 kj2 l0 a1 x5_1 bt149.1 bt149.2 bt152.1 bt152.2.1 bt152.2.2 bt163.1 bt163.2 bt166.1 bt166.2.1 bt166.2.2)))))))) = some r := by rw [if_neg (show ¬ (false = true) by decide)] at H; exact H
                      clear H
                      have H := H1
                      clear H1
                      replace H := Option.bind_eq_some_iff.mp H
                      obtain ⟨⟨t149, t150⟩, A110, H⟩ := H
                      replace H : ((fairwayref1_TakeLong.f kj2 ((rd_T27 l0 x5_1).f2) a1).bind fun bt152 => ((vbi_Text.f kj2 ((rd_T27 l0 x5_1).f1)).bind fun bt156 => ((vbi_TakeText.f kj2 ((rd_T27 l0 x5_1).f2)).bind fun bt159 => (if a1 = true then (fairwaylaw2_long.j2 kj2 l0 a1 x5_1 t149 t150 bt152.1 bt152.2.1 bt152.2.2 bt156.1 bt156.2 bt159.1 bt159.2.1 bt159.2.2) else ((vbi_Bin.f kj2 ((rd_T27 l0 x5_1).f1)).bind fun bt163 => ((vbi_TakeBin.f kj2 ((rd_T27 l0 x5_1).f2)).bind fun bt166 => (fairwaylaw2_long.j2 kj2 l0 a1 x5_1 t149 t150 bt152.1 bt152.2.1 bt152.2.2 bt163.1 bt163.2 bt166.1 bt166.2.1 bt166.2.2))))))) = some r := H
                      have A11 := Aside0.mk A110
                      clear A110
                      replace H := Option.bind_eq_some_iff.mp H
                      obtain ⟨⟨t152, t153, t154⟩, A120, H⟩ := H
                      replace H : ((vbi_Text.f kj2 ((rd_T27 l0 x5_1).f1)).bind fun bt156 => ((vbi_TakeText.f kj2 ((rd_T27 l0 x5_1).f2)).bind fun bt159 => (if a1 = true then (fairwaylaw2_long.j2 kj2 l0 a1 x5_1 t149 t150 t152 t153 t154 bt156.1 bt156.2 bt159.1 bt159.2.1 bt159.2.2) else ((vbi_Bin.f kj2 ((rd_T27 l0 x5_1).f1)).bind fun bt163 => ((vbi_TakeBin.f kj2 ((rd_T27 l0 x5_1).f2)).bind fun bt166 => (fairwaylaw2_long.j2 kj2 l0 a1 x5_1 t149 t150 t152 t153 t154 bt163.1 bt163.2 bt166.1 bt166.2.1 bt166.2.2)))))) = some r := H
                      have A12 := Aside0.mk A120
                      clear A120
                      replace H := Option.bind_eq_some_iff.mp H
                      obtain ⟨⟨t156, t157⟩, A130, H⟩ := H
                      replace H : ((vbi_TakeText.f kj2 ((rd_T27 l0 x5_1).f2)).bind fun bt159 => (if a1 = true then (fairwaylaw2_long.j2 kj2 l0 a1 x5_1 t149 t150 t152 t153 t154 t156 t157 bt159.1 bt159.2.1 bt159.2.2) else ((vbi_Bin.f kj2 ((rd_T27 l0 x5_1).f1)).bind fun bt163 => ((vbi_TakeBin.f kj2 ((rd_T27 l0 x5_1).f2)).bind fun bt166 => (fairwaylaw2_long.j2 kj2 l0 a1 x5_1 t149 t150 t152 t153 t154 bt163.1 bt163.2 bt166.1 bt166.2.1 bt166.2.2))))) = some r := H
                      have A13 := Aside0.mk A130
                      clear A130
                      replace H := Option.bind_eq_some_iff.mp H
                      obtain ⟨⟨t159, t160, t161⟩, A140, H⟩ := H
                      replace H : (if a1 = true then (fairwaylaw2_long.j2 kj2 l0 a1 x5_1 t149 t150 t152 t153 t154 t156 t157 t159 t160 t161) else ((vbi_Bin.f kj2 ((rd_T27 l0 x5_1).f1)).bind fun bt163 => ((vbi_TakeBin.f kj2 ((rd_T27 l0 x5_1).f2)).bind fun bt166 => (fairwaylaw2_long.j2 kj2 l0 a1 x5_1 t149 t150 t152 t153 t154 bt163.1 bt163.2 bt166.1 bt166.2.1 bt166.2.2)))) = some r := H
                      have A14 := Aside0.mk A140
                      clear A140
                      have HC15 := Aside0.mk H
                      clear H
                      have p146 : 0 ≤ (x5_1 : Int) := of_decide_eq_true (by first | (with_reducible assumption) | assumption)
                      have q146 : x5_1 < (l0.length : Int) := of_decide_eq_true (by first | (with_reducible assumption) | assumption)
                      obtain ⟨ad146, e146, hx146_0, hx146_1, hx146_2⟩ := at_T27 HR0.out x5_1 p146 q146
                      cases e146
                      replace hx146_0 := (HB.out.cell (World.block_lt_of_cell? w _ hx146_0)).trans hx146_0
                      replace hx146_1 := (HB.out.cell (World.block_lt_of_cell? w _ hx146_1)).trans hx146_1
                      replace hx146_2 := (HB.out.cell (World.block_lt_of_cell? w _ hx146_2)).trans hx146_2
                      replace p146 := eq_true p146
                      replace q146 := eq_true q146
                      go_upto_if 72 with (first | ((with_reducible refine gate_callee (f := 6) rfl ?_); refine goesL_ (some 30) rfl rfl Tryd.func6 (by kernel_rfl) rfl #[.agg #[.int .i64 ((rd_T27 l0 x5_1).f0), .string ((rd_T27 l0 x5_1).f1), .string ((rd_T27 l0 x5_1).f2)]] rfl (by (try simp only [List.map_toArray, List.map_cons, List.map_nil]); first | done | rfl | (simp only [List.length_drop, List.length_take]; rfl)) ?_; (with_reducible refine (fairwaylaw2_heavy.calls ((rd_T27 l0 x5_1).f0) ((rd_T27 l0 x5_1).f1) ((rd_T27 l0 x5_1).f2) false _ A8.out).mono ?_); rintro e w16 ⟨rfl, hb⟩; refine ⟨_, rfl, ?_⟩; have n0_ := Aside0.mk (below_step (by repeat (first | (with_reducible first | exact HB.out | apply below_alloc | apply pw_below_drewN | apply below_drew1) | exact HB.out)) hb); clear HB; have HB := n0_; clear n0_; (try clear hb); (try clear hb2); (try clear hk); (try clear hi); have p148 : 0 ≤ (x5_1 : Int) := of_decide_eq_true (by first | (with_reducible assumption) | assumption); have q148 : x5_1 < (l0.length : Int) := of_decide_eq_true (by first | (with_reducible assumption) | assumption); obtain ⟨ad148, e148, hx148_0, hx148_1, hx148_2⟩ := at_T27 HR0.out x5_1 p148 q148; obtain rfl : ad146 = ad148 := (by injection e148); replace hx148_0 := (HB.out.cell (World.block_lt_of_cell? w _ hx148_0)).trans hx148_0; replace hx148_1 := (HB.out.cell (World.block_lt_of_cell? w _ hx148_1)).trans hx148_1; replace hx148_2 := (HB.out.cell (World.block_lt_of_cell? w _ hx148_2)).trans hx148_2; replace p148 := eq_true p148; replace q148 := eq_true q148) | ((with_reducible refine gate_callee (f := 7) rfl ?_); refine goesL_ (some 38) rfl rfl Tryd.func7 (by kernel_rfl) rfl #[.string ((rd_T27 l0 x5_1).f1), .bool a1] rfl (by (try simp only [List.map_toArray, List.map_cons, List.map_nil]); first | done | rfl | (simp only [List.length_drop, List.length_take]; rfl)) ?_; (with_reducible refine (fairwayref1_Long.calls kj2 ((rd_T27 l0 x5_1).f1) a1 t149 t150 _ A11.out).mono ?_); rintro e w17 ⟨rfl, hb⟩; refine ⟨_, rfl, ?_⟩; have n0_ := Aside0.mk (below_step (by repeat (first | (with_reducible first | exact HB.out | apply below_alloc | apply pw_below_drewN | apply below_drew1) | exact HB.out)) hb); clear HB; have HB := n0_; clear n0_; (try clear hb); (try clear hb2); (try clear hk); (try clear hi); have p151 : 0 ≤ (x5_1 : Int) := of_decide_eq_true (by first | (with_reducible assumption) | assumption); have q151 : x5_1 < (l0.length : Int) := of_decide_eq_true (by first | (with_reducible assumption) | assumption); obtain ⟨ad151, e151, hx151_0, hx151_1, hx151_2⟩ := at_T27 HR0.out x5_1 p151 q151; obtain rfl : ad146 = ad151 := (by injection e151); replace hx151_0 := (HB.out.cell (World.block_lt_of_cell? w _ hx151_0)).trans hx151_0; replace hx151_1 := (HB.out.cell (World.block_lt_of_cell? w _ hx151_1)).trans hx151_1; replace hx151_2 := (HB.out.cell (World.block_lt_of_cell? w _ hx151_2)).trans hx151_2; replace p151 := eq_true p151; replace q151 := eq_true q151) | ((with_reducible refine gate_callee (f := 8) rfl ?_); refine goesL_ (some 48) rfl rfl Tryd.func8 (by kernel_rfl) rfl #[.string ((rd_T27 l0 x5_1).f2), .bool a1] rfl (by (try simp only [List.map_toArray, List.map_cons, List.map_nil]); first | done | rfl | (simp only [List.length_drop, List.length_take]; rfl)) ?_; (with_reducible refine (fairwayref1_TakeLong.calls kj2 ((rd_T27 l0 x5_1).f2) a1 t152 t153 t154 _ A12.out).mono ?_); rintro e w' ⟨rfl, ⟨nd, rfl⟩⟩; refine ⟨_, rfl, ?_⟩; have p155 : 0 ≤ (x5_1 : Int) := of_decide_eq_true (by first | (with_reducible assumption) | assumption); have q155 : x5_1 < (l0.length : Int) := of_decide_eq_true (by first | (with_reducible assumption) | assumption); obtain ⟨ad155, e155, hx155_0, hx155_1, hx155_2⟩ := at_T27 HR0.out x5_1 p155 q155; obtain rfl : ad146 = ad155 := (by injection e155); replace hx155_0 := (HB.out.cell (World.block_lt_of_cell? w _ hx155_0)).trans hx155_0; replace hx155_1 := (HB.out.cell (World.block_lt_of_cell? w _ hx155_1)).trans hx155_1; replace hx155_2 := (HB.out.cell (World.block_lt_of_cell? w _ hx155_2)).trans hx155_2; replace p155 := eq_true p155; replace q155 := eq_true q155) | ((with_reducible refine gate_callee (f := 9) rfl ?_); refine goesL_ (some 58) rfl rfl Tryd.func9 (by kernel_rfl) rfl #[.string ((rd_T27 l0 x5_1).f1)] rfl (by (try simp only [List.map_toArray, List.map_cons, List.map_nil]); first | done | rfl | (simp only [List.length_drop, List.length_take]; rfl)) ?_; (with_reducible refine (vbi_Text.calls kj2 ((rd_T27 l0 x5_1).f1) t156 t157 _ (by first | exact HLAID | exact HLAID.below (by repeat (first | (with_reducible first | exact HB.out | apply below_alloc | apply pw_below_drewN | apply below_drew1) | exact HB.out))) A13.out).mono ?_); rintro e w18 ⟨rfl, hb⟩; refine ⟨_, rfl, ?_⟩; have n0_ := Aside0.mk (below_step (by repeat (first | (with_reducible first | exact HB.out | apply below_alloc | apply pw_below_drewN | apply below_drew1) | exact HB.out)) hb); clear HB; have HB := n0_; clear n0_; (try clear hb); (try clear hb2); (try clear hk); (try clear hi); have p158 : 0 ≤ (x5_1 : Int) := of_decide_eq_true (by first | (with_reducible assumption) | assumption); have q158 : x5_1 < (l0.length : Int) := of_decide_eq_true (by first | (with_reducible assumption) | assumption); obtain ⟨ad158, e158, hx158_0, hx158_1, hx158_2⟩ := at_T27 HR0.out x5_1 p158 q158; obtain rfl : ad146 = ad158 := (by injection e158); replace hx158_0 := (HB.out.cell (World.block_lt_of_cell? w _ hx158_0)).trans hx158_0; replace hx158_1 := (HB.out.cell (World.block_lt_of_cell? w _ hx158_1)).trans hx158_1; replace hx158_2 := (HB.out.cell (World.block_lt_of_cell? w _ hx158_2)).trans hx158_2; replace p158 := eq_true p158; replace q158 := eq_true q158) | ((with_reducible refine gate_callee (f := 10) rfl ?_); refine goesL_ (some 67) rfl rfl Tryd.func10 (by kernel_rfl) rfl #[.string ((rd_T27 l0 x5_1).f2)] rfl (by (try simp only [List.map_toArray, List.map_cons, List.map_nil]); first | done | rfl | (simp only [List.length_drop, List.length_take]; rfl)) ?_; (with_reducible refine (vbi_TakeText.calls kj2 ((rd_T27 l0 x5_1).f2) t159 t160 t161 _ (by first | exact HLAID | exact HLAID.below (by repeat (first | (with_reducible first | exact HB.out | apply below_alloc | apply pw_below_drewN | apply below_drew1) | exact HB.out))) A14.out).mono ?_); rintro e w19 ⟨rfl, hb⟩; refine ⟨_, rfl, ?_⟩; have n0_ := Aside0.mk (below_step (by repeat (first | (with_reducible first | exact HB.out | apply below_alloc | apply pw_below_drewN | apply below_drew1) | exact HB.out)) hb); clear HB; have HB := n0_; clear n0_; (try clear hb); (try clear hb2); (try clear hk); (try clear hi)))
                      (try simp only [Act.put, List.setIfInBounds_toArray, List.set_cons_zero, List.set_cons_succ])
                      go_cut [11, 12, 13, 14, 15] (fun v11 v12 v13 v14 v15 wc => ∃ (kq : Nat) (x11_14 : ByteArray) (x12_14 : Int) (x13_14 : ByteArray) (x14_14 : Int) (x15_14 : Int), v11 = .string x11_14 ∧ v12 = .int .i64 x12_14 ∧ v13 = .string x13_14 ∧ v14 = .int .i64 x14_14 ∧ v15 = .int .i64 x15_14 ∧ Aside0 (fairwaylaw2_long.j2 kq l0 a1 x5_1 t149 t150 t152 t153 t154 x11_14 x12_14 x13_14 x14_14 x15_14 = some r) ∧ Aside0 (kq ≤ kj2) ∧ Aside0 (Below w.heap.size w wc))
                      case first =>
                        have H := HC15.out
                        clear HC15
                        by_cases c20 : a1 = true
                        · subst c20
                          have H1 : (fairwaylaw2_long.j2 kj2 l0 true x5_1 t149 t150 t152 t153 t154 t156 t157 t159 t160 t161) = some r := by rw [if_pos rfl] at H; exact H
                          clear H
                          have H := H1
                          clear H1
                          have H' := Aside0.mk H
                          clear H
                          go_wp2
                          go_meet
                          case rel => exact ⟨_, (t156), (t157), (t159), (t160), (t161), (by first | rfl | (simp; done) | (simp [*]; done)), (by first | rfl | (simp; done) | (simp [*]; done)), (by first | rfl | (simp; done) | (simp [*]; done)), (by first | rfl | (simp; done) | (simp [*]; done)), (by first | rfl | (simp; done) | (simp [*]; done)), H', ⟨by have := HK1.out; have := HJ2.out; first | omega | exact Nat.le_refl _⟩, ⟨by repeat (first | (with_reducible first | exact HB.out | apply below_alloc | apply pw_below_drewN | apply below_drew1) | exact HB.out)⟩⟩
                        · replace c20 := Bool.eq_false_iff.mpr c20
                          subst c20
                          have H1 : ((vbi_Bin.f kj2 ((rd_T27 l0 x5_1).f1)).bind fun bt163 => ((vbi_TakeBin.f kj2 ((rd_T27 l0 x5_1).f2)).bind fun bt166 => (fairwaylaw2_long.j2 kj2 l0 false x5_1 t149 t150 t152 t153 t154 bt163.1 bt163.2 bt166.1 bt166.2.1 bt166.2.2))) = some r := by rw [if_neg (show ¬ (false = true) by decide)] at H; exact H
                          clear H
                          have H := H1
                          clear H1
                          replace H := Option.bind_eq_some_iff.mp H
                          obtain ⟨⟨t163, t164⟩, A210, H⟩ := H
                          replace H : ((vbi_TakeBin.f kj2 ((rd_T27 l0 x5_1).f2)).bind fun bt166 => (fairwaylaw2_long.j2 kj2 l0 false x5_1 t149 t150 t152 t153 t154 t163 t164 bt166.1 bt166.2.1 bt166.2.2)) = some r := H
                          have A21 := Aside0.mk A210
                          clear A210
                          replace H := Option.bind_eq_some_iff.mp H
                          obtain ⟨⟨t166, t167, t168⟩, A220, H⟩ := H
                          replace H : (fairwaylaw2_long.j2 kj2 l0 false x5_1 t149 t150 t152 t153 t154 t163 t164 t166 t167 t168) = some r := H
                          have A22 := Aside0.mk A220
                          clear A220
                          have H' := Aside0.mk H
                          clear H
                          have p162 : 0 ≤ (x5_1 : Int) := of_decide_eq_true (by first | (with_reducible assumption) | assumption)
                          have q162 : x5_1 < (l0.length : Int) := of_decide_eq_true (by first | (with_reducible assumption) | assumption)
                          obtain ⟨ad162, e162, hx162_0, hx162_1, hx162_2⟩ := at_T27 HR0.out x5_1 p162 q162
                          obtain rfl : ad146 = ad162 := (by injection e162)
                          replace hx162_0 := (HB.out.cell (World.block_lt_of_cell? w _ hx162_0)).trans hx162_0
                          replace hx162_1 := (HB.out.cell (World.block_lt_of_cell? w _ hx162_1)).trans hx162_1
                          replace hx162_2 := (HB.out.cell (World.block_lt_of_cell? w _ hx162_2)).trans hx162_2
                          replace p162 := eq_true p162
                          replace q162 := eq_true q162
                          go_wp2_with (first | ((with_reducible refine gate_callee (f := 11) rfl ?_); refine goesL_ (some 79) rfl rfl Tryd.func11 (by kernel_rfl) rfl #[.string ((rd_T27 l0 x5_1).f1)] rfl (by (try simp only [List.map_toArray, List.map_cons, List.map_nil]); first | done | rfl | (simp only [List.length_drop, List.length_take]; rfl)) ?_; (with_reducible refine (vbi_Bin.calls kj2 ((rd_T27 l0 x5_1).f1) t163 t164 _ A21.out).mono ?_); rintro e w23 ⟨rfl, hb⟩; refine ⟨_, rfl, ?_⟩; have n0_ := Aside0.mk (below_step (by repeat (first | (with_reducible first | exact HB.out | apply below_alloc | apply pw_below_drewN | apply below_drew1) | exact HB.out)) hb); clear HB; have HB := n0_; clear n0_; (try clear hb); (try clear hb2); (try clear hk); (try clear hi); have p165 : 0 ≤ (x5_1 : Int) := of_decide_eq_true (by first | (with_reducible assumption) | assumption); have q165 : x5_1 < (l0.length : Int) := of_decide_eq_true (by first | (with_reducible assumption) | assumption); obtain ⟨ad165, e165, hx165_0, hx165_1, hx165_2⟩ := at_T27 HR0.out x5_1 p165 q165; obtain rfl : ad146 = ad165 := (by injection e165); replace hx165_0 := (HB.out.cell (World.block_lt_of_cell? w _ hx165_0)).trans hx165_0; replace hx165_1 := (HB.out.cell (World.block_lt_of_cell? w _ hx165_1)).trans hx165_1; replace hx165_2 := (HB.out.cell (World.block_lt_of_cell? w _ hx165_2)).trans hx165_2; replace p165 := eq_true p165; replace q165 := eq_true q165) | ((with_reducible refine gate_callee (f := 12) rfl ?_); refine goesL_ (some 88) rfl rfl Tryd.func12 (by kernel_rfl) rfl #[.string ((rd_T27 l0 x5_1).f2)] rfl (by (try simp only [List.map_toArray, List.map_cons, List.map_nil]); first | done | rfl | (simp only [List.length_drop, List.length_take]; rfl)) ?_; (with_reducible refine (vbi_TakeBin.calls kj2 ((rd_T27 l0 x5_1).f2) t166 t167 t168 _ A22.out).mono ?_); rintro e w' ⟨rfl, ⟨nd, rfl⟩⟩; refine ⟨_, rfl, ?_⟩))
                          go_meet
                          case rel => exact ⟨_, (t163), (t164), (t166), (t167), (t168), (by first | rfl | (simp; done) | (simp [*]; done)), (by first | rfl | (simp; done) | (simp [*]; done)), (by first | rfl | (simp; done) | (simp [*]; done)), (by first | rfl | (simp; done) | (simp [*]; done)), (by first | rfl | (simp; done) | (simp [*]; done)), H', ⟨by have := HK1.out; have := HJ2.out; first | omega | exact Nat.le_refl _⟩, ⟨by repeat (first | (with_reducible first | exact HB.out | apply below_alloc | apply pw_below_drewN | apply below_drew1) | exact HB.out)⟩⟩
                      case rest =>
                        as_aux_lemma =>
                          clear HC15
                          try clear c1
                          try clear p1
                          try clear q1
                          try clear hx1
                          try clear c2
                          try clear p2
                          try clear c4
                          try clear c4b0
                          try clear c5
                          try clear c6
                          try clear c6b0
                          try clear c7
                          try clear c7b0
                          try clear c8
                          try clear c9
                          try clear c10
                          try clear c11
                          try clear c12
                          try clear p14
                          try clear q14
                          try clear hx14
                          try clear p15
                          try clear q15
                          try clear hx15
                          try clear p16
                          try clear q16
                          try clear hx16
                          try clear c20
                          try clear hx146_0
                          try clear hx146_1
                          try clear hx146_2
                          try clear hx148_0
                          try clear hx148_1
                          try clear hx148_2
                          try clear hx151_0
                          try clear hx151_1
                          try clear hx151_2
                          try clear hx155_0
                          try clear hx155_1
                          try clear hx155_2
                          try clear hx158_0
                          try clear hx158_1
                          try clear hx158_2
                          try clear hx162_0
                          try clear hx162_1
                          try clear hx162_2
                          try clear hx165_0
                          try clear hx165_1
                          try clear hx165_2
                          try clear p146
                          try clear p148
                          try clear p151
                          try clear p155
                          try clear p158
                          try clear p162
                          try clear p165
                          try clear p2
                          try clear q146
                          try clear q148
                          try clear q151
                          try clear q155
                          try clear q158
                          try clear q162
                          try clear q165
                          obtain ⟨kq, x11_14, x12_14, x13_14, x14_14, x15_14, rfl, rfl, rfl, rfl, rfl, HA, HJ14, HB⟩ := hcut
                          cases kq with
                          | zero => exact absurd HA.out (by simp [fairwaylaw2_long.j2])
                          | succ kj14 =>
                            have H := HA.out
                            clear HA
                            simp only [fairwaylaw2_long.j2] at H
                            by_cases c24 : x11_14.toList = t149.toList
                            · rw [if_pos c24] at H
                              have c24b0 : (x11_14.toList == t149.toList) = true := beq_iff_eq.mpr c24
                              have c24b1 : (x11_14.toList != t149.toList) = false := bne_eq_false_iff_eq.mpr c24
                              clear c24
                              replace H := Option.bind_eq_some_iff.mp H
                              obtain ⟨t169, A250, H⟩ := H
                              replace H : (if t169 = t150 then (if x13_14.toList = t152.toList then (if x14_14 = t153 then ((fairwaylaw2_num.f x15_14).bind fun t170 => (if t170 = t154 then (fairwaylaw2_long.l0 kj14 l0 a1 (wrap64 (x5_1 + 1))) else (some false))) else (some false)) else (some false)) else (some false)) = some r := H
                              have A25 := Aside0.mk A250
                              clear A250
                              by_cases c26 : t169 = t150
                              · rw [if_pos c26] at H
                                have c26b0 : (t169 == t150) = true := beq_iff_eq.mpr c26
                                have c26b1 : (t169 != t150) = false := bne_eq_false_iff_eq.mpr c26
                                clear c26
                                by_cases c27 : x13_14.toList = t152.toList
                                · rw [if_pos c27] at H
                                  have c27b0 : (x13_14.toList == t152.toList) = true := beq_iff_eq.mpr c27
                                  have c27b1 : (x13_14.toList != t152.toList) = false := bne_eq_false_iff_eq.mpr c27
                                  clear c27
                                  by_cases c28 : x14_14 = t153
                                  · rw [if_pos c28] at H
                                    have c28b0 : (x14_14 == t153) = true := beq_iff_eq.mpr c28
                                    have c28b1 : (x14_14 != t153) = false := bne_eq_false_iff_eq.mpr c28
                                    clear c28
                                    replace H := Option.bind_eq_some_iff.mp H
                                    obtain ⟨t170, A290, H⟩ := H
                                    replace H : (if t170 = t154 then (fairwaylaw2_long.l0 kj14 l0 a1 (wrap64 (x5_1 + 1))) else (some false)) = some r := H
                                    have A29 := Aside0.mk A290
                                    clear A290
                                    by_cases c30 : t170 = t154
                                    · rw [if_pos c30] at H
                                      have c30b0 : (t170 == t154) = true := beq_iff_eq.mpr c30
                                      have c30b1 : (t170 != t154) = false := bne_eq_false_iff_eq.mpr c30
                                      clear c30
                                      have H' := Aside0.mk H
                                      clear H
                                      go_wp2_with (first | (go_at_call 13; (with_reducible refine (fairwaylaw2_num.calls x12_14 t169 _ A25.out).mono ?_); rintro e w' ⟨rfl, ⟨nd, rfl⟩⟩) | (go_at_call 13; (with_reducible refine (fairwaylaw2_num.calls x15_14 t170 _ A29.out).mono ?_); rintro e w' ⟨rfl, ⟨nd, rfl⟩⟩))
                                      go_roundg kj14
                                      case measure => have := HK1.out; have := HJ2.out; have := HJ14.out; omega
                                      case rel => exact ⟨(wrap64 (x5_1 + 1)), (by first | rfl | (simp; done) | (simp [*]; done)), H', ⟨by have := HK1.out; have := HJ2.out; have := HJ14.out; omega⟩, ⟨by repeat (first | (with_reducible first | exact HB.out | apply below_alloc | apply pw_below_drewN | apply below_drew1) | exact HB.out)⟩⟩
                                    · rw [if_neg c30] at H
                                      have c30b0 : (t170 == t154) = false := beq_eq_false_iff_ne.mpr c30
                                      have c30b1 : (t170 != t154) = true := bne_iff_ne.mpr c30
                                      obtain rfl := Option.some.inj H
                                      go_wp2_with (first | (go_at_call 13; (with_reducible refine (fairwaylaw2_num.calls x12_14 t169 _ A25.out).mono ?_); rintro e w' ⟨rfl, ⟨nd, rfl⟩⟩) | (go_at_call 13; (with_reducible refine (fairwaylaw2_num.calls x15_14 t170 _ A29.out).mono ?_); rintro e w' ⟨rfl, ⟨nd, rfl⟩⟩))
                                      go_ret
                                      exact ⟨by first | rfl | (simp [errW_none, errW_some] <;> rfl) | (simp [*, errW_none, errW_some] <;> rfl), by repeat (first | (with_reducible first | exact HB.out | apply below_alloc | apply pw_below_drewN | apply below_drew1) | exact HB.out)⟩
                                  · rw [if_neg c28] at H
                                    have c28b0 : (x14_14 == t153) = false := beq_eq_false_iff_ne.mpr c28
                                    have c28b1 : (x14_14 != t153) = true := bne_iff_ne.mpr c28
                                    obtain rfl := Option.some.inj H
                                    go_wp2_with (first | (go_at_call 13; (with_reducible refine (fairwaylaw2_num.calls x12_14 t169 _ A25.out).mono ?_); rintro e w' ⟨rfl, ⟨nd, rfl⟩⟩))
                                    go_ret
                                    exact ⟨by first | rfl | (simp [errW_none, errW_some] <;> rfl) | (simp [*, errW_none, errW_some] <;> rfl), by repeat (first | (with_reducible first | exact HB.out | apply below_alloc | apply pw_below_drewN | apply below_drew1) | exact HB.out)⟩
                                · rw [if_neg c27] at H
                                  have c27b0 : (x13_14.toList == t152.toList) = false := beq_eq_false_iff_ne.mpr c27
                                  have c27b1 : (x13_14.toList != t152.toList) = true := bne_iff_ne.mpr c27
                                  obtain rfl := Option.some.inj H
                                  go_wp2_with (first | (go_at_call 13; (with_reducible refine (fairwaylaw2_num.calls x12_14 t169 _ A25.out).mono ?_); rintro e w' ⟨rfl, ⟨nd, rfl⟩⟩))
                                  go_ret
                                  exact ⟨by first | rfl | (simp [errW_none, errW_some] <;> rfl) | (simp [*, errW_none, errW_some] <;> rfl), by repeat (first | (with_reducible first | exact HB.out | apply below_alloc | apply pw_below_drewN | apply below_drew1) | exact HB.out)⟩
                              · rw [if_neg c26] at H
                                have c26b0 : (t169 == t150) = false := beq_eq_false_iff_ne.mpr c26
                                have c26b1 : (t169 != t150) = true := bne_iff_ne.mpr c26
                                obtain rfl := Option.some.inj H
                                go_wp2_with (first | (go_at_call 13; (with_reducible refine (fairwaylaw2_num.calls x12_14 t169 _ A25.out).mono ?_); rintro e w' ⟨rfl, ⟨nd, rfl⟩⟩))
                                go_ret
                                exact ⟨by first | rfl | (simp [errW_none, errW_some] <;> rfl) | (simp [*, errW_none, errW_some] <;> rfl), by repeat (first | (with_reducible first | exact HB.out | apply below_alloc | apply pw_below_drewN | apply below_drew1) | exact HB.out)⟩
                            · rw [if_neg c24] at H
                              have c24b0 : (x11_14.toList == t149.toList) = false := beq_eq_false_iff_ne.mpr c24
                              have c24b1 : (x11_14.toList != t149.toList) = true := bne_iff_ne.mpr c24
                              obtain rfl := Option.some.inj H
                              go_wp2
                              go_ret
                              exact ⟨by first | rfl | (simp [errW_none, errW_some] <;> rfl) | (simp [*, errW_none, errW_some] <;> rfl), by repeat (first | (with_reducible first | exact HB.out | apply below_alloc | apply pw_below_drewN | apply below_drew1) | exact HB.out)⟩
                  · rw [if_neg c7] at H
                    exact absurd H (by simp)
                · rw [if_neg c6] at H
                  exact absurd H (by simp)
              · replace c5 := Bool.eq_false_iff.mpr c5
                subst c5
                have H1 : ((fairwaylaw2_wakes.f kj2).bind fun t145 => (some t145)) = some r := by rw [if_neg (show ¬ (false = true) by decide)] at H; exact H
                clear H
                have H := H1
                clear H1
                replace H := Option.bind_eq_some_iff.mp H
                obtain ⟨t145, A310, H⟩ := H
                replace H : (some t145) = some r := H
                have A31 := Aside0.mk A310
                clear A310
                obtain rfl := Option.some.inj H
                go_wp2_with (first | ((with_reducible refine gate_callee (f := 14) rfl ?_); refine goesL_ (some 117) rfl rfl Tryd.func14 (by kernel_rfl) rfl #[] rfl (by (try simp only [List.map_toArray, List.map_cons, List.map_nil]); first | done | rfl | (simp only [List.length_drop, List.length_take]; rfl)) ?_; (with_reducible refine (fairwaylaw2_wakes.calls kj2  t145 _ A31.out).mono ?_); rintro e w32 ⟨rfl, hb⟩; refine ⟨_, rfl, ?_⟩; have n0_ := Aside0.mk (below_step (by repeat (first | (with_reducible first | exact HB.out | apply below_alloc | apply pw_below_drewN | apply below_drew1) | exact HB.out)) hb); clear HB; have HB := n0_; clear n0_; (try clear hb); (try clear hb2); (try clear hk); (try clear hi)))
                go_ret
                exact ⟨by first | rfl | (simp [errW_none, errW_some] <;> rfl) | (simp [*, errW_none, errW_some] <;> rfl), by repeat (first | (with_reducible first | exact HB.out | apply below_alloc | apply pw_below_drewN | apply below_drew1) | exact HB.out)⟩

/-! ### fairwaylaw2_VbiTexts: function 3 -/
def fairwaylaw2_VbiTexts.f (k : Nat) (l0 : List (S27)) : Option (Bool) := (fairwaylaw2_long.f k l0 true).bind fun t171 => (some t171)
theorem fairwaylaw2_VbiTexts.mono : ∀ a0 k, LeO (fairwaylaw2_VbiTexts.f k a0) (fairwaylaw2_VbiTexts.f (k + 1) a0) := by
  intro a0 k
  unfold fairwaylaw2_VbiTexts.f
  repeat' first
      | (with_reducible exact fairwaylaw2_long.mono _ _ _)
      | (with_reducible exact LeO.refl _)
      | (with_reducible exact LeO.none _)
      | (with_reducible refine LeO.ite ?_ ?_)
      | (with_reducible refine LeO.bind ?_ (fun _ => ?_))
      | exact fairwaylaw2_long.mono _ _ _
      | exact LeO.none _
      | refine LeO.ite ?_ ?_
      | refine LeO.bind ?_ (fun _ => ?_)
set_option maxHeartbeats 8000000 in
set_option maxRecDepth 100000 in
theorem fairwaylaw2_VbiTexts.calls (k : Nat) (A0 : Option Addr) (c0 : Nat) (l0 : List (S27)) (r : Bool) (w : World) (hr0 : Kd.C k27 w A0 l0.length l0) (hc0 : l0.length ≤ c0) (HLAID : Laid w) (h : fairwaylaw2_VbiTexts.f k l0 = some r) :
    Calls Tryd.prog 3 #[.slice A0 l0.length c0] w fun e w' => e = .returned (.bool r) ∧ Below w.heap.size w w' := by
  have HR0 := Aside0.mk hr0
  have HC0 := Aside0.mk hc0
  clear hr0 hc0
  have HB := Aside0.mk (Below.refl w.heap.size w)
  have H : ((fairwaylaw2_long.f k l0 true).bind fun t171 => (some t171)) = some r := h
  clear h
  replace H := Option.bind_eq_some_iff.mp H
  obtain ⟨t171, A20, H⟩ := H
  replace H : (some t171) = some r := H
  have A2 := Aside0.mk A20
  clear A20
  obtain rfl := Option.some.inj H
  go_enter Tryd.func3, Tryd.ntmps3
  go_wp2_with (first | ((with_reducible refine gate_callee (f := 5) rfl ?_); refine goesL_ (some 4) rfl rfl Tryd.func5 (by kernel_rfl) rfl #[.slice A0 l0.length c0, .bool true] rfl (by (try simp only [List.map_toArray, List.map_cons, List.map_nil]); first | done | rfl | (simp only [List.length_drop, List.length_take]; rfl)) ?_; (with_reducible refine (fairwaylaw2_long.calls k _ _ l0 true t171 _ ?side1 ?side2 (by first | exact HLAID | exact HLAID.below (by repeat (first | (with_reducible first | exact HB.out | apply below_alloc | apply pw_below_drewN | apply below_drew1) | exact HB.out))) A2.out).mono ?_); (case side1 => repeat (first | exact HR0.out | (with_reducible refine Kd.C_alloc ?_ _) | (with_reducible refine Kd.C_drewN ?_ _) | (with_reducible refine Kd.C_drew ?_))); (case side2 => exact HC0.out); rintro e w3 ⟨rfl, hb⟩; refine ⟨_, rfl, ?_⟩; have n0_ := Aside0.mk (below_step (by repeat (first | (with_reducible first | exact HB.out | apply below_alloc | apply pw_below_drewN | apply below_drew1) | exact HB.out)) hb); clear HB; have HB := n0_; clear n0_; (try clear hb); (try clear hb2); (try clear hk); (try clear hi)))
  go_ret
  exact ⟨by first | rfl | (simp [errW_none, errW_some] <;> rfl) | (simp [*, errW_none, errW_some] <;> rfl), by repeat (first | (with_reducible first | exact HB.out | apply below_alloc | apply pw_below_drewN | apply below_drew1) | exact HB.out)⟩

/-! ### fairwaylaw2_VbiBins: function 4 -/
def fairwaylaw2_VbiBins.f (k : Nat) (l0 : List (S27)) : Option (Bool) := (fairwaylaw2_long.f k l0 false).bind fun t172 => (some t172)
theorem fairwaylaw2_VbiBins.mono : ∀ a0 k, LeO (fairwaylaw2_VbiBins.f k a0) (fairwaylaw2_VbiBins.f (k + 1) a0) := by
  intro a0 k
  unfold fairwaylaw2_VbiBins.f
  repeat' first
      | (with_reducible exact fairwaylaw2_long.mono _ _ _)
      | (with_reducible exact LeO.refl _)
      | (with_reducible exact LeO.none _)
      | (with_reducible refine LeO.ite ?_ ?_)
      | (with_reducible refine LeO.bind ?_ (fun _ => ?_))
      | exact fairwaylaw2_long.mono _ _ _
      | exact LeO.none _
      | refine LeO.ite ?_ ?_
      | refine LeO.bind ?_ (fun _ => ?_)
set_option maxHeartbeats 8000000 in
set_option maxRecDepth 100000 in
theorem fairwaylaw2_VbiBins.calls (k : Nat) (A0 : Option Addr) (c0 : Nat) (l0 : List (S27)) (r : Bool) (w : World) (hr0 : Kd.C k27 w A0 l0.length l0) (hc0 : l0.length ≤ c0) (HLAID : Laid w) (h : fairwaylaw2_VbiBins.f k l0 = some r) :
    Calls Tryd.prog 4 #[.slice A0 l0.length c0] w fun e w' => e = .returned (.bool r) ∧ Below w.heap.size w w' := by
  have HR0 := Aside0.mk hr0
  have HC0 := Aside0.mk hc0
  clear hr0 hc0
  have HB := Aside0.mk (Below.refl w.heap.size w)
  have H : ((fairwaylaw2_long.f k l0 false).bind fun t172 => (some t172)) = some r := h
  clear h
  replace H := Option.bind_eq_some_iff.mp H
  obtain ⟨t172, A20, H⟩ := H
  replace H : (some t172) = some r := H
  have A2 := Aside0.mk A20
  clear A20
  obtain rfl := Option.some.inj H
  go_enter Tryd.func4, Tryd.ntmps4
  go_wp2_with (first | ((with_reducible refine gate_callee (f := 5) rfl ?_); refine goesL_ (some 4) rfl rfl Tryd.func5 (by kernel_rfl) rfl #[.slice A0 l0.length c0, .bool false] rfl (by (try simp only [List.map_toArray, List.map_cons, List.map_nil]); first | done | rfl | (simp only [List.length_drop, List.length_take]; rfl)) ?_; (with_reducible refine (fairwaylaw2_long.calls k _ _ l0 false t172 _ ?side1 ?side2 (by first | exact HLAID | exact HLAID.below (by repeat (first | (with_reducible first | exact HB.out | apply below_alloc | apply pw_below_drewN | apply below_drew1) | exact HB.out))) A2.out).mono ?_); (case side1 => repeat (first | exact HR0.out | (with_reducible refine Kd.C_alloc ?_ _) | (with_reducible refine Kd.C_drewN ?_ _) | (with_reducible refine Kd.C_drew ?_))); (case side2 => exact HC0.out); rintro e w3 ⟨rfl, hb⟩; refine ⟨_, rfl, ?_⟩; have n0_ := Aside0.mk (below_step (by repeat (first | (with_reducible first | exact HB.out | apply below_alloc | apply pw_below_drewN | apply below_drew1) | exact HB.out)) hb); clear HB; have HB := n0_; clear n0_; (try clear hb); (try clear hb2); (try clear hk); (try clear hi)))
  go_ret
  exact ⟨by first | rfl | (simp [errW_none, errW_some] <;> rfl) | (simp [*, errW_none, errW_some] <;> rfl), by repeat (first | (with_reducible first | exact HB.out | apply below_alloc | apply pw_below_drewN | apply below_drew1) | exact HB.out)⟩

end Go.Proofs.YtajbopckmjjcfaaDoor.P
