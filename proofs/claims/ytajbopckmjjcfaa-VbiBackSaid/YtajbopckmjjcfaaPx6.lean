-- PRINTED by print.py (a twelfth state) out of the translation. Not trusted: Lean checks it.
import Derived.Test.YtajbopckmjjcfaaPx0
import Derived.Test.YtajbopckmjjcfaaPx1
import Derived.Test.YtajbopckmjjcfaaPx2
import Derived.Test.YtajbopckmjjcfaaPx4
import Derived.Test.YtajbopckmjjcfaaPx5
namespace Go.Proofs.Ytajbopckmjjcfaa.P
open Go.RowKit Go.Proofs.YtajbopckmjjcfaaW.PrintWords Go.Proofs.YtajbopckmjjcfaaW.PrintLast Go.Proofs.YtajbopckmjjcfaaW.PrintMore
attribute [local go_sem] max2_int min2_int max_two min_two max_three min_three max_four min_four   -- for this text's walks alone
set_option linter.unusedVariables false
set_option linter.unusedSimpArgs false

/-! ### fairwaylaw2_VbiBack: function 6 -/
mutual
def fairwaylaw2_VbiBack.l0 : Nat → List (S24) → Int → Option (Bool)
  | 0, _, _ => none
  | k + 1, x0, x3 => if x3 < (x0.length : Int) then (fairwaylaw2_VbiBack.j1 k x0 x3 (decide (x3 < 15))) else (fairwaylaw2_VbiBack.j1 k x0 x3 false)
def fairwaylaw2_VbiBack.j1 : Nat → List (S24) → Int → Bool → Option (Bool)
  | 0, _, _, _ => none
  | k + 1, x0, x3, x30 => if x30 = true then (if 0 ≤ x3 then (if x3 < (x0.length : Int) then ((fairwaylaw2_heavy.f ((rd_T24 x0 x3).f0) ((rd_T24 x0 x3).f1) ((rd_T24 x0 x3).f2)).bind fun t204 => (if t204 = true then (some true) else ((fairwaylaw0_Within.f ((rd_T24 x0 x3).f0) 268435456).bind fun t206 => ((vbi_Num.f k t206).bind fun bt207 => (if bt207.1.size + ((rd_T24 x0 x3).f2).size ≤ 9223372036854775807 then ((vbi_TakeNum.f k (bt207.1 ++ ((rd_T24 x0 x3).f2))).bind fun bt210 => ((fairwaylaw2_num.f bt207.2).bind fun t213 => (if t213 = 0 then ((fairwaylaw2_num.f bt210.2.2).bind fun t214 => (if t214 = 0 then (if bt210.1 = t206 then (fairwaylaw2_VbiBack.j2 k x0 x3 bt207.1 (bt210.2.1 != (bt207.1.size : Int))) else (fairwaylaw2_VbiBack.j2 k x0 x3 bt207.1 true)) else (fairwaylaw2_VbiBack.j2 k x0 x3 bt207.1 true))) else (fairwaylaw2_VbiBack.j2 k x0 x3 bt207.1 true)))) else (none)))))) else (none)) else (none)) else ((fairwaylaw2_wakes.f k).bind fun t202 => (some t202))
def fairwaylaw2_VbiBack.j2 : Nat → List (S24) → Int → ByteArray → Bool → Option (Bool)
  | 0, _, _, _, _ => none
  | k + 1, x0, x3, x5, x79 => if x79 = true then (some false) else (fairwaylaw2_VbiBack.l1 k x0 x3 x5 0)
def fairwaylaw2_VbiBack.l1 : Nat → List (S24) → Int → ByteArray → Int → Option (Bool)
  | 0, _, _, _, _ => none
  | k + 1, x0, x3, x5, x10 => if x10 < (x5.size : Int) then (if 0 ≤ x10 then (if x10 ≤ (x5.size : Int) then ((vbi_TakeNum.f k (x5.extract 0 (x10 : Int).toNat)).bind fun bt215 => ((fairwaylaw2_num.f bt215.2.2).bind fun t218 => (if t218 = 7 then (fairwaylaw2_VbiBack.l1 k x0 x3 x5 (wrap64 (x10 + 1))) else (some false)))) else (none)) else (none)) else (if 0 ≤ x3 then (if x3 < (x0.length : Int) then ((vbi_Bin.f k ((rd_T24 x0 x3).f1)).bind fun bt220 => ((fairwaylaw2_num.f bt220.2).bind fun t222 => (if t222 = 0 then (if (bt220.1.size : Int) = (wrap64 (2 + (((rd_T24 x0 x3).f1).size : Int))) then (if bt220.1.size + ((rd_T24 x0 x3).f2).size ≤ 9223372036854775807 then ((vbi_TakeBin.f k (bt220.1 ++ ((rd_T24 x0 x3).f2))).bind fun bt225 => (if 0 ≤ (wrap64 ((bt220.1.size : Int) - 1)) then (if (wrap64 ((bt220.1.size : Int) - 1)) ≤ (bt220.1.size : Int) then ((vbi_TakeBin.f k (bt220.1.extract 0 ((wrap64 ((bt220.1.size : Int) - 1)) : Int).toNat)).bind fun bt228 => ((fairwaylaw2_num.f bt225.2.2).bind fun t231 => (if t231 = 0 then (if bt225.1.toList = ((rd_T24 x0 x3).f1).toList then (if bt225.2.1 = (bt220.1.size : Int) then ((fairwaylaw2_num.f bt228.2.2).bind fun t233 => (if t233 = 7 then (fairwaylaw2_VbiBack.j4 k x0 x3) else (some false))) else (some false)) else (some false)) else (some false)))) else (none)) else (none))) else (none)) else (some false)) else (fairwaylaw2_VbiBack.j4 k x0 x3)))) else (none)) else (none))
def fairwaylaw2_VbiBack.j4 : Nat → List (S24) → Int → Option (Bool)
  | 0, _, _ => none
  | k + 1, x0, x3 => if 0 ≤ x3 then (if x3 < (x0.length : Int) then ((vbi_TakeNum.f k ((rd_T24 x0 x3).f2)).bind fun bt235 => ((fairwaylaw2_num.f bt235.2.2).bind fun t238 => (if t238 = 0 then ((vbi_Num.f k bt235.1).bind fun bt239 => ((fairwaylaw2_num.f bt239.2).bind fun t241 => (if t241 = 0 then (if bt235.2.1 < 0 then (some false) else (if bt235.2.1 > (((rd_T24 x0 x3).f2).size : Int) then (some false) else (if 0 ≤ bt235.2.1 then (if bt235.2.1 ≤ (((rd_T24 x0 x3).f2).size : Int) then (if bt239.1.toList = (((rd_T24 x0 x3).f2).extract 0 (bt235.2.1 : Int).toNat).toList then (fairwaylaw2_VbiBack.l0 k x0 (wrap64 (x3 + 1))) else (some false)) else (none)) else (none)))) else (some false)))) else (fairwaylaw2_VbiBack.l0 k x0 (wrap64 (x3 + 1)))))) else (none)) else (none)
end
def fairwaylaw2_VbiBack.f (k : Nat) (l0 : List (S24)) : Option (Bool) := fairwaylaw2_VbiBack.l0 k l0 0
theorem fairwaylaw2_VbiBack.mono_l : ∀ k, (∀ y0 y1, LeO (fairwaylaw2_VbiBack.l0 k y0 y1) (fairwaylaw2_VbiBack.l0 (k + 1) y0 y1)) ∧ (∀ y0 y1 y2, LeO (fairwaylaw2_VbiBack.j1 k y0 y1 y2) (fairwaylaw2_VbiBack.j1 (k + 1) y0 y1 y2)) ∧ (∀ y0 y1 y2 y3, LeO (fairwaylaw2_VbiBack.j2 k y0 y1 y2 y3) (fairwaylaw2_VbiBack.j2 (k + 1) y0 y1 y2 y3)) ∧ (∀ y0 y1 y2 y3, LeO (fairwaylaw2_VbiBack.l1 k y0 y1 y2 y3) (fairwaylaw2_VbiBack.l1 (k + 1) y0 y1 y2 y3)) ∧ (∀ y0 y1, LeO (fairwaylaw2_VbiBack.j4 k y0 y1) (fairwaylaw2_VbiBack.j4 (k + 1) y0 y1))
  | 0 => ⟨fun _ _ r h => by simp [fairwaylaw2_VbiBack.l0] at h, fun _ _ _ r h => by simp [fairwaylaw2_VbiBack.j1] at h, fun _ _ _ _ r h => by simp [fairwaylaw2_VbiBack.j2] at h, fun _ _ _ _ r h => by simp [fairwaylaw2_VbiBack.l1] at h, fun _ _ r h => by simp [fairwaylaw2_VbiBack.j4] at h⟩
  | k + 1 => by
    obtain ⟨ih0, ih1, ih2, ih3, ih4⟩ := fairwaylaw2_VbiBack.mono_l k
    refine ⟨?_, ?_, ?_, ?_, ?_⟩
    · intro y0 y1
      unfold fairwaylaw2_VbiBack.l0
      repeat' first
      | (with_reducible exact ih0 _ _)
      | (with_reducible exact ih1 _ _ _)
      | (with_reducible exact ih2 _ _ _ _)
      | (with_reducible exact ih3 _ _ _ _)
      | (with_reducible exact ih4 _ _)
      | (with_reducible exact fairwaylaw2_wakes.mono _)
      | (with_reducible exact vbi_Bin.mono _ _)
      | (with_reducible exact vbi_Num.mono _ _)
      | (with_reducible exact vbi_TakeBin.mono _ _)
      | (with_reducible exact vbi_TakeNum.mono _ _)
      | (with_reducible exact LeO.refl _)
      | (with_reducible exact LeO.none _)
      | (with_reducible refine LeO.ite ?_ ?_)
      | (with_reducible refine LeO.bind ?_ (fun _ => ?_))
      | exact ih0 _ _
      | exact ih1 _ _ _
      | exact ih2 _ _ _ _
      | exact ih3 _ _ _ _
      | exact ih4 _ _
      | exact fairwaylaw2_wakes.mono _
      | exact vbi_Bin.mono _ _
      | exact vbi_Num.mono _ _
      | exact vbi_TakeBin.mono _ _
      | exact vbi_TakeNum.mono _ _
      | exact LeO.none _
      | refine LeO.ite ?_ ?_
      | refine LeO.bind ?_ (fun _ => ?_)
    · intro y0 y1 y2
      unfold fairwaylaw2_VbiBack.j1
      repeat' first
      | (with_reducible exact ih0 _ _)
      | (with_reducible exact ih1 _ _ _)
      | (with_reducible exact ih2 _ _ _ _)
      | (with_reducible exact ih3 _ _ _ _)
      | (with_reducible exact ih4 _ _)
      | (with_reducible exact fairwaylaw2_wakes.mono _)
      | (with_reducible exact vbi_Bin.mono _ _)
      | (with_reducible exact vbi_Num.mono _ _)
      | (with_reducible exact vbi_TakeBin.mono _ _)
      | (with_reducible exact vbi_TakeNum.mono _ _)
      | (with_reducible exact LeO.refl _)
      | (with_reducible exact LeO.none _)
      | (with_reducible refine LeO.ite ?_ ?_)
      | (with_reducible refine LeO.bind ?_ (fun _ => ?_))
      | exact ih0 _ _
      | exact ih1 _ _ _
      | exact ih2 _ _ _ _
      | exact ih3 _ _ _ _
      | exact ih4 _ _
      | exact fairwaylaw2_wakes.mono _
      | exact vbi_Bin.mono _ _
      | exact vbi_Num.mono _ _
      | exact vbi_TakeBin.mono _ _
      | exact vbi_TakeNum.mono _ _
      | exact LeO.none _
      | refine LeO.ite ?_ ?_
      | refine LeO.bind ?_ (fun _ => ?_)
    · intro y0 y1 y2 y3
      unfold fairwaylaw2_VbiBack.j2
      repeat' first
      | (with_reducible exact ih0 _ _)
      | (with_reducible exact ih1 _ _ _)
      | (with_reducible exact ih2 _ _ _ _)
      | (with_reducible exact ih3 _ _ _ _)
      | (with_reducible exact ih4 _ _)
      | (with_reducible exact fairwaylaw2_wakes.mono _)
      | (with_reducible exact vbi_Bin.mono _ _)
      | (with_reducible exact vbi_Num.mono _ _)
      | (with_reducible exact vbi_TakeBin.mono _ _)
      | (with_reducible exact vbi_TakeNum.mono _ _)
      | (with_reducible exact LeO.refl _)
      | (with_reducible exact LeO.none _)
      | (with_reducible refine LeO.ite ?_ ?_)
      | (with_reducible refine LeO.bind ?_ (fun _ => ?_))
      | exact ih0 _ _
      | exact ih1 _ _ _
      | exact ih2 _ _ _ _
      | exact ih3 _ _ _ _
      | exact ih4 _ _
      | exact fairwaylaw2_wakes.mono _
      | exact vbi_Bin.mono _ _
      | exact vbi_Num.mono _ _
      | exact vbi_TakeBin.mono _ _
      | exact vbi_TakeNum.mono _ _
      | exact LeO.none _
      | refine LeO.ite ?_ ?_
      | refine LeO.bind ?_ (fun _ => ?_)
    · intro y0 y1 y2 y3
      unfold fairwaylaw2_VbiBack.l1
      repeat' first
      | (with_reducible exact ih0 _ _)
      | (with_reducible exact ih1 _ _ _)
      | (with_reducible exact ih2 _ _ _ _)
      | (with_reducible exact ih3 _ _ _ _)
      | (with_reducible exact ih4 _ _)
      | (with_reducible exact fairwaylaw2_wakes.mono _)
      | (with_reducible exact vbi_Bin.mono _ _)
      | (with_reducible exact vbi_Num.mono _ _)
      | (with_reducible exact vbi_TakeBin.mono _ _)
      | (with_reducible exact vbi_TakeNum.mono _ _)
      | (with_reducible exact LeO.refl _)
      | (with_reducible exact LeO.none _)
      | (with_reducible refine LeO.ite ?_ ?_)
      | (with_reducible refine LeO.bind ?_ (fun _ => ?_))
      | exact ih0 _ _
      | exact ih1 _ _ _
      | exact ih2 _ _ _ _
      | exact ih3 _ _ _ _
      | exact ih4 _ _
      | exact fairwaylaw2_wakes.mono _
      | exact vbi_Bin.mono _ _
      | exact vbi_Num.mono _ _
      | exact vbi_TakeBin.mono _ _
      | exact vbi_TakeNum.mono _ _
      | exact LeO.none _
      | refine LeO.ite ?_ ?_
      | refine LeO.bind ?_ (fun _ => ?_)
    · intro y0 y1
      unfold fairwaylaw2_VbiBack.j4
      repeat' first
      | (with_reducible exact ih0 _ _)
      | (with_reducible exact ih1 _ _ _)
      | (with_reducible exact ih2 _ _ _ _)
      | (with_reducible exact ih3 _ _ _ _)
      | (with_reducible exact ih4 _ _)
      | (with_reducible exact fairwaylaw2_wakes.mono _)
      | (with_reducible exact vbi_Bin.mono _ _)
      | (with_reducible exact vbi_Num.mono _ _)
      | (with_reducible exact vbi_TakeBin.mono _ _)
      | (with_reducible exact vbi_TakeNum.mono _ _)
      | (with_reducible exact LeO.refl _)
      | (with_reducible exact LeO.none _)
      | (with_reducible refine LeO.ite ?_ ?_)
      | (with_reducible refine LeO.bind ?_ (fun _ => ?_))
      | exact ih0 _ _
      | exact ih1 _ _ _
      | exact ih2 _ _ _ _
      | exact ih3 _ _ _ _
      | exact ih4 _ _
      | exact fairwaylaw2_wakes.mono _
      | exact vbi_Bin.mono _ _
      | exact vbi_Num.mono _ _
      | exact vbi_TakeBin.mono _ _
      | exact vbi_TakeNum.mono _ _
      | exact LeO.none _
      | refine LeO.ite ?_ ?_
      | refine LeO.bind ?_ (fun _ => ?_)
theorem fairwaylaw2_VbiBack.mono : ∀ a0 k, LeO (fairwaylaw2_VbiBack.f k a0) (fairwaylaw2_VbiBack.f (k + 1) a0) := by
  intro a0 k
  obtain ⟨ih0, ih1, ih2, ih3, ih4⟩ := fairwaylaw2_VbiBack.mono_l k
  unfold fairwaylaw2_VbiBack.f
  repeat' first
      | (with_reducible exact ih0 _ _)
      | (with_reducible exact ih1 _ _ _)
      | (with_reducible exact ih2 _ _ _ _)
      | (with_reducible exact ih3 _ _ _ _)
      | (with_reducible exact ih4 _ _)
      | (with_reducible exact fairwaylaw2_wakes.mono _)
      | (with_reducible exact vbi_Bin.mono _ _)
      | (with_reducible exact vbi_Num.mono _ _)
      | (with_reducible exact vbi_TakeBin.mono _ _)
      | (with_reducible exact vbi_TakeNum.mono _ _)
      | (with_reducible exact LeO.refl _)
      | (with_reducible exact LeO.none _)
      | (with_reducible refine LeO.ite ?_ ?_)
      | (with_reducible refine LeO.bind ?_ (fun _ => ?_))
      | exact ih0 _ _
      | exact ih1 _ _ _
      | exact ih2 _ _ _ _
      | exact ih3 _ _ _ _
      | exact ih4 _ _
      | exact fairwaylaw2_wakes.mono _
      | exact vbi_Bin.mono _ _
      | exact vbi_Num.mono _ _
      | exact vbi_TakeBin.mono _ _
      | exact vbi_TakeNum.mono _ _
      | exact LeO.none _
      | refine LeO.ite ?_ ?_
      | refine LeO.bind ?_ (fun _ => ?_)
set_option maxHeartbeats 8000000 in
set_option maxRecDepth 100000 in
theorem fairwaylaw2_VbiBack.calls (k : Nat) (A0 : Option Addr) (c0 : Nat) (l0 : List (S24)) (r : Bool) (w : World) (hr0 : Kd.C k24 w A0 l0.length l0) (hc0 : l0.length ≤ c0) (h : fairwaylaw2_VbiBack.f k l0 = some r) :
    Calls Try.prog 6 #[.slice A0 l0.length c0] w fun e w' => e = .returned (.bool r) ∧ Below w.heap.size w w' := by
  have hu24 := Try.underlying24
  have HR0 := Aside0.mk hr0
  have HC0 := Aside0.mk hc0
  clear hr0 hc0
  have HB := Aside0.mk (Below.refl w.heap.size w)
  have H : (fairwaylaw2_VbiBack.l0 k l0 0) = some r := h
  clear h
  have H' := Aside0.mk H
  clear H
  go_enter Try.func6, Try.ntmps6
  go_wp2
  go_loopg [3] k (fun kq v3 w' => ∃ (x3_1 : Int), v3 = .int .i64 x3_1 ∧ Aside0 (fairwaylaw2_VbiBack.l0 kq l0 x3_1 = some r) ∧ Aside0 (kq ≤ k) ∧ Aside0 (Below w.heap.size w w'))
  case atStart => exact ⟨(0), (by first | rfl | (simp; done) | (simp [*]; done)), H', ⟨Nat.le_refl _⟩, ⟨by repeat (first | (with_reducible first | exact HB.out | apply below_alloc | apply pw_below_drewN | apply below_drew1) | exact HB.out)⟩⟩
  case round =>
    as_aux_lemma =>
      clear H'
      obtain ⟨x3_1, rfl, HA, HK1, HB⟩ := hrel
      cases gk with
      | zero => exact absurd HA.out (by simp [fairwaylaw2_VbiBack.l0])
      | succ k1 =>
        have H := HA.out
        clear HA
        simp only [fairwaylaw2_VbiBack.l0] at H
        have HC2 := Aside0.mk H
        clear H
        go_upto_region 2 with (fail)
        go_cut [30] (fun v30 wc => ∃ (kq : Nat) (x30_1 : Bool), v30 = .bool x30_1 ∧ Aside0 (fairwaylaw2_VbiBack.j1 kq l0 x3_1 x30_1 = some r) ∧ Aside0 (kq ≤ k1) ∧ Aside0 (Below w.heap.size w wc))
        case first =>
          have H := HC2.out
          clear HC2
          by_cases c3 : x3_1 < (l0.length : Int)
          · rw [if_pos c3] at H
            have c3b0 : decide (x3_1 < (l0.length : Int)) = true := decide_eq_true c3
            clear c3
            (first | rw [c3b0] | (simp only [i64_w, i32_w]; rw [c3b0]) | skip)
            have H' := Aside0.mk H
            clear H
            go_wp2
            go_meet
            case rel => exact ⟨_, (decide (x3_1 < 15)), (by first | rfl | (simp; done) | (simp [*]; done)), H', ⟨by have := HK1.out; first | omega | exact Nat.le_refl _⟩, ⟨by repeat (first | (with_reducible first | exact HB.out | apply below_alloc | apply pw_below_drewN | apply below_drew1) | exact HB.out)⟩⟩
          · rw [if_neg c3] at H
            have c3b0 : decide (x3_1 < (l0.length : Int)) = false := decide_eq_false c3
            clear c3
            (first | rw [c3b0] | (simp only [i64_w, i32_w]; rw [c3b0]) | skip)
            have H' := Aside0.mk H
            clear H
            go_wp2
            go_meet
            case rel => exact ⟨_, (false), (by first | rfl | (simp; done) | (simp [*]; done)), H', ⟨by have := HK1.out; first | omega | exact Nat.le_refl _⟩, ⟨by repeat (first | (with_reducible first | exact HB.out | apply below_alloc | apply pw_below_drewN | apply below_drew1) | exact HB.out)⟩⟩
        case rest =>
          as_aux_lemma =>
            clear HC2
            try clear p2
            try clear c3
            try clear c3b0
            obtain ⟨kq, x30_1, rfl, HA, HJ1, HB⟩ := hcut
            cases kq with
            | zero => exact absurd HA.out (by simp [fairwaylaw2_VbiBack.j1])
            | succ kj1 =>
              have H := HA.out
              clear HA
              simp only [fairwaylaw2_VbiBack.j1] at H
              by_cases c4 : x30_1 = true
              · subst c4
                have H1 : (if 0 ≤ x3_1 then (if x3_1 < (l0.length : Int) then ((fairwaylaw2_heavy.f ((rd_T24 l0 x3_1).f0) ((rd_T24 l0 x3_1).f1) ((rd_T24 l0 x3_1).f2)).bind fun t204 => (if t204 = true then (some true) else ((fairwaylaw0_Within.f ((rd_T24 l0 x3_1).f0) 268435456).bind fun t206 => ((vbi_Num.f kj1 t206).bind fun bt207 => (if bt207.1.size + ((rd_T24 l0 x3_1).f2).size ≤ 9223372036854775807 then ((vbi_TakeNum.f kj1 (bt207.1 ++ ((rd_T24 l0 x3_1).f2))).bind fun bt210 => ((fairwaylaw2_num.f bt207.2).bind fun t213 => (if t213 = 0 then ((fairwaylaw2_num.f bt210.2.2).bind fun t214 => (if t214 = 0 then (if bt210.1 = t206 then (fairwaylaw2_VbiBack.j2 kj1 l0 x3_1 bt207.1 (bt210.2.1 != (bt207.1.size : Int))) else (fairwaylaw2_VbiBack.j2 kj1 l0 x3_1 bt207.1 true)) else (fairwaylaw2_VbiBack.j2 kj1 l0 x3_1 bt207.1 true))) else (fairwaylaw2_VbiBack.j2 kj1 l0 x3_1 bt207.1 true)))) else (none)))))) else (none)) else (none)) = some r := by rw [if_pos rfl] at H; exact H
                clear H
                have H := H1
                clear H1
                by_cases c5 : 0 ≤ x3_1
                · rw [if_pos c5] at H
                  have c5b0 : decide (0 ≤ x3_1) = true := decide_eq_true c5
                  clear c5
                  by_cases c6 : x3_1 < (l0.length : Int)
                  · rw [if_pos c6] at H
                    have c6b0 : decide (x3_1 < (l0.length : Int)) = true := decide_eq_true c6
                    clear c6
                    replace H := Option.bind_eq_some_iff.mp H
                    obtain ⟨t204, A70, H⟩ := H
                    replace H : (if t204 = true then (some true) else ((fairwaylaw0_Within.f ((rd_T24 l0 x3_1).f0) 268435456).bind fun t206 => ((vbi_Num.f kj1 t206).bind fun bt207 => (if bt207.1.size + ((rd_T24 l0 x3_1).f2).size ≤ 9223372036854775807 then ((vbi_TakeNum.f kj1 (bt207.1 ++ ((rd_T24 l0 x3_1).f2))).bind fun bt210 => ((fairwaylaw2_num.f bt207.2).bind fun t213 => (if t213 = 0 then ((fairwaylaw2_num.f bt210.2.2).bind fun t214 => (if t214 = 0 then (if bt210.1 = t206 then (fairwaylaw2_VbiBack.j2 kj1 l0 x3_1 bt207.1 (bt210.2.1 != (bt207.1.size : Int))) else (fairwaylaw2_VbiBack.j2 kj1 l0 x3_1 bt207.1 true)) else (fairwaylaw2_VbiBack.j2 kj1 l0 x3_1 bt207.1 true))) else (fairwaylaw2_VbiBack.j2 kj1 l0 x3_1 bt207.1 true)))) else (none))))) = some r := H
                    have A7 := Aside0.mk A70
                    clear A70
                    by_cases c8 : t204 = true
                    · subst c8
                      have H1 : (some true) = some r := by rw [if_pos rfl] at H; exact H
                      clear H
                      have H := H1
                      clear H1
                      obtain rfl := Option.some.inj H
                      have p203 : 0 ≤ (x3_1 : Int) := of_decide_eq_true (by first | (with_reducible assumption) | assumption)
                      have q203 : x3_1 < (l0.length : Int) := of_decide_eq_true (by first | (with_reducible assumption) | assumption)
                      obtain ⟨ad203, e203, hx203_0, hx203_1, hx203_2⟩ := at_T24 HR0.out x3_1 p203 q203
                      cases e203
                      replace hx203_0 := (HB.out.cell (World.block_lt_of_cell? w _ hx203_0)).trans hx203_0
                      replace hx203_1 := (HB.out.cell (World.block_lt_of_cell? w _ hx203_1)).trans hx203_1
                      replace hx203_2 := (HB.out.cell (World.block_lt_of_cell? w _ hx203_2)).trans hx203_2
                      replace p203 := eq_true p203
                      replace q203 := eq_true q203
                      go_wp2_with (first | ((with_reducible refine gate_callee (f := 16) rfl ?_); refine goesL_ (some 37) rfl rfl Try.func16 (by kernel_rfl) rfl #[.agg #[.int .i64 ((rd_T24 l0 x3_1).f0), .string ((rd_T24 l0 x3_1).f1), .string ((rd_T24 l0 x3_1).f2)]] rfl (by (try simp only [List.map_toArray, List.map_cons, List.map_nil]); first | done | rfl | (simp only [List.length_drop, List.length_take]; rfl)) ?_; (with_reducible refine (fairwaylaw2_heavy.calls ((rd_T24 l0 x3_1).f0) ((rd_T24 l0 x3_1).f1) ((rd_T24 l0 x3_1).f2) true _ A7.out).mono ?_); rintro e w9 ⟨rfl, hb⟩; refine ⟨_, rfl, ?_⟩; have n0_ := Aside0.mk (below_step (by repeat (first | (with_reducible first | exact HB.out | apply below_alloc | apply pw_below_drewN | apply below_drew1) | exact HB.out)) hb); clear HB; have HB := n0_; clear n0_; (try clear hb); (try clear hb2); (try clear hk); (try clear hi)))
                      go_ret
                      exact ⟨by first | rfl | (simp [errW_none, errW_some] <;> rfl) | (simp [*, errW_none, errW_some] <;> rfl), by repeat (first | (with_reducible first | exact HB.out | apply below_alloc | apply pw_below_drewN | apply below_drew1) | exact HB.out)⟩
                    · replace c8 := Bool.eq_false_iff.mpr c8
                      subst c8
                      have H1 : ((fairwaylaw0_Within.f ((rd_T24 l0 x3_1).f0) 268435456).bind fun t206 => ((vbi_Num.f kj1 t206).bind fun bt207 => (if bt207.1.size + ((rd_T24 l0 x3_1).f2).size ≤ 9223372036854775807 then ((vbi_TakeNum.f kj1 (bt207.1 ++ ((rd_T24 l0 x3_1).f2))).bind fun bt210 => ((fairwaylaw2_num.f bt207.2).bind fun t213 => (if t213 = 0 then ((fairwaylaw2_num.f bt210.2.2).bind fun t214 => (if t214 = 0 then (if bt210.1 = t206 then (fairwaylaw2_VbiBack.j2 kj1 l0 x3_1 bt207.1 (bt210.2.1 != (bt207.1.size : Int))) else (fairwaylaw2_VbiBack.j2 kj1 l0 x3_1 bt207.1 true)) else (fairwaylaw2_VbiBack.j2 kj1 l0 x3_1 bt207.1 true))) else (fairwaylaw2_VbiBack.j2 kj1 l0 x3_1 bt207.1 true)))) else (none)))) = some r := by rw [if_neg (show ¬ (false = true) by decide)] at H; exact H
                      clear H
                      have H := H1
                      clear H1
                      replace H := Option.bind_eq_some_iff.mp H
                      obtain ⟨t206, A100, H⟩ := H
                      replace H : ((vbi_Num.f kj1 t206).bind fun bt207 => (if bt207.1.size + ((rd_T24 l0 x3_1).f2).size ≤ 9223372036854775807 then ((vbi_TakeNum.f kj1 (bt207.1 ++ ((rd_T24 l0 x3_1).f2))).bind fun bt210 => ((fairwaylaw2_num.f bt207.2).bind fun t213 => (if t213 = 0 then ((fairwaylaw2_num.f bt210.2.2).bind fun t214 => (if t214 = 0 then (if bt210.1 = t206 then (fairwaylaw2_VbiBack.j2 kj1 l0 x3_1 bt207.1 (bt210.2.1 != (bt207.1.size : Int))) else (fairwaylaw2_VbiBack.j2 kj1 l0 x3_1 bt207.1 true)) else (fairwaylaw2_VbiBack.j2 kj1 l0 x3_1 bt207.1 true))) else (fairwaylaw2_VbiBack.j2 kj1 l0 x3_1 bt207.1 true)))) else (none))) = some r := H
                      have A10 := Aside0.mk A100
                      clear A100
                      replace H := Option.bind_eq_some_iff.mp H
                      obtain ⟨⟨t207, t208⟩, A110, H⟩ := H
                      replace H : (if t207.size + ((rd_T24 l0 x3_1).f2).size ≤ 9223372036854775807 then ((vbi_TakeNum.f kj1 (t207 ++ ((rd_T24 l0 x3_1).f2))).bind fun bt210 => ((fairwaylaw2_num.f t208).bind fun t213 => (if t213 = 0 then ((fairwaylaw2_num.f bt210.2.2).bind fun t214 => (if t214 = 0 then (if bt210.1 = t206 then (fairwaylaw2_VbiBack.j2 kj1 l0 x3_1 t207 (bt210.2.1 != (t207.size : Int))) else (fairwaylaw2_VbiBack.j2 kj1 l0 x3_1 t207 true)) else (fairwaylaw2_VbiBack.j2 kj1 l0 x3_1 t207 true))) else (fairwaylaw2_VbiBack.j2 kj1 l0 x3_1 t207 true)))) else (none)) = some r := H
                      have A11 := Aside0.mk A110
                      clear A110
                      by_cases c12 : t207.size + ((rd_T24 l0 x3_1).f2).size ≤ 9223372036854775807
                      · rw [if_pos c12] at H
                        have c12b0 := eq_true c12
                        have c12b1 : decide (t207.size + ((rd_T24 l0 x3_1).f2).size ≤ 9223372036854775807) = true := decide_eq_true c12
                        try have c12b2 : (9223372036854775807 < t207.size + ((rd_T24 l0 x3_1).f2).size) = False := eq_false (Nat.not_lt.2 c12)
                        replace H := Option.bind_eq_some_iff.mp H
                        obtain ⟨⟨t210, t211, t212⟩, A130, H⟩ := H
                        replace H : ((fairwaylaw2_num.f t208).bind fun t213 => (if t213 = 0 then ((fairwaylaw2_num.f t212).bind fun t214 => (if t214 = 0 then (if t210 = t206 then (fairwaylaw2_VbiBack.j2 kj1 l0 x3_1 t207 (t211 != (t207.size : Int))) else (fairwaylaw2_VbiBack.j2 kj1 l0 x3_1 t207 true)) else (fairwaylaw2_VbiBack.j2 kj1 l0 x3_1 t207 true))) else (fairwaylaw2_VbiBack.j2 kj1 l0 x3_1 t207 true))) = some r := H
                        have A13 := Aside0.mk A130
                        clear A130
                        have HC14 := Aside0.mk H
                        clear H
                        have p203 : 0 ≤ (x3_1 : Int) := of_decide_eq_true (by first | (with_reducible assumption) | assumption)
                        have q203 : x3_1 < (l0.length : Int) := of_decide_eq_true (by first | (with_reducible assumption) | assumption)
                        obtain ⟨ad203, e203, hx203_0, hx203_1, hx203_2⟩ := at_T24 HR0.out x3_1 p203 q203
                        cases e203
                        replace hx203_0 := (HB.out.cell (World.block_lt_of_cell? w _ hx203_0)).trans hx203_0
                        replace hx203_1 := (HB.out.cell (World.block_lt_of_cell? w _ hx203_1)).trans hx203_1
                        replace hx203_2 := (HB.out.cell (World.block_lt_of_cell? w _ hx203_2)).trans hx203_2
                        replace p203 := eq_true p203
                        replace q203 := eq_true q203
                        go_upto_region 9 with (first | ((with_reducible refine gate_callee (f := 16) rfl ?_); refine goesL_ (some 37) rfl rfl Try.func16 (by kernel_rfl) rfl #[.agg #[.int .i64 ((rd_T24 l0 x3_1).f0), .string ((rd_T24 l0 x3_1).f1), .string ((rd_T24 l0 x3_1).f2)]] rfl (by (try simp only [List.map_toArray, List.map_cons, List.map_nil]); first | done | rfl | (simp only [List.length_drop, List.length_take]; rfl)) ?_; (with_reducible refine (fairwaylaw2_heavy.calls ((rd_T24 l0 x3_1).f0) ((rd_T24 l0 x3_1).f1) ((rd_T24 l0 x3_1).f2) false _ A7.out).mono ?_); rintro e w15 ⟨rfl, hb⟩; refine ⟨_, rfl, ?_⟩; have n0_ := Aside0.mk (below_step (by repeat (first | (with_reducible first | exact HB.out | apply below_alloc | apply pw_below_drewN | apply below_drew1) | exact HB.out)) hb); clear HB; have HB := n0_; clear n0_; (try clear hb); (try clear hb2); (try clear hk); (try clear hi); have p205 : 0 ≤ (x3_1 : Int) := of_decide_eq_true (by first | (with_reducible assumption) | assumption); have q205 : x3_1 < (l0.length : Int) := of_decide_eq_true (by first | (with_reducible assumption) | assumption); obtain ⟨ad205, e205, hx205_0, hx205_1, hx205_2⟩ := at_T24 HR0.out x3_1 p205 q205; obtain rfl : ad203 = ad205 := (by injection e205); replace hx205_0 := (HB.out.cell (World.block_lt_of_cell? w _ hx205_0)).trans hx205_0; replace hx205_1 := (HB.out.cell (World.block_lt_of_cell? w _ hx205_1)).trans hx205_1; replace hx205_2 := (HB.out.cell (World.block_lt_of_cell? w _ hx205_2)).trans hx205_2; replace p205 := eq_true p205; replace q205 := eq_true q205) | ((with_reducible refine gate_callee (f := 21) rfl ?_); refine goesL_ (some 43) rfl rfl Try.func21 (by kernel_rfl) rfl #[.int .i64 ((rd_T24 l0 x3_1).f0), .int .i64 268435456] rfl (by (try simp only [List.map_toArray, List.map_cons, List.map_nil]); first | done | rfl | (simp only [List.length_drop, List.length_take]; rfl)) ?_; (with_reducible refine (fairwaylaw0_Within.calls ((rd_T24 l0 x3_1).f0) 268435456 t206 _ A10.out).mono ?_); rintro e w' ⟨rfl, ⟨nd, rfl⟩⟩; refine ⟨_, rfl, ?_⟩) | ((with_reducible refine gate_callee (f := 7) rfl ?_); refine goesL_ (some 46) rfl rfl Try.func7 (by kernel_rfl) rfl #[.int .i64 t206] rfl (by (try simp only [List.map_toArray, List.map_cons, List.map_nil]); first | done | rfl | (simp only [List.length_drop, List.length_take]; rfl)) ?_; (with_reducible refine (vbi_Num.calls kj1 t206 t207 t208 _ A11.out).mono ?_); rintro e w16 ⟨rfl, hb⟩; refine ⟨_, rfl, ?_⟩; have n0_ := Aside0.mk (below_step (by repeat (first | (with_reducible first | exact HB.out | apply below_alloc | apply pw_below_drewN | apply below_drew1) | exact HB.out)) hb); clear HB; have HB := n0_; clear n0_; (try clear hb); (try clear hb2); (try clear hk); (try clear hi); have p209 : 0 ≤ (x3_1 : Int) := of_decide_eq_true (by first | (with_reducible assumption) | assumption); have q209 : x3_1 < (l0.length : Int) := of_decide_eq_true (by first | (with_reducible assumption) | assumption); obtain ⟨ad209, e209, hx209_0, hx209_1, hx209_2⟩ := at_T24 HR0.out x3_1 p209 q209; obtain rfl : ad203 = ad209 := (by injection e209); replace hx209_0 := (HB.out.cell (World.block_lt_of_cell? w _ hx209_0)).trans hx209_0; replace hx209_1 := (HB.out.cell (World.block_lt_of_cell? w _ hx209_1)).trans hx209_1; replace hx209_2 := (HB.out.cell (World.block_lt_of_cell? w _ hx209_2)).trans hx209_2; replace p209 := eq_true p209; replace q209 := eq_true q209) | ((with_reducible refine gate_callee (f := 15) rfl ?_); refine goesL_ (some 57) rfl rfl Try.func15 (by kernel_rfl) rfl #[.string (t207 ++ ((rd_T24 l0 x3_1).f2))] rfl (by (try simp only [List.map_toArray, List.map_cons, List.map_nil]); first | done | rfl | (simp only [List.length_drop, List.length_take]; rfl)) ?_; (with_reducible refine (vbi_TakeNum.calls kj1 (t207 ++ ((rd_T24 l0 x3_1).f2)) t210 t211 t212 _ A13.out).mono ?_); rintro e w' ⟨rfl, ⟨nd, rfl⟩⟩; refine ⟨_, rfl, ?_⟩))
                        (try simp only [Act.put, List.setIfInBounds_toArray, List.set_cons_zero, List.set_cons_succ])
                        go_cut [79] (fun v79 wc => ∃ (kq : Nat) (x79_13 : Bool), v79 = .bool x79_13 ∧ Aside0 (fairwaylaw2_VbiBack.j2 kq l0 x3_1 t207 x79_13 = some r) ∧ Aside0 (kq ≤ kj1) ∧ Aside0 (Below w.heap.size w wc))
                        case first =>
                          have H := HC14.out
                          clear HC14
                          replace H := Option.bind_eq_some_iff.mp H
                          obtain ⟨t213, A170, H⟩ := H
                          replace H : (if t213 = 0 then ((fairwaylaw2_num.f t212).bind fun t214 => (if t214 = 0 then (if t210 = t206 then (fairwaylaw2_VbiBack.j2 kj1 l0 x3_1 t207 (t211 != (t207.size : Int))) else (fairwaylaw2_VbiBack.j2 kj1 l0 x3_1 t207 true)) else (fairwaylaw2_VbiBack.j2 kj1 l0 x3_1 t207 true))) else (fairwaylaw2_VbiBack.j2 kj1 l0 x3_1 t207 true)) = some r := H
                          have A17 := Aside0.mk A170
                          clear A170
                          by_cases c18 : t213 = 0
                          · rw [if_pos c18] at H
                            have c18b0 : (t213 == 0) = true := beq_iff_eq.mpr c18
                            have c18b1 : (t213 != 0) = false := bne_eq_false_iff_eq.mpr c18
                            clear c18
                            (first | rw [c18b0] | (simp only [i64_w, i32_w]; rw [c18b0]) | skip)
                            replace H := Option.bind_eq_some_iff.mp H
                            obtain ⟨t214, A190, H⟩ := H
                            replace H : (if t214 = 0 then (if t210 = t206 then (fairwaylaw2_VbiBack.j2 kj1 l0 x3_1 t207 (t211 != (t207.size : Int))) else (fairwaylaw2_VbiBack.j2 kj1 l0 x3_1 t207 true)) else (fairwaylaw2_VbiBack.j2 kj1 l0 x3_1 t207 true)) = some r := H
                            have A19 := Aside0.mk A190
                            clear A190
                            by_cases c20 : t214 = 0
                            · rw [if_pos c20] at H
                              have c20b0 : (t214 == 0) = true := beq_iff_eq.mpr c20
                              have c20b1 : (t214 != 0) = false := bne_eq_false_iff_eq.mpr c20
                              clear c20
                              by_cases c21 : t210 = t206
                              · rw [if_pos c21] at H
                                have c21b0 : (t210 == t206) = true := beq_iff_eq.mpr c21
                                have c21b1 : (t210 != t206) = false := bne_eq_false_iff_eq.mpr c21
                                clear c21
                                have H' := Aside0.mk H
                                clear H
                                go_wp2_with (first | ((with_reducible refine gate_callee (f := 13) rfl ?_); refine goesL_ (some 62) rfl rfl Try.func13 (by kernel_rfl) rfl #[.int .i64 t208] rfl (by (try simp only [List.map_toArray, List.map_cons, List.map_nil]); first | done | rfl | (simp only [List.length_drop, List.length_take]; rfl)) ?_; (with_reducible refine (fairwaylaw2_num.calls t208 t213 _ A17.out).mono ?_); rintro e w' ⟨rfl, ⟨nd, rfl⟩⟩; refine ⟨_, rfl, ?_⟩) | (go_at_call 13; (with_reducible refine (fairwaylaw2_num.calls t212 t214 _ A19.out).mono ?_); rintro e w' ⟨rfl, ⟨nd, rfl⟩⟩))
                                go_meet
                                case rel => exact ⟨_, ((t211 != (t207.size : Int))), (by first | rfl | (simp; done) | (simp [*]; done)), H', ⟨by have := HK1.out; have := HJ1.out; first | omega | exact Nat.le_refl _⟩, ⟨by repeat (first | (with_reducible first | exact HB.out | apply below_alloc | apply pw_below_drewN | apply below_drew1) | exact HB.out)⟩⟩
                              · rw [if_neg c21] at H
                                have c21b0 : (t210 == t206) = false := beq_eq_false_iff_ne.mpr c21
                                have c21b1 : (t210 != t206) = true := bne_iff_ne.mpr c21
                                have H' := Aside0.mk H
                                clear H
                                go_wp2_with (first | ((with_reducible refine gate_callee (f := 13) rfl ?_); refine goesL_ (some 62) rfl rfl Try.func13 (by kernel_rfl) rfl #[.int .i64 t208] rfl (by (try simp only [List.map_toArray, List.map_cons, List.map_nil]); first | done | rfl | (simp only [List.length_drop, List.length_take]; rfl)) ?_; (with_reducible refine (fairwaylaw2_num.calls t208 t213 _ A17.out).mono ?_); rintro e w' ⟨rfl, ⟨nd, rfl⟩⟩; refine ⟨_, rfl, ?_⟩) | (go_at_call 13; (with_reducible refine (fairwaylaw2_num.calls t212 t214 _ A19.out).mono ?_); rintro e w' ⟨rfl, ⟨nd, rfl⟩⟩))
                                go_meet
                                case rel => exact ⟨_, (true), (by first | rfl | (simp; done) | (simp [*]; done)), H', ⟨by have := HK1.out; have := HJ1.out; first | omega | exact Nat.le_refl _⟩, ⟨by repeat (first | (with_reducible first | exact HB.out | apply below_alloc | apply pw_below_drewN | apply below_drew1) | exact HB.out)⟩⟩
                            · rw [if_neg c20] at H
                              have c20b0 : (t214 == 0) = false := beq_eq_false_iff_ne.mpr c20
                              have c20b1 : (t214 != 0) = true := bne_iff_ne.mpr c20
                              have H' := Aside0.mk H
                              clear H
                              go_wp2_with (first | ((with_reducible refine gate_callee (f := 13) rfl ?_); refine goesL_ (some 62) rfl rfl Try.func13 (by kernel_rfl) rfl #[.int .i64 t208] rfl (by (try simp only [List.map_toArray, List.map_cons, List.map_nil]); first | done | rfl | (simp only [List.length_drop, List.length_take]; rfl)) ?_; (with_reducible refine (fairwaylaw2_num.calls t208 t213 _ A17.out).mono ?_); rintro e w' ⟨rfl, ⟨nd, rfl⟩⟩; refine ⟨_, rfl, ?_⟩) | (go_at_call 13; (with_reducible refine (fairwaylaw2_num.calls t212 t214 _ A19.out).mono ?_); rintro e w' ⟨rfl, ⟨nd, rfl⟩⟩))
                              go_meet
                              case rel => exact ⟨_, (true), (by first | rfl | (simp; done) | (simp [*]; done)), H', ⟨by have := HK1.out; have := HJ1.out; first | omega | exact Nat.le_refl _⟩, ⟨by repeat (first | (with_reducible first | exact HB.out | apply below_alloc | apply pw_below_drewN | apply below_drew1) | exact HB.out)⟩⟩
                          · rw [if_neg c18] at H
                            have c18b0 : (t213 == 0) = false := beq_eq_false_iff_ne.mpr c18
                            have c18b1 : (t213 != 0) = true := bne_iff_ne.mpr c18
                            (first | rw [c18b0] | (simp only [i64_w, i32_w]; rw [c18b0]) | skip)
                            have H' := Aside0.mk H
                            clear H
                            go_wp2_with (first | ((with_reducible refine gate_callee (f := 13) rfl ?_); refine goesL_ (some 62) rfl rfl Try.func13 (by kernel_rfl) rfl #[.int .i64 t208] rfl (by (try simp only [List.map_toArray, List.map_cons, List.map_nil]); first | done | rfl | (simp only [List.length_drop, List.length_take]; rfl)) ?_; (with_reducible refine (fairwaylaw2_num.calls t208 t213 _ A17.out).mono ?_); rintro e w' ⟨rfl, ⟨nd, rfl⟩⟩; refine ⟨_, rfl, ?_⟩))
                            go_meet
                            case rel => exact ⟨_, (true), (by first | rfl | (simp; done) | (simp [*]; done)), H', ⟨by have := HK1.out; have := HJ1.out; first | omega | exact Nat.le_refl _⟩, ⟨by repeat (first | (with_reducible first | exact HB.out | apply below_alloc | apply pw_below_drewN | apply below_drew1) | exact HB.out)⟩⟩
                        case rest =>
                          as_aux_lemma =>
                            clear HC14
                            try clear c1
                            try clear c2
                            try clear p2
                            try clear q2
                            try clear hx2
                            try clear c3
                            try clear c3b0
                            try clear c4
                            try clear c5
                            try clear c5b0
                            try clear c6
                            try clear c6b0
                            try clear c7
                            try clear c8
                            try clear c12
                            try clear c12b0
                            try clear c12b1
                            try clear c12b2
                            try clear c13
                            try clear c15
                            try clear c16
                            try clear c18
                            try clear c18b0
                            try clear c18b1
                            try clear c20
                            try clear c20b0
                            try clear c20b1
                            try clear p20
                            try clear q20
                            try clear hx20
                            try clear c21
                            try clear c21b0
                            try clear c21b1
                            try clear hx203_0
                            try clear hx203_1
                            try clear hx203_2
                            try clear hx205_0
                            try clear hx205_1
                            try clear hx205_2
                            try clear hx209_0
                            try clear hx209_1
                            try clear hx209_2
                            try clear p2
                            try clear p203
                            try clear p205
                            try clear p209
                            try clear q203
                            try clear q205
                            try clear q209
                            obtain ⟨kq, x79_13, rfl, HA, HJ13, HB⟩ := hcut
                            cases kq with
                            | zero => exact absurd HA.out (by simp [fairwaylaw2_VbiBack.j2])
                            | succ kj13 =>
                              have H := HA.out
                              clear HA
                              simp only [fairwaylaw2_VbiBack.j2] at H
                              by_cases c22 : x79_13 = true
                              · subst c22
                                have H1 : (some false) = some r := by rw [if_pos rfl] at H; exact H
                                clear H
                                have H := H1
                                clear H1
                                obtain rfl := Option.some.inj H
                                go_wp2
                                go_ret
                                exact ⟨by first | rfl | (simp [errW_none, errW_some] <;> rfl) | (simp [*, errW_none, errW_some] <;> rfl), by repeat (first | (with_reducible first | exact HB.out | apply below_alloc | apply pw_below_drewN | apply below_drew1) | exact HB.out)⟩
                              · replace c22 := Bool.eq_false_iff.mpr c22
                                subst c22
                                have H1 : (fairwaylaw2_VbiBack.l1 kj13 l0 x3_1 t207 0) = some r := by rw [if_neg (show ¬ (false = true) by decide)] at H; exact H
                                clear H
                                have H := H1
                                clear H1
                                have H' := Aside0.mk H
                                clear H
                                go_wp2
                                go_loopg [10] kj13 (fun kq v10 w' => ∃ (x10_4 : Int), v10 = .int .i64 x10_4 ∧ Aside0 (fairwaylaw2_VbiBack.l1 kq l0 x3_1 t207 x10_4 = some r) ∧ Aside0 (kq ≤ kj13) ∧ Aside0 (Below w.heap.size w w'))
                                case atStart => exact ⟨(0), (by first | rfl | (simp; done) | (simp [*]; done)), H', ⟨Nat.le_refl _⟩, ⟨by repeat (first | (with_reducible first | exact HB.out | apply below_alloc | apply pw_below_drewN | apply below_drew1) | exact HB.out)⟩⟩
                                case round =>
                                  as_aux_lemma =>
                                    clear H'
                                    try clear c1
                                    try clear c2
                                    try clear p2
                                    try clear q2
                                    try clear hx2
                                    try clear c3
                                    try clear c3b0
                                    try clear c4
                                    try clear c5
                                    try clear c5b0
                                    try clear c6
                                    try clear c6b0
                                    try clear c7
                                    try clear c8
                                    try clear c12
                                    try clear c12b0
                                    try clear c12b1
                                    try clear c12b2
                                    try clear c13
                                    try clear c15
                                    try clear c16
                                    try clear c18
                                    try clear c18b0
                                    try clear c18b1
                                    try clear c20
                                    try clear c20b0
                                    try clear c20b1
                                    try clear p20
                                    try clear q20
                                    try clear hx20
                                    try clear c21
                                    try clear c21b0
                                    try clear c21b1
                                    try clear c22
                                    try clear hx203_0
                                    try clear hx203_1
                                    try clear hx203_2
                                    try clear hx205_0
                                    try clear hx205_1
                                    try clear hx205_2
                                    try clear hx209_0
                                    try clear hx209_1
                                    try clear hx209_2
                                    try clear p2
                                    try clear p20
                                    try clear p203
                                    try clear p205
                                    try clear p209
                                    try clear q2
                                    try clear q20
                                    try clear q203
                                    try clear q205
                                    try clear q209
                                    obtain ⟨x10_4, rfl, HA, HK4, HB⟩ := hrel
                                    cases gk with
                                    | zero => exact absurd HA.out (by simp [fairwaylaw2_VbiBack.l1])
                                    | succ k4 =>
                                      have H := HA.out
                                      clear HA
                                      simp only [fairwaylaw2_VbiBack.l1] at H
                                      by_cases c23 : x10_4 < (t207.size : Int)
                                      · rw [if_pos c23] at H
                                        have c23b0 : decide (x10_4 < (t207.size : Int)) = true := decide_eq_true c23
                                        clear c23
                                        by_cases c24 : 0 ≤ x10_4
                                        · rw [if_pos c24] at H
                                          have c24b0 := eq_true c24
                                          have c24b1 : decide (0 ≤ x10_4) = true := decide_eq_true c24
                                          clear c24
                                          by_cases c25 : x10_4 ≤ (t207.size : Int)
                                          · rw [if_pos c25] at H
                                            have c25b0 := eq_true c25
                                            have c25b1 : decide (x10_4 ≤ (t207.size : Int)) = true := decide_eq_true c25
                                            clear c25
                                            replace H := Option.bind_eq_some_iff.mp H
                                            obtain ⟨⟨t215, t216, t217⟩, A260, H⟩ := H
                                            replace H : ((fairwaylaw2_num.f t217).bind fun t218 => (if t218 = 7 then (fairwaylaw2_VbiBack.l1 k4 l0 x3_1 t207 (wrap64 (x10_4 + 1))) else (some false))) = some r := H
                                            have A26 := Aside0.mk A260
                                            clear A260
                                            replace H := Option.bind_eq_some_iff.mp H
                                            obtain ⟨t218, A270, H⟩ := H
                                            replace H : (if t218 = 7 then (fairwaylaw2_VbiBack.l1 k4 l0 x3_1 t207 (wrap64 (x10_4 + 1))) else (some false)) = some r := H
                                            have A27 := Aside0.mk A270
                                            clear A270
                                            by_cases c28 : t218 = 7
                                            · rw [if_pos c28] at H
                                              have c28b0 : (t218 == 7) = true := beq_iff_eq.mpr c28
                                              have c28b1 : (t218 != 7) = false := bne_eq_false_iff_eq.mpr c28
                                              clear c28
                                              have H' := Aside0.mk H
                                              clear H
                                              go_wp2_with (first | ((with_reducible refine gate_callee (f := 15) rfl ?_); refine goesL_ (some 90) rfl rfl Try.func15 (by kernel_rfl) rfl #[.string (t207.extract 0 (x10_4 : Int).toNat)] rfl (by (try simp only [List.map_toArray, List.map_cons, List.map_nil]); first | done | rfl | (simp only [List.length_drop, List.length_take]; rfl)) ?_; (with_reducible refine (vbi_TakeNum.calls k4 (t207.extract 0 (x10_4 : Int).toNat) t215 t216 t217 _ A26.out).mono ?_); rintro e w' ⟨rfl, ⟨nd, rfl⟩⟩; refine ⟨_, rfl, ?_⟩) | ((with_reducible refine gate_callee (f := 13) rfl ?_); refine goesL_ (some 95) rfl rfl Try.func13 (by kernel_rfl) rfl #[.int .i64 t217] rfl (by (try simp only [List.map_toArray, List.map_cons, List.map_nil]); first | done | rfl | (simp only [List.length_drop, List.length_take]; rfl)) ?_; (with_reducible refine (fairwaylaw2_num.calls t217 t218 _ A27.out).mono ?_); rintro e w' ⟨rfl, ⟨nd, rfl⟩⟩; refine ⟨_, rfl, ?_⟩))
                                              go_roundg k4
                                              case measure => have := HK1.out; have := HJ1.out; have := HJ13.out; have := HK4.out; omega
                                              case rel => exact ⟨(wrap64 (x10_4 + 1)), (by first | rfl | (simp; done) | (simp [*]; done)), H', ⟨by have := HK1.out; have := HJ1.out; have := HJ13.out; have := HK4.out; omega⟩, ⟨by repeat (first | (with_reducible first | exact HB.out | apply below_alloc | apply pw_below_drewN | apply below_drew1) | exact HB.out)⟩⟩
                                            · rw [if_neg c28] at H
                                              have c28b0 : (t218 == 7) = false := beq_eq_false_iff_ne.mpr c28
                                              have c28b1 : (t218 != 7) = true := bne_iff_ne.mpr c28
                                              obtain rfl := Option.some.inj H
                                              go_wp2_with (first | ((with_reducible refine gate_callee (f := 15) rfl ?_); refine goesL_ (some 90) rfl rfl Try.func15 (by kernel_rfl) rfl #[.string (t207.extract 0 (x10_4 : Int).toNat)] rfl (by (try simp only [List.map_toArray, List.map_cons, List.map_nil]); first | done | rfl | (simp only [List.length_drop, List.length_take]; rfl)) ?_; (with_reducible refine (vbi_TakeNum.calls k4 (t207.extract 0 (x10_4 : Int).toNat) t215 t216 t217 _ A26.out).mono ?_); rintro e w' ⟨rfl, ⟨nd, rfl⟩⟩; refine ⟨_, rfl, ?_⟩) | ((with_reducible refine gate_callee (f := 13) rfl ?_); refine goesL_ (some 95) rfl rfl Try.func13 (by kernel_rfl) rfl #[.int .i64 t217] rfl (by (try simp only [List.map_toArray, List.map_cons, List.map_nil]); first | done | rfl | (simp only [List.length_drop, List.length_take]; rfl)) ?_; (with_reducible refine (fairwaylaw2_num.calls t217 t218 _ A27.out).mono ?_); rintro e w' ⟨rfl, ⟨nd, rfl⟩⟩; refine ⟨_, rfl, ?_⟩))
                                              go_ret
                                              exact ⟨by first | rfl | (simp [errW_none, errW_some] <;> rfl) | (simp [*, errW_none, errW_some] <;> rfl), by repeat (first | (with_reducible first | exact HB.out | apply below_alloc | apply pw_below_drewN | apply below_drew1) | exact HB.out)⟩
                                          · rw [if_neg c25] at H
                                            exact absurd H (by simp)
                                        · rw [if_neg c24] at H
                                          exact absurd H (by simp)
                                      · rw [if_neg c23] at H
                                        have c23b0 : decide (x10_4 < (t207.size : Int)) = false := decide_eq_false c23
                                        clear c23
                                        by_cases c29 : 0 ≤ x3_1
                                        · rw [if_pos c29] at H
                                          have c29b0 : decide (0 ≤ x3_1) = true := decide_eq_true c29
                                          clear c29
                                          by_cases c30 : x3_1 < (l0.length : Int)
                                          · rw [if_pos c30] at H
                                            have c30b0 : decide (x3_1 < (l0.length : Int)) = true := decide_eq_true c30
                                            clear c30
                                            replace H := Option.bind_eq_some_iff.mp H
                                            obtain ⟨⟨t220, t221⟩, A310, H⟩ := H
                                            replace H : ((fairwaylaw2_num.f t221).bind fun t222 => (if t222 = 0 then (if (t220.size : Int) = (wrap64 (2 + (((rd_T24 l0 x3_1).f1).size : Int))) then (if t220.size + ((rd_T24 l0 x3_1).f2).size ≤ 9223372036854775807 then ((vbi_TakeBin.f k4 (t220 ++ ((rd_T24 l0 x3_1).f2))).bind fun bt225 => (if 0 ≤ (wrap64 ((t220.size : Int) - 1)) then (if (wrap64 ((t220.size : Int) - 1)) ≤ (t220.size : Int) then ((vbi_TakeBin.f k4 (t220.extract 0 ((wrap64 ((t220.size : Int) - 1)) : Int).toNat)).bind fun bt228 => ((fairwaylaw2_num.f bt225.2.2).bind fun t231 => (if t231 = 0 then (if bt225.1.toList = ((rd_T24 l0 x3_1).f1).toList then (if bt225.2.1 = (t220.size : Int) then ((fairwaylaw2_num.f bt228.2.2).bind fun t233 => (if t233 = 7 then (fairwaylaw2_VbiBack.j4 k4 l0 x3_1) else (some false))) else (some false)) else (some false)) else (some false)))) else (none)) else (none))) else (none)) else (some false)) else (fairwaylaw2_VbiBack.j4 k4 l0 x3_1))) = some r := H
                                            have A31 := Aside0.mk A310
                                            clear A310
                                            replace H := Option.bind_eq_some_iff.mp H
                                            obtain ⟨t222, A320, H⟩ := H
                                            replace H : (if t222 = 0 then (if (t220.size : Int) = (wrap64 (2 + (((rd_T24 l0 x3_1).f1).size : Int))) then (if t220.size + ((rd_T24 l0 x3_1).f2).size ≤ 9223372036854775807 then ((vbi_TakeBin.f k4 (t220 ++ ((rd_T24 l0 x3_1).f2))).bind fun bt225 => (if 0 ≤ (wrap64 ((t220.size : Int) - 1)) then (if (wrap64 ((t220.size : Int) - 1)) ≤ (t220.size : Int) then ((vbi_TakeBin.f k4 (t220.extract 0 ((wrap64 ((t220.size : Int) - 1)) : Int).toNat)).bind fun bt228 => ((fairwaylaw2_num.f bt225.2.2).bind fun t231 => (if t231 = 0 then (if bt225.1.toList = ((rd_T24 l0 x3_1).f1).toList then (if bt225.2.1 = (t220.size : Int) then ((fairwaylaw2_num.f bt228.2.2).bind fun t233 => (if t233 = 7 then (fairwaylaw2_VbiBack.j4 k4 l0 x3_1) else (some false))) else (some false)) else (some false)) else (some false)))) else (none)) else (none))) else (none)) else (some false)) else (fairwaylaw2_VbiBack.j4 k4 l0 x3_1)) = some r := H
                                            have A32 := Aside0.mk A320
                                            clear A320
                                            have HC33 := Aside0.mk H
                                            clear H
                                            have p219 : 0 ≤ (x3_1 : Int) := of_decide_eq_true (by first | (with_reducible assumption) | assumption)
                                            have q219 : x3_1 < (l0.length : Int) := of_decide_eq_true (by first | (with_reducible assumption) | assumption)
                                            obtain ⟨ad219, e219, hx219_0, hx219_1, hx219_2⟩ := at_T24 HR0.out x3_1 p219 q219
                                            obtain rfl : ad203 = ad219 := (by injection e219)
                                            replace hx219_0 := (HB.out.cell (World.block_lt_of_cell? w _ hx219_0)).trans hx219_0
                                            replace hx219_1 := (HB.out.cell (World.block_lt_of_cell? w _ hx219_1)).trans hx219_1
                                            replace hx219_2 := (HB.out.cell (World.block_lt_of_cell? w _ hx219_2)).trans hx219_2
                                            replace p219 := eq_true p219
                                            replace q219 := eq_true q219
                                            go_upto_if 108 with (first | ((with_reducible refine gate_callee (f := 22) rfl ?_); refine goesL_ (some 103) rfl rfl Try.func22 (by kernel_rfl) rfl #[.string ((rd_T24 l0 x3_1).f1)] rfl (by (try simp only [List.map_toArray, List.map_cons, List.map_nil]); first | done | rfl | (simp only [List.length_drop, List.length_take]; rfl)) ?_; (with_reducible refine (vbi_Bin.calls k4 ((rd_T24 l0 x3_1).f1) t220 t221 _ A31.out).mono ?_); rintro e w34 ⟨rfl, hb⟩; refine ⟨_, rfl, ?_⟩; have n0_ := Aside0.mk (below_step (by repeat (first | (with_reducible first | exact HB.out | apply below_alloc | apply pw_below_drewN | apply below_drew1) | exact HB.out)) hb); clear HB; have HB := n0_; clear n0_; (try clear hb); (try clear hb2); (try clear hk); (try clear hi)) | ((with_reducible refine gate_callee (f := 13) rfl ?_); refine goesL_ (some 107) rfl rfl Try.func13 (by kernel_rfl) rfl #[.int .i64 t221] rfl (by (try simp only [List.map_toArray, List.map_cons, List.map_nil]); first | done | rfl | (simp only [List.length_drop, List.length_take]; rfl)) ?_; (with_reducible refine (fairwaylaw2_num.calls t221 t222 _ A32.out).mono ?_); rintro e w' ⟨rfl, ⟨nd, rfl⟩⟩; refine ⟨_, rfl, ?_⟩))
                                            (try simp only [Act.put, List.setIfInBounds_toArray, List.set_cons_zero, List.set_cons_succ])
                                            go_cut [] (fun wc => ∃ (kq : Nat), Aside0 (fairwaylaw2_VbiBack.j4 kq l0 x3_1 = some r) ∧ Aside0 (kq ≤ k4) ∧ Aside0 (Below w.heap.size w wc))
                                            case first =>
                                              have H := HC33.out
                                              clear HC33
                                              by_cases c35 : t222 = 0
                                              · rw [if_pos c35] at H
                                                have c35b0 : (t222 == 0) = true := beq_iff_eq.mpr c35
                                                have c35b1 : (t222 != 0) = false := bne_eq_false_iff_eq.mpr c35
                                                clear c35
                                                (first | rw [c35b0] | (simp only [i64_w, i32_w]; rw [c35b0]) | skip)
                                                by_cases c36 : (t220.size : Int) = (wrap64 (2 + (((rd_T24 l0 x3_1).f1).size : Int)))
                                                · rw [if_pos c36] at H
                                                  have c36b0 : ((t220.size : Int) == (wrap64 (2 + (((rd_T24 l0 x3_1).f1).size : Int)))) = true := beq_iff_eq.mpr c36
                                                  have c36b1 : ((t220.size : Int) != (wrap64 (2 + (((rd_T24 l0 x3_1).f1).size : Int)))) = false := bne_eq_false_iff_eq.mpr c36
                                                  clear c36
                                                  by_cases c37 : t220.size + ((rd_T24 l0 x3_1).f2).size ≤ 9223372036854775807
                                                  · rw [if_pos c37] at H
                                                    have c37b0 := eq_true c37
                                                    have c37b1 : decide (t220.size + ((rd_T24 l0 x3_1).f2).size ≤ 9223372036854775807) = true := decide_eq_true c37
                                                    try have c37b2 : (9223372036854775807 < t220.size + ((rd_T24 l0 x3_1).f2).size) = False := eq_false (Nat.not_lt.2 c37)
                                                    replace H := Option.bind_eq_some_iff.mp H
                                                    obtain ⟨⟨t225, t226, t227⟩, A380, H⟩ := H
                                                    replace H : (if 0 ≤ (wrap64 ((t220.size : Int) - 1)) then (if (wrap64 ((t220.size : Int) - 1)) ≤ (t220.size : Int) then ((vbi_TakeBin.f k4 (t220.extract 0 ((wrap64 ((t220.size : Int) - 1)) : Int).toNat)).bind fun bt228 => ((fairwaylaw2_num.f t227).bind fun t231 => (if t231 = 0 then (if t225.toList = ((rd_T24 l0 x3_1).f1).toList then (if t226 = (t220.size : Int) then ((fairwaylaw2_num.f bt228.2.2).bind fun t233 => (if t233 = 7 then (fairwaylaw2_VbiBack.j4 k4 l0 x3_1) else (some false))) else (some false)) else (some false)) else (some false)))) else (none)) else (none)) = some r := H
                                                    have A38 := Aside0.mk A380
                                                    clear A380
                                                    obtain ⟨ji39, hji39⟩ : ∃ j_ : Int, (wrap64 ((t220.size : Int) - 1)) = j_ := ⟨_, rfl⟩
                                                    replace H : (if 0 ≤ (ji39) then (if (ji39) ≤ (t220.size : Int) then ((vbi_TakeBin.f k4 (t220.extract 0 ((ji39) : Int).toNat)).bind fun bt228 => ((fairwaylaw2_num.f t227).bind fun t231 => (if t231 = 0 then (if t225.toList = ((rd_T24 l0 x3_1).f1).toList then (if t226 = (t220.size : Int) then ((fairwaylaw2_num.f bt228.2.2).bind fun t233 => (if t233 = 7 then (fairwaylaw2_VbiBack.j4 k4 l0 x3_1) else (some false))) else (some false)) else (some false)) else (some false)))) else (none)) else (none)) = some r := by first | (rw [hji39] at H; exact H) | (simp only [hji39] at H ⊢; exact H)
                                                    (try rw [hji39] at A38)
                                                    have hji39w : (IntKind.i64.wrap ((t220.size : Int) - 1)) = ji39 := (i64_w _).trans hji39
                                                    by_cases c40 : 0 ≤ (ji39)
                                                    · rw [if_pos c40] at H
                                                      have c40b0 := eq_true c40
                                                      have c40b1 : decide (0 ≤ (ji39)) = true := decide_eq_true c40
                                                      clear c40
                                                      by_cases c41 : (ji39) ≤ (t220.size : Int)
                                                      · rw [if_pos c41] at H
                                                        have c41b0 := eq_true c41
                                                        have c41b1 : decide ((ji39) ≤ (t220.size : Int)) = true := decide_eq_true c41
                                                        clear c41
                                                        replace H := Option.bind_eq_some_iff.mp H
                                                        obtain ⟨⟨t228, t229, t230⟩, A420, H⟩ := H
                                                        replace H : ((fairwaylaw2_num.f t227).bind fun t231 => (if t231 = 0 then (if t225.toList = ((rd_T24 l0 x3_1).f1).toList then (if t226 = (t220.size : Int) then ((fairwaylaw2_num.f t230).bind fun t233 => (if t233 = 7 then (fairwaylaw2_VbiBack.j4 k4 l0 x3_1) else (some false))) else (some false)) else (some false)) else (some false))) = some r := H
                                                        have A42 := Aside0.mk A420
                                                        clear A420
                                                        replace H := Option.bind_eq_some_iff.mp H
                                                        obtain ⟨t231, A430, H⟩ := H
                                                        replace H : (if t231 = 0 then (if t225.toList = ((rd_T24 l0 x3_1).f1).toList then (if t226 = (t220.size : Int) then ((fairwaylaw2_num.f t230).bind fun t233 => (if t233 = 7 then (fairwaylaw2_VbiBack.j4 k4 l0 x3_1) else (some false))) else (some false)) else (some false)) else (some false)) = some r := H
                                                        have A43 := Aside0.mk A430
                                                        clear A430
                                                        by_cases c44 : t231 = 0
                                                        · rw [if_pos c44] at H
                                                          have c44b0 : (t231 == 0) = true := beq_iff_eq.mpr c44
                                                          have c44b1 : (t231 != 0) = false := bne_eq_false_iff_eq.mpr c44
                                                          clear c44
                                                          by_cases c45 : t225.toList = ((rd_T24 l0 x3_1).f1).toList
                                                          · rw [if_pos c45] at H
                                                            have c45b0 : (t225.toList == ((rd_T24 l0 x3_1).f1).toList) = true := beq_iff_eq.mpr c45
                                                            have c45b1 : (t225.toList != ((rd_T24 l0 x3_1).f1).toList) = false := bne_eq_false_iff_eq.mpr c45
                                                            clear c45
                                                            by_cases c46 : t226 = (t220.size : Int)
                                                            · rw [if_pos c46] at H
                                                              have c46b0 : (t226 == (t220.size : Int)) = true := beq_iff_eq.mpr c46
                                                              have c46b1 : (t226 != (t220.size : Int)) = false := bne_eq_false_iff_eq.mpr c46
                                                              clear c46
                                                              replace H := Option.bind_eq_some_iff.mp H
                                                              obtain ⟨t233, A470, H⟩ := H
                                                              replace H : (if t233 = 7 then (fairwaylaw2_VbiBack.j4 k4 l0 x3_1) else (some false)) = some r := H
                                                              have A47 := Aside0.mk A470
                                                              clear A470
                                                              by_cases c48 : t233 = 7
                                                              · rw [if_pos c48] at H
                                                                have c48b0 : (t233 == 7) = true := beq_iff_eq.mpr c48
                                                                have c48b1 : (t233 != 7) = false := bne_eq_false_iff_eq.mpr c48
                                                                clear c48
                                                                have H' := Aside0.mk H
                                                                clear H
                                                                have p223 : 0 ≤ (x3_1 : Int) := of_decide_eq_true (by first | (with_reducible assumption) | assumption)
                                                                have q223 : x3_1 < (l0.length : Int) := of_decide_eq_true (by first | (with_reducible assumption) | assumption)
                                                                obtain ⟨ad223, e223, hx223_0, hx223_1, hx223_2⟩ := at_T24 HR0.out x3_1 p223 q223
                                                                obtain rfl : ad203 = ad223 := (by injection e223)
                                                                replace hx223_0 := (HB.out.cell (World.block_lt_of_cell? w _ hx223_0)).trans hx223_0
                                                                replace hx223_1 := (HB.out.cell (World.block_lt_of_cell? w _ hx223_1)).trans hx223_1
                                                                replace hx223_2 := (HB.out.cell (World.block_lt_of_cell? w _ hx223_2)).trans hx223_2
                                                                replace p223 := eq_true p223
                                                                replace q223 := eq_true q223
                                                                have p224 : 0 ≤ (x3_1 : Int) := of_decide_eq_true (by first | (with_reducible assumption) | assumption)
                                                                have q224 : x3_1 < (l0.length : Int) := of_decide_eq_true (by first | (with_reducible assumption) | assumption)
                                                                obtain ⟨ad224, e224, hx224_0, hx224_1, hx224_2⟩ := at_T24 HR0.out x3_1 p224 q224
                                                                obtain rfl : ad203 = ad224 := (by injection e224)
                                                                replace hx224_0 := (HB.out.cell (World.block_lt_of_cell? w _ hx224_0)).trans hx224_0
                                                                replace hx224_1 := (HB.out.cell (World.block_lt_of_cell? w _ hx224_1)).trans hx224_1
                                                                replace hx224_2 := (HB.out.cell (World.block_lt_of_cell? w _ hx224_2)).trans hx224_2
                                                                replace p224 := eq_true p224
                                                                replace q224 := eq_true q224
                                                                go_wp2_with (first | ((with_reducible refine gate_callee (f := 23) rfl ?_); refine goesL_ (some 127) rfl rfl Try.func23 (by kernel_rfl) rfl #[.string (t220 ++ ((rd_T24 l0 x3_1).f2))] rfl (by (try simp only [List.map_toArray, List.map_cons, List.map_nil]); first | done | rfl | (simp only [List.length_drop, List.length_take]; rfl)) ?_; (with_reducible refine (vbi_TakeBin.calls k4 (t220 ++ ((rd_T24 l0 x3_1).f2)) t225 t226 t227 _ A38.out).mono ?_); rintro e w' ⟨rfl, ⟨nd, rfl⟩⟩; refine ⟨_, rfl, ?_⟩) | ((with_reducible refine gate_callee (f := 23) rfl ?_); refine goesL_ (some 137) rfl rfl Try.func23 (by kernel_rfl) rfl #[.string (t220.extract 0 ((ji39) : Int).toNat)] rfl (by (try simp only [List.map_toArray, List.map_cons, List.map_nil]); first | done | (simp only [hji39]; rfl) | rfl | (simp only [List.length_drop, List.length_take]; rfl)) ?_; (with_reducible refine (vbi_TakeBin.calls k4 (t220.extract 0 ((ji39) : Int).toNat) t228 t229 t230 _ A42.out).mono ?_); rintro e w' ⟨rfl, ⟨nd, rfl⟩⟩; refine ⟨_, rfl, ?_⟩) | ((with_reducible refine gate_callee (f := 13) rfl ?_); refine goesL_ (some 142) rfl rfl Try.func13 (by kernel_rfl) rfl #[.int .i64 t227] rfl (by (try simp only [List.map_toArray, List.map_cons, List.map_nil]); first | done | rfl | (simp only [List.length_drop, List.length_take]; rfl)) ?_; (with_reducible refine (fairwaylaw2_num.calls t227 t231 _ A43.out).mono ?_); rintro e w' ⟨rfl, ⟨nd, rfl⟩⟩; refine ⟨_, rfl, ?_⟩; have p232 : 0 ≤ (x3_1 : Int) := of_decide_eq_true (by first | (with_reducible assumption) | assumption); have q232 : x3_1 < (l0.length : Int) := of_decide_eq_true (by first | (with_reducible assumption) | assumption); obtain ⟨ad232, e232, hx232_0, hx232_1, hx232_2⟩ := at_T24 HR0.out x3_1 p232 q232; obtain rfl : ad203 = ad232 := (by injection e232); replace hx232_0 := (HB.out.cell (World.block_lt_of_cell? w _ hx232_0)).trans hx232_0; replace hx232_1 := (HB.out.cell (World.block_lt_of_cell? w _ hx232_1)).trans hx232_1; replace hx232_2 := (HB.out.cell (World.block_lt_of_cell? w _ hx232_2)).trans hx232_2; replace p232 := eq_true p232; replace q232 := eq_true q232) | (go_at_call 13; (with_reducible refine (fairwaylaw2_num.calls t230 t233 _ A47.out).mono ?_); rintro e w' ⟨rfl, ⟨nd, rfl⟩⟩))
                                                                go_meet
                                                                case rel => exact ⟨_, H', ⟨by have := HK1.out; have := HJ1.out; have := HJ13.out; have := HK4.out; first | omega | exact Nat.le_refl _⟩, ⟨by repeat (first | (with_reducible first | exact HB.out | apply below_alloc | apply pw_below_drewN | apply below_drew1) | exact HB.out)⟩⟩
                                                              · rw [if_neg c48] at H
                                                                have c48b0 : (t233 == 7) = false := beq_eq_false_iff_ne.mpr c48
                                                                have c48b1 : (t233 != 7) = true := bne_iff_ne.mpr c48
                                                                obtain rfl := Option.some.inj H
                                                                have p223 : 0 ≤ (x3_1 : Int) := of_decide_eq_true (by first | (with_reducible assumption) | assumption)
                                                                have q223 : x3_1 < (l0.length : Int) := of_decide_eq_true (by first | (with_reducible assumption) | assumption)
                                                                obtain ⟨ad223, e223, hx223_0, hx223_1, hx223_2⟩ := at_T24 HR0.out x3_1 p223 q223
                                                                obtain rfl : ad203 = ad223 := (by injection e223)
                                                                replace hx223_0 := (HB.out.cell (World.block_lt_of_cell? w _ hx223_0)).trans hx223_0
                                                                replace hx223_1 := (HB.out.cell (World.block_lt_of_cell? w _ hx223_1)).trans hx223_1
                                                                replace hx223_2 := (HB.out.cell (World.block_lt_of_cell? w _ hx223_2)).trans hx223_2
                                                                replace p223 := eq_true p223
                                                                replace q223 := eq_true q223
                                                                have p224 : 0 ≤ (x3_1 : Int) := of_decide_eq_true (by first | (with_reducible assumption) | assumption)
                                                                have q224 : x3_1 < (l0.length : Int) := of_decide_eq_true (by first | (with_reducible assumption) | assumption)
                                                                obtain ⟨ad224, e224, hx224_0, hx224_1, hx224_2⟩ := at_T24 HR0.out x3_1 p224 q224
                                                                obtain rfl : ad203 = ad224 := (by injection e224)
                                                                replace hx224_0 := (HB.out.cell (World.block_lt_of_cell? w _ hx224_0)).trans hx224_0
                                                                replace hx224_1 := (HB.out.cell (World.block_lt_of_cell? w _ hx224_1)).trans hx224_1
                                                                replace hx224_2 := (HB.out.cell (World.block_lt_of_cell? w _ hx224_2)).trans hx224_2
                                                                replace p224 := eq_true p224
                                                                replace q224 := eq_true q224
                                                                go_wp2_with (first | ((with_reducible refine gate_callee (f := 23) rfl ?_); refine goesL_ (some 127) rfl rfl Try.func23 (by kernel_rfl) rfl #[.string (t220 ++ ((rd_T24 l0 x3_1).f2))] rfl (by (try simp only [List.map_toArray, List.map_cons, List.map_nil]); first | done | rfl | (simp only [List.length_drop, List.length_take]; rfl)) ?_; (with_reducible refine (vbi_TakeBin.calls k4 (t220 ++ ((rd_T24 l0 x3_1).f2)) t225 t226 t227 _ A38.out).mono ?_); rintro e w' ⟨rfl, ⟨nd, rfl⟩⟩; refine ⟨_, rfl, ?_⟩) | ((with_reducible refine gate_callee (f := 23) rfl ?_); refine goesL_ (some 137) rfl rfl Try.func23 (by kernel_rfl) rfl #[.string (t220.extract 0 ((ji39) : Int).toNat)] rfl (by (try simp only [List.map_toArray, List.map_cons, List.map_nil]); first | done | (simp only [hji39]; rfl) | rfl | (simp only [List.length_drop, List.length_take]; rfl)) ?_; (with_reducible refine (vbi_TakeBin.calls k4 (t220.extract 0 ((ji39) : Int).toNat) t228 t229 t230 _ A42.out).mono ?_); rintro e w' ⟨rfl, ⟨nd, rfl⟩⟩; refine ⟨_, rfl, ?_⟩) | ((with_reducible refine gate_callee (f := 13) rfl ?_); refine goesL_ (some 142) rfl rfl Try.func13 (by kernel_rfl) rfl #[.int .i64 t227] rfl (by (try simp only [List.map_toArray, List.map_cons, List.map_nil]); first | done | rfl | (simp only [List.length_drop, List.length_take]; rfl)) ?_; (with_reducible refine (fairwaylaw2_num.calls t227 t231 _ A43.out).mono ?_); rintro e w' ⟨rfl, ⟨nd, rfl⟩⟩; refine ⟨_, rfl, ?_⟩; have p232 : 0 ≤ (x3_1 : Int) := of_decide_eq_true (by first | (with_reducible assumption) | assumption); have q232 : x3_1 < (l0.length : Int) := of_decide_eq_true (by first | (with_reducible assumption) | assumption); obtain ⟨ad232, e232, hx232_0, hx232_1, hx232_2⟩ := at_T24 HR0.out x3_1 p232 q232; obtain rfl : ad203 = ad232 := (by injection e232); replace hx232_0 := (HB.out.cell (World.block_lt_of_cell? w _ hx232_0)).trans hx232_0; replace hx232_1 := (HB.out.cell (World.block_lt_of_cell? w _ hx232_1)).trans hx232_1; replace hx232_2 := (HB.out.cell (World.block_lt_of_cell? w _ hx232_2)).trans hx232_2; replace p232 := eq_true p232; replace q232 := eq_true q232) | (go_at_call 13; (with_reducible refine (fairwaylaw2_num.calls t230 t233 _ A47.out).mono ?_); rintro e w' ⟨rfl, ⟨nd, rfl⟩⟩))
                                                                go_ret
                                                                exact ⟨by first | rfl | (simp [errW_none, errW_some] <;> rfl) | (simp only [← hji39]; first | rfl | (simp [errW_none, errW_some] <;> rfl)) | (simp [*, errW_none, errW_some] <;> rfl), by repeat (first | (with_reducible first | exact HB.out | apply below_alloc | apply pw_below_drewN | apply below_drew1) | exact HB.out)⟩
                                                            · rw [if_neg c46] at H
                                                              have c46b0 : (t226 == (t220.size : Int)) = false := beq_eq_false_iff_ne.mpr c46
                                                              have c46b1 : (t226 != (t220.size : Int)) = true := bne_iff_ne.mpr c46
                                                              obtain rfl := Option.some.inj H
                                                              have p223 : 0 ≤ (x3_1 : Int) := of_decide_eq_true (by first | (with_reducible assumption) | assumption)
                                                              have q223 : x3_1 < (l0.length : Int) := of_decide_eq_true (by first | (with_reducible assumption) | assumption)
                                                              obtain ⟨ad223, e223, hx223_0, hx223_1, hx223_2⟩ := at_T24 HR0.out x3_1 p223 q223
                                                              obtain rfl : ad203 = ad223 := (by injection e223)
                                                              replace hx223_0 := (HB.out.cell (World.block_lt_of_cell? w _ hx223_0)).trans hx223_0
                                                              replace hx223_1 := (HB.out.cell (World.block_lt_of_cell? w _ hx223_1)).trans hx223_1
                                                              replace hx223_2 := (HB.out.cell (World.block_lt_of_cell? w _ hx223_2)).trans hx223_2
                                                              replace p223 := eq_true p223
                                                              replace q223 := eq_true q223
                                                              have p224 : 0 ≤ (x3_1 : Int) := of_decide_eq_true (by first | (with_reducible assumption) | assumption)
                                                              have q224 : x3_1 < (l0.length : Int) := of_decide_eq_true (by first | (with_reducible assumption) | assumption)
                                                              obtain ⟨ad224, e224, hx224_0, hx224_1, hx224_2⟩ := at_T24 HR0.out x3_1 p224 q224
                                                              obtain rfl : ad203 = ad224 := (by injection e224)
                                                              replace hx224_0 := (HB.out.cell (World.block_lt_of_cell? w _ hx224_0)).trans hx224_0
                                                              replace hx224_1 := (HB.out.cell (World.block_lt_of_cell? w _ hx224_1)).trans hx224_1
                                                              replace hx224_2 := (HB.out.cell (World.block_lt_of_cell? w _ hx224_2)).trans hx224_2
                                                              replace p224 := eq_true p224
                                                              replace q224 := eq_true q224
                                                              go_wp2_with (first | ((with_reducible refine gate_callee (f := 23) rfl ?_); refine goesL_ (some 127) rfl rfl Try.func23 (by kernel_rfl) rfl #[.string (t220 ++ ((rd_T24 l0 x3_1).f2))] rfl (by (try simp only [List.map_toArray, List.map_cons, List.map_nil]); first | done | rfl | (simp only [List.length_drop, List.length_take]; rfl)) ?_; (with_reducible refine (vbi_TakeBin.calls k4 (t220 ++ ((rd_T24 l0 x3_1).f2)) t225 t226 t227 _ A38.out).mono ?_); rintro e w' ⟨rfl, ⟨nd, rfl⟩⟩; refine ⟨_, rfl, ?_⟩) | ((with_reducible refine gate_callee (f := 23) rfl ?_); refine goesL_ (some 137) rfl rfl Try.func23 (by kernel_rfl) rfl #[.string (t220.extract 0 ((ji39) : Int).toNat)] rfl (by (try simp only [List.map_toArray, List.map_cons, List.map_nil]); first | done | (simp only [hji39]; rfl) | rfl | (simp only [List.length_drop, List.length_take]; rfl)) ?_; (with_reducible refine (vbi_TakeBin.calls k4 (t220.extract 0 ((ji39) : Int).toNat) t228 t229 t230 _ A42.out).mono ?_); rintro e w' ⟨rfl, ⟨nd, rfl⟩⟩; refine ⟨_, rfl, ?_⟩) | ((with_reducible refine gate_callee (f := 13) rfl ?_); refine goesL_ (some 142) rfl rfl Try.func13 (by kernel_rfl) rfl #[.int .i64 t227] rfl (by (try simp only [List.map_toArray, List.map_cons, List.map_nil]); first | done | rfl | (simp only [List.length_drop, List.length_take]; rfl)) ?_; (with_reducible refine (fairwaylaw2_num.calls t227 t231 _ A43.out).mono ?_); rintro e w' ⟨rfl, ⟨nd, rfl⟩⟩; refine ⟨_, rfl, ?_⟩; have p232 : 0 ≤ (x3_1 : Int) := of_decide_eq_true (by first | (with_reducible assumption) | assumption); have q232 : x3_1 < (l0.length : Int) := of_decide_eq_true (by first | (with_reducible assumption) | assumption); obtain ⟨ad232, e232, hx232_0, hx232_1, hx232_2⟩ := at_T24 HR0.out x3_1 p232 q232; obtain rfl : ad203 = ad232 := (by injection e232); replace hx232_0 := (HB.out.cell (World.block_lt_of_cell? w _ hx232_0)).trans hx232_0; replace hx232_1 := (HB.out.cell (World.block_lt_of_cell? w _ hx232_1)).trans hx232_1; replace hx232_2 := (HB.out.cell (World.block_lt_of_cell? w _ hx232_2)).trans hx232_2; replace p232 := eq_true p232; replace q232 := eq_true q232))
                                                              go_ret
                                                              exact ⟨by first | rfl | (simp [errW_none, errW_some] <;> rfl) | (simp only [← hji39]; first | rfl | (simp [errW_none, errW_some] <;> rfl)) | (simp [*, errW_none, errW_some] <;> rfl), by repeat (first | (with_reducible first | exact HB.out | apply below_alloc | apply pw_below_drewN | apply below_drew1) | exact HB.out)⟩
                                                          · rw [if_neg c45] at H
                                                            have c45b0 : (t225.toList == ((rd_T24 l0 x3_1).f1).toList) = false := beq_eq_false_iff_ne.mpr c45
                                                            have c45b1 : (t225.toList != ((rd_T24 l0 x3_1).f1).toList) = true := bne_iff_ne.mpr c45
                                                            obtain rfl := Option.some.inj H
                                                            have p223 : 0 ≤ (x3_1 : Int) := of_decide_eq_true (by first | (with_reducible assumption) | assumption)
                                                            have q223 : x3_1 < (l0.length : Int) := of_decide_eq_true (by first | (with_reducible assumption) | assumption)
                                                            obtain ⟨ad223, e223, hx223_0, hx223_1, hx223_2⟩ := at_T24 HR0.out x3_1 p223 q223
                                                            obtain rfl : ad203 = ad223 := (by injection e223)
                                                            replace hx223_0 := (HB.out.cell (World.block_lt_of_cell? w _ hx223_0)).trans hx223_0
                                                            replace hx223_1 := (HB.out.cell (World.block_lt_of_cell? w _ hx223_1)).trans hx223_1
                                                            replace hx223_2 := (HB.out.cell (World.block_lt_of_cell? w _ hx223_2)).trans hx223_2
                                                            replace p223 := eq_true p223
                                                            replace q223 := eq_true q223
                                                            have p224 : 0 ≤ (x3_1 : Int) := of_decide_eq_true (by first | (with_reducible assumption) | assumption)
                                                            have q224 : x3_1 < (l0.length : Int) := of_decide_eq_true (by first | (with_reducible assumption) | assumption)
                                                            obtain ⟨ad224, e224, hx224_0, hx224_1, hx224_2⟩ := at_T24 HR0.out x3_1 p224 q224
                                                            obtain rfl : ad203 = ad224 := (by injection e224)
                                                            replace hx224_0 := (HB.out.cell (World.block_lt_of_cell? w _ hx224_0)).trans hx224_0
                                                            replace hx224_1 := (HB.out.cell (World.block_lt_of_cell? w _ hx224_1)).trans hx224_1
                                                            replace hx224_2 := (HB.out.cell (World.block_lt_of_cell? w _ hx224_2)).trans hx224_2
                                                            replace p224 := eq_true p224
                                                            replace q224 := eq_true q224
                                                            go_wp2_with (first | ((with_reducible refine gate_callee (f := 23) rfl ?_); refine goesL_ (some 127) rfl rfl Try.func23 (by kernel_rfl) rfl #[.string (t220 ++ ((rd_T24 l0 x3_1).f2))] rfl (by (try simp only [List.map_toArray, List.map_cons, List.map_nil]); first | done | rfl | (simp only [List.length_drop, List.length_take]; rfl)) ?_; (with_reducible refine (vbi_TakeBin.calls k4 (t220 ++ ((rd_T24 l0 x3_1).f2)) t225 t226 t227 _ A38.out).mono ?_); rintro e w' ⟨rfl, ⟨nd, rfl⟩⟩; refine ⟨_, rfl, ?_⟩) | ((with_reducible refine gate_callee (f := 23) rfl ?_); refine goesL_ (some 137) rfl rfl Try.func23 (by kernel_rfl) rfl #[.string (t220.extract 0 ((ji39) : Int).toNat)] rfl (by (try simp only [List.map_toArray, List.map_cons, List.map_nil]); first | done | (simp only [hji39]; rfl) | rfl | (simp only [List.length_drop, List.length_take]; rfl)) ?_; (with_reducible refine (vbi_TakeBin.calls k4 (t220.extract 0 ((ji39) : Int).toNat) t228 t229 t230 _ A42.out).mono ?_); rintro e w' ⟨rfl, ⟨nd, rfl⟩⟩; refine ⟨_, rfl, ?_⟩) | ((with_reducible refine gate_callee (f := 13) rfl ?_); refine goesL_ (some 142) rfl rfl Try.func13 (by kernel_rfl) rfl #[.int .i64 t227] rfl (by (try simp only [List.map_toArray, List.map_cons, List.map_nil]); first | done | rfl | (simp only [List.length_drop, List.length_take]; rfl)) ?_; (with_reducible refine (fairwaylaw2_num.calls t227 t231 _ A43.out).mono ?_); rintro e w' ⟨rfl, ⟨nd, rfl⟩⟩; refine ⟨_, rfl, ?_⟩; have p232 : 0 ≤ (x3_1 : Int) := of_decide_eq_true (by first | (with_reducible assumption) | assumption); have q232 : x3_1 < (l0.length : Int) := of_decide_eq_true (by first | (with_reducible assumption) | assumption); obtain ⟨ad232, e232, hx232_0, hx232_1, hx232_2⟩ := at_T24 HR0.out x3_1 p232 q232; obtain rfl : ad203 = ad232 := (by injection e232); replace hx232_0 := (HB.out.cell (World.block_lt_of_cell? w _ hx232_0)).trans hx232_0; replace hx232_1 := (HB.out.cell (World.block_lt_of_cell? w _ hx232_1)).trans hx232_1; replace hx232_2 := (HB.out.cell (World.block_lt_of_cell? w _ hx232_2)).trans hx232_2; replace p232 := eq_true p232; replace q232 := eq_true q232))
                                                            go_ret
                                                            exact ⟨by first | rfl | (simp [errW_none, errW_some] <;> rfl) | (simp only [← hji39]; first | rfl | (simp [errW_none, errW_some] <;> rfl)) | (simp [*, errW_none, errW_some] <;> rfl), by repeat (first | (with_reducible first | exact HB.out | apply below_alloc | apply pw_below_drewN | apply below_drew1) | exact HB.out)⟩
                                                        · rw [if_neg c44] at H
                                                          have c44b0 : (t231 == 0) = false := beq_eq_false_iff_ne.mpr c44
                                                          have c44b1 : (t231 != 0) = true := bne_iff_ne.mpr c44
                                                          obtain rfl := Option.some.inj H
                                                          have p223 : 0 ≤ (x3_1 : Int) := of_decide_eq_true (by first | (with_reducible assumption) | assumption)
                                                          have q223 : x3_1 < (l0.length : Int) := of_decide_eq_true (by first | (with_reducible assumption) | assumption)
                                                          obtain ⟨ad223, e223, hx223_0, hx223_1, hx223_2⟩ := at_T24 HR0.out x3_1 p223 q223
                                                          obtain rfl : ad203 = ad223 := (by injection e223)
                                                          replace hx223_0 := (HB.out.cell (World.block_lt_of_cell? w _ hx223_0)).trans hx223_0
                                                          replace hx223_1 := (HB.out.cell (World.block_lt_of_cell? w _ hx223_1)).trans hx223_1
                                                          replace hx223_2 := (HB.out.cell (World.block_lt_of_cell? w _ hx223_2)).trans hx223_2
                                                          replace p223 := eq_true p223
                                                          replace q223 := eq_true q223
                                                          have p224 : 0 ≤ (x3_1 : Int) := of_decide_eq_true (by first | (with_reducible assumption) | assumption)
                                                          have q224 : x3_1 < (l0.length : Int) := of_decide_eq_true (by first | (with_reducible assumption) | assumption)
                                                          obtain ⟨ad224, e224, hx224_0, hx224_1, hx224_2⟩ := at_T24 HR0.out x3_1 p224 q224
                                                          obtain rfl : ad203 = ad224 := (by injection e224)
                                                          replace hx224_0 := (HB.out.cell (World.block_lt_of_cell? w _ hx224_0)).trans hx224_0
                                                          replace hx224_1 := (HB.out.cell (World.block_lt_of_cell? w _ hx224_1)).trans hx224_1
                                                          replace hx224_2 := (HB.out.cell (World.block_lt_of_cell? w _ hx224_2)).trans hx224_2
                                                          replace p224 := eq_true p224
                                                          replace q224 := eq_true q224
                                                          go_wp2_with (first | ((with_reducible refine gate_callee (f := 23) rfl ?_); refine goesL_ (some 127) rfl rfl Try.func23 (by kernel_rfl) rfl #[.string (t220 ++ ((rd_T24 l0 x3_1).f2))] rfl (by (try simp only [List.map_toArray, List.map_cons, List.map_nil]); first | done | rfl | (simp only [List.length_drop, List.length_take]; rfl)) ?_; (with_reducible refine (vbi_TakeBin.calls k4 (t220 ++ ((rd_T24 l0 x3_1).f2)) t225 t226 t227 _ A38.out).mono ?_); rintro e w' ⟨rfl, ⟨nd, rfl⟩⟩; refine ⟨_, rfl, ?_⟩) | ((with_reducible refine gate_callee (f := 23) rfl ?_); refine goesL_ (some 137) rfl rfl Try.func23 (by kernel_rfl) rfl #[.string (t220.extract 0 ((ji39) : Int).toNat)] rfl (by (try simp only [List.map_toArray, List.map_cons, List.map_nil]); first | done | (simp only [hji39]; rfl) | rfl | (simp only [List.length_drop, List.length_take]; rfl)) ?_; (with_reducible refine (vbi_TakeBin.calls k4 (t220.extract 0 ((ji39) : Int).toNat) t228 t229 t230 _ A42.out).mono ?_); rintro e w' ⟨rfl, ⟨nd, rfl⟩⟩; refine ⟨_, rfl, ?_⟩) | ((with_reducible refine gate_callee (f := 13) rfl ?_); refine goesL_ (some 142) rfl rfl Try.func13 (by kernel_rfl) rfl #[.int .i64 t227] rfl (by (try simp only [List.map_toArray, List.map_cons, List.map_nil]); first | done | rfl | (simp only [List.length_drop, List.length_take]; rfl)) ?_; (with_reducible refine (fairwaylaw2_num.calls t227 t231 _ A43.out).mono ?_); rintro e w' ⟨rfl, ⟨nd, rfl⟩⟩; refine ⟨_, rfl, ?_⟩))
                                                          go_ret
                                                          exact ⟨by first | rfl | (simp [errW_none, errW_some] <;> rfl) | (simp only [← hji39]; first | rfl | (simp [errW_none, errW_some] <;> rfl)) | (simp [*, errW_none, errW_some] <;> rfl), by repeat (first | (with_reducible first | exact HB.out | apply below_alloc | apply pw_below_drewN | apply below_drew1) | exact HB.out)⟩
                                                      · rw [if_neg c41] at H
                                                        exact absurd H (by simp)
                                                    · rw [if_neg c40] at H
                                                      exact absurd H (by simp)
                                                  · rw [if_neg c37] at H
                                                    exact absurd H (by simp)
                                                · rw [if_neg c36] at H
                                                  have c36b0 : ((t220.size : Int) == (wrap64 (2 + (((rd_T24 l0 x3_1).f1).size : Int)))) = false := beq_eq_false_iff_ne.mpr c36
                                                  have c36b1 : ((t220.size : Int) != (wrap64 (2 + (((rd_T24 l0 x3_1).f1).size : Int)))) = true := bne_iff_ne.mpr c36
                                                  obtain rfl := Option.some.inj H
                                                  have p223 : 0 ≤ (x3_1 : Int) := of_decide_eq_true (by first | (with_reducible assumption) | assumption)
                                                  have q223 : x3_1 < (l0.length : Int) := of_decide_eq_true (by first | (with_reducible assumption) | assumption)
                                                  obtain ⟨ad223, e223, hx223_0, hx223_1, hx223_2⟩ := at_T24 HR0.out x3_1 p223 q223
                                                  obtain rfl : ad203 = ad223 := (by injection e223)
                                                  replace hx223_0 := (HB.out.cell (World.block_lt_of_cell? w _ hx223_0)).trans hx223_0
                                                  replace hx223_1 := (HB.out.cell (World.block_lt_of_cell? w _ hx223_1)).trans hx223_1
                                                  replace hx223_2 := (HB.out.cell (World.block_lt_of_cell? w _ hx223_2)).trans hx223_2
                                                  replace p223 := eq_true p223
                                                  replace q223 := eq_true q223
                                                  go_wp2
                                                  go_ret
                                                  exact ⟨by first | rfl | (simp [errW_none, errW_some] <;> rfl) | (simp [*, errW_none, errW_some] <;> rfl), by repeat (first | (with_reducible first | exact HB.out | apply below_alloc | apply pw_below_drewN | apply below_drew1) | exact HB.out)⟩
                                              · rw [if_neg c35] at H
                                                have c35b0 : (t222 == 0) = false := beq_eq_false_iff_ne.mpr c35
                                                have c35b1 : (t222 != 0) = true := bne_iff_ne.mpr c35
                                                (first | rw [c35b0] | (simp only [i64_w, i32_w]; rw [c35b0]) | skip)
                                                have H' := Aside0.mk H
                                                clear H
                                                go_wp2
                                                go_meet
                                                case rel => exact ⟨_, H', ⟨by have := HK1.out; have := HJ1.out; have := HJ13.out; have := HK4.out; first | omega | exact Nat.le_refl _⟩, ⟨by repeat (first | (with_reducible first | exact HB.out | apply below_alloc | apply pw_below_drewN | apply below_drew1) | exact HB.out)⟩⟩
                                            case rest =>
                                              as_aux_lemma =>
                                                clear HC33
                                                try clear c1
                                                try clear c2
                                                try clear p2
                                                try clear q2
                                                try clear hx2
                                                try clear c3
                                                try clear c3b0
                                                try clear c4
                                                try clear c5
                                                try clear c5b0
                                                try clear c6
                                                try clear c6b0
                                                try clear p6
                                                try clear c7
                                                try clear c8
                                                try clear c12
                                                try clear c12b0
                                                try clear c12b1
                                                try clear c12b2
                                                try clear c13
                                                try clear c15
                                                try clear c16
                                                try clear c18
                                                try clear c18b0
                                                try clear c18b1
                                                try clear c20
                                                try clear c20b0
                                                try clear c20b1
                                                try clear p20
                                                try clear q20
                                                try clear hx20
                                                try clear c21
                                                try clear c21b0
                                                try clear c21b1
                                                try clear p21
                                                try clear q21
                                                try clear hx21
                                                try clear c22
                                                try clear p22
                                                try clear q22
                                                try clear hx22
                                                try clear c23
                                                try clear c23b0
                                                try clear p23
                                                try clear q23
                                                try clear hx23
                                                try clear c24
                                                try clear c24b0
                                                try clear c24b1
                                                try clear c25
                                                try clear c25b0
                                                try clear c25b1
                                                try clear c28
                                                try clear c28b0
                                                try clear c28b1
                                                try clear c29
                                                try clear c29b0
                                                try clear c30
                                                try clear c30b0
                                                try clear c35
                                                try clear c35b0
                                                try clear c35b1
                                                try clear c36
                                                try clear c36b0
                                                try clear c36b1
                                                try clear c37
                                                try clear c37b0
                                                try clear c37b1
                                                try clear c37b2
                                                try clear c40
                                                try clear c40b0
                                                try clear c40b1
                                                try clear c41
                                                try clear c41b0
                                                try clear c41b1
                                                try clear c44
                                                try clear c44b0
                                                try clear c44b1
                                                try clear c45
                                                try clear c45b0
                                                try clear c45b1
                                                try clear c46
                                                try clear c46b0
                                                try clear c46b1
                                                try clear c48
                                                try clear c48b0
                                                try clear c48b1
                                                try clear hx203_0
                                                try clear hx203_1
                                                try clear hx203_2
                                                try clear hx205_0
                                                try clear hx205_1
                                                try clear hx205_2
                                                try clear hx209_0
                                                try clear hx209_1
                                                try clear hx209_2
                                                try clear hx219_0
                                                try clear hx219_1
                                                try clear hx219_2
                                                try clear hx223_0
                                                try clear hx223_1
                                                try clear hx223_2
                                                try clear hx224_0
                                                try clear hx224_1
                                                try clear hx224_2
                                                try clear hx232_0
                                                try clear hx232_1
                                                try clear hx232_2
                                                try clear p2
                                                try clear p20
                                                try clear p203
                                                try clear p205
                                                try clear p209
                                                try clear p219
                                                try clear p223
                                                try clear p224
                                                try clear p232
                                                try clear q2
                                                try clear q20
                                                try clear q203
                                                try clear q205
                                                try clear q209
                                                try clear q219
                                                try clear q223
                                                try clear q224
                                                try clear q232
                                                obtain ⟨kq, HA, HJ32, HB⟩ := hcut
                                                cases kq with
                                                | zero => exact absurd HA.out (by simp [fairwaylaw2_VbiBack.j4])
                                                | succ kj32 =>
                                                  have H := HA.out
                                                  clear HA
                                                  simp only [fairwaylaw2_VbiBack.j4] at H
                                                  by_cases c49 : 0 ≤ x3_1
                                                  · rw [if_pos c49] at H
                                                    have c49b0 : decide (0 ≤ x3_1) = true := decide_eq_true c49
                                                    clear c49
                                                    by_cases c50 : x3_1 < (l0.length : Int)
                                                    · rw [if_pos c50] at H
                                                      have c50b0 : decide (x3_1 < (l0.length : Int)) = true := decide_eq_true c50
                                                      clear c50
                                                      replace H := Option.bind_eq_some_iff.mp H
                                                      obtain ⟨⟨t235, t236, t237⟩, A510, H⟩ := H
                                                      replace H : ((fairwaylaw2_num.f t237).bind fun t238 => (if t238 = 0 then ((vbi_Num.f kj32 t235).bind fun bt239 => ((fairwaylaw2_num.f bt239.2).bind fun t241 => (if t241 = 0 then (if t236 < 0 then (some false) else (if t236 > (((rd_T24 l0 x3_1).f2).size : Int) then (some false) else (if 0 ≤ t236 then (if t236 ≤ (((rd_T24 l0 x3_1).f2).size : Int) then (if bt239.1.toList = (((rd_T24 l0 x3_1).f2).extract 0 (t236 : Int).toNat).toList then (fairwaylaw2_VbiBack.l0 kj32 l0 (wrap64 (x3_1 + 1))) else (some false)) else (none)) else (none)))) else (some false)))) else (fairwaylaw2_VbiBack.l0 kj32 l0 (wrap64 (x3_1 + 1))))) = some r := H
                                                      have A51 := Aside0.mk A510
                                                      clear A510
                                                      replace H := Option.bind_eq_some_iff.mp H
                                                      obtain ⟨t238, A520, H⟩ := H
                                                      replace H : (if t238 = 0 then ((vbi_Num.f kj32 t235).bind fun bt239 => ((fairwaylaw2_num.f bt239.2).bind fun t241 => (if t241 = 0 then (if t236 < 0 then (some false) else (if t236 > (((rd_T24 l0 x3_1).f2).size : Int) then (some false) else (if 0 ≤ t236 then (if t236 ≤ (((rd_T24 l0 x3_1).f2).size : Int) then (if bt239.1.toList = (((rd_T24 l0 x3_1).f2).extract 0 (t236 : Int).toNat).toList then (fairwaylaw2_VbiBack.l0 kj32 l0 (wrap64 (x3_1 + 1))) else (some false)) else (none)) else (none)))) else (some false)))) else (fairwaylaw2_VbiBack.l0 kj32 l0 (wrap64 (x3_1 + 1)))) = some r := H
                                                      have A52 := Aside0.mk A520
                                                      clear A520
                                                      by_cases c53 : t238 = 0
                                                      · rw [if_pos c53] at H
                                                        have c53b0 : (t238 == 0) = true := beq_iff_eq.mpr c53
                                                        have c53b1 : (t238 != 0) = false := bne_eq_false_iff_eq.mpr c53
                                                        clear c53
                                                        replace H := Option.bind_eq_some_iff.mp H
                                                        obtain ⟨⟨t239, t240⟩, A540, H⟩ := H
                                                        replace H : ((fairwaylaw2_num.f t240).bind fun t241 => (if t241 = 0 then (if t236 < 0 then (some false) else (if t236 > (((rd_T24 l0 x3_1).f2).size : Int) then (some false) else (if 0 ≤ t236 then (if t236 ≤ (((rd_T24 l0 x3_1).f2).size : Int) then (if t239.toList = (((rd_T24 l0 x3_1).f2).extract 0 (t236 : Int).toNat).toList then (fairwaylaw2_VbiBack.l0 kj32 l0 (wrap64 (x3_1 + 1))) else (some false)) else (none)) else (none)))) else (some false))) = some r := H
                                                        have A54 := Aside0.mk A540
                                                        clear A540
                                                        replace H := Option.bind_eq_some_iff.mp H
                                                        obtain ⟨t241, A550, H⟩ := H
                                                        replace H : (if t241 = 0 then (if t236 < 0 then (some false) else (if t236 > (((rd_T24 l0 x3_1).f2).size : Int) then (some false) else (if 0 ≤ t236 then (if t236 ≤ (((rd_T24 l0 x3_1).f2).size : Int) then (if t239.toList = (((rd_T24 l0 x3_1).f2).extract 0 (t236 : Int).toNat).toList then (fairwaylaw2_VbiBack.l0 kj32 l0 (wrap64 (x3_1 + 1))) else (some false)) else (none)) else (none)))) else (some false)) = some r := H
                                                        have A55 := Aside0.mk A550
                                                        clear A550
                                                        by_cases c56 : t241 = 0
                                                        · rw [if_pos c56] at H
                                                          have c56b0 : (t241 == 0) = true := beq_iff_eq.mpr c56
                                                          have c56b1 : (t241 != 0) = false := bne_eq_false_iff_eq.mpr c56
                                                          clear c56
                                                          by_cases c57 : t236 < 0
                                                          · rw [if_pos c57] at H
                                                            have c57b0 : decide (t236 < 0) = true := decide_eq_true c57
                                                            clear c57
                                                            obtain rfl := Option.some.inj H
                                                            have p234 : 0 ≤ (x3_1 : Int) := of_decide_eq_true (by first | (with_reducible assumption) | assumption)
                                                            have q234 : x3_1 < (l0.length : Int) := of_decide_eq_true (by first | (with_reducible assumption) | assumption)
                                                            obtain ⟨ad234, e234, hx234_0, hx234_1, hx234_2⟩ := at_T24 HR0.out x3_1 p234 q234
                                                            obtain rfl : ad203 = ad234 := (by injection e234)
                                                            replace hx234_0 := (HB.out.cell (World.block_lt_of_cell? w _ hx234_0)).trans hx234_0
                                                            replace hx234_1 := (HB.out.cell (World.block_lt_of_cell? w _ hx234_1)).trans hx234_1
                                                            replace hx234_2 := (HB.out.cell (World.block_lt_of_cell? w _ hx234_2)).trans hx234_2
                                                            replace p234 := eq_true p234
                                                            replace q234 := eq_true q234
                                                            go_wp2_with (first | ((with_reducible refine gate_callee (f := 15) rfl ?_); refine goesL_ (some 170) rfl rfl Try.func15 (by kernel_rfl) rfl #[.string ((rd_T24 l0 x3_1).f2)] rfl (by (try simp only [List.map_toArray, List.map_cons, List.map_nil]); first | done | rfl | (simp only [List.length_drop, List.length_take]; rfl)) ?_; (with_reducible refine (vbi_TakeNum.calls kj32 ((rd_T24 l0 x3_1).f2) t235 t236 t237 _ A51.out).mono ?_); rintro e w' ⟨rfl, ⟨nd, rfl⟩⟩; refine ⟨_, rfl, ?_⟩) | ((with_reducible refine gate_callee (f := 13) rfl ?_); refine goesL_ (some 175) rfl rfl Try.func13 (by kernel_rfl) rfl #[.int .i64 t237] rfl (by (try simp only [List.map_toArray, List.map_cons, List.map_nil]); first | done | rfl | (simp only [List.length_drop, List.length_take]; rfl)) ?_; (with_reducible refine (fairwaylaw2_num.calls t237 t238 _ A52.out).mono ?_); rintro e w' ⟨rfl, ⟨nd, rfl⟩⟩; refine ⟨_, rfl, ?_⟩) | ((with_reducible refine gate_callee (f := 7) rfl ?_); refine goesL_ (some 179) rfl rfl Try.func7 (by kernel_rfl) rfl #[.int .i64 t235] rfl (by (try simp only [List.map_toArray, List.map_cons, List.map_nil]); first | done | rfl | (simp only [List.length_drop, List.length_take]; rfl)) ?_; (with_reducible refine (vbi_Num.calls kj32 t235 t239 t240 _ A54.out).mono ?_); rintro e w58 ⟨rfl, hb⟩; refine ⟨_, rfl, ?_⟩; have n0_ := Aside0.mk (below_step (by repeat (first | (with_reducible first | exact HB.out | apply below_alloc | apply pw_below_drewN | apply below_drew1) | exact HB.out)) hb); clear HB; have HB := n0_; clear n0_; (try clear hb); (try clear hb2); (try clear hk); (try clear hi)) | ((with_reducible refine gate_callee (f := 13) rfl ?_); refine goesL_ (some 183) rfl rfl Try.func13 (by kernel_rfl) rfl #[.int .i64 t240] rfl (by (try simp only [List.map_toArray, List.map_cons, List.map_nil]); first | done | rfl | (simp only [List.length_drop, List.length_take]; rfl)) ?_; (with_reducible refine (fairwaylaw2_num.calls t240 t241 _ A55.out).mono ?_); rintro e w' ⟨rfl, ⟨nd, rfl⟩⟩; refine ⟨_, rfl, ?_⟩))
                                                            go_ret
                                                            exact ⟨by first | rfl | (simp [errW_none, errW_some] <;> rfl) | (simp [*, errW_none, errW_some] <;> rfl), by repeat (first | (with_reducible first | exact HB.out | apply below_alloc | apply pw_below_drewN | apply below_drew1) | exact HB.out)⟩
                                                          · rw [if_neg c57] at H
                                                            have c57b0 : decide (t236 < 0) = false := decide_eq_false c57
                                                            clear c57
                                                            by_cases c59 : t236 > (((rd_T24 l0 x3_1).f2).size : Int)
                                                            · rw [if_pos c59] at H
                                                              have c59b0 : decide ((((rd_T24 l0 x3_1).f2).size : Int) < t236) = true := decide_eq_true c59
                                                              clear c59
                                                              obtain rfl := Option.some.inj H
                                                              have p234 : 0 ≤ (x3_1 : Int) := of_decide_eq_true (by first | (with_reducible assumption) | assumption)
                                                              have q234 : x3_1 < (l0.length : Int) := of_decide_eq_true (by first | (with_reducible assumption) | assumption)
                                                              obtain ⟨ad234, e234, hx234_0, hx234_1, hx234_2⟩ := at_T24 HR0.out x3_1 p234 q234
                                                              obtain rfl : ad203 = ad234 := (by injection e234)
                                                              replace hx234_0 := (HB.out.cell (World.block_lt_of_cell? w _ hx234_0)).trans hx234_0
                                                              replace hx234_1 := (HB.out.cell (World.block_lt_of_cell? w _ hx234_1)).trans hx234_1
                                                              replace hx234_2 := (HB.out.cell (World.block_lt_of_cell? w _ hx234_2)).trans hx234_2
                                                              replace p234 := eq_true p234
                                                              replace q234 := eq_true q234
                                                              go_wp2_with (first | ((with_reducible refine gate_callee (f := 15) rfl ?_); refine goesL_ (some 170) rfl rfl Try.func15 (by kernel_rfl) rfl #[.string ((rd_T24 l0 x3_1).f2)] rfl (by (try simp only [List.map_toArray, List.map_cons, List.map_nil]); first | done | rfl | (simp only [List.length_drop, List.length_take]; rfl)) ?_; (with_reducible refine (vbi_TakeNum.calls kj32 ((rd_T24 l0 x3_1).f2) t235 t236 t237 _ A51.out).mono ?_); rintro e w' ⟨rfl, ⟨nd, rfl⟩⟩; refine ⟨_, rfl, ?_⟩) | ((with_reducible refine gate_callee (f := 13) rfl ?_); refine goesL_ (some 175) rfl rfl Try.func13 (by kernel_rfl) rfl #[.int .i64 t237] rfl (by (try simp only [List.map_toArray, List.map_cons, List.map_nil]); first | done | rfl | (simp only [List.length_drop, List.length_take]; rfl)) ?_; (with_reducible refine (fairwaylaw2_num.calls t237 t238 _ A52.out).mono ?_); rintro e w' ⟨rfl, ⟨nd, rfl⟩⟩; refine ⟨_, rfl, ?_⟩) | ((with_reducible refine gate_callee (f := 7) rfl ?_); refine goesL_ (some 179) rfl rfl Try.func7 (by kernel_rfl) rfl #[.int .i64 t235] rfl (by (try simp only [List.map_toArray, List.map_cons, List.map_nil]); first | done | rfl | (simp only [List.length_drop, List.length_take]; rfl)) ?_; (with_reducible refine (vbi_Num.calls kj32 t235 t239 t240 _ A54.out).mono ?_); rintro e w60 ⟨rfl, hb⟩; refine ⟨_, rfl, ?_⟩; have n0_ := Aside0.mk (below_step (by repeat (first | (with_reducible first | exact HB.out | apply below_alloc | apply pw_below_drewN | apply below_drew1) | exact HB.out)) hb); clear HB; have HB := n0_; clear n0_; (try clear hb); (try clear hb2); (try clear hk); (try clear hi)) | ((with_reducible refine gate_callee (f := 13) rfl ?_); refine goesL_ (some 183) rfl rfl Try.func13 (by kernel_rfl) rfl #[.int .i64 t240] rfl (by (try simp only [List.map_toArray, List.map_cons, List.map_nil]); first | done | rfl | (simp only [List.length_drop, List.length_take]; rfl)) ?_; (with_reducible refine (fairwaylaw2_num.calls t240 t241 _ A55.out).mono ?_); rintro e w' ⟨rfl, ⟨nd, rfl⟩⟩; refine ⟨_, rfl, ?_⟩; have p242 : 0 ≤ (x3_1 : Int) := of_decide_eq_true (by first | (with_reducible assumption) | assumption); have q242 : x3_1 < (l0.length : Int) := of_decide_eq_true (by first | (with_reducible assumption) | assumption); obtain ⟨ad242, e242, hx242_0, hx242_1, hx242_2⟩ := at_T24 HR0.out x3_1 p242 q242; obtain rfl : ad203 = ad242 := (by injection e242); replace hx242_0 := (HB.out.cell (World.block_lt_of_cell? w _ hx242_0)).trans hx242_0; replace hx242_1 := (HB.out.cell (World.block_lt_of_cell? w _ hx242_1)).trans hx242_1; replace hx242_2 := (HB.out.cell (World.block_lt_of_cell? w _ hx242_2)).trans hx242_2; replace p242 := eq_true p242; replace q242 := eq_true q242))
                                                              go_ret
                                                              exact ⟨by first | rfl | (simp [errW_none, errW_some] <;> rfl) | (simp [*, errW_none, errW_some] <;> rfl), by repeat (first | (with_reducible first | exact HB.out | apply below_alloc | apply pw_below_drewN | apply below_drew1) | exact HB.out)⟩
                                                            · rw [if_neg c59] at H
                                                              have c59b0 : decide ((((rd_T24 l0 x3_1).f2).size : Int) < t236) = false := decide_eq_false c59
                                                              clear c59
                                                              by_cases c61 : 0 ≤ t236
                                                              · rw [if_pos c61] at H
                                                                have c61b0 := eq_true c61
                                                                have c61b1 : decide (0 ≤ t236) = true := decide_eq_true c61
                                                                clear c61
                                                                by_cases c62 : t236 ≤ (((rd_T24 l0 x3_1).f2).size : Int)
                                                                · rw [if_pos c62] at H
                                                                  have c62b0 := eq_true c62
                                                                  have c62b1 : decide (t236 ≤ (((rd_T24 l0 x3_1).f2).size : Int)) = true := decide_eq_true c62
                                                                  clear c62
                                                                  by_cases c63 : t239.toList = (((rd_T24 l0 x3_1).f2).extract 0 (t236 : Int).toNat).toList
                                                                  · rw [if_pos c63] at H
                                                                    have c63b0 : (t239.toList == (((rd_T24 l0 x3_1).f2).extract 0 (t236 : Int).toNat).toList) = true := beq_iff_eq.mpr c63
                                                                    have c63b1 : (t239.toList != (((rd_T24 l0 x3_1).f2).extract 0 (t236 : Int).toNat).toList) = false := bne_eq_false_iff_eq.mpr c63
                                                                    clear c63
                                                                    have H' := Aside0.mk H
                                                                    clear H
                                                                    have p234 : 0 ≤ (x3_1 : Int) := of_decide_eq_true (by first | (with_reducible assumption) | assumption)
                                                                    have q234 : x3_1 < (l0.length : Int) := of_decide_eq_true (by first | (with_reducible assumption) | assumption)
                                                                    obtain ⟨ad234, e234, hx234_0, hx234_1, hx234_2⟩ := at_T24 HR0.out x3_1 p234 q234
                                                                    obtain rfl : ad203 = ad234 := (by injection e234)
                                                                    replace hx234_0 := (HB.out.cell (World.block_lt_of_cell? w _ hx234_0)).trans hx234_0
                                                                    replace hx234_1 := (HB.out.cell (World.block_lt_of_cell? w _ hx234_1)).trans hx234_1
                                                                    replace hx234_2 := (HB.out.cell (World.block_lt_of_cell? w _ hx234_2)).trans hx234_2
                                                                    replace p234 := eq_true p234
                                                                    replace q234 := eq_true q234
                                                                    go_wp2_with (first | ((with_reducible refine gate_callee (f := 15) rfl ?_); refine goesL_ (some 170) rfl rfl Try.func15 (by kernel_rfl) rfl #[.string ((rd_T24 l0 x3_1).f2)] rfl (by (try simp only [List.map_toArray, List.map_cons, List.map_nil]); first | done | rfl | (simp only [List.length_drop, List.length_take]; rfl)) ?_; (with_reducible refine (vbi_TakeNum.calls kj32 ((rd_T24 l0 x3_1).f2) t235 t236 t237 _ A51.out).mono ?_); rintro e w' ⟨rfl, ⟨nd, rfl⟩⟩; refine ⟨_, rfl, ?_⟩) | ((with_reducible refine gate_callee (f := 13) rfl ?_); refine goesL_ (some 175) rfl rfl Try.func13 (by kernel_rfl) rfl #[.int .i64 t237] rfl (by (try simp only [List.map_toArray, List.map_cons, List.map_nil]); first | done | rfl | (simp only [List.length_drop, List.length_take]; rfl)) ?_; (with_reducible refine (fairwaylaw2_num.calls t237 t238 _ A52.out).mono ?_); rintro e w' ⟨rfl, ⟨nd, rfl⟩⟩; refine ⟨_, rfl, ?_⟩) | ((with_reducible refine gate_callee (f := 7) rfl ?_); refine goesL_ (some 179) rfl rfl Try.func7 (by kernel_rfl) rfl #[.int .i64 t235] rfl (by (try simp only [List.map_toArray, List.map_cons, List.map_nil]); first | done | rfl | (simp only [List.length_drop, List.length_take]; rfl)) ?_; (with_reducible refine (vbi_Num.calls kj32 t235 t239 t240 _ A54.out).mono ?_); rintro e w64 ⟨rfl, hb⟩; refine ⟨_, rfl, ?_⟩; have n0_ := Aside0.mk (below_step (by repeat (first | (with_reducible first | exact HB.out | apply below_alloc | apply pw_below_drewN | apply below_drew1) | exact HB.out)) hb); clear HB; have HB := n0_; clear n0_; (try clear hb); (try clear hb2); (try clear hk); (try clear hi)) | ((with_reducible refine gate_callee (f := 13) rfl ?_); refine goesL_ (some 183) rfl rfl Try.func13 (by kernel_rfl) rfl #[.int .i64 t240] rfl (by (try simp only [List.map_toArray, List.map_cons, List.map_nil]); first | done | rfl | (simp only [List.length_drop, List.length_take]; rfl)) ?_; (with_reducible refine (fairwaylaw2_num.calls t240 t241 _ A55.out).mono ?_); rintro e w' ⟨rfl, ⟨nd, rfl⟩⟩; refine ⟨_, rfl, ?_⟩; have p242 : 0 ≤ (x3_1 : Int) := of_decide_eq_true (by first | (with_reducible assumption) | assumption); have q242 : x3_1 < (l0.length : Int) := of_decide_eq_true (by first | (with_reducible assumption) | assumption); obtain ⟨ad242, e242, hx242_0, hx242_1, hx242_2⟩ := at_T24 HR0.out x3_1 p242 q242; obtain rfl : ad203 = ad242 := (by injection e242); replace hx242_0 := (HB.out.cell (World.block_lt_of_cell? w _ hx242_0)).trans hx242_0; replace hx242_1 := (HB.out.cell (World.block_lt_of_cell? w _ hx242_1)).trans hx242_1; replace hx242_2 := (HB.out.cell (World.block_lt_of_cell? w _ hx242_2)).trans hx242_2; replace p242 := eq_true p242; replace q242 := eq_true q242; have p243 : 0 ≤ (x3_1 : Int) := of_decide_eq_true (by first | (with_reducible assumption) | assumption); have q243 : x3_1 < (l0.length : Int) := of_decide_eq_true (by first | (with_reducible assumption) | assumption); obtain ⟨ad243, e243, hx243_0, hx243_1, hx243_2⟩ := at_T24 HR0.out x3_1 p243 q243; obtain rfl : ad203 = ad243 := (by injection e243); replace hx243_0 := (HB.out.cell (World.block_lt_of_cell? w _ hx243_0)).trans hx243_0; replace hx243_1 := (HB.out.cell (World.block_lt_of_cell? w _ hx243_1)).trans hx243_1; replace hx243_2 := (HB.out.cell (World.block_lt_of_cell? w _ hx243_2)).trans hx243_2; replace p243 := eq_true p243; replace q243 := eq_true q243))
                                                                    go_roundg kj32
                                                                    case measure => have := HK1.out; have := HJ1.out; have := HJ13.out; have := HK4.out; have := HJ32.out; omega
                                                                    case rel => exact ⟨(wrap64 (x3_1 + 1)), (by first | rfl | (simp; done) | (simp [*]; done)), H', ⟨by have := HK1.out; have := HJ1.out; have := HJ13.out; have := HK4.out; have := HJ32.out; omega⟩, ⟨by repeat (first | (with_reducible first | exact HB.out | apply below_alloc | apply pw_below_drewN | apply below_drew1) | exact HB.out)⟩⟩
                                                                  · rw [if_neg c63] at H
                                                                    have c63b0 : (t239.toList == (((rd_T24 l0 x3_1).f2).extract 0 (t236 : Int).toNat).toList) = false := beq_eq_false_iff_ne.mpr c63
                                                                    have c63b1 : (t239.toList != (((rd_T24 l0 x3_1).f2).extract 0 (t236 : Int).toNat).toList) = true := bne_iff_ne.mpr c63
                                                                    obtain rfl := Option.some.inj H
                                                                    have p234 : 0 ≤ (x3_1 : Int) := of_decide_eq_true (by first | (with_reducible assumption) | assumption)
                                                                    have q234 : x3_1 < (l0.length : Int) := of_decide_eq_true (by first | (with_reducible assumption) | assumption)
                                                                    obtain ⟨ad234, e234, hx234_0, hx234_1, hx234_2⟩ := at_T24 HR0.out x3_1 p234 q234
                                                                    obtain rfl : ad203 = ad234 := (by injection e234)
                                                                    replace hx234_0 := (HB.out.cell (World.block_lt_of_cell? w _ hx234_0)).trans hx234_0
                                                                    replace hx234_1 := (HB.out.cell (World.block_lt_of_cell? w _ hx234_1)).trans hx234_1
                                                                    replace hx234_2 := (HB.out.cell (World.block_lt_of_cell? w _ hx234_2)).trans hx234_2
                                                                    replace p234 := eq_true p234
                                                                    replace q234 := eq_true q234
                                                                    go_wp2_with (first | ((with_reducible refine gate_callee (f := 15) rfl ?_); refine goesL_ (some 170) rfl rfl Try.func15 (by kernel_rfl) rfl #[.string ((rd_T24 l0 x3_1).f2)] rfl (by (try simp only [List.map_toArray, List.map_cons, List.map_nil]); first | done | rfl | (simp only [List.length_drop, List.length_take]; rfl)) ?_; (with_reducible refine (vbi_TakeNum.calls kj32 ((rd_T24 l0 x3_1).f2) t235 t236 t237 _ A51.out).mono ?_); rintro e w' ⟨rfl, ⟨nd, rfl⟩⟩; refine ⟨_, rfl, ?_⟩) | ((with_reducible refine gate_callee (f := 13) rfl ?_); refine goesL_ (some 175) rfl rfl Try.func13 (by kernel_rfl) rfl #[.int .i64 t237] rfl (by (try simp only [List.map_toArray, List.map_cons, List.map_nil]); first | done | rfl | (simp only [List.length_drop, List.length_take]; rfl)) ?_; (with_reducible refine (fairwaylaw2_num.calls t237 t238 _ A52.out).mono ?_); rintro e w' ⟨rfl, ⟨nd, rfl⟩⟩; refine ⟨_, rfl, ?_⟩) | ((with_reducible refine gate_callee (f := 7) rfl ?_); refine goesL_ (some 179) rfl rfl Try.func7 (by kernel_rfl) rfl #[.int .i64 t235] rfl (by (try simp only [List.map_toArray, List.map_cons, List.map_nil]); first | done | rfl | (simp only [List.length_drop, List.length_take]; rfl)) ?_; (with_reducible refine (vbi_Num.calls kj32 t235 t239 t240 _ A54.out).mono ?_); rintro e w65 ⟨rfl, hb⟩; refine ⟨_, rfl, ?_⟩; have n0_ := Aside0.mk (below_step (by repeat (first | (with_reducible first | exact HB.out | apply below_alloc | apply pw_below_drewN | apply below_drew1) | exact HB.out)) hb); clear HB; have HB := n0_; clear n0_; (try clear hb); (try clear hb2); (try clear hk); (try clear hi)) | ((with_reducible refine gate_callee (f := 13) rfl ?_); refine goesL_ (some 183) rfl rfl Try.func13 (by kernel_rfl) rfl #[.int .i64 t240] rfl (by (try simp only [List.map_toArray, List.map_cons, List.map_nil]); first | done | rfl | (simp only [List.length_drop, List.length_take]; rfl)) ?_; (with_reducible refine (fairwaylaw2_num.calls t240 t241 _ A55.out).mono ?_); rintro e w' ⟨rfl, ⟨nd, rfl⟩⟩; refine ⟨_, rfl, ?_⟩; have p242 : 0 ≤ (x3_1 : Int) := of_decide_eq_true (by first | (with_reducible assumption) | assumption); have q242 : x3_1 < (l0.length : Int) := of_decide_eq_true (by first | (with_reducible assumption) | assumption); obtain ⟨ad242, e242, hx242_0, hx242_1, hx242_2⟩ := at_T24 HR0.out x3_1 p242 q242; obtain rfl : ad203 = ad242 := (by injection e242); replace hx242_0 := (HB.out.cell (World.block_lt_of_cell? w _ hx242_0)).trans hx242_0; replace hx242_1 := (HB.out.cell (World.block_lt_of_cell? w _ hx242_1)).trans hx242_1; replace hx242_2 := (HB.out.cell (World.block_lt_of_cell? w _ hx242_2)).trans hx242_2; replace p242 := eq_true p242; replace q242 := eq_true q242; have p243 : 0 ≤ (x3_1 : Int) := of_decide_eq_true (by first | (with_reducible assumption) | assumption); have q243 : x3_1 < (l0.length : Int) := of_decide_eq_true (by first | (with_reducible assumption) | assumption); obtain ⟨ad243, e243, hx243_0, hx243_1, hx243_2⟩ := at_T24 HR0.out x3_1 p243 q243; obtain rfl : ad203 = ad243 := (by injection e243); replace hx243_0 := (HB.out.cell (World.block_lt_of_cell? w _ hx243_0)).trans hx243_0; replace hx243_1 := (HB.out.cell (World.block_lt_of_cell? w _ hx243_1)).trans hx243_1; replace hx243_2 := (HB.out.cell (World.block_lt_of_cell? w _ hx243_2)).trans hx243_2; replace p243 := eq_true p243; replace q243 := eq_true q243))
                                                                    go_ret
                                                                    exact ⟨by first | rfl | (simp [errW_none, errW_some] <;> rfl) | (simp [*, errW_none, errW_some] <;> rfl), by repeat (first | (with_reducible first | exact HB.out | apply below_alloc | apply pw_below_drewN | apply below_drew1) | exact HB.out)⟩
                                                                · rw [if_neg c62] at H
                                                                  exact absurd H (by simp)
                                                              · rw [if_neg c61] at H
                                                                exact absurd H (by simp)
                                                        · rw [if_neg c56] at H
                                                          have c56b0 : (t241 == 0) = false := beq_eq_false_iff_ne.mpr c56
                                                          have c56b1 : (t241 != 0) = true := bne_iff_ne.mpr c56
                                                          obtain rfl := Option.some.inj H
                                                          have p234 : 0 ≤ (x3_1 : Int) := of_decide_eq_true (by first | (with_reducible assumption) | assumption)
                                                          have q234 : x3_1 < (l0.length : Int) := of_decide_eq_true (by first | (with_reducible assumption) | assumption)
                                                          obtain ⟨ad234, e234, hx234_0, hx234_1, hx234_2⟩ := at_T24 HR0.out x3_1 p234 q234
                                                          obtain rfl : ad203 = ad234 := (by injection e234)
                                                          replace hx234_0 := (HB.out.cell (World.block_lt_of_cell? w _ hx234_0)).trans hx234_0
                                                          replace hx234_1 := (HB.out.cell (World.block_lt_of_cell? w _ hx234_1)).trans hx234_1
                                                          replace hx234_2 := (HB.out.cell (World.block_lt_of_cell? w _ hx234_2)).trans hx234_2
                                                          replace p234 := eq_true p234
                                                          replace q234 := eq_true q234
                                                          go_wp2_with (first | ((with_reducible refine gate_callee (f := 15) rfl ?_); refine goesL_ (some 170) rfl rfl Try.func15 (by kernel_rfl) rfl #[.string ((rd_T24 l0 x3_1).f2)] rfl (by (try simp only [List.map_toArray, List.map_cons, List.map_nil]); first | done | rfl | (simp only [List.length_drop, List.length_take]; rfl)) ?_; (with_reducible refine (vbi_TakeNum.calls kj32 ((rd_T24 l0 x3_1).f2) t235 t236 t237 _ A51.out).mono ?_); rintro e w' ⟨rfl, ⟨nd, rfl⟩⟩; refine ⟨_, rfl, ?_⟩) | ((with_reducible refine gate_callee (f := 13) rfl ?_); refine goesL_ (some 175) rfl rfl Try.func13 (by kernel_rfl) rfl #[.int .i64 t237] rfl (by (try simp only [List.map_toArray, List.map_cons, List.map_nil]); first | done | rfl | (simp only [List.length_drop, List.length_take]; rfl)) ?_; (with_reducible refine (fairwaylaw2_num.calls t237 t238 _ A52.out).mono ?_); rintro e w' ⟨rfl, ⟨nd, rfl⟩⟩; refine ⟨_, rfl, ?_⟩) | ((with_reducible refine gate_callee (f := 7) rfl ?_); refine goesL_ (some 179) rfl rfl Try.func7 (by kernel_rfl) rfl #[.int .i64 t235] rfl (by (try simp only [List.map_toArray, List.map_cons, List.map_nil]); first | done | rfl | (simp only [List.length_drop, List.length_take]; rfl)) ?_; (with_reducible refine (vbi_Num.calls kj32 t235 t239 t240 _ A54.out).mono ?_); rintro e w66 ⟨rfl, hb⟩; refine ⟨_, rfl, ?_⟩; have n0_ := Aside0.mk (below_step (by repeat (first | (with_reducible first | exact HB.out | apply below_alloc | apply pw_below_drewN | apply below_drew1) | exact HB.out)) hb); clear HB; have HB := n0_; clear n0_; (try clear hb); (try clear hb2); (try clear hk); (try clear hi)) | ((with_reducible refine gate_callee (f := 13) rfl ?_); refine goesL_ (some 183) rfl rfl Try.func13 (by kernel_rfl) rfl #[.int .i64 t240] rfl (by (try simp only [List.map_toArray, List.map_cons, List.map_nil]); first | done | rfl | (simp only [List.length_drop, List.length_take]; rfl)) ?_; (with_reducible refine (fairwaylaw2_num.calls t240 t241 _ A55.out).mono ?_); rintro e w' ⟨rfl, ⟨nd, rfl⟩⟩; refine ⟨_, rfl, ?_⟩))
                                                          go_ret
                                                          exact ⟨by first | rfl | (simp [errW_none, errW_some] <;> rfl) | (simp [*, errW_none, errW_some] <;> rfl), by repeat (first | (with_reducible first | exact HB.out | apply below_alloc | apply pw_below_drewN | apply below_drew1) | exact HB.out)⟩
                                                      · rw [if_neg c53] at H
                                                        have c53b0 : (t238 == 0) = false := beq_eq_false_iff_ne.mpr c53
                                                        have c53b1 : (t238 != 0) = true := bne_iff_ne.mpr c53
                                                        have H' := Aside0.mk H
                                                        clear H
                                                        have p234 : 0 ≤ (x3_1 : Int) := of_decide_eq_true (by first | (with_reducible assumption) | assumption)
                                                        have q234 : x3_1 < (l0.length : Int) := of_decide_eq_true (by first | (with_reducible assumption) | assumption)
                                                        obtain ⟨ad234, e234, hx234_0, hx234_1, hx234_2⟩ := at_T24 HR0.out x3_1 p234 q234
                                                        obtain rfl : ad203 = ad234 := (by injection e234)
                                                        replace hx234_0 := (HB.out.cell (World.block_lt_of_cell? w _ hx234_0)).trans hx234_0
                                                        replace hx234_1 := (HB.out.cell (World.block_lt_of_cell? w _ hx234_1)).trans hx234_1
                                                        replace hx234_2 := (HB.out.cell (World.block_lt_of_cell? w _ hx234_2)).trans hx234_2
                                                        replace p234 := eq_true p234
                                                        replace q234 := eq_true q234
                                                        go_wp2_with (first | ((with_reducible refine gate_callee (f := 15) rfl ?_); refine goesL_ (some 170) rfl rfl Try.func15 (by kernel_rfl) rfl #[.string ((rd_T24 l0 x3_1).f2)] rfl (by (try simp only [List.map_toArray, List.map_cons, List.map_nil]); first | done | rfl | (simp only [List.length_drop, List.length_take]; rfl)) ?_; (with_reducible refine (vbi_TakeNum.calls kj32 ((rd_T24 l0 x3_1).f2) t235 t236 t237 _ A51.out).mono ?_); rintro e w' ⟨rfl, ⟨nd, rfl⟩⟩; refine ⟨_, rfl, ?_⟩) | ((with_reducible refine gate_callee (f := 13) rfl ?_); refine goesL_ (some 175) rfl rfl Try.func13 (by kernel_rfl) rfl #[.int .i64 t237] rfl (by (try simp only [List.map_toArray, List.map_cons, List.map_nil]); first | done | rfl | (simp only [List.length_drop, List.length_take]; rfl)) ?_; (with_reducible refine (fairwaylaw2_num.calls t237 t238 _ A52.out).mono ?_); rintro e w' ⟨rfl, ⟨nd, rfl⟩⟩; refine ⟨_, rfl, ?_⟩))
                                                        go_roundg kj32
                                                        case measure => have := HK1.out; have := HJ1.out; have := HJ13.out; have := HK4.out; have := HJ32.out; omega
                                                        case rel => exact ⟨(wrap64 (x3_1 + 1)), (by first | rfl | (simp; done) | (simp [*]; done)), H', ⟨by have := HK1.out; have := HJ1.out; have := HJ13.out; have := HK4.out; have := HJ32.out; omega⟩, ⟨by repeat (first | (with_reducible first | exact HB.out | apply below_alloc | apply pw_below_drewN | apply below_drew1) | exact HB.out)⟩⟩
                                                    · rw [if_neg c50] at H
                                                      exact absurd H (by simp)
                                                  · rw [if_neg c49] at H
                                                    exact absurd H (by simp)
                                          · rw [if_neg c30] at H
                                            exact absurd H (by simp)
                                        · rw [if_neg c29] at H
                                          exact absurd H (by simp)
                      · rw [if_neg c12] at H
                        exact absurd H (by simp)
                  · rw [if_neg c6] at H
                    exact absurd H (by simp)
                · rw [if_neg c5] at H
                  exact absurd H (by simp)
              · replace c4 := Bool.eq_false_iff.mpr c4
                subst c4
                have H1 : ((fairwaylaw2_wakes.f kj1).bind fun t202 => (some t202)) = some r := by rw [if_neg (show ¬ (false = true) by decide)] at H; exact H
                clear H
                have H := H1
                clear H1
                replace H := Option.bind_eq_some_iff.mp H
                obtain ⟨t202, A670, H⟩ := H
                replace H : (some t202) = some r := H
                have A67 := Aside0.mk A670
                clear A670
                obtain rfl := Option.some.inj H
                go_wp2_with (first | ((with_reducible refine gate_callee (f := 14) rfl ?_); refine goesL_ (some 210) rfl rfl Try.func14 (by kernel_rfl) rfl #[] rfl (by (try simp only [List.map_toArray, List.map_cons, List.map_nil]); first | done | rfl | (simp only [List.length_drop, List.length_take]; rfl)) ?_; (with_reducible refine (fairwaylaw2_wakes.calls kj1  t202 _ A67.out).mono ?_); rintro e w68 ⟨rfl, hb⟩; refine ⟨_, rfl, ?_⟩; have n0_ := Aside0.mk (below_step (by repeat (first | (with_reducible first | exact HB.out | apply below_alloc | apply pw_below_drewN | apply below_drew1) | exact HB.out)) hb); clear HB; have HB := n0_; clear n0_; (try clear hb); (try clear hb2); (try clear hk); (try clear hi)))
                go_ret
                exact ⟨by first | rfl | (simp [errW_none, errW_some] <;> rfl) | (simp [*, errW_none, errW_some] <;> rfl), by repeat (first | (with_reducible first | exact HB.out | apply below_alloc | apply pw_below_drewN | apply below_drew1) | exact HB.out)⟩

end Go.Proofs.Ytajbopckmjjcfaa.P
