-- PRINTED by print.py (a twelfth state) out of the translation. Not trusted: Lean checks it.
import Derived.Test.YtiancopplinpcaaDoorPx0
import Derived.Test.YtiancopplinpcaaDoorPx2
import Derived.Test.YtiancopplinpcaaDoorPx3
import Derived.Test.YtiancopplinpcaaDoorPx4
import Derived.Test.YtiancopplinpcaaDoorXFits
import Derived.Test.YtiancopplinpcaaDoorXLaid
namespace Go.Proofs.YtiancopplinpcaaDoor.P
open Go.RowKit Go.Proofs.YtiancopplinpcaaDoorW.PrintWords Go.Proofs.YtiancopplinpcaaDoorW.PrintLast Go.Proofs.YtiancopplinpcaaDoorW.PrintMore
attribute [local go_sem] max2_int min2_int max_two min_two max_three min_three max_four min_four   -- for this text's walks alone
set_option linter.unusedVariables false
set_option linter.unusedSimpArgs false

/-! ### prop_lay: function 28 -/
mutual
def prop_lay.j0 : Nat → Int → List (S42) → Bool → Option (ByteArray × Bool)
  | 0, _, _, _ => none
  | k + 1, x0, x1, x28 => if x28 = true then (some ((⟨#[]⟩ : ByteArray), false)) else (prop_lay.l0 k x0 x1 (⟨#[]⟩ : ByteArray) x1 (x1.length : Int) 0)
def prop_lay.l0 : Nat → Int → List (S42) → ByteArray → List (S42) → Int → Int → Option (ByteArray × Bool)
  | 0, _, _, _, _, _, _ => none
  | k + 1, x0, x1, x8, x29, x30, x31 => if x31 < x30 then (if 0 ≤ x31 then (if x31 < (x29.length : Int) then ((prop_value.f k ((rd_T42 x29 x31).f0) ((rd_T42 x29 x31).f1) ((rd_T42 x29 x31).f2) ((rd_T42 x29 x31).f3)).bind fun bt160 => (if bt160.2 = true then (if x31 ≤ (x1.length : Int) then ((prop_fits.f k x0 (x1.take (x31 : Int).toNat) ((rd_T42 x29 x31).f0) ((rd_T42 x29 x31).f1) ((rd_T42 x29 x31).f2) ((rd_T42 x29 x31).f3)).bind fun t166 => (prop_lay.j2 k x0 x1 x8 bt160.1 x29 x30 x31 (!t166) ((rd_T42 x29 x31).f0) ((rd_T42 x29 x31).f1) ((rd_T42 x29 x31).f2) ((rd_T42 x29 x31).f3))) else (none)) else (prop_lay.j2 k x0 x1 x8 bt160.1 x29 x30 x31 true ((rd_T42 x29 x31).f0) ((rd_T42 x29 x31).f1) ((rd_T42 x29 x31).f2) ((rd_T42 x29 x31).f3)))) else (none)) else (none)) else (some (x8, true))
def prop_lay.j2 : Nat → Int → List (S42) → ByteArray → AnyV → List (S42) → Int → Int → Bool → Int → Int → ByteArray → ByteArray → Option (ByteArray × Bool)
  | 0, _, _, _, _, _, _, _, _, _, _, _, _ => none
  | k + 1, x0, x1, x8, x11, x29, x30, x31, x51, x160000, x160001, x160002, x160003 => if x51 = true then (some ((⟨#[]⟩ : ByteArray), false)) else ((prop_Kind.f k x160000).bind fun bt167 => ((prop_laid.f k bt167.1 x11).bind fun bt169 => (if bt169.2 = 0 then ((some (([(x160000) % 256] : List Int) : List Int)).bind fun y171 => (if (strOfNums y171).size + bt169.1.size ≤ 9223372036854775807 then (if x8.size + ((strOfNums y171) ++ bt169.1).size ≤ 9223372036854775807 then (prop_lay.l0 k x0 x1 (x8 ++ ((strOfNums y171) ++ bt169.1)) x29 x30 (wrap64 (x31 + 1))) else (none)) else (none))) else (some ((⟨#[]⟩ : ByteArray), false)))))
end
def prop_lay.f (k : Nat) (a0 : Int) (l1 : List (S42)) : Option (ByteArray × Bool) := (prop_stands.f k a0).bind fun bt154 => (if bt154.2 = true then (prop_lay.j0 k a0 l1 (decide ((l1.length : Int) > 8))) else (prop_lay.j0 k a0 l1 true))
theorem prop_lay.mono_l : ∀ k, (∀ y0 y1 y2, LeO (prop_lay.j0 k y0 y1 y2) (prop_lay.j0 (k + 1) y0 y1 y2)) ∧ (∀ y0 y1 y2 y3 y4 y5, LeO (prop_lay.l0 k y0 y1 y2 y3 y4 y5) (prop_lay.l0 (k + 1) y0 y1 y2 y3 y4 y5)) ∧ (∀ y0 y1 y2 y3 y4 y5 y6 y7 y8 y9 y10 y11, LeO (prop_lay.j2 k y0 y1 y2 y3 y4 y5 y6 y7 y8 y9 y10 y11) (prop_lay.j2 (k + 1) y0 y1 y2 y3 y4 y5 y6 y7 y8 y9 y10 y11))
 | 0 => ⟨fun _ _ _ r h => by simp [prop_lay.j0] at h, fun _ _ _ _ _ _ r h => by simp [prop_lay.l0] at h, fun _ _ _ _ _ _ _ _ _ _ _ _ r h => by simp [prop_lay.j2] at h⟩
 | k + 1 => by
  obtain ⟨ih0, ih1, ih2⟩ := prop_lay.mono_l k
  refine ⟨?_, ?_, ?_⟩
  ·
   intro y0 y1 y2
   unfold prop_lay.j0
   repeat' first
   | (with_reducible exact ih0 _ _ _)
   | (with_reducible exact ih1 _ _ _ _ _ _)
   | (with_reducible exact ih2 _ _ _ _ _ _ _ _ _ _ _ _)
   | (with_reducible exact prop_Kind.mono _ _)
   | (with_reducible exact prop_fits.mono _ _ _ _ _ _ _)
   | (with_reducible exact prop_laid.mono _ _ _)
   | (with_reducible exact prop_stands.mono _ _)
   | (with_reducible exact prop_value.mono _ _ _ _ _)
   | (with_reducible exact LeO.refl _)
   | (with_reducible exact LeO.none _)
   | (with_reducible refine LeO.ite ?_ ?_)
   | (with_reducible refine LeO.bind ?_ (fun _ => ?_))
   | exact ih0 _ _ _
   | exact ih1 _ _ _ _ _ _
   | exact ih2 _ _ _ _ _ _ _ _ _ _ _ _
   | exact prop_Kind.mono _ _
   | exact prop_fits.mono _ _ _ _ _ _ _
   | exact prop_laid.mono _ _ _
   | exact prop_stands.mono _ _
   | exact prop_value.mono _ _ _ _ _
   | exact LeO.none _
   | refine LeO.ite ?_ ?_
   | refine LeO.bind ?_ (fun _ => ?_)
  ·
   intro y0 y1 y2 y3 y4 y5
   unfold prop_lay.l0
   repeat' first
   | (with_reducible exact ih0 _ _ _)
   | (with_reducible exact ih1 _ _ _ _ _ _)
   | (with_reducible exact ih2 _ _ _ _ _ _ _ _ _ _ _ _)
   | (with_reducible exact prop_Kind.mono _ _)
   | (with_reducible exact prop_fits.mono _ _ _ _ _ _ _)
   | (with_reducible exact prop_laid.mono _ _ _)
   | (with_reducible exact prop_stands.mono _ _)
   | (with_reducible exact prop_value.mono _ _ _ _ _)
   | (with_reducible exact LeO.refl _)
   | (with_reducible exact LeO.none _)
   | (with_reducible refine LeO.ite ?_ ?_)
   | (with_reducible refine LeO.bind ?_ (fun _ => ?_))
   | exact ih0 _ _ _
   | exact ih1 _ _ _ _ _ _
   | exact ih2 _ _ _ _ _ _ _ _ _ _ _ _
   | exact prop_Kind.mono _ _
   | exact prop_fits.mono _ _ _ _ _ _ _
   | exact prop_laid.mono _ _ _
   | exact prop_stands.mono _ _
   | exact prop_value.mono _ _ _ _ _
   | exact LeO.none _
   | refine LeO.ite ?_ ?_
   | refine LeO.bind ?_ (fun _ => ?_)
  ·
   intro y0 y1 y2 y3 y4 y5 y6 y7 y8 y9 y10 y11
   unfold prop_lay.j2
   repeat' first
   | (with_reducible exact ih0 _ _ _)
   | (with_reducible exact ih1 _ _ _ _ _ _)
   | (with_reducible exact ih2 _ _ _ _ _ _ _ _ _ _ _ _)
   | (with_reducible exact prop_Kind.mono _ _)
   | (with_reducible exact prop_fits.mono _ _ _ _ _ _ _)
   | (with_reducible exact prop_laid.mono _ _ _)
   | (with_reducible exact prop_stands.mono _ _)
   | (with_reducible exact prop_value.mono _ _ _ _ _)
   | (with_reducible exact LeO.refl _)
   | (with_reducible exact LeO.none _)
   | (with_reducible refine LeO.ite ?_ ?_)
   | (with_reducible refine LeO.bind ?_ (fun _ => ?_))
   | exact ih0 _ _ _
   | exact ih1 _ _ _ _ _ _
   | exact ih2 _ _ _ _ _ _ _ _ _ _ _ _
   | exact prop_Kind.mono _ _
   | exact prop_fits.mono _ _ _ _ _ _ _
   | exact prop_laid.mono _ _ _
   | exact prop_stands.mono _ _
   | exact prop_value.mono _ _ _ _ _
   | exact LeO.none _
   | refine LeO.ite ?_ ?_
   | refine LeO.bind ?_ (fun _ => ?_)
theorem prop_lay.mono : ∀ a0 a1 k, LeO (prop_lay.f k a0 a1) (prop_lay.f (k + 1) a0 a1) := by
 intro a0 a1 k
 obtain ⟨ih0, ih1, ih2⟩ := prop_lay.mono_l k
 unfold prop_lay.f
 repeat' first
   | (with_reducible exact ih0 _ _ _)
   | (with_reducible exact ih1 _ _ _ _ _ _)
   | (with_reducible exact ih2 _ _ _ _ _ _ _ _ _ _ _ _)
   | (with_reducible exact prop_Kind.mono _ _)
   | (with_reducible exact prop_fits.mono _ _ _ _ _ _ _)
   | (with_reducible exact prop_laid.mono _ _ _)
   | (with_reducible exact prop_stands.mono _ _)
   | (with_reducible exact prop_value.mono _ _ _ _ _)
   | (with_reducible exact LeO.refl _)
   | (with_reducible exact LeO.none _)
   | (with_reducible refine LeO.ite ?_ ?_)
   | (with_reducible refine LeO.bind ?_ (fun _ => ?_))
   | exact ih0 _ _ _
   | exact ih1 _ _ _ _ _ _
   | exact ih2 _ _ _ _ _ _ _ _ _ _ _ _
   | exact prop_Kind.mono _ _
   | exact prop_fits.mono _ _ _ _ _ _ _
   | exact prop_laid.mono _ _ _
   | exact prop_stands.mono _ _
   | exact prop_value.mono _ _ _ _ _
   | exact LeO.none _
   | refine LeO.ite ?_ ?_
   | refine LeO.bind ?_ (fun _ => ?_)
def prop_lay.T9 : Bool × List (List Nat × List Nat) := (true, [([], []), ([0], [0]), ([1], [1]), ([2], [2]), ([2], [2]), ([2], [2]), ([4, 5, 2], [2, 4, 5]), ([2], [2]), ([3, 6, 7, 2, 2], [2, 3, 6, 7]), ([8, 2], [2, 8]), ([2, 9], [2, 9])])
def prop_lay.B9 : List Nat := [0, 1, 3, 7, 7, 7, 55, 7, 255, 511, 1023]
theorem prop_lay.tab9 : rtab .any (opsOf Tryd.f28 9) = prop_lay.T9 := by kernel_rfl
theorem prop_lay.bits9 : waitsOk prop_lay.T9.2 prop_lay.B9 = true := by kernel_rfl
set_option maxHeartbeats 8000000 in
set_option maxRecDepth 100000 in
theorem prop_lay.calls (k : Nat) (a0 : Int) (A1 : Option Addr) (c1 : Nat) (l1 : List (S42)) (r1 : ByteArray) (r2 : Bool) (w : World) (hr1 : Kd.C k42 w A1 l1.length l1) (hc1 : l1.length ≤ c1) (HLAID : Laid w) (h : prop_lay.f k a0 l1 = some (r1, r2)) :
  Calls Tryd.prog 28 #[.int .i64 a0, .slice A1 l1.length c1] w fun e w' => e = .returned (.tuple #[.string r1, .bool r2]) ∧ Below w.heap.size w w' := by
 have hu42 := Tryd.underlying42
 have HR1 := Aside0.mk hr1
 have HC1 := Aside0.mk hc1
 clear hr1 hc1
 have HB := Aside0.mk (Below.refl w.heap.size w)
 have H : ((prop_stands.f k a0).bind fun bt154 => (if bt154.2 = true then (prop_lay.j0 k a0 l1 (decide ((l1.length : Int) > 8))) else (prop_lay.j0 k a0 l1 true))) = some (r1, r2) := h
 clear h
 replace H := Option.bind_eq_some_iff.mp H
 obtain ⟨⟨t154, t155⟩, A30, H⟩ := H
 replace H : (if t155 = true then (prop_lay.j0 k a0 l1 (decide ((l1.length : Int) > 8))) else (prop_lay.j0 k a0 l1 true)) = some (r1, r2) := H
 have A3 := Aside0.mk A30
 clear A30
 have HC4 := Aside0.mk H
 clear H
 go_enter Tryd.func28, Tryd.ntmps28
 go_upto_region 2 with (first | ((with_reducible refine gate_callee (f := 35) rfl ?_); refine goesL_ (some 19) rfl rfl Tryd.func35 (by kernel_rfl) rfl #[.int .i64 a0] rfl (by (try simp only [List.map_toArray, List.map_cons, List.map_nil]); first | done | rfl | (simp only [List.length_drop, List.length_take]; rfl)) ?_; (with_reducible refine (prop_stands.calls k a0 t154 t155 _ A3.out).mono ?_); rintro e w5 ⟨v156, rfl, ho0, hb⟩; refine ⟨_, rfl, ?_⟩; have n0_ := Aside0.mk (Kd.R_lower ho0 (below_size (by repeat (first | (with_reducible first | exact HB.out | apply below_alloc | apply pw_below_drewN | apply below_drew1) | exact HB.out)))); have n1_ := Aside0.mk (below_step (by repeat (first | (with_reducible first | exact HB.out | apply below_alloc | apply pw_below_drewN | apply below_drew1) | exact HB.out)) hb); clear HB; have HO157 := n0_; have HB := n1_; clear n0_ n1_; (try clear hb); (try clear hb2); (try clear hk); (try clear hi); (try clear ho0)))
 (try simp only [Act.put, List.setIfInBounds_toArray, List.set_cons_zero, List.set_cons_succ])
 go_cut [28] (fun v28 wc => ∃ (kq : Nat) (x28_3 : Bool), v28 = .bool x28_3 ∧ Aside0 (prop_lay.j0 kq a0 l1 x28_3 = some (r1, r2)) ∧ Aside0 (kq ≤ k) ∧ Aside0 (Below w.heap.size w wc))
 case first =>
  have H := HC4.out
  clear HC4
  by_cases c6 : t155 = true
  ·
   subst c6
   have H1 : (prop_lay.j0 k a0 l1 (decide ((l1.length : Int) > 8))) = some (r1, r2) := by rw [if_pos rfl] at H; exact H
   clear H
   have H := H1
   clear H1
   have H' := Aside0.mk H
   clear H
   go_wp2
   go_meet
   case rel => exact ⟨_, (decide ((l1.length : Int) > 8)), (by first | rfl | (simp; done) | (simp [*]; done)), H', ⟨by first | omega | exact Nat.le_refl _⟩, ⟨by repeat (first | (with_reducible first | exact HB.out | apply below_alloc | apply pw_below_drewN | apply below_drew1) | exact HB.out)⟩⟩
  replace c6 := Bool.eq_false_iff.mpr c6
  subst c6
  have H1 : (prop_lay.j0 k a0 l1 true) = some (r1, r2) := by rw [if_neg (show ¬ (false = true) by decide)] at H; exact H
  clear H
  have H := H1
  clear H1
  have H' := Aside0.mk H
  clear H
  go_wp2
  go_meet
  case rel => exact ⟨_, (true), (by first | rfl | (simp; done) | (simp [*]; done)), H', ⟨by first | omega | exact Nat.le_refl _⟩, ⟨by repeat (first | (with_reducible first | exact HB.out | apply below_alloc | apply pw_below_drewN | apply below_drew1) | exact HB.out)⟩⟩
 case rest =>
  as_aux_lemma =>
   clear HC4
   try clear c1
   try clear c2
   try clear p2
   try clear c3
   try clear c6
   obtain ⟨kq, x28_3, rfl, HA, HJ3, HB⟩ := hcut
   cases kq with
   | zero => exact absurd HA.out (by simp [prop_lay.j0])
   | succ kj3 =>
    have H := HA.out
    clear HA
    simp only [prop_lay.j0] at H
    by_cases c7 : x28_3 = true
    ·
     subst c7
     have H1 : (some ((⟨#[]⟩ : ByteArray), false)) = some (r1, r2) := by rw [if_pos rfl] at H; exact H
     clear H
     have H := H1
     clear H1
     simp only [Option.some.injEq, Prod.mk.injEq] at H
     obtain ⟨rfl, rfl⟩ := H
     go_wp2
     go_ret2
     exact ⟨by first | rfl | (simp [errW_none, errW_some] <;> rfl) | (simp [*, errW_none, errW_some] <;> rfl), by repeat (first | (with_reducible first | exact HB.out | apply below_alloc | apply pw_below_drewN | apply below_drew1) | exact HB.out)⟩
    replace c7 := Bool.eq_false_iff.mpr c7
    subst c7
    have H1 : (prop_lay.l0 kj3 a0 l1 (⟨#[]⟩ : ByteArray) l1 (l1.length : Int) 0) = some (r1, r2) := by rw [if_neg (show ¬ (false = true) by decide)] at H; exact H
    clear H
    have H := H1
    clear H1
    have H' := Aside0.mk H
    clear H
    go_wp2
    go_loopg [8, 31] kj3 (fun kq v8 v31 w' => ∃ (x8_2 : ByteArray) (x31_2 : Int), v8 = .string x8_2 ∧ v31 = .int .i64 x31_2 ∧ Aside0 (prop_lay.l0 kq a0 l1 x8_2 l1 (l1.length : Int) x31_2 = some (r1, r2)) ∧ Aside0 (kq ≤ kj3) ∧ Aside0 (Below w.heap.size w w'))
    case atStart => exact ⟨((⟨#[]⟩ : ByteArray)), (0), (by first | rfl | (simp; done) | (simp [*]; done)), (by first | rfl | (simp; done) | (simp [*]; done)), H', ⟨Nat.le_refl _⟩, ⟨by repeat (first | (with_reducible first | exact HB.out | apply below_alloc | apply pw_below_drewN | apply below_drew1) | exact HB.out)⟩⟩
    case round =>
     as_aux_lemma =>
      clear H'
      try clear c1
      try clear c2
      try clear p2
      try clear c3
      try clear c6
      try clear c7
      try clear p2
      obtain ⟨x8_2, x31_2, rfl, rfl, HA, HK2, HB⟩ := hrel
      cases gk with
      | zero => exact absurd HA.out (by simp [prop_lay.l0])
      | succ k2 =>
       have H := HA.out
       clear HA
       simp only [prop_lay.l0] at H
       by_cases c8 : x31_2 < (l1.length : Int)
       ·
        rw [if_pos c8] at H
        have c8b0 : decide (x31_2 < (l1.length : Int)) = true := decide_eq_true c8
        clear c8
        by_cases c9 : 0 ≤ x31_2
        ·
         rw [if_pos c9] at H
         have c9b0 : decide (0 ≤ x31_2) = true := decide_eq_true c9
         clear c9
         by_cases c10 : x31_2 < (l1.length : Int)
         ·
          rw [if_pos c10] at H
          have c10b0 : decide (x31_2 < (l1.length : Int)) = true := decide_eq_true c10
          clear c10
          replace H := Option.bind_eq_some_iff.mp H
          obtain ⟨⟨t160, t161⟩, A110, H⟩ := H
          replace H : (if t161 = true then (if x31_2 ≤ (l1.length : Int) then ((prop_fits.f k2 a0 (l1.take (x31_2 : Int).toNat) ((rd_T42 l1 x31_2).f0) ((rd_T42 l1 x31_2).f1) ((rd_T42 l1 x31_2).f2) ((rd_T42 l1 x31_2).f3)).bind fun t166 => (prop_lay.j2 k2 a0 l1 x8_2 t160 l1 (l1.length : Int) x31_2 (!t166) ((rd_T42 l1 x31_2).f0) ((rd_T42 l1 x31_2).f1) ((rd_T42 l1 x31_2).f2) ((rd_T42 l1 x31_2).f3))) else (none)) else (prop_lay.j2 k2 a0 l1 x8_2 t160 l1 (l1.length : Int) x31_2 true ((rd_T42 l1 x31_2).f0) ((rd_T42 l1 x31_2).f1) ((rd_T42 l1 x31_2).f2) ((rd_T42 l1 x31_2).f3))) = some (r1, r2) := H
          have A11 := Aside0.mk A110
          clear A110
          have HC12 := Aside0.mk H
          clear H
          have p158 : 0 ≤ (x31_2 : Int) := of_decide_eq_true (by first | (with_reducible assumption) | assumption)
          have q158 : x31_2 < (l1.length : Int) := of_decide_eq_true (by first | (with_reducible assumption) | assumption)
          obtain ⟨ad158, e158, hx158_0, hx158_1, hx158_2, hx158_3⟩ := at_T42 HR1.out x31_2 p158 q158
          cases e158
          replace hx158_0 := (HB.out.cell (World.block_lt_of_cell? w _ hx158_0)).trans hx158_0
          replace hx158_1 := (HB.out.cell (World.block_lt_of_cell? w _ hx158_1)).trans hx158_1
          replace hx158_2 := (HB.out.cell (World.block_lt_of_cell? w _ hx158_2)).trans hx158_2
          replace hx158_3 := (HB.out.cell (World.block_lt_of_cell? w _ hx158_3)).trans hx158_3
          replace p158 := eq_true p158
          replace q158 := eq_true q158
          go_upto_region 9 with (first | ((with_reducible refine gate_dst (N := 10) rfl ?_); (try (refine gate_guard (by rfl) ?_; dsimp only)); refine box_event ?hg (N := 10) ?hd (cs := #[.int .i64 0, .int .i64 0, .string (⟨#[]⟩ : ByteArray), .string (⟨#[]⟩ : ByteArray)]) (t := 42) ?hr ?_; (case hd => rfl); (case hg => rfl); (case hr => first | (go_simp; done) | (go_simp; rfl)); intro gb159 hg w13 hbox hb; have n0_ := Aside0.mk (below_step (by repeat (first | (with_reducible first | exact HB.out | apply below_alloc | apply pw_below_drewN | apply below_drew1) | exact HB.out)) hb); have n1_ := Aside0.mk (hbox); have n2_ := Aside0.mk ((by rw [hg]; exact (below_size (by repeat (first | (with_reducible first | exact HB.out | apply below_alloc | apply pw_below_drewN | apply below_drew1) | exact HB.out))) : w.heap.size ≤ gb159)); have n3_ := Aside0.mk ((by rw [hg]; exact (below_size (by repeat (first | (with_reducible first | exact HB.out | apply below_alloc | apply pw_below_drewN | apply below_drew1) | exact HB.out))) : w.heap.size ≤ gb159)); clear HB; have HB := n0_; have BK159 := n1_; have GW159 := n2_; have GE159 := n3_; clear n0_ n1_ n2_ n3_; clear hb hbox hg; have hcz14_0 : w13.cell? ⟨gb159, 0, none⟩ = some (.int .i64 0) := (blk_cell BK159.out 0).trans rfl; have hcz14_1 : w13.cell? ⟨gb159, 1, none⟩ = some (.int .i64 0) := (blk_cell BK159.out 1).trans rfl; have hcz14_2 : w13.cell? ⟨gb159, 2, none⟩ = some (.string (⟨#[]⟩ : ByteArray)) := (blk_cell BK159.out 2).trans rfl; have hcz14_3 : w13.cell? ⟨gb159, 3, none⟩ = some (.string (⟨#[]⟩ : ByteArray)) := (blk_cell BK159.out 3).trans rfl; have hfz14_0 := blk_frozen BK159.out 0; have hfz14_1 := blk_frozen BK159.out 1; have hfz14_2 := blk_frozen BK159.out 2; have hfz14_3 := blk_frozen BK159.out 3) | ((with_reducible refine gate_callee (f := 41) rfl ?_); refine goesL_ (some 38) rfl rfl Tryd.func41 (by kernel_rfl) rfl #[.agg #[.int .i64 ((rd_T42 l1 x31_2).f0), .int .i64 ((rd_T42 l1 x31_2).f1), .string ((rd_T42 l1 x31_2).f2), .string ((rd_T42 l1 x31_2).f3)]] rfl (by (try simp only [List.map_toArray, List.map_cons, List.map_nil]); first | done | rfl | (simp only [List.length_drop, List.length_take]; rfl)) ?_; (with_reducible refine (prop_value.calls k2 ((rd_T42 l1 x31_2).f0) ((rd_T42 l1 x31_2).f1) ((rd_T42 l1 x31_2).f2) ((rd_T42 l1 x31_2).f3) t160 t161 _ A11.out).mono ?_); rintro e w15 ⟨rfl, hb⟩; refine ⟨_, rfl, ?_⟩; have n0_ := Aside0.mk (blk_below (g := gb159) (o := .cells #[.int .i64 ((rd_T42 l1 x31_2).f0), .int .i64 ((rd_T42 l1 x31_2).f1), .string ((rd_T42 l1 x31_2).f2), .string ((rd_T42 l1 x31_2).f3)] 42 (0, 0)) (by (with_reducible repeat (first | refine blk_drewN ?_ _ | refine blk_drew ?_ | refine blk_alloc ?_ _)); refine blk_put (cs := #[.int .i64 ((rd_T42 l1 x31_2).f0), .int .i64 ((rd_T42 l1 x31_2).f1), .string ((rd_T42 l1 x31_2).f2), .string (⟨#[]⟩ : ByteArray)]) ?_ 3 _ rfl; (with_reducible repeat (first | refine blk_drewN ?_ _ | refine blk_drew ?_ | refine blk_alloc ?_ _)); refine blk_put (cs := #[.int .i64 ((rd_T42 l1 x31_2).f0), .int .i64 ((rd_T42 l1 x31_2).f1), .string (⟨#[]⟩ : ByteArray), .string (⟨#[]⟩ : ByteArray)]) ?_ 2 _ rfl; (with_reducible repeat (first | refine blk_drewN ?_ _ | refine blk_drew ?_ | refine blk_alloc ?_ _)); refine blk_put (cs := #[.int .i64 ((rd_T42 l1 x31_2).f0), .int .i64 0, .string (⟨#[]⟩ : ByteArray), .string (⟨#[]⟩ : ByteArray)]) ?_ 1 _ rfl; (with_reducible repeat (first | refine blk_drewN ?_ _ | refine blk_drew ?_ | refine blk_alloc ?_ _)); refine blk_put (cs := #[.int .i64 0, .int .i64 0, .string (⟨#[]⟩ : ByteArray), .string (⟨#[]⟩ : ByteArray)]) ?_ 0 _ rfl; (with_reducible repeat (first | refine blk_drewN ?_ _ | refine blk_drew ?_ | refine blk_alloc ?_ _)); exact BK159.out) hb); have n1_ := Aside0.mk (below_step (by repeat (first | (with_reducible first | exact HB.out | apply below_alloc | apply pw_below_drewN | apply below_drew1 | refine below_set ?_ GE159.out) | exact HB.out)) hb); clear BK159; clear HB; have BK159 := n0_; have HB := n1_; clear n0_ n1_; (try clear hb); (try clear hb2); (try clear hk); (try clear hi)))
          (try simp only [Act.put, List.setIfInBounds_toArray, List.set_cons_zero, List.set_cons_succ])
          go_cut [51] (fun v51 wc => ∃ (kq : Nat) (x51_11 : Bool), v51 = .bool x51_11 ∧ Aside0 (prop_lay.j2 kq a0 l1 x8_2 t160 l1 (l1.length : Int) x31_2 x51_11 ((rd_T42 l1 x31_2).f0) ((rd_T42 l1 x31_2).f1) ((rd_T42 l1 x31_2).f2) ((rd_T42 l1 x31_2).f3) = some (r1, r2)) ∧ Aside0 (kq ≤ k2) ∧ Aside0 (wc.heap[gb159]? = some (.cells #[.int .i64 ((rd_T42 l1 x31_2).f0), .int .i64 ((rd_T42 l1 x31_2).f1), .string ((rd_T42 l1 x31_2).f2), .string ((rd_T42 l1 x31_2).f3)] 42 (0, 0))) ∧ Aside0 (Below w.heap.size w wc))
          case first =>
           have H := HC12.out
           clear HC12
           by_cases c16 : t161 = true
           ·
            subst c16
            have H1 : (if x31_2 ≤ (l1.length : Int) then ((prop_fits.f k2 a0 (l1.take (x31_2 : Int).toNat) ((rd_T42 l1 x31_2).f0) ((rd_T42 l1 x31_2).f1) ((rd_T42 l1 x31_2).f2) ((rd_T42 l1 x31_2).f3)).bind fun t166 => (prop_lay.j2 k2 a0 l1 x8_2 t160 l1 (l1.length : Int) x31_2 (!t166) ((rd_T42 l1 x31_2).f0) ((rd_T42 l1 x31_2).f1) ((rd_T42 l1 x31_2).f2) ((rd_T42 l1 x31_2).f3))) else (none)) = some (r1, r2) := by rw [if_pos rfl] at H; exact H
            clear H
            have H := H1
            clear H1
            have c17b0 := eq_true (of_decide_eq_true (by first | (with_reducible assumption) | assumption) : 0 ≤ x31_2)
            by_cases c18 : x31_2 ≤ (l1.length : Int)
            ·
             rw [if_pos c18] at H
             have c18b0 := eq_true c18
             have c18b1 : decide (x31_2 ≤ (l1.length : Int)) = true := decide_eq_true c18
             clear c18
             obtain ⟨y162, hy162⟩ : ∃ y_ : List (S42), y_ = (l1.take (x31_2 : Int).toNat) := ⟨_, rfl⟩
             replace H : ((prop_fits.f k2 a0 y162 ((rd_T42 l1 x31_2).f0) ((rd_T42 l1 x31_2).f1) ((rd_T42 l1 x31_2).f2) ((rd_T42 l1 x31_2).f3)).bind fun t166 => (prop_lay.j2 k2 a0 l1 x8_2 t160 l1 (l1.length : Int) x31_2 (!t166) ((rd_T42 l1 x31_2).f0) ((rd_T42 l1 x31_2).f1) ((rd_T42 l1 x31_2).f2) ((rd_T42 l1 x31_2).f3))) = some (r1, r2) := by first | (rw [hy162]; with_reducible exact H) | (have H2_ := (Option.bind_some _ _).symm.trans H; rw [hy162]; with_reducible exact H2_) | (have H2_ := (Option.bind_some _ _).symm.trans H; with_reducible exact H2_) | with_reducible exact H | (rw [hy162]; exact H) | exact H
             have Ny162 := Aside0.mk hy162
             clear hy162
             replace H := Option.bind_eq_some_iff.mp H
             obtain ⟨t166, A190, H⟩ := H
             replace H : (prop_lay.j2 k2 a0 l1 x8_2 t160 l1 (l1.length : Int) x31_2 (!t166) ((rd_T42 l1 x31_2).f0) ((rd_T42 l1 x31_2).f1) ((rd_T42 l1 x31_2).f2) ((rd_T42 l1 x31_2).f3)) = some (r1, r2) := H
             have A19 := Aside0.mk A190
             clear A190
             have H' := Aside0.mk H
             clear H
             try go_wp2
             have n0_ := Aside0.mk (blk_drew BK159.out)
             have n1_ := Aside0.mk (below_drew1 HB.out)
             clear BK159
             clear HB
             have BK159 := n0_
             have HB := n1_
             clear n0_ n1_
             have q21 : (x31_2 : Int) ≤ ((l1.length : Int) : Int) := of_decide_eq_true (by first | (with_reducible assumption) | assumption)
             obtain ⟨i021, hi021, _, hsz21, _⟩ := info_parts info42
             have hroom21 : l1.length ≤ c1 := HC1.out
             have hC21 : Kd.C k42 _ (some ad158) l1.length l1 := HR1.out
             have hcut21 := cut_to (P := Tryd.prog) 23 42 .i64 Tryd.underlying23 hi021 (some ad158) l1.length c1 x31_2 (of_decide_eq_true (by first | (with_reducible assumption) | assumption)) q21 hroom21
             have hr21 := Kd.C_take (m := (x31_2 : Int).toNat) hC21 (by omega)
             have hy21 : y162.length = (x31_2 : Int).toNat := (by rw [Ny162.out, List.length_take]; omega)
             rw [← Ny162.out] at hr21
             rw [← hy21] at hcut21
             have HR165 := Aside0.mk hr21
             have HC165 := Aside0.mk (show y162.length ≤ c1 from by omega)
             clear hr21 hC21 hroom21 hi021 hsz21
             have KY21 := Aside0.mk hy21
             clear hy21
             replace q21 := eq_true q21
             refine start_ (n := 11) (S := fun w' => w'.cell? ⟨gb159, 0, none⟩ = some (.int .i64 ((rd_T42 l1 x31_2).f0)) ∧ w'.cell? ⟨gb159, 1, none⟩ = some (.int .i64 ((rd_T42 l1 x31_2).f1)) ∧ w'.cell? ⟨gb159, 2, none⟩ = some (.string ((rd_T42 l1 x31_2).f2)) ∧ w'.cell? ⟨gb159, 3, none⟩ = some (.string ((rd_T42 l1 x31_2).f3))) (ds := []) #[false, false, false, false, false, false, false, false, false, false, false] (by kernel_rfl) rfl rfl ⟨(blk_cell BK159.out 0).trans rfl, (blk_cell BK159.out 1).trans rfl, (blk_cell BK159.out 2).trans rfl, (blk_cell BK159.out 3).trans rfl⟩ (fun hHeld => ?_); refine with_tabW prop_lay.tab9 prop_lay.bits9 (fun HT_ HW_ => ?_)
             generalize w15.drew = w20 at BK159 HB HR165 hHeld ⊢
             refine pure_ (i := 0) (N := some 41) (v := ?_) (a' := ?_) #[true, false, false, false, false, false, false, false, false, false, false] rfl rfl (any_of HT_.out (by kernel_rfl)) (fun _ _ _ h => h) (Or.inl ⟨by rfl, ?_⟩) ?_ ?_
             rotate_left
             ·
              intro w'
              go_simp
              with_reducible rfl
             rotate_left
             ·
              simp only [Act.put, List.setIfInBounds_toArray, List.set_cons_zero, List.set_cons_succ, i64_w, i32_w]
              rfl
             refine pure_ (i := 1) (N := some 42) (v := ?_) (a' := ?_) #[true, true, false, false, false, false, false, false, false, false, false] rfl rfl (any_of HT_.out (by kernel_rfl)) (fun _ _ _ h => h) (Or.inl ⟨by rfl, ?_⟩) ?_ ?_
             rotate_left
             ·
              intro w'
              go_simp
              with_reducible rfl
             rotate_left
             ·
              simp only [Act.put, List.setIfInBounds_toArray, List.set_cons_zero, List.set_cons_succ, i64_w, i32_w]
              rfl
             refine pure_ (i := 2) (N := some 43) (v := ?_) (a' := ?_) #[true, true, true, false, false, false, false, false, false, false, false] rfl rfl (any_of HT_.out (by kernel_rfl)) (fun _ _ _ h => h) (Or.inl ⟨by rfl, ?_⟩) ?_ ?_
             rotate_left
             ·
              intro w'
              go_simp
              with_reducible rfl
             rotate_left
             ·
              simp only [Act.put, List.setIfInBounds_toArray, List.set_cons_zero, List.set_cons_succ, i64_w, i32_w]
              rfl
             refine pure_ (i := 3) (N := some 44) (v := ?_) (a' := ?_) #[true, true, true, true, false, false, false, false, false, false, false] rfl rfl (any_of HT_.out (by kernel_rfl)) (fun _ _ _ h => h) (Or.inl ⟨by rfl, ?_⟩) ?_ ?_
             rotate_left
             ·
              intro w'
              go_simp
              with_reducible rfl
             rotate_left
             ·
              simp only [Act.put, List.setIfInBounds_toArray, List.set_cons_zero, List.set_cons_succ, i64_w, i32_w]
              rfl
             refine pure_ (i := 4) (N := some 45) (v := ?_) (a' := ?_) #[true, true, true, true, true, false, false, false, false, false, false] rfl rfl (any_of HT_.out (by kernel_rfl)) (fun _ _ _ h => h) (Or.inl ⟨by rfl, ?_⟩) ?_ ?_
             rotate_left
             ·
              intro w'
              go_simp
              with_reducible rfl
             rotate_left
             ·
              simp only [Act.put, List.setIfInBounds_toArray, List.set_cons_zero, List.set_cons_succ, i64_w, i32_w]
              rfl
             refine pure_ (i := 5) (N := some 46) (v := ?_) (a' := ?_) #[true, true, true, true, true, true, false, false, false, false, false] rfl rfl (any_of HT_.out (by kernel_rfl)) (fun _ _ _ h => h) (Or.inl ⟨by rfl, ?_⟩) ?_ ?_
             rotate_left
             ·
              intro w'
              go_simp
              with_reducible rfl
             rotate_left
             ·
              simp only [Act.put, List.setIfInBounds_toArray, List.set_cons_zero, List.set_cons_succ, i64_w, i32_w]
              rfl
             refine pure_ (i := 6) (N := some 47) (v := ?_) (a' := ?_) #[true, true, true, true, true, true, true, false, false, false, false] rfl rfl (any_of HT_.out (by kernel_rfl)) (fun _ _ _ h => h) (Or.inl ⟨by rfl, ?_⟩) ?_ ?_
             rotate_left
             ·
              intro w'
              go_simp
              with_reducible rfl
             rotate_left
             ·
              simp only [Act.put, List.setIfInBounds_toArray, List.set_cons_zero, List.set_cons_succ, i64_w, i32_w]
              rfl
             refine take_ (i := 7) (N := some 48) (v := ?_) (a' := ?_) #[true, true, true, true, true, true, true, true, false, false, false] rfl rfl (take_ofW HT_.out HW_.out (by kernel_rfl)) (fun _ _ _ h => h) (Or.inl ⟨by rfl, ?_⟩) hHeld ?_ ?_
             rotate_left
             ·
              rintro w' ⟨s0, s1, s2, s3⟩
              go_simp
              with_reducible rfl
             rotate_left
             ·
              simp only [Act.put, List.setIfInBounds_toArray, List.set_cons_zero, List.set_cons_succ, i64_w, i32_w]
              rfl
             refine one_ (i := 8) (N := some 49) #[true, true, true, true, true, true, true, true, true, false, false] rfl rfl (one_of HT_.out (by kernel_rfl)) (by decide) (fun K hK => ?_)
             refine goes_ Tryd.func38 (by kernel_rfl) rfl #[.int .i64 a0, .slice (some ad158) y162.length c1, .agg #[.int .i64 ((rd_T42 l1 x31_2).f0), .int .i64 ((rd_T42 l1 x31_2).f1), .string ((rd_T42 l1 x31_2).f2), .string ((rd_T42 l1 x31_2).f3)]] (by rfl) rfl rfl (by (try simp only [List.map_toArray, List.map_cons, List.map_nil]); first | done | rfl | (simp only [List.length_drop, List.length_take]; rfl)) ?_
             with_reducible refine (prop_fits.calls k2 a0 _ _ y162 ((rd_T42 l1 x31_2).f0) ((rd_T42 l1 x31_2).f1) ((rd_T42 l1 x31_2).f2) ((rd_T42 l1 x31_2).f3) t166 _ ?side1 ?side2 A19.out).mono ?_
             (case side1 => repeat (first | exact (Kd.C_below HR165.out HB.out) | (with_reducible refine Kd.C_alloc ?_ _) | (with_reducible refine Kd.C_drewN ?_ _) | (with_reducible refine Kd.C_drew ?_)))
             (case side2 => exact HC165.out)
             rintro e w22 ⟨rfl, hb⟩
             refine ⟨_, rfl, ?_⟩
             have n0_ := Aside0.mk (blk_below (g := gb159) (o := .cells #[.int .i64 ((rd_T42 l1 x31_2).f0), .int .i64 ((rd_T42 l1 x31_2).f1), .string ((rd_T42 l1 x31_2).f2), .string ((rd_T42 l1 x31_2).f3)] 42 (0, 0)) (by (with_reducible repeat (first | refine blk_drewN ?_ _ | refine blk_drew ?_ | refine blk_alloc ?_ _)); exact BK159.out) hb)
             have n1_ := Aside0.mk (below_step (by repeat (first | (with_reducible first | exact HB.out | apply below_alloc | apply pw_below_drewN | apply below_drew1 | refine below_set ?_ GE159.out) | exact HB.out)) hb)
             clear BK159
             clear HB
             have BK159 := n0_
             have HB := n1_
             clear n0_ n1_
             (try clear hb)
             (try clear hb2)
             (try clear hk)
             (try clear hi)
             refine hK.out _ _ ⟨(blk_cell BK159.out 0).trans rfl, (blk_cell BK159.out 1).trans rfl, (blk_cell BK159.out 2).trans rfl, (blk_cell BK159.out 3).trans rfl⟩ (fun hHeld => ?_)
             clear hK K
             refine norm_ (a' := ?_) ?_ ?_
             rotate_left
             ·
              show Act.put _ (some 49) _ = _
              simp only [Act.put, List.setIfInBounds_toArray, List.set_cons_zero, List.set_cons_succ, i64_w, i32_w]
              rfl
             refine pure_ (i := 9) (N := some 50) (v := ?_) (a' := ?_) #[true, true, true, true, true, true, true, true, true, true, false] rfl rfl (any_of HT_.out (by kernel_rfl)) (fun _ _ _ h => h) (Or.inl ⟨by rfl, ?_⟩) ?_ ?_
             rotate_left
             ·
              intro w'
              go_simp
              with_reducible rfl
             rotate_left
             ·
              simp only [Act.put, List.setIfInBounds_toArray, List.set_cons_zero, List.set_cons_succ, i64_w, i32_w]
              rfl
             refine pure_ (i := 10) (N := some 51) (v := ?_) (a' := ?_) #[true, true, true, true, true, true, true, true, true, true, true] rfl rfl (any_of HT_.out (by kernel_rfl)) (fun _ _ _ h => h) (Or.inl ⟨by rfl, ?_⟩) ?_ ?_
             rotate_left
             ·
              intro w'
              go_simp
              with_reducible rfl
             rotate_left
             ·
              simp only [Act.put, List.setIfInBounds_toArray, List.set_cons_zero, List.set_cons_succ, i64_w, i32_w]
              rfl
             refine done_ (done_of HT_.out (by kernel_rfl)) ?_
             try go_wp2
             go_meet
             case rel => exact ⟨_, (!t166), (by first | rfl | (simp; done) | (simp [*]; done)), H', ⟨by have := HJ3.out; have := HK2.out; first | omega | exact Nat.le_refl _⟩, ⟨by (with_reducible repeat (first | refine blk_drewN ?_ _ | refine blk_drew ?_ | refine blk_alloc ?_ _)); exact BK159.out⟩, ⟨by repeat (first | (with_reducible first | exact HB.out | apply below_alloc | apply pw_below_drewN | apply below_drew1 | refine below_set ?_ GE159.out) | exact HB.out)⟩⟩
            rw [if_neg c18] at H
            exact absurd H (by simp)
           replace c16 := Bool.eq_false_iff.mpr c16
           subst c16
           have H1 : (prop_lay.j2 k2 a0 l1 x8_2 t160 l1 (l1.length : Int) x31_2 true ((rd_T42 l1 x31_2).f0) ((rd_T42 l1 x31_2).f1) ((rd_T42 l1 x31_2).f2) ((rd_T42 l1 x31_2).f3)) = some (r1, r2) := by rw [if_neg (show ¬ (false = true) by decide)] at H; exact H
           clear H
           have H := H1
           clear H1
           have H' := Aside0.mk H
           clear H
           try go_wp2
           have n0_ := Aside0.mk (blk_drew BK159.out)
           have n1_ := Aside0.mk (below_drew1 HB.out)
           clear BK159
           clear HB
           have BK159 := n0_
           have HB := n1_
           clear n0_ n1_
           refine start_ (n := 11) (S := fun w' => True) (ds := []) #[false, false, false, false, false, false, false, false, false, false, false] (by kernel_rfl) rfl rfl trivial (fun hHeld => ?_); refine with_tabW prop_lay.tab9 prop_lay.bits9 (fun HT_ HW_ => ?_)
           generalize w15.drew = w23 at BK159 HB hHeld ⊢
           refine pure_ (i := 0) (N := some 41) (v := ?_) (a' := ?_) #[true, false, false, false, false, false, false, false, false, false, false] rfl rfl (any_of HT_.out (by kernel_rfl)) (fun _ _ _ h => h) (Or.inl ⟨by rfl, ?_⟩) ?_ ?_
           rotate_left
           ·
            intro w'
            go_simp
            with_reducible rfl
           rotate_left
           ·
            simp only [Act.put, List.setIfInBounds_toArray, List.set_cons_zero, List.set_cons_succ, i64_w, i32_w]
            rfl
           refine pure_ (i := 1) (N := some 42) (v := ?_) (a' := ?_) #[true, true, false, false, false, false, false, false, false, false, false] rfl rfl (any_of HT_.out (by kernel_rfl)) (fun _ _ _ h => h) (Or.inl ⟨by rfl, ?_⟩) ?_ ?_
           rotate_left
           ·
            intro w'
            go_simp
            with_reducible rfl
           rotate_left
           ·
            simp only [Act.put, List.setIfInBounds_toArray, List.set_cons_zero, List.set_cons_succ, i64_w, i32_w]
            rfl
           refine pure_ (i := 2) (N := some 43) (v := ?_) (a' := ?_) #[true, true, true, false, false, false, false, false, false, false, false] rfl rfl (any_of HT_.out (by kernel_rfl)) (fun _ _ _ h => h) (Or.inl ⟨by rfl, ?_⟩) ?_ ?_
           rotate_left
           ·
            intro w'
            go_simp
            with_reducible rfl
           rotate_left
           ·
            simp only [Act.put, List.setIfInBounds_toArray, List.set_cons_zero, List.set_cons_succ, i64_w, i32_w]
            rfl
           refine pure_ (i := 3) (N := some 44) (v := undef) (a' := ?_) #[true, true, true, true, false, false, false, false, false, false, false] rfl rfl (any_of HT_.out (by kernel_rfl)) (fun _ _ _ h => h) (Or.inr ⟨by rfl, rfl⟩) ?_ ?_
           rotate_left
           ·
            simp only [Act.put, List.setIfInBounds_toArray, List.set_cons_zero, List.set_cons_succ, i64_w, i32_w]
            rfl
           refine pure_ (i := 4) (N := some 45) (v := undef) (a' := ?_) #[true, true, true, true, true, false, false, false, false, false, false] rfl rfl (any_of HT_.out (by kernel_rfl)) (fun _ _ _ h => h) (Or.inr ⟨by rfl, rfl⟩) ?_ ?_
           rotate_left
           ·
            simp only [Act.put, List.setIfInBounds_toArray, List.set_cons_zero, List.set_cons_succ, i64_w, i32_w]
            rfl
           refine pure_ (i := 5) (N := some 46) (v := undef) (a' := ?_) #[true, true, true, true, true, true, false, false, false, false, false] rfl rfl (any_of HT_.out (by kernel_rfl)) (fun _ _ _ h => h) (Or.inr ⟨by rfl, rfl⟩) ?_ ?_
           rotate_left
           ·
            simp only [Act.put, List.setIfInBounds_toArray, List.set_cons_zero, List.set_cons_succ, i64_w, i32_w]
            rfl
           refine pure_ (i := 6) (N := some 47) (v := undef) (a' := ?_) #[true, true, true, true, true, true, true, false, false, false, false] rfl rfl (any_of HT_.out (by kernel_rfl)) (fun _ _ _ h => h) (Or.inr ⟨by rfl, rfl⟩) ?_ ?_
           rotate_left
           ·
            simp only [Act.put, List.setIfInBounds_toArray, List.set_cons_zero, List.set_cons_succ, i64_w, i32_w]
            rfl
           refine pure_ (i := 7) (N := some 48) (v := undef) (a' := ?_) #[true, true, true, true, true, true, true, true, false, false, false] rfl rfl (any_of HT_.out (by kernel_rfl)) (fun _ _ _ h => h) (Or.inr ⟨by rfl, rfl⟩) ?_ ?_
           rotate_left
           ·
            simp only [Act.put, List.setIfInBounds_toArray, List.set_cons_zero, List.set_cons_succ, i64_w, i32_w]
            rfl
           refine pure_ (i := 8) (N := some 49) (v := undef) (a' := ?_) #[true, true, true, true, true, true, true, true, true, false, false] rfl rfl (any_of HT_.out (by kernel_rfl)) (fun _ _ _ h => h) (Or.inr ⟨by rfl, rfl⟩) ?_ ?_
           rotate_left
           ·
            simp only [Act.put, List.setIfInBounds_toArray, List.set_cons_zero, List.set_cons_succ, i64_w, i32_w]
            rfl
           refine pure_ (i := 9) (N := some 50) (v := undef) (a' := ?_) #[true, true, true, true, true, true, true, true, true, true, false] rfl rfl (any_of HT_.out (by kernel_rfl)) (fun _ _ _ h => h) (Or.inr ⟨by rfl, rfl⟩) ?_ ?_
           rotate_left
           ·
            simp only [Act.put, List.setIfInBounds_toArray, List.set_cons_zero, List.set_cons_succ, i64_w, i32_w]
            rfl
           refine pure_ (i := 10) (N := some 51) (v := ?_) (a' := ?_) #[true, true, true, true, true, true, true, true, true, true, true] rfl rfl (any_of HT_.out (by kernel_rfl)) (fun _ _ _ h => h) (Or.inl ⟨by rfl, ?_⟩) ?_ ?_
           rotate_left
           ·
            intro w'
            go_simp
            with_reducible rfl
           rotate_left
           ·
            simp only [Act.put, List.setIfInBounds_toArray, List.set_cons_zero, List.set_cons_succ, i64_w, i32_w]
            rfl
           refine done_ (done_of HT_.out (by kernel_rfl)) ?_
           try go_wp2
           go_meet
           case rel => exact ⟨_, (true), (by first | rfl | (simp; done) | (simp [*]; done)), H', ⟨by have := HJ3.out; have := HK2.out; first | omega | exact Nat.le_refl _⟩, ⟨by (with_reducible repeat (first | refine blk_drewN ?_ _ | refine blk_drew ?_ | refine blk_alloc ?_ _)); exact BK159.out⟩, ⟨by repeat (first | (with_reducible first | exact HB.out | apply below_alloc | apply pw_below_drewN | apply below_drew1 | refine below_set ?_ GE159.out) | exact HB.out)⟩⟩
          case rest =>
           as_aux_lemma =>
            clear HC12
            try clear c1
            try clear p1
            try clear q1
            try clear hx1
            try clear c2
            try clear p2
            try clear q2
            try clear c3
            try clear c4
            try clear c6
            try clear c7
            try clear c8
            try clear c8b0
            try clear c9
            try clear c9b0
            try clear c10
            try clear c10b0
            try clear p15
            try clear q15
            try clear hx15
            try clear c16
            try clear c17
            try clear c17b0
            try clear c18
            try clear c18b0
            try clear c18b1
            try clear q21
            try clear hcz14_0
            try clear hcz14_1
            try clear hcz14_2
            try clear hcz14_3
            try clear hfz14_0
            try clear hfz14_1
            try clear hfz14_2
            try clear hfz14_3
            try clear hx158_0
            try clear hx158_1
            try clear hx158_2
            try clear hx158_3
            try clear p158
            try clear p2
            try clear q158
            try clear q21
            obtain ⟨kq, x51_11, rfl, HA, HJ11, BK159, HB⟩ := hcut
            cases kq with
            | zero => exact absurd HA.out (by simp [prop_lay.j2])
            | succ kj11 =>
             have H := HA.out
             clear HA
             simp only [prop_lay.j2] at H
             by_cases c24 : x51_11 = true
             ·
              subst c24
              have H1 : (some ((⟨#[]⟩ : ByteArray), false)) = some (r1, r2) := by rw [if_pos rfl] at H; exact H
              clear H
              have H := H1
              clear H1
              simp only [Option.some.injEq, Prod.mk.injEq] at H
              obtain ⟨rfl, rfl⟩ := H
              go_wp2
              go_ret2
              exact ⟨by first | rfl | (simp [errW_none, errW_some] <;> rfl) | (simp [*, errW_none, errW_some] <;> rfl), by repeat (first | (with_reducible first | exact HB.out | apply below_alloc | apply pw_below_drewN | apply below_drew1 | refine below_set ?_ GE159.out) | exact HB.out)⟩
             replace c24 := Bool.eq_false_iff.mpr c24
             subst c24
             have H1 : ((prop_Kind.f kj11 ((rd_T42 l1 x31_2).f0)).bind fun bt167 => ((prop_laid.f kj11 bt167.1 t160).bind fun bt169 => (if bt169.2 = 0 then ((some (([(((rd_T42 l1 x31_2).f0)) % 256] : List Int) : List Int)).bind fun y171 => (if (strOfNums y171).size + bt169.1.size ≤ 9223372036854775807 then (if x8_2.size + ((strOfNums y171) ++ bt169.1).size ≤ 9223372036854775807 then (prop_lay.l0 kj11 a0 l1 (x8_2 ++ ((strOfNums y171) ++ bt169.1)) l1 (l1.length : Int) (wrap64 (x31_2 + 1))) else (none)) else (none))) else (some ((⟨#[]⟩ : ByteArray), false))))) = some (r1, r2) := by rw [if_neg (show ¬ (false = true) by decide)] at H; exact H
             clear H
             have H := H1
             clear H1
             replace H := Option.bind_eq_some_iff.mp H
             obtain ⟨⟨t167, t168⟩, A250, H⟩ := H
             replace H : ((prop_laid.f kj11 t167 t160).bind fun bt169 => (if bt169.2 = 0 then ((some (([(((rd_T42 l1 x31_2).f0)) % 256] : List Int) : List Int)).bind fun y171 => (if (strOfNums y171).size + bt169.1.size ≤ 9223372036854775807 then (if x8_2.size + ((strOfNums y171) ++ bt169.1).size ≤ 9223372036854775807 then (prop_lay.l0 kj11 a0 l1 (x8_2 ++ ((strOfNums y171) ++ bt169.1)) l1 (l1.length : Int) (wrap64 (x31_2 + 1))) else (none)) else (none))) else (some ((⟨#[]⟩ : ByteArray), false)))) = some (r1, r2) := H
             have A25 := Aside0.mk A250
             clear A250
             replace H := Option.bind_eq_some_iff.mp H
             obtain ⟨⟨t169, t170⟩, A260, H⟩ := H
             replace H : (if t170 = 0 then ((some (([(((rd_T42 l1 x31_2).f0)) % 256] : List Int) : List Int)).bind fun y171 => (if (strOfNums y171).size + t169.size ≤ 9223372036854775807 then (if x8_2.size + ((strOfNums y171) ++ t169).size ≤ 9223372036854775807 then (prop_lay.l0 kj11 a0 l1 (x8_2 ++ ((strOfNums y171) ++ t169)) l1 (l1.length : Int) (wrap64 (x31_2 + 1))) else (none)) else (none))) else (some ((⟨#[]⟩ : ByteArray), false))) = some (r1, r2) := H
             have A26 := Aside0.mk A260
             clear A260
             by_cases c27 : t170 = 0
             ·
              rw [if_pos c27] at H
              have c27b0 : (t170 == 0) = true := beq_iff_eq.mpr c27
              have c27b1 : (t170 != 0) = false := bne_eq_false_iff_eq.mpr c27
              clear c27
              obtain ⟨y171, hy171⟩ : ∃ y_ : List Int, y_ = (([(((rd_T42 l1 x31_2).f0)) % 256] : List Int)) := ⟨_, rfl⟩
              replace H : (if (strOfNums y171).size + t169.size ≤ 9223372036854775807 then (if x8_2.size + ((strOfNums y171) ++ t169).size ≤ 9223372036854775807 then (prop_lay.l0 kj11 a0 l1 (x8_2 ++ ((strOfNums y171) ++ t169)) l1 (l1.length : Int) (wrap64 (x31_2 + 1))) else (none)) else (none)) = some (r1, r2) := by first | (rw [hy171]; with_reducible exact H) | (have H2_ := (Option.bind_some _ _).symm.trans H; rw [hy171]; with_reducible exact H2_) | (have H2_ := (Option.bind_some _ _).symm.trans H; with_reducible exact H2_) | with_reducible exact H | (rw [hy171]; exact H) | exact H
              have Ny171 := Aside0.mk hy171
              clear hy171
              by_cases c28 : (strOfNums y171).size + t169.size ≤ 9223372036854775807
              ·
               rw [if_pos c28] at H
               have c28b0 := eq_true c28
               have c28b1 : decide ((strOfNums y171).size + t169.size ≤ 9223372036854775807) = true := decide_eq_true c28
               try have c28b2 : (9223372036854775807 < (strOfNums y171).size + t169.size) = False := eq_false (Nat.not_lt.2 c28)
               by_cases c29 : x8_2.size + ((strOfNums y171) ++ t169).size ≤ 9223372036854775807
               ·
                rw [if_pos c29] at H
                have c29b0 := eq_true c29
                have c29b1 : decide (x8_2.size + ((strOfNums y171) ++ t169).size ≤ 9223372036854775807) = true := decide_eq_true c29
                try have c29b2 : (9223372036854775807 < x8_2.size + ((strOfNums y171) ++ t169).size) = False := eq_false (Nat.not_lt.2 c29)
                (try (have c29b2_ := c29b2; simp only [ByteArray.size_append] at c29b2_))
                have H' := Aside0.mk H
                clear H
                have hcz30_0 : wc.cell? ⟨gb159, 0, none⟩ = some (.int .i64 ((rd_T42 l1 x31_2).f0)) := (blk_cell BK159.out 0).trans rfl
                have hcz30_1 : wc.cell? ⟨gb159, 1, none⟩ = some (.int .i64 ((rd_T42 l1 x31_2).f1)) := (blk_cell BK159.out 1).trans rfl
                have hcz30_2 : wc.cell? ⟨gb159, 2, none⟩ = some (.string ((rd_T42 l1 x31_2).f2)) := (blk_cell BK159.out 2).trans rfl
                have hcz30_3 : wc.cell? ⟨gb159, 3, none⟩ = some (.string ((rd_T42 l1 x31_2).f3)) := (blk_cell BK159.out 3).trans rfl
                have hfz30_0 := blk_frozen BK159.out 0
                have hfz30_1 := blk_frozen BK159.out 1
                have hfz30_2 := blk_frozen BK159.out 2
                have hfz30_3 := blk_frozen BK159.out 3
                go_wp2_with (first | ((with_reducible refine gate_callee (f := 11) rfl ?_); refine goesL_ (some 55) rfl rfl Tryd.func11 (by kernel_rfl) rfl #[.int .i64 ((rd_T42 l1 x31_2).f0)] rfl (by (try simp only [List.map_toArray, List.map_cons, List.map_nil]); first | done | rfl | (simp only [List.length_drop, List.length_take]; rfl)) ?_; (with_reducible refine (prop_Kind.calls kj11 ((rd_T42 l1 x31_2).f0) t167 t168 _ A25.out).mono ?_); rintro e w' ⟨rfl, ⟨nd, rfl⟩⟩; refine ⟨_, rfl, ?_⟩) | ((with_reducible refine gate_callee (f := 42) rfl ?_); refine goesL_ (some 61) rfl rfl Tryd.func42 (by kernel_rfl) rfl #[.int .i64 t167, anyW t160] rfl (by (try simp only [List.map_toArray, List.map_cons, List.map_nil]); first | done | rfl | (simp only [List.length_drop, List.length_take]; rfl)) ?_; (with_reducible refine (prop_laid.calls kj11 t167 t160 t169 t170 _ (by first | exact HLAID | exact HLAID.below (by repeat (first | (with_reducible first | exact HB.out | apply below_alloc | apply pw_below_drewN | apply below_drew1) | exact HB.out))) A26.out).mono ?_); rintro e w31 ⟨rfl, hb⟩; refine ⟨_, rfl, ?_⟩; have n0_ := Aside0.mk (blk_below (g := gb159) (o := .cells #[.int .i64 ((rd_T42 l1 x31_2).f0), .int .i64 ((rd_T42 l1 x31_2).f1), .string ((rd_T42 l1 x31_2).f2), .string ((rd_T42 l1 x31_2).f3)] 42 (0, 0)) (by (with_reducible repeat (first | refine blk_drewN ?_ _ | refine blk_drew ?_ | refine blk_alloc ?_ _)); exact BK159.out) hb); have n1_ := Aside0.mk (below_step (by repeat (first | (with_reducible first | exact HB.out | apply below_alloc | apply pw_below_drewN | apply below_drew1 | refine below_set ?_ GE159.out) | exact HB.out)) hb); clear BK159; clear HB; have BK159 := n0_; have HB := n1_; clear n0_ n1_; (try clear hb); (try clear hb2); (try clear hk); (try clear hi); have hcz32_0 : w31.cell? ⟨gb159, 0, none⟩ = some (.int .i64 ((rd_T42 l1 x31_2).f0)) := (blk_cell BK159.out 0).trans rfl; have hcz32_1 : w31.cell? ⟨gb159, 1, none⟩ = some (.int .i64 ((rd_T42 l1 x31_2).f1)) := (blk_cell BK159.out 1).trans rfl; have hcz32_2 : w31.cell? ⟨gb159, 2, none⟩ = some (.string ((rd_T42 l1 x31_2).f2)) := (blk_cell BK159.out 2).trans rfl; have hcz32_3 : w31.cell? ⟨gb159, 3, none⟩ = some (.string ((rd_T42 l1 x31_2).f3)) := (blk_cell BK159.out 3).trans rfl; have hfz32_0 := blk_frozen BK159.out 0; have hfz32_1 := blk_frozen BK159.out 1; have hfz32_2 := blk_frozen BK159.out 2; have hfz32_3 := blk_frozen BK159.out 3) | ((with_reducible refine gate_dst (N := 70) rfl ?_); (try (refine gate_guard (by rfl) ?_; dsimp only)); refine Kd.R_lit (Kd.int .u8) _ 5 ?hg (N := 70) ?hd (xs := ([(((rd_T42 l1 x31_2).f0)) % 256] : List Int)) (inner := [.int .u8 ((((rd_T42 l1 x31_2).f0)) % 256)]) (ok := fun _ => True) (okp := fun _ => True) ?hr ?hp (fun _ hk => hk) trivial (Below.refl _ _) (Nat.le_refl _) (by simp) ?_; (case hd => rfl); (case hg => rfl); (case hr => first | (go_simp; done) | (go_simp; rfl)); (case hp => exact (Reps.one (show Kd.M (Kd.int .u8) _ _ _ ((((rd_T42 l1 x31_2).f0)) % 256) [.int .u8 ((((rd_T42 l1 x31_2).f0)) % 256)] from rfl) (Reps.none _ _))); intro v172 w33 ho34 hb hg_ hnew_; clear hg_ hnew_; (first | rw [← Ny171.out] at ho34 | (simp only [Int.reduceToNat] at ho34; rw [← Ny171.out] at ho34)); have n0_ := Aside0.mk (Kd.R_lower ho34 (below_size (by repeat (first | (with_reducible first | exact HB.out | apply below_alloc | apply pw_below_drewN | apply below_drew1 | refine below_set ?_ GE159.out) | exact HB.out)))); have n1_ := Aside0.mk (blk_below (g := gb159) (o := .cells #[.int .i64 ((rd_T42 l1 x31_2).f0), .int .i64 ((rd_T42 l1 x31_2).f1), .string ((rd_T42 l1 x31_2).f2), .string ((rd_T42 l1 x31_2).f3)] 42 (0, 0)) (by (with_reducible repeat (first | refine blk_drewN ?_ _ | refine blk_drew ?_ | refine blk_alloc ?_ _)); exact BK159.out) hb); have n2_ := Aside0.mk (below_step (by repeat (first | (with_reducible first | exact HB.out | apply below_alloc | apply pw_below_drewN | apply below_drew1 | refine below_set ?_ GE159.out) | exact HB.out)) hb); clear BK159; clear HB; have HO173 := n0_; have BK159 := n1_; have HB := n2_; clear n0_ n1_ n2_; clear hb ho34; have hcv35 := own_string (P := Tryd.prog) Tryd.underlying58 Tryd.underlying5 Tryd.underlying9 (Kd.own_of_R HO173.out)))
                go_roundg kj11
                case measure => have := HJ3.out; have := HK2.out; have := HJ11.out; omega
                case rel => exact ⟨(x8_2 ++ ((strOfNums y171) ++ t169)), (wrap64 (x31_2 + 1)), (by first | rfl | (simp; done) | (simp [*]; done)), (by first | rfl | (simp; done) | (simp [*]; done)), H', ⟨by have := HJ3.out; have := HK2.out; have := HJ11.out; omega⟩, ⟨by repeat (first | (with_reducible first | exact HB.out | apply below_alloc | apply pw_below_drewN | apply below_drew1 | refine below_set ?_ GE159.out) | exact HB.out)⟩⟩
               rw [if_neg c29] at H
               exact absurd H (by simp)
              rw [if_neg c28] at H
              exact absurd H (by simp)
             rw [if_neg c27] at H
             have c27b0 : (t170 == 0) = false := beq_eq_false_iff_ne.mpr c27
             have c27b1 : (t170 != 0) = true := bne_iff_ne.mpr c27
             simp only [Option.some.injEq, Prod.mk.injEq] at H
             obtain ⟨rfl, rfl⟩ := H
             have hcz36_0 : wc.cell? ⟨gb159, 0, none⟩ = some (.int .i64 ((rd_T42 l1 x31_2).f0)) := (blk_cell BK159.out 0).trans rfl
             have hcz36_1 : wc.cell? ⟨gb159, 1, none⟩ = some (.int .i64 ((rd_T42 l1 x31_2).f1)) := (blk_cell BK159.out 1).trans rfl
             have hcz36_2 : wc.cell? ⟨gb159, 2, none⟩ = some (.string ((rd_T42 l1 x31_2).f2)) := (blk_cell BK159.out 2).trans rfl
             have hcz36_3 : wc.cell? ⟨gb159, 3, none⟩ = some (.string ((rd_T42 l1 x31_2).f3)) := (blk_cell BK159.out 3).trans rfl
             have hfz36_0 := blk_frozen BK159.out 0
             have hfz36_1 := blk_frozen BK159.out 1
             have hfz36_2 := blk_frozen BK159.out 2
             have hfz36_3 := blk_frozen BK159.out 3
             go_wp2_with (first | ((with_reducible refine gate_callee (f := 11) rfl ?_); refine goesL_ (some 55) rfl rfl Tryd.func11 (by kernel_rfl) rfl #[.int .i64 ((rd_T42 l1 x31_2).f0)] rfl (by (try simp only [List.map_toArray, List.map_cons, List.map_nil]); first | done | rfl | (simp only [List.length_drop, List.length_take]; rfl)) ?_; (with_reducible refine (prop_Kind.calls kj11 ((rd_T42 l1 x31_2).f0) t167 t168 _ A25.out).mono ?_); rintro e w' ⟨rfl, ⟨nd, rfl⟩⟩; refine ⟨_, rfl, ?_⟩) | ((with_reducible refine gate_callee (f := 42) rfl ?_); refine goesL_ (some 61) rfl rfl Tryd.func42 (by kernel_rfl) rfl #[.int .i64 t167, anyW t160] rfl (by (try simp only [List.map_toArray, List.map_cons, List.map_nil]); first | done | rfl | (simp only [List.length_drop, List.length_take]; rfl)) ?_; (with_reducible refine (prop_laid.calls kj11 t167 t160 t169 t170 _ (by first | exact HLAID | exact HLAID.below (by repeat (first | (with_reducible first | exact HB.out | apply below_alloc | apply pw_below_drewN | apply below_drew1) | exact HB.out))) A26.out).mono ?_); rintro e w37 ⟨rfl, hb⟩; refine ⟨_, rfl, ?_⟩; have n0_ := Aside0.mk (blk_below (g := gb159) (o := .cells #[.int .i64 ((rd_T42 l1 x31_2).f0), .int .i64 ((rd_T42 l1 x31_2).f1), .string ((rd_T42 l1 x31_2).f2), .string ((rd_T42 l1 x31_2).f3)] 42 (0, 0)) (by (with_reducible repeat (first | refine blk_drewN ?_ _ | refine blk_drew ?_ | refine blk_alloc ?_ _)); exact BK159.out) hb); have n1_ := Aside0.mk (below_step (by repeat (first | (with_reducible first | exact HB.out | apply below_alloc | apply pw_below_drewN | apply below_drew1 | refine below_set ?_ GE159.out) | exact HB.out)) hb); clear BK159; clear HB; have BK159 := n0_; have HB := n1_; clear n0_ n1_; (try clear hb); (try clear hb2); (try clear hk); (try clear hi)))
             go_ret2
             exact ⟨by first | rfl | (simp [errW_none, errW_some] <;> rfl) | (simp [*, errW_none, errW_some] <;> rfl), by repeat (first | (with_reducible first | exact HB.out | apply below_alloc | apply pw_below_drewN | apply below_drew1 | refine below_set ?_ GE159.out) | exact HB.out)⟩
         rw [if_neg c10] at H
         exact absurd H (by simp)
        rw [if_neg c9] at H
        exact absurd H (by simp)
       rw [if_neg c8] at H
       have c8b0 : decide (x31_2 < (l1.length : Int)) = false := decide_eq_false c8
       clear c8
       simp only [Option.some.injEq, Prod.mk.injEq] at H
       obtain ⟨rfl, rfl⟩ := H
       go_wp2
       go_ret2
       exact ⟨by first | rfl | (simp [errW_none, errW_some] <;> rfl) | (simp [*, errW_none, errW_some] <;> rfl), by repeat (first | (with_reducible first | exact HB.out | apply below_alloc | apply pw_below_drewN | apply below_drew1) | exact HB.out)⟩

/-! ### prop_Bytes: function 17 -/
def prop_Bytes.f (k : Nat) (a0 : Int) (l1 : List (S42)) : Option (ByteArray × Int) := (prop_lay.f k a0 l1).bind fun bt174 => (if bt174.2 = true then ((vbi_Num.f k (bt174.1.size : Int)).bind fun bt176 => (if bt176.1.size + bt174.1.size ≤ 9223372036854775807 then (some (bt176.1 ++ bt174.1, 0)) else (none))) else (some ((⟨#[]⟩ : ByteArray), 1)))
theorem prop_Bytes.mono : ∀ a0 a1 k, LeO (prop_Bytes.f k a0 a1) (prop_Bytes.f (k + 1) a0 a1) := by
 intro a0 a1 k
 unfold prop_Bytes.f
 repeat' first
   | (with_reducible exact prop_lay.mono _ _ _)
   | (with_reducible exact vbi_Num.mono _ _)
   | (with_reducible exact LeO.refl _)
   | (with_reducible exact LeO.none _)
   | (with_reducible refine LeO.ite ?_ ?_)
   | (with_reducible refine LeO.bind ?_ (fun _ => ?_))
   | exact prop_lay.mono _ _ _
   | exact vbi_Num.mono _ _
   | exact LeO.none _
   | refine LeO.ite ?_ ?_
   | refine LeO.bind ?_ (fun _ => ?_)
set_option maxHeartbeats 8000000 in
set_option maxRecDepth 100000 in
theorem prop_Bytes.calls (k : Nat) (a0 : Int) (A1 : Option Addr) (c1 : Nat) (l1 : List (S42)) (r1 : ByteArray) (r2 : Int) (w : World) (hr1 : Kd.C k42 w A1 l1.length l1) (hc1 : l1.length ≤ c1) (HLAID : Laid w) (h : prop_Bytes.f k a0 l1 = some (r1, r2)) :
  Calls Tryd.prog 17 #[.int .i64 a0, .slice A1 l1.length c1] w fun e w' => e = .returned (.tuple #[.string r1, .int .i64 r2]) ∧ Below w.heap.size w w' := by
 have HR1 := Aside0.mk hr1
 have HC1 := Aside0.mk hc1
 clear hr1 hc1
 have HB := Aside0.mk (Below.refl w.heap.size w)
 have H : ((prop_lay.f k a0 l1).bind fun bt174 => (if bt174.2 = true then ((vbi_Num.f k (bt174.1.size : Int)).bind fun bt176 => (if bt176.1.size + bt174.1.size ≤ 9223372036854775807 then (some (bt176.1 ++ bt174.1, 0)) else (none))) else (some ((⟨#[]⟩ : ByteArray), 1)))) = some (r1, r2) := h
 clear h
 replace H := Option.bind_eq_some_iff.mp H
 obtain ⟨⟨t174, t175⟩, A30, H⟩ := H
 replace H : (if t175 = true then ((vbi_Num.f k (t174.size : Int)).bind fun bt176 => (if bt176.1.size + t174.size ≤ 9223372036854775807 then (some (bt176.1 ++ t174, 0)) else (none))) else (some ((⟨#[]⟩ : ByteArray), 1))) = some (r1, r2) := H
 have A3 := Aside0.mk A30
 clear A30
 by_cases c4 : t175 = true
 ·
  subst c4
  have H1 : ((vbi_Num.f k (t174.size : Int)).bind fun bt176 => (if bt176.1.size + t174.size ≤ 9223372036854775807 then (some (bt176.1 ++ t174, 0)) else (none))) = some (r1, r2) := by rw [if_pos rfl] at H; exact H
  clear H
  have H := H1
  clear H1
  replace H := Option.bind_eq_some_iff.mp H
  obtain ⟨⟨t176, t177⟩, A50, H⟩ := H
  replace H : (if t176.size + t174.size ≤ 9223372036854775807 then (some (t176 ++ t174, 0)) else (none)) = some (r1, r2) := H
  have A5 := Aside0.mk A50
  clear A50
  by_cases c6 : t176.size + t174.size ≤ 9223372036854775807
  ·
   rw [if_pos c6] at H
   have c6b0 := eq_true c6
   have c6b1 : decide (t176.size + t174.size ≤ 9223372036854775807) = true := decide_eq_true c6
   try have c6b2 : (9223372036854775807 < t176.size + t174.size) = False := eq_false (Nat.not_lt.2 c6)
   simp only [Option.some.injEq, Prod.mk.injEq] at H
   obtain ⟨rfl, rfl⟩ := H
   go_enter Tryd.func17, Tryd.ntmps17
   go_wp2_with (first | ((with_reducible refine gate_callee (f := 28) rfl ?_); refine goesL_ (some 13) rfl rfl Tryd.func28 (by kernel_rfl) rfl #[.int .i64 a0, .slice A1 l1.length c1] rfl (by (try simp only [List.map_toArray, List.map_cons, List.map_nil]); first | done | rfl | (simp only [List.length_drop, List.length_take]; rfl)) ?_; (with_reducible refine (prop_lay.calls k a0 _ _ l1 t174 true _ ?side1 ?side2 (by first | exact HLAID | exact HLAID.below (by repeat (first | (with_reducible first | exact HB.out | apply below_alloc | apply pw_below_drewN | apply below_drew1) | exact HB.out))) A3.out).mono ?_); (case side1 => repeat (first | exact HR1.out | (with_reducible refine Kd.C_alloc ?_ _) | (with_reducible refine Kd.C_drewN ?_ _) | (with_reducible refine Kd.C_drew ?_))); (case side2 => exact HC1.out); rintro e w7 ⟨rfl, hb⟩; refine ⟨_, rfl, ?_⟩; have n0_ := Aside0.mk (below_step (by repeat (first | (with_reducible first | exact HB.out | apply below_alloc | apply pw_below_drewN | apply below_drew1) | exact HB.out)) hb); clear HB; have HB := n0_; clear n0_; (try clear hb); (try clear hb2); (try clear hk); (try clear hi)) | ((with_reducible refine gate_callee (f := 29) rfl ?_); refine goesL_ (some 21) rfl rfl Tryd.func29 (by kernel_rfl) rfl #[.int .i64 (t174.size : Int)] rfl (by (try simp only [List.map_toArray, List.map_cons, List.map_nil]); first | done | rfl | (simp only [List.length_drop, List.length_take]; rfl)) ?_; (with_reducible refine (vbi_Num.calls k (t174.size : Int) t176 t177 _ A5.out).mono ?_); rintro e w8 ⟨rfl, hb⟩; refine ⟨_, rfl, ?_⟩; have n0_ := Aside0.mk (below_step (by repeat (first | (with_reducible first | exact HB.out | apply below_alloc | apply pw_below_drewN | apply below_drew1) | exact HB.out)) hb); clear HB; have HB := n0_; clear n0_; (try clear hb); (try clear hb2); (try clear hk); (try clear hi)))
   go_ret2
   exact ⟨by first | rfl | (simp [errW_none, errW_some] <;> rfl) | (simp [*, errW_none, errW_some] <;> rfl), by repeat (first | (with_reducible first | exact HB.out | apply below_alloc | apply pw_below_drewN | apply below_drew1) | exact HB.out)⟩
  rw [if_neg c6] at H
  exact absurd H (by simp)
 replace c4 := Bool.eq_false_iff.mpr c4
 subst c4
 have H1 : (some ((⟨#[]⟩ : ByteArray), 1)) = some (r1, r2) := by rw [if_neg (show ¬ (false = true) by decide)] at H; exact H
 clear H
 have H := H1
 clear H1
 simp only [Option.some.injEq, Prod.mk.injEq] at H
 obtain ⟨rfl, rfl⟩ := H
 go_enter Tryd.func17, Tryd.ntmps17
 go_wp2_with (first | ((with_reducible refine gate_callee (f := 28) rfl ?_); refine goesL_ (some 13) rfl rfl Tryd.func28 (by kernel_rfl) rfl #[.int .i64 a0, .slice A1 l1.length c1] rfl (by (try simp only [List.map_toArray, List.map_cons, List.map_nil]); first | done | rfl | (simp only [List.length_drop, List.length_take]; rfl)) ?_; (with_reducible refine (prop_lay.calls k a0 _ _ l1 t174 false _ ?side1 ?side2 (by first | exact HLAID | exact HLAID.below (by repeat (first | (with_reducible first | exact HB.out | apply below_alloc | apply pw_below_drewN | apply below_drew1) | exact HB.out))) A3.out).mono ?_); (case side1 => repeat (first | exact HR1.out | (with_reducible refine Kd.C_alloc ?_ _) | (with_reducible refine Kd.C_drewN ?_ _) | (with_reducible refine Kd.C_drew ?_))); (case side2 => exact HC1.out); rintro e w9 ⟨rfl, hb⟩; refine ⟨_, rfl, ?_⟩; have n0_ := Aside0.mk (below_step (by repeat (first | (with_reducible first | exact HB.out | apply below_alloc | apply pw_below_drewN | apply below_drew1) | exact HB.out)) hb); clear HB; have HB := n0_; clear n0_; (try clear hb); (try clear hb2); (try clear hk); (try clear hi)))
 go_ret2
 exact ⟨by first | rfl | (simp [errW_none, errW_some] <;> rfl) | (simp [*, errW_none, errW_some] <;> rfl), by repeat (first | (with_reducible first | exact HB.out | apply below_alloc | apply pw_below_drewN | apply below_drew1) | exact HB.out)⟩

/-! ### fairwaylaw4_wakes: function 14 -/
def fairwaylaw4_wakes.f (k : Nat)  : Option (Bool) := (prop_Bytes.f k 0 ([] : List (S42))).bind fun bt178 => ((prop_Kind.f k 38).bind fun bt180 => ((fairwaylaw4_num.f bt178.2).bind fun t182 => (if t182 = 0 then (if bt178.1.toList = ([0] : List UInt8) then ((fairwaylaw4_num.f bt180.2).bind fun t183 => (if t183 = 0 then (some (bt180.1 == 7)) else (some false))) else (some false)) else (some false))))
theorem fairwaylaw4_wakes.mono : ∀ k, LeO (fairwaylaw4_wakes.f k ) (fairwaylaw4_wakes.f (k + 1) ) := by
 intro  k
 unfold fairwaylaw4_wakes.f
 repeat' first
   | (with_reducible exact prop_Bytes.mono _ _ _)
   | (with_reducible exact prop_Kind.mono _ _)
   | (with_reducible exact LeO.refl _)
   | (with_reducible exact LeO.none _)
   | (with_reducible refine LeO.ite ?_ ?_)
   | (with_reducible refine LeO.bind ?_ (fun _ => ?_))
   | exact prop_Bytes.mono _ _ _
   | exact prop_Kind.mono _ _
   | exact LeO.none _
   | refine LeO.ite ?_ ?_
   | refine LeO.bind ?_ (fun _ => ?_)
set_option maxHeartbeats 8000000 in
set_option maxRecDepth 100000 in
theorem fairwaylaw4_wakes.calls (k : Nat)  (r : Bool) (w : World) (HLAID : Laid w) (h : fairwaylaw4_wakes.f k  = some r) :
  Calls Tryd.prog 14 #[] w fun e w' => e = .returned (.bool r) ∧ Below w.heap.size w w' := by
 have HB := Aside0.mk (Below.refl w.heap.size w)
 have H : ((prop_Bytes.f k 0 ([] : List (S42))).bind fun bt178 => ((prop_Kind.f k 38).bind fun bt180 => ((fairwaylaw4_num.f bt178.2).bind fun t182 => (if t182 = 0 then (if bt178.1.toList = ([0] : List UInt8) then ((fairwaylaw4_num.f bt180.2).bind fun t183 => (if t183 = 0 then (some (bt180.1 == 7)) else (some false))) else (some false)) else (some false))))) = some r := h
 clear h
 replace H := Option.bind_eq_some_iff.mp H
 obtain ⟨⟨t178, t179⟩, A10, H⟩ := H
 replace H : ((prop_Kind.f k 38).bind fun bt180 => ((fairwaylaw4_num.f t179).bind fun t182 => (if t182 = 0 then (if t178.toList = ([0] : List UInt8) then ((fairwaylaw4_num.f bt180.2).bind fun t183 => (if t183 = 0 then (some (bt180.1 == 7)) else (some false))) else (some false)) else (some false)))) = some r := H
 have A1 := Aside0.mk A10
 clear A10
 replace H := Option.bind_eq_some_iff.mp H
 obtain ⟨⟨t180, t181⟩, A20, H⟩ := H
 replace H : ((fairwaylaw4_num.f t179).bind fun t182 => (if t182 = 0 then (if t178.toList = ([0] : List UInt8) then ((fairwaylaw4_num.f t181).bind fun t183 => (if t183 = 0 then (some (t180 == 7)) else (some false))) else (some false)) else (some false))) = some r := H
 have A2 := Aside0.mk A20
 clear A20
 replace H := Option.bind_eq_some_iff.mp H
 obtain ⟨t182, A30, H⟩ := H
 replace H : (if t182 = 0 then (if t178.toList = ([0] : List UInt8) then ((fairwaylaw4_num.f t181).bind fun t183 => (if t183 = 0 then (some (t180 == 7)) else (some false))) else (some false)) else (some false)) = some r := H
 have A3 := Aside0.mk A30
 clear A30
 by_cases c4 : t182 = 0
 ·
  rw [if_pos c4] at H
  have c4b0 : (t182 == 0) = true := beq_iff_eq.mpr c4
  have c4b1 : (t182 != 0) = false := bne_eq_false_iff_eq.mpr c4
  clear c4
  by_cases c5 : t178.toList = ([0] : List UInt8)
  ·
   rw [if_pos c5] at H
   have c5b0 : (t178.toList == ([0] : List UInt8)) = true := beq_iff_eq.mpr c5
   have c5b1 : (t178.toList != ([0] : List UInt8)) = false := bne_eq_false_iff_eq.mpr c5
   clear c5
   replace H := Option.bind_eq_some_iff.mp H
   obtain ⟨t183, A60, H⟩ := H
   replace H : (if t183 = 0 then (some (t180 == 7)) else (some false)) = some r := H
   have A6 := Aside0.mk A60
   clear A60
   by_cases c7 : t183 = 0
   ·
    rw [if_pos c7] at H
    have c7b0 : (t183 == 0) = true := beq_iff_eq.mpr c7
    have c7b1 : (t183 != 0) = false := bne_eq_false_iff_eq.mpr c7
    clear c7
    obtain rfl := Option.some.inj H
    go_enter Tryd.func14, Tryd.ntmps14
    go_wp2_with (first | ((with_reducible refine gate_callee (f := 17) rfl ?_); refine goesL_ (some 6) rfl rfl Tryd.func17 (by kernel_rfl) rfl #[.int .i64 0, .slice none 0 0] rfl (by (try simp only [List.map_toArray, List.map_cons, List.map_nil]); first | done | rfl | (simp only [List.length_drop, List.length_take]; rfl)) ?_; (refine (prop_Bytes.calls k 0 _ _ ([] : List (S42)) t178 t179 _ ?side1 ?side2 (by first | exact HLAID | exact HLAID.below (by repeat (first | (with_reducible first | exact HB.out | apply below_alloc | apply pw_below_drewN | apply below_drew1) | exact HB.out))) A1.out).mono ?_); (case side1 => exact Kd.C_nil _ _); (case side2 => exact Nat.le_refl _); rintro e w8 ⟨rfl, hb⟩; refine ⟨_, rfl, ?_⟩; have n0_ := Aside0.mk (below_step (by repeat (first | (with_reducible first | exact HB.out | apply below_alloc | apply pw_below_drewN | apply below_drew1) | exact HB.out)) hb); clear HB; have HB := n0_; clear n0_; (try clear hb); (try clear hb2); (try clear hk); (try clear hi)) | ((with_reducible refine gate_callee (f := 11) rfl ?_); refine goesL_ (some 10) rfl rfl Tryd.func11 (by kernel_rfl) rfl #[.int .i64 38] rfl (by (try simp only [List.map_toArray, List.map_cons, List.map_nil]); first | done | rfl | (simp only [List.length_drop, List.length_take]; rfl)) ?_; (with_reducible refine (prop_Kind.calls k 38 t180 t181 _ A2.out).mono ?_); rintro e w' ⟨rfl, ⟨nd, rfl⟩⟩; refine ⟨_, rfl, ?_⟩) | ((with_reducible refine gate_callee (f := 13) rfl ?_); refine goesL_ (some 14) rfl rfl Tryd.func13 (by kernel_rfl) rfl #[.int .i64 t179] rfl (by (try simp only [List.map_toArray, List.map_cons, List.map_nil]); first | done | rfl | (simp only [List.length_drop, List.length_take]; rfl)) ?_; (with_reducible refine (fairwaylaw4_num.calls t179 t182 _ A3.out).mono ?_); rintro e w' ⟨rfl, ⟨nd, rfl⟩⟩; refine ⟨_, rfl, ?_⟩) | (go_at_call 13; (with_reducible refine (fairwaylaw4_num.calls t181 t183 _ A6.out).mono ?_); rintro e w' ⟨rfl, ⟨nd, rfl⟩⟩))
    go_ret
    exact ⟨by first | rfl | (simp [errW_none, errW_some] <;> rfl) | (simp [*, errW_none, errW_some] <;> rfl), by repeat (first | (with_reducible first | exact HB.out | apply below_alloc | apply pw_below_drewN | apply below_drew1) | exact HB.out)⟩
   rw [if_neg c7] at H
   have c7b0 : (t183 == 0) = false := beq_eq_false_iff_ne.mpr c7
   have c7b1 : (t183 != 0) = true := bne_iff_ne.mpr c7
   obtain rfl := Option.some.inj H
   go_enter Tryd.func14, Tryd.ntmps14
   go_wp2_with (first | ((with_reducible refine gate_callee (f := 17) rfl ?_); refine goesL_ (some 6) rfl rfl Tryd.func17 (by kernel_rfl) rfl #[.int .i64 0, .slice none 0 0] rfl (by (try simp only [List.map_toArray, List.map_cons, List.map_nil]); first | done | rfl | (simp only [List.length_drop, List.length_take]; rfl)) ?_; (refine (prop_Bytes.calls k 0 _ _ ([] : List (S42)) t178 t179 _ ?side1 ?side2 (by first | exact HLAID | exact HLAID.below (by repeat (first | (with_reducible first | exact HB.out | apply below_alloc | apply pw_below_drewN | apply below_drew1) | exact HB.out))) A1.out).mono ?_); (case side1 => exact Kd.C_nil _ _); (case side2 => exact Nat.le_refl _); rintro e w9 ⟨rfl, hb⟩; refine ⟨_, rfl, ?_⟩; have n0_ := Aside0.mk (below_step (by repeat (first | (with_reducible first | exact HB.out | apply below_alloc | apply pw_below_drewN | apply below_drew1) | exact HB.out)) hb); clear HB; have HB := n0_; clear n0_; (try clear hb); (try clear hb2); (try clear hk); (try clear hi)) | ((with_reducible refine gate_callee (f := 11) rfl ?_); refine goesL_ (some 10) rfl rfl Tryd.func11 (by kernel_rfl) rfl #[.int .i64 38] rfl (by (try simp only [List.map_toArray, List.map_cons, List.map_nil]); first | done | rfl | (simp only [List.length_drop, List.length_take]; rfl)) ?_; (with_reducible refine (prop_Kind.calls k 38 t180 t181 _ A2.out).mono ?_); rintro e w' ⟨rfl, ⟨nd, rfl⟩⟩; refine ⟨_, rfl, ?_⟩) | ((with_reducible refine gate_callee (f := 13) rfl ?_); refine goesL_ (some 14) rfl rfl Tryd.func13 (by kernel_rfl) rfl #[.int .i64 t179] rfl (by (try simp only [List.map_toArray, List.map_cons, List.map_nil]); first | done | rfl | (simp only [List.length_drop, List.length_take]; rfl)) ?_; (with_reducible refine (fairwaylaw4_num.calls t179 t182 _ A3.out).mono ?_); rintro e w' ⟨rfl, ⟨nd, rfl⟩⟩; refine ⟨_, rfl, ?_⟩) | (go_at_call 13; (with_reducible refine (fairwaylaw4_num.calls t181 t183 _ A6.out).mono ?_); rintro e w' ⟨rfl, ⟨nd, rfl⟩⟩))
   go_ret
   exact ⟨by first | rfl | (simp [errW_none, errW_some] <;> rfl) | (simp [*, errW_none, errW_some] <;> rfl), by repeat (first | (with_reducible first | exact HB.out | apply below_alloc | apply pw_below_drewN | apply below_drew1) | exact HB.out)⟩
  rw [if_neg c5] at H
  have c5b0 : (t178.toList == ([0] : List UInt8)) = false := beq_eq_false_iff_ne.mpr c5
  have c5b1 : (t178.toList != ([0] : List UInt8)) = true := bne_iff_ne.mpr c5
  obtain rfl := Option.some.inj H
  go_enter Tryd.func14, Tryd.ntmps14
  go_wp2_with (first | ((with_reducible refine gate_callee (f := 17) rfl ?_); refine goesL_ (some 6) rfl rfl Tryd.func17 (by kernel_rfl) rfl #[.int .i64 0, .slice none 0 0] rfl (by (try simp only [List.map_toArray, List.map_cons, List.map_nil]); first | done | rfl | (simp only [List.length_drop, List.length_take]; rfl)) ?_; (refine (prop_Bytes.calls k 0 _ _ ([] : List (S42)) t178 t179 _ ?side1 ?side2 (by first | exact HLAID | exact HLAID.below (by repeat (first | (with_reducible first | exact HB.out | apply below_alloc | apply pw_below_drewN | apply below_drew1) | exact HB.out))) A1.out).mono ?_); (case side1 => exact Kd.C_nil _ _); (case side2 => exact Nat.le_refl _); rintro e w10 ⟨rfl, hb⟩; refine ⟨_, rfl, ?_⟩; have n0_ := Aside0.mk (below_step (by repeat (first | (with_reducible first | exact HB.out | apply below_alloc | apply pw_below_drewN | apply below_drew1) | exact HB.out)) hb); clear HB; have HB := n0_; clear n0_; (try clear hb); (try clear hb2); (try clear hk); (try clear hi)) | ((with_reducible refine gate_callee (f := 11) rfl ?_); refine goesL_ (some 10) rfl rfl Tryd.func11 (by kernel_rfl) rfl #[.int .i64 38] rfl (by (try simp only [List.map_toArray, List.map_cons, List.map_nil]); first | done | rfl | (simp only [List.length_drop, List.length_take]; rfl)) ?_; (with_reducible refine (prop_Kind.calls k 38 t180 t181 _ A2.out).mono ?_); rintro e w' ⟨rfl, ⟨nd, rfl⟩⟩; refine ⟨_, rfl, ?_⟩) | ((with_reducible refine gate_callee (f := 13) rfl ?_); refine goesL_ (some 14) rfl rfl Tryd.func13 (by kernel_rfl) rfl #[.int .i64 t179] rfl (by (try simp only [List.map_toArray, List.map_cons, List.map_nil]); first | done | rfl | (simp only [List.length_drop, List.length_take]; rfl)) ?_; (with_reducible refine (fairwaylaw4_num.calls t179 t182 _ A3.out).mono ?_); rintro e w' ⟨rfl, ⟨nd, rfl⟩⟩; refine ⟨_, rfl, ?_⟩))
  go_ret
  exact ⟨by first | rfl | (simp [errW_none, errW_some] <;> rfl) | (simp [*, errW_none, errW_some] <;> rfl), by repeat (first | (with_reducible first | exact HB.out | apply below_alloc | apply pw_below_drewN | apply below_drew1) | exact HB.out)⟩
 rw [if_neg c4] at H
 have c4b0 : (t182 == 0) = false := beq_eq_false_iff_ne.mpr c4
 have c4b1 : (t182 != 0) = true := bne_iff_ne.mpr c4
 obtain rfl := Option.some.inj H
 go_enter Tryd.func14, Tryd.ntmps14
 go_wp2_with (first | ((with_reducible refine gate_callee (f := 17) rfl ?_); refine goesL_ (some 6) rfl rfl Tryd.func17 (by kernel_rfl) rfl #[.int .i64 0, .slice none 0 0] rfl (by (try simp only [List.map_toArray, List.map_cons, List.map_nil]); first | done | rfl | (simp only [List.length_drop, List.length_take]; rfl)) ?_; (refine (prop_Bytes.calls k 0 _ _ ([] : List (S42)) t178 t179 _ ?side1 ?side2 (by first | exact HLAID | exact HLAID.below (by repeat (first | (with_reducible first | exact HB.out | apply below_alloc | apply pw_below_drewN | apply below_drew1) | exact HB.out))) A1.out).mono ?_); (case side1 => exact Kd.C_nil _ _); (case side2 => exact Nat.le_refl _); rintro e w11 ⟨rfl, hb⟩; refine ⟨_, rfl, ?_⟩; have n0_ := Aside0.mk (below_step (by repeat (first | (with_reducible first | exact HB.out | apply below_alloc | apply pw_below_drewN | apply below_drew1) | exact HB.out)) hb); clear HB; have HB := n0_; clear n0_; (try clear hb); (try clear hb2); (try clear hk); (try clear hi)) | ((with_reducible refine gate_callee (f := 11) rfl ?_); refine goesL_ (some 10) rfl rfl Tryd.func11 (by kernel_rfl) rfl #[.int .i64 38] rfl (by (try simp only [List.map_toArray, List.map_cons, List.map_nil]); first | done | rfl | (simp only [List.length_drop, List.length_take]; rfl)) ?_; (with_reducible refine (prop_Kind.calls k 38 t180 t181 _ A2.out).mono ?_); rintro e w' ⟨rfl, ⟨nd, rfl⟩⟩; refine ⟨_, rfl, ?_⟩) | ((with_reducible refine gate_callee (f := 13) rfl ?_); refine goesL_ (some 14) rfl rfl Tryd.func13 (by kernel_rfl) rfl #[.int .i64 t179] rfl (by (try simp only [List.map_toArray, List.map_cons, List.map_nil]); first | done | rfl | (simp only [List.length_drop, List.length_take]; rfl)) ?_; (with_reducible refine (fairwaylaw4_num.calls t179 t182 _ A3.out).mono ?_); rintro e w' ⟨rfl, ⟨nd, rfl⟩⟩; refine ⟨_, rfl, ?_⟩))
 go_ret
 exact ⟨by first | rfl | (simp [errW_none, errW_some] <;> rfl) | (simp [*, errW_none, errW_some] <;> rfl), by repeat (first | (with_reducible first | exact HB.out | apply below_alloc | apply pw_below_drewN | apply below_drew1) | exact HB.out)⟩

end Go.Proofs.YtiancopplinpcaaDoor.P
