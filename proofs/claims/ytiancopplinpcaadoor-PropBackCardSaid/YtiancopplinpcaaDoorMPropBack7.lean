/- The statement PropBack: for every input the law answers true, and its argument reads behind the call as it did (part 8 of 11 of the proof). -/
import Derived.Test.YtiancopplinpcaaDoorMPropBack6
import Derived.RegionTactic
import Derived.ChangeAlike
import Derived.RegionCalls
section
theorem zz1 {p : Prop} (h : p := by repeat (first | (with_reducible first | exact HB.out | apply below_alloc | apply pw_below_drewN | apply below_drew1) | exact HB.out | (refine Below.setCell ?_ (by simp <;> omega) _) | (refine Below.setCells ?_ (by simp <;> omega) _ _))) : p := h
theorem zz7 {p : Prop} (h : p := by repeat (first | (with_reducible first | exact HB.out | apply below_alloc | apply pw_below_drewN | apply below_drew1 | refine below_set ?_ GE159.out) | exact HB.out)) : p := h
theorem zz15 {p : Prop} (h : p := by (with_reducible repeat (first | refine blk_drewN ?_ _ | refine blk_drew ?_ | refine blk_alloc ?_ _)); exact BK159.out) : p := h
namespace Go.Proofs.YtiancopplinpcaaDoor.P
open Go.RowKit Go.Proofs.YtiancopplinpcaaDoorW.PrintWords Go.Proofs.YtiancopplinpcaaDoorW.PrintLast Go.Proofs.YtiancopplinpcaaDoorW.PrintMore
set_option linter.unusedSimpArgs false
set_option linter.unusedVariables false
attribute [local go_sem] max2_int min2_int max_two min_two
theorem bcell {W w1 : World} (hb : Below W.heap.size W w1) : ∀ b o, b < W.heap.size → w1.cell? ⟨b, o, none⟩ = W.cell? ⟨b, o, none⟩ := fun b o h => hb.cell (p := ⟨b, o, none⟩) h
theorem conv1 (w W : World) (n : Int) (hW : W.heap = (w.alloc (.cells #[.int .u8 (IntKind.u8.wrap n)] 5)).heap) : (convert 58 9 (.slice (some ⟨w.heap.size, 0, none⟩) 1 1)).run Tryd.prog W = .ok (.string (strOfNums [n % 256])) W := by
  refine string_of_reads Tryd.underlying58 Tryd.underlying5 Tryd.underlying9 ⟨rfl, by decide, fun _ => ⟨_, rfl, fun j hj => ?_⟩⟩
  obtain rfl : j = 0 := by omega
  rw [add_plain]
  have h0 := heap_alloc_new w (.cells #[.int .u8 (IntKind.u8.wrap n)] 5)
  rw [← hW] at h0
  have h1 := blk_cell h0 0
  rw [h1, IntKind.wrap_u8]
  rfl
def prop_laid.f (k : Nat) (a0 : Int) (a1 : AnyV) : Option (ByteArray × Int) := match a1 with
  | .num n => if a0 = 1 then (prop_within.f n 255).bind fun e => some (strOfNums [n % 256], e) else if a0 = 2 then vbi_Two.f k n else if a0 = 3 then vbi_Four.f k n else if a0 = 4 then vbi_Num.f k n else none
  | .str s => if a0 = 6 then vbi_Bin.f k s else if a0 = 5 then vbi_Text.f k s else none
  | .two a b => if 1 ≤ a0 ∧ a0 ≤ 6 then none else (vbi_Text.f k a).bind fun x => (vbi_Text.f k b).bind fun y => if x.1.size + y.1.size ≤ 9223372036854775807 then some (x.1 ++ y.1, mx x.2 y.2) else none
  | .no => none
theorem prop_laid.mono : ∀ a0 a1 k, LeO (prop_laid.f k a0 a1) (prop_laid.f (k + 1) a0 a1) := by
  intro a0 a1 k
  unfold prop_laid.f; cases a1 with
  | no => exact LeO.none _
  | num n => exact LeO.ite (LeO.refl _) (LeO.ite (vbi_Two.mono _ _) (LeO.ite (vbi_Four.mono _ _) (LeO.ite (vbi_Num.mono _ _) (LeO.none _))))
  | str s => exact LeO.ite (vbi_Bin.mono _ _) (LeO.ite (vbi_Text.mono _ _) (LeO.none _))
  | two a b => exact LeO.ite (LeO.none _) (LeO.bind (vbi_Text.mono _ _) (fun _ => LeO.bind (vbi_Text.mono _ _) (fun _ => LeO.refl _)))
set_option maxHeartbeats 4000000 in
set_option maxRecDepth 100000 in
theorem prop_laid.two (k : Nat) (n : Int) (r1 : ByteArray) (r2 : Int) (w : World) (HLAID : Laid w) (h : vbi_Two.f k n = some (r1, r2)) :
    Calls Tryd.prog 42 #[.int .i64 2, .iface 3 (.int .i64 n)] w fun e w' => e = .returned (.tuple #[.string r1, .int .i64 r2]) ∧ Below w.heap.size w w' := by
  have t1 : ∀ W, (Instr.typeAssert (.iface 3 (.int .i64 n)) 20 3 false).run Tryd.prog W = .ok (.int .i64 n) W := fun W => by rfl
  go_enter Tryd.func42, Tryd.ntmps42
  go_wp2_with (go_at_call 56; (with_reducible refine (vbi_Two.calls k n r1 r2 _ h).mono ?_); rintro e w1 ⟨rfl, hb⟩)
  go_ret2
  exact ⟨rfl, hb⟩
set_option maxHeartbeats 4000000 in
set_option maxRecDepth 100000 in
theorem prop_laid.four (k : Nat) (n : Int) (r1 : ByteArray) (r2 : Int) (w : World) (HLAID : Laid w) (h : vbi_Four.f k n = some (r1, r2)) :
    Calls Tryd.prog 42 #[.int .i64 3, .iface 3 (.int .i64 n)] w fun e w' => e = .returned (.tuple #[.string r1, .int .i64 r2]) ∧ Below w.heap.size w w' := by
  have t1 : ∀ W, (Instr.typeAssert (.iface 3 (.int .i64 n)) 20 3 false).run Tryd.prog W = .ok (.int .i64 n) W := fun W => by rfl
  go_enter Tryd.func42, Tryd.ntmps42
  go_wp2_with (go_at_call 57; (with_reducible refine (vbi_Four.calls k n r1 r2 _ h).mono ?_); rintro e w1 ⟨rfl, hb⟩)
  go_ret2
  exact ⟨rfl, hb⟩
set_option maxHeartbeats 4000000 in
set_option maxRecDepth 100000 in
theorem prop_laid.numb (k : Nat) (n : Int) (r1 : ByteArray) (r2 : Int) (w : World) (HLAID : Laid w) (h : vbi_Num.f k n = some (r1, r2)) :
    Calls Tryd.prog 42 #[.int .i64 4, .iface 3 (.int .i64 n)] w fun e w' => e = .returned (.tuple #[.string r1, .int .i64 r2]) ∧ Below w.heap.size w w' := by
  have t1 : ∀ W, (Instr.typeAssert (.iface 3 (.int .i64 n)) 20 3 false).run Tryd.prog W = .ok (.int .i64 n) W := fun W => by rfl
  go_enter Tryd.func42, Tryd.ntmps42
  go_wp2_with (go_at_call 29; (with_reducible refine (vbi_Num.calls k n r1 r2 _ h).mono ?_); rintro e w1 ⟨rfl, hb⟩)
  go_ret2
  exact ⟨rfl, hb⟩
set_option maxHeartbeats 4000000 in
set_option maxRecDepth 100000 in
theorem prop_laid.bin (k : Nat) (s : ByteArray) (r1 : ByteArray) (r2 : Int) (w : World) (HLAID : Laid w) (h : vbi_Bin.f k s = some (r1, r2)) :
    Calls Tryd.prog 42 #[.int .i64 6, .iface 9 (.string s)] w fun e w' => e = .returned (.tuple #[.string r1, .int .i64 r2]) ∧ Below w.heap.size w w' := by
  have t1 : ∀ W, (Instr.typeAssert (.iface 9 (.string s)) 20 9 false).run Tryd.prog W = .ok (.string s) W := fun W => by rfl
  go_enter Tryd.func42, Tryd.ntmps42
  go_wp2_with (go_at_call 58; (with_reducible refine (vbi_Bin.calls k s r1 r2 _ h).mono ?_); rintro e w1 ⟨rfl, hb⟩)
  go_ret2
  exact ⟨rfl, hb⟩
set_option maxHeartbeats 4000000 in
set_option maxRecDepth 100000 in
theorem prop_laid.text (k : Nat) (s : ByteArray) (r1 : ByteArray) (r2 : Int) (w : World) (HLAID : Laid w) (h : vbi_Text.f k s = some (r1, r2)) :
    Calls Tryd.prog 42 #[.int .i64 5, .iface 9 (.string s)] w fun e w' => e = .returned (.tuple #[.string r1, .int .i64 r2]) ∧ Below w.heap.size w w' := by
  have t1 : ∀ W, (Instr.typeAssert (.iface 9 (.string s)) 20 9 false).run Tryd.prog W = .ok (.string s) W := fun W => by rfl
  go_enter Tryd.func42, Tryd.ntmps42
  go_wp2_with (go_at_call 59; (with_reducible refine (vbi_Text.calls k s r1 r2 _ HLAID h).mono ?_); rintro e w1 ⟨rfl, hb⟩)
  go_ret2
  exact ⟨rfl, hb⟩
set_option maxHeartbeats 4000000 in
set_option maxRecDepth 100000 in
theorem prop_laid.flag (k : Nat) (n : Int) (r1 : ByteArray) (r2 : Int) (w : World) (HLAID : Laid w) (h : prop_within.f n 255 = some r2 ∧ r1 = strOfNums [n % 256]) :
    Calls Tryd.prog 42 #[.int .i64 1, .iface 3 (.int .i64 n)] w fun e w' => e = .returned (.tuple #[.string r1, .int .i64 r2]) ∧ Below w.heap.size w w' := by
  obtain ⟨h, rfl⟩ := h
  have t1 : ∀ W, (Instr.typeAssert (.iface 3 (.int .i64 n)) 20 3 false).run Tryd.prog W = .ok (.int .i64 n) W := fun W => by rfl
  go_enter Tryd.func42, Tryd.ntmps42
  go_wp2
  have hcv : ∀ W : World, W.heap = (w.alloc (.cells #[.int .u8 (IntKind.u8.wrap n)] 5)).heap → (convert 58 9 (.slice (some ⟨w.heap.size, 0, none⟩) 1 1)).run Tryd.prog W = .ok (.string (strOfNums [n % 256])) W := fun W hW => conv1 w W n hW
  have hcv1 := hcv ((w.alloc (.cells #[.int .u8 (IntKind.u8.wrap n)] 5)).drew) rfl
  have hcv2 := fun m => hcv ((w.alloc (.cells #[.int .u8 (IntKind.u8.wrap n)] 5)).drew.drewN m) rfl
  have hcv3 := fun m => hcv (((w.drew.drewN m).alloc (.cells #[.int .u8 (IntKind.u8.wrap n)] 5))) rfl
  have hcv4 := fun m => hcv (((w.alloc (.cells #[.int .u8 (IntKind.u8.wrap n)] 5)).drewN m)) rfl
  have hcv5 := fun m => hcv (((w.drewN m).alloc (.cells #[.int .u8 (IntKind.u8.wrap n)] 5))) rfl
  clear hcv
  go_region_with (go_at_call 55; (with_reducible refine (prop_within.calls n 255 r2 _ h).mono ?_); rintro e w' ⟨rfl, ⟨nd, rfl⟩⟩)
  all_goals go_wp2
  all_goals go_ret2
  all_goals exact ⟨rfl, by repeat (first | exact Below.refl _ _ | apply below_drew1 | apply pw_below_drewN | apply below_alloc)⟩
set_option maxHeartbeats 4000000 in
set_option maxRecDepth 100000 in
theorem prop_laid.both (k : Nat) (a b s1 s2 : ByteArray) (e1 e2 : Int) (a0 : Int) (r1 : ByteArray) (r2 : Int) (w : World) (HLAID : Laid w) (h : vbi_Text.f k a = some (s1, e1) ∧ vbi_Text.f k b = some (s2, e2) ∧ s1.size + s2.size ≤ 9223372036854775807 ∧ r1 = s1 ++ s2 ∧ r2 = mx e1 e2 ∧ ¬ (1 ≤ a0 ∧ a0 ≤ 6)) :
    Calls Tryd.prog 42 #[.int .i64 a0, .iface 87 (.agg #[.string a, .string b])] w fun e w' => e = .returned (.tuple #[.string r1, .int .i64 r2]) ∧ Below w.heap.size w w' := by
  obtain ⟨h1, h2, h3, rfl, rfl, h4⟩ := h
  have b1 : ((a0 : Int) == 1) = false := by simp; omega
  have b2 : ((a0 : Int) == 2) = false := by simp; omega
  have b3 : ((a0 : Int) == 3) = false := by simp; omega
  have b4 : ((a0 : Int) == 4) = false := by simp; omega
  have b5 : ((a0 : Int) == 5) = false := by simp; omega
  have b6 : ((a0 : Int) == 6) = false := by simp; omega
  clear h4
  have t3 : ∀ W, (Instr.typeAssert (.iface 87 (.agg #[.string a, .string b])) 20 87 false).run Tryd.prog W = .ok (.agg #[.string a, .string b]) W := fun W => by rfl
  have hsz : decide (s1.size + s2.size ≤ 9223372036854775807) = true := by simpa using h3
  have H1 := Aside0.mk h1
  have H2 := Aside0.mk h2
  clear h1 h2
  have HB := Aside0.mk (Below.refl w.heap.size w)
  by_cases hlt : e1 < e2
  all_goals
   go_enter Tryd.func42, Tryd.ntmps42
   go_wp2_with (first
    | (go_at_call 59; (with_reducible refine (vbi_Text.calls k a s1 e1 _ ?hl H1.out).mono ?_); (case hl => exact HLAID.below zz1); rintro e w1 ⟨rfl, hb1⟩; have hc1 := bcell hb1; have n0_ := Aside0.mk (below_step zz1 hb1); clear HB; have HB := n0_; clear n0_)
    | (go_at_call 59; (with_reducible refine (vbi_Text.calls k b s2 e2 _ ?hl H2.out).mono ?_); (case hl => exact HLAID.below zz1); rintro e w2 ⟨rfl, hb2⟩; have n0_ := Aside0.mk (below_step zz1 hb2); clear HB; have HB := n0_; clear n0_))
   go_ret2
   exact ⟨by first | (rw [show mx e1 e2 = e2 from if_pos hlt]; rfl) | (rw [show mx e1 e2 = e1 from if_neg (by omega)]; rfl), zz1⟩
theorem prop_laid.calls (k : Nat) (a0 : Int) (a1 : AnyV) (r1 : ByteArray) (r2 : Int) (w : World) (HLAID : Laid w) (h : prop_laid.f k a0 a1 = some (r1, r2)) :
    Calls Tryd.prog 42 #[.int .i64 a0, anyW a1] w fun e w' => e = .returned (.tuple #[.string r1, .int .i64 r2]) ∧ Below w.heap.size w w' := by
  cases a1 with
  | no => cases h
  | num n =>
    simp only [prop_laid.f] at h; by_cases c1 : a0 = 1
    · subst c1
      rw [if_pos rfl] at h; obtain ⟨e, he, h⟩ := Option.bind_eq_some_iff.1 h; simp only [Option.some.injEq, Prod.mk.injEq] at h; obtain ⟨rfl, rfl⟩ := h; exact prop_laid.flag k n _ e w HLAID ⟨he, rfl⟩
    · rw [if_neg c1] at h
      by_cases c2 : a0 = 2
      · subst c2
        exact prop_laid.two k n r1 r2 w HLAID h
      · rw [if_neg c2] at h
        by_cases c3 : a0 = 3
        · subst c3
          exact prop_laid.four k n r1 r2 w HLAID h
        · rw [if_neg c3] at h
          by_cases c4 : a0 = 4
          · subst c4
            exact prop_laid.numb k n r1 r2 w HLAID h
          · rw [if_neg c4] at h
            cases h
  | str s =>
    simp only [prop_laid.f] at h; by_cases c6 : a0 = 6
    · subst c6
      exact prop_laid.bin k s r1 r2 w HLAID h
    · rw [if_neg c6] at h
      by_cases c5 : a0 = 5
      · subst c5
        exact prop_laid.text k s r1 r2 w HLAID h
      · rw [if_neg c5] at h
        cases h
  | two a b =>
    simp only [prop_laid.f] at h; by_cases c : 1 ≤ a0 ∧ a0 ≤ 6
    · rw [if_pos c] at h
      cases h
    · rw [if_neg c] at h
      obtain ⟨⟨s1, e1⟩, h1, h⟩ := Option.bind_eq_some_iff.1 h; obtain ⟨⟨s2, e2⟩, h2, h⟩ := Option.bind_eq_some_iff.1 h; by_cases hs : s1.size + s2.size ≤ 9223372036854775807
      · simp only [if_pos hs, Option.some.injEq, Prod.mk.injEq] at h
        obtain ⟨rfl, rfl⟩ := h; exact prop_laid.both k a b s1 s2 e1 e2 a0 _ _ w HLAID ⟨h1, h2, hs, rfl, rfl, c⟩
      · simp only [if_neg hs] at h
        cases h
end Go.Proofs.YtiancopplinpcaaDoor.P
end
section
namespace Go.Proofs.YtiancopplinpcaaDoor.P
open Go.RowKit Go.Proofs.YtiancopplinpcaaDoorW.PrintWords Go.Proofs.YtiancopplinpcaaDoorW.PrintLast Go.Proofs.YtiancopplinpcaaDoorW.PrintMore
attribute [local go_sem] max2_int min2_int max_two min_two max_three min_three max_four min_four
set_option linter.unusedVariables false
set_option linter.unusedSimpArgs false
mutual
def prop_lay.j0 : Nat → Int → List (S42) → Bool → Option (ByteArray × Bool)
  | 0, _, _, _ => none
  | k + 1, x0, x1, x28 => if x28 = true then (some ((⟨#[]⟩ : ByteArray), false)) else (prop_lay.l0 k x0 x1 (⟨#[]⟩ : ByteArray) x1 (x1.length : Int) 0)
def prop_lay.l0 : Nat → Int → List (S42) → ByteArray → List (S42) → Int → Int → Option (ByteArray × Bool)
  | 0, _, _, _, _, _, _ => none
  | k + 1, x0, x1, x8, x29, x30, x31 => if x31 < x30 then (if 0 ≤ x31 then (if x31 < (x29.length : Int) then ((prop_value.f k ((rd_T42 x29 x31).f0) ((rd_T42 x29 x31).f1) ((rd_T42 x29 x31).f2) ((rd_T42 x29 x31).f3)).bind fun bt160 => (if bt160.2 = true then (if x31 ≤ (x1.length : Int) then ((prop_fits.f k x0 (x1.take (x31 : Int).toNat) ((rd_T42 x29 x31).f0) ((rd_T42 x29 x31).f1) ((rd_T42 x29 x31).f2) ((rd_T42 x29 x31).f3)).bind fun t166 => (prop_lay.j2 k x0 x1 x8 bt160.1 x29 x30 x31 (!t166) ((rd_T42 x29 x31).f0) ((rd_T42 x29 x31).f1) ((rd_T42 x29 x31).f2) ((rd_T42 x29 x31).f3))) else (none)) else (prop_lay.j2 k x0 x1 x8 bt160.1 x29 x30 x31 true ((rd_T42 x29 x31).f0) ((rd_T42 x29 x31).f1) ((rd_T42 x29 x31).f2) ((rd_T42 x29 x31).f3)))) else (none)) else (none)) else (some (x8, true))
def prop_lay.j2 : Nat → Int → List (S42) → ByteArray → AnyV → List (S42) → Int → Int → Bool → Int → Int → ByteArray → ByteArray → Option (ByteArray × Bool)
  | 0, _, _, _, _, _, _, _, _, _, _, _, _ => none
  | k + 1, x0, x1, x8, x11, x29, x30, x31, x51, x160000, x160001, x160002, x160003 => if x51 = true then (some ((⟨#[]⟩ : ByteArray), false)) else ((prop_Kind.f k x160000).bind fun bt167 => ((prop_laid.f k bt167.1 x11).bind fun bt169 => (if bt169.2 = 0 then ((some (([(x160000) % 256] : List Int) : List Int)).bind fun y171 => (if (strOfNums y171).size + bt169.1.size ≤ 9223372036854775807 then (if x8.size + ((strOfNums y171) ++ bt169.1).size ≤ 9223372036854775807 then (prop_lay.l0 k x0 x1 (x8 ++ ((strOfNums y171) ++ bt169.1)) x29 x30 (wrap64 (x31 + 1))) else (none)) else (none))) else (some ((⟨#[]⟩ : ByteArray), false)))))
end
def prop_lay.f (k : Nat) (a0 : Int) (l1 : List (S42)) : Option (ByteArray × Bool) := (prop_stands.f k a0).bind fun bt154 => (if bt154.2 = true then (prop_lay.j0 k a0 l1 (decide ((l1.length : Int) > 8))) else (prop_lay.j0 k a0 l1 true))
theorem prop_lay.mono_l : ∀ k, (∀ y0 y1 y2, LeO (prop_lay.j0 k y0 y1 y2) (prop_lay.j0 (k + 1) y0 y1 y2)) ∧ (∀ y0 y1 y2 y3 y4 y5, LeO (prop_lay.l0 k y0 y1 y2 y3 y4 y5) (prop_lay.l0 (k + 1) y0 y1 y2 y3 y4 y5)) ∧ (∀ y0 y1 y2 y3 y4 y5 y6 y7 y8 y9 y10 y11, LeO (prop_lay.j2 k y0 y1 y2 y3 y4 y5 y6 y7 y8 y9 y10 y11) (prop_lay.j2 (k + 1) y0 y1 y2 y3 y4 y5 y6 y7 y8 y9 y10 y11))
 | 0 => ⟨fun _ _ _ r h => by simp [prop_lay.j0] at h, fun _ _ _ _ _ _ r h => by simp [prop_lay.l0] at h, fun _ _ _ _ _ _ _ _ _ _ _ _ r h => by simp [prop_lay.j2] at h⟩
 | k + 1 => by
  obtain ⟨ih0, ih1, ih2⟩ := prop_lay.mono_l k; refine ⟨?_, ?_, ?_⟩ <;> intros
  all_goals first | unfold prop_lay.j0 | unfold prop_lay.l0 | unfold prop_lay.j2
  all_goals repeat' first
   | (with_reducible exact ih0 _ _ _)
   | (with_reducible exact ih1 _ _ _ _ _ _)
   | (with_reducible exact ih2 _ _ _ _ _ _ _ _ _ _ _ _)
   | (with_reducible exact prop_Kind.mono _ _)
   | (with_reducible exact prop_fits.mono _ _ _ _ _ _ _)
   | (with_reducible exact prop_laid.mono _ _ _)
   | (with_reducible exact prop_stands.mono _ _)
   | (with_reducible exact prop_value.mono _ _ _ _ _)
   | (with_reducible exact LeO.refl _)
   | (with_reducible exact LeO.none _)
   | (with_reducible refine LeO.ite ?_ ?_)
   | (with_reducible refine LeO.bind ?_ (fun _ => ?_))
   | exact ih0 _ _ _
   | exact ih1 _ _ _ _ _ _
   | exact ih2 _ _ _ _ _ _ _ _ _ _ _ _
   | exact prop_Kind.mono _ _
   | exact prop_fits.mono _ _ _ _ _ _ _
   | exact prop_laid.mono _ _ _
   | exact prop_stands.mono _ _
   | exact prop_value.mono _ _ _ _ _
   | exact LeO.none _
   | refine LeO.ite ?_ ?_
   | refine LeO.bind ?_ (fun _ => ?_)
theorem prop_lay.mono : ∀ a0 a1 k, LeO (prop_lay.f k a0 a1) (prop_lay.f (k + 1) a0 a1) := by
 intro a0 a1 k
 obtain ⟨ih0, ih1, ih2⟩ := prop_lay.mono_l k; unfold prop_lay.f; repeat' first
   | (with_reducible exact ih0 _ _ _)
   | (with_reducible exact ih1 _ _ _ _ _ _)
   | (with_reducible exact ih2 _ _ _ _ _ _ _ _ _ _ _ _)
   | (with_reducible exact prop_Kind.mono _ _)
   | (with_reducible exact prop_fits.mono _ _ _ _ _ _ _)
   | (with_reducible exact prop_laid.mono _ _ _)
   | (with_reducible exact prop_stands.mono _ _)
   | (with_reducible exact prop_value.mono _ _ _ _ _)
   | (with_reducible exact LeO.refl _)
   | (with_reducible exact LeO.none _)
   | (with_reducible refine LeO.ite ?_ ?_)
   | (with_reducible refine LeO.bind ?_ (fun _ => ?_))
   | exact ih0 _ _ _
   | exact ih1 _ _ _ _ _ _
   | exact ih2 _ _ _ _ _ _ _ _ _ _ _ _
   | exact prop_Kind.mono _ _
   | exact prop_fits.mono _ _ _ _ _ _ _
   | exact prop_laid.mono _ _ _
   | exact prop_stands.mono _ _
   | exact prop_value.mono _ _ _ _ _
   | exact LeO.none _
   | refine LeO.ite ?_ ?_
   | refine LeO.bind ?_ (fun _ => ?_)
def prop_lay.T9 : Bool × List (List Nat × List Nat) := (true, [([], []), ([0], [0]), ([1], [1]), ([2], [2]), ([2], [2]), ([2], [2]), ([4, 5, 2], [2, 4, 5]), ([2], [2]), ([3, 6, 7, 2, 2], [2, 3, 6, 7]), ([8, 2], [2, 8]), ([2, 9], [2, 9])])
def prop_lay.B9 : List Nat := [0, 1, 3, 7, 7, 7, 55, 7, 255, 511, 1023]
theorem prop_lay.tab9 : rtab .any (opsOf Tryd.f28 9) = prop_lay.T9 := by kernel_rfl
theorem prop_lay.bits9 : waitsOk prop_lay.T9.2 prop_lay.B9 = true := by kernel_rfl
set_option maxHeartbeats 8000000 in
set_option maxRecDepth 100000 in
theorem prop_lay.calls (k : Nat) (a0 : Int) (A1 : Option Addr) (c1 : Nat) (l1 : List (S42)) (r1 : ByteArray) (r2 : Bool) (w : World) (hr1 : Kd.C k42 w A1 l1.length l1) (hc1 : l1.length ≤ c1) (HLAID : Laid w) (h : prop_lay.f k a0 l1 = some (r1, r2)) :
  Calls Tryd.prog 28 #[.int .i64 a0, .slice A1 l1.length c1] w fun e w' => e = .returned (.tuple #[.string r1, .bool r2]) ∧ Below w.heap.size w w' := by
 have hu42 := Tryd.underlying42; have HR1 := Aside0.mk hr1; have HC1 := Aside0.mk hc1; clear hr1 hc1; have HB := Aside0.mk (Below.refl w.heap.size w); have H : ((prop_stands.f k a0).bind fun bt154 => (if bt154.2 = true then (prop_lay.j0 k a0 l1 (decide ((l1.length : Int) > 8))) else (prop_lay.j0 k a0 l1 true))) = some (r1, r2) := h; clear h; replace H := Option.bind_eq_some_iff.mp H; obtain ⟨⟨t154, t155⟩, A30, H⟩ := H; replace H : (if t155 = true then (prop_lay.j0 k a0 l1 (decide ((l1.length : Int) > 8))) else (prop_lay.j0 k a0 l1 true)) = some (r1, r2) := H; have A3 := Aside0.mk A30; clear A30; have HC4 := Aside0.mk H; clear H; go_enter Tryd.func28, Tryd.ntmps28
 go_upto_region 2 with (first | ((with_reducible refine gate_callee (f := 35) rfl ?_); refine goesL_ (some 19) rfl rfl Tryd.func35 zz26 rfl #[.int .i64 a0] rfl zz11 ?_; (with_reducible refine (prop_stands.calls k a0 t154 t155 _ A3.out).mono ?_); rintro e w5 ⟨v156, rfl, ho0, hb⟩; refine ⟨_, rfl, ?_⟩; have n0_ := Aside0.mk (Kd.R_lower ho0 (below_size zz12)); have n1_ := Aside0.mk (below_step zz12 hb); clear HB; have HO157 := n0_; have HB := n1_; clear n0_ n1_; (try clear hb); (try clear hb2); (try clear hk); (try clear hi); (try clear ho0)))
 (try simp only [Act.put, List.setIfInBounds_toArray, List.set_cons_zero, List.set_cons_succ])
 go_cut [28] (fun v28 wc => ∃ (kq : Nat) (x28_3 : Bool), v28 = .bool x28_3 ∧ Aside0 (prop_lay.j0 kq a0 l1 x28_3 = some (r1, r2)) ∧ Aside0 (kq ≤ k) ∧ Aside0 (Below w.heap.size w wc))
 case first =>
  have H := HC4.out; clear HC4; by_cases c6 : t155 = true
  ·
   subst c6; have H1 : (prop_lay.j0 k a0 l1 (decide ((l1.length : Int) > 8))) = some (r1, r2) := by rw [if_pos rfl] at H; exact H
   clear H; have H := H1; clear H1; have H' := Aside0.mk H; clear H; go_wp2
   go_meet
   case rel => exact ⟨_, (decide ((l1.length : Int) > 8)), zz24, H', ⟨zz25⟩, ⟨zz12⟩⟩
  replace c6 := Bool.eq_false_iff.mpr c6; subst c6; have H1 : (prop_lay.j0 k a0 l1 true) = some (r1, r2) := by rw [if_neg (show ¬ (false = true) by decide)] at H; exact H
  clear H; have H := H1; clear H1; have H' := Aside0.mk H; clear H; go_wp2
  go_meet
  case rel => exact ⟨_, (true), zz24, H', ⟨zz25⟩, ⟨zz12⟩⟩
 case rest =>
  as_aux_lemma =>
   clear HC4; (try clear c1); (try clear c2); (try clear p2); (try clear c3); (try clear c6); obtain ⟨kq, x28_3, rfl, HA, HJ3, HB⟩ := hcut; cases kq with
   | zero => exact absurd HA.out (by simp [prop_lay.j0])
   | succ kj3 =>
    have H := HA.out; clear HA; simp only [prop_lay.j0] at H; by_cases c7 : x28_3 = true
    ·
     subst c7; have H1 : (some ((⟨#[]⟩ : ByteArray), false)) = some (r1, r2) := by rw [if_pos rfl] at H; exact H
     clear H; have H := H1; clear H1; simp only [Option.some.injEq, Prod.mk.injEq] at H; obtain ⟨rfl, rfl⟩ := H; go_wp2
     go_ret2
     exact ⟨zz20, zz12⟩
    replace c7 := Bool.eq_false_iff.mpr c7; subst c7; have H1 : (prop_lay.l0 kj3 a0 l1 (⟨#[]⟩ : ByteArray) l1 (l1.length : Int) 0) = some (r1, r2) := by rw [if_neg (show ¬ (false = true) by decide)] at H; exact H
    clear H; have H := H1; clear H1; have H' := Aside0.mk H; clear H; go_wp2
    go_loopg [8, 31] kj3 (fun kq v8 v31 w' => ∃ (x8_2 : ByteArray) (x31_2 : Int), v8 = .string x8_2 ∧ v31 = .int .i64 x31_2 ∧ Aside0 (prop_lay.l0 kq a0 l1 x8_2 l1 (l1.length : Int) x31_2 = some (r1, r2)) ∧ Aside0 (kq ≤ kj3) ∧ Aside0 (Below w.heap.size w w'))
    case atStart => exact ⟨((⟨#[]⟩ : ByteArray)), (0), zz24, zz24, H', ⟨Nat.le_refl _⟩, ⟨zz12⟩⟩
    case round =>
     as_aux_lemma =>
      clear H'; (try clear c1); (try clear c2); (try clear p2); (try clear c3); (try clear c6); (try clear c7); (try clear p2); obtain ⟨x8_2, x31_2, rfl, rfl, HA, HK2, HB⟩ := hrel; cases gk with
      | zero => exact absurd HA.out (by simp [prop_lay.l0])
      | succ k2 =>
       have H := HA.out; clear HA; simp only [prop_lay.l0] at H; by_cases c8 : x31_2 < (l1.length : Int)
       ·
        rw [if_pos c8] at H; have c8b0 : decide (x31_2 < (l1.length : Int)) = true := decide_eq_true c8; clear c8; by_cases c9 : 0 ≤ x31_2
        ·
         rw [if_pos c9] at H; have c9b0 : decide (0 ≤ x31_2) = true := decide_eq_true c9; clear c9; by_cases c10 : x31_2 < (l1.length : Int)
         ·
          rw [if_pos c10] at H; have c10b0 : decide (x31_2 < (l1.length : Int)) = true := decide_eq_true c10; clear c10; replace H := Option.bind_eq_some_iff.mp H; obtain ⟨⟨t160, t161⟩, A110, H⟩ := H; replace H : (if t161 = true then (if x31_2 ≤ (l1.length : Int) then ((prop_fits.f k2 a0 (l1.take (x31_2 : Int).toNat) ((rd_T42 l1 x31_2).f0) ((rd_T42 l1 x31_2).f1) ((rd_T42 l1 x31_2).f2) ((rd_T42 l1 x31_2).f3)).bind fun t166 => (prop_lay.j2 k2 a0 l1 x8_2 t160 l1 (l1.length : Int) x31_2 (!t166) ((rd_T42 l1 x31_2).f0) ((rd_T42 l1 x31_2).f1) ((rd_T42 l1 x31_2).f2) ((rd_T42 l1 x31_2).f3))) else (none)) else (prop_lay.j2 k2 a0 l1 x8_2 t160 l1 (l1.length : Int) x31_2 true ((rd_T42 l1 x31_2).f0) ((rd_T42 l1 x31_2).f1) ((rd_T42 l1 x31_2).f2) ((rd_T42 l1 x31_2).f3))) = some (r1, r2) := H; have A11 := Aside0.mk A110; clear A110; have HC12 := Aside0.mk H; clear H; have p158 : 0 ≤ (x31_2 : Int) := of_decide_eq_true zz23; have q158 : x31_2 < (l1.length : Int) := of_decide_eq_true zz23; obtain ⟨ad158, e158, hx158_0, hx158_1, hx158_2, hx158_3⟩ := at_T42 HR1.out x31_2 p158 q158; cases e158; replace hx158_0 := (HB.out.cell (World.block_lt_of_cell? w _ hx158_0)).trans hx158_0; replace hx158_1 := (HB.out.cell (World.block_lt_of_cell? w _ hx158_1)).trans hx158_1; replace hx158_2 := (HB.out.cell (World.block_lt_of_cell? w _ hx158_2)).trans hx158_2; replace hx158_3 := (HB.out.cell (World.block_lt_of_cell? w _ hx158_3)).trans hx158_3; replace p158 := eq_true p158; replace q158 := eq_true q158; go_upto_region 9 with (first | ((with_reducible refine gate_dst (N := 10) rfl ?_); (try (refine gate_guard (by rfl) ?_; dsimp only)); refine box_event ?hg (N := 10) ?hd (cs := #[.int .i64 0, .int .i64 0, .string (⟨#[]⟩ : ByteArray), .string (⟨#[]⟩ : ByteArray)]) (t := 42) ?hr ?_; (case hd => rfl); (case hg => rfl); (case hr => first | (go_simp; done) | (go_simp; rfl)); intro gb159 hg w13 hbox hb; have n0_ := Aside0.mk (below_step zz12 hb); have n1_ := Aside0.mk (hbox); have n2_ := Aside0.mk ((by rw [hg]; exact (below_size zz12) : w.heap.size ≤ gb159)); have n3_ := Aside0.mk ((by rw [hg]; exact (below_size zz12) : w.heap.size ≤ gb159)); clear HB; have HB := n0_; have BK159 := n1_; have GW159 := n2_; have GE159 := n3_; clear n0_ n1_ n2_ n3_; clear hb hbox hg; have hcz14_0 : w13.cell? ⟨gb159, 0, none⟩ = some (.int .i64 0) := (blk_cell BK159.out 0).trans rfl; have hcz14_1 : w13.cell? ⟨gb159, 1, none⟩ = some (.int .i64 0) := (blk_cell BK159.out 1).trans rfl; have hcz14_2 : w13.cell? ⟨gb159, 2, none⟩ = some (.string (⟨#[]⟩ : ByteArray)) := (blk_cell BK159.out 2).trans rfl; have hcz14_3 : w13.cell? ⟨gb159, 3, none⟩ = some (.string (⟨#[]⟩ : ByteArray)) := (blk_cell BK159.out 3).trans rfl; have hfz14_0 := blk_frozen BK159.out 0; have hfz14_1 := blk_frozen BK159.out 1; have hfz14_2 := blk_frozen BK159.out 2; have hfz14_3 := blk_frozen BK159.out 3) | ((with_reducible refine gate_callee (f := 41) rfl ?_); refine goesL_ (some 38) rfl rfl Tryd.func41 zz26 rfl #[.agg #[.int .i64 ((rd_T42 l1 x31_2).f0), .int .i64 ((rd_T42 l1 x31_2).f1), .string ((rd_T42 l1 x31_2).f2), .string ((rd_T42 l1 x31_2).f3)]] rfl zz11 ?_; (with_reducible refine (prop_value.calls k2 ((rd_T42 l1 x31_2).f0) ((rd_T42 l1 x31_2).f1) ((rd_T42 l1 x31_2).f2) ((rd_T42 l1 x31_2).f3) t160 t161 _ A11.out).mono ?_); rintro e w15 ⟨rfl, hb⟩; refine ⟨_, rfl, ?_⟩; have n0_ := Aside0.mk (blk_below (g := gb159) (o := .cells #[.int .i64 ((rd_T42 l1 x31_2).f0), .int .i64 ((rd_T42 l1 x31_2).f1), .string ((rd_T42 l1 x31_2).f2), .string ((rd_T42 l1 x31_2).f3)] 42 (0, 0)) (by (with_reducible repeat (first | refine blk_drewN ?_ _ | refine blk_drew ?_ | refine blk_alloc ?_ _)); refine blk_put (cs := #[.int .i64 ((rd_T42 l1 x31_2).f0), .int .i64 ((rd_T42 l1 x31_2).f1), .string ((rd_T42 l1 x31_2).f2), .string (⟨#[]⟩ : ByteArray)]) ?_ 3 _ rfl; (with_reducible repeat (first | refine blk_drewN ?_ _ | refine blk_drew ?_ | refine blk_alloc ?_ _)); refine blk_put (cs := #[.int .i64 ((rd_T42 l1 x31_2).f0), .int .i64 ((rd_T42 l1 x31_2).f1), .string (⟨#[]⟩ : ByteArray), .string (⟨#[]⟩ : ByteArray)]) ?_ 2 _ rfl; (with_reducible repeat (first | refine blk_drewN ?_ _ | refine blk_drew ?_ | refine blk_alloc ?_ _)); refine blk_put (cs := #[.int .i64 ((rd_T42 l1 x31_2).f0), .int .i64 0, .string (⟨#[]⟩ : ByteArray), .string (⟨#[]⟩ : ByteArray)]) ?_ 1 _ rfl; (with_reducible repeat (first | refine blk_drewN ?_ _ | refine blk_drew ?_ | refine blk_alloc ?_ _)); refine blk_put (cs := #[.int .i64 0, .int .i64 0, .string (⟨#[]⟩ : ByteArray), .string (⟨#[]⟩ : ByteArray)]) ?_ 0 _ rfl; (with_reducible repeat (first | refine blk_drewN ?_ _ | refine blk_drew ?_ | refine blk_alloc ?_ _)); exact BK159.out) hb); have n1_ := Aside0.mk (below_step zz7 hb); clear BK159; clear HB; have BK159 := n0_; have HB := n1_; clear n0_ n1_; (try clear hb); (try clear hb2); (try clear hk); (try clear hi)))
          (try simp only [Act.put, List.setIfInBounds_toArray, List.set_cons_zero, List.set_cons_succ])
          go_cut [51] (fun v51 wc => ∃ (kq : Nat) (x51_11 : Bool), v51 = .bool x51_11 ∧ Aside0 (prop_lay.j2 kq a0 l1 x8_2 t160 l1 (l1.length : Int) x31_2 x51_11 ((rd_T42 l1 x31_2).f0) ((rd_T42 l1 x31_2).f1) ((rd_T42 l1 x31_2).f2) ((rd_T42 l1 x31_2).f3) = some (r1, r2)) ∧ Aside0 (kq ≤ k2) ∧ Aside0 (wc.heap[gb159]? = some (.cells #[.int .i64 ((rd_T42 l1 x31_2).f0), .int .i64 ((rd_T42 l1 x31_2).f1), .string ((rd_T42 l1 x31_2).f2), .string ((rd_T42 l1 x31_2).f3)] 42 (0, 0))) ∧ Aside0 (Below w.heap.size w wc))
          case first =>
           have H := HC12.out; clear HC12; by_cases c16 : t161 = true
           ·
            subst c16; have H1 : (if x31_2 ≤ (l1.length : Int) then ((prop_fits.f k2 a0 (l1.take (x31_2 : Int).toNat) ((rd_T42 l1 x31_2).f0) ((rd_T42 l1 x31_2).f1) ((rd_T42 l1 x31_2).f2) ((rd_T42 l1 x31_2).f3)).bind fun t166 => (prop_lay.j2 k2 a0 l1 x8_2 t160 l1 (l1.length : Int) x31_2 (!t166) ((rd_T42 l1 x31_2).f0) ((rd_T42 l1 x31_2).f1) ((rd_T42 l1 x31_2).f2) ((rd_T42 l1 x31_2).f3))) else (none)) = some (r1, r2) := by rw [if_pos rfl] at H; exact H
            clear H; have H := H1; clear H1; have c17b0 := eq_true (of_decide_eq_true zz23 : 0 ≤ x31_2); by_cases c18 : x31_2 ≤ (l1.length : Int)
            ·
             rw [if_pos c18] at H; have c18b0 := eq_true c18; have c18b1 : decide (x31_2 ≤ (l1.length : Int)) = true := decide_eq_true c18; clear c18; obtain ⟨y162, hy162⟩ : ∃ y_ : List (S42), y_ = (l1.take (x31_2 : Int).toNat) := ⟨_, rfl⟩; replace H : ((prop_fits.f k2 a0 y162 ((rd_T42 l1 x31_2).f0) ((rd_T42 l1 x31_2).f1) ((rd_T42 l1 x31_2).f2) ((rd_T42 l1 x31_2).f3)).bind fun t166 => (prop_lay.j2 k2 a0 l1 x8_2 t160 l1 (l1.length : Int) x31_2 (!t166) ((rd_T42 l1 x31_2).f0) ((rd_T42 l1 x31_2).f1) ((rd_T42 l1 x31_2).f2) ((rd_T42 l1 x31_2).f3))) = some (r1, r2) := by first | (rw [hy162]; with_reducible exact H) | (have H2_ := (Option.bind_some _ _).symm.trans H; rw [hy162]; with_reducible exact H2_) | (have H2_ := (Option.bind_some _ _).symm.trans H; with_reducible exact H2_) | with_reducible exact H | (rw [hy162]; exact H) | exact H
             have Ny162 := Aside0.mk hy162; clear hy162; replace H := Option.bind_eq_some_iff.mp H; obtain ⟨t166, A190, H⟩ := H; replace H : (prop_lay.j2 k2 a0 l1 x8_2 t160 l1 (l1.length : Int) x31_2 (!t166) ((rd_T42 l1 x31_2).f0) ((rd_T42 l1 x31_2).f1) ((rd_T42 l1 x31_2).f2) ((rd_T42 l1 x31_2).f3)) = some (r1, r2) := H; have A19 := Aside0.mk A190; clear A190; have H' := Aside0.mk H; clear H; try go_wp2
             have n0_ := Aside0.mk (blk_drew BK159.out); have n1_ := Aside0.mk (below_drew1 HB.out); clear BK159; clear HB; have BK159 := n0_; have HB := n1_; clear n0_ n1_; have q21 : (x31_2 : Int) ≤ ((l1.length : Int) : Int) := of_decide_eq_true zz23; obtain ⟨i021, hi021, _, hsz21, _⟩ := info_parts info42; have hroom21 : l1.length ≤ c1 := HC1.out; have hC21 : Kd.C k42 _ (some ad158) l1.length l1 := HR1.out; have hcut21 := cut_to (P := Tryd.prog) 23 42 .i64 Tryd.underlying23 hi021 (some ad158) l1.length c1 x31_2 (of_decide_eq_true zz23) q21 hroom21; have hr21 := Kd.C_take (m := (x31_2 : Int).toNat) hC21 (by omega); have hy21 : y162.length = (x31_2 : Int).toNat := (by rw [Ny162.out, List.length_take]; omega); rw [← Ny162.out] at hr21; rw [← hy21] at hcut21; have HR165 := Aside0.mk hr21; have HC165 := Aside0.mk (show y162.length ≤ c1 from by omega); clear hr21 hC21 hroom21 hi021 hsz21; have KY21 := Aside0.mk hy21; clear hy21; replace q21 := eq_true q21; refine start_ (n := 11) (S := fun w' => w'.cell? ⟨gb159, 0, none⟩ = some (.int .i64 ((rd_T42 l1 x31_2).f0)) ∧ w'.cell? ⟨gb159, 1, none⟩ = some (.int .i64 ((rd_T42 l1 x31_2).f1)) ∧ w'.cell? ⟨gb159, 2, none⟩ = some (.string ((rd_T42 l1 x31_2).f2)) ∧ w'.cell? ⟨gb159, 3, none⟩ = some (.string ((rd_T42 l1 x31_2).f3))) (ds := []) #[false, false, false, false, false, false, false, false, false, false, false] zz26 rfl rfl ⟨(blk_cell BK159.out 0).trans rfl, (blk_cell BK159.out 1).trans rfl, (blk_cell BK159.out 2).trans rfl, (blk_cell BK159.out 3).trans rfl⟩ (fun hHeld => ?_); refine with_tabW prop_lay.tab9 prop_lay.bits9 (fun HT_ HW_ => ?_)
             generalize w15.drew = w20 at BK159 HB HR165 hHeld ⊢
             refine pure_ (i := 0) (N := some 41) (v := ?_) (a' := ?_) #[true, false, false, false, false, false, false, false, false, false, false] rfl rfl (any_of HT_.out zz26) (fun _ _ _ h => h) (Or.inl ⟨by rfl, ?_⟩) ?_ ?_
             rotate_left
             ·
              intro w'
              go_simp
              with_reducible rfl
             rotate_left
             ·
              simp only [Act.put, List.setIfInBounds_toArray, List.set_cons_zero, List.set_cons_succ, i64_w, i32_w]; rfl
             refine pure_ (i := 1) (N := some 42) (v := ?_) (a' := ?_) #[true, true, false, false, false, false, false, false, false, false, false] rfl rfl (any_of HT_.out zz26) (fun _ _ _ h => h) (Or.inl ⟨by rfl, ?_⟩) ?_ ?_
             rotate_left
             ·
              intro w'
              go_simp
              with_reducible rfl
             rotate_left
             ·
              simp only [Act.put, List.setIfInBounds_toArray, List.set_cons_zero, List.set_cons_succ, i64_w, i32_w]; rfl
             refine pure_ (i := 2) (N := some 43) (v := ?_) (a' := ?_) #[true, true, true, false, false, false, false, false, false, false, false] rfl rfl (any_of HT_.out zz26) (fun _ _ _ h => h) (Or.inl ⟨by rfl, ?_⟩) ?_ ?_
             rotate_left
             ·
              intro w'
              go_simp
              with_reducible rfl
             rotate_left
             ·
              simp only [Act.put, List.setIfInBounds_toArray, List.set_cons_zero, List.set_cons_succ, i64_w, i32_w]; rfl
             refine pure_ (i := 3) (N := some 44) (v := ?_) (a' := ?_) #[true, true, true, true, false, false, false, false, false, false, false] rfl rfl (any_of HT_.out zz26) (fun _ _ _ h => h) (Or.inl ⟨by rfl, ?_⟩) ?_ ?_
             rotate_left
             ·
              intro w'
              go_simp
              with_reducible rfl
             rotate_left
             ·
              simp only [Act.put, List.setIfInBounds_toArray, List.set_cons_zero, List.set_cons_succ, i64_w, i32_w]; rfl
             refine pure_ (i := 4) (N := some 45) (v := ?_) (a' := ?_) #[true, true, true, true, true, false, false, false, false, false, false] rfl rfl (any_of HT_.out zz26) (fun _ _ _ h => h) (Or.inl ⟨by rfl, ?_⟩) ?_ ?_
             rotate_left
             ·
              intro w'
              go_simp
              with_reducible rfl
             rotate_left
             ·
              simp only [Act.put, List.setIfInBounds_toArray, List.set_cons_zero, List.set_cons_succ, i64_w, i32_w]; rfl
             refine pure_ (i := 5) (N := some 46) (v := ?_) (a' := ?_) #[true, true, true, true, true, true, false, false, false, false, false] rfl rfl (any_of HT_.out zz26) (fun _ _ _ h => h) (Or.inl ⟨by rfl, ?_⟩) ?_ ?_
             rotate_left
             ·
              intro w'
              go_simp
              with_reducible rfl
             rotate_left
             ·
              simp only [Act.put, List.setIfInBounds_toArray, List.set_cons_zero, List.set_cons_succ, i64_w, i32_w]; rfl
             refine pure_ (i := 6) (N := some 47) (v := ?_) (a' := ?_) #[true, true, true, true, true, true, true, false, false, false, false] rfl rfl (any_of HT_.out zz26) (fun _ _ _ h => h) (Or.inl ⟨by rfl, ?_⟩) ?_ ?_
             rotate_left
             ·
              intro w'
              go_simp
              with_reducible rfl
             rotate_left
             ·
              simp only [Act.put, List.setIfInBounds_toArray, List.set_cons_zero, List.set_cons_succ, i64_w, i32_w]; rfl
             refine take_ (i := 7) (N := some 48) (v := ?_) (a' := ?_) #[true, true, true, true, true, true, true, true, false, false, false] rfl rfl (take_ofW HT_.out HW_.out zz26) (fun _ _ _ h => h) (Or.inl ⟨by rfl, ?_⟩) hHeld ?_ ?_
             rotate_left
             ·
              rintro w' ⟨s0, s1, s2, s3⟩
              go_simp
              with_reducible rfl
             rotate_left
             ·
              simp only [Act.put, List.setIfInBounds_toArray, List.set_cons_zero, List.set_cons_succ, i64_w, i32_w]; rfl
             refine one_ (i := 8) (N := some 49) #[true, true, true, true, true, true, true, true, true, false, false] rfl rfl (one_of HT_.out zz26) (by decide) (fun K hK => ?_)
             refine goes_ Tryd.func38 zz26 rfl #[.int .i64 a0, .slice (some ad158) y162.length c1, .agg #[.int .i64 ((rd_T42 l1 x31_2).f0), .int .i64 ((rd_T42 l1 x31_2).f1), .string ((rd_T42 l1 x31_2).f2), .string ((rd_T42 l1 x31_2).f3)]] (by rfl) rfl rfl zz11 ?_
             with_reducible refine (prop_fits.calls k2 a0 _ _ y162 ((rd_T42 l1 x31_2).f0) ((rd_T42 l1 x31_2).f1) ((rd_T42 l1 x31_2).f2) ((rd_T42 l1 x31_2).f3) t166 _ ?side1 ?side2 A19.out).mono ?_
             (case side1 => repeat (first | exact (Kd.C_below HR165.out HB.out) | (with_reducible refine Kd.C_alloc ?_ _) | (with_reducible refine Kd.C_drewN ?_ _) | (with_reducible refine Kd.C_drew ?_)))
             (case side2 => exact HC165.out)
             rintro e w22 ⟨rfl, hb⟩
             refine ⟨_, rfl, ?_⟩
             have n0_ := Aside0.mk (blk_below (g := gb159) (o := .cells #[.int .i64 ((rd_T42 l1 x31_2).f0), .int .i64 ((rd_T42 l1 x31_2).f1), .string ((rd_T42 l1 x31_2).f2), .string ((rd_T42 l1 x31_2).f3)] 42 (0, 0)) zz15 hb); have n1_ := Aside0.mk (below_step zz7 hb); clear BK159; clear HB; have BK159 := n0_; have HB := n1_; clear n0_ n1_; (try clear hb)
             (try clear hb2)
             (try clear hk)
             (try clear hi)
             refine hK.out _ _ ⟨(blk_cell BK159.out 0).trans rfl, (blk_cell BK159.out 1).trans rfl, (blk_cell BK159.out 2).trans rfl, (blk_cell BK159.out 3).trans rfl⟩ (fun hHeld => ?_)
             clear hK K; refine norm_ (a' := ?_) ?_ ?_
             rotate_left
             ·
              show Act.put _ (some 49) _ = _
              simp only [Act.put, List.setIfInBounds_toArray, List.set_cons_zero, List.set_cons_succ, i64_w, i32_w]; rfl
             refine pure_ (i := 9) (N := some 50) (v := ?_) (a' := ?_) #[true, true, true, true, true, true, true, true, true, true, false] rfl rfl (any_of HT_.out zz26) (fun _ _ _ h => h) (Or.inl ⟨by rfl, ?_⟩) ?_ ?_
             rotate_left
             ·
              intro w'
              go_simp
              with_reducible rfl
             rotate_left
             ·
              simp only [Act.put, List.setIfInBounds_toArray, List.set_cons_zero, List.set_cons_succ, i64_w, i32_w]; rfl
             refine pure_ (i := 10) (N := some 51) (v := ?_) (a' := ?_) #[true, true, true, true, true, true, true, true, true, true, true] rfl rfl (any_of HT_.out zz26) (fun _ _ _ h => h) (Or.inl ⟨by rfl, ?_⟩) ?_ ?_
             rotate_left
             ·
              intro w'
              go_simp
              with_reducible rfl
             rotate_left
             ·
              simp only [Act.put, List.setIfInBounds_toArray, List.set_cons_zero, List.set_cons_succ, i64_w, i32_w]; rfl
             refine done_ (done_of HT_.out zz26) ?_
             try go_wp2
             go_meet
             case rel => exact ⟨_, (!t166), zz24, H', ⟨by have := HJ3.out; have := HK2.out; first | omega | exact Nat.le_refl _⟩, ⟨zz15⟩, ⟨zz7⟩⟩
            rw [if_neg c18] at H; exact absurd H (by simp)
           replace c16 := Bool.eq_false_iff.mpr c16; subst c16; have H1 : (prop_lay.j2 k2 a0 l1 x8_2 t160 l1 (l1.length : Int) x31_2 true ((rd_T42 l1 x31_2).f0) ((rd_T42 l1 x31_2).f1) ((rd_T42 l1 x31_2).f2) ((rd_T42 l1 x31_2).f3)) = some (r1, r2) := by rw [if_neg (show ¬ (false = true) by decide)] at H; exact H
           clear H; have H := H1; clear H1; have H' := Aside0.mk H; clear H; try go_wp2
           have n0_ := Aside0.mk (blk_drew BK159.out); have n1_ := Aside0.mk (below_drew1 HB.out); clear BK159; clear HB; have BK159 := n0_; have HB := n1_; clear n0_ n1_; refine start_ (n := 11) (S := fun w' => True) (ds := []) #[false, false, false, false, false, false, false, false, false, false, false] zz26 rfl rfl trivial (fun hHeld => ?_); refine with_tabW prop_lay.tab9 prop_lay.bits9 (fun HT_ HW_ => ?_)
           generalize w15.drew = w23 at BK159 HB hHeld ⊢
           refine pure_ (i := 0) (N := some 41) (v := ?_) (a' := ?_) #[true, false, false, false, false, false, false, false, false, false, false] rfl rfl (any_of HT_.out zz26) (fun _ _ _ h => h) (Or.inl ⟨by rfl, ?_⟩) ?_ ?_
           rotate_left
           ·
            intro w'
            go_simp
            with_reducible rfl
           rotate_left
           ·
            simp only [Act.put, List.setIfInBounds_toArray, List.set_cons_zero, List.set_cons_succ, i64_w, i32_w]; rfl
           refine pure_ (i := 1) (N := some 42) (v := ?_) (a' := ?_) #[true, true, false, false, false, false, false, false, false, false, false] rfl rfl (any_of HT_.out zz26) (fun _ _ _ h => h) (Or.inl ⟨by rfl, ?_⟩) ?_ ?_
           rotate_left
           ·
            intro w'
            go_simp
            with_reducible rfl
           rotate_left
           ·
            simp only [Act.put, List.setIfInBounds_toArray, List.set_cons_zero, List.set_cons_succ, i64_w, i32_w]; rfl
           refine pure_ (i := 2) (N := some 43) (v := ?_) (a' := ?_) #[true, true, true, false, false, false, false, false, false, false, false] rfl rfl (any_of HT_.out zz26) (fun _ _ _ h => h) (Or.inl ⟨by rfl, ?_⟩) ?_ ?_
           rotate_left
           ·
            intro w'
            go_simp
            with_reducible rfl
           rotate_left
           ·
            simp only [Act.put, List.setIfInBounds_toArray, List.set_cons_zero, List.set_cons_succ, i64_w, i32_w]; rfl
           refine pure_ (i := 3) (N := some 44) (v := undef) (a' := ?_) #[true, true, true, true, false, false, false, false, false, false, false] rfl rfl (any_of HT_.out zz26) (fun _ _ _ h => h) (Or.inr ⟨by rfl, rfl⟩) ?_ ?_
           rotate_left
           ·
            simp only [Act.put, List.setIfInBounds_toArray, List.set_cons_zero, List.set_cons_succ, i64_w, i32_w]; rfl
           refine pure_ (i := 4) (N := some 45) (v := undef) (a' := ?_) #[true, true, true, true, true, false, false, false, false, false, false] rfl rfl (any_of HT_.out zz26) (fun _ _ _ h => h) (Or.inr ⟨by rfl, rfl⟩) ?_ ?_
           rotate_left
           ·
            simp only [Act.put, List.setIfInBounds_toArray, List.set_cons_zero, List.set_cons_succ, i64_w, i32_w]; rfl
           refine pure_ (i := 5) (N := some 46) (v := undef) (a' := ?_) #[true, true, true, true, true, true, false, false, false, false, false] rfl rfl (any_of HT_.out zz26) (fun _ _ _ h => h) (Or.inr ⟨by rfl, rfl⟩) ?_ ?_
           rotate_left
           ·
            simp only [Act.put, List.setIfInBounds_toArray, List.set_cons_zero, List.set_cons_succ, i64_w, i32_w]; rfl
           refine pure_ (i := 6) (N := some 47) (v := undef) (a' := ?_) #[true, true, true, true, true, true, true, false, false, false, false] rfl rfl (any_of HT_.out zz26) (fun _ _ _ h => h) (Or.inr ⟨by rfl, rfl⟩) ?_ ?_
           rotate_left
           ·
            simp only [Act.put, List.setIfInBounds_toArray, List.set_cons_zero, List.set_cons_succ, i64_w, i32_w]; rfl
           refine pure_ (i := 7) (N := some 48) (v := undef) (a' := ?_) #[true, true, true, true, true, true, true, true, false, false, false] rfl rfl (any_of HT_.out zz26) (fun _ _ _ h => h) (Or.inr ⟨by rfl, rfl⟩) ?_ ?_
           rotate_left
           ·
            simp only [Act.put, List.setIfInBounds_toArray, List.set_cons_zero, List.set_cons_succ, i64_w, i32_w]; rfl
           refine pure_ (i := 8) (N := some 49) (v := undef) (a' := ?_) #[true, true, true, true, true, true, true, true, true, false, false] rfl rfl (any_of HT_.out zz26) (fun _ _ _ h => h) (Or.inr ⟨by rfl, rfl⟩) ?_ ?_
           rotate_left
           ·
            simp only [Act.put, List.setIfInBounds_toArray, List.set_cons_zero, List.set_cons_succ, i64_w, i32_w]; rfl
           refine pure_ (i := 9) (N := some 50) (v := undef) (a' := ?_) #[true, true, true, true, true, true, true, true, true, true, false] rfl rfl (any_of HT_.out zz26) (fun _ _ _ h => h) (Or.inr ⟨by rfl, rfl⟩) ?_ ?_
           rotate_left
           ·
            simp only [Act.put, List.setIfInBounds_toArray, List.set_cons_zero, List.set_cons_succ, i64_w, i32_w]; rfl
           refine pure_ (i := 10) (N := some 51) (v := ?_) (a' := ?_) #[true, true, true, true, true, true, true, true, true, true, true] rfl rfl (any_of HT_.out zz26) (fun _ _ _ h => h) (Or.inl ⟨by rfl, ?_⟩) ?_ ?_
           rotate_left
           ·
            intro w'
            go_simp
            with_reducible rfl
           rotate_left
           ·
            simp only [Act.put, List.setIfInBounds_toArray, List.set_cons_zero, List.set_cons_succ, i64_w, i32_w]; rfl
           refine done_ (done_of HT_.out zz26) ?_
           try go_wp2
           go_meet
           case rel => exact ⟨_, (true), zz24, H', ⟨by have := HJ3.out; have := HK2.out; first | omega | exact Nat.le_refl _⟩, ⟨zz15⟩, ⟨zz7⟩⟩
          case rest =>
           as_aux_lemma =>
            clear HC12; (try clear c1); (try clear p1); (try clear q1); (try clear hx1); (try clear c2); (try clear p2); (try clear q2); (try clear c3); (try clear c4); (try clear c6); (try clear c7); (try clear c8); (try clear c8b0); (try clear c9); (try clear c9b0); (try clear c10); (try clear c10b0); (try clear p15); (try clear q15); (try clear hx15); (try clear c16); (try clear c17); (try clear c17b0); (try clear c18); (try clear c18b0); (try clear c18b1); (try clear q21); (try clear hcz14_0); (try clear hcz14_1); (try clear hcz14_2); (try clear hcz14_3); (try clear hfz14_0); (try clear hfz14_1); (try clear hfz14_2); (try clear hfz14_3); (try clear hx158_0); (try clear hx158_1); (try clear hx158_2); (try clear hx158_3); (try clear p158); (try clear p2); (try clear q158); (try clear q21); obtain ⟨kq, x51_11, rfl, HA, HJ11, BK159, HB⟩ := hcut; cases kq with
            | zero => exact absurd HA.out (by simp [prop_lay.j2])
            | succ kj11 =>
             have H := HA.out; clear HA; simp only [prop_lay.j2] at H; by_cases c24 : x51_11 = true
             ·
              subst c24; have H1 : (some ((⟨#[]⟩ : ByteArray), false)) = some (r1, r2) := by rw [if_pos rfl] at H; exact H
              clear H; have H := H1; clear H1; simp only [Option.some.injEq, Prod.mk.injEq] at H; obtain ⟨rfl, rfl⟩ := H; go_wp2
              go_ret2
              exact ⟨zz20, zz7⟩
             replace c24 := Bool.eq_false_iff.mpr c24; subst c24; have H1 : ((prop_Kind.f kj11 ((rd_T42 l1 x31_2).f0)).bind fun bt167 => ((prop_laid.f kj11 bt167.1 t160).bind fun bt169 => (if bt169.2 = 0 then ((some (([(((rd_T42 l1 x31_2).f0)) % 256] : List Int) : List Int)).bind fun y171 => (if (strOfNums y171).size + bt169.1.size ≤ 9223372036854775807 then (if x8_2.size + ((strOfNums y171) ++ bt169.1).size ≤ 9223372036854775807 then (prop_lay.l0 kj11 a0 l1 (x8_2 ++ ((strOfNums y171) ++ bt169.1)) l1 (l1.length : Int) (wrap64 (x31_2 + 1))) else (none)) else (none))) else (some ((⟨#[]⟩ : ByteArray), false))))) = some (r1, r2) := by rw [if_neg (show ¬ (false = true) by decide)] at H; exact H
             clear H; have H := H1; clear H1; replace H := Option.bind_eq_some_iff.mp H; obtain ⟨⟨t167, t168⟩, A250, H⟩ := H; replace H : ((prop_laid.f kj11 t167 t160).bind fun bt169 => (if bt169.2 = 0 then ((some (([(((rd_T42 l1 x31_2).f0)) % 256] : List Int) : List Int)).bind fun y171 => (if (strOfNums y171).size + bt169.1.size ≤ 9223372036854775807 then (if x8_2.size + ((strOfNums y171) ++ bt169.1).size ≤ 9223372036854775807 then (prop_lay.l0 kj11 a0 l1 (x8_2 ++ ((strOfNums y171) ++ bt169.1)) l1 (l1.length : Int) (wrap64 (x31_2 + 1))) else (none)) else (none))) else (some ((⟨#[]⟩ : ByteArray), false)))) = some (r1, r2) := H; have A25 := Aside0.mk A250; clear A250; replace H := Option.bind_eq_some_iff.mp H; obtain ⟨⟨t169, t170⟩, A260, H⟩ := H; replace H : (if t170 = 0 then ((some (([(((rd_T42 l1 x31_2).f0)) % 256] : List Int) : List Int)).bind fun y171 => (if (strOfNums y171).size + t169.size ≤ 9223372036854775807 then (if x8_2.size + ((strOfNums y171) ++ t169).size ≤ 9223372036854775807 then (prop_lay.l0 kj11 a0 l1 (x8_2 ++ ((strOfNums y171) ++ t169)) l1 (l1.length : Int) (wrap64 (x31_2 + 1))) else (none)) else (none))) else (some ((⟨#[]⟩ : ByteArray), false))) = some (r1, r2) := H; have A26 := Aside0.mk A260; clear A260; by_cases c27 : t170 = 0
             ·
              rw [if_pos c27] at H; have c27b0 : (t170 == 0) = true := beq_iff_eq.mpr c27; have c27b1 : (t170 != 0) = false := bne_eq_false_iff_eq.mpr c27; clear c27; obtain ⟨y171, hy171⟩ : ∃ y_ : List Int, y_ = (([(((rd_T42 l1 x31_2).f0)) % 256] : List Int)) := ⟨_, rfl⟩; replace H : (if (strOfNums y171).size + t169.size ≤ 9223372036854775807 then (if x8_2.size + ((strOfNums y171) ++ t169).size ≤ 9223372036854775807 then (prop_lay.l0 kj11 a0 l1 (x8_2 ++ ((strOfNums y171) ++ t169)) l1 (l1.length : Int) (wrap64 (x31_2 + 1))) else (none)) else (none)) = some (r1, r2) := by first | (rw [hy171]; with_reducible exact H) | (have H2_ := (Option.bind_some _ _).symm.trans H; rw [hy171]; with_reducible exact H2_) | (have H2_ := (Option.bind_some _ _).symm.trans H; with_reducible exact H2_) | with_reducible exact H | (rw [hy171]; exact H) | exact H
              have Ny171 := Aside0.mk hy171; clear hy171; by_cases c28 : (strOfNums y171).size + t169.size ≤ 9223372036854775807
              ·
               rw [if_pos c28] at H; have c28b0 := eq_true c28; have c28b1 : decide ((strOfNums y171).size + t169.size ≤ 9223372036854775807) = true := decide_eq_true c28; try have c28b2 : (9223372036854775807 < (strOfNums y171).size + t169.size) = False := eq_false (Nat.not_lt.2 c28)
               by_cases c29 : x8_2.size + ((strOfNums y171) ++ t169).size ≤ 9223372036854775807
               ·
                rw [if_pos c29] at H; have c29b0 := eq_true c29; have c29b1 : decide (x8_2.size + ((strOfNums y171) ++ t169).size ≤ 9223372036854775807) = true := decide_eq_true c29; try have c29b2 : (9223372036854775807 < x8_2.size + ((strOfNums y171) ++ t169).size) = False := eq_false (Nat.not_lt.2 c29)
                (try (have c29b2_ := c29b2; simp only [ByteArray.size_append] at c29b2_))
                have H' := Aside0.mk H; clear H; have hcz30_0 : wc.cell? ⟨gb159, 0, none⟩ = some (.int .i64 ((rd_T42 l1 x31_2).f0)) := (blk_cell BK159.out 0).trans rfl; have hcz30_1 : wc.cell? ⟨gb159, 1, none⟩ = some (.int .i64 ((rd_T42 l1 x31_2).f1)) := (blk_cell BK159.out 1).trans rfl; have hcz30_2 : wc.cell? ⟨gb159, 2, none⟩ = some (.string ((rd_T42 l1 x31_2).f2)) := (blk_cell BK159.out 2).trans rfl; have hcz30_3 : wc.cell? ⟨gb159, 3, none⟩ = some (.string ((rd_T42 l1 x31_2).f3)) := (blk_cell BK159.out 3).trans rfl; have hfz30_0 := blk_frozen BK159.out 0; have hfz30_1 := blk_frozen BK159.out 1; have hfz30_2 := blk_frozen BK159.out 2; have hfz30_3 := blk_frozen BK159.out 3; go_wp2_with (first | ((with_reducible refine gate_callee (f := 11) rfl ?_); refine goesL_ (some 55) rfl rfl Tryd.func11 zz26 rfl #[.int .i64 ((rd_T42 l1 x31_2).f0)] rfl zz11 ?_; (with_reducible refine (prop_Kind.calls kj11 ((rd_T42 l1 x31_2).f0) t167 t168 _ A25.out).mono ?_); rintro e w' ⟨rfl, ⟨nd, rfl⟩⟩; refine ⟨_, rfl, ?_⟩) | ((with_reducible refine gate_callee (f := 42) rfl ?_); refine goesL_ (some 61) rfl rfl Tryd.func42 zz26 rfl #[.int .i64 t167, anyW t160] rfl zz11 ?_; (with_reducible refine (prop_laid.calls kj11 t167 t160 t169 t170 _ zz3 A26.out).mono ?_); rintro e w31 ⟨rfl, hb⟩; refine ⟨_, rfl, ?_⟩; have n0_ := Aside0.mk (blk_below (g := gb159) (o := .cells #[.int .i64 ((rd_T42 l1 x31_2).f0), .int .i64 ((rd_T42 l1 x31_2).f1), .string ((rd_T42 l1 x31_2).f2), .string ((rd_T42 l1 x31_2).f3)] 42 (0, 0)) zz15 hb); have n1_ := Aside0.mk (below_step zz7 hb); clear BK159; clear HB; have BK159 := n0_; have HB := n1_; clear n0_ n1_; (try clear hb); (try clear hb2); (try clear hk); (try clear hi); have hcz32_0 : w31.cell? ⟨gb159, 0, none⟩ = some (.int .i64 ((rd_T42 l1 x31_2).f0)) := (blk_cell BK159.out 0).trans rfl; have hcz32_1 : w31.cell? ⟨gb159, 1, none⟩ = some (.int .i64 ((rd_T42 l1 x31_2).f1)) := (blk_cell BK159.out 1).trans rfl; have hcz32_2 : w31.cell? ⟨gb159, 2, none⟩ = some (.string ((rd_T42 l1 x31_2).f2)) := (blk_cell BK159.out 2).trans rfl; have hcz32_3 : w31.cell? ⟨gb159, 3, none⟩ = some (.string ((rd_T42 l1 x31_2).f3)) := (blk_cell BK159.out 3).trans rfl; have hfz32_0 := blk_frozen BK159.out 0; have hfz32_1 := blk_frozen BK159.out 1; have hfz32_2 := blk_frozen BK159.out 2; have hfz32_3 := blk_frozen BK159.out 3) | ((with_reducible refine gate_dst (N := 70) rfl ?_); (try (refine gate_guard (by rfl) ?_; dsimp only)); refine Kd.R_lit (Kd.int .u8) _ 5 ?hg (N := 70) ?hd (xs := ([(((rd_T42 l1 x31_2).f0)) % 256] : List Int)) (inner := [.int .u8 ((((rd_T42 l1 x31_2).f0)) % 256)]) (ok := fun _ => True) (okp := fun _ => True) ?hr ?hp (fun _ hk => hk) trivial (Below.refl _ _) (Nat.le_refl _) (by simp) ?_; (case hd => rfl); (case hg => rfl); (case hr => first | (go_simp; done) | (go_simp; rfl)); (case hp => exact (Reps.one (show Kd.M (Kd.int .u8) _ _ _ ((((rd_T42 l1 x31_2).f0)) % 256) [.int .u8 ((((rd_T42 l1 x31_2).f0)) % 256)] from rfl) (Reps.none _ _))); intro v172 w33 ho34 hb hg_ hnew_; clear hg_ hnew_; (first | rw [← Ny171.out] at ho34 | (simp only [Int.reduceToNat] at ho34; rw [← Ny171.out] at ho34)); have n0_ := Aside0.mk (Kd.R_lower ho34 (below_size zz7)); have n1_ := Aside0.mk (blk_below (g := gb159) (o := .cells #[.int .i64 ((rd_T42 l1 x31_2).f0), .int .i64 ((rd_T42 l1 x31_2).f1), .string ((rd_T42 l1 x31_2).f2), .string ((rd_T42 l1 x31_2).f3)] 42 (0, 0)) zz15 hb); have n2_ := Aside0.mk (below_step zz7 hb); clear BK159; clear HB; have HO173 := n0_; have BK159 := n1_; have HB := n2_; clear n0_ n1_ n2_; clear hb ho34; have hcv35 := own_string (P := Tryd.prog) Tryd.underlying58 Tryd.underlying5 Tryd.underlying9 (Kd.own_of_R HO173.out)))
                go_roundg kj11
                case measure => have := HJ3.out; have := HK2.out; have := HJ11.out; omega
                case rel => exact ⟨(x8_2 ++ ((strOfNums y171) ++ t169)), (wrap64 (x31_2 + 1)), zz24, zz24, H', ⟨by have := HJ3.out; have := HK2.out; have := HJ11.out; omega⟩, ⟨zz7⟩⟩
               rw [if_neg c29] at H; exact absurd H (by simp)
              rw [if_neg c28] at H; exact absurd H (by simp)
             rw [if_neg c27] at H; have c27b0 : (t170 == 0) = false := beq_eq_false_iff_ne.mpr c27; have c27b1 : (t170 != 0) = true := bne_iff_ne.mpr c27; simp only [Option.some.injEq, Prod.mk.injEq] at H; obtain ⟨rfl, rfl⟩ := H; have hcz36_0 : wc.cell? ⟨gb159, 0, none⟩ = some (.int .i64 ((rd_T42 l1 x31_2).f0)) := (blk_cell BK159.out 0).trans rfl; have hcz36_1 : wc.cell? ⟨gb159, 1, none⟩ = some (.int .i64 ((rd_T42 l1 x31_2).f1)) := (blk_cell BK159.out 1).trans rfl; have hcz36_2 : wc.cell? ⟨gb159, 2, none⟩ = some (.string ((rd_T42 l1 x31_2).f2)) := (blk_cell BK159.out 2).trans rfl; have hcz36_3 : wc.cell? ⟨gb159, 3, none⟩ = some (.string ((rd_T42 l1 x31_2).f3)) := (blk_cell BK159.out 3).trans rfl; have hfz36_0 := blk_frozen BK159.out 0; have hfz36_1 := blk_frozen BK159.out 1; have hfz36_2 := blk_frozen BK159.out 2; have hfz36_3 := blk_frozen BK159.out 3; go_wp2_with (first | ((with_reducible refine gate_callee (f := 11) rfl ?_); refine goesL_ (some 55) rfl rfl Tryd.func11 zz26 rfl #[.int .i64 ((rd_T42 l1 x31_2).f0)] rfl zz11 ?_; (with_reducible refine (prop_Kind.calls kj11 ((rd_T42 l1 x31_2).f0) t167 t168 _ A25.out).mono ?_); rintro e w' ⟨rfl, ⟨nd, rfl⟩⟩; refine ⟨_, rfl, ?_⟩) | ((with_reducible refine gate_callee (f := 42) rfl ?_); refine goesL_ (some 61) rfl rfl Tryd.func42 zz26 rfl #[.int .i64 t167, anyW t160] rfl zz11 ?_; (with_reducible refine (prop_laid.calls kj11 t167 t160 t169 t170 _ zz3 A26.out).mono ?_); rintro e w37 ⟨rfl, hb⟩; refine ⟨_, rfl, ?_⟩; have n0_ := Aside0.mk (blk_below (g := gb159) (o := .cells #[.int .i64 ((rd_T42 l1 x31_2).f0), .int .i64 ((rd_T42 l1 x31_2).f1), .string ((rd_T42 l1 x31_2).f2), .string ((rd_T42 l1 x31_2).f3)] 42 (0, 0)) zz15 hb); have n1_ := Aside0.mk (below_step zz7 hb); clear BK159; clear HB; have BK159 := n0_; have HB := n1_; clear n0_ n1_; (try clear hb); (try clear hb2); (try clear hk); (try clear hi)))
             go_ret2
             exact ⟨zz20, zz7⟩
         rw [if_neg c10] at H; exact absurd H (by simp)
        rw [if_neg c9] at H; exact absurd H (by simp)
       rw [if_neg c8] at H; have c8b0 : decide (x31_2 < (l1.length : Int)) = false := decide_eq_false c8; clear c8; simp only [Option.some.injEq, Prod.mk.injEq] at H; obtain ⟨rfl, rfl⟩ := H; go_wp2
       go_ret2
       exact ⟨zz20, zz12⟩
def prop_Bytes.f (k : Nat) (a0 : Int) (l1 : List (S42)) : Option (ByteArray × Int) := (prop_lay.f k a0 l1).bind fun bt174 => (if bt174.2 = true then ((vbi_Num.f k (bt174.1.size : Int)).bind fun bt176 => (if bt176.1.size + bt174.1.size ≤ 9223372036854775807 then (some (bt176.1 ++ bt174.1, 0)) else (none))) else (some ((⟨#[]⟩ : ByteArray), 1)))
theorem prop_Bytes.mono : ∀ a0 a1 k, LeO (prop_Bytes.f k a0 a1) (prop_Bytes.f (k + 1) a0 a1) := by
 intro a0 a1 k
 unfold prop_Bytes.f; repeat' first
   | (with_reducible exact prop_lay.mono _ _ _)
   | (with_reducible exact vbi_Num.mono _ _)
   | (with_reducible exact LeO.refl _)
   | (with_reducible exact LeO.none _)
   | (with_reducible refine LeO.ite ?_ ?_)
   | (with_reducible refine LeO.bind ?_ (fun _ => ?_))
   | exact prop_lay.mono _ _ _
   | exact vbi_Num.mono _ _
   | exact LeO.none _
   | refine LeO.ite ?_ ?_
   | refine LeO.bind ?_ (fun _ => ?_)
set_option maxHeartbeats 8000000 in
set_option maxRecDepth 100000 in
theorem prop_Bytes.calls (k : Nat) (a0 : Int) (A1 : Option Addr) (c1 : Nat) (l1 : List (S42)) (r1 : ByteArray) (r2 : Int) (w : World) (hr1 : Kd.C k42 w A1 l1.length l1) (hc1 : l1.length ≤ c1) (HLAID : Laid w) (h : prop_Bytes.f k a0 l1 = some (r1, r2)) :
  Calls Tryd.prog 17 #[.int .i64 a0, .slice A1 l1.length c1] w fun e w' => e = .returned (.tuple #[.string r1, .int .i64 r2]) ∧ Below w.heap.size w w' := by
 have HR1 := Aside0.mk hr1; have HC1 := Aside0.mk hc1; clear hr1 hc1; have HB := Aside0.mk (Below.refl w.heap.size w); have H : ((prop_lay.f k a0 l1).bind fun bt174 => (if bt174.2 = true then ((vbi_Num.f k (bt174.1.size : Int)).bind fun bt176 => (if bt176.1.size + bt174.1.size ≤ 9223372036854775807 then (some (bt176.1 ++ bt174.1, 0)) else (none))) else (some ((⟨#[]⟩ : ByteArray), 1)))) = some (r1, r2) := h; clear h; replace H := Option.bind_eq_some_iff.mp H; obtain ⟨⟨t174, t175⟩, A30, H⟩ := H; replace H : (if t175 = true then ((vbi_Num.f k (t174.size : Int)).bind fun bt176 => (if bt176.1.size + t174.size ≤ 9223372036854775807 then (some (bt176.1 ++ t174, 0)) else (none))) else (some ((⟨#[]⟩ : ByteArray), 1))) = some (r1, r2) := H; have A3 := Aside0.mk A30; clear A30; by_cases c4 : t175 = true
 ·
  subst c4; have H1 : ((vbi_Num.f k (t174.size : Int)).bind fun bt176 => (if bt176.1.size + t174.size ≤ 9223372036854775807 then (some (bt176.1 ++ t174, 0)) else (none))) = some (r1, r2) := by rw [if_pos rfl] at H; exact H
  clear H; have H := H1; clear H1; replace H := Option.bind_eq_some_iff.mp H; obtain ⟨⟨t176, t177⟩, A50, H⟩ := H; replace H : (if t176.size + t174.size ≤ 9223372036854775807 then (some (t176 ++ t174, 0)) else (none)) = some (r1, r2) := H; have A5 := Aside0.mk A50; clear A50; by_cases c6 : t176.size + t174.size ≤ 9223372036854775807
  ·
   rw [if_pos c6] at H; have c6b0 := eq_true c6; have c6b1 : decide (t176.size + t174.size ≤ 9223372036854775807) = true := decide_eq_true c6; try have c6b2 : (9223372036854775807 < t176.size + t174.size) = False := eq_false (Nat.not_lt.2 c6)
   simp only [Option.some.injEq, Prod.mk.injEq] at H; obtain ⟨rfl, rfl⟩ := H; go_enter Tryd.func17, Tryd.ntmps17
   go_wp2_with (first | ((with_reducible refine gate_callee (f := 28) rfl ?_); refine goesL_ (some 13) rfl rfl Tryd.func28 zz26 rfl #[.int .i64 a0, .slice A1 l1.length c1] rfl zz11 ?_; (with_reducible refine (prop_lay.calls k a0 _ _ l1 t174 true _ ?side1 ?side2 zz3 A3.out).mono ?_); (case side1 => repeat (first | exact HR1.out | (with_reducible refine Kd.C_alloc ?_ _) | (with_reducible refine Kd.C_drewN ?_ _) | (with_reducible refine Kd.C_drew ?_))); (case side2 => exact HC1.out); rintro e w7 ⟨rfl, hb⟩; refine ⟨_, rfl, ?_⟩; have n0_ := Aside0.mk (below_step zz12 hb); clear HB; have HB := n0_; clear n0_; (try clear hb); (try clear hb2); (try clear hk); (try clear hi)) | ((with_reducible refine gate_callee (f := 29) rfl ?_); refine goesL_ (some 21) rfl rfl Tryd.func29 zz26 rfl #[.int .i64 (t174.size : Int)] rfl zz11 ?_; (with_reducible refine (vbi_Num.calls k (t174.size : Int) t176 t177 _ A5.out).mono ?_); rintro e w8 ⟨rfl, hb⟩; refine ⟨_, rfl, ?_⟩; have n0_ := Aside0.mk (below_step zz12 hb); clear HB; have HB := n0_; clear n0_; (try clear hb); (try clear hb2); (try clear hk); (try clear hi)))
   go_ret2
   exact ⟨zz20, zz12⟩
  rw [if_neg c6] at H; exact absurd H (by simp)
 replace c4 := Bool.eq_false_iff.mpr c4; subst c4; have H1 : (some ((⟨#[]⟩ : ByteArray), 1)) = some (r1, r2) := by rw [if_neg (show ¬ (false = true) by decide)] at H; exact H
 clear H; have H := H1; clear H1; simp only [Option.some.injEq, Prod.mk.injEq] at H; obtain ⟨rfl, rfl⟩ := H; go_enter Tryd.func17, Tryd.ntmps17
 go_wp2_with (first | ((with_reducible refine gate_callee (f := 28) rfl ?_); refine goesL_ (some 13) rfl rfl Tryd.func28 zz26 rfl #[.int .i64 a0, .slice A1 l1.length c1] rfl zz11 ?_; (with_reducible refine (prop_lay.calls k a0 _ _ l1 t174 false _ ?side1 ?side2 zz3 A3.out).mono ?_); (case side1 => repeat (first | exact HR1.out | (with_reducible refine Kd.C_alloc ?_ _) | (with_reducible refine Kd.C_drewN ?_ _) | (with_reducible refine Kd.C_drew ?_))); (case side2 => exact HC1.out); rintro e w9 ⟨rfl, hb⟩; refine ⟨_, rfl, ?_⟩; have n0_ := Aside0.mk (below_step zz12 hb); clear HB; have HB := n0_; clear n0_; (try clear hb); (try clear hb2); (try clear hk); (try clear hi)))
 go_ret2
 exact ⟨zz20, zz12⟩
def fairwaylaw4_wakes.f (k : Nat)  : Option (Bool) := (prop_Bytes.f k 0 ([] : List (S42))).bind fun bt178 => ((prop_Kind.f k 38).bind fun bt180 => ((fairwaylaw4_num.f bt178.2).bind fun t182 => (if t182 = 0 then (if bt178.1.toList = ([0] : List UInt8) then ((fairwaylaw4_num.f bt180.2).bind fun t183 => (if t183 = 0 then (some (bt180.1 == 7)) else (some false))) else (some false)) else (some false))))
theorem fairwaylaw4_wakes.mono : ∀ k, LeO (fairwaylaw4_wakes.f k ) (fairwaylaw4_wakes.f (k + 1) ) := by
 intro  k
 unfold fairwaylaw4_wakes.f; repeat' first
   | (with_reducible exact prop_Bytes.mono _ _ _)
   | (with_reducible exact prop_Kind.mono _ _)
   | (with_reducible exact LeO.refl _)
   | (with_reducible exact LeO.none _)
   | (with_reducible refine LeO.ite ?_ ?_)
   | (with_reducible refine LeO.bind ?_ (fun _ => ?_))
   | exact prop_Bytes.mono _ _ _
   | exact prop_Kind.mono _ _
   | exact LeO.none _
   | refine LeO.ite ?_ ?_
   | refine LeO.bind ?_ (fun _ => ?_)
set_option maxHeartbeats 8000000 in
set_option maxRecDepth 100000 in
theorem fairwaylaw4_wakes.calls (k : Nat)  (r : Bool) (w : World) (HLAID : Laid w) (h : fairwaylaw4_wakes.f k  = some r) :
  Calls Tryd.prog 14 #[] w fun e w' => e = .returned (.bool r) ∧ Below w.heap.size w w' := by
 have HB := Aside0.mk (Below.refl w.heap.size w); have H : ((prop_Bytes.f k 0 ([] : List (S42))).bind fun bt178 => ((prop_Kind.f k 38).bind fun bt180 => ((fairwaylaw4_num.f bt178.2).bind fun t182 => (if t182 = 0 then (if bt178.1.toList = ([0] : List UInt8) then ((fairwaylaw4_num.f bt180.2).bind fun t183 => (if t183 = 0 then (some (bt180.1 == 7)) else (some false))) else (some false)) else (some false))))) = some r := h; clear h; replace H := Option.bind_eq_some_iff.mp H; obtain ⟨⟨t178, t179⟩, A10, H⟩ := H; replace H : ((prop_Kind.f k 38).bind fun bt180 => ((fairwaylaw4_num.f t179).bind fun t182 => (if t182 = 0 then (if t178.toList = ([0] : List UInt8) then ((fairwaylaw4_num.f bt180.2).bind fun t183 => (if t183 = 0 then (some (bt180.1 == 7)) else (some false))) else (some false)) else (some false)))) = some r := H; have A1 := Aside0.mk A10; clear A10; replace H := Option.bind_eq_some_iff.mp H; obtain ⟨⟨t180, t181⟩, A20, H⟩ := H; replace H : ((fairwaylaw4_num.f t179).bind fun t182 => (if t182 = 0 then (if t178.toList = ([0] : List UInt8) then ((fairwaylaw4_num.f t181).bind fun t183 => (if t183 = 0 then (some (t180 == 7)) else (some false))) else (some false)) else (some false))) = some r := H; have A2 := Aside0.mk A20; clear A20; replace H := Option.bind_eq_some_iff.mp H; obtain ⟨t182, A30, H⟩ := H; replace H : (if t182 = 0 then (if t178.toList = ([0] : List UInt8) then ((fairwaylaw4_num.f t181).bind fun t183 => (if t183 = 0 then (some (t180 == 7)) else (some false))) else (some false)) else (some false)) = some r := H; have A3 := Aside0.mk A30; clear A30; by_cases c4 : t182 = 0
 ·
  rw [if_pos c4] at H; have c4b0 : (t182 == 0) = true := beq_iff_eq.mpr c4; have c4b1 : (t182 != 0) = false := bne_eq_false_iff_eq.mpr c4; clear c4; by_cases c5 : t178.toList = ([0] : List UInt8)
  ·
   rw [if_pos c5] at H; have c5b0 : (t178.toList == ([0] : List UInt8)) = true := beq_iff_eq.mpr c5; have c5b1 : (t178.toList != ([0] : List UInt8)) = false := bne_eq_false_iff_eq.mpr c5; clear c5; replace H := Option.bind_eq_some_iff.mp H; obtain ⟨t183, A60, H⟩ := H; replace H : (if t183 = 0 then (some (t180 == 7)) else (some false)) = some r := H; have A6 := Aside0.mk A60; clear A60; by_cases c7 : t183 = 0
   ·
    rw [if_pos c7] at H; have c7b0 : (t183 == 0) = true := beq_iff_eq.mpr c7; have c7b1 : (t183 != 0) = false := bne_eq_false_iff_eq.mpr c7; clear c7; obtain rfl := Option.some.inj H; go_enter Tryd.func14, Tryd.ntmps14
    go_wp2_with (first | ((with_reducible refine gate_callee (f := 17) rfl ?_); refine goesL_ (some 6) rfl rfl Tryd.func17 zz26 rfl #[.int .i64 0, .slice none 0 0] rfl zz11 ?_; (refine (prop_Bytes.calls k 0 _ _ ([] : List (S42)) t178 t179 _ ?side1 ?side2 zz3 A1.out).mono ?_); (case side1 => exact Kd.C_nil _ _); (case side2 => exact Nat.le_refl _); rintro e w8 ⟨rfl, hb⟩; refine ⟨_, rfl, ?_⟩; have n0_ := Aside0.mk (below_step zz12 hb); clear HB; have HB := n0_; clear n0_; (try clear hb); (try clear hb2); (try clear hk); (try clear hi)) | ((with_reducible refine gate_callee (f := 11) rfl ?_); refine goesL_ (some 10) rfl rfl Tryd.func11 zz26 rfl #[.int .i64 38] rfl zz11 ?_; (with_reducible refine (prop_Kind.calls k 38 t180 t181 _ A2.out).mono ?_); rintro e w' ⟨rfl, ⟨nd, rfl⟩⟩; refine ⟨_, rfl, ?_⟩) | ((with_reducible refine gate_callee (f := 13) rfl ?_); refine goesL_ (some 14) rfl rfl Tryd.func13 zz26 rfl #[.int .i64 t179] rfl zz11 ?_; (with_reducible refine (fairwaylaw4_num.calls t179 t182 _ A3.out).mono ?_); rintro e w' ⟨rfl, ⟨nd, rfl⟩⟩; refine ⟨_, rfl, ?_⟩) | (go_at_call 13; (with_reducible refine (fairwaylaw4_num.calls t181 t183 _ A6.out).mono ?_); rintro e w' ⟨rfl, ⟨nd, rfl⟩⟩))
    go_ret
    exact ⟨zz20, zz12⟩
   rw [if_neg c7] at H; have c7b0 : (t183 == 0) = false := beq_eq_false_iff_ne.mpr c7; have c7b1 : (t183 != 0) = true := bne_iff_ne.mpr c7; obtain rfl := Option.some.inj H; go_enter Tryd.func14, Tryd.ntmps14
   go_wp2_with (first | ((with_reducible refine gate_callee (f := 17) rfl ?_); refine goesL_ (some 6) rfl rfl Tryd.func17 zz26 rfl #[.int .i64 0, .slice none 0 0] rfl zz11 ?_; (refine (prop_Bytes.calls k 0 _ _ ([] : List (S42)) t178 t179 _ ?side1 ?side2 zz3 A1.out).mono ?_); (case side1 => exact Kd.C_nil _ _); (case side2 => exact Nat.le_refl _); rintro e w9 ⟨rfl, hb⟩; refine ⟨_, rfl, ?_⟩; have n0_ := Aside0.mk (below_step zz12 hb); clear HB; have HB := n0_; clear n0_; (try clear hb); (try clear hb2); (try clear hk); (try clear hi)) | ((with_reducible refine gate_callee (f := 11) rfl ?_); refine goesL_ (some 10) rfl rfl Tryd.func11 zz26 rfl #[.int .i64 38] rfl zz11 ?_; (with_reducible refine (prop_Kind.calls k 38 t180 t181 _ A2.out).mono ?_); rintro e w' ⟨rfl, ⟨nd, rfl⟩⟩; refine ⟨_, rfl, ?_⟩) | ((with_reducible refine gate_callee (f := 13) rfl ?_); refine goesL_ (some 14) rfl rfl Tryd.func13 zz26 rfl #[.int .i64 t179] rfl zz11 ?_; (with_reducible refine (fairwaylaw4_num.calls t179 t182 _ A3.out).mono ?_); rintro e w' ⟨rfl, ⟨nd, rfl⟩⟩; refine ⟨_, rfl, ?_⟩) | (go_at_call 13; (with_reducible refine (fairwaylaw4_num.calls t181 t183 _ A6.out).mono ?_); rintro e w' ⟨rfl, ⟨nd, rfl⟩⟩))
   go_ret
   exact ⟨zz20, zz12⟩
  rw [if_neg c5] at H; have c5b0 : (t178.toList == ([0] : List UInt8)) = false := beq_eq_false_iff_ne.mpr c5; have c5b1 : (t178.toList != ([0] : List UInt8)) = true := bne_iff_ne.mpr c5; obtain rfl := Option.some.inj H; go_enter Tryd.func14, Tryd.ntmps14
  go_wp2_with (first | ((with_reducible refine gate_callee (f := 17) rfl ?_); refine goesL_ (some 6) rfl rfl Tryd.func17 zz26 rfl #[.int .i64 0, .slice none 0 0] rfl zz11 ?_; (refine (prop_Bytes.calls k 0 _ _ ([] : List (S42)) t178 t179 _ ?side1 ?side2 zz3 A1.out).mono ?_); (case side1 => exact Kd.C_nil _ _); (case side2 => exact Nat.le_refl _); rintro e w10 ⟨rfl, hb⟩; refine ⟨_, rfl, ?_⟩; have n0_ := Aside0.mk (below_step zz12 hb); clear HB; have HB := n0_; clear n0_; (try clear hb); (try clear hb2); (try clear hk); (try clear hi)) | ((with_reducible refine gate_callee (f := 11) rfl ?_); refine goesL_ (some 10) rfl rfl Tryd.func11 zz26 rfl #[.int .i64 38] rfl zz11 ?_; (with_reducible refine (prop_Kind.calls k 38 t180 t181 _ A2.out).mono ?_); rintro e w' ⟨rfl, ⟨nd, rfl⟩⟩; refine ⟨_, rfl, ?_⟩) | ((with_reducible refine gate_callee (f := 13) rfl ?_); refine goesL_ (some 14) rfl rfl Tryd.func13 zz26 rfl #[.int .i64 t179] rfl zz11 ?_; (with_reducible refine (fairwaylaw4_num.calls t179 t182 _ A3.out).mono ?_); rintro e w' ⟨rfl, ⟨nd, rfl⟩⟩; refine ⟨_, rfl, ?_⟩))
  go_ret
  exact ⟨zz20, zz12⟩
 rw [if_neg c4] at H; have c4b0 : (t182 == 0) = false := beq_eq_false_iff_ne.mpr c4; have c4b1 : (t182 != 0) = true := bne_iff_ne.mpr c4; obtain rfl := Option.some.inj H; go_enter Tryd.func14, Tryd.ntmps14
 go_wp2_with (first | ((with_reducible refine gate_callee (f := 17) rfl ?_); refine goesL_ (some 6) rfl rfl Tryd.func17 zz26 rfl #[.int .i64 0, .slice none 0 0] rfl zz11 ?_; (refine (prop_Bytes.calls k 0 _ _ ([] : List (S42)) t178 t179 _ ?side1 ?side2 zz3 A1.out).mono ?_); (case side1 => exact Kd.C_nil _ _); (case side2 => exact Nat.le_refl _); rintro e w11 ⟨rfl, hb⟩; refine ⟨_, rfl, ?_⟩; have n0_ := Aside0.mk (below_step zz12 hb); clear HB; have HB := n0_; clear n0_; (try clear hb); (try clear hb2); (try clear hk); (try clear hi)) | ((with_reducible refine gate_callee (f := 11) rfl ?_); refine goesL_ (some 10) rfl rfl Tryd.func11 zz26 rfl #[.int .i64 38] rfl zz11 ?_; (with_reducible refine (prop_Kind.calls k 38 t180 t181 _ A2.out).mono ?_); rintro e w' ⟨rfl, ⟨nd, rfl⟩⟩; refine ⟨_, rfl, ?_⟩) | ((with_reducible refine gate_callee (f := 13) rfl ?_); refine goesL_ (some 14) rfl rfl Tryd.func13 zz26 rfl #[.int .i64 t179] rfl zz11 ?_; (with_reducible refine (fairwaylaw4_num.calls t179 t182 _ A3.out).mono ?_); rintro e w' ⟨rfl, ⟨nd, rfl⟩⟩; refine ⟨_, rfl, ?_⟩))
 go_ret
 exact ⟨zz20, zz12⟩
end Go.Proofs.YtiancopplinpcaaDoor.P
end
section
namespace Go.Proofs.YtiancopplinpcaaDoor.P
open Go.RowKit Go.Proofs.YtiancopplinpcaaDoorW.PrintWords Go.Proofs.YtiancopplinpcaaDoorW.PrintLast Go.Proofs.YtiancopplinpcaaDoorW.PrintMore
attribute [local go_sem] max2_int min2_int max_two min_two max_three min_three max_four min_four
set_option linter.unusedVariables false
set_option linter.unusedSimpArgs false
mutual
def fairwaylaw4_PropKinds.l0 : Nat → List (S25) → Int → Option (Bool)
  | 0, _, _ => none
  | k + 1, x0, x3 => if x3 < 260 then (if x3 ≥ 250 then (fairwaylaw4_PropKinds.j1 k x0 x3 x3 (decide ((wrap64 (x3 - 250)) < (x0.length : Int)))) else (fairwaylaw4_PropKinds.j1 k x0 x3 x3 false)) else ((fairwaylaw4_wakes.f k).bind fun t184 => (some t184))
def fairwaylaw4_PropKinds.j1 : Nat → List (S25) → Int → Int → Bool → Option (Bool)
  | 0, _, _, _, _ => none
  | k + 1, x0, x3, x4, x21 => if x21 = true then (if 0 ≤ (wrap64 (x3 - 250)) then (if (wrap64 (x3 - 250)) < (x0.length : Int) then (fairwaylaw4_PropKinds.j2 k x0 x3 ((rd_T25 x0 (wrap64 (x3 - 250))).f0)) else (none)) else (none)) else (fairwaylaw4_PropKinds.j2 k x0 x3 x4)
def fairwaylaw4_PropKinds.j2 : Nat → List (S25) → Int → Int → Option (Bool)
  | 0, _, _, _ => none
  | k + 1, x0, x3, x4 => (prop_Kind.f k x4).bind fun bt186 => ((fairwayref4_Kind.f k x4).bind fun t188 => (if bt186.1 = t188 then ((fairwaylaw4_num.f bt186.2).bind fun t189 => (if ((t189 == 0) != (decide (t188 > 0))) = true then (some false) else (if t188 = 0 then ((fairwaylaw4_num.f bt186.2).bind fun t190 => (if t190 = 3 then (fairwaylaw4_PropKinds.l0 k x0 (wrap64 (x3 + 1))) else (some false))) else (fairwaylaw4_PropKinds.l0 k x0 (wrap64 (x3 + 1)))))) else (some false)))
end
def fairwaylaw4_PropKinds.f (k : Nat) (l0 : List (S25)) : Option (Bool) := fairwaylaw4_PropKinds.l0 k l0 (-3)
def fairwaylaw0_PropsWeight.l0 : Nat → List (S42) → Int → Int → Option (Int)
  | 0, _, _, _ => none
  | k + 1, x0, x3, x4 => if x4 < (x0.length : Int) then (if x3 < 1048576 then (if 0 ≤ x4 then (fairwaylaw0_PropsWeight.l0 k x0 (wrap64 ((wrap64 (x3 + (((rd_T42 x0 x4).f2).size : Int))) + (((rd_T42 x0 x4).f3).size : Int))) (wrap64 (x4 + 1))) else (none)) else (some x3)) else (some x3)
def fairwaylaw0_PropsWeight.f (k : Nat) (l0 : List (S42)) : Option (Int) := fairwaylaw0_PropsWeight.l0 k l0 (l0.length : Int) 0
theorem fairwaylaw0_PropsWeight.mono_l : ∀ k, (∀ y0 y1 y2, LeO (fairwaylaw0_PropsWeight.l0 k y0 y1 y2) (fairwaylaw0_PropsWeight.l0 (k + 1) y0 y1 y2))
 | 0 => fun _ _ _ r h => by simp [fairwaylaw0_PropsWeight.l0] at h
 | k + 1 => by
  have ih0 := fairwaylaw0_PropsWeight.mono_l k
  ·
   intro y0 y1 y2
   unfold fairwaylaw0_PropsWeight.l0; repeat' first
   | (with_reducible exact ih0 _ _ _)
   | (with_reducible exact LeO.refl _)
   | (with_reducible exact LeO.none _)
   | (with_reducible refine LeO.ite ?_ ?_)
   | (with_reducible refine LeO.bind ?_ (fun _ => ?_))
   | exact ih0 _ _ _
   | exact LeO.none _
   | refine LeO.ite ?_ ?_
   | refine LeO.bind ?_ (fun _ => ?_)
theorem fairwaylaw0_PropsWeight.mono : ∀ a0 k, LeO (fairwaylaw0_PropsWeight.f k a0) (fairwaylaw0_PropsWeight.f (k + 1) a0) := by
 intro a0 k
 have ih0 := fairwaylaw0_PropsWeight.mono_l k; unfold fairwaylaw0_PropsWeight.f; repeat' first
   | (with_reducible exact ih0 _ _ _)
   | (with_reducible exact LeO.refl _)
   | (with_reducible exact LeO.none _)
   | (with_reducible refine LeO.ite ?_ ?_)
   | (with_reducible refine LeO.bind ?_ (fun _ => ?_))
   | exact ih0 _ _ _
   | exact LeO.none _
   | refine LeO.ite ?_ ?_
   | refine LeO.bind ?_ (fun _ => ?_)
set_option maxHeartbeats 8000000 in
set_option maxRecDepth 100000 in
theorem fairwaylaw0_PropsWeight.calls (k : Nat) (A0 : Option Addr) (c0 : Nat) (l0 : List (S42)) (r : Int) (w : World) (hr0 : Kd.C k42 w A0 l0.length l0) (hc0 : l0.length ≤ c0) (h : fairwaylaw0_PropsWeight.f k l0 = some r) :
  Calls Tryd.prog 27 #[.slice A0 l0.length c0] w fun e w' => e = .returned (.int .i64 r) ∧ Drawn0 w w' := by
 have HR0 := Aside0.mk hr0; have HC0 := Aside0.mk hc0; clear hr0 hc0; have H : (fairwaylaw0_PropsWeight.l0 k l0 (l0.length : Int) 0) = some r := h; clear h; have H' := Aside0.mk H; clear H; go_enter Tryd.func27, Tryd.ntmps27
 go_wp2
 repeat (go_quiet (fail); try go_wp2)
 go_loopg [3, 4] k (fun kq v3 v4 w' => ∃ (x3_1 : Int) (x4_1 : Int), v3 = .int .i64 x3_1 ∧ v4 = .int .i64 x4_1 ∧ Aside0 (fairwaylaw0_PropsWeight.l0 kq l0 x3_1 x4_1 = some r) ∧ Aside0 (kq ≤ k) ∧ Drawn0 w w')
 case atStart => exact ⟨((l0.length : Int)), (0), zz24, zz24, H', ⟨Nat.le_refl _⟩, zz22⟩
 case round =>
  clear H'; obtain ⟨x3_1, x4_1, rfl, rfl, HA, HK1, ⟨m1, rfl⟩⟩ := hrel; cases gk with
  | zero => exact absurd HA.out (by simp [fairwaylaw0_PropsWeight.l0])
  | succ k1 =>
   have H := HA.out; clear HA; simp only [fairwaylaw0_PropsWeight.l0] at H; by_cases c2 : x4_1 < (l0.length : Int)
   ·
    rw [if_pos c2] at H; have c2b0 : decide (x4_1 < (l0.length : Int)) = true := decide_eq_true c2; clear c2; by_cases c3 : x3_1 < 1048576
    ·
     rw [if_pos c3] at H; have c3b0 : decide (x3_1 < 1048576) = true := decide_eq_true c3; clear c3; by_cases c4 : 0 ≤ x4_1
     ·
      rw [if_pos c4] at H; have c4b0 : decide (0 ≤ x4_1) = true := decide_eq_true c4; clear c4; have H' := Aside0.mk H; clear H; have p191 : 0 ≤ (x4_1 : Int) := of_decide_eq_true zz23; have q191 : x4_1 < (l0.length : Int) := of_decide_eq_true zz23; obtain ⟨ad191, e191, hx191_0, hx191_1, hx191_2, hx191_3⟩ := at_T42 HR0.out x4_1 p191 q191; cases e191; replace p191 := eq_true p191; replace q191 := eq_true q191; have p192 : 0 ≤ (x4_1 : Int) := of_decide_eq_true zz23; have q192 : x4_1 < (l0.length : Int) := of_decide_eq_true zz23; obtain ⟨ad192, e192, hx192_0, hx192_1, hx192_2, hx192_3⟩ := at_T42 HR0.out x4_1 p192 q192; obtain rfl : ad191 = ad192 := (by injection e192); replace p192 := eq_true p192; replace q192 := eq_true q192; go_wp2
      repeat (go_quiet (fail); try go_wp2)
      go_roundg k1
      case measure => have := HK1.out; omega
      case rel => exact ⟨(wrap64 ((wrap64 (x3_1 + (((rd_T42 l0 x4_1).f2).size : Int))) + (((rd_T42 l0 x4_1).f3).size : Int))), (wrap64 (x4_1 + 1)), zz24, zz24, H', ⟨by have := HK1.out; omega⟩, zz22⟩
     rw [if_neg c4] at H; exact absurd H (by simp)
    rw [if_neg c3] at H; have c3b0 : decide (x3_1 < 1048576) = false := decide_eq_false c3; clear c3; obtain rfl := Option.some.inj H; go_wp2
    repeat (go_quiet (fail); try go_wp2)
    go_ret
    exact ⟨zz24, zz22⟩
   rw [if_neg c2] at H; have c2b0 : decide (x4_1 < (l0.length : Int)) = false := decide_eq_false c2; clear c2; obtain rfl := Option.some.inj H; go_wp2
   repeat (go_quiet (fail); try go_wp2)
   go_ret
   exact ⟨zz24, zz22⟩
def fairwaylaw4_heavy.f (k : Nat) (a0_0 : Int) (l0_1 : List (S42)) (a0_2 : ByteArray) : Option (Bool) := (fairwaylaw0_PropsWeight.f k l0_1).bind fun t194 => (if t194 > 10000 then (some true) else (some (decide ((a0_2.size : Int) > 9000))))
theorem fairwaylaw4_heavy.mono : ∀ a0 a1 a2 k, LeO (fairwaylaw4_heavy.f k a0 a1 a2) (fairwaylaw4_heavy.f (k + 1) a0 a1 a2) := by
 intro a0 a1 a2 k
 unfold fairwaylaw4_heavy.f; repeat' first
   | (with_reducible exact fairwaylaw0_PropsWeight.mono _ _)
   | (with_reducible exact LeO.refl _)
   | (with_reducible exact LeO.none _)
   | (with_reducible refine LeO.ite ?_ ?_)
   | (with_reducible refine LeO.bind ?_ (fun _ => ?_))
   | exact fairwaylaw0_PropsWeight.mono _ _
   | exact LeO.none _
   | refine LeO.ite ?_ ?_
   | refine LeO.bind ?_ (fun _ => ?_)
set_option maxHeartbeats 8000000 in
set_option maxRecDepth 100000 in
theorem fairwaylaw4_heavy.calls (k : Nat) (a0_0 : Int) (A0_1 : Option Addr) (c0_1 : Nat) (l0_1 : List (S42)) (a0_2 : ByteArray) (r : Bool) (w : World) (hr0_1 : Kd.C k42 w A0_1 l0_1.length l0_1) (hc0_1 : l0_1.length ≤ c0_1) (h : fairwaylaw4_heavy.f k a0_0 l0_1 a0_2 = some r) :
  Calls Tryd.prog 15 #[.agg #[.int .i64 a0_0, .slice A0_1 l0_1.length c0_1, .string a0_2]] w fun e w' => e = .returned (.bool r) ∧ Below w.heap.size w w' := by
 have hu25 := Tryd.underlying25; have HR0_1 := Aside0.mk hr0_1; have HC0_1 := Aside0.mk hc0_1; clear hr0_1 hc0_1; have HB := Aside0.mk (Below.refl w.heap.size w); have H : ((fairwaylaw0_PropsWeight.f k l0_1).bind fun t194 => (if t194 > 10000 then (some true) else (some (decide ((a0_2.size : Int) > 9000))))) = some r := h; clear h; replace H := Option.bind_eq_some_iff.mp H; obtain ⟨t194, A20, H⟩ := H; replace H : (if t194 > 10000 then (some true) else (some (decide ((a0_2.size : Int) > 9000)))) = some r := H; have A2 := Aside0.mk A20; clear A20; by_cases c3 : t194 > 10000
 ·
  rw [if_pos c3] at H; have c3b0 : decide (10000 < t194) = true := decide_eq_true c3; clear c3; obtain rfl := Option.some.inj H; go_enter Tryd.func15, Tryd.ntmps15
  go_wp2_with (first | ((with_reducible refine gate_dst (N := 1) rfl ?_); (try (refine gate_guard (by rfl) ?_; dsimp only)); refine box_event ?hg (N := 1) ?hd (cs := #[.int .i64 a0_0, .slice A0_1 l0_1.length c0_1, .string a0_2]) (t := 25) ?hr ?_; (case hd => rfl); (case hg => rfl); (case hr => first | (go_simp; done) | (go_simp; rfl)); intro gb193 hg w4 hbox hb; have n0_ := Aside0.mk (below_step zz12 hb); have n1_ := Aside0.mk (hbox); have n2_ := Aside0.mk ((by rw [hg]; exact (below_size zz12) : w.heap.size ≤ gb193)); have n3_ := Aside0.mk ((by rw [hg]; exact (below_size zz12) : w.heap.size ≤ gb193)); clear HB; have HB := n0_; have BK193 := n1_; have GW193 := n2_; have GE193 := n3_; clear n0_ n1_ n2_ n3_; clear hb hbox hg; have hcz5_0 : w4.cell? ⟨gb193, 0, none⟩ = some (.int .i64 a0_0) := (blk_cell BK193.out 0).trans rfl; have hcz5_1 : w4.cell? ⟨gb193, 1, none⟩ = some (.slice A0_1 l0_1.length c0_1) := (blk_cell BK193.out 1).trans rfl; have hcz5_2 : w4.cell? ⟨gb193, 2, none⟩ = some (.string a0_2) := (blk_cell BK193.out 2).trans rfl; have hfz5_0 := blk_frozen BK193.out 0; have hfz5_1 := blk_frozen BK193.out 1; have hfz5_2 := blk_frozen BK193.out 2) | ((with_reducible refine gate_callee (f := 27) rfl ?_); refine goesL_ (some 5) rfl rfl Tryd.func27 zz26 rfl #[.slice A0_1 l0_1.length c0_1] rfl zz11 ?_; (with_reducible refine (fairwaylaw0_PropsWeight.calls k _ _ l0_1 t194 _ ?side1 ?side2 A2.out).mono ?_); (case side1 => repeat (first | exact (Kd.C_below HR0_1.out HB.out) | (with_reducible refine Kd.C_alloc ?_ _) | (with_reducible refine Kd.C_drewN ?_ _) | (with_reducible refine Kd.C_drew ?_))); (case side2 => exact HC0_1.out); rintro e w' ⟨rfl, ⟨nd, rfl⟩⟩; refine ⟨_, rfl, ?_⟩))
  go_ret
  exact ⟨zz20, by repeat (first | (with_reducible first | exact HB.out | apply below_alloc | apply pw_below_drewN | apply below_drew1 | refine below_set ?_ GE193.out) | exact HB.out)⟩
 rw [if_neg c3] at H; have c3b0 : decide (10000 < t194) = false := decide_eq_false c3; clear c3; obtain rfl := Option.some.inj H; go_enter Tryd.func15, Tryd.ntmps15
 go_wp2_with (first | ((with_reducible refine gate_dst (N := 1) rfl ?_); (try (refine gate_guard (by rfl) ?_; dsimp only)); refine box_event ?hg (N := 1) ?hd (cs := #[.int .i64 a0_0, .slice A0_1 l0_1.length c0_1, .string a0_2]) (t := 25) ?hr ?_; (case hd => rfl); (case hg => rfl); (case hr => first | (go_simp; done) | (go_simp; rfl)); intro gb193 hg w6 hbox hb; have n0_ := Aside0.mk (below_step zz12 hb); have n1_ := Aside0.mk (hbox); have n2_ := Aside0.mk ((by rw [hg]; exact (below_size zz12) : w.heap.size ≤ gb193)); have n3_ := Aside0.mk ((by rw [hg]; exact (below_size zz12) : w.heap.size ≤ gb193)); clear HB; have HB := n0_; have BK193 := n1_; have GW193 := n2_; have GE193 := n3_; clear n0_ n1_ n2_ n3_; clear hb hbox hg; have hcz7_0 : w6.cell? ⟨gb193, 0, none⟩ = some (.int .i64 a0_0) := (blk_cell BK193.out 0).trans rfl; have hcz7_1 : w6.cell? ⟨gb193, 1, none⟩ = some (.slice A0_1 l0_1.length c0_1) := (blk_cell BK193.out 1).trans rfl; have hcz7_2 : w6.cell? ⟨gb193, 2, none⟩ = some (.string a0_2) := (blk_cell BK193.out 2).trans rfl; have hfz7_0 := blk_frozen BK193.out 0; have hfz7_1 := blk_frozen BK193.out 1; have hfz7_2 := blk_frozen BK193.out 2) | ((with_reducible refine gate_callee (f := 27) rfl ?_); refine goesL_ (some 5) rfl rfl Tryd.func27 zz26 rfl #[.slice A0_1 l0_1.length c0_1] rfl zz11 ?_; (with_reducible refine (fairwaylaw0_PropsWeight.calls k _ _ l0_1 t194 _ ?side1 ?side2 A2.out).mono ?_); (case side1 => repeat (first | exact (Kd.C_below HR0_1.out HB.out) | (with_reducible refine Kd.C_alloc ?_ _) | (with_reducible refine Kd.C_drewN ?_ _) | (with_reducible refine Kd.C_drew ?_))); (case side2 => exact HC0_1.out); rintro e w' ⟨rfl, ⟨nd, rfl⟩⟩; refine ⟨_, rfl, ?_⟩))
 go_ret
 exact ⟨zz20, by repeat (first | (with_reducible first | exact HB.out | apply below_alloc | apply pw_below_drewN | apply below_drew1 | refine below_set ?_ GE193.out) | exact HB.out)⟩
def fairwayref0_CopyProps.l0 : Nat → List (S42) → List (S42) → Int → Option ((List (S42)))
  | 0, _, _, _ => none
  | k + 1, x0, x3, x4 => if x4 < (x0.length : Int) then (if 0 ≤ x4 then (if x3.length < 2932031007402 then (fairwayref0_CopyProps.l0 k x0 (x3 ++ [(⟨(rd_T42 x0 x4).f0, (rd_T42 x0 x4).f1, (rd_T42 x0 x4).f2, (rd_T42 x0 x4).f3⟩ : S42)]) (wrap64 (x4 + 1))) else (none)) else (none)) else (some x3)
def fairwayref0_CopyProps.f (k : Nat) (l0 : List (S42)) : Option ((List (S42))) := fairwayref0_CopyProps.l0 k l0 ([] : List (S42)) 0
def fairwayref4_Place.f (a0 : Int) : Option (Bool) := if a0 ≥ 0 then (some (decide (a0 ≤ 15))) else (some false)
def fairwayref0_Num.f (a0 : Int) (a1 : Int) : Option (Bool) := if a0 ≥ 0 then (some (decide (a0 ≤ a1))) else (some false)
def fairwayref1_good.f (a0 : Int) : Option (Bool) := if a0 < 32 then (some false) else (if a0 ≥ 127 then (if a0 ≤ 159 then (some false) else (if a0 > 1114111 then (some false) else (if a0 ≥ 55296 then (if a0 ≤ 57343 then (some false) else (if a0 ≥ 64976 then (if a0 ≤ 65007 then (some false) else (some (decide ((Int.tmod a0 65536) < 65534)))) else (some (decide ((Int.tmod a0 65536) < 65534))))) else (if a0 ≥ 64976 then (if a0 ≤ 65007 then (some false) else (some (decide ((Int.tmod a0 65536) < 65534)))) else (some (decide ((Int.tmod a0 65536) < 65534))))))) else (if a0 > 1114111 then (some false) else (if a0 ≥ 55296 then (if a0 ≤ 57343 then (some false) else (if a0 ≥ 64976 then (if a0 ≤ 65007 then (some false) else (some (decide ((Int.tmod a0 65536) < 65534)))) else (some (decide ((Int.tmod a0 65536) < 65534))))) else (if a0 ≥ 64976 then (if a0 ≤ 65007 then (some false) else (some (decide ((Int.tmod a0 65536) < 65534)))) else (some (decide ((Int.tmod a0 65536) < 65534)))))))
end Go.Proofs.YtiancopplinpcaaDoor.P
end
section
namespace Go.Proofs.YtiancopplinpcaaDoor.P
open Go.RowKit Go.Proofs.YtiancopplinpcaaDoorW.PrintWords Go.Proofs.YtiancopplinpcaaDoorW.PrintLast Go.Proofs.YtiancopplinpcaaDoorW.PrintMore
attribute [local go_sem] max2_int min2_int max_two min_two max_three min_three max_four min_four
set_option linter.unusedVariables false
set_option linter.unusedSimpArgs false
mutual
def fairwayref1_point.j3 : Nat → ByteArray → Int → Int → Int → Option (Int × Int)
  | 0, _, _, _, _ => none
  | k + 1, x0, x5, x6, x7 => if (x0.size : Int) < x5 then (some (0, 0)) else (fairwayref1_point.l0 k x0 x5 x6 x7 1)
def fairwayref1_point.l0 : Nat → ByteArray → Int → Int → Int → Int → Option (Int × Int)
  | 0, _, _, _, _, _ => none
  | k + 1, x0, x5, x6, x7, x8 => if x8 < x5 then (if 0 ≤ x8 then (if x8 < (x0.size : Int) then (if (wrap64 (bt x0 x8)) < 128 then (some (0, 0)) else (if (wrap64 (bt x0 x8)) ≥ 192 then (some (0, 0)) else (fairwayref1_point.l0 k x0 x5 x6 (wrap64 ((wrap64 ((wrap64 (x7 * 64)) + (wrap64 (bt x0 x8)))) - 128)) (wrap64 (x8 + 1))))) else (none)) else (none)) else (if x7 < x6 then (some (0, 0)) else ((fairwayref1_good.f x7).bind fun t199 => (if t199 = true then (some (x7, x5)) else (some (0, 0)))))
def fairwayref1_point.j0 : Nat → ByteArray → Int → Int → Int → Int → Bool → Option (Int × Int)
  | 0, _, _, _, _, _, _ => none
  | k + 1, x0, x4, x5, x6, x7, x14 => if x14 = true then (fairwayref1_point.j3 k x0 4 65536 (wrap64 (x4 - 240))) else (if x4 ≥ 224 then (fairwayref1_point.j1 k x0 x4 x5 x6 x7 (decide (x4 < 240))) else (fairwayref1_point.j1 k x0 x4 x5 x6 x7 false))
def fairwayref1_point.j1 : Nat → ByteArray → Int → Int → Int → Int → Bool → Option (Int × Int)
  | 0, _, _, _, _, _, _ => none
  | k + 1, x0, x4, x5, x6, x7, x23 => if x23 = true then (fairwayref1_point.j3 k x0 3 2048 (wrap64 (x4 - 224))) else (if x4 ≥ 192 then (fairwayref1_point.j2 k x0 x4 x5 x6 x7 (decide (x4 < 224))) else (fairwayref1_point.j2 k x0 x4 x5 x6 x7 false))
def fairwayref1_point.j2 : Nat → ByteArray → Int → Int → Int → Int → Bool → Option (Int × Int)
  | 0, _, _, _, _, _, _ => none
  | k + 1, x0, x4, x5, x6, x7, x32 => if x32 = true then (fairwayref1_point.j3 k x0 2 128 (wrap64 (x4 - 192))) else (if x4 ≥ 128 then (some (0, 0)) else (fairwayref1_point.j3 k x0 x5 x6 x7))
end
def fairwayref1_point.f (k : Nat) (a0 : ByteArray) : Option (Int × Int) := if 0 < (a0.size : Int) then (if (wrap64 (bt a0 0)) ≥ 240 then (fairwayref1_point.j0 k a0 (wrap64 (bt a0 0)) 1 0 (wrap64 (bt a0 0)) (decide ((wrap64 (bt a0 0)) < 248))) else (fairwayref1_point.j0 k a0 (wrap64 (bt a0 0)) 1 0 (wrap64 (bt a0 0)) false)) else (none)
theorem fairwayref1_point.mono_l : ∀ k, (∀ y0 y1 y2 y3, LeO (fairwayref1_point.j3 k y0 y1 y2 y3) (fairwayref1_point.j3 (k + 1) y0 y1 y2 y3)) ∧ (∀ y0 y1 y2 y3 y4, LeO (fairwayref1_point.l0 k y0 y1 y2 y3 y4) (fairwayref1_point.l0 (k + 1) y0 y1 y2 y3 y4)) ∧ (∀ y0 y1 y2 y3 y4 y5, LeO (fairwayref1_point.j0 k y0 y1 y2 y3 y4 y5) (fairwayref1_point.j0 (k + 1) y0 y1 y2 y3 y4 y5)) ∧ (∀ y0 y1 y2 y3 y4 y5, LeO (fairwayref1_point.j1 k y0 y1 y2 y3 y4 y5) (fairwayref1_point.j1 (k + 1) y0 y1 y2 y3 y4 y5)) ∧ (∀ y0 y1 y2 y3 y4 y5, LeO (fairwayref1_point.j2 k y0 y1 y2 y3 y4 y5) (fairwayref1_point.j2 (k + 1) y0 y1 y2 y3 y4 y5))
 | 0 => ⟨fun _ _ _ _ r h => by simp [fairwayref1_point.j3] at h, fun _ _ _ _ _ r h => by simp [fairwayref1_point.l0] at h, fun _ _ _ _ _ _ r h => by simp [fairwayref1_point.j0] at h, fun _ _ _ _ _ _ r h => by simp [fairwayref1_point.j1] at h, fun _ _ _ _ _ _ r h => by simp [fairwayref1_point.j2] at h⟩
 | k + 1 => by
  obtain ⟨ih0, ih1, ih2, ih3, ih4⟩ := fairwayref1_point.mono_l k; refine ⟨?_, ?_, ?_, ?_, ?_⟩ <;> intros
  all_goals first | unfold fairwayref1_point.j3 | unfold fairwayref1_point.l0 | unfold fairwayref1_point.j0 | unfold fairwayref1_point.j1 | unfold fairwayref1_point.j2
  all_goals repeat' first
   | (with_reducible exact ih0 _ _ _ _)
   | (with_reducible exact ih1 _ _ _ _ _)
   | (with_reducible exact ih2 _ _ _ _ _ _)
   | (with_reducible exact ih3 _ _ _ _ _ _)
   | (with_reducible exact ih4 _ _ _ _ _ _)
   | (with_reducible exact LeO.refl _)
   | (with_reducible exact LeO.none _)
   | (with_reducible refine LeO.ite ?_ ?_)
   | (with_reducible refine LeO.bind ?_ (fun _ => ?_))
   | exact ih0 _ _ _ _
   | exact ih1 _ _ _ _ _
   | exact ih2 _ _ _ _ _ _
   | exact ih3 _ _ _ _ _ _
   | exact ih4 _ _ _ _ _ _
   | exact LeO.none _
   | refine LeO.ite ?_ ?_
   | refine LeO.bind ?_ (fun _ => ?_)
theorem fairwayref1_point.mono : ∀ a0 k, LeO (fairwayref1_point.f k a0) (fairwayref1_point.f (k + 1) a0) := by
 intro a0 k
 obtain ⟨ih0, ih1, ih2, ih3, ih4⟩ := fairwayref1_point.mono_l k; unfold fairwayref1_point.f; repeat' first
   | (with_reducible exact ih0 _ _ _ _)
   | (with_reducible exact ih1 _ _ _ _ _)
   | (with_reducible exact ih2 _ _ _ _ _ _)
   | (with_reducible exact ih3 _ _ _ _ _ _)
   | (with_reducible exact ih4 _ _ _ _ _ _)
   | (with_reducible exact LeO.refl _)
   | (with_reducible exact LeO.none _)
   | (with_reducible refine LeO.ite ?_ ?_)
   | (with_reducible refine LeO.bind ?_ (fun _ => ?_))
   | exact ih0 _ _ _ _
   | exact ih1 _ _ _ _ _
   | exact ih2 _ _ _ _ _ _
   | exact ih3 _ _ _ _ _ _
   | exact ih4 _ _ _ _ _ _
   | exact LeO.none _
   | refine LeO.ite ?_ ?_
   | refine LeO.bind ?_ (fun _ => ?_)
def fairwayref1_Text.l0 : Nat → ByteArray → Option (Int)
  | 0, _ => none
  | k + 1, x0 => if (x0.size : Int) > 0 then ((fairwayref1_point.f k x0).bind fun bt200 => (if bt200.2 = 0 then (some 8) else (if 0 ≤ bt200.2 then (if bt200.2 ≤ (x0.size : Int) then (fairwayref1_Text.l0 k (x0.extract (bt200.2 : Int).toNat x0.size)) else (none)) else (none)))) else (some 0)
def fairwayref1_Text.f (k : Nat) (a0 : ByteArray) : Option (Int) := if (a0.size : Int) > 1024 then (some 2) else (fairwayref1_Text.l0 k a0)
theorem fairwayref1_Text.mono_l : ∀ k, (∀ y0, LeO (fairwayref1_Text.l0 k y0) (fairwayref1_Text.l0 (k + 1) y0))
 | 0 => fun _ r h => by simp [fairwayref1_Text.l0] at h
 | k + 1 => by
  have ih0 := fairwayref1_Text.mono_l k
  ·
   intro y0
   unfold fairwayref1_Text.l0; repeat' first
   | (with_reducible exact ih0 _)
   | (with_reducible exact fairwayref1_point.mono _ _)
   | (with_reducible exact LeO.refl _)
   | (with_reducible exact LeO.none _)
   | (with_reducible refine LeO.ite ?_ ?_)
   | (with_reducible refine LeO.bind ?_ (fun _ => ?_))
   | exact ih0 _
   | exact fairwayref1_point.mono _ _
   | exact LeO.none _
   | refine LeO.ite ?_ ?_
   | refine LeO.bind ?_ (fun _ => ?_)
theorem fairwayref1_Text.mono : ∀ a0 k, LeO (fairwayref1_Text.f k a0) (fairwayref1_Text.f (k + 1) a0) := by
 intro a0 k
 have ih0 := fairwayref1_Text.mono_l k; unfold fairwayref1_Text.f; repeat' first
   | (with_reducible exact ih0 _)
   | (with_reducible exact fairwayref1_point.mono _ _)
   | (with_reducible exact LeO.refl _)
   | (with_reducible exact LeO.none _)
   | (with_reducible refine LeO.ite ?_ ?_)
   | (with_reducible refine LeO.bind ?_ (fun _ => ?_))
   | exact ih0 _
   | exact fairwayref1_point.mono _ _
   | exact LeO.none _
   | refine LeO.ite ?_ ?_
   | refine LeO.bind ?_ (fun _ => ?_)
end Go.Proofs.YtiancopplinpcaaDoor.P
end
section
namespace Go.Proofs.YtiancopplinpcaaDoor.P
open Go.RowKit Go.Proofs.YtiancopplinpcaaDoorW.PrintWords Go.Proofs.YtiancopplinpcaaDoorW.PrintLast Go.Proofs.YtiancopplinpcaaDoorW.PrintMore
attribute [local go_sem] max2_int min2_int max_two min_two max_three min_three max_four min_four
set_option linter.unusedVariables false
set_option linter.unusedSimpArgs false
def fairwayref4_fits.j0 : Nat → Int → Int → Bool → Int → Int → ByteArray → ByteArray → Option (Bool)
  | 0, _, _, _, _, _, _, _ => none
  | k + 1, x3, x8, x9, x203000, x203001, x203002, x203003 => if x9 = true then ((some (([0, 1, 65535, 4294967295, 268435455] : List Int) : List Int)).bind fun y204 => (if 0 ≤ x3 then (if x3 < (y204.length : Int) then (if x203000 = 33 then (if x203001 = 0 then (some false) else ((fairwayref0_Num.f x203001 (rd y204 x3)).bind fun t208 => (if t208 = true then (if x203002.toList = ([] : List UInt8) then (some (x203003.toList == ([] : List UInt8))) else (some false)) else (some false)))) else (if x203000 = 35 then (if x203001 = 0 then (some false) else ((fairwayref0_Num.f x203001 (rd y204 x3)).bind fun t209 => (if t209 = true then (if x203002.toList = ([] : List UInt8) then (some (x203003.toList == ([] : List UInt8))) else (some false)) else (some false)))) else (if x203000 = 39 then (if x203001 = 0 then (some false) else ((fairwayref0_Num.f x203001 (rd y204 x3)).bind fun t210 => (if t210 = true then (if x203002.toList = ([] : List UInt8) then (some (x203003.toList == ([] : List UInt8))) else (some false)) else (some false)))) else (if x203000 = 11 then (if x203001 = 0 then (some false) else ((fairwayref0_Num.f x203001 (rd y204 x3)).bind fun t211 => (if t211 = true then (if x203002.toList = ([] : List UInt8) then (some (x203003.toList == ([] : List UInt8))) else (some false)) else (some false)))) else ((fairwayref0_Num.f x203001 (rd y204 x3)).bind fun t212 => (if t212 = true then (if x203002.toList = ([] : List UInt8) then (some (x203003.toList == ([] : List UInt8))) else (some false)) else (some false))))))) else (none)) else (none))) else (if x8 = 5 then (if x203001 = 0 then (if x203003.toList = ([] : List UInt8) then ((fairwayref1_Text.f k x203002).bind fun t213 => (some (t213 == 0))) else (some false)) else (some false)) else (if x8 = 6 then (if x203001 = 0 then (if x203003.toList = ([] : List UInt8) then (some (decide ((x203002.size : Int) ≤ 1024))) else (some false)) else (some false)) else (if x8 = 7 then (if x203001 = 0 then ((fairwayref1_Text.f k x203002).bind fun t214 => (if t214 = 0 then ((fairwayref1_Text.f k x203003).bind fun t215 => (some (t215 == 0))) else (some false))) else (some false)) else (some false))))
def fairwayref4_fits.f (k : Nat) (a0_0 : Int) (a0_1 : Int) (a0_2 : ByteArray) (a0_3 : ByteArray) : Option (Bool) := (fairwayref4_Kind.f k a0_0).bind fun t203 => (if t203 = 1 then (fairwayref4_fits.j0 k t203 t203 (t203 == 1) a0_0 a0_1 a0_2 a0_3) else (if t203 = 2 then (fairwayref4_fits.j0 k t203 t203 (t203 == 2) a0_0 a0_1 a0_2 a0_3) else (if t203 = 3 then (fairwayref4_fits.j0 k t203 t203 (t203 == 3) a0_0 a0_1 a0_2 a0_3) else (fairwayref4_fits.j0 k t203 t203 (t203 == 4) a0_0 a0_1 a0_2 a0_3))))
theorem fairwayref4_fits.mono_l : ∀ k, (∀ y0 y1 y2 y3 y4 y5 y6, LeO (fairwayref4_fits.j0 k y0 y1 y2 y3 y4 y5 y6) (fairwayref4_fits.j0 (k + 1) y0 y1 y2 y3 y4 y5 y6))
 | 0 => fun _ _ _ _ _ _ _ r h => by simp [fairwayref4_fits.j0] at h
 | k + 1 => by
  have ih0 := fairwayref4_fits.mono_l k
  ·
   intro y0 y1 y2 y3 y4 y5 y6
   unfold fairwayref4_fits.j0; repeat' first
   | (with_reducible exact ih0 _ _ _ _ _ _ _)
   | (with_reducible exact fairwayref1_Text.mono _ _)
   | (with_reducible exact fairwayref4_Kind.mono _ _)
   | (with_reducible exact LeO.refl _)
   | (with_reducible exact LeO.none _)
   | (with_reducible refine LeO.ite ?_ ?_)
   | (with_reducible refine LeO.bind ?_ (fun _ => ?_))
   | exact ih0 _ _ _ _ _ _ _
   | exact fairwayref1_Text.mono _ _
   | exact fairwayref4_Kind.mono _ _
   | exact LeO.none _
   | refine LeO.ite ?_ ?_
   | refine LeO.bind ?_ (fun _ => ?_)
theorem fairwayref4_fits.mono : ∀ a0 a1 a2 a3 k, LeO (fairwayref4_fits.f k a0 a1 a2 a3) (fairwayref4_fits.f (k + 1) a0 a1 a2 a3) := by
 intro a0 a1 a2 a3 k
 have ih0 := fairwayref4_fits.mono_l k; unfold fairwayref4_fits.f; repeat' first
   | (with_reducible exact ih0 _ _ _ _ _ _ _)
   | (with_reducible exact fairwayref1_Text.mono _ _)
   | (with_reducible exact fairwayref4_Kind.mono _ _)
   | (with_reducible exact LeO.refl _)
   | (with_reducible exact LeO.none _)
   | (with_reducible refine LeO.ite ?_ ?_)
   | (with_reducible refine LeO.bind ?_ (fun _ => ?_))
   | exact ih0 _ _ _ _ _ _ _
   | exact fairwayref1_Text.mono _ _
   | exact fairwayref4_Kind.mono _ _
   | exact LeO.none _
   | refine LeO.ite ?_ ?_
   | refine LeO.bind ?_ (fun _ => ?_)
def fairwayref0_In.l0 : Nat → List Int → Int → Int → Option (Int)
  | 0, _, _, _ => none
  | k + 1, x0, x1, x5 => if x5 < (x0.length : Int) then (if 0 ≤ x5 then (if (rd x0 x5) = x1 then (some x5) else (fairwayref0_In.l0 k x0 x1 (wrap64 (x5 + 1)))) else (none)) else (some (-1))
def fairwayref0_In.f (k : Nat) (l0 : List Int) (a1 : Int) : Option (Int) := fairwayref0_In.l0 k l0 a1 0
theorem fairwayref0_In.mono_l : ∀ k, (∀ y0 y1 y2, LeO (fairwayref0_In.l0 k y0 y1 y2) (fairwayref0_In.l0 (k + 1) y0 y1 y2))
 | 0 => fun _ _ _ r h => by simp [fairwayref0_In.l0] at h
 | k + 1 => by
  have ih0 := fairwayref0_In.mono_l k
  ·
   intro y0 y1 y2
   unfold fairwayref0_In.l0; repeat' first
   | (with_reducible exact ih0 _ _ _)
   | (with_reducible exact LeO.refl _)
   | (with_reducible exact LeO.none _)
   | (with_reducible refine LeO.ite ?_ ?_)
   | (with_reducible refine LeO.bind ?_ (fun _ => ?_))
   | exact ih0 _ _ _
   | exact LeO.none _
   | refine LeO.ite ?_ ?_
   | refine LeO.bind ?_ (fun _ => ?_)
theorem fairwayref0_In.mono : ∀ a0 a1 k, LeO (fairwayref0_In.f k a0 a1) (fairwayref0_In.f (k + 1) a0 a1) := by
 intro a0 a1 k
 have ih0 := fairwayref0_In.mono_l k; unfold fairwayref0_In.f; repeat' first
   | (with_reducible exact ih0 _ _ _)
   | (with_reducible exact LeO.refl _)
   | (with_reducible exact LeO.none _)
   | (with_reducible refine LeO.ite ?_ ?_)
   | (with_reducible refine LeO.bind ?_ (fun _ => ?_))
   | exact ih0 _ _ _
   | exact LeO.none _
   | refine LeO.ite ?_ ?_
   | refine LeO.bind ?_ (fun _ => ?_)
end Go.Proofs.YtiancopplinpcaaDoor.P
end
section
namespace Go.Proofs.YtiancopplinpcaaDoor.P
open Go.RowKit Go.Proofs.YtiancopplinpcaaDoorW.PrintWords Go.Proofs.YtiancopplinpcaaDoorW.PrintLast Go.Proofs.YtiancopplinpcaaDoorW.PrintMore
attribute [local go_sem] max2_int min2_int max_two min_two max_three min_three max_four min_four
set_option linter.unusedVariables false
set_option linter.unusedSimpArgs false
def fairwayref4_stands.j0 : Nat → Int → List Int → Int → Bool → Option (Bool)
  | 0, _, _, _, _ => none
  | k + 1, x1, x5, x6, x19 => if x19 = true then ((fairwayref0_In.f k (([31, 38] : List Int)) x1).bind fun t236 => (some (decide (t236 ≥ 0)))) else (if x6 = 8 then ((fairwayref0_In.f k (([11, 38] : List Int)) x1).bind fun t240 => (some (decide (t240 ≥ 0)))) else (if x6 = 10 then ((fairwayref0_In.f k (([38] : List Int)) x1).bind fun t244 => (some (decide (t244 ≥ 0)))) else (if x6 = 14 then ((fairwayref0_In.f k (([17, 28, 31, 38] : List Int)) x1).bind fun t248 => (some (decide (t248 ≥ 0)))) else (if x6 = 15 then ((fairwayref0_In.f k (([21, 22, 31, 38] : List Int)) x1).bind fun t252 => (some (decide (t252 ≥ 0)))) else ((fairwayref0_In.f k x5 x1).bind fun t253 => (some (decide (t253 ≥ 0))))))))
def fairwayref4_stands.f (k : Nat) (a0 : Int) (a1 : Int) : Option (Bool) := if a0 = 0 then ((fairwayref0_In.f k (([1, 2, 3, 8, 9, 24, 38] : List Int)) a1).bind fun t220 => (some (decide (t220 ≥ 0)))) else (if a0 = 1 then ((fairwayref0_In.f k (([17, 21, 22, 23, 25, 33, 34, 38, 39] : List Int)) a1).bind fun t224 => (some (decide (t224 ≥ 0)))) else (if a0 = 2 then ((fairwayref0_In.f k (([17, 18, 19, 21, 22, 26, 28, 31, 33, 34, 36, 37, 38, 39, 40, 41, 42] : List Int)) a1).bind fun t228 => (some (decide (t228 ≥ 0)))) else (if a0 = 3 then ((fairwayref0_In.f k (([1, 2, 3, 8, 9, 11, 35, 38] : List Int)) a1).bind fun t232 => (some (decide (t232 ≥ 0)))) else (if a0 = 4 then (fairwayref4_stands.j0 k a1 ([] : List Int) a0 (a0 == 4)) else (if a0 = 5 then (fairwayref4_stands.j0 k a1 ([] : List Int) a0 (a0 == 5)) else (if a0 = 6 then (fairwayref4_stands.j0 k a1 ([] : List Int) a0 (a0 == 6)) else (if a0 = 7 then (fairwayref4_stands.j0 k a1 ([] : List Int) a0 (a0 == 7)) else (if a0 = 9 then (fairwayref4_stands.j0 k a1 ([] : List Int) a0 (a0 == 9)) else (fairwayref4_stands.j0 k a1 ([] : List Int) a0 (a0 == 11))))))))))
theorem fairwayref4_stands.mono_l : ∀ k, (∀ y0 y1 y2 y3, LeO (fairwayref4_stands.j0 k y0 y1 y2 y3) (fairwayref4_stands.j0 (k + 1) y0 y1 y2 y3))
 | 0 => fun _ _ _ _ r h => by simp [fairwayref4_stands.j0] at h
 | k + 1 => by
  have ih0 := fairwayref4_stands.mono_l k
  ·
   intro y0 y1 y2 y3
   unfold fairwayref4_stands.j0; repeat' first
   | (with_reducible exact ih0 _ _ _ _)
   | (with_reducible exact fairwayref0_In.mono _ _ _)
   | (with_reducible exact LeO.refl _)
   | (with_reducible exact LeO.none _)
   | (with_reducible refine LeO.ite ?_ ?_)
   | (with_reducible refine LeO.bind ?_ (fun _ => ?_))
   | exact ih0 _ _ _ _
   | exact fairwayref0_In.mono _ _ _
   | exact LeO.none _
   | refine LeO.ite ?_ ?_
   | refine LeO.bind ?_ (fun _ => ?_)
theorem fairwayref4_stands.mono : ∀ a0 a1 k, LeO (fairwayref4_stands.f k a0 a1) (fairwayref4_stands.f (k + 1) a0 a1) := by
 intro a0 a1 k
 have ih0 := fairwayref4_stands.mono_l k; unfold fairwayref4_stands.f; repeat' first
   | (with_reducible exact ih0 _ _ _ _)
   | (with_reducible exact fairwayref0_In.mono _ _ _)
   | (with_reducible exact LeO.refl _)
   | (with_reducible exact LeO.none _)
   | (with_reducible refine LeO.ite ?_ ?_)
   | (with_reducible refine LeO.bind ?_ (fun _ => ?_))
   | exact ih0 _ _ _ _
   | exact fairwayref0_In.mono _ _ _
   | exact LeO.none _
   | refine LeO.ite ?_ ?_
   | refine LeO.bind ?_ (fun _ => ?_)
mutual
def fairwayref4_twice.j0 : Nat → Int → List (S42) → Bool → Option (Bool)
  | 0, _, _, _ => none
  | k + 1, x1, x2, x17 => if x17 = true then (some false) else (fairwayref4_twice.l0 k x1 x2 0)
def fairwayref4_twice.l0 : Nat → Int → List (S42) → Int → Option (Bool)
  | 0, _, _, _ => none
  | k + 1, x1, x2, x7 => if x7 < (x2.length : Int) then (if 0 ≤ x7 then (if ((rd_T42 x2 x7).f0) = x1 then (some true) else (fairwayref4_twice.l0 k x1 x2 (wrap64 (x7 + 1)))) else (none)) else (some false)
end
def fairwayref4_twice.f (k : Nat) (a0 : Int) (a1 : Int) (l2 : List (S42)) : Option (Bool) := if a1 = 38 then (fairwayref4_twice.j0 k a1 l2 true) else (if a1 = 11 then (fairwayref4_twice.j0 k a1 l2 (a0 == 3)) else (fairwayref4_twice.j0 k a1 l2 false))
theorem fairwayref4_twice.mono_l : ∀ k, (∀ y0 y1 y2, LeO (fairwayref4_twice.j0 k y0 y1 y2) (fairwayref4_twice.j0 (k + 1) y0 y1 y2)) ∧ (∀ y0 y1 y2, LeO (fairwayref4_twice.l0 k y0 y1 y2) (fairwayref4_twice.l0 (k + 1) y0 y1 y2))
 | 0 => ⟨fun _ _ _ r h => by simp [fairwayref4_twice.j0] at h, fun _ _ _ r h => by simp [fairwayref4_twice.l0] at h⟩
 | k + 1 => by
  obtain ⟨ih0, ih1⟩ := fairwayref4_twice.mono_l k; refine ⟨?_, ?_⟩ <;> intros
  all_goals first | unfold fairwayref4_twice.j0 | unfold fairwayref4_twice.l0
  all_goals repeat' first
   | (with_reducible exact ih0 _ _ _)
   | (with_reducible exact ih1 _ _ _)
   | (with_reducible exact LeO.refl _)
   | (with_reducible exact LeO.none _)
   | (with_reducible refine LeO.ite ?_ ?_)
   | (with_reducible refine LeO.bind ?_ (fun _ => ?_))
   | exact ih0 _ _ _
   | exact ih1 _ _ _
   | exact LeO.none _
   | refine LeO.ite ?_ ?_
   | refine LeO.bind ?_ (fun _ => ?_)
theorem fairwayref4_twice.mono : ∀ a0 a1 a2 k, LeO (fairwayref4_twice.f k a0 a1 a2) (fairwayref4_twice.f (k + 1) a0 a1 a2) := by
 intro a0 a1 a2 k
 obtain ⟨ih0, ih1⟩ := fairwayref4_twice.mono_l k; unfold fairwayref4_twice.f; repeat' first
   | (with_reducible exact ih0 _ _ _)
   | (with_reducible exact ih1 _ _ _)
   | (with_reducible exact LeO.refl _)
   | (with_reducible exact LeO.none _)
   | (with_reducible refine LeO.ite ?_ ?_)
   | (with_reducible refine LeO.bind ?_ (fun _ => ?_))
   | exact ih0 _ _ _
   | exact ih1 _ _ _
   | exact LeO.none _
   | refine LeO.ite ?_ ?_
   | refine LeO.bind ?_ (fun _ => ?_)
end Go.Proofs.YtiancopplinpcaaDoor.P
end
section
namespace Go.Proofs.YtiancopplinpcaaDoor.P
open Go.RowKit Go.Proofs.YtiancopplinpcaaDoorW.PrintWords Go.Proofs.YtiancopplinpcaaDoorW.PrintLast Go.Proofs.YtiancopplinpcaaDoorW.PrintMore
attribute [local go_sem] max2_int min2_int max_two min_two max_three min_three max_four min_four
set_option linter.unusedVariables false
set_option linter.unusedSimpArgs false
mutual
def fairwayref4_Props.j0 : Nat → Int → List (S42) → Bool → Option (Bool)
  | 0, _, _, _ => none
  | k + 1, x0, x1, x13 => if x13 = true then (some false) else (fairwayref4_Props.l0 k x0 x1 0)
def fairwayref4_Props.l0 : Nat → Int → List (S42) → Int → Option (Bool)
  | 0, _, _, _ => none
  | k + 1, x0, x1, x5 => if x5 < (x1.length : Int) then (if 0 ≤ x5 then ((fairwayref4_fits.f k ((rd_T42 x1 x5).f0) ((rd_T42 x1 x5).f1) ((rd_T42 x1 x5).f2) ((rd_T42 x1 x5).f3)).bind fun t257 => (if t257 = true then ((fairwayref4_stands.f k x0 ((rd_T42 x1 x5).f0)).bind fun t259 => (if t259 = true then (if x5 ≤ (x1.length : Int) then ((fairwayref4_twice.f k x0 ((rd_T42 x1 x5).f0) (x1.take (x5 : Int).toNat)).bind fun t265 => (if t265 = true then (some false) else (fairwayref4_Props.l0 k x0 x1 (wrap64 (x5 + 1))))) else (none)) else (some false))) else (some false))) else (none)) else (some true)
end
def fairwayref4_Props.f (k : Nat) (a0 : Int) (l1 : List (S42)) : Option (Bool) := (fairwayref4_Place.f a0).bind fun t255 => (if t255 = true then (fairwayref4_Props.j0 k a0 l1 (decide ((l1.length : Int) > 8))) else (fairwayref4_Props.j0 k a0 l1 true))
end Go.Proofs.YtiancopplinpcaaDoor.P
end
section
namespace Go.Proofs.YtiancopplinpcaaDoor.P
open Go.RowKit Go.Proofs.YtiancopplinpcaaDoorW.PrintWords Go.Proofs.YtiancopplinpcaaDoorW.PrintLast Go.Proofs.YtiancopplinpcaaDoorW.PrintMore
attribute [local go_sem] max2_int min2_int max_two min_two max_three min_three max_four min_four
set_option linter.unusedVariables false
set_option linter.unusedSimpArgs false
attribute [local go_sem high] eqA42
def prop_Check.f (k : Nat) (a0 : Int) (l1 : List (S42)) : Option (Int) := (prop_lay.f k a0 l1).bind fun bt291 => (if bt291.2 = true then (some 0) else (some 1))
def fairwayref0_EqProps.l0 : Nat → List (S42) → List (S42) → Int → Option (Bool)
  | 0, _, _, _ => none
  | k + 1, x0, x1, x5 => if x5 < (x0.length : Int) then (if 0 ≤ x5 then (if x5 < (x1.length : Int) then (if (!(((rd_T42 x0 x5).f0) == ((rd_T42 x1 x5).f0)) || (!(((rd_T42 x0 x5).f1) == ((rd_T42 x1 x5).f1)) || (!((((rd_T42 x0 x5).f2).toList) == (((rd_T42 x1 x5).f2).toList)) || (!((((rd_T42 x0 x5).f3).toList) == (((rd_T42 x1 x5).f3).toList)))))) = true then (some false) else (fairwayref0_EqProps.l0 k x0 x1 (wrap64 (x5 + 1)))) else (none)) else (none)) else (some true)
def fairwayref0_EqProps.f (k : Nat) (l0 : List (S42)) (l1 : List (S42)) : Option (Bool) := if (l0.length : Int) = (l1.length : Int) then (fairwayref0_EqProps.l0 k l0 l1 0) else (some false)
theorem fairwayref0_EqProps.mono_l : ∀ k, (∀ y0 y1 y2, LeO (fairwayref0_EqProps.l0 k y0 y1 y2) (fairwayref0_EqProps.l0 (k + 1) y0 y1 y2))
 | 0 => fun _ _ _ r h => by simp [fairwayref0_EqProps.l0] at h
 | k + 1 => by
  have ih0 := fairwayref0_EqProps.mono_l k
  ·
   intro y0 y1 y2
   unfold fairwayref0_EqProps.l0; repeat' first
   | (with_reducible exact ih0 _ _ _)
   | (with_reducible exact LeO.refl _)
   | (with_reducible exact LeO.none _)
   | (with_reducible refine LeO.ite ?_ ?_)
   | (with_reducible refine LeO.bind ?_ (fun _ => ?_))
   | exact ih0 _ _ _
   | exact LeO.none _
   | refine LeO.ite ?_ ?_
   | refine LeO.bind ?_ (fun _ => ?_)
theorem fairwayref0_EqProps.mono : ∀ a0 a1 k, LeO (fairwayref0_EqProps.f k a0 a1) (fairwayref0_EqProps.f (k + 1) a0 a1) := by
 intro a0 a1 k
 have ih0 := fairwayref0_EqProps.mono_l k; unfold fairwayref0_EqProps.f; repeat' first
   | (with_reducible exact ih0 _ _ _)
   | (with_reducible exact LeO.refl _)
   | (with_reducible exact LeO.none _)
   | (with_reducible refine LeO.ite ?_ ?_)
   | (with_reducible refine LeO.bind ?_ (fun _ => ?_))
   | exact ih0 _ _ _
   | exact LeO.none _
   | refine LeO.ite ?_ ?_
   | refine LeO.bind ?_ (fun _ => ?_)
set_option maxHeartbeats 8000000 in
set_option maxRecDepth 100000 in
theorem fairwayref0_EqProps.calls (k : Nat) (A0 : Option Addr) (c0 : Nat) (l0 : List (S42)) (A1 : Option Addr) (c1 : Nat) (l1 : List (S42)) (r : Bool) (w : World) (hr0 : Kd.C k42 w A0 l0.length l0) (hc0 : l0.length ≤ c0) (hr1 : Kd.C k42 w A1 l1.length l1) (hc1 : l1.length ≤ c1) (h : fairwayref0_EqProps.f k l0 l1 = some r) :
  Calls Tryd.prog 21 #[.slice A0 l0.length c0, .slice A1 l1.length c1] w fun e w' => e = .returned (.bool r) ∧ Drawn0 w w' := by
 have hu42 := Tryd.underlying42; have HR0 := Aside0.mk hr0; have HC0 := Aside0.mk hc0; clear hr0 hc0; have HR1 := Aside0.mk hr1; have HC1 := Aside0.mk hc1; clear hr1 hc1; have H : (if (l0.length : Int) = (l1.length : Int) then (fairwayref0_EqProps.l0 k l0 l1 0) else (some false)) = some r := h; clear h; by_cases c3 : (l0.length : Int) = (l1.length : Int)
 ·
  rw [if_pos c3] at H; have c3b0 : ((l0.length : Int) == (l1.length : Int)) = true := beq_iff_eq.mpr c3; have c3b1 : ((l0.length : Int) != (l1.length : Int)) = false := bne_eq_false_iff_eq.mpr c3; have c3b2 : (l0.length == l1.length) = true := by first | simpa using c3 | (simp at c3 ⊢; omega)
  clear c3; have H' := Aside0.mk H; clear H; go_enter Tryd.func21, Tryd.ntmps21
  go_wp2
  repeat (go_quiet (fail); try go_wp2)
  go_loopg [5] k (fun kq v5 w' => ∃ (x5_1 : Int), v5 = .int .i64 x5_1 ∧ Aside0 (fairwayref0_EqProps.l0 kq l0 l1 x5_1 = some r) ∧ Aside0 (kq ≤ k) ∧ Drawn0 w w')
  case atStart => exact ⟨(0), zz24, H', ⟨Nat.le_refl _⟩, zz22⟩
  case round =>
   clear H'; (try clear c1); (try clear c2); (try clear p2); (try clear c3); (try clear c3b0); (try clear c3b1); (try clear c3b2); obtain ⟨x5_1, rfl, HA, HK1, ⟨m1, rfl⟩⟩ := hrel; cases gk with
   | zero => exact absurd HA.out (by simp [fairwayref0_EqProps.l0])
   | succ k1 =>
    have H := HA.out; clear HA; simp only [fairwayref0_EqProps.l0] at H; by_cases c4 : x5_1 < (l0.length : Int)
    ·
     rw [if_pos c4] at H; have c4b0 : decide (x5_1 < (l0.length : Int)) = true := decide_eq_true c4; clear c4; by_cases c5 : 0 ≤ x5_1
     ·
      rw [if_pos c5] at H; have c5b0 : decide (0 ≤ x5_1) = true := decide_eq_true c5; clear c5; by_cases c6 : x5_1 < (l1.length : Int)
      ·
       rw [if_pos c6] at H; have c6b0 : decide (x5_1 < (l1.length : Int)) = true := decide_eq_true c6; clear c6; by_cases c7 : (!(((rd_T42 l0 x5_1).f0) == ((rd_T42 l1 x5_1).f0)) || (!(((rd_T42 l0 x5_1).f1) == ((rd_T42 l1 x5_1).f1)) || (!((((rd_T42 l0 x5_1).f2).toList) == (((rd_T42 l1 x5_1).f2).toList)) || (!((((rd_T42 l0 x5_1).f3).toList) == (((rd_T42 l1 x5_1).f3).toList)))))) = true
       ·
        rw [if_pos c7] at H; have c7b0 : (!(((rd_T42 l0 x5_1).f0) == ((rd_T42 l1 x5_1).f0)) || (!(((rd_T42 l0 x5_1).f1) == ((rd_T42 l1 x5_1).f1)) || (!((((rd_T42 l0 x5_1).f2).toList) == (((rd_T42 l1 x5_1).f2).toList)) || (!((((rd_T42 l0 x5_1).f3).toList) == (((rd_T42 l1 x5_1).f3).toList)))))) = true := c7; clear c7; obtain rfl := Option.some.inj H; have p293 : 0 ≤ (x5_1 : Int) := of_decide_eq_true zz23; have q293 : x5_1 < (l0.length : Int) := of_decide_eq_true zz23; obtain ⟨ad293, e293, hx293_0, hx293_1, hx293_2, hx293_3⟩ := at_T42 HR0.out x5_1 p293 q293; cases e293; replace p293 := eq_true p293; replace q293 := eq_true q293; have p294 : 0 ≤ (x5_1 : Int) := of_decide_eq_true zz23; have q294 : x5_1 < (l1.length : Int) := of_decide_eq_true zz23; obtain ⟨ad294, e294, hx294_0, hx294_1, hx294_2, hx294_3⟩ := at_T42 HR1.out x5_1 p294 q294; cases e294; replace p294 := eq_true p294; replace q294 := eq_true q294; go_wp2
        repeat (go_quiet (fail); try go_wp2)
        go_ret
        exact ⟨zz24, zz22⟩
       rw [if_neg c7] at H; have c7b0 : (!(((rd_T42 l0 x5_1).f0) == ((rd_T42 l1 x5_1).f0)) || (!(((rd_T42 l0 x5_1).f1) == ((rd_T42 l1 x5_1).f1)) || (!((((rd_T42 l0 x5_1).f2).toList) == (((rd_T42 l1 x5_1).f2).toList)) || (!((((rd_T42 l0 x5_1).f3).toList) == (((rd_T42 l1 x5_1).f3).toList)))))) = false := by simpa using c7
       clear c7; have H' := Aside0.mk H; clear H; have p293 : 0 ≤ (x5_1 : Int) := of_decide_eq_true zz23; have q293 : x5_1 < (l0.length : Int) := of_decide_eq_true zz23; obtain ⟨ad293, e293, hx293_0, hx293_1, hx293_2, hx293_3⟩ := at_T42 HR0.out x5_1 p293 q293; cases e293; replace p293 := eq_true p293; replace q293 := eq_true q293; have p294 : 0 ≤ (x5_1 : Int) := of_decide_eq_true zz23; have q294 : x5_1 < (l1.length : Int) := of_decide_eq_true zz23; obtain ⟨ad294, e294, hx294_0, hx294_1, hx294_2, hx294_3⟩ := at_T42 HR1.out x5_1 p294 q294; cases e294; replace p294 := eq_true p294; replace q294 := eq_true q294; go_wp2
       repeat (go_quiet (fail); try go_wp2)
       go_roundg k1
       case measure => have := HK1.out; omega
       case rel => exact ⟨(wrap64 (x5_1 + 1)), zz24, H', ⟨by have := HK1.out; omega⟩, zz22⟩
      rw [if_neg c6] at H; exact absurd H (by simp)
     rw [if_neg c5] at H; exact absurd H (by simp)
    rw [if_neg c4] at H; have c4b0 : decide (x5_1 < (l0.length : Int)) = false := decide_eq_false c4; clear c4; obtain rfl := Option.some.inj H; go_wp2
    repeat (go_quiet (fail); try go_wp2)
    go_ret
    exact ⟨zz24, zz22⟩
 rw [if_neg c3] at H; have c3b0 : ((l0.length : Int) == (l1.length : Int)) = false := beq_eq_false_iff_ne.mpr c3; have c3b1 : ((l0.length : Int) != (l1.length : Int)) = true := bne_iff_ne.mpr c3; have c3b2 : (l0.length == l1.length) = false := by first | simpa using c3 | (simp at c3 ⊢; omega)
 obtain rfl := Option.some.inj H; go_enter Tryd.func21, Tryd.ntmps21
 go_wp2
 repeat (go_quiet (fail); try go_wp2)
 go_ret
 exact ⟨zz24, zz22⟩
mutual
def fairwaylaw4_PropBytes.l0 : Nat → List (S25) → Int → Option (Bool)
  | 0, _, _ => none
  | k + 1, x0, x3 => if x3 < (x0.length : Int) then (fairwaylaw4_PropBytes.j1 k x0 x3 (decide (x3 < 10))) else (fairwaylaw4_PropBytes.j1 k x0 x3 false)
def fairwaylaw4_PropBytes.j1 : Nat → List (S25) → Int → Bool → Option (Bool)
  | 0, _, _, _ => none
  | k + 1, x0, x3, x18 => if x18 = true then (if 0 ≤ x3 then (if x3 < (x0.length : Int) then ((fairwaylaw4_heavy.f k ((rd_T25 x0 x3).f0) ((rd_T25 x0 x3).f1) ((rd_T25 x0 x3).f2)).bind fun t298 => (if t298 = true then (some true) else (fairwaylaw4_PropBytes.l1 k x0 x3 (-1) ((rd_T25 x0 x3).f0) ((rd_T25 x0 x3).f1) ((rd_T25 x0 x3).f2)))) else (none)) else (none)) else ((fairwaylaw4_wakes.f k).bind fun t295 => (some t295))
def fairwaylaw4_PropBytes.l1 : Nat → List (S25) → Int → Int → Int → List (S42) → ByteArray → Option (Bool)
  | 0, _, _, _, _, _, _ => none
  | k + 1, x0, x3, x5, x298000, x298001, x298002 => if x5 ≤ 16 then ((fairwayref0_CopyProps.f k x298001).bind fun t299 => ((prop_Bytes.f k x5 t299).bind fun bt302 => ((fairwayref4_Props.f k x5 x298001).bind fun t304 => (if t304 = true then ((fairwayref4_PropBytes.f k x298001).bind fun t305 => (fairwaylaw4_PropBytes.j3 k x0 x3 x5 t299 bt302.1 bt302.2 0 t305 x298000 x298001 x298002)) else (fairwaylaw4_PropBytes.j3 k x0 x3 x5 t299 bt302.1 bt302.2 1 (⟨#[]⟩ : ByteArray) x298000 x298001 x298002))))) else (fairwaylaw4_PropBytes.l0 k x0 (wrap64 (x3 + 1)))
def fairwaylaw4_PropBytes.j3 : Nat → List (S25) → Int → Int → List (S42) → ByteArray → Int → Int → ByteArray → Int → List (S42) → ByteArray → Option (Bool)
  | 0, _, _, _, _, _, _, _, _, _, _, _ => none
  | k + 1, x0, x3, x5, x6, x7, x8, x9, x10, x298000, x298001, x298002 => (prop_Check.f k x5 x6).bind fun t306 => ((fairwaylaw4_num.f t306).bind fun t307 => (if t307 = x9 then ((fairwaylaw4_num.f x8).bind fun t308 => (if t308 = x9 then (if x7.toList = x10.toList then ((fairwayref0_EqProps.f k x6 x298001).bind fun t309 => (if t309 = true then (fairwaylaw4_PropBytes.l1 k x0 x3 (wrap64 (x5 + 1)) x298000 x298001 x298002) else (some false))) else (some false)) else (some false))) else (some false)))
end
def fairwaylaw4_PropBytes.f (k : Nat) (l0 : List (S25)) : Option (Bool) := fairwaylaw4_PropBytes.l0 k l0 0
end Go.Proofs.YtiancopplinpcaaDoor.P
end
section
namespace Go.Proofs.YtiancopplinpcaaDoor.P
open Go.RowKit Go.Proofs.YtiancopplinpcaaDoorW.PrintWords Go.Proofs.YtiancopplinpcaaDoorW.PrintLast Go.Proofs.YtiancopplinpcaaDoorW.PrintMore
set_option linter.unusedSimpArgs false
set_option linter.unusedVariables false
theorem w64 {n : Int} (h0 : -9223372036854775808 ≤ n) (h1 : n ≤ 9223372036854775807) : wrap64 n = n := by unfold wrap64; omega
theorem wraps_i64 (n : Int) (h₀ : 0 ≤ n) (h₁ : n < 2 ^ 63) : IntKind.i64.wrap n = n := by rw [IntKind.wrap_i64]; omega
theorem bt_lo (s : ByteArray) (i : Int) : 0 ≤ bt s i := (bt_range s i).1
theorem bt_hi (s : ByteArray) (i : Int) : bt s i ≤ 255 := (bt_range s i).2
theorem w64bt (s : ByteArray) (i : Int) : wrap64 (bt s i) = bt s i := w64 (by have := bt_lo s i; omega) (by have := bt_hi s i; omega)
theorem and127 {x : Int} (h0 : 0 ≤ x) (h1 : x < 9223372036854775808) : Go.bits .and .i64 x 127 = x % 128 :=
  bits_mask .i64 63 (by decide) wraps_i64 7 (by decide) x h0 (by simpa using h1)
theorem or128 {x : Int} (h0 : 0 ≤ x) (h1 : x < 128) : Go.bits .or .i64 x 128 = x + 128 := by
  obtain ⟨a, rfl⟩ := Int.eq_ofNat_of_zero_le h0
  have h := (bits_nat .i64 63 (by decide) wraps_i64 a 128 (by have : a < 128 := by omega
                                                              exact Nat.lt_of_lt_of_le this (by decide)) (by decide)).2
  have e : a ||| 128 = a + 128 := by
    have : a < 2 ^ 7 := by omega
    rw [Nat.or_comm, show (128 : Nat) = 2 ^ 7 * 1 from rfl, ← Nat.two_pow_add_eq_or_of_lt this 1, Nat.add_comm]
  rw [e] at h
  simpa using h
theorem or_shl {x y : Int} (m : Nat) (hx : 0 ≤ x) (hx1 : x < 2 ^ m) (hy : 0 ≤ y) (hm : y * 2 ^ m + 2 ^ m ≤ 9223372036854775808) : Go.bits .or .i64 x (y * 2 ^ m) = x + y * 2 ^ m := by
  obtain ⟨a, rfl⟩ := Int.eq_ofNat_of_zero_le hx
  obtain ⟨b, rfl⟩ := Int.eq_ofNat_of_zero_le hy
  have ha : a < 2 ^ m := by exact_mod_cast hx1
  have hb : b * 2 ^ m + 2 ^ m ≤ 9223372036854775808 := by
    have e : (((b * 2 ^ m + 2 ^ m : Nat)) : Int) = (b : Int) * 2 ^ m + 2 ^ m := by simp
    omega
  have hp : 0 < 2 ^ m := Nat.two_pow_pos m
  have h := (bits_nat .i64 63 (by decide) wraps_i64 a (b * 2 ^ m) (Nat.lt_of_lt_of_le (by omega) (show 9223372036854775808 ≤ 2 ^ 63 by decide)) (Nat.lt_of_lt_of_le (by omega) (show 9223372036854775808 ≤ 2 ^ 63 by decide))).2
  rw [Nat.or_comm, show b * 2 ^ m = 2 ^ m * b from Nat.mul_comm _ _, ← Nat.two_pow_add_eq_or_of_lt ha b] at h
  have e : ((b : Int) * 2 ^ m) = ((2 ^ m * b : Nat) : Int) := by rw [Nat.mul_comm]; simp
  rw [e, h]
  simp [Int.add_comm]
theorem or_byte {x y : Int} (hx : 0 ≤ x) (hx1 : x < 36028797018963968) (hy : 0 ≤ y) (hy1 : y < 256) : Go.bits .or .i64 (x * 256) y = x * 256 + y :=
  bits_join .i64 63 (by decide) wraps_i64 8 (x * 256) y (by omega) (by omega) (by omega) hy (by omega) (by omega)
def vb (n : Nat) : List Int := if n < 128 then [(n : Int)] else ((n % 128 + 128 : Nat) : Int) :: vb (n / 128)
termination_by n
decreasing_by omega
theorem vb_small {n : Nat} (h : n < 128) : vb n = [(n : Int)] := by rw [vb, if_pos h]
theorem vb_big {n : Nat} (h : 128 ≤ n) : vb n = ((n % 128 + 128 : Nat) : Int) :: vb (n / 128) := by rw [vb, if_neg (by omega)]
theorem num_loop (n : Nat) : ∀ (k : Nat) (acc : List Int), n < k → (acc.length : Int) + n < 140737488355328 → vbi_Num.l0 k (n : Int) acc = some (strOfNums (acc ++ vb n), 0) := by
  induction n using Nat.strongRecOn with
  | _ n ih =>
    intro k acc hk hl
    obtain ⟨k, rfl⟩ : ∃ m, k = m + 1 := ⟨k - 1, by omega⟩
    simp only [vbi_Num.l0]
    rw [if_pos (show acc.length < 140737488355328 by omega)]
    by_cases h : n < 128
    · rw [if_neg (by omega), vb_small h, if_pos (by omega)]
      rw [show (n : Int) % 256 = n by omega]
    · have e : (Go.bits .or .i64 (Go.bits .and .i64 (n : Int) 127) 128) % 256 = ((n % 128 + 128 : Nat) : Int) := by
        rw [and127 (by omega) (by omega), or128 (by omega) (by omega)]; omega
      rw [if_pos (by omega), vb_big (by omega), e, show (n : Int) / 128 = ((n / 128 : Nat) : Int) by omega]
      rw [ih (n / 128) (by omega) k _ (by omega) (by simp; omega)]
      simp
def numOf (n : Int) : ByteArray := strOfNums (vb n.toNat)
theorem num_ok {n : Int} (h0 : 0 ≤ n) (h1 : n ≤ 268435455) : Ev (fun k => vbi_Num.f k n) (numOf n, 0) := by
  refine ⟨n.toNat + 3, fun k hk => ?_⟩
  obtain ⟨k, rfl⟩ : ∃ m, k = m + 1 := ⟨k - 1, by omega⟩
  obtain ⟨m, rfl⟩ := Int.eq_ofNat_of_zero_le h0
  dsimp only
  unfold vbi_Num.f
  rw [if_neg (by omega)]
  simp only [vbi_Num.j0]
  rw [if_neg (by simp; omega), num_loop m k [] (by omega) (by simp; omega)]
  rfl
theorem num_no {n : Int} (h : n < 0 ∨ 268435455 < n) : Ev (fun k => vbi_Num.f k n) ((⟨#[]⟩ : ByteArray), 2) := by
  refine ⟨1, fun k hk => ?_⟩
  obtain ⟨k, rfl⟩ : ∃ m, k = m + 1 := ⟨k - 1, by omega⟩
  dsimp only
  unfold vbi_Num.f
  rcases h with h | h
  · rw [if_pos h]; rfl
  · rw [if_neg (by omega)]
    simp only [vbi_Num.j0]
    rw [if_pos (by simp; omega)]
def tk (s : ByteArray) : Nat → Nat → Int → Int × Int × Int
  | 0, _, _ => (0, 0, 8)
  | d + 1, i, n => if s.size ≤ i then (0, 0, 7) else if 128 ≤ bt s i then tk s d (i + 1) (n + bt s i % 128 * 2 ^ (7 * i)) else if bt s i = 0 ∧ 0 < i then (0, 0, 8) else (n + bt s i % 128 * 2 ^ (7 * i), ((i + 1 : Nat) : Int), 0)
def tkn (s : ByteArray) : Int × Int × Int := tk s 4 0 0
theorem w7 (i : Nat) (hi : i < 4) : wrap64 (7 * (i : Int)) = ((7 * i : Nat) : Int) := by unfold wrap64; omega
theorem tk_step (i : Nat) (hi : i < 4) (n : Int) (h0 : 0 ≤ n) (h1 : n < 2 ^ (7 * i)) (c : Int) (hc0 : 0 ≤ c) (hc1 : c < 128) :
    Go.bits .or .i64 n (shl .i64 c (wrap64 (7 * (i : Int)))) = n + c * 2 ^ (7 * i) ∧ 0 ≤ n + c * 2 ^ (7 * i) ∧ n + c * 2 ^ (7 * i) < 2 ^ (7 * (i + 1)) := by
  have hw := w7 i hi
  have hs : shl .i64 c (wrap64 (7 * (i : Int))) = c * 2 ^ (7 * i) := by
    unfold shl
    rw [hw, Int.toNat_natCast, Nat.min_eq_left (by simp [IntKind.bits]; omega)]
    refine wraps_i64 _ ?_ ?_
    · exact Int.mul_nonneg hc0 (Int.pow_nonneg (by decide))
    · rcases (show i = 0 ∨ i = 1 ∨ i = 2 ∨ i = 3 by omega) with rfl | rfl | rfl | rfl <;> omega
  rw [hs]
  rcases (show i = 0 ∨ i = 1 ∨ i = 2 ∨ i = 3 by omega) with rfl | rfl | rfl | rfl
  all_goals refine ⟨or_shl _ h0 h1 hc0 (by omega), by omega, by omega⟩
theorem take_loop (s : ByteArray) (d : Nat) : ∀ (i : Nat) (n : Int) (k : Nat), i + d = 4 → 0 < d → 0 ≤ n → n < 2 ^ (7 * i) → 3 * d < k → vbi_TakeNum.l0 k s n (i : Int) = some (tk s d i n) := by
  induction d with
  | zero => intro i n k _ h; omega
  | succ d ih =>
    intro i n k hid _ h0 h1 hk
    obtain ⟨k, rfl⟩ : ∃ m, k = m + 3 := ⟨k - 3, by omega⟩
    have hb0 := bt_lo s i; have hb1 := bt_hi s i
    simp only [vbi_TakeNum.l0, tk]
    by_cases hs : s.size ≤ i
    · rw [if_neg (by omega), if_pos hs]
    · rw [if_pos (by omega), if_pos (by omega), if_pos (by rw [w7 i (by omega)]; exact Int.natCast_nonneg _), if_neg hs, w64bt, and127 hb0 (by omega)]
      obtain ⟨hv, hv0, hv1⟩ := tk_step i (by omega) n h0 h1 (bt s i % 128) (by omega) (by omega)
      rw [hv, w64 (n := (i : Int) + 1) (by omega) (by omega)]
      by_cases hc : 128 ≤ bt s i
      · rw [if_pos (by omega), if_pos hc]
        simp only [vbi_TakeNum.j1]
        by_cases h4 : (i : Int) + 1 = 4
        · have : d = 0 := by omega
          subst this
          rw [if_pos (by simp [h4])]
          simp only [vbi_TakeNum.j2]
          rw [if_pos (by simp [h4])]
          rfl
        · rw [if_neg (by simp [h4]), if_neg (by omega)]
          simp only [vbi_TakeNum.j2]
          rw [if_neg (by simp), if_neg (by omega)]
          exact ih (i + 1) _ k (by omega) (by omega) hv0 hv1 (by omega)
      · rw [if_neg (by omega), if_neg hc]
        simp only [vbi_TakeNum.j1]
        rw [if_neg (by simp)]
        by_cases hz : bt s i = 0
        · rw [if_pos hz]
          simp only [vbi_TakeNum.j2]
          by_cases hp : 0 < i
          · rw [if_pos (by simp; omega), if_pos ⟨hz, hp⟩]
          · rw [if_neg (by simp; omega), if_pos (by omega), if_neg (by omega)]
            rfl
        · rw [if_neg hz]
          simp only [vbi_TakeNum.j2]
          rw [if_neg (by simp), if_pos (by omega), if_neg (by omega)]
          rfl
theorem take_ev (s : ByteArray) : Ev (fun k => vbi_TakeNum.f k s) (tkn s) :=
  ⟨20, fun k hk => take_loop s 4 0 0 k rfl (by decide) (by decide) (by decide) (by omega)⟩
theorem ref_take_loop (s : ByteArray) (d : Nat) : ∀ (i : Nat) (n : Int) (k : Nat), i + d = 4 → 0 ≤ n → n < 2 ^ (7 * i) → d < k → fairwayref1_TakeNum.l0 k s n (i : Int) = some (tk s d i n) := by
  induction d with
  | zero =>
    intro i n k hid _ _ hk
    obtain ⟨k, rfl⟩ : ∃ m, k = m + 1 := ⟨k - 1, by omega⟩
    simp only [fairwayref1_TakeNum.l0, tk]
    rw [if_neg (by omega)]
  | succ d ih =>
    intro i n k hid h0 h1 hk
    obtain ⟨k, rfl⟩ : ∃ m, k = m + 1 := ⟨k - 1, by omega⟩
    have hb0 := bt_lo s i; have hb1 := bt_hi s i
    simp only [fairwayref1_TakeNum.l0, tk]
    rw [if_pos (by omega)]
    by_cases hs : s.size ≤ i
    · rw [if_pos (by omega), if_pos hs]
    · rw [if_neg (by omega), if_pos (by omega), if_pos (by omega), if_pos (by rw [w7 i (by omega)]; exact Int.natCast_nonneg _), if_neg hs, w64bt, Int.tmod_eq_emod_of_nonneg hb0]
      obtain ⟨hv, hv0, hv1⟩ := tk_step i (by omega) n h0 h1 (bt s i % 128) (by omega) (by omega)
      rw [hv, w64 (n := (i : Int) + 1) (by omega) (by omega)]
      by_cases hc : 128 ≤ bt s i
      · rw [if_neg (by omega), if_pos hc]
        exact ih (i + 1) _ k (by omega) hv0 hv1 (by omega)
      · rw [if_pos (by omega), if_neg hc]
        by_cases hz : bt s i = 0
        · rw [if_pos hz]
          by_cases hp : 0 < i
          · rw [if_pos (by omega), if_pos ⟨hz, hp⟩]
          · rw [if_neg (by omega), if_neg (by omega)]
            rfl
        · rw [if_neg hz, if_neg (by omega)]
          rfl
theorem ref_take_ev (s : ByteArray) : Ev (fun k => fairwayref1_TakeNum.f k s) (tkn s) :=
  ⟨20, fun k hk => ref_take_loop s 4 0 0 k rfl (by decide) (by decide) (by omega)⟩
theorem shr_at {n : Int} (m : Nat) (j : Int) (hj : wrap64 j = (m : Int)) (hm : m ≤ 64) : shr .i64 n (wrap64 j) = n / 2 ^ m := by
  unfold shr
  rw [hj, Int.toNat_natCast, Nat.min_eq_left (by simpa [IntKind.bits] using hm)]
def two (n : Int) : ByteArray := strOfNums [n / 256 % 256, n % 256]
def four (n : Int) : ByteArray := strOfNums [n / 16777216 % 256, n / 65536 % 256, n / 256 % 256, n % 256]
theorem two_ev (n : Int) : Ev (fun k => vbi_Two.f k n) (if 0 ≤ n ∧ n ≤ 65535 then (two n, 0) else ((⟨#[]⟩ : ByteArray), 2)) := by
  refine ⟨10, fun k hk => ?_⟩
  obtain ⟨k, rfl⟩ : ∃ m, k = m + 10 := ⟨k - 10, by omega⟩
  have e0 : shr .i64 n (wrap64 (8 * 0)) = n := by rw [shr_at 0 _ (by unfold wrap64; omega) (by decide)]; simp
  have e1 : shr .i64 n (wrap64 (8 * 1)) = n / 256 := by rw [shr_at 8 _ (by unfold wrap64; omega) (by decide)]; rfl
  have e2 : shr .i64 n (wrap64 (8 * 2)) = n / 65536 := by rw [shr_at 16 _ (by unfold wrap64; omega) (by decide)]; rfl
  dsimp only
  unfold vbi_Two.f vbi_high.f
  by_cases h0 : n < 0
  · rw [if_pos h0, if_neg (by omega)]
    simp only [vbi_high.j0, if_true, Option.bind_some]
  · rw [if_neg h0, if_pos (by unfold wrap64; omega), e2]
    simp only [vbi_high.j0]
    by_cases h1 : n ≤ 65535
    · have hz : n / 65536 = 0 := by omega
      rw [hz, if_neg (by decide), if_pos (by decide), if_pos (by decide), if_pos ⟨by omega, h1⟩]
      simp only [Option.bind_some, vbi_high.l0]
      simp only [show (wrap64 (wrap64 (2 - 1) - 0)) = 1 by unfold wrap64; omega, show wrap64 (0 + 1) = 1 by unfold wrap64; omega, show (wrap64 (wrap64 (2 - 1) - 1)) = 0 by unfold wrap64; omega, show wrap64 (1 + 1) = 2 by unfold wrap64; omega, e0, e1,
        show (0 : Int) < ((List.replicate (2 : Int).toNat 0 : List Int).length : Int) by decide, show (1 : Int) < ((List.replicate (2 : Int).toNat 0 : List Int).length : Int) by decide, show ¬ (2 : Int) < ((List.replicate (2 : Int).toNat 0 : List Int).length : Int) by decide,
        if_true, if_false, List.length_set, show (0 : Int) ≤ wrap64 (8 * 0) by unfold wrap64; omega, show (0 : Int) ≤ wrap64 (8 * 1) by unfold wrap64; omega, show (0 : Int) ≤ 1 by decide, Int.le_refl]
      rfl
    · rw [if_pos (by simp; omega), if_neg (by omega)]
      rfl
theorem four_ev (n : Int) : Ev (fun k => vbi_Four.f k n) (if 0 ≤ n ∧ n ≤ 4294967295 then (four n, 0) else ((⟨#[]⟩ : ByteArray), 2)) := by
  refine ⟨10, fun k hk => ?_⟩
  obtain ⟨k, rfl⟩ : ∃ m, k = m + 10 := ⟨k - 10, by omega⟩
  have e0 : shr .i64 n (wrap64 (8 * 0)) = n := by rw [shr_at 0 _ (by unfold wrap64; omega) (by decide)]; simp
  have e1 : shr .i64 n (wrap64 (8 * 1)) = n / 256 := by rw [shr_at 8 _ (by unfold wrap64; omega) (by decide)]; rfl
  have e2 : shr .i64 n (wrap64 (8 * 2)) = n / 65536 := by rw [shr_at 16 _ (by unfold wrap64; omega) (by decide)]; rfl
  have e3 : shr .i64 n (wrap64 (8 * 3)) = n / 16777216 := by rw [shr_at 24 _ (by unfold wrap64; omega) (by decide)]; rfl
  have e4 : shr .i64 n (wrap64 (8 * 4)) = n / 4294967296 := by rw [shr_at 32 _ (by unfold wrap64; omega) (by decide)]; rfl
  dsimp only
  unfold vbi_Four.f vbi_high.f
  by_cases h0 : n < 0
  · rw [if_pos h0, if_neg (by omega)]
    simp only [vbi_high.j0, if_true, Option.bind_some]
  · rw [if_neg h0, if_pos (by unfold wrap64; omega), e4]
    simp only [vbi_high.j0]
    by_cases h1 : n ≤ 4294967295
    · have hz : n / 4294967296 = 0 := by omega
      rw [hz, if_neg (by decide), if_pos (by decide), if_pos (by decide), if_pos ⟨by omega, h1⟩]
      simp only [Option.bind_some, vbi_high.l0]
      simp only [show (wrap64 (wrap64 (4 - 1) - 0)) = 3 by unfold wrap64; omega, show wrap64 (0 + 1) = 1 by unfold wrap64; omega, show (wrap64 (wrap64 (4 - 1) - 1)) = 2 by unfold wrap64; omega, show wrap64 (1 + 1) = 2 by unfold wrap64; omega, show (wrap64 (wrap64 (4 - 1) - 2)) = 1 by unfold wrap64; omega, show wrap64 (2 + 1) = 3 by unfold wrap64; omega, show (wrap64 (wrap64 (4 - 1) - 3)) = 0 by unfold wrap64; omega, show wrap64 (3 + 1) = 4 by unfold wrap64; omega, e0, e1, e2, e3,
        show (0 : Int) < ((List.replicate (4 : Int).toNat 0 : List Int).length : Int) by decide, show (1 : Int) < ((List.replicate (4 : Int).toNat 0 : List Int).length : Int) by decide, show (2 : Int) < ((List.replicate (4 : Int).toNat 0 : List Int).length : Int) by decide, show (3 : Int) < ((List.replicate (4 : Int).toNat 0 : List Int).length : Int) by decide, show ¬ (4 : Int) < ((List.replicate (4 : Int).toNat 0 : List Int).length : Int) by decide,
        if_true, if_false, List.length_set, show (0 : Int) ≤ wrap64 (8 * 0) by unfold wrap64; omega, show (0 : Int) ≤ wrap64 (8 * 1) by unfold wrap64; omega, show (0 : Int) ≤ wrap64 (8 * 2) by unfold wrap64; omega, show (0 : Int) ≤ wrap64 (8 * 3) by unfold wrap64; omega, show (0 : Int) ≤ 1 by decide, show (0 : Int) ≤ 2 by decide, show (0 : Int) ≤ 3 by decide, Int.le_refl]
      rfl
    · rw [if_pos (by simp; omega), if_neg (by omega)]
      rfl
def val2 (s : ByteArray) : Int := bt s 0 * 256 + bt s 1
def val4 (s : ByteArray) : Int := ((bt s 0 * 256 + bt s 1) * 256 + bt s 2) * 256 + bt s 3
theorem or00 {y : Int} (hy : 0 ≤ y) (hy1 : y < 256) : Go.bits .or .i64 (wrap64 (0 * 256)) y = y := by
  have := or_byte (x := 0) (by decide) (by decide) hy hy1
  rw [show wrap64 (0 * 256) = 0 * 256 by unfold wrap64; omega, this]; omega
theorem orb {x y : Int} (hx : 0 ≤ x) (hx1 : x < 36028797018963968) (hy : 0 ≤ y) (hy1 : y < 256) : Go.bits .or .i64 (wrap64 (x * 256)) y = x * 256 + y := by
  rw [w64 (by omega) (by omega), or_byte hx hx1 hy hy1]
theorem takeTwo_ev (s : ByteArray) : Ev (fun k => vbi_TakeTwo.f k s) (if (s.size : Int) < 2 then (0, 7) else (val2 s, 0)) := by
  refine ⟨10, fun k hk => ?_⟩
  obtain ⟨k, rfl⟩ : ∃ m, k = m + 10 := ⟨k - 10, by omega⟩
  dsimp only
  unfold vbi_TakeTwo.f vbi_taken.f
  by_cases h : (s.size : Int) < 2
  · rw [if_pos h, if_pos h]; rfl
  · have h0 := bt_range s 0; have h1 := bt_range s 1
    rw [if_neg h, if_neg h]
    simp only [vbi_taken.l0, show wrap64 (0 + 1) = 1 by unfold wrap64; omega, show wrap64 (1 + 1) = 2 by unfold wrap64; omega, w64bt, or00 h0.1 (show bt s 0 < 256 by omega), orb h0.1 (show bt s 0 < 36028797018963968 by omega) h1.1 (show bt s 1 < 256 by omega),
      show (0 : Int) < 2 by decide, show (1 : Int) < 2 by decide, Int.lt_irrefl, Int.le_refl, show (0 : Int) ≤ 1 by decide, show (0 : Int) < (s.size : Int) by omega, show (1 : Int) < (s.size : Int) by omega, if_true, if_false, Option.bind_some]
    rfl
theorem takeFour_ev (s : ByteArray) : Ev (fun k => vbi_TakeFour.f k s) (if (s.size : Int) < 4 then (0, 7) else (val4 s, 0)) := by
  refine ⟨10, fun k hk => ?_⟩
  obtain ⟨k, rfl⟩ : ∃ m, k = m + 10 := ⟨k - 10, by omega⟩
  dsimp only
  unfold vbi_TakeFour.f vbi_taken.f
  by_cases h : (s.size : Int) < 4
  · rw [if_pos h, if_pos h]; rfl
  · have h0 := bt_range s 0; have h1 := bt_range s 1; have h2 := bt_range s 2; have h3 := bt_range s 3
    rw [if_neg h, if_neg h]
    simp only [vbi_taken.l0, show wrap64 (0 + 1) = 1 by unfold wrap64; omega, show wrap64 (1 + 1) = 2 by unfold wrap64; omega, show wrap64 (2 + 1) = 3 by unfold wrap64; omega, show wrap64 (3 + 1) = 4 by unfold wrap64; omega, w64bt, or00 h0.1 (show bt s 0 < 256 by omega), orb h0.1 (show bt s 0 < 36028797018963968 by omega) h1.1 (show bt s 1 < 256 by omega),
      orb (show 0 ≤ bt s 0 * 256 + bt s 1 by omega) (show bt s 0 * 256 + bt s 1 < 36028797018963968 by omega) h2.1 (show bt s 2 < 256 by omega), orb (show 0 ≤ (bt s 0 * 256 + bt s 1) * 256 + bt s 2 by omega) (show (bt s 0 * 256 + bt s 1) * 256 + bt s 2 < 36028797018963968 by omega) h3.1 (show bt s 3 < 256 by omega),
      show (0 : Int) < 4 by decide, show (1 : Int) < 4 by decide, show (2 : Int) < 4 by decide, show (3 : Int) < 4 by decide, Int.lt_irrefl, Int.le_refl, show (0 : Int) ≤ 1 by decide, show (0 : Int) ≤ 2 by decide, show (0 : Int) ≤ 3 by decide, show (0 : Int) < (s.size : Int) by omega, show (1 : Int) < (s.size : Int) by omega, show (2 : Int) < (s.size : Int) by omega, show (3 : Int) < (s.size : Int) by omega, if_true, if_false, Option.bind_some]
    rfl
theorem ref_take1_ev (s : ByteArray) : Ev (fun k => fairwayref1_TakeFixed.f k s 1) (if (s.size : Int) < 1 then (0, false) else (bt s 0, true)) := by
  refine ⟨10, fun k hk => ?_⟩
  obtain ⟨k, rfl⟩ : ∃ m, k = m + 10 := ⟨k - 10, by omega⟩
  dsimp only
  unfold fairwayref1_TakeFixed.f
  by_cases h : (s.size : Int) < 1
  · rw [if_pos h, if_pos h]
  · have h0 := bt_range s 0
    rw [if_neg h, if_neg h]
    simp only [fairwayref1_TakeFixed.l0, show wrap64 (0 + 1) = 1 by unfold wrap64; omega, w64bt, or00 h0.1 (show bt s 0 < 256 by omega),
      show (0 : Int) < 1 by decide, Int.lt_irrefl, Int.le_refl, show (0 : Int) < (s.size : Int) by omega, if_true, if_false]
theorem ref_take2_ev (s : ByteArray) : Ev (fun k => fairwayref1_TakeFixed.f k s 2) (if (s.size : Int) < 2 then (0, false) else (val2 s, true)) := by
  refine ⟨10, fun k hk => ?_⟩
  obtain ⟨k, rfl⟩ : ∃ m, k = m + 10 := ⟨k - 10, by omega⟩
  dsimp only
  unfold fairwayref1_TakeFixed.f
  by_cases h : (s.size : Int) < 2
  · rw [if_pos h, if_pos h]
  · have h0 := bt_range s 0; have h1 := bt_range s 1
    rw [if_neg h, if_neg h]
    simp only [fairwayref1_TakeFixed.l0, show wrap64 (0 + 1) = 1 by unfold wrap64; omega, show wrap64 (1 + 1) = 2 by unfold wrap64; omega, w64bt, or00 h0.1 (show bt s 0 < 256 by omega), orb h0.1 (show bt s 0 < 36028797018963968 by omega) h1.1 (show bt s 1 < 256 by omega),
      show (0 : Int) < 2 by decide, show (1 : Int) < 2 by decide, Int.lt_irrefl, Int.le_refl, show (0 : Int) ≤ 1 by decide, show (0 : Int) < (s.size : Int) by omega, show (1 : Int) < (s.size : Int) by omega, if_true, if_false]
    rfl
theorem ref_take4_ev (s : ByteArray) : Ev (fun k => fairwayref1_TakeFixed.f k s 4) (if (s.size : Int) < 4 then (0, false) else (val4 s, true)) := by
  refine ⟨10, fun k hk => ?_⟩
  obtain ⟨k, rfl⟩ : ∃ m, k = m + 10 := ⟨k - 10, by omega⟩
  dsimp only
  unfold fairwayref1_TakeFixed.f
  by_cases h : (s.size : Int) < 4
  · rw [if_pos h, if_pos h]
  · have h0 := bt_range s 0; have h1 := bt_range s 1; have h2 := bt_range s 2; have h3 := bt_range s 3
    rw [if_neg h, if_neg h]
    simp only [fairwayref1_TakeFixed.l0, show wrap64 (0 + 1) = 1 by unfold wrap64; omega, show wrap64 (1 + 1) = 2 by unfold wrap64; omega, show wrap64 (2 + 1) = 3 by unfold wrap64; omega, show wrap64 (3 + 1) = 4 by unfold wrap64; omega, w64bt, or00 h0.1 (show bt s 0 < 256 by omega), orb h0.1 (show bt s 0 < 36028797018963968 by omega) h1.1 (show bt s 1 < 256 by omega),
      orb (show 0 ≤ bt s 0 * 256 + bt s 1 by omega) (show bt s 0 * 256 + bt s 1 < 36028797018963968 by omega) h2.1 (show bt s 2 < 256 by omega), orb (show 0 ≤ (bt s 0 * 256 + bt s 1) * 256 + bt s 2 by omega) (show (bt s 0 * 256 + bt s 1) * 256 + bt s 2 < 36028797018963968 by omega) h3.1 (show bt s 3 < 256 by omega),
      show (0 : Int) < 4 by decide, show (1 : Int) < 4 by decide, show (2 : Int) < 4 by decide, show (3 : Int) < 4 by decide, Int.lt_irrefl, Int.le_refl, show (0 : Int) ≤ 1 by decide, show (0 : Int) ≤ 2 by decide, show (0 : Int) ≤ 3 by decide, show (0 : Int) < (s.size : Int) by omega, show (1 : Int) < (s.size : Int) by omega, show (2 : Int) < (s.size : Int) by omega, show (3 : Int) < (s.size : Int) by omega, if_true, if_false]
    rfl
end Go.Proofs.YtiancopplinpcaaDoor.P
end
section
namespace Go.Proofs.YtiancopplinpcaaDoor.P
open Go.RowKit Go.Proofs.YtiancopplinpcaaDoorW.PrintWords Go.Proofs.YtiancopplinpcaaDoorW.PrintLast Go.Proofs.YtiancopplinpcaaDoorW.PrintMore
set_option linter.unusedSimpArgs false
set_option linter.unusedVariables false
def kindOf (id : Int) : Int :=
  if id ∈ [1, 23, 25, 36, 37, 40, 41, 42] then 1 else if id ∈ [19, 33, 34, 35] then 2 else if id ∈ [2, 17, 24, 39] then 3 else if id = 11 then 4 else if id ∈ [3, 8, 18, 21, 26, 28, 31] then 5 else if id ∈ [9, 22] then 6 else if id = 38 then 7 else 0
theorem kindOf_range (id : Int) : 0 ≤ kindOf id ∧ kindOf id ≤ 7 := by
  unfold kindOf
  repeat' split
  all_goals omega
theorem kindOf_out {id : Int} (h : id < 0 ∨ 42 < id) : kindOf id = 0 := by
  unfold kindOf
  simp only [List.mem_cons, List.not_mem_nil, or_false]
  repeat rw [if_neg (by omega)]
set_option maxRecDepth 100000 in
theorem kind_in : ∀ n : Fin 43, prop_Kind.f 6 (n.val : Int) = some (kindOf (n.val : Int), if kindOf (n.val : Int) = 0 then 3 else 0) := by decide
set_option maxRecDepth 100000 in
theorem refKind_in : ∀ n : Fin 43, fairwayref4_Kind.f 6 (n.val : Int) = some (kindOf (n.val : Int)) := by decide
theorem kind_ev (id : Int) : Ev (fun k => prop_Kind.f k id) (kindOf id, if kindOf id = 0 then 3 else 0) := by
  refine Ev.of (prop_Kind.mono id) (k := 6) ?_
  by_cases h : id < 0 ∨ 42 < id
  · rw [kindOf_out h, if_pos rfl]
    simp only [prop_Kind.f, prop_Kind.j0, prop_Kind.j1, prop_Kind.j2, prop_Kind.j3, prop_Kind.j4, beq_iff_eq]
    repeat rw [if_neg (by omega)]
  · have := kind_in ⟨id.toNat, by omega⟩
    have e : ((id.toNat : Nat) : Int) = id := by omega
    simpa only [e] using this
theorem refKind_ev (id : Int) : Ev (fun k => fairwayref4_Kind.f k id) (kindOf id) := by
  refine Ev.of (fairwayref4_Kind.mono id) (k := 6) ?_
  by_cases h : id < 0 ∨ 42 < id
  · rw [kindOf_out h]
    simp only [fairwayref4_Kind.f, fairwayref4_Kind.j0, fairwayref4_Kind.j1, fairwayref4_Kind.j2, fairwayref4_Kind.j3, fairwayref4_Kind.j4, beq_iff_eq]
    repeat rw [if_neg (by omega)]
  · have := refKind_in ⟨id.toNat, by omega⟩
    have e : ((id.toNat : Nat) : Int) = id := by omega
    simpa only [e] using this
def placeL (p : Int) : List Int :=
  if p = 0 then [1, 2, 3, 8, 9, 24, 38] else if p = 1 then [17, 21, 22, 23, 25, 33, 34, 38, 39] else if p = 2 then [17, 18, 19, 21, 22, 26, 28, 31, 33, 34, 36, 37, 38, 39, 40, 41, 42] else if p = 3 then [1, 2, 3, 8, 9, 11, 35, 38]
  else if p = 4 ∨ p = 5 ∨ p = 6 ∨ p = 7 ∨ p = 9 ∨ p = 11 then [31, 38] else if p = 8 then [11, 38] else if p = 10 then [38] else if p = 14 then [17, 28, 31, 38] else if p = 15 then [21, 22, 31, 38] else []
theorem placeL_out {p : Int} (h : p < 0 ∨ 15 < p) : placeL p = [] := by
  unfold placeL
  repeat rw [if_neg (by omega)]
set_option maxRecDepth 100000 in
theorem stands_in : ∀ n : Fin 16, prop_stands.f 3 (n.val : Int) = some (placeL (n.val : Int), true) := by decide
theorem stands_ev (p : Int) : Ev (fun k => prop_stands.f k p) (placeL p, decide (0 ≤ p ∧ p ≤ 15)) := by
  refine Ev.of (prop_stands.mono p) (k := 3) ?_
  by_cases h : p < 0 ∨ 15 < p
  · rw [placeL_out h, decide_eq_false (by omega)]
    simp only [prop_stands.f, prop_stands.j0, beq_iff_eq]
    repeat rw [if_neg (by omega)]
  · have := stands_in ⟨p.toNat, by omega⟩
    have e : ((p.toNat : Nat) : Int) = p := by omega
    rw [decide_eq_true (by omega)]
    simpa only [e] using this
theorem in_loop (l : List Int) (x : Int) (hl : l.length ≤ 1000) (d : Nat) : ∀ (i k : Nat), l.length - i = d → d < k → ∃ r, fairwayref0_In.l0 k l x (i : Int) = some r ∧ (r ≥ 0 ↔ x ∈ l.drop i) := by
  induction d with
  | zero =>
    intro i k hd hk
    obtain ⟨k, rfl⟩ : ∃ m, k = m + 1 := ⟨k - 1, by omega⟩
    refine ⟨-1, ?_, ?_⟩
    · simp only [fairwayref0_In.l0]
      rw [if_neg (by omega)]
    · rw [List.drop_of_length_le (by omega)]
      simp
  | succ d ih =>
    intro i k hd hk
    obtain ⟨k, rfl⟩ : ∃ m, k = m + 1 := ⟨k - 1, by omega⟩
    have hi : i < l.length := by omega
    have hrd : rd l (i : Int) = l[i] := by simp [rd, hi]
    rw [List.drop_eq_getElem_cons hi]
    by_cases h : l[i] = x
    · refine ⟨i, ?_, by simp [h]⟩
      simp only [fairwayref0_In.l0]
      rw [if_pos (by omega), if_pos (by omega), hrd, if_pos h]
    · obtain ⟨r, hr, hm⟩ := ih (i + 1) k (by omega) (by omega)
      refine ⟨r, ?_, ?_⟩
      · simp only [fairwayref0_In.l0]
        rw [if_pos (by omega), if_pos (by omega), hrd, if_neg h, w64 (by omega) (by omega)]
        exact hr
      · rw [hm, List.mem_cons]
        constructor
        · exact .inr
        · rintro (rfl | h2)
          · exact absurd rfl h
          · exact h2
theorem in_ev (l : List Int) (x : Int) (hl : l.length ≤ 1000) : ∃ r, Ev (fun k => fairwayref0_In.f k l x) r ∧ (r ≥ 0 ↔ x ∈ l) := by
  obtain ⟨r, hr, hm⟩ := in_loop l x hl l.length 0 (l.length + 1) (by omega) (by omega)
  exact ⟨r, Ev.of (fairwayref0_In.mono l x) hr, by simpa using hm⟩
theorem index_loop (l : List Int) (x : Int) (hl : l.length ≤ 1000) (d : Nat) : ∀ (i k : Nat), l.length - i = d → d < k → ∃ r, slices_Index_int_int.l0 k l x (l.length : Int) (i : Int) = some r ∧ (r ≥ 0 ↔ x ∈ l.drop i) := by
  induction d with
  | zero =>
    intro i k hd hk
    obtain ⟨k, rfl⟩ : ∃ m, k = m + 1 := ⟨k - 1, by omega⟩
    refine ⟨-1, ?_, ?_⟩
    · simp only [slices_Index_int_int.l0]
      rw [if_neg (by omega)]
    · rw [List.drop_of_length_le (by omega)]
      simp
  | succ d ih =>
    intro i k hd hk
    obtain ⟨k, rfl⟩ : ∃ m, k = m + 1 := ⟨k - 1, by omega⟩
    have hi : i < l.length := by omega
    have hrd : rd l (i : Int) = l[i] := by simp [rd, hi]
    rw [List.drop_eq_getElem_cons hi]
    by_cases h : x = l[i]
    · refine ⟨i, ?_, ⟨fun _ => by rw [h]; exact List.mem_cons_self, fun _ => Int.natCast_nonneg _⟩⟩
      simp only [slices_Index_int_int.l0]
      rw [if_pos (by omega), if_pos (by omega), if_pos (by omega), hrd, if_pos h]
    · obtain ⟨r, hr, hm⟩ := ih (i + 1) k (by omega) (by omega)
      refine ⟨r, ?_, ?_⟩
      · simp only [slices_Index_int_int.l0]
        rw [if_pos (by omega), if_pos (by omega), if_pos (by omega), hrd, if_neg h, w64 (by omega) (by omega)]
        exact hr
      · rw [hm, List.mem_cons]
        constructor
        · exact .inr
        · rintro (rfl | h2)
          · exact absurd rfl h
          · exact h2
theorem contains_ev (l : List Int) (x : Int) (hl : l.length ≤ 1000) : Ev (fun k => slices_Contains_int_int.f k l x) (decide (x ∈ l)) := by
  obtain ⟨r, hr, hm⟩ := index_loop l x hl l.length 0 (l.length + 1) (by omega) (by omega)
  refine Ev.of (slices_Contains_int_int.mono l x) (k := l.length + 1) ?_
  unfold slices_Contains_int_int.f slices_Index_int_int.f
  rw [show (0 : Int) = ((0 : Nat) : Int) from rfl, hr]
  simp only [Option.bind_some, Option.some.injEq]
  exact decide_eq_decide.2 (by simpa using hm)
theorem placeL_len (p : Int) : (placeL p).length ≤ 17 := by
  unfold placeL
  repeat' split
  all_goals decide
theorem refStands_ev (p id : Int) : Ev (fun k => fairwayref4_stands.f k p id) (decide (id ∈ placeL p)) := by
  obtain ⟨r, ⟨K, hr⟩, hm⟩ := in_ev (placeL p) id (by have := placeL_len p; omega)
  refine ⟨K + 3, fun k hk => ?_⟩
  obtain ⟨k, rfl⟩ : ∃ m, k = m + 1 := ⟨k - 1, by omega⟩
  have h0 := hr (k + 1) (by omega)
  have h1 := hr k (by omega)
  have e : decide (r ≥ 0) = decide (id ∈ placeL p) := decide_eq_decide.2 hm
  dsimp only at h0 h1 ⊢
  by_cases hp : p < 0 ∨ 15 < p
  · rw [placeL_out hp] at h0 h1 e ⊢
    simp only [fairwayref4_stands.f, fairwayref4_stands.j0, beq_iff_eq]
    repeat rw [if_neg (by omega)]
    rw [h1]
    simp only [Option.bind_some, e]
  · have hc : p = 0 ∨ p = 1 ∨ p = 2 ∨ p = 3 ∨ p = 4 ∨ p = 5 ∨ p = 6 ∨ p = 7 ∨ p = 8 ∨ p = 9 ∨ p = 10 ∨ p = 11 ∨ p = 12 ∨ p = 13 ∨ p = 14 ∨ p = 15 := by omega
    unfold placeL at h0 h1
    rw [← e]
    rcases hc with rfl | rfl | rfl | rfl | rfl | rfl | rfl | rfl | rfl | rfl | rfl | rfl | rfl | rfl | rfl | rfl
    all_goals simp only [fairwayref4_stands.f, fairwayref4_stands.j0, beq_iff_eq, reduceIte, Int.reduceEq, or_self, or_true, or_false, true_or, false_or, if_true, if_false] at h0 h1 ⊢
    all_goals first | (rw [h0]; rfl) | (rw [h1]; rfl)
theorem nought_is (id : Int) : prop_nought.f id = some (decide (id = 33 ∨ id = 35 ∨ id = 39 ∨ id = 11)) := by
  unfold prop_nought.f
  by_cases a : id = 33
  · simp [a]
  · by_cases b : id = 35
    · simp [b]
    · by_cases c : id = 39
      · simp [c]
      · simp only [a, b, c, if_false, false_or]
        rfl
end Go.Proofs.YtiancopplinpcaaDoor.P
end
section
namespace Go.Proofs.YtiancopplinpcaaDoor.P
open Go.RowKit Go.Proofs.YtiancopplinpcaaDoorW.PrintWords Go.Proofs.YtiancopplinpcaaDoorW.PrintLast Go.Proofs.YtiancopplinpcaaDoorW.PrintMore
attribute [local go_sem] max2_int min2_int max_two min_two max_three min_three max_four min_four
set_option linter.unusedVariables false
set_option linter.unusedSimpArgs false
def fairwayref1_TakeLong.f (k : Nat) (a0 : ByteArray) (a1 : Bool) : Option (ByteArray × Int × Int) := (fairwayref1_TakeFixed.f k a0 2).bind fun bt402 => (if bt402.2 = true then (if bt402.1 > 1024 then (some ((⟨#[]⟩ : ByteArray), 0, 2)) else (if (wrap64 ((a0.size : Int) - 2)) < bt402.1 then (some ((⟨#[]⟩ : ByteArray), 0, 7)) else (if 2 ≤ (wrap64 (2 + bt402.1)) then (if (wrap64 (2 + bt402.1)) ≤ (a0.size : Int) then (if a1 = true then ((fairwayref1_Text.f k (a0.extract 2 ((wrap64 (2 + bt402.1)) : Int).toNat)).bind fun t404 => (if t404 = 0 then (some (a0.extract 2 ((wrap64 (2 + bt402.1)) : Int).toNat, wrap64 (2 + bt402.1), 0)) else (some ((⟨#[]⟩ : ByteArray), 0, t404)))) else (some (a0.extract 2 ((wrap64 (2 + bt402.1)) : Int).toNat, wrap64 (2 + bt402.1), 0))) else (none)) else (none)))) else (some ((⟨#[]⟩ : ByteArray), 0, 7)))
theorem fairwayref1_TakeLong.mono : ∀ a0 a1 k, LeO (fairwayref1_TakeLong.f k a0 a1) (fairwayref1_TakeLong.f (k + 1) a0 a1) := by
 intro a0 a1 k
 unfold fairwayref1_TakeLong.f; repeat' first
   | (with_reducible exact fairwayref1_TakeFixed.mono _ _ _)
   | (with_reducible exact fairwayref1_Text.mono _ _)
   | (with_reducible exact LeO.refl _)
   | (with_reducible exact LeO.none _)
   | (with_reducible refine LeO.ite ?_ ?_)
   | (with_reducible refine LeO.bind ?_ (fun _ => ?_))
   | exact fairwayref1_TakeFixed.mono _ _ _
   | exact fairwayref1_Text.mono _ _
   | exact LeO.none _
   | refine LeO.ite ?_ ?_
   | refine LeO.bind ?_ (fun _ => ?_)
mutual
def fairwayref4_value.j0 : Nat → ByteArray → Int → Int → Bool → Int → Int → ByteArray → ByteArray → Option (Int × Int × ByteArray × ByteArray × Int × Int)
  | 0, _, _, _, _, _, _, _, _ => none
  | k + 1, x1, x8, x24, x25, x407000, x407001, x407002, x407003 => if x25 = true then ((some (([0, 1, 2, 4] : List Int) : List Int)).bind fun y408 => (if 0 ≤ x8 then (if x8 < (y408.length : Int) then ((fairwayref1_TakeFixed.f k x1 (rd y408 x8)).bind fun bt412 => (if bt412.2 = true then (some (x407000, bt412.1, x407002, x407003, rd y408 x8, 0)) else (some (x407000, x407001, x407002, x407003, 0, 8)))) else (none)) else (none))) else (if x24 = 4 then ((fairwayref1_TakeNum.f k x1).bind fun bt414 => ((fairwayref4_inner.f bt414.2.2).bind fun t417 => (some (x407000, bt414.1, x407002, x407003, bt414.2.1, t417)))) else ((fairwayref1_TakeLong.f k x1 (x8 != 6)).bind fun bt418 => (if bt418.2.2 = 0 then (fairwayref4_value.j1 k x1 bt418.1 bt418.2.1 bt418.2.2 (x8 != 7) x407000 x407001 x407002 x407003) else (fairwayref4_value.j1 k x1 bt418.1 bt418.2.1 bt418.2.2 true x407000 x407001 x407002 x407003))))
def fairwayref4_value.j1 : Nat → ByteArray → ByteArray → Int → Int → Bool → Int → Int → ByteArray → ByteArray → Option (Int × Int × ByteArray × ByteArray × Int × Int)
  | 0, _, _, _, _, _, _, _, _, _ => none
  | k + 1, x1, x15, x16, x17, x73, x407000, x407001, x407002, x407003 => if x73 = true then ((fairwayref4_inner.f x17).bind fun t421 => (some (x407000, x407001, x15, x407003, x16, t421))) else (if 0 ≤ x16 then (if x16 ≤ (x1.size : Int) then ((fairwayref1_TakeLong.f k (x1.extract (x16 : Int).toNat x1.size) true).bind fun bt422 => ((fairwayref4_inner.f bt422.2.2).bind fun t425 => (some (x407000, x407001, x15, bt422.1, wrap64 (x16 + bt422.2.1), t425)))) else (none)) else (none))
end
def fairwayref4_value.f (k : Nat) (a0 : Int) (a1 : ByteArray) : Option (Int × Int × ByteArray × ByteArray × Int × Int) := (fairwayref4_Kind.f k a0).bind fun t407 => (if t407 = 1 then (fairwayref4_value.j0 k a1 t407 t407 (t407 == 1) a0 0 (⟨#[]⟩ : ByteArray) (⟨#[]⟩ : ByteArray)) else (if t407 = 2 then (fairwayref4_value.j0 k a1 t407 t407 (t407 == 2) a0 0 (⟨#[]⟩ : ByteArray) (⟨#[]⟩ : ByteArray)) else (fairwayref4_value.j0 k a1 t407 t407 (t407 == 3) a0 0 (⟨#[]⟩ : ByteArray) (⟨#[]⟩ : ByteArray))))
theorem fairwayref4_value.mono_l : ∀ k, (∀ y0 y1 y2 y3 y4 y5 y6 y7, LeO (fairwayref4_value.j0 k y0 y1 y2 y3 y4 y5 y6 y7) (fairwayref4_value.j0 (k + 1) y0 y1 y2 y3 y4 y5 y6 y7)) ∧ (∀ y0 y1 y2 y3 y4 y5 y6 y7 y8, LeO (fairwayref4_value.j1 k y0 y1 y2 y3 y4 y5 y6 y7 y8) (fairwayref4_value.j1 (k + 1) y0 y1 y2 y3 y4 y5 y6 y7 y8))
 | 0 => ⟨fun _ _ _ _ _ _ _ _ r h => by simp [fairwayref4_value.j0] at h, fun _ _ _ _ _ _ _ _ _ r h => by simp [fairwayref4_value.j1] at h⟩
 | k + 1 => by
  obtain ⟨ih0, ih1⟩ := fairwayref4_value.mono_l k; refine ⟨?_, ?_⟩ <;> intros
  all_goals first | unfold fairwayref4_value.j0 | unfold fairwayref4_value.j1
  all_goals repeat' first
   | (with_reducible exact ih0 _ _ _ _ _ _ _ _)
   | (with_reducible exact ih1 _ _ _ _ _ _ _ _ _)
   | (with_reducible exact fairwayref1_TakeFixed.mono _ _ _)
   | (with_reducible exact fairwayref1_TakeLong.mono _ _ _)
   | (with_reducible exact fairwayref1_TakeNum.mono _ _)
   | (with_reducible exact fairwayref4_Kind.mono _ _)
   | (with_reducible exact LeO.refl _)
   | (with_reducible exact LeO.none _)
   | (with_reducible refine LeO.ite ?_ ?_)
   | (with_reducible refine LeO.bind ?_ (fun _ => ?_))
   | exact ih0 _ _ _ _ _ _ _ _
   | exact ih1 _ _ _ _ _ _ _ _ _
   | exact fairwayref1_TakeFixed.mono _ _ _
   | exact fairwayref1_TakeLong.mono _ _ _
   | exact fairwayref1_TakeNum.mono _ _
   | exact fairwayref4_Kind.mono _ _
   | exact LeO.none _
   | refine LeO.ite ?_ ?_
   | refine LeO.bind ?_ (fun _ => ?_)
theorem fairwayref4_value.mono : ∀ a0 a1 k, LeO (fairwayref4_value.f k a0 a1) (fairwayref4_value.f (k + 1) a0 a1) := by
 intro a0 a1 k
 obtain ⟨ih0, ih1⟩ := fairwayref4_value.mono_l k; unfold fairwayref4_value.f; repeat' first
   | (with_reducible exact ih0 _ _ _ _ _ _ _ _)
   | (with_reducible exact ih1 _ _ _ _ _ _ _ _ _)
   | (with_reducible exact fairwayref1_TakeFixed.mono _ _ _)
   | (with_reducible exact fairwayref1_TakeLong.mono _ _ _)
   | (with_reducible exact fairwayref1_TakeNum.mono _ _)
   | (with_reducible exact fairwayref4_Kind.mono _ _)
   | (with_reducible exact LeO.refl _)
   | (with_reducible exact LeO.none _)
   | (with_reducible refine LeO.ite ?_ ?_)
   | (with_reducible refine LeO.bind ?_ (fun _ => ?_))
   | exact ih0 _ _ _ _ _ _ _ _
   | exact ih1 _ _ _ _ _ _ _ _ _
   | exact fairwayref1_TakeFixed.mono _ _ _
   | exact fairwayref1_TakeLong.mono _ _ _
   | exact fairwayref1_TakeNum.mono _ _
   | exact fairwayref4_Kind.mono _ _
   | exact LeO.none _
   | refine LeO.ite ?_ ?_
   | refine LeO.bind ?_ (fun _ => ?_)
end Go.Proofs.YtiancopplinpcaaDoor.P
end
section
namespace Go.Proofs.YtiancopplinpcaaDoor.P
open Go.RowKit Go.Proofs.YtiancopplinpcaaDoorW.PrintWords Go.Proofs.YtiancopplinpcaaDoorW.PrintLast Go.Proofs.YtiancopplinpcaaDoorW.PrintMore
set_option linter.unusedSimpArgs false
set_option linter.unusedVariables false
theorem bytesOf_app (a b : ByteArray) : bytesOf (a ++ b) = bytesOf a ++ bytesOf b := by simp [bytesOf]
theorem bytesOf_range (s : ByteArray) : ∀ c ∈ bytesOf s, 0 ≤ c ∧ c < 256 := by
  intro c hc
  simp only [bytesOf, List.mem_map] at hc
  obtain ⟨b, _, rfl⟩ := hc
  have := b.toNat_lt
  omega
theorem bytesOf_str {l : List Int} (h : ∀ c ∈ l, 0 ≤ c ∧ c < 256) : bytesOf (strOfNums l) = l := by
  simp only [bytesOf, strOfNums, List.map_map]
  conv => rhs; rw [← List.map_id l]
  refine List.map_congr_left fun c hc => ?_
  obtain ⟨h0, h1⟩ := h c hc
  simp only [Function.comp]
  rw [UInt8.toNat_ofNat_of_lt' (by show c.toNat < 256; omega)]
  simp; omega
theorem bytesOf_inj {a b : ByteArray} (h : bytesOf a = bytesOf b) : a = b := by
  have : a.data.toList = b.data.toList := by
    exact (List.map_inj_right (fun x y hxy => UInt8.toNat_inj.1 (by exact_mod_cast hxy))).1 h
  cases a; cases b
  simp only [ByteArray.mk.injEq]
  exact Array.toList_inj.1 this
theorem bytesOf_extract (s : ByteArray) (i j : Nat) : bytesOf (s.extract i j) = (bytesOf s).extract i j := by
  simp [bytesOf, List.extract_eq_take_drop, List.map_take, List.map_drop]
theorem bytesOf_len (s : ByteArray) : (bytesOf s).length = s.size := bytesOf_length s
theorem bt_list (s : ByteArray) (i : Nat) (h : i < s.size) : bt s i = (bytesOf s)[i]'(by rw [bytesOf_len]; exact h) := by
  rw [← rd_bytesOf]
  simp [rd, bytesOf_len, h]
theorem vb_range (n : Nat) : ∀ c ∈ vb n, 0 ≤ c ∧ c < 256 := by
  induction n using Nat.strongRecOn with
  | _ n ih =>
    by_cases h : n < 128
    · rw [vb_small h]; intro c hc; simp at hc; omega
    · rw [vb_big (by omega)]
      intro c hc
      rcases List.mem_cons.1 hc with rfl | hc
      · omega
      · exact ih (n / 128) (by omega) c hc
theorem vb_pos (n : Nat) : 0 < (vb n).length := by rw [vb]; split <;> simp
theorem vb_len {d : Nat} : ∀ {n : Nat}, n < 128 ^ d → 0 < d → (vb n).length ≤ d := by
  induction d with
  | zero => intro n _ h; omega
  | succ d ih =>
    intro n hn _
    by_cases h : n < 128
    · rw [vb_small h]; simp
    · rw [vb_big (by omega), List.length_cons]
      have hd : 0 < d := by
        rcases Nat.eq_zero_or_pos d with rfl | hd
        · simp at hn; omega
        · exact hd
      have := ih (n := n / 128) (by rw [Nat.pow_succ] at hn; omega) hd
      omega
def tl : Nat → Nat → Int → List Int → Int × Int × Int
  | 0, _, _, _ => (0, 0, 8)
  | _ + 1, _, _, [] => (0, 0, 7)
  | d + 1, i, n, c :: r => if 128 ≤ c then tl d (i + 1) (n + c % 128 * 2 ^ (7 * i)) r else if c = 0 ∧ 0 < i then (0, 0, 8) else (n + c % 128 * 2 ^ (7 * i), ((i + 1 : Nat) : Int), 0)
theorem tk_list (s : ByteArray) (d : Nat) : ∀ (i : Nat) (n : Int), tk s d i n = tl d i n ((bytesOf s).drop i) := by
  induction d with
  | zero => intro i n; rfl
  | succ d ih =>
    intro i n
    by_cases h : s.size ≤ i
    · rw [List.drop_of_length_le (by rw [bytesOf_len]; exact h)]
      simp only [tk, tl, h, if_true]
    · have hi : i < (bytesOf s).length := by rw [bytesOf_len]; omega
      rw [List.drop_eq_getElem_cons hi]
      simp only [tk, tl]
      rw [if_neg h, ← bt_list s i (by omega), ih]
theorem tkn_list (s : ByteArray) : tkn s = tl 4 0 0 (bytesOf s) := by rw [tkn, tk_list, List.drop_zero]
theorem pow7 (i : Nat) : (2 : Int) ^ (7 * (i + 1)) = 128 * 2 ^ (7 * i) := by
  rw [Nat.mul_add, Int.pow_add, Int.mul_comm]; rfl
theorem tl_back (r : List Int) (d : Nat) : ∀ (i : Nat) (a : Int) (m : Nat), (vb m).length ≤ d → (0 < m ∨ i = 0) → tl d i a (vb m ++ r) = (a + m * 2 ^ (7 * i), ((i + (vb m).length : Nat) : Int), 0) := by
  induction d with
  | zero => intro i a m h _; have := vb_pos m; omega
  | succ d ih =>
    intro i a m hl hm
    by_cases h : m < 128
    · rw [vb_small h]
      simp only [List.cons_append, List.nil_append, tl]
      rw [if_neg (by omega), if_neg (by omega), show (m : Int) % 128 = m by omega]
      rfl
    · rw [vb_big (by omega)] at hl ⊢
      simp only [List.cons_append, tl, List.length_cons] at hl ⊢
      rw [if_pos (by omega), ih (i + 1) _ (m / 128) (by omega) (.inl (by omega)), pow7]
      have e : (((m % 128 + 128 : Nat) : Int)) % 128 = ((m % 128 : Nat) : Int) := by omega
      have e2 : (m : Int) = 128 * ((m / 128 : Nat) : Int) + ((m % 128 : Nat) : Int) := by omega
      rw [e]
      refine Prod.ext ?_ (Prod.ext ?_ rfl)
      · simp only
        rw [e2]
        generalize (2 : Int) ^ (7 * i) = p
        generalize ((m / 128 : Nat) : Int) = x
        generalize ((m % 128 : Nat) : Int) = y
        grind
      · simp only; omega
theorem tl_cut (d : Nat) : ∀ (i : Nat) (a : Int) (l : List Int), (∀ c ∈ l, 128 ≤ c) → l.length < d → tl d i a l = (0, 0, 7) := by
  induction d with
  | zero => intro i a l _ h; omega
  | succ d ih =>
    intro i a l hl hd
    cases l with
    | nil => rfl
    | cons c r =>
      simp only [tl]
      rw [if_pos (hl c List.mem_cons_self)]
      exact ih _ _ r (fun x hx => hl x (List.mem_cons_of_mem _ hx)) (by simp at hd; omega)
theorem vb_take (n : Nat) : ∀ j, j < (vb n).length → ∀ c ∈ (vb n).take j, 128 ≤ c := by
  induction n using Nat.strongRecOn with
  | _ n ih =>
    intro j hj c hc
    by_cases h : n < 128
    · rw [vb_small h] at hj hc; simp at hj; subst hj; simp at hc
    · rw [vb_big (by omega)] at hj hc
      cases j with
      | zero => simp at hc
      | succ j =>
        rw [List.take_succ_cons] at hc
        rcases List.mem_cons.1 hc with rfl | hc
        · omega
        · exact ih (n / 128) (by omega) j (by simp at hj; omega) c hc
theorem tl_was (d : Nat) : ∀ (i : Nat) (a : Int) (l : List Int) (m k : Int), (∀ c ∈ l, 0 ≤ c ∧ c < 256) → tl d i a l = (m, k, 0) →
    ∃ (q : Nat) (r : List Int), l = vb q ++ r ∧ m = a + q * 2 ^ (7 * i) ∧ k = ((i + (vb q).length : Nat) : Int) ∧ q < 128 ^ d ∧ (0 < q ∨ i = 0) := by
  induction d with
  | zero => intro i a l m k _ h; simp [tl] at h
  | succ d ih =>
    intro i a l m k hl h
    cases l with
    | nil => simp [tl] at h
    | cons c r =>
      obtain ⟨h0, h1⟩ := hl c List.mem_cons_self
      simp only [tl] at h
      have hp : 0 < 128 ^ d := Nat.pow_pos (by decide)
      by_cases hc : 128 ≤ c
      · rw [if_pos hc] at h
        obtain ⟨q, r', hr, hm, hk, hq, hz⟩ := ih (i + 1) _ r m k (fun x hx => hl x (List.mem_cons_of_mem _ hx)) h
        have hq0 : 0 < q := by omega
        have hb : vb (128 * q + (c % 128).toNat) = c :: vb q := by
          rw [vb_big (by omega)]
          congr 1
          · omega
          · congr 1; omega
        refine ⟨128 * q + (c % 128).toNat, r', by rw [hb, hr]; rfl, ?_, by rw [hb, hk]; simp; omega, by rw [Nat.pow_succ]; omega, .inl (by omega)⟩
        rw [hm, pow7]
        have e : ((128 * q + (c % 128).toNat : Nat) : Int) = 128 * (q : Int) + c % 128 := by omega
        rw [e]
        generalize (2 : Int) ^ (7 * i) = p
        generalize c % 128 = y
        grind
      · rw [if_neg hc] at h
        by_cases hz : c = 0 ∧ 0 < i
        · rw [if_pos hz] at h; simp at h
        · rw [if_neg hz] at h
          simp only [Prod.mk.injEq] at h
          obtain ⟨rfl, rfl, _⟩ := h
          have hv : vb c.toNat = [c] := by rw [vb_small (by omega)]; simp; omega
          refine ⟨c.toNat, r, by rw [hv]; rfl, ?_, by rw [hv]; rfl, by rw [Nat.pow_succ]; omega, by omega⟩
          have e : ((c.toNat : Nat) : Int) = c % 128 := by omega
          rw [e]
theorem bytesOf_num (n : Int) : bytesOf (numOf n) = vb n.toNat := bytesOf_str (vb_range _)
theorem numOf_size (n : Int) : (numOf n).size = (vb n.toNat).length := by rw [← bytesOf_len, bytesOf_num]
theorem tkn_back {n : Int} (h0 : 0 ≤ n) (h1 : n ≤ 268435455) (x : ByteArray) : tkn (numOf n ++ x) = (n, ((numOf n).size : Int), 0) := by
  rw [tkn_list, bytesOf_app, bytesOf_num, tl_back _ 4 0 0 n.toNat (vb_len (by omega) (by decide)) (.inr rfl), numOf_size]
  simp; omega
theorem tkn_cut {n : Int} (h0 : 0 ≤ n) (h1 : n ≤ 268435455) (j : Nat) (hj : j < (numOf n).size) : tkn ((numOf n).extract 0 j) = (0, 0, 7) := by
  have hl : (vb n.toNat).length ≤ 4 := vb_len (by omega) (by decide)
  rw [numOf_size] at hj
  rw [tkn_list, bytesOf_extract, bytesOf_num, List.extract_eq_take_drop, List.drop_zero, Nat.sub_zero]
  refine tl_cut 4 0 0 _ (vb_take _ j hj) ?_
  rw [List.length_take]; omega
theorem tkn_was {x : ByteArray} {m k : Int} (h : tkn x = (m, k, 0)) : 0 ≤ m ∧ m ≤ 268435455 ∧ 0 ≤ k ∧ k ≤ x.size ∧ numOf m = x.extract 0 k.toNat ∧ k = (numOf m).size := by
  rw [tkn_list] at h
  obtain ⟨q, r, hl, hm, hk, hq, _⟩ := tl_was 4 0 0 _ m k (bytesOf_range x) h
  have hm' : m = q := by simp at hm; exact hm
  subst hm'
  have hlen : (bytesOf x).length = (vb q).length + r.length := by rw [hl, List.length_append]
  rw [bytesOf_len] at hlen
  refine ⟨by omega, by omega, by omega, by omega, bytesOf_inj ?_, ?_⟩
  · rw [bytesOf_num, bytesOf_extract, hl, List.extract_eq_take_drop, List.drop_zero, Nat.sub_zero, hk]
    simp
  · rw [numOf_size, hk]; simp
theorem bytesOf_two {n : Int} : bytesOf (two n) = [n / 256 % 256, n % 256] := bytesOf_str (by
  intro c hc
  simp only [List.mem_cons, List.not_mem_nil, or_false] at hc
  omega)
theorem two_size (n : Int) : (two n).size = 2 := by rw [← bytesOf_len, bytesOf_two]; rfl
theorem val2_app {n : Int} (h0 : 0 ≤ n) (h1 : n ≤ 65535) (x : ByteArray) : val2 (two n ++ x) = n := by
  have hs : (two n ++ x).size = 2 + x.size := by rw [← bytesOf_len, bytesOf_app, List.length_append, bytesOf_len, bytesOf_len, two_size]
  have a0 := bt_list (two n ++ x) 0 (by omega)
  have a1 := bt_list (two n ++ x) 1 (by omega)
  simp only [bytesOf_app, bytesOf_two, List.cons_append, List.nil_append, List.getElem_cons_zero, List.getElem_cons_succ] at a0 a1
  unfold val2
  rw [show ((0 : Nat) : Int) = 0 from rfl] at a0
  rw [show ((1 : Nat) : Int) = 1 from rfl] at a1
  rw [a0, a1]
  omega
theorem app_size (a b : ByteArray) : (a ++ b).size = a.size + b.size := by rw [← bytesOf_len, bytesOf_app, List.length_append, bytesOf_len, bytesOf_len]
theorem extract_size (a : ByteArray) {i j : Nat} (hij : i ≤ j) (hj : j ≤ a.size) : (a.extract i j).size = j - i := by
  rw [← bytesOf_len, bytesOf_extract, List.extract_eq_take_drop, List.length_take, List.length_drop, bytesOf_len]; omega
theorem extract_app_left (a b : ByteArray) {j : Nat} (hj : j ≤ a.size) : (a ++ b).extract 0 j = a.extract 0 j := bytesOf_inj (by
  simp only [bytesOf_extract, bytesOf_app, List.extract_eq_take_drop, List.drop_zero]
  rw [List.take_append_of_le_length (by rw [bytesOf_len]; omega)])
theorem extract_mid (a b c : ByteArray) : ((a ++ b) ++ c).extract a.size (a.size + b.size) = b := bytesOf_inj (by
  simp only [bytesOf_extract, bytesOf_app, List.extract_eq_take_drop]
  rw [List.append_assoc, ← bytesOf_len a, List.drop_left, Nat.add_sub_cancel_left, ← bytesOf_len b, List.take_left])
theorem extract_all (a : ByteArray) : a.extract 0 a.size = a := bytesOf_inj (by
  rw [bytesOf_extract, List.extract_eq_take_drop, List.drop_zero, Nat.sub_zero, ← bytesOf_len, List.take_length])
theorem bin_ev (s : ByteArray) : Ev (fun k => vbi_Bin.f k s) (if (s.size : Int) > 1024 then ((⟨#[]⟩ : ByteArray), 2) else (two s.size ++ s, 0)) := by
  obtain ⟨K, h⟩ := two_ev (s.size : Int)
  refine ⟨K, fun k hk => ?_⟩
  dsimp only at h ⊢
  unfold vbi_Bin.f
  by_cases hs : (s.size : Int) > 1024
  · rw [if_pos hs, if_pos hs]
  · rw [if_neg hs, if_neg hs, h k hk, if_pos (by omega)]
    simp only [Option.bind_some]
    rw [if_pos (by rw [two_size]; omega)]
def tbin (s : ByteArray) : ByteArray × Int × Int :=
  if (s.size : Int) < 2 then ((⟨#[]⟩ : ByteArray), 0, 7) else if val2 s > 1024 then ((⟨#[]⟩ : ByteArray), 0, 2) else if (s.size : Int) - 2 < val2 s then ((⟨#[]⟩ : ByteArray), 0, 7) else (s.extract 2 (2 + val2 s).toNat, 2 + val2 s, 0)
theorem val2_range (s : ByteArray) : 0 ≤ val2 s ∧ val2 s ≤ 65535 := by
  have := bt_range s 0; have := bt_range s 1; unfold val2; omega
theorem takeBin_ev (s : ByteArray) (hs : s.size ≤ 9223372036854775807) : Ev (fun k => vbi_TakeBin.f k s) (tbin s) := by
  obtain ⟨K, h⟩ := takeTwo_ev s
  refine ⟨K, fun k hk => ?_⟩
  dsimp only at h ⊢
  unfold vbi_TakeBin.f tbin
  rw [h k hk]
  simp only [Option.bind_some]
  by_cases h2 : (s.size : Int) < 2
  · rw [if_pos h2, if_pos h2]; rfl
  · obtain ⟨v0, v1⟩ := val2_range s
    rw [if_neg h2, if_neg h2]
    simp only [if_true]
    rw [w64 (n := (s.size : Int) - 2) (by omega) (by omega), w64 (n := 2 + val2 s) (by omega) (by omega)]
    by_cases h3 : val2 s > 1024
    · rw [if_pos h3, if_pos h3]
    · rw [if_neg h3, if_neg h3]
      by_cases h4 : (s.size : Int) - 2 < val2 s
      · rw [if_pos h4, if_pos h4]
      · rw [if_neg h4, if_neg h4, if_pos (by omega), if_pos (by omega)]
theorem tbin_back {s : ByteArray} (hs : ¬ (s.size : Int) > 1024) (x : ByteArray) : tbin (two s.size ++ s ++ x) = (s, ((two s.size ++ s).size : Int), 0) := by
  have hv : val2 (two s.size ++ s ++ x) = s.size := by
    have := val2_app (n := (s.size : Int)) (by omega) (by omega) (s ++ x)
    rwa [← ByteArray.append_assoc] at this
  have hz := two_size (s.size : Int)
  unfold tbin
  rw [if_neg (by rw [app_size, app_size, hz]; omega), hv, if_neg hs, if_neg (by rw [app_size, app_size, hz]; omega)]
  refine Prod.ext ?_ (Prod.ext ?_ rfl)
  · show (two s.size ++ s ++ x).extract 2 (2 + (s.size : Int)).toNat = s
    have := extract_mid (two s.size) s x
    rw [hz] at this
    rw [show (2 + (s.size : Int)).toNat = 2 + s.size by omega]
    exact this
  · show 2 + (s.size : Int) = (((two s.size ++ s).size : Nat) : Int)
    rw [app_size, hz]; omega
end Go.Proofs.YtiancopplinpcaaDoor.P
end
section
namespace Go.Proofs.YtiancopplinpcaaDoor.P
open Go.RowKit Go.Proofs.YtiancopplinpcaaDoorW.PrintWords Go.Proofs.YtiancopplinpcaaDoorW.PrintLast Go.Proofs.YtiancopplinpcaaDoorW.PrintMore
set_option linter.unusedSimpArgs false
set_option linter.unusedVariables false
theorem and_fffe (r : Nat) : r &&& 65534 = 2 * (r / 2 % 32768) := by
  have h1 : (r &&& 65534) / 2 = r / 2 % 32768 := by
    rw [Nat.and_div_two, show 65534 / 2 = 2 ^ 15 - 1 from rfl, Nat.and_two_pow_sub_one_eq_mod]
  have h2 : (r &&& 65534) % 2 = 0 := by
    have := Nat.and_mod_two_pow (a := r) (b := 65534) (n := 1)
    rw [show (2 : Nat) ^ 1 = 2 from rfl, show 65534 % 2 = 0 from rfl, Nat.and_zero] at this
    exact this
  omega
theorem fffe {r : Int} (h0 : 0 ≤ r) (h1 : r < 2147483648) : (Go.bits .and .i32 r 65534 != 65534) = decide (r % 65536 < 65534) := by
  obtain ⟨a, rfl⟩ := Int.eq_ofNat_of_zero_le h0
  have h := (bits_nat .i32 31 (by decide) wraps_i32 a 65534 (Nat.lt_of_lt_of_le (show a < 2147483648 by omega) (by decide)) (by decide)).1
  rw [show ((65534 : Nat) : Int) = 65534 from rfl] at h
  rw [h, and_fffe]
  rw [Bool.eq_iff_iff]
  simp only [bne_iff_ne, decide_eq_true_eq]
  omega
theorem good_is {r : Int} (h0 : 0 ≤ r) (h1 : r < 2147483648) : fairwayref1_good.f r = some (mayT r) := by
  have hf := fffe h0 h1
  unfold fairwayref1_good.f mayT
  rw [hf, Int.tmod_eq_emod_of_nonneg h0]
  by_cases c1 : r < 32
  · simp [c1]
  · by_cases c4 : 1114111 < r
    · by_cases c2 : 127 ≤ r
      · by_cases c3 : r ≤ 159
        · omega
        · simp [c1, c2, c3, c4]
      · omega
    · by_cases c2 : 127 ≤ r
      · by_cases c3 : r ≤ 159
        · simp [c1, c2, c3]
        · by_cases c5 : 55296 ≤ r
          · by_cases c6 : r ≤ 57343
            · simp [c1, c2, c3, c4, c5, c6]
            · by_cases c7 : 64976 ≤ r
              · by_cases c8 : r ≤ 65007
                · simp [c1, c2, c3, c4, c5, c6, c7, c8]
                · simp [c1, c2, c3, c4, c5, c6, c7, c8]
              · simp [c1, c2, c3, c4, c5, c6, c7]
          · have c7 : ¬ 64976 ≤ r := by omega
            simp [c1, c2, c3, c4, c5, c7]
      · have c5 : ¬ 55296 ≤ r := by omega
        have c7 : ¬ 64976 ≤ r := by omega
        simp [c1, c2, c4, c5, c7]
theorem bt_get (x : ByteArray) (j : Nat) (h : j < x.size) : bt x j = ((x.get! j).toNat : Int) := by
  unfold bt
  rw [dif_pos (by simpa using h)]
  have : x.get! j = x[j]'h := by
    have e : x.get! j = x.data[j]! := rfl
    rw [e, getElem!_pos x.data j h]
    rfl
  rw [this]
  simp
def pt (x : ByteArray) : Int × Int := if mayT (Utf8.decode x 0).1 = true ∧ ¬ (((Utf8.decode x 0).1 : Int) = 65533 ∧ ¬ (((Utf8.decode x 0).2 : Int) > 1)) then (((Utf8.decode x 0).1 : Int), ((Utf8.decode x 0).2 : Int)) else (0, 0)
theorem point_tail (k : Nat) (x : ByteArray) (n low r : Int) (h0 : 0 ≤ r) (h1 : r < 2147483648) :
    fairwayref1_point.l0 (k + 1) x n low r n = some (if low ≤ r ∧ mayT r = true then (r, n) else (0, 0)) := by
  simp only [fairwayref1_point.l0]
  rw [if_neg (by omega)]
  by_cases hl : r < low
  · rw [if_pos hl, if_neg (by omega)]
  · rw [if_neg hl, good_is h0 h1]
    simp only [Option.bind_some]
    by_cases hm : mayT r = true
    · rw [if_pos hm, if_pos ⟨by omega, hm⟩]
    · rw [if_neg hm, if_neg (fun h => hm h.2)]
theorem point_step (k : Nat) (x : ByteArray) (n low r i : Int) (h0 : 0 ≤ r) (h1 : r < 2097152) (hi : i < n) (hi0 : 0 ≤ i) (hx : i < x.size) (hn : n ≤ 4) :
    fairwayref1_point.l0 (k + 1) x n low r i = if 128 ≤ bt x i ∧ bt x i < 192 then fairwayref1_point.l0 k x n low (r * 64 + (bt x i - 128)) (i + 1) else some (0, 0) := by
  have b := bt_range x i
  simp only [fairwayref1_point.l0]
  rw [if_pos hi, if_pos hi0, if_pos hx, w64bt]
  by_cases hlo : bt x i < 128
  · rw [if_pos hlo, if_neg (by omega)]
  · rw [if_neg hlo]
    by_cases hhi : bt x i ≥ 192
    · rw [if_pos hhi, if_neg (by omega)]
    · rw [if_neg hhi, if_pos (by omega), w64 (n := r * 64) (by omega) (by omega), w64 (n := r * 64 + bt x i) (by omega) (by omega), w64 (n := r * 64 + bt x i - 128) (by omega) (by omega), w64 (n := i + 1) (by omega) (by omega)]
      congr 1
      omega
theorem dN_1 (n b0 b1 b2 b3 : Nat) (h : b0 < 128) : Go.Lib.decodeN n b0 b1 b2 b3 = (b0, 1) := by
  unfold Go.Lib.decodeN
  rw [if_pos h]
theorem dN_2 (n b0 b1 b2 b3 : Nat) (h0 : 192 ≤ b0) (h1 : b0 < 224) : Go.Lib.decodeN n b0 b1 b2 b3 = if 1 < n ∧ b1 / 64 = 2 then (if b0 % 32 * 64 + b1 % 64 ≥ 128 then (b0 % 32 * 64 + b1 % 64, 2) else (65533, 1)) else (65533, 1) := by
  unfold Go.Lib.decodeN
  rw [if_neg (by omega)]
  by_cases h : 1 < n ∧ b1 / 64 = 2
  · rw [if_pos ⟨by omega, h⟩, if_pos h]
  · rw [if_neg (by omega), if_neg h, if_neg (by omega), if_neg (by omega)]
theorem dN_3 (n b0 b1 b2 b3 : Nat) (h0 : 224 ≤ b0) (h1 : b0 < 240) : Go.Lib.decodeN n b0 b1 b2 b3 = if (1 < n ∧ b1 / 64 = 2) ∧ (2 < n ∧ b2 / 64 = 2) then (if b0 % 16 * 4096 + b1 % 64 * 64 + b2 % 64 ≥ 2048 ∧ (b0 % 16 * 4096 + b1 % 64 * 64 + b2 % 64 < 55296 ∨ (57344 ≤ b0 % 16 * 4096 + b1 % 64 * 64 + b2 % 64 ∧ b0 % 16 * 4096 + b1 % 64 * 64 + b2 % 64 ≤ 1114111)) then (b0 % 16 * 4096 + b1 % 64 * 64 + b2 % 64, 3) else (65533, 1)) else (65533, 1) := by
  unfold Go.Lib.decodeN
  rw [if_neg (by omega), if_neg (by omega)]
  by_cases h : (1 < n ∧ b1 / 64 = 2) ∧ (2 < n ∧ b2 / 64 = 2)
  · rw [if_pos ⟨by omega, h⟩, if_pos h]
  · rw [if_neg (by omega), if_neg h, if_neg (by omega)]
theorem dN_4 (n b0 b1 b2 b3 : Nat) (h0 : 240 ≤ b0) (h1 : b0 < 248) : Go.Lib.decodeN n b0 b1 b2 b3 = if (1 < n ∧ b1 / 64 = 2) ∧ (2 < n ∧ b2 / 64 = 2) ∧ (3 < n ∧ b3 / 64 = 2) then (if b0 % 8 * 262144 + b1 % 64 * 4096 + b2 % 64 * 64 + b3 % 64 ≥ 65536 ∧ (b0 % 8 * 262144 + b1 % 64 * 4096 + b2 % 64 * 64 + b3 % 64 < 55296 ∨ (57344 ≤ b0 % 8 * 262144 + b1 % 64 * 4096 + b2 % 64 * 64 + b3 % 64 ∧ b0 % 8 * 262144 + b1 % 64 * 4096 + b2 % 64 * 64 + b3 % 64 ≤ 1114111)) then (b0 % 8 * 262144 + b1 % 64 * 4096 + b2 % 64 * 64 + b3 % 64, 4) else (65533, 1)) else (65533, 1) := by
  unfold Go.Lib.decodeN
  rw [if_neg (by omega), if_neg (by omega), if_neg (by omega)]
  by_cases h : (1 < n ∧ b1 / 64 = 2) ∧ (2 < n ∧ b2 / 64 = 2) ∧ (3 < n ∧ b3 / 64 = 2)
  · rw [if_pos ⟨by omega, h⟩, if_pos h]
  · rw [if_neg (by omega), if_neg h]
theorem dN_no (n b0 b1 b2 b3 : Nat) (h : (128 ≤ b0 ∧ b0 < 192) ∨ 248 ≤ b0 ∧ b0 < 256) : Go.Lib.decodeN n b0 b1 b2 b3 = (65533, 1) := by
  unfold Go.Lib.decodeN
  rw [if_neg (by omega), if_neg (by omega), if_neg (by omega), if_neg (by omega)]
theorem decode_width (x : ByteArray) (hx : 0 < x.size) : (Utf8.decode x 0).2 ≤ x.size := by
  rw [Go.Lib.decode_at]
  unfold Go.Lib.decodeN
  repeat' split
  all_goals simp only
  all_goals omega
set_option maxHeartbeats 1000000 in
theorem point_ev (x : ByteArray) (hx : 0 < x.size) : Ev (fun k => fairwayref1_point.f k x) (pt x) := by
  refine ⟨20, fun k hk => ?_⟩
  obtain ⟨k, rfl⟩ : ∃ m, k = m + 20 := ⟨k - 20, by omega⟩
  dsimp only
  have g0 : bt x 0 = ((x.get! 0).toNat : Int) := bt_get x 0 hx
  have g1 : 1 < x.size → bt x 1 = ((x.get! 1).toNat : Int) := bt_get x 1
  have g2 : 2 < x.size → bt x 2 = ((x.get! 2).toNat : Int) := bt_get x 2
  have g3 : 3 < x.size → bt x 3 = ((x.get! 3).toNat : Int) := bt_get x 3
  have r0 := bt_range x 0; have r1 := bt_range x 1; have r2 := bt_range x 2; have r3 := bt_range x 3
  have hd : Utf8.decode x 0 = Go.Lib.decodeN x.size (x.get! 0).toNat (x.get! 1).toNat (x.get! 2).toNat (x.get! 3).toNat := Go.Lib.decode_at x 0
  unfold pt
  rw [hd]
  generalize hb0 : (x.get! 0).toNat = b0 at *
  generalize hb1 : (x.get! 1).toNat = b1 at *
  generalize hb2 : (x.get! 2).toNat = b2 at *
  generalize hb3 : (x.get! 3).toNat = b3 at *
  clear hd hb0 hb1 hb2 hb3
  unfold fairwayref1_point.f
  rw [if_pos (by omega), w64bt]
  have bad : Go.Lib.decodeN x.size b0 b1 b2 b3 = (65533, 1) → (some ((0 : Int), (0 : Int)) = some (if mayT ((Go.Lib.decodeN x.size b0 b1 b2 b3).1 : Int) = true ∧ ¬ (((Go.Lib.decodeN x.size b0 b1 b2 b3).1 : Int) = 65533 ∧ ¬ (((Go.Lib.decodeN x.size b0 b1 b2 b3).2 : Int) > 1)) then (((Go.Lib.decodeN x.size b0 b1 b2 b3).1 : Int), ((Go.Lib.decodeN x.size b0 b1 b2 b3).2 : Int)) else (0, 0))) := by
    intro h
    rw [h, if_neg (by simp)]
  have fine : ∀ (r : Int) (n : Nat) (low : Int), (low ≤ r → Go.Lib.decodeN x.size b0 b1 b2 b3 = (r.toNat, n) ∨ (mayT r = false ∧ Go.Lib.decodeN x.size b0 b1 b2 b3 = (65533, 1))) → (¬ low ≤ r → Go.Lib.decodeN x.size b0 b1 b2 b3 = (65533, 1)) → 0 ≤ r → (1 < n ∨ r < 65533) →
      (some (if low ≤ r ∧ mayT r = true then (r, (n : Int)) else (0, 0)) = some (if mayT ((Go.Lib.decodeN x.size b0 b1 b2 b3).1 : Int) = true ∧ ¬ (((Go.Lib.decodeN x.size b0 b1 b2 b3).1 : Int) = 65533 ∧ ¬ (((Go.Lib.decodeN x.size b0 b1 b2 b3).2 : Int) > 1)) then (((Go.Lib.decodeN x.size b0 b1 b2 b3).1 : Int), ((Go.Lib.decodeN x.size b0 b1 b2 b3).2 : Int)) else (0, 0))) := by
    intro r n low h1 h2 h0 hn
    by_cases hl : low ≤ r
    · rcases h1 hl with h1 | ⟨hm, h1⟩
      · rw [h1]
        have e : ((r.toNat : Nat) : Int) = r := by omega
        simp only [e]
        by_cases hm : mayT r = true
        · rw [if_pos ⟨hl, hm⟩, if_pos ⟨hm, by omega⟩]
        · rw [if_neg (fun h => hm h.2), if_neg (fun h => hm h.1)]
      · rw [← bad h1, if_neg (by rw [hm]; simp)]
    · rw [← bad (h2 hl), if_neg (fun h => hl h.1)]
  have sur : ∀ r : Int, (55296 ≤ r ∧ r ≤ 57343) ∨ 1114111 < r → mayT r = false := by
    intro r h
    unfold mayT
    rcases h with h | h
    · simp [h.1, h.2]
    · simp [h]
  by_cases c240 : bt x 0 ≥ 240
  · rw [if_pos c240]
    simp only [fairwayref1_point.j0]
    by_cases c248 : bt x 0 < 248
    · rw [if_pos (by simpa using c248), w64 (by omega) (by omega)]
      simp only [fairwayref1_point.j3]
      have hdN := dN_4 x.size b0 b1 b2 b3 (by omega) (by omega)
      by_cases hs : (x.size : Int) < 4
      · rw [if_pos hs]
        exact bad (by rw [hdN, if_neg (by omega)])
      · have g1 := g1 (by omega); have g2 := g2 (by omega); have g3 := g3 (by omega)
        rw [if_neg hs, point_step _ x 4 65536 _ 1 (by omega) (by omega) (by omega) (by omega) (by omega) (by omega)]
        by_cases e1 : 128 ≤ bt x 1 ∧ bt x 1 < 192
        · rw [if_pos e1, show (1 : Int) + 1 = 2 from rfl, point_step _ x 4 65536 _ 2 (by omega) (by omega) (by omega) (by omega) (by omega) (by omega)]
          by_cases e2 : 128 ≤ bt x 2 ∧ bt x 2 < 192
          · rw [if_pos e2, show (2 : Int) + 1 = 3 from rfl, point_step _ x 4 65536 _ 3 (by omega) (by omega) (by omega) (by omega) (by omega) (by omega)]
            by_cases e3 : 128 ≤ bt x 3 ∧ bt x 3 < 192
            · rw [if_pos e3, show (3 : Int) + 1 = 4 from rfl, point_tail _ x 4 65536 _ (by omega) (by omega)]
              refine fine _ 4 65536 (fun hl => ?_) (fun hl => ?_) (by omega) (.inl (by decide))
              · by_cases hv : b0 % 8 * 262144 + b1 % 64 * 4096 + b2 % 64 * 64 + b3 % 64 < 55296 ∨ (57344 ≤ b0 % 8 * 262144 + b1 % 64 * 4096 + b2 % 64 * 64 + b3 % 64 ∧ b0 % 8 * 262144 + b1 % 64 * 4096 + b2 % 64 * 64 + b3 % 64 ≤ 1114111)
                · left
                  rw [hdN, if_pos (by omega), if_pos ⟨by omega, hv⟩]
                  refine Prod.ext ?_ rfl
                  show b0 % 8 * 262144 + b1 % 64 * 4096 + b2 % 64 * 64 + b3 % 64 = _
                  omega
                · right
                  exact ⟨sur _ (by omega), by rw [hdN, if_pos (by omega), if_neg (fun h => hv h.2)]⟩
              · rw [hdN, if_pos (by omega), if_neg (by omega)]
            · rw [if_neg e3]; exact bad (by rw [hdN, if_neg (by omega)])
          · rw [if_neg e2]; exact bad (by rw [hdN, if_neg (by omega)])
        · rw [if_neg e1]; exact bad (by rw [hdN, if_neg (by omega)])
    · rw [if_neg (by simpa using c248), if_pos (by omega)]
      simp only [fairwayref1_point.j1]
      rw [if_neg (by simp; omega), if_pos (by omega)]
      simp only [fairwayref1_point.j2]
      rw [if_neg (by simp; omega), if_pos (by omega)]
      exact bad (dN_no x.size b0 b1 b2 b3 (by omega))
  · rw [if_neg c240]
    simp only [fairwayref1_point.j0]
    rw [if_neg (by simp)]
    by_cases c224 : bt x 0 ≥ 224
    · rw [if_pos c224]
      simp only [fairwayref1_point.j1]
      rw [if_pos (by simp; omega), w64 (by omega) (by omega)]
      simp only [fairwayref1_point.j3]
      have hdN := dN_3 x.size b0 b1 b2 b3 (by omega) (by omega)
      by_cases hs : (x.size : Int) < 3
      · rw [if_pos hs]
        exact bad (by rw [hdN, if_neg (by omega)])
      · have g1 := g1 (by omega); have g2 := g2 (by omega)
        rw [if_neg hs, point_step _ x 3 2048 _ 1 (by omega) (by omega) (by omega) (by omega) (by omega) (by omega)]
        by_cases e1 : 128 ≤ bt x 1 ∧ bt x 1 < 192
        · rw [if_pos e1, show (1 : Int) + 1 = 2 from rfl, point_step _ x 3 2048 _ 2 (by omega) (by omega) (by omega) (by omega) (by omega) (by omega)]
          by_cases e2 : 128 ≤ bt x 2 ∧ bt x 2 < 192
          · rw [if_pos e2, show (2 : Int) + 1 = 3 from rfl, point_tail _ x 3 2048 _ (by omega) (by omega)]
            refine fine _ 3 2048 (fun hl => ?_) (fun hl => ?_) (by omega) (.inl (by decide))
            · by_cases hv : b0 % 16 * 4096 + b1 % 64 * 64 + b2 % 64 < 55296 ∨ (57344 ≤ b0 % 16 * 4096 + b1 % 64 * 64 + b2 % 64 ∧ b0 % 16 * 4096 + b1 % 64 * 64 + b2 % 64 ≤ 1114111)
              · left
                rw [hdN, if_pos (by omega), if_pos ⟨by omega, hv⟩]
                refine Prod.ext ?_ rfl
                show b0 % 16 * 4096 + b1 % 64 * 64 + b2 % 64 = _
                omega
              · right
                exact ⟨sur _ (by omega), by rw [hdN, if_pos (by omega), if_neg (fun h => hv h.2)]⟩
            · rw [hdN, if_pos (by omega), if_neg (by omega)]
          · rw [if_neg e2]; exact bad (by rw [hdN, if_neg (by omega)])
        · rw [if_neg e1]; exact bad (by rw [hdN, if_neg (by omega)])
    · rw [if_neg c224]
      simp only [fairwayref1_point.j1]
      rw [if_neg (by simp)]
      by_cases c192 : bt x 0 ≥ 192
      · rw [if_pos c192]
        simp only [fairwayref1_point.j2]
        rw [if_pos (by simp; omega), w64 (by omega) (by omega)]
        simp only [fairwayref1_point.j3]
        have hdN := dN_2 x.size b0 b1 b2 b3 (by omega) (by omega)
        by_cases hs : (x.size : Int) < 2
        · rw [if_pos hs]
          exact bad (by rw [hdN, if_neg (by omega)])
        · have g1 := g1 (by omega)
          rw [if_neg hs, point_step _ x 2 128 _ 1 (by omega) (by omega) (by omega) (by omega) (by omega) (by omega)]
          by_cases e1 : 128 ≤ bt x 1 ∧ bt x 1 < 192
          · rw [if_pos e1, show (1 : Int) + 1 = 2 from rfl, point_tail _ x 2 128 _ (by omega) (by omega)]
            refine fine _ 2 128 (fun hl => .inl ?_) (fun hl => ?_) (by omega) (.inl (by decide))
            · rw [hdN, if_pos (by omega), if_pos (by omega)]
              refine Prod.ext ?_ rfl
              show b0 % 32 * 64 + b1 % 64 = _
              omega
            · rw [hdN, if_pos (by omega), if_neg (by omega)]
          · rw [if_neg e1]; exact bad (by rw [hdN, if_neg (by omega)])
      · rw [if_neg c192]
        simp only [fairwayref1_point.j2]
        rw [if_neg (by simp)]
        by_cases c128 : bt x 0 ≥ 128
        · rw [if_pos c128]
          exact bad (dN_no x.size b0 b1 b2 b3 (by omega))
        · rw [if_neg c128]
          simp only [fairwayref1_point.j3]
          rw [if_neg (by omega), point_tail _ x 1 0 _ (by omega) (by omega)]
          refine fine _ 1 0 (fun hl => .inl ?_) (fun hl => by omega) (by omega) (.inr (by omega))
          rw [dN_1 x.size b0 b1 b2 b3 (by omega)]
          refine Prod.ext ?_ rfl
          show b0 = _
          omega
theorem get_extract (s : ByteArray) (p j : Nat) : (s.extract p s.size).get! j = s.get! (p + j) := by
  by_cases h : p + j < s.size
  · have hs : (s.extract p s.size).size = s.size - p := extract_size s (by omega) (Nat.le_refl _)
    have a := bt_get (s.extract p s.size) j (by omega)
    have b := bt_get s (p + j) h
    have c : bt (s.extract p s.size) j = bt s ((p + j : Nat) : Int) := by
      rw [bt_list _ j (by omega), bt_list _ (p + j) h]
      simp only [bytesOf_extract, List.extract_eq_take_drop]
      rw [List.getElem_take, List.getElem_drop]
    rw [c, b] at a
    exact UInt8.toNat_inj.1 (by exact_mod_cast a.symm)
  · have e1 : s.get! (p + j) = default := by
      show s.data[p + j]! = default
      exact getElem!_neg s.data (p + j) (by show ¬ p + j < s.size; omega)
    have e2 : (s.extract p s.size).get! j = default := by
      show (s.extract p s.size).data[j]! = default
      refine getElem!_neg _ j ?_
      show ¬ j < (s.extract p s.size).size
      rw [← bytesOf_len, bytesOf_extract, List.extract_eq_take_drop, List.length_take, List.length_drop, bytesOf_len]
      omega
    rw [e1, e2]
theorem decode_extract (s : ByteArray) (p : Nat) (hp : p ≤ s.size) : Utf8.decode (s.extract p s.size) 0 = Utf8.decode s p := by
  rw [Go.Lib.decode_at, Go.Lib.decode_at]
  simp only [get_extract, Nat.zero_add, Nat.add_zero, Nat.sub_zero]
  rw [extract_size s hp (Nat.le_refl _)]
theorem extract_twice (s : ByteArray) (p n : Nat) (hp : p ≤ s.size) : (s.extract p s.size).extract n (s.extract p s.size).size = s.extract (p + n) s.size := bytesOf_inj (by
  rw [extract_size s hp (Nat.le_refl _)]
  simp only [bytesOf_extract, List.extract_eq_take_drop]
  rw [List.drop_take, List.drop_drop, List.take_take]
  congr 1
  omega)
theorem text_loop (s : ByteArray) (d : Nat) : ∀ p f : Nat, p ≤ s.size → s.size - p ≤ d → s.size - p ≤ f → Ev (fun k => fairwayref1_Text.l0 k (s.extract p s.size)) (chk s f p) := by
  induction d with
  | zero =>
    intro p f hp hd hf
    refine ⟨1, fun k hk => ?_⟩
    obtain ⟨k, rfl⟩ : ∃ m, k = m + 1 := ⟨k - 1, by omega⟩
    simp only [fairwayref1_Text.l0]
    rw [if_neg (by rw [extract_size s hp (Nat.le_refl _)]; omega), chk_end s f p (by omega)]
  | succ d ih =>
    intro p f hp hd hf
    by_cases he : s.size ≤ p
    · exact ih p f hp (by omega) hf
    · have hs : (s.extract p s.size).size = s.size - p := extract_size s hp (Nat.le_refl _)
      obtain ⟨K, h⟩ := point_ev (s.extract p s.size) (by omega)
      dsimp only at h
      have hdx := decode_extract s p hp
      have hw : wholeT s p = decide (((Utf8.decode s p).2 : Int) > 1) := by
        unfold wholeT Go.Lib.decodeGo
        rw [if_neg (by omega), hdx]
      have hwd := width_pos s p (by omega)
      have hle := decode_le s p
      obtain ⟨f, rfl⟩ : ∃ m, f = m + 1 := ⟨f - 1, by omega⟩
      unfold pt at h
      rw [hdx] at h
      have hchk : chk s (f + 1) p = if mayT (Utf8.decode s p).1 = true ∧ ¬ (((Utf8.decode s p).1 : Int) = 65533 ∧ ¬ (((Utf8.decode s p).2 : Int) > 1)) then chk s f (p + (Utf8.decode s p).2) else 8 := by
        simp only [chk, show p < s.size by omega, if_true]
        by_cases hm : mayT (Utf8.decode s p).1 = true
        · rw [if_pos hm, hw]
          by_cases h5 : ((Utf8.decode s p).1 : Int) = 65533
          · by_cases h1 : ((Utf8.decode s p).2 : Int) > 1
            · rw [if_neg (by simp [h1]), if_pos ⟨hm, fun h => h.2 h1⟩]
            · rw [if_pos ⟨h5, by simpa using h1⟩, if_neg (fun h => h.2 ⟨h5, h1⟩)]
          · rw [if_neg (fun h => h5 h.1), if_pos ⟨hm, fun h => h5 h.1⟩]
        · rw [if_neg hm, if_neg (fun h => hm h.1)]
      rw [hchk]
      by_cases hok : mayT (Utf8.decode s p).1 = true ∧ ¬ (((Utf8.decode s p).1 : Int) = 65533 ∧ ¬ (((Utf8.decode s p).2 : Int) > 1))
      · rw [if_pos hok]
        rw [if_pos hok] at h
        have hle2 : p + (Utf8.decode s p).2 ≤ s.size := by
          have hw2 := decode_width (s.extract p s.size) (by omega)
          rw [hdx, hs] at hw2
          omega
        obtain ⟨K2, h2⟩ := ih (p + (Utf8.decode s p).2) f hle2 (by omega) (by omega)
        dsimp only at h2
        refine ⟨K + K2 + 1, fun k hk => ?_⟩
        obtain ⟨k, rfl⟩ : ∃ m, k = m + 1 := ⟨k - 1, by omega⟩
        simp only [fairwayref1_Text.l0]
        rw [if_pos (by omega), h k (by omega)]
        simp only [Option.bind_some]
        rw [if_neg (by omega), if_pos (by omega), if_pos (by omega), Int.toNat_natCast, extract_twice s p _ hp]
        exact h2 k (by omega)
      · rw [if_neg hok]
        rw [if_neg hok] at h
        refine ⟨K + 1, fun k hk => ?_⟩
        obtain ⟨k, rfl⟩ : ∃ m, k = m + 1 := ⟨k - 1, by omega⟩
        simp only [fairwayref1_Text.l0]
        rw [if_pos (by omega), h k (by omega)]
        simp
theorem text_ev (s : ByteArray) : Ev (fun k => fairwayref1_Text.f k s) (checkT s) := by
  by_cases hs : s.size > 1024
  · refine ⟨0, fun k hk => ?_⟩
    dsimp only
    unfold fairwayref1_Text.f checkT
    rw [if_pos (by omega), if_pos hs]
  · obtain ⟨K, h⟩ := text_loop s s.size 0 s.size (by omega) (by omega) (by omega)
    refine ⟨K, fun k hk => ?_⟩
    dsimp only at h ⊢
    unfold fairwayref1_Text.f checkT
    rw [if_neg (by omega), if_neg hs, ← h k hk, extract_all]
def longT (s : ByteArray) (text : Bool) : ByteArray × Int :=
  if text = true then (if checkT s = 0 then (two s.size ++ s, 0) else ((⟨#[]⟩ : ByteArray), checkT s)) else (if (s.size : Int) > 1024 then ((⟨#[]⟩ : ByteArray), 2) else (two s.size ++ s, 0))
def takeT (s : ByteArray) (text : Bool) : ByteArray × Int × Int :=
  if (tbin s).2.2 = 0 then (if text = true then (if checkT (tbin s).1 = 0 then tbin s else ((⟨#[]⟩ : ByteArray), 0, checkT (tbin s).1)) else tbin s) else tbin s
theorem check_small {s : ByteArray} (h : checkT s = 0) : ¬ (s.size : Int) > 1024 := by
  intro h2
  unfold checkT at h
  rw [if_pos (by omega)] at h
  cases h
theorem takeLong_ev (s : ByteArray) (text : Bool) (hs : s.size ≤ 9223372036854775000) : Ev (fun k => fairwayref1_TakeLong.f k s text) (takeT s text) := by
  obtain ⟨K, h⟩ := text_ev (tbin s).1
  obtain ⟨K2, h2⟩ := ref_take2_ev s
  refine ⟨K + K2, fun k hk => ?_⟩
  dsimp only at h h2 ⊢
  have h := h k (by omega)
  unfold fairwayref1_TakeLong.f takeT
  rw [h2 k (by omega)]
  simp only [Option.bind_some]
  unfold tbin at h ⊢
  obtain ⟨v0, v1⟩ := val2_range s
  by_cases c1 : (s.size : Int) < 2
  · simp [c1]
  · rw [if_neg c1]
    simp only [c1, if_false, if_true] at h ⊢
    rw [w64 (n := (s.size : Int) - 2) (by omega) (by omega), w64 (n := 2 + val2 s) (by omega) (by omega)]
    by_cases c2 : val2 s > 1024
    · simp [c2]
    · simp only [c2, if_false] at h ⊢
      by_cases c3 : (s.size : Int) - 2 < val2 s
      · simp [c3]
      · simp only [c3, if_false] at h ⊢
        rw [if_pos (by omega), if_pos (by omega)]
        cases text with
        | true =>
          rw [if_pos rfl, h]
          simp only [Option.bind_some, if_true]
          split <;> rfl
        | false => simp
theorem vtext_ev (s : ByteArray) : Ev (fun k => vbi_Text.f k s) (longT s true) := by
  obtain ⟨K, h⟩ := bin_ev s
  refine ⟨K, fun k hk => ?_⟩
  dsimp only at h ⊢
  unfold vbi_Text.f longT text_Check.f
  simp only [Option.bind_some, if_true]
  by_cases hc : checkT s = 0
  · rw [if_pos hc, if_pos hc, h k hk, if_neg (check_small hc)]
    rfl
  · rw [if_neg hc, if_neg hc]
theorem vtakeText_ev (s : ByteArray) (hs : s.size ≤ 9223372036854775807) : Ev (fun k => vbi_TakeText.f k s) (takeT s true) := by
  obtain ⟨K, h⟩ := takeBin_ev s hs
  refine ⟨K, fun k hk => ?_⟩
  dsimp only at h ⊢
  unfold vbi_TakeText.f takeT text_Check.f
  rw [h k hk]
  simp only [Option.bind_some, if_true]
  by_cases hc : (tbin s).2.2 = 0
  · rw [if_pos hc, if_pos hc]
    by_cases h2 : checkT (tbin s).1 = 0
    · rw [if_pos h2, if_pos h2, ← hc]
    · rw [if_neg h2, if_neg h2]
  · rw [if_neg hc, if_neg hc]
    have : tbin s = ((⟨#[]⟩ : ByteArray), 0, (tbin s).2.2) := by
      unfold tbin at hc ⊢
      repeat' split
      all_goals first | rfl | simp_all
    rw [← this]
end Go.Proofs.YtiancopplinpcaaDoor.P
end
section
namespace Go.Proofs.YtiancopplinpcaaDoor.P
open Go.RowKit Go.Proofs.YtiancopplinpcaaDoorW.PrintWords Go.Proofs.YtiancopplinpcaaDoorW.PrintLast Go.Proofs.YtiancopplinpcaaDoorW.PrintMore
set_option linter.unusedSimpArgs false
set_option linter.unusedVariables false
def mostK (k : Int) : Int := if k = 1 then 1 else if k = 2 then 65535 else if k = 3 then 4294967295 else 268435455
def okP (a n : Int) (s v : ByteArray) : Bool :=
  if kindOf a = 0 then false
  else if kindOf a ≤ 4 then decide (¬ ((a = 33 ∨ a = 35 ∨ a = 39 ∨ a = 11) ∧ n = 0) ∧ 0 ≤ n ∧ n ≤ mostK (kindOf a) ∧ s.toList = [] ∧ v.toList = [])
  else if kindOf a = 5 then decide (n = 0 ∧ v.toList = [] ∧ checkT s = 0)
  else if kindOf a = 6 then decide (n = 0 ∧ v.toList = [] ∧ (s.size : Int) ≤ 1024)
  else decide (n = 0 ∧ checkT s = 0 ∧ checkT v = 0)
theorem kind_cases (a : Int) : kindOf a = 0 ∨ kindOf a = 1 ∨ kindOf a = 2 ∨ kindOf a = 3 ∨ kindOf a = 4 ∨ kindOf a = 5 ∨ kindOf a = 6 ∨ kindOf a = 7 := by
  have := kindOf_range a
  omega
set_option maxHeartbeats 1000000 in
theorem refFits_ev (a n : Int) (s v : ByteArray) : Ev (fun k => fairwayref4_fits.f k a n s v) (okP a n s v) := by
  obtain ⟨K0, h0⟩ := refKind_ev a
  obtain ⟨K1, h1⟩ := text_ev s
  obtain ⟨K2, h2⟩ := text_ev v
  refine ⟨K0 + K1 + K2 + 1, fun k hk => ?_⟩
  obtain ⟨k, rfl⟩ : ∃ m, k = m + 1 := ⟨k - 1, by omega⟩
  have e0 := h0 (k + 1) (by omega)
  have e1 := h1 k (by omega)
  have e2 := h2 k (by omega)
  dsimp only at e0 e1 e2 ⊢
  have hc := kind_cases a
  unfold fairwayref4_fits.f okP
  rw [e0]
  simp only [Option.bind_some]
  generalize kindOf a = kd at hc
  have num : ∀ m : Int, fairwayref0_Num.f n m = some (decide (0 ≤ n ∧ n ≤ m)) := by
    intro m
    unfold fairwayref0_Num.f
    by_cases h : n ≥ 0
    · rw [if_pos h]; simp [show 0 ≤ n from h]
    · rw [if_neg h]; simp [show ¬ 0 ≤ n from h]
  have low : ∀ m : Int, 1 ≤ kd → kd ≤ 4 → rd [0, 1, 65535, 4294967295, 268435455] kd = m → fairwayref4_fits.j0 (k + 1) kd kd true a n s v = some (decide (¬ ((a = 33 ∨ a = 35 ∨ a = 39 ∨ a = 11) ∧ n = 0) ∧ 0 ≤ n ∧ n ≤ m ∧ s.toList = [] ∧ v.toList = [])) := by
    intro m hl hh hm
    simp only [fairwayref4_fits.j0, if_true, Option.bind_some, List.length_cons, List.length_nil, num, hm]
    rw [if_pos (by omega), if_pos (by omega)]
    have hX : ((some (decide (0 ≤ n ∧ n ≤ m))).bind fun t => if t = true then (if s.toList = ([] : List UInt8) then some (v.toList == ([] : List UInt8)) else some false) else some false) = some (decide (0 ≤ n ∧ n ≤ m ∧ s.toList = [] ∧ v.toList = [])) := by
      by_cases x6 : 0 ≤ n ∧ n ≤ m <;> by_cases x7 : s.toList = [] <;> by_cases x8 : v.toList = [] <;> simp [x6, x7, x8, List.beq_nil_eq]
      all_goals first | (exact fun h => absurd h x6) | (intro h1 h2; exact absurd ⟨h1, h2⟩ x6) | skip
    simp only [Option.bind_some] at hX ⊢
    rw [hX]
    by_cases x5 : n = 0 <;> by_cases x1 : a = 33 <;> by_cases x2 : a = 35 <;> by_cases x3 : a = 39 <;> by_cases x4 : a = 11 <;> simp [x1, x2, x3, x4, x5]
  have e3 : (v.toList == ([] : List UInt8)) = decide (v.toList = []) := by
    by_cases h : v.toList = [] <;> simp [h]
  rcases hc with rfl | rfl | rfl | rfl | rfl | rfl | rfl | rfl
  · simp [fairwayref4_fits.j0]
  · simpa [mostK] using low 1 (by omega) (by omega) rfl
  · simpa [mostK] using low 65535 (by omega) (by omega) rfl
  · simpa [mostK] using low 4294967295 (by omega) (by omega) rfl
  · simpa [mostK] using low 268435455 (by omega) (by omega) rfl
  · by_cases x1 : n = 0 <;> by_cases x2 : v.toList = [] <;> simp [fairwayref4_fits.j0, x1, x2, e1]
    rfl
  · by_cases x1 : n = 0 <;> by_cases x2 : v.toList = [] <;> simp [fairwayref4_fits.j0, x1, x2]
  · by_cases x1 : n = 0 <;> by_cases x2 : checkT s = 0 <;> simp [fairwayref4_fits.j0, x1, x2, e1, e2]
    rfl
def againP (p a : Int) (l : List S42) : Bool := if a = 38 ∨ a = 11 ∧ p = 3 then false else l.any fun x => x.f0 == a
theorem twice_loop (a : Int) (l : List S42) (hl : l.length ≤ 100000) (d : Nat) : ∀ (i k : Nat), l.length - i = d → d < k → fairwayref4_twice.l0 k a l (i : Int) = some ((l.drop i).any fun x => x.f0 == a) := by
  induction d with
  | zero =>
    intro i k hd hk
    obtain ⟨k, rfl⟩ : ∃ m, k = m + 1 := ⟨k - 1, by omega⟩
    simp only [fairwayref4_twice.l0]
    rw [if_neg (by omega), List.drop_of_length_le (by omega)]
    rfl
  | succ d ih =>
    intro i k hd hk
    obtain ⟨k, rfl⟩ : ∃ m, k = m + 1 := ⟨k - 1, by omega⟩
    have hi : i < l.length := by omega
    have hrd : rd_T42 l (i : Int) = l[i] := by simp [rd_T42, hi]
    rw [List.drop_eq_getElem_cons hi]
    simp only [fairwayref4_twice.l0]
    rw [if_pos (by omega), if_pos (by omega), hrd, w64 (by omega) (by omega)]
    by_cases h : l[i].f0 = a
    · rw [if_pos h, List.any_cons, beq_iff_eq.2 h, Bool.true_or]
    · rw [if_neg h, show ((i : Int) + 1) = ((i + 1 : Nat) : Int) by omega, ih (i + 1) k (by omega) (by omega), List.any_cons, beq_eq_false_iff_ne.2 h, Bool.false_or]
theorem refTwice_ev (p a : Int) (l : List S42) (hl : l.length ≤ 100000) : Ev (fun k => fairwayref4_twice.f k p a l) (againP p a l) := by
  refine ⟨l.length + 3, fun k hk => ?_⟩
  obtain ⟨k, rfl⟩ : ∃ m, k = m + 1 := ⟨k - 1, by omega⟩
  have h := twice_loop a l hl l.length 0 k (by omega) (by omega)
  rw [List.drop_zero] at h
  dsimp only
  unfold fairwayref4_twice.f againP
  by_cases x1 : a = 38
  · simp [x1, fairwayref4_twice.j0]
  · by_cases x2 : a = 11
    · by_cases x3 : p = 3
      · simp [x1, x2, x3, fairwayref4_twice.j0]
      · simp [x1, x2, x3, fairwayref4_twice.j0]
        rw [x2] at h
        simpa using h
    · simp [x1, x2, fairwayref4_twice.j0]
      simpa using h
def valT (a n : Int) (s v : ByteArray) : AnyV × Bool :=
  if kindOf a < 5 ∧ s.toList = [] ∧ v.toList = [] then (AnyV.num n, decide (kindOf a > 0))
  else if n ≠ 0 ∨ kindOf a < 5 ∨ kindOf a ≠ 7 ∧ v.toList ≠ [] then (AnyV.no, false)
  else if kindOf a = 7 then (AnyV.two s v, true) else (AnyV.str s, true)
theorem value_ev (a n : Int) (s v : ByteArray) : Ev (fun k => prop_value.f k a n s v) (valT a n s v) := by
  obtain ⟨K0, h0⟩ := kind_ev a
  refine ⟨K0 + 3, fun k hk => ?_⟩
  obtain ⟨k, rfl⟩ : ∃ m, k = m + 2 := ⟨k - 2, by omega⟩
  have e0 := h0 (k + 2) (by omega)
  dsimp only at e0 ⊢
  have hc := kind_cases a
  unfold prop_value.f valT
  rw [e0]
  simp only [Option.bind_some]
  generalize kindOf a = kd at hc
  have e3 : (v.toList == ([] : List UInt8)) = decide (v.toList = []) := by
    by_cases h : v.toList = [] <;> simp [h]
  rcases hc with rfl | rfl | rfl | rfl | rfl | rfl | rfl | rfl <;> by_cases x1 : n = 0 <;> by_cases x2 : s.toList = [] <;> by_cases x3 : v.toList = [] <;> simp [prop_value.j0, prop_value.j1, x1, x2, x3]
def fitsP (p : Int) (l : List S42) (a n : Int) : Bool :=
  decide (a ∈ placeL p ∧ ¬ (kindOf a = 1 ∧ n > 1) ∧ ¬ ((a = 33 ∨ a = 35 ∨ a = 39 ∨ a = 11) ∧ n = 0)) && !againP p a l
theorem fits_ev (p : Int) (l : List S42) (a n : Int) (s v : ByteArray) : Ev (fun k => prop_fits.f k p l a n s v) (fitsP p l a n) := by
  obtain ⟨K0, h0⟩ := kind_ev a
  obtain ⟨K1, h1⟩ := stands_ev p
  obtain ⟨K2, h2⟩ := contains_ev (placeL p) a (by have := placeL_len p; omega)
  refine ⟨K0 + K1 + K2, fun k hk => ?_⟩
  have e0 := h0 k (by omega)
  have e1 := h1 k (by omega)
  have e2 := h2 k (by omega)
  dsimp only at e0 e1 e2 ⊢
  unfold prop_fits.f fitsP againP
  rw [e0, e1]
  simp only [Option.bind_some]
  rw [e2, nought_is]
  simp only [Option.bind_some]
  generalize kindOf a = kd
  by_cases x1 : a ∈ placeL p
  · by_cases x2 : kd = 1 ∧ n > 1
    · simp [x1, x2]
    · by_cases x3 : (a = 33 ∨ a = 35 ∨ a = 39 ∨ a = 11) ∧ n = 0
      · rw [if_pos (by simpa using x1), if_neg x2, if_pos (by simpa using x3)]
        simp [x3]
      · rw [if_pos (by simpa using x1), if_neg x2, if_neg (by simpa using x3), decide_eq_true ⟨x1, x2, x3⟩, Bool.true_and]
        by_cases x4 : a = 38
        · simp [x4]
        · by_cases x5 : a = 11 ∧ p = 3
          · simp [x4, x5]
          · rw [if_neg x4, if_neg x5, if_neg (by rintro (h | h); exact x4 h; exact x5 h)]
  · simp [x1]
def bodyP (a n : Int) (s v : ByteArray) : ByteArray :=
  if kindOf a = 1 then strOfNums [n % 256] else if kindOf a = 2 then two n else if kindOf a = 3 then four n else if kindOf a = 4 then numOf n
  else if kindOf a = 5 ∨ kindOf a = 6 then two s.size ++ s else (two s.size ++ s) ++ (two v.size ++ v)
theorem checkT_pos (s : ByteArray) : 0 ≤ checkT s := by
  unfold checkT
  split
  · omega
  · generalize s.size = f at *
    have : ∀ f p, 0 ≤ chk s f p := by
      intro f
      induction f with
      | zero => intro p; unfold chk; omega
      | succ f ih => intro p; unfold chk; repeat' split
                     all_goals first | omega | exact ih _
    exact this _ _
theorem laid_ev (a n : Int) (s v : ByteArray) (hv : (valT a n s v).2 = true) (hn : ¬ (kindOf a = 1 ∧ n > 1)) (h0 : ¬ ((a = 33 ∨ a = 35 ∨ a = 39 ∨ a = 11) ∧ n = 0)) :
    ∃ b e, Ev (fun k => prop_laid.f k (kindOf a) (valT a n s v).1) (b, e) ∧ (e = 0 ↔ okP a n s v = true) ∧ (e = 0 → b = bodyP a n s v) := by
  have hc := kind_cases a
  unfold valT at hv ⊢
  unfold okP bodyP
  generalize kindOf a = kd at hc hv hn ⊢
  by_cases x1 : kd < 5 ∧ s.toList = [] ∧ v.toList = []
  · rw [if_pos x1] at hv ⊢
    have hp : kd > 0 := by simpa using hv
    dsimp only
    rcases hc with rfl | rfl | rfl | rfl | rfl | rfl | rfl | rfl
    · omega
    · have hn1 : n ≤ 1 := by omega
      by_cases hz : n < 0
      · refine ⟨strOfNums [n % 256], 2, Ev.of (prop_laid.mono _ _) (k := 0) (by simp [prop_laid.f, prop_within.f, hz]), ?_, ?_⟩
        · simp [mostK, x1]; intros; omega
        · simp
      · refine ⟨strOfNums [n % 256], 0, Ev.of (prop_laid.mono _ _) (k := 0) (by simp [prop_laid.f, prop_within.f, hz, show ¬ n > 255 by omega]), ?_, ?_⟩
        · simp [mostK, x1, show 0 ≤ n by omega, show n ≤ 1 by omega]; omega
        · simp
    · have ⟨K, hK⟩ := two_ev n
      by_cases h : 0 ≤ n ∧ n ≤ 65535
      · rw [if_pos h] at hK
        refine ⟨_, _, ⟨K, fun k hk => by have := hK k hk; simpa [prop_laid.f] using this⟩, ?_, ?_⟩
        · simp [mostK, x1, h]; omega
        · simp
      · rw [if_neg h] at hK
        refine ⟨_, _, ⟨K, fun k hk => by have := hK k hk; simpa [prop_laid.f] using this⟩, ?_, ?_⟩
        · simp [mostK, x1]; intros; omega
        · simp
    · have ⟨K, hK⟩ := four_ev n
      by_cases h : 0 ≤ n ∧ n ≤ 4294967295
      · rw [if_pos h] at hK
        refine ⟨_, _, ⟨K, fun k hk => by have := hK k hk; simpa [prop_laid.f] using this⟩, ?_, ?_⟩
        · simp [mostK, x1, h]; omega
        · simp
      · rw [if_neg h] at hK
        refine ⟨_, _, ⟨K, fun k hk => by have := hK k hk; simpa [prop_laid.f] using this⟩, ?_, ?_⟩
        · simp [mostK, x1]; intros; omega
        · simp
    · by_cases h : 0 ≤ n ∧ n ≤ 268435455
      · have ⟨K, hK⟩ := num_ok h.1 h.2
        refine ⟨_, _, ⟨K, fun k hk => by have := hK k hk; simpa [prop_laid.f] using this⟩, ?_, ?_⟩
        · simp [mostK, x1, h]; omega
        · simp
      · have ⟨K, hK⟩ := num_no (n := n) (by omega)
        refine ⟨_, _, ⟨K, fun k hk => by have := hK k hk; simpa [prop_laid.f] using this⟩, ?_, ?_⟩
        · simp [mostK, x1]; intros; omega
        · simp
    · omega
    · omega
    · omega
  · rw [if_neg x1] at hv ⊢
    by_cases x2 : n ≠ 0 ∨ kd < 5 ∨ kd ≠ 7 ∧ v.toList ≠ []
    · rw [if_pos x2] at hv
      simp at hv
    · rw [if_neg x2] at hv ⊢
      have hn0 : n = 0 := by omega
      have t1 := vtext_ev s
      have t2 := vtext_ev v
      have b1 := bin_ev s
      unfold longT at t1 t2
      rw [if_pos rfl] at t1 t2
      rcases hc with rfl | rfl | rfl | rfl | rfl | rfl | rfl | rfl
      · omega
      · omega
      · omega
      · omega
      · omega
      · have hv0 : v.toList = [] := (show n = 0 ∧ v.toList = [] by simpa using x2).2
        have ⟨K, hK⟩ := t1
        by_cases h : checkT s = 0
        · rw [if_pos h] at hK
          exact ⟨_, _, ⟨K, fun k hk => by have := hK k hk; simpa [prop_laid.f] using this⟩, by simp [hn0, hv0, h], by simp⟩
        · rw [if_neg h] at hK
          exact ⟨_, _, ⟨K, fun k hk => by have := hK k hk; simpa [prop_laid.f] using this⟩, by simp [hn0, hv0, h], by simp [h]⟩
      · have hv0 : v.toList = [] := (show n = 0 ∧ v.toList = [] by simpa using x2).2
        have ⟨K, hK⟩ := b1
        by_cases h : (s.size : Int) > 1024
        · rw [if_pos h] at hK
          exact ⟨_, _, ⟨K, fun k hk => by have := hK k hk; simpa [prop_laid.f] using this⟩, by simp [hn0, hv0]; omega, by simp⟩
        · rw [if_neg h] at hK
          exact ⟨_, _, ⟨K, fun k hk => by have := hK k hk; simpa [prop_laid.f] using this⟩, by simp [hn0, hv0]; omega, by simp⟩
      · obtain ⟨K1, h1⟩ := t1
        obtain ⟨K2, h2⟩ := t2
        have p1 := checkT_pos s
        have p2 := checkT_pos v
        have z1 : (if checkT s = 0 then (two s.size ++ s, (0 : Int)) else ((⟨#[]⟩ : ByteArray), checkT s)).1.size ≤ 2000 := by
          split
          · rename_i h
            have := check_small h
            rw [app_size, two_size]; omega
          · exact Nat.zero_le _
        have z2 : (if checkT v = 0 then (two v.size ++ v, (0 : Int)) else ((⟨#[]⟩ : ByteArray), checkT v)).1.size ≤ 2000 := by
          split
          · rename_i h
            have := check_small h
            rw [app_size, two_size]; omega
          · exact Nat.zero_le _
        refine ⟨_, _, ⟨K1 + K2, fun k hk => by
          have a1 := h1 k (by omega)
          have a2 := h2 k (by omega)
          dsimp only at a1 a2 ⊢
          simp only [prop_laid.f, if_true]
          rw [if_neg (by omega), a1, a2]
          simp only [Option.bind_some]
          rw [if_pos (by omega)]⟩, ?_, ?_⟩
        · by_cases h : checkT s = 0 <;> by_cases h' : checkT v = 0 <;> simp [hn0, h, h', mx] <;> omega
        · by_cases h : checkT s = 0 <;> by_cases h' : checkT v = 0 <;> simp [h, h', mx] <;> omega
theorem value_no {a n : Int} {s v : ByteArray} (h : (valT a n s v).2 = false) : okP a n s v = false := by
  have hc := kind_cases a
  unfold valT at h
  unfold okP
  generalize kindOf a = kd at hc h ⊢
  by_cases x1 : kd < 5 ∧ s.toList = [] ∧ v.toList = []
  · rw [if_pos x1] at h
    have : ¬ kd > 0 := by simpa using h
    rw [if_pos (by omega)]
  · rw [if_neg x1] at h
    by_cases x2 : n ≠ 0 ∨ kd < 5 ∨ kd ≠ 7 ∧ v.toList ≠ []
    · rcases hc with rfl | rfl | rfl | rfl | rfl | rfl | rfl | rfl <;> simp at x1 x2 ⊢ <;> intros <;> first | (simp_all; done) | omega
    · rw [if_neg x2] at h
      by_cases x3 : kd = 7 <;> simp [x3] at h
def stepP (p : Int) (l : List S42) (a n : Int) (s v : ByteArray) : Bool := okP a n s v && decide (a ∈ placeL p) && !againP p a l
theorem nought_kind {a : Int} (h : a = 33 ∨ a = 35 ∨ a = 39 ∨ a = 11) : kindOf a = 2 ∨ kindOf a = 3 ∨ kindOf a = 4 := by
  rcases h with rfl | rfl | rfl | rfl <;> decide
theorem fits_no {p : Int} {l : List S42} {a n : Int} {s v : ByteArray} (h : fitsP p l a n = false) : stepP p l a n s v = false := by
  unfold fitsP at h
  unfold stepP
  by_cases x1 : a ∈ placeL p
  · by_cases x2 : kindOf a = 1 ∧ n > 1
    · have : okP a n s v = false := by
        unfold okP
        simp [x2.1, mostK]
        intros; omega
      rw [this]; rfl
    · by_cases x3 : (a = 33 ∨ a = 35 ∨ a = 39 ∨ a = 11) ∧ n = 0
      · have : okP a n s v = false := by
          unfold okP
          have hk := nought_kind x3.1
          rw [if_neg (by omega), if_pos (by omega)]
          exact decide_eq_false fun h => h.1 x3
        rw [this]; rfl
      · rw [decide_eq_true ⟨x1, x2, x3⟩, Bool.true_and] at h
        rw [h, Bool.and_false]
  · rw [decide_eq_false x1]; simp
theorem fits_yes {p : Int} {l : List S42} {a n : Int} {s v : ByteArray} (h : fitsP p l a n = true) : stepP p l a n s v = okP a n s v ∧ ¬ (kindOf a = 1 ∧ n > 1) ∧ ¬ ((a = 33 ∨ a = 35 ∨ a = 39 ∨ a = 11) ∧ n = 0) := by
  unfold fitsP at h
  rw [Bool.and_eq_true, decide_eq_true_eq] at h
  unfold stepP
  rw [decide_eq_true h.1.1, h.2, Bool.and_true, Bool.and_true]
  exact ⟨rfl, h.1.2⟩
theorem vb_len5 (n : Nat) (h : n ≤ 268435455) : (vb n).length ≤ 4 := vb_len (d := 4) (by omega) (by omega)
theorem str_size (l : List Int) : (strOfNums l).size = l.length := by simp [strOfNums, ByteArray.size]
theorem body_size {a n : Int} {s v : ByteArray} (h : okP a n s v = true) : (bodyP a n s v).size ≤ 2100 := by
  have hc := kind_cases a
  unfold okP at h
  unfold bodyP
  generalize kindOf a = kd at hc h ⊢
  rcases hc with rfl | rfl | rfl | rfl | rfl | rfl | rfl | rfl
  · simp at h
  · simp [str_size]
  · simp [two_size]
  · simp [four, str_size]
  · simp [mostK] at h
    simp [numOf_size]
    have := vb_len5 n.toNat (by omega)
    omega
  · simp at h
    have := check_small h.2.2
    simp [app_size, two_size]; omega
  · simp at h
    simp [app_size, two_size]; omega
  · simp at h
    have := check_small h.2.1
    have := check_small h.2.2
    simp [app_size, two_size]; omega
def oneP (x : S42) : ByteArray := strOfNums [x.f0 % 256] ++ bodyP x.f0 x.f1 x.f2 x.f3
def allP (p : Int) : List S42 → List S42 → Bool
  | _, [] => true
  | pre, x :: r => stepP p pre x.f0 x.f1 x.f2 x.f3 && allP p (pre ++ [x]) r
def bytesP (l : List S42) : ByteArray := l.foldl (fun a x => a ++ oneP x) (⟨#[]⟩ : ByteArray)
theorem rd_pre (pre r : List S42) (x : S42) : rd_T42 (pre ++ x :: r) (pre.length : Int) = x := by simp [rd_T42]
theorem take_pre (pre r : List S42) : (pre ++ r).take (pre.length : Int).toNat = pre := by simp
def layR (p : Int) : List S42 → List S42 → ByteArray → ByteArray × Bool
  | _, [], acc => (acc, true)
  | pre, x :: r, acc => if stepP p pre x.f0 x.f1 x.f2 x.f3 = true then layR p (pre ++ [x]) r (acc ++ oneP x) else ((⟨#[]⟩ : ByteArray), false)
theorem lay_loop (p : Int) (r : List S42) : ∀ (pre : List S42) (acc : ByteArray), (pre ++ r).length ≤ 100000 → acc.size ≤ 3000 * pre.length →
    Ev (fun k => prop_lay.l0 k p (pre ++ r) acc (pre ++ r) ((pre ++ r).length : Int) (pre.length : Int)) (layR p pre r acc) := by
  induction r with
  | nil =>
    intro pre acc hl ha
    refine ⟨1, fun k hk => ?_⟩
    obtain ⟨k, rfl⟩ : ∃ m, k = m + 1 := ⟨k - 1, by omega⟩
    dsimp only
    simp only [prop_lay.l0, List.append_nil]
    rw [if_neg (by omega)]
    rfl
  | cons x r ih =>
    intro pre acc hl ha
    have hL : (pre ++ x :: r).length = pre.length + 1 + r.length := by simp; omega
    obtain ⟨K0, h0⟩ := value_ev x.f0 x.f1 x.f2 x.f3
    obtain ⟨K1, h1⟩ := fits_ev p pre x.f0 x.f1 x.f2 x.f3
    obtain ⟨K2, h2⟩ := kind_ev x.f0
    have main : ∃ K, ∀ k, K ≤ k → prop_lay.l0 (k + 2) p (pre ++ x :: r) acc (pre ++ x :: r) ((pre ++ x :: r).length : Int) (pre.length : Int) = some (layR p pre (x :: r) acc) := by
      unfold layR
      cases hv : (valT x.f0 x.f1 x.f2 x.f3).2 with
      | false =>
        refine ⟨K0 + K1 + K2, fun k hk => ?_⟩
        have e0 := h0 (k + 1) (by omega)
        dsimp only at e0
        simp only [prop_lay.l0, rd_pre]
        rw [if_pos (by omega), if_pos (by omega), if_pos (by omega), e0]
        simp only [Option.bind_some]
        rw [if_neg (by rw [hv]; simp)]
        have : stepP p pre x.f0 x.f1 x.f2 x.f3 = false := by unfold stepP; rw [value_no hv]; rfl
        rw [this]
        simp [prop_lay.j2]
      | true =>
        cases hf : fitsP p pre x.f0 x.f1 with
        | false =>
          refine ⟨K0 + K1 + K2, fun k hk => ?_⟩
          have e0 := h0 (k + 1) (by omega)
          have e1 := h1 (k + 1) (by omega)
          dsimp only at e0 e1
          simp only [prop_lay.l0, rd_pre, take_pre]
          rw [if_pos (by omega), if_pos (by omega), if_pos (by omega), e0]
          simp only [Option.bind_some]
          rw [if_pos hv, if_pos (by omega), e1, fits_no hf]
          simp only [Option.bind_some]
          simp [prop_lay.j2, hf]
        | true =>
          obtain ⟨hs, hn, hz⟩ := fits_yes (s := x.f2) (v := x.f3) hf
          obtain ⟨b, e, ⟨K3, h3⟩, hok, hb⟩ := laid_ev x.f0 x.f1 x.f2 x.f3 hv hn hz
          rw [hs]
          by_cases he : e = 0
          · have ok := hok.1 he
            have bs := body_size ok
            have sz : (acc ++ oneP x).size ≤ 3000 * (pre ++ [x]).length := by
              simp only [oneP, app_size, str_size, List.length_append, List.length_singleton]
              omega
            obtain ⟨K4, h4⟩ := ih (pre ++ [x]) (acc ++ oneP x) (by simpa using hl) sz
            refine ⟨K0 + K1 + K2 + K3 + K4, fun k hk => ?_⟩
            have e0 := h0 (k + 1) (by omega)
            have e1 := h1 (k + 1) (by omega)
            have e2 := h2 k (by omega)
            have e3 := h3 k (by omega)
            have e4 := h4 k (by omega)
            dsimp only at e0 e1 e2 e3 e4
            simp only [prop_lay.l0, rd_pre, take_pre]
            rw [if_pos (by omega), if_pos (by omega), if_pos (by omega), e0]
            simp only [Option.bind_some]
            rw [if_pos hv, if_pos (by omega), e1, hf]
            simp only [Option.bind_some]
            simp only [prop_lay.j2, Bool.not_true, Bool.false_eq_true, if_false]
            rw [e2]
            simp only [Option.bind_some]
            rw [e3]
            simp only [Option.bind_some]
            rw [if_pos he, hb he]
            have s1 : (strOfNums [x.f0 % 256]).size = 1 := str_size _
            have s2 : (acc ++ (strOfNums [x.f0 % 256] ++ bodyP x.f0 x.f1 x.f2 x.f3)).size ≤ 3000 * (pre ++ [x]).length := sz
            rw [app_size] at s2
            simp only [List.length_append, List.length_singleton] at s2
            rw [if_pos (by omega), if_pos (by omega), if_pos ok]
            simp only [List.append_assoc, List.singleton_append, List.length_append, List.length_singleton] at e4
            rw [w64 (by omega) (by omega), show ((pre.length : Int) + 1) = ((pre.length + 1 : Nat) : Int) by omega]
            simpa [oneP] using e4
          · have ok : okP x.f0 x.f1 x.f2 x.f3 = false := by
              cases h : okP x.f0 x.f1 x.f2 x.f3 with
              | false => rfl
              | true => exact absurd (hok.2 h) he
            refine ⟨K0 + K1 + K2 + K3, fun k hk => ?_⟩
            have e0 := h0 (k + 1) (by omega)
            have e1 := h1 (k + 1) (by omega)
            have e2 := h2 k (by omega)
            have e3 := h3 k (by omega)
            dsimp only at e0 e1 e2 e3
            simp only [prop_lay.l0, rd_pre, take_pre]
            rw [if_pos (by omega), if_pos (by omega), if_pos (by omega), e0]
            simp only [Option.bind_some]
            rw [if_pos hv, if_pos (by omega), e1, hf]
            simp only [Option.bind_some]
            simp only [prop_lay.j2, Bool.not_true, Bool.false_eq_true, if_false]
            rw [e2]
            simp only [Option.bind_some]
            rw [e3]
            simp only [Option.bind_some]
            rw [if_neg he, ok, if_neg (by simp)]
    obtain ⟨K, h⟩ := main
    refine ⟨K + 2, fun k hk => ?_⟩
    obtain ⟨k, rfl⟩ : ∃ m, k = m + 2 := ⟨k - 2, by omega⟩
    exact h k (by omega)
theorem layR_is (p : Int) (r : List S42) : ∀ (pre : List S42) (acc : ByteArray), layR p pre r acc = if allP p pre r = true then (r.foldl (fun a x => a ++ oneP x) acc, true) else ((⟨#[]⟩ : ByteArray), false) := by
  induction r with
  | nil => intro pre acc; rfl
  | cons x r ih =>
    intro pre acc
    unfold layR allP
    rw [ih]
    cases stepP p pre x.f0 x.f1 x.f2 x.f3 with
    | false => rfl
    | true => rfl
theorem allP_ok (p : Int) (r : List S42) : ∀ pre : List S42, allP p pre r = true → ∀ x ∈ r, okP x.f0 x.f1 x.f2 x.f3 = true := by
  induction r with
  | nil => intro pre h x hx; cases hx
  | cons y r ih =>
    intro pre h x hx
    simp only [allP, Bool.and_eq_true] at h
    rcases List.mem_cons.1 hx with rfl | hx
    · have := h.1
      simp only [stepP, Bool.and_eq_true] at this
      exact this.1.1
    · exact ih _ h.2 x hx
theorem fold_size (r : List S42) (h : ∀ x ∈ r, okP x.f0 x.f1 x.f2 x.f3 = true) : ∀ acc : ByteArray, (r.foldl (fun a x => a ++ oneP x) acc).size ≤ acc.size + 3000 * r.length := by
  induction r with
  | nil => intro acc; simp
  | cons x r ih =>
    intro acc
    have := ih (fun y hy => h y (List.mem_cons_of_mem _ hy)) (acc ++ oneP x)
    have b := body_size (h x List.mem_cons_self)
    rw [List.foldl_cons]
    simp only [oneP, app_size, str_size, List.length_cons, List.length_nil] at this ⊢
    omega
theorem step_w {n : Nat} (h : n ≤ 1000000) : wrap64 ((n : Int) + 1) = ((n + 1 : Nat) : Int) := by rw [w64 (by omega) (by omega)]; omega
def propsP (p : Int) (l : List S42) : Bool := decide (0 ≤ p ∧ p ≤ 15) && decide (l.length ≤ 8) && allP p [] l
theorem lay_ev (p : Int) (l : List S42) (hl : l.length ≤ 100000) : Ev (fun k => prop_lay.f k p l) (if propsP p l = true then (bytesP l, true) else ((⟨#[]⟩ : ByteArray), false)) := by
  obtain ⟨K0, h0⟩ := stands_ev p
  obtain ⟨K1, h1⟩ := lay_loop p l [] (⟨#[]⟩ : ByteArray) (by simpa using hl) (Nat.zero_le _)
  refine ⟨K0 + K1 + 1, fun k hk => ?_⟩
  obtain ⟨k, rfl⟩ : ∃ m, k = m + 1 := ⟨k - 1, by omega⟩
  have e0 := h0 (k + 1) (by omega)
  have e1 := h1 k (by omega)
  dsimp only at e0 e1 ⊢
  rw [layR_is] at e1
  simp only [List.nil_append, List.length_nil] at e1
  unfold prop_lay.f propsP
  rw [e0]
  simp only [Option.bind_some]
  by_cases x1 : 0 ≤ p ∧ p ≤ 15
  · by_cases x2 : l.length ≤ 8
    · rw [decide_eq_true x1, decide_eq_true x2, if_pos rfl, decide_eq_false (by omega), Bool.true_and, Bool.true_and]
      simp only [prop_lay.j0, Bool.false_eq_true, if_false]
      exact e1
    · rw [decide_eq_true x1, decide_eq_false x2, if_pos rfl, decide_eq_true (by omega)]
      simp [prop_lay.j0]
  · rw [decide_eq_false x1]
    simp [prop_lay.j0]
theorem bytesP_size {p : Int} {l : List S42} (h : propsP p l = true) : (bytesP l).size ≤ 24000 := by
  unfold propsP at h
  simp only [Bool.and_eq_true, decide_eq_true_eq] at h
  have := fold_size l (allP_ok p l [] h.2) (⟨#[]⟩ : ByteArray)
  have z : (⟨#[]⟩ : ByteArray).size = 0 := rfl
  unfold bytesP
  omega
theorem bytes_ev (p : Int) (l : List S42) (hl : l.length ≤ 100000) : Ev (fun k => prop_Bytes.f k p l) (if propsP p l = true then (numOf ((bytesP l).size : Int) ++ bytesP l, 0) else ((⟨#[]⟩ : ByteArray), 1)) := by
  obtain ⟨K0, h0⟩ := lay_ev p l hl
  cases hp : propsP p l with
  | false =>
    refine ⟨K0, fun k hk => ?_⟩
    have e0 := h0 k hk
    dsimp only at e0 ⊢
    unfold prop_Bytes.f
    rw [e0, hp]
    rfl
  | true =>
    have hs := bytesP_size hp
    obtain ⟨K1, h1⟩ := num_ok (n := ((bytesP l).size : Int)) (by omega) (by omega)
    refine ⟨K0 + K1, fun k hk => ?_⟩
    have e0 := h0 k (by omega)
    have e1 := h1 k (by omega)
    dsimp only at e0 e1 ⊢
    unfold prop_Bytes.f
    rw [e0, hp]
    simp only [if_true, Option.bind_some]
    rw [e1]
    simp only [Option.bind_some]
    have := numOf_size ((bytesP l).size : Int)
    have := vb_len5 ((bytesP l).size : Int).toNat (by omega)
    rw [if_pos (Nat.le_trans (m := 100000) (by omega) (by decide))]
end Go.Proofs.YtiancopplinpcaaDoor.P
end
section
namespace Go.Proofs.YtiancopplinpcaaDoor.P
open Go.RowKit Go.Proofs.YtiancopplinpcaaDoorW.PrintWords Go.Proofs.YtiancopplinpcaaDoorW.PrintLast Go.Proofs.YtiancopplinpcaaDoorW.PrintMore
attribute [local go_sem] max2_int min2_int max_two min_two max_three min_three max_four min_four
set_option linter.unusedVariables false
set_option linter.unusedSimpArgs false
mutual
def fairwayref4_TakeProps.l0 : Nat → Int → Int → Int → ByteArray → List (S42) → Option ((List (S42)) × Int × Int)
  | 0, _, _, _, _, _ => none
  | k + 1, x0, x7, x8, x10, x11 => if (x10.size : Int) > 0 then (if 0 < (x10.size : Int) then ((fairwayref4_Kind.f k (wrap64 (bt x10 0))).bind fun t429 => (if t429 = 0 then (some (([] : List (S42)), 0, 8)) else (if 1 ≤ (x10.size : Int) then ((fairwayref4_value.f k (wrap64 (bt x10 0)) (x10.extract 1 x10.size)).bind fun bt430 => (if bt430.2.2.2.2.2 = 0 then ((fairwayref4_stands.f k x0 (wrap64 (bt x10 0))).bind fun t437 => (if t437 = true then ((fairwayref4_twice.f k x0 (wrap64 (bt x10 0)) x11).bind fun t438 => (if t438 = true then (fairwayref4_TakeProps.j1 k x0 x7 x8 x10 x11 bt430.2.2.2.2.1 true bt430.1 bt430.2.1 bt430.2.2.1 bt430.2.2.2.1) else ((fairwayref4_fits.f k bt430.1 bt430.2.1 bt430.2.2.1 bt430.2.2.2.1).bind fun t439 => (fairwayref4_TakeProps.j1 k x0 x7 x8 x10 x11 bt430.2.2.2.2.1 (!t439) bt430.1 bt430.2.1 bt430.2.2.1 bt430.2.2.2.1)))) else (fairwayref4_TakeProps.j1 k x0 x7 x8 x10 x11 bt430.2.2.2.2.1 true bt430.1 bt430.2.1 bt430.2.2.1 bt430.2.2.2.1))) else (some (([] : List (S42)), 0, bt430.2.2.2.2.2)))) else (none)))) else (none)) else (some (x11, wrap64 (x8 + x7), 0))
def fairwayref4_TakeProps.j1 : Nat → Int → Int → Int → ByteArray → List (S42) → Int → Bool → Int → Int → ByteArray → ByteArray → Option ((List (S42)) × Int × Int)
  | 0, _, _, _, _, _, _, _, _, _, _, _ => none
  | k + 1, x0, x7, x8, x10, x11, x14, x71, x437000, x437001, x437002, x437003 => if x71 = true then (some (([] : List (S42)), 0, 9)) else (if (x11.length : Int) = 8 then (some (([] : List (S42)), 0, 2)) else (if x11.length < 2932031007402 then (if 0 ≤ (wrap64 (1 + x14)) then (if (wrap64 (1 + x14)) ≤ (x10.size : Int) then (fairwayref4_TakeProps.l0 k x0 x7 x8 (x10.extract ((wrap64 (1 + x14)) : Int).toNat x10.size) (x11 ++ [(⟨x437000, x437001, x437002, x437003⟩ : S42)])) else (none)) else (none)) else (none)))
end
def fairwayref4_TakeProps.f (k : Nat) (a0 : Int) (a1 : ByteArray) : Option ((List (S42)) × Int × Int) := (fairwayref1_TakeNum.f k a1).bind fun bt426 => (if bt426.2.2 = 0 then (if (wrap64 ((a1.size : Int) - bt426.2.1)) < bt426.1 then (some (([] : List (S42)), 0, 7)) else (if 0 ≤ bt426.2.1 then (if bt426.2.1 ≤ (wrap64 (bt426.2.1 + bt426.1)) then (if (wrap64 (bt426.2.1 + bt426.1)) ≤ (a1.size : Int) then (fairwayref4_TakeProps.l0 k a0 bt426.1 bt426.2.1 (a1.extract (bt426.2.1 : Int).toNat ((wrap64 (bt426.2.1 + bt426.1)) : Int).toNat) ([] : List (S42))) else (none)) else (none)) else (none))) else (some (([] : List (S42)), 0, bt426.2.2)))
end Go.Proofs.YtiancopplinpcaaDoor.P
end
section
namespace Go.Proofs.YtiancopplinpcaaDoor.P
open Go.RowKit Go.Proofs.YtiancopplinpcaaDoorW.PrintWords Go.Proofs.YtiancopplinpcaaDoorW.PrintLast Go.Proofs.YtiancopplinpcaaDoorW.PrintMore
set_option linter.unusedVariables false
set_option linter.unusedSimpArgs false
noncomputable def fairwayref4_fits.fL (a0_0 : Int) (a0_1 : Int) (a0_2 : ByteArray) (a0_3 : ByteArray) : Option (Bool) := lim fun k => fairwayref4_fits.f k a0_0 a0_1 a0_2 a0_3
end Go.Proofs.YtiancopplinpcaaDoor.P
end
section
namespace Go.Proofs.YtiancopplinpcaaDoor.P
open Go.RowKit Go.Proofs.YtiancopplinpcaaDoorW.PrintWords Go.Proofs.YtiancopplinpcaaDoorW.PrintLast Go.Proofs.YtiancopplinpcaaDoorW.PrintMore
set_option linter.unusedVariables false
set_option linter.unusedSimpArgs false
noncomputable def fairwayref4_stands.fL (a0 : Int) (a1 : Int) : Option (Bool) := lim fun k => fairwayref4_stands.f k a0 a1
noncomputable def fairwayref4_twice.fL (a0 : Int) (a1 : Int) (l2 : List (S42)) : Option (Bool) := lim fun k => fairwayref4_twice.f k a0 a1 l2
end Go.Proofs.YtiancopplinpcaaDoor.P
end
section
namespace Go.Proofs.YtiancopplinpcaaDoor.P
open Go.RowKit Go.Proofs.YtiancopplinpcaaDoorW.PrintWords Go.Proofs.YtiancopplinpcaaDoorW.PrintLast Go.Proofs.YtiancopplinpcaaDoorW.PrintMore
set_option linter.unusedVariables false
set_option linter.unusedSimpArgs false
noncomputable def fairwayref1_TakeLong.fL (a0 : ByteArray) (a1 : Bool) : Option (ByteArray × Int × Int) := lim fun k => fairwayref1_TakeLong.f k a0 a1
noncomputable def fairwayref4_value.fL (a0 : Int) (a1 : ByteArray) : Option (Int × Int × ByteArray × ByteArray × Int × Int) := lim fun k => fairwayref4_value.f k a0 a1
noncomputable def fairwayref4_value.j0L (x1 : ByteArray) (x8 : Int) (x24 : Int) (x25 : Bool) (x407000 : Int) (x407001 : Int) (x407002 : ByteArray) (x407003 : ByteArray) : Option (Int × Int × ByteArray × ByteArray × Int × Int) := lim fun k => fairwayref4_value.j0 k x1 x8 x24 x25 x407000 x407001 x407002 x407003
noncomputable def fairwayref4_value.j1L (x1 : ByteArray) (x15 : ByteArray) (x16 : Int) (x17 : Int) (x73 : Bool) (x407000 : Int) (x407001 : Int) (x407002 : ByteArray) (x407003 : ByteArray) : Option (Int × Int × ByteArray × ByteArray × Int × Int) := lim fun k => fairwayref4_value.j1 k x1 x15 x16 x17 x73 x407000 x407001 x407002 x407003
theorem fairwayref4_value.fL_eq (a0 : Int) (a1 : ByteArray) : fairwayref4_value.fL a0 a1 = (fairwayref4_Kind.fL a0).bind fun t407 => (if t407 = 1 then (fairwayref4_value.j0L a1 t407 t407 (t407 == 1) a0 0 (⟨#[]⟩ : ByteArray) (⟨#[]⟩ : ByteArray)) else (if t407 = 2 then (fairwayref4_value.j0L a1 t407 t407 (t407 == 2) a0 0 (⟨#[]⟩ : ByteArray) (⟨#[]⟩ : ByteArray)) else (fairwayref4_value.j0L a1 t407 t407 (t407 == 3) a0 0 (⟨#[]⟩ : ByteArray) (⟨#[]⟩ : ByteArray)))) := by
  show lim (fun k => fairwayref4_value.f k a0 a1) = _
  show lim (fun k => (fairwayref4_Kind.f k a0).bind fun t407 => (if t407 = 1 then (fairwayref4_value.j0 k a1 t407 t407 (t407 == 1) a0 0 (⟨#[]⟩ : ByteArray) (⟨#[]⟩ : ByteArray)) else (if t407 = 2 then (fairwayref4_value.j0 k a1 t407 t407 (t407 == 2) a0 0 (⟨#[]⟩ : ByteArray) (⟨#[]⟩ : ByteArray)) else (fairwayref4_value.j0 k a1 t407 t407 (t407 == 3) a0 0 (⟨#[]⟩ : ByteArray) (⟨#[]⟩ : ByteArray))))) = _
  repeat' (first | exact lim_const _ | (with_reducible refine lim_ite' ?_ ?_) | ((with_reducible refine lim_bind' ?hm ?hx (fun _ => ?_)); (case hm => exact (fun k => by first | exact LeO.refl _ | apply fairwayref4_Kind.mono)); (case hx => first | exact lim_const _ | rfl)) | rfl)
theorem fairwayref4_value.j0L_eq (x1 : ByteArray) (x8 : Int) (x24 : Int) (x25 : Bool) (x407000 : Int) (x407001 : Int) (x407002 : ByteArray) (x407003 : ByteArray) : fairwayref4_value.j0L x1 x8 x24 x25 x407000 x407001 x407002 x407003 = if x25 = true then ((some (([0, 1, 2, 4] : List Int) : List Int)).bind fun y408 => (if 0 ≤ x8 then (if x8 < (y408.length : Int) then ((fairwayref1_TakeFixed.fL x1 (rd y408 x8)).bind fun bt412 => (if bt412.2 = true then (some (x407000, bt412.1, x407002, x407003, rd y408 x8, 0)) else (some (x407000, x407001, x407002, x407003, 0, 8)))) else (none)) else (none))) else (if x24 = 4 then ((fairwayref1_TakeNum.fL x1).bind fun bt414 => ((fairwayref4_inner.f bt414.2.2).bind fun t417 => (some (x407000, bt414.1, x407002, x407003, bt414.2.1, t417)))) else ((fairwayref1_TakeLong.fL x1 (x8 != 6)).bind fun bt418 => (if bt418.2.2 = 0 then (fairwayref4_value.j1L x1 bt418.1 bt418.2.1 bt418.2.2 (x8 != 7) x407000 x407001 x407002 x407003) else (fairwayref4_value.j1L x1 bt418.1 bt418.2.1 bt418.2.2 true x407000 x407001 x407002 x407003)))) := by
  show lim (fun k => fairwayref4_value.j0 k x1 x8 x24 x25 x407000 x407001 x407002 x407003) = _
  rw [lim_step (f := fun k => if x25 = true then ((some (([0, 1, 2, 4] : List Int) : List Int)).bind fun y408 => (if 0 ≤ x8 then (if x8 < (y408.length : Int) then ((fairwayref1_TakeFixed.f k x1 (rd y408 x8)).bind fun bt412 => (if bt412.2 = true then (some (x407000, bt412.1, x407002, x407003, rd y408 x8, 0)) else (some (x407000, x407001, x407002, x407003, 0, 8)))) else (none)) else (none))) else (if x24 = 4 then ((fairwayref1_TakeNum.f k x1).bind fun bt414 => ((fairwayref4_inner.f bt414.2.2).bind fun t417 => (some (x407000, bt414.1, x407002, x407003, bt414.2.1, t417)))) else ((fairwayref1_TakeLong.f k x1 (x8 != 6)).bind fun bt418 => (if bt418.2.2 = 0 then (fairwayref4_value.j1 k x1 bt418.1 bt418.2.1 bt418.2.2 (x8 != 7) x407000 x407001 x407002 x407003) else (fairwayref4_value.j1 k x1 bt418.1 bt418.2.1 bt418.2.2 true x407000 x407001 x407002 x407003))))) (fun k => by first | rfl | simp only [fairwayref4_value.j0])]
  repeat' (first | exact lim_const _ | (with_reducible refine lim_ite' ?_ ?_) | ((with_reducible refine lim_bind' ?hm ?hx (fun _ => ?_)); (case hm => exact (fun k => by first | exact LeO.refl _ | apply fairwayref1_TakeFixed.mono | apply fairwayref1_TakeLong.mono | apply fairwayref1_TakeNum.mono)); (case hx => first | exact lim_const _ | rfl)) | rfl)
theorem fairwayref4_value.j1L_eq (x1 : ByteArray) (x15 : ByteArray) (x16 : Int) (x17 : Int) (x73 : Bool) (x407000 : Int) (x407001 : Int) (x407002 : ByteArray) (x407003 : ByteArray) : fairwayref4_value.j1L x1 x15 x16 x17 x73 x407000 x407001 x407002 x407003 = if x73 = true then ((fairwayref4_inner.f x17).bind fun t421 => (some (x407000, x407001, x15, x407003, x16, t421))) else (if 0 ≤ x16 then (if x16 ≤ (x1.size : Int) then ((fairwayref1_TakeLong.fL (x1.extract (x16 : Int).toNat x1.size) true).bind fun bt422 => ((fairwayref4_inner.f bt422.2.2).bind fun t425 => (some (x407000, x407001, x15, bt422.1, wrap64 (x16 + bt422.2.1), t425)))) else (none)) else (none)) := by
  show lim (fun k => fairwayref4_value.j1 k x1 x15 x16 x17 x73 x407000 x407001 x407002 x407003) = _
  rw [lim_step (f := fun k => if x73 = true then ((fairwayref4_inner.f x17).bind fun t421 => (some (x407000, x407001, x15, x407003, x16, t421))) else (if 0 ≤ x16 then (if x16 ≤ (x1.size : Int) then ((fairwayref1_TakeLong.f k (x1.extract (x16 : Int).toNat x1.size) true).bind fun bt422 => ((fairwayref4_inner.f bt422.2.2).bind fun t425 => (some (x407000, x407001, x15, bt422.1, wrap64 (x16 + bt422.2.1), t425)))) else (none)) else (none))) (fun k => by first | rfl | simp only [fairwayref4_value.j1])]
  repeat' (first | exact lim_const _ | (with_reducible refine lim_ite' ?_ ?_) | ((with_reducible refine lim_bind' ?hm ?hx (fun _ => ?_)); (case hm => exact (fun k => by first | exact LeO.refl _ | apply fairwayref1_TakeLong.mono)); (case hx => first | exact lim_const _ | rfl)) | rfl)
end Go.Proofs.YtiancopplinpcaaDoor.P
end
section
namespace Go.Proofs.YtiancopplinpcaaDoor.P
open Go.RowKit Go.Proofs.YtiancopplinpcaaDoorW.PrintWords Go.Proofs.YtiancopplinpcaaDoorW.PrintLast Go.Proofs.YtiancopplinpcaaDoorW.PrintMore
set_option linter.unusedVariables false
set_option linter.unusedSimpArgs false
noncomputable def fairwayref4_TakeProps.fL (a0 : Int) (a1 : ByteArray) : Option ((List (S42)) × Int × Int) := lim fun k => fairwayref4_TakeProps.f k a0 a1
noncomputable def fairwayref4_TakeProps.l0L (x0 : Int) (x7 : Int) (x8 : Int) (x10 : ByteArray) (x11 : List (S42)) : Option ((List (S42)) × Int × Int) := lim fun k => fairwayref4_TakeProps.l0 k x0 x7 x8 x10 x11
noncomputable def fairwayref4_TakeProps.j1L (x0 : Int) (x7 : Int) (x8 : Int) (x10 : ByteArray) (x11 : List (S42)) (x14 : Int) (x71 : Bool) (x437000 : Int) (x437001 : Int) (x437002 : ByteArray) (x437003 : ByteArray) : Option ((List (S42)) × Int × Int) := lim fun k => fairwayref4_TakeProps.j1 k x0 x7 x8 x10 x11 x14 x71 x437000 x437001 x437002 x437003
theorem fairwayref4_TakeProps.fL_eq (a0 : Int) (a1 : ByteArray) : fairwayref4_TakeProps.fL a0 a1 = (fairwayref1_TakeNum.fL a1).bind fun bt426 => (if bt426.2.2 = 0 then (if (wrap64 ((a1.size : Int) - bt426.2.1)) < bt426.1 then (some (([] : List (S42)), 0, 7)) else (if 0 ≤ bt426.2.1 then (if bt426.2.1 ≤ (wrap64 (bt426.2.1 + bt426.1)) then (if (wrap64 (bt426.2.1 + bt426.1)) ≤ (a1.size : Int) then (fairwayref4_TakeProps.l0L a0 bt426.1 bt426.2.1 (a1.extract (bt426.2.1 : Int).toNat ((wrap64 (bt426.2.1 + bt426.1)) : Int).toNat) ([] : List (S42))) else (none)) else (none)) else (none))) else (some (([] : List (S42)), 0, bt426.2.2))) := by
  show lim (fun k => fairwayref4_TakeProps.f k a0 a1) = _
  show lim (fun k => (fairwayref1_TakeNum.f k a1).bind fun bt426 => (if bt426.2.2 = 0 then (if (wrap64 ((a1.size : Int) - bt426.2.1)) < bt426.1 then (some (([] : List (S42)), 0, 7)) else (if 0 ≤ bt426.2.1 then (if bt426.2.1 ≤ (wrap64 (bt426.2.1 + bt426.1)) then (if (wrap64 (bt426.2.1 + bt426.1)) ≤ (a1.size : Int) then (fairwayref4_TakeProps.l0 k a0 bt426.1 bt426.2.1 (a1.extract (bt426.2.1 : Int).toNat ((wrap64 (bt426.2.1 + bt426.1)) : Int).toNat) ([] : List (S42))) else (none)) else (none)) else (none))) else (some (([] : List (S42)), 0, bt426.2.2)))) = _
  repeat' (first | exact lim_const _ | (with_reducible refine lim_ite' ?_ ?_) | ((with_reducible refine lim_bind' ?hm ?hx (fun _ => ?_)); (case hm => exact (fun k => by first | exact LeO.refl _ | apply fairwayref1_TakeNum.mono)); (case hx => first | exact lim_const _ | rfl)) | rfl)
theorem fairwayref4_TakeProps.l0L_eq (x0 : Int) (x7 : Int) (x8 : Int) (x10 : ByteArray) (x11 : List (S42)) : fairwayref4_TakeProps.l0L x0 x7 x8 x10 x11 = if (x10.size : Int) > 0 then (if 0 < (x10.size : Int) then ((fairwayref4_Kind.fL (wrap64 (bt x10 0))).bind fun t429 => (if t429 = 0 then (some (([] : List (S42)), 0, 8)) else (if 1 ≤ (x10.size : Int) then ((fairwayref4_value.fL (wrap64 (bt x10 0)) (x10.extract 1 x10.size)).bind fun bt430 => (if bt430.2.2.2.2.2 = 0 then ((fairwayref4_stands.fL x0 (wrap64 (bt x10 0))).bind fun t437 => (if t437 = true then ((fairwayref4_twice.fL x0 (wrap64 (bt x10 0)) x11).bind fun t438 => (if t438 = true then (fairwayref4_TakeProps.j1L x0 x7 x8 x10 x11 bt430.2.2.2.2.1 true bt430.1 bt430.2.1 bt430.2.2.1 bt430.2.2.2.1) else ((fairwayref4_fits.fL bt430.1 bt430.2.1 bt430.2.2.1 bt430.2.2.2.1).bind fun t439 => (fairwayref4_TakeProps.j1L x0 x7 x8 x10 x11 bt430.2.2.2.2.1 (!t439) bt430.1 bt430.2.1 bt430.2.2.1 bt430.2.2.2.1)))) else (fairwayref4_TakeProps.j1L x0 x7 x8 x10 x11 bt430.2.2.2.2.1 true bt430.1 bt430.2.1 bt430.2.2.1 bt430.2.2.2.1))) else (some (([] : List (S42)), 0, bt430.2.2.2.2.2)))) else (none)))) else (none)) else (some (x11, wrap64 (x8 + x7), 0)) := by
  show lim (fun k => fairwayref4_TakeProps.l0 k x0 x7 x8 x10 x11) = _
  rw [lim_step (f := fun k => if (x10.size : Int) > 0 then (if 0 < (x10.size : Int) then ((fairwayref4_Kind.f k (wrap64 (bt x10 0))).bind fun t429 => (if t429 = 0 then (some (([] : List (S42)), 0, 8)) else (if 1 ≤ (x10.size : Int) then ((fairwayref4_value.f k (wrap64 (bt x10 0)) (x10.extract 1 x10.size)).bind fun bt430 => (if bt430.2.2.2.2.2 = 0 then ((fairwayref4_stands.f k x0 (wrap64 (bt x10 0))).bind fun t437 => (if t437 = true then ((fairwayref4_twice.f k x0 (wrap64 (bt x10 0)) x11).bind fun t438 => (if t438 = true then (fairwayref4_TakeProps.j1 k x0 x7 x8 x10 x11 bt430.2.2.2.2.1 true bt430.1 bt430.2.1 bt430.2.2.1 bt430.2.2.2.1) else ((fairwayref4_fits.f k bt430.1 bt430.2.1 bt430.2.2.1 bt430.2.2.2.1).bind fun t439 => (fairwayref4_TakeProps.j1 k x0 x7 x8 x10 x11 bt430.2.2.2.2.1 (!t439) bt430.1 bt430.2.1 bt430.2.2.1 bt430.2.2.2.1)))) else (fairwayref4_TakeProps.j1 k x0 x7 x8 x10 x11 bt430.2.2.2.2.1 true bt430.1 bt430.2.1 bt430.2.2.1 bt430.2.2.2.1))) else (some (([] : List (S42)), 0, bt430.2.2.2.2.2)))) else (none)))) else (none)) else (some (x11, wrap64 (x8 + x7), 0))) (fun k => by first | rfl | simp only [fairwayref4_TakeProps.l0])]
  repeat' (first | exact lim_const _ | (with_reducible refine lim_ite' ?_ ?_) | ((with_reducible refine lim_bind' ?hm ?hx (fun _ => ?_)); (case hm => exact (fun k => by first | exact LeO.refl _ | apply fairwayref4_Kind.mono | apply fairwayref4_fits.mono | apply fairwayref4_stands.mono | apply fairwayref4_twice.mono | apply fairwayref4_value.mono)); (case hx => first | exact lim_const _ | rfl)) | rfl)
theorem fairwayref4_TakeProps.j1L_eq (x0 : Int) (x7 : Int) (x8 : Int) (x10 : ByteArray) (x11 : List (S42)) (x14 : Int) (x71 : Bool) (x437000 : Int) (x437001 : Int) (x437002 : ByteArray) (x437003 : ByteArray) : fairwayref4_TakeProps.j1L x0 x7 x8 x10 x11 x14 x71 x437000 x437001 x437002 x437003 = if x71 = true then (some (([] : List (S42)), 0, 9)) else (if (x11.length : Int) = 8 then (some (([] : List (S42)), 0, 2)) else (if x11.length < 2932031007402 then (if 0 ≤ (wrap64 (1 + x14)) then (if (wrap64 (1 + x14)) ≤ (x10.size : Int) then (fairwayref4_TakeProps.l0L x0 x7 x8 (x10.extract ((wrap64 (1 + x14)) : Int).toNat x10.size) (x11 ++ [(⟨x437000, x437001, x437002, x437003⟩ : S42)])) else (none)) else (none)) else (none))) := by
  show lim (fun k => fairwayref4_TakeProps.j1 k x0 x7 x8 x10 x11 x14 x71 x437000 x437001 x437002 x437003) = _
  rw [lim_step (f := fun k => if x71 = true then (some (([] : List (S42)), 0, 9)) else (if (x11.length : Int) = 8 then (some (([] : List (S42)), 0, 2)) else (if x11.length < 2932031007402 then (if 0 ≤ (wrap64 (1 + x14)) then (if (wrap64 (1 + x14)) ≤ (x10.size : Int) then (fairwayref4_TakeProps.l0 k x0 x7 x8 (x10.extract ((wrap64 (1 + x14)) : Int).toNat x10.size) (x11 ++ [(⟨x437000, x437001, x437002, x437003⟩ : S42)])) else (none)) else (none)) else (none)))) (fun k => by first | rfl | simp only [fairwayref4_TakeProps.j1])]
  repeat' (first | exact lim_const _ | (with_reducible refine lim_ite' ?_ ?_) | ((with_reducible refine lim_bind' ?hm ?hx (fun _ => ?_)); (case hm => exact (fun k => by first | exact LeO.refl _)); (case hx => first | exact lim_const _ | rfl)) | rfl)
end Go.Proofs.YtiancopplinpcaaDoor.P
end
section
namespace Go.Proofs.YtiancopplinpcaaDoor.P
open Go.RowKit Go.Proofs.YtiancopplinpcaaDoorW.PrintWords Go.Proofs.YtiancopplinpcaaDoorW.PrintLast Go.Proofs.YtiancopplinpcaaDoorW.PrintMore
set_option linter.unusedSimpArgs false
set_option linter.unusedVariables false
theorem size_list (x : ByteArray) : x.toList = ([] : List UInt8) ↔ x.size = 0 := by
  rw [ByteArray.toList_eq]
  constructor
  · intro h
    have := congrArg List.length h
    rw [Array.length_toList] at this
    exact this
  · intro h
    apply List.eq_nil_of_length_eq_zero
    rw [Array.length_toList]
    exact h
theorem chk_of (s : ByteArray) (f : Nat) : ∀ p, chk s f p = 0 ∨ chk s f p = 8 := by
  induction f with
  | zero => intro p; exact .inl rfl
  | succ f ih =>
    intro p
    unfold chk
    repeat' split
    all_goals first | exact .inl rfl | exact .inr rfl | exact ih _
theorem checkT_of (s : ByteArray) : checkT s = 0 ∨ checkT s = 2 ∨ checkT s = 8 := by
  unfold checkT
  split
  · exact .inr (.inl rfl)
  · rcases chk_of s s.size 0 with h | h
    · exact .inl h
    · exact .inr (.inr h)
theorem tbin_of (s : ByteArray) (hs : s.size ≤ 100000) : ((tbin s).2.2 = 0 ∧ 2 ≤ (tbin s).2.1 ∧ (tbin s).2.1 ≤ s.size ∧ ((tbin s).1.size : Int) ≤ 1024) ∨ (tbin s).2.2 = 2 ∨ (tbin s).2.2 = 7 := by
  have hv := val2_range s
  unfold tbin
  by_cases a : (s.size : Int) < 2
  · rw [if_pos a]; exact .inr (.inr rfl)
  · rw [if_neg a]
    by_cases b : val2 s > 1024
    · rw [if_pos b]; exact .inr (.inl rfl)
    · rw [if_neg b]
      by_cases c : (s.size : Int) - 2 < val2 s
      · rw [if_pos c]; exact .inr (.inr rfl)
      · rw [if_neg c]
        refine .inl ⟨rfl, ?_, ?_, ?_⟩
        · show 2 ≤ 2 + val2 s; omega
        · show 2 + val2 s ≤ s.size; omega
        · show ((s.extract 2 (2 + val2 s).toNat).size : Int) ≤ 1024
          rw [extract_size s (by omega) (by omega)]; omega
theorem takeT_of (s : ByteArray) (hs : s.size ≤ 100000) : ((takeT s true).2.2 = 0 ∧ 2 ≤ (takeT s true).2.1 ∧ (takeT s true).2.1 ≤ s.size ∧ checkT (takeT s true).1 = 0) ∨ (takeT s true).2.2 = 2 ∨ (takeT s true).2.2 = 7 ∨ (takeT s true).2.2 = 8 := by
  unfold takeT
  have h := tbin_of s hs
  by_cases a : (tbin s).2.2 = 0
  · rw [if_pos a, if_pos rfl]
    by_cases b : checkT (tbin s).1 = 0
    · rw [if_pos b]
      refine .inl ⟨a, ?_, ?_, b⟩ <;> omega
    · rw [if_neg b]
      have := checkT_of (tbin s).1
      right
      show checkT (tbin s).1 = 2 ∨ checkT (tbin s).1 = 7 ∨ checkT (tbin s).1 = 8
      omega
  · rw [if_neg a]
    right
    omega
theorem tk_of (s : ByteArray) (d : Nat) : ∀ (i : Nat) (n : Int), (tk s d i n).2.2 = 0 ∨ (tk s d i n).2.2 = 7 ∨ (tk s d i n).2.2 = 8 := by
  induction d with
  | zero => intro i n; exact .inr (.inr rfl)
  | succ d ih =>
    intro i n
    unfold tk
    repeat' split
    all_goals first | exact .inl rfl | exact .inr (.inl rfl) | exact .inr (.inr rfl) | exact ih _ _
theorem tkn_of (s : ByteArray) : ((tkn s).2.2 = 0 ∧ 0 ≤ (tkn s).1 ∧ (tkn s).1 ≤ 268435455 ∧ 0 ≤ (tkn s).2.1 ∧ (tkn s).2.1 ≤ s.size) ∨ (tkn s).2.2 = 7 ∨ (tkn s).2.2 = 8 := by
  rcases tk_of s 4 0 0 with h | h | h
  · have := tkn_was (x := s) (m := (tkn s).1) (k := (tkn s).2.1) (by rw [← show (tkn s).2.2 = 0 from h])
    exact .inl ⟨h, this.1, this.2.1, this.2.2.1, this.2.2.2.1⟩
  · exact .inr (.inl h)
  · exact .inr (.inr h)
def innerT (e : Int) : Int := if e = 7 then 8 else e
theorem inner_is (e : Int) : fairwayref4_inner.f e = some (innerT e) := by
  unfold fairwayref4_inner.f innerT
  split <;> rfl
theorem innerT0 : innerT 0 = 0 := by decide
theorem kind_is (id : Int) : prop_Kind.fL id = some (kindOf id, if kindOf id = 0 then 3 else 0) := lim_of (kind_ev id)
theorem refKind_is (id : Int) : fairwayref4_Kind.fL id = some (kindOf id) := lim_of (refKind_ev id)
theorem takeNum_is (s : ByteArray) : vbi_TakeNum.fL s = some (tkn s) := lim_of (take_ev s)
theorem refTakeNum_is (s : ByteArray) : fairwayref1_TakeNum.fL s = some (tkn s) := lim_of (ref_take_ev s)
theorem takeText_is (s : ByteArray) (hs : s.size ≤ 100000) : vbi_TakeText.fL s = some (takeT s true) := lim_of (vtakeText_ev s (by omega))
theorem takeBin_is (s : ByteArray) (hs : s.size ≤ 100000) : vbi_TakeBin.fL s = some (tbin s) := lim_of (takeBin_ev s (by omega))
theorem takeLong_is (s : ByteArray) (t : Bool) (hs : s.size ≤ 100000) : fairwayref1_TakeLong.fL s t = some (takeT s t) := lim_of (takeLong_ev s t (by omega))
theorem takeT_no (s : ByteArray) : takeT s false = tbin s := by
  unfold takeT
  split <;> rfl
theorem next_ok {x : ByteArray} (hx : 0 < x.size) (hk : kindOf (bt x 0) ≠ 0) {v : AnyV} {k n : Int} {S V : ByteArray} (hr : prop_read.fL (kindOf (bt x 0)) (x.extract 1 x.size) = some (v, k, 0)) (hw : prop_with.f (bt x 0) v = some (bt x 0, n, S, V)) (h0 : 0 ≤ k) (h1 : k ≤ 100000) :
    prop_next.fL x = some (bt x 0, n, S, V, 1 + k, 0) := by
  rw [prop_next.fL_eq, if_pos (by omega), w64bt, kind_is]
  simp only [Option.bind_some]
  rw [if_neg hk, if_pos rfl, if_pos (by omega), hr]
  simp only [Option.bind_some, if_true]
  rw [hw]
  simp only [Option.bind_some]
  rw [w64 (by omega) (by omega)]
theorem next_no {x : ByteArray} (hx : 0 < x.size) (hk : kindOf (bt x 0) ≠ 0) {v : AnyV} {k e : Int} (hr : prop_read.fL (kindOf (bt x 0)) (x.extract 1 x.size) = some (v, k, e)) (he : e = 2 ∨ e = 7 ∨ e = 8) :
    ∃ t, prop_next.fL x = some t ∧ t.2.2.2.2.2 = innerT e := by
  rw [prop_next.fL_eq, if_pos (by omega), w64bt, kind_is]
  simp only [Option.bind_some]
  rw [if_neg hk, if_pos rfl, if_pos (by omega), hr]
  simp only [Option.bind_some]
  rw [if_neg (by omega)]
  rcases he with rfl | rfl | rfl
  · exact ⟨_, rfl, rfl⟩
  · exact ⟨_, rfl, rfl⟩
  · exact ⟨_, rfl, rfl⟩
def Same (x : ByteArray) : Prop :=
  (∃ n S V k, prop_next.fL x = some (bt x 0, n, S, V, 1 + k, 0) ∧ fairwayref4_value.fL (bt x 0) (x.extract 1 x.size) = some (bt x 0, n, S, V, k, 0) ∧ 0 ≤ k ∧ k ≤ (x.size : Int) - 1 ∧
    (¬ (kindOf (bt x 0) = 1 ∧ n > 1) → ¬ ((bt x 0 = 33 ∨ bt x 0 = 35 ∨ bt x 0 = 39 ∨ bt x 0 = 11) ∧ n = 0) → okP (bt x 0) n S V = true)) ∨
  (∃ e t u, e ≠ 0 ∧ prop_next.fL x = some t ∧ t.2.2.2.2.2 = e ∧ fairwayref4_value.fL (bt x 0) (x.extract 1 x.size) = some u ∧ u.2.2.2.2.2 = e)
theorem eB_list' : (⟨#[]⟩ : ByteArray).toList = [] := by decide +kernel
theorem val4_range (s : ByteArray) : 0 ≤ val4 s ∧ val4 s ≤ 4294967295 := by
  have := bt_range s 0; have := bt_range s 1; have := bt_range s 2; have := bt_range s 3; unfold val4; omega
theorem same_no {x : ByteArray} (hx : 0 < x.size) (hk : kindOf (bt x 0) ≠ 0) {v : AnyV} {k e : Int} (hr : prop_read.fL (kindOf (bt x 0)) (x.extract 1 x.size) = some (v, k, e)) (he : e = 2 ∨ e = 7 ∨ e = 8) {u : Int × Int × ByteArray × ByteArray × Int × Int}
    (hu : fairwayref4_value.fL (bt x 0) (x.extract 1 x.size) = some u) (hue : u.2.2.2.2.2 = innerT e) : Same x := by
  obtain ⟨t, ht, hte⟩ := next_no hx hk hr he
  refine .inr ⟨innerT e, t, u, ?_, ht, hte, hu, hue⟩
  rcases he with rfl | rfl | rfl <;> decide
set_option maxHeartbeats 4000000 in
theorem next_same (x : ByteArray) (hx : 0 < x.size) (hs : x.size ≤ 100000) (hk : kindOf (bt x 0) ≠ 0) : Same x := by
  have hz : (x.extract 1 x.size).size = x.size - 1 := extract_size x (by omega) (Nat.le_refl _)
  have hc := kind_cases (bt x 0)
  have hv := fairwayref4_value.fL_eq (bt x 0) (x.extract 1 x.size)
  rw [refKind_is] at hv
  simp only [Option.bind_some] at hv
  have nx_ok := fun v k n S V => @next_ok x hx hk v k n S V
  have nx_no := fun v k e => @same_no x hx hk v k e
  have hss : (x.extract 1 x.size).size ≤ 100000 := by omega
  rcases hc with h | h | h | h | h | h | h | h
  · exact absurd h hk
  ·
    rw [h] at nx_ok nx_no hv
    rw [if_pos rfl, fairwayref4_value.j0L_eq] at hv
    simp only [Option.bind_some, beq_self_eq_true, if_true] at hv
    rw [if_pos (by decide), if_pos (by decide), show rd [0, 1, 2, 4] 1 = 1 from rfl, show fairwayref1_TakeFixed.fL (x.extract 1 x.size) 1 = _ from lim_of (ref_take1_ev _)] at hv
    simp only [Option.bind_some] at hv
    by_cases e : ((x.extract 1 x.size).size : Int) < 1
    · rw [if_pos e] at hv
      simp only [Bool.false_eq_true, if_false] at hv
      refine nx_no .no 0 7 ?_ (by decide) hv rfl
      rw [prop_read.fL_eq, if_pos rfl, if_pos ((size_list _).2 (by omega))]
    · rw [if_neg e] at hv
      simp only [if_true] at hv
      refine .inl ⟨bt (x.extract 1 x.size) 0, _, _, 1, nx_ok (.num (bt (x.extract 1 x.size) 0)) 1 _ _ _ ?_ rfl (by decide) (by decide), hv, by decide, by omega, fun q1 q2 => ?_⟩
      · rw [prop_read.fL_eq, if_pos rfl, if_neg (by rw [size_list]; omega), if_pos (by omega), w64bt]
      · have := bt_range (x.extract 1 x.size) 0
        unfold okP
        rw [h] at q1 ⊢
        rw [if_neg (by decide), if_pos (by decide)]
        exact decide_eq_true ⟨q2, by omega, by simp [mostK]; omega, eB_list', eB_list'⟩
  · rw [h] at nx_ok nx_no hv
    rw [if_neg (by decide), if_pos rfl, fairwayref4_value.j0L_eq] at hv
    simp only [Option.bind_some, beq_self_eq_true, if_true] at hv
    rw [if_pos (by decide), if_pos (by decide), show rd [0, 1, 2, 4] 2 = 2 from rfl, show fairwayref1_TakeFixed.fL (x.extract 1 x.size) 2 = _ from lim_of (ref_take2_ev _)] at hv
    simp only [Option.bind_some] at hv
    have hr : prop_read.fL 2 (x.extract 1 x.size) = (vbi_TakeTwo.fL (x.extract 1 x.size)).bind fun t => some (AnyV.num t.1, 2, t.2) := by rw [prop_read.fL_eq, if_neg (by decide), if_pos rfl]
    rw [show vbi_TakeTwo.fL (x.extract 1 x.size) = _ from lim_of (takeTwo_ev _)] at hr
    simp only [Option.bind_some] at hr
    by_cases e : ((x.extract 1 x.size).size : Int) < 2
    · rw [if_pos e] at hv hr
      simp only [Bool.false_eq_true, if_false] at hv
      exact nx_no _ _ _ hr (by decide) hv rfl
    · rw [if_neg e] at hv hr
      simp only [if_true] at hv
      refine .inl ⟨_, _, _, 2, nx_ok _ 2 _ _ _ hr rfl (by decide) (by decide), hv, by decide, by omega, fun q1 q2 => ?_⟩
      have := val2_range (x.extract 1 x.size)
      unfold okP
      rw [h, if_neg (by decide), if_pos (by decide)]
      exact decide_eq_true ⟨q2, this.1, by simp [mostK]; omega, eB_list', eB_list'⟩
  · rw [h] at nx_ok nx_no hv
    rw [if_neg (by decide), if_neg (by decide), fairwayref4_value.j0L_eq] at hv
    simp only [Option.bind_some, beq_self_eq_true, if_true] at hv
    rw [if_pos (by decide), if_pos (by decide), show rd [0, 1, 2, 4] 3 = 4 from rfl, show fairwayref1_TakeFixed.fL (x.extract 1 x.size) 4 = _ from lim_of (ref_take4_ev _)] at hv
    simp only [Option.bind_some] at hv
    have hr : prop_read.fL 3 (x.extract 1 x.size) = (vbi_TakeFour.fL (x.extract 1 x.size)).bind fun t => some (AnyV.num t.1, 4, t.2) := by rw [prop_read.fL_eq, if_neg (by decide), if_neg (by decide), if_pos rfl]
    rw [show vbi_TakeFour.fL (x.extract 1 x.size) = _ from lim_of (takeFour_ev _)] at hr
    simp only [Option.bind_some] at hr
    by_cases e : ((x.extract 1 x.size).size : Int) < 4
    · rw [if_pos e] at hv hr
      simp only [Bool.false_eq_true, if_false] at hv
      exact nx_no _ _ _ hr (by decide) hv rfl
    · rw [if_neg e] at hv hr
      simp only [if_true] at hv
      refine .inl ⟨_, _, _, 4, nx_ok _ 4 _ _ _ hr rfl (by decide) (by decide), hv, by decide, by omega, fun q1 q2 => ?_⟩
      have := val4_range (x.extract 1 x.size)
      unfold okP
      rw [h, if_neg (by decide), if_pos (by decide)]
      exact decide_eq_true ⟨q2, this.1, by simp [mostK]; omega, eB_list', eB_list'⟩
  · rw [h] at nx_ok nx_no hv
    rw [if_neg (by decide), if_neg (by decide), fairwayref4_value.j0L_eq] at hv
    rw [if_neg (by decide), if_pos rfl, refTakeNum_is] at hv
    simp only [Option.bind_some, inner_is] at hv
    have hr : prop_read.fL 4 (x.extract 1 x.size) = (vbi_TakeNum.fL (x.extract 1 x.size)).bind fun t => some (AnyV.num t.1, t.2.1, t.2.2) := by rw [prop_read.fL_eq, if_neg (by decide), if_neg (by decide), if_neg (by decide), if_pos rfl]
    rw [takeNum_is] at hr
    simp only [Option.bind_some] at hr
    rcases tkn_of (x.extract 1 x.size) with ⟨e, q1, q2, q3, q4⟩ | e
    · rw [e] at hv hr
      rw [innerT0] at hv
      refine .inl ⟨_, _, _, _, nx_ok _ _ _ _ _ hr rfl q3 (by omega), hv, q3, by omega, fun q5 q6 => ?_⟩
      unfold okP
      rw [h, if_neg (by decide), if_pos (by decide)]
      exact decide_eq_true ⟨q6, q1, by simp [mostK]; omega, eB_list', eB_list'⟩
    · exact nx_no _ _ _ hr (.inr e) hv rfl
  · rw [h] at nx_ok nx_no hv
    rw [if_neg (by decide), if_neg (by decide), fairwayref4_value.j0L_eq] at hv
    rw [if_neg (by decide), if_neg (by decide), show ((5 : Int) != 6) = true from rfl, show ((5 : Int) != 7) = true from rfl, takeLong_is _ _ hss] at hv
    simp only [Option.bind_some, fairwayref4_value.j1L_eq, if_true, inner_is, ite_self] at hv
    have hr : prop_read.fL 5 (x.extract 1 x.size) = (vbi_TakeText.fL (x.extract 1 x.size)).bind fun t => some (AnyV.str t.1, t.2.1, t.2.2) := by rw [prop_read.fL_eq, if_neg (by decide), if_neg (by decide), if_neg (by decide), if_neg (by decide), if_pos rfl]
    rw [takeText_is _ hss] at hr
    simp only [Option.bind_some] at hr
    rcases takeT_of (x.extract 1 x.size) hss with ⟨e, q1, q2, q3⟩ | e
    · rw [e] at hv hr
      rw [innerT0] at hv
      refine .inl ⟨_, _, _, _, nx_ok _ _ _ _ _ hr rfl (by omega) (by omega), hv, by omega, by omega, fun q5 q6 => ?_⟩
      unfold okP
      rw [h, if_neg (by decide), if_neg (by decide), if_pos rfl]
      exact decide_eq_true ⟨rfl, eB_list', q3⟩
    · exact nx_no _ _ _ hr (by omega) hv rfl
  · rw [h] at nx_ok nx_no hv
    rw [if_neg (by decide), if_neg (by decide), fairwayref4_value.j0L_eq] at hv
    rw [if_neg (by decide), if_neg (by decide), show ((6 : Int) != 6) = false from rfl, show ((6 : Int) != 7) = true from rfl, takeLong_is _ _ hss, takeT_no] at hv
    simp only [Option.bind_some, fairwayref4_value.j1L_eq, if_true, inner_is, ite_self] at hv
    have hr : prop_read.fL 6 (x.extract 1 x.size) = (vbi_TakeBin.fL (x.extract 1 x.size)).bind fun t => some (AnyV.str t.1, t.2.1, t.2.2) := by rw [prop_read.fL_eq, if_neg (by decide), if_neg (by decide), if_neg (by decide), if_neg (by decide), if_neg (by decide), if_pos rfl]
    rw [takeBin_is _ hss] at hr
    simp only [Option.bind_some] at hr
    rcases tbin_of (x.extract 1 x.size) hss with ⟨e, q1, q2, q3⟩ | e
    · rw [e] at hv hr
      rw [innerT0] at hv
      refine .inl ⟨_, _, _, _, nx_ok _ _ _ _ _ hr rfl (by omega) (by omega), hv, by omega, by omega, fun q5 q6 => ?_⟩
      unfold okP
      rw [h, if_neg (by decide), if_neg (by decide), if_neg (by decide), if_pos rfl]
      exact decide_eq_true ⟨rfl, eB_list', q3⟩
    · exact nx_no _ _ _ hr (by omega) hv rfl
  · rw [h] at nx_ok nx_no hv
    rw [if_neg (by decide), if_neg (by decide), fairwayref4_value.j0L_eq] at hv
    rw [if_neg (by decide), if_neg (by decide), show ((7 : Int) != 6) = true from rfl, show ((7 : Int) != 7) = false from rfl, takeLong_is _ _ hss] at hv
    simp only [Option.bind_some] at hv
    have hr : prop_read.fL 7 (x.extract 1 x.size) = _ := prop_read.fL_eq 7 _
    rw [if_neg (by decide), if_neg (by decide), if_neg (by decide), if_neg (by decide), if_neg (by decide), if_neg (by decide), takeText_is _ hss] at hr
    simp only [Option.bind_some] at hr
    rcases takeT_of (x.extract 1 x.size) hss with ⟨e, q1, q2, q3⟩ | e
    · have hz2 : ((x.extract 1 x.size).extract (takeT (x.extract 1 x.size) true).2.1.toNat (x.extract 1 x.size).size).size = (x.extract 1 x.size).size - (takeT (x.extract 1 x.size) true).2.1.toNat := extract_size _ (by omega) (Nat.le_refl _)
      rw [if_pos e, if_pos (by omega), if_pos q2, takeText_is _ (by omega)] at hr
      simp only [Option.bind_some] at hr
      rw [if_pos e, fairwayref4_value.j1L_eq, if_neg (by decide), if_pos (by omega), if_pos q2, takeLong_is _ _ (by omega)] at hv
      simp only [Option.bind_some, inner_is] at hv
      rcases takeT_of ((x.extract 1 x.size).extract (takeT (x.extract 1 x.size) true).2.1.toNat (x.extract 1 x.size).size) (by omega) with ⟨e', q1', q2', q3'⟩ | e'
      · rw [e', w64 (by omega) (by omega)] at hv hr
        rw [innerT0] at hv
        refine .inl ⟨_, _, _, _, nx_ok _ _ _ _ _ hr rfl (by omega) (by omega), hv, by omega, by omega, fun q5 q6 => ?_⟩
        unfold okP
        rw [h, if_neg (by decide), if_neg (by decide), if_neg (by decide), if_neg (by decide)]
        exact decide_eq_true ⟨rfl, q3, q3'⟩
      · have a1 := nx_no _ _ _ hr e' hv
        dsimp only at a1
        first | exact a1 | exact a1 trivial | exact a1 (Eq.refl _)
    · rw [if_neg (by omega)] at hr
      rw [if_neg (by omega), fairwayref4_value.j1L_eq, if_pos rfl] at hv
      simp only [inner_is, Option.bind_some] at hv
      exact nx_no _ _ _ hr (by omega) hv rfl
theorem next_bad (x : ByteArray) (hx : 0 < x.size) (hk : kindOf (bt x 0) = 0) : ∃ t, prop_next.fL x = some t ∧ t.2.2.2.2.2 = 8 := by
  rw [prop_next.fL_eq, if_pos (by omega), w64bt, kind_is]
  simp only [Option.bind_some]
  rw [if_pos hk, if_neg (by decide)]
  exact ⟨_, rfl, rfl⟩
theorem fits_is (p : Int) (l : List S42) (a n : Int) (s v : ByteArray) : prop_fits.fL p l a n s v = some (fitsP p l a n) := lim_of (fits_ev p l a n s v)
theorem refStands_is (p a : Int) : fairwayref4_stands.fL p a = some (decide (a ∈ placeL p)) := lim_of (refStands_ev p a)
theorem refTwice_is (p a : Int) (l : List S42) (hl : l.length ≤ 100000) : fairwayref4_twice.fL p a l = some (againP p a l) := lim_of (refTwice_ev p a l hl)
theorem refFits_is (a n : Int) (s v : ByteArray) : fairwayref4_fits.fL a n s v = some (okP a n s v) := lim_of (refFits_ev a n s v)
theorem takes_loop (p a b : Int) (d : Nat) : ∀ (x : ByteArray) (pre : List S42), x.size ≤ d → x.size ≤ 100000 → pre.length ≤ 8 →
    ∃ R, prop_Take.l0L p pre a b x = some R ∧ fairwayref4_TakeProps.l0L p b a x pre = some R ∧ R.1.length ≤ 8 ∧ (R.2.1 = wrap64 (a + b) ∧ R.2.2 = 0 ∨ R.1 = [] ∧ R.2.1 = 0 ∧ R.2.2 ≠ 0) := by
  induction d with
  | zero =>
    intro x pre hd hs hl
    refine ⟨(pre, wrap64 (a + b), 0), ?_, ?_, hl, .inl ⟨rfl, rfl⟩⟩
    · rw [prop_Take.l0L_eq, if_pos ((size_list _).2 (by omega))]
    · rw [fairwayref4_TakeProps.l0L_eq, if_neg (by omega)]
  | succ d ih =>
    intro x pre hd hs hl
    by_cases hx : x.size = 0
    · refine ⟨(pre, wrap64 (a + b), 0), ?_, ?_, hl, .inl ⟨rfl, rfl⟩⟩
      · rw [prop_Take.l0L_eq, if_pos ((size_list _).2 hx)]
      · rw [fairwayref4_TakeProps.l0L_eq, if_neg (by omega)]
    · have hx0 : 0 < x.size := by omega
      rw [prop_Take.l0L_eq, if_neg (by rw [size_list]; exact hx), fairwayref4_TakeProps.l0L_eq, if_pos (by omega), if_pos (by omega), w64bt, refKind_is]
      simp only [Option.bind_some]
      by_cases hk : kindOf (bt x 0) = 0
      · obtain ⟨t, ht, hte⟩ := next_bad x hx0 hk
        rw [ht]
        simp only [Option.bind_some]
        rw [hte, if_neg (by decide), if_pos hk]
        exact ⟨_, rfl, rfl, by simp, .inr ⟨rfl, rfl, by show (8 : Int) ≠ 0; decide⟩⟩
      · rw [if_neg hk, if_pos (by omega)]
        rcases next_same x hx0 hs hk with ⟨n, S, V, k, h1, h2, h3, h4, h5⟩ | ⟨e, t, u, he, ht, hte, hu, hue⟩
        · rw [h1, h2]
          simp only [Option.bind_some, if_true]
          rw [fits_is, refStands_is]
          simp only [Option.bind_some]
          have hst : fitsP p pre (bt x 0) n = stepP p pre (bt x 0) n S V := by
            cases hf : fitsP p pre (bt x 0) n with
            | false => rw [fits_no hf]
            | true =>
              obtain ⟨q1, q2, q3⟩ := fits_yes (s := S) (v := V) hf
              rw [q1, h5 q2 q3]
          have hR : (if decide (bt x 0 ∈ placeL p) = true then (fairwayref4_twice.fL p (bt x 0) pre).bind fun t438 => (if t438 = true then (fairwayref4_TakeProps.j1L p b a x pre k true (bt x 0) n S V) else ((fairwayref4_fits.fL (bt x 0) n S V).bind fun t439 => (fairwayref4_TakeProps.j1L p b a x pre k (!t439) (bt x 0) n S V))) else (fairwayref4_TakeProps.j1L p b a x pre k true (bt x 0) n S V)) = fairwayref4_TakeProps.j1L p b a x pre k (!(stepP p pre (bt x 0) n S V)) (bt x 0) n S V := by
            unfold stepP
            by_cases m : bt x 0 ∈ placeL p
            · rw [if_pos (decide_eq_true m), refTwice_is _ _ _ (by omega)]
              simp only [Option.bind_some]
              cases againP p (bt x 0) pre with
              | true => simp
              | false =>
                rw [if_neg (by simp), refFits_is]
                simp [m]
            · rw [if_neg (by simpa using m)]
              simp [m]
          rw [hR, hst, fairwayref4_TakeProps.j1L_eq]
          cases hp : stepP p pre (bt x 0) n S V with
          | false => exact ⟨_, rfl, rfl, by simp, .inr ⟨rfl, rfl, by show (9 : Int) ≠ 0; decide⟩⟩
          | true =>
            simp only [if_true, Bool.not_true, Bool.false_eq_true, if_false]
            by_cases h8 : (pre.length : Int) = 8
            · rw [if_pos h8, if_pos h8]
              exact ⟨_, rfl, rfl, by simp, .inr ⟨rfl, rfl, by show (2 : Int) ≠ 0; decide⟩⟩
            · have w : wrap64 (1 + k) = 1 + k := w64 (by omega) (by omega)
              rw [if_neg h8, if_neg h8, if_pos (by omega), if_pos (by omega), if_pos (by omega), w, if_pos (by omega), if_pos (by omega), if_pos (by omega)]
              have hz : (x.extract (1 + k).toNat x.size).size = x.size - (1 + k).toNat := extract_size x (by omega) (Nat.le_refl _)
              exact ih _ _ (by omega) (by omega) (by simp; omega)
        · rw [ht, hu]
          simp only [Option.bind_some]
          rw [hte, hue, if_neg he, if_neg he]
          exact ⟨_, rfl, rfl, by simp, .inr ⟨rfl, rfl, he⟩⟩
theorem stands_is (p : Int) : prop_stands.fL p = some (placeL p, decide (0 ≤ p ∧ p ≤ 15)) := lim_of (stands_ev p)
theorem take_same (p : Int) (hp : 0 ≤ p ∧ p ≤ 15) (x : ByteArray) (hs : x.size ≤ 100000) : ∃ R, prop_Take.fL p x = some R ∧ fairwayref4_TakeProps.fL p x = some R ∧ R.1.length ≤ 8 ∧ 0 ≤ R.2.1 ∧ R.2.1 ≤ x.size := by
  rw [prop_Take.fL_eq, fairwayref4_TakeProps.fL_eq, stands_is, takeNum_is, refTakeNum_is, decide_eq_true hp]
  simp only [Option.bind_some, if_true]
  rcases tkn_of x with ⟨e, q1, q2, q3, q4⟩ | e
  · rw [if_pos e, if_pos e, w64 (by omega) (by omega)]
    by_cases h : (tkn x).1 > (x.size : Int) - (tkn x).2.1
    · rw [if_pos h, if_pos (by omega)]
      exact ⟨_, rfl, rfl, by simp, by simp, by simp⟩
    · have a1 : ((tkn x).1 > (x.size : Int) - (tkn x).2.1) = False := eq_false h
      have a2 : ((x.size : Int) - (tkn x).2.1 < (tkn x).1) = False := eq_false (by omega)
      have a3 : (0 ≤ (tkn x).2.1) = True := eq_true q3
      have a4 : ((tkn x).2.1 ≤ (tkn x).2.1 + (tkn x).1) = True := eq_true (by omega)
      have a5 : ((tkn x).2.1 + (tkn x).1 ≤ (x.size : Int)) = True := eq_true (by omega)
      have w : wrap64 ((tkn x).2.1 + (tkn x).1) = (tkn x).2.1 + (tkn x).1 := w64 (by omega) (by omega)
      simp only [a1, a2, a3, w, a4, a5, if_true, if_false]
      clear a1 a2 a3 a4 a5 w
      have hz : (x.extract (tkn x).2.1.toNat ((tkn x).2.1 + (tkn x).1).toNat).size = ((tkn x).2.1 + (tkn x).1).toNat - (tkn x).2.1.toNat := extract_size x (by omega) (by omega)
      obtain ⟨R, h1, h2, h3, h4⟩ := takes_loop p (tkn x).2.1 (tkn x).1 _ (x.extract (tkn x).2.1.toNat ((tkn x).2.1 + (tkn x).1).toNat) [] (Nat.le_refl _) (by omega) (by simp)
      refine ⟨R, h1, h2, h3, ?_⟩
      rcases h4 with ⟨h5, h6⟩ | ⟨h5, h6, h7⟩
      · rw [w64 (by omega) (by omega)] at h5
        omega
      · omega
  · rw [if_neg (by omega), if_neg (by omega)]
    exact ⟨_, rfl, rfl, by simp, by simp, by simp⟩
theorem take_nowhere (p : Int) (hp : ¬ (0 ≤ p ∧ p ≤ 15)) (x : ByteArray) : prop_Take.fL p x = some ([], 0, 1) := by
  rw [prop_Take.fL_eq, stands_is, decide_eq_false hp]
  rfl
end Go.Proofs.YtiancopplinpcaaDoor.P
end
