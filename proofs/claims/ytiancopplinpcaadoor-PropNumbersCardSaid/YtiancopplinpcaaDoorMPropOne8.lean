/- The statement PropNumbers, PropTexts, PropPairs: for every input the law answers true, and its argument reads behind the call as it did (part 9 of 14 of the proof). -/
import Derived.Test.YtiancopplinpcaaDoorMPropOne7
import Derived.RegionTactic
import Derived.ChangeAlike
import Derived.RegionCalls
section
theorem zz2 {p : Prop} (h : p := by repeat (first | (with_reducible first | exact HB.out | apply below_alloc | apply pw_below_drewN | apply below_drew1) | exact HB.out | (refine Below.setCell ?_ (by simp <;> omega) _) | (refine Below.setCells ?_ (by simp <;> omega) _ _))) : p := h
theorem zz11 {p : Prop} (h : p := by repeat (first | (with_reducible first | exact HB.out | apply below_alloc | apply pw_below_drewN | apply below_drew1 | refine below_set ?_ GE159.out) | exact HB.out)) : p := h
theorem zz25 {p : Prop} (h : p := by (with_reducible repeat (first | refine blk_drewN ?_ _ | refine blk_drew ?_ | refine blk_alloc ?_ _)); exact BK159.out) : p := h
theorem zz26 {p : Prop} (h : p := by (with_reducible repeat (first | refine blk_drewN ?_ _ | refine blk_drew ?_ | refine blk_alloc ?_ _)); exact BK202.out) : p := h
theorem zz12 {p : Prop} (h : p := by repeat (first | (with_reducible first | exact HB.out | apply below_alloc | apply pw_below_drewN | apply below_drew1 | refine below_set ?_ GE202.out) | exact HB.out)) : p := h
namespace Go.Proofs.YtiancopplinpcaaDoor.P
open Go.RowKit Go.Proofs.YtiancopplinpcaaDoorW.PrintWords Go.Proofs.YtiancopplinpcaaDoorW.PrintLast Go.Proofs.YtiancopplinpcaaDoorW.PrintMore
set_option linter.unusedSimpArgs false
set_option linter.unusedVariables false
attribute [local go_sem] max2_int min2_int max_two min_two
theorem bcell {W w1 : World} (hb : Below W.heap.size W w1) : ∀ b o, b < W.heap.size → w1.cell? ⟨b, o, none⟩ = W.cell? ⟨b, o, none⟩ := fun b o h => hb.cell (p := ⟨b, o, none⟩) h
theorem conv1 (w W : World) (n : Int) (hW : W.heap = (w.alloc (.cells #[.int .u8 (IntKind.u8.wrap n)] 5)).heap) : (convert 58 9 (.slice (some ⟨w.heap.size, 0, none⟩) 1 1)).run Tryd.prog W = .ok (.string (strOfNums [n % 256])) W := by
  refine string_of_reads Tryd.underlying58 Tryd.underlying5 Tryd.underlying9 ⟨rfl, by decide, fun _ => ⟨_, rfl, fun j hj => ?_⟩⟩
  obtain rfl : j = 0 := by omega
  rw [add_plain]
  have h0 := heap_alloc_new w (.cells #[.int .u8 (IntKind.u8.wrap n)] 5)
  rw [← hW] at h0
  have h1 := blk_cell h0 0
  rw [h1, IntKind.wrap_u8]
  rfl
def prop_laid.f (k : Nat) (a0 : Int) (a1 : AnyV) : Option (ByteArray × Int) := match a1 with
  | .num n => if a0 = 1 then (prop_within.f n 255).bind fun e => some (strOfNums [n % 256], e) else if a0 = 2 then vbi_Two.f k n else if a0 = 3 then vbi_Four.f k n else if a0 = 4 then vbi_Num.f k n else none
  | .str s => if a0 = 6 then vbi_Bin.f k s else if a0 = 5 then vbi_Text.f k s else none
  | .two a b => if 1 ≤ a0 ∧ a0 ≤ 6 then none else (vbi_Text.f k a).bind fun x => (vbi_Text.f k b).bind fun y => if x.1.size + y.1.size ≤ 9223372036854775807 then some (x.1 ++ y.1, mx x.2 y.2) else none
  | .no => none
theorem prop_laid.mono : ∀ a0 a1 k, LeO (prop_laid.f k a0 a1) (prop_laid.f (k + 1) a0 a1) := by
  intro a0 a1 k
  unfold prop_laid.f; cases a1 with
  | no => exact LeO.none _
  | num n => exact LeO.ite (LeO.refl _) (LeO.ite (vbi_Two.mono _ _) (LeO.ite (vbi_Four.mono _ _) (LeO.ite (vbi_Num.mono _ _) (LeO.none _))))
  | str s => exact LeO.ite (vbi_Bin.mono _ _) (LeO.ite (vbi_Text.mono _ _) (LeO.none _))
  | two a b => exact LeO.ite (LeO.none _) (LeO.bind (vbi_Text.mono _ _) (fun _ => LeO.bind (vbi_Text.mono _ _) (fun _ => LeO.refl _)))
set_option maxHeartbeats 4000000 in
set_option maxRecDepth 100000 in
theorem prop_laid.two (k : Nat) (n : Int) (r1 : ByteArray) (r2 : Int) (w : World) (HLAID : Laid w) (h : vbi_Two.f k n = some (r1, r2)) :
    Calls Tryd.prog 42 #[.int .i64 2, .iface 3 (.int .i64 n)] w fun e w' => e = .returned (.tuple #[.string r1, .int .i64 r2]) ∧ Below w.heap.size w w' := by
  have t1 : ∀ W, (Instr.typeAssert (.iface 3 (.int .i64 n)) 20 3 false).run Tryd.prog W = .ok (.int .i64 n) W := fun W => by rfl
  go_enter Tryd.func42, Tryd.ntmps42
  go_wp2_with (go_at_call 56; (with_reducible refine (vbi_Two.calls k n r1 r2 _ h).mono ?_); rintro e w1 ⟨rfl, hb⟩)
  go_ret2
  exact ⟨rfl, hb⟩
set_option maxHeartbeats 4000000 in
set_option maxRecDepth 100000 in
theorem prop_laid.four (k : Nat) (n : Int) (r1 : ByteArray) (r2 : Int) (w : World) (HLAID : Laid w) (h : vbi_Four.f k n = some (r1, r2)) :
    Calls Tryd.prog 42 #[.int .i64 3, .iface 3 (.int .i64 n)] w fun e w' => e = .returned (.tuple #[.string r1, .int .i64 r2]) ∧ Below w.heap.size w w' := by
  have t1 : ∀ W, (Instr.typeAssert (.iface 3 (.int .i64 n)) 20 3 false).run Tryd.prog W = .ok (.int .i64 n) W := fun W => by rfl
  go_enter Tryd.func42, Tryd.ntmps42
  go_wp2_with (go_at_call 57; (with_reducible refine (vbi_Four.calls k n r1 r2 _ h).mono ?_); rintro e w1 ⟨rfl, hb⟩)
  go_ret2
  exact ⟨rfl, hb⟩
set_option maxHeartbeats 4000000 in
set_option maxRecDepth 100000 in
theorem prop_laid.numb (k : Nat) (n : Int) (r1 : ByteArray) (r2 : Int) (w : World) (HLAID : Laid w) (h : vbi_Num.f k n = some (r1, r2)) :
    Calls Tryd.prog 42 #[.int .i64 4, .iface 3 (.int .i64 n)] w fun e w' => e = .returned (.tuple #[.string r1, .int .i64 r2]) ∧ Below w.heap.size w w' := by
  have t1 : ∀ W, (Instr.typeAssert (.iface 3 (.int .i64 n)) 20 3 false).run Tryd.prog W = .ok (.int .i64 n) W := fun W => by rfl
  go_enter Tryd.func42, Tryd.ntmps42
  go_wp2_with (go_at_call 29; (with_reducible refine (vbi_Num.calls k n r1 r2 _ h).mono ?_); rintro e w1 ⟨rfl, hb⟩)
  go_ret2
  exact ⟨rfl, hb⟩
set_option maxHeartbeats 4000000 in
set_option maxRecDepth 100000 in
theorem prop_laid.bin (k : Nat) (s : ByteArray) (r1 : ByteArray) (r2 : Int) (w : World) (HLAID : Laid w) (h : vbi_Bin.f k s = some (r1, r2)) :
    Calls Tryd.prog 42 #[.int .i64 6, .iface 9 (.string s)] w fun e w' => e = .returned (.tuple #[.string r1, .int .i64 r2]) ∧ Below w.heap.size w w' := by
  have t1 : ∀ W, (Instr.typeAssert (.iface 9 (.string s)) 20 9 false).run Tryd.prog W = .ok (.string s) W := fun W => by rfl
  go_enter Tryd.func42, Tryd.ntmps42
  go_wp2_with (go_at_call 58; (with_reducible refine (vbi_Bin.calls k s r1 r2 _ h).mono ?_); rintro e w1 ⟨rfl, hb⟩)
  go_ret2
  exact ⟨rfl, hb⟩
set_option maxHeartbeats 4000000 in
set_option maxRecDepth 100000 in
theorem prop_laid.text (k : Nat) (s : ByteArray) (r1 : ByteArray) (r2 : Int) (w : World) (HLAID : Laid w) (h : vbi_Text.f k s = some (r1, r2)) :
    Calls Tryd.prog 42 #[.int .i64 5, .iface 9 (.string s)] w fun e w' => e = .returned (.tuple #[.string r1, .int .i64 r2]) ∧ Below w.heap.size w w' := by
  have t1 : ∀ W, (Instr.typeAssert (.iface 9 (.string s)) 20 9 false).run Tryd.prog W = .ok (.string s) W := fun W => by rfl
  go_enter Tryd.func42, Tryd.ntmps42
  go_wp2_with (go_at_call 59; (with_reducible refine (vbi_Text.calls k s r1 r2 _ HLAID h).mono ?_); rintro e w1 ⟨rfl, hb⟩)
  go_ret2
  exact ⟨rfl, hb⟩
set_option maxHeartbeats 4000000 in
set_option maxRecDepth 100000 in
theorem prop_laid.flag (k : Nat) (n : Int) (r1 : ByteArray) (r2 : Int) (w : World) (HLAID : Laid w) (h : prop_within.f n 255 = some r2 ∧ r1 = strOfNums [n % 256]) :
    Calls Tryd.prog 42 #[.int .i64 1, .iface 3 (.int .i64 n)] w fun e w' => e = .returned (.tuple #[.string r1, .int .i64 r2]) ∧ Below w.heap.size w w' := by
  obtain ⟨h, rfl⟩ := h
  have t1 : ∀ W, (Instr.typeAssert (.iface 3 (.int .i64 n)) 20 3 false).run Tryd.prog W = .ok (.int .i64 n) W := fun W => by rfl
  go_enter Tryd.func42, Tryd.ntmps42
  go_wp2
  have hcv : ∀ W : World, W.heap = (w.alloc (.cells #[.int .u8 (IntKind.u8.wrap n)] 5)).heap → (convert 58 9 (.slice (some ⟨w.heap.size, 0, none⟩) 1 1)).run Tryd.prog W = .ok (.string (strOfNums [n % 256])) W := fun W hW => conv1 w W n hW
  have hcv1 := hcv ((w.alloc (.cells #[.int .u8 (IntKind.u8.wrap n)] 5)).drew) rfl
  have hcv2 := fun m => hcv ((w.alloc (.cells #[.int .u8 (IntKind.u8.wrap n)] 5)).drew.drewN m) rfl
  have hcv3 := fun m => hcv (((w.drew.drewN m).alloc (.cells #[.int .u8 (IntKind.u8.wrap n)] 5))) rfl
  have hcv4 := fun m => hcv (((w.alloc (.cells #[.int .u8 (IntKind.u8.wrap n)] 5)).drewN m)) rfl
  have hcv5 := fun m => hcv (((w.drewN m).alloc (.cells #[.int .u8 (IntKind.u8.wrap n)] 5))) rfl
  clear hcv
  go_region_with (go_at_call 55; (with_reducible refine (prop_within.calls n 255 r2 _ h).mono ?_); rintro e w' ⟨rfl, ⟨nd, rfl⟩⟩)
  all_goals go_wp2
  all_goals go_ret2
  all_goals exact ⟨rfl, by repeat (first | exact Below.refl _ _ | apply below_drew1 | apply pw_below_drewN | apply below_alloc)⟩
set_option maxHeartbeats 4000000 in
set_option maxRecDepth 100000 in
theorem prop_laid.both (k : Nat) (a b s1 s2 : ByteArray) (e1 e2 : Int) (a0 : Int) (r1 : ByteArray) (r2 : Int) (w : World) (HLAID : Laid w) (h : vbi_Text.f k a = some (s1, e1) ∧ vbi_Text.f k b = some (s2, e2) ∧ s1.size + s2.size ≤ 9223372036854775807 ∧ r1 = s1 ++ s2 ∧ r2 = mx e1 e2 ∧ ¬ (1 ≤ a0 ∧ a0 ≤ 6)) :
    Calls Tryd.prog 42 #[.int .i64 a0, .iface 87 (.agg #[.string a, .string b])] w fun e w' => e = .returned (.tuple #[.string r1, .int .i64 r2]) ∧ Below w.heap.size w w' := by
  obtain ⟨h1, h2, h3, rfl, rfl, h4⟩ := h
  have b1 : ((a0 : Int) == 1) = false := by simp; omega
  have b2 : ((a0 : Int) == 2) = false := by simp; omega
  have b3 : ((a0 : Int) == 3) = false := by simp; omega
  have b4 : ((a0 : Int) == 4) = false := by simp; omega
  have b5 : ((a0 : Int) == 5) = false := by simp; omega
  have b6 : ((a0 : Int) == 6) = false := by simp; omega
  clear h4
  have t3 : ∀ W, (Instr.typeAssert (.iface 87 (.agg #[.string a, .string b])) 20 87 false).run Tryd.prog W = .ok (.agg #[.string a, .string b]) W := fun W => by rfl
  have hsz : decide (s1.size + s2.size ≤ 9223372036854775807) = true := by simpa using h3
  have H1 := Aside0.mk h1
  have H2 := Aside0.mk h2
  clear h1 h2
  have HB := Aside0.mk (Below.refl w.heap.size w)
  by_cases hlt : e1 < e2
  all_goals
   go_enter Tryd.func42, Tryd.ntmps42
   go_wp2_with (first
    | (go_at_call 59; (with_reducible refine (vbi_Text.calls k a s1 e1 _ ?hl H1.out).mono ?_); (case hl => exact HLAID.below zz2); rintro e w1 ⟨rfl, hb1⟩; have hc1 := bcell hb1; have n0_ := Aside0.mk (below_step zz2 hb1); clear HB; have HB := n0_; clear n0_)
    | (go_at_call 59; (with_reducible refine (vbi_Text.calls k b s2 e2 _ ?hl H2.out).mono ?_); (case hl => exact HLAID.below zz2); rintro e w2 ⟨rfl, hb2⟩; have n0_ := Aside0.mk (below_step zz2 hb2); clear HB; have HB := n0_; clear n0_))
   go_ret2
   exact ⟨by first | (rw [show mx e1 e2 = e2 from if_pos hlt]; rfl) | (rw [show mx e1 e2 = e1 from if_neg (by omega)]; rfl), zz2⟩
theorem prop_laid.calls (k : Nat) (a0 : Int) (a1 : AnyV) (r1 : ByteArray) (r2 : Int) (w : World) (HLAID : Laid w) (h : prop_laid.f k a0 a1 = some (r1, r2)) :
    Calls Tryd.prog 42 #[.int .i64 a0, anyW a1] w fun e w' => e = .returned (.tuple #[.string r1, .int .i64 r2]) ∧ Below w.heap.size w w' := by
  cases a1 with
  | no => cases h
  | num n =>
    simp only [prop_laid.f] at h; by_cases c1 : a0 = 1
    · subst c1
      rw [if_pos rfl] at h; obtain ⟨e, he, h⟩ := Option.bind_eq_some_iff.1 h; simp only [Option.some.injEq, Prod.mk.injEq] at h; obtain ⟨rfl, rfl⟩ := h; exact prop_laid.flag k n _ e w HLAID ⟨he, rfl⟩
    · rw [if_neg c1] at h
      by_cases c2 : a0 = 2
      · subst c2
        exact prop_laid.two k n r1 r2 w HLAID h
      · rw [if_neg c2] at h
        by_cases c3 : a0 = 3
        · subst c3
          exact prop_laid.four k n r1 r2 w HLAID h
        · rw [if_neg c3] at h
          by_cases c4 : a0 = 4
          · subst c4
            exact prop_laid.numb k n r1 r2 w HLAID h
          · rw [if_neg c4] at h
            cases h
  | str s =>
    simp only [prop_laid.f] at h; by_cases c6 : a0 = 6
    · subst c6
      exact prop_laid.bin k s r1 r2 w HLAID h
    · rw [if_neg c6] at h
      by_cases c5 : a0 = 5
      · subst c5
        exact prop_laid.text k s r1 r2 w HLAID h
      · rw [if_neg c5] at h
        cases h
  | two a b =>
    simp only [prop_laid.f] at h; by_cases c : 1 ≤ a0 ∧ a0 ≤ 6
    · rw [if_pos c] at h
      cases h
    · rw [if_neg c] at h
      obtain ⟨⟨s1, e1⟩, h1, h⟩ := Option.bind_eq_some_iff.1 h; obtain ⟨⟨s2, e2⟩, h2, h⟩ := Option.bind_eq_some_iff.1 h; by_cases hs : s1.size + s2.size ≤ 9223372036854775807
      · simp only [if_pos hs, Option.some.injEq, Prod.mk.injEq] at h
        obtain ⟨rfl, rfl⟩ := h; exact prop_laid.both k a b s1 s2 e1 e2 a0 _ _ w HLAID ⟨h1, h2, hs, rfl, rfl, c⟩
      · simp only [if_neg hs] at h
        cases h
end Go.Proofs.YtiancopplinpcaaDoor.P
end
section
namespace Go.Proofs.YtiancopplinpcaaDoor.P
open Go.RowKit Go.Proofs.YtiancopplinpcaaDoorW.PrintWords Go.Proofs.YtiancopplinpcaaDoorW.PrintLast Go.Proofs.YtiancopplinpcaaDoorW.PrintMore
attribute [local go_sem] max2_int min2_int max_two min_two max_three min_three max_four min_four
set_option linter.unusedVariables false
set_option linter.unusedSimpArgs false
mutual
def prop_lay.j0 : Nat → Int → List (S42) → Bool → Option (ByteArray × Bool)
  | 0, _, _, _ => none
  | k + 1, x0, x1, x28 => if x28 = true then (some ((⟨#[]⟩ : ByteArray), false)) else (prop_lay.l0 k x0 x1 (⟨#[]⟩ : ByteArray) x1 (x1.length : Int) 0)
def prop_lay.l0 : Nat → Int → List (S42) → ByteArray → List (S42) → Int → Int → Option (ByteArray × Bool)
  | 0, _, _, _, _, _, _ => none
  | k + 1, x0, x1, x8, x29, x30, x31 => if x31 < x30 then (if 0 ≤ x31 then (if x31 < (x29.length : Int) then ((prop_value.f k ((rd_T42 x29 x31).f0) ((rd_T42 x29 x31).f1) ((rd_T42 x29 x31).f2) ((rd_T42 x29 x31).f3)).bind fun bt160 => (if bt160.2 = true then (if x31 ≤ (x1.length : Int) then ((prop_fits.f k x0 (x1.take (x31 : Int).toNat) ((rd_T42 x29 x31).f0) ((rd_T42 x29 x31).f1) ((rd_T42 x29 x31).f2) ((rd_T42 x29 x31).f3)).bind fun t166 => (prop_lay.j2 k x0 x1 x8 bt160.1 x29 x30 x31 (!t166) ((rd_T42 x29 x31).f0) ((rd_T42 x29 x31).f1) ((rd_T42 x29 x31).f2) ((rd_T42 x29 x31).f3))) else (none)) else (prop_lay.j2 k x0 x1 x8 bt160.1 x29 x30 x31 true ((rd_T42 x29 x31).f0) ((rd_T42 x29 x31).f1) ((rd_T42 x29 x31).f2) ((rd_T42 x29 x31).f3)))) else (none)) else (none)) else (some (x8, true))
def prop_lay.j2 : Nat → Int → List (S42) → ByteArray → AnyV → List (S42) → Int → Int → Bool → Int → Int → ByteArray → ByteArray → Option (ByteArray × Bool)
  | 0, _, _, _, _, _, _, _, _, _, _, _, _ => none
  | k + 1, x0, x1, x8, x11, x29, x30, x31, x51, x160000, x160001, x160002, x160003 => if x51 = true then (some ((⟨#[]⟩ : ByteArray), false)) else ((prop_Kind.f k x160000).bind fun bt167 => ((prop_laid.f k bt167.1 x11).bind fun bt169 => (if bt169.2 = 0 then ((some (([(x160000) % 256] : List Int) : List Int)).bind fun y171 => (if (strOfNums y171).size + bt169.1.size ≤ 9223372036854775807 then (if x8.size + ((strOfNums y171) ++ bt169.1).size ≤ 9223372036854775807 then (prop_lay.l0 k x0 x1 (x8 ++ ((strOfNums y171) ++ bt169.1)) x29 x30 (wrap64 (x31 + 1))) else (none)) else (none))) else (some ((⟨#[]⟩ : ByteArray), false)))))
end
def prop_lay.f (k : Nat) (a0 : Int) (l1 : List (S42)) : Option (ByteArray × Bool) := (prop_stands.f k a0).bind fun bt154 => (if bt154.2 = true then (prop_lay.j0 k a0 l1 (decide ((l1.length : Int) > 8))) else (prop_lay.j0 k a0 l1 true))
theorem prop_lay.mono_l : ∀ k, (∀ y0 y1 y2, LeO (prop_lay.j0 k y0 y1 y2) (prop_lay.j0 (k + 1) y0 y1 y2)) ∧ (∀ y0 y1 y2 y3 y4 y5, LeO (prop_lay.l0 k y0 y1 y2 y3 y4 y5) (prop_lay.l0 (k + 1) y0 y1 y2 y3 y4 y5)) ∧ (∀ y0 y1 y2 y3 y4 y5 y6 y7 y8 y9 y10 y11, LeO (prop_lay.j2 k y0 y1 y2 y3 y4 y5 y6 y7 y8 y9 y10 y11) (prop_lay.j2 (k + 1) y0 y1 y2 y3 y4 y5 y6 y7 y8 y9 y10 y11))
 | 0 => ⟨fun _ _ _ r h => by simp [prop_lay.j0] at h, fun _ _ _ _ _ _ r h => by simp [prop_lay.l0] at h, fun _ _ _ _ _ _ _ _ _ _ _ _ r h => by simp [prop_lay.j2] at h⟩
 | k + 1 => by
  obtain ⟨ih0, ih1, ih2⟩ := prop_lay.mono_l k; refine ⟨?_, ?_, ?_⟩ <;> intros
  all_goals first | unfold prop_lay.j0 | unfold prop_lay.l0 | unfold prop_lay.j2
  all_goals repeat' first
   | (with_reducible exact ih0 _ _ _)
   | (with_reducible exact ih1 _ _ _ _ _ _)
   | (with_reducible exact ih2 _ _ _ _ _ _ _ _ _ _ _ _)
   | (with_reducible exact prop_Kind.mono _ _)
   | (with_reducible exact prop_fits.mono _ _ _ _ _ _ _)
   | (with_reducible exact prop_laid.mono _ _ _)
   | (with_reducible exact prop_stands.mono _ _)
   | (with_reducible exact prop_value.mono _ _ _ _ _)
   | (with_reducible exact LeO.refl _)
   | (with_reducible exact LeO.none _)
   | (with_reducible refine LeO.ite ?_ ?_)
   | (with_reducible refine LeO.bind ?_ (fun _ => ?_))
   | exact ih0 _ _ _
   | exact ih1 _ _ _ _ _ _
   | exact ih2 _ _ _ _ _ _ _ _ _ _ _ _
   | exact prop_Kind.mono _ _
   | exact prop_fits.mono _ _ _ _ _ _ _
   | exact prop_laid.mono _ _ _
   | exact prop_stands.mono _ _
   | exact prop_value.mono _ _ _ _ _
   | exact LeO.none _
   | refine LeO.ite ?_ ?_
   | refine LeO.bind ?_ (fun _ => ?_)
theorem prop_lay.mono : ∀ a0 a1 k, LeO (prop_lay.f k a0 a1) (prop_lay.f (k + 1) a0 a1) := by
 intro a0 a1 k
 obtain ⟨ih0, ih1, ih2⟩ := prop_lay.mono_l k; unfold prop_lay.f; repeat' first
   | (with_reducible exact ih0 _ _ _)
   | (with_reducible exact ih1 _ _ _ _ _ _)
   | (with_reducible exact ih2 _ _ _ _ _ _ _ _ _ _ _ _)
   | (with_reducible exact prop_Kind.mono _ _)
   | (with_reducible exact prop_fits.mono _ _ _ _ _ _ _)
   | (with_reducible exact prop_laid.mono _ _ _)
   | (with_reducible exact prop_stands.mono _ _)
   | (with_reducible exact prop_value.mono _ _ _ _ _)
   | (with_reducible exact LeO.refl _)
   | (with_reducible exact LeO.none _)
   | (with_reducible refine LeO.ite ?_ ?_)
   | (with_reducible refine LeO.bind ?_ (fun _ => ?_))
   | exact ih0 _ _ _
   | exact ih1 _ _ _ _ _ _
   | exact ih2 _ _ _ _ _ _ _ _ _ _ _ _
   | exact prop_Kind.mono _ _
   | exact prop_fits.mono _ _ _ _ _ _ _
   | exact prop_laid.mono _ _ _
   | exact prop_stands.mono _ _
   | exact prop_value.mono _ _ _ _ _
   | exact LeO.none _
   | refine LeO.ite ?_ ?_
   | refine LeO.bind ?_ (fun _ => ?_)
def prop_lay.T9 : Bool × List (List Nat × List Nat) := (true, [([], []), ([0], [0]), ([1], [1]), ([2], [2]), ([2], [2]), ([2], [2]), ([4, 5, 2], [2, 4, 5]), ([2], [2]), ([3, 6, 7, 2, 2], [2, 3, 6, 7]), ([8, 2], [2, 8]), ([2, 9], [2, 9])])
def prop_lay.B9 : List Nat := [0, 1, 3, 7, 7, 7, 55, 7, 255, 511, 1023]
theorem prop_lay.tab9 : rtab .any (opsOf Tryd.f28 9) = prop_lay.T9 := by kernel_rfl
theorem prop_lay.bits9 : waitsOk prop_lay.T9.2 prop_lay.B9 = true := by kernel_rfl
set_option maxHeartbeats 8000000 in
set_option maxRecDepth 100000 in
theorem prop_lay.calls (k : Nat) (a0 : Int) (A1 : Option Addr) (c1 : Nat) (l1 : List (S42)) (r1 : ByteArray) (r2 : Bool) (w : World) (hr1 : Kd.C k42 w A1 l1.length l1) (hc1 : l1.length ≤ c1) (HLAID : Laid w) (h : prop_lay.f k a0 l1 = some (r1, r2)) :
  Calls Tryd.prog 28 #[.int .i64 a0, .slice A1 l1.length c1] w fun e w' => e = .returned (.tuple #[.string r1, .bool r2]) ∧ Below w.heap.size w w' := by
 have hu42 := Tryd.underlying42; have HR1 := Aside0.mk hr1; have HC1 := Aside0.mk hc1; clear hr1 hc1; have HB := Aside0.mk (Below.refl w.heap.size w); have H : ((prop_stands.f k a0).bind fun bt154 => (if bt154.2 = true then (prop_lay.j0 k a0 l1 (decide ((l1.length : Int) > 8))) else (prop_lay.j0 k a0 l1 true))) = some (r1, r2) := h; clear h; replace H := Option.bind_eq_some_iff.mp H; obtain ⟨⟨t154, t155⟩, A30, H⟩ := H; replace H : (if t155 = true then (prop_lay.j0 k a0 l1 (decide ((l1.length : Int) > 8))) else (prop_lay.j0 k a0 l1 true)) = some (r1, r2) := H; have A3 := Aside0.mk A30; clear A30; have HC4 := Aside0.mk H; clear H; go_enter Tryd.func28, Tryd.ntmps28
 go_upto_region 2 with (first | ((with_reducible refine gate_callee (f := 35) rfl ?_); refine goesL_ (some 19) rfl rfl Tryd.func35 zz49 rfl #[.int .i64 a0] rfl zz20 ?_; (with_reducible refine (prop_stands.calls k a0 t154 t155 _ A3.out).mono ?_); rintro e w5 ⟨v156, rfl, ho0, hb⟩; refine ⟨_, rfl, ?_⟩; have n0_ := Aside0.mk (Kd.R_lower ho0 (below_size zz21)); have n1_ := Aside0.mk (below_step zz21 hb); clear HB; have HO157 := n0_; have HB := n1_; clear n0_ n1_; (try clear hb); (try clear hb2); (try clear hk); (try clear hi); (try clear ho0)))
 (try simp only [Act.put, List.setIfInBounds_toArray, List.set_cons_zero, List.set_cons_succ])
 go_cut [28] (fun v28 wc => ∃ (kq : Nat) (x28_3 : Bool), v28 = .bool x28_3 ∧ Aside0 (prop_lay.j0 kq a0 l1 x28_3 = some (r1, r2)) ∧ Aside0 (kq ≤ k) ∧ Aside0 (Below w.heap.size w wc))
 case first =>
  have H := HC4.out; clear HC4; by_cases c6 : t155 = true
  ·
   subst c6; have H1 : (prop_lay.j0 k a0 l1 (decide ((l1.length : Int) > 8))) = some (r1, r2) := by rw [if_pos rfl] at H; exact H
   clear H; have H := H1; clear H1; have H' := Aside0.mk H; clear H; go_wp2
   go_meet
   case rel => exact ⟨_, (decide ((l1.length : Int) > 8)), zz47, H', ⟨zz48⟩, ⟨zz21⟩⟩
  replace c6 := Bool.eq_false_iff.mpr c6; subst c6; have H1 : (prop_lay.j0 k a0 l1 true) = some (r1, r2) := by rw [if_neg (show ¬ (false = true) by decide)] at H; exact H
  clear H; have H := H1; clear H1; have H' := Aside0.mk H; clear H; go_wp2
  go_meet
  case rel => exact ⟨_, (true), zz47, H', ⟨zz48⟩, ⟨zz21⟩⟩
 case rest =>
  as_aux_lemma =>
   clear HC4; (try clear c1); (try clear c2); (try clear p2); (try clear c3); (try clear c6); obtain ⟨kq, x28_3, rfl, HA, HJ3, HB⟩ := hcut; cases kq with
   | zero => exact absurd HA.out (by simp [prop_lay.j0])
   | succ kj3 =>
    have H := HA.out; clear HA; simp only [prop_lay.j0] at H; by_cases c7 : x28_3 = true
    ·
     subst c7; have H1 : (some ((⟨#[]⟩ : ByteArray), false)) = some (r1, r2) := by rw [if_pos rfl] at H; exact H
     clear H; have H := H1; clear H1; simp only [Option.some.injEq, Prod.mk.injEq] at H; obtain ⟨rfl, rfl⟩ := H; go_wp2
     go_ret2
     exact ⟨zz40, zz21⟩
    replace c7 := Bool.eq_false_iff.mpr c7; subst c7; have H1 : (prop_lay.l0 kj3 a0 l1 (⟨#[]⟩ : ByteArray) l1 (l1.length : Int) 0) = some (r1, r2) := by rw [if_neg (show ¬ (false = true) by decide)] at H; exact H
    clear H; have H := H1; clear H1; have H' := Aside0.mk H; clear H; go_wp2
    go_loopg [8, 31] kj3 (fun kq v8 v31 w' => ∃ (x8_2 : ByteArray) (x31_2 : Int), v8 = .string x8_2 ∧ v31 = .int .i64 x31_2 ∧ Aside0 (prop_lay.l0 kq a0 l1 x8_2 l1 (l1.length : Int) x31_2 = some (r1, r2)) ∧ Aside0 (kq ≤ kj3) ∧ Aside0 (Below w.heap.size w w'))
    case atStart => exact ⟨((⟨#[]⟩ : ByteArray)), (0), zz47, zz47, H', ⟨Nat.le_refl _⟩, ⟨zz21⟩⟩
    case round =>
     as_aux_lemma =>
      clear H'; (try clear c1); (try clear c2); (try clear p2); (try clear c3); (try clear c6); (try clear c7); (try clear p2); obtain ⟨x8_2, x31_2, rfl, rfl, HA, HK2, HB⟩ := hrel; cases gk with
      | zero => exact absurd HA.out (by simp [prop_lay.l0])
      | succ k2 =>
       have H := HA.out; clear HA; simp only [prop_lay.l0] at H; by_cases c8 : x31_2 < (l1.length : Int)
       ·
        rw [if_pos c8] at H; have c8b0 : decide (x31_2 < (l1.length : Int)) = true := decide_eq_true c8; clear c8; by_cases c9 : 0 ≤ x31_2
        ·
         rw [if_pos c9] at H; have c9b0 : decide (0 ≤ x31_2) = true := decide_eq_true c9; clear c9; by_cases c10 : x31_2 < (l1.length : Int)
         ·
          rw [if_pos c10] at H; have c10b0 : decide (x31_2 < (l1.length : Int)) = true := decide_eq_true c10; clear c10; replace H := Option.bind_eq_some_iff.mp H; obtain ⟨⟨t160, t161⟩, A110, H⟩ := H; replace H : (if t161 = true then (if x31_2 ≤ (l1.length : Int) then ((prop_fits.f k2 a0 (l1.take (x31_2 : Int).toNat) ((rd_T42 l1 x31_2).f0) ((rd_T42 l1 x31_2).f1) ((rd_T42 l1 x31_2).f2) ((rd_T42 l1 x31_2).f3)).bind fun t166 => (prop_lay.j2 k2 a0 l1 x8_2 t160 l1 (l1.length : Int) x31_2 (!t166) ((rd_T42 l1 x31_2).f0) ((rd_T42 l1 x31_2).f1) ((rd_T42 l1 x31_2).f2) ((rd_T42 l1 x31_2).f3))) else (none)) else (prop_lay.j2 k2 a0 l1 x8_2 t160 l1 (l1.length : Int) x31_2 true ((rd_T42 l1 x31_2).f0) ((rd_T42 l1 x31_2).f1) ((rd_T42 l1 x31_2).f2) ((rd_T42 l1 x31_2).f3))) = some (r1, r2) := H; have A11 := Aside0.mk A110; clear A110; have HC12 := Aside0.mk H; clear H; have p158 : 0 ≤ (x31_2 : Int) := of_decide_eq_true zz46; have q158 : x31_2 < (l1.length : Int) := of_decide_eq_true zz46; obtain ⟨ad158, e158, hx158_0, hx158_1, hx158_2, hx158_3⟩ := at_T42 HR1.out x31_2 p158 q158; cases e158; replace hx158_0 := (HB.out.cell (World.block_lt_of_cell? w _ hx158_0)).trans hx158_0; replace hx158_1 := (HB.out.cell (World.block_lt_of_cell? w _ hx158_1)).trans hx158_1; replace hx158_2 := (HB.out.cell (World.block_lt_of_cell? w _ hx158_2)).trans hx158_2; replace hx158_3 := (HB.out.cell (World.block_lt_of_cell? w _ hx158_3)).trans hx158_3; replace p158 := eq_true p158; replace q158 := eq_true q158; go_upto_region 9 with (first | ((with_reducible refine gate_dst (N := 10) rfl ?_); (try (refine gate_guard (by rfl) ?_; dsimp only)); refine box_event ?hg (N := 10) ?hd (cs := #[.int .i64 0, .int .i64 0, .string (⟨#[]⟩ : ByteArray), .string (⟨#[]⟩ : ByteArray)]) (t := 42) ?hr ?_; (case hd => rfl); (case hg => rfl); (case hr => first | (go_simp; done) | (go_simp; rfl)); intro gb159 hg w13 hbox hb; have n0_ := Aside0.mk (below_step zz21 hb); have n1_ := Aside0.mk (hbox); have n2_ := Aside0.mk ((by rw [hg]; exact (below_size zz21) : w.heap.size ≤ gb159)); have n3_ := Aside0.mk ((by rw [hg]; exact (below_size zz21) : w.heap.size ≤ gb159)); clear HB; have HB := n0_; have BK159 := n1_; have GW159 := n2_; have GE159 := n3_; clear n0_ n1_ n2_ n3_; clear hb hbox hg; have hcz14_0 : w13.cell? ⟨gb159, 0, none⟩ = some (.int .i64 0) := (blk_cell BK159.out 0).trans rfl; have hcz14_1 : w13.cell? ⟨gb159, 1, none⟩ = some (.int .i64 0) := (blk_cell BK159.out 1).trans rfl; have hcz14_2 : w13.cell? ⟨gb159, 2, none⟩ = some (.string (⟨#[]⟩ : ByteArray)) := (blk_cell BK159.out 2).trans rfl; have hcz14_3 : w13.cell? ⟨gb159, 3, none⟩ = some (.string (⟨#[]⟩ : ByteArray)) := (blk_cell BK159.out 3).trans rfl; have hfz14_0 := blk_frozen BK159.out 0; have hfz14_1 := blk_frozen BK159.out 1; have hfz14_2 := blk_frozen BK159.out 2; have hfz14_3 := blk_frozen BK159.out 3) | ((with_reducible refine gate_callee (f := 41) rfl ?_); refine goesL_ (some 38) rfl rfl Tryd.func41 zz49 rfl #[.agg #[.int .i64 ((rd_T42 l1 x31_2).f0), .int .i64 ((rd_T42 l1 x31_2).f1), .string ((rd_T42 l1 x31_2).f2), .string ((rd_T42 l1 x31_2).f3)]] rfl zz20 ?_; (with_reducible refine (prop_value.calls k2 ((rd_T42 l1 x31_2).f0) ((rd_T42 l1 x31_2).f1) ((rd_T42 l1 x31_2).f2) ((rd_T42 l1 x31_2).f3) t160 t161 _ A11.out).mono ?_); rintro e w15 ⟨rfl, hb⟩; refine ⟨_, rfl, ?_⟩; have n0_ := Aside0.mk (blk_below (g := gb159) (o := .cells #[.int .i64 ((rd_T42 l1 x31_2).f0), .int .i64 ((rd_T42 l1 x31_2).f1), .string ((rd_T42 l1 x31_2).f2), .string ((rd_T42 l1 x31_2).f3)] 42 (0, 0)) (by (with_reducible repeat (first | refine blk_drewN ?_ _ | refine blk_drew ?_ | refine blk_alloc ?_ _)); refine blk_put (cs := #[.int .i64 ((rd_T42 l1 x31_2).f0), .int .i64 ((rd_T42 l1 x31_2).f1), .string ((rd_T42 l1 x31_2).f2), .string (⟨#[]⟩ : ByteArray)]) ?_ 3 _ rfl; (with_reducible repeat (first | refine blk_drewN ?_ _ | refine blk_drew ?_ | refine blk_alloc ?_ _)); refine blk_put (cs := #[.int .i64 ((rd_T42 l1 x31_2).f0), .int .i64 ((rd_T42 l1 x31_2).f1), .string (⟨#[]⟩ : ByteArray), .string (⟨#[]⟩ : ByteArray)]) ?_ 2 _ rfl; (with_reducible repeat (first | refine blk_drewN ?_ _ | refine blk_drew ?_ | refine blk_alloc ?_ _)); refine blk_put (cs := #[.int .i64 ((rd_T42 l1 x31_2).f0), .int .i64 0, .string (⟨#[]⟩ : ByteArray), .string (⟨#[]⟩ : ByteArray)]) ?_ 1 _ rfl; (with_reducible repeat (first | refine blk_drewN ?_ _ | refine blk_drew ?_ | refine blk_alloc ?_ _)); refine blk_put (cs := #[.int .i64 0, .int .i64 0, .string (⟨#[]⟩ : ByteArray), .string (⟨#[]⟩ : ByteArray)]) ?_ 0 _ rfl; (with_reducible repeat (first | refine blk_drewN ?_ _ | refine blk_drew ?_ | refine blk_alloc ?_ _)); exact BK159.out) hb); have n1_ := Aside0.mk (below_step zz11 hb); clear BK159; clear HB; have BK159 := n0_; have HB := n1_; clear n0_ n1_; (try clear hb); (try clear hb2); (try clear hk); (try clear hi)))
          (try simp only [Act.put, List.setIfInBounds_toArray, List.set_cons_zero, List.set_cons_succ])
          go_cut [51] (fun v51 wc => ∃ (kq : Nat) (x51_11 : Bool), v51 = .bool x51_11 ∧ Aside0 (prop_lay.j2 kq a0 l1 x8_2 t160 l1 (l1.length : Int) x31_2 x51_11 ((rd_T42 l1 x31_2).f0) ((rd_T42 l1 x31_2).f1) ((rd_T42 l1 x31_2).f2) ((rd_T42 l1 x31_2).f3) = some (r1, r2)) ∧ Aside0 (kq ≤ k2) ∧ Aside0 (wc.heap[gb159]? = some (.cells #[.int .i64 ((rd_T42 l1 x31_2).f0), .int .i64 ((rd_T42 l1 x31_2).f1), .string ((rd_T42 l1 x31_2).f2), .string ((rd_T42 l1 x31_2).f3)] 42 (0, 0))) ∧ Aside0 (Below w.heap.size w wc))
          case first =>
           have H := HC12.out; clear HC12; by_cases c16 : t161 = true
           ·
            subst c16; have H1 : (if x31_2 ≤ (l1.length : Int) then ((prop_fits.f k2 a0 (l1.take (x31_2 : Int).toNat) ((rd_T42 l1 x31_2).f0) ((rd_T42 l1 x31_2).f1) ((rd_T42 l1 x31_2).f2) ((rd_T42 l1 x31_2).f3)).bind fun t166 => (prop_lay.j2 k2 a0 l1 x8_2 t160 l1 (l1.length : Int) x31_2 (!t166) ((rd_T42 l1 x31_2).f0) ((rd_T42 l1 x31_2).f1) ((rd_T42 l1 x31_2).f2) ((rd_T42 l1 x31_2).f3))) else (none)) = some (r1, r2) := by rw [if_pos rfl] at H; exact H
            clear H; have H := H1; clear H1; have c17b0 := eq_true (of_decide_eq_true zz46 : 0 ≤ x31_2); by_cases c18 : x31_2 ≤ (l1.length : Int)
            ·
             rw [if_pos c18] at H; have c18b0 := eq_true c18; have c18b1 : decide (x31_2 ≤ (l1.length : Int)) = true := decide_eq_true c18; clear c18; obtain ⟨y162, hy162⟩ : ∃ y_ : List (S42), y_ = (l1.take (x31_2 : Int).toNat) := ⟨_, rfl⟩; replace H : ((prop_fits.f k2 a0 y162 ((rd_T42 l1 x31_2).f0) ((rd_T42 l1 x31_2).f1) ((rd_T42 l1 x31_2).f2) ((rd_T42 l1 x31_2).f3)).bind fun t166 => (prop_lay.j2 k2 a0 l1 x8_2 t160 l1 (l1.length : Int) x31_2 (!t166) ((rd_T42 l1 x31_2).f0) ((rd_T42 l1 x31_2).f1) ((rd_T42 l1 x31_2).f2) ((rd_T42 l1 x31_2).f3))) = some (r1, r2) := by first | (rw [hy162]; with_reducible exact H) | (have H2_ := (Option.bind_some _ _).symm.trans H; rw [hy162]; with_reducible exact H2_) | (have H2_ := (Option.bind_some _ _).symm.trans H; with_reducible exact H2_) | with_reducible exact H | (rw [hy162]; exact H) | exact H
             have Ny162 := Aside0.mk hy162; clear hy162; replace H := Option.bind_eq_some_iff.mp H; obtain ⟨t166, A190, H⟩ := H; replace H : (prop_lay.j2 k2 a0 l1 x8_2 t160 l1 (l1.length : Int) x31_2 (!t166) ((rd_T42 l1 x31_2).f0) ((rd_T42 l1 x31_2).f1) ((rd_T42 l1 x31_2).f2) ((rd_T42 l1 x31_2).f3)) = some (r1, r2) := H; have A19 := Aside0.mk A190; clear A190; have H' := Aside0.mk H; clear H; try go_wp2
             have n0_ := Aside0.mk (blk_drew BK159.out); have n1_ := Aside0.mk (below_drew1 HB.out); clear BK159; clear HB; have BK159 := n0_; have HB := n1_; clear n0_ n1_; have q21 : (x31_2 : Int) ≤ ((l1.length : Int) : Int) := of_decide_eq_true zz46; obtain ⟨i021, hi021, _, hsz21, _⟩ := info_parts info42; have hroom21 : l1.length ≤ c1 := HC1.out; have hC21 : Kd.C k42 _ (some ad158) l1.length l1 := HR1.out; have hcut21 := cut_to (P := Tryd.prog) 23 42 .i64 Tryd.underlying23 hi021 (some ad158) l1.length c1 x31_2 (of_decide_eq_true zz46) q21 hroom21; have hr21 := Kd.C_take (m := (x31_2 : Int).toNat) hC21 (by omega); have hy21 : y162.length = (x31_2 : Int).toNat := (by rw [Ny162.out, List.length_take]; omega); rw [← Ny162.out] at hr21; rw [← hy21] at hcut21; have HR165 := Aside0.mk hr21; have HC165 := Aside0.mk (show y162.length ≤ c1 from by omega); clear hr21 hC21 hroom21 hi021 hsz21; have KY21 := Aside0.mk hy21; clear hy21; replace q21 := eq_true q21; refine start_ (n := 11) (S := fun w' => w'.cell? ⟨gb159, 0, none⟩ = some (.int .i64 ((rd_T42 l1 x31_2).f0)) ∧ w'.cell? ⟨gb159, 1, none⟩ = some (.int .i64 ((rd_T42 l1 x31_2).f1)) ∧ w'.cell? ⟨gb159, 2, none⟩ = some (.string ((rd_T42 l1 x31_2).f2)) ∧ w'.cell? ⟨gb159, 3, none⟩ = some (.string ((rd_T42 l1 x31_2).f3))) (ds := []) #[false, false, false, false, false, false, false, false, false, false, false] zz49 rfl rfl ⟨(blk_cell BK159.out 0).trans rfl, (blk_cell BK159.out 1).trans rfl, (blk_cell BK159.out 2).trans rfl, (blk_cell BK159.out 3).trans rfl⟩ (fun hHeld => ?_); refine with_tabW prop_lay.tab9 prop_lay.bits9 (fun HT_ HW_ => ?_)
             generalize w15.drew = w20 at BK159 HB HR165 hHeld ⊢
             refine pure_ (i := 0) (N := some 41) (v := ?_) (a' := ?_) #[true, false, false, false, false, false, false, false, false, false, false] rfl rfl (any_of HT_.out zz49) (fun _ _ _ h => h) (Or.inl ⟨by rfl, ?_⟩) ?_ ?_
             rotate_left
             ·
              intro w'
              go_simp
              with_reducible rfl
             rotate_left
             ·
              simp only [Act.put, List.setIfInBounds_toArray, List.set_cons_zero, List.set_cons_succ, i64_w, i32_w]; rfl
             refine pure_ (i := 1) (N := some 42) (v := ?_) (a' := ?_) #[true, true, false, false, false, false, false, false, false, false, false] rfl rfl (any_of HT_.out zz49) (fun _ _ _ h => h) (Or.inl ⟨by rfl, ?_⟩) ?_ ?_
             rotate_left
             ·
              intro w'
              go_simp
              with_reducible rfl
             rotate_left
             ·
              simp only [Act.put, List.setIfInBounds_toArray, List.set_cons_zero, List.set_cons_succ, i64_w, i32_w]; rfl
             refine pure_ (i := 2) (N := some 43) (v := ?_) (a' := ?_) #[true, true, true, false, false, false, false, false, false, false, false] rfl rfl (any_of HT_.out zz49) (fun _ _ _ h => h) (Or.inl ⟨by rfl, ?_⟩) ?_ ?_
             rotate_left
             ·
              intro w'
              go_simp
              with_reducible rfl
             rotate_left
             ·
              simp only [Act.put, List.setIfInBounds_toArray, List.set_cons_zero, List.set_cons_succ, i64_w, i32_w]; rfl
             refine pure_ (i := 3) (N := some 44) (v := ?_) (a' := ?_) #[true, true, true, true, false, false, false, false, false, false, false] rfl rfl (any_of HT_.out zz49) (fun _ _ _ h => h) (Or.inl ⟨by rfl, ?_⟩) ?_ ?_
             rotate_left
             ·
              intro w'
              go_simp
              with_reducible rfl
             rotate_left
             ·
              simp only [Act.put, List.setIfInBounds_toArray, List.set_cons_zero, List.set_cons_succ, i64_w, i32_w]; rfl
             refine pure_ (i := 4) (N := some 45) (v := ?_) (a' := ?_) #[true, true, true, true, true, false, false, false, false, false, false] rfl rfl (any_of HT_.out zz49) (fun _ _ _ h => h) (Or.inl ⟨by rfl, ?_⟩) ?_ ?_
             rotate_left
             ·
              intro w'
              go_simp
              with_reducible rfl
             rotate_left
             ·
              simp only [Act.put, List.setIfInBounds_toArray, List.set_cons_zero, List.set_cons_succ, i64_w, i32_w]; rfl
             refine pure_ (i := 5) (N := some 46) (v := ?_) (a' := ?_) #[true, true, true, true, true, true, false, false, false, false, false] rfl rfl (any_of HT_.out zz49) (fun _ _ _ h => h) (Or.inl ⟨by rfl, ?_⟩) ?_ ?_
             rotate_left
             ·
              intro w'
              go_simp
              with_reducible rfl
             rotate_left
             ·
              simp only [Act.put, List.setIfInBounds_toArray, List.set_cons_zero, List.set_cons_succ, i64_w, i32_w]; rfl
             refine pure_ (i := 6) (N := some 47) (v := ?_) (a' := ?_) #[true, true, true, true, true, true, true, false, false, false, false] rfl rfl (any_of HT_.out zz49) (fun _ _ _ h => h) (Or.inl ⟨by rfl, ?_⟩) ?_ ?_
             rotate_left
             ·
              intro w'
              go_simp
              with_reducible rfl
             rotate_left
             ·
              simp only [Act.put, List.setIfInBounds_toArray, List.set_cons_zero, List.set_cons_succ, i64_w, i32_w]; rfl
             refine take_ (i := 7) (N := some 48) (v := ?_) (a' := ?_) #[true, true, true, true, true, true, true, true, false, false, false] rfl rfl (take_ofW HT_.out HW_.out zz49) (fun _ _ _ h => h) (Or.inl ⟨by rfl, ?_⟩) hHeld ?_ ?_
             rotate_left
             ·
              rintro w' ⟨s0, s1, s2, s3⟩
              go_simp
              with_reducible rfl
             rotate_left
             ·
              simp only [Act.put, List.setIfInBounds_toArray, List.set_cons_zero, List.set_cons_succ, i64_w, i32_w]; rfl
             refine one_ (i := 8) (N := some 49) #[true, true, true, true, true, true, true, true, true, false, false] rfl rfl (one_of HT_.out zz49) (by decide) (fun K hK => ?_)
             refine goes_ Tryd.func38 zz49 rfl #[.int .i64 a0, .slice (some ad158) y162.length c1, .agg #[.int .i64 ((rd_T42 l1 x31_2).f0), .int .i64 ((rd_T42 l1 x31_2).f1), .string ((rd_T42 l1 x31_2).f2), .string ((rd_T42 l1 x31_2).f3)]] (by rfl) rfl rfl zz20 ?_
             with_reducible refine (prop_fits.calls k2 a0 _ _ y162 ((rd_T42 l1 x31_2).f0) ((rd_T42 l1 x31_2).f1) ((rd_T42 l1 x31_2).f2) ((rd_T42 l1 x31_2).f3) t166 _ ?side1 ?side2 A19.out).mono ?_
             (case side1 => repeat (first | exact (Kd.C_below HR165.out HB.out) | (with_reducible refine Kd.C_alloc ?_ _) | (with_reducible refine Kd.C_drewN ?_ _) | (with_reducible refine Kd.C_drew ?_)))
             (case side2 => exact HC165.out)
             rintro e w22 ⟨rfl, hb⟩
             refine ⟨_, rfl, ?_⟩
             have n0_ := Aside0.mk (blk_below (g := gb159) (o := .cells #[.int .i64 ((rd_T42 l1 x31_2).f0), .int .i64 ((rd_T42 l1 x31_2).f1), .string ((rd_T42 l1 x31_2).f2), .string ((rd_T42 l1 x31_2).f3)] 42 (0, 0)) zz25 hb); have n1_ := Aside0.mk (below_step zz11 hb); clear BK159; clear HB; have BK159 := n0_; have HB := n1_; clear n0_ n1_; (try clear hb)
             (try clear hb2)
             (try clear hk)
             (try clear hi)
             refine hK.out _ _ ⟨(blk_cell BK159.out 0).trans rfl, (blk_cell BK159.out 1).trans rfl, (blk_cell BK159.out 2).trans rfl, (blk_cell BK159.out 3).trans rfl⟩ (fun hHeld => ?_)
             clear hK K; refine norm_ (a' := ?_) ?_ ?_
             rotate_left
             ·
              show Act.put _ (some 49) _ = _
              simp only [Act.put, List.setIfInBounds_toArray, List.set_cons_zero, List.set_cons_succ, i64_w, i32_w]; rfl
             refine pure_ (i := 9) (N := some 50) (v := ?_) (a' := ?_) #[true, true, true, true, true, true, true, true, true, true, false] rfl rfl (any_of HT_.out zz49) (fun _ _ _ h => h) (Or.inl ⟨by rfl, ?_⟩) ?_ ?_
             rotate_left
             ·
              intro w'
              go_simp
              with_reducible rfl
             rotate_left
             ·
              simp only [Act.put, List.setIfInBounds_toArray, List.set_cons_zero, List.set_cons_succ, i64_w, i32_w]; rfl
             refine pure_ (i := 10) (N := some 51) (v := ?_) (a' := ?_) #[true, true, true, true, true, true, true, true, true, true, true] rfl rfl (any_of HT_.out zz49) (fun _ _ _ h => h) (Or.inl ⟨by rfl, ?_⟩) ?_ ?_
             rotate_left
             ·
              intro w'
              go_simp
              with_reducible rfl
             rotate_left
             ·
              simp only [Act.put, List.setIfInBounds_toArray, List.set_cons_zero, List.set_cons_succ, i64_w, i32_w]; rfl
             refine done_ (done_of HT_.out zz49) ?_
             try go_wp2
             go_meet
             case rel => exact ⟨_, (!t166), zz47, H', ⟨by have := HJ3.out; have := HK2.out; first | omega | exact Nat.le_refl _⟩, ⟨zz25⟩, ⟨zz11⟩⟩
            rw [if_neg c18] at H; exact absurd H (by simp)
           replace c16 := Bool.eq_false_iff.mpr c16; subst c16; have H1 : (prop_lay.j2 k2 a0 l1 x8_2 t160 l1 (l1.length : Int) x31_2 true ((rd_T42 l1 x31_2).f0) ((rd_T42 l1 x31_2).f1) ((rd_T42 l1 x31_2).f2) ((rd_T42 l1 x31_2).f3)) = some (r1, r2) := by rw [if_neg (show ¬ (false = true) by decide)] at H; exact H
           clear H; have H := H1; clear H1; have H' := Aside0.mk H; clear H; try go_wp2
           have n0_ := Aside0.mk (blk_drew BK159.out); have n1_ := Aside0.mk (below_drew1 HB.out); clear BK159; clear HB; have BK159 := n0_; have HB := n1_; clear n0_ n1_; refine start_ (n := 11) (S := fun w' => True) (ds := []) #[false, false, false, false, false, false, false, false, false, false, false] zz49 rfl rfl trivial (fun hHeld => ?_); refine with_tabW prop_lay.tab9 prop_lay.bits9 (fun HT_ HW_ => ?_)
           generalize w15.drew = w23 at BK159 HB hHeld ⊢
           refine pure_ (i := 0) (N := some 41) (v := ?_) (a' := ?_) #[true, false, false, false, false, false, false, false, false, false, false] rfl rfl (any_of HT_.out zz49) (fun _ _ _ h => h) (Or.inl ⟨by rfl, ?_⟩) ?_ ?_
           rotate_left
           ·
            intro w'
            go_simp
            with_reducible rfl
           rotate_left
           ·
            simp only [Act.put, List.setIfInBounds_toArray, List.set_cons_zero, List.set_cons_succ, i64_w, i32_w]; rfl
           refine pure_ (i := 1) (N := some 42) (v := ?_) (a' := ?_) #[true, true, false, false, false, false, false, false, false, false, false] rfl rfl (any_of HT_.out zz49) (fun _ _ _ h => h) (Or.inl ⟨by rfl, ?_⟩) ?_ ?_
           rotate_left
           ·
            intro w'
            go_simp
            with_reducible rfl
           rotate_left
           ·
            simp only [Act.put, List.setIfInBounds_toArray, List.set_cons_zero, List.set_cons_succ, i64_w, i32_w]; rfl
           refine pure_ (i := 2) (N := some 43) (v := ?_) (a' := ?_) #[true, true, true, false, false, false, false, false, false, false, false] rfl rfl (any_of HT_.out zz49) (fun _ _ _ h => h) (Or.inl ⟨by rfl, ?_⟩) ?_ ?_
           rotate_left
           ·
            intro w'
            go_simp
            with_reducible rfl
           rotate_left
           ·
            simp only [Act.put, List.setIfInBounds_toArray, List.set_cons_zero, List.set_cons_succ, i64_w, i32_w]; rfl
           refine pure_ (i := 3) (N := some 44) (v := undef) (a' := ?_) #[true, true, true, true, false, false, false, false, false, false, false] rfl rfl (any_of HT_.out zz49) (fun _ _ _ h => h) (Or.inr ⟨by rfl, rfl⟩) ?_ ?_
           rotate_left
           ·
            simp only [Act.put, List.setIfInBounds_toArray, List.set_cons_zero, List.set_cons_succ, i64_w, i32_w]; rfl
           refine pure_ (i := 4) (N := some 45) (v := undef) (a' := ?_) #[true, true, true, true, true, false, false, false, false, false, false] rfl rfl (any_of HT_.out zz49) (fun _ _ _ h => h) (Or.inr ⟨by rfl, rfl⟩) ?_ ?_
           rotate_left
           ·
            simp only [Act.put, List.setIfInBounds_toArray, List.set_cons_zero, List.set_cons_succ, i64_w, i32_w]; rfl
           refine pure_ (i := 5) (N := some 46) (v := undef) (a' := ?_) #[true, true, true, true, true, true, false, false, false, false, false] rfl rfl (any_of HT_.out zz49) (fun _ _ _ h => h) (Or.inr ⟨by rfl, rfl⟩) ?_ ?_
           rotate_left
           ·
            simp only [Act.put, List.setIfInBounds_toArray, List.set_cons_zero, List.set_cons_succ, i64_w, i32_w]; rfl
           refine pure_ (i := 6) (N := some 47) (v := undef) (a' := ?_) #[true, true, true, true, true, true, true, false, false, false, false] rfl rfl (any_of HT_.out zz49) (fun _ _ _ h => h) (Or.inr ⟨by rfl, rfl⟩) ?_ ?_
           rotate_left
           ·
            simp only [Act.put, List.setIfInBounds_toArray, List.set_cons_zero, List.set_cons_succ, i64_w, i32_w]; rfl
           refine pure_ (i := 7) (N := some 48) (v := undef) (a' := ?_) #[true, true, true, true, true, true, true, true, false, false, false] rfl rfl (any_of HT_.out zz49) (fun _ _ _ h => h) (Or.inr ⟨by rfl, rfl⟩) ?_ ?_
           rotate_left
           ·
            simp only [Act.put, List.setIfInBounds_toArray, List.set_cons_zero, List.set_cons_succ, i64_w, i32_w]; rfl
           refine pure_ (i := 8) (N := some 49) (v := undef) (a' := ?_) #[true, true, true, true, true, true, true, true, true, false, false] rfl rfl (any_of HT_.out zz49) (fun _ _ _ h => h) (Or.inr ⟨by rfl, rfl⟩) ?_ ?_
           rotate_left
           ·
            simp only [Act.put, List.setIfInBounds_toArray, List.set_cons_zero, List.set_cons_succ, i64_w, i32_w]; rfl
           refine pure_ (i := 9) (N := some 50) (v := undef) (a' := ?_) #[true, true, true, true, true, true, true, true, true, true, false] rfl rfl (any_of HT_.out zz49) (fun _ _ _ h => h) (Or.inr ⟨by rfl, rfl⟩) ?_ ?_
           rotate_left
           ·
            simp only [Act.put, List.setIfInBounds_toArray, List.set_cons_zero, List.set_cons_succ, i64_w, i32_w]; rfl
           refine pure_ (i := 10) (N := some 51) (v := ?_) (a' := ?_) #[true, true, true, true, true, true, true, true, true, true, true] rfl rfl (any_of HT_.out zz49) (fun _ _ _ h => h) (Or.inl ⟨by rfl, ?_⟩) ?_ ?_
           rotate_left
           ·
            intro w'
            go_simp
            with_reducible rfl
           rotate_left
           ·
            simp only [Act.put, List.setIfInBounds_toArray, List.set_cons_zero, List.set_cons_succ, i64_w, i32_w]; rfl
           refine done_ (done_of HT_.out zz49) ?_
           try go_wp2
           go_meet
           case rel => exact ⟨_, (true), zz47, H', ⟨by have := HJ3.out; have := HK2.out; first | omega | exact Nat.le_refl _⟩, ⟨zz25⟩, ⟨zz11⟩⟩
          case rest =>
           as_aux_lemma =>
            clear HC12; (try clear c1); (try clear p1); (try clear q1); (try clear hx1); (try clear c2); (try clear p2); (try clear q2); (try clear c3); (try clear c4); (try clear c6); (try clear c7); (try clear c8); (try clear c8b0); (try clear c9); (try clear c9b0); (try clear c10); (try clear c10b0); (try clear p15); (try clear q15); (try clear hx15); (try clear c16); (try clear c17); (try clear c17b0); (try clear c18); (try clear c18b0); (try clear c18b1); (try clear q21); (try clear hcz14_0); (try clear hcz14_1); (try clear hcz14_2); (try clear hcz14_3); (try clear hfz14_0); (try clear hfz14_1); (try clear hfz14_2); (try clear hfz14_3); (try clear hx158_0); (try clear hx158_1); (try clear hx158_2); (try clear hx158_3); (try clear p158); (try clear p2); (try clear q158); (try clear q21); obtain ⟨kq, x51_11, rfl, HA, HJ11, BK159, HB⟩ := hcut; cases kq with
            | zero => exact absurd HA.out (by simp [prop_lay.j2])
            | succ kj11 =>
             have H := HA.out; clear HA; simp only [prop_lay.j2] at H; by_cases c24 : x51_11 = true
             ·
              subst c24; have H1 : (some ((⟨#[]⟩ : ByteArray), false)) = some (r1, r2) := by rw [if_pos rfl] at H; exact H
              clear H; have H := H1; clear H1; simp only [Option.some.injEq, Prod.mk.injEq] at H; obtain ⟨rfl, rfl⟩ := H; go_wp2
              go_ret2
              exact ⟨zz40, zz11⟩
             replace c24 := Bool.eq_false_iff.mpr c24; subst c24; have H1 : ((prop_Kind.f kj11 ((rd_T42 l1 x31_2).f0)).bind fun bt167 => ((prop_laid.f kj11 bt167.1 t160).bind fun bt169 => (if bt169.2 = 0 then ((some (([(((rd_T42 l1 x31_2).f0)) % 256] : List Int) : List Int)).bind fun y171 => (if (strOfNums y171).size + bt169.1.size ≤ 9223372036854775807 then (if x8_2.size + ((strOfNums y171) ++ bt169.1).size ≤ 9223372036854775807 then (prop_lay.l0 kj11 a0 l1 (x8_2 ++ ((strOfNums y171) ++ bt169.1)) l1 (l1.length : Int) (wrap64 (x31_2 + 1))) else (none)) else (none))) else (some ((⟨#[]⟩ : ByteArray), false))))) = some (r1, r2) := by rw [if_neg (show ¬ (false = true) by decide)] at H; exact H
             clear H; have H := H1; clear H1; replace H := Option.bind_eq_some_iff.mp H; obtain ⟨⟨t167, t168⟩, A250, H⟩ := H; replace H : ((prop_laid.f kj11 t167 t160).bind fun bt169 => (if bt169.2 = 0 then ((some (([(((rd_T42 l1 x31_2).f0)) % 256] : List Int) : List Int)).bind fun y171 => (if (strOfNums y171).size + bt169.1.size ≤ 9223372036854775807 then (if x8_2.size + ((strOfNums y171) ++ bt169.1).size ≤ 9223372036854775807 then (prop_lay.l0 kj11 a0 l1 (x8_2 ++ ((strOfNums y171) ++ bt169.1)) l1 (l1.length : Int) (wrap64 (x31_2 + 1))) else (none)) else (none))) else (some ((⟨#[]⟩ : ByteArray), false)))) = some (r1, r2) := H; have A25 := Aside0.mk A250; clear A250; replace H := Option.bind_eq_some_iff.mp H; obtain ⟨⟨t169, t170⟩, A260, H⟩ := H; replace H : (if t170 = 0 then ((some (([(((rd_T42 l1 x31_2).f0)) % 256] : List Int) : List Int)).bind fun y171 => (if (strOfNums y171).size + t169.size ≤ 9223372036854775807 then (if x8_2.size + ((strOfNums y171) ++ t169).size ≤ 9223372036854775807 then (prop_lay.l0 kj11 a0 l1 (x8_2 ++ ((strOfNums y171) ++ t169)) l1 (l1.length : Int) (wrap64 (x31_2 + 1))) else (none)) else (none))) else (some ((⟨#[]⟩ : ByteArray), false))) = some (r1, r2) := H; have A26 := Aside0.mk A260; clear A260; by_cases c27 : t170 = 0
             ·
              rw [if_pos c27] at H; have c27b0 : (t170 == 0) = true := beq_iff_eq.mpr c27; have c27b1 : (t170 != 0) = false := bne_eq_false_iff_eq.mpr c27; clear c27; obtain ⟨y171, hy171⟩ : ∃ y_ : List Int, y_ = (([(((rd_T42 l1 x31_2).f0)) % 256] : List Int)) := ⟨_, rfl⟩; replace H : (if (strOfNums y171).size + t169.size ≤ 9223372036854775807 then (if x8_2.size + ((strOfNums y171) ++ t169).size ≤ 9223372036854775807 then (prop_lay.l0 kj11 a0 l1 (x8_2 ++ ((strOfNums y171) ++ t169)) l1 (l1.length : Int) (wrap64 (x31_2 + 1))) else (none)) else (none)) = some (r1, r2) := by first | (rw [hy171]; with_reducible exact H) | (have H2_ := (Option.bind_some _ _).symm.trans H; rw [hy171]; with_reducible exact H2_) | (have H2_ := (Option.bind_some _ _).symm.trans H; with_reducible exact H2_) | with_reducible exact H | (rw [hy171]; exact H) | exact H
              have Ny171 := Aside0.mk hy171; clear hy171; by_cases c28 : (strOfNums y171).size + t169.size ≤ 9223372036854775807
              ·
               rw [if_pos c28] at H; have c28b0 := eq_true c28; have c28b1 : decide ((strOfNums y171).size + t169.size ≤ 9223372036854775807) = true := decide_eq_true c28; try have c28b2 : (9223372036854775807 < (strOfNums y171).size + t169.size) = False := eq_false (Nat.not_lt.2 c28)
               by_cases c29 : x8_2.size + ((strOfNums y171) ++ t169).size ≤ 9223372036854775807
               ·
                rw [if_pos c29] at H; have c29b0 := eq_true c29; have c29b1 : decide (x8_2.size + ((strOfNums y171) ++ t169).size ≤ 9223372036854775807) = true := decide_eq_true c29; try have c29b2 : (9223372036854775807 < x8_2.size + ((strOfNums y171) ++ t169).size) = False := eq_false (Nat.not_lt.2 c29)
                (try (have c29b2_ := c29b2; simp only [ByteArray.size_append] at c29b2_))
                have H' := Aside0.mk H; clear H; have hcz30_0 : wc.cell? ⟨gb159, 0, none⟩ = some (.int .i64 ((rd_T42 l1 x31_2).f0)) := (blk_cell BK159.out 0).trans rfl; have hcz30_1 : wc.cell? ⟨gb159, 1, none⟩ = some (.int .i64 ((rd_T42 l1 x31_2).f1)) := (blk_cell BK159.out 1).trans rfl; have hcz30_2 : wc.cell? ⟨gb159, 2, none⟩ = some (.string ((rd_T42 l1 x31_2).f2)) := (blk_cell BK159.out 2).trans rfl; have hcz30_3 : wc.cell? ⟨gb159, 3, none⟩ = some (.string ((rd_T42 l1 x31_2).f3)) := (blk_cell BK159.out 3).trans rfl; have hfz30_0 := blk_frozen BK159.out 0; have hfz30_1 := blk_frozen BK159.out 1; have hfz30_2 := blk_frozen BK159.out 2; have hfz30_3 := blk_frozen BK159.out 3; go_wp2_with (first | ((with_reducible refine gate_callee (f := 11) rfl ?_); refine goesL_ (some 55) rfl rfl Tryd.func11 zz49 rfl #[.int .i64 ((rd_T42 l1 x31_2).f0)] rfl zz20 ?_; (with_reducible refine (prop_Kind.calls kj11 ((rd_T42 l1 x31_2).f0) t167 t168 _ A25.out).mono ?_); rintro e w' ⟨rfl, ⟨nd, rfl⟩⟩; refine ⟨_, rfl, ?_⟩) | ((with_reducible refine gate_callee (f := 42) rfl ?_); refine goesL_ (some 61) rfl rfl Tryd.func42 zz49 rfl #[.int .i64 t167, anyW t160] rfl zz20 ?_; (with_reducible refine (prop_laid.calls kj11 t167 t160 t169 t170 _ zz6 A26.out).mono ?_); rintro e w31 ⟨rfl, hb⟩; refine ⟨_, rfl, ?_⟩; have n0_ := Aside0.mk (blk_below (g := gb159) (o := .cells #[.int .i64 ((rd_T42 l1 x31_2).f0), .int .i64 ((rd_T42 l1 x31_2).f1), .string ((rd_T42 l1 x31_2).f2), .string ((rd_T42 l1 x31_2).f3)] 42 (0, 0)) zz25 hb); have n1_ := Aside0.mk (below_step zz11 hb); clear BK159; clear HB; have BK159 := n0_; have HB := n1_; clear n0_ n1_; (try clear hb); (try clear hb2); (try clear hk); (try clear hi); have hcz32_0 : w31.cell? ⟨gb159, 0, none⟩ = some (.int .i64 ((rd_T42 l1 x31_2).f0)) := (blk_cell BK159.out 0).trans rfl; have hcz32_1 : w31.cell? ⟨gb159, 1, none⟩ = some (.int .i64 ((rd_T42 l1 x31_2).f1)) := (blk_cell BK159.out 1).trans rfl; have hcz32_2 : w31.cell? ⟨gb159, 2, none⟩ = some (.string ((rd_T42 l1 x31_2).f2)) := (blk_cell BK159.out 2).trans rfl; have hcz32_3 : w31.cell? ⟨gb159, 3, none⟩ = some (.string ((rd_T42 l1 x31_2).f3)) := (blk_cell BK159.out 3).trans rfl; have hfz32_0 := blk_frozen BK159.out 0; have hfz32_1 := blk_frozen BK159.out 1; have hfz32_2 := blk_frozen BK159.out 2; have hfz32_3 := blk_frozen BK159.out 3) | ((with_reducible refine gate_dst (N := 70) rfl ?_); (try (refine gate_guard (by rfl) ?_; dsimp only)); refine Kd.R_lit (Kd.int .u8) _ 5 ?hg (N := 70) ?hd (xs := ([(((rd_T42 l1 x31_2).f0)) % 256] : List Int)) (inner := [.int .u8 ((((rd_T42 l1 x31_2).f0)) % 256)]) (ok := fun _ => True) (okp := fun _ => True) ?hr ?hp (fun _ hk => hk) trivial (Below.refl _ _) (Nat.le_refl _) (by simp) ?_; (case hd => rfl); (case hg => rfl); (case hr => first | (go_simp; done) | (go_simp; rfl)); (case hp => exact (Reps.one (show Kd.M (Kd.int .u8) _ _ _ ((((rd_T42 l1 x31_2).f0)) % 256) [.int .u8 ((((rd_T42 l1 x31_2).f0)) % 256)] from rfl) (Reps.none _ _))); intro v172 w33 ho34 hb hg_ hnew_; clear hg_ hnew_; (first | rw [← Ny171.out] at ho34 | (simp only [Int.reduceToNat] at ho34; rw [← Ny171.out] at ho34)); have n0_ := Aside0.mk (Kd.R_lower ho34 (below_size zz11)); have n1_ := Aside0.mk (blk_below (g := gb159) (o := .cells #[.int .i64 ((rd_T42 l1 x31_2).f0), .int .i64 ((rd_T42 l1 x31_2).f1), .string ((rd_T42 l1 x31_2).f2), .string ((rd_T42 l1 x31_2).f3)] 42 (0, 0)) zz25 hb); have n2_ := Aside0.mk (below_step zz11 hb); clear BK159; clear HB; have HO173 := n0_; have BK159 := n1_; have HB := n2_; clear n0_ n1_ n2_; clear hb ho34; have hcv35 := own_string (P := Tryd.prog) Tryd.underlying58 Tryd.underlying5 Tryd.underlying9 (Kd.own_of_R HO173.out)))
                go_roundg kj11
                case measure => have := HJ3.out; have := HK2.out; have := HJ11.out; omega
                case rel => exact ⟨(x8_2 ++ ((strOfNums y171) ++ t169)), (wrap64 (x31_2 + 1)), zz47, zz47, H', ⟨by have := HJ3.out; have := HK2.out; have := HJ11.out; omega⟩, ⟨zz11⟩⟩
               rw [if_neg c29] at H; exact absurd H (by simp)
              rw [if_neg c28] at H; exact absurd H (by simp)
             rw [if_neg c27] at H; have c27b0 : (t170 == 0) = false := beq_eq_false_iff_ne.mpr c27; have c27b1 : (t170 != 0) = true := bne_iff_ne.mpr c27; simp only [Option.some.injEq, Prod.mk.injEq] at H; obtain ⟨rfl, rfl⟩ := H; have hcz36_0 : wc.cell? ⟨gb159, 0, none⟩ = some (.int .i64 ((rd_T42 l1 x31_2).f0)) := (blk_cell BK159.out 0).trans rfl; have hcz36_1 : wc.cell? ⟨gb159, 1, none⟩ = some (.int .i64 ((rd_T42 l1 x31_2).f1)) := (blk_cell BK159.out 1).trans rfl; have hcz36_2 : wc.cell? ⟨gb159, 2, none⟩ = some (.string ((rd_T42 l1 x31_2).f2)) := (blk_cell BK159.out 2).trans rfl; have hcz36_3 : wc.cell? ⟨gb159, 3, none⟩ = some (.string ((rd_T42 l1 x31_2).f3)) := (blk_cell BK159.out 3).trans rfl; have hfz36_0 := blk_frozen BK159.out 0; have hfz36_1 := blk_frozen BK159.out 1; have hfz36_2 := blk_frozen BK159.out 2; have hfz36_3 := blk_frozen BK159.out 3; go_wp2_with (first | ((with_reducible refine gate_callee (f := 11) rfl ?_); refine goesL_ (some 55) rfl rfl Tryd.func11 zz49 rfl #[.int .i64 ((rd_T42 l1 x31_2).f0)] rfl zz20 ?_; (with_reducible refine (prop_Kind.calls kj11 ((rd_T42 l1 x31_2).f0) t167 t168 _ A25.out).mono ?_); rintro e w' ⟨rfl, ⟨nd, rfl⟩⟩; refine ⟨_, rfl, ?_⟩) | ((with_reducible refine gate_callee (f := 42) rfl ?_); refine goesL_ (some 61) rfl rfl Tryd.func42 zz49 rfl #[.int .i64 t167, anyW t160] rfl zz20 ?_; (with_reducible refine (prop_laid.calls kj11 t167 t160 t169 t170 _ zz6 A26.out).mono ?_); rintro e w37 ⟨rfl, hb⟩; refine ⟨_, rfl, ?_⟩; have n0_ := Aside0.mk (blk_below (g := gb159) (o := .cells #[.int .i64 ((rd_T42 l1 x31_2).f0), .int .i64 ((rd_T42 l1 x31_2).f1), .string ((rd_T42 l1 x31_2).f2), .string ((rd_T42 l1 x31_2).f3)] 42 (0, 0)) zz25 hb); have n1_ := Aside0.mk (below_step zz11 hb); clear BK159; clear HB; have BK159 := n0_; have HB := n1_; clear n0_ n1_; (try clear hb); (try clear hb2); (try clear hk); (try clear hi)))
             go_ret2
             exact ⟨zz40, zz11⟩
         rw [if_neg c10] at H; exact absurd H (by simp)
        rw [if_neg c9] at H; exact absurd H (by simp)
       rw [if_neg c8] at H; have c8b0 : decide (x31_2 < (l1.length : Int)) = false := decide_eq_false c8; clear c8; simp only [Option.some.injEq, Prod.mk.injEq] at H; obtain ⟨rfl, rfl⟩ := H; go_wp2
       go_ret2
       exact ⟨zz40, zz21⟩
def prop_Bytes.f (k : Nat) (a0 : Int) (l1 : List (S42)) : Option (ByteArray × Int) := (prop_lay.f k a0 l1).bind fun bt174 => (if bt174.2 = true then ((vbi_Num.f k (bt174.1.size : Int)).bind fun bt176 => (if bt176.1.size + bt174.1.size ≤ 9223372036854775807 then (some (bt176.1 ++ bt174.1, 0)) else (none))) else (some ((⟨#[]⟩ : ByteArray), 1)))
theorem prop_Bytes.mono : ∀ a0 a1 k, LeO (prop_Bytes.f k a0 a1) (prop_Bytes.f (k + 1) a0 a1) := by
 intro a0 a1 k
 unfold prop_Bytes.f; repeat' first
   | (with_reducible exact prop_lay.mono _ _ _)
   | (with_reducible exact vbi_Num.mono _ _)
   | (with_reducible exact LeO.refl _)
   | (with_reducible exact LeO.none _)
   | (with_reducible refine LeO.ite ?_ ?_)
   | (with_reducible refine LeO.bind ?_ (fun _ => ?_))
   | exact prop_lay.mono _ _ _
   | exact vbi_Num.mono _ _
   | exact LeO.none _
   | refine LeO.ite ?_ ?_
   | refine LeO.bind ?_ (fun _ => ?_)
set_option maxHeartbeats 8000000 in
set_option maxRecDepth 100000 in
theorem prop_Bytes.calls (k : Nat) (a0 : Int) (A1 : Option Addr) (c1 : Nat) (l1 : List (S42)) (r1 : ByteArray) (r2 : Int) (w : World) (hr1 : Kd.C k42 w A1 l1.length l1) (hc1 : l1.length ≤ c1) (HLAID : Laid w) (h : prop_Bytes.f k a0 l1 = some (r1, r2)) :
  Calls Tryd.prog 17 #[.int .i64 a0, .slice A1 l1.length c1] w fun e w' => e = .returned (.tuple #[.string r1, .int .i64 r2]) ∧ Below w.heap.size w w' := by
 have HR1 := Aside0.mk hr1; have HC1 := Aside0.mk hc1; clear hr1 hc1; have HB := Aside0.mk (Below.refl w.heap.size w); have H : ((prop_lay.f k a0 l1).bind fun bt174 => (if bt174.2 = true then ((vbi_Num.f k (bt174.1.size : Int)).bind fun bt176 => (if bt176.1.size + bt174.1.size ≤ 9223372036854775807 then (some (bt176.1 ++ bt174.1, 0)) else (none))) else (some ((⟨#[]⟩ : ByteArray), 1)))) = some (r1, r2) := h; clear h; replace H := Option.bind_eq_some_iff.mp H; obtain ⟨⟨t174, t175⟩, A30, H⟩ := H; replace H : (if t175 = true then ((vbi_Num.f k (t174.size : Int)).bind fun bt176 => (if bt176.1.size + t174.size ≤ 9223372036854775807 then (some (bt176.1 ++ t174, 0)) else (none))) else (some ((⟨#[]⟩ : ByteArray), 1))) = some (r1, r2) := H; have A3 := Aside0.mk A30; clear A30; by_cases c4 : t175 = true
 ·
  subst c4; have H1 : ((vbi_Num.f k (t174.size : Int)).bind fun bt176 => (if bt176.1.size + t174.size ≤ 9223372036854775807 then (some (bt176.1 ++ t174, 0)) else (none))) = some (r1, r2) := by rw [if_pos rfl] at H; exact H
  clear H; have H := H1; clear H1; replace H := Option.bind_eq_some_iff.mp H; obtain ⟨⟨t176, t177⟩, A50, H⟩ := H; replace H : (if t176.size + t174.size ≤ 9223372036854775807 then (some (t176 ++ t174, 0)) else (none)) = some (r1, r2) := H; have A5 := Aside0.mk A50; clear A50; by_cases c6 : t176.size + t174.size ≤ 9223372036854775807
  ·
   rw [if_pos c6] at H; have c6b0 := eq_true c6; have c6b1 : decide (t176.size + t174.size ≤ 9223372036854775807) = true := decide_eq_true c6; try have c6b2 : (9223372036854775807 < t176.size + t174.size) = False := eq_false (Nat.not_lt.2 c6)
   simp only [Option.some.injEq, Prod.mk.injEq] at H; obtain ⟨rfl, rfl⟩ := H; go_enter Tryd.func17, Tryd.ntmps17
   go_wp2_with (first | ((with_reducible refine gate_callee (f := 28) rfl ?_); refine goesL_ (some 13) rfl rfl Tryd.func28 zz49 rfl #[.int .i64 a0, .slice A1 l1.length c1] rfl zz20 ?_; (with_reducible refine (prop_lay.calls k a0 _ _ l1 t174 true _ ?side1 ?side2 zz6 A3.out).mono ?_); (case side1 => repeat (first | exact HR1.out | (with_reducible refine Kd.C_alloc ?_ _) | (with_reducible refine Kd.C_drewN ?_ _) | (with_reducible refine Kd.C_drew ?_))); (case side2 => exact HC1.out); rintro e w7 ⟨rfl, hb⟩; refine ⟨_, rfl, ?_⟩; have n0_ := Aside0.mk (below_step zz21 hb); clear HB; have HB := n0_; clear n0_; (try clear hb); (try clear hb2); (try clear hk); (try clear hi)) | ((with_reducible refine gate_callee (f := 29) rfl ?_); refine goesL_ (some 21) rfl rfl Tryd.func29 zz49 rfl #[.int .i64 (t174.size : Int)] rfl zz20 ?_; (with_reducible refine (vbi_Num.calls k (t174.size : Int) t176 t177 _ A5.out).mono ?_); rintro e w8 ⟨rfl, hb⟩; refine ⟨_, rfl, ?_⟩; have n0_ := Aside0.mk (below_step zz21 hb); clear HB; have HB := n0_; clear n0_; (try clear hb); (try clear hb2); (try clear hk); (try clear hi)))
   go_ret2
   exact ⟨zz40, zz21⟩
  rw [if_neg c6] at H; exact absurd H (by simp)
 replace c4 := Bool.eq_false_iff.mpr c4; subst c4; have H1 : (some ((⟨#[]⟩ : ByteArray), 1)) = some (r1, r2) := by rw [if_neg (show ¬ (false = true) by decide)] at H; exact H
 clear H; have H := H1; clear H1; simp only [Option.some.injEq, Prod.mk.injEq] at H; obtain ⟨rfl, rfl⟩ := H; go_enter Tryd.func17, Tryd.ntmps17
 go_wp2_with (first | ((with_reducible refine gate_callee (f := 28) rfl ?_); refine goesL_ (some 13) rfl rfl Tryd.func28 zz49 rfl #[.int .i64 a0, .slice A1 l1.length c1] rfl zz20 ?_; (with_reducible refine (prop_lay.calls k a0 _ _ l1 t174 false _ ?side1 ?side2 zz6 A3.out).mono ?_); (case side1 => repeat (first | exact HR1.out | (with_reducible refine Kd.C_alloc ?_ _) | (with_reducible refine Kd.C_drewN ?_ _) | (with_reducible refine Kd.C_drew ?_))); (case side2 => exact HC1.out); rintro e w9 ⟨rfl, hb⟩; refine ⟨_, rfl, ?_⟩; have n0_ := Aside0.mk (below_step zz21 hb); clear HB; have HB := n0_; clear n0_; (try clear hb); (try clear hb2); (try clear hk); (try clear hi)))
 go_ret2
 exact ⟨zz40, zz21⟩
def fairwaylaw4_wakes.f (k : Nat)  : Option (Bool) := (prop_Bytes.f k 0 ([] : List (S42))).bind fun bt178 => ((prop_Kind.f k 38).bind fun bt180 => ((fairwaylaw4_num.f bt178.2).bind fun t182 => (if t182 = 0 then (if bt178.1.toList = ([0] : List UInt8) then ((fairwaylaw4_num.f bt180.2).bind fun t183 => (if t183 = 0 then (some (bt180.1 == 7)) else (some false))) else (some false)) else (some false))))
theorem fairwaylaw4_wakes.mono : ∀ k, LeO (fairwaylaw4_wakes.f k ) (fairwaylaw4_wakes.f (k + 1) ) := by
 intro  k
 unfold fairwaylaw4_wakes.f; repeat' first
   | (with_reducible exact prop_Bytes.mono _ _ _)
   | (with_reducible exact prop_Kind.mono _ _)
   | (with_reducible exact LeO.refl _)
   | (with_reducible exact LeO.none _)
   | (with_reducible refine LeO.ite ?_ ?_)
   | (with_reducible refine LeO.bind ?_ (fun _ => ?_))
   | exact prop_Bytes.mono _ _ _
   | exact prop_Kind.mono _ _
   | exact LeO.none _
   | refine LeO.ite ?_ ?_
   | refine LeO.bind ?_ (fun _ => ?_)
set_option maxHeartbeats 8000000 in
set_option maxRecDepth 100000 in
theorem fairwaylaw4_wakes.calls (k : Nat)  (r : Bool) (w : World) (HLAID : Laid w) (h : fairwaylaw4_wakes.f k  = some r) :
  Calls Tryd.prog 14 #[] w fun e w' => e = .returned (.bool r) ∧ Below w.heap.size w w' := by
 have HB := Aside0.mk (Below.refl w.heap.size w); have H : ((prop_Bytes.f k 0 ([] : List (S42))).bind fun bt178 => ((prop_Kind.f k 38).bind fun bt180 => ((fairwaylaw4_num.f bt178.2).bind fun t182 => (if t182 = 0 then (if bt178.1.toList = ([0] : List UInt8) then ((fairwaylaw4_num.f bt180.2).bind fun t183 => (if t183 = 0 then (some (bt180.1 == 7)) else (some false))) else (some false)) else (some false))))) = some r := h; clear h; replace H := Option.bind_eq_some_iff.mp H; obtain ⟨⟨t178, t179⟩, A10, H⟩ := H; replace H : ((prop_Kind.f k 38).bind fun bt180 => ((fairwaylaw4_num.f t179).bind fun t182 => (if t182 = 0 then (if t178.toList = ([0] : List UInt8) then ((fairwaylaw4_num.f bt180.2).bind fun t183 => (if t183 = 0 then (some (bt180.1 == 7)) else (some false))) else (some false)) else (some false)))) = some r := H; have A1 := Aside0.mk A10; clear A10; replace H := Option.bind_eq_some_iff.mp H; obtain ⟨⟨t180, t181⟩, A20, H⟩ := H; replace H : ((fairwaylaw4_num.f t179).bind fun t182 => (if t182 = 0 then (if t178.toList = ([0] : List UInt8) then ((fairwaylaw4_num.f t181).bind fun t183 => (if t183 = 0 then (some (t180 == 7)) else (some false))) else (some false)) else (some false))) = some r := H; have A2 := Aside0.mk A20; clear A20; replace H := Option.bind_eq_some_iff.mp H; obtain ⟨t182, A30, H⟩ := H; replace H : (if t182 = 0 then (if t178.toList = ([0] : List UInt8) then ((fairwaylaw4_num.f t181).bind fun t183 => (if t183 = 0 then (some (t180 == 7)) else (some false))) else (some false)) else (some false)) = some r := H; have A3 := Aside0.mk A30; clear A30; by_cases c4 : t182 = 0
 ·
  rw [if_pos c4] at H; have c4b0 : (t182 == 0) = true := beq_iff_eq.mpr c4; have c4b1 : (t182 != 0) = false := bne_eq_false_iff_eq.mpr c4; clear c4; by_cases c5 : t178.toList = ([0] : List UInt8)
  ·
   rw [if_pos c5] at H; have c5b0 : (t178.toList == ([0] : List UInt8)) = true := beq_iff_eq.mpr c5; have c5b1 : (t178.toList != ([0] : List UInt8)) = false := bne_eq_false_iff_eq.mpr c5; clear c5; replace H := Option.bind_eq_some_iff.mp H; obtain ⟨t183, A60, H⟩ := H; replace H : (if t183 = 0 then (some (t180 == 7)) else (some false)) = some r := H; have A6 := Aside0.mk A60; clear A60; by_cases c7 : t183 = 0
   ·
    rw [if_pos c7] at H; have c7b0 : (t183 == 0) = true := beq_iff_eq.mpr c7; have c7b1 : (t183 != 0) = false := bne_eq_false_iff_eq.mpr c7; clear c7; obtain rfl := Option.some.inj H; go_enter Tryd.func14, Tryd.ntmps14
    go_wp2_with (first | ((with_reducible refine gate_callee (f := 17) rfl ?_); refine goesL_ (some 6) rfl rfl Tryd.func17 zz49 rfl #[.int .i64 0, .slice none 0 0] rfl zz20 ?_; (refine (prop_Bytes.calls k 0 _ _ ([] : List (S42)) t178 t179 _ ?side1 ?side2 zz6 A1.out).mono ?_); (case side1 => exact Kd.C_nil _ _); (case side2 => exact Nat.le_refl _); rintro e w8 ⟨rfl, hb⟩; refine ⟨_, rfl, ?_⟩; have n0_ := Aside0.mk (below_step zz21 hb); clear HB; have HB := n0_; clear n0_; (try clear hb); (try clear hb2); (try clear hk); (try clear hi)) | ((with_reducible refine gate_callee (f := 11) rfl ?_); refine goesL_ (some 10) rfl rfl Tryd.func11 zz49 rfl #[.int .i64 38] rfl zz20 ?_; (with_reducible refine (prop_Kind.calls k 38 t180 t181 _ A2.out).mono ?_); rintro e w' ⟨rfl, ⟨nd, rfl⟩⟩; refine ⟨_, rfl, ?_⟩) | ((with_reducible refine gate_callee (f := 13) rfl ?_); refine goesL_ (some 14) rfl rfl Tryd.func13 zz49 rfl #[.int .i64 t179] rfl zz20 ?_; (with_reducible refine (fairwaylaw4_num.calls t179 t182 _ A3.out).mono ?_); rintro e w' ⟨rfl, ⟨nd, rfl⟩⟩; refine ⟨_, rfl, ?_⟩) | (go_at_call 13; (with_reducible refine (fairwaylaw4_num.calls t181 t183 _ A6.out).mono ?_); rintro e w' ⟨rfl, ⟨nd, rfl⟩⟩))
    go_ret
    exact ⟨zz40, zz21⟩
   rw [if_neg c7] at H; have c7b0 : (t183 == 0) = false := beq_eq_false_iff_ne.mpr c7; have c7b1 : (t183 != 0) = true := bne_iff_ne.mpr c7; obtain rfl := Option.some.inj H; go_enter Tryd.func14, Tryd.ntmps14
   go_wp2_with (first | ((with_reducible refine gate_callee (f := 17) rfl ?_); refine goesL_ (some 6) rfl rfl Tryd.func17 zz49 rfl #[.int .i64 0, .slice none 0 0] rfl zz20 ?_; (refine (prop_Bytes.calls k 0 _ _ ([] : List (S42)) t178 t179 _ ?side1 ?side2 zz6 A1.out).mono ?_); (case side1 => exact Kd.C_nil _ _); (case side2 => exact Nat.le_refl _); rintro e w9 ⟨rfl, hb⟩; refine ⟨_, rfl, ?_⟩; have n0_ := Aside0.mk (below_step zz21 hb); clear HB; have HB := n0_; clear n0_; (try clear hb); (try clear hb2); (try clear hk); (try clear hi)) | ((with_reducible refine gate_callee (f := 11) rfl ?_); refine goesL_ (some 10) rfl rfl Tryd.func11 zz49 rfl #[.int .i64 38] rfl zz20 ?_; (with_reducible refine (prop_Kind.calls k 38 t180 t181 _ A2.out).mono ?_); rintro e w' ⟨rfl, ⟨nd, rfl⟩⟩; refine ⟨_, rfl, ?_⟩) | ((with_reducible refine gate_callee (f := 13) rfl ?_); refine goesL_ (some 14) rfl rfl Tryd.func13 zz49 rfl #[.int .i64 t179] rfl zz20 ?_; (with_reducible refine (fairwaylaw4_num.calls t179 t182 _ A3.out).mono ?_); rintro e w' ⟨rfl, ⟨nd, rfl⟩⟩; refine ⟨_, rfl, ?_⟩) | (go_at_call 13; (with_reducible refine (fairwaylaw4_num.calls t181 t183 _ A6.out).mono ?_); rintro e w' ⟨rfl, ⟨nd, rfl⟩⟩))
   go_ret
   exact ⟨zz40, zz21⟩
  rw [if_neg c5] at H; have c5b0 : (t178.toList == ([0] : List UInt8)) = false := beq_eq_false_iff_ne.mpr c5; have c5b1 : (t178.toList != ([0] : List UInt8)) = true := bne_iff_ne.mpr c5; obtain rfl := Option.some.inj H; go_enter Tryd.func14, Tryd.ntmps14
  go_wp2_with (first | ((with_reducible refine gate_callee (f := 17) rfl ?_); refine goesL_ (some 6) rfl rfl Tryd.func17 zz49 rfl #[.int .i64 0, .slice none 0 0] rfl zz20 ?_; (refine (prop_Bytes.calls k 0 _ _ ([] : List (S42)) t178 t179 _ ?side1 ?side2 zz6 A1.out).mono ?_); (case side1 => exact Kd.C_nil _ _); (case side2 => exact Nat.le_refl _); rintro e w10 ⟨rfl, hb⟩; refine ⟨_, rfl, ?_⟩; have n0_ := Aside0.mk (below_step zz21 hb); clear HB; have HB := n0_; clear n0_; (try clear hb); (try clear hb2); (try clear hk); (try clear hi)) | ((with_reducible refine gate_callee (f := 11) rfl ?_); refine goesL_ (some 10) rfl rfl Tryd.func11 zz49 rfl #[.int .i64 38] rfl zz20 ?_; (with_reducible refine (prop_Kind.calls k 38 t180 t181 _ A2.out).mono ?_); rintro e w' ⟨rfl, ⟨nd, rfl⟩⟩; refine ⟨_, rfl, ?_⟩) | ((with_reducible refine gate_callee (f := 13) rfl ?_); refine goesL_ (some 14) rfl rfl Tryd.func13 zz49 rfl #[.int .i64 t179] rfl zz20 ?_; (with_reducible refine (fairwaylaw4_num.calls t179 t182 _ A3.out).mono ?_); rintro e w' ⟨rfl, ⟨nd, rfl⟩⟩; refine ⟨_, rfl, ?_⟩))
  go_ret
  exact ⟨zz40, zz21⟩
 rw [if_neg c4] at H; have c4b0 : (t182 == 0) = false := beq_eq_false_iff_ne.mpr c4; have c4b1 : (t182 != 0) = true := bne_iff_ne.mpr c4; obtain rfl := Option.some.inj H; go_enter Tryd.func14, Tryd.ntmps14
 go_wp2_with (first | ((with_reducible refine gate_callee (f := 17) rfl ?_); refine goesL_ (some 6) rfl rfl Tryd.func17 zz49 rfl #[.int .i64 0, .slice none 0 0] rfl zz20 ?_; (refine (prop_Bytes.calls k 0 _ _ ([] : List (S42)) t178 t179 _ ?side1 ?side2 zz6 A1.out).mono ?_); (case side1 => exact Kd.C_nil _ _); (case side2 => exact Nat.le_refl _); rintro e w11 ⟨rfl, hb⟩; refine ⟨_, rfl, ?_⟩; have n0_ := Aside0.mk (below_step zz21 hb); clear HB; have HB := n0_; clear n0_; (try clear hb); (try clear hb2); (try clear hk); (try clear hi)) | ((with_reducible refine gate_callee (f := 11) rfl ?_); refine goesL_ (some 10) rfl rfl Tryd.func11 zz49 rfl #[.int .i64 38] rfl zz20 ?_; (with_reducible refine (prop_Kind.calls k 38 t180 t181 _ A2.out).mono ?_); rintro e w' ⟨rfl, ⟨nd, rfl⟩⟩; refine ⟨_, rfl, ?_⟩) | ((with_reducible refine gate_callee (f := 13) rfl ?_); refine goesL_ (some 14) rfl rfl Tryd.func13 zz49 rfl #[.int .i64 t179] rfl zz20 ?_; (with_reducible refine (fairwaylaw4_num.calls t179 t182 _ A3.out).mono ?_); rintro e w' ⟨rfl, ⟨nd, rfl⟩⟩; refine ⟨_, rfl, ?_⟩))
 go_ret
 exact ⟨zz40, zz21⟩
end Go.Proofs.YtiancopplinpcaaDoor.P
end
section
namespace Go.Proofs.YtiancopplinpcaaDoor.P
open Go.RowKit Go.Proofs.YtiancopplinpcaaDoorW.PrintWords Go.Proofs.YtiancopplinpcaaDoorW.PrintLast Go.Proofs.YtiancopplinpcaaDoorW.PrintMore
attribute [local go_sem] max2_int min2_int max_two min_two max_three min_three max_four min_four
set_option linter.unusedVariables false
set_option linter.unusedSimpArgs false
mutual
def fairwaylaw4_PropKinds.l0 : Nat → List (S25) → Int → Option (Bool)
  | 0, _, _ => none
  | k + 1, x0, x3 => if x3 < 260 then (if x3 ≥ 250 then (fairwaylaw4_PropKinds.j1 k x0 x3 x3 (decide ((wrap64 (x3 - 250)) < (x0.length : Int)))) else (fairwaylaw4_PropKinds.j1 k x0 x3 x3 false)) else ((fairwaylaw4_wakes.f k).bind fun t184 => (some t184))
def fairwaylaw4_PropKinds.j1 : Nat → List (S25) → Int → Int → Bool → Option (Bool)
  | 0, _, _, _, _ => none
  | k + 1, x0, x3, x4, x21 => if x21 = true then (if 0 ≤ (wrap64 (x3 - 250)) then (if (wrap64 (x3 - 250)) < (x0.length : Int) then (fairwaylaw4_PropKinds.j2 k x0 x3 ((rd_T25 x0 (wrap64 (x3 - 250))).f0)) else (none)) else (none)) else (fairwaylaw4_PropKinds.j2 k x0 x3 x4)
def fairwaylaw4_PropKinds.j2 : Nat → List (S25) → Int → Int → Option (Bool)
  | 0, _, _, _ => none
  | k + 1, x0, x3, x4 => (prop_Kind.f k x4).bind fun bt186 => ((fairwayref4_Kind.f k x4).bind fun t188 => (if bt186.1 = t188 then ((fairwaylaw4_num.f bt186.2).bind fun t189 => (if ((t189 == 0) != (decide (t188 > 0))) = true then (some false) else (if t188 = 0 then ((fairwaylaw4_num.f bt186.2).bind fun t190 => (if t190 = 3 then (fairwaylaw4_PropKinds.l0 k x0 (wrap64 (x3 + 1))) else (some false))) else (fairwaylaw4_PropKinds.l0 k x0 (wrap64 (x3 + 1)))))) else (some false)))
end
def fairwaylaw4_PropKinds.f (k : Nat) (l0 : List (S25)) : Option (Bool) := fairwaylaw4_PropKinds.l0 k l0 (-3)
def fairwaylaw0_PropsWeight.l0 : Nat → List (S42) → Int → Int → Option (Int)
  | 0, _, _, _ => none
  | k + 1, x0, x3, x4 => if x4 < (x0.length : Int) then (if x3 < 1048576 then (if 0 ≤ x4 then (fairwaylaw0_PropsWeight.l0 k x0 (wrap64 ((wrap64 (x3 + (((rd_T42 x0 x4).f2).size : Int))) + (((rd_T42 x0 x4).f3).size : Int))) (wrap64 (x4 + 1))) else (none)) else (some x3)) else (some x3)
def fairwaylaw0_PropsWeight.f (k : Nat) (l0 : List (S42)) : Option (Int) := fairwaylaw0_PropsWeight.l0 k l0 (l0.length : Int) 0
theorem fairwaylaw0_PropsWeight.mono_l : ∀ k, (∀ y0 y1 y2, LeO (fairwaylaw0_PropsWeight.l0 k y0 y1 y2) (fairwaylaw0_PropsWeight.l0 (k + 1) y0 y1 y2))
 | 0 => fun _ _ _ r h => by simp [fairwaylaw0_PropsWeight.l0] at h
 | k + 1 => by
  have ih0 := fairwaylaw0_PropsWeight.mono_l k
  ·
   intro y0 y1 y2
   unfold fairwaylaw0_PropsWeight.l0; repeat' first
   | (with_reducible exact ih0 _ _ _)
   | (with_reducible exact LeO.refl _)
   | (with_reducible exact LeO.none _)
   | (with_reducible refine LeO.ite ?_ ?_)
   | (with_reducible refine LeO.bind ?_ (fun _ => ?_))
   | exact ih0 _ _ _
   | exact LeO.none _
   | refine LeO.ite ?_ ?_
   | refine LeO.bind ?_ (fun _ => ?_)
theorem fairwaylaw0_PropsWeight.mono : ∀ a0 k, LeO (fairwaylaw0_PropsWeight.f k a0) (fairwaylaw0_PropsWeight.f (k + 1) a0) := by
 intro a0 k
 have ih0 := fairwaylaw0_PropsWeight.mono_l k; unfold fairwaylaw0_PropsWeight.f; repeat' first
   | (with_reducible exact ih0 _ _ _)
   | (with_reducible exact LeO.refl _)
   | (with_reducible exact LeO.none _)
   | (with_reducible refine LeO.ite ?_ ?_)
   | (with_reducible refine LeO.bind ?_ (fun _ => ?_))
   | exact ih0 _ _ _
   | exact LeO.none _
   | refine LeO.ite ?_ ?_
   | refine LeO.bind ?_ (fun _ => ?_)
set_option maxHeartbeats 8000000 in
set_option maxRecDepth 100000 in
theorem fairwaylaw0_PropsWeight.calls (k : Nat) (A0 : Option Addr) (c0 : Nat) (l0 : List (S42)) (r : Int) (w : World) (hr0 : Kd.C k42 w A0 l0.length l0) (hc0 : l0.length ≤ c0) (h : fairwaylaw0_PropsWeight.f k l0 = some r) :
  Calls Tryd.prog 27 #[.slice A0 l0.length c0] w fun e w' => e = .returned (.int .i64 r) ∧ Drawn0 w w' := by
 have HR0 := Aside0.mk hr0; have HC0 := Aside0.mk hc0; clear hr0 hc0; have H : (fairwaylaw0_PropsWeight.l0 k l0 (l0.length : Int) 0) = some r := h; clear h; have H' := Aside0.mk H; clear H; go_enter Tryd.func27, Tryd.ntmps27
 go_wp2
 repeat (go_quiet (fail); try go_wp2)
 go_loopg [3, 4] k (fun kq v3 v4 w' => ∃ (x3_1 : Int) (x4_1 : Int), v3 = .int .i64 x3_1 ∧ v4 = .int .i64 x4_1 ∧ Aside0 (fairwaylaw0_PropsWeight.l0 kq l0 x3_1 x4_1 = some r) ∧ Aside0 (kq ≤ k) ∧ Drawn0 w w')
 case atStart => exact ⟨((l0.length : Int)), (0), zz47, zz47, H', ⟨Nat.le_refl _⟩, zz43⟩
 case round =>
  clear H'; obtain ⟨x3_1, x4_1, rfl, rfl, HA, HK1, ⟨m1, rfl⟩⟩ := hrel; cases gk with
  | zero => exact absurd HA.out (by simp [fairwaylaw0_PropsWeight.l0])
  | succ k1 =>
   have H := HA.out; clear HA; simp only [fairwaylaw0_PropsWeight.l0] at H; by_cases c2 : x4_1 < (l0.length : Int)
   ·
    rw [if_pos c2] at H; have c2b0 : decide (x4_1 < (l0.length : Int)) = true := decide_eq_true c2; clear c2; by_cases c3 : x3_1 < 1048576
    ·
     rw [if_pos c3] at H; have c3b0 : decide (x3_1 < 1048576) = true := decide_eq_true c3; clear c3; by_cases c4 : 0 ≤ x4_1
     ·
      rw [if_pos c4] at H; have c4b0 : decide (0 ≤ x4_1) = true := decide_eq_true c4; clear c4; have H' := Aside0.mk H; clear H; have p191 : 0 ≤ (x4_1 : Int) := of_decide_eq_true zz46; have q191 : x4_1 < (l0.length : Int) := of_decide_eq_true zz46; obtain ⟨ad191, e191, hx191_0, hx191_1, hx191_2, hx191_3⟩ := at_T42 HR0.out x4_1 p191 q191; cases e191; replace p191 := eq_true p191; replace q191 := eq_true q191; have p192 : 0 ≤ (x4_1 : Int) := of_decide_eq_true zz46; have q192 : x4_1 < (l0.length : Int) := of_decide_eq_true zz46; obtain ⟨ad192, e192, hx192_0, hx192_1, hx192_2, hx192_3⟩ := at_T42 HR0.out x4_1 p192 q192; obtain rfl : ad191 = ad192 := (by injection e192); replace p192 := eq_true p192; replace q192 := eq_true q192; go_wp2
      repeat (go_quiet (fail); try go_wp2)
      go_roundg k1
      case measure => have := HK1.out; omega
      case rel => exact ⟨(wrap64 ((wrap64 (x3_1 + (((rd_T42 l0 x4_1).f2).size : Int))) + (((rd_T42 l0 x4_1).f3).size : Int))), (wrap64 (x4_1 + 1)), zz47, zz47, H', ⟨by have := HK1.out; omega⟩, zz43⟩
     rw [if_neg c4] at H; exact absurd H (by simp)
    rw [if_neg c3] at H; have c3b0 : decide (x3_1 < 1048576) = false := decide_eq_false c3; clear c3; obtain rfl := Option.some.inj H; go_wp2
    repeat (go_quiet (fail); try go_wp2)
    go_ret
    exact ⟨zz47, zz43⟩
   rw [if_neg c2] at H; have c2b0 : decide (x4_1 < (l0.length : Int)) = false := decide_eq_false c2; clear c2; obtain rfl := Option.some.inj H; go_wp2
   repeat (go_quiet (fail); try go_wp2)
   go_ret
   exact ⟨zz47, zz43⟩
def fairwaylaw4_heavy.f (k : Nat) (a0_0 : Int) (l0_1 : List (S42)) (a0_2 : ByteArray) : Option (Bool) := (fairwaylaw0_PropsWeight.f k l0_1).bind fun t194 => (if t194 > 10000 then (some true) else (some (decide ((a0_2.size : Int) > 9000))))
theorem fairwaylaw4_heavy.mono : ∀ a0 a1 a2 k, LeO (fairwaylaw4_heavy.f k a0 a1 a2) (fairwaylaw4_heavy.f (k + 1) a0 a1 a2) := by
 intro a0 a1 a2 k
 unfold fairwaylaw4_heavy.f; repeat' first
   | (with_reducible exact fairwaylaw0_PropsWeight.mono _ _)
   | (with_reducible exact LeO.refl _)
   | (with_reducible exact LeO.none _)
   | (with_reducible refine LeO.ite ?_ ?_)
   | (with_reducible refine LeO.bind ?_ (fun _ => ?_))
   | exact fairwaylaw0_PropsWeight.mono _ _
   | exact LeO.none _
   | refine LeO.ite ?_ ?_
   | refine LeO.bind ?_ (fun _ => ?_)
set_option maxHeartbeats 8000000 in
set_option maxRecDepth 100000 in
theorem fairwaylaw4_heavy.calls (k : Nat) (a0_0 : Int) (A0_1 : Option Addr) (c0_1 : Nat) (l0_1 : List (S42)) (a0_2 : ByteArray) (r : Bool) (w : World) (hr0_1 : Kd.C k42 w A0_1 l0_1.length l0_1) (hc0_1 : l0_1.length ≤ c0_1) (h : fairwaylaw4_heavy.f k a0_0 l0_1 a0_2 = some r) :
  Calls Tryd.prog 15 #[.agg #[.int .i64 a0_0, .slice A0_1 l0_1.length c0_1, .string a0_2]] w fun e w' => e = .returned (.bool r) ∧ Below w.heap.size w w' := by
 have hu25 := Tryd.underlying25; have HR0_1 := Aside0.mk hr0_1; have HC0_1 := Aside0.mk hc0_1; clear hr0_1 hc0_1; have HB := Aside0.mk (Below.refl w.heap.size w); have H : ((fairwaylaw0_PropsWeight.f k l0_1).bind fun t194 => (if t194 > 10000 then (some true) else (some (decide ((a0_2.size : Int) > 9000))))) = some r := h; clear h; replace H := Option.bind_eq_some_iff.mp H; obtain ⟨t194, A20, H⟩ := H; replace H : (if t194 > 10000 then (some true) else (some (decide ((a0_2.size : Int) > 9000)))) = some r := H; have A2 := Aside0.mk A20; clear A20; by_cases c3 : t194 > 10000
 ·
  rw [if_pos c3] at H; have c3b0 : decide (10000 < t194) = true := decide_eq_true c3; clear c3; obtain rfl := Option.some.inj H; go_enter Tryd.func15, Tryd.ntmps15
  go_wp2_with (first | ((with_reducible refine gate_dst (N := 1) rfl ?_); (try (refine gate_guard (by rfl) ?_; dsimp only)); refine box_event ?hg (N := 1) ?hd (cs := #[.int .i64 a0_0, .slice A0_1 l0_1.length c0_1, .string a0_2]) (t := 25) ?hr ?_; (case hd => rfl); (case hg => rfl); (case hr => first | (go_simp; done) | (go_simp; rfl)); intro gb193 hg w4 hbox hb; have n0_ := Aside0.mk (below_step zz21 hb); have n1_ := Aside0.mk (hbox); have n2_ := Aside0.mk ((by rw [hg]; exact (below_size zz21) : w.heap.size ≤ gb193)); have n3_ := Aside0.mk ((by rw [hg]; exact (below_size zz21) : w.heap.size ≤ gb193)); clear HB; have HB := n0_; have BK193 := n1_; have GW193 := n2_; have GE193 := n3_; clear n0_ n1_ n2_ n3_; clear hb hbox hg; have hcz5_0 : w4.cell? ⟨gb193, 0, none⟩ = some (.int .i64 a0_0) := (blk_cell BK193.out 0).trans rfl; have hcz5_1 : w4.cell? ⟨gb193, 1, none⟩ = some (.slice A0_1 l0_1.length c0_1) := (blk_cell BK193.out 1).trans rfl; have hcz5_2 : w4.cell? ⟨gb193, 2, none⟩ = some (.string a0_2) := (blk_cell BK193.out 2).trans rfl; have hfz5_0 := blk_frozen BK193.out 0; have hfz5_1 := blk_frozen BK193.out 1; have hfz5_2 := blk_frozen BK193.out 2) | ((with_reducible refine gate_callee (f := 27) rfl ?_); refine goesL_ (some 5) rfl rfl Tryd.func27 zz49 rfl #[.slice A0_1 l0_1.length c0_1] rfl zz20 ?_; (with_reducible refine (fairwaylaw0_PropsWeight.calls k _ _ l0_1 t194 _ ?side1 ?side2 A2.out).mono ?_); (case side1 => repeat (first | exact (Kd.C_below HR0_1.out HB.out) | (with_reducible refine Kd.C_alloc ?_ _) | (with_reducible refine Kd.C_drewN ?_ _) | (with_reducible refine Kd.C_drew ?_))); (case side2 => exact HC0_1.out); rintro e w' ⟨rfl, ⟨nd, rfl⟩⟩; refine ⟨_, rfl, ?_⟩))
  go_ret
  exact ⟨zz40, by repeat (first | (with_reducible first | exact HB.out | apply below_alloc | apply pw_below_drewN | apply below_drew1 | refine below_set ?_ GE193.out) | exact HB.out)⟩
 rw [if_neg c3] at H; have c3b0 : decide (10000 < t194) = false := decide_eq_false c3; clear c3; obtain rfl := Option.some.inj H; go_enter Tryd.func15, Tryd.ntmps15
 go_wp2_with (first | ((with_reducible refine gate_dst (N := 1) rfl ?_); (try (refine gate_guard (by rfl) ?_; dsimp only)); refine box_event ?hg (N := 1) ?hd (cs := #[.int .i64 a0_0, .slice A0_1 l0_1.length c0_1, .string a0_2]) (t := 25) ?hr ?_; (case hd => rfl); (case hg => rfl); (case hr => first | (go_simp; done) | (go_simp; rfl)); intro gb193 hg w6 hbox hb; have n0_ := Aside0.mk (below_step zz21 hb); have n1_ := Aside0.mk (hbox); have n2_ := Aside0.mk ((by rw [hg]; exact (below_size zz21) : w.heap.size ≤ gb193)); have n3_ := Aside0.mk ((by rw [hg]; exact (below_size zz21) : w.heap.size ≤ gb193)); clear HB; have HB := n0_; have BK193 := n1_; have GW193 := n2_; have GE193 := n3_; clear n0_ n1_ n2_ n3_; clear hb hbox hg; have hcz7_0 : w6.cell? ⟨gb193, 0, none⟩ = some (.int .i64 a0_0) := (blk_cell BK193.out 0).trans rfl; have hcz7_1 : w6.cell? ⟨gb193, 1, none⟩ = some (.slice A0_1 l0_1.length c0_1) := (blk_cell BK193.out 1).trans rfl; have hcz7_2 : w6.cell? ⟨gb193, 2, none⟩ = some (.string a0_2) := (blk_cell BK193.out 2).trans rfl; have hfz7_0 := blk_frozen BK193.out 0; have hfz7_1 := blk_frozen BK193.out 1; have hfz7_2 := blk_frozen BK193.out 2) | ((with_reducible refine gate_callee (f := 27) rfl ?_); refine goesL_ (some 5) rfl rfl Tryd.func27 zz49 rfl #[.slice A0_1 l0_1.length c0_1] rfl zz20 ?_; (with_reducible refine (fairwaylaw0_PropsWeight.calls k _ _ l0_1 t194 _ ?side1 ?side2 A2.out).mono ?_); (case side1 => repeat (first | exact (Kd.C_below HR0_1.out HB.out) | (with_reducible refine Kd.C_alloc ?_ _) | (with_reducible refine Kd.C_drewN ?_ _) | (with_reducible refine Kd.C_drew ?_))); (case side2 => exact HC0_1.out); rintro e w' ⟨rfl, ⟨nd, rfl⟩⟩; refine ⟨_, rfl, ?_⟩))
 go_ret
 exact ⟨zz40, by repeat (first | (with_reducible first | exact HB.out | apply below_alloc | apply pw_below_drewN | apply below_drew1 | refine below_set ?_ GE193.out) | exact HB.out)⟩
def fairwayref0_CopyProps.l0 : Nat → List (S42) → List (S42) → Int → Option ((List (S42)))
  | 0, _, _, _ => none
  | k + 1, x0, x3, x4 => if x4 < (x0.length : Int) then (if 0 ≤ x4 then (if x3.length < 2932031007402 then (fairwayref0_CopyProps.l0 k x0 (x3 ++ [(⟨(rd_T42 x0 x4).f0, (rd_T42 x0 x4).f1, (rd_T42 x0 x4).f2, (rd_T42 x0 x4).f3⟩ : S42)]) (wrap64 (x4 + 1))) else (none)) else (none)) else (some x3)
def fairwayref0_CopyProps.f (k : Nat) (l0 : List (S42)) : Option ((List (S42))) := fairwayref0_CopyProps.l0 k l0 ([] : List (S42)) 0
def fairwayref4_Place.f (a0 : Int) : Option (Bool) := if a0 ≥ 0 then (some (decide (a0 ≤ 15))) else (some false)
set_option maxHeartbeats 8000000 in
set_option maxRecDepth 100000 in
theorem fairwayref4_Place.calls (a0 : Int) (r : Bool) (w : World) (h : fairwayref4_Place.f a0 = some r) :
  Calls Tryd.prog 23 #[.int .i64 a0] w fun e w' => e = .returned (.bool r) ∧ Drawn0 w w' := by
 have H : (if a0 ≥ 0 then (some (decide (a0 ≤ 15))) else (some false)) = some r := h; clear h; by_cases c2 : a0 ≥ 0
 ·
  rw [if_pos c2] at H; have c2b0 : decide (0 ≤ a0) = true := decide_eq_true c2; clear c2; obtain rfl := Option.some.inj H; go_enter Tryd.func23, Tryd.ntmps23
  go_wp2
  go_ret
  exact ⟨zz47, zz43⟩
 rw [if_neg c2] at H; have c2b0 : decide (0 ≤ a0) = false := decide_eq_false c2; clear c2; obtain rfl := Option.some.inj H; go_enter Tryd.func23, Tryd.ntmps23
 go_wp2
 go_ret
 exact ⟨zz47, zz43⟩
def fairwayref0_Num.f (a0 : Int) (a1 : Int) : Option (Bool) := if a0 ≥ 0 then (some (decide (a0 ≤ a1))) else (some false)
set_option maxHeartbeats 8000000 in
set_option maxRecDepth 100000 in
theorem fairwayref0_Num.calls (a0 : Int) (a1 : Int) (r : Bool) (w : World) (h : fairwayref0_Num.f a0 a1 = some r) :
  Calls Tryd.prog 43 #[.int .i64 a0, .int .i64 a1] w fun e w' => e = .returned (.bool r) ∧ Drawn0 w w' := by
 have H : (if a0 ≥ 0 then (some (decide (a0 ≤ a1))) else (some false)) = some r := h; clear h; by_cases c3 : a0 ≥ 0
 ·
  rw [if_pos c3] at H; have c3b0 : decide (0 ≤ a0) = true := decide_eq_true c3; clear c3; obtain rfl := Option.some.inj H; go_enter Tryd.func43, Tryd.ntmps43
  go_wp2
  go_ret
  exact ⟨zz47, zz43⟩
 rw [if_neg c3] at H; have c3b0 : decide (0 ≤ a0) = false := decide_eq_false c3; clear c3; obtain rfl := Option.some.inj H; go_enter Tryd.func43, Tryd.ntmps43
 go_wp2
 go_ret
 exact ⟨zz47, zz43⟩
def fairwayref1_good.f (a0 : Int) : Option (Bool) := if a0 < 32 then (some false) else (if a0 ≥ 127 then (if a0 ≤ 159 then (some false) else (if a0 > 1114111 then (some false) else (if a0 ≥ 55296 then (if a0 ≤ 57343 then (some false) else (if a0 ≥ 64976 then (if a0 ≤ 65007 then (some false) else (some (decide ((Int.tmod a0 65536) < 65534)))) else (some (decide ((Int.tmod a0 65536) < 65534))))) else (if a0 ≥ 64976 then (if a0 ≤ 65007 then (some false) else (some (decide ((Int.tmod a0 65536) < 65534)))) else (some (decide ((Int.tmod a0 65536) < 65534))))))) else (if a0 > 1114111 then (some false) else (if a0 ≥ 55296 then (if a0 ≤ 57343 then (some false) else (if a0 ≥ 64976 then (if a0 ≤ 65007 then (some false) else (some (decide ((Int.tmod a0 65536) < 65534)))) else (some (decide ((Int.tmod a0 65536) < 65534))))) else (if a0 ≥ 64976 then (if a0 ≤ 65007 then (some false) else (some (decide ((Int.tmod a0 65536) < 65534)))) else (some (decide ((Int.tmod a0 65536) < 65534)))))))
set_option maxHeartbeats 8000000 in
set_option maxRecDepth 100000 in
theorem fairwayref1_good.calls (a0 : Int) (r : Bool) (w : World) (h : fairwayref1_good.f a0 = some r) :
  Calls Tryd.prog 69 #[.int .i64 a0] w fun e w' => e = .returned (.bool r) ∧ Drawn0 w w' := by
 have H : (if a0 < 32 then (some false) else (if a0 ≥ 127 then (if a0 ≤ 159 then (some false) else (if a0 > 1114111 then (some false) else (if a0 ≥ 55296 then (if a0 ≤ 57343 then (some false) else (if a0 ≥ 64976 then (if a0 ≤ 65007 then (some false) else (some (decide ((Int.tmod a0 65536) < 65534)))) else (some (decide ((Int.tmod a0 65536) < 65534))))) else (if a0 ≥ 64976 then (if a0 ≤ 65007 then (some false) else (some (decide ((Int.tmod a0 65536) < 65534)))) else (some (decide ((Int.tmod a0 65536) < 65534))))))) else (if a0 > 1114111 then (some false) else (if a0 ≥ 55296 then (if a0 ≤ 57343 then (some false) else (if a0 ≥ 64976 then (if a0 ≤ 65007 then (some false) else (some (decide ((Int.tmod a0 65536) < 65534)))) else (some (decide ((Int.tmod a0 65536) < 65534))))) else (if a0 ≥ 64976 then (if a0 ≤ 65007 then (some false) else (some (decide ((Int.tmod a0 65536) < 65534)))) else (some (decide ((Int.tmod a0 65536) < 65534)))))))) = some r := h; clear h; by_cases c2 : a0 < 32
 ·
  rw [if_pos c2] at H; have c2b0 : decide (a0 < 32) = true := decide_eq_true c2; clear c2; obtain rfl := Option.some.inj H; go_enter Tryd.func69, Tryd.ntmps69
  go_wp2
  go_ret
  exact ⟨zz47, zz43⟩
 rw [if_neg c2] at H; have c2b0 : decide (a0 < 32) = false := decide_eq_false c2; clear c2; by_cases c3 : a0 ≥ 127
 ·
  rw [if_pos c3] at H; have c3b0 : decide (127 ≤ a0) = true := decide_eq_true c3; clear c3; by_cases c4 : a0 ≤ 159
  ·
   rw [if_pos c4] at H; have c4b0 : decide (a0 ≤ 159) = true := decide_eq_true c4; clear c4; obtain rfl := Option.some.inj H; go_enter Tryd.func69, Tryd.ntmps69
   go_wp2
   go_ret
   exact ⟨zz47, zz43⟩
  rw [if_neg c4] at H; have c4b0 : decide (a0 ≤ 159) = false := decide_eq_false c4; clear c4; by_cases c5 : a0 > 1114111
  ·
   rw [if_pos c5] at H; have c5b0 : decide (1114111 < a0) = true := decide_eq_true c5; clear c5; obtain rfl := Option.some.inj H; go_enter Tryd.func69, Tryd.ntmps69
   go_wp2
   go_ret
   exact ⟨zz47, zz43⟩
  rw [if_neg c5] at H; have c5b0 : decide (1114111 < a0) = false := decide_eq_false c5; clear c5; by_cases c6 : a0 ≥ 55296
  ·
   rw [if_pos c6] at H; have c6b0 : decide (55296 ≤ a0) = true := decide_eq_true c6; clear c6; by_cases c7 : a0 ≤ 57343
   ·
    rw [if_pos c7] at H; have c7b0 : decide (a0 ≤ 57343) = true := decide_eq_true c7; clear c7; obtain rfl := Option.some.inj H; go_enter Tryd.func69, Tryd.ntmps69
    go_wp2
    go_ret
    exact ⟨zz47, zz43⟩
   rw [if_neg c7] at H; have c7b0 : decide (a0 ≤ 57343) = false := decide_eq_false c7; clear c7; by_cases c8 : a0 ≥ 64976
   ·
    rw [if_pos c8] at H; have c8b0 : decide (64976 ≤ a0) = true := decide_eq_true c8; clear c8; by_cases c9 : a0 ≤ 65007
    ·
     rw [if_pos c9] at H; have c9b0 : decide (a0 ≤ 65007) = true := decide_eq_true c9; clear c9; obtain rfl := Option.some.inj H; go_enter Tryd.func69, Tryd.ntmps69
     go_wp2
     go_ret
     exact ⟨zz47, zz43⟩
    rw [if_neg c9] at H; have c9b0 : decide (a0 ≤ 65007) = false := decide_eq_false c9; clear c9; obtain rfl := Option.some.inj H; go_enter Tryd.func69, Tryd.ntmps69
    go_wp2
    go_ret
    exact ⟨zz47, zz43⟩
   rw [if_neg c8] at H; have c8b0 : decide (64976 ≤ a0) = false := decide_eq_false c8; clear c8; obtain rfl := Option.some.inj H; go_enter Tryd.func69, Tryd.ntmps69
   go_wp2
   go_ret
   exact ⟨zz47, zz43⟩
  rw [if_neg c6] at H; have c6b0 : decide (55296 ≤ a0) = false := decide_eq_false c6; clear c6; by_cases c10 : a0 ≥ 64976
  ·
   rw [if_pos c10] at H; have c10b0 : decide (64976 ≤ a0) = true := decide_eq_true c10; clear c10; by_cases c11 : a0 ≤ 65007
   ·
    rw [if_pos c11] at H; have c11b0 : decide (a0 ≤ 65007) = true := decide_eq_true c11; clear c11; obtain rfl := Option.some.inj H; go_enter Tryd.func69, Tryd.ntmps69
    go_wp2
    go_ret
    exact ⟨zz47, zz43⟩
   rw [if_neg c11] at H; have c11b0 : decide (a0 ≤ 65007) = false := decide_eq_false c11; clear c11; obtain rfl := Option.some.inj H; go_enter Tryd.func69, Tryd.ntmps69
   go_wp2
   go_ret
   exact ⟨zz47, zz43⟩
  rw [if_neg c10] at H; have c10b0 : decide (64976 ≤ a0) = false := decide_eq_false c10; clear c10; obtain rfl := Option.some.inj H; go_enter Tryd.func69, Tryd.ntmps69
  go_wp2
  go_ret
  exact ⟨zz47, zz43⟩
 rw [if_neg c3] at H; have c3b0 : decide (127 ≤ a0) = false := decide_eq_false c3; clear c3; by_cases c12 : a0 > 1114111
 ·
  rw [if_pos c12] at H; have c12b0 : decide (1114111 < a0) = true := decide_eq_true c12; clear c12; obtain rfl := Option.some.inj H; go_enter Tryd.func69, Tryd.ntmps69
  go_wp2
  go_ret
  exact ⟨zz47, zz43⟩
 rw [if_neg c12] at H; have c12b0 : decide (1114111 < a0) = false := decide_eq_false c12; clear c12; by_cases c13 : a0 ≥ 55296
 ·
  rw [if_pos c13] at H; have c13b0 : decide (55296 ≤ a0) = true := decide_eq_true c13; clear c13; by_cases c14 : a0 ≤ 57343
  ·
   rw [if_pos c14] at H; have c14b0 : decide (a0 ≤ 57343) = true := decide_eq_true c14; clear c14; obtain rfl := Option.some.inj H; go_enter Tryd.func69, Tryd.ntmps69
   go_wp2
   go_ret
   exact ⟨zz47, zz43⟩
  rw [if_neg c14] at H; have c14b0 : decide (a0 ≤ 57343) = false := decide_eq_false c14; clear c14; by_cases c15 : a0 ≥ 64976
  ·
   rw [if_pos c15] at H; have c15b0 : decide (64976 ≤ a0) = true := decide_eq_true c15; clear c15; by_cases c16 : a0 ≤ 65007
   ·
    rw [if_pos c16] at H; have c16b0 : decide (a0 ≤ 65007) = true := decide_eq_true c16; clear c16; obtain rfl := Option.some.inj H; go_enter Tryd.func69, Tryd.ntmps69
    go_wp2
    go_ret
    exact ⟨zz47, zz43⟩
   rw [if_neg c16] at H; have c16b0 : decide (a0 ≤ 65007) = false := decide_eq_false c16; clear c16; obtain rfl := Option.some.inj H; go_enter Tryd.func69, Tryd.ntmps69
   go_wp2
   go_ret
   exact ⟨zz47, zz43⟩
  rw [if_neg c15] at H; have c15b0 : decide (64976 ≤ a0) = false := decide_eq_false c15; clear c15; obtain rfl := Option.some.inj H; go_enter Tryd.func69, Tryd.ntmps69
  go_wp2
  go_ret
  exact ⟨zz47, zz43⟩
 rw [if_neg c13] at H; have c13b0 : decide (55296 ≤ a0) = false := decide_eq_false c13; clear c13; by_cases c17 : a0 ≥ 64976
 ·
  rw [if_pos c17] at H; have c17b0 : decide (64976 ≤ a0) = true := decide_eq_true c17; clear c17; by_cases c18 : a0 ≤ 65007
  ·
   rw [if_pos c18] at H; have c18b0 : decide (a0 ≤ 65007) = true := decide_eq_true c18; clear c18; obtain rfl := Option.some.inj H; go_enter Tryd.func69, Tryd.ntmps69
   go_wp2
   go_ret
   exact ⟨zz47, zz43⟩
  rw [if_neg c18] at H; have c18b0 : decide (a0 ≤ 65007) = false := decide_eq_false c18; clear c18; obtain rfl := Option.some.inj H; go_enter Tryd.func69, Tryd.ntmps69
  go_wp2
  go_ret
  exact ⟨zz47, zz43⟩
 rw [if_neg c17] at H; have c17b0 : decide (64976 ≤ a0) = false := decide_eq_false c17; clear c17; obtain rfl := Option.some.inj H; go_enter Tryd.func69, Tryd.ntmps69
 go_wp2
 go_ret
 exact ⟨zz47, zz43⟩
end Go.Proofs.YtiancopplinpcaaDoor.P
end
section
namespace Go.Proofs.YtiancopplinpcaaDoor.P
open Go.RowKit Go.Proofs.YtiancopplinpcaaDoorW.PrintWords Go.Proofs.YtiancopplinpcaaDoorW.PrintLast Go.Proofs.YtiancopplinpcaaDoorW.PrintMore
attribute [local go_sem] max2_int min2_int max_two min_two max_three min_three max_four min_four
set_option linter.unusedVariables false
set_option linter.unusedSimpArgs false
mutual
def fairwayref1_point.j3 : Nat → ByteArray → Int → Int → Int → Option (Int × Int)
  | 0, _, _, _, _ => none
  | k + 1, x0, x5, x6, x7 => if (x0.size : Int) < x5 then (some (0, 0)) else (fairwayref1_point.l0 k x0 x5 x6 x7 1)
def fairwayref1_point.l0 : Nat → ByteArray → Int → Int → Int → Int → Option (Int × Int)
  | 0, _, _, _, _, _ => none
  | k + 1, x0, x5, x6, x7, x8 => if x8 < x5 then (if 0 ≤ x8 then (if x8 < (x0.size : Int) then (if (wrap64 (bt x0 x8)) < 128 then (some (0, 0)) else (if (wrap64 (bt x0 x8)) ≥ 192 then (some (0, 0)) else (fairwayref1_point.l0 k x0 x5 x6 (wrap64 ((wrap64 ((wrap64 (x7 * 64)) + (wrap64 (bt x0 x8)))) - 128)) (wrap64 (x8 + 1))))) else (none)) else (none)) else (if x7 < x6 then (some (0, 0)) else ((fairwayref1_good.f x7).bind fun t199 => (if t199 = true then (some (x7, x5)) else (some (0, 0)))))
def fairwayref1_point.j0 : Nat → ByteArray → Int → Int → Int → Int → Bool → Option (Int × Int)
  | 0, _, _, _, _, _, _ => none
  | k + 1, x0, x4, x5, x6, x7, x14 => if x14 = true then (fairwayref1_point.j3 k x0 4 65536 (wrap64 (x4 - 240))) else (if x4 ≥ 224 then (fairwayref1_point.j1 k x0 x4 x5 x6 x7 (decide (x4 < 240))) else (fairwayref1_point.j1 k x0 x4 x5 x6 x7 false))
def fairwayref1_point.j1 : Nat → ByteArray → Int → Int → Int → Int → Bool → Option (Int × Int)
  | 0, _, _, _, _, _, _ => none
  | k + 1, x0, x4, x5, x6, x7, x23 => if x23 = true then (fairwayref1_point.j3 k x0 3 2048 (wrap64 (x4 - 224))) else (if x4 ≥ 192 then (fairwayref1_point.j2 k x0 x4 x5 x6 x7 (decide (x4 < 224))) else (fairwayref1_point.j2 k x0 x4 x5 x6 x7 false))
def fairwayref1_point.j2 : Nat → ByteArray → Int → Int → Int → Int → Bool → Option (Int × Int)
  | 0, _, _, _, _, _, _ => none
  | k + 1, x0, x4, x5, x6, x7, x32 => if x32 = true then (fairwayref1_point.j3 k x0 2 128 (wrap64 (x4 - 192))) else (if x4 ≥ 128 then (some (0, 0)) else (fairwayref1_point.j3 k x0 x5 x6 x7))
end
def fairwayref1_point.f (k : Nat) (a0 : ByteArray) : Option (Int × Int) := if 0 < (a0.size : Int) then (if (wrap64 (bt a0 0)) ≥ 240 then (fairwayref1_point.j0 k a0 (wrap64 (bt a0 0)) 1 0 (wrap64 (bt a0 0)) (decide ((wrap64 (bt a0 0)) < 248))) else (fairwayref1_point.j0 k a0 (wrap64 (bt a0 0)) 1 0 (wrap64 (bt a0 0)) false)) else (none)
theorem fairwayref1_point.mono_l : ∀ k, (∀ y0 y1 y2 y3, LeO (fairwayref1_point.j3 k y0 y1 y2 y3) (fairwayref1_point.j3 (k + 1) y0 y1 y2 y3)) ∧ (∀ y0 y1 y2 y3 y4, LeO (fairwayref1_point.l0 k y0 y1 y2 y3 y4) (fairwayref1_point.l0 (k + 1) y0 y1 y2 y3 y4)) ∧ (∀ y0 y1 y2 y3 y4 y5, LeO (fairwayref1_point.j0 k y0 y1 y2 y3 y4 y5) (fairwayref1_point.j0 (k + 1) y0 y1 y2 y3 y4 y5)) ∧ (∀ y0 y1 y2 y3 y4 y5, LeO (fairwayref1_point.j1 k y0 y1 y2 y3 y4 y5) (fairwayref1_point.j1 (k + 1) y0 y1 y2 y3 y4 y5)) ∧ (∀ y0 y1 y2 y3 y4 y5, LeO (fairwayref1_point.j2 k y0 y1 y2 y3 y4 y5) (fairwayref1_point.j2 (k + 1) y0 y1 y2 y3 y4 y5))
 | 0 => ⟨fun _ _ _ _ r h => by simp [fairwayref1_point.j3] at h, fun _ _ _ _ _ r h => by simp [fairwayref1_point.l0] at h, fun _ _ _ _ _ _ r h => by simp [fairwayref1_point.j0] at h, fun _ _ _ _ _ _ r h => by simp [fairwayref1_point.j1] at h, fun _ _ _ _ _ _ r h => by simp [fairwayref1_point.j2] at h⟩
 | k + 1 => by
  obtain ⟨ih0, ih1, ih2, ih3, ih4⟩ := fairwayref1_point.mono_l k; refine ⟨?_, ?_, ?_, ?_, ?_⟩ <;> intros
  all_goals first | unfold fairwayref1_point.j3 | unfold fairwayref1_point.l0 | unfold fairwayref1_point.j0 | unfold fairwayref1_point.j1 | unfold fairwayref1_point.j2
  all_goals repeat' first
   | (with_reducible exact ih0 _ _ _ _)
   | (with_reducible exact ih1 _ _ _ _ _)
   | (with_reducible exact ih2 _ _ _ _ _ _)
   | (with_reducible exact ih3 _ _ _ _ _ _)
   | (with_reducible exact ih4 _ _ _ _ _ _)
   | (with_reducible exact LeO.refl _)
   | (with_reducible exact LeO.none _)
   | (with_reducible refine LeO.ite ?_ ?_)
   | (with_reducible refine LeO.bind ?_ (fun _ => ?_))
   | exact ih0 _ _ _ _
   | exact ih1 _ _ _ _ _
   | exact ih2 _ _ _ _ _ _
   | exact ih3 _ _ _ _ _ _
   | exact ih4 _ _ _ _ _ _
   | exact LeO.none _
   | refine LeO.ite ?_ ?_
   | refine LeO.bind ?_ (fun _ => ?_)
theorem fairwayref1_point.mono : ∀ a0 k, LeO (fairwayref1_point.f k a0) (fairwayref1_point.f (k + 1) a0) := by
 intro a0 k
 obtain ⟨ih0, ih1, ih2, ih3, ih4⟩ := fairwayref1_point.mono_l k; unfold fairwayref1_point.f; repeat' first
   | (with_reducible exact ih0 _ _ _ _)
   | (with_reducible exact ih1 _ _ _ _ _)
   | (with_reducible exact ih2 _ _ _ _ _ _)
   | (with_reducible exact ih3 _ _ _ _ _ _)
   | (with_reducible exact ih4 _ _ _ _ _ _)
   | (with_reducible exact LeO.refl _)
   | (with_reducible exact LeO.none _)
   | (with_reducible refine LeO.ite ?_ ?_)
   | (with_reducible refine LeO.bind ?_ (fun _ => ?_))
   | exact ih0 _ _ _ _
   | exact ih1 _ _ _ _ _
   | exact ih2 _ _ _ _ _ _
   | exact ih3 _ _ _ _ _ _
   | exact ih4 _ _ _ _ _ _
   | exact LeO.none _
   | refine LeO.ite ?_ ?_
   | refine LeO.bind ?_ (fun _ => ?_)
set_option maxHeartbeats 8000000 in
set_option maxRecDepth 100000 in
theorem fairwayref1_point.calls (k : Nat) (a0 : ByteArray) (r1 : Int) (r2 : Int) (w : World) (h : fairwayref1_point.f k a0 = some (r1, r2)) :
  Calls Tryd.prog 60 #[.string a0] w fun e w' => e = .returned (.tuple #[.int .i64 r1, .int .i64 r2]) ∧ Drawn0 w w' := by
 have H : (if 0 < (a0.size : Int) then (if (wrap64 (bt a0 0)) ≥ 240 then (fairwayref1_point.j0 k a0 (wrap64 (bt a0 0)) 1 0 (wrap64 (bt a0 0)) (decide ((wrap64 (bt a0 0)) < 248))) else (fairwayref1_point.j0 k a0 (wrap64 (bt a0 0)) 1 0 (wrap64 (bt a0 0)) false)) else (none)) = some (r1, r2) := h; clear h; by_cases c2 : 0 < (a0.size : Int)
 ·
  rw [if_pos c2] at H; have c2b0 : decide (0 < (a0.size : Int)) = true := decide_eq_true c2; have c2b1 : decide (0 < a0.size) = true := decide_eq_true (by omega); clear c2; have HC4 := Aside0.mk H; clear H; have p3 : 0 ≤ (0 : Int) := (by omega); have q3 : 0 < a0.size := zz31; have hx3 : ∀ h : 0 < a0.size, ((a0[0]'h).toNat : Int) = bt a0 0 := bt_at a0 0; clear p3; have qi3 : (0 < (a0.size : Int)) = True := eq_true (of_decide_eq_true zz46); replace q3 := eq_true q3; go_enter Tryd.func60, Tryd.ntmps60
  go_upto_block 0 with (fail)
  go_cut [5, 6, 7] (fun v5 v6 v7 wc => ∃ (kq : Nat) (x5_3 : Int) (x6_3 : Int) (x7_3 : Int), v5 = .int .i64 x5_3 ∧ v6 = .int .i64 x6_3 ∧ v7 = .int .i64 x7_3 ∧ Aside0 (fairwayref1_point.j3 kq a0 x5_3 x6_3 x7_3 = some (r1, r2)) ∧ Aside0 (kq ≤ k) ∧ Drawn0 w wc)
  case first =>
   have H := HC4.out; clear HC4; have HC5 := Aside0.mk H; clear H; go_upto_region 3 with (fail)
   go_cut [14] (fun v14 wc => ∃ (kq : Nat) (x14_4 : Bool), v14 = .bool x14_4 ∧ Aside0 (fairwayref1_point.j0 kq a0 (wrap64 (bt a0 0)) 1 0 (wrap64 (bt a0 0)) x14_4 = some (r1, r2)) ∧ Aside0 (kq ≤ k) ∧ Drawn0 w wc)
   case first =>
    have H := HC5.out; clear HC5; by_cases c6 : (wrap64 (bt a0 0)) ≥ 240
    ·
     rw [if_pos c6] at H; have c6b0 : decide (240 ≤ (wrap64 (bt a0 0))) = true := decide_eq_true c6; clear c6; (first | rw [c6b0] | (simp only [i64_w, i32_w]; rw [c6b0]) | skip)
     have H' := Aside0.mk H; clear H; go_wp2
     go_meet
     case rel => exact ⟨_, (decide ((wrap64 (bt a0 0)) < 248)), zz47, H', ⟨zz48⟩, zz43⟩
    rw [if_neg c6] at H; have c6b0 : decide (240 ≤ (wrap64 (bt a0 0))) = false := decide_eq_false c6; clear c6; (first | rw [c6b0] | (simp only [i64_w, i32_w]; rw [c6b0]) | skip)
    have H' := Aside0.mk H; clear H; go_wp2
    go_meet
    case rel => exact ⟨_, (false), zz47, H', ⟨zz48⟩, zz43⟩
   case rest =>
    as_aux_lemma =>
     clear HC5; (try clear c2); (try clear c2b0); (try clear c2b1); (try clear p2); (try clear p3); (try clear q3); (try clear hx3); (try clear qi3); (try clear c6); (try clear c6b0); (try clear p6); (try clear p3); (try clear q3); obtain ⟨kq, x14_4, rfl, HA, HJ4, ⟨mc4, rfl⟩⟩ := hcut; cases kq with
     | zero => exact absurd HA.out (by simp [fairwayref1_point.j0])
     | succ kj4 =>
      have H := HA.out; clear HA; simp only [fairwayref1_point.j0] at H; by_cases c7 : x14_4 = true
      ·
       subst c7; have H1 : (fairwayref1_point.j3 kj4 a0 4 65536 (wrap64 ((wrap64 (bt a0 0)) - 240))) = some (r1, r2) := by rw [if_pos rfl] at H; exact H
       clear H; have H := H1; clear H1; have H' := Aside0.mk H; clear H; go_wp2
       go_meet
       case rel => exact ⟨_, (4), (65536), (wrap64 ((wrap64 (bt a0 0)) - 240)), zz47, zz47, zz47, H', ⟨by have := HJ4.out; first | omega | exact Nat.le_refl _⟩, zz43⟩
      replace c7 := Bool.eq_false_iff.mpr c7; subst c7; have H1 : (if (wrap64 (bt a0 0)) ≥ 224 then (fairwayref1_point.j1 kj4 a0 (wrap64 (bt a0 0)) 1 0 (wrap64 (bt a0 0)) (decide ((wrap64 (bt a0 0)) < 240))) else (fairwayref1_point.j1 kj4 a0 (wrap64 (bt a0 0)) 1 0 (wrap64 (bt a0 0)) false)) = some (r1, r2) := by rw [if_neg (show ¬ (false = true) by decide)] at H; exact H
      clear H; have H := H1; clear H1; have HC8 := Aside0.mk H; clear H; go_upto_region 5 with (fail)
      go_cut [23] (fun v23 wc => ∃ (kq : Nat) (x23_7 : Bool), v23 = .bool x23_7 ∧ Aside0 (fairwayref1_point.j1 kq a0 (wrap64 (bt a0 0)) 1 0 (wrap64 (bt a0 0)) x23_7 = some (r1, r2)) ∧ Aside0 (kq ≤ kj4) ∧ Drawn0 w wc)
      case first =>
       have H := HC8.out; clear HC8; by_cases c9 : (wrap64 (bt a0 0)) ≥ 224
       ·
        rw [if_pos c9] at H; have c9b0 : decide (224 ≤ (wrap64 (bt a0 0))) = true := decide_eq_true c9; clear c9; (first | rw [c9b0] | (simp only [i64_w, i32_w]; rw [c9b0]) | skip)
        have H' := Aside0.mk H; clear H; go_wp2
        go_meet
        case rel => exact ⟨_, (decide ((wrap64 (bt a0 0)) < 240)), zz47, H', ⟨by have := HJ4.out; first | omega | exact Nat.le_refl _⟩, zz43⟩
       rw [if_neg c9] at H; have c9b0 : decide (224 ≤ (wrap64 (bt a0 0))) = false := decide_eq_false c9; clear c9; (first | rw [c9b0] | (simp only [i64_w, i32_w]; rw [c9b0]) | skip)
       have H' := Aside0.mk H; clear H; go_wp2
       go_meet
       case rel => exact ⟨_, (false), zz47, H', ⟨by have := HJ4.out; first | omega | exact Nat.le_refl _⟩, zz43⟩
      case rest =>
       as_aux_lemma =>
        clear HC8; (try clear c2); (try clear c2b0); (try clear c2b1); (try clear p2); (try clear p3); (try clear q3); (try clear hx3); (try clear qi3); (try clear c4); (try clear c6); (try clear c6b0); (try clear p6); (try clear c7); (try clear c9); (try clear c9b0); (try clear p2); (try clear p3); (try clear p6); (try clear q3); obtain ⟨kq, x23_7, rfl, HA, HJ7, ⟨mc7, rfl⟩⟩ := hcut; cases kq with
        | zero => exact absurd HA.out (by simp [fairwayref1_point.j1])
        | succ kj7 =>
         have H := HA.out; clear HA; simp only [fairwayref1_point.j1] at H; by_cases c10 : x23_7 = true
         ·
          subst c10; have H1 : (fairwayref1_point.j3 kj7 a0 3 2048 (wrap64 ((wrap64 (bt a0 0)) - 224))) = some (r1, r2) := by rw [if_pos rfl] at H; exact H
          clear H; have H := H1; clear H1; have H' := Aside0.mk H; clear H; go_wp2
          go_meet
          case rel => exact ⟨_, (3), (2048), (wrap64 ((wrap64 (bt a0 0)) - 224)), zz47, zz47, zz47, H', ⟨by have := HJ4.out; have := HJ7.out; first | omega | exact Nat.le_refl _⟩, zz43⟩
         replace c10 := Bool.eq_false_iff.mpr c10; subst c10; have H1 : (if (wrap64 (bt a0 0)) ≥ 192 then (fairwayref1_point.j2 kj7 a0 (wrap64 (bt a0 0)) 1 0 (wrap64 (bt a0 0)) (decide ((wrap64 (bt a0 0)) < 224))) else (fairwayref1_point.j2 kj7 a0 (wrap64 (bt a0 0)) 1 0 (wrap64 (bt a0 0)) false)) = some (r1, r2) := by rw [if_neg (show ¬ (false = true) by decide)] at H; exact H
         clear H; have H := H1; clear H1; have HC11 := Aside0.mk H; clear H; go_upto_region 7 with (fail)
         go_cut [32] (fun v32 wc => ∃ (kq : Nat) (x32_10 : Bool), v32 = .bool x32_10 ∧ Aside0 (fairwayref1_point.j2 kq a0 (wrap64 (bt a0 0)) 1 0 (wrap64 (bt a0 0)) x32_10 = some (r1, r2)) ∧ Aside0 (kq ≤ kj7) ∧ Drawn0 w wc)
         case first =>
          have H := HC11.out; clear HC11; by_cases c12 : (wrap64 (bt a0 0)) ≥ 192
          ·
           rw [if_pos c12] at H; have c12b0 : decide (192 ≤ (wrap64 (bt a0 0))) = true := decide_eq_true c12; clear c12; (first | rw [c12b0] | (simp only [i64_w, i32_w]; rw [c12b0]) | skip)
           have H' := Aside0.mk H; clear H; go_wp2
           go_meet
           case rel => exact ⟨_, (decide ((wrap64 (bt a0 0)) < 224)), zz47, H', ⟨by have := HJ4.out; have := HJ7.out; first | omega | exact Nat.le_refl _⟩, zz43⟩
          rw [if_neg c12] at H; have c12b0 : decide (192 ≤ (wrap64 (bt a0 0))) = false := decide_eq_false c12; clear c12; (first | rw [c12b0] | (simp only [i64_w, i32_w]; rw [c12b0]) | skip)
          have H' := Aside0.mk H; clear H; go_wp2
          go_meet
          case rel => exact ⟨_, (false), zz47, H', ⟨by have := HJ4.out; have := HJ7.out; first | omega | exact Nat.le_refl _⟩, zz43⟩
         case rest =>
          as_aux_lemma =>
           clear HC11; (try clear c1); (try clear c2); (try clear c2b0); (try clear c2b1); (try clear p2); (try clear p3); (try clear q3); (try clear hx3); (try clear qi3); (try clear c4); (try clear c6); (try clear c6b0); (try clear p6); (try clear c7); (try clear c9); (try clear c9b0); (try clear c10); (try clear c12); (try clear c12b0); (try clear p2); (try clear p3); (try clear p6); (try clear q3); obtain ⟨kq, x32_10, rfl, HA, HJ10, ⟨mc10, rfl⟩⟩ := hcut; cases kq with
           | zero => exact absurd HA.out (by simp [fairwayref1_point.j2])
           | succ kj10 =>
            have H := HA.out; clear HA; simp only [fairwayref1_point.j2] at H; by_cases c13 : x32_10 = true
            ·
             subst c13; have H1 : (fairwayref1_point.j3 kj10 a0 2 128 (wrap64 ((wrap64 (bt a0 0)) - 192))) = some (r1, r2) := by rw [if_pos rfl] at H; exact H
             clear H; have H := H1; clear H1; have H' := Aside0.mk H; clear H; go_wp2
             go_meet
             case rel => exact ⟨_, (2), (128), (wrap64 ((wrap64 (bt a0 0)) - 192)), zz47, zz47, zz47, H', ⟨by have := HJ4.out; have := HJ7.out; have := HJ10.out; first | omega | exact Nat.le_refl _⟩, zz43⟩
            replace c13 := Bool.eq_false_iff.mpr c13; subst c13; have H1 : (if (wrap64 (bt a0 0)) ≥ 128 then (some (0, 0)) else (fairwayref1_point.j3 kj10 a0 1 0 (wrap64 (bt a0 0)))) = some (r1, r2) := by rw [if_neg (show ¬ (false = true) by decide)] at H; exact H
            clear H; have H := H1; clear H1; by_cases c14 : (wrap64 (bt a0 0)) ≥ 128
            ·
             rw [if_pos c14] at H; have c14b0 : decide (128 ≤ (wrap64 (bt a0 0))) = true := decide_eq_true c14; clear c14; simp only [Option.some.injEq, Prod.mk.injEq] at H; obtain ⟨rfl, rfl⟩ := H; go_wp2
             go_ret2
             exact ⟨zz47, zz43⟩
            rw [if_neg c14] at H; have c14b0 : decide (128 ≤ (wrap64 (bt a0 0))) = false := decide_eq_false c14; clear c14; have H' := Aside0.mk H; clear H; go_wp2
            go_meet
            case rel => exact ⟨_, (1), (0), ((wrap64 (bt a0 0))), zz47, zz47, zz47, H', ⟨by have := HJ4.out; have := HJ7.out; have := HJ10.out; first | omega | exact Nat.le_refl _⟩, zz43⟩
  case rest =>
   as_aux_lemma =>
    clear HC4; (try clear c1); (try clear c2); (try clear c2b0); (try clear c2b1); (try clear p2); (try clear p3); (try clear q3); (try clear hx3); (try clear qi3); (try clear c4); (try clear c6); (try clear c6b0); (try clear p6); (try clear c7); (try clear c9); (try clear c9b0); (try clear c10); (try clear c12); (try clear c12b0); (try clear c13); (try clear c14); (try clear c14b0); (try clear p2); (try clear p3); (try clear p6); (try clear q3); obtain ⟨kq, x5_3, x6_3, x7_3, rfl, rfl, rfl, HA, HJ3, ⟨mc3, rfl⟩⟩ := hcut; cases kq with
    | zero => exact absurd HA.out (by simp [fairwayref1_point.j3])
    | succ kj3 =>
     have H := HA.out; clear HA; simp only [fairwayref1_point.j3] at H; by_cases c15 : (a0.size : Int) < x5_3
     ·
      rw [if_pos c15] at H; have c15b0 : decide ((a0.size : Int) < x5_3) = true := decide_eq_true c15; clear c15; simp only [Option.some.injEq, Prod.mk.injEq] at H; obtain ⟨rfl, rfl⟩ := H; go_wp2
      go_ret2
      exact ⟨zz47, zz43⟩
     rw [if_neg c15] at H; have c15b0 : decide ((a0.size : Int) < x5_3) = false := decide_eq_false c15; clear c15; have H' := Aside0.mk H; clear H; go_wp2
     go_loopg [7, 8] kj3 (fun kq v7 v8 w' => ∃ (x7_2 : Int) (x8_2 : Int), v7 = .int .i64 x7_2 ∧ v8 = .int .i64 x8_2 ∧ Aside0 (fairwayref1_point.l0 kq a0 x5_3 x6_3 x7_2 x8_2 = some (r1, r2)) ∧ Aside0 (kq ≤ kj3) ∧ Drawn0 w w')
     case atStart => exact ⟨(x7_3), (1), zz47, zz47, H', ⟨Nat.le_refl _⟩, zz43⟩
     case round =>
      as_aux_lemma =>
       clear H'; (try clear c1); (try clear c2); (try clear c2b0); (try clear c2b1); (try clear p2); (try clear c3); (try clear p3); (try clear q3); (try clear hx3); (try clear qi3); (try clear c4); (try clear c6); (try clear c6b0); (try clear p6); (try clear c7); (try clear c9); (try clear c9b0); (try clear c10); (try clear c12); (try clear c12b0); (try clear c13); (try clear c14); (try clear c14b0); (try clear c15); (try clear c15b0); (try clear p2); (try clear p3); (try clear p6); (try clear q3); obtain ⟨x7_2, x8_2, rfl, rfl, HA, HK2, ⟨m2, rfl⟩⟩ := hrel; cases gk with
       | zero => exact absurd HA.out (by simp [fairwayref1_point.l0])
       | succ k2 =>
        have H := HA.out; clear HA; simp only [fairwayref1_point.l0] at H; by_cases c16 : x8_2 < x5_3
        ·
         rw [if_pos c16] at H; have c16b0 : decide (x8_2 < x5_3) = true := decide_eq_true c16; clear c16; by_cases c17 : 0 ≤ x8_2
         ·
          rw [if_pos c17] at H; have c17b0 : decide (0 ≤ x8_2) = true := decide_eq_true c17; clear c17; by_cases c18 : x8_2 < (a0.size : Int)
          ·
           rw [if_pos c18] at H; have c18b0 : decide (x8_2 < (a0.size : Int)) = true := decide_eq_true c18; clear c18; by_cases c20 : (wrap64 (bt a0 x8_2)) < 128
           ·
            rw [if_pos c20] at H; have c20b0 : decide ((wrap64 (bt a0 x8_2)) < 128) = true := decide_eq_true c20; clear c20; simp only [Option.some.injEq, Prod.mk.injEq] at H; obtain ⟨rfl, rfl⟩ := H; have p19 : 0 ≤ (x8_2 : Int) := of_decide_eq_true zz46; have q19 : x8_2 < (a0.size : Int) := of_decide_eq_true zz46; have hx19 := bt_at a0 x8_2; replace p19 := eq_true p19; replace q19 := eq_true q19; go_wp2
            go_ret2
            exact ⟨zz47, zz43⟩
           rw [if_neg c20] at H; have c20b0 : decide ((wrap64 (bt a0 x8_2)) < 128) = false := decide_eq_false c20; clear c20; by_cases c21 : (wrap64 (bt a0 x8_2)) ≥ 192
           ·
            rw [if_pos c21] at H; have c21b0 : decide (192 ≤ (wrap64 (bt a0 x8_2))) = true := decide_eq_true c21; clear c21; simp only [Option.some.injEq, Prod.mk.injEq] at H; obtain ⟨rfl, rfl⟩ := H; have p19 : 0 ≤ (x8_2 : Int) := of_decide_eq_true zz46; have q19 : x8_2 < (a0.size : Int) := of_decide_eq_true zz46; have hx19 := bt_at a0 x8_2; replace p19 := eq_true p19; replace q19 := eq_true q19; go_wp2
            go_ret2
            exact ⟨zz47, zz43⟩
           rw [if_neg c21] at H; have c21b0 : decide (192 ≤ (wrap64 (bt a0 x8_2))) = false := decide_eq_false c21; clear c21; have H' := Aside0.mk H; clear H; have p19 : 0 ≤ (x8_2 : Int) := of_decide_eq_true zz46; have q19 : x8_2 < (a0.size : Int) := of_decide_eq_true zz46; have hx19 := bt_at a0 x8_2; replace p19 := eq_true p19; replace q19 := eq_true q19; go_wp2
           go_roundg k2
           case measure => have := HJ3.out; have := HK2.out; omega
           case rel => exact ⟨(wrap64 ((wrap64 ((wrap64 (x7_2 * 64)) + (wrap64 (bt a0 x8_2)))) - 128)), (wrap64 (x8_2 + 1)), zz47, zz47, H', ⟨by have := HJ3.out; have := HK2.out; omega⟩, zz43⟩
          rw [if_neg c18] at H; exact absurd H (by simp)
         rw [if_neg c17] at H; exact absurd H (by simp)
        rw [if_neg c16] at H; have c16b0 : decide (x8_2 < x5_3) = false := decide_eq_false c16; clear c16; by_cases c22 : x7_2 < x6_3
        ·
         rw [if_pos c22] at H; have c22b0 : decide (x7_2 < x6_3) = true := decide_eq_true c22; clear c22; simp only [Option.some.injEq, Prod.mk.injEq] at H; obtain ⟨rfl, rfl⟩ := H; go_wp2
         go_ret2
         exact ⟨zz47, zz43⟩
        rw [if_neg c22] at H; have c22b0 : decide (x7_2 < x6_3) = false := decide_eq_false c22; clear c22; replace H := Option.bind_eq_some_iff.mp H; obtain ⟨t199, A230, H⟩ := H; replace H : (if t199 = true then (some (x7_2, x5_3)) else (some (0, 0))) = some (r1, r2) := H; have A23 := Aside0.mk A230; clear A230; by_cases c24 : t199 = true
        ·
         subst c24; have H1 : (some (x7_2, x5_3)) = some (r1, r2) := by rw [if_pos rfl] at H; exact H
         clear H; have H := H1; clear H1; simp only [Option.some.injEq, Prod.mk.injEq] at H; obtain ⟨rfl, rfl⟩ := H; go_wp2_with (first | (go_at_call 69; (with_reducible refine (fairwayref1_good.calls x7_2 true _ A23.out).mono ?_); rintro e w' ⟨rfl, ⟨nd, rfl⟩⟩))
         go_ret2
         exact ⟨zz47, zz43⟩
        replace c24 := Bool.eq_false_iff.mpr c24; subst c24; have H1 : (some (0, 0)) = some (r1, r2) := by rw [if_neg (show ¬ (false = true) by decide)] at H; exact H
        clear H; have H := H1; clear H1; simp only [Option.some.injEq, Prod.mk.injEq] at H; obtain ⟨rfl, rfl⟩ := H; go_wp2_with (first | (go_at_call 69; (with_reducible refine (fairwayref1_good.calls x7_2 false _ A23.out).mono ?_); rintro e w' ⟨rfl, ⟨nd, rfl⟩⟩))
        go_ret2
        exact ⟨zz47, zz43⟩
 rw [if_neg c2] at H; exact absurd H (by simp)
def fairwayref1_Text.l0 : Nat → ByteArray → Option (Int)
  | 0, _ => none
  | k + 1, x0 => if (x0.size : Int) > 0 then ((fairwayref1_point.f k x0).bind fun bt200 => (if bt200.2 = 0 then (some 8) else (if 0 ≤ bt200.2 then (if bt200.2 ≤ (x0.size : Int) then (fairwayref1_Text.l0 k (x0.extract (bt200.2 : Int).toNat x0.size)) else (none)) else (none)))) else (some 0)
def fairwayref1_Text.f (k : Nat) (a0 : ByteArray) : Option (Int) := if (a0.size : Int) > 1024 then (some 2) else (fairwayref1_Text.l0 k a0)
theorem fairwayref1_Text.mono_l : ∀ k, (∀ y0, LeO (fairwayref1_Text.l0 k y0) (fairwayref1_Text.l0 (k + 1) y0))
 | 0 => fun _ r h => by simp [fairwayref1_Text.l0] at h
 | k + 1 => by
  have ih0 := fairwayref1_Text.mono_l k
  ·
   intro y0
   unfold fairwayref1_Text.l0; repeat' first
   | (with_reducible exact ih0 _)
   | (with_reducible exact fairwayref1_point.mono _ _)
   | (with_reducible exact LeO.refl _)
   | (with_reducible exact LeO.none _)
   | (with_reducible refine LeO.ite ?_ ?_)
   | (with_reducible refine LeO.bind ?_ (fun _ => ?_))
   | exact ih0 _
   | exact fairwayref1_point.mono _ _
   | exact LeO.none _
   | refine LeO.ite ?_ ?_
   | refine LeO.bind ?_ (fun _ => ?_)
theorem fairwayref1_Text.mono : ∀ a0 k, LeO (fairwayref1_Text.f k a0) (fairwayref1_Text.f (k + 1) a0) := by
 intro a0 k
 have ih0 := fairwayref1_Text.mono_l k; unfold fairwayref1_Text.f; repeat' first
   | (with_reducible exact ih0 _)
   | (with_reducible exact fairwayref1_point.mono _ _)
   | (with_reducible exact LeO.refl _)
   | (with_reducible exact LeO.none _)
   | (with_reducible refine LeO.ite ?_ ?_)
   | (with_reducible refine LeO.bind ?_ (fun _ => ?_))
   | exact ih0 _
   | exact fairwayref1_point.mono _ _
   | exact LeO.none _
   | refine LeO.ite ?_ ?_
   | refine LeO.bind ?_ (fun _ => ?_)
set_option maxHeartbeats 8000000 in
set_option maxRecDepth 100000 in
theorem fairwayref1_Text.calls (k : Nat) (a0 : ByteArray) (r : Int) (w : World) (h : fairwayref1_Text.f k a0 = some r) :
  Calls Tryd.prog 44 #[.string a0] w fun e w' => e = .returned (.int .i64 r) ∧ Drawn0 w w' := by
 have H : (if (a0.size : Int) > 1024 then (some 2) else (fairwayref1_Text.l0 k a0)) = some r := h; clear h; by_cases c2 : (a0.size : Int) > 1024
 ·
  rw [if_pos c2] at H; have c2b0 : decide (1024 < (a0.size : Int)) = true := decide_eq_true c2; have c2b1 : decide (1024 < a0.size) = true := decide_eq_true (by omega); clear c2; obtain rfl := Option.some.inj H; go_enter Tryd.func44, Tryd.ntmps44
  go_wp2
  go_ret
  exact ⟨zz47, zz43⟩
 rw [if_neg c2] at H; have c2b0 : decide (1024 < (a0.size : Int)) = false := decide_eq_false c2; have c2b1 : decide (1024 < a0.size) = false := decide_eq_false (by omega); clear c2; have H' := Aside0.mk H; clear H; go_enter Tryd.func44, Tryd.ntmps44
 go_wp2
 go_loopg [0] k (fun kq v0 w' => ∃ (x0_1 : ByteArray), v0 = .string x0_1 ∧ Aside0 (fairwayref1_Text.l0 kq x0_1 = some r) ∧ Aside0 (kq ≤ k) ∧ Drawn0 w w')
 case atStart => exact ⟨(a0), zz47, H', ⟨Nat.le_refl _⟩, zz43⟩
 case round =>
  clear H'; (try clear c2); (try clear c2b0); (try clear c2b1); (try clear p2); obtain ⟨x0_1, rfl, HA, HK1, ⟨m1, rfl⟩⟩ := hrel; cases gk with
  | zero => exact absurd HA.out (by simp [fairwayref1_Text.l0])
  | succ k1 =>
   have H := HA.out; clear HA; simp only [fairwayref1_Text.l0] at H; by_cases c3 : (x0_1.size : Int) > 0
   ·
    rw [if_pos c3] at H; have c3b0 : decide (0 < (x0_1.size : Int)) = true := decide_eq_true c3; have c3b1 : decide (0 < x0_1.size) = true := decide_eq_true (by omega); clear c3; replace H := Option.bind_eq_some_iff.mp H; obtain ⟨⟨t200, t201⟩, A40, H⟩ := H; replace H : (if t201 = 0 then (some 8) else (if 0 ≤ t201 then (if t201 ≤ (x0_1.size : Int) then (fairwayref1_Text.l0 k1 (x0_1.extract (t201 : Int).toNat x0_1.size)) else (none)) else (none))) = some r := H; have A4 := Aside0.mk A40; clear A40; by_cases c5 : t201 = 0
    ·
     rw [if_pos c5] at H; have c5b0 : (t201 == 0) = true := beq_iff_eq.mpr c5; have c5b1 : (t201 != 0) = false := bne_eq_false_iff_eq.mpr c5; clear c5; obtain rfl := Option.some.inj H; go_wp2_with (first | ((with_reducible refine gate_callee (f := 60) rfl ?_); refine goesL_ (some 13) rfl rfl Tryd.func60 zz49 rfl #[.string x0_1] rfl zz20 ?_; (with_reducible refine (fairwayref1_point.calls k1 x0_1 t200 t201 _ A4.out).mono ?_); rintro e w' ⟨rfl, ⟨nd, rfl⟩⟩; refine ⟨_, rfl, ?_⟩))
     go_ret
     exact ⟨zz47, zz43⟩
    rw [if_neg c5] at H; have c5b0 : (t201 == 0) = false := beq_eq_false_iff_ne.mpr c5; have c5b1 : (t201 != 0) = true := bne_iff_ne.mpr c5; by_cases c6 : 0 ≤ t201
    ·
     rw [if_pos c6] at H; have c6b0 := eq_true c6; have c6b1 : decide (0 ≤ t201) = true := decide_eq_true c6; clear c6; by_cases c7 : t201 ≤ (x0_1.size : Int)
     ·
      rw [if_pos c7] at H; have c7b0 := eq_true c7; have c7b1 : decide (t201 ≤ (x0_1.size : Int)) = true := decide_eq_true c7; clear c7; have H' := Aside0.mk H; clear H; go_wp2_with (first | ((with_reducible refine gate_callee (f := 60) rfl ?_); refine goesL_ (some 13) rfl rfl Tryd.func60 zz49 rfl #[.string x0_1] rfl zz20 ?_; (with_reducible refine (fairwayref1_point.calls k1 x0_1 t200 t201 _ A4.out).mono ?_); rintro e w' ⟨rfl, ⟨nd, rfl⟩⟩; refine ⟨_, rfl, ?_⟩))
      go_roundg k1
      case measure => have := HK1.out; omega
      case rel => exact ⟨(x0_1.extract (t201 : Int).toNat x0_1.size), zz47, H', ⟨by have := HK1.out; omega⟩, zz43⟩
     rw [if_neg c7] at H; exact absurd H (by simp)
    rw [if_neg c6] at H; exact absurd H (by simp)
   rw [if_neg c3] at H; have c3b0 : decide (0 < (x0_1.size : Int)) = false := decide_eq_false c3; have c3b1 : decide (0 < x0_1.size) = false := decide_eq_false (by omega); clear c3; obtain rfl := Option.some.inj H; go_wp2
   go_ret
   exact ⟨zz47, zz43⟩
end Go.Proofs.YtiancopplinpcaaDoor.P
end
section
namespace Go.Proofs.YtiancopplinpcaaDoor.P
open Go.RowKit Go.Proofs.YtiancopplinpcaaDoorW.PrintWords Go.Proofs.YtiancopplinpcaaDoorW.PrintLast Go.Proofs.YtiancopplinpcaaDoorW.PrintMore
attribute [local go_sem] max2_int min2_int max_two min_two max_three min_three max_four min_four
set_option linter.unusedVariables false
set_option linter.unusedSimpArgs false
def fairwayref4_fits.j0 : Nat → Int → Int → Bool → Int → Int → ByteArray → ByteArray → Option (Bool)
  | 0, _, _, _, _, _, _, _ => none
  | k + 1, x3, x8, x9, x203000, x203001, x203002, x203003 => if x9 = true then ((some (([0, 1, 65535, 4294967295, 268435455] : List Int) : List Int)).bind fun y204 => (if 0 ≤ x3 then (if x3 < (y204.length : Int) then (if x203000 = 33 then (if x203001 = 0 then (some false) else ((fairwayref0_Num.f x203001 (rd y204 x3)).bind fun t208 => (if t208 = true then (if x203002.toList = ([] : List UInt8) then (some (x203003.toList == ([] : List UInt8))) else (some false)) else (some false)))) else (if x203000 = 35 then (if x203001 = 0 then (some false) else ((fairwayref0_Num.f x203001 (rd y204 x3)).bind fun t209 => (if t209 = true then (if x203002.toList = ([] : List UInt8) then (some (x203003.toList == ([] : List UInt8))) else (some false)) else (some false)))) else (if x203000 = 39 then (if x203001 = 0 then (some false) else ((fairwayref0_Num.f x203001 (rd y204 x3)).bind fun t210 => (if t210 = true then (if x203002.toList = ([] : List UInt8) then (some (x203003.toList == ([] : List UInt8))) else (some false)) else (some false)))) else (if x203000 = 11 then (if x203001 = 0 then (some false) else ((fairwayref0_Num.f x203001 (rd y204 x3)).bind fun t211 => (if t211 = true then (if x203002.toList = ([] : List UInt8) then (some (x203003.toList == ([] : List UInt8))) else (some false)) else (some false)))) else ((fairwayref0_Num.f x203001 (rd y204 x3)).bind fun t212 => (if t212 = true then (if x203002.toList = ([] : List UInt8) then (some (x203003.toList == ([] : List UInt8))) else (some false)) else (some false))))))) else (none)) else (none))) else (if x8 = 5 then (if x203001 = 0 then (if x203003.toList = ([] : List UInt8) then ((fairwayref1_Text.f k x203002).bind fun t213 => (some (t213 == 0))) else (some false)) else (some false)) else (if x8 = 6 then (if x203001 = 0 then (if x203003.toList = ([] : List UInt8) then (some (decide ((x203002.size : Int) ≤ 1024))) else (some false)) else (some false)) else (if x8 = 7 then (if x203001 = 0 then ((fairwayref1_Text.f k x203002).bind fun t214 => (if t214 = 0 then ((fairwayref1_Text.f k x203003).bind fun t215 => (some (t215 == 0))) else (some false))) else (some false)) else (some false))))
def fairwayref4_fits.f (k : Nat) (a0_0 : Int) (a0_1 : Int) (a0_2 : ByteArray) (a0_3 : ByteArray) : Option (Bool) := (fairwayref4_Kind.f k a0_0).bind fun t203 => (if t203 = 1 then (fairwayref4_fits.j0 k t203 t203 (t203 == 1) a0_0 a0_1 a0_2 a0_3) else (if t203 = 2 then (fairwayref4_fits.j0 k t203 t203 (t203 == 2) a0_0 a0_1 a0_2 a0_3) else (if t203 = 3 then (fairwayref4_fits.j0 k t203 t203 (t203 == 3) a0_0 a0_1 a0_2 a0_3) else (fairwayref4_fits.j0 k t203 t203 (t203 == 4) a0_0 a0_1 a0_2 a0_3))))
theorem fairwayref4_fits.mono_l : ∀ k, (∀ y0 y1 y2 y3 y4 y5 y6, LeO (fairwayref4_fits.j0 k y0 y1 y2 y3 y4 y5 y6) (fairwayref4_fits.j0 (k + 1) y0 y1 y2 y3 y4 y5 y6))
 | 0 => fun _ _ _ _ _ _ _ r h => by simp [fairwayref4_fits.j0] at h
 | k + 1 => by
  have ih0 := fairwayref4_fits.mono_l k
  ·
   intro y0 y1 y2 y3 y4 y5 y6
   unfold fairwayref4_fits.j0; repeat' first
   | (with_reducible exact ih0 _ _ _ _ _ _ _)
   | (with_reducible exact fairwayref1_Text.mono _ _)
   | (with_reducible exact fairwayref4_Kind.mono _ _)
   | (with_reducible exact LeO.refl _)
   | (with_reducible exact LeO.none _)
   | (with_reducible refine LeO.ite ?_ ?_)
   | (with_reducible refine LeO.bind ?_ (fun _ => ?_))
   | exact ih0 _ _ _ _ _ _ _
   | exact fairwayref1_Text.mono _ _
   | exact fairwayref4_Kind.mono _ _
   | exact LeO.none _
   | refine LeO.ite ?_ ?_
   | refine LeO.bind ?_ (fun _ => ?_)
theorem fairwayref4_fits.mono : ∀ a0 a1 a2 a3 k, LeO (fairwayref4_fits.f k a0 a1 a2 a3) (fairwayref4_fits.f (k + 1) a0 a1 a2 a3) := by
 intro a0 a1 a2 a3 k
 have ih0 := fairwayref4_fits.mono_l k; unfold fairwayref4_fits.f; repeat' first
   | (with_reducible exact ih0 _ _ _ _ _ _ _)
   | (with_reducible exact fairwayref1_Text.mono _ _)
   | (with_reducible exact fairwayref4_Kind.mono _ _)
   | (with_reducible exact LeO.refl _)
   | (with_reducible exact LeO.none _)
   | (with_reducible refine LeO.ite ?_ ?_)
   | (with_reducible refine LeO.bind ?_ (fun _ => ?_))
   | exact ih0 _ _ _ _ _ _ _
   | exact fairwayref1_Text.mono _ _
   | exact fairwayref4_Kind.mono _ _
   | exact LeO.none _
   | refine LeO.ite ?_ ?_
   | refine LeO.bind ?_ (fun _ => ?_)
set_option maxHeartbeats 8000000 in
set_option maxRecDepth 100000 in
theorem fairwayref4_fits.calls (k : Nat) (a0_0 : Int) (a0_1 : Int) (a0_2 : ByteArray) (a0_3 : ByteArray) (r : Bool) (w : World) (h : fairwayref4_fits.f k a0_0 a0_1 a0_2 a0_3 = some r) :
  Calls Tryd.prog 30 #[.agg #[.int .i64 a0_0, .int .i64 a0_1, .string a0_2, .string a0_3]] w fun e w' => e = .returned (.bool r) ∧ Below w.heap.size w w' := by
 have hu42 := Tryd.underlying42; have HB := Aside0.mk (Below.refl w.heap.size w); have H : ((fairwayref4_Kind.f k a0_0).bind fun t203 => (if t203 = 1 then (fairwayref4_fits.j0 k t203 t203 (t203 == 1) a0_0 a0_1 a0_2 a0_3) else (if t203 = 2 then (fairwayref4_fits.j0 k t203 t203 (t203 == 2) a0_0 a0_1 a0_2 a0_3) else (if t203 = 3 then (fairwayref4_fits.j0 k t203 t203 (t203 == 3) a0_0 a0_1 a0_2 a0_3) else (fairwayref4_fits.j0 k t203 t203 (t203 == 4) a0_0 a0_1 a0_2 a0_3))))) = some r := h; clear h; replace H := Option.bind_eq_some_iff.mp H; obtain ⟨t203, A20, H⟩ := H; replace H : (if t203 = 1 then (fairwayref4_fits.j0 k t203 t203 (t203 == 1) a0_0 a0_1 a0_2 a0_3) else (if t203 = 2 then (fairwayref4_fits.j0 k t203 t203 (t203 == 2) a0_0 a0_1 a0_2 a0_3) else (if t203 = 3 then (fairwayref4_fits.j0 k t203 t203 (t203 == 3) a0_0 a0_1 a0_2 a0_3) else (fairwayref4_fits.j0 k t203 t203 (t203 == 4) a0_0 a0_1 a0_2 a0_3)))) = some r := H; have A2 := Aside0.mk A20; clear A20; have HC3 := Aside0.mk H; clear H; go_enter Tryd.func30, Tryd.ntmps30
 go_upto_if 9 with (first | ((with_reducible refine gate_dst (N := 1) rfl ?_); (try (refine gate_guard (by rfl) ?_; dsimp only)); refine box_event ?hg (N := 1) ?hd (cs := #[.int .i64 a0_0, .int .i64 a0_1, .string a0_2, .string a0_3]) (t := 42) ?hr ?_; (case hd => rfl); (case hg => rfl); (case hr => first | (go_simp; done) | (go_simp; rfl)); intro gb202 hg w4 hbox hb; have n0_ := Aside0.mk (below_step zz21 hb); have n1_ := Aside0.mk (hbox); have n2_ := Aside0.mk ((by rw [hg]; exact (below_size zz21) : w.heap.size ≤ gb202)); have n3_ := Aside0.mk ((by rw [hg]; exact (below_size zz21) : w.heap.size ≤ gb202)); clear HB; have HB := n0_; have BK202 := n1_; have GW202 := n2_; have GE202 := n3_; clear n0_ n1_ n2_ n3_; clear hb hbox hg; have hcz5_0 : w4.cell? ⟨gb202, 0, none⟩ = some (.int .i64 a0_0) := (blk_cell BK202.out 0).trans rfl; have hcz5_1 : w4.cell? ⟨gb202, 1, none⟩ = some (.int .i64 a0_1) := (blk_cell BK202.out 1).trans rfl; have hcz5_2 : w4.cell? ⟨gb202, 2, none⟩ = some (.string a0_2) := (blk_cell BK202.out 2).trans rfl; have hcz5_3 : w4.cell? ⟨gb202, 3, none⟩ = some (.string a0_3) := (blk_cell BK202.out 3).trans rfl; have hfz5_0 := blk_frozen BK202.out 0; have hfz5_1 := blk_frozen BK202.out 1; have hfz5_2 := blk_frozen BK202.out 2; have hfz5_3 := blk_frozen BK202.out 3) | ((with_reducible refine gate_callee (f := 12) rfl ?_); refine goesL_ (some 7) rfl rfl Tryd.func12 zz49 rfl #[.int .i64 a0_0] rfl zz20 ?_; (with_reducible refine (fairwayref4_Kind.calls k a0_0 t203 _ A2.out).mono ?_); rintro e w' ⟨rfl, ⟨nd, rfl⟩⟩; refine ⟨_, rfl, ?_⟩))
 (try simp only [Act.put, List.setIfInBounds_toArray, List.set_cons_zero, List.set_cons_succ])
 go_cut [9] (fun v9 wc => ∃ (kq : Nat) (x9_2 : Bool), v9 = .bool x9_2 ∧ Aside0 (fairwayref4_fits.j0 kq t203 t203 x9_2 a0_0 a0_1 a0_2 a0_3 = some r) ∧ Aside0 (kq ≤ k) ∧ Aside0 (wc.heap[gb202]? = some (.cells #[.int .i64 a0_0, .int .i64 a0_1, .string a0_2, .string a0_3] 42 (0, 0))) ∧ Aside0 (Below w.heap.size w wc))
 case first =>
  have H := HC3.out; clear HC3; by_cases c6 : t203 = 1
  ·
   rw [if_pos c6] at H; have c6b0 : (t203 == 1) = true := beq_iff_eq.mpr c6; have c6b1 : (t203 != 1) = false := bne_eq_false_iff_eq.mpr c6; clear c6; (first | rw [c6b0] | (simp only [i64_w, i32_w]; rw [c6b0]) | skip)
   have H' := Aside0.mk H; clear H; go_wp2
   go_meet
   case rel => exact ⟨_, ((t203 == 1)), zz47, H', ⟨zz48⟩, ⟨zz26⟩, ⟨zz12⟩⟩
  rw [if_neg c6] at H; have c6b0 : (t203 == 1) = false := beq_eq_false_iff_ne.mpr c6; have c6b1 : (t203 != 1) = true := bne_iff_ne.mpr c6; (first | rw [c6b0] | (simp only [i64_w, i32_w]; rw [c6b0]) | skip)
  by_cases c7 : t203 = 2
  ·
   rw [if_pos c7] at H; have c7b0 : (t203 == 2) = true := beq_iff_eq.mpr c7; have c7b1 : (t203 != 2) = false := bne_eq_false_iff_eq.mpr c7; clear c7; have H' := Aside0.mk H; clear H; go_wp2
   go_meet
   case rel => exact ⟨_, ((t203 == 2)), zz47, H', ⟨zz48⟩, ⟨zz26⟩, ⟨zz12⟩⟩
  rw [if_neg c7] at H; have c7b0 : (t203 == 2) = false := beq_eq_false_iff_ne.mpr c7; have c7b1 : (t203 != 2) = true := bne_iff_ne.mpr c7; by_cases c8 : t203 = 3
  ·
   rw [if_pos c8] at H; have c8b0 : (t203 == 3) = true := beq_iff_eq.mpr c8; have c8b1 : (t203 != 3) = false := bne_eq_false_iff_eq.mpr c8; clear c8; have H' := Aside0.mk H; clear H; go_wp2
   go_meet
   case rel => exact ⟨_, ((t203 == 3)), zz47, H', ⟨zz48⟩, ⟨zz26⟩, ⟨zz12⟩⟩
  rw [if_neg c8] at H; have c8b0 : (t203 == 3) = false := beq_eq_false_iff_ne.mpr c8; have c8b1 : (t203 != 3) = true := bne_iff_ne.mpr c8; have H' := Aside0.mk H; clear H; go_wp2
  go_meet
  case rel => exact ⟨_, ((t203 == 4)), zz47, H', ⟨zz48⟩, ⟨zz26⟩, ⟨zz12⟩⟩
 case rest =>
  as_aux_lemma =>
   clear HC3; (try clear c1); (try clear p2); (try clear c3); (try clear c6); (try clear c6b0); (try clear c6b1); (try clear c7); (try clear c7b0); (try clear c7b1); (try clear c8); (try clear c8b0); (try clear c8b1); (try clear hcz5_0); (try clear hcz5_1); (try clear hcz5_2); (try clear hcz5_3); (try clear hfz5_0); (try clear hfz5_1); (try clear hfz5_2); (try clear hfz5_3); obtain ⟨kq, x9_2, rfl, HA, HJ2, BK202, HB⟩ := hcut; cases kq with
   | zero => exact absurd HA.out (by simp [fairwayref4_fits.j0])
   | succ kj2 =>
    have H := HA.out; clear HA; simp only [fairwayref4_fits.j0] at H; by_cases c9 : x9_2 = true
    ·
     subst c9; have H1 : ((some (([0, 1, 65535, 4294967295, 268435455] : List Int) : List Int)).bind fun y204 => (if 0 ≤ t203 then (if t203 < (y204.length : Int) then (if a0_0 = 33 then (if a0_1 = 0 then (some false) else ((fairwayref0_Num.f a0_1 (rd y204 t203)).bind fun t208 => (if t208 = true then (if a0_2.toList = ([] : List UInt8) then (some (a0_3.toList == ([] : List UInt8))) else (some false)) else (some false)))) else (if a0_0 = 35 then (if a0_1 = 0 then (some false) else ((fairwayref0_Num.f a0_1 (rd y204 t203)).bind fun t209 => (if t209 = true then (if a0_2.toList = ([] : List UInt8) then (some (a0_3.toList == ([] : List UInt8))) else (some false)) else (some false)))) else (if a0_0 = 39 then (if a0_1 = 0 then (some false) else ((fairwayref0_Num.f a0_1 (rd y204 t203)).bind fun t210 => (if t210 = true then (if a0_2.toList = ([] : List UInt8) then (some (a0_3.toList == ([] : List UInt8))) else (some false)) else (some false)))) else (if a0_0 = 11 then (if a0_1 = 0 then (some false) else ((fairwayref0_Num.f a0_1 (rd y204 t203)).bind fun t211 => (if t211 = true then (if a0_2.toList = ([] : List UInt8) then (some (a0_3.toList == ([] : List UInt8))) else (some false)) else (some false)))) else ((fairwayref0_Num.f a0_1 (rd y204 t203)).bind fun t212 => (if t212 = true then (if a0_2.toList = ([] : List UInt8) then (some (a0_3.toList == ([] : List UInt8))) else (some false)) else (some false))))))) else (none)) else (none))) = some r := by rw [if_pos rfl] at H; exact H
     clear H; have H := H1; clear H1; obtain ⟨y204, hy204⟩ : ∃ y_ : List Int, y_ = (([0, 1, 65535, 4294967295, 268435455] : List Int)) := ⟨_, rfl⟩; replace H : (if 0 ≤ t203 then (if t203 < (y204.length : Int) then (if a0_0 = 33 then (if a0_1 = 0 then (some false) else ((fairwayref0_Num.f a0_1 (rd y204 t203)).bind fun t208 => (if t208 = true then (if a0_2.toList = ([] : List UInt8) then (some (a0_3.toList == ([] : List UInt8))) else (some false)) else (some false)))) else (if a0_0 = 35 then (if a0_1 = 0 then (some false) else ((fairwayref0_Num.f a0_1 (rd y204 t203)).bind fun t209 => (if t209 = true then (if a0_2.toList = ([] : List UInt8) then (some (a0_3.toList == ([] : List UInt8))) else (some false)) else (some false)))) else (if a0_0 = 39 then (if a0_1 = 0 then (some false) else ((fairwayref0_Num.f a0_1 (rd y204 t203)).bind fun t210 => (if t210 = true then (if a0_2.toList = ([] : List UInt8) then (some (a0_3.toList == ([] : List UInt8))) else (some false)) else (some false)))) else (if a0_0 = 11 then (if a0_1 = 0 then (some false) else ((fairwayref0_Num.f a0_1 (rd y204 t203)).bind fun t211 => (if t211 = true then (if a0_2.toList = ([] : List UInt8) then (some (a0_3.toList == ([] : List UInt8))) else (some false)) else (some false)))) else ((fairwayref0_Num.f a0_1 (rd y204 t203)).bind fun t212 => (if t212 = true then (if a0_2.toList = ([] : List UInt8) then (some (a0_3.toList == ([] : List UInt8))) else (some false)) else (some false))))))) else (none)) else (none)) = some r := by first | (rw [hy204]; with_reducible exact H) | (have H2_ := (Option.bind_some _ _).symm.trans H; rw [hy204]; with_reducible exact H2_) | (have H2_ := (Option.bind_some _ _).symm.trans H; with_reducible exact H2_) | with_reducible exact H | (rw [hy204]; exact H) | exact H
     have Ny204 := Aside0.mk hy204; clear hy204; by_cases c10 : 0 ≤ t203
     ·
      rw [if_pos c10] at H; have c10b0 : decide (0 ≤ t203) = true := decide_eq_true c10; clear c10; by_cases c11 : t203 < (y204.length : Int)
      ·
       rw [if_pos c11] at H; have c11b0 : decide (t203 < (y204.length : Int)) = true := decide_eq_true c11; clear c11; by_cases c12 : a0_0 = 33
       ·
        rw [if_pos c12] at H; have c12b0 : (a0_0 == 33) = true := beq_iff_eq.mpr c12; have c12b1 : (a0_0 != 33) = false := bne_eq_false_iff_eq.mpr c12; clear c12; by_cases c13 : a0_1 = 0
        ·
         rw [if_pos c13] at H; have c13b0 : (a0_1 == 0) = true := beq_iff_eq.mpr c13; have c13b1 : (a0_1 != 0) = false := bne_eq_false_iff_eq.mpr c13; clear c13; obtain rfl := Option.some.inj H; go_wp2_with (first | ((with_reducible refine gate_dst (N := 14) rfl ?_); (try (refine gate_guard (by rfl) ?_; dsimp only)); refine Kd.R_lit (Kd.int .i64) _ 3 ?hg (N := 14) ?hd (xs := ([0, 1, 65535, 4294967295, 268435455] : List Int)) (inner := [.int .i64 0, .int .i64 1, .int .i64 65535, .int .i64 4294967295, .int .i64 268435455]) (ok := fun _ => True) (okp := fun _ => True) ?hr ?hp (fun _ hk => hk) trivial (Below.refl _ _) (Nat.le_refl _) (by simp) ?_; (case hd => rfl); (case hg => rfl); (case hr => first | (go_simp; done) | (go_simp; rfl)); (case hp => exact (Reps.one (show Kd.M (Kd.int .i64) _ _ _ 0 [.int .i64 0] from rfl) (Reps.one (show Kd.M (Kd.int .i64) _ _ _ 1 [.int .i64 1] from rfl) (Reps.one (show Kd.M (Kd.int .i64) _ _ _ 65535 [.int .i64 65535] from rfl) (Reps.one (show Kd.M (Kd.int .i64) _ _ _ 4294967295 [.int .i64 4294967295] from rfl) (Reps.one (show Kd.M (Kd.int .i64) _ _ _ 268435455 [.int .i64 268435455] from rfl) (Reps.none _ _))))))); intro v205 w14 ho15 hb hg_ hnew_; clear hg_ hnew_; (first | rw [← Ny204.out] at ho15 | (simp only [Int.reduceToNat] at ho15; rw [← Ny204.out] at ho15)); have n0_ := Aside0.mk (Kd.R_lower ho15 (below_size zz12)); have n1_ := Aside0.mk (blk_below (g := gb202) (o := .cells #[.int .i64 a0_0, .int .i64 a0_1, .string a0_2, .string a0_3] 42 (0, 0)) zz26 hb); have n2_ := Aside0.mk (below_step zz12 hb); clear BK202; clear HB; have HO206 := n0_; have BK202 := n1_; have HB := n2_; clear n0_ n1_ n2_; clear hb ho15; obtain ⟨Ao16, co16, eo16⟩ := Kd.R_slice HO206.out; subst eo16; have p207 : 0 ≤ (t203 : Int) := of_decide_eq_true zz46; have q207 : t203 < (y204.length : Int) := of_decide_eq_true zz46; obtain ⟨ad207, e207, hx207_0⟩ := Kd.at_int (Kd.R_reads' HO206.out).2.2 t203 p207 q207; cases e207; replace p207 := eq_true p207; replace q207 := eq_true q207; have hcz17_0 : w14.cell? ⟨gb202, 0, none⟩ = some (.int .i64 a0_0) := (blk_cell BK202.out 0).trans rfl; have hcz17_1 : w14.cell? ⟨gb202, 1, none⟩ = some (.int .i64 a0_1) := (blk_cell BK202.out 1).trans rfl; have hcz17_2 : w14.cell? ⟨gb202, 2, none⟩ = some (.string a0_2) := (blk_cell BK202.out 2).trans rfl; have hcz17_3 : w14.cell? ⟨gb202, 3, none⟩ = some (.string a0_3) := (blk_cell BK202.out 3).trans rfl; have hfz17_0 := blk_frozen BK202.out 0; have hfz17_1 := blk_frozen BK202.out 1; have hfz17_2 := blk_frozen BK202.out 2; have hfz17_3 := blk_frozen BK202.out 3))
         go_ret
         exact ⟨zz40, zz12⟩
        rw [if_neg c13] at H; have c13b0 : (a0_1 == 0) = false := beq_eq_false_iff_ne.mpr c13; have c13b1 : (a0_1 != 0) = true := bne_iff_ne.mpr c13; replace H := Option.bind_eq_some_iff.mp H; obtain ⟨t208, A180, H⟩ := H; replace H : (if t208 = true then (if a0_2.toList = ([] : List UInt8) then (some (a0_3.toList == ([] : List UInt8))) else (some false)) else (some false)) = some r := H; have A18 := Aside0.mk A180; clear A180; by_cases c19 : t208 = true
        ·
         subst c19; have H1 : (if a0_2.toList = ([] : List UInt8) then (some (a0_3.toList == ([] : List UInt8))) else (some false)) = some r := by rw [if_pos rfl] at H; exact H
         clear H; have H := H1; clear H1; by_cases c20 : a0_2.toList = ([] : List UInt8)
         ·
          rw [if_pos c20] at H; have c20b0 : (a0_2.toList == ([] : List UInt8)) = true := beq_iff_eq.mpr c20; have c20b1 : (a0_2.toList != ([] : List UInt8)) = false := bne_eq_false_iff_eq.mpr c20; clear c20; obtain rfl := Option.some.inj H; go_wp2_with (first | ((with_reducible refine gate_dst (N := 14) rfl ?_); (try (refine gate_guard (by rfl) ?_; dsimp only)); refine Kd.R_lit (Kd.int .i64) _ 3 ?hg (N := 14) ?hd (xs := ([0, 1, 65535, 4294967295, 268435455] : List Int)) (inner := [.int .i64 0, .int .i64 1, .int .i64 65535, .int .i64 4294967295, .int .i64 268435455]) (ok := fun _ => True) (okp := fun _ => True) ?hr ?hp (fun _ hk => hk) trivial (Below.refl _ _) (Nat.le_refl _) (by simp) ?_; (case hd => rfl); (case hg => rfl); (case hr => first | (go_simp; done) | (go_simp; rfl)); (case hp => exact (Reps.one (show Kd.M (Kd.int .i64) _ _ _ 0 [.int .i64 0] from rfl) (Reps.one (show Kd.M (Kd.int .i64) _ _ _ 1 [.int .i64 1] from rfl) (Reps.one (show Kd.M (Kd.int .i64) _ _ _ 65535 [.int .i64 65535] from rfl) (Reps.one (show Kd.M (Kd.int .i64) _ _ _ 4294967295 [.int .i64 4294967295] from rfl) (Reps.one (show Kd.M (Kd.int .i64) _ _ _ 268435455 [.int .i64 268435455] from rfl) (Reps.none _ _))))))); intro v205 w21 ho22 hb hg_ hnew_; clear hg_ hnew_; (first | rw [← Ny204.out] at ho22 | (simp only [Int.reduceToNat] at ho22; rw [← Ny204.out] at ho22)); have n0_ := Aside0.mk (Kd.R_lower ho22 (below_size zz12)); have n1_ := Aside0.mk (blk_below (g := gb202) (o := .cells #[.int .i64 a0_0, .int .i64 a0_1, .string a0_2, .string a0_3] 42 (0, 0)) zz26 hb); have n2_ := Aside0.mk (below_step zz12 hb); clear BK202; clear HB; have HO206 := n0_; have BK202 := n1_; have HB := n2_; clear n0_ n1_ n2_; clear hb ho22; obtain ⟨Ao23, co23, eo23⟩ := Kd.R_slice HO206.out; subst eo23; have p207 : 0 ≤ (t203 : Int) := of_decide_eq_true zz46; have q207 : t203 < (y204.length : Int) := of_decide_eq_true zz46; obtain ⟨ad207, e207, hx207_0⟩ := Kd.at_int (Kd.R_reads' HO206.out).2.2 t203 p207 q207; cases e207; replace p207 := eq_true p207; replace q207 := eq_true q207; have hcz24_0 : w21.cell? ⟨gb202, 0, none⟩ = some (.int .i64 a0_0) := (blk_cell BK202.out 0).trans rfl; have hcz24_1 : w21.cell? ⟨gb202, 1, none⟩ = some (.int .i64 a0_1) := (blk_cell BK202.out 1).trans rfl; have hcz24_2 : w21.cell? ⟨gb202, 2, none⟩ = some (.string a0_2) := (blk_cell BK202.out 2).trans rfl; have hcz24_3 : w21.cell? ⟨gb202, 3, none⟩ = some (.string a0_3) := (blk_cell BK202.out 3).trans rfl; have hfz24_0 := blk_frozen BK202.out 0; have hfz24_1 := blk_frozen BK202.out 1; have hfz24_2 := blk_frozen BK202.out 2; have hfz24_3 := blk_frozen BK202.out 3) | ((with_reducible refine gate_callee (f := 43) rfl ?_); refine goesL_ (some 44) rfl rfl Tryd.func43 zz49 rfl #[.int .i64 a0_1, .int .i64 (rd y204 t203)] rfl zz20 ?_; (with_reducible refine (fairwayref0_Num.calls a0_1 (rd y204 t203) true _ A18.out).mono ?_); rintro e w' ⟨rfl, ⟨nd, rfl⟩⟩; refine ⟨_, rfl, ?_⟩))
          go_ret
          exact ⟨zz40, zz12⟩
         rw [if_neg c20] at H; have c20b0 : (a0_2.toList == ([] : List UInt8)) = false := beq_eq_false_iff_ne.mpr c20; have c20b1 : (a0_2.toList != ([] : List UInt8)) = true := bne_iff_ne.mpr c20; obtain rfl := Option.some.inj H; go_wp2_with (first | ((with_reducible refine gate_dst (N := 14) rfl ?_); (try (refine gate_guard (by rfl) ?_; dsimp only)); refine Kd.R_lit (Kd.int .i64) _ 3 ?hg (N := 14) ?hd (xs := ([0, 1, 65535, 4294967295, 268435455] : List Int)) (inner := [.int .i64 0, .int .i64 1, .int .i64 65535, .int .i64 4294967295, .int .i64 268435455]) (ok := fun _ => True) (okp := fun _ => True) ?hr ?hp (fun _ hk => hk) trivial (Below.refl _ _) (Nat.le_refl _) (by simp) ?_; (case hd => rfl); (case hg => rfl); (case hr => first | (go_simp; done) | (go_simp; rfl)); (case hp => exact (Reps.one (show Kd.M (Kd.int .i64) _ _ _ 0 [.int .i64 0] from rfl) (Reps.one (show Kd.M (Kd.int .i64) _ _ _ 1 [.int .i64 1] from rfl) (Reps.one (show Kd.M (Kd.int .i64) _ _ _ 65535 [.int .i64 65535] from rfl) (Reps.one (show Kd.M (Kd.int .i64) _ _ _ 4294967295 [.int .i64 4294967295] from rfl) (Reps.one (show Kd.M (Kd.int .i64) _ _ _ 268435455 [.int .i64 268435455] from rfl) (Reps.none _ _))))))); intro v205 w25 ho26 hb hg_ hnew_; clear hg_ hnew_; (first | rw [← Ny204.out] at ho26 | (simp only [Int.reduceToNat] at ho26; rw [← Ny204.out] at ho26)); have n0_ := Aside0.mk (Kd.R_lower ho26 (below_size zz12)); have n1_ := Aside0.mk (blk_below (g := gb202) (o := .cells #[.int .i64 a0_0, .int .i64 a0_1, .string a0_2, .string a0_3] 42 (0, 0)) zz26 hb); have n2_ := Aside0.mk (below_step zz12 hb); clear BK202; clear HB; have HO206 := n0_; have BK202 := n1_; have HB := n2_; clear n0_ n1_ n2_; clear hb ho26; obtain ⟨Ao27, co27, eo27⟩ := Kd.R_slice HO206.out; subst eo27; have p207 : 0 ≤ (t203 : Int) := of_decide_eq_true zz46; have q207 : t203 < (y204.length : Int) := of_decide_eq_true zz46; obtain ⟨ad207, e207, hx207_0⟩ := Kd.at_int (Kd.R_reads' HO206.out).2.2 t203 p207 q207; cases e207; replace p207 := eq_true p207; replace q207 := eq_true q207; have hcz28_0 : w25.cell? ⟨gb202, 0, none⟩ = some (.int .i64 a0_0) := (blk_cell BK202.out 0).trans rfl; have hcz28_1 : w25.cell? ⟨gb202, 1, none⟩ = some (.int .i64 a0_1) := (blk_cell BK202.out 1).trans rfl; have hcz28_2 : w25.cell? ⟨gb202, 2, none⟩ = some (.string a0_2) := (blk_cell BK202.out 2).trans rfl; have hcz28_3 : w25.cell? ⟨gb202, 3, none⟩ = some (.string a0_3) := (blk_cell BK202.out 3).trans rfl; have hfz28_0 := blk_frozen BK202.out 0; have hfz28_1 := blk_frozen BK202.out 1; have hfz28_2 := blk_frozen BK202.out 2; have hfz28_3 := blk_frozen BK202.out 3) | ((with_reducible refine gate_callee (f := 43) rfl ?_); refine goesL_ (some 44) rfl rfl Tryd.func43 zz49 rfl #[.int .i64 a0_1, .int .i64 (rd y204 t203)] rfl zz20 ?_; (with_reducible refine (fairwayref0_Num.calls a0_1 (rd y204 t203) true _ A18.out).mono ?_); rintro e w' ⟨rfl, ⟨nd, rfl⟩⟩; refine ⟨_, rfl, ?_⟩))
         go_ret
         exact ⟨zz40, zz12⟩
        replace c19 := Bool.eq_false_iff.mpr c19; subst c19; have H1 : (some false) = some r := by rw [if_neg (show ¬ (false = true) by decide)] at H; exact H
        clear H; have H := H1; clear H1; obtain rfl := Option.some.inj H; go_wp2_with (first | ((with_reducible refine gate_dst (N := 14) rfl ?_); (try (refine gate_guard (by rfl) ?_; dsimp only)); refine Kd.R_lit (Kd.int .i64) _ 3 ?hg (N := 14) ?hd (xs := ([0, 1, 65535, 4294967295, 268435455] : List Int)) (inner := [.int .i64 0, .int .i64 1, .int .i64 65535, .int .i64 4294967295, .int .i64 268435455]) (ok := fun _ => True) (okp := fun _ => True) ?hr ?hp (fun _ hk => hk) trivial (Below.refl _ _) (Nat.le_refl _) (by simp) ?_; (case hd => rfl); (case hg => rfl); (case hr => first | (go_simp; done) | (go_simp; rfl)); (case hp => exact (Reps.one (show Kd.M (Kd.int .i64) _ _ _ 0 [.int .i64 0] from rfl) (Reps.one (show Kd.M (Kd.int .i64) _ _ _ 1 [.int .i64 1] from rfl) (Reps.one (show Kd.M (Kd.int .i64) _ _ _ 65535 [.int .i64 65535] from rfl) (Reps.one (show Kd.M (Kd.int .i64) _ _ _ 4294967295 [.int .i64 4294967295] from rfl) (Reps.one (show Kd.M (Kd.int .i64) _ _ _ 268435455 [.int .i64 268435455] from rfl) (Reps.none _ _))))))); intro v205 w29 ho30 hb hg_ hnew_; clear hg_ hnew_; (first | rw [← Ny204.out] at ho30 | (simp only [Int.reduceToNat] at ho30; rw [← Ny204.out] at ho30)); have n0_ := Aside0.mk (Kd.R_lower ho30 (below_size zz12)); have n1_ := Aside0.mk (blk_below (g := gb202) (o := .cells #[.int .i64 a0_0, .int .i64 a0_1, .string a0_2, .string a0_3] 42 (0, 0)) zz26 hb); have n2_ := Aside0.mk (below_step zz12 hb); clear BK202; clear HB; have HO206 := n0_; have BK202 := n1_; have HB := n2_; clear n0_ n1_ n2_; clear hb ho30; obtain ⟨Ao31, co31, eo31⟩ := Kd.R_slice HO206.out; subst eo31; have p207 : 0 ≤ (t203 : Int) := of_decide_eq_true zz46; have q207 : t203 < (y204.length : Int) := of_decide_eq_true zz46; obtain ⟨ad207, e207, hx207_0⟩ := Kd.at_int (Kd.R_reads' HO206.out).2.2 t203 p207 q207; cases e207; replace p207 := eq_true p207; replace q207 := eq_true q207; have hcz32_0 : w29.cell? ⟨gb202, 0, none⟩ = some (.int .i64 a0_0) := (blk_cell BK202.out 0).trans rfl; have hcz32_1 : w29.cell? ⟨gb202, 1, none⟩ = some (.int .i64 a0_1) := (blk_cell BK202.out 1).trans rfl; have hcz32_2 : w29.cell? ⟨gb202, 2, none⟩ = some (.string a0_2) := (blk_cell BK202.out 2).trans rfl; have hcz32_3 : w29.cell? ⟨gb202, 3, none⟩ = some (.string a0_3) := (blk_cell BK202.out 3).trans rfl; have hfz32_0 := blk_frozen BK202.out 0; have hfz32_1 := blk_frozen BK202.out 1; have hfz32_2 := blk_frozen BK202.out 2; have hfz32_3 := blk_frozen BK202.out 3) | ((with_reducible refine gate_callee (f := 43) rfl ?_); refine goesL_ (some 44) rfl rfl Tryd.func43 zz49 rfl #[.int .i64 a0_1, .int .i64 (rd y204 t203)] rfl zz20 ?_; (with_reducible refine (fairwayref0_Num.calls a0_1 (rd y204 t203) false _ A18.out).mono ?_); rintro e w' ⟨rfl, ⟨nd, rfl⟩⟩; refine ⟨_, rfl, ?_⟩))
        go_ret
        exact ⟨zz40, zz12⟩
       rw [if_neg c12] at H; have c12b0 : (a0_0 == 33) = false := beq_eq_false_iff_ne.mpr c12; have c12b1 : (a0_0 != 33) = true := bne_iff_ne.mpr c12; by_cases c33 : a0_0 = 35
       ·
        rw [if_pos c33] at H; have c33b0 : (a0_0 == 35) = true := beq_iff_eq.mpr c33; have c33b1 : (a0_0 != 35) = false := bne_eq_false_iff_eq.mpr c33; clear c33; by_cases c34 : a0_1 = 0
        ·
         rw [if_pos c34] at H; have c34b0 : (a0_1 == 0) = true := beq_iff_eq.mpr c34; have c34b1 : (a0_1 != 0) = false := bne_eq_false_iff_eq.mpr c34; clear c34; obtain rfl := Option.some.inj H; go_wp2_with (first | ((with_reducible refine gate_dst (N := 14) rfl ?_); (try (refine gate_guard (by rfl) ?_; dsimp only)); refine Kd.R_lit (Kd.int .i64) _ 3 ?hg (N := 14) ?hd (xs := ([0, 1, 65535, 4294967295, 268435455] : List Int)) (inner := [.int .i64 0, .int .i64 1, .int .i64 65535, .int .i64 4294967295, .int .i64 268435455]) (ok := fun _ => True) (okp := fun _ => True) ?hr ?hp (fun _ hk => hk) trivial (Below.refl _ _) (Nat.le_refl _) (by simp) ?_; (case hd => rfl); (case hg => rfl); (case hr => first | (go_simp; done) | (go_simp; rfl)); (case hp => exact (Reps.one (show Kd.M (Kd.int .i64) _ _ _ 0 [.int .i64 0] from rfl) (Reps.one (show Kd.M (Kd.int .i64) _ _ _ 1 [.int .i64 1] from rfl) (Reps.one (show Kd.M (Kd.int .i64) _ _ _ 65535 [.int .i64 65535] from rfl) (Reps.one (show Kd.M (Kd.int .i64) _ _ _ 4294967295 [.int .i64 4294967295] from rfl) (Reps.one (show Kd.M (Kd.int .i64) _ _ _ 268435455 [.int .i64 268435455] from rfl) (Reps.none _ _))))))); intro v205 w35 ho36 hb hg_ hnew_; clear hg_ hnew_; (first | rw [← Ny204.out] at ho36 | (simp only [Int.reduceToNat] at ho36; rw [← Ny204.out] at ho36)); have n0_ := Aside0.mk (Kd.R_lower ho36 (below_size zz12)); have n1_ := Aside0.mk (blk_below (g := gb202) (o := .cells #[.int .i64 a0_0, .int .i64 a0_1, .string a0_2, .string a0_3] 42 (0, 0)) zz26 hb); have n2_ := Aside0.mk (below_step zz12 hb); clear BK202; clear HB; have HO206 := n0_; have BK202 := n1_; have HB := n2_; clear n0_ n1_ n2_; clear hb ho36; obtain ⟨Ao37, co37, eo37⟩ := Kd.R_slice HO206.out; subst eo37; have p207 : 0 ≤ (t203 : Int) := of_decide_eq_true zz46; have q207 : t203 < (y204.length : Int) := of_decide_eq_true zz46; obtain ⟨ad207, e207, hx207_0⟩ := Kd.at_int (Kd.R_reads' HO206.out).2.2 t203 p207 q207; cases e207; replace p207 := eq_true p207; replace q207 := eq_true q207; have hcz38_0 : w35.cell? ⟨gb202, 0, none⟩ = some (.int .i64 a0_0) := (blk_cell BK202.out 0).trans rfl; have hcz38_1 : w35.cell? ⟨gb202, 1, none⟩ = some (.int .i64 a0_1) := (blk_cell BK202.out 1).trans rfl; have hcz38_2 : w35.cell? ⟨gb202, 2, none⟩ = some (.string a0_2) := (blk_cell BK202.out 2).trans rfl; have hcz38_3 : w35.cell? ⟨gb202, 3, none⟩ = some (.string a0_3) := (blk_cell BK202.out 3).trans rfl; have hfz38_0 := blk_frozen BK202.out 0; have hfz38_1 := blk_frozen BK202.out 1; have hfz38_2 := blk_frozen BK202.out 2; have hfz38_3 := blk_frozen BK202.out 3))
         go_ret
         exact ⟨zz40, zz12⟩
        rw [if_neg c34] at H; have c34b0 : (a0_1 == 0) = false := beq_eq_false_iff_ne.mpr c34; have c34b1 : (a0_1 != 0) = true := bne_iff_ne.mpr c34; replace H := Option.bind_eq_some_iff.mp H; obtain ⟨t209, A390, H⟩ := H; replace H : (if t209 = true then (if a0_2.toList = ([] : List UInt8) then (some (a0_3.toList == ([] : List UInt8))) else (some false)) else (some false)) = some r := H; have A39 := Aside0.mk A390; clear A390; by_cases c40 : t209 = true
        ·
         subst c40; have H1 : (if a0_2.toList = ([] : List UInt8) then (some (a0_3.toList == ([] : List UInt8))) else (some false)) = some r := by rw [if_pos rfl] at H; exact H
         clear H; have H := H1; clear H1; by_cases c41 : a0_2.toList = ([] : List UInt8)
         ·
          rw [if_pos c41] at H; have c41b0 : (a0_2.toList == ([] : List UInt8)) = true := beq_iff_eq.mpr c41; have c41b1 : (a0_2.toList != ([] : List UInt8)) = false := bne_eq_false_iff_eq.mpr c41; clear c41; obtain rfl := Option.some.inj H; go_wp2_with (first | ((with_reducible refine gate_dst (N := 14) rfl ?_); (try (refine gate_guard (by rfl) ?_; dsimp only)); refine Kd.R_lit (Kd.int .i64) _ 3 ?hg (N := 14) ?hd (xs := ([0, 1, 65535, 4294967295, 268435455] : List Int)) (inner := [.int .i64 0, .int .i64 1, .int .i64 65535, .int .i64 4294967295, .int .i64 268435455]) (ok := fun _ => True) (okp := fun _ => True) ?hr ?hp (fun _ hk => hk) trivial (Below.refl _ _) (Nat.le_refl _) (by simp) ?_; (case hd => rfl); (case hg => rfl); (case hr => first | (go_simp; done) | (go_simp; rfl)); (case hp => exact (Reps.one (show Kd.M (Kd.int .i64) _ _ _ 0 [.int .i64 0] from rfl) (Reps.one (show Kd.M (Kd.int .i64) _ _ _ 1 [.int .i64 1] from rfl) (Reps.one (show Kd.M (Kd.int .i64) _ _ _ 65535 [.int .i64 65535] from rfl) (Reps.one (show Kd.M (Kd.int .i64) _ _ _ 4294967295 [.int .i64 4294967295] from rfl) (Reps.one (show Kd.M (Kd.int .i64) _ _ _ 268435455 [.int .i64 268435455] from rfl) (Reps.none _ _))))))); intro v205 w42 ho43 hb hg_ hnew_; clear hg_ hnew_; (first | rw [← Ny204.out] at ho43 | (simp only [Int.reduceToNat] at ho43; rw [← Ny204.out] at ho43)); have n0_ := Aside0.mk (Kd.R_lower ho43 (below_size zz12)); have n1_ := Aside0.mk (blk_below (g := gb202) (o := .cells #[.int .i64 a0_0, .int .i64 a0_1, .string a0_2, .string a0_3] 42 (0, 0)) zz26 hb); have n2_ := Aside0.mk (below_step zz12 hb); clear BK202; clear HB; have HO206 := n0_; have BK202 := n1_; have HB := n2_; clear n0_ n1_ n2_; clear hb ho43; obtain ⟨Ao44, co44, eo44⟩ := Kd.R_slice HO206.out; subst eo44; have p207 : 0 ≤ (t203 : Int) := of_decide_eq_true zz46; have q207 : t203 < (y204.length : Int) := of_decide_eq_true zz46; obtain ⟨ad207, e207, hx207_0⟩ := Kd.at_int (Kd.R_reads' HO206.out).2.2 t203 p207 q207; cases e207; replace p207 := eq_true p207; replace q207 := eq_true q207; have hcz45_0 : w42.cell? ⟨gb202, 0, none⟩ = some (.int .i64 a0_0) := (blk_cell BK202.out 0).trans rfl; have hcz45_1 : w42.cell? ⟨gb202, 1, none⟩ = some (.int .i64 a0_1) := (blk_cell BK202.out 1).trans rfl; have hcz45_2 : w42.cell? ⟨gb202, 2, none⟩ = some (.string a0_2) := (blk_cell BK202.out 2).trans rfl; have hcz45_3 : w42.cell? ⟨gb202, 3, none⟩ = some (.string a0_3) := (blk_cell BK202.out 3).trans rfl; have hfz45_0 := blk_frozen BK202.out 0; have hfz45_1 := blk_frozen BK202.out 1; have hfz45_2 := blk_frozen BK202.out 2; have hfz45_3 := blk_frozen BK202.out 3) | ((with_reducible refine gate_callee (f := 43) rfl ?_); refine goesL_ (some 44) rfl rfl Tryd.func43 zz49 rfl #[.int .i64 a0_1, .int .i64 (rd y204 t203)] rfl zz20 ?_; (with_reducible refine (fairwayref0_Num.calls a0_1 (rd y204 t203) true _ A39.out).mono ?_); rintro e w' ⟨rfl, ⟨nd, rfl⟩⟩; refine ⟨_, rfl, ?_⟩))
          go_ret
          exact ⟨zz40, zz12⟩
         rw [if_neg c41] at H; have c41b0 : (a0_2.toList == ([] : List UInt8)) = false := beq_eq_false_iff_ne.mpr c41; have c41b1 : (a0_2.toList != ([] : List UInt8)) = true := bne_iff_ne.mpr c41; obtain rfl := Option.some.inj H; go_wp2_with (first | ((with_reducible refine gate_dst (N := 14) rfl ?_); (try (refine gate_guard (by rfl) ?_; dsimp only)); refine Kd.R_lit (Kd.int .i64) _ 3 ?hg (N := 14) ?hd (xs := ([0, 1, 65535, 4294967295, 268435455] : List Int)) (inner := [.int .i64 0, .int .i64 1, .int .i64 65535, .int .i64 4294967295, .int .i64 268435455]) (ok := fun _ => True) (okp := fun _ => True) ?hr ?hp (fun _ hk => hk) trivial (Below.refl _ _) (Nat.le_refl _) (by simp) ?_; (case hd => rfl); (case hg => rfl); (case hr => first | (go_simp; done) | (go_simp; rfl)); (case hp => exact (Reps.one (show Kd.M (Kd.int .i64) _ _ _ 0 [.int .i64 0] from rfl) (Reps.one (show Kd.M (Kd.int .i64) _ _ _ 1 [.int .i64 1] from rfl) (Reps.one (show Kd.M (Kd.int .i64) _ _ _ 65535 [.int .i64 65535] from rfl) (Reps.one (show Kd.M (Kd.int .i64) _ _ _ 4294967295 [.int .i64 4294967295] from rfl) (Reps.one (show Kd.M (Kd.int .i64) _ _ _ 268435455 [.int .i64 268435455] from rfl) (Reps.none _ _))))))); intro v205 w46 ho47 hb hg_ hnew_; clear hg_ hnew_; (first | rw [← Ny204.out] at ho47 | (simp only [Int.reduceToNat] at ho47; rw [← Ny204.out] at ho47)); have n0_ := Aside0.mk (Kd.R_lower ho47 (below_size zz12)); have n1_ := Aside0.mk (blk_below (g := gb202) (o := .cells #[.int .i64 a0_0, .int .i64 a0_1, .string a0_2, .string a0_3] 42 (0, 0)) zz26 hb); have n2_ := Aside0.mk (below_step zz12 hb); clear BK202; clear HB; have HO206 := n0_; have BK202 := n1_; have HB := n2_; clear n0_ n1_ n2_; clear hb ho47; obtain ⟨Ao48, co48, eo48⟩ := Kd.R_slice HO206.out; subst eo48; have p207 : 0 ≤ (t203 : Int) := of_decide_eq_true zz46; have q207 : t203 < (y204.length : Int) := of_decide_eq_true zz46; obtain ⟨ad207, e207, hx207_0⟩ := Kd.at_int (Kd.R_reads' HO206.out).2.2 t203 p207 q207; cases e207; replace p207 := eq_true p207; replace q207 := eq_true q207; have hcz49_0 : w46.cell? ⟨gb202, 0, none⟩ = some (.int .i64 a0_0) := (blk_cell BK202.out 0).trans rfl; have hcz49_1 : w46.cell? ⟨gb202, 1, none⟩ = some (.int .i64 a0_1) := (blk_cell BK202.out 1).trans rfl; have hcz49_2 : w46.cell? ⟨gb202, 2, none⟩ = some (.string a0_2) := (blk_cell BK202.out 2).trans rfl; have hcz49_3 : w46.cell? ⟨gb202, 3, none⟩ = some (.string a0_3) := (blk_cell BK202.out 3).trans rfl; have hfz49_0 := blk_frozen BK202.out 0; have hfz49_1 := blk_frozen BK202.out 1; have hfz49_2 := blk_frozen BK202.out 2; have hfz49_3 := blk_frozen BK202.out 3) | ((with_reducible refine gate_callee (f := 43) rfl ?_); refine goesL_ (some 44) rfl rfl Tryd.func43 zz49 rfl #[.int .i64 a0_1, .int .i64 (rd y204 t203)] rfl zz20 ?_; (with_reducible refine (fairwayref0_Num.calls a0_1 (rd y204 t203) true _ A39.out).mono ?_); rintro e w' ⟨rfl, ⟨nd, rfl⟩⟩; refine ⟨_, rfl, ?_⟩))
         go_ret
         exact ⟨zz40, zz12⟩
        replace c40 := Bool.eq_false_iff.mpr c40; subst c40; have H1 : (some false) = some r := by rw [if_neg (show ¬ (false = true) by decide)] at H; exact H
        clear H; have H := H1; clear H1; obtain rfl := Option.some.inj H; go_wp2_with (first | ((with_reducible refine gate_dst (N := 14) rfl ?_); (try (refine gate_guard (by rfl) ?_; dsimp only)); refine Kd.R_lit (Kd.int .i64) _ 3 ?hg (N := 14) ?hd (xs := ([0, 1, 65535, 4294967295, 268435455] : List Int)) (inner := [.int .i64 0, .int .i64 1, .int .i64 65535, .int .i64 4294967295, .int .i64 268435455]) (ok := fun _ => True) (okp := fun _ => True) ?hr ?hp (fun _ hk => hk) trivial (Below.refl _ _) (Nat.le_refl _) (by simp) ?_; (case hd => rfl); (case hg => rfl); (case hr => first | (go_simp; done) | (go_simp; rfl)); (case hp => exact (Reps.one (show Kd.M (Kd.int .i64) _ _ _ 0 [.int .i64 0] from rfl) (Reps.one (show Kd.M (Kd.int .i64) _ _ _ 1 [.int .i64 1] from rfl) (Reps.one (show Kd.M (Kd.int .i64) _ _ _ 65535 [.int .i64 65535] from rfl) (Reps.one (show Kd.M (Kd.int .i64) _ _ _ 4294967295 [.int .i64 4294967295] from rfl) (Reps.one (show Kd.M (Kd.int .i64) _ _ _ 268435455 [.int .i64 268435455] from rfl) (Reps.none _ _))))))); intro v205 w50 ho51 hb hg_ hnew_; clear hg_ hnew_; (first | rw [← Ny204.out] at ho51 | (simp only [Int.reduceToNat] at ho51; rw [← Ny204.out] at ho51)); have n0_ := Aside0.mk (Kd.R_lower ho51 (below_size zz12)); have n1_ := Aside0.mk (blk_below (g := gb202) (o := .cells #[.int .i64 a0_0, .int .i64 a0_1, .string a0_2, .string a0_3] 42 (0, 0)) zz26 hb); have n2_ := Aside0.mk (below_step zz12 hb); clear BK202; clear HB; have HO206 := n0_; have BK202 := n1_; have HB := n2_; clear n0_ n1_ n2_; clear hb ho51; obtain ⟨Ao52, co52, eo52⟩ := Kd.R_slice HO206.out; subst eo52; have p207 : 0 ≤ (t203 : Int) := of_decide_eq_true zz46; have q207 : t203 < (y204.length : Int) := of_decide_eq_true zz46; obtain ⟨ad207, e207, hx207_0⟩ := Kd.at_int (Kd.R_reads' HO206.out).2.2 t203 p207 q207; cases e207; replace p207 := eq_true p207; replace q207 := eq_true q207; have hcz53_0 : w50.cell? ⟨gb202, 0, none⟩ = some (.int .i64 a0_0) := (blk_cell BK202.out 0).trans rfl; have hcz53_1 : w50.cell? ⟨gb202, 1, none⟩ = some (.int .i64 a0_1) := (blk_cell BK202.out 1).trans rfl; have hcz53_2 : w50.cell? ⟨gb202, 2, none⟩ = some (.string a0_2) := (blk_cell BK202.out 2).trans rfl; have hcz53_3 : w50.cell? ⟨gb202, 3, none⟩ = some (.string a0_3) := (blk_cell BK202.out 3).trans rfl; have hfz53_0 := blk_frozen BK202.out 0; have hfz53_1 := blk_frozen BK202.out 1; have hfz53_2 := blk_frozen BK202.out 2; have hfz53_3 := blk_frozen BK202.out 3) | ((with_reducible refine gate_callee (f := 43) rfl ?_); refine goesL_ (some 44) rfl rfl Tryd.func43 zz49 rfl #[.int .i64 a0_1, .int .i64 (rd y204 t203)] rfl zz20 ?_; (with_reducible refine (fairwayref0_Num.calls a0_1 (rd y204 t203) false _ A39.out).mono ?_); rintro e w' ⟨rfl, ⟨nd, rfl⟩⟩; refine ⟨_, rfl, ?_⟩))
        go_ret
        exact ⟨zz40, zz12⟩
       rw [if_neg c33] at H; have c33b0 : (a0_0 == 35) = false := beq_eq_false_iff_ne.mpr c33; have c33b1 : (a0_0 != 35) = true := bne_iff_ne.mpr c33; by_cases c54 : a0_0 = 39
       ·
        rw [if_pos c54] at H; have c54b0 : (a0_0 == 39) = true := beq_iff_eq.mpr c54; have c54b1 : (a0_0 != 39) = false := bne_eq_false_iff_eq.mpr c54; clear c54; by_cases c55 : a0_1 = 0
        ·
         rw [if_pos c55] at H; have c55b0 : (a0_1 == 0) = true := beq_iff_eq.mpr c55; have c55b1 : (a0_1 != 0) = false := bne_eq_false_iff_eq.mpr c55; clear c55; obtain rfl := Option.some.inj H; go_wp2_with (first | ((with_reducible refine gate_dst (N := 14) rfl ?_); (try (refine gate_guard (by rfl) ?_; dsimp only)); refine Kd.R_lit (Kd.int .i64) _ 3 ?hg (N := 14) ?hd (xs := ([0, 1, 65535, 4294967295, 268435455] : List Int)) (inner := [.int .i64 0, .int .i64 1, .int .i64 65535, .int .i64 4294967295, .int .i64 268435455]) (ok := fun _ => True) (okp := fun _ => True) ?hr ?hp (fun _ hk => hk) trivial (Below.refl _ _) (Nat.le_refl _) (by simp) ?_; (case hd => rfl); (case hg => rfl); (case hr => first | (go_simp; done) | (go_simp; rfl)); (case hp => exact (Reps.one (show Kd.M (Kd.int .i64) _ _ _ 0 [.int .i64 0] from rfl) (Reps.one (show Kd.M (Kd.int .i64) _ _ _ 1 [.int .i64 1] from rfl) (Reps.one (show Kd.M (Kd.int .i64) _ _ _ 65535 [.int .i64 65535] from rfl) (Reps.one (show Kd.M (Kd.int .i64) _ _ _ 4294967295 [.int .i64 4294967295] from rfl) (Reps.one (show Kd.M (Kd.int .i64) _ _ _ 268435455 [.int .i64 268435455] from rfl) (Reps.none _ _))))))); intro v205 w56 ho57 hb hg_ hnew_; clear hg_ hnew_; (first | rw [← Ny204.out] at ho57 | (simp only [Int.reduceToNat] at ho57; rw [← Ny204.out] at ho57)); have n0_ := Aside0.mk (Kd.R_lower ho57 (below_size zz12)); have n1_ := Aside0.mk (blk_below (g := gb202) (o := .cells #[.int .i64 a0_0, .int .i64 a0_1, .string a0_2, .string a0_3] 42 (0, 0)) zz26 hb); have n2_ := Aside0.mk (below_step zz12 hb); clear BK202; clear HB; have HO206 := n0_; have BK202 := n1_; have HB := n2_; clear n0_ n1_ n2_; clear hb ho57; obtain ⟨Ao58, co58, eo58⟩ := Kd.R_slice HO206.out; subst eo58; have p207 : 0 ≤ (t203 : Int) := of_decide_eq_true zz46; have q207 : t203 < (y204.length : Int) := of_decide_eq_true zz46; obtain ⟨ad207, e207, hx207_0⟩ := Kd.at_int (Kd.R_reads' HO206.out).2.2 t203 p207 q207; cases e207; replace p207 := eq_true p207; replace q207 := eq_true q207; have hcz59_0 : w56.cell? ⟨gb202, 0, none⟩ = some (.int .i64 a0_0) := (blk_cell BK202.out 0).trans rfl; have hcz59_1 : w56.cell? ⟨gb202, 1, none⟩ = some (.int .i64 a0_1) := (blk_cell BK202.out 1).trans rfl; have hcz59_2 : w56.cell? ⟨gb202, 2, none⟩ = some (.string a0_2) := (blk_cell BK202.out 2).trans rfl; have hcz59_3 : w56.cell? ⟨gb202, 3, none⟩ = some (.string a0_3) := (blk_cell BK202.out 3).trans rfl; have hfz59_0 := blk_frozen BK202.out 0; have hfz59_1 := blk_frozen BK202.out 1; have hfz59_2 := blk_frozen BK202.out 2; have hfz59_3 := blk_frozen BK202.out 3))
         go_ret
         exact ⟨zz40, zz12⟩
        rw [if_neg c55] at H; have c55b0 : (a0_1 == 0) = false := beq_eq_false_iff_ne.mpr c55; have c55b1 : (a0_1 != 0) = true := bne_iff_ne.mpr c55; replace H := Option.bind_eq_some_iff.mp H; obtain ⟨t210, A600, H⟩ := H; replace H : (if t210 = true then (if a0_2.toList = ([] : List UInt8) then (some (a0_3.toList == ([] : List UInt8))) else (some false)) else (some false)) = some r := H; have A60 := Aside0.mk A600; clear A600; by_cases c61 : t210 = true
        ·
         subst c61; have H1 : (if a0_2.toList = ([] : List UInt8) then (some (a0_3.toList == ([] : List UInt8))) else (some false)) = some r := by rw [if_pos rfl] at H; exact H
         clear H; have H := H1; clear H1; by_cases c62 : a0_2.toList = ([] : List UInt8)
         ·
          rw [if_pos c62] at H; have c62b0 : (a0_2.toList == ([] : List UInt8)) = true := beq_iff_eq.mpr c62; have c62b1 : (a0_2.toList != ([] : List UInt8)) = false := bne_eq_false_iff_eq.mpr c62; clear c62; obtain rfl := Option.some.inj H; go_wp2_with (first | ((with_reducible refine gate_dst (N := 14) rfl ?_); (try (refine gate_guard (by rfl) ?_; dsimp only)); refine Kd.R_lit (Kd.int .i64) _ 3 ?hg (N := 14) ?hd (xs := ([0, 1, 65535, 4294967295, 268435455] : List Int)) (inner := [.int .i64 0, .int .i64 1, .int .i64 65535, .int .i64 4294967295, .int .i64 268435455]) (ok := fun _ => True) (okp := fun _ => True) ?hr ?hp (fun _ hk => hk) trivial (Below.refl _ _) (Nat.le_refl _) (by simp) ?_; (case hd => rfl); (case hg => rfl); (case hr => first | (go_simp; done) | (go_simp; rfl)); (case hp => exact (Reps.one (show Kd.M (Kd.int .i64) _ _ _ 0 [.int .i64 0] from rfl) (Reps.one (show Kd.M (Kd.int .i64) _ _ _ 1 [.int .i64 1] from rfl) (Reps.one (show Kd.M (Kd.int .i64) _ _ _ 65535 [.int .i64 65535] from rfl) (Reps.one (show Kd.M (Kd.int .i64) _ _ _ 4294967295 [.int .i64 4294967295] from rfl) (Reps.one (show Kd.M (Kd.int .i64) _ _ _ 268435455 [.int .i64 268435455] from rfl) (Reps.none _ _))))))); intro v205 w63 ho64 hb hg_ hnew_; clear hg_ hnew_; (first | rw [← Ny204.out] at ho64 | (simp only [Int.reduceToNat] at ho64; rw [← Ny204.out] at ho64)); have n0_ := Aside0.mk (Kd.R_lower ho64 (below_size zz12)); have n1_ := Aside0.mk (blk_below (g := gb202) (o := .cells #[.int .i64 a0_0, .int .i64 a0_1, .string a0_2, .string a0_3] 42 (0, 0)) zz26 hb); have n2_ := Aside0.mk (below_step zz12 hb); clear BK202; clear HB; have HO206 := n0_; have BK202 := n1_; have HB := n2_; clear n0_ n1_ n2_; clear hb ho64; obtain ⟨Ao65, co65, eo65⟩ := Kd.R_slice HO206.out; subst eo65; have p207 : 0 ≤ (t203 : Int) := of_decide_eq_true zz46; have q207 : t203 < (y204.length : Int) := of_decide_eq_true zz46; obtain ⟨ad207, e207, hx207_0⟩ := Kd.at_int (Kd.R_reads' HO206.out).2.2 t203 p207 q207; cases e207; replace p207 := eq_true p207; replace q207 := eq_true q207; have hcz66_0 : w63.cell? ⟨gb202, 0, none⟩ = some (.int .i64 a0_0) := (blk_cell BK202.out 0).trans rfl; have hcz66_1 : w63.cell? ⟨gb202, 1, none⟩ = some (.int .i64 a0_1) := (blk_cell BK202.out 1).trans rfl; have hcz66_2 : w63.cell? ⟨gb202, 2, none⟩ = some (.string a0_2) := (blk_cell BK202.out 2).trans rfl; have hcz66_3 : w63.cell? ⟨gb202, 3, none⟩ = some (.string a0_3) := (blk_cell BK202.out 3).trans rfl; have hfz66_0 := blk_frozen BK202.out 0; have hfz66_1 := blk_frozen BK202.out 1; have hfz66_2 := blk_frozen BK202.out 2; have hfz66_3 := blk_frozen BK202.out 3) | ((with_reducible refine gate_callee (f := 43) rfl ?_); refine goesL_ (some 44) rfl rfl Tryd.func43 zz49 rfl #[.int .i64 a0_1, .int .i64 (rd y204 t203)] rfl zz20 ?_; (with_reducible refine (fairwayref0_Num.calls a0_1 (rd y204 t203) true _ A60.out).mono ?_); rintro e w' ⟨rfl, ⟨nd, rfl⟩⟩; refine ⟨_, rfl, ?_⟩))
          go_ret
          exact ⟨zz40, zz12⟩
         rw [if_neg c62] at H; have c62b0 : (a0_2.toList == ([] : List UInt8)) = false := beq_eq_false_iff_ne.mpr c62; have c62b1 : (a0_2.toList != ([] : List UInt8)) = true := bne_iff_ne.mpr c62; obtain rfl := Option.some.inj H; go_wp2_with (first | ((with_reducible refine gate_dst (N := 14) rfl ?_); (try (refine gate_guard (by rfl) ?_; dsimp only)); refine Kd.R_lit (Kd.int .i64) _ 3 ?hg (N := 14) ?hd (xs := ([0, 1, 65535, 4294967295, 268435455] : List Int)) (inner := [.int .i64 0, .int .i64 1, .int .i64 65535, .int .i64 4294967295, .int .i64 268435455]) (ok := fun _ => True) (okp := fun _ => True) ?hr ?hp (fun _ hk => hk) trivial (Below.refl _ _) (Nat.le_refl _) (by simp) ?_; (case hd => rfl); (case hg => rfl); (case hr => first | (go_simp; done) | (go_simp; rfl)); (case hp => exact (Reps.one (show Kd.M (Kd.int .i64) _ _ _ 0 [.int .i64 0] from rfl) (Reps.one (show Kd.M (Kd.int .i64) _ _ _ 1 [.int .i64 1] from rfl) (Reps.one (show Kd.M (Kd.int .i64) _ _ _ 65535 [.int .i64 65535] from rfl) (Reps.one (show Kd.M (Kd.int .i64) _ _ _ 4294967295 [.int .i64 4294967295] from rfl) (Reps.one (show Kd.M (Kd.int .i64) _ _ _ 268435455 [.int .i64 268435455] from rfl) (Reps.none _ _))))))); intro v205 w67 ho68 hb hg_ hnew_; clear hg_ hnew_; (first | rw [← Ny204.out] at ho68 | (simp only [Int.reduceToNat] at ho68; rw [← Ny204.out] at ho68)); have n0_ := Aside0.mk (Kd.R_lower ho68 (below_size zz12)); have n1_ := Aside0.mk (blk_below (g := gb202) (o := .cells #[.int .i64 a0_0, .int .i64 a0_1, .string a0_2, .string a0_3] 42 (0, 0)) zz26 hb); have n2_ := Aside0.mk (below_step zz12 hb); clear BK202; clear HB; have HO206 := n0_; have BK202 := n1_; have HB := n2_; clear n0_ n1_ n2_; clear hb ho68; obtain ⟨Ao69, co69, eo69⟩ := Kd.R_slice HO206.out; subst eo69; have p207 : 0 ≤ (t203 : Int) := of_decide_eq_true zz46; have q207 : t203 < (y204.length : Int) := of_decide_eq_true zz46; obtain ⟨ad207, e207, hx207_0⟩ := Kd.at_int (Kd.R_reads' HO206.out).2.2 t203 p207 q207; cases e207; replace p207 := eq_true p207; replace q207 := eq_true q207; have hcz70_0 : w67.cell? ⟨gb202, 0, none⟩ = some (.int .i64 a0_0) := (blk_cell BK202.out 0).trans rfl; have hcz70_1 : w67.cell? ⟨gb202, 1, none⟩ = some (.int .i64 a0_1) := (blk_cell BK202.out 1).trans rfl; have hcz70_2 : w67.cell? ⟨gb202, 2, none⟩ = some (.string a0_2) := (blk_cell BK202.out 2).trans rfl; have hcz70_3 : w67.cell? ⟨gb202, 3, none⟩ = some (.string a0_3) := (blk_cell BK202.out 3).trans rfl; have hfz70_0 := blk_frozen BK202.out 0; have hfz70_1 := blk_frozen BK202.out 1; have hfz70_2 := blk_frozen BK202.out 2; have hfz70_3 := blk_frozen BK202.out 3) | ((with_reducible refine gate_callee (f := 43) rfl ?_); refine goesL_ (some 44) rfl rfl Tryd.func43 zz49 rfl #[.int .i64 a0_1, .int .i64 (rd y204 t203)] rfl zz20 ?_; (with_reducible refine (fairwayref0_Num.calls a0_1 (rd y204 t203) true _ A60.out).mono ?_); rintro e w' ⟨rfl, ⟨nd, rfl⟩⟩; refine ⟨_, rfl, ?_⟩))
         go_ret
         exact ⟨zz40, zz12⟩
        replace c61 := Bool.eq_false_iff.mpr c61; subst c61; have H1 : (some false) = some r := by rw [if_neg (show ¬ (false = true) by decide)] at H; exact H
        clear H; have H := H1; clear H1; obtain rfl := Option.some.inj H; go_wp2_with (first | ((with_reducible refine gate_dst (N := 14) rfl ?_); (try (refine gate_guard (by rfl) ?_; dsimp only)); refine Kd.R_lit (Kd.int .i64) _ 3 ?hg (N := 14) ?hd (xs := ([0, 1, 65535, 4294967295, 268435455] : List Int)) (inner := [.int .i64 0, .int .i64 1, .int .i64 65535, .int .i64 4294967295, .int .i64 268435455]) (ok := fun _ => True) (okp := fun _ => True) ?hr ?hp (fun _ hk => hk) trivial (Below.refl _ _) (Nat.le_refl _) (by simp) ?_; (case hd => rfl); (case hg => rfl); (case hr => first | (go_simp; done) | (go_simp; rfl)); (case hp => exact (Reps.one (show Kd.M (Kd.int .i64) _ _ _ 0 [.int .i64 0] from rfl) (Reps.one (show Kd.M (Kd.int .i64) _ _ _ 1 [.int .i64 1] from rfl) (Reps.one (show Kd.M (Kd.int .i64) _ _ _ 65535 [.int .i64 65535] from rfl) (Reps.one (show Kd.M (Kd.int .i64) _ _ _ 4294967295 [.int .i64 4294967295] from rfl) (Reps.one (show Kd.M (Kd.int .i64) _ _ _ 268435455 [.int .i64 268435455] from rfl) (Reps.none _ _))))))); intro v205 w71 ho72 hb hg_ hnew_; clear hg_ hnew_; (first | rw [← Ny204.out] at ho72 | (simp only [Int.reduceToNat] at ho72; rw [← Ny204.out] at ho72)); have n0_ := Aside0.mk (Kd.R_lower ho72 (below_size zz12)); have n1_ := Aside0.mk (blk_below (g := gb202) (o := .cells #[.int .i64 a0_0, .int .i64 a0_1, .string a0_2, .string a0_3] 42 (0, 0)) zz26 hb); have n2_ := Aside0.mk (below_step zz12 hb); clear BK202; clear HB; have HO206 := n0_; have BK202 := n1_; have HB := n2_; clear n0_ n1_ n2_; clear hb ho72; obtain ⟨Ao73, co73, eo73⟩ := Kd.R_slice HO206.out; subst eo73; have p207 : 0 ≤ (t203 : Int) := of_decide_eq_true zz46; have q207 : t203 < (y204.length : Int) := of_decide_eq_true zz46; obtain ⟨ad207, e207, hx207_0⟩ := Kd.at_int (Kd.R_reads' HO206.out).2.2 t203 p207 q207; cases e207; replace p207 := eq_true p207; replace q207 := eq_true q207; have hcz74_0 : w71.cell? ⟨gb202, 0, none⟩ = some (.int .i64 a0_0) := (blk_cell BK202.out 0).trans rfl; have hcz74_1 : w71.cell? ⟨gb202, 1, none⟩ = some (.int .i64 a0_1) := (blk_cell BK202.out 1).trans rfl; have hcz74_2 : w71.cell? ⟨gb202, 2, none⟩ = some (.string a0_2) := (blk_cell BK202.out 2).trans rfl; have hcz74_3 : w71.cell? ⟨gb202, 3, none⟩ = some (.string a0_3) := (blk_cell BK202.out 3).trans rfl; have hfz74_0 := blk_frozen BK202.out 0; have hfz74_1 := blk_frozen BK202.out 1; have hfz74_2 := blk_frozen BK202.out 2; have hfz74_3 := blk_frozen BK202.out 3) | ((with_reducible refine gate_callee (f := 43) rfl ?_); refine goesL_ (some 44) rfl rfl Tryd.func43 zz49 rfl #[.int .i64 a0_1, .int .i64 (rd y204 t203)] rfl zz20 ?_; (with_reducible refine (fairwayref0_Num.calls a0_1 (rd y204 t203) false _ A60.out).mono ?_); rintro e w' ⟨rfl, ⟨nd, rfl⟩⟩; refine ⟨_, rfl, ?_⟩))
        go_ret
        exact ⟨zz40, zz12⟩
       rw [if_neg c54] at H; have c54b0 : (a0_0 == 39) = false := beq_eq_false_iff_ne.mpr c54; have c54b1 : (a0_0 != 39) = true := bne_iff_ne.mpr c54; by_cases c75 : a0_0 = 11
       ·
        rw [if_pos c75] at H; have c75b0 : (a0_0 == 11) = true := beq_iff_eq.mpr c75; have c75b1 : (a0_0 != 11) = false := bne_eq_false_iff_eq.mpr c75; clear c75; by_cases c76 : a0_1 = 0
        ·
         rw [if_pos c76] at H; have c76b0 : (a0_1 == 0) = true := beq_iff_eq.mpr c76; have c76b1 : (a0_1 != 0) = false := bne_eq_false_iff_eq.mpr c76; clear c76; obtain rfl := Option.some.inj H; go_wp2_with (first | ((with_reducible refine gate_dst (N := 14) rfl ?_); (try (refine gate_guard (by rfl) ?_; dsimp only)); refine Kd.R_lit (Kd.int .i64) _ 3 ?hg (N := 14) ?hd (xs := ([0, 1, 65535, 4294967295, 268435455] : List Int)) (inner := [.int .i64 0, .int .i64 1, .int .i64 65535, .int .i64 4294967295, .int .i64 268435455]) (ok := fun _ => True) (okp := fun _ => True) ?hr ?hp (fun _ hk => hk) trivial (Below.refl _ _) (Nat.le_refl _) (by simp) ?_; (case hd => rfl); (case hg => rfl); (case hr => first | (go_simp; done) | (go_simp; rfl)); (case hp => exact (Reps.one (show Kd.M (Kd.int .i64) _ _ _ 0 [.int .i64 0] from rfl) (Reps.one (show Kd.M (Kd.int .i64) _ _ _ 1 [.int .i64 1] from rfl) (Reps.one (show Kd.M (Kd.int .i64) _ _ _ 65535 [.int .i64 65535] from rfl) (Reps.one (show Kd.M (Kd.int .i64) _ _ _ 4294967295 [.int .i64 4294967295] from rfl) (Reps.one (show Kd.M (Kd.int .i64) _ _ _ 268435455 [.int .i64 268435455] from rfl) (Reps.none _ _))))))); intro v205 w77 ho78 hb hg_ hnew_; clear hg_ hnew_; (first | rw [← Ny204.out] at ho78 | (simp only [Int.reduceToNat] at ho78; rw [← Ny204.out] at ho78)); have n0_ := Aside0.mk (Kd.R_lower ho78 (below_size zz12)); have n1_ := Aside0.mk (blk_below (g := gb202) (o := .cells #[.int .i64 a0_0, .int .i64 a0_1, .string a0_2, .string a0_3] 42 (0, 0)) zz26 hb); have n2_ := Aside0.mk (below_step zz12 hb); clear BK202; clear HB; have HO206 := n0_; have BK202 := n1_; have HB := n2_; clear n0_ n1_ n2_; clear hb ho78; obtain ⟨Ao79, co79, eo79⟩ := Kd.R_slice HO206.out; subst eo79; have p207 : 0 ≤ (t203 : Int) := of_decide_eq_true zz46; have q207 : t203 < (y204.length : Int) := of_decide_eq_true zz46; obtain ⟨ad207, e207, hx207_0⟩ := Kd.at_int (Kd.R_reads' HO206.out).2.2 t203 p207 q207; cases e207; replace p207 := eq_true p207; replace q207 := eq_true q207; have hcz80_0 : w77.cell? ⟨gb202, 0, none⟩ = some (.int .i64 a0_0) := (blk_cell BK202.out 0).trans rfl; have hcz80_1 : w77.cell? ⟨gb202, 1, none⟩ = some (.int .i64 a0_1) := (blk_cell BK202.out 1).trans rfl; have hcz80_2 : w77.cell? ⟨gb202, 2, none⟩ = some (.string a0_2) := (blk_cell BK202.out 2).trans rfl; have hcz80_3 : w77.cell? ⟨gb202, 3, none⟩ = some (.string a0_3) := (blk_cell BK202.out 3).trans rfl; have hfz80_0 := blk_frozen BK202.out 0; have hfz80_1 := blk_frozen BK202.out 1; have hfz80_2 := blk_frozen BK202.out 2; have hfz80_3 := blk_frozen BK202.out 3))
         go_ret
         exact ⟨zz40, zz12⟩
        rw [if_neg c76] at H; have c76b0 : (a0_1 == 0) = false := beq_eq_false_iff_ne.mpr c76; have c76b1 : (a0_1 != 0) = true := bne_iff_ne.mpr c76; replace H := Option.bind_eq_some_iff.mp H; obtain ⟨t211, A810, H⟩ := H; replace H : (if t211 = true then (if a0_2.toList = ([] : List UInt8) then (some (a0_3.toList == ([] : List UInt8))) else (some false)) else (some false)) = some r := H; have A81 := Aside0.mk A810; clear A810; by_cases c82 : t211 = true
        ·
         subst c82; have H1 : (if a0_2.toList = ([] : List UInt8) then (some (a0_3.toList == ([] : List UInt8))) else (some false)) = some r := by rw [if_pos rfl] at H; exact H
         clear H; have H := H1; clear H1; by_cases c83 : a0_2.toList = ([] : List UInt8)
         ·
          rw [if_pos c83] at H; have c83b0 : (a0_2.toList == ([] : List UInt8)) = true := beq_iff_eq.mpr c83; have c83b1 : (a0_2.toList != ([] : List UInt8)) = false := bne_eq_false_iff_eq.mpr c83; clear c83; obtain rfl := Option.some.inj H; go_wp2_with (first | ((with_reducible refine gate_dst (N := 14) rfl ?_); (try (refine gate_guard (by rfl) ?_; dsimp only)); refine Kd.R_lit (Kd.int .i64) _ 3 ?hg (N := 14) ?hd (xs := ([0, 1, 65535, 4294967295, 268435455] : List Int)) (inner := [.int .i64 0, .int .i64 1, .int .i64 65535, .int .i64 4294967295, .int .i64 268435455]) (ok := fun _ => True) (okp := fun _ => True) ?hr ?hp (fun _ hk => hk) trivial (Below.refl _ _) (Nat.le_refl _) (by simp) ?_; (case hd => rfl); (case hg => rfl); (case hr => first | (go_simp; done) | (go_simp; rfl)); (case hp => exact (Reps.one (show Kd.M (Kd.int .i64) _ _ _ 0 [.int .i64 0] from rfl) (Reps.one (show Kd.M (Kd.int .i64) _ _ _ 1 [.int .i64 1] from rfl) (Reps.one (show Kd.M (Kd.int .i64) _ _ _ 65535 [.int .i64 65535] from rfl) (Reps.one (show Kd.M (Kd.int .i64) _ _ _ 4294967295 [.int .i64 4294967295] from rfl) (Reps.one (show Kd.M (Kd.int .i64) _ _ _ 268435455 [.int .i64 268435455] from rfl) (Reps.none _ _))))))); intro v205 w84 ho85 hb hg_ hnew_; clear hg_ hnew_; (first | rw [← Ny204.out] at ho85 | (simp only [Int.reduceToNat] at ho85; rw [← Ny204.out] at ho85)); have n0_ := Aside0.mk (Kd.R_lower ho85 (below_size zz12)); have n1_ := Aside0.mk (blk_below (g := gb202) (o := .cells #[.int .i64 a0_0, .int .i64 a0_1, .string a0_2, .string a0_3] 42 (0, 0)) zz26 hb); have n2_ := Aside0.mk (below_step zz12 hb); clear BK202; clear HB; have HO206 := n0_; have BK202 := n1_; have HB := n2_; clear n0_ n1_ n2_; clear hb ho85; obtain ⟨Ao86, co86, eo86⟩ := Kd.R_slice HO206.out; subst eo86; have p207 : 0 ≤ (t203 : Int) := of_decide_eq_true zz46; have q207 : t203 < (y204.length : Int) := of_decide_eq_true zz46; obtain ⟨ad207, e207, hx207_0⟩ := Kd.at_int (Kd.R_reads' HO206.out).2.2 t203 p207 q207; cases e207; replace p207 := eq_true p207; replace q207 := eq_true q207; have hcz87_0 : w84.cell? ⟨gb202, 0, none⟩ = some (.int .i64 a0_0) := (blk_cell BK202.out 0).trans rfl; have hcz87_1 : w84.cell? ⟨gb202, 1, none⟩ = some (.int .i64 a0_1) := (blk_cell BK202.out 1).trans rfl; have hcz87_2 : w84.cell? ⟨gb202, 2, none⟩ = some (.string a0_2) := (blk_cell BK202.out 2).trans rfl; have hcz87_3 : w84.cell? ⟨gb202, 3, none⟩ = some (.string a0_3) := (blk_cell BK202.out 3).trans rfl; have hfz87_0 := blk_frozen BK202.out 0; have hfz87_1 := blk_frozen BK202.out 1; have hfz87_2 := blk_frozen BK202.out 2; have hfz87_3 := blk_frozen BK202.out 3) | ((with_reducible refine gate_callee (f := 43) rfl ?_); refine goesL_ (some 44) rfl rfl Tryd.func43 zz49 rfl #[.int .i64 a0_1, .int .i64 (rd y204 t203)] rfl zz20 ?_; (with_reducible refine (fairwayref0_Num.calls a0_1 (rd y204 t203) true _ A81.out).mono ?_); rintro e w' ⟨rfl, ⟨nd, rfl⟩⟩; refine ⟨_, rfl, ?_⟩))
          go_ret
          exact ⟨zz40, zz12⟩
         rw [if_neg c83] at H; have c83b0 : (a0_2.toList == ([] : List UInt8)) = false := beq_eq_false_iff_ne.mpr c83; have c83b1 : (a0_2.toList != ([] : List UInt8)) = true := bne_iff_ne.mpr c83; obtain rfl := Option.some.inj H; go_wp2_with (first | ((with_reducible refine gate_dst (N := 14) rfl ?_); (try (refine gate_guard (by rfl) ?_; dsimp only)); refine Kd.R_lit (Kd.int .i64) _ 3 ?hg (N := 14) ?hd (xs := ([0, 1, 65535, 4294967295, 268435455] : List Int)) (inner := [.int .i64 0, .int .i64 1, .int .i64 65535, .int .i64 4294967295, .int .i64 268435455]) (ok := fun _ => True) (okp := fun _ => True) ?hr ?hp (fun _ hk => hk) trivial (Below.refl _ _) (Nat.le_refl _) (by simp) ?_; (case hd => rfl); (case hg => rfl); (case hr => first | (go_simp; done) | (go_simp; rfl)); (case hp => exact (Reps.one (show Kd.M (Kd.int .i64) _ _ _ 0 [.int .i64 0] from rfl) (Reps.one (show Kd.M (Kd.int .i64) _ _ _ 1 [.int .i64 1] from rfl) (Reps.one (show Kd.M (Kd.int .i64) _ _ _ 65535 [.int .i64 65535] from rfl) (Reps.one (show Kd.M (Kd.int .i64) _ _ _ 4294967295 [.int .i64 4294967295] from rfl) (Reps.one (show Kd.M (Kd.int .i64) _ _ _ 268435455 [.int .i64 268435455] from rfl) (Reps.none _ _))))))); intro v205 w88 ho89 hb hg_ hnew_; clear hg_ hnew_; (first | rw [← Ny204.out] at ho89 | (simp only [Int.reduceToNat] at ho89; rw [← Ny204.out] at ho89)); have n0_ := Aside0.mk (Kd.R_lower ho89 (below_size zz12)); have n1_ := Aside0.mk (blk_below (g := gb202) (o := .cells #[.int .i64 a0_0, .int .i64 a0_1, .string a0_2, .string a0_3] 42 (0, 0)) zz26 hb); have n2_ := Aside0.mk (below_step zz12 hb); clear BK202; clear HB; have HO206 := n0_; have BK202 := n1_; have HB := n2_; clear n0_ n1_ n2_; clear hb ho89; obtain ⟨Ao90, co90, eo90⟩ := Kd.R_slice HO206.out; subst eo90; have p207 : 0 ≤ (t203 : Int) := of_decide_eq_true zz46; have q207 : t203 < (y204.length : Int) := of_decide_eq_true zz46; obtain ⟨ad207, e207, hx207_0⟩ := Kd.at_int (Kd.R_reads' HO206.out).2.2 t203 p207 q207; cases e207; replace p207 := eq_true p207; replace q207 := eq_true q207; have hcz91_0 : w88.cell? ⟨gb202, 0, none⟩ = some (.int .i64 a0_0) := (blk_cell BK202.out 0).trans rfl; have hcz91_1 : w88.cell? ⟨gb202, 1, none⟩ = some (.int .i64 a0_1) := (blk_cell BK202.out 1).trans rfl; have hcz91_2 : w88.cell? ⟨gb202, 2, none⟩ = some (.string a0_2) := (blk_cell BK202.out 2).trans rfl; have hcz91_3 : w88.cell? ⟨gb202, 3, none⟩ = some (.string a0_3) := (blk_cell BK202.out 3).trans rfl; have hfz91_0 := blk_frozen BK202.out 0; have hfz91_1 := blk_frozen BK202.out 1; have hfz91_2 := blk_frozen BK202.out 2; have hfz91_3 := blk_frozen BK202.out 3) | ((with_reducible refine gate_callee (f := 43) rfl ?_); refine goesL_ (some 44) rfl rfl Tryd.func43 zz49 rfl #[.int .i64 a0_1, .int .i64 (rd y204 t203)] rfl zz20 ?_; (with_reducible refine (fairwayref0_Num.calls a0_1 (rd y204 t203) true _ A81.out).mono ?_); rintro e w' ⟨rfl, ⟨nd, rfl⟩⟩; refine ⟨_, rfl, ?_⟩))
         go_ret
         exact ⟨zz40, zz12⟩
        replace c82 := Bool.eq_false_iff.mpr c82; subst c82; have H1 : (some false) = some r := by rw [if_neg (show ¬ (false = true) by decide)] at H; exact H
        clear H; have H := H1; clear H1; obtain rfl := Option.some.inj H; go_wp2_with (first | ((with_reducible refine gate_dst (N := 14) rfl ?_); (try (refine gate_guard (by rfl) ?_; dsimp only)); refine Kd.R_lit (Kd.int .i64) _ 3 ?hg (N := 14) ?hd (xs := ([0, 1, 65535, 4294967295, 268435455] : List Int)) (inner := [.int .i64 0, .int .i64 1, .int .i64 65535, .int .i64 4294967295, .int .i64 268435455]) (ok := fun _ => True) (okp := fun _ => True) ?hr ?hp (fun _ hk => hk) trivial (Below.refl _ _) (Nat.le_refl _) (by simp) ?_; (case hd => rfl); (case hg => rfl); (case hr => first | (go_simp; done) | (go_simp; rfl)); (case hp => exact (Reps.one (show Kd.M (Kd.int .i64) _ _ _ 0 [.int .i64 0] from rfl) (Reps.one (show Kd.M (Kd.int .i64) _ _ _ 1 [.int .i64 1] from rfl) (Reps.one (show Kd.M (Kd.int .i64) _ _ _ 65535 [.int .i64 65535] from rfl) (Reps.one (show Kd.M (Kd.int .i64) _ _ _ 4294967295 [.int .i64 4294967295] from rfl) (Reps.one (show Kd.M (Kd.int .i64) _ _ _ 268435455 [.int .i64 268435455] from rfl) (Reps.none _ _))))))); intro v205 w92 ho93 hb hg_ hnew_; clear hg_ hnew_; (first | rw [← Ny204.out] at ho93 | (simp only [Int.reduceToNat] at ho93; rw [← Ny204.out] at ho93)); have n0_ := Aside0.mk (Kd.R_lower ho93 (below_size zz12)); have n1_ := Aside0.mk (blk_below (g := gb202) (o := .cells #[.int .i64 a0_0, .int .i64 a0_1, .string a0_2, .string a0_3] 42 (0, 0)) zz26 hb); have n2_ := Aside0.mk (below_step zz12 hb); clear BK202; clear HB; have HO206 := n0_; have BK202 := n1_; have HB := n2_; clear n0_ n1_ n2_; clear hb ho93; obtain ⟨Ao94, co94, eo94⟩ := Kd.R_slice HO206.out; subst eo94; have p207 : 0 ≤ (t203 : Int) := of_decide_eq_true zz46; have q207 : t203 < (y204.length : Int) := of_decide_eq_true zz46; obtain ⟨ad207, e207, hx207_0⟩ := Kd.at_int (Kd.R_reads' HO206.out).2.2 t203 p207 q207; cases e207; replace p207 := eq_true p207; replace q207 := eq_true q207; have hcz95_0 : w92.cell? ⟨gb202, 0, none⟩ = some (.int .i64 a0_0) := (blk_cell BK202.out 0).trans rfl; have hcz95_1 : w92.cell? ⟨gb202, 1, none⟩ = some (.int .i64 a0_1) := (blk_cell BK202.out 1).trans rfl; have hcz95_2 : w92.cell? ⟨gb202, 2, none⟩ = some (.string a0_2) := (blk_cell BK202.out 2).trans rfl; have hcz95_3 : w92.cell? ⟨gb202, 3, none⟩ = some (.string a0_3) := (blk_cell BK202.out 3).trans rfl; have hfz95_0 := blk_frozen BK202.out 0; have hfz95_1 := blk_frozen BK202.out 1; have hfz95_2 := blk_frozen BK202.out 2; have hfz95_3 := blk_frozen BK202.out 3) | ((with_reducible refine gate_callee (f := 43) rfl ?_); refine goesL_ (some 44) rfl rfl Tryd.func43 zz49 rfl #[.int .i64 a0_1, .int .i64 (rd y204 t203)] rfl zz20 ?_; (with_reducible refine (fairwayref0_Num.calls a0_1 (rd y204 t203) false _ A81.out).mono ?_); rintro e w' ⟨rfl, ⟨nd, rfl⟩⟩; refine ⟨_, rfl, ?_⟩))
        go_ret
        exact ⟨zz40, zz12⟩
       rw [if_neg c75] at H; have c75b0 : (a0_0 == 11) = false := beq_eq_false_iff_ne.mpr c75; have c75b1 : (a0_0 != 11) = true := bne_iff_ne.mpr c75; replace H := Option.bind_eq_some_iff.mp H; obtain ⟨t212, A960, H⟩ := H; replace H : (if t212 = true then (if a0_2.toList = ([] : List UInt8) then (some (a0_3.toList == ([] : List UInt8))) else (some false)) else (some false)) = some r := H; have A96 := Aside0.mk A960; clear A960; by_cases c97 : t212 = true
       ·
        subst c97; have H1 : (if a0_2.toList = ([] : List UInt8) then (some (a0_3.toList == ([] : List UInt8))) else (some false)) = some r := by rw [if_pos rfl] at H; exact H
        clear H; have H := H1; clear H1; by_cases c98 : a0_2.toList = ([] : List UInt8)
        ·
         rw [if_pos c98] at H; have c98b0 : (a0_2.toList == ([] : List UInt8)) = true := beq_iff_eq.mpr c98; have c98b1 : (a0_2.toList != ([] : List UInt8)) = false := bne_eq_false_iff_eq.mpr c98; clear c98; obtain rfl := Option.some.inj H; go_wp2_with (first | ((with_reducible refine gate_dst (N := 14) rfl ?_); (try (refine gate_guard (by rfl) ?_; dsimp only)); refine Kd.R_lit (Kd.int .i64) _ 3 ?hg (N := 14) ?hd (xs := ([0, 1, 65535, 4294967295, 268435455] : List Int)) (inner := [.int .i64 0, .int .i64 1, .int .i64 65535, .int .i64 4294967295, .int .i64 268435455]) (ok := fun _ => True) (okp := fun _ => True) ?hr ?hp (fun _ hk => hk) trivial (Below.refl _ _) (Nat.le_refl _) (by simp) ?_; (case hd => rfl); (case hg => rfl); (case hr => first | (go_simp; done) | (go_simp; rfl)); (case hp => exact (Reps.one (show Kd.M (Kd.int .i64) _ _ _ 0 [.int .i64 0] from rfl) (Reps.one (show Kd.M (Kd.int .i64) _ _ _ 1 [.int .i64 1] from rfl) (Reps.one (show Kd.M (Kd.int .i64) _ _ _ 65535 [.int .i64 65535] from rfl) (Reps.one (show Kd.M (Kd.int .i64) _ _ _ 4294967295 [.int .i64 4294967295] from rfl) (Reps.one (show Kd.M (Kd.int .i64) _ _ _ 268435455 [.int .i64 268435455] from rfl) (Reps.none _ _))))))); intro v205 w99 ho100 hb hg_ hnew_; clear hg_ hnew_; (first | rw [← Ny204.out] at ho100 | (simp only [Int.reduceToNat] at ho100; rw [← Ny204.out] at ho100)); have n0_ := Aside0.mk (Kd.R_lower ho100 (below_size zz12)); have n1_ := Aside0.mk (blk_below (g := gb202) (o := .cells #[.int .i64 a0_0, .int .i64 a0_1, .string a0_2, .string a0_3] 42 (0, 0)) zz26 hb); have n2_ := Aside0.mk (below_step zz12 hb); clear BK202; clear HB; have HO206 := n0_; have BK202 := n1_; have HB := n2_; clear n0_ n1_ n2_; clear hb ho100; obtain ⟨Ao101, co101, eo101⟩ := Kd.R_slice HO206.out; subst eo101; have p207 : 0 ≤ (t203 : Int) := of_decide_eq_true zz46; have q207 : t203 < (y204.length : Int) := of_decide_eq_true zz46; obtain ⟨ad207, e207, hx207_0⟩ := Kd.at_int (Kd.R_reads' HO206.out).2.2 t203 p207 q207; cases e207; replace p207 := eq_true p207; replace q207 := eq_true q207; have hcz102_0 : w99.cell? ⟨gb202, 0, none⟩ = some (.int .i64 a0_0) := (blk_cell BK202.out 0).trans rfl; have hcz102_1 : w99.cell? ⟨gb202, 1, none⟩ = some (.int .i64 a0_1) := (blk_cell BK202.out 1).trans rfl; have hcz102_2 : w99.cell? ⟨gb202, 2, none⟩ = some (.string a0_2) := (blk_cell BK202.out 2).trans rfl; have hcz102_3 : w99.cell? ⟨gb202, 3, none⟩ = some (.string a0_3) := (blk_cell BK202.out 3).trans rfl; have hfz102_0 := blk_frozen BK202.out 0; have hfz102_1 := blk_frozen BK202.out 1; have hfz102_2 := blk_frozen BK202.out 2; have hfz102_3 := blk_frozen BK202.out 3) | ((with_reducible refine gate_callee (f := 43) rfl ?_); refine goesL_ (some 44) rfl rfl Tryd.func43 zz49 rfl #[.int .i64 a0_1, .int .i64 (rd y204 t203)] rfl zz20 ?_; (with_reducible refine (fairwayref0_Num.calls a0_1 (rd y204 t203) true _ A96.out).mono ?_); rintro e w' ⟨rfl, ⟨nd, rfl⟩⟩; refine ⟨_, rfl, ?_⟩))
         go_ret
         exact ⟨zz40, zz12⟩
        rw [if_neg c98] at H; have c98b0 : (a0_2.toList == ([] : List UInt8)) = false := beq_eq_false_iff_ne.mpr c98; have c98b1 : (a0_2.toList != ([] : List UInt8)) = true := bne_iff_ne.mpr c98; obtain rfl := Option.some.inj H; go_wp2_with (first | ((with_reducible refine gate_dst (N := 14) rfl ?_); (try (refine gate_guard (by rfl) ?_; dsimp only)); refine Kd.R_lit (Kd.int .i64) _ 3 ?hg (N := 14) ?hd (xs := ([0, 1, 65535, 4294967295, 268435455] : List Int)) (inner := [.int .i64 0, .int .i64 1, .int .i64 65535, .int .i64 4294967295, .int .i64 268435455]) (ok := fun _ => True) (okp := fun _ => True) ?hr ?hp (fun _ hk => hk) trivial (Below.refl _ _) (Nat.le_refl _) (by simp) ?_; (case hd => rfl); (case hg => rfl); (case hr => first | (go_simp; done) | (go_simp; rfl)); (case hp => exact (Reps.one (show Kd.M (Kd.int .i64) _ _ _ 0 [.int .i64 0] from rfl) (Reps.one (show Kd.M (Kd.int .i64) _ _ _ 1 [.int .i64 1] from rfl) (Reps.one (show Kd.M (Kd.int .i64) _ _ _ 65535 [.int .i64 65535] from rfl) (Reps.one (show Kd.M (Kd.int .i64) _ _ _ 4294967295 [.int .i64 4294967295] from rfl) (Reps.one (show Kd.M (Kd.int .i64) _ _ _ 268435455 [.int .i64 268435455] from rfl) (Reps.none _ _))))))); intro v205 w103 ho104 hb hg_ hnew_; clear hg_ hnew_; (first | rw [← Ny204.out] at ho104 | (simp only [Int.reduceToNat] at ho104; rw [← Ny204.out] at ho104)); have n0_ := Aside0.mk (Kd.R_lower ho104 (below_size zz12)); have n1_ := Aside0.mk (blk_below (g := gb202) (o := .cells #[.int .i64 a0_0, .int .i64 a0_1, .string a0_2, .string a0_3] 42 (0, 0)) zz26 hb); have n2_ := Aside0.mk (below_step zz12 hb); clear BK202; clear HB; have HO206 := n0_; have BK202 := n1_; have HB := n2_; clear n0_ n1_ n2_; clear hb ho104; obtain ⟨Ao105, co105, eo105⟩ := Kd.R_slice HO206.out; subst eo105; have p207 : 0 ≤ (t203 : Int) := of_decide_eq_true zz46; have q207 : t203 < (y204.length : Int) := of_decide_eq_true zz46; obtain ⟨ad207, e207, hx207_0⟩ := Kd.at_int (Kd.R_reads' HO206.out).2.2 t203 p207 q207; cases e207; replace p207 := eq_true p207; replace q207 := eq_true q207; have hcz106_0 : w103.cell? ⟨gb202, 0, none⟩ = some (.int .i64 a0_0) := (blk_cell BK202.out 0).trans rfl; have hcz106_1 : w103.cell? ⟨gb202, 1, none⟩ = some (.int .i64 a0_1) := (blk_cell BK202.out 1).trans rfl; have hcz106_2 : w103.cell? ⟨gb202, 2, none⟩ = some (.string a0_2) := (blk_cell BK202.out 2).trans rfl; have hcz106_3 : w103.cell? ⟨gb202, 3, none⟩ = some (.string a0_3) := (blk_cell BK202.out 3).trans rfl; have hfz106_0 := blk_frozen BK202.out 0; have hfz106_1 := blk_frozen BK202.out 1; have hfz106_2 := blk_frozen BK202.out 2; have hfz106_3 := blk_frozen BK202.out 3) | ((with_reducible refine gate_callee (f := 43) rfl ?_); refine goesL_ (some 44) rfl rfl Tryd.func43 zz49 rfl #[.int .i64 a0_1, .int .i64 (rd y204 t203)] rfl zz20 ?_; (with_reducible refine (fairwayref0_Num.calls a0_1 (rd y204 t203) true _ A96.out).mono ?_); rintro e w' ⟨rfl, ⟨nd, rfl⟩⟩; refine ⟨_, rfl, ?_⟩))
        go_ret
        exact ⟨zz40, zz12⟩
       replace c97 := Bool.eq_false_iff.mpr c97; subst c97; have H1 : (some false) = some r := by rw [if_neg (show ¬ (false = true) by decide)] at H; exact H
       clear H; have H := H1; clear H1; obtain rfl := Option.some.inj H; go_wp2_with (first | ((with_reducible refine gate_dst (N := 14) rfl ?_); (try (refine gate_guard (by rfl) ?_; dsimp only)); refine Kd.R_lit (Kd.int .i64) _ 3 ?hg (N := 14) ?hd (xs := ([0, 1, 65535, 4294967295, 268435455] : List Int)) (inner := [.int .i64 0, .int .i64 1, .int .i64 65535, .int .i64 4294967295, .int .i64 268435455]) (ok := fun _ => True) (okp := fun _ => True) ?hr ?hp (fun _ hk => hk) trivial (Below.refl _ _) (Nat.le_refl _) (by simp) ?_; (case hd => rfl); (case hg => rfl); (case hr => first | (go_simp; done) | (go_simp; rfl)); (case hp => exact (Reps.one (show Kd.M (Kd.int .i64) _ _ _ 0 [.int .i64 0] from rfl) (Reps.one (show Kd.M (Kd.int .i64) _ _ _ 1 [.int .i64 1] from rfl) (Reps.one (show Kd.M (Kd.int .i64) _ _ _ 65535 [.int .i64 65535] from rfl) (Reps.one (show Kd.M (Kd.int .i64) _ _ _ 4294967295 [.int .i64 4294967295] from rfl) (Reps.one (show Kd.M (Kd.int .i64) _ _ _ 268435455 [.int .i64 268435455] from rfl) (Reps.none _ _))))))); intro v205 w107 ho108 hb hg_ hnew_; clear hg_ hnew_; (first | rw [← Ny204.out] at ho108 | (simp only [Int.reduceToNat] at ho108; rw [← Ny204.out] at ho108)); have n0_ := Aside0.mk (Kd.R_lower ho108 (below_size zz12)); have n1_ := Aside0.mk (blk_below (g := gb202) (o := .cells #[.int .i64 a0_0, .int .i64 a0_1, .string a0_2, .string a0_3] 42 (0, 0)) zz26 hb); have n2_ := Aside0.mk (below_step zz12 hb); clear BK202; clear HB; have HO206 := n0_; have BK202 := n1_; have HB := n2_; clear n0_ n1_ n2_; clear hb ho108; obtain ⟨Ao109, co109, eo109⟩ := Kd.R_slice HO206.out; subst eo109; have p207 : 0 ≤ (t203 : Int) := of_decide_eq_true zz46; have q207 : t203 < (y204.length : Int) := of_decide_eq_true zz46; obtain ⟨ad207, e207, hx207_0⟩ := Kd.at_int (Kd.R_reads' HO206.out).2.2 t203 p207 q207; cases e207; replace p207 := eq_true p207; replace q207 := eq_true q207; have hcz110_0 : w107.cell? ⟨gb202, 0, none⟩ = some (.int .i64 a0_0) := (blk_cell BK202.out 0).trans rfl; have hcz110_1 : w107.cell? ⟨gb202, 1, none⟩ = some (.int .i64 a0_1) := (blk_cell BK202.out 1).trans rfl; have hcz110_2 : w107.cell? ⟨gb202, 2, none⟩ = some (.string a0_2) := (blk_cell BK202.out 2).trans rfl; have hcz110_3 : w107.cell? ⟨gb202, 3, none⟩ = some (.string a0_3) := (blk_cell BK202.out 3).trans rfl; have hfz110_0 := blk_frozen BK202.out 0; have hfz110_1 := blk_frozen BK202.out 1; have hfz110_2 := blk_frozen BK202.out 2; have hfz110_3 := blk_frozen BK202.out 3) | ((with_reducible refine gate_callee (f := 43) rfl ?_); refine goesL_ (some 44) rfl rfl Tryd.func43 zz49 rfl #[.int .i64 a0_1, .int .i64 (rd y204 t203)] rfl zz20 ?_; (with_reducible refine (fairwayref0_Num.calls a0_1 (rd y204 t203) false _ A96.out).mono ?_); rintro e w' ⟨rfl, ⟨nd, rfl⟩⟩; refine ⟨_, rfl, ?_⟩))
       go_ret
       exact ⟨zz40, zz12⟩
      rw [if_neg c11] at H; exact absurd H (by simp)
     rw [if_neg c10] at H; exact absurd H (by simp)
    replace c9 := Bool.eq_false_iff.mpr c9; subst c9; have H1 : (if t203 = 5 then (if a0_1 = 0 then (if a0_3.toList = ([] : List UInt8) then ((fairwayref1_Text.f kj2 a0_2).bind fun t213 => (some (t213 == 0))) else (some false)) else (some false)) else (if t203 = 6 then (if a0_1 = 0 then (if a0_3.toList = ([] : List UInt8) then (some (decide ((a0_2.size : Int) ≤ 1024))) else (some false)) else (some false)) else (if t203 = 7 then (if a0_1 = 0 then ((fairwayref1_Text.f kj2 a0_2).bind fun t214 => (if t214 = 0 then ((fairwayref1_Text.f kj2 a0_3).bind fun t215 => (some (t215 == 0))) else (some false))) else (some false)) else (some false)))) = some r := by rw [if_neg (show ¬ (false = true) by decide)] at H; exact H
    clear H; have H := H1; clear H1; by_cases c111 : t203 = 5
    ·
     rw [if_pos c111] at H; have c111b0 : (t203 == 5) = true := beq_iff_eq.mpr c111; have c111b1 : (t203 != 5) = false := bne_eq_false_iff_eq.mpr c111; clear c111; by_cases c112 : a0_1 = 0
     ·
      rw [if_pos c112] at H; have c112b0 : (a0_1 == 0) = true := beq_iff_eq.mpr c112; have c112b1 : (a0_1 != 0) = false := bne_eq_false_iff_eq.mpr c112; clear c112; by_cases c113 : a0_3.toList = ([] : List UInt8)
      ·
       rw [if_pos c113] at H; have c113b0 : (a0_3.toList == ([] : List UInt8)) = true := beq_iff_eq.mpr c113; have c113b1 : (a0_3.toList != ([] : List UInt8)) = false := bne_eq_false_iff_eq.mpr c113; clear c113; replace H := Option.bind_eq_some_iff.mp H; obtain ⟨t213, A1140, H⟩ := H; replace H : (some (t213 == 0)) = some r := H; have A114 := Aside0.mk A1140; clear A1140; obtain rfl := Option.some.inj H; have hcz115_0 : wc.cell? ⟨gb202, 0, none⟩ = some (.int .i64 a0_0) := (blk_cell BK202.out 0).trans rfl; have hcz115_1 : wc.cell? ⟨gb202, 1, none⟩ = some (.int .i64 a0_1) := (blk_cell BK202.out 1).trans rfl; have hcz115_2 : wc.cell? ⟨gb202, 2, none⟩ = some (.string a0_2) := (blk_cell BK202.out 2).trans rfl; have hcz115_3 : wc.cell? ⟨gb202, 3, none⟩ = some (.string a0_3) := (blk_cell BK202.out 3).trans rfl; have hfz115_0 := blk_frozen BK202.out 0; have hfz115_1 := blk_frozen BK202.out 1; have hfz115_2 := blk_frozen BK202.out 2; have hfz115_3 := blk_frozen BK202.out 3; go_wp2_with (first | (go_at_call 44; (with_reducible refine (fairwayref1_Text.calls kj2 a0_2 t213 _ A114.out).mono ?_); rintro e w' ⟨rfl, ⟨nd, rfl⟩⟩))
       go_ret
       exact ⟨zz40, zz12⟩
      rw [if_neg c113] at H; have c113b0 : (a0_3.toList == ([] : List UInt8)) = false := beq_eq_false_iff_ne.mpr c113; have c113b1 : (a0_3.toList != ([] : List UInt8)) = true := bne_iff_ne.mpr c113; obtain rfl := Option.some.inj H; have hcz116_0 : wc.cell? ⟨gb202, 0, none⟩ = some (.int .i64 a0_0) := (blk_cell BK202.out 0).trans rfl; have hcz116_1 : wc.cell? ⟨gb202, 1, none⟩ = some (.int .i64 a0_1) := (blk_cell BK202.out 1).trans rfl; have hcz116_2 : wc.cell? ⟨gb202, 2, none⟩ = some (.string a0_2) := (blk_cell BK202.out 2).trans rfl; have hcz116_3 : wc.cell? ⟨gb202, 3, none⟩ = some (.string a0_3) := (blk_cell BK202.out 3).trans rfl; have hfz116_0 := blk_frozen BK202.out 0; have hfz116_1 := blk_frozen BK202.out 1; have hfz116_2 := blk_frozen BK202.out 2; have hfz116_3 := blk_frozen BK202.out 3; go_wp2
      go_ret
      exact ⟨zz40, zz12⟩
     rw [if_neg c112] at H; have c112b0 : (a0_1 == 0) = false := beq_eq_false_iff_ne.mpr c112; have c112b1 : (a0_1 != 0) = true := bne_iff_ne.mpr c112; obtain rfl := Option.some.inj H; have hcz117_0 : wc.cell? ⟨gb202, 0, none⟩ = some (.int .i64 a0_0) := (blk_cell BK202.out 0).trans rfl; have hcz117_1 : wc.cell? ⟨gb202, 1, none⟩ = some (.int .i64 a0_1) := (blk_cell BK202.out 1).trans rfl; have hcz117_2 : wc.cell? ⟨gb202, 2, none⟩ = some (.string a0_2) := (blk_cell BK202.out 2).trans rfl; have hcz117_3 : wc.cell? ⟨gb202, 3, none⟩ = some (.string a0_3) := (blk_cell BK202.out 3).trans rfl; have hfz117_0 := blk_frozen BK202.out 0; have hfz117_1 := blk_frozen BK202.out 1; have hfz117_2 := blk_frozen BK202.out 2; have hfz117_3 := blk_frozen BK202.out 3; go_wp2
     go_ret
     exact ⟨zz40, zz12⟩
    rw [if_neg c111] at H; have c111b0 : (t203 == 5) = false := beq_eq_false_iff_ne.mpr c111; have c111b1 : (t203 != 5) = true := bne_iff_ne.mpr c111; by_cases c118 : t203 = 6
    ·
     rw [if_pos c118] at H; have c118b0 : (t203 == 6) = true := beq_iff_eq.mpr c118; have c118b1 : (t203 != 6) = false := bne_eq_false_iff_eq.mpr c118; clear c118; by_cases c119 : a0_1 = 0
     ·
      rw [if_pos c119] at H; have c119b0 : (a0_1 == 0) = true := beq_iff_eq.mpr c119; have c119b1 : (a0_1 != 0) = false := bne_eq_false_iff_eq.mpr c119; clear c119; by_cases c120 : a0_3.toList = ([] : List UInt8)
      ·
       rw [if_pos c120] at H; have c120b0 : (a0_3.toList == ([] : List UInt8)) = true := beq_iff_eq.mpr c120; have c120b1 : (a0_3.toList != ([] : List UInt8)) = false := bne_eq_false_iff_eq.mpr c120; clear c120; obtain rfl := Option.some.inj H; have hcz121_0 : wc.cell? ⟨gb202, 0, none⟩ = some (.int .i64 a0_0) := (blk_cell BK202.out 0).trans rfl; have hcz121_1 : wc.cell? ⟨gb202, 1, none⟩ = some (.int .i64 a0_1) := (blk_cell BK202.out 1).trans rfl; have hcz121_2 : wc.cell? ⟨gb202, 2, none⟩ = some (.string a0_2) := (blk_cell BK202.out 2).trans rfl; have hcz121_3 : wc.cell? ⟨gb202, 3, none⟩ = some (.string a0_3) := (blk_cell BK202.out 3).trans rfl; have hfz121_0 := blk_frozen BK202.out 0; have hfz121_1 := blk_frozen BK202.out 1; have hfz121_2 := blk_frozen BK202.out 2; have hfz121_3 := blk_frozen BK202.out 3; go_wp2
       go_ret
       exact ⟨zz40, zz12⟩
      rw [if_neg c120] at H; have c120b0 : (a0_3.toList == ([] : List UInt8)) = false := beq_eq_false_iff_ne.mpr c120; have c120b1 : (a0_3.toList != ([] : List UInt8)) = true := bne_iff_ne.mpr c120; obtain rfl := Option.some.inj H; have hcz122_0 : wc.cell? ⟨gb202, 0, none⟩ = some (.int .i64 a0_0) := (blk_cell BK202.out 0).trans rfl; have hcz122_1 : wc.cell? ⟨gb202, 1, none⟩ = some (.int .i64 a0_1) := (blk_cell BK202.out 1).trans rfl; have hcz122_2 : wc.cell? ⟨gb202, 2, none⟩ = some (.string a0_2) := (blk_cell BK202.out 2).trans rfl; have hcz122_3 : wc.cell? ⟨gb202, 3, none⟩ = some (.string a0_3) := (blk_cell BK202.out 3).trans rfl; have hfz122_0 := blk_frozen BK202.out 0; have hfz122_1 := blk_frozen BK202.out 1; have hfz122_2 := blk_frozen BK202.out 2; have hfz122_3 := blk_frozen BK202.out 3; go_wp2
      go_ret
      exact ⟨zz40, zz12⟩
     rw [if_neg c119] at H; have c119b0 : (a0_1 == 0) = false := beq_eq_false_iff_ne.mpr c119; have c119b1 : (a0_1 != 0) = true := bne_iff_ne.mpr c119; obtain rfl := Option.some.inj H; have hcz123_0 : wc.cell? ⟨gb202, 0, none⟩ = some (.int .i64 a0_0) := (blk_cell BK202.out 0).trans rfl; have hcz123_1 : wc.cell? ⟨gb202, 1, none⟩ = some (.int .i64 a0_1) := (blk_cell BK202.out 1).trans rfl; have hcz123_2 : wc.cell? ⟨gb202, 2, none⟩ = some (.string a0_2) := (blk_cell BK202.out 2).trans rfl; have hcz123_3 : wc.cell? ⟨gb202, 3, none⟩ = some (.string a0_3) := (blk_cell BK202.out 3).trans rfl; have hfz123_0 := blk_frozen BK202.out 0; have hfz123_1 := blk_frozen BK202.out 1; have hfz123_2 := blk_frozen BK202.out 2; have hfz123_3 := blk_frozen BK202.out 3; go_wp2
     go_ret
     exact ⟨zz40, zz12⟩
    rw [if_neg c118] at H; have c118b0 : (t203 == 6) = false := beq_eq_false_iff_ne.mpr c118; have c118b1 : (t203 != 6) = true := bne_iff_ne.mpr c118; by_cases c124 : t203 = 7
    ·
     rw [if_pos c124] at H; have c124b0 : (t203 == 7) = true := beq_iff_eq.mpr c124; have c124b1 : (t203 != 7) = false := bne_eq_false_iff_eq.mpr c124; clear c124; by_cases c125 : a0_1 = 0
     ·
      rw [if_pos c125] at H; have c125b0 : (a0_1 == 0) = true := beq_iff_eq.mpr c125; have c125b1 : (a0_1 != 0) = false := bne_eq_false_iff_eq.mpr c125; clear c125; replace H := Option.bind_eq_some_iff.mp H; obtain ⟨t214, A1260, H⟩ := H; replace H : (if t214 = 0 then ((fairwayref1_Text.f kj2 a0_3).bind fun t215 => (some (t215 == 0))) else (some false)) = some r := H; have A126 := Aside0.mk A1260; clear A1260; by_cases c127 : t214 = 0
      ·
       rw [if_pos c127] at H; have c127b0 : (t214 == 0) = true := beq_iff_eq.mpr c127; have c127b1 : (t214 != 0) = false := bne_eq_false_iff_eq.mpr c127; clear c127; replace H := Option.bind_eq_some_iff.mp H; obtain ⟨t215, A1280, H⟩ := H; replace H : (some (t215 == 0)) = some r := H; have A128 := Aside0.mk A1280; clear A1280; obtain rfl := Option.some.inj H; have hcz129_0 : wc.cell? ⟨gb202, 0, none⟩ = some (.int .i64 a0_0) := (blk_cell BK202.out 0).trans rfl; have hcz129_1 : wc.cell? ⟨gb202, 1, none⟩ = some (.int .i64 a0_1) := (blk_cell BK202.out 1).trans rfl; have hcz129_2 : wc.cell? ⟨gb202, 2, none⟩ = some (.string a0_2) := (blk_cell BK202.out 2).trans rfl; have hcz129_3 : wc.cell? ⟨gb202, 3, none⟩ = some (.string a0_3) := (blk_cell BK202.out 3).trans rfl; have hfz129_0 := blk_frozen BK202.out 0; have hfz129_1 := blk_frozen BK202.out 1; have hfz129_2 := blk_frozen BK202.out 2; have hfz129_3 := blk_frozen BK202.out 3; go_wp2_with (first | (go_at_call 44; (with_reducible refine (fairwayref1_Text.calls kj2 a0_2 t214 _ A126.out).mono ?_); rintro e w' ⟨rfl, ⟨nd, rfl⟩⟩) | (go_at_call 44; (with_reducible refine (fairwayref1_Text.calls kj2 a0_3 t215 _ A128.out).mono ?_); rintro e w' ⟨rfl, ⟨nd, rfl⟩⟩))
       go_ret
       exact ⟨zz40, zz12⟩
      rw [if_neg c127] at H; have c127b0 : (t214 == 0) = false := beq_eq_false_iff_ne.mpr c127; have c127b1 : (t214 != 0) = true := bne_iff_ne.mpr c127; obtain rfl := Option.some.inj H; have hcz130_0 : wc.cell? ⟨gb202, 0, none⟩ = some (.int .i64 a0_0) := (blk_cell BK202.out 0).trans rfl; have hcz130_1 : wc.cell? ⟨gb202, 1, none⟩ = some (.int .i64 a0_1) := (blk_cell BK202.out 1).trans rfl; have hcz130_2 : wc.cell? ⟨gb202, 2, none⟩ = some (.string a0_2) := (blk_cell BK202.out 2).trans rfl; have hcz130_3 : wc.cell? ⟨gb202, 3, none⟩ = some (.string a0_3) := (blk_cell BK202.out 3).trans rfl; have hfz130_0 := blk_frozen BK202.out 0; have hfz130_1 := blk_frozen BK202.out 1; have hfz130_2 := blk_frozen BK202.out 2; have hfz130_3 := blk_frozen BK202.out 3; go_wp2_with (first | (go_at_call 44; (with_reducible refine (fairwayref1_Text.calls kj2 a0_2 t214 _ A126.out).mono ?_); rintro e w' ⟨rfl, ⟨nd, rfl⟩⟩))
      go_ret
      exact ⟨zz40, zz12⟩
     rw [if_neg c125] at H; have c125b0 : (a0_1 == 0) = false := beq_eq_false_iff_ne.mpr c125; have c125b1 : (a0_1 != 0) = true := bne_iff_ne.mpr c125; obtain rfl := Option.some.inj H; have hcz131_0 : wc.cell? ⟨gb202, 0, none⟩ = some (.int .i64 a0_0) := (blk_cell BK202.out 0).trans rfl; have hcz131_1 : wc.cell? ⟨gb202, 1, none⟩ = some (.int .i64 a0_1) := (blk_cell BK202.out 1).trans rfl; have hcz131_2 : wc.cell? ⟨gb202, 2, none⟩ = some (.string a0_2) := (blk_cell BK202.out 2).trans rfl; have hcz131_3 : wc.cell? ⟨gb202, 3, none⟩ = some (.string a0_3) := (blk_cell BK202.out 3).trans rfl; have hfz131_0 := blk_frozen BK202.out 0; have hfz131_1 := blk_frozen BK202.out 1; have hfz131_2 := blk_frozen BK202.out 2; have hfz131_3 := blk_frozen BK202.out 3; go_wp2
     go_ret
     exact ⟨zz40, zz12⟩
    rw [if_neg c124] at H; have c124b0 : (t203 == 7) = false := beq_eq_false_iff_ne.mpr c124; have c124b1 : (t203 != 7) = true := bne_iff_ne.mpr c124; obtain rfl := Option.some.inj H; go_wp2
    go_ret
    exact ⟨zz40, zz12⟩
def fairwayref0_In.l0 : Nat → List Int → Int → Int → Option (Int)
  | 0, _, _, _ => none
  | k + 1, x0, x1, x5 => if x5 < (x0.length : Int) then (if 0 ≤ x5 then (if (rd x0 x5) = x1 then (some x5) else (fairwayref0_In.l0 k x0 x1 (wrap64 (x5 + 1)))) else (none)) else (some (-1))
def fairwayref0_In.f (k : Nat) (l0 : List Int) (a1 : Int) : Option (Int) := fairwayref0_In.l0 k l0 a1 0
theorem fairwayref0_In.mono_l : ∀ k, (∀ y0 y1 y2, LeO (fairwayref0_In.l0 k y0 y1 y2) (fairwayref0_In.l0 (k + 1) y0 y1 y2))
 | 0 => fun _ _ _ r h => by simp [fairwayref0_In.l0] at h
 | k + 1 => by
  have ih0 := fairwayref0_In.mono_l k
  ·
   intro y0 y1 y2
   unfold fairwayref0_In.l0; repeat' first
   | (with_reducible exact ih0 _ _ _)
   | (with_reducible exact LeO.refl _)
   | (with_reducible exact LeO.none _)
   | (with_reducible refine LeO.ite ?_ ?_)
   | (with_reducible refine LeO.bind ?_ (fun _ => ?_))
   | exact ih0 _ _ _
   | exact LeO.none _
   | refine LeO.ite ?_ ?_
   | refine LeO.bind ?_ (fun _ => ?_)
theorem fairwayref0_In.mono : ∀ a0 a1 k, LeO (fairwayref0_In.f k a0 a1) (fairwayref0_In.f (k + 1) a0 a1) := by
 intro a0 a1 k
 have ih0 := fairwayref0_In.mono_l k; unfold fairwayref0_In.f; repeat' first
   | (with_reducible exact ih0 _ _ _)
   | (with_reducible exact LeO.refl _)
   | (with_reducible exact LeO.none _)
   | (with_reducible refine LeO.ite ?_ ?_)
   | (with_reducible refine LeO.bind ?_ (fun _ => ?_))
   | exact ih0 _ _ _
   | exact LeO.none _
   | refine LeO.ite ?_ ?_
   | refine LeO.bind ?_ (fun _ => ?_)
set_option maxHeartbeats 8000000 in
set_option maxRecDepth 100000 in
theorem fairwayref0_In.calls (k : Nat) (A0 : Option Addr) (c0 : Nat) (l0 : List Int) (a1 : Int) (r : Int) (w : World) (hr0 : Kd.C (Kd.int .i64) w A0 l0.length l0) (hc0 : l0.length ≤ c0) (h : fairwayref0_In.f k l0 a1 = some r) :
  Calls Tryd.prog 45 #[.slice A0 l0.length c0, .int .i64 a1] w fun e w' => e = .returned (.int .i64 r) ∧ Drawn0 w w' := by
 have HR0 := Aside0.mk hr0; have HC0 := Aside0.mk hc0; clear hr0 hc0; have H : (fairwayref0_In.l0 k l0 a1 0) = some r := h; clear h; have H' := Aside0.mk H; clear H; go_enter Tryd.func45, Tryd.ntmps45
 go_wp2
 go_loopg [5] k (fun kq v5 w' => ∃ (x5_1 : Int), v5 = .int .i64 x5_1 ∧ Aside0 (fairwayref0_In.l0 kq l0 a1 x5_1 = some r) ∧ Aside0 (kq ≤ k) ∧ Drawn0 w w')
 case atStart => exact ⟨(0), zz47, H', ⟨Nat.le_refl _⟩, zz43⟩
 case round =>
  clear H'; (try clear p2); obtain ⟨x5_1, rfl, HA, HK1, ⟨m1, rfl⟩⟩ := hrel; cases gk with
  | zero => exact absurd HA.out (by simp [fairwayref0_In.l0])
  | succ k1 =>
   have H := HA.out; clear HA; simp only [fairwayref0_In.l0] at H; by_cases c3 : x5_1 < (l0.length : Int)
   ·
    rw [if_pos c3] at H; have c3b0 : decide (x5_1 < (l0.length : Int)) = true := decide_eq_true c3; clear c3; by_cases c4 : 0 ≤ x5_1
    ·
     rw [if_pos c4] at H; have c4b0 : decide (0 ≤ x5_1) = true := decide_eq_true c4; clear c4; by_cases c5 : (rd l0 x5_1) = a1
     ·
      rw [if_pos c5] at H; have c5b0 : ((rd l0 x5_1) == a1) = true := beq_iff_eq.mpr c5; have c5b1 : ((rd l0 x5_1) != a1) = false := bne_eq_false_iff_eq.mpr c5; clear c5; obtain rfl := Option.some.inj H; have p216 : 0 ≤ (x5_1 : Int) := of_decide_eq_true zz46; have q216 : x5_1 < (l0.length : Int) := of_decide_eq_true zz46; obtain ⟨ad216, e216, hx216_0⟩ := Kd.at_int HR0.out x5_1 p216 q216; cases e216; replace p216 := eq_true p216; replace q216 := eq_true q216; go_wp2
      go_ret
      exact ⟨zz47, zz43⟩
     rw [if_neg c5] at H; have c5b0 : ((rd l0 x5_1) == a1) = false := beq_eq_false_iff_ne.mpr c5; have c5b1 : ((rd l0 x5_1) != a1) = true := bne_iff_ne.mpr c5; have H' := Aside0.mk H; clear H; have p216 : 0 ≤ (x5_1 : Int) := of_decide_eq_true zz46; have q216 : x5_1 < (l0.length : Int) := of_decide_eq_true zz46; obtain ⟨ad216, e216, hx216_0⟩ := Kd.at_int HR0.out x5_1 p216 q216; cases e216; replace p216 := eq_true p216; replace q216 := eq_true q216; go_wp2
     go_roundg k1
     case measure => have := HK1.out; omega
     case rel => exact ⟨(wrap64 (x5_1 + 1)), zz47, H', ⟨by have := HK1.out; omega⟩, zz43⟩
    rw [if_neg c4] at H; exact absurd H (by simp)
   rw [if_neg c3] at H; have c3b0 : decide (x5_1 < (l0.length : Int)) = false := decide_eq_false c3; clear c3; obtain rfl := Option.some.inj H; go_wp2
   go_ret
   exact ⟨zz47, zz43⟩
end Go.Proofs.YtiancopplinpcaaDoor.P
end
