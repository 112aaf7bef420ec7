/- The statement PropOnce: for every input the law answers true, and its argument reads behind the call as it did (part 8 of 10 of the proof). -/
import Derived.Test.YtiancopplinpcaaDoorMPropOnce6
import Derived.RegionTactic
import Derived.ChangeAlike
import Derived.RegionCalls
section
theorem zz0 {p : Prop} (h : p := by repeat (first | (with_reducible first | exact HB.out | apply below_alloc | apply pw_below_drewN | apply below_drew1) | exact HB.out | (refine Below.setCell ?_ (by simp <;> omega) _) | (refine Below.setCells ?_ (by simp <;> omega) _ _))) : p := h
theorem zz3 {p : Prop} (h : p := by repeat (first | (with_reducible first | exact HB.out | apply below_alloc | apply pw_below_drewN | apply below_drew1 | refine below_set ?_ GE159.out) | exact HB.out)) : p := h
theorem zz8 {p : Prop} (h : p := by (with_reducible repeat (first | refine blk_drewN ?_ _ | refine blk_drew ?_ | refine blk_alloc ?_ _)); exact BK159.out) : p := h
namespace Go.Proofs.YtiancopplinpcaaDoor.P
open Go.RowKit Go.Proofs.YtiancopplinpcaaDoorW.PrintWords Go.Proofs.YtiancopplinpcaaDoorW.PrintLast Go.Proofs.YtiancopplinpcaaDoorW.PrintMore
set_option linter.unusedSimpArgs false
set_option linter.unusedVariables false
attribute [local go_sem] max2_int min2_int max_two min_two
theorem bcell {W w1 : World} (hb : Below W.heap.size W w1) : ∀ b o, b < W.heap.size → w1.cell? ⟨b, o, none⟩ = W.cell? ⟨b, o, none⟩ := fun b o h => hb.cell (p := ⟨b, o, none⟩) h
theorem conv1 (w W : World) (n : Int) (hW : W.heap = (w.alloc (.cells #[.int .u8 (IntKind.u8.wrap n)] 5)).heap) : (convert 58 9 (.slice (some ⟨w.heap.size, 0, none⟩) 1 1)).run Tryd.prog W = .ok (.string (strOfNums [n % 256])) W := by
  refine string_of_reads Tryd.underlying58 Tryd.underlying5 Tryd.underlying9 ⟨rfl, by decide, fun _ => ⟨_, rfl, fun j hj => ?_⟩⟩
  obtain rfl : j = 0 := by omega
  rw [add_plain]
  have h0 := heap_alloc_new w (.cells #[.int .u8 (IntKind.u8.wrap n)] 5)
  rw [← hW] at h0
  have h1 := blk_cell h0 0
  rw [h1, IntKind.wrap_u8]
  rfl
def prop_laid.f (k : Nat) (a0 : Int) (a1 : AnyV) : Option (ByteArray × Int) := match a1 with
  | .num n => if a0 = 1 then (prop_within.f n 255).bind fun e => some (strOfNums [n % 256], e) else if a0 = 2 then vbi_Two.f k n else if a0 = 3 then vbi_Four.f k n else if a0 = 4 then vbi_Num.f k n else none
  | .str s => if a0 = 6 then vbi_Bin.f k s else if a0 = 5 then vbi_Text.f k s else none
  | .two a b => if 1 ≤ a0 ∧ a0 ≤ 6 then none else (vbi_Text.f k a).bind fun x => (vbi_Text.f k b).bind fun y => if x.1.size + y.1.size ≤ 9223372036854775807 then some (x.1 ++ y.1, mx x.2 y.2) else none
  | .no => none
theorem prop_laid.mono : ∀ a0 a1 k, LeO (prop_laid.f k a0 a1) (prop_laid.f (k + 1) a0 a1) := by
  intro a0 a1 k
  unfold prop_laid.f; cases a1 with
  | no => exact LeO.none _
  | num n => exact LeO.ite (LeO.refl _) (LeO.ite (vbi_Two.mono _ _) (LeO.ite (vbi_Four.mono _ _) (LeO.ite (vbi_Num.mono _ _) (LeO.none _))))
  | str s => exact LeO.ite (vbi_Bin.mono _ _) (LeO.ite (vbi_Text.mono _ _) (LeO.none _))
  | two a b => exact LeO.ite (LeO.none _) (LeO.bind (vbi_Text.mono _ _) (fun _ => LeO.bind (vbi_Text.mono _ _) (fun _ => LeO.refl _)))
set_option maxHeartbeats 4000000 in
set_option maxRecDepth 100000 in
theorem prop_laid.two (k : Nat) (n : Int) (r1 : ByteArray) (r2 : Int) (w : World) (HLAID : Laid w) (h : vbi_Two.f k n = some (r1, r2)) :
    Calls Tryd.prog 42 #[.int .i64 2, .iface 3 (.int .i64 n)] w fun e w' => e = .returned (.tuple #[.string r1, .int .i64 r2]) ∧ Below w.heap.size w w' := by
  have t1 : ∀ W, (Instr.typeAssert (.iface 3 (.int .i64 n)) 20 3 false).run Tryd.prog W = .ok (.int .i64 n) W := fun W => by rfl
  go_enter Tryd.func42, Tryd.ntmps42
  go_wp2_with (go_at_call 56; (with_reducible refine (vbi_Two.calls k n r1 r2 _ h).mono ?_); rintro e w1 ⟨rfl, hb⟩)
  go_ret2
  exact ⟨rfl, hb⟩
set_option maxHeartbeats 4000000 in
set_option maxRecDepth 100000 in
theorem prop_laid.four (k : Nat) (n : Int) (r1 : ByteArray) (r2 : Int) (w : World) (HLAID : Laid w) (h : vbi_Four.f k n = some (r1, r2)) :
    Calls Tryd.prog 42 #[.int .i64 3, .iface 3 (.int .i64 n)] w fun e w' => e = .returned (.tuple #[.string r1, .int .i64 r2]) ∧ Below w.heap.size w w' := by
  have t1 : ∀ W, (Instr.typeAssert (.iface 3 (.int .i64 n)) 20 3 false).run Tryd.prog W = .ok (.int .i64 n) W := fun W => by rfl
  go_enter Tryd.func42, Tryd.ntmps42
  go_wp2_with (go_at_call 57; (with_reducible refine (vbi_Four.calls k n r1 r2 _ h).mono ?_); rintro e w1 ⟨rfl, hb⟩)
  go_ret2
  exact ⟨rfl, hb⟩
set_option maxHeartbeats 4000000 in
set_option maxRecDepth 100000 in
theorem prop_laid.numb (k : Nat) (n : Int) (r1 : ByteArray) (r2 : Int) (w : World) (HLAID : Laid w) (h : vbi_Num.f k n = some (r1, r2)) :
    Calls Tryd.prog 42 #[.int .i64 4, .iface 3 (.int .i64 n)] w fun e w' => e = .returned (.tuple #[.string r1, .int .i64 r2]) ∧ Below w.heap.size w w' := by
  have t1 : ∀ W, (Instr.typeAssert (.iface 3 (.int .i64 n)) 20 3 false).run Tryd.prog W = .ok (.int .i64 n) W := fun W => by rfl
  go_enter Tryd.func42, Tryd.ntmps42
  go_wp2_with (go_at_call 29; (with_reducible refine (vbi_Num.calls k n r1 r2 _ h).mono ?_); rintro e w1 ⟨rfl, hb⟩)
  go_ret2
  exact ⟨rfl, hb⟩
set_option maxHeartbeats 4000000 in
set_option maxRecDepth 100000 in
theorem prop_laid.bin (k : Nat) (s : ByteArray) (r1 : ByteArray) (r2 : Int) (w : World) (HLAID : Laid w) (h : vbi_Bin.f k s = some (r1, r2)) :
    Calls Tryd.prog 42 #[.int .i64 6, .iface 9 (.string s)] w fun e w' => e = .returned (.tuple #[.string r1, .int .i64 r2]) ∧ Below w.heap.size w w' := by
  have t1 : ∀ W, (Instr.typeAssert (.iface 9 (.string s)) 20 9 false).run Tryd.prog W = .ok (.string s) W := fun W => by rfl
  go_enter Tryd.func42, Tryd.ntmps42
  go_wp2_with (go_at_call 58; (with_reducible refine (vbi_Bin.calls k s r1 r2 _ h).mono ?_); rintro e w1 ⟨rfl, hb⟩)
  go_ret2
  exact ⟨rfl, hb⟩
set_option maxHeartbeats 4000000 in
set_option maxRecDepth 100000 in
theorem prop_laid.text (k : Nat) (s : ByteArray) (r1 : ByteArray) (r2 : Int) (w : World) (HLAID : Laid w) (h : vbi_Text.f k s = some (r1, r2)) :
    Calls Tryd.prog 42 #[.int .i64 5, .iface 9 (.string s)] w fun e w' => e = .returned (.tuple #[.string r1, .int .i64 r2]) ∧ Below w.heap.size w w' := by
  have t1 : ∀ W, (Instr.typeAssert (.iface 9 (.string s)) 20 9 false).run Tryd.prog W = .ok (.string s) W := fun W => by rfl
  go_enter Tryd.func42, Tryd.ntmps42
  go_wp2_with (go_at_call 59; (with_reducible refine (vbi_Text.calls k s r1 r2 _ HLAID h).mono ?_); rintro e w1 ⟨rfl, hb⟩)
  go_ret2
  exact ⟨rfl, hb⟩
set_option maxHeartbeats 4000000 in
set_option maxRecDepth 100000 in
theorem prop_laid.flag (k : Nat) (n : Int) (r1 : ByteArray) (r2 : Int) (w : World) (HLAID : Laid w) (h : prop_within.f n 255 = some r2 ∧ r1 = strOfNums [n % 256]) :
    Calls Tryd.prog 42 #[.int .i64 1, .iface 3 (.int .i64 n)] w fun e w' => e = .returned (.tuple #[.string r1, .int .i64 r2]) ∧ Below w.heap.size w w' := by
  obtain ⟨h, rfl⟩ := h
  have t1 : ∀ W, (Instr.typeAssert (.iface 3 (.int .i64 n)) 20 3 false).run Tryd.prog W = .ok (.int .i64 n) W := fun W => by rfl
  go_enter Tryd.func42, Tryd.ntmps42
  go_wp2
  have hcv : ∀ W : World, W.heap = (w.alloc (.cells #[.int .u8 (IntKind.u8.wrap n)] 5)).heap → (convert 58 9 (.slice (some ⟨w.heap.size, 0, none⟩) 1 1)).run Tryd.prog W = .ok (.string (strOfNums [n % 256])) W := fun W hW => conv1 w W n hW
  have hcv1 := hcv ((w.alloc (.cells #[.int .u8 (IntKind.u8.wrap n)] 5)).drew) rfl
  have hcv2 := fun m => hcv ((w.alloc (.cells #[.int .u8 (IntKind.u8.wrap n)] 5)).drew.drewN m) rfl
  have hcv3 := fun m => hcv (((w.drew.drewN m).alloc (.cells #[.int .u8 (IntKind.u8.wrap n)] 5))) rfl
  have hcv4 := fun m => hcv (((w.alloc (.cells #[.int .u8 (IntKind.u8.wrap n)] 5)).drewN m)) rfl
  have hcv5 := fun m => hcv (((w.drewN m).alloc (.cells #[.int .u8 (IntKind.u8.wrap n)] 5))) rfl
  clear hcv
  go_region_with (go_at_call 55; (with_reducible refine (prop_within.calls n 255 r2 _ h).mono ?_); rintro e w' ⟨rfl, ⟨nd, rfl⟩⟩)
  all_goals go_wp2
  all_goals go_ret2
  all_goals exact ⟨rfl, by repeat (first | exact Below.refl _ _ | apply below_drew1 | apply pw_below_drewN | apply below_alloc)⟩
set_option maxHeartbeats 4000000 in
set_option maxRecDepth 100000 in
theorem prop_laid.both (k : Nat) (a b s1 s2 : ByteArray) (e1 e2 : Int) (a0 : Int) (r1 : ByteArray) (r2 : Int) (w : World) (HLAID : Laid w) (h : vbi_Text.f k a = some (s1, e1) ∧ vbi_Text.f k b = some (s2, e2) ∧ s1.size + s2.size ≤ 9223372036854775807 ∧ r1 = s1 ++ s2 ∧ r2 = mx e1 e2 ∧ ¬ (1 ≤ a0 ∧ a0 ≤ 6)) :
    Calls Tryd.prog 42 #[.int .i64 a0, .iface 87 (.agg #[.string a, .string b])] w fun e w' => e = .returned (.tuple #[.string r1, .int .i64 r2]) ∧ Below w.heap.size w w' := by
  obtain ⟨h1, h2, h3, rfl, rfl, h4⟩ := h
  have b1 : ((a0 : Int) == 1) = false := by simp; omega
  have b2 : ((a0 : Int) == 2) = false := by simp; omega
  have b3 : ((a0 : Int) == 3) = false := by simp; omega
  have b4 : ((a0 : Int) == 4) = false := by simp; omega
  have b5 : ((a0 : Int) == 5) = false := by simp; omega
  have b6 : ((a0 : Int) == 6) = false := by simp; omega
  clear h4
  have t3 : ∀ W, (Instr.typeAssert (.iface 87 (.agg #[.string a, .string b])) 20 87 false).run Tryd.prog W = .ok (.agg #[.string a, .string b]) W := fun W => by rfl
  have hsz : decide (s1.size + s2.size ≤ 9223372036854775807) = true := by simpa using h3
  have H1 := Aside0.mk h1
  have H2 := Aside0.mk h2
  clear h1 h2
  have HB := Aside0.mk (Below.refl w.heap.size w)
  by_cases hlt : e1 < e2
  all_goals
   go_enter Tryd.func42, Tryd.ntmps42
   go_wp2_with (first
    | (go_at_call 59; (with_reducible refine (vbi_Text.calls k a s1 e1 _ ?hl H1.out).mono ?_); (case hl => exact HLAID.below zz0); rintro e w1 ⟨rfl, hb1⟩; have hc1 := bcell hb1; have n0_ := Aside0.mk (below_step zz0 hb1); clear HB; have HB := n0_; clear n0_)
    | (go_at_call 59; (with_reducible refine (vbi_Text.calls k b s2 e2 _ ?hl H2.out).mono ?_); (case hl => exact HLAID.below zz0); rintro e w2 ⟨rfl, hb2⟩; have n0_ := Aside0.mk (below_step zz0 hb2); clear HB; have HB := n0_; clear n0_))
   go_ret2
   exact ⟨by first | (rw [show mx e1 e2 = e2 from if_pos hlt]; rfl) | (rw [show mx e1 e2 = e1 from if_neg (by omega)]; rfl), zz0⟩
theorem prop_laid.calls (k : Nat) (a0 : Int) (a1 : AnyV) (r1 : ByteArray) (r2 : Int) (w : World) (HLAID : Laid w) (h : prop_laid.f k a0 a1 = some (r1, r2)) :
    Calls Tryd.prog 42 #[.int .i64 a0, anyW a1] w fun e w' => e = .returned (.tuple #[.string r1, .int .i64 r2]) ∧ Below w.heap.size w w' := by
  cases a1 with
  | no => cases h
  | num n =>
    simp only [prop_laid.f] at h; by_cases c1 : a0 = 1
    · subst c1
      rw [if_pos rfl] at h; obtain ⟨e, he, h⟩ := Option.bind_eq_some_iff.1 h; simp only [Option.some.injEq, Prod.mk.injEq] at h; obtain ⟨rfl, rfl⟩ := h; exact prop_laid.flag k n _ e w HLAID ⟨he, rfl⟩
    · rw [if_neg c1] at h
      by_cases c2 : a0 = 2
      · subst c2
        exact prop_laid.two k n r1 r2 w HLAID h
      · rw [if_neg c2] at h
        by_cases c3 : a0 = 3
        · subst c3
          exact prop_laid.four k n r1 r2 w HLAID h
        · rw [if_neg c3] at h
          by_cases c4 : a0 = 4
          · subst c4
            exact prop_laid.numb k n r1 r2 w HLAID h
          · rw [if_neg c4] at h
            cases h
  | str s =>
    simp only [prop_laid.f] at h; by_cases c6 : a0 = 6
    · subst c6
      exact prop_laid.bin k s r1 r2 w HLAID h
    · rw [if_neg c6] at h
      by_cases c5 : a0 = 5
      · subst c5
        exact prop_laid.text k s r1 r2 w HLAID h
      · rw [if_neg c5] at h
        cases h
  | two a b =>
    simp only [prop_laid.f] at h; by_cases c : 1 ≤ a0 ∧ a0 ≤ 6
    · rw [if_pos c] at h
      cases h
    · rw [if_neg c] at h
      obtain ⟨⟨s1, e1⟩, h1, h⟩ := Option.bind_eq_some_iff.1 h; obtain ⟨⟨s2, e2⟩, h2, h⟩ := Option.bind_eq_some_iff.1 h; by_cases hs : s1.size + s2.size ≤ 9223372036854775807
      · simp only [if_pos hs, Option.some.injEq, Prod.mk.injEq] at h
        obtain ⟨rfl, rfl⟩ := h; exact prop_laid.both k a b s1 s2 e1 e2 a0 _ _ w HLAID ⟨h1, h2, hs, rfl, rfl, c⟩
      · simp only [if_neg hs] at h
        cases h
end Go.Proofs.YtiancopplinpcaaDoor.P
end
section
namespace Go.Proofs.YtiancopplinpcaaDoor.P
open Go.RowKit Go.Proofs.YtiancopplinpcaaDoorW.PrintWords Go.Proofs.YtiancopplinpcaaDoorW.PrintLast Go.Proofs.YtiancopplinpcaaDoorW.PrintMore
attribute [local go_sem] max2_int min2_int max_two min_two max_three min_three max_four min_four
set_option linter.unusedVariables false
set_option linter.unusedSimpArgs false
mutual
def prop_lay.j0 : Nat → Int → List (S42) → Bool → Option (ByteArray × Bool)
  | 0, _, _, _ => none
  | k + 1, x0, x1, x28 => if x28 = true then (some ((⟨#[]⟩ : ByteArray), false)) else (prop_lay.l0 k x0 x1 (⟨#[]⟩ : ByteArray) x1 (x1.length : Int) 0)
def prop_lay.l0 : Nat → Int → List (S42) → ByteArray → List (S42) → Int → Int → Option (ByteArray × Bool)
  | 0, _, _, _, _, _, _ => none
  | k + 1, x0, x1, x8, x29, x30, x31 => if x31 < x30 then (if 0 ≤ x31 then (if x31 < (x29.length : Int) then ((prop_value.f k ((rd_T42 x29 x31).f0) ((rd_T42 x29 x31).f1) ((rd_T42 x29 x31).f2) ((rd_T42 x29 x31).f3)).bind fun bt160 => (if bt160.2 = true then (if x31 ≤ (x1.length : Int) then ((prop_fits.f k x0 (x1.take (x31 : Int).toNat) ((rd_T42 x29 x31).f0) ((rd_T42 x29 x31).f1) ((rd_T42 x29 x31).f2) ((rd_T42 x29 x31).f3)).bind fun t166 => (prop_lay.j2 k x0 x1 x8 bt160.1 x29 x30 x31 (!t166) ((rd_T42 x29 x31).f0) ((rd_T42 x29 x31).f1) ((rd_T42 x29 x31).f2) ((rd_T42 x29 x31).f3))) else (none)) else (prop_lay.j2 k x0 x1 x8 bt160.1 x29 x30 x31 true ((rd_T42 x29 x31).f0) ((rd_T42 x29 x31).f1) ((rd_T42 x29 x31).f2) ((rd_T42 x29 x31).f3)))) else (none)) else (none)) else (some (x8, true))
def prop_lay.j2 : Nat → Int → List (S42) → ByteArray → AnyV → List (S42) → Int → Int → Bool → Int → Int → ByteArray → ByteArray → Option (ByteArray × Bool)
  | 0, _, _, _, _, _, _, _, _, _, _, _, _ => none
  | k + 1, x0, x1, x8, x11, x29, x30, x31, x51, x160000, x160001, x160002, x160003 => if x51 = true then (some ((⟨#[]⟩ : ByteArray), false)) else ((prop_Kind.f k x160000).bind fun bt167 => ((prop_laid.f k bt167.1 x11).bind fun bt169 => (if bt169.2 = 0 then ((some (([(x160000) % 256] : List Int) : List Int)).bind fun y171 => (if (strOfNums y171).size + bt169.1.size ≤ 9223372036854775807 then (if x8.size + ((strOfNums y171) ++ bt169.1).size ≤ 9223372036854775807 then (prop_lay.l0 k x0 x1 (x8 ++ ((strOfNums y171) ++ bt169.1)) x29 x30 (wrap64 (x31 + 1))) else (none)) else (none))) else (some ((⟨#[]⟩ : ByteArray), false)))))
end
def prop_lay.f (k : Nat) (a0 : Int) (l1 : List (S42)) : Option (ByteArray × Bool) := (prop_stands.f k a0).bind fun bt154 => (if bt154.2 = true then (prop_lay.j0 k a0 l1 (decide ((l1.length : Int) > 8))) else (prop_lay.j0 k a0 l1 true))
def prop_lay.T9 : Bool × List (List Nat × List Nat) := (true, [([], []), ([0], [0]), ([1], [1]), ([2], [2]), ([2], [2]), ([2], [2]), ([4, 5, 2], [2, 4, 5]), ([2], [2]), ([3, 6, 7, 2, 2], [2, 3, 6, 7]), ([8, 2], [2, 8]), ([2, 9], [2, 9])])
def prop_lay.B9 : List Nat := [0, 1, 3, 7, 7, 7, 55, 7, 255, 511, 1023]
theorem prop_lay.tab9 : rtab .any (opsOf Tryd.f28 9) = prop_lay.T9 := by kernel_rfl
theorem prop_lay.bits9 : waitsOk prop_lay.T9.2 prop_lay.B9 = true := by kernel_rfl
set_option maxHeartbeats 8000000 in
set_option maxRecDepth 100000 in
theorem prop_lay.calls (k : Nat) (a0 : Int) (A1 : Option Addr) (c1 : Nat) (l1 : List (S42)) (r1 : ByteArray) (r2 : Bool) (w : World) (hr1 : Kd.C k42 w A1 l1.length l1) (hc1 : l1.length ≤ c1) (HLAID : Laid w) (h : prop_lay.f k a0 l1 = some (r1, r2)) :
  Calls Tryd.prog 28 #[.int .i64 a0, .slice A1 l1.length c1] w fun e w' => e = .returned (.tuple #[.string r1, .bool r2]) ∧ Below w.heap.size w w' := by
 have hu42 := Tryd.underlying42; have HR1 := Aside0.mk hr1; have HC1 := Aside0.mk hc1; clear hr1 hc1; have HB := Aside0.mk (Below.refl w.heap.size w); have H : ((prop_stands.f k a0).bind fun bt154 => (if bt154.2 = true then (prop_lay.j0 k a0 l1 (decide ((l1.length : Int) > 8))) else (prop_lay.j0 k a0 l1 true))) = some (r1, r2) := h; clear h; replace H := Option.bind_eq_some_iff.mp H; obtain ⟨⟨t154, t155⟩, A30, H⟩ := H; replace H : (if t155 = true then (prop_lay.j0 k a0 l1 (decide ((l1.length : Int) > 8))) else (prop_lay.j0 k a0 l1 true)) = some (r1, r2) := H; have A3 := Aside0.mk A30; clear A30; have HC4 := Aside0.mk H; clear H; go_enter Tryd.func28, Tryd.ntmps28
 go_upto_region 2 with (first | ((with_reducible refine gate_callee (f := 35) rfl ?_); refine goesL_ (some 19) rfl rfl Tryd.func35 zz19 rfl #[.int .i64 a0] rfl zz5 ?_; (with_reducible refine (prop_stands.calls k a0 t154 t155 _ A3.out).mono ?_); rintro e w5 ⟨v156, rfl, ho0, hb⟩; refine ⟨_, rfl, ?_⟩; have n0_ := Aside0.mk (Kd.R_lower ho0 (below_size zz6)); have n1_ := Aside0.mk (below_step zz6 hb); clear HB; have HO157 := n0_; have HB := n1_; clear n0_ n1_; (try clear hb); (try clear hb2); (try clear hk); (try clear hi); (try clear ho0)))
 (try simp only [Act.put, List.setIfInBounds_toArray, List.set_cons_zero, List.set_cons_succ])
 go_cut [28] (fun v28 wc => ∃ (kq : Nat) (x28_3 : Bool), v28 = .bool x28_3 ∧ Aside0 (prop_lay.j0 kq a0 l1 x28_3 = some (r1, r2)) ∧ Aside0 (kq ≤ k) ∧ Aside0 (Below w.heap.size w wc))
 case first =>
  have H := HC4.out; clear HC4; by_cases c6 : t155 = true
  ·
   subst c6; have H1 : (prop_lay.j0 k a0 l1 (decide ((l1.length : Int) > 8))) = some (r1, r2) := by rw [if_pos rfl] at H; exact H
   clear H; have H := H1; clear H1; have H' := Aside0.mk H; clear H; go_wp2
   go_meet
   case rel => exact ⟨_, (decide ((l1.length : Int) > 8)), zz16, H', ⟨zz17⟩, ⟨zz6⟩⟩
  replace c6 := Bool.eq_false_iff.mpr c6; subst c6; have H1 : (prop_lay.j0 k a0 l1 true) = some (r1, r2) := by rw [if_neg (show ¬ (false = true) by decide)] at H; exact H
  clear H; have H := H1; clear H1; have H' := Aside0.mk H; clear H; go_wp2
  go_meet
  case rel => exact ⟨_, (true), zz16, H', ⟨zz17⟩, ⟨zz6⟩⟩
 case rest =>
  as_aux_lemma =>
   clear HC4; (try clear c1); (try clear c2); (try clear p2); (try clear c3); (try clear c6); obtain ⟨kq, x28_3, rfl, HA, HJ3, HB⟩ := hcut; cases kq with
   | zero => exact absurd HA.out (by simp [prop_lay.j0])
   | succ kj3 =>
    have H := HA.out; clear HA; simp only [prop_lay.j0] at H; by_cases c7 : x28_3 = true
    ·
     subst c7; have H1 : (some ((⟨#[]⟩ : ByteArray), false)) = some (r1, r2) := by rw [if_pos rfl] at H; exact H
     clear H; have H := H1; clear H1; simp only [Option.some.injEq, Prod.mk.injEq] at H; obtain ⟨rfl, rfl⟩ := H; go_wp2
     go_ret2
     exact ⟨zz9, zz6⟩
    replace c7 := Bool.eq_false_iff.mpr c7; subst c7; have H1 : (prop_lay.l0 kj3 a0 l1 (⟨#[]⟩ : ByteArray) l1 (l1.length : Int) 0) = some (r1, r2) := by rw [if_neg (show ¬ (false = true) by decide)] at H; exact H
    clear H; have H := H1; clear H1; have H' := Aside0.mk H; clear H; go_wp2
    go_loopg [8, 31] kj3 (fun kq v8 v31 w' => ∃ (x8_2 : ByteArray) (x31_2 : Int), v8 = .string x8_2 ∧ v31 = .int .i64 x31_2 ∧ Aside0 (prop_lay.l0 kq a0 l1 x8_2 l1 (l1.length : Int) x31_2 = some (r1, r2)) ∧ Aside0 (kq ≤ kj3) ∧ Aside0 (Below w.heap.size w w'))
    case atStart => exact ⟨((⟨#[]⟩ : ByteArray)), (0), zz16, zz16, H', ⟨Nat.le_refl _⟩, ⟨zz6⟩⟩
    case round =>
     as_aux_lemma =>
      clear H'; (try clear c1); (try clear c2); (try clear p2); (try clear c3); (try clear c6); (try clear c7); (try clear p2); obtain ⟨x8_2, x31_2, rfl, rfl, HA, HK2, HB⟩ := hrel; cases gk with
      | zero => exact absurd HA.out (by simp [prop_lay.l0])
      | succ k2 =>
       have H := HA.out; clear HA; simp only [prop_lay.l0] at H; by_cases c8 : x31_2 < (l1.length : Int)
       ·
        rw [if_pos c8] at H; have c8b0 : decide (x31_2 < (l1.length : Int)) = true := decide_eq_true c8; clear c8; by_cases c9 : 0 ≤ x31_2
        ·
         rw [if_pos c9] at H; have c9b0 : decide (0 ≤ x31_2) = true := decide_eq_true c9; clear c9; by_cases c10 : x31_2 < (l1.length : Int)
         ·
          rw [if_pos c10] at H; have c10b0 : decide (x31_2 < (l1.length : Int)) = true := decide_eq_true c10; clear c10; replace H := Option.bind_eq_some_iff.mp H; obtain ⟨⟨t160, t161⟩, A110, H⟩ := H; replace H : (if t161 = true then (if x31_2 ≤ (l1.length : Int) then ((prop_fits.f k2 a0 (l1.take (x31_2 : Int).toNat) ((rd_T42 l1 x31_2).f0) ((rd_T42 l1 x31_2).f1) ((rd_T42 l1 x31_2).f2) ((rd_T42 l1 x31_2).f3)).bind fun t166 => (prop_lay.j2 k2 a0 l1 x8_2 t160 l1 (l1.length : Int) x31_2 (!t166) ((rd_T42 l1 x31_2).f0) ((rd_T42 l1 x31_2).f1) ((rd_T42 l1 x31_2).f2) ((rd_T42 l1 x31_2).f3))) else (none)) else (prop_lay.j2 k2 a0 l1 x8_2 t160 l1 (l1.length : Int) x31_2 true ((rd_T42 l1 x31_2).f0) ((rd_T42 l1 x31_2).f1) ((rd_T42 l1 x31_2).f2) ((rd_T42 l1 x31_2).f3))) = some (r1, r2) := H; have A11 := Aside0.mk A110; clear A110; have HC12 := Aside0.mk H; clear H; have p158 : 0 ≤ (x31_2 : Int) := of_decide_eq_true zz15; have q158 : x31_2 < (l1.length : Int) := of_decide_eq_true zz15; obtain ⟨ad158, e158, hx158_0, hx158_1, hx158_2, hx158_3⟩ := at_T42 HR1.out x31_2 p158 q158; cases e158; replace hx158_0 := (HB.out.cell (World.block_lt_of_cell? w _ hx158_0)).trans hx158_0; replace hx158_1 := (HB.out.cell (World.block_lt_of_cell? w _ hx158_1)).trans hx158_1; replace hx158_2 := (HB.out.cell (World.block_lt_of_cell? w _ hx158_2)).trans hx158_2; replace hx158_3 := (HB.out.cell (World.block_lt_of_cell? w _ hx158_3)).trans hx158_3; replace p158 := eq_true p158; replace q158 := eq_true q158; go_upto_region 9 with (first | ((with_reducible refine gate_dst (N := 10) rfl ?_); (try (refine gate_guard (by rfl) ?_; dsimp only)); refine box_event ?hg (N := 10) ?hd (cs := #[.int .i64 0, .int .i64 0, .string (⟨#[]⟩ : ByteArray), .string (⟨#[]⟩ : ByteArray)]) (t := 42) ?hr ?_; (case hd => rfl); (case hg => rfl); (case hr => first | (go_simp; done) | (go_simp; rfl)); intro gb159 hg w13 hbox hb; have n0_ := Aside0.mk (below_step zz6 hb); have n1_ := Aside0.mk (hbox); have n2_ := Aside0.mk ((by rw [hg]; exact (below_size zz6) : w.heap.size ≤ gb159)); have n3_ := Aside0.mk ((by rw [hg]; exact (below_size zz6) : w.heap.size ≤ gb159)); clear HB; have HB := n0_; have BK159 := n1_; have GW159 := n2_; have GE159 := n3_; clear n0_ n1_ n2_ n3_; clear hb hbox hg; have hcz14_0 : w13.cell? ⟨gb159, 0, none⟩ = some (.int .i64 0) := (blk_cell BK159.out 0).trans rfl; have hcz14_1 : w13.cell? ⟨gb159, 1, none⟩ = some (.int .i64 0) := (blk_cell BK159.out 1).trans rfl; have hcz14_2 : w13.cell? ⟨gb159, 2, none⟩ = some (.string (⟨#[]⟩ : ByteArray)) := (blk_cell BK159.out 2).trans rfl; have hcz14_3 : w13.cell? ⟨gb159, 3, none⟩ = some (.string (⟨#[]⟩ : ByteArray)) := (blk_cell BK159.out 3).trans rfl; have hfz14_0 := blk_frozen BK159.out 0; have hfz14_1 := blk_frozen BK159.out 1; have hfz14_2 := blk_frozen BK159.out 2; have hfz14_3 := blk_frozen BK159.out 3) | ((with_reducible refine gate_callee (f := 41) rfl ?_); refine goesL_ (some 38) rfl rfl Tryd.func41 zz19 rfl #[.agg #[.int .i64 ((rd_T42 l1 x31_2).f0), .int .i64 ((rd_T42 l1 x31_2).f1), .string ((rd_T42 l1 x31_2).f2), .string ((rd_T42 l1 x31_2).f3)]] rfl zz5 ?_; (with_reducible refine (prop_value.calls k2 ((rd_T42 l1 x31_2).f0) ((rd_T42 l1 x31_2).f1) ((rd_T42 l1 x31_2).f2) ((rd_T42 l1 x31_2).f3) t160 t161 _ A11.out).mono ?_); rintro e w15 ⟨rfl, hb⟩; refine ⟨_, rfl, ?_⟩; have n0_ := Aside0.mk (blk_below (g := gb159) (o := .cells #[.int .i64 ((rd_T42 l1 x31_2).f0), .int .i64 ((rd_T42 l1 x31_2).f1), .string ((rd_T42 l1 x31_2).f2), .string ((rd_T42 l1 x31_2).f3)] 42 (0, 0)) (by (with_reducible repeat (first | refine blk_drewN ?_ _ | refine blk_drew ?_ | refine blk_alloc ?_ _)); refine blk_put (cs := #[.int .i64 ((rd_T42 l1 x31_2).f0), .int .i64 ((rd_T42 l1 x31_2).f1), .string ((rd_T42 l1 x31_2).f2), .string (⟨#[]⟩ : ByteArray)]) ?_ 3 _ rfl; (with_reducible repeat (first | refine blk_drewN ?_ _ | refine blk_drew ?_ | refine blk_alloc ?_ _)); refine blk_put (cs := #[.int .i64 ((rd_T42 l1 x31_2).f0), .int .i64 ((rd_T42 l1 x31_2).f1), .string (⟨#[]⟩ : ByteArray), .string (⟨#[]⟩ : ByteArray)]) ?_ 2 _ rfl; (with_reducible repeat (first | refine blk_drewN ?_ _ | refine blk_drew ?_ | refine blk_alloc ?_ _)); refine blk_put (cs := #[.int .i64 ((rd_T42 l1 x31_2).f0), .int .i64 0, .string (⟨#[]⟩ : ByteArray), .string (⟨#[]⟩ : ByteArray)]) ?_ 1 _ rfl; (with_reducible repeat (first | refine blk_drewN ?_ _ | refine blk_drew ?_ | refine blk_alloc ?_ _)); refine blk_put (cs := #[.int .i64 0, .int .i64 0, .string (⟨#[]⟩ : ByteArray), .string (⟨#[]⟩ : ByteArray)]) ?_ 0 _ rfl; (with_reducible repeat (first | refine blk_drewN ?_ _ | refine blk_drew ?_ | refine blk_alloc ?_ _)); exact BK159.out) hb); have n1_ := Aside0.mk (below_step zz3 hb); clear BK159; clear HB; have BK159 := n0_; have HB := n1_; clear n0_ n1_; (try clear hb); (try clear hb2); (try clear hk); (try clear hi)))
          (try simp only [Act.put, List.setIfInBounds_toArray, List.set_cons_zero, List.set_cons_succ])
          go_cut [51] (fun v51 wc => ∃ (kq : Nat) (x51_11 : Bool), v51 = .bool x51_11 ∧ Aside0 (prop_lay.j2 kq a0 l1 x8_2 t160 l1 (l1.length : Int) x31_2 x51_11 ((rd_T42 l1 x31_2).f0) ((rd_T42 l1 x31_2).f1) ((rd_T42 l1 x31_2).f2) ((rd_T42 l1 x31_2).f3) = some (r1, r2)) ∧ Aside0 (kq ≤ k2) ∧ Aside0 (wc.heap[gb159]? = some (.cells #[.int .i64 ((rd_T42 l1 x31_2).f0), .int .i64 ((rd_T42 l1 x31_2).f1), .string ((rd_T42 l1 x31_2).f2), .string ((rd_T42 l1 x31_2).f3)] 42 (0, 0))) ∧ Aside0 (Below w.heap.size w wc))
          case first =>
           have H := HC12.out; clear HC12; by_cases c16 : t161 = true
           ·
            subst c16; have H1 : (if x31_2 ≤ (l1.length : Int) then ((prop_fits.f k2 a0 (l1.take (x31_2 : Int).toNat) ((rd_T42 l1 x31_2).f0) ((rd_T42 l1 x31_2).f1) ((rd_T42 l1 x31_2).f2) ((rd_T42 l1 x31_2).f3)).bind fun t166 => (prop_lay.j2 k2 a0 l1 x8_2 t160 l1 (l1.length : Int) x31_2 (!t166) ((rd_T42 l1 x31_2).f0) ((rd_T42 l1 x31_2).f1) ((rd_T42 l1 x31_2).f2) ((rd_T42 l1 x31_2).f3))) else (none)) = some (r1, r2) := by rw [if_pos rfl] at H; exact H
            clear H; have H := H1; clear H1; have c17b0 := eq_true (of_decide_eq_true zz15 : 0 ≤ x31_2); by_cases c18 : x31_2 ≤ (l1.length : Int)
            ·
             rw [if_pos c18] at H; have c18b0 := eq_true c18; have c18b1 : decide (x31_2 ≤ (l1.length : Int)) = true := decide_eq_true c18; clear c18; obtain ⟨y162, hy162⟩ : ∃ y_ : List (S42), y_ = (l1.take (x31_2 : Int).toNat) := ⟨_, rfl⟩; replace H : ((prop_fits.f k2 a0 y162 ((rd_T42 l1 x31_2).f0) ((rd_T42 l1 x31_2).f1) ((rd_T42 l1 x31_2).f2) ((rd_T42 l1 x31_2).f3)).bind fun t166 => (prop_lay.j2 k2 a0 l1 x8_2 t160 l1 (l1.length : Int) x31_2 (!t166) ((rd_T42 l1 x31_2).f0) ((rd_T42 l1 x31_2).f1) ((rd_T42 l1 x31_2).f2) ((rd_T42 l1 x31_2).f3))) = some (r1, r2) := by first | (rw [hy162]; with_reducible exact H) | (have H2_ := (Option.bind_some _ _).symm.trans H; rw [hy162]; with_reducible exact H2_) | (have H2_ := (Option.bind_some _ _).symm.trans H; with_reducible exact H2_) | with_reducible exact H | (rw [hy162]; exact H) | exact H
             have Ny162 := Aside0.mk hy162; clear hy162; replace H := Option.bind_eq_some_iff.mp H; obtain ⟨t166, A190, H⟩ := H; replace H : (prop_lay.j2 k2 a0 l1 x8_2 t160 l1 (l1.length : Int) x31_2 (!t166) ((rd_T42 l1 x31_2).f0) ((rd_T42 l1 x31_2).f1) ((rd_T42 l1 x31_2).f2) ((rd_T42 l1 x31_2).f3)) = some (r1, r2) := H; have A19 := Aside0.mk A190; clear A190; have H' := Aside0.mk H; clear H; try go_wp2
             have n0_ := Aside0.mk (blk_drew BK159.out); have n1_ := Aside0.mk (below_drew1 HB.out); clear BK159; clear HB; have BK159 := n0_; have HB := n1_; clear n0_ n1_; have q21 : (x31_2 : Int) ≤ ((l1.length : Int) : Int) := of_decide_eq_true zz15; obtain ⟨i021, hi021, _, hsz21, _⟩ := info_parts info42; have hroom21 : l1.length ≤ c1 := HC1.out; have hC21 : Kd.C k42 _ (some ad158) l1.length l1 := HR1.out; have hcut21 := cut_to (P := Tryd.prog) 23 42 .i64 Tryd.underlying23 hi021 (some ad158) l1.length c1 x31_2 (of_decide_eq_true zz15) q21 hroom21; have hr21 := Kd.C_take (m := (x31_2 : Int).toNat) hC21 (by omega); have hy21 : y162.length = (x31_2 : Int).toNat := (by rw [Ny162.out, List.length_take]; omega); rw [← Ny162.out] at hr21; rw [← hy21] at hcut21; have HR165 := Aside0.mk hr21; have HC165 := Aside0.mk (show y162.length ≤ c1 from by omega); clear hr21 hC21 hroom21 hi021 hsz21; have KY21 := Aside0.mk hy21; clear hy21; replace q21 := eq_true q21; refine start_ (n := 11) (S := fun w' => w'.cell? ⟨gb159, 0, none⟩ = some (.int .i64 ((rd_T42 l1 x31_2).f0)) ∧ w'.cell? ⟨gb159, 1, none⟩ = some (.int .i64 ((rd_T42 l1 x31_2).f1)) ∧ w'.cell? ⟨gb159, 2, none⟩ = some (.string ((rd_T42 l1 x31_2).f2)) ∧ w'.cell? ⟨gb159, 3, none⟩ = some (.string ((rd_T42 l1 x31_2).f3))) (ds := []) #[false, false, false, false, false, false, false, false, false, false, false] zz19 rfl rfl ⟨(blk_cell BK159.out 0).trans rfl, (blk_cell BK159.out 1).trans rfl, (blk_cell BK159.out 2).trans rfl, (blk_cell BK159.out 3).trans rfl⟩ (fun hHeld => ?_); refine with_tabW prop_lay.tab9 prop_lay.bits9 (fun HT_ HW_ => ?_)
             generalize w15.drew = w20 at BK159 HB HR165 hHeld ⊢
             refine pure_ (i := 0) (N := some 41) (v := ?_) (a' := ?_) #[true, false, false, false, false, false, false, false, false, false, false] rfl rfl (any_of HT_.out zz19) (fun _ _ _ h => h) (Or.inl ⟨by rfl, ?_⟩) ?_ ?_
             rotate_left
             ·
              intro w'
              go_simp
              with_reducible rfl
             rotate_left
             ·
              simp only [Act.put, List.setIfInBounds_toArray, List.set_cons_zero, List.set_cons_succ, i64_w, i32_w]; rfl
             refine pure_ (i := 1) (N := some 42) (v := ?_) (a' := ?_) #[true, true, false, false, false, false, false, false, false, false, false] rfl rfl (any_of HT_.out zz19) (fun _ _ _ h => h) (Or.inl ⟨by rfl, ?_⟩) ?_ ?_
             rotate_left
             ·
              intro w'
              go_simp
              with_reducible rfl
             rotate_left
             ·
              simp only [Act.put, List.setIfInBounds_toArray, List.set_cons_zero, List.set_cons_succ, i64_w, i32_w]; rfl
             refine pure_ (i := 2) (N := some 43) (v := ?_) (a' := ?_) #[true, true, true, false, false, false, false, false, false, false, false] rfl rfl (any_of HT_.out zz19) (fun _ _ _ h => h) (Or.inl ⟨by rfl, ?_⟩) ?_ ?_
             rotate_left
             ·
              intro w'
              go_simp
              with_reducible rfl
             rotate_left
             ·
              simp only [Act.put, List.setIfInBounds_toArray, List.set_cons_zero, List.set_cons_succ, i64_w, i32_w]; rfl
             refine pure_ (i := 3) (N := some 44) (v := ?_) (a' := ?_) #[true, true, true, true, false, false, false, false, false, false, false] rfl rfl (any_of HT_.out zz19) (fun _ _ _ h => h) (Or.inl ⟨by rfl, ?_⟩) ?_ ?_
             rotate_left
             ·
              intro w'
              go_simp
              with_reducible rfl
             rotate_left
             ·
              simp only [Act.put, List.setIfInBounds_toArray, List.set_cons_zero, List.set_cons_succ, i64_w, i32_w]; rfl
             refine pure_ (i := 4) (N := some 45) (v := ?_) (a' := ?_) #[true, true, true, true, true, false, false, false, false, false, false] rfl rfl (any_of HT_.out zz19) (fun _ _ _ h => h) (Or.inl ⟨by rfl, ?_⟩) ?_ ?_
             rotate_left
             ·
              intro w'
              go_simp
              with_reducible rfl
             rotate_left
             ·
              simp only [Act.put, List.setIfInBounds_toArray, List.set_cons_zero, List.set_cons_succ, i64_w, i32_w]; rfl
             refine pure_ (i := 5) (N := some 46) (v := ?_) (a' := ?_) #[true, true, true, true, true, true, false, false, false, false, false] rfl rfl (any_of HT_.out zz19) (fun _ _ _ h => h) (Or.inl ⟨by rfl, ?_⟩) ?_ ?_
             rotate_left
             ·
              intro w'
              go_simp
              with_reducible rfl
             rotate_left
             ·
              simp only [Act.put, List.setIfInBounds_toArray, List.set_cons_zero, List.set_cons_succ, i64_w, i32_w]; rfl
             refine pure_ (i := 6) (N := some 47) (v := ?_) (a' := ?_) #[true, true, true, true, true, true, true, false, false, false, false] rfl rfl (any_of HT_.out zz19) (fun _ _ _ h => h) (Or.inl ⟨by rfl, ?_⟩) ?_ ?_
             rotate_left
             ·
              intro w'
              go_simp
              with_reducible rfl
             rotate_left
             ·
              simp only [Act.put, List.setIfInBounds_toArray, List.set_cons_zero, List.set_cons_succ, i64_w, i32_w]; rfl
             refine take_ (i := 7) (N := some 48) (v := ?_) (a' := ?_) #[true, true, true, true, true, true, true, true, false, false, false] rfl rfl (take_ofW HT_.out HW_.out zz19) (fun _ _ _ h => h) (Or.inl ⟨by rfl, ?_⟩) hHeld ?_ ?_
             rotate_left
             ·
              rintro w' ⟨s0, s1, s2, s3⟩
              go_simp
              with_reducible rfl
             rotate_left
             ·
              simp only [Act.put, List.setIfInBounds_toArray, List.set_cons_zero, List.set_cons_succ, i64_w, i32_w]; rfl
             refine one_ (i := 8) (N := some 49) #[true, true, true, true, true, true, true, true, true, false, false] rfl rfl (one_of HT_.out zz19) (by decide) (fun K hK => ?_)
             refine goes_ Tryd.func38 zz19 rfl #[.int .i64 a0, .slice (some ad158) y162.length c1, .agg #[.int .i64 ((rd_T42 l1 x31_2).f0), .int .i64 ((rd_T42 l1 x31_2).f1), .string ((rd_T42 l1 x31_2).f2), .string ((rd_T42 l1 x31_2).f3)]] (by rfl) rfl rfl zz5 ?_
             with_reducible refine (prop_fits.calls k2 a0 _ _ y162 ((rd_T42 l1 x31_2).f0) ((rd_T42 l1 x31_2).f1) ((rd_T42 l1 x31_2).f2) ((rd_T42 l1 x31_2).f3) t166 _ ?side1 ?side2 A19.out).mono ?_
             (case side1 => repeat (first | exact (Kd.C_below HR165.out HB.out) | (with_reducible refine Kd.C_alloc ?_ _) | (with_reducible refine Kd.C_drewN ?_ _) | (with_reducible refine Kd.C_drew ?_)))
             (case side2 => exact HC165.out)
             rintro e w22 ⟨rfl, hb⟩
             refine ⟨_, rfl, ?_⟩
             have n0_ := Aside0.mk (blk_below (g := gb159) (o := .cells #[.int .i64 ((rd_T42 l1 x31_2).f0), .int .i64 ((rd_T42 l1 x31_2).f1), .string ((rd_T42 l1 x31_2).f2), .string ((rd_T42 l1 x31_2).f3)] 42 (0, 0)) zz8 hb); have n1_ := Aside0.mk (below_step zz3 hb); clear BK159; clear HB; have BK159 := n0_; have HB := n1_; clear n0_ n1_; (try clear hb)
             (try clear hb2)
             (try clear hk)
             (try clear hi)
             refine hK.out _ _ ⟨(blk_cell BK159.out 0).trans rfl, (blk_cell BK159.out 1).trans rfl, (blk_cell BK159.out 2).trans rfl, (blk_cell BK159.out 3).trans rfl⟩ (fun hHeld => ?_)
             clear hK K; refine norm_ (a' := ?_) ?_ ?_
             rotate_left
             ·
              show Act.put _ (some 49) _ = _
              simp only [Act.put, List.setIfInBounds_toArray, List.set_cons_zero, List.set_cons_succ, i64_w, i32_w]; rfl
             refine pure_ (i := 9) (N := some 50) (v := ?_) (a' := ?_) #[true, true, true, true, true, true, true, true, true, true, false] rfl rfl (any_of HT_.out zz19) (fun _ _ _ h => h) (Or.inl ⟨by rfl, ?_⟩) ?_ ?_
             rotate_left
             ·
              intro w'
              go_simp
              with_reducible rfl
             rotate_left
             ·
              simp only [Act.put, List.setIfInBounds_toArray, List.set_cons_zero, List.set_cons_succ, i64_w, i32_w]; rfl
             refine pure_ (i := 10) (N := some 51) (v := ?_) (a' := ?_) #[true, true, true, true, true, true, true, true, true, true, true] rfl rfl (any_of HT_.out zz19) (fun _ _ _ h => h) (Or.inl ⟨by rfl, ?_⟩) ?_ ?_
             rotate_left
             ·
              intro w'
              go_simp
              with_reducible rfl
             rotate_left
             ·
              simp only [Act.put, List.setIfInBounds_toArray, List.set_cons_zero, List.set_cons_succ, i64_w, i32_w]; rfl
             refine done_ (done_of HT_.out zz19) ?_
             try go_wp2
             go_meet
             case rel => exact ⟨_, (!t166), zz16, H', ⟨by have := HJ3.out; have := HK2.out; first | omega | exact Nat.le_refl _⟩, ⟨zz8⟩, ⟨zz3⟩⟩
            rw [if_neg c18] at H; exact absurd H (by simp)
           replace c16 := Bool.eq_false_iff.mpr c16; subst c16; have H1 : (prop_lay.j2 k2 a0 l1 x8_2 t160 l1 (l1.length : Int) x31_2 true ((rd_T42 l1 x31_2).f0) ((rd_T42 l1 x31_2).f1) ((rd_T42 l1 x31_2).f2) ((rd_T42 l1 x31_2).f3)) = some (r1, r2) := by rw [if_neg (show ¬ (false = true) by decide)] at H; exact H
           clear H; have H := H1; clear H1; have H' := Aside0.mk H; clear H; try go_wp2
           have n0_ := Aside0.mk (blk_drew BK159.out); have n1_ := Aside0.mk (below_drew1 HB.out); clear BK159; clear HB; have BK159 := n0_; have HB := n1_; clear n0_ n1_; refine start_ (n := 11) (S := fun w' => True) (ds := []) #[false, false, false, false, false, false, false, false, false, false, false] zz19 rfl rfl trivial (fun hHeld => ?_); refine with_tabW prop_lay.tab9 prop_lay.bits9 (fun HT_ HW_ => ?_)
           generalize w15.drew = w23 at BK159 HB hHeld ⊢
           refine pure_ (i := 0) (N := some 41) (v := ?_) (a' := ?_) #[true, false, false, false, false, false, false, false, false, false, false] rfl rfl (any_of HT_.out zz19) (fun _ _ _ h => h) (Or.inl ⟨by rfl, ?_⟩) ?_ ?_
           rotate_left
           ·
            intro w'
            go_simp
            with_reducible rfl
           rotate_left
           ·
            simp only [Act.put, List.setIfInBounds_toArray, List.set_cons_zero, List.set_cons_succ, i64_w, i32_w]; rfl
           refine pure_ (i := 1) (N := some 42) (v := ?_) (a' := ?_) #[true, true, false, false, false, false, false, false, false, false, false] rfl rfl (any_of HT_.out zz19) (fun _ _ _ h => h) (Or.inl ⟨by rfl, ?_⟩) ?_ ?_
           rotate_left
           ·
            intro w'
            go_simp
            with_reducible rfl
           rotate_left
           ·
            simp only [Act.put, List.setIfInBounds_toArray, List.set_cons_zero, List.set_cons_succ, i64_w, i32_w]; rfl
           refine pure_ (i := 2) (N := some 43) (v := ?_) (a' := ?_) #[true, true, true, false, false, false, false, false, false, false, false] rfl rfl (any_of HT_.out zz19) (fun _ _ _ h => h) (Or.inl ⟨by rfl, ?_⟩) ?_ ?_
           rotate_left
           ·
            intro w'
            go_simp
            with_reducible rfl
           rotate_left
           ·
            simp only [Act.put, List.setIfInBounds_toArray, List.set_cons_zero, List.set_cons_succ, i64_w, i32_w]; rfl
           refine pure_ (i := 3) (N := some 44) (v := undef) (a' := ?_) #[true, true, true, true, false, false, false, false, false, false, false] rfl rfl (any_of HT_.out zz19) (fun _ _ _ h => h) (Or.inr ⟨by rfl, rfl⟩) ?_ ?_
           rotate_left
           ·
            simp only [Act.put, List.setIfInBounds_toArray, List.set_cons_zero, List.set_cons_succ, i64_w, i32_w]; rfl
           refine pure_ (i := 4) (N := some 45) (v := undef) (a' := ?_) #[true, true, true, true, true, false, false, false, false, false, false] rfl rfl (any_of HT_.out zz19) (fun _ _ _ h => h) (Or.inr ⟨by rfl, rfl⟩) ?_ ?_
           rotate_left
           ·
            simp only [Act.put, List.setIfInBounds_toArray, List.set_cons_zero, List.set_cons_succ, i64_w, i32_w]; rfl
           refine pure_ (i := 5) (N := some 46) (v := undef) (a' := ?_) #[true, true, true, true, true, true, false, false, false, false, false] rfl rfl (any_of HT_.out zz19) (fun _ _ _ h => h) (Or.inr ⟨by rfl, rfl⟩) ?_ ?_
           rotate_left
           ·
            simp only [Act.put, List.setIfInBounds_toArray, List.set_cons_zero, List.set_cons_succ, i64_w, i32_w]; rfl
           refine pure_ (i := 6) (N := some 47) (v := undef) (a' := ?_) #[true, true, true, true, true, true, true, false, false, false, false] rfl rfl (any_of HT_.out zz19) (fun _ _ _ h => h) (Or.inr ⟨by rfl, rfl⟩) ?_ ?_
           rotate_left
           ·
            simp only [Act.put, List.setIfInBounds_toArray, List.set_cons_zero, List.set_cons_succ, i64_w, i32_w]; rfl
           refine pure_ (i := 7) (N := some 48) (v := undef) (a' := ?_) #[true, true, true, true, true, true, true, true, false, false, false] rfl rfl (any_of HT_.out zz19) (fun _ _ _ h => h) (Or.inr ⟨by rfl, rfl⟩) ?_ ?_
           rotate_left
           ·
            simp only [Act.put, List.setIfInBounds_toArray, List.set_cons_zero, List.set_cons_succ, i64_w, i32_w]; rfl
           refine pure_ (i := 8) (N := some 49) (v := undef) (a' := ?_) #[true, true, true, true, true, true, true, true, true, false, false] rfl rfl (any_of HT_.out zz19) (fun _ _ _ h => h) (Or.inr ⟨by rfl, rfl⟩) ?_ ?_
           rotate_left
           ·
            simp only [Act.put, List.setIfInBounds_toArray, List.set_cons_zero, List.set_cons_succ, i64_w, i32_w]; rfl
           refine pure_ (i := 9) (N := some 50) (v := undef) (a' := ?_) #[true, true, true, true, true, true, true, true, true, true, false] rfl rfl (any_of HT_.out zz19) (fun _ _ _ h => h) (Or.inr ⟨by rfl, rfl⟩) ?_ ?_
           rotate_left
           ·
            simp only [Act.put, List.setIfInBounds_toArray, List.set_cons_zero, List.set_cons_succ, i64_w, i32_w]; rfl
           refine pure_ (i := 10) (N := some 51) (v := ?_) (a' := ?_) #[true, true, true, true, true, true, true, true, true, true, true] rfl rfl (any_of HT_.out zz19) (fun _ _ _ h => h) (Or.inl ⟨by rfl, ?_⟩) ?_ ?_
           rotate_left
           ·
            intro w'
            go_simp
            with_reducible rfl
           rotate_left
           ·
            simp only [Act.put, List.setIfInBounds_toArray, List.set_cons_zero, List.set_cons_succ, i64_w, i32_w]; rfl
           refine done_ (done_of HT_.out zz19) ?_
           try go_wp2
           go_meet
           case rel => exact ⟨_, (true), zz16, H', ⟨by have := HJ3.out; have := HK2.out; first | omega | exact Nat.le_refl _⟩, ⟨zz8⟩, ⟨zz3⟩⟩
          case rest =>
           as_aux_lemma =>
            clear HC12; (try clear c1); (try clear p1); (try clear q1); (try clear hx1); (try clear c2); (try clear p2); (try clear q2); (try clear c3); (try clear c4); (try clear c6); (try clear c7); (try clear c8); (try clear c8b0); (try clear c9); (try clear c9b0); (try clear c10); (try clear c10b0); (try clear p15); (try clear q15); (try clear hx15); (try clear c16); (try clear c17); (try clear c17b0); (try clear c18); (try clear c18b0); (try clear c18b1); (try clear q21); (try clear hcz14_0); (try clear hcz14_1); (try clear hcz14_2); (try clear hcz14_3); (try clear hfz14_0); (try clear hfz14_1); (try clear hfz14_2); (try clear hfz14_3); (try clear hx158_0); (try clear hx158_1); (try clear hx158_2); (try clear hx158_3); (try clear p158); (try clear p2); (try clear q158); (try clear q21); obtain ⟨kq, x51_11, rfl, HA, HJ11, BK159, HB⟩ := hcut; cases kq with
            | zero => exact absurd HA.out (by simp [prop_lay.j2])
            | succ kj11 =>
             have H := HA.out; clear HA; simp only [prop_lay.j2] at H; by_cases c24 : x51_11 = true
             ·
              subst c24; have H1 : (some ((⟨#[]⟩ : ByteArray), false)) = some (r1, r2) := by rw [if_pos rfl] at H; exact H
              clear H; have H := H1; clear H1; simp only [Option.some.injEq, Prod.mk.injEq] at H; obtain ⟨rfl, rfl⟩ := H; go_wp2
              go_ret2
              exact ⟨zz9, zz3⟩
             replace c24 := Bool.eq_false_iff.mpr c24; subst c24; have H1 : ((prop_Kind.f kj11 ((rd_T42 l1 x31_2).f0)).bind fun bt167 => ((prop_laid.f kj11 bt167.1 t160).bind fun bt169 => (if bt169.2 = 0 then ((some (([(((rd_T42 l1 x31_2).f0)) % 256] : List Int) : List Int)).bind fun y171 => (if (strOfNums y171).size + bt169.1.size ≤ 9223372036854775807 then (if x8_2.size + ((strOfNums y171) ++ bt169.1).size ≤ 9223372036854775807 then (prop_lay.l0 kj11 a0 l1 (x8_2 ++ ((strOfNums y171) ++ bt169.1)) l1 (l1.length : Int) (wrap64 (x31_2 + 1))) else (none)) else (none))) else (some ((⟨#[]⟩ : ByteArray), false))))) = some (r1, r2) := by rw [if_neg (show ¬ (false = true) by decide)] at H; exact H
             clear H; have H := H1; clear H1; replace H := Option.bind_eq_some_iff.mp H; obtain ⟨⟨t167, t168⟩, A250, H⟩ := H; replace H : ((prop_laid.f kj11 t167 t160).bind fun bt169 => (if bt169.2 = 0 then ((some (([(((rd_T42 l1 x31_2).f0)) % 256] : List Int) : List Int)).bind fun y171 => (if (strOfNums y171).size + bt169.1.size ≤ 9223372036854775807 then (if x8_2.size + ((strOfNums y171) ++ bt169.1).size ≤ 9223372036854775807 then (prop_lay.l0 kj11 a0 l1 (x8_2 ++ ((strOfNums y171) ++ bt169.1)) l1 (l1.length : Int) (wrap64 (x31_2 + 1))) else (none)) else (none))) else (some ((⟨#[]⟩ : ByteArray), false)))) = some (r1, r2) := H; have A25 := Aside0.mk A250; clear A250; replace H := Option.bind_eq_some_iff.mp H; obtain ⟨⟨t169, t170⟩, A260, H⟩ := H; replace H : (if t170 = 0 then ((some (([(((rd_T42 l1 x31_2).f0)) % 256] : List Int) : List Int)).bind fun y171 => (if (strOfNums y171).size + t169.size ≤ 9223372036854775807 then (if x8_2.size + ((strOfNums y171) ++ t169).size ≤ 9223372036854775807 then (prop_lay.l0 kj11 a0 l1 (x8_2 ++ ((strOfNums y171) ++ t169)) l1 (l1.length : Int) (wrap64 (x31_2 + 1))) else (none)) else (none))) else (some ((⟨#[]⟩ : ByteArray), false))) = some (r1, r2) := H; have A26 := Aside0.mk A260; clear A260; by_cases c27 : t170 = 0
             ·
              rw [if_pos c27] at H; have c27b0 : (t170 == 0) = true := beq_iff_eq.mpr c27; have c27b1 : (t170 != 0) = false := bne_eq_false_iff_eq.mpr c27; clear c27; obtain ⟨y171, hy171⟩ : ∃ y_ : List Int, y_ = (([(((rd_T42 l1 x31_2).f0)) % 256] : List Int)) := ⟨_, rfl⟩; replace H : (if (strOfNums y171).size + t169.size ≤ 9223372036854775807 then (if x8_2.size + ((strOfNums y171) ++ t169).size ≤ 9223372036854775807 then (prop_lay.l0 kj11 a0 l1 (x8_2 ++ ((strOfNums y171) ++ t169)) l1 (l1.length : Int) (wrap64 (x31_2 + 1))) else (none)) else (none)) = some (r1, r2) := by first | (rw [hy171]; with_reducible exact H) | (have H2_ := (Option.bind_some _ _).symm.trans H; rw [hy171]; with_reducible exact H2_) | (have H2_ := (Option.bind_some _ _).symm.trans H; with_reducible exact H2_) | with_reducible exact H | (rw [hy171]; exact H) | exact H
              have Ny171 := Aside0.mk hy171; clear hy171; by_cases c28 : (strOfNums y171).size + t169.size ≤ 9223372036854775807
              ·
               rw [if_pos c28] at H; have c28b0 := eq_true c28; have c28b1 : decide ((strOfNums y171).size + t169.size ≤ 9223372036854775807) = true := decide_eq_true c28; try have c28b2 : (9223372036854775807 < (strOfNums y171).size + t169.size) = False := eq_false (Nat.not_lt.2 c28)
               by_cases c29 : x8_2.size + ((strOfNums y171) ++ t169).size ≤ 9223372036854775807
               ·
                rw [if_pos c29] at H; have c29b0 := eq_true c29; have c29b1 : decide (x8_2.size + ((strOfNums y171) ++ t169).size ≤ 9223372036854775807) = true := decide_eq_true c29; try have c29b2 : (9223372036854775807 < x8_2.size + ((strOfNums y171) ++ t169).size) = False := eq_false (Nat.not_lt.2 c29)
                (try (have c29b2_ := c29b2; simp only [ByteArray.size_append] at c29b2_))
                have H' := Aside0.mk H; clear H; have hcz30_0 : wc.cell? ⟨gb159, 0, none⟩ = some (.int .i64 ((rd_T42 l1 x31_2).f0)) := (blk_cell BK159.out 0).trans rfl; have hcz30_1 : wc.cell? ⟨gb159, 1, none⟩ = some (.int .i64 ((rd_T42 l1 x31_2).f1)) := (blk_cell BK159.out 1).trans rfl; have hcz30_2 : wc.cell? ⟨gb159, 2, none⟩ = some (.string ((rd_T42 l1 x31_2).f2)) := (blk_cell BK159.out 2).trans rfl; have hcz30_3 : wc.cell? ⟨gb159, 3, none⟩ = some (.string ((rd_T42 l1 x31_2).f3)) := (blk_cell BK159.out 3).trans rfl; have hfz30_0 := blk_frozen BK159.out 0; have hfz30_1 := blk_frozen BK159.out 1; have hfz30_2 := blk_frozen BK159.out 2; have hfz30_3 := blk_frozen BK159.out 3; go_wp2_with (first | ((with_reducible refine gate_callee (f := 11) rfl ?_); refine goesL_ (some 55) rfl rfl Tryd.func11 zz19 rfl #[.int .i64 ((rd_T42 l1 x31_2).f0)] rfl zz5 ?_; (with_reducible refine (prop_Kind.calls kj11 ((rd_T42 l1 x31_2).f0) t167 t168 _ A25.out).mono ?_); rintro e w' ⟨rfl, ⟨nd, rfl⟩⟩; refine ⟨_, rfl, ?_⟩) | ((with_reducible refine gate_callee (f := 42) rfl ?_); refine goesL_ (some 61) rfl rfl Tryd.func42 zz19 rfl #[.int .i64 t167, anyW t160] rfl zz5 ?_; (with_reducible refine (prop_laid.calls kj11 t167 t160 t169 t170 _ zz1 A26.out).mono ?_); rintro e w31 ⟨rfl, hb⟩; refine ⟨_, rfl, ?_⟩; have n0_ := Aside0.mk (blk_below (g := gb159) (o := .cells #[.int .i64 ((rd_T42 l1 x31_2).f0), .int .i64 ((rd_T42 l1 x31_2).f1), .string ((rd_T42 l1 x31_2).f2), .string ((rd_T42 l1 x31_2).f3)] 42 (0, 0)) zz8 hb); have n1_ := Aside0.mk (below_step zz3 hb); clear BK159; clear HB; have BK159 := n0_; have HB := n1_; clear n0_ n1_; (try clear hb); (try clear hb2); (try clear hk); (try clear hi); have hcz32_0 : w31.cell? ⟨gb159, 0, none⟩ = some (.int .i64 ((rd_T42 l1 x31_2).f0)) := (blk_cell BK159.out 0).trans rfl; have hcz32_1 : w31.cell? ⟨gb159, 1, none⟩ = some (.int .i64 ((rd_T42 l1 x31_2).f1)) := (blk_cell BK159.out 1).trans rfl; have hcz32_2 : w31.cell? ⟨gb159, 2, none⟩ = some (.string ((rd_T42 l1 x31_2).f2)) := (blk_cell BK159.out 2).trans rfl; have hcz32_3 : w31.cell? ⟨gb159, 3, none⟩ = some (.string ((rd_T42 l1 x31_2).f3)) := (blk_cell BK159.out 3).trans rfl; have hfz32_0 := blk_frozen BK159.out 0; have hfz32_1 := blk_frozen BK159.out 1; have hfz32_2 := blk_frozen BK159.out 2; have hfz32_3 := blk_frozen BK159.out 3) | ((with_reducible refine gate_dst (N := 70) rfl ?_); (try (refine gate_guard (by rfl) ?_; dsimp only)); refine Kd.R_lit (Kd.int .u8) _ 5 ?hg (N := 70) ?hd (xs := ([(((rd_T42 l1 x31_2).f0)) % 256] : List Int)) (inner := [.int .u8 ((((rd_T42 l1 x31_2).f0)) % 256)]) (ok := fun _ => True) (okp := fun _ => True) ?hr ?hp (fun _ hk => hk) trivial (Below.refl _ _) (Nat.le_refl _) (by simp) ?_; (case hd => rfl); (case hg => rfl); (case hr => first | (go_simp; done) | (go_simp; rfl)); (case hp => exact (Reps.one (show Kd.M (Kd.int .u8) _ _ _ ((((rd_T42 l1 x31_2).f0)) % 256) [.int .u8 ((((rd_T42 l1 x31_2).f0)) % 256)] from rfl) (Reps.none _ _))); intro v172 w33 ho34 hb hg_ hnew_; clear hg_ hnew_; (first | rw [← Ny171.out] at ho34 | (simp only [Int.reduceToNat] at ho34; rw [← Ny171.out] at ho34)); have n0_ := Aside0.mk (Kd.R_lower ho34 (below_size zz3)); have n1_ := Aside0.mk (blk_below (g := gb159) (o := .cells #[.int .i64 ((rd_T42 l1 x31_2).f0), .int .i64 ((rd_T42 l1 x31_2).f1), .string ((rd_T42 l1 x31_2).f2), .string ((rd_T42 l1 x31_2).f3)] 42 (0, 0)) zz8 hb); have n2_ := Aside0.mk (below_step zz3 hb); clear BK159; clear HB; have HO173 := n0_; have BK159 := n1_; have HB := n2_; clear n0_ n1_ n2_; clear hb ho34; have hcv35 := own_string (P := Tryd.prog) Tryd.underlying58 Tryd.underlying5 Tryd.underlying9 (Kd.own_of_R HO173.out)))
                go_roundg kj11
                case measure => have := HJ3.out; have := HK2.out; have := HJ11.out; omega
                case rel => exact ⟨(x8_2 ++ ((strOfNums y171) ++ t169)), (wrap64 (x31_2 + 1)), zz16, zz16, H', ⟨by have := HJ3.out; have := HK2.out; have := HJ11.out; omega⟩, ⟨zz3⟩⟩
               rw [if_neg c29] at H; exact absurd H (by simp)
              rw [if_neg c28] at H; exact absurd H (by simp)
             rw [if_neg c27] at H; have c27b0 : (t170 == 0) = false := beq_eq_false_iff_ne.mpr c27; have c27b1 : (t170 != 0) = true := bne_iff_ne.mpr c27; simp only [Option.some.injEq, Prod.mk.injEq] at H; obtain ⟨rfl, rfl⟩ := H; have hcz36_0 : wc.cell? ⟨gb159, 0, none⟩ = some (.int .i64 ((rd_T42 l1 x31_2).f0)) := (blk_cell BK159.out 0).trans rfl; have hcz36_1 : wc.cell? ⟨gb159, 1, none⟩ = some (.int .i64 ((rd_T42 l1 x31_2).f1)) := (blk_cell BK159.out 1).trans rfl; have hcz36_2 : wc.cell? ⟨gb159, 2, none⟩ = some (.string ((rd_T42 l1 x31_2).f2)) := (blk_cell BK159.out 2).trans rfl; have hcz36_3 : wc.cell? ⟨gb159, 3, none⟩ = some (.string ((rd_T42 l1 x31_2).f3)) := (blk_cell BK159.out 3).trans rfl; have hfz36_0 := blk_frozen BK159.out 0; have hfz36_1 := blk_frozen BK159.out 1; have hfz36_2 := blk_frozen BK159.out 2; have hfz36_3 := blk_frozen BK159.out 3; go_wp2_with (first | ((with_reducible refine gate_callee (f := 11) rfl ?_); refine goesL_ (some 55) rfl rfl Tryd.func11 zz19 rfl #[.int .i64 ((rd_T42 l1 x31_2).f0)] rfl zz5 ?_; (with_reducible refine (prop_Kind.calls kj11 ((rd_T42 l1 x31_2).f0) t167 t168 _ A25.out).mono ?_); rintro e w' ⟨rfl, ⟨nd, rfl⟩⟩; refine ⟨_, rfl, ?_⟩) | ((with_reducible refine gate_callee (f := 42) rfl ?_); refine goesL_ (some 61) rfl rfl Tryd.func42 zz19 rfl #[.int .i64 t167, anyW t160] rfl zz5 ?_; (with_reducible refine (prop_laid.calls kj11 t167 t160 t169 t170 _ zz1 A26.out).mono ?_); rintro e w37 ⟨rfl, hb⟩; refine ⟨_, rfl, ?_⟩; have n0_ := Aside0.mk (blk_below (g := gb159) (o := .cells #[.int .i64 ((rd_T42 l1 x31_2).f0), .int .i64 ((rd_T42 l1 x31_2).f1), .string ((rd_T42 l1 x31_2).f2), .string ((rd_T42 l1 x31_2).f3)] 42 (0, 0)) zz8 hb); have n1_ := Aside0.mk (below_step zz3 hb); clear BK159; clear HB; have BK159 := n0_; have HB := n1_; clear n0_ n1_; (try clear hb); (try clear hb2); (try clear hk); (try clear hi)))
             go_ret2
             exact ⟨zz9, zz3⟩
         rw [if_neg c10] at H; exact absurd H (by simp)
        rw [if_neg c9] at H; exact absurd H (by simp)
       rw [if_neg c8] at H; have c8b0 : decide (x31_2 < (l1.length : Int)) = false := decide_eq_false c8; clear c8; simp only [Option.some.injEq, Prod.mk.injEq] at H; obtain ⟨rfl, rfl⟩ := H; go_wp2
       go_ret2
       exact ⟨zz9, zz6⟩
def prop_Bytes.f (k : Nat) (a0 : Int) (l1 : List (S42)) : Option (ByteArray × Int) := (prop_lay.f k a0 l1).bind fun bt174 => (if bt174.2 = true then ((vbi_Num.f k (bt174.1.size : Int)).bind fun bt176 => (if bt176.1.size + bt174.1.size ≤ 9223372036854775807 then (some (bt176.1 ++ bt174.1, 0)) else (none))) else (some ((⟨#[]⟩ : ByteArray), 1)))
set_option maxHeartbeats 8000000 in
set_option maxRecDepth 100000 in
theorem prop_Bytes.calls (k : Nat) (a0 : Int) (A1 : Option Addr) (c1 : Nat) (l1 : List (S42)) (r1 : ByteArray) (r2 : Int) (w : World) (hr1 : Kd.C k42 w A1 l1.length l1) (hc1 : l1.length ≤ c1) (HLAID : Laid w) (h : prop_Bytes.f k a0 l1 = some (r1, r2)) :
  Calls Tryd.prog 17 #[.int .i64 a0, .slice A1 l1.length c1] w fun e w' => e = .returned (.tuple #[.string r1, .int .i64 r2]) ∧ Below w.heap.size w w' := by
 have HR1 := Aside0.mk hr1; have HC1 := Aside0.mk hc1; clear hr1 hc1; have HB := Aside0.mk (Below.refl w.heap.size w); have H : ((prop_lay.f k a0 l1).bind fun bt174 => (if bt174.2 = true then ((vbi_Num.f k (bt174.1.size : Int)).bind fun bt176 => (if bt176.1.size + bt174.1.size ≤ 9223372036854775807 then (some (bt176.1 ++ bt174.1, 0)) else (none))) else (some ((⟨#[]⟩ : ByteArray), 1)))) = some (r1, r2) := h; clear h; replace H := Option.bind_eq_some_iff.mp H; obtain ⟨⟨t174, t175⟩, A30, H⟩ := H; replace H : (if t175 = true then ((vbi_Num.f k (t174.size : Int)).bind fun bt176 => (if bt176.1.size + t174.size ≤ 9223372036854775807 then (some (bt176.1 ++ t174, 0)) else (none))) else (some ((⟨#[]⟩ : ByteArray), 1))) = some (r1, r2) := H; have A3 := Aside0.mk A30; clear A30; by_cases c4 : t175 = true
 ·
  subst c4; have H1 : ((vbi_Num.f k (t174.size : Int)).bind fun bt176 => (if bt176.1.size + t174.size ≤ 9223372036854775807 then (some (bt176.1 ++ t174, 0)) else (none))) = some (r1, r2) := by rw [if_pos rfl] at H; exact H
  clear H; have H := H1; clear H1; replace H := Option.bind_eq_some_iff.mp H; obtain ⟨⟨t176, t177⟩, A50, H⟩ := H; replace H : (if t176.size + t174.size ≤ 9223372036854775807 then (some (t176 ++ t174, 0)) else (none)) = some (r1, r2) := H; have A5 := Aside0.mk A50; clear A50; by_cases c6 : t176.size + t174.size ≤ 9223372036854775807
  ·
   rw [if_pos c6] at H; have c6b0 := eq_true c6; have c6b1 : decide (t176.size + t174.size ≤ 9223372036854775807) = true := decide_eq_true c6; try have c6b2 : (9223372036854775807 < t176.size + t174.size) = False := eq_false (Nat.not_lt.2 c6)
   simp only [Option.some.injEq, Prod.mk.injEq] at H; obtain ⟨rfl, rfl⟩ := H; go_enter Tryd.func17, Tryd.ntmps17
   go_wp2_with (first | ((with_reducible refine gate_callee (f := 28) rfl ?_); refine goesL_ (some 13) rfl rfl Tryd.func28 zz19 rfl #[.int .i64 a0, .slice A1 l1.length c1] rfl zz5 ?_; (with_reducible refine (prop_lay.calls k a0 _ _ l1 t174 true _ ?side1 ?side2 zz1 A3.out).mono ?_); (case side1 => repeat (first | exact HR1.out | (with_reducible refine Kd.C_alloc ?_ _) | (with_reducible refine Kd.C_drewN ?_ _) | (with_reducible refine Kd.C_drew ?_))); (case side2 => exact HC1.out); rintro e w7 ⟨rfl, hb⟩; refine ⟨_, rfl, ?_⟩; have n0_ := Aside0.mk (below_step zz6 hb); clear HB; have HB := n0_; clear n0_; (try clear hb); (try clear hb2); (try clear hk); (try clear hi)) | ((with_reducible refine gate_callee (f := 29) rfl ?_); refine goesL_ (some 21) rfl rfl Tryd.func29 zz19 rfl #[.int .i64 (t174.size : Int)] rfl zz5 ?_; (with_reducible refine (vbi_Num.calls k (t174.size : Int) t176 t177 _ A5.out).mono ?_); rintro e w8 ⟨rfl, hb⟩; refine ⟨_, rfl, ?_⟩; have n0_ := Aside0.mk (below_step zz6 hb); clear HB; have HB := n0_; clear n0_; (try clear hb); (try clear hb2); (try clear hk); (try clear hi)))
   go_ret2
   exact ⟨zz9, zz6⟩
  rw [if_neg c6] at H; exact absurd H (by simp)
 replace c4 := Bool.eq_false_iff.mpr c4; subst c4; have H1 : (some ((⟨#[]⟩ : ByteArray), 1)) = some (r1, r2) := by rw [if_neg (show ¬ (false = true) by decide)] at H; exact H
 clear H; have H := H1; clear H1; simp only [Option.some.injEq, Prod.mk.injEq] at H; obtain ⟨rfl, rfl⟩ := H; go_enter Tryd.func17, Tryd.ntmps17
 go_wp2_with (first | ((with_reducible refine gate_callee (f := 28) rfl ?_); refine goesL_ (some 13) rfl rfl Tryd.func28 zz19 rfl #[.int .i64 a0, .slice A1 l1.length c1] rfl zz5 ?_; (with_reducible refine (prop_lay.calls k a0 _ _ l1 t174 false _ ?side1 ?side2 zz1 A3.out).mono ?_); (case side1 => repeat (first | exact HR1.out | (with_reducible refine Kd.C_alloc ?_ _) | (with_reducible refine Kd.C_drewN ?_ _) | (with_reducible refine Kd.C_drew ?_))); (case side2 => exact HC1.out); rintro e w9 ⟨rfl, hb⟩; refine ⟨_, rfl, ?_⟩; have n0_ := Aside0.mk (below_step zz6 hb); clear HB; have HB := n0_; clear n0_; (try clear hb); (try clear hb2); (try clear hk); (try clear hi)))
 go_ret2
 exact ⟨zz9, zz6⟩
def fairwaylaw4_wakes.f (k : Nat)  : Option (Bool) := (prop_Bytes.f k 0 ([] : List (S42))).bind fun bt178 => ((prop_Kind.f k 38).bind fun bt180 => ((fairwaylaw4_num.f bt178.2).bind fun t182 => (if t182 = 0 then (if bt178.1.toList = ([0] : List UInt8) then ((fairwaylaw4_num.f bt180.2).bind fun t183 => (if t183 = 0 then (some (bt180.1 == 7)) else (some false))) else (some false)) else (some false))))
set_option maxHeartbeats 8000000 in
set_option maxRecDepth 100000 in
theorem fairwaylaw4_wakes.calls (k : Nat)  (r : Bool) (w : World) (HLAID : Laid w) (h : fairwaylaw4_wakes.f k  = some r) :
  Calls Tryd.prog 14 #[] w fun e w' => e = .returned (.bool r) ∧ Below w.heap.size w w' := by
 have HB := Aside0.mk (Below.refl w.heap.size w); have H : ((prop_Bytes.f k 0 ([] : List (S42))).bind fun bt178 => ((prop_Kind.f k 38).bind fun bt180 => ((fairwaylaw4_num.f bt178.2).bind fun t182 => (if t182 = 0 then (if bt178.1.toList = ([0] : List UInt8) then ((fairwaylaw4_num.f bt180.2).bind fun t183 => (if t183 = 0 then (some (bt180.1 == 7)) else (some false))) else (some false)) else (some false))))) = some r := h; clear h; replace H := Option.bind_eq_some_iff.mp H; obtain ⟨⟨t178, t179⟩, A10, H⟩ := H; replace H : ((prop_Kind.f k 38).bind fun bt180 => ((fairwaylaw4_num.f t179).bind fun t182 => (if t182 = 0 then (if t178.toList = ([0] : List UInt8) then ((fairwaylaw4_num.f bt180.2).bind fun t183 => (if t183 = 0 then (some (bt180.1 == 7)) else (some false))) else (some false)) else (some false)))) = some r := H; have A1 := Aside0.mk A10; clear A10; replace H := Option.bind_eq_some_iff.mp H; obtain ⟨⟨t180, t181⟩, A20, H⟩ := H; replace H : ((fairwaylaw4_num.f t179).bind fun t182 => (if t182 = 0 then (if t178.toList = ([0] : List UInt8) then ((fairwaylaw4_num.f t181).bind fun t183 => (if t183 = 0 then (some (t180 == 7)) else (some false))) else (some false)) else (some false))) = some r := H; have A2 := Aside0.mk A20; clear A20; replace H := Option.bind_eq_some_iff.mp H; obtain ⟨t182, A30, H⟩ := H; replace H : (if t182 = 0 then (if t178.toList = ([0] : List UInt8) then ((fairwaylaw4_num.f t181).bind fun t183 => (if t183 = 0 then (some (t180 == 7)) else (some false))) else (some false)) else (some false)) = some r := H; have A3 := Aside0.mk A30; clear A30; by_cases c4 : t182 = 0
 ·
  rw [if_pos c4] at H; have c4b0 : (t182 == 0) = true := beq_iff_eq.mpr c4; have c4b1 : (t182 != 0) = false := bne_eq_false_iff_eq.mpr c4; clear c4; by_cases c5 : t178.toList = ([0] : List UInt8)
  ·
   rw [if_pos c5] at H; have c5b0 : (t178.toList == ([0] : List UInt8)) = true := beq_iff_eq.mpr c5; have c5b1 : (t178.toList != ([0] : List UInt8)) = false := bne_eq_false_iff_eq.mpr c5; clear c5; replace H := Option.bind_eq_some_iff.mp H; obtain ⟨t183, A60, H⟩ := H; replace H : (if t183 = 0 then (some (t180 == 7)) else (some false)) = some r := H; have A6 := Aside0.mk A60; clear A60; by_cases c7 : t183 = 0
   ·
    rw [if_pos c7] at H; have c7b0 : (t183 == 0) = true := beq_iff_eq.mpr c7; have c7b1 : (t183 != 0) = false := bne_eq_false_iff_eq.mpr c7; clear c7; obtain rfl := Option.some.inj H; go_enter Tryd.func14, Tryd.ntmps14
    go_wp2_with (first | ((with_reducible refine gate_callee (f := 17) rfl ?_); refine goesL_ (some 6) rfl rfl Tryd.func17 zz19 rfl #[.int .i64 0, .slice none 0 0] rfl zz5 ?_; (refine (prop_Bytes.calls k 0 _ _ ([] : List (S42)) t178 t179 _ ?side1 ?side2 zz1 A1.out).mono ?_); (case side1 => exact Kd.C_nil _ _); (case side2 => exact Nat.le_refl _); rintro e w8 ⟨rfl, hb⟩; refine ⟨_, rfl, ?_⟩; have n0_ := Aside0.mk (below_step zz6 hb); clear HB; have HB := n0_; clear n0_; (try clear hb); (try clear hb2); (try clear hk); (try clear hi)) | ((with_reducible refine gate_callee (f := 11) rfl ?_); refine goesL_ (some 10) rfl rfl Tryd.func11 zz19 rfl #[.int .i64 38] rfl zz5 ?_; (with_reducible refine (prop_Kind.calls k 38 t180 t181 _ A2.out).mono ?_); rintro e w' ⟨rfl, ⟨nd, rfl⟩⟩; refine ⟨_, rfl, ?_⟩) | ((with_reducible refine gate_callee (f := 13) rfl ?_); refine goesL_ (some 14) rfl rfl Tryd.func13 zz19 rfl #[.int .i64 t179] rfl zz5 ?_; (with_reducible refine (fairwaylaw4_num.calls t179 t182 _ A3.out).mono ?_); rintro e w' ⟨rfl, ⟨nd, rfl⟩⟩; refine ⟨_, rfl, ?_⟩) | (go_at_call 13; (with_reducible refine (fairwaylaw4_num.calls t181 t183 _ A6.out).mono ?_); rintro e w' ⟨rfl, ⟨nd, rfl⟩⟩))
    go_ret
    exact ⟨zz9, zz6⟩
   rw [if_neg c7] at H; have c7b0 : (t183 == 0) = false := beq_eq_false_iff_ne.mpr c7; have c7b1 : (t183 != 0) = true := bne_iff_ne.mpr c7; obtain rfl := Option.some.inj H; go_enter Tryd.func14, Tryd.ntmps14
   go_wp2_with (first | ((with_reducible refine gate_callee (f := 17) rfl ?_); refine goesL_ (some 6) rfl rfl Tryd.func17 zz19 rfl #[.int .i64 0, .slice none 0 0] rfl zz5 ?_; (refine (prop_Bytes.calls k 0 _ _ ([] : List (S42)) t178 t179 _ ?side1 ?side2 zz1 A1.out).mono ?_); (case side1 => exact Kd.C_nil _ _); (case side2 => exact Nat.le_refl _); rintro e w9 ⟨rfl, hb⟩; refine ⟨_, rfl, ?_⟩; have n0_ := Aside0.mk (below_step zz6 hb); clear HB; have HB := n0_; clear n0_; (try clear hb); (try clear hb2); (try clear hk); (try clear hi)) | ((with_reducible refine gate_callee (f := 11) rfl ?_); refine goesL_ (some 10) rfl rfl Tryd.func11 zz19 rfl #[.int .i64 38] rfl zz5 ?_; (with_reducible refine (prop_Kind.calls k 38 t180 t181 _ A2.out).mono ?_); rintro e w' ⟨rfl, ⟨nd, rfl⟩⟩; refine ⟨_, rfl, ?_⟩) | ((with_reducible refine gate_callee (f := 13) rfl ?_); refine goesL_ (some 14) rfl rfl Tryd.func13 zz19 rfl #[.int .i64 t179] rfl zz5 ?_; (with_reducible refine (fairwaylaw4_num.calls t179 t182 _ A3.out).mono ?_); rintro e w' ⟨rfl, ⟨nd, rfl⟩⟩; refine ⟨_, rfl, ?_⟩) | (go_at_call 13; (with_reducible refine (fairwaylaw4_num.calls t181 t183 _ A6.out).mono ?_); rintro e w' ⟨rfl, ⟨nd, rfl⟩⟩))
   go_ret
   exact ⟨zz9, zz6⟩
  rw [if_neg c5] at H; have c5b0 : (t178.toList == ([0] : List UInt8)) = false := beq_eq_false_iff_ne.mpr c5; have c5b1 : (t178.toList != ([0] : List UInt8)) = true := bne_iff_ne.mpr c5; obtain rfl := Option.some.inj H; go_enter Tryd.func14, Tryd.ntmps14
  go_wp2_with (first | ((with_reducible refine gate_callee (f := 17) rfl ?_); refine goesL_ (some 6) rfl rfl Tryd.func17 zz19 rfl #[.int .i64 0, .slice none 0 0] rfl zz5 ?_; (refine (prop_Bytes.calls k 0 _ _ ([] : List (S42)) t178 t179 _ ?side1 ?side2 zz1 A1.out).mono ?_); (case side1 => exact Kd.C_nil _ _); (case side2 => exact Nat.le_refl _); rintro e w10 ⟨rfl, hb⟩; refine ⟨_, rfl, ?_⟩; have n0_ := Aside0.mk (below_step zz6 hb); clear HB; have HB := n0_; clear n0_; (try clear hb); (try clear hb2); (try clear hk); (try clear hi)) | ((with_reducible refine gate_callee (f := 11) rfl ?_); refine goesL_ (some 10) rfl rfl Tryd.func11 zz19 rfl #[.int .i64 38] rfl zz5 ?_; (with_reducible refine (prop_Kind.calls k 38 t180 t181 _ A2.out).mono ?_); rintro e w' ⟨rfl, ⟨nd, rfl⟩⟩; refine ⟨_, rfl, ?_⟩) | ((with_reducible refine gate_callee (f := 13) rfl ?_); refine goesL_ (some 14) rfl rfl Tryd.func13 zz19 rfl #[.int .i64 t179] rfl zz5 ?_; (with_reducible refine (fairwaylaw4_num.calls t179 t182 _ A3.out).mono ?_); rintro e w' ⟨rfl, ⟨nd, rfl⟩⟩; refine ⟨_, rfl, ?_⟩))
  go_ret
  exact ⟨zz9, zz6⟩
 rw [if_neg c4] at H; have c4b0 : (t182 == 0) = false := beq_eq_false_iff_ne.mpr c4; have c4b1 : (t182 != 0) = true := bne_iff_ne.mpr c4; obtain rfl := Option.some.inj H; go_enter Tryd.func14, Tryd.ntmps14
 go_wp2_with (first | ((with_reducible refine gate_callee (f := 17) rfl ?_); refine goesL_ (some 6) rfl rfl Tryd.func17 zz19 rfl #[.int .i64 0, .slice none 0 0] rfl zz5 ?_; (refine (prop_Bytes.calls k 0 _ _ ([] : List (S42)) t178 t179 _ ?side1 ?side2 zz1 A1.out).mono ?_); (case side1 => exact Kd.C_nil _ _); (case side2 => exact Nat.le_refl _); rintro e w11 ⟨rfl, hb⟩; refine ⟨_, rfl, ?_⟩; have n0_ := Aside0.mk (below_step zz6 hb); clear HB; have HB := n0_; clear n0_; (try clear hb); (try clear hb2); (try clear hk); (try clear hi)) | ((with_reducible refine gate_callee (f := 11) rfl ?_); refine goesL_ (some 10) rfl rfl Tryd.func11 zz19 rfl #[.int .i64 38] rfl zz5 ?_; (with_reducible refine (prop_Kind.calls k 38 t180 t181 _ A2.out).mono ?_); rintro e w' ⟨rfl, ⟨nd, rfl⟩⟩; refine ⟨_, rfl, ?_⟩) | ((with_reducible refine gate_callee (f := 13) rfl ?_); refine goesL_ (some 14) rfl rfl Tryd.func13 zz19 rfl #[.int .i64 t179] rfl zz5 ?_; (with_reducible refine (fairwaylaw4_num.calls t179 t182 _ A3.out).mono ?_); rintro e w' ⟨rfl, ⟨nd, rfl⟩⟩; refine ⟨_, rfl, ?_⟩))
 go_ret
 exact ⟨zz9, zz6⟩
end Go.Proofs.YtiancopplinpcaaDoor.P
end
section
namespace Go.Proofs.YtiancopplinpcaaDoor.P
open Go.RowKit Go.Proofs.YtiancopplinpcaaDoorW.PrintWords Go.Proofs.YtiancopplinpcaaDoorW.PrintLast Go.Proofs.YtiancopplinpcaaDoorW.PrintMore
attribute [local go_sem] max2_int min2_int max_two min_two max_three min_three max_four min_four
set_option linter.unusedVariables false
set_option linter.unusedSimpArgs false
mutual
def fairwaylaw4_PropKinds.l0 : Nat → List (S25) → Int → Option (Bool)
  | 0, _, _ => none
  | k + 1, x0, x3 => if x3 < 260 then (if x3 ≥ 250 then (fairwaylaw4_PropKinds.j1 k x0 x3 x3 (decide ((wrap64 (x3 - 250)) < (x0.length : Int)))) else (fairwaylaw4_PropKinds.j1 k x0 x3 x3 false)) else ((fairwaylaw4_wakes.f k).bind fun t184 => (some t184))
def fairwaylaw4_PropKinds.j1 : Nat → List (S25) → Int → Int → Bool → Option (Bool)
  | 0, _, _, _, _ => none
  | k + 1, x0, x3, x4, x21 => if x21 = true then (if 0 ≤ (wrap64 (x3 - 250)) then (if (wrap64 (x3 - 250)) < (x0.length : Int) then (fairwaylaw4_PropKinds.j2 k x0 x3 ((rd_T25 x0 (wrap64 (x3 - 250))).f0)) else (none)) else (none)) else (fairwaylaw4_PropKinds.j2 k x0 x3 x4)
def fairwaylaw4_PropKinds.j2 : Nat → List (S25) → Int → Int → Option (Bool)
  | 0, _, _, _ => none
  | k + 1, x0, x3, x4 => (prop_Kind.f k x4).bind fun bt186 => ((fairwayref4_Kind.f k x4).bind fun t188 => (if bt186.1 = t188 then ((fairwaylaw4_num.f bt186.2).bind fun t189 => (if ((t189 == 0) != (decide (t188 > 0))) = true then (some false) else (if t188 = 0 then ((fairwaylaw4_num.f bt186.2).bind fun t190 => (if t190 = 3 then (fairwaylaw4_PropKinds.l0 k x0 (wrap64 (x3 + 1))) else (some false))) else (fairwaylaw4_PropKinds.l0 k x0 (wrap64 (x3 + 1)))))) else (some false)))
end
def fairwaylaw4_PropKinds.f (k : Nat) (l0 : List (S25)) : Option (Bool) := fairwaylaw4_PropKinds.l0 k l0 (-3)
end Go.Proofs.YtiancopplinpcaaDoor.P
end
section
namespace Go.Proofs.YtiancopplinpcaaDoor.P
open Go.RowKit Go.Proofs.YtiancopplinpcaaDoorW.PrintWords Go.Proofs.YtiancopplinpcaaDoorW.PrintLast Go.Proofs.YtiancopplinpcaaDoorW.PrintMore
attribute [local go_sem] max2_int min2_int max_two min_two max_three min_three max_four min_four
set_option linter.unusedVariables false
set_option linter.unusedSimpArgs false
attribute [local go_sem high] eqA42
def prop_Check.f (k : Nat) (a0 : Int) (l1 : List (S42)) : Option (Int) := (prop_lay.f k a0 l1).bind fun bt291 => (if bt291.2 = true then (some 0) else (some 1))
set_option maxHeartbeats 8000000 in
set_option maxRecDepth 100000 in
theorem prop_Check.calls (k : Nat) (a0 : Int) (A1 : Option Addr) (c1 : Nat) (l1 : List (S42)) (r : Int) (w : World) (hr1 : Kd.C k42 w A1 l1.length l1) (hc1 : l1.length ≤ c1) (HLAID : Laid w) (h : prop_Check.f k a0 l1 = some r) :
  Calls Tryd.prog 20 #[.int .i64 a0, .slice A1 l1.length c1] w fun e w' => e = .returned (.int .i64 r) ∧ Below w.heap.size w w' := by
 have HR1 := Aside0.mk hr1; have HC1 := Aside0.mk hc1; clear hr1 hc1; have HB := Aside0.mk (Below.refl w.heap.size w); have H : ((prop_lay.f k a0 l1).bind fun bt291 => (if bt291.2 = true then (some 0) else (some 1))) = some r := h; clear h; replace H := Option.bind_eq_some_iff.mp H; obtain ⟨⟨t291, t292⟩, A30, H⟩ := H; replace H : (if t292 = true then (some 0) else (some 1)) = some r := H; have A3 := Aside0.mk A30; clear A30; by_cases c4 : t292 = true
 ·
  subst c4; have H1 : (some 0) = some r := by rw [if_pos rfl] at H; exact H
  clear H; have H := H1; clear H1; obtain rfl := Option.some.inj H; go_enter Tryd.func20, Tryd.ntmps20
  go_wp2_with (first | ((with_reducible refine gate_callee (f := 28) rfl ?_); refine goesL_ (some 10) rfl rfl Tryd.func28 zz19 rfl #[.int .i64 a0, .slice A1 l1.length c1] rfl zz5 ?_; (with_reducible refine (prop_lay.calls k a0 _ _ l1 t291 true _ ?side1 ?side2 zz1 A3.out).mono ?_); (case side1 => repeat (first | exact HR1.out | (with_reducible refine Kd.C_alloc ?_ _) | (with_reducible refine Kd.C_drewN ?_ _) | (with_reducible refine Kd.C_drew ?_))); (case side2 => exact HC1.out); rintro e w5 ⟨rfl, hb⟩; refine ⟨_, rfl, ?_⟩; have n0_ := Aside0.mk (below_step zz6 hb); clear HB; have HB := n0_; clear n0_; (try clear hb); (try clear hb2); (try clear hk); (try clear hi)))
  go_ret
  exact ⟨zz9, zz6⟩
 replace c4 := Bool.eq_false_iff.mpr c4; subst c4; have H1 : (some 1) = some r := by rw [if_neg (show ¬ (false = true) by decide)] at H; exact H
 clear H; have H := H1; clear H1; obtain rfl := Option.some.inj H; go_enter Tryd.func20, Tryd.ntmps20
 go_wp2_with (first | ((with_reducible refine gate_callee (f := 28) rfl ?_); refine goesL_ (some 10) rfl rfl Tryd.func28 zz19 rfl #[.int .i64 a0, .slice A1 l1.length c1] rfl zz5 ?_; (with_reducible refine (prop_lay.calls k a0 _ _ l1 t291 false _ ?side1 ?side2 zz1 A3.out).mono ?_); (case side1 => repeat (first | exact HR1.out | (with_reducible refine Kd.C_alloc ?_ _) | (with_reducible refine Kd.C_drewN ?_ _) | (with_reducible refine Kd.C_drew ?_))); (case side2 => exact HC1.out); rintro e w6 ⟨rfl, hb⟩; refine ⟨_, rfl, ?_⟩; have n0_ := Aside0.mk (below_step zz6 hb); clear HB; have HB := n0_; clear n0_; (try clear hb); (try clear hb2); (try clear hk); (try clear hi)))
 go_ret
 exact ⟨zz9, zz6⟩
end Go.Proofs.YtiancopplinpcaaDoor.P
end
section
namespace Go.Proofs.YtiancopplinpcaaDoor.P
open Go.RowKit Go.Proofs.YtiancopplinpcaaDoorW.PrintWords Go.Proofs.YtiancopplinpcaaDoorW.PrintLast Go.Proofs.YtiancopplinpcaaDoorW.PrintMore
set_option linter.unusedSimpArgs false
set_option linter.unusedVariables false
theorem w64 {n : Int} (h0 : -9223372036854775808 ≤ n) (h1 : n ≤ 9223372036854775807) : wrap64 n = n := by unfold wrap64; omega
theorem wraps_i64 (n : Int) (h₀ : 0 ≤ n) (h₁ : n < 2 ^ 63) : IntKind.i64.wrap n = n := by rw [IntKind.wrap_i64]; omega
theorem and127 {x : Int} (h0 : 0 ≤ x) (h1 : x < 9223372036854775808) : Go.bits .and .i64 x 127 = x % 128 :=
  bits_mask .i64 63 (by decide) wraps_i64 7 (by decide) x h0 (by simpa using h1)
theorem or128 {x : Int} (h0 : 0 ≤ x) (h1 : x < 128) : Go.bits .or .i64 x 128 = x + 128 := by
  obtain ⟨a, rfl⟩ := Int.eq_ofNat_of_zero_le h0
  have h := (bits_nat .i64 63 (by decide) wraps_i64 a 128 (by have : a < 128 := by omega
                                                              exact Nat.lt_of_lt_of_le this (by decide)) (by decide)).2
  have e : a ||| 128 = a + 128 := by
    have : a < 2 ^ 7 := by omega
    rw [Nat.or_comm, show (128 : Nat) = 2 ^ 7 * 1 from rfl, ← Nat.two_pow_add_eq_or_of_lt this 1, Nat.add_comm]
  rw [e] at h
  simpa using h
def vb (n : Nat) : List Int := if n < 128 then [(n : Int)] else ((n % 128 + 128 : Nat) : Int) :: vb (n / 128)
termination_by n
decreasing_by omega
theorem vb_small {n : Nat} (h : n < 128) : vb n = [(n : Int)] := by rw [vb, if_pos h]
theorem vb_big {n : Nat} (h : 128 ≤ n) : vb n = ((n % 128 + 128 : Nat) : Int) :: vb (n / 128) := by rw [vb, if_neg (by omega)]
theorem num_loop (n : Nat) : ∀ (k : Nat) (acc : List Int), n < k → (acc.length : Int) + n < 140737488355328 → vbi_Num.l0 k (n : Int) acc = some (strOfNums (acc ++ vb n), 0) := by
  induction n using Nat.strongRecOn with
  | _ n ih =>
    intro k acc hk hl
    obtain ⟨k, rfl⟩ : ∃ m, k = m + 1 := ⟨k - 1, by omega⟩
    simp only [vbi_Num.l0]
    rw [if_pos (show acc.length < 140737488355328 by omega)]
    by_cases h : n < 128
    · rw [if_neg (by omega), vb_small h, if_pos (by omega)]
      rw [show (n : Int) % 256 = n by omega]
    · have e : (Go.bits .or .i64 (Go.bits .and .i64 (n : Int) 127) 128) % 256 = ((n % 128 + 128 : Nat) : Int) := by
        rw [and127 (by omega) (by omega), or128 (by omega) (by omega)]; omega
      rw [if_pos (by omega), vb_big (by omega), e, show (n : Int) / 128 = ((n / 128 : Nat) : Int) by omega]
      rw [ih (n / 128) (by omega) k _ (by omega) (by simp; omega)]
      simp
def numOf (n : Int) : ByteArray := strOfNums (vb n.toNat)
theorem num_ok {n : Int} (h0 : 0 ≤ n) (h1 : n ≤ 268435455) : Ev (fun k => vbi_Num.f k n) (numOf n, 0) := by
  refine ⟨n.toNat + 3, fun k hk => ?_⟩
  obtain ⟨k, rfl⟩ : ∃ m, k = m + 1 := ⟨k - 1, by omega⟩
  obtain ⟨m, rfl⟩ := Int.eq_ofNat_of_zero_le h0
  dsimp only
  unfold vbi_Num.f
  rw [if_neg (by omega)]
  simp only [vbi_Num.j0]
  rw [if_neg (by simp; omega), num_loop m k [] (by omega) (by simp; omega)]
  rfl
theorem num_no {n : Int} (h : n < 0 ∨ 268435455 < n) : Ev (fun k => vbi_Num.f k n) ((⟨#[]⟩ : ByteArray), 2) := by
  refine ⟨1, fun k hk => ?_⟩
  obtain ⟨k, rfl⟩ : ∃ m, k = m + 1 := ⟨k - 1, by omega⟩
  dsimp only
  unfold vbi_Num.f
  rcases h with h | h
  · rw [if_pos h]; rfl
  · rw [if_neg (by omega)]
    simp only [vbi_Num.j0]
    rw [if_pos (by simp; omega)]
theorem w7 (i : Nat) (hi : i < 4) : wrap64 (7 * (i : Int)) = ((7 * i : Nat) : Int) := by unfold wrap64; omega
theorem shr_at {n : Int} (m : Nat) (j : Int) (hj : wrap64 j = (m : Int)) (hm : m ≤ 64) : shr .i64 n (wrap64 j) = n / 2 ^ m := by
  unfold shr
  rw [hj, Int.toNat_natCast, Nat.min_eq_left (by simpa [IntKind.bits] using hm)]
def two (n : Int) : ByteArray := strOfNums [n / 256 % 256, n % 256]
def four (n : Int) : ByteArray := strOfNums [n / 16777216 % 256, n / 65536 % 256, n / 256 % 256, n % 256]
theorem two_ev (n : Int) : Ev (fun k => vbi_Two.f k n) (if 0 ≤ n ∧ n ≤ 65535 then (two n, 0) else ((⟨#[]⟩ : ByteArray), 2)) := by
  refine ⟨10, fun k hk => ?_⟩
  obtain ⟨k, rfl⟩ : ∃ m, k = m + 10 := ⟨k - 10, by omega⟩
  have e0 : shr .i64 n (wrap64 (8 * 0)) = n := by rw [shr_at 0 _ (by unfold wrap64; omega) (by decide)]; simp
  have e1 : shr .i64 n (wrap64 (8 * 1)) = n / 256 := by rw [shr_at 8 _ (by unfold wrap64; omega) (by decide)]; rfl
  have e2 : shr .i64 n (wrap64 (8 * 2)) = n / 65536 := by rw [shr_at 16 _ (by unfold wrap64; omega) (by decide)]; rfl
  dsimp only
  unfold vbi_Two.f vbi_high.f
  by_cases h0 : n < 0
  · rw [if_pos h0, if_neg (by omega)]
    simp only [vbi_high.j0, if_true, Option.bind_some]
  · rw [if_neg h0, if_pos (by unfold wrap64; omega), e2]
    simp only [vbi_high.j0]
    by_cases h1 : n ≤ 65535
    · have hz : n / 65536 = 0 := by omega
      rw [hz, if_neg (by decide), if_pos (by decide), if_pos (by decide), if_pos ⟨by omega, h1⟩]
      simp only [Option.bind_some, vbi_high.l0]
      simp only [show (wrap64 (wrap64 (2 - 1) - 0)) = 1 by unfold wrap64; omega, show wrap64 (0 + 1) = 1 by unfold wrap64; omega, show (wrap64 (wrap64 (2 - 1) - 1)) = 0 by unfold wrap64; omega, show wrap64 (1 + 1) = 2 by unfold wrap64; omega, e0, e1,
        show (0 : Int) < ((List.replicate (2 : Int).toNat 0 : List Int).length : Int) by decide, show (1 : Int) < ((List.replicate (2 : Int).toNat 0 : List Int).length : Int) by decide, show ¬ (2 : Int) < ((List.replicate (2 : Int).toNat 0 : List Int).length : Int) by decide,
        if_true, if_false, List.length_set, show (0 : Int) ≤ wrap64 (8 * 0) by unfold wrap64; omega, show (0 : Int) ≤ wrap64 (8 * 1) by unfold wrap64; omega, show (0 : Int) ≤ 1 by decide, Int.le_refl]
      rfl
    · rw [if_pos (by simp; omega), if_neg (by omega)]
      rfl
theorem four_ev (n : Int) : Ev (fun k => vbi_Four.f k n) (if 0 ≤ n ∧ n ≤ 4294967295 then (four n, 0) else ((⟨#[]⟩ : ByteArray), 2)) := by
  refine ⟨10, fun k hk => ?_⟩
  obtain ⟨k, rfl⟩ : ∃ m, k = m + 10 := ⟨k - 10, by omega⟩
  have e0 : shr .i64 n (wrap64 (8 * 0)) = n := by rw [shr_at 0 _ (by unfold wrap64; omega) (by decide)]; simp
  have e1 : shr .i64 n (wrap64 (8 * 1)) = n / 256 := by rw [shr_at 8 _ (by unfold wrap64; omega) (by decide)]; rfl
  have e2 : shr .i64 n (wrap64 (8 * 2)) = n / 65536 := by rw [shr_at 16 _ (by unfold wrap64; omega) (by decide)]; rfl
  have e3 : shr .i64 n (wrap64 (8 * 3)) = n / 16777216 := by rw [shr_at 24 _ (by unfold wrap64; omega) (by decide)]; rfl
  have e4 : shr .i64 n (wrap64 (8 * 4)) = n / 4294967296 := by rw [shr_at 32 _ (by unfold wrap64; omega) (by decide)]; rfl
  dsimp only
  unfold vbi_Four.f vbi_high.f
  by_cases h0 : n < 0
  · rw [if_pos h0, if_neg (by omega)]
    simp only [vbi_high.j0, if_true, Option.bind_some]
  · rw [if_neg h0, if_pos (by unfold wrap64; omega), e4]
    simp only [vbi_high.j0]
    by_cases h1 : n ≤ 4294967295
    · have hz : n / 4294967296 = 0 := by omega
      rw [hz, if_neg (by decide), if_pos (by decide), if_pos (by decide), if_pos ⟨by omega, h1⟩]
      simp only [Option.bind_some, vbi_high.l0]
      simp only [show (wrap64 (wrap64 (4 - 1) - 0)) = 3 by unfold wrap64; omega, show wrap64 (0 + 1) = 1 by unfold wrap64; omega, show (wrap64 (wrap64 (4 - 1) - 1)) = 2 by unfold wrap64; omega, show wrap64 (1 + 1) = 2 by unfold wrap64; omega, show (wrap64 (wrap64 (4 - 1) - 2)) = 1 by unfold wrap64; omega, show wrap64 (2 + 1) = 3 by unfold wrap64; omega, show (wrap64 (wrap64 (4 - 1) - 3)) = 0 by unfold wrap64; omega, show wrap64 (3 + 1) = 4 by unfold wrap64; omega, e0, e1, e2, e3,
        show (0 : Int) < ((List.replicate (4 : Int).toNat 0 : List Int).length : Int) by decide, show (1 : Int) < ((List.replicate (4 : Int).toNat 0 : List Int).length : Int) by decide, show (2 : Int) < ((List.replicate (4 : Int).toNat 0 : List Int).length : Int) by decide, show (3 : Int) < ((List.replicate (4 : Int).toNat 0 : List Int).length : Int) by decide, show ¬ (4 : Int) < ((List.replicate (4 : Int).toNat 0 : List Int).length : Int) by decide,
        if_true, if_false, List.length_set, show (0 : Int) ≤ wrap64 (8 * 0) by unfold wrap64; omega, show (0 : Int) ≤ wrap64 (8 * 1) by unfold wrap64; omega, show (0 : Int) ≤ wrap64 (8 * 2) by unfold wrap64; omega, show (0 : Int) ≤ wrap64 (8 * 3) by unfold wrap64; omega, show (0 : Int) ≤ 1 by decide, show (0 : Int) ≤ 2 by decide, show (0 : Int) ≤ 3 by decide, Int.le_refl]
      rfl
    · rw [if_pos (by simp; omega), if_neg (by omega)]
      rfl
def val2 (s : ByteArray) : Int := bt s 0 * 256 + bt s 1
end Go.Proofs.YtiancopplinpcaaDoor.P
end
section
namespace Go.Proofs.YtiancopplinpcaaDoor.P
open Go.RowKit Go.Proofs.YtiancopplinpcaaDoorW.PrintWords Go.Proofs.YtiancopplinpcaaDoorW.PrintLast Go.Proofs.YtiancopplinpcaaDoorW.PrintMore
set_option linter.unusedSimpArgs false
set_option linter.unusedVariables false
def kindOf (id : Int) : Int :=
  if id ∈ [1, 23, 25, 36, 37, 40, 41, 42] then 1 else if id ∈ [19, 33, 34, 35] then 2 else if id ∈ [2, 17, 24, 39] then 3 else if id = 11 then 4 else if id ∈ [3, 8, 18, 21, 26, 28, 31] then 5 else if id ∈ [9, 22] then 6 else if id = 38 then 7 else 0
theorem kindOf_range (id : Int) : 0 ≤ kindOf id ∧ kindOf id ≤ 7 := by
  unfold kindOf
  repeat' split
  all_goals omega
theorem kindOf_out {id : Int} (h : id < 0 ∨ 42 < id) : kindOf id = 0 := by
  unfold kindOf
  simp only [List.mem_cons, List.not_mem_nil, or_false]
  repeat rw [if_neg (by omega)]
set_option maxRecDepth 100000 in
theorem kind_in : ∀ n : Fin 43, prop_Kind.f 6 (n.val : Int) = some (kindOf (n.val : Int), if kindOf (n.val : Int) = 0 then 3 else 0) := by decide
theorem kind_ev (id : Int) : Ev (fun k => prop_Kind.f k id) (kindOf id, if kindOf id = 0 then 3 else 0) := by
  refine Ev.of (prop_Kind.mono id) (k := 6) ?_
  by_cases h : id < 0 ∨ 42 < id
  · rw [kindOf_out h, if_pos rfl]
    simp only [prop_Kind.f, prop_Kind.j0, prop_Kind.j1, prop_Kind.j2, prop_Kind.j3, prop_Kind.j4, beq_iff_eq]
    repeat rw [if_neg (by omega)]
  · have := kind_in ⟨id.toNat, by omega⟩
    have e : ((id.toNat : Nat) : Int) = id := by omega
    simpa only [e] using this
def placeL (p : Int) : List Int :=
  if p = 0 then [1, 2, 3, 8, 9, 24, 38] else if p = 1 then [17, 21, 22, 23, 25, 33, 34, 38, 39] else if p = 2 then [17, 18, 19, 21, 22, 26, 28, 31, 33, 34, 36, 37, 38, 39, 40, 41, 42] else if p = 3 then [1, 2, 3, 8, 9, 11, 35, 38]
  else if p = 4 ∨ p = 5 ∨ p = 6 ∨ p = 7 ∨ p = 9 ∨ p = 11 then [31, 38] else if p = 8 then [11, 38] else if p = 10 then [38] else if p = 14 then [17, 28, 31, 38] else if p = 15 then [21, 22, 31, 38] else []
theorem placeL_out {p : Int} (h : p < 0 ∨ 15 < p) : placeL p = [] := by
  unfold placeL
  repeat rw [if_neg (by omega)]
set_option maxRecDepth 100000 in
theorem stands_in : ∀ n : Fin 16, prop_stands.f 3 (n.val : Int) = some (placeL (n.val : Int), true) := by decide
theorem stands_ev (p : Int) : Ev (fun k => prop_stands.f k p) (placeL p, decide (0 ≤ p ∧ p ≤ 15)) := by
  refine Ev.of (prop_stands.mono p) (k := 3) ?_
  by_cases h : p < 0 ∨ 15 < p
  · rw [placeL_out h, decide_eq_false (by omega)]
    simp only [prop_stands.f, prop_stands.j0, beq_iff_eq]
    repeat rw [if_neg (by omega)]
  · have := stands_in ⟨p.toNat, by omega⟩
    have e : ((p.toNat : Nat) : Int) = p := by omega
    rw [decide_eq_true (by omega)]
    simpa only [e] using this
theorem index_loop (l : List Int) (x : Int) (hl : l.length ≤ 1000) (d : Nat) : ∀ (i k : Nat), l.length - i = d → d < k → ∃ r, slices_Index_int_int.l0 k l x (l.length : Int) (i : Int) = some r ∧ (r ≥ 0 ↔ x ∈ l.drop i) := by
  induction d with
  | zero =>
    intro i k hd hk
    obtain ⟨k, rfl⟩ : ∃ m, k = m + 1 := ⟨k - 1, by omega⟩
    refine ⟨-1, ?_, ?_⟩
    · simp only [slices_Index_int_int.l0]
      rw [if_neg (by omega)]
    · rw [List.drop_of_length_le (by omega)]
      simp
  | succ d ih =>
    intro i k hd hk
    obtain ⟨k, rfl⟩ : ∃ m, k = m + 1 := ⟨k - 1, by omega⟩
    have hi : i < l.length := by omega
    have hrd : rd l (i : Int) = l[i] := by simp [rd, hi]
    rw [List.drop_eq_getElem_cons hi]
    by_cases h : x = l[i]
    · refine ⟨i, ?_, ⟨fun _ => by rw [h]; exact List.mem_cons_self, fun _ => Int.natCast_nonneg _⟩⟩
      simp only [slices_Index_int_int.l0]
      rw [if_pos (by omega), if_pos (by omega), if_pos (by omega), hrd, if_pos h]
    · obtain ⟨r, hr, hm⟩ := ih (i + 1) k (by omega) (by omega)
      refine ⟨r, ?_, ?_⟩
      · simp only [slices_Index_int_int.l0]
        rw [if_pos (by omega), if_pos (by omega), if_pos (by omega), hrd, if_neg h, w64 (by omega) (by omega)]
        exact hr
      · rw [hm, List.mem_cons]
        constructor
        · exact .inr
        · rintro (rfl | h2)
          · exact absurd rfl h
          · exact h2
theorem contains_ev (l : List Int) (x : Int) (hl : l.length ≤ 1000) : Ev (fun k => slices_Contains_int_int.f k l x) (decide (x ∈ l)) := by
  obtain ⟨r, hr, hm⟩ := index_loop l x hl l.length 0 (l.length + 1) (by omega) (by omega)
  refine Ev.of (slices_Contains_int_int.mono l x) (k := l.length + 1) ?_
  unfold slices_Contains_int_int.f slices_Index_int_int.f
  rw [show (0 : Int) = ((0 : Nat) : Int) from rfl, hr]
  simp only [Option.bind_some, Option.some.injEq]
  exact decide_eq_decide.2 (by simpa using hm)
theorem placeL_len (p : Int) : (placeL p).length ≤ 17 := by
  unfold placeL
  repeat' split
  all_goals decide
theorem nought_is (id : Int) : prop_nought.f id = some (decide (id = 33 ∨ id = 35 ∨ id = 39 ∨ id = 11)) := by
  unfold prop_nought.f
  by_cases a : id = 33
  · simp [a]
  · by_cases b : id = 35
    · simp [b]
    · by_cases c : id = 39
      · simp [c]
      · simp only [a, b, c, if_false, false_or]
        rfl
end Go.Proofs.YtiancopplinpcaaDoor.P
end
section
namespace Go.Proofs.YtiancopplinpcaaDoor.P
open Go.RowKit Go.Proofs.YtiancopplinpcaaDoorW.PrintWords Go.Proofs.YtiancopplinpcaaDoorW.PrintLast Go.Proofs.YtiancopplinpcaaDoorW.PrintMore
set_option linter.unusedSimpArgs false
set_option linter.unusedVariables false
theorem bytesOf_app (a b : ByteArray) : bytesOf (a ++ b) = bytesOf a ++ bytesOf b := by simp [bytesOf]
theorem bytesOf_str {l : List Int} (h : ∀ c ∈ l, 0 ≤ c ∧ c < 256) : bytesOf (strOfNums l) = l := by
  simp only [bytesOf, strOfNums, List.map_map]
  conv => rhs; rw [← List.map_id l]
  refine List.map_congr_left fun c hc => ?_
  obtain ⟨h0, h1⟩ := h c hc
  simp only [Function.comp]
  rw [UInt8.toNat_ofNat_of_lt' (by show c.toNat < 256; omega)]
  simp; omega
theorem bytesOf_len (s : ByteArray) : (bytesOf s).length = s.size := bytesOf_length s
theorem vb_range (n : Nat) : ∀ c ∈ vb n, 0 ≤ c ∧ c < 256 := by
  induction n using Nat.strongRecOn with
  | _ n ih =>
    by_cases h : n < 128
    · rw [vb_small h]; intro c hc; simp at hc; omega
    · rw [vb_big (by omega)]
      intro c hc
      rcases List.mem_cons.1 hc with rfl | hc
      · omega
      · exact ih (n / 128) (by omega) c hc
theorem vb_len {d : Nat} : ∀ {n : Nat}, n < 128 ^ d → 0 < d → (vb n).length ≤ d := by
  induction d with
  | zero => intro n _ h; omega
  | succ d ih =>
    intro n hn _
    by_cases h : n < 128
    · rw [vb_small h]; simp
    · rw [vb_big (by omega), List.length_cons]
      have hd : 0 < d := by
        rcases Nat.eq_zero_or_pos d with rfl | hd
        · simp at hn; omega
        · exact hd
      have := ih (n := n / 128) (by rw [Nat.pow_succ] at hn; omega) hd
      omega
theorem bytesOf_num (n : Int) : bytesOf (numOf n) = vb n.toNat := bytesOf_str (vb_range _)
theorem numOf_size (n : Int) : (numOf n).size = (vb n.toNat).length := by rw [← bytesOf_len, bytesOf_num]
theorem bytesOf_two {n : Int} : bytesOf (two n) = [n / 256 % 256, n % 256] := bytesOf_str (by
  intro c hc
  simp only [List.mem_cons, List.not_mem_nil, or_false] at hc
  omega)
theorem two_size (n : Int) : (two n).size = 2 := by rw [← bytesOf_len, bytesOf_two]; rfl
theorem app_size (a b : ByteArray) : (a ++ b).size = a.size + b.size := by rw [← bytesOf_len, bytesOf_app, List.length_append, bytesOf_len, bytesOf_len]
theorem bin_ev (s : ByteArray) : Ev (fun k => vbi_Bin.f k s) (if (s.size : Int) > 1024 then ((⟨#[]⟩ : ByteArray), 2) else (two s.size ++ s, 0)) := by
  obtain ⟨K, h⟩ := two_ev (s.size : Int)
  refine ⟨K, fun k hk => ?_⟩
  dsimp only at h ⊢
  unfold vbi_Bin.f
  by_cases hs : (s.size : Int) > 1024
  · rw [if_pos hs, if_pos hs]
  · rw [if_neg hs, if_neg hs, h k hk, if_pos (by omega)]
    simp only [Option.bind_some]
    rw [if_pos (by rw [two_size]; omega)]
def tbin (s : ByteArray) : ByteArray × Int × Int :=
  if (s.size : Int) < 2 then ((⟨#[]⟩ : ByteArray), 0, 7) else if val2 s > 1024 then ((⟨#[]⟩ : ByteArray), 0, 2) else if (s.size : Int) - 2 < val2 s then ((⟨#[]⟩ : ByteArray), 0, 7) else (s.extract 2 (2 + val2 s).toNat, 2 + val2 s, 0)
end Go.Proofs.YtiancopplinpcaaDoor.P
end
section
namespace Go.Proofs.YtiancopplinpcaaDoor.P
open Go.RowKit Go.Proofs.YtiancopplinpcaaDoorW.PrintWords Go.Proofs.YtiancopplinpcaaDoorW.PrintLast Go.Proofs.YtiancopplinpcaaDoorW.PrintMore
set_option linter.unusedSimpArgs false
set_option linter.unusedVariables false
def longT (s : ByteArray) (text : Bool) : ByteArray × Int :=
  if text = true then (if checkT s = 0 then (two s.size ++ s, 0) else ((⟨#[]⟩ : ByteArray), checkT s)) else (if (s.size : Int) > 1024 then ((⟨#[]⟩ : ByteArray), 2) else (two s.size ++ s, 0))
def takeT (s : ByteArray) (text : Bool) : ByteArray × Int × Int :=
  if (tbin s).2.2 = 0 then (if text = true then (if checkT (tbin s).1 = 0 then tbin s else ((⟨#[]⟩ : ByteArray), 0, checkT (tbin s).1)) else tbin s) else tbin s
theorem check_small {s : ByteArray} (h : checkT s = 0) : ¬ (s.size : Int) > 1024 := by
  intro h2
  unfold checkT at h
  rw [if_pos (by omega)] at h
  cases h
theorem vtext_ev (s : ByteArray) : Ev (fun k => vbi_Text.f k s) (longT s true) := by
  obtain ⟨K, h⟩ := bin_ev s
  refine ⟨K, fun k hk => ?_⟩
  dsimp only at h ⊢
  unfold vbi_Text.f longT text_Check.f
  simp only [Option.bind_some, if_true]
  by_cases hc : checkT s = 0
  · rw [if_pos hc, if_pos hc, h k hk, if_neg (check_small hc)]
    rfl
  · rw [if_neg hc, if_neg hc]
end Go.Proofs.YtiancopplinpcaaDoor.P
end
section
namespace Go.Proofs.YtiancopplinpcaaDoor.P
open Go.RowKit Go.Proofs.YtiancopplinpcaaDoorW.PrintWords Go.Proofs.YtiancopplinpcaaDoorW.PrintLast Go.Proofs.YtiancopplinpcaaDoorW.PrintMore
set_option linter.unusedSimpArgs false
set_option linter.unusedVariables false
def mostK (k : Int) : Int := if k = 1 then 1 else if k = 2 then 65535 else if k = 3 then 4294967295 else 268435455
def okP (a n : Int) (s v : ByteArray) : Bool :=
  if kindOf a = 0 then false
  else if kindOf a ≤ 4 then decide (¬ ((a = 33 ∨ a = 35 ∨ a = 39 ∨ a = 11) ∧ n = 0) ∧ 0 ≤ n ∧ n ≤ mostK (kindOf a) ∧ s.toList = [] ∧ v.toList = [])
  else if kindOf a = 5 then decide (n = 0 ∧ v.toList = [] ∧ checkT s = 0)
  else if kindOf a = 6 then decide (n = 0 ∧ v.toList = [] ∧ (s.size : Int) ≤ 1024)
  else decide (n = 0 ∧ checkT s = 0 ∧ checkT v = 0)
theorem kind_cases (a : Int) : kindOf a = 0 ∨ kindOf a = 1 ∨ kindOf a = 2 ∨ kindOf a = 3 ∨ kindOf a = 4 ∨ kindOf a = 5 ∨ kindOf a = 6 ∨ kindOf a = 7 := by
  have := kindOf_range a
  omega
def againP (p a : Int) (l : List S42) : Bool := if a = 38 ∨ a = 11 ∧ p = 3 then false else l.any fun x => x.f0 == a
def valT (a n : Int) (s v : ByteArray) : AnyV × Bool :=
  if kindOf a < 5 ∧ s.toList = [] ∧ v.toList = [] then (AnyV.num n, decide (kindOf a > 0))
  else if n ≠ 0 ∨ kindOf a < 5 ∨ kindOf a ≠ 7 ∧ v.toList ≠ [] then (AnyV.no, false)
  else if kindOf a = 7 then (AnyV.two s v, true) else (AnyV.str s, true)
theorem value_ev (a n : Int) (s v : ByteArray) : Ev (fun k => prop_value.f k a n s v) (valT a n s v) := by
  obtain ⟨K0, h0⟩ := kind_ev a
  refine ⟨K0 + 3, fun k hk => ?_⟩
  obtain ⟨k, rfl⟩ : ∃ m, k = m + 2 := ⟨k - 2, by omega⟩
  have e0 := h0 (k + 2) (by omega)
  dsimp only at e0 ⊢
  have hc := kind_cases a
  unfold prop_value.f valT
  rw [e0]
  simp only [Option.bind_some]
  generalize kindOf a = kd at hc
  have e3 : (v.toList == ([] : List UInt8)) = decide (v.toList = []) := by
    by_cases h : v.toList = [] <;> simp [h]
  rcases hc with rfl | rfl | rfl | rfl | rfl | rfl | rfl | rfl <;> by_cases x1 : n = 0 <;> by_cases x2 : s.toList = [] <;> by_cases x3 : v.toList = [] <;> simp [prop_value.j0, prop_value.j1, x1, x2, x3]
def fitsP (p : Int) (l : List S42) (a n : Int) : Bool :=
  decide (a ∈ placeL p ∧ ¬ (kindOf a = 1 ∧ n > 1) ∧ ¬ ((a = 33 ∨ a = 35 ∨ a = 39 ∨ a = 11) ∧ n = 0)) && !againP p a l
theorem fits_ev (p : Int) (l : List S42) (a n : Int) (s v : ByteArray) : Ev (fun k => prop_fits.f k p l a n s v) (fitsP p l a n) := by
  obtain ⟨K0, h0⟩ := kind_ev a
  obtain ⟨K1, h1⟩ := stands_ev p
  obtain ⟨K2, h2⟩ := contains_ev (placeL p) a (by have := placeL_len p; omega)
  refine ⟨K0 + K1 + K2, fun k hk => ?_⟩
  have e0 := h0 k (by omega)
  have e1 := h1 k (by omega)
  have e2 := h2 k (by omega)
  dsimp only at e0 e1 e2 ⊢
  unfold prop_fits.f fitsP againP
  rw [e0, e1]
  simp only [Option.bind_some]
  rw [e2, nought_is]
  simp only [Option.bind_some]
  generalize kindOf a = kd
  by_cases x1 : a ∈ placeL p
  · by_cases x2 : kd = 1 ∧ n > 1
    · simp [x1, x2]
    · by_cases x3 : (a = 33 ∨ a = 35 ∨ a = 39 ∨ a = 11) ∧ n = 0
      · rw [if_pos (by simpa using x1), if_neg x2, if_pos (by simpa using x3)]
        simp [x3]
      · rw [if_pos (by simpa using x1), if_neg x2, if_neg (by simpa using x3), decide_eq_true ⟨x1, x2, x3⟩, Bool.true_and]
        by_cases x4 : a = 38
        · simp [x4]
        · by_cases x5 : a = 11 ∧ p = 3
          · simp [x4, x5]
          · rw [if_neg x4, if_neg x5, if_neg (by rintro (h | h); exact x4 h; exact x5 h)]
  · simp [x1]
def bodyP (a n : Int) (s v : ByteArray) : ByteArray :=
  if kindOf a = 1 then strOfNums [n % 256] else if kindOf a = 2 then two n else if kindOf a = 3 then four n else if kindOf a = 4 then numOf n
  else if kindOf a = 5 ∨ kindOf a = 6 then two s.size ++ s else (two s.size ++ s) ++ (two v.size ++ v)
theorem checkT_pos (s : ByteArray) : 0 ≤ checkT s := by
  unfold checkT
  split
  · omega
  · generalize s.size = f at *
    have : ∀ f p, 0 ≤ chk s f p := by
      intro f
      induction f with
      | zero => intro p; unfold chk; omega
      | succ f ih => intro p; unfold chk; repeat' split
                     all_goals first | omega | exact ih _
    exact this _ _
theorem laid_ev (a n : Int) (s v : ByteArray) (hv : (valT a n s v).2 = true) (hn : ¬ (kindOf a = 1 ∧ n > 1)) (h0 : ¬ ((a = 33 ∨ a = 35 ∨ a = 39 ∨ a = 11) ∧ n = 0)) :
    ∃ b e, Ev (fun k => prop_laid.f k (kindOf a) (valT a n s v).1) (b, e) ∧ (e = 0 ↔ okP a n s v = true) ∧ (e = 0 → b = bodyP a n s v) := by
  have hc := kind_cases a
  unfold valT at hv ⊢
  unfold okP bodyP
  generalize kindOf a = kd at hc hv hn ⊢
  by_cases x1 : kd < 5 ∧ s.toList = [] ∧ v.toList = []
  · rw [if_pos x1] at hv ⊢
    have hp : kd > 0 := by simpa using hv
    dsimp only
    rcases hc with rfl | rfl | rfl | rfl | rfl | rfl | rfl | rfl
    · omega
    · have hn1 : n ≤ 1 := by omega
      by_cases hz : n < 0
      · refine ⟨strOfNums [n % 256], 2, Ev.of (prop_laid.mono _ _) (k := 0) (by simp [prop_laid.f, prop_within.f, hz]), ?_, ?_⟩
        · simp [mostK, x1]; intros; omega
        · simp
      · refine ⟨strOfNums [n % 256], 0, Ev.of (prop_laid.mono _ _) (k := 0) (by simp [prop_laid.f, prop_within.f, hz, show ¬ n > 255 by omega]), ?_, ?_⟩
        · simp [mostK, x1, show 0 ≤ n by omega, show n ≤ 1 by omega]; omega
        · simp
    · have ⟨K, hK⟩ := two_ev n
      by_cases h : 0 ≤ n ∧ n ≤ 65535
      · rw [if_pos h] at hK
        refine ⟨_, _, ⟨K, fun k hk => by have := hK k hk; simpa [prop_laid.f] using this⟩, ?_, ?_⟩
        · simp [mostK, x1, h]; omega
        · simp
      · rw [if_neg h] at hK
        refine ⟨_, _, ⟨K, fun k hk => by have := hK k hk; simpa [prop_laid.f] using this⟩, ?_, ?_⟩
        · simp [mostK, x1]; intros; omega
        · simp
    · have ⟨K, hK⟩ := four_ev n
      by_cases h : 0 ≤ n ∧ n ≤ 4294967295
      · rw [if_pos h] at hK
        refine ⟨_, _, ⟨K, fun k hk => by have := hK k hk; simpa [prop_laid.f] using this⟩, ?_, ?_⟩
        · simp [mostK, x1, h]; omega
        · simp
      · rw [if_neg h] at hK
        refine ⟨_, _, ⟨K, fun k hk => by have := hK k hk; simpa [prop_laid.f] using this⟩, ?_, ?_⟩
        · simp [mostK, x1]; intros; omega
        · simp
    · by_cases h : 0 ≤ n ∧ n ≤ 268435455
      · have ⟨K, hK⟩ := num_ok h.1 h.2
        refine ⟨_, _, ⟨K, fun k hk => by have := hK k hk; simpa [prop_laid.f] using this⟩, ?_, ?_⟩
        · simp [mostK, x1, h]; omega
        · simp
      · have ⟨K, hK⟩ := num_no (n := n) (by omega)
        refine ⟨_, _, ⟨K, fun k hk => by have := hK k hk; simpa [prop_laid.f] using this⟩, ?_, ?_⟩
        · simp [mostK, x1]; intros; omega
        · simp
    · omega
    · omega
    · omega
  · rw [if_neg x1] at hv ⊢
    by_cases x2 : n ≠ 0 ∨ kd < 5 ∨ kd ≠ 7 ∧ v.toList ≠ []
    · rw [if_pos x2] at hv
      simp at hv
    · rw [if_neg x2] at hv ⊢
      have hn0 : n = 0 := by omega
      have t1 := vtext_ev s
      have t2 := vtext_ev v
      have b1 := bin_ev s
      unfold longT at t1 t2
      rw [if_pos rfl] at t1 t2
      rcases hc with rfl | rfl | rfl | rfl | rfl | rfl | rfl | rfl
      · omega
      · omega
      · omega
      · omega
      · omega
      · have hv0 : v.toList = [] := (show n = 0 ∧ v.toList = [] by simpa using x2).2
        have ⟨K, hK⟩ := t1
        by_cases h : checkT s = 0
        · rw [if_pos h] at hK
          exact ⟨_, _, ⟨K, fun k hk => by have := hK k hk; simpa [prop_laid.f] using this⟩, by simp [hn0, hv0, h], by simp⟩
        · rw [if_neg h] at hK
          exact ⟨_, _, ⟨K, fun k hk => by have := hK k hk; simpa [prop_laid.f] using this⟩, by simp [hn0, hv0, h], by simp [h]⟩
      · have hv0 : v.toList = [] := (show n = 0 ∧ v.toList = [] by simpa using x2).2
        have ⟨K, hK⟩ := b1
        by_cases h : (s.size : Int) > 1024
        · rw [if_pos h] at hK
          exact ⟨_, _, ⟨K, fun k hk => by have := hK k hk; simpa [prop_laid.f] using this⟩, by simp [hn0, hv0]; omega, by simp⟩
        · rw [if_neg h] at hK
          exact ⟨_, _, ⟨K, fun k hk => by have := hK k hk; simpa [prop_laid.f] using this⟩, by simp [hn0, hv0]; omega, by simp⟩
      · obtain ⟨K1, h1⟩ := t1
        obtain ⟨K2, h2⟩ := t2
        have p1 := checkT_pos s
        have p2 := checkT_pos v
        have z1 : (if checkT s = 0 then (two s.size ++ s, (0 : Int)) else ((⟨#[]⟩ : ByteArray), checkT s)).1.size ≤ 2000 := by
          split
          · rename_i h
            have := check_small h
            rw [app_size, two_size]; omega
          · exact Nat.zero_le _
        have z2 : (if checkT v = 0 then (two v.size ++ v, (0 : Int)) else ((⟨#[]⟩ : ByteArray), checkT v)).1.size ≤ 2000 := by
          split
          · rename_i h
            have := check_small h
            rw [app_size, two_size]; omega
          · exact Nat.zero_le _
        refine ⟨_, _, ⟨K1 + K2, fun k hk => by
          have a1 := h1 k (by omega)
          have a2 := h2 k (by omega)
          dsimp only at a1 a2 ⊢
          simp only [prop_laid.f, if_true]
          rw [if_neg (by omega), a1, a2]
          simp only [Option.bind_some]
          rw [if_pos (by omega)]⟩, ?_, ?_⟩
        · by_cases h : checkT s = 0 <;> by_cases h' : checkT v = 0 <;> simp [hn0, h, h', mx] <;> omega
        · by_cases h : checkT s = 0 <;> by_cases h' : checkT v = 0 <;> simp [h, h', mx] <;> omega
theorem value_no {a n : Int} {s v : ByteArray} (h : (valT a n s v).2 = false) : okP a n s v = false := by
  have hc := kind_cases a
  unfold valT at h
  unfold okP
  generalize kindOf a = kd at hc h ⊢
  by_cases x1 : kd < 5 ∧ s.toList = [] ∧ v.toList = []
  · rw [if_pos x1] at h
    have : ¬ kd > 0 := by simpa using h
    rw [if_pos (by omega)]
  · rw [if_neg x1] at h
    by_cases x2 : n ≠ 0 ∨ kd < 5 ∨ kd ≠ 7 ∧ v.toList ≠ []
    · rcases hc with rfl | rfl | rfl | rfl | rfl | rfl | rfl | rfl <;> simp at x1 x2 ⊢ <;> intros <;> first | (simp_all; done) | omega
    · rw [if_neg x2] at h
      by_cases x3 : kd = 7 <;> simp [x3] at h
def stepP (p : Int) (l : List S42) (a n : Int) (s v : ByteArray) : Bool := okP a n s v && decide (a ∈ placeL p) && !againP p a l
theorem nought_kind {a : Int} (h : a = 33 ∨ a = 35 ∨ a = 39 ∨ a = 11) : kindOf a = 2 ∨ kindOf a = 3 ∨ kindOf a = 4 := by
  rcases h with rfl | rfl | rfl | rfl <;> decide
theorem fits_no {p : Int} {l : List S42} {a n : Int} {s v : ByteArray} (h : fitsP p l a n = false) : stepP p l a n s v = false := by
  unfold fitsP at h
  unfold stepP
  by_cases x1 : a ∈ placeL p
  · by_cases x2 : kindOf a = 1 ∧ n > 1
    · have : okP a n s v = false := by
        unfold okP
        simp [x2.1, mostK]
        intros; omega
      rw [this]; rfl
    · by_cases x3 : (a = 33 ∨ a = 35 ∨ a = 39 ∨ a = 11) ∧ n = 0
      · have : okP a n s v = false := by
          unfold okP
          have hk := nought_kind x3.1
          rw [if_neg (by omega), if_pos (by omega)]
          exact decide_eq_false fun h => h.1 x3
        rw [this]; rfl
      · rw [decide_eq_true ⟨x1, x2, x3⟩, Bool.true_and] at h
        rw [h, Bool.and_false]
  · rw [decide_eq_false x1]; simp
theorem fits_yes {p : Int} {l : List S42} {a n : Int} {s v : ByteArray} (h : fitsP p l a n = true) : stepP p l a n s v = okP a n s v ∧ ¬ (kindOf a = 1 ∧ n > 1) ∧ ¬ ((a = 33 ∨ a = 35 ∨ a = 39 ∨ a = 11) ∧ n = 0) := by
  unfold fitsP at h
  rw [Bool.and_eq_true, decide_eq_true_eq] at h
  unfold stepP
  rw [decide_eq_true h.1.1, h.2, Bool.and_true, Bool.and_true]
  exact ⟨rfl, h.1.2⟩
theorem vb_len5 (n : Nat) (h : n ≤ 268435455) : (vb n).length ≤ 4 := vb_len (d := 4) (by omega) (by omega)
theorem str_size (l : List Int) : (strOfNums l).size = l.length := by simp [strOfNums, ByteArray.size]
theorem body_size {a n : Int} {s v : ByteArray} (h : okP a n s v = true) : (bodyP a n s v).size ≤ 2100 := by
  have hc := kind_cases a
  unfold okP at h
  unfold bodyP
  generalize kindOf a = kd at hc h ⊢
  rcases hc with rfl | rfl | rfl | rfl | rfl | rfl | rfl | rfl
  · simp at h
  · simp [str_size]
  · simp [two_size]
  · simp [four, str_size]
  · simp [mostK] at h
    simp [numOf_size]
    have := vb_len5 n.toNat (by omega)
    omega
  · simp at h
    have := check_small h.2.2
    simp [app_size, two_size]; omega
  · simp at h
    simp [app_size, two_size]; omega
  · simp at h
    have := check_small h.2.1
    have := check_small h.2.2
    simp [app_size, two_size]; omega
def oneP (x : S42) : ByteArray := strOfNums [x.f0 % 256] ++ bodyP x.f0 x.f1 x.f2 x.f3
def allP (p : Int) : List S42 → List S42 → Bool
  | _, [] => true
  | pre, x :: r => stepP p pre x.f0 x.f1 x.f2 x.f3 && allP p (pre ++ [x]) r
def bytesP (l : List S42) : ByteArray := l.foldl (fun a x => a ++ oneP x) (⟨#[]⟩ : ByteArray)
theorem rd_pre (pre r : List S42) (x : S42) : rd_T42 (pre ++ x :: r) (pre.length : Int) = x := by simp [rd_T42]
theorem take_pre (pre r : List S42) : (pre ++ r).take (pre.length : Int).toNat = pre := by simp
def layR (p : Int) : List S42 → List S42 → ByteArray → ByteArray × Bool
  | _, [], acc => (acc, true)
  | pre, x :: r, acc => if stepP p pre x.f0 x.f1 x.f2 x.f3 = true then layR p (pre ++ [x]) r (acc ++ oneP x) else ((⟨#[]⟩ : ByteArray), false)
theorem lay_loop (p : Int) (r : List S42) : ∀ (pre : List S42) (acc : ByteArray), (pre ++ r).length ≤ 100000 → acc.size ≤ 3000 * pre.length →
    Ev (fun k => prop_lay.l0 k p (pre ++ r) acc (pre ++ r) ((pre ++ r).length : Int) (pre.length : Int)) (layR p pre r acc) := by
  induction r with
  | nil =>
    intro pre acc hl ha
    refine ⟨1, fun k hk => ?_⟩
    obtain ⟨k, rfl⟩ : ∃ m, k = m + 1 := ⟨k - 1, by omega⟩
    dsimp only
    simp only [prop_lay.l0, List.append_nil]
    rw [if_neg (by omega)]
    rfl
  | cons x r ih =>
    intro pre acc hl ha
    have hL : (pre ++ x :: r).length = pre.length + 1 + r.length := by simp; omega
    obtain ⟨K0, h0⟩ := value_ev x.f0 x.f1 x.f2 x.f3
    obtain ⟨K1, h1⟩ := fits_ev p pre x.f0 x.f1 x.f2 x.f3
    obtain ⟨K2, h2⟩ := kind_ev x.f0
    have main : ∃ K, ∀ k, K ≤ k → prop_lay.l0 (k + 2) p (pre ++ x :: r) acc (pre ++ x :: r) ((pre ++ x :: r).length : Int) (pre.length : Int) = some (layR p pre (x :: r) acc) := by
      unfold layR
      cases hv : (valT x.f0 x.f1 x.f2 x.f3).2 with
      | false =>
        refine ⟨K0 + K1 + K2, fun k hk => ?_⟩
        have e0 := h0 (k + 1) (by omega)
        dsimp only at e0
        simp only [prop_lay.l0, rd_pre]
        rw [if_pos (by omega), if_pos (by omega), if_pos (by omega), e0]
        simp only [Option.bind_some]
        rw [if_neg (by rw [hv]; simp)]
        have : stepP p pre x.f0 x.f1 x.f2 x.f3 = false := by unfold stepP; rw [value_no hv]; rfl
        rw [this]
        simp [prop_lay.j2]
      | true =>
        cases hf : fitsP p pre x.f0 x.f1 with
        | false =>
          refine ⟨K0 + K1 + K2, fun k hk => ?_⟩
          have e0 := h0 (k + 1) (by omega)
          have e1 := h1 (k + 1) (by omega)
          dsimp only at e0 e1
          simp only [prop_lay.l0, rd_pre, take_pre]
          rw [if_pos (by omega), if_pos (by omega), if_pos (by omega), e0]
          simp only [Option.bind_some]
          rw [if_pos hv, if_pos (by omega), e1, fits_no hf]
          simp only [Option.bind_some]
          simp [prop_lay.j2, hf]
        | true =>
          obtain ⟨hs, hn, hz⟩ := fits_yes (s := x.f2) (v := x.f3) hf
          obtain ⟨b, e, ⟨K3, h3⟩, hok, hb⟩ := laid_ev x.f0 x.f1 x.f2 x.f3 hv hn hz
          rw [hs]
          by_cases he : e = 0
          · have ok := hok.1 he
            have bs := body_size ok
            have sz : (acc ++ oneP x).size ≤ 3000 * (pre ++ [x]).length := by
              simp only [oneP, app_size, str_size, List.length_append, List.length_singleton]
              omega
            obtain ⟨K4, h4⟩ := ih (pre ++ [x]) (acc ++ oneP x) (by simpa using hl) sz
            refine ⟨K0 + K1 + K2 + K3 + K4, fun k hk => ?_⟩
            have e0 := h0 (k + 1) (by omega)
            have e1 := h1 (k + 1) (by omega)
            have e2 := h2 k (by omega)
            have e3 := h3 k (by omega)
            have e4 := h4 k (by omega)
            dsimp only at e0 e1 e2 e3 e4
            simp only [prop_lay.l0, rd_pre, take_pre]
            rw [if_pos (by omega), if_pos (by omega), if_pos (by omega), e0]
            simp only [Option.bind_some]
            rw [if_pos hv, if_pos (by omega), e1, hf]
            simp only [Option.bind_some]
            simp only [prop_lay.j2, Bool.not_true, Bool.false_eq_true, if_false]
            rw [e2]
            simp only [Option.bind_some]
            rw [e3]
            simp only [Option.bind_some]
            rw [if_pos he, hb he]
            have s1 : (strOfNums [x.f0 % 256]).size = 1 := str_size _
            have s2 : (acc ++ (strOfNums [x.f0 % 256] ++ bodyP x.f0 x.f1 x.f2 x.f3)).size ≤ 3000 * (pre ++ [x]).length := sz
            rw [app_size] at s2
            simp only [List.length_append, List.length_singleton] at s2
            rw [if_pos (by omega), if_pos (by omega), if_pos ok]
            simp only [List.append_assoc, List.singleton_append, List.length_append, List.length_singleton] at e4
            rw [w64 (by omega) (by omega), show ((pre.length : Int) + 1) = ((pre.length + 1 : Nat) : Int) by omega]
            simpa [oneP] using e4
          · have ok : okP x.f0 x.f1 x.f2 x.f3 = false := by
              cases h : okP x.f0 x.f1 x.f2 x.f3 with
              | false => rfl
              | true => exact absurd (hok.2 h) he
            refine ⟨K0 + K1 + K2 + K3, fun k hk => ?_⟩
            have e0 := h0 (k + 1) (by omega)
            have e1 := h1 (k + 1) (by omega)
            have e2 := h2 k (by omega)
            have e3 := h3 k (by omega)
            dsimp only at e0 e1 e2 e3
            simp only [prop_lay.l0, rd_pre, take_pre]
            rw [if_pos (by omega), if_pos (by omega), if_pos (by omega), e0]
            simp only [Option.bind_some]
            rw [if_pos hv, if_pos (by omega), e1, hf]
            simp only [Option.bind_some]
            simp only [prop_lay.j2, Bool.not_true, Bool.false_eq_true, if_false]
            rw [e2]
            simp only [Option.bind_some]
            rw [e3]
            simp only [Option.bind_some]
            rw [if_neg he, ok, if_neg (by simp)]
    obtain ⟨K, h⟩ := main
    refine ⟨K + 2, fun k hk => ?_⟩
    obtain ⟨k, rfl⟩ : ∃ m, k = m + 2 := ⟨k - 2, by omega⟩
    exact h k (by omega)
theorem layR_is (p : Int) (r : List S42) : ∀ (pre : List S42) (acc : ByteArray), layR p pre r acc = if allP p pre r = true then (r.foldl (fun a x => a ++ oneP x) acc, true) else ((⟨#[]⟩ : ByteArray), false) := by
  induction r with
  | nil => intro pre acc; rfl
  | cons x r ih =>
    intro pre acc
    unfold layR allP
    rw [ih]
    cases stepP p pre x.f0 x.f1 x.f2 x.f3 with
    | false => rfl
    | true => rfl
def propsP (p : Int) (l : List S42) : Bool := decide (0 ≤ p ∧ p ≤ 15) && decide (l.length ≤ 8) && allP p [] l
theorem lay_ev (p : Int) (l : List S42) (hl : l.length ≤ 100000) : Ev (fun k => prop_lay.f k p l) (if propsP p l = true then (bytesP l, true) else ((⟨#[]⟩ : ByteArray), false)) := by
  obtain ⟨K0, h0⟩ := stands_ev p
  obtain ⟨K1, h1⟩ := lay_loop p l [] (⟨#[]⟩ : ByteArray) (by simpa using hl) (Nat.zero_le _)
  refine ⟨K0 + K1 + 1, fun k hk => ?_⟩
  obtain ⟨k, rfl⟩ : ∃ m, k = m + 1 := ⟨k - 1, by omega⟩
  have e0 := h0 (k + 1) (by omega)
  have e1 := h1 k (by omega)
  dsimp only at e0 e1 ⊢
  rw [layR_is] at e1
  simp only [List.nil_append, List.length_nil] at e1
  unfold prop_lay.f propsP
  rw [e0]
  simp only [Option.bind_some]
  by_cases x1 : 0 ≤ p ∧ p ≤ 15
  · by_cases x2 : l.length ≤ 8
    · rw [decide_eq_true x1, decide_eq_true x2, if_pos rfl, decide_eq_false (by omega), Bool.true_and, Bool.true_and]
      simp only [prop_lay.j0, Bool.false_eq_true, if_false]
      exact e1
    · rw [decide_eq_true x1, decide_eq_false x2, if_pos rfl, decide_eq_true (by omega)]
      simp [prop_lay.j0]
  · rw [decide_eq_false x1]
    simp [prop_lay.j0]
theorem check_ev (p : Int) (l : List S42) (hl : l.length ≤ 100000) : Ev (fun k => prop_Check.f k p l) (if propsP p l = true then 0 else 1) := by
  obtain ⟨K0, h0⟩ := lay_ev p l hl
  refine ⟨K0, fun k hk => ?_⟩
  have e0 := h0 k hk
  dsimp only at e0 ⊢
  unfold prop_Check.f
  rw [e0]
  cases propsP p l <;> rfl
end Go.Proofs.YtiancopplinpcaaDoor.P
end
