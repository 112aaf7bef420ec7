/- The walk of prop.laid: a value's bytes, by its kind. -/
import Derived.Test.YtiancopplinpcaaDoorPx4
import Derived.Test.YtiancopplinpcaaDoorPx5
import Derived.Test.YtiancopplinpcaaDoorPx7
import Derived.Test.YtiancopplinpcaaDoorXUtf8
import Derived.RegionTactic
import Derived.ChangeAlike
import Derived.RegionCalls
namespace Go.Proofs.YtiancopplinpcaaDoor.P
open Go.RowKit Go.Proofs.YtiancopplinpcaaDoorW.PrintWords Go.Proofs.YtiancopplinpcaaDoorW.PrintLast Go.Proofs.YtiancopplinpcaaDoorW.PrintMore
set_option linter.unusedSimpArgs false
set_option linter.unusedVariables false
attribute [local go_sem] max2_int min2_int max_two min_two
theorem bcell {W w1 : World} (hb : Below W.heap.size W w1) : ∀ b o, b < W.heap.size → w1.cell? ⟨b, o, none⟩ = W.cell? ⟨b, o, none⟩ := fun b o h => hb.cell (p := ⟨b, o, none⟩) h
theorem conv1 (w W : World) (n : Int) (hW : W.heap = (w.alloc (.cells #[.int .u8 (IntKind.u8.wrap n)] 5)).heap) : (convert 58 9 (.slice (some ⟨w.heap.size, 0, none⟩) 1 1)).run Tryd.prog W = .ok (.string (strOfNums [n % 256])) W := by
  refine string_of_reads Tryd.underlying58 Tryd.underlying5 Tryd.underlying9 ⟨rfl, by decide, fun _ => ⟨_, rfl, fun j hj => ?_⟩⟩
  obtain rfl : j = 0 := by omega
  rw [add_plain]
  have h0 := heap_alloc_new w (.cells #[.int .u8 (IntKind.u8.wrap n)] 5)
  rw [← hW] at h0
  have h1 := blk_cell h0 0
  rw [h1, IntKind.wrap_u8]
  rfl
def prop_laid.f (k : Nat) (a0 : Int) (a1 : AnyV) : Option (ByteArray × Int) := match a1 with
  | .num n => if a0 = 1 then (prop_within.f n 255).bind fun e => some (strOfNums [n % 256], e) else if a0 = 2 then vbi_Two.f k n else if a0 = 3 then vbi_Four.f k n else if a0 = 4 then vbi_Num.f k n else none
  | .str s => if a0 = 6 then vbi_Bin.f k s else if a0 = 5 then vbi_Text.f k s else none
  | .two a b => if 1 ≤ a0 ∧ a0 ≤ 6 then none else (vbi_Text.f k a).bind fun x => (vbi_Text.f k b).bind fun y => if x.1.size + y.1.size ≤ 9223372036854775807 then some (x.1 ++ y.1, mx x.2 y.2) else none
  | .no => none
theorem prop_laid.mono : ∀ a0 a1 k, LeO (prop_laid.f k a0 a1) (prop_laid.f (k + 1) a0 a1) := by
  intro a0 a1 k
  unfold prop_laid.f
  cases a1 with
  | no => exact LeO.none _
  | num n => exact LeO.ite (LeO.refl _) (LeO.ite (vbi_Two.mono _ _) (LeO.ite (vbi_Four.mono _ _) (LeO.ite (vbi_Num.mono _ _) (LeO.none _))))
  | str s => exact LeO.ite (vbi_Bin.mono _ _) (LeO.ite (vbi_Text.mono _ _) (LeO.none _))
  | two a b => exact LeO.ite (LeO.none _) (LeO.bind (vbi_Text.mono _ _) (fun _ => LeO.bind (vbi_Text.mono _ _) (fun _ => LeO.refl _)))
set_option maxHeartbeats 4000000 in
set_option maxRecDepth 100000 in
theorem prop_laid.two (k : Nat) (n : Int) (r1 : ByteArray) (r2 : Int) (w : World) (HLAID : Laid w) (h : vbi_Two.f k n = some (r1, r2)) :
    Calls Tryd.prog 42 #[.int .i64 2, .iface 3 (.int .i64 n)] w fun e w' => e = .returned (.tuple #[.string r1, .int .i64 r2]) ∧ Below w.heap.size w w' := by
  have t1 : ∀ W, (Instr.typeAssert (.iface 3 (.int .i64 n)) 20 3 false).run Tryd.prog W = .ok (.int .i64 n) W := fun W => by rfl
  go_enter Tryd.func42, Tryd.ntmps42
  go_wp2_with (go_at_call 56; (with_reducible refine (vbi_Two.calls k n r1 r2 _ h).mono ?_); rintro e w1 ⟨rfl, hb⟩)
  go_ret2
  exact ⟨rfl, hb⟩
set_option maxHeartbeats 4000000 in
set_option maxRecDepth 100000 in
theorem prop_laid.four (k : Nat) (n : Int) (r1 : ByteArray) (r2 : Int) (w : World) (HLAID : Laid w) (h : vbi_Four.f k n = some (r1, r2)) :
    Calls Tryd.prog 42 #[.int .i64 3, .iface 3 (.int .i64 n)] w fun e w' => e = .returned (.tuple #[.string r1, .int .i64 r2]) ∧ Below w.heap.size w w' := by
  have t1 : ∀ W, (Instr.typeAssert (.iface 3 (.int .i64 n)) 20 3 false).run Tryd.prog W = .ok (.int .i64 n) W := fun W => by rfl
  go_enter Tryd.func42, Tryd.ntmps42
  go_wp2_with (go_at_call 57; (with_reducible refine (vbi_Four.calls k n r1 r2 _ h).mono ?_); rintro e w1 ⟨rfl, hb⟩)
  go_ret2
  exact ⟨rfl, hb⟩
set_option maxHeartbeats 4000000 in
set_option maxRecDepth 100000 in
theorem prop_laid.numb (k : Nat) (n : Int) (r1 : ByteArray) (r2 : Int) (w : World) (HLAID : Laid w) (h : vbi_Num.f k n = some (r1, r2)) :
    Calls Tryd.prog 42 #[.int .i64 4, .iface 3 (.int .i64 n)] w fun e w' => e = .returned (.tuple #[.string r1, .int .i64 r2]) ∧ Below w.heap.size w w' := by
  have t1 : ∀ W, (Instr.typeAssert (.iface 3 (.int .i64 n)) 20 3 false).run Tryd.prog W = .ok (.int .i64 n) W := fun W => by rfl
  go_enter Tryd.func42, Tryd.ntmps42
  go_wp2_with (go_at_call 29; (with_reducible refine (vbi_Num.calls k n r1 r2 _ h).mono ?_); rintro e w1 ⟨rfl, hb⟩)
  go_ret2
  exact ⟨rfl, hb⟩
set_option maxHeartbeats 4000000 in
set_option maxRecDepth 100000 in
theorem prop_laid.bin (k : Nat) (s : ByteArray) (r1 : ByteArray) (r2 : Int) (w : World) (HLAID : Laid w) (h : vbi_Bin.f k s = some (r1, r2)) :
    Calls Tryd.prog 42 #[.int .i64 6, .iface 9 (.string s)] w fun e w' => e = .returned (.tuple #[.string r1, .int .i64 r2]) ∧ Below w.heap.size w w' := by
  have t1 : ∀ W, (Instr.typeAssert (.iface 9 (.string s)) 20 9 false).run Tryd.prog W = .ok (.string s) W := fun W => by rfl
  go_enter Tryd.func42, Tryd.ntmps42
  go_wp2_with (go_at_call 58; (with_reducible refine (vbi_Bin.calls k s r1 r2 _ h).mono ?_); rintro e w1 ⟨rfl, hb⟩)
  go_ret2
  exact ⟨rfl, hb⟩
set_option maxHeartbeats 4000000 in
set_option maxRecDepth 100000 in
theorem prop_laid.text (k : Nat) (s : ByteArray) (r1 : ByteArray) (r2 : Int) (w : World) (HLAID : Laid w) (h : vbi_Text.f k s = some (r1, r2)) :
    Calls Tryd.prog 42 #[.int .i64 5, .iface 9 (.string s)] w fun e w' => e = .returned (.tuple #[.string r1, .int .i64 r2]) ∧ Below w.heap.size w w' := by
  have t1 : ∀ W, (Instr.typeAssert (.iface 9 (.string s)) 20 9 false).run Tryd.prog W = .ok (.string s) W := fun W => by rfl
  go_enter Tryd.func42, Tryd.ntmps42
  go_wp2_with (go_at_call 59; (with_reducible refine (vbi_Text.calls k s r1 r2 _ HLAID h).mono ?_); rintro e w1 ⟨rfl, hb⟩)
  go_ret2
  exact ⟨rfl, hb⟩
set_option maxHeartbeats 4000000 in
set_option maxRecDepth 100000 in
theorem prop_laid.flag (k : Nat) (n : Int) (r1 : ByteArray) (r2 : Int) (w : World) (HLAID : Laid w) (h : prop_within.f n 255 = some r2 ∧ r1 = strOfNums [n % 256]) :
    Calls Tryd.prog 42 #[.int .i64 1, .iface 3 (.int .i64 n)] w fun e w' => e = .returned (.tuple #[.string r1, .int .i64 r2]) ∧ Below w.heap.size w w' := by
  obtain ⟨h, rfl⟩ := h
  have t1 : ∀ W, (Instr.typeAssert (.iface 3 (.int .i64 n)) 20 3 false).run Tryd.prog W = .ok (.int .i64 n) W := fun W => by rfl
  go_enter Tryd.func42, Tryd.ntmps42
  go_wp2
  have hcv : ∀ W : World, W.heap = (w.alloc (.cells #[.int .u8 (IntKind.u8.wrap n)] 5)).heap → (convert 58 9 (.slice (some ⟨w.heap.size, 0, none⟩) 1 1)).run Tryd.prog W = .ok (.string (strOfNums [n % 256])) W := fun W hW => conv1 w W n hW
  have hcv1 := hcv ((w.alloc (.cells #[.int .u8 (IntKind.u8.wrap n)] 5)).drew) rfl
  have hcv2 := fun m => hcv ((w.alloc (.cells #[.int .u8 (IntKind.u8.wrap n)] 5)).drew.drewN m) rfl
  have hcv3 := fun m => hcv (((w.drew.drewN m).alloc (.cells #[.int .u8 (IntKind.u8.wrap n)] 5))) rfl
  have hcv4 := fun m => hcv (((w.alloc (.cells #[.int .u8 (IntKind.u8.wrap n)] 5)).drewN m)) rfl
  have hcv5 := fun m => hcv (((w.drewN m).alloc (.cells #[.int .u8 (IntKind.u8.wrap n)] 5))) rfl
  clear hcv
  go_region_with (go_at_call 55; (with_reducible refine (prop_within.calls n 255 r2 _ h).mono ?_); rintro e w' ⟨rfl, ⟨nd, rfl⟩⟩)
  all_goals go_wp2
  all_goals go_ret2
  all_goals exact ⟨rfl, by repeat (first | exact Below.refl _ _ | apply below_drew1 | apply pw_below_drewN | apply below_alloc)⟩
set_option maxHeartbeats 4000000 in
set_option maxRecDepth 100000 in
theorem prop_laid.both (k : Nat) (a b s1 s2 : ByteArray) (e1 e2 : Int) (a0 : Int) (r1 : ByteArray) (r2 : Int) (w : World) (HLAID : Laid w) (h : vbi_Text.f k a = some (s1, e1) ∧ vbi_Text.f k b = some (s2, e2) ∧ s1.size + s2.size ≤ 9223372036854775807 ∧ r1 = s1 ++ s2 ∧ r2 = mx e1 e2 ∧ ¬ (1 ≤ a0 ∧ a0 ≤ 6)) :
    Calls Tryd.prog 42 #[.int .i64 a0, .iface 87 (.agg #[.string a, .string b])] w fun e w' => e = .returned (.tuple #[.string r1, .int .i64 r2]) ∧ Below w.heap.size w w' := by
  obtain ⟨h1, h2, h3, rfl, rfl, h4⟩ := h
  have b1 : ((a0 : Int) == 1) = false := by simp; omega
  have b2 : ((a0 : Int) == 2) = false := by simp; omega
  have b3 : ((a0 : Int) == 3) = false := by simp; omega
  have b4 : ((a0 : Int) == 4) = false := by simp; omega
  have b5 : ((a0 : Int) == 5) = false := by simp; omega
  have b6 : ((a0 : Int) == 6) = false := by simp; omega
  clear h4
  have t3 : ∀ W, (Instr.typeAssert (.iface 87 (.agg #[.string a, .string b])) 20 87 false).run Tryd.prog W = .ok (.agg #[.string a, .string b]) W := fun W => by rfl
  have hsz : decide (s1.size + s2.size ≤ 9223372036854775807) = true := by simpa using h3
  have H1 := Aside0.mk h1
  have H2 := Aside0.mk h2
  clear h1 h2
  have HB := Aside0.mk (Below.refl w.heap.size w)
  by_cases hlt : e1 < e2
  all_goals
   go_enter Tryd.func42, Tryd.ntmps42
   go_wp2_with (first
    | (go_at_call 59; (with_reducible refine (vbi_Text.calls k a s1 e1 _ ?hl H1.out).mono ?_); (case hl => exact HLAID.below (by repeat (first | (with_reducible first | exact HB.out | apply below_alloc | apply pw_below_drewN | apply below_drew1) | exact HB.out | (refine Below.setCell ?_ (by simp <;> omega) _) | (refine Below.setCells ?_ (by simp <;> omega) _ _)))); rintro e w1 ⟨rfl, hb1⟩; have hc1 := bcell hb1; have n0_ := Aside0.mk (below_step (by repeat (first | (with_reducible first | exact HB.out | apply below_alloc | apply pw_below_drewN | apply below_drew1) | exact HB.out | (refine Below.setCell ?_ (by simp <;> omega) _) | (refine Below.setCells ?_ (by simp <;> omega) _ _))) hb1); clear HB; have HB := n0_; clear n0_)
    | (go_at_call 59; (with_reducible refine (vbi_Text.calls k b s2 e2 _ ?hl H2.out).mono ?_); (case hl => exact HLAID.below (by repeat (first | (with_reducible first | exact HB.out | apply below_alloc | apply pw_below_drewN | apply below_drew1) | exact HB.out | (refine Below.setCell ?_ (by simp <;> omega) _) | (refine Below.setCells ?_ (by simp <;> omega) _ _)))); rintro e w2 ⟨rfl, hb2⟩; have n0_ := Aside0.mk (below_step (by repeat (first | (with_reducible first | exact HB.out | apply below_alloc | apply pw_below_drewN | apply below_drew1) | exact HB.out | (refine Below.setCell ?_ (by simp <;> omega) _) | (refine Below.setCells ?_ (by simp <;> omega) _ _))) hb2); clear HB; have HB := n0_; clear n0_))
   go_ret2
   exact ⟨by first | (rw [show mx e1 e2 = e2 from if_pos hlt]; rfl) | (rw [show mx e1 e2 = e1 from if_neg (by omega)]; rfl), by repeat (first | (with_reducible first | exact HB.out | apply below_alloc | apply pw_below_drewN | apply below_drew1) | exact HB.out | (refine Below.setCell ?_ (by simp <;> omega) _) | (refine Below.setCells ?_ (by simp <;> omega) _ _))⟩
theorem prop_laid.calls (k : Nat) (a0 : Int) (a1 : AnyV) (r1 : ByteArray) (r2 : Int) (w : World) (HLAID : Laid w) (h : prop_laid.f k a0 a1 = some (r1, r2)) :
    Calls Tryd.prog 42 #[.int .i64 a0, anyW a1] w fun e w' => e = .returned (.tuple #[.string r1, .int .i64 r2]) ∧ Below w.heap.size w w' := by
  cases a1 with
  | no => cases h
  | num n =>
    simp only [prop_laid.f] at h
    by_cases c1 : a0 = 1
    · subst c1
      rw [if_pos rfl] at h
      obtain ⟨e, he, h⟩ := Option.bind_eq_some_iff.1 h
      simp only [Option.some.injEq, Prod.mk.injEq] at h
      obtain ⟨rfl, rfl⟩ := h
      exact prop_laid.flag k n _ e w HLAID ⟨he, rfl⟩
    · rw [if_neg c1] at h
      by_cases c2 : a0 = 2
      · subst c2
        exact prop_laid.two k n r1 r2 w HLAID h
      · rw [if_neg c2] at h
        by_cases c3 : a0 = 3
        · subst c3
          exact prop_laid.four k n r1 r2 w HLAID h
        · rw [if_neg c3] at h
          by_cases c4 : a0 = 4
          · subst c4
            exact prop_laid.numb k n r1 r2 w HLAID h
          · rw [if_neg c4] at h
            cases h
  | str s =>
    simp only [prop_laid.f] at h
    by_cases c6 : a0 = 6
    · subst c6
      exact prop_laid.bin k s r1 r2 w HLAID h
    · rw [if_neg c6] at h
      by_cases c5 : a0 = 5
      · subst c5
        exact prop_laid.text k s r1 r2 w HLAID h
      · rw [if_neg c5] at h
        cases h
  | two a b =>
    simp only [prop_laid.f] at h
    by_cases c : 1 ≤ a0 ∧ a0 ≤ 6
    · rw [if_pos c] at h
      cases h
    · rw [if_neg c] at h
      obtain ⟨⟨s1, e1⟩, h1, h⟩ := Option.bind_eq_some_iff.1 h
      obtain ⟨⟨s2, e2⟩, h2, h⟩ := Option.bind_eq_some_iff.1 h
      by_cases hs : s1.size + s2.size ≤ 9223372036854775807
      · simp only [if_pos hs, Option.some.injEq, Prod.mk.injEq] at h
        obtain ⟨rfl, rfl⟩ := h
        exact prop_laid.both k a b s1 s2 e1 e2 a0 _ _ w HLAID ⟨h1, h2, hs, rfl, rfl, c⟩
      · simp only [if_neg hs] at h
        cases h
end Go.Proofs.YtiancopplinpcaaDoor.P
