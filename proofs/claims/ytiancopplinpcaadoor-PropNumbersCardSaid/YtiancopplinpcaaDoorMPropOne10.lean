/- The statement PropNumbers, PropTexts, PropPairs: for every input the law answers true, and its argument reads behind the call as it did (part 11 of 14 of the proof). -/
import Derived.Test.YtiancopplinpcaaDoorMPropOne9
section
theorem zz27 {p : Prop} (h : p := by (with_reducible repeat (first | refine blk_drewN ?_ _ | refine blk_drew ?_ | refine blk_alloc ?_ _)); exact BK405.out) : p := h
theorem zz13 {p : Prop} (h : p := by repeat (first | (with_reducible first | exact HB.out | apply below_alloc | apply pw_below_drewN | apply below_drew1 | refine below_set ?_ GE405.out) | exact HB.out)) : p := h
theorem zz4 {p : Prop} (h : p := by repeat (first | (with_reducible first | exact HB.out | apply below_alloc | apply pw_below_drewN | apply below_drew1 | refine below_set ?_ GE405.out | refine below_set ?_ GE406.out) | exact HB.out)) : p := h
theorem zz28 {p : Prop} (h : p := by (with_reducible repeat (first | refine blk_drewN ?_ _ | refine blk_drew ?_ | refine blk_alloc ?_ _)); exact BK406.out) : p := h
theorem zz18 {p : Prop} (h : p := by rw [← hq_]; exact (by (with_reducible repeat (first | refine blk_drewN ?_ _ | refine blk_drew ?_ | refine blk_alloc ?_ _)); exact BK405.out)) : p := h
theorem zz19 {p : Prop} (h : p := by rw [← hq_]; exact (by (with_reducible repeat (first | refine blk_drewN ?_ _ | refine blk_drew ?_ | refine blk_alloc ?_ _)); exact BK406.out)) : p := h
theorem zz3 {p : Prop} (h : p := by rw [← hq_]; exact (by repeat (first | (with_reducible first | exact HB.out | apply below_alloc | apply pw_below_drewN | apply below_drew1 | refine below_set ?_ GE405.out | refine below_set ?_ GE406.out) | exact HB.out))) : p := h
theorem zz34 {p : Prop} (h : p := by (with_reducible repeat (first | apply Kd.R_alloc | apply Kd.R_drewN | apply Kd.R_drew)); exact HO_11.out) : p := h
theorem zz0 {p : Prop} (h : p := by (with_reducible repeat (first | apply Kd.R_alloc | apply Kd.R_drewN | apply Kd.R_drew)); exact (Kd.R_mono (Kd.R_far (p := ⟨gb436, 3, none⟩) (Kd.R_far (p := ⟨gb436, 2, none⟩) (Kd.R_far (p := ⟨gb436, 1, none⟩) (Kd.R_far (p := ⟨gb436, 0, none⟩) (Kd.R_mono HO_11.out (fun k_ hk => (⟨hk, hk.2⟩ : _ ∧ k_ ≠ gb436))) (fun _ hk => hk.2) (.int .i64 t430)) (fun _ hk => hk.2) (.int .i64 t431)) (fun _ hk => hk.2) (.string t432)) (fun _ hk => hk.2) (.string t433)) (fun _ h_ => h_.1))) : p := h
theorem zz14 {p : Prop} (h : p := by repeat (first | (with_reducible first | exact HB.out | apply below_alloc | apply pw_below_drewN | apply below_drew1 | refine below_set ?_ GE436.out) | exact HB.out)) : p := h
theorem zz29 {p : Prop} (h : p := by (with_reducible repeat (first | refine blk_drewN ?_ _ | refine blk_drew ?_ | refine blk_alloc ?_ _)); exact BK436.out) : p := h
namespace Go.Proofs.YtiancopplinpcaaDoor.P
open Go.RowKit Go.Proofs.YtiancopplinpcaaDoorW.PrintWords Go.Proofs.YtiancopplinpcaaDoorW.PrintLast Go.Proofs.YtiancopplinpcaaDoorW.PrintMore
attribute [local go_sem] max2_int min2_int max_two min_two max_three min_three max_four min_four
set_option linter.unusedVariables false
set_option linter.unusedSimpArgs false
def fairwayref1_TakeLong.f (k : Nat) (a0 : ByteArray) (a1 : Bool) : Option (ByteArray × Int × Int) := (fairwayref1_TakeFixed.f k a0 2).bind fun bt402 => (if bt402.2 = true then (if bt402.1 > 1024 then (some ((⟨#[]⟩ : ByteArray), 0, 2)) else (if (wrap64 ((a0.size : Int) - 2)) < bt402.1 then (some ((⟨#[]⟩ : ByteArray), 0, 7)) else (if 2 ≤ (wrap64 (2 + bt402.1)) then (if (wrap64 (2 + bt402.1)) ≤ (a0.size : Int) then (if a1 = true then ((fairwayref1_Text.f k (a0.extract 2 ((wrap64 (2 + bt402.1)) : Int).toNat)).bind fun t404 => (if t404 = 0 then (some (a0.extract 2 ((wrap64 (2 + bt402.1)) : Int).toNat, wrap64 (2 + bt402.1), 0)) else (some ((⟨#[]⟩ : ByteArray), 0, t404)))) else (some (a0.extract 2 ((wrap64 (2 + bt402.1)) : Int).toNat, wrap64 (2 + bt402.1), 0))) else (none)) else (none)))) else (some ((⟨#[]⟩ : ByteArray), 0, 7)))
theorem fairwayref1_TakeLong.mono : ∀ a0 a1 k, LeO (fairwayref1_TakeLong.f k a0 a1) (fairwayref1_TakeLong.f (k + 1) a0 a1) := by
 intro a0 a1 k
 unfold fairwayref1_TakeLong.f; repeat' first
   | (with_reducible exact fairwayref1_TakeFixed.mono _ _ _)
   | (with_reducible exact fairwayref1_Text.mono _ _)
   | (with_reducible exact LeO.refl _)
   | (with_reducible exact LeO.none _)
   | (with_reducible refine LeO.ite ?_ ?_)
   | (with_reducible refine LeO.bind ?_ (fun _ => ?_))
   | exact fairwayref1_TakeFixed.mono _ _ _
   | exact fairwayref1_Text.mono _ _
   | exact LeO.none _
   | refine LeO.ite ?_ ?_
   | refine LeO.bind ?_ (fun _ => ?_)
set_option maxHeartbeats 8000000 in
set_option maxRecDepth 100000 in
theorem fairwayref1_TakeLong.calls (k : Nat) (a0 : ByteArray) (a1 : Bool) (r1 : ByteArray) (r2 : Int) (r3 : Int) (w : World) (h : fairwayref1_TakeLong.f k a0 a1 = some (r1, r2, r3)) :
  Calls Tryd.prog 54 #[.string a0, .bool a1] w fun e w' => e = .returned (.tuple #[.string r1, .int .i64 r2, .int .i64 r3]) ∧ Drawn0 w w' := by
 have H : ((fairwayref1_TakeFixed.f k a0 2).bind fun bt402 => (if bt402.2 = true then (if bt402.1 > 1024 then (some ((⟨#[]⟩ : ByteArray), 0, 2)) else (if (wrap64 ((a0.size : Int) - 2)) < bt402.1 then (some ((⟨#[]⟩ : ByteArray), 0, 7)) else (if 2 ≤ (wrap64 (2 + bt402.1)) then (if (wrap64 (2 + bt402.1)) ≤ (a0.size : Int) then (if a1 = true then ((fairwayref1_Text.f k (a0.extract 2 ((wrap64 (2 + bt402.1)) : Int).toNat)).bind fun t404 => (if t404 = 0 then (some (a0.extract 2 ((wrap64 (2 + bt402.1)) : Int).toNat, wrap64 (2 + bt402.1), 0)) else (some ((⟨#[]⟩ : ByteArray), 0, t404)))) else (some (a0.extract 2 ((wrap64 (2 + bt402.1)) : Int).toNat, wrap64 (2 + bt402.1), 0))) else (none)) else (none)))) else (some ((⟨#[]⟩ : ByteArray), 0, 7)))) = some (r1, r2, r3) := h; clear h; replace H := Option.bind_eq_some_iff.mp H; obtain ⟨⟨t402, t403⟩, A30, H⟩ := H; replace H : (if t403 = true then (if t402 > 1024 then (some ((⟨#[]⟩ : ByteArray), 0, 2)) else (if (wrap64 ((a0.size : Int) - 2)) < t402 then (some ((⟨#[]⟩ : ByteArray), 0, 7)) else (if 2 ≤ (wrap64 (2 + t402)) then (if (wrap64 (2 + t402)) ≤ (a0.size : Int) then (if a1 = true then ((fairwayref1_Text.f k (a0.extract 2 ((wrap64 (2 + t402)) : Int).toNat)).bind fun t404 => (if t404 = 0 then (some (a0.extract 2 ((wrap64 (2 + t402)) : Int).toNat, wrap64 (2 + t402), 0)) else (some ((⟨#[]⟩ : ByteArray), 0, t404)))) else (some (a0.extract 2 ((wrap64 (2 + t402)) : Int).toNat, wrap64 (2 + t402), 0))) else (none)) else (none)))) else (some ((⟨#[]⟩ : ByteArray), 0, 7))) = some (r1, r2, r3) := H; have A3 := Aside0.mk A30; clear A30; by_cases c4 : t403 = true
 ·
  subst c4; have H1 : (if t402 > 1024 then (some ((⟨#[]⟩ : ByteArray), 0, 2)) else (if (wrap64 ((a0.size : Int) - 2)) < t402 then (some ((⟨#[]⟩ : ByteArray), 0, 7)) else (if 2 ≤ (wrap64 (2 + t402)) then (if (wrap64 (2 + t402)) ≤ (a0.size : Int) then (if a1 = true then ((fairwayref1_Text.f k (a0.extract 2 ((wrap64 (2 + t402)) : Int).toNat)).bind fun t404 => (if t404 = 0 then (some (a0.extract 2 ((wrap64 (2 + t402)) : Int).toNat, wrap64 (2 + t402), 0)) else (some ((⟨#[]⟩ : ByteArray), 0, t404)))) else (some (a0.extract 2 ((wrap64 (2 + t402)) : Int).toNat, wrap64 (2 + t402), 0))) else (none)) else (none)))) = some (r1, r2, r3) := by rw [if_pos rfl] at H; exact H
  clear H; have H := H1; clear H1; by_cases c5 : t402 > 1024
  ·
   rw [if_pos c5] at H; have c5b0 : decide (1024 < t402) = true := decide_eq_true c5; clear c5; simp only [Option.some.injEq, Prod.mk.injEq] at H; obtain ⟨rfl, rfl, rfl⟩ := H; go_enter Tryd.func54, Tryd.ntmps54
   go_wp2_with (first | ((with_reducible refine gate_callee (f := 52) rfl ?_); refine goesL_ (some 13) rfl rfl Tryd.func52 zz49 rfl #[.string a0, .int .i64 2] rfl zz20 ?_; (with_reducible refine (fairwayref1_TakeFixed.calls k a0 2 t402 true _ A3.out).mono ?_); rintro e w' ⟨rfl, ⟨nd, rfl⟩⟩; refine ⟨_, rfl, ?_⟩))
   go_ret3
   exact ⟨zz47, zz43⟩
  rw [if_neg c5] at H; have c5b0 : decide (1024 < t402) = false := decide_eq_false c5; clear c5; by_cases c6 : (wrap64 ((a0.size : Int) - 2)) < t402
  ·
   rw [if_pos c6] at H; have c6b0 : decide ((wrap64 ((a0.size : Int) - 2)) < t402) = true := decide_eq_true c6; clear c6; simp only [Option.some.injEq, Prod.mk.injEq] at H; obtain ⟨rfl, rfl, rfl⟩ := H; go_enter Tryd.func54, Tryd.ntmps54
   go_wp2_with (first | ((with_reducible refine gate_callee (f := 52) rfl ?_); refine goesL_ (some 13) rfl rfl Tryd.func52 zz49 rfl #[.string a0, .int .i64 2] rfl zz20 ?_; (with_reducible refine (fairwayref1_TakeFixed.calls k a0 2 t402 true _ A3.out).mono ?_); rintro e w' ⟨rfl, ⟨nd, rfl⟩⟩; refine ⟨_, rfl, ?_⟩))
   go_ret3
   exact ⟨zz47, zz43⟩
  rw [if_neg c6] at H; have c6b0 : decide ((wrap64 ((a0.size : Int) - 2)) < t402) = false := decide_eq_false c6; clear c6; by_cases c7 : 2 ≤ (wrap64 (2 + t402))
  ·
   rw [if_pos c7] at H; have c7b0 := eq_true c7; have c7b1 : decide (2 ≤ (wrap64 (2 + t402))) = true := decide_eq_true c7; by_cases c8 : (wrap64 (2 + t402)) ≤ (a0.size : Int)
   ·
    rw [if_pos c8] at H; have c8b0 := eq_true c8; have c8b1 : decide ((wrap64 (2 + t402)) ≤ (a0.size : Int)) = true := decide_eq_true c8; by_cases c9 : a1 = true
    ·
     subst c9; have H1 : ((fairwayref1_Text.f k (a0.extract 2 ((wrap64 (2 + t402)) : Int).toNat)).bind fun t404 => (if t404 = 0 then (some (a0.extract 2 ((wrap64 (2 + t402)) : Int).toNat, wrap64 (2 + t402), 0)) else (some ((⟨#[]⟩ : ByteArray), 0, t404)))) = some (r1, r2, r3) := by rw [if_pos rfl] at H; exact H
     clear H; have H := H1; clear H1; replace H := Option.bind_eq_some_iff.mp H; obtain ⟨t404, A100, H⟩ := H; replace H : (if t404 = 0 then (some (a0.extract 2 ((wrap64 (2 + t402)) : Int).toNat, wrap64 (2 + t402), 0)) else (some ((⟨#[]⟩ : ByteArray), 0, t404))) = some (r1, r2, r3) := H; have A10 := Aside0.mk A100; clear A100; by_cases c11 : t404 = 0
     ·
      rw [if_pos c11] at H; have c11b0 : (t404 == 0) = true := beq_iff_eq.mpr c11; have c11b1 : (t404 != 0) = false := bne_eq_false_iff_eq.mpr c11; clear c11; simp only [Option.some.injEq, Prod.mk.injEq] at H; obtain ⟨rfl, rfl, rfl⟩ := H; go_enter Tryd.func54, Tryd.ntmps54
      go_wp2_with (first | ((with_reducible refine gate_callee (f := 52) rfl ?_); refine goesL_ (some 13) rfl rfl Tryd.func52 zz49 rfl #[.string a0, .int .i64 2] rfl zz20 ?_; (with_reducible refine (fairwayref1_TakeFixed.calls k a0 2 t402 true _ A3.out).mono ?_); rintro e w' ⟨rfl, ⟨nd, rfl⟩⟩; refine ⟨_, rfl, ?_⟩) | ((with_reducible refine gate_callee (f := 44) rfl ?_); refine goesL_ (some 31) rfl rfl Tryd.func44 zz49 rfl #[.string (a0.extract 2 ((wrap64 (2 + t402)) : Int).toNat)] rfl zz20 ?_; (with_reducible refine (fairwayref1_Text.calls k (a0.extract 2 ((wrap64 (2 + t402)) : Int).toNat) t404 _ A10.out).mono ?_); rintro e w' ⟨rfl, ⟨nd, rfl⟩⟩; refine ⟨_, rfl, ?_⟩))
      go_ret3
      exact ⟨zz47, zz43⟩
     rw [if_neg c11] at H; have c11b0 : (t404 == 0) = false := beq_eq_false_iff_ne.mpr c11; have c11b1 : (t404 != 0) = true := bne_iff_ne.mpr c11; simp only [Option.some.injEq, Prod.mk.injEq] at H; obtain ⟨rfl, rfl, rfl⟩ := H; go_enter Tryd.func54, Tryd.ntmps54
     go_wp2_with (first | ((with_reducible refine gate_callee (f := 52) rfl ?_); refine goesL_ (some 13) rfl rfl Tryd.func52 zz49 rfl #[.string a0, .int .i64 2] rfl zz20 ?_; (with_reducible refine (fairwayref1_TakeFixed.calls k a0 2 t402 true _ A3.out).mono ?_); rintro e w' ⟨rfl, ⟨nd, rfl⟩⟩; refine ⟨_, rfl, ?_⟩) | ((with_reducible refine gate_callee (f := 44) rfl ?_); refine goesL_ (some 31) rfl rfl Tryd.func44 zz49 rfl #[.string (a0.extract 2 ((wrap64 (2 + t402)) : Int).toNat)] rfl zz20 ?_; (with_reducible refine (fairwayref1_Text.calls k (a0.extract 2 ((wrap64 (2 + t402)) : Int).toNat) t404 _ A10.out).mono ?_); rintro e w' ⟨rfl, ⟨nd, rfl⟩⟩; refine ⟨_, rfl, ?_⟩))
     go_ret3
     exact ⟨zz47, zz43⟩
    replace c9 := Bool.eq_false_iff.mpr c9; subst c9; have H1 : (some (a0.extract 2 ((wrap64 (2 + t402)) : Int).toNat, wrap64 (2 + t402), 0)) = some (r1, r2, r3) := by rw [if_neg (show ¬ (false = true) by decide)] at H; exact H
    clear H; have H := H1; clear H1; simp only [Option.some.injEq, Prod.mk.injEq] at H; obtain ⟨rfl, rfl, rfl⟩ := H; go_enter Tryd.func54, Tryd.ntmps54
    go_wp2_with (first | ((with_reducible refine gate_callee (f := 52) rfl ?_); refine goesL_ (some 13) rfl rfl Tryd.func52 zz49 rfl #[.string a0, .int .i64 2] rfl zz20 ?_; (with_reducible refine (fairwayref1_TakeFixed.calls k a0 2 t402 true _ A3.out).mono ?_); rintro e w' ⟨rfl, ⟨nd, rfl⟩⟩; refine ⟨_, rfl, ?_⟩))
    go_ret3
    exact ⟨zz47, zz43⟩
   rw [if_neg c8] at H; exact absurd H (by simp)
  rw [if_neg c7] at H; exact absurd H (by simp)
 replace c4 := Bool.eq_false_iff.mpr c4; subst c4; have H1 : (some ((⟨#[]⟩ : ByteArray), 0, 7)) = some (r1, r2, r3) := by rw [if_neg (show ¬ (false = true) by decide)] at H; exact H
 clear H; have H := H1; clear H1; simp only [Option.some.injEq, Prod.mk.injEq] at H; obtain ⟨rfl, rfl, rfl⟩ := H; go_enter Tryd.func54, Tryd.ntmps54
 go_wp2_with (first | ((with_reducible refine gate_callee (f := 52) rfl ?_); refine goesL_ (some 13) rfl rfl Tryd.func52 zz49 rfl #[.string a0, .int .i64 2] rfl zz20 ?_; (with_reducible refine (fairwayref1_TakeFixed.calls k a0 2 t402 false _ A3.out).mono ?_); rintro e w' ⟨rfl, ⟨nd, rfl⟩⟩; refine ⟨_, rfl, ?_⟩))
 go_ret3
 exact ⟨zz47, zz43⟩
mutual
def fairwayref4_value.j0 : Nat → ByteArray → Int → Int → Bool → Int → Int → ByteArray → ByteArray → Option (Int × Int × ByteArray × ByteArray × Int × Int)
  | 0, _, _, _, _, _, _, _, _ => none
  | k + 1, x1, x8, x24, x25, x407000, x407001, x407002, x407003 => if x25 = true then ((some (([0, 1, 2, 4] : List Int) : List Int)).bind fun y408 => (if 0 ≤ x8 then (if x8 < (y408.length : Int) then ((fairwayref1_TakeFixed.f k x1 (rd y408 x8)).bind fun bt412 => (if bt412.2 = true then (some (x407000, bt412.1, x407002, x407003, rd y408 x8, 0)) else (some (x407000, x407001, x407002, x407003, 0, 8)))) else (none)) else (none))) else (if x24 = 4 then ((fairwayref1_TakeNum.f k x1).bind fun bt414 => ((fairwayref4_inner.f bt414.2.2).bind fun t417 => (some (x407000, bt414.1, x407002, x407003, bt414.2.1, t417)))) else ((fairwayref1_TakeLong.f k x1 (x8 != 6)).bind fun bt418 => (if bt418.2.2 = 0 then (fairwayref4_value.j1 k x1 bt418.1 bt418.2.1 bt418.2.2 (x8 != 7) x407000 x407001 x407002 x407003) else (fairwayref4_value.j1 k x1 bt418.1 bt418.2.1 bt418.2.2 true x407000 x407001 x407002 x407003))))
def fairwayref4_value.j1 : Nat → ByteArray → ByteArray → Int → Int → Bool → Int → Int → ByteArray → ByteArray → Option (Int × Int × ByteArray × ByteArray × Int × Int)
  | 0, _, _, _, _, _, _, _, _, _ => none
  | k + 1, x1, x15, x16, x17, x73, x407000, x407001, x407002, x407003 => if x73 = true then ((fairwayref4_inner.f x17).bind fun t421 => (some (x407000, x407001, x15, x407003, x16, t421))) else (if 0 ≤ x16 then (if x16 ≤ (x1.size : Int) then ((fairwayref1_TakeLong.f k (x1.extract (x16 : Int).toNat x1.size) true).bind fun bt422 => ((fairwayref4_inner.f bt422.2.2).bind fun t425 => (some (x407000, x407001, x15, bt422.1, wrap64 (x16 + bt422.2.1), t425)))) else (none)) else (none))
end
def fairwayref4_value.f (k : Nat) (a0 : Int) (a1 : ByteArray) : Option (Int × Int × ByteArray × ByteArray × Int × Int) := (fairwayref4_Kind.f k a0).bind fun t407 => (if t407 = 1 then (fairwayref4_value.j0 k a1 t407 t407 (t407 == 1) a0 0 (⟨#[]⟩ : ByteArray) (⟨#[]⟩ : ByteArray)) else (if t407 = 2 then (fairwayref4_value.j0 k a1 t407 t407 (t407 == 2) a0 0 (⟨#[]⟩ : ByteArray) (⟨#[]⟩ : ByteArray)) else (fairwayref4_value.j0 k a1 t407 t407 (t407 == 3) a0 0 (⟨#[]⟩ : ByteArray) (⟨#[]⟩ : ByteArray))))
theorem fairwayref4_value.mono_l : ∀ k, (∀ y0 y1 y2 y3 y4 y5 y6 y7, LeO (fairwayref4_value.j0 k y0 y1 y2 y3 y4 y5 y6 y7) (fairwayref4_value.j0 (k + 1) y0 y1 y2 y3 y4 y5 y6 y7)) ∧ (∀ y0 y1 y2 y3 y4 y5 y6 y7 y8, LeO (fairwayref4_value.j1 k y0 y1 y2 y3 y4 y5 y6 y7 y8) (fairwayref4_value.j1 (k + 1) y0 y1 y2 y3 y4 y5 y6 y7 y8))
 | 0 => ⟨fun _ _ _ _ _ _ _ _ r h => by simp [fairwayref4_value.j0] at h, fun _ _ _ _ _ _ _ _ _ r h => by simp [fairwayref4_value.j1] at h⟩
 | k + 1 => by
  obtain ⟨ih0, ih1⟩ := fairwayref4_value.mono_l k; refine ⟨?_, ?_⟩ <;> intros
  all_goals first | unfold fairwayref4_value.j0 | unfold fairwayref4_value.j1
  all_goals repeat' first
   | (with_reducible exact ih0 _ _ _ _ _ _ _ _)
   | (with_reducible exact ih1 _ _ _ _ _ _ _ _ _)
   | (with_reducible exact fairwayref1_TakeFixed.mono _ _ _)
   | (with_reducible exact fairwayref1_TakeLong.mono _ _ _)
   | (with_reducible exact fairwayref1_TakeNum.mono _ _)
   | (with_reducible exact fairwayref4_Kind.mono _ _)
   | (with_reducible exact LeO.refl _)
   | (with_reducible exact LeO.none _)
   | (with_reducible refine LeO.ite ?_ ?_)
   | (with_reducible refine LeO.bind ?_ (fun _ => ?_))
   | exact ih0 _ _ _ _ _ _ _ _
   | exact ih1 _ _ _ _ _ _ _ _ _
   | exact fairwayref1_TakeFixed.mono _ _ _
   | exact fairwayref1_TakeLong.mono _ _ _
   | exact fairwayref1_TakeNum.mono _ _
   | exact fairwayref4_Kind.mono _ _
   | exact LeO.none _
   | refine LeO.ite ?_ ?_
   | refine LeO.bind ?_ (fun _ => ?_)
theorem fairwayref4_value.mono : ∀ a0 a1 k, LeO (fairwayref4_value.f k a0 a1) (fairwayref4_value.f (k + 1) a0 a1) := by
 intro a0 a1 k
 obtain ⟨ih0, ih1⟩ := fairwayref4_value.mono_l k; unfold fairwayref4_value.f; repeat' first
   | (with_reducible exact ih0 _ _ _ _ _ _ _ _)
   | (with_reducible exact ih1 _ _ _ _ _ _ _ _ _)
   | (with_reducible exact fairwayref1_TakeFixed.mono _ _ _)
   | (with_reducible exact fairwayref1_TakeLong.mono _ _ _)
   | (with_reducible exact fairwayref1_TakeNum.mono _ _)
   | (with_reducible exact fairwayref4_Kind.mono _ _)
   | (with_reducible exact LeO.refl _)
   | (with_reducible exact LeO.none _)
   | (with_reducible refine LeO.ite ?_ ?_)
   | (with_reducible refine LeO.bind ?_ (fun _ => ?_))
   | exact ih0 _ _ _ _ _ _ _ _
   | exact ih1 _ _ _ _ _ _ _ _ _
   | exact fairwayref1_TakeFixed.mono _ _ _
   | exact fairwayref1_TakeLong.mono _ _ _
   | exact fairwayref1_TakeNum.mono _ _
   | exact fairwayref4_Kind.mono _ _
   | exact LeO.none _
   | refine LeO.ite ?_ ?_
   | refine LeO.bind ?_ (fun _ => ?_)
def fairwayref4_value.T23 : Bool × List (List Nat × List Nat) := (true, [([], []), ([], []), ([], []), ([1, 2], [1, 2]), ([], []), ([4], [4]), ([0, 5, 0], [0]), ([3, 6, 0, 1, 2, 3, 6], [3]), ([5, 7, 0, 1, 2, 3, 4, 5, 6, 7], [5])])
def fairwayref4_value.B23 : List Nat := [0, 0, 0, 6, 0, 16, 49, 127, 255]
theorem fairwayref4_value.tab23 : rtab .any (opsOf Tryd.f40 23) = fairwayref4_value.T23 := by kernel_rfl
theorem fairwayref4_value.bits23 : waitsOk fairwayref4_value.T23.2 fairwayref4_value.B23 = true := by kernel_rfl
set_option maxHeartbeats 8000000 in
set_option maxRecDepth 100000 in
theorem fairwayref4_value.calls (k : Nat) (a0 : Int) (a1 : ByteArray) (r1 : Int) (r2 : Int) (r3 : ByteArray) (r4 : ByteArray) (r5 : Int) (r6 : Int) (w : World) (h : fairwayref4_value.f k a0 a1 = some (r1, r2, r3, r4, r5, r6)) :
  Calls Tryd.prog 40 #[.int .i64 a0, .string a1] w fun e w' => e = .returned (.tuple #[.agg #[.int .i64 r1, .int .i64 r2, .string r3, .string r4], .int .i64 r5, .int .i64 r6]) ∧ Below w.heap.size w w' := by
 have hu42 := Tryd.underlying42; have HB := Aside0.mk (Below.refl w.heap.size w); have H : ((fairwayref4_Kind.f k a0).bind fun t407 => (if t407 = 1 then (fairwayref4_value.j0 k a1 t407 t407 (t407 == 1) a0 0 (⟨#[]⟩ : ByteArray) (⟨#[]⟩ : ByteArray)) else (if t407 = 2 then (fairwayref4_value.j0 k a1 t407 t407 (t407 == 2) a0 0 (⟨#[]⟩ : ByteArray) (⟨#[]⟩ : ByteArray)) else (fairwayref4_value.j0 k a1 t407 t407 (t407 == 3) a0 0 (⟨#[]⟩ : ByteArray) (⟨#[]⟩ : ByteArray))))) = some (r1, r2, r3, r4, r5, r6) := h; clear h; replace H := Option.bind_eq_some_iff.mp H; obtain ⟨t407, A30, H⟩ := H; replace H : (if t407 = 1 then (fairwayref4_value.j0 k a1 t407 t407 (t407 == 1) a0 0 (⟨#[]⟩ : ByteArray) (⟨#[]⟩ : ByteArray)) else (if t407 = 2 then (fairwayref4_value.j0 k a1 t407 t407 (t407 == 2) a0 0 (⟨#[]⟩ : ByteArray) (⟨#[]⟩ : ByteArray)) else (fairwayref4_value.j0 k a1 t407 t407 (t407 == 3) a0 0 (⟨#[]⟩ : ByteArray) (⟨#[]⟩ : ByteArray)))) = some (r1, r2, r3, r4, r5, r6) := H; have A3 := Aside0.mk A30; clear A30; have HC4 := Aside0.mk H; clear H; go_enter Tryd.func40, Tryd.ntmps40
 go_upto_if 25 with (first | ((with_reducible refine gate_dst (N := 4) rfl ?_); refine box_event ?hg (N := 4) ?hd (cs := #[.int .i64 0, .int .i64 0, .string (⟨#[]⟩ : ByteArray), .string (⟨#[]⟩ : ByteArray)]) (t := 42) ?hr ?_; (case hd => rfl); (case hg => rfl); (case hr => first | (go_simp; done) | (go_simp; rfl)); intro gb405 hg w5 hbox hb; have n0_ := Aside0.mk (below_step zz21 hb); have n1_ := Aside0.mk (hbox); have n2_ := Aside0.mk ((by rw [hg]; exact (below_size zz21) : w.heap.size ≤ gb405)); have n3_ := Aside0.mk ((by rw [hg]; exact (below_size zz21) : w.heap.size ≤ gb405)); clear HB; have HB := n0_; have BK405 := n1_; have GW405 := n2_; have GE405 := n3_; clear n0_ n1_ n2_ n3_; clear hb hbox hg) | ((with_reducible refine gate_dst (N := 7) rfl ?_); refine box_event ?hg (N := 7) ?hd (cs := #[.int .i64 0, .int .i64 0, .string (⟨#[]⟩ : ByteArray), .string (⟨#[]⟩ : ByteArray)]) (t := 42) ?hr ?_; (case hd => rfl); (case hg => rfl); (case hr => first | (go_simp; done) | (go_simp; rfl)); intro gb406 hg w6 hbox hb; have n0_ := Aside0.mk (blk_below (g := gb405) (o := .cells #[.int .i64 0, .int .i64 0, .string (⟨#[]⟩ : ByteArray), .string (⟨#[]⟩ : ByteArray)] 42 (0, 0)) zz27 hb); have n1_ := Aside0.mk (below_step zz13 hb); have n2_ := Aside0.mk (hbox); have n3_ := Aside0.mk ((by rw [hg]; exact (below_size zz13) : w.heap.size ≤ gb406)); have n4_ := Aside0.mk ((by rw [hg]; exact (below_size zz13) : w.heap.size ≤ gb406)); have n5_ := Aside0.mk ((by rw [hg]; exact Nat.ne_of_lt (blk_lt (g := gb405) (o := .cells #[.int .i64 0, .int .i64 0, .string (⟨#[]⟩ : ByteArray), .string (⟨#[]⟩ : ByteArray)] 42 (0, 0)) zz27) : gb405 ≠ gb406)); have n6_ := Aside0.mk ((by rw [hg]; exact Nat.ne_of_gt (blk_lt (g := gb405) (o := .cells #[.int .i64 0, .int .i64 0, .string (⟨#[]⟩ : ByteArray), .string (⟨#[]⟩ : ByteArray)] 42 (0, 0)) zz27) : gb406 ≠ gb405)); clear BK405; clear HB; have BK405 := n0_; have HB := n1_; have BK406 := n2_; have GW406 := n3_; have GE406 := n4_; have NB405_406 := n5_; have NB406_405 := n6_; clear n0_ n1_ n2_ n3_ n4_ n5_ n6_; clear hb hbox hg; have hnb7 := NB406_405.out; have hnc7 := NB405_406.out; have hcz8_0 : w6.cell? ⟨gb406, 0, none⟩ = some (.int .i64 0) := (blk_cell BK406.out 0).trans rfl; have hcz8_1 : w6.cell? ⟨gb406, 1, none⟩ = some (.int .i64 0) := (blk_cell BK406.out 1).trans rfl; have hcz8_2 : w6.cell? ⟨gb406, 2, none⟩ = some (.string (⟨#[]⟩ : ByteArray)) := (blk_cell BK406.out 2).trans rfl; have hcz8_3 : w6.cell? ⟨gb406, 3, none⟩ = some (.string (⟨#[]⟩ : ByteArray)) := (blk_cell BK406.out 3).trans rfl; have hfz8_0 := blk_frozen BK406.out 0; have hfz8_1 := blk_frozen BK406.out 1; have hfz8_2 := blk_frozen BK406.out 2; have hfz8_3 := blk_frozen BK406.out 3) | ((with_reducible refine gate_callee (f := 12) rfl ?_); refine goesL_ (some 23) rfl rfl Tryd.func12 zz49 rfl #[.int .i64 a0] rfl zz20 ?_; (with_reducible refine (fairwayref4_Kind.calls k a0 t407 _ A3.out).mono ?_); rintro e w' ⟨rfl, ⟨nd, rfl⟩⟩; refine ⟨_, rfl, ?_⟩))
 (try simp only [Act.put, List.setIfInBounds_toArray, List.set_cons_zero, List.set_cons_succ])
 go_cut [25] (fun v25 wc => ∃ (kq : Nat) (x25_3 : Bool), v25 = .bool x25_3 ∧ Aside0 (fairwayref4_value.j0 kq a1 t407 t407 x25_3 a0 0 (⟨#[]⟩ : ByteArray) (⟨#[]⟩ : ByteArray) = some (r1, r2, r3, r4, r5, r6)) ∧ Aside0 (kq ≤ k) ∧ Aside0 (wc.heap[gb405]? = some (.cells #[.int .i64 0, .int .i64 0, .string (⟨#[]⟩ : ByteArray), .string (⟨#[]⟩ : ByteArray)] 42 (0, 0))) ∧ Aside0 (wc.heap[gb406]? = some (.cells #[.int .i64 a0, .int .i64 0, .string (⟨#[]⟩ : ByteArray), .string (⟨#[]⟩ : ByteArray)] 42 (0, 0))) ∧ Aside0 (Below w.heap.size w wc))
 case first =>
  have H := HC4.out; clear HC4; by_cases c9 : t407 = 1
  ·
   rw [if_pos c9] at H; have c9b0 : (t407 == 1) = true := beq_iff_eq.mpr c9; have c9b1 : (t407 != 1) = false := bne_eq_false_iff_eq.mpr c9; clear c9; (first | rw [c9b0] | (simp only [i64_w, i32_w]; rw [c9b0]) | skip)
   have H' := Aside0.mk H; clear H; go_wp2
   go_meet
   case rel => exact ⟨_, ((t407 == 1)), zz47, H', ⟨zz48⟩, ⟨by (with_reducible repeat (first | refine blk_drewN ?_ _ | refine blk_drew ?_ | refine blk_alloc ?_ _)); refine blk_far ?_ NB405_406.out _; (with_reducible repeat (first | refine blk_drewN ?_ _ | refine blk_drew ?_ | refine blk_alloc ?_ _)); refine blk_far ?_ NB405_406.out _; (with_reducible repeat (first | refine blk_drewN ?_ _ | refine blk_drew ?_ | refine blk_alloc ?_ _)); refine blk_far ?_ NB405_406.out _; (with_reducible repeat (first | refine blk_drewN ?_ _ | refine blk_drew ?_ | refine blk_alloc ?_ _)); refine blk_far ?_ NB405_406.out _; (with_reducible repeat (first | refine blk_drewN ?_ _ | refine blk_drew ?_ | refine blk_alloc ?_ _)); exact BK405.out⟩, ⟨by (with_reducible repeat (first | refine blk_drewN ?_ _ | refine blk_drew ?_ | refine blk_alloc ?_ _)); refine blk_put (cs := #[.int .i64 a0, .int .i64 0, .string (⟨#[]⟩ : ByteArray), .string (⟨#[]⟩ : ByteArray)]) ?_ 3 _ rfl; (with_reducible repeat (first | refine blk_drewN ?_ _ | refine blk_drew ?_ | refine blk_alloc ?_ _)); refine blk_put (cs := #[.int .i64 a0, .int .i64 0, .string (⟨#[]⟩ : ByteArray), .string (⟨#[]⟩ : ByteArray)]) ?_ 2 _ rfl; (with_reducible repeat (first | refine blk_drewN ?_ _ | refine blk_drew ?_ | refine blk_alloc ?_ _)); refine blk_put (cs := #[.int .i64 a0, .int .i64 0, .string (⟨#[]⟩ : ByteArray), .string (⟨#[]⟩ : ByteArray)]) ?_ 1 _ rfl; (with_reducible repeat (first | refine blk_drewN ?_ _ | refine blk_drew ?_ | refine blk_alloc ?_ _)); refine blk_put (cs := #[.int .i64 0, .int .i64 0, .string (⟨#[]⟩ : ByteArray), .string (⟨#[]⟩ : ByteArray)]) ?_ 0 _ rfl; (with_reducible repeat (first | refine blk_drewN ?_ _ | refine blk_drew ?_ | refine blk_alloc ?_ _)); exact BK406.out⟩, ⟨zz4⟩⟩
  rw [if_neg c9] at H; have c9b0 : (t407 == 1) = false := beq_eq_false_iff_ne.mpr c9; have c9b1 : (t407 != 1) = true := bne_iff_ne.mpr c9; (first | rw [c9b0] | (simp only [i64_w, i32_w]; rw [c9b0]) | skip)
  by_cases c10 : t407 = 2
  ·
   rw [if_pos c10] at H; have c10b0 : (t407 == 2) = true := beq_iff_eq.mpr c10; have c10b1 : (t407 != 2) = false := bne_eq_false_iff_eq.mpr c10; clear c10; have H' := Aside0.mk H; clear H; go_wp2
   go_meet
   case rel => exact ⟨_, ((t407 == 2)), zz47, H', ⟨zz48⟩, ⟨by (with_reducible repeat (first | refine blk_drewN ?_ _ | refine blk_drew ?_ | refine blk_alloc ?_ _)); refine blk_far ?_ NB405_406.out _; (with_reducible repeat (first | refine blk_drewN ?_ _ | refine blk_drew ?_ | refine blk_alloc ?_ _)); refine blk_far ?_ NB405_406.out _; (with_reducible repeat (first | refine blk_drewN ?_ _ | refine blk_drew ?_ | refine blk_alloc ?_ _)); refine blk_far ?_ NB405_406.out _; (with_reducible repeat (first | refine blk_drewN ?_ _ | refine blk_drew ?_ | refine blk_alloc ?_ _)); refine blk_far ?_ NB405_406.out _; (with_reducible repeat (first | refine blk_drewN ?_ _ | refine blk_drew ?_ | refine blk_alloc ?_ _)); exact BK405.out⟩, ⟨by (with_reducible repeat (first | refine blk_drewN ?_ _ | refine blk_drew ?_ | refine blk_alloc ?_ _)); refine blk_put (cs := #[.int .i64 a0, .int .i64 0, .string (⟨#[]⟩ : ByteArray), .string (⟨#[]⟩ : ByteArray)]) ?_ 3 _ rfl; (with_reducible repeat (first | refine blk_drewN ?_ _ | refine blk_drew ?_ | refine blk_alloc ?_ _)); refine blk_put (cs := #[.int .i64 a0, .int .i64 0, .string (⟨#[]⟩ : ByteArray), .string (⟨#[]⟩ : ByteArray)]) ?_ 2 _ rfl; (with_reducible repeat (first | refine blk_drewN ?_ _ | refine blk_drew ?_ | refine blk_alloc ?_ _)); refine blk_put (cs := #[.int .i64 a0, .int .i64 0, .string (⟨#[]⟩ : ByteArray), .string (⟨#[]⟩ : ByteArray)]) ?_ 1 _ rfl; (with_reducible repeat (first | refine blk_drewN ?_ _ | refine blk_drew ?_ | refine blk_alloc ?_ _)); refine blk_put (cs := #[.int .i64 0, .int .i64 0, .string (⟨#[]⟩ : ByteArray), .string (⟨#[]⟩ : ByteArray)]) ?_ 0 _ rfl; (with_reducible repeat (first | refine blk_drewN ?_ _ | refine blk_drew ?_ | refine blk_alloc ?_ _)); exact BK406.out⟩, ⟨zz4⟩⟩
  rw [if_neg c10] at H; have c10b0 : (t407 == 2) = false := beq_eq_false_iff_ne.mpr c10; have c10b1 : (t407 != 2) = true := bne_iff_ne.mpr c10; have H' := Aside0.mk H; clear H; go_wp2
  go_meet
  case rel => exact ⟨_, ((t407 == 3)), zz47, H', ⟨zz48⟩, ⟨by (with_reducible repeat (first | refine blk_drewN ?_ _ | refine blk_drew ?_ | refine blk_alloc ?_ _)); refine blk_far ?_ NB405_406.out _; (with_reducible repeat (first | refine blk_drewN ?_ _ | refine blk_drew ?_ | refine blk_alloc ?_ _)); refine blk_far ?_ NB405_406.out _; (with_reducible repeat (first | refine blk_drewN ?_ _ | refine blk_drew ?_ | refine blk_alloc ?_ _)); refine blk_far ?_ NB405_406.out _; (with_reducible repeat (first | refine blk_drewN ?_ _ | refine blk_drew ?_ | refine blk_alloc ?_ _)); refine blk_far ?_ NB405_406.out _; (with_reducible repeat (first | refine blk_drewN ?_ _ | refine blk_drew ?_ | refine blk_alloc ?_ _)); exact BK405.out⟩, ⟨by (with_reducible repeat (first | refine blk_drewN ?_ _ | refine blk_drew ?_ | refine blk_alloc ?_ _)); refine blk_put (cs := #[.int .i64 a0, .int .i64 0, .string (⟨#[]⟩ : ByteArray), .string (⟨#[]⟩ : ByteArray)]) ?_ 3 _ rfl; (with_reducible repeat (first | refine blk_drewN ?_ _ | refine blk_drew ?_ | refine blk_alloc ?_ _)); refine blk_put (cs := #[.int .i64 a0, .int .i64 0, .string (⟨#[]⟩ : ByteArray), .string (⟨#[]⟩ : ByteArray)]) ?_ 2 _ rfl; (with_reducible repeat (first | refine blk_drewN ?_ _ | refine blk_drew ?_ | refine blk_alloc ?_ _)); refine blk_put (cs := #[.int .i64 a0, .int .i64 0, .string (⟨#[]⟩ : ByteArray), .string (⟨#[]⟩ : ByteArray)]) ?_ 1 _ rfl; (with_reducible repeat (first | refine blk_drewN ?_ _ | refine blk_drew ?_ | refine blk_alloc ?_ _)); refine blk_put (cs := #[.int .i64 0, .int .i64 0, .string (⟨#[]⟩ : ByteArray), .string (⟨#[]⟩ : ByteArray)]) ?_ 0 _ rfl; (with_reducible repeat (first | refine blk_drewN ?_ _ | refine blk_drew ?_ | refine blk_alloc ?_ _)); exact BK406.out⟩, ⟨zz4⟩⟩
 case rest =>
  as_aux_lemma =>
   clear HC4; (try clear c1); (try clear p2); (try clear c4); (try clear c7); (try clear c9); (try clear c9b0); (try clear c9b1); (try clear c10); (try clear c10b0); (try clear c10b1); (try clear hcz8_0); (try clear hcz8_1); (try clear hcz8_2); (try clear hcz8_3); (try clear hfz8_0); (try clear hfz8_1); (try clear hfz8_2); (try clear hfz8_3); obtain ⟨kq, x25_3, rfl, HA, HJ3, BK405, BK406, HB⟩ := hcut; cases kq with
   | zero => exact absurd HA.out (by simp [fairwayref4_value.j0])
   | succ kj3 =>
    have H := HA.out; clear HA; simp only [fairwayref4_value.j0] at H; by_cases c11 : x25_3 = true
    ·
     subst c11; have H1 : ((some (([0, 1, 2, 4] : List Int) : List Int)).bind fun y408 => (if 0 ≤ t407 then (if t407 < (y408.length : Int) then ((fairwayref1_TakeFixed.f kj3 a1 (rd y408 t407)).bind fun bt412 => (if bt412.2 = true then (some (a0, bt412.1, (⟨#[]⟩ : ByteArray), (⟨#[]⟩ : ByteArray), rd y408 t407, 0)) else (some (a0, 0, (⟨#[]⟩ : ByteArray), (⟨#[]⟩ : ByteArray), 0, 8)))) else (none)) else (none))) = some (r1, r2, r3, r4, r5, r6) := by rw [if_pos rfl] at H; exact H
     clear H; have H := H1; clear H1; obtain ⟨y408, hy408⟩ : ∃ y_ : List Int, y_ = (([0, 1, 2, 4] : List Int)) := ⟨_, rfl⟩; replace H : (if 0 ≤ t407 then (if t407 < (y408.length : Int) then ((fairwayref1_TakeFixed.f kj3 a1 (rd y408 t407)).bind fun bt412 => (if bt412.2 = true then (some (a0, bt412.1, (⟨#[]⟩ : ByteArray), (⟨#[]⟩ : ByteArray), rd y408 t407, 0)) else (some (a0, 0, (⟨#[]⟩ : ByteArray), (⟨#[]⟩ : ByteArray), 0, 8)))) else (none)) else (none)) = some (r1, r2, r3, r4, r5, r6) := by first | (rw [hy408]; with_reducible exact H) | (have H2_ := (Option.bind_some _ _).symm.trans H; rw [hy408]; with_reducible exact H2_) | (have H2_ := (Option.bind_some _ _).symm.trans H; with_reducible exact H2_) | with_reducible exact H | (rw [hy408]; exact H) | exact H
     have Ny408 := Aside0.mk hy408; clear hy408; by_cases c12 : 0 ≤ t407
     ·
      rw [if_pos c12] at H; have c12b0 : decide (0 ≤ t407) = true := decide_eq_true c12; clear c12; by_cases c13 : t407 < (y408.length : Int)
      ·
       rw [if_pos c13] at H; have c13b0 : decide (t407 < (y408.length : Int)) = true := decide_eq_true c13; clear c13; replace H := Option.bind_eq_some_iff.mp H; obtain ⟨⟨t412, t413⟩, A140, H⟩ := H; replace H : (if t413 = true then (some (a0, t412, (⟨#[]⟩ : ByteArray), (⟨#[]⟩ : ByteArray), rd y408 t407, 0)) else (some (a0, 0, (⟨#[]⟩ : ByteArray), (⟨#[]⟩ : ByteArray), 0, 8))) = some (r1, r2, r3, r4, r5, r6) := H; have A14 := Aside0.mk A140; clear A140; by_cases c15 : t413 = true
       ·
        subst c15; have H1 : (some (a0, t412, (⟨#[]⟩ : ByteArray), (⟨#[]⟩ : ByteArray), rd y408 t407, 0)) = some (r1, r2, r3, r4, r5, r6) := by rw [if_pos rfl] at H; exact H
        clear H; have H := H1; clear H1; simp only [Option.some.injEq, Prod.mk.injEq] at H; obtain ⟨rfl, rfl, rfl, rfl, rfl, rfl⟩ := H; go_wp2_with (first | ((with_reducible refine gate_dst (N := 29) rfl ?_); refine Kd.R_lit (Kd.int .i64) _ 3 ?hg (N := 29) ?hd (xs := ([0, 1, 2, 4] : List Int)) (inner := [.int .i64 0, .int .i64 1, .int .i64 2, .int .i64 4]) (ok := fun _ => True) (okp := fun _ => True) ?hr ?hp (fun _ hk => hk) trivial (Below.refl _ _) (Nat.le_refl _) (by simp) ?_; (case hd => rfl); (case hg => rfl); (case hr => first | (go_simp; done) | (go_simp; rfl)); (case hp => exact (Reps.one (show Kd.M (Kd.int .i64) _ _ _ 0 [.int .i64 0] from rfl) (Reps.one (show Kd.M (Kd.int .i64) _ _ _ 1 [.int .i64 1] from rfl) (Reps.one (show Kd.M (Kd.int .i64) _ _ _ 2 [.int .i64 2] from rfl) (Reps.one (show Kd.M (Kd.int .i64) _ _ _ 4 [.int .i64 4] from rfl) (Reps.none _ _)))))); intro v409 w16 ho17 hb hg_ hnew_; clear hg_ hnew_; (first | rw [← Ny408.out] at ho17 | (simp only [Int.reduceToNat] at ho17; rw [← Ny408.out] at ho17)); have n0_ := Aside0.mk (Kd.R_lower ho17 (below_size zz4)); have n1_ := Aside0.mk (blk_below (g := gb405) (o := .cells #[.int .i64 0, .int .i64 0, .string (⟨#[]⟩ : ByteArray), .string (⟨#[]⟩ : ByteArray)] 42 (0, 0)) zz27 hb); have n2_ := Aside0.mk (blk_below (g := gb406) (o := .cells #[.int .i64 a0, .int .i64 0, .string (⟨#[]⟩ : ByteArray), .string (⟨#[]⟩ : ByteArray)] 42 (0, 0)) zz28 hb); have n3_ := Aside0.mk (below_step zz4 hb); clear BK405; clear BK406; clear HB; have HO410 := n0_; have BK405 := n1_; have BK406 := n2_; have HB := n3_; clear n0_ n1_ n2_ n3_; clear hb ho17; obtain ⟨Ao18, co18, eo18⟩ := Kd.R_slice HO410.out; subst eo18; have p411 : 0 ≤ (t407 : Int) := of_decide_eq_true zz46; have q411 : t407 < (y408.length : Int) := of_decide_eq_true zz46; obtain ⟨ad411, e411, hx411_0⟩ := Kd.at_int (Kd.R_reads' HO410.out).2.2 t407 p411 q411; cases e411; replace p411 := eq_true p411; replace q411 := eq_true q411) | ((with_reducible refine gate_callee (f := 52) rfl ?_); refine goesL_ (some 36) rfl rfl Tryd.func52 zz49 rfl #[.string a1, .int .i64 (rd y408 t407)] rfl zz20 ?_; (with_reducible refine (fairwayref1_TakeFixed.calls kj3 a1 (rd y408 t407) t412 true _ A14.out).mono ?_); rintro e w' ⟨rfl, ⟨nd, rfl⟩⟩; refine ⟨_, rfl, ?_⟩; (try (rw [drewN_self w16]; generalize hq_ : World.drewN w16 _ = w16; have n0_ : Aside0 (Kd.R (Kd.int .i64) 3 w16 w.heap.size (fun _ => True) (.slice (some ad411) y408.length co18) y408) := ⟨by rw [← hq_]; exact (by (with_reducible repeat (first | apply Kd.R_alloc | apply Kd.R_drewN | apply Kd.R_drew)); exact HO410.out)⟩; have n1_ : Aside0 (w16.heap[gb405]? = some (.cells #[.int .i64 0, .int .i64 0, .string (⟨#[]⟩ : ByteArray), .string (⟨#[]⟩ : ByteArray)] 42 (0, 0))) := ⟨zz18⟩; have n2_ : Aside0 (w16.heap[gb406]? = some (.cells #[.int .i64 a0, .int .i64 0, .string (⟨#[]⟩ : ByteArray), .string (⟨#[]⟩ : ByteArray)] 42 (0, 0))) := ⟨zz19⟩; have n3_ : Aside0 (Below w.heap.size w w16) := ⟨zz3⟩; clear HO410 BK405 BK406 HB hq_; have HO410 := n0_; have BK405 := n1_; have BK406 := n2_; have HB := n3_; clear n0_ n1_ n2_ n3_)); have hnb19 := NB406_405.out; have hnc19 := NB405_406.out; have hcz20_0 : w16.cell? ⟨gb406, 0, none⟩ = some (.int .i64 a0) := (blk_cell BK406.out 0).trans rfl; have hcz20_1 : w16.cell? ⟨gb406, 1, none⟩ = some (.int .i64 0) := (blk_cell BK406.out 1).trans rfl; have hcz20_2 : w16.cell? ⟨gb406, 2, none⟩ = some (.string (⟨#[]⟩ : ByteArray)) := (blk_cell BK406.out 2).trans rfl; have hcz20_3 : w16.cell? ⟨gb406, 3, none⟩ = some (.string (⟨#[]⟩ : ByteArray)) := (blk_cell BK406.out 3).trans rfl; have hfz20_0 := blk_frozen BK406.out 0; have hfz20_1 := blk_frozen BK406.out 1; have hfz20_2 := blk_frozen BK406.out 2; have hfz20_3 := blk_frozen BK406.out 3; have hcz21_0 : w16.cell? ⟨gb405, 0, none⟩ = some (.int .i64 0) := (blk_cell BK405.out 0).trans rfl; have hcz21_1 : w16.cell? ⟨gb405, 1, none⟩ = some (.int .i64 0) := (blk_cell BK405.out 1).trans rfl; have hcz21_2 : w16.cell? ⟨gb405, 2, none⟩ = some (.string (⟨#[]⟩ : ByteArray)) := (blk_cell BK405.out 2).trans rfl; have hcz21_3 : w16.cell? ⟨gb405, 3, none⟩ = some (.string (⟨#[]⟩ : ByteArray)) := (blk_cell BK405.out 3).trans rfl; have hfz21_0 := blk_frozen BK405.out 0; have hfz21_1 := blk_frozen BK405.out 1; have hfz21_2 := blk_frozen BK405.out 2; have hfz21_3 := blk_frozen BK405.out 3))
        refine bodyPost_ret (results_ctt rfl _ _ gb405 42 #[.int .i64 a0, .int .i64 t412, .string (⟨#[]⟩ : ByteArray), .string (⟨#[]⟩ : ByteArray)] (0, 0) _ rfl (by (with_reducible repeat (first | refine blk_drewN ?_ _ | refine blk_drew ?_ | refine blk_alloc ?_ _)); refine blk_put (cs := #[.int .i64 a0, .int .i64 t412, .string (⟨#[]⟩ : ByteArray), .string (⟨#[]⟩ : ByteArray)]) ?_ 3 _ rfl; (with_reducible repeat (first | refine blk_drewN ?_ _ | refine blk_drew ?_ | refine blk_alloc ?_ _)); refine blk_put (cs := #[.int .i64 a0, .int .i64 t412, .string (⟨#[]⟩ : ByteArray), .string (⟨#[]⟩ : ByteArray)]) ?_ 2 _ rfl; (with_reducible repeat (first | refine blk_drewN ?_ _ | refine blk_drew ?_ | refine blk_alloc ?_ _)); refine blk_put (cs := #[.int .i64 a0, .int .i64 0, .string (⟨#[]⟩ : ByteArray), .string (⟨#[]⟩ : ByteArray)]) ?_ 1 _ rfl; (with_reducible repeat (first | refine blk_drewN ?_ _ | refine blk_drew ?_ | refine blk_alloc ?_ _)); refine blk_put (cs := #[.int .i64 0, .int .i64 0, .string (⟨#[]⟩ : ByteArray), .string (⟨#[]⟩ : ByteArray)]) ?_ 0 _ rfl; (with_reducible repeat (first | refine blk_drewN ?_ _ | refine blk_drew ?_ | refine blk_alloc ?_ _)); refine blk_far ?_ NB405_406.out _; (with_reducible repeat (first | refine blk_drewN ?_ _ | refine blk_drew ?_ | refine blk_alloc ?_ _)); exact BK405.out) Tryd.underlying42 rfl zz49) rfl ?_
        exact ⟨zz40, zz4⟩
       replace c15 := Bool.eq_false_iff.mpr c15; subst c15; have H1 : (some (a0, 0, (⟨#[]⟩ : ByteArray), (⟨#[]⟩ : ByteArray), 0, 8)) = some (r1, r2, r3, r4, r5, r6) := by rw [if_neg (show ¬ (false = true) by decide)] at H; exact H
       clear H; have H := H1; clear H1; simp only [Option.some.injEq, Prod.mk.injEq] at H; obtain ⟨rfl, rfl, rfl, rfl, rfl, rfl⟩ := H; go_wp2_with (first | ((with_reducible refine gate_dst (N := 29) rfl ?_); refine Kd.R_lit (Kd.int .i64) _ 3 ?hg (N := 29) ?hd (xs := ([0, 1, 2, 4] : List Int)) (inner := [.int .i64 0, .int .i64 1, .int .i64 2, .int .i64 4]) (ok := fun _ => True) (okp := fun _ => True) ?hr ?hp (fun _ hk => hk) trivial (Below.refl _ _) (Nat.le_refl _) (by simp) ?_; (case hd => rfl); (case hg => rfl); (case hr => first | (go_simp; done) | (go_simp; rfl)); (case hp => exact (Reps.one (show Kd.M (Kd.int .i64) _ _ _ 0 [.int .i64 0] from rfl) (Reps.one (show Kd.M (Kd.int .i64) _ _ _ 1 [.int .i64 1] from rfl) (Reps.one (show Kd.M (Kd.int .i64) _ _ _ 2 [.int .i64 2] from rfl) (Reps.one (show Kd.M (Kd.int .i64) _ _ _ 4 [.int .i64 4] from rfl) (Reps.none _ _)))))); intro v409 w22 ho23 hb hg_ hnew_; clear hg_ hnew_; (first | rw [← Ny408.out] at ho23 | (simp only [Int.reduceToNat] at ho23; rw [← Ny408.out] at ho23)); have n0_ := Aside0.mk (Kd.R_lower ho23 (below_size zz4)); have n1_ := Aside0.mk (blk_below (g := gb405) (o := .cells #[.int .i64 0, .int .i64 0, .string (⟨#[]⟩ : ByteArray), .string (⟨#[]⟩ : ByteArray)] 42 (0, 0)) zz27 hb); have n2_ := Aside0.mk (blk_below (g := gb406) (o := .cells #[.int .i64 a0, .int .i64 0, .string (⟨#[]⟩ : ByteArray), .string (⟨#[]⟩ : ByteArray)] 42 (0, 0)) zz28 hb); have n3_ := Aside0.mk (below_step zz4 hb); clear BK405; clear BK406; clear HB; have HO410 := n0_; have BK405 := n1_; have BK406 := n2_; have HB := n3_; clear n0_ n1_ n2_ n3_; clear hb ho23; obtain ⟨Ao24, co24, eo24⟩ := Kd.R_slice HO410.out; subst eo24; have p411 : 0 ≤ (t407 : Int) := of_decide_eq_true zz46; have q411 : t407 < (y408.length : Int) := of_decide_eq_true zz46; obtain ⟨ad411, e411, hx411_0⟩ := Kd.at_int (Kd.R_reads' HO410.out).2.2 t407 p411 q411; cases e411; replace p411 := eq_true p411; replace q411 := eq_true q411) | ((with_reducible refine gate_callee (f := 52) rfl ?_); refine goesL_ (some 36) rfl rfl Tryd.func52 zz49 rfl #[.string a1, .int .i64 (rd y408 t407)] rfl zz20 ?_; (with_reducible refine (fairwayref1_TakeFixed.calls kj3 a1 (rd y408 t407) t412 false _ A14.out).mono ?_); rintro e w' ⟨rfl, ⟨nd, rfl⟩⟩; refine ⟨_, rfl, ?_⟩; (try (rw [drewN_self w22]; generalize hq_ : World.drewN w22 _ = w22; have n0_ : Aside0 (Kd.R (Kd.int .i64) 3 w22 w.heap.size (fun _ => True) (.slice (some ad411) y408.length co24) y408) := ⟨by rw [← hq_]; exact (by (with_reducible repeat (first | apply Kd.R_alloc | apply Kd.R_drewN | apply Kd.R_drew)); exact HO410.out)⟩; have n1_ : Aside0 (w22.heap[gb405]? = some (.cells #[.int .i64 0, .int .i64 0, .string (⟨#[]⟩ : ByteArray), .string (⟨#[]⟩ : ByteArray)] 42 (0, 0))) := ⟨zz18⟩; have n2_ : Aside0 (w22.heap[gb406]? = some (.cells #[.int .i64 a0, .int .i64 0, .string (⟨#[]⟩ : ByteArray), .string (⟨#[]⟩ : ByteArray)] 42 (0, 0))) := ⟨zz19⟩; have n3_ : Aside0 (Below w.heap.size w w22) := ⟨zz3⟩; clear HO410 BK405 BK406 HB hq_; have HO410 := n0_; have BK405 := n1_; have BK406 := n2_; have HB := n3_; clear n0_ n1_ n2_ n3_)); have hnb25 := NB406_405.out; have hnc25 := NB405_406.out; have hcz26_0 : w22.cell? ⟨gb406, 0, none⟩ = some (.int .i64 a0) := (blk_cell BK406.out 0).trans rfl; have hcz26_1 : w22.cell? ⟨gb406, 1, none⟩ = some (.int .i64 0) := (blk_cell BK406.out 1).trans rfl; have hcz26_2 : w22.cell? ⟨gb406, 2, none⟩ = some (.string (⟨#[]⟩ : ByteArray)) := (blk_cell BK406.out 2).trans rfl; have hcz26_3 : w22.cell? ⟨gb406, 3, none⟩ = some (.string (⟨#[]⟩ : ByteArray)) := (blk_cell BK406.out 3).trans rfl; have hfz26_0 := blk_frozen BK406.out 0; have hfz26_1 := blk_frozen BK406.out 1; have hfz26_2 := blk_frozen BK406.out 2; have hfz26_3 := blk_frozen BK406.out 3; have hcz27_0 : w22.cell? ⟨gb405, 0, none⟩ = some (.int .i64 0) := (blk_cell BK405.out 0).trans rfl; have hcz27_1 : w22.cell? ⟨gb405, 1, none⟩ = some (.int .i64 0) := (blk_cell BK405.out 1).trans rfl; have hcz27_2 : w22.cell? ⟨gb405, 2, none⟩ = some (.string (⟨#[]⟩ : ByteArray)) := (blk_cell BK405.out 2).trans rfl; have hcz27_3 : w22.cell? ⟨gb405, 3, none⟩ = some (.string (⟨#[]⟩ : ByteArray)) := (blk_cell BK405.out 3).trans rfl; have hfz27_0 := blk_frozen BK405.out 0; have hfz27_1 := blk_frozen BK405.out 1; have hfz27_2 := blk_frozen BK405.out 2; have hfz27_3 := blk_frozen BK405.out 3))
       refine bodyPost_ret (results_ctt rfl _ _ gb405 42 #[.int .i64 a0, .int .i64 0, .string (⟨#[]⟩ : ByteArray), .string (⟨#[]⟩ : ByteArray)] (0, 0) _ rfl (by (with_reducible repeat (first | refine blk_drewN ?_ _ | refine blk_drew ?_ | refine blk_alloc ?_ _)); refine blk_put (cs := #[.int .i64 a0, .int .i64 0, .string (⟨#[]⟩ : ByteArray), .string (⟨#[]⟩ : ByteArray)]) ?_ 3 _ rfl; (with_reducible repeat (first | refine blk_drewN ?_ _ | refine blk_drew ?_ | refine blk_alloc ?_ _)); refine blk_put (cs := #[.int .i64 a0, .int .i64 0, .string (⟨#[]⟩ : ByteArray), .string (⟨#[]⟩ : ByteArray)]) ?_ 2 _ rfl; (with_reducible repeat (first | refine blk_drewN ?_ _ | refine blk_drew ?_ | refine blk_alloc ?_ _)); refine blk_put (cs := #[.int .i64 a0, .int .i64 0, .string (⟨#[]⟩ : ByteArray), .string (⟨#[]⟩ : ByteArray)]) ?_ 1 _ rfl; (with_reducible repeat (first | refine blk_drewN ?_ _ | refine blk_drew ?_ | refine blk_alloc ?_ _)); refine blk_put (cs := #[.int .i64 0, .int .i64 0, .string (⟨#[]⟩ : ByteArray), .string (⟨#[]⟩ : ByteArray)]) ?_ 0 _ rfl; (with_reducible repeat (first | refine blk_drewN ?_ _ | refine blk_drew ?_ | refine blk_alloc ?_ _)); exact BK405.out) Tryd.underlying42 rfl zz49) rfl ?_
       exact ⟨zz40, zz4⟩
      rw [if_neg c13] at H; exact absurd H (by simp)
     rw [if_neg c12] at H; exact absurd H (by simp)
    replace c11 := Bool.eq_false_iff.mpr c11; subst c11; have H1 : (if t407 = 4 then ((fairwayref1_TakeNum.f kj3 a1).bind fun bt414 => ((fairwayref4_inner.f bt414.2.2).bind fun t417 => (some (a0, bt414.1, (⟨#[]⟩ : ByteArray), (⟨#[]⟩ : ByteArray), bt414.2.1, t417)))) else ((fairwayref1_TakeLong.f kj3 a1 (t407 != 6)).bind fun bt418 => (if bt418.2.2 = 0 then (fairwayref4_value.j1 kj3 a1 bt418.1 bt418.2.1 bt418.2.2 (t407 != 7) a0 0 (⟨#[]⟩ : ByteArray) (⟨#[]⟩ : ByteArray)) else (fairwayref4_value.j1 kj3 a1 bt418.1 bt418.2.1 bt418.2.2 true a0 0 (⟨#[]⟩ : ByteArray) (⟨#[]⟩ : ByteArray))))) = some (r1, r2, r3, r4, r5, r6) := by rw [if_neg (show ¬ (false = true) by decide)] at H; exact H
    clear H; have H := H1; clear H1; by_cases c28 : t407 = 4
    ·
     rw [if_pos c28] at H; have c28b0 : (t407 == 4) = true := beq_iff_eq.mpr c28; have c28b1 : (t407 != 4) = false := bne_eq_false_iff_eq.mpr c28; clear c28; replace H := Option.bind_eq_some_iff.mp H; obtain ⟨⟨t414, t415, t416⟩, A290, H⟩ := H; replace H : ((fairwayref4_inner.f t416).bind fun t417 => (some (a0, t414, (⟨#[]⟩ : ByteArray), (⟨#[]⟩ : ByteArray), t415, t417))) = some (r1, r2, r3, r4, r5, r6) := H; have A29 := Aside0.mk A290; clear A290; replace H := Option.bind_eq_some_iff.mp H; obtain ⟨t417, A300, H⟩ := H; replace H : (some (a0, t414, (⟨#[]⟩ : ByteArray), (⟨#[]⟩ : ByteArray), t415, t417)) = some (r1, r2, r3, r4, r5, r6) := H; have A30 := Aside0.mk A300; clear A300; simp only [Option.some.injEq, Prod.mk.injEq] at H; obtain ⟨rfl, rfl, rfl, rfl, rfl, rfl⟩ := H; try go_wp2_with (first | ((with_reducible refine gate_callee (f := 39) rfl ?_); refine goesL_ (some 50) rfl rfl Tryd.func39 zz49 rfl #[.string a1] rfl zz20 ?_; (with_reducible refine (fairwayref1_TakeNum.calls kj3 a1 t414 t415 t416 _ A29.out).mono ?_); rintro e w' ⟨rfl, ⟨nd, rfl⟩⟩; refine ⟨_, rfl, ?_⟩; (try (rw [drewN_self wc]; generalize hq_ : World.drewN wc _ = wc; have n0_ : Aside0 (wc.heap[gb405]? = some (.cells #[.int .i64 0, .int .i64 0, .string (⟨#[]⟩ : ByteArray), .string (⟨#[]⟩ : ByteArray)] 42 (0, 0))) := ⟨zz18⟩; have n1_ : Aside0 (wc.heap[gb406]? = some (.cells #[.int .i64 a0, .int .i64 0, .string (⟨#[]⟩ : ByteArray), .string (⟨#[]⟩ : ByteArray)] 42 (0, 0))) := ⟨zz19⟩; have n2_ : Aside0 (Below w.heap.size w wc) := ⟨zz3⟩; clear BK405 BK406 HB hq_; have BK405 := n0_; have BK406 := n1_; have HB := n2_; clear n0_ n1_ n2_)); have hnb31 := NB406_405.out; have hnc31 := NB405_406.out; have hcz32_0 : wc.cell? ⟨gb406, 0, none⟩ = some (.int .i64 a0) := (blk_cell BK406.out 0).trans rfl; have hcz32_1 : wc.cell? ⟨gb406, 1, none⟩ = some (.int .i64 0) := (blk_cell BK406.out 1).trans rfl; have hcz32_2 : wc.cell? ⟨gb406, 2, none⟩ = some (.string (⟨#[]⟩ : ByteArray)) := (blk_cell BK406.out 2).trans rfl; have hcz32_3 : wc.cell? ⟨gb406, 3, none⟩ = some (.string (⟨#[]⟩ : ByteArray)) := (blk_cell BK406.out 3).trans rfl; have hfz32_0 := blk_frozen BK406.out 0; have hfz32_1 := blk_frozen BK406.out 1; have hfz32_2 := blk_frozen BK406.out 2; have hfz32_3 := blk_frozen BK406.out 3))
     have n0_ : Aside0 ((wc.setCell ⟨gb406, 1, none⟩ (.int .i64 t414)).heap[gb405]? = some (.cells #[.int .i64 0, .int .i64 0, .string (⟨#[]⟩ : ByteArray), .string (⟨#[]⟩ : ByteArray)] 42 (0, 0))) := ⟨by (with_reducible repeat (first | refine blk_drewN ?_ _ | refine blk_drew ?_ | refine blk_alloc ?_ _)); refine blk_far ?_ NB405_406.out _; (with_reducible repeat (first | refine blk_drewN ?_ _ | refine blk_drew ?_ | refine blk_alloc ?_ _)); exact BK405.out⟩; have n1_ : Aside0 ((wc.setCell ⟨gb406, 1, none⟩ (.int .i64 t414)).heap[gb406]? = some (.cells #[.int .i64 a0, .int .i64 t414, .string (⟨#[]⟩ : ByteArray), .string (⟨#[]⟩ : ByteArray)] 42 (0, 0))) := ⟨by (with_reducible repeat (first | refine blk_drewN ?_ _ | refine blk_drew ?_ | refine blk_alloc ?_ _)); refine blk_put (cs := #[.int .i64 a0, .int .i64 0, .string (⟨#[]⟩ : ByteArray), .string (⟨#[]⟩ : ByteArray)]) ?_ 1 _ rfl; (with_reducible repeat (first | refine blk_drewN ?_ _ | refine blk_drew ?_ | refine blk_alloc ?_ _)); exact BK406.out⟩; have n2_ : Aside0 (Below w.heap.size w (wc.setCell ⟨gb406, 1, none⟩ (.int .i64 t414))) := ⟨zz4⟩; (try clear BK405)
     (try clear BK406)
     (try clear HB)
     generalize (wc.setCell ⟨gb406, 1, none⟩ (.int .i64 t414)) = w33 at n0_ n1_ n2_ ⊢
     have BK405 := n0_; have BK406 := n1_; have HB := n2_; clear n0_ n1_ n2_; have n0_ := Aside0.mk (blk_drew BK405.out); have n1_ := Aside0.mk (blk_drew BK406.out); have n2_ := Aside0.mk (below_drew1 HB.out); clear BK405; clear BK406; clear HB; have BK405 := n0_; have BK406 := n1_; have HB := n2_; clear n0_ n1_ n2_; refine start_ (n := 7) (S := fun w' => w'.cell? ⟨gb406, 0, none⟩ = some (.int .i64 a0) ∧ w'.cell? ⟨gb406, 1, none⟩ = some (.int .i64 t414) ∧ w'.cell? ⟨gb406, 2, none⟩ = some (.string (⟨#[]⟩ : ByteArray)) ∧ w'.cell? ⟨gb406, 3, none⟩ = some (.string (⟨#[]⟩ : ByteArray))) (ds := []) #[false, false, false, false, false, false, false] zz49 rfl rfl ⟨(blk_cell BK406.out 0).trans rfl, (blk_cell BK406.out 1).trans rfl, (blk_cell BK406.out 2).trans rfl, (blk_cell BK406.out 3).trans rfl⟩ (fun hHeld => ?_)
     generalize w33.drew = w34 at BK405 BK406 HB hHeld ⊢
     refine pure_ (i := 1) (N := some 57) (v := ?_) (a' := ?_) #[false, true, false, false, false, false, false] rfl rfl zz49 (fun _ _ _ h => h) (Or.inl ⟨by rfl, ?_⟩) ?_ ?_
     rotate_left
     ·
      intro w'
      go_simp
      with_reducible rfl
     rotate_left
     ·
      simp only [Act.put, List.setIfInBounds_toArray, List.set_cons_zero, List.set_cons_succ, i64_w, i32_w]; rfl
     refine pure_ (i := 2) (N := some 58) (v := ?_) (a' := ?_) #[false, true, true, false, false, false, false] rfl rfl zz49 (fun _ _ _ h => h) (Or.inl ⟨by rfl, ?_⟩) ?_ ?_
     rotate_left
     ·
      intro w'
      go_simp
      with_reducible rfl
     rotate_left
     ·
      simp only [Act.put, List.setIfInBounds_toArray, List.set_cons_zero, List.set_cons_succ, i64_w, i32_w]; rfl
     refine take_ (i := 0) (N := some 56) (v := ?_) (a' := ?_) #[true, true, true, false, false, false, false] rfl rfl zz49 (fun _ _ _ h => h) (Or.inl ⟨by rfl, ?_⟩) hHeld ?_ ?_
     rotate_left
     ·
      rintro w' ⟨s0, s1, s2, s3⟩
      go_simp
      with_reducible rfl
     rotate_left
     ·
      simp only [Act.put, List.setIfInBounds_toArray, List.set_cons_zero, List.set_cons_succ, i64_w, i32_w]; rfl
     refine one_ (i := 3) (N := some 59) #[true, true, true, true, false, false, false] rfl rfl zz49 (by decide) (fun K hK => ?_)
     refine goes_ Tryd.func53 zz49 rfl #[.int .i64 t416] (by rfl) rfl rfl zz20 ?_
     with_reducible refine (fairwayref4_inner.calls t416 t417 _ A30.out).mono ?_
     rintro e w' ⟨rfl, ⟨nd, rfl⟩⟩
     refine ⟨_, rfl, ?_⟩
     refine hK.out _ _ ⟨(blk_cell BK406.out 0).trans rfl, (blk_cell BK406.out 1).trans rfl, (blk_cell BK406.out 2).trans rfl, (blk_cell BK406.out 3).trans rfl⟩ (fun hHeld => ?_)
     clear hK K; refine norm_ (a' := ?_) ?_ ?_
     rotate_left
     ·
      show Act.put _ (some 59) _ = _
      simp only [Act.put, List.setIfInBounds_toArray, List.set_cons_zero, List.set_cons_succ, i64_w, i32_w]; rfl
     refine one_ (i := 4) (N := none) #[true, true, true, true, true, false, false] rfl rfl zz49 (by decide) (fun K hK => ?_)
     have hs35 : w34.cell? ⟨gb405, 0, none⟩ = some (.int .i64 0) := (blk_cell BK405.out 0).trans rfl; have hfs35 := blk_frozen BK405.out 0; have hns35_1 := NB406_405.out; have hms35_1 := NB405_406.out; have hs36 : w34.cell? ⟨gb405, 1, none⟩ = some (.int .i64 0) := (blk_cell BK405.out 1).trans rfl; have hfs36 := blk_frozen BK405.out 1; have hns36_1 := NB406_405.out; have hms36_1 := NB405_406.out; have hs37 : w34.cell? ⟨gb405, 2, none⟩ = some (.string (⟨#[]⟩ : ByteArray)) := (blk_cell BK405.out 2).trans rfl; have hfs37 := blk_frozen BK405.out 2; have hns37_1 := NB406_405.out; have hms37_1 := NB405_406.out; have hs38 : w34.cell? ⟨gb405, 3, none⟩ = some (.string (⟨#[]⟩ : ByteArray)) := (blk_cell BK405.out 3).trans rfl; have hfs38 := blk_frozen BK405.out 3; have hns38_1 := NB406_405.out; have hms38_1 := NB405_406.out; refine skip_ (w1 := ?_) (by rfl) rfl ?_ ?_
     rotate_left
     ·
      go_simp
      rfl
     refine hK.out _ _ ⟨((cell_far (p := ⟨gb405, _, none⟩) NB406_405.out _).trans (((cell_far (p := ⟨gb405, _, none⟩) NB406_405.out _).trans (((cell_far (p := ⟨gb405, _, none⟩) NB406_405.out _).trans (((cell_far (p := ⟨gb405, _, none⟩) NB406_405.out _).trans (hHeld.1)))))))), ((cell_far (p := ⟨gb405, _, none⟩) NB406_405.out _).trans (((cell_far (p := ⟨gb405, _, none⟩) NB406_405.out _).trans (((cell_far (p := ⟨gb405, _, none⟩) NB406_405.out _).trans (((cell_far (p := ⟨gb405, _, none⟩) NB406_405.out _).trans (hHeld.2.1)))))))), ((cell_far (p := ⟨gb405, _, none⟩) NB406_405.out _).trans (((cell_far (p := ⟨gb405, _, none⟩) NB406_405.out _).trans (((cell_far (p := ⟨gb405, _, none⟩) NB406_405.out _).trans (((cell_far (p := ⟨gb405, _, none⟩) NB406_405.out _).trans (hHeld.2.2.1)))))))), ((cell_far (p := ⟨gb405, _, none⟩) NB406_405.out _).trans (((cell_far (p := ⟨gb405, _, none⟩) NB406_405.out _).trans (((cell_far (p := ⟨gb405, _, none⟩) NB406_405.out _).trans (((cell_far (p := ⟨gb405, _, none⟩) NB406_405.out _).trans (hHeld.2.2.2))))))))⟩ (fun hHeld => ?_)
     clear hK K; refine pure_ (i := 5) (N := some 5) (v := ?_) (a' := ?_) #[true, true, true, true, true, true, false] rfl rfl zz49 (fun _ _ _ h => h) (Or.inl ⟨by rfl, ?_⟩) ?_ ?_
     rotate_left
     ·
      intro w'
      go_simp
      with_reducible rfl
     rotate_left
     ·
      simp only [Act.put, List.setIfInBounds_toArray, List.set_cons_zero, List.set_cons_succ, i64_w, i32_w]; rfl
     refine pure_ (i := 6) (N := some 6) (v := ?_) (a' := ?_) #[true, true, true, true, true, true, true] rfl rfl zz49 (fun _ _ _ h => h) (Or.inl ⟨by rfl, ?_⟩) ?_ ?_
     rotate_left
     ·
      intro w'
      go_simp
      with_reducible rfl
     rotate_left
     ·
      simp only [Act.put, List.setIfInBounds_toArray, List.set_cons_zero, List.set_cons_succ, i64_w, i32_w]; rfl
     refine done_ zz49 ?_
     try go_wp2
     refine bodyPost_ret (results_ctt rfl _ _ gb405 42 #[.int .i64 a0, .int .i64 t414, .string (⟨#[]⟩ : ByteArray), .string (⟨#[]⟩ : ByteArray)] (0, 0) _ rfl (by (with_reducible repeat (first | refine blk_drewN ?_ _ | refine blk_drew ?_ | refine blk_alloc ?_ _)); refine blk_put (cs := #[.int .i64 a0, .int .i64 t414, .string (⟨#[]⟩ : ByteArray), .string (⟨#[]⟩ : ByteArray)]) ?_ 3 _ rfl; (with_reducible repeat (first | refine blk_drewN ?_ _ | refine blk_drew ?_ | refine blk_alloc ?_ _)); refine blk_put (cs := #[.int .i64 a0, .int .i64 t414, .string (⟨#[]⟩ : ByteArray), .string (⟨#[]⟩ : ByteArray)]) ?_ 2 _ rfl; (with_reducible repeat (first | refine blk_drewN ?_ _ | refine blk_drew ?_ | refine blk_alloc ?_ _)); refine blk_put (cs := #[.int .i64 a0, .int .i64 0, .string (⟨#[]⟩ : ByteArray), .string (⟨#[]⟩ : ByteArray)]) ?_ 1 _ rfl; (with_reducible repeat (first | refine blk_drewN ?_ _ | refine blk_drew ?_ | refine blk_alloc ?_ _)); refine blk_put (cs := #[.int .i64 0, .int .i64 0, .string (⟨#[]⟩ : ByteArray), .string (⟨#[]⟩ : ByteArray)]) ?_ 0 _ rfl; (with_reducible repeat (first | refine blk_drewN ?_ _ | refine blk_drew ?_ | refine blk_alloc ?_ _)); exact BK405.out) Tryd.underlying42 rfl zz49) rfl ?_
     exact ⟨zz40, zz4⟩
    rw [if_neg c28] at H; have c28b0 : (t407 == 4) = false := beq_eq_false_iff_ne.mpr c28; have c28b1 : (t407 != 4) = true := bne_iff_ne.mpr c28; replace H := Option.bind_eq_some_iff.mp H; obtain ⟨⟨t418, t419, t420⟩, A390, H⟩ := H; replace H : (if t420 = 0 then (fairwayref4_value.j1 kj3 a1 t418 t419 t420 (t407 != 7) a0 0 (⟨#[]⟩ : ByteArray) (⟨#[]⟩ : ByteArray)) else (fairwayref4_value.j1 kj3 a1 t418 t419 t420 true a0 0 (⟨#[]⟩ : ByteArray) (⟨#[]⟩ : ByteArray))) = some (r1, r2, r3, r4, r5, r6) := H; have A39 := Aside0.mk A390; clear A390; have HC40 := Aside0.mk H; clear H; go_upto_region 18 with (first | ((with_reducible refine gate_callee (f := 54) rfl ?_); refine goesL_ (some 64) rfl rfl Tryd.func54 zz49 rfl #[.string a1, .bool (t407 != 6)] rfl zz20 ?_; (with_reducible refine (fairwayref1_TakeLong.calls kj3 a1 (t407 != 6) t418 t419 t420 _ A39.out).mono ?_); rintro e w' ⟨rfl, ⟨nd, rfl⟩⟩; refine ⟨_, rfl, ?_⟩))
    (try simp only [Act.put, List.setIfInBounds_toArray, List.set_cons_zero, List.set_cons_succ])
    go_cut [73] (fun v73 wc => ∃ (kq : Nat) (x73_39 : Bool), v73 = .bool x73_39 ∧ Aside0 (fairwayref4_value.j1 kq a1 t418 t419 t420 x73_39 a0 0 (⟨#[]⟩ : ByteArray) (⟨#[]⟩ : ByteArray) = some (r1, r2, r3, r4, r5, r6)) ∧ Aside0 (kq ≤ kj3) ∧ Aside0 (wc.heap[gb405]? = some (.cells #[.int .i64 0, .int .i64 0, .string (⟨#[]⟩ : ByteArray), .string (⟨#[]⟩ : ByteArray)] 42 (0, 0))) ∧ Aside0 (wc.heap[gb406]? = some (.cells #[.int .i64 a0, .int .i64 0, .string (⟨#[]⟩ : ByteArray), .string (⟨#[]⟩ : ByteArray)] 42 (0, 0))) ∧ Aside0 (Below w.heap.size w wc))
    case first =>
     have H := HC40.out; clear HC40; by_cases c41 : t420 = 0
     ·
      rw [if_pos c41] at H; have c41b0 : (t420 == 0) = true := beq_iff_eq.mpr c41; have c41b1 : (t420 != 0) = false := bne_eq_false_iff_eq.mpr c41; clear c41; (first | rw [c41b0] | (simp only [i64_w, i32_w]; rw [c41b0]) | skip)
      have H' := Aside0.mk H; clear H; go_wp2
      go_meet
      case rel => exact ⟨_, ((t407 != 7)), zz47, H', ⟨by have := HJ3.out; first | omega | exact Nat.le_refl _⟩, ⟨zz27⟩, ⟨zz28⟩, ⟨zz4⟩⟩
     rw [if_neg c41] at H; have c41b0 : (t420 == 0) = false := beq_eq_false_iff_ne.mpr c41; have c41b1 : (t420 != 0) = true := bne_iff_ne.mpr c41; (first | rw [c41b0] | (simp only [i64_w, i32_w]; rw [c41b0]) | skip)
     have H' := Aside0.mk H; clear H; go_wp2
     go_meet
     case rel => exact ⟨_, (true), zz47, H', ⟨by have := HJ3.out; first | omega | exact Nat.le_refl _⟩, ⟨zz27⟩, ⟨zz28⟩, ⟨zz4⟩⟩
    case rest =>
     as_aux_lemma =>
      clear HC40; (try clear c1); (try clear c2); (try clear p2); (try clear c3); (try clear c4); (try clear p4); (try clear q4); (try clear hx4); (try clear c5); (try clear c7); (try clear c9); (try clear c9b0); (try clear c9b1); (try clear c10); (try clear c10b0); (try clear c10b1); (try clear c11); (try clear c12); (try clear c12b0); (try clear c13); (try clear c13b0); (try clear c15); (try clear c19); (try clear c25); (try clear c28); (try clear c28b0); (try clear c28b1); (try clear c31); (try clear c39); (try clear c40); (try clear c41); (try clear c41b0); (try clear c41b1); (try clear p41); (try clear q41); (try clear hx41); (try clear hcz20_0); (try clear hcz20_1); (try clear hcz20_2); (try clear hcz20_3); (try clear hcz21_0); (try clear hcz21_1); (try clear hcz21_2); (try clear hcz21_3); (try clear hcz26_0); (try clear hcz26_1); (try clear hcz26_2); (try clear hcz26_3); (try clear hcz27_0); (try clear hcz27_1); (try clear hcz27_2); (try clear hcz27_3); (try clear hcz32_0); (try clear hcz32_1); (try clear hcz32_2); (try clear hcz32_3); (try clear hcz8_0); (try clear hcz8_1); (try clear hcz8_2); (try clear hcz8_3); (try clear hfz20_0); (try clear hfz20_1); (try clear hfz20_2); (try clear hfz20_3); (try clear hfz21_0); (try clear hfz21_1); (try clear hfz21_2); (try clear hfz21_3); (try clear hfz26_0); (try clear hfz26_1); (try clear hfz26_2); (try clear hfz26_3); (try clear hfz27_0); (try clear hfz27_1); (try clear hfz27_2); (try clear hfz27_3); (try clear hfz32_0); (try clear hfz32_1); (try clear hfz32_2); (try clear hfz32_3); (try clear hfz8_0); (try clear hfz8_1); (try clear hfz8_2); (try clear hfz8_3); (try clear hx411_0); (try clear p2); (try clear p411); (try clear q411); obtain ⟨kq, x73_39, rfl, HA, HJ39, BK405, BK406, HB⟩ := hcut; cases kq with
      | zero => exact absurd HA.out (by simp [fairwayref4_value.j1])
      | succ kj39 =>
       have H := HA.out; clear HA; simp only [fairwayref4_value.j1] at H; by_cases c42 : x73_39 = true
       ·
        subst c42; have H1 : ((fairwayref4_inner.f t420).bind fun t421 => (some (a0, 0, t418, (⟨#[]⟩ : ByteArray), t419, t421))) = some (r1, r2, r3, r4, r5, r6) := by rw [if_pos rfl] at H; exact H
        clear H; have H := H1; clear H1; replace H := Option.bind_eq_some_iff.mp H; obtain ⟨t421, A430, H⟩ := H; replace H : (some (a0, 0, t418, (⟨#[]⟩ : ByteArray), t419, t421)) = some (r1, r2, r3, r4, r5, r6) := H; have A43 := Aside0.mk A430; clear A430; simp only [Option.some.injEq, Prod.mk.injEq] at H; obtain ⟨rfl, rfl, rfl, rfl, rfl, rfl⟩ := H; have hnb44 := NB406_405.out; have hnc44 := NB405_406.out; have hcz45_0 : wc.cell? ⟨gb406, 0, none⟩ = some (.int .i64 a0) := (blk_cell BK406.out 0).trans rfl; have hcz45_1 : wc.cell? ⟨gb406, 1, none⟩ = some (.int .i64 0) := (blk_cell BK406.out 1).trans rfl; have hcz45_2 : wc.cell? ⟨gb406, 2, none⟩ = some (.string (⟨#[]⟩ : ByteArray)) := (blk_cell BK406.out 2).trans rfl; have hcz45_3 : wc.cell? ⟨gb406, 3, none⟩ = some (.string (⟨#[]⟩ : ByteArray)) := (blk_cell BK406.out 3).trans rfl; have hfz45_0 := blk_frozen BK406.out 0; have hfz45_1 := blk_frozen BK406.out 1; have hfz45_2 := blk_frozen BK406.out 2; have hfz45_3 := blk_frozen BK406.out 3; try go_wp2
        have n0_ : Aside0 ((wc.setCell ⟨gb406, 2, none⟩ (.string t418)).heap[gb405]? = some (.cells #[.int .i64 0, .int .i64 0, .string (⟨#[]⟩ : ByteArray), .string (⟨#[]⟩ : ByteArray)] 42 (0, 0))) := ⟨by (with_reducible repeat (first | refine blk_drewN ?_ _ | refine blk_drew ?_ | refine blk_alloc ?_ _)); refine blk_far ?_ NB405_406.out _; (with_reducible repeat (first | refine blk_drewN ?_ _ | refine blk_drew ?_ | refine blk_alloc ?_ _)); exact BK405.out⟩; have n1_ : Aside0 ((wc.setCell ⟨gb406, 2, none⟩ (.string t418)).heap[gb406]? = some (.cells #[.int .i64 a0, .int .i64 0, .string t418, .string (⟨#[]⟩ : ByteArray)] 42 (0, 0))) := ⟨by (with_reducible repeat (first | refine blk_drewN ?_ _ | refine blk_drew ?_ | refine blk_alloc ?_ _)); refine blk_put (cs := #[.int .i64 a0, .int .i64 0, .string (⟨#[]⟩ : ByteArray), .string (⟨#[]⟩ : ByteArray)]) ?_ 2 _ rfl; (with_reducible repeat (first | refine blk_drewN ?_ _ | refine blk_drew ?_ | refine blk_alloc ?_ _)); exact BK406.out⟩; have n2_ : Aside0 (Below w.heap.size w (wc.setCell ⟨gb406, 2, none⟩ (.string t418))) := ⟨zz4⟩; (try clear BK405)
        (try clear BK406)
        (try clear HB)
        generalize (wc.setCell ⟨gb406, 2, none⟩ (.string t418)) = w46 at n0_ n1_ n2_ ⊢
        have BK405 := n0_; have BK406 := n1_; have HB := n2_; clear n0_ n1_ n2_; have n0_ := Aside0.mk (blk_drew BK405.out); have n1_ := Aside0.mk (blk_drew BK406.out); have n2_ := Aside0.mk (below_drew1 HB.out); clear BK405; clear BK406; clear HB; have BK405 := n0_; have BK406 := n1_; have HB := n2_; clear n0_ n1_ n2_; refine start_ (n := 7) (S := fun w' => w'.cell? ⟨gb406, 0, none⟩ = some (.int .i64 a0) ∧ w'.cell? ⟨gb406, 1, none⟩ = some (.int .i64 0) ∧ w'.cell? ⟨gb406, 2, none⟩ = some (.string t418) ∧ w'.cell? ⟨gb406, 3, none⟩ = some (.string (⟨#[]⟩ : ByteArray))) (ds := []) #[false, false, false, false, false, false, false] zz49 rfl rfl ⟨(blk_cell BK406.out 0).trans rfl, (blk_cell BK406.out 1).trans rfl, (blk_cell BK406.out 2).trans rfl, (blk_cell BK406.out 3).trans rfl⟩ (fun hHeld => ?_)
        generalize w46.drew = w47 at BK405 BK406 HB hHeld ⊢
        refine pure_ (i := 1) (N := some 77) (v := ?_) (a' := ?_) #[false, true, false, false, false, false, false] rfl rfl zz49 (fun _ _ _ h => h) (Or.inl ⟨by rfl, ?_⟩) ?_ ?_
        rotate_left
        ·
         intro w'
         go_simp
         with_reducible rfl
        rotate_left
        ·
         simp only [Act.put, List.setIfInBounds_toArray, List.set_cons_zero, List.set_cons_succ, i64_w, i32_w]; rfl
        refine pure_ (i := 2) (N := some 78) (v := ?_) (a' := ?_) #[false, true, true, false, false, false, false] rfl rfl zz49 (fun _ _ _ h => h) (Or.inl ⟨by rfl, ?_⟩) ?_ ?_
        rotate_left
        ·
         intro w'
         go_simp
         with_reducible rfl
        rotate_left
        ·
         simp only [Act.put, List.setIfInBounds_toArray, List.set_cons_zero, List.set_cons_succ, i64_w, i32_w]; rfl
        refine take_ (i := 0) (N := some 76) (v := ?_) (a' := ?_) #[true, true, true, false, false, false, false] rfl rfl zz49 (fun _ _ _ h => h) (Or.inl ⟨by rfl, ?_⟩) hHeld ?_ ?_
        rotate_left
        ·
         rintro w' ⟨s0, s1, s2, s3⟩
         go_simp
         with_reducible rfl
        rotate_left
        ·
         simp only [Act.put, List.setIfInBounds_toArray, List.set_cons_zero, List.set_cons_succ, i64_w, i32_w]; rfl
        refine one_ (i := 3) (N := some 79) #[true, true, true, true, false, false, false] rfl rfl zz49 (by decide) (fun K hK => ?_)
        refine goes_ Tryd.func53 zz49 rfl #[.int .i64 t420] (by rfl) rfl rfl zz20 ?_
        with_reducible refine (fairwayref4_inner.calls t420 t421 _ A43.out).mono ?_
        rintro e w' ⟨rfl, ⟨nd, rfl⟩⟩
        refine ⟨_, rfl, ?_⟩
        refine hK.out _ _ ⟨(blk_cell BK406.out 0).trans rfl, (blk_cell BK406.out 1).trans rfl, (blk_cell BK406.out 2).trans rfl, (blk_cell BK406.out 3).trans rfl⟩ (fun hHeld => ?_)
        clear hK K; refine norm_ (a' := ?_) ?_ ?_
        rotate_left
        ·
         show Act.put _ (some 79) _ = _
         simp only [Act.put, List.setIfInBounds_toArray, List.set_cons_zero, List.set_cons_succ, i64_w, i32_w]; rfl
        refine one_ (i := 4) (N := none) #[true, true, true, true, true, false, false] rfl rfl zz49 (by decide) (fun K hK => ?_)
        have hs48 : w47.cell? ⟨gb405, 0, none⟩ = some (.int .i64 0) := (blk_cell BK405.out 0).trans rfl; have hfs48 := blk_frozen BK405.out 0; have hns48_1 := NB406_405.out; have hms48_1 := NB405_406.out; have hs49 : w47.cell? ⟨gb405, 1, none⟩ = some (.int .i64 0) := (blk_cell BK405.out 1).trans rfl; have hfs49 := blk_frozen BK405.out 1; have hns49_1 := NB406_405.out; have hms49_1 := NB405_406.out; have hs50 : w47.cell? ⟨gb405, 2, none⟩ = some (.string (⟨#[]⟩ : ByteArray)) := (blk_cell BK405.out 2).trans rfl; have hfs50 := blk_frozen BK405.out 2; have hns50_1 := NB406_405.out; have hms50_1 := NB405_406.out; have hs51 : w47.cell? ⟨gb405, 3, none⟩ = some (.string (⟨#[]⟩ : ByteArray)) := (blk_cell BK405.out 3).trans rfl; have hfs51 := blk_frozen BK405.out 3; have hns51_1 := NB406_405.out; have hms51_1 := NB405_406.out; refine skip_ (w1 := ?_) (by rfl) rfl ?_ ?_
        rotate_left
        ·
         go_simp
         rfl
        refine hK.out _ _ ⟨((cell_far (p := ⟨gb405, _, none⟩) NB406_405.out _).trans (((cell_far (p := ⟨gb405, _, none⟩) NB406_405.out _).trans (((cell_far (p := ⟨gb405, _, none⟩) NB406_405.out _).trans (((cell_far (p := ⟨gb405, _, none⟩) NB406_405.out _).trans (hHeld.1)))))))), ((cell_far (p := ⟨gb405, _, none⟩) NB406_405.out _).trans (((cell_far (p := ⟨gb405, _, none⟩) NB406_405.out _).trans (((cell_far (p := ⟨gb405, _, none⟩) NB406_405.out _).trans (((cell_far (p := ⟨gb405, _, none⟩) NB406_405.out _).trans (hHeld.2.1)))))))), ((cell_far (p := ⟨gb405, _, none⟩) NB406_405.out _).trans (((cell_far (p := ⟨gb405, _, none⟩) NB406_405.out _).trans (((cell_far (p := ⟨gb405, _, none⟩) NB406_405.out _).trans (((cell_far (p := ⟨gb405, _, none⟩) NB406_405.out _).trans (hHeld.2.2.1)))))))), ((cell_far (p := ⟨gb405, _, none⟩) NB406_405.out _).trans (((cell_far (p := ⟨gb405, _, none⟩) NB406_405.out _).trans (((cell_far (p := ⟨gb405, _, none⟩) NB406_405.out _).trans (((cell_far (p := ⟨gb405, _, none⟩) NB406_405.out _).trans (hHeld.2.2.2))))))))⟩ (fun hHeld => ?_)
        clear hK K; refine pure_ (i := 5) (N := some 5) (v := ?_) (a' := ?_) #[true, true, true, true, true, true, false] rfl rfl zz49 (fun _ _ _ h => h) (Or.inl ⟨by rfl, ?_⟩) ?_ ?_
        rotate_left
        ·
         intro w'
         go_simp
         with_reducible rfl
        rotate_left
        ·
         simp only [Act.put, List.setIfInBounds_toArray, List.set_cons_zero, List.set_cons_succ, i64_w, i32_w]; rfl
        refine pure_ (i := 6) (N := some 6) (v := ?_) (a' := ?_) #[true, true, true, true, true, true, true] rfl rfl zz49 (fun _ _ _ h => h) (Or.inl ⟨by rfl, ?_⟩) ?_ ?_
        rotate_left
        ·
         intro w'
         go_simp
         with_reducible rfl
        rotate_left
        ·
         simp only [Act.put, List.setIfInBounds_toArray, List.set_cons_zero, List.set_cons_succ, i64_w, i32_w]; rfl
        refine done_ zz49 ?_
        try go_wp2
        refine bodyPost_ret (results_ctt rfl _ _ gb405 42 #[.int .i64 a0, .int .i64 0, .string t418, .string (⟨#[]⟩ : ByteArray)] (0, 0) _ rfl (by (with_reducible repeat (first | refine blk_drewN ?_ _ | refine blk_drew ?_ | refine blk_alloc ?_ _)); refine blk_put (cs := #[.int .i64 a0, .int .i64 0, .string t418, .string (⟨#[]⟩ : ByteArray)]) ?_ 3 _ rfl; (with_reducible repeat (first | refine blk_drewN ?_ _ | refine blk_drew ?_ | refine blk_alloc ?_ _)); refine blk_put (cs := #[.int .i64 a0, .int .i64 0, .string (⟨#[]⟩ : ByteArray), .string (⟨#[]⟩ : ByteArray)]) ?_ 2 _ rfl; (with_reducible repeat (first | refine blk_drewN ?_ _ | refine blk_drew ?_ | refine blk_alloc ?_ _)); refine blk_put (cs := #[.int .i64 a0, .int .i64 0, .string (⟨#[]⟩ : ByteArray), .string (⟨#[]⟩ : ByteArray)]) ?_ 1 _ rfl; (with_reducible repeat (first | refine blk_drewN ?_ _ | refine blk_drew ?_ | refine blk_alloc ?_ _)); refine blk_put (cs := #[.int .i64 0, .int .i64 0, .string (⟨#[]⟩ : ByteArray), .string (⟨#[]⟩ : ByteArray)]) ?_ 0 _ rfl; (with_reducible repeat (first | refine blk_drewN ?_ _ | refine blk_drew ?_ | refine blk_alloc ?_ _)); exact BK405.out) Tryd.underlying42 rfl zz49) rfl ?_
        exact ⟨zz40, zz4⟩
       replace c42 := Bool.eq_false_iff.mpr c42; subst c42; have H1 : (if 0 ≤ t419 then (if t419 ≤ (a1.size : Int) then ((fairwayref1_TakeLong.f kj39 (a1.extract (t419 : Int).toNat a1.size) true).bind fun bt422 => ((fairwayref4_inner.f bt422.2.2).bind fun t425 => (some (a0, 0, t418, bt422.1, wrap64 (t419 + bt422.2.1), t425)))) else (none)) else (none)) = some (r1, r2, r3, r4, r5, r6) := by rw [if_neg (show ¬ (false = true) by decide)] at H; exact H
       clear H; have H := H1; clear H1; by_cases c52 : 0 ≤ t419
       ·
        rw [if_pos c52] at H; have c52b0 := eq_true c52; have c52b1 : decide (0 ≤ t419) = true := decide_eq_true c52; clear c52; by_cases c53 : t419 ≤ (a1.size : Int)
        ·
         rw [if_pos c53] at H; have c53b0 := eq_true c53; have c53b1 : decide (t419 ≤ (a1.size : Int)) = true := decide_eq_true c53; clear c53; replace H := Option.bind_eq_some_iff.mp H; obtain ⟨⟨t422, t423, t424⟩, A540, H⟩ := H; replace H : ((fairwayref4_inner.f t424).bind fun t425 => (some (a0, 0, t418, t422, wrap64 (t419 + t423), t425))) = some (r1, r2, r3, r4, r5, r6) := H; have A54 := Aside0.mk A540; clear A540; replace H := Option.bind_eq_some_iff.mp H; obtain ⟨t425, A550, H⟩ := H; replace H : (some (a0, 0, t418, t422, wrap64 (t419 + t423), t425)) = some (r1, r2, r3, r4, r5, r6) := H; have A55 := Aside0.mk A550; clear A550; simp only [Option.some.injEq, Prod.mk.injEq] at H; obtain ⟨rfl, rfl, rfl, rfl, rfl, rfl⟩ := H; try go_wp2_with (first | ((with_reducible refine gate_callee (f := 54) rfl ?_); refine goesL_ (some 84) rfl rfl Tryd.func54 zz49 rfl #[.string (a1.extract (t419 : Int).toNat a1.size), .bool true] rfl zz20 ?_; (with_reducible refine (fairwayref1_TakeLong.calls kj39 (a1.extract (t419 : Int).toNat a1.size) true t422 t423 t424 _ A54.out).mono ?_); rintro e w' ⟨rfl, ⟨nd, rfl⟩⟩; refine ⟨_, rfl, ?_⟩; (try (rw [drewN_self wc]; generalize hq_ : World.drewN wc _ = wc; have n0_ : Aside0 (wc.heap[gb405]? = some (.cells #[.int .i64 0, .int .i64 0, .string (⟨#[]⟩ : ByteArray), .string (⟨#[]⟩ : ByteArray)] 42 (0, 0))) := ⟨zz18⟩; have n1_ : Aside0 (wc.heap[gb406]? = some (.cells #[.int .i64 a0, .int .i64 0, .string (⟨#[]⟩ : ByteArray), .string (⟨#[]⟩ : ByteArray)] 42 (0, 0))) := ⟨zz19⟩; have n2_ : Aside0 (Below w.heap.size w wc) := ⟨zz3⟩; clear BK405 BK406 HB hq_; have BK405 := n0_; have BK406 := n1_; have HB := n2_; clear n0_ n1_ n2_)); have hnb56 := NB406_405.out; have hnc56 := NB405_406.out; have hcz57_0 : wc.cell? ⟨gb406, 0, none⟩ = some (.int .i64 a0) := (blk_cell BK406.out 0).trans rfl; have hcz57_1 : wc.cell? ⟨gb406, 1, none⟩ = some (.int .i64 0) := (blk_cell BK406.out 1).trans rfl; have hcz57_2 : wc.cell? ⟨gb406, 2, none⟩ = some (.string (⟨#[]⟩ : ByteArray)) := (blk_cell BK406.out 2).trans rfl; have hcz57_3 : wc.cell? ⟨gb406, 3, none⟩ = some (.string (⟨#[]⟩ : ByteArray)) := (blk_cell BK406.out 3).trans rfl; have hfz57_0 := blk_frozen BK406.out 0; have hfz57_1 := blk_frozen BK406.out 1; have hfz57_2 := blk_frozen BK406.out 2; have hfz57_3 := blk_frozen BK406.out 3))
         have n0_ : Aside0 (((wc.setCell ⟨gb406, 2, none⟩ (.string t418)).setCell ⟨gb406, 3, none⟩ (.string t422)).heap[gb405]? = some (.cells #[.int .i64 0, .int .i64 0, .string (⟨#[]⟩ : ByteArray), .string (⟨#[]⟩ : ByteArray)] 42 (0, 0))) := ⟨by (with_reducible repeat (first | refine blk_drewN ?_ _ | refine blk_drew ?_ | refine blk_alloc ?_ _)); refine blk_far ?_ NB405_406.out _; (with_reducible repeat (first | refine blk_drewN ?_ _ | refine blk_drew ?_ | refine blk_alloc ?_ _)); refine blk_far ?_ NB405_406.out _; (with_reducible repeat (first | refine blk_drewN ?_ _ | refine blk_drew ?_ | refine blk_alloc ?_ _)); exact BK405.out⟩; have n1_ : Aside0 (((wc.setCell ⟨gb406, 2, none⟩ (.string t418)).setCell ⟨gb406, 3, none⟩ (.string t422)).heap[gb406]? = some (.cells #[.int .i64 a0, .int .i64 0, .string t418, .string t422] 42 (0, 0))) := ⟨by (with_reducible repeat (first | refine blk_drewN ?_ _ | refine blk_drew ?_ | refine blk_alloc ?_ _)); refine blk_put (cs := #[.int .i64 a0, .int .i64 0, .string t418, .string (⟨#[]⟩ : ByteArray)]) ?_ 3 _ rfl; (with_reducible repeat (first | refine blk_drewN ?_ _ | refine blk_drew ?_ | refine blk_alloc ?_ _)); refine blk_put (cs := #[.int .i64 a0, .int .i64 0, .string (⟨#[]⟩ : ByteArray), .string (⟨#[]⟩ : ByteArray)]) ?_ 2 _ rfl; (with_reducible repeat (first | refine blk_drewN ?_ _ | refine blk_drew ?_ | refine blk_alloc ?_ _)); exact BK406.out⟩; have n2_ : Aside0 (Below w.heap.size w ((wc.setCell ⟨gb406, 2, none⟩ (.string t418)).setCell ⟨gb406, 3, none⟩ (.string t422))) := ⟨zz4⟩; (try clear BK405)
         (try clear BK406)
         (try clear HB)
         generalize ((wc.setCell ⟨gb406, 2, none⟩ (.string t418)).setCell ⟨gb406, 3, none⟩ (.string t422)) = w58 at n0_ n1_ n2_ ⊢
         have BK405 := n0_; have BK406 := n1_; have HB := n2_; clear n0_ n1_ n2_; have n0_ := Aside0.mk (blk_drew BK405.out); have n1_ := Aside0.mk (blk_drew BK406.out); have n2_ := Aside0.mk (below_drew1 HB.out); clear BK405; clear BK406; clear HB; have BK405 := n0_; have BK406 := n1_; have HB := n2_; clear n0_ n1_ n2_; refine start_ (n := 9) (S := fun w' => w'.cell? ⟨gb406, 0, none⟩ = some (.int .i64 a0) ∧ w'.cell? ⟨gb406, 1, none⟩ = some (.int .i64 0) ∧ w'.cell? ⟨gb406, 2, none⟩ = some (.string t418) ∧ w'.cell? ⟨gb406, 3, none⟩ = some (.string t422)) (ds := []) #[false, false, false, false, false, false, false, false, false] zz49 rfl rfl ⟨(blk_cell BK406.out 0).trans rfl, (blk_cell BK406.out 1).trans rfl, (blk_cell BK406.out 2).trans rfl, (blk_cell BK406.out 3).trans rfl⟩ (fun hHeld => ?_); refine with_tabW fairwayref4_value.tab23 fairwayref4_value.bits23 (fun HT_ HW_ => ?_)
         generalize w58.drew = w59 at BK405 BK406 HB hHeld ⊢
         refine pure_ (i := 1) (N := some 93) (v := ?_) (a' := ?_) #[false, true, false, false, false, false, false, false, false] rfl rfl (any_of HT_.out zz49) (fun _ _ _ h => h) (Or.inl ⟨by rfl, ?_⟩) ?_ ?_
         rotate_left
         ·
          intro w'
          go_simp
          with_reducible rfl
         rotate_left
         ·
          simp only [Act.put, List.setIfInBounds_toArray, List.set_cons_zero, List.set_cons_succ, i64_w, i32_w]; rfl
         refine pure_ (i := 2) (N := some 94) (v := ?_) (a' := ?_) #[false, true, true, false, false, false, false, false, false] rfl rfl (any_of HT_.out zz49) (fun _ _ _ h => h) (Or.inl ⟨by rfl, ?_⟩) ?_ ?_
         rotate_left
         ·
          intro w'
          go_simp
          with_reducible rfl
         rotate_left
         ·
          simp only [Act.put, List.setIfInBounds_toArray, List.set_cons_zero, List.set_cons_succ, i64_w, i32_w]; rfl
         refine pure_ (i := 3) (N := some 95) (v := ?_) (a' := ?_) #[false, true, true, true, false, false, false, false, false] rfl rfl (any_of HT_.out zz49) (fun _ _ _ h => h) (Or.inl ⟨by rfl, ?_⟩) ?_ ?_
         rotate_left
         ·
          intro w'
          go_simp
          with_reducible rfl
         rotate_left
         ·
          simp only [Act.put, List.setIfInBounds_toArray, List.set_cons_zero, List.set_cons_succ, i64_w, i32_w]; rfl
         refine pure_ (i := 4) (N := some 96) (v := ?_) (a' := ?_) #[false, true, true, true, true, false, false, false, false] rfl rfl (any_of HT_.out zz49) (fun _ _ _ h => h) (Or.inl ⟨by rfl, ?_⟩) ?_ ?_
         rotate_left
         ·
          intro w'
          go_simp
          with_reducible rfl
         rotate_left
         ·
          simp only [Act.put, List.setIfInBounds_toArray, List.set_cons_zero, List.set_cons_succ, i64_w, i32_w]; rfl
         refine take_ (i := 0) (N := some 92) (v := ?_) (a' := ?_) #[true, true, true, true, true, false, false, false, false] rfl rfl (take_ofW HT_.out HW_.out zz49) (fun _ _ _ h => h) (Or.inl ⟨by rfl, ?_⟩) hHeld ?_ ?_
         rotate_left
         ·
          rintro w' ⟨s0, s1, s2, s3⟩
          go_simp
          with_reducible rfl
         rotate_left
         ·
          simp only [Act.put, List.setIfInBounds_toArray, List.set_cons_zero, List.set_cons_succ, i64_w, i32_w]; rfl
         refine one_ (i := 5) (N := some 97) #[true, true, true, true, true, true, false, false, false] rfl rfl (one_of HT_.out zz49) (by decide) (fun K hK => ?_)
         refine goes_ Tryd.func53 zz49 rfl #[.int .i64 t424] (by rfl) rfl rfl zz20 ?_
         with_reducible refine (fairwayref4_inner.calls t424 t425 _ A55.out).mono ?_
         rintro e w' ⟨rfl, ⟨nd, rfl⟩⟩
         refine ⟨_, rfl, ?_⟩
         refine hK.out _ _ ⟨(blk_cell BK406.out 0).trans rfl, (blk_cell BK406.out 1).trans rfl, (blk_cell BK406.out 2).trans rfl, (blk_cell BK406.out 3).trans rfl⟩ (fun hHeld => ?_)
         clear hK K; refine norm_ (a' := ?_) ?_ ?_
         rotate_left
         ·
          show Act.put _ (some 97) _ = _
          simp only [Act.put, List.setIfInBounds_toArray, List.set_cons_zero, List.set_cons_succ, i64_w, i32_w]; rfl
         refine one_ (i := 6) (N := none) #[true, true, true, true, true, true, true, false, false] rfl rfl (one_of HT_.out zz49) (by decide) (fun K hK => ?_)
         have hs60 : w59.cell? ⟨gb405, 0, none⟩ = some (.int .i64 0) := (blk_cell BK405.out 0).trans rfl; have hfs60 := blk_frozen BK405.out 0; have hns60_1 := NB406_405.out; have hms60_1 := NB405_406.out; have hs61 : w59.cell? ⟨gb405, 1, none⟩ = some (.int .i64 0) := (blk_cell BK405.out 1).trans rfl; have hfs61 := blk_frozen BK405.out 1; have hns61_1 := NB406_405.out; have hms61_1 := NB405_406.out; have hs62 : w59.cell? ⟨gb405, 2, none⟩ = some (.string (⟨#[]⟩ : ByteArray)) := (blk_cell BK405.out 2).trans rfl; have hfs62 := blk_frozen BK405.out 2; have hns62_1 := NB406_405.out; have hms62_1 := NB405_406.out; have hs63 : w59.cell? ⟨gb405, 3, none⟩ = some (.string (⟨#[]⟩ : ByteArray)) := (blk_cell BK405.out 3).trans rfl; have hfs63 := blk_frozen BK405.out 3; have hns63_1 := NB406_405.out; have hms63_1 := NB405_406.out; refine skip_ (w1 := ?_) (by rfl) rfl ?_ ?_
         rotate_left
         ·
          go_simp
          rfl
         refine hK.out _ _ ⟨((cell_far (p := ⟨gb405, _, none⟩) NB406_405.out _).trans (((cell_far (p := ⟨gb405, _, none⟩) NB406_405.out _).trans (((cell_far (p := ⟨gb405, _, none⟩) NB406_405.out _).trans (((cell_far (p := ⟨gb405, _, none⟩) NB406_405.out _).trans (hHeld.1)))))))), ((cell_far (p := ⟨gb405, _, none⟩) NB406_405.out _).trans (((cell_far (p := ⟨gb405, _, none⟩) NB406_405.out _).trans (((cell_far (p := ⟨gb405, _, none⟩) NB406_405.out _).trans (((cell_far (p := ⟨gb405, _, none⟩) NB406_405.out _).trans (hHeld.2.1)))))))), ((cell_far (p := ⟨gb405, _, none⟩) NB406_405.out _).trans (((cell_far (p := ⟨gb405, _, none⟩) NB406_405.out _).trans (((cell_far (p := ⟨gb405, _, none⟩) NB406_405.out _).trans (((cell_far (p := ⟨gb405, _, none⟩) NB406_405.out _).trans (hHeld.2.2.1)))))))), ((cell_far (p := ⟨gb405, _, none⟩) NB406_405.out _).trans (((cell_far (p := ⟨gb405, _, none⟩) NB406_405.out _).trans (((cell_far (p := ⟨gb405, _, none⟩) NB406_405.out _).trans (((cell_far (p := ⟨gb405, _, none⟩) NB406_405.out _).trans (hHeld.2.2.2))))))))⟩ (fun hHeld => ?_)
         clear hK K; refine pure_ (i := 7) (N := some 5) (v := ?_) (a' := ?_) #[true, true, true, true, true, true, true, true, false] rfl rfl (any_of HT_.out zz49) (fun _ _ _ h => h) (Or.inl ⟨by rfl, ?_⟩) ?_ ?_
         rotate_left
         ·
          intro w'
          go_simp
          with_reducible rfl
         rotate_left
         ·
          simp only [Act.put, List.setIfInBounds_toArray, List.set_cons_zero, List.set_cons_succ, i64_w, i32_w]; rfl
         refine pure_ (i := 8) (N := some 6) (v := ?_) (a' := ?_) #[true, true, true, true, true, true, true, true, true] rfl rfl (any_of HT_.out zz49) (fun _ _ _ h => h) (Or.inl ⟨by rfl, ?_⟩) ?_ ?_
         rotate_left
         ·
          intro w'
          go_simp
          with_reducible rfl
         rotate_left
         ·
          simp only [Act.put, List.setIfInBounds_toArray, List.set_cons_zero, List.set_cons_succ, i64_w, i32_w]; rfl
         refine done_ (done_of HT_.out zz49) ?_
         try go_wp2
         refine bodyPost_ret (results_ctt rfl _ _ gb405 42 #[.int .i64 a0, .int .i64 0, .string t418, .string t422] (0, 0) _ rfl (by (with_reducible repeat (first | refine blk_drewN ?_ _ | refine blk_drew ?_ | refine blk_alloc ?_ _)); refine blk_put (cs := #[.int .i64 a0, .int .i64 0, .string t418, .string (⟨#[]⟩ : ByteArray)]) ?_ 3 _ rfl; (with_reducible repeat (first | refine blk_drewN ?_ _ | refine blk_drew ?_ | refine blk_alloc ?_ _)); refine blk_put (cs := #[.int .i64 a0, .int .i64 0, .string (⟨#[]⟩ : ByteArray), .string (⟨#[]⟩ : ByteArray)]) ?_ 2 _ rfl; (with_reducible repeat (first | refine blk_drewN ?_ _ | refine blk_drew ?_ | refine blk_alloc ?_ _)); refine blk_put (cs := #[.int .i64 a0, .int .i64 0, .string (⟨#[]⟩ : ByteArray), .string (⟨#[]⟩ : ByteArray)]) ?_ 1 _ rfl; (with_reducible repeat (first | refine blk_drewN ?_ _ | refine blk_drew ?_ | refine blk_alloc ?_ _)); refine blk_put (cs := #[.int .i64 0, .int .i64 0, .string (⟨#[]⟩ : ByteArray), .string (⟨#[]⟩ : ByteArray)]) ?_ 0 _ rfl; (with_reducible repeat (first | refine blk_drewN ?_ _ | refine blk_drew ?_ | refine blk_alloc ?_ _)); exact BK405.out) Tryd.underlying42 rfl zz49) rfl ?_
         exact ⟨zz40, zz4⟩
        rw [if_neg c53] at H; exact absurd H (by simp)
       rw [if_neg c52] at H; exact absurd H (by simp)
end Go.Proofs.YtiancopplinpcaaDoor.P
end
section
namespace Go.Proofs.YtiancopplinpcaaDoor.P
open Go.RowKit Go.Proofs.YtiancopplinpcaaDoorW.PrintWords Go.Proofs.YtiancopplinpcaaDoorW.PrintLast Go.Proofs.YtiancopplinpcaaDoorW.PrintMore
set_option linter.unusedSimpArgs false
set_option linter.unusedVariables false
theorem bytesOf_app (a b : ByteArray) : bytesOf (a ++ b) = bytesOf a ++ bytesOf b := by simp [bytesOf]
theorem bytesOf_range (s : ByteArray) : ∀ c ∈ bytesOf s, 0 ≤ c ∧ c < 256 := by
  intro c hc
  simp only [bytesOf, List.mem_map] at hc
  obtain ⟨b, _, rfl⟩ := hc
  have := b.toNat_lt
  omega
theorem bytesOf_str {l : List Int} (h : ∀ c ∈ l, 0 ≤ c ∧ c < 256) : bytesOf (strOfNums l) = l := by
  simp only [bytesOf, strOfNums, List.map_map]
  conv => rhs; rw [← List.map_id l]
  refine List.map_congr_left fun c hc => ?_
  obtain ⟨h0, h1⟩ := h c hc
  simp only [Function.comp]
  rw [UInt8.toNat_ofNat_of_lt' (by show c.toNat < 256; omega)]
  simp; omega
theorem bytesOf_inj {a b : ByteArray} (h : bytesOf a = bytesOf b) : a = b := by
  have : a.data.toList = b.data.toList := by
    exact (List.map_inj_right (fun x y hxy => UInt8.toNat_inj.1 (by exact_mod_cast hxy))).1 h
  cases a; cases b
  simp only [ByteArray.mk.injEq]
  exact Array.toList_inj.1 this
theorem bytesOf_extract (s : ByteArray) (i j : Nat) : bytesOf (s.extract i j) = (bytesOf s).extract i j := by
  simp [bytesOf, List.extract_eq_take_drop, List.map_take, List.map_drop]
theorem bytesOf_len (s : ByteArray) : (bytesOf s).length = s.size := bytesOf_length s
theorem bt_list (s : ByteArray) (i : Nat) (h : i < s.size) : bt s i = (bytesOf s)[i]'(by rw [bytesOf_len]; exact h) := by
  rw [← rd_bytesOf]
  simp [rd, bytesOf_len, h]
theorem vb_range (n : Nat) : ∀ c ∈ vb n, 0 ≤ c ∧ c < 256 := by
  induction n using Nat.strongRecOn with
  | _ n ih =>
    by_cases h : n < 128
    · rw [vb_small h]; intro c hc; simp at hc; omega
    · rw [vb_big (by omega)]
      intro c hc
      rcases List.mem_cons.1 hc with rfl | hc
      · omega
      · exact ih (n / 128) (by omega) c hc
theorem vb_len {d : Nat} : ∀ {n : Nat}, n < 128 ^ d → 0 < d → (vb n).length ≤ d := by
  induction d with
  | zero => intro n _ h; omega
  | succ d ih =>
    intro n hn _
    by_cases h : n < 128
    · rw [vb_small h]; simp
    · rw [vb_big (by omega), List.length_cons]
      have hd : 0 < d := by
        rcases Nat.eq_zero_or_pos d with rfl | hd
        · simp at hn; omega
        · exact hd
      have := ih (n := n / 128) (by rw [Nat.pow_succ] at hn; omega) hd
      omega
def tl : Nat → Nat → Int → List Int → Int × Int × Int
  | 0, _, _, _ => (0, 0, 8)
  | _ + 1, _, _, [] => (0, 0, 7)
  | d + 1, i, n, c :: r => if 128 ≤ c then tl d (i + 1) (n + c % 128 * 2 ^ (7 * i)) r else if c = 0 ∧ 0 < i then (0, 0, 8) else (n + c % 128 * 2 ^ (7 * i), ((i + 1 : Nat) : Int), 0)
theorem tk_list (s : ByteArray) (d : Nat) : ∀ (i : Nat) (n : Int), tk s d i n = tl d i n ((bytesOf s).drop i) := by
  induction d with
  | zero => intro i n; rfl
  | succ d ih =>
    intro i n
    by_cases h : s.size ≤ i
    · rw [List.drop_of_length_le (by rw [bytesOf_len]; exact h)]
      simp only [tk, tl, h, if_true]
    · have hi : i < (bytesOf s).length := by rw [bytesOf_len]; omega
      rw [List.drop_eq_getElem_cons hi]
      simp only [tk, tl]
      rw [if_neg h, ← bt_list s i (by omega), ih]
theorem tkn_list (s : ByteArray) : tkn s = tl 4 0 0 (bytesOf s) := by rw [tkn, tk_list, List.drop_zero]
theorem pow7 (i : Nat) : (2 : Int) ^ (7 * (i + 1)) = 128 * 2 ^ (7 * i) := by
  rw [Nat.mul_add, Int.pow_add, Int.mul_comm]; rfl
theorem tl_was (d : Nat) : ∀ (i : Nat) (a : Int) (l : List Int) (m k : Int), (∀ c ∈ l, 0 ≤ c ∧ c < 256) → tl d i a l = (m, k, 0) →
    ∃ (q : Nat) (r : List Int), l = vb q ++ r ∧ m = a + q * 2 ^ (7 * i) ∧ k = ((i + (vb q).length : Nat) : Int) ∧ q < 128 ^ d ∧ (0 < q ∨ i = 0) := by
  induction d with
  | zero => intro i a l m k _ h; simp [tl] at h
  | succ d ih =>
    intro i a l m k hl h
    cases l with
    | nil => simp [tl] at h
    | cons c r =>
      obtain ⟨h0, h1⟩ := hl c List.mem_cons_self
      simp only [tl] at h
      have hp : 0 < 128 ^ d := Nat.pow_pos (by decide)
      by_cases hc : 128 ≤ c
      · rw [if_pos hc] at h
        obtain ⟨q, r', hr, hm, hk, hq, hz⟩ := ih (i + 1) _ r m k (fun x hx => hl x (List.mem_cons_of_mem _ hx)) h
        have hq0 : 0 < q := by omega
        have hb : vb (128 * q + (c % 128).toNat) = c :: vb q := by
          rw [vb_big (by omega)]
          congr 1
          · omega
          · congr 1; omega
        refine ⟨128 * q + (c % 128).toNat, r', by rw [hb, hr]; rfl, ?_, by rw [hb, hk]; simp; omega, by rw [Nat.pow_succ]; omega, .inl (by omega)⟩
        rw [hm, pow7]
        have e : ((128 * q + (c % 128).toNat : Nat) : Int) = 128 * (q : Int) + c % 128 := by omega
        rw [e]
        generalize (2 : Int) ^ (7 * i) = p
        generalize c % 128 = y
        grind
      · rw [if_neg hc] at h
        by_cases hz : c = 0 ∧ 0 < i
        · rw [if_pos hz] at h; simp at h
        · rw [if_neg hz] at h
          simp only [Prod.mk.injEq] at h
          obtain ⟨rfl, rfl, _⟩ := h
          have hv : vb c.toNat = [c] := by rw [vb_small (by omega)]; simp; omega
          refine ⟨c.toNat, r, by rw [hv]; rfl, ?_, by rw [hv]; rfl, by rw [Nat.pow_succ]; omega, by omega⟩
          have e : ((c.toNat : Nat) : Int) = c % 128 := by omega
          rw [e]
theorem bytesOf_num (n : Int) : bytesOf (numOf n) = vb n.toNat := bytesOf_str (vb_range _)
theorem numOf_size (n : Int) : (numOf n).size = (vb n.toNat).length := by rw [← bytesOf_len, bytesOf_num]
theorem tkn_was {x : ByteArray} {m k : Int} (h : tkn x = (m, k, 0)) : 0 ≤ m ∧ m ≤ 268435455 ∧ 0 ≤ k ∧ k ≤ x.size ∧ numOf m = x.extract 0 k.toNat ∧ k = (numOf m).size := by
  rw [tkn_list] at h
  obtain ⟨q, r, hl, hm, hk, hq, _⟩ := tl_was 4 0 0 _ m k (bytesOf_range x) h
  have hm' : m = q := by simp at hm; exact hm
  subst hm'
  have hlen : (bytesOf x).length = (vb q).length + r.length := by rw [hl, List.length_append]
  rw [bytesOf_len] at hlen
  refine ⟨by omega, by omega, by omega, by omega, bytesOf_inj ?_, ?_⟩
  · rw [bytesOf_num, bytesOf_extract, hl, List.extract_eq_take_drop, List.drop_zero, Nat.sub_zero, hk]
    simp
  · rw [numOf_size, hk]; simp
theorem bytesOf_two {n : Int} : bytesOf (two n) = [n / 256 % 256, n % 256] := bytesOf_str (by
  intro c hc
  simp only [List.mem_cons, List.not_mem_nil, or_false] at hc
  omega)
theorem two_size (n : Int) : (two n).size = 2 := by rw [← bytesOf_len, bytesOf_two]; rfl
theorem app_size (a b : ByteArray) : (a ++ b).size = a.size + b.size := by rw [← bytesOf_len, bytesOf_app, List.length_append, bytesOf_len, bytesOf_len]
theorem extract_size (a : ByteArray) {i j : Nat} (hij : i ≤ j) (hj : j ≤ a.size) : (a.extract i j).size = j - i := by
  rw [← bytesOf_len, bytesOf_extract, List.extract_eq_take_drop, List.length_take, List.length_drop, bytesOf_len]; omega
theorem extract_all (a : ByteArray) : a.extract 0 a.size = a := bytesOf_inj (by
  rw [bytesOf_extract, List.extract_eq_take_drop, List.drop_zero, Nat.sub_zero, ← bytesOf_len, List.take_length])
theorem bin_ev (s : ByteArray) : Ev (fun k => vbi_Bin.f k s) (if (s.size : Int) > 1024 then ((⟨#[]⟩ : ByteArray), 2) else (two s.size ++ s, 0)) := by
  obtain ⟨K, h⟩ := two_ev (s.size : Int)
  refine ⟨K, fun k hk => ?_⟩
  dsimp only at h ⊢
  unfold vbi_Bin.f
  by_cases hs : (s.size : Int) > 1024
  · rw [if_pos hs, if_pos hs]
  · rw [if_neg hs, if_neg hs, h k hk, if_pos (by omega)]
    simp only [Option.bind_some]
    rw [if_pos (by rw [two_size]; omega)]
def tbin (s : ByteArray) : ByteArray × Int × Int :=
  if (s.size : Int) < 2 then ((⟨#[]⟩ : ByteArray), 0, 7) else if val2 s > 1024 then ((⟨#[]⟩ : ByteArray), 0, 2) else if (s.size : Int) - 2 < val2 s then ((⟨#[]⟩ : ByteArray), 0, 7) else (s.extract 2 (2 + val2 s).toNat, 2 + val2 s, 0)
theorem val2_range (s : ByteArray) : 0 ≤ val2 s ∧ val2 s ≤ 65535 := by
  have := bt_range s 0; have := bt_range s 1; unfold val2; omega
theorem takeBin_ev (s : ByteArray) (hs : s.size ≤ 9223372036854775807) : Ev (fun k => vbi_TakeBin.f k s) (tbin s) := by
  obtain ⟨K, h⟩ := takeTwo_ev s
  refine ⟨K, fun k hk => ?_⟩
  dsimp only at h ⊢
  unfold vbi_TakeBin.f tbin
  rw [h k hk]
  simp only [Option.bind_some]
  by_cases h2 : (s.size : Int) < 2
  · rw [if_pos h2, if_pos h2]; rfl
  · obtain ⟨v0, v1⟩ := val2_range s
    rw [if_neg h2, if_neg h2]
    simp only [if_true]
    rw [w64 (n := (s.size : Int) - 2) (by omega) (by omega), w64 (n := 2 + val2 s) (by omega) (by omega)]
    by_cases h3 : val2 s > 1024
    · rw [if_pos h3, if_pos h3]
    · rw [if_neg h3, if_neg h3]
      by_cases h4 : (s.size : Int) - 2 < val2 s
      · rw [if_pos h4, if_pos h4]
      · rw [if_neg h4, if_neg h4, if_pos (by omega), if_pos (by omega)]
end Go.Proofs.YtiancopplinpcaaDoor.P
end
section
namespace Go.Proofs.YtiancopplinpcaaDoor.P
open Go.RowKit Go.Proofs.YtiancopplinpcaaDoorW.PrintWords Go.Proofs.YtiancopplinpcaaDoorW.PrintLast Go.Proofs.YtiancopplinpcaaDoorW.PrintMore
set_option linter.unusedSimpArgs false
set_option linter.unusedVariables false
theorem and_fffe (r : Nat) : r &&& 65534 = 2 * (r / 2 % 32768) := by
  have h1 : (r &&& 65534) / 2 = r / 2 % 32768 := by
    rw [Nat.and_div_two, show 65534 / 2 = 2 ^ 15 - 1 from rfl, Nat.and_two_pow_sub_one_eq_mod]
  have h2 : (r &&& 65534) % 2 = 0 := by
    have := Nat.and_mod_two_pow (a := r) (b := 65534) (n := 1)
    rw [show (2 : Nat) ^ 1 = 2 from rfl, show 65534 % 2 = 0 from rfl, Nat.and_zero] at this
    exact this
  omega
theorem fffe {r : Int} (h0 : 0 ≤ r) (h1 : r < 2147483648) : (Go.bits .and .i32 r 65534 != 65534) = decide (r % 65536 < 65534) := by
  obtain ⟨a, rfl⟩ := Int.eq_ofNat_of_zero_le h0
  have h := (bits_nat .i32 31 (by decide) wraps_i32 a 65534 (Nat.lt_of_lt_of_le (show a < 2147483648 by omega) (by decide)) (by decide)).1
  rw [show ((65534 : Nat) : Int) = 65534 from rfl] at h
  rw [h, and_fffe]
  rw [Bool.eq_iff_iff]
  simp only [bne_iff_ne, decide_eq_true_eq]
  omega
theorem good_is {r : Int} (h0 : 0 ≤ r) (h1 : r < 2147483648) : fairwayref1_good.f r = some (mayT r) := by
  have hf := fffe h0 h1
  unfold fairwayref1_good.f mayT
  rw [hf, Int.tmod_eq_emod_of_nonneg h0]
  by_cases c1 : r < 32
  · simp [c1]
  · by_cases c4 : 1114111 < r
    · by_cases c2 : 127 ≤ r
      · by_cases c3 : r ≤ 159
        · omega
        · simp [c1, c2, c3, c4]
      · omega
    · by_cases c2 : 127 ≤ r
      · by_cases c3 : r ≤ 159
        · simp [c1, c2, c3]
        · by_cases c5 : 55296 ≤ r
          · by_cases c6 : r ≤ 57343
            · simp [c1, c2, c3, c4, c5, c6]
            · by_cases c7 : 64976 ≤ r
              · by_cases c8 : r ≤ 65007
                · simp [c1, c2, c3, c4, c5, c6, c7, c8]
                · simp [c1, c2, c3, c4, c5, c6, c7, c8]
              · simp [c1, c2, c3, c4, c5, c6, c7]
          · have c7 : ¬ 64976 ≤ r := by omega
            simp [c1, c2, c3, c4, c5, c7]
      · have c5 : ¬ 55296 ≤ r := by omega
        have c7 : ¬ 64976 ≤ r := by omega
        simp [c1, c2, c4, c5, c7]
theorem bt_get (x : ByteArray) (j : Nat) (h : j < x.size) : bt x j = ((x.get! j).toNat : Int) := by
  unfold bt
  rw [dif_pos (by simpa using h)]
  have : x.get! j = x[j]'h := by
    have e : x.get! j = x.data[j]! := rfl
    rw [e, getElem!_pos x.data j h]
    rfl
  rw [this]
  simp
def pt (x : ByteArray) : Int × Int := if mayT (Utf8.decode x 0).1 = true ∧ ¬ (((Utf8.decode x 0).1 : Int) = 65533 ∧ ¬ (((Utf8.decode x 0).2 : Int) > 1)) then (((Utf8.decode x 0).1 : Int), ((Utf8.decode x 0).2 : Int)) else (0, 0)
theorem point_tail (k : Nat) (x : ByteArray) (n low r : Int) (h0 : 0 ≤ r) (h1 : r < 2147483648) :
    fairwayref1_point.l0 (k + 1) x n low r n = some (if low ≤ r ∧ mayT r = true then (r, n) else (0, 0)) := by
  simp only [fairwayref1_point.l0]
  rw [if_neg (by omega)]
  by_cases hl : r < low
  · rw [if_pos hl, if_neg (by omega)]
  · rw [if_neg hl, good_is h0 h1]
    simp only [Option.bind_some]
    by_cases hm : mayT r = true
    · rw [if_pos hm, if_pos ⟨by omega, hm⟩]
    · rw [if_neg hm, if_neg (fun h => hm h.2)]
theorem point_step (k : Nat) (x : ByteArray) (n low r i : Int) (h0 : 0 ≤ r) (h1 : r < 2097152) (hi : i < n) (hi0 : 0 ≤ i) (hx : i < x.size) (hn : n ≤ 4) :
    fairwayref1_point.l0 (k + 1) x n low r i = if 128 ≤ bt x i ∧ bt x i < 192 then fairwayref1_point.l0 k x n low (r * 64 + (bt x i - 128)) (i + 1) else some (0, 0) := by
  have b := bt_range x i
  simp only [fairwayref1_point.l0]
  rw [if_pos hi, if_pos hi0, if_pos hx, w64bt]
  by_cases hlo : bt x i < 128
  · rw [if_pos hlo, if_neg (by omega)]
  · rw [if_neg hlo]
    by_cases hhi : bt x i ≥ 192
    · rw [if_pos hhi, if_neg (by omega)]
    · rw [if_neg hhi, if_pos (by omega), w64 (n := r * 64) (by omega) (by omega), w64 (n := r * 64 + bt x i) (by omega) (by omega), w64 (n := r * 64 + bt x i - 128) (by omega) (by omega), w64 (n := i + 1) (by omega) (by omega)]
      congr 1
      omega
theorem dN_1 (n b0 b1 b2 b3 : Nat) (h : b0 < 128) : Go.Lib.decodeN n b0 b1 b2 b3 = (b0, 1) := by
  unfold Go.Lib.decodeN
  rw [if_pos h]
theorem dN_2 (n b0 b1 b2 b3 : Nat) (h0 : 192 ≤ b0) (h1 : b0 < 224) : Go.Lib.decodeN n b0 b1 b2 b3 = if 1 < n ∧ b1 / 64 = 2 then (if b0 % 32 * 64 + b1 % 64 ≥ 128 then (b0 % 32 * 64 + b1 % 64, 2) else (65533, 1)) else (65533, 1) := by
  unfold Go.Lib.decodeN
  rw [if_neg (by omega)]
  by_cases h : 1 < n ∧ b1 / 64 = 2
  · rw [if_pos ⟨by omega, h⟩, if_pos h]
  · rw [if_neg (by omega), if_neg h, if_neg (by omega), if_neg (by omega)]
theorem dN_3 (n b0 b1 b2 b3 : Nat) (h0 : 224 ≤ b0) (h1 : b0 < 240) : Go.Lib.decodeN n b0 b1 b2 b3 = if (1 < n ∧ b1 / 64 = 2) ∧ (2 < n ∧ b2 / 64 = 2) then (if b0 % 16 * 4096 + b1 % 64 * 64 + b2 % 64 ≥ 2048 ∧ (b0 % 16 * 4096 + b1 % 64 * 64 + b2 % 64 < 55296 ∨ (57344 ≤ b0 % 16 * 4096 + b1 % 64 * 64 + b2 % 64 ∧ b0 % 16 * 4096 + b1 % 64 * 64 + b2 % 64 ≤ 1114111)) then (b0 % 16 * 4096 + b1 % 64 * 64 + b2 % 64, 3) else (65533, 1)) else (65533, 1) := by
  unfold Go.Lib.decodeN
  rw [if_neg (by omega), if_neg (by omega)]
  by_cases h : (1 < n ∧ b1 / 64 = 2) ∧ (2 < n ∧ b2 / 64 = 2)
  · rw [if_pos ⟨by omega, h⟩, if_pos h]
  · rw [if_neg (by omega), if_neg h, if_neg (by omega)]
theorem dN_4 (n b0 b1 b2 b3 : Nat) (h0 : 240 ≤ b0) (h1 : b0 < 248) : Go.Lib.decodeN n b0 b1 b2 b3 = if (1 < n ∧ b1 / 64 = 2) ∧ (2 < n ∧ b2 / 64 = 2) ∧ (3 < n ∧ b3 / 64 = 2) then (if b0 % 8 * 262144 + b1 % 64 * 4096 + b2 % 64 * 64 + b3 % 64 ≥ 65536 ∧ (b0 % 8 * 262144 + b1 % 64 * 4096 + b2 % 64 * 64 + b3 % 64 < 55296 ∨ (57344 ≤ b0 % 8 * 262144 + b1 % 64 * 4096 + b2 % 64 * 64 + b3 % 64 ∧ b0 % 8 * 262144 + b1 % 64 * 4096 + b2 % 64 * 64 + b3 % 64 ≤ 1114111)) then (b0 % 8 * 262144 + b1 % 64 * 4096 + b2 % 64 * 64 + b3 % 64, 4) else (65533, 1)) else (65533, 1) := by
  unfold Go.Lib.decodeN
  rw [if_neg (by omega), if_neg (by omega), if_neg (by omega)]
  by_cases h : (1 < n ∧ b1 / 64 = 2) ∧ (2 < n ∧ b2 / 64 = 2) ∧ (3 < n ∧ b3 / 64 = 2)
  · rw [if_pos ⟨by omega, h⟩, if_pos h]
  · rw [if_neg (by omega), if_neg h]
theorem dN_no (n b0 b1 b2 b3 : Nat) (h : (128 ≤ b0 ∧ b0 < 192) ∨ 248 ≤ b0 ∧ b0 < 256) : Go.Lib.decodeN n b0 b1 b2 b3 = (65533, 1) := by
  unfold Go.Lib.decodeN
  rw [if_neg (by omega), if_neg (by omega), if_neg (by omega), if_neg (by omega)]
theorem decode_width (x : ByteArray) (hx : 0 < x.size) : (Utf8.decode x 0).2 ≤ x.size := by
  rw [Go.Lib.decode_at]
  unfold Go.Lib.decodeN
  repeat' split
  all_goals simp only
  all_goals omega
set_option maxHeartbeats 1000000 in
theorem point_ev (x : ByteArray) (hx : 0 < x.size) : Ev (fun k => fairwayref1_point.f k x) (pt x) := by
  refine ⟨20, fun k hk => ?_⟩
  obtain ⟨k, rfl⟩ : ∃ m, k = m + 20 := ⟨k - 20, by omega⟩
  dsimp only
  have g0 : bt x 0 = ((x.get! 0).toNat : Int) := bt_get x 0 hx
  have g1 : 1 < x.size → bt x 1 = ((x.get! 1).toNat : Int) := bt_get x 1
  have g2 : 2 < x.size → bt x 2 = ((x.get! 2).toNat : Int) := bt_get x 2
  have g3 : 3 < x.size → bt x 3 = ((x.get! 3).toNat : Int) := bt_get x 3
  have r0 := bt_range x 0; have r1 := bt_range x 1; have r2 := bt_range x 2; have r3 := bt_range x 3
  have hd : Utf8.decode x 0 = Go.Lib.decodeN x.size (x.get! 0).toNat (x.get! 1).toNat (x.get! 2).toNat (x.get! 3).toNat := Go.Lib.decode_at x 0
  unfold pt
  rw [hd]
  generalize hb0 : (x.get! 0).toNat = b0 at *
  generalize hb1 : (x.get! 1).toNat = b1 at *
  generalize hb2 : (x.get! 2).toNat = b2 at *
  generalize hb3 : (x.get! 3).toNat = b3 at *
  clear hd hb0 hb1 hb2 hb3
  unfold fairwayref1_point.f
  rw [if_pos (by omega), w64bt]
  have bad : Go.Lib.decodeN x.size b0 b1 b2 b3 = (65533, 1) → (some ((0 : Int), (0 : Int)) = some (if mayT ((Go.Lib.decodeN x.size b0 b1 b2 b3).1 : Int) = true ∧ ¬ (((Go.Lib.decodeN x.size b0 b1 b2 b3).1 : Int) = 65533 ∧ ¬ (((Go.Lib.decodeN x.size b0 b1 b2 b3).2 : Int) > 1)) then (((Go.Lib.decodeN x.size b0 b1 b2 b3).1 : Int), ((Go.Lib.decodeN x.size b0 b1 b2 b3).2 : Int)) else (0, 0))) := by
    intro h
    rw [h, if_neg (by simp)]
  have fine : ∀ (r : Int) (n : Nat) (low : Int), (low ≤ r → Go.Lib.decodeN x.size b0 b1 b2 b3 = (r.toNat, n) ∨ (mayT r = false ∧ Go.Lib.decodeN x.size b0 b1 b2 b3 = (65533, 1))) → (¬ low ≤ r → Go.Lib.decodeN x.size b0 b1 b2 b3 = (65533, 1)) → 0 ≤ r → (1 < n ∨ r < 65533) →
      (some (if low ≤ r ∧ mayT r = true then (r, (n : Int)) else (0, 0)) = some (if mayT ((Go.Lib.decodeN x.size b0 b1 b2 b3).1 : Int) = true ∧ ¬ (((Go.Lib.decodeN x.size b0 b1 b2 b3).1 : Int) = 65533 ∧ ¬ (((Go.Lib.decodeN x.size b0 b1 b2 b3).2 : Int) > 1)) then (((Go.Lib.decodeN x.size b0 b1 b2 b3).1 : Int), ((Go.Lib.decodeN x.size b0 b1 b2 b3).2 : Int)) else (0, 0))) := by
    intro r n low h1 h2 h0 hn
    by_cases hl : low ≤ r
    · rcases h1 hl with h1 | ⟨hm, h1⟩
      · rw [h1]
        have e : ((r.toNat : Nat) : Int) = r := by omega
        simp only [e]
        by_cases hm : mayT r = true
        · rw [if_pos ⟨hl, hm⟩, if_pos ⟨hm, by omega⟩]
        · rw [if_neg (fun h => hm h.2), if_neg (fun h => hm h.1)]
      · rw [← bad h1, if_neg (by rw [hm]; simp)]
    · rw [← bad (h2 hl), if_neg (fun h => hl h.1)]
  have sur : ∀ r : Int, (55296 ≤ r ∧ r ≤ 57343) ∨ 1114111 < r → mayT r = false := by
    intro r h
    unfold mayT
    rcases h with h | h
    · simp [h.1, h.2]
    · simp [h]
  by_cases c240 : bt x 0 ≥ 240
  · rw [if_pos c240]
    simp only [fairwayref1_point.j0]
    by_cases c248 : bt x 0 < 248
    · rw [if_pos (by simpa using c248), w64 (by omega) (by omega)]
      simp only [fairwayref1_point.j3]
      have hdN := dN_4 x.size b0 b1 b2 b3 (by omega) (by omega)
      by_cases hs : (x.size : Int) < 4
      · rw [if_pos hs]
        exact bad (by rw [hdN, if_neg (by omega)])
      · have g1 := g1 (by omega); have g2 := g2 (by omega); have g3 := g3 (by omega)
        rw [if_neg hs, point_step _ x 4 65536 _ 1 (by omega) (by omega) (by omega) (by omega) (by omega) (by omega)]
        by_cases e1 : 128 ≤ bt x 1 ∧ bt x 1 < 192
        · rw [if_pos e1, show (1 : Int) + 1 = 2 from rfl, point_step _ x 4 65536 _ 2 (by omega) (by omega) (by omega) (by omega) (by omega) (by omega)]
          by_cases e2 : 128 ≤ bt x 2 ∧ bt x 2 < 192
          · rw [if_pos e2, show (2 : Int) + 1 = 3 from rfl, point_step _ x 4 65536 _ 3 (by omega) (by omega) (by omega) (by omega) (by omega) (by omega)]
            by_cases e3 : 128 ≤ bt x 3 ∧ bt x 3 < 192
            · rw [if_pos e3, show (3 : Int) + 1 = 4 from rfl, point_tail _ x 4 65536 _ (by omega) (by omega)]
              refine fine _ 4 65536 (fun hl => ?_) (fun hl => ?_) (by omega) (.inl (by decide))
              · by_cases hv : b0 % 8 * 262144 + b1 % 64 * 4096 + b2 % 64 * 64 + b3 % 64 < 55296 ∨ (57344 ≤ b0 % 8 * 262144 + b1 % 64 * 4096 + b2 % 64 * 64 + b3 % 64 ∧ b0 % 8 * 262144 + b1 % 64 * 4096 + b2 % 64 * 64 + b3 % 64 ≤ 1114111)
                · left
                  rw [hdN, if_pos (by omega), if_pos ⟨by omega, hv⟩]
                  refine Prod.ext ?_ rfl
                  show b0 % 8 * 262144 + b1 % 64 * 4096 + b2 % 64 * 64 + b3 % 64 = _
                  omega
                · right
                  exact ⟨sur _ (by omega), by rw [hdN, if_pos (by omega), if_neg (fun h => hv h.2)]⟩
              · rw [hdN, if_pos (by omega), if_neg (by omega)]
            · rw [if_neg e3]; exact bad (by rw [hdN, if_neg (by omega)])
          · rw [if_neg e2]; exact bad (by rw [hdN, if_neg (by omega)])
        · rw [if_neg e1]; exact bad (by rw [hdN, if_neg (by omega)])
    · rw [if_neg (by simpa using c248), if_pos (by omega)]
      simp only [fairwayref1_point.j1]
      rw [if_neg (by simp; omega), if_pos (by omega)]
      simp only [fairwayref1_point.j2]
      rw [if_neg (by simp; omega), if_pos (by omega)]
      exact bad (dN_no x.size b0 b1 b2 b3 (by omega))
  · rw [if_neg c240]
    simp only [fairwayref1_point.j0]
    rw [if_neg (by simp)]
    by_cases c224 : bt x 0 ≥ 224
    · rw [if_pos c224]
      simp only [fairwayref1_point.j1]
      rw [if_pos (by simp; omega), w64 (by omega) (by omega)]
      simp only [fairwayref1_point.j3]
      have hdN := dN_3 x.size b0 b1 b2 b3 (by omega) (by omega)
      by_cases hs : (x.size : Int) < 3
      · rw [if_pos hs]
        exact bad (by rw [hdN, if_neg (by omega)])
      · have g1 := g1 (by omega); have g2 := g2 (by omega)
        rw [if_neg hs, point_step _ x 3 2048 _ 1 (by omega) (by omega) (by omega) (by omega) (by omega) (by omega)]
        by_cases e1 : 128 ≤ bt x 1 ∧ bt x 1 < 192
        · rw [if_pos e1, show (1 : Int) + 1 = 2 from rfl, point_step _ x 3 2048 _ 2 (by omega) (by omega) (by omega) (by omega) (by omega) (by omega)]
          by_cases e2 : 128 ≤ bt x 2 ∧ bt x 2 < 192
          · rw [if_pos e2, show (2 : Int) + 1 = 3 from rfl, point_tail _ x 3 2048 _ (by omega) (by omega)]
            refine fine _ 3 2048 (fun hl => ?_) (fun hl => ?_) (by omega) (.inl (by decide))
            · by_cases hv : b0 % 16 * 4096 + b1 % 64 * 64 + b2 % 64 < 55296 ∨ (57344 ≤ b0 % 16 * 4096 + b1 % 64 * 64 + b2 % 64 ∧ b0 % 16 * 4096 + b1 % 64 * 64 + b2 % 64 ≤ 1114111)
              · left
                rw [hdN, if_pos (by omega), if_pos ⟨by omega, hv⟩]
                refine Prod.ext ?_ rfl
                show b0 % 16 * 4096 + b1 % 64 * 64 + b2 % 64 = _
                omega
              · right
                exact ⟨sur _ (by omega), by rw [hdN, if_pos (by omega), if_neg (fun h => hv h.2)]⟩
            · rw [hdN, if_pos (by omega), if_neg (by omega)]
          · rw [if_neg e2]; exact bad (by rw [hdN, if_neg (by omega)])
        · rw [if_neg e1]; exact bad (by rw [hdN, if_neg (by omega)])
    · rw [if_neg c224]
      simp only [fairwayref1_point.j1]
      rw [if_neg (by simp)]
      by_cases c192 : bt x 0 ≥ 192
      · rw [if_pos c192]
        simp only [fairwayref1_point.j2]
        rw [if_pos (by simp; omega), w64 (by omega) (by omega)]
        simp only [fairwayref1_point.j3]
        have hdN := dN_2 x.size b0 b1 b2 b3 (by omega) (by omega)
        by_cases hs : (x.size : Int) < 2
        · rw [if_pos hs]
          exact bad (by rw [hdN, if_neg (by omega)])
        · have g1 := g1 (by omega)
          rw [if_neg hs, point_step _ x 2 128 _ 1 (by omega) (by omega) (by omega) (by omega) (by omega) (by omega)]
          by_cases e1 : 128 ≤ bt x 1 ∧ bt x 1 < 192
          · rw [if_pos e1, show (1 : Int) + 1 = 2 from rfl, point_tail _ x 2 128 _ (by omega) (by omega)]
            refine fine _ 2 128 (fun hl => .inl ?_) (fun hl => ?_) (by omega) (.inl (by decide))
            · rw [hdN, if_pos (by omega), if_pos (by omega)]
              refine Prod.ext ?_ rfl
              show b0 % 32 * 64 + b1 % 64 = _
              omega
            · rw [hdN, if_pos (by omega), if_neg (by omega)]
          · rw [if_neg e1]; exact bad (by rw [hdN, if_neg (by omega)])
      · rw [if_neg c192]
        simp only [fairwayref1_point.j2]
        rw [if_neg (by simp)]
        by_cases c128 : bt x 0 ≥ 128
        · rw [if_pos c128]
          exact bad (dN_no x.size b0 b1 b2 b3 (by omega))
        · rw [if_neg c128]
          simp only [fairwayref1_point.j3]
          rw [if_neg (by omega), point_tail _ x 1 0 _ (by omega) (by omega)]
          refine fine _ 1 0 (fun hl => .inl ?_) (fun hl => by omega) (by omega) (.inr (by omega))
          rw [dN_1 x.size b0 b1 b2 b3 (by omega)]
          refine Prod.ext ?_ rfl
          show b0 = _
          omega
theorem get_extract (s : ByteArray) (p j : Nat) : (s.extract p s.size).get! j = s.get! (p + j) := by
  by_cases h : p + j < s.size
  · have hs : (s.extract p s.size).size = s.size - p := extract_size s (by omega) (Nat.le_refl _)
    have a := bt_get (s.extract p s.size) j (by omega)
    have b := bt_get s (p + j) h
    have c : bt (s.extract p s.size) j = bt s ((p + j : Nat) : Int) := by
      rw [bt_list _ j (by omega), bt_list _ (p + j) h]
      simp only [bytesOf_extract, List.extract_eq_take_drop]
      rw [List.getElem_take, List.getElem_drop]
    rw [c, b] at a
    exact UInt8.toNat_inj.1 (by exact_mod_cast a.symm)
  · have e1 : s.get! (p + j) = default := by
      show s.data[p + j]! = default
      exact getElem!_neg s.data (p + j) (by show ¬ p + j < s.size; omega)
    have e2 : (s.extract p s.size).get! j = default := by
      show (s.extract p s.size).data[j]! = default
      refine getElem!_neg _ j ?_
      show ¬ j < (s.extract p s.size).size
      rw [← bytesOf_len, bytesOf_extract, List.extract_eq_take_drop, List.length_take, List.length_drop, bytesOf_len]
      omega
    rw [e1, e2]
theorem decode_extract (s : ByteArray) (p : Nat) (hp : p ≤ s.size) : Utf8.decode (s.extract p s.size) 0 = Utf8.decode s p := by
  rw [Go.Lib.decode_at, Go.Lib.decode_at]
  simp only [get_extract, Nat.zero_add, Nat.add_zero, Nat.sub_zero]
  rw [extract_size s hp (Nat.le_refl _)]
theorem extract_twice (s : ByteArray) (p n : Nat) (hp : p ≤ s.size) : (s.extract p s.size).extract n (s.extract p s.size).size = s.extract (p + n) s.size := bytesOf_inj (by
  rw [extract_size s hp (Nat.le_refl _)]
  simp only [bytesOf_extract, List.extract_eq_take_drop]
  rw [List.drop_take, List.drop_drop, List.take_take]
  congr 1
  omega)
theorem text_loop (s : ByteArray) (d : Nat) : ∀ p f : Nat, p ≤ s.size → s.size - p ≤ d → s.size - p ≤ f → Ev (fun k => fairwayref1_Text.l0 k (s.extract p s.size)) (chk s f p) := by
  induction d with
  | zero =>
    intro p f hp hd hf
    refine ⟨1, fun k hk => ?_⟩
    obtain ⟨k, rfl⟩ : ∃ m, k = m + 1 := ⟨k - 1, by omega⟩
    simp only [fairwayref1_Text.l0]
    rw [if_neg (by rw [extract_size s hp (Nat.le_refl _)]; omega), chk_end s f p (by omega)]
  | succ d ih =>
    intro p f hp hd hf
    by_cases he : s.size ≤ p
    · exact ih p f hp (by omega) hf
    · have hs : (s.extract p s.size).size = s.size - p := extract_size s hp (Nat.le_refl _)
      obtain ⟨K, h⟩ := point_ev (s.extract p s.size) (by omega)
      dsimp only at h
      have hdx := decode_extract s p hp
      have hw : wholeT s p = decide (((Utf8.decode s p).2 : Int) > 1) := by
        unfold wholeT Go.Lib.decodeGo
        rw [if_neg (by omega), hdx]
      have hwd := width_pos s p (by omega)
      have hle := decode_le s p
      obtain ⟨f, rfl⟩ : ∃ m, f = m + 1 := ⟨f - 1, by omega⟩
      unfold pt at h
      rw [hdx] at h
      have hchk : chk s (f + 1) p = if mayT (Utf8.decode s p).1 = true ∧ ¬ (((Utf8.decode s p).1 : Int) = 65533 ∧ ¬ (((Utf8.decode s p).2 : Int) > 1)) then chk s f (p + (Utf8.decode s p).2) else 8 := by
        simp only [chk, show p < s.size by omega, if_true]
        by_cases hm : mayT (Utf8.decode s p).1 = true
        · rw [if_pos hm, hw]
          by_cases h5 : ((Utf8.decode s p).1 : Int) = 65533
          · by_cases h1 : ((Utf8.decode s p).2 : Int) > 1
            · rw [if_neg (by simp [h1]), if_pos ⟨hm, fun h => h.2 h1⟩]
            · rw [if_pos ⟨h5, by simpa using h1⟩, if_neg (fun h => h.2 ⟨h5, h1⟩)]
          · rw [if_neg (fun h => h5 h.1), if_pos ⟨hm, fun h => h5 h.1⟩]
        · rw [if_neg hm, if_neg (fun h => hm h.1)]
      rw [hchk]
      by_cases hok : mayT (Utf8.decode s p).1 = true ∧ ¬ (((Utf8.decode s p).1 : Int) = 65533 ∧ ¬ (((Utf8.decode s p).2 : Int) > 1))
      · rw [if_pos hok]
        rw [if_pos hok] at h
        have hle2 : p + (Utf8.decode s p).2 ≤ s.size := by
          have hw2 := decode_width (s.extract p s.size) (by omega)
          rw [hdx, hs] at hw2
          omega
        obtain ⟨K2, h2⟩ := ih (p + (Utf8.decode s p).2) f hle2 (by omega) (by omega)
        dsimp only at h2
        refine ⟨K + K2 + 1, fun k hk => ?_⟩
        obtain ⟨k, rfl⟩ : ∃ m, k = m + 1 := ⟨k - 1, by omega⟩
        simp only [fairwayref1_Text.l0]
        rw [if_pos (by omega), h k (by omega)]
        simp only [Option.bind_some]
        rw [if_neg (by omega), if_pos (by omega), if_pos (by omega), Int.toNat_natCast, extract_twice s p _ hp]
        exact h2 k (by omega)
      · rw [if_neg hok]
        rw [if_neg hok] at h
        refine ⟨K + 1, fun k hk => ?_⟩
        obtain ⟨k, rfl⟩ : ∃ m, k = m + 1 := ⟨k - 1, by omega⟩
        simp only [fairwayref1_Text.l0]
        rw [if_pos (by omega), h k (by omega)]
        simp
theorem text_ev (s : ByteArray) : Ev (fun k => fairwayref1_Text.f k s) (checkT s) := by
  by_cases hs : s.size > 1024
  · refine ⟨0, fun k hk => ?_⟩
    dsimp only
    unfold fairwayref1_Text.f checkT
    rw [if_pos (by omega), if_pos hs]
  · obtain ⟨K, h⟩ := text_loop s s.size 0 s.size (by omega) (by omega) (by omega)
    refine ⟨K, fun k hk => ?_⟩
    dsimp only at h ⊢
    unfold fairwayref1_Text.f checkT
    rw [if_neg (by omega), if_neg hs, ← h k hk, extract_all]
def longT (s : ByteArray) (text : Bool) : ByteArray × Int :=
  if text = true then (if checkT s = 0 then (two s.size ++ s, 0) else ((⟨#[]⟩ : ByteArray), checkT s)) else (if (s.size : Int) > 1024 then ((⟨#[]⟩ : ByteArray), 2) else (two s.size ++ s, 0))
def takeT (s : ByteArray) (text : Bool) : ByteArray × Int × Int :=
  if (tbin s).2.2 = 0 then (if text = true then (if checkT (tbin s).1 = 0 then tbin s else ((⟨#[]⟩ : ByteArray), 0, checkT (tbin s).1)) else tbin s) else tbin s
theorem check_small {s : ByteArray} (h : checkT s = 0) : ¬ (s.size : Int) > 1024 := by
  intro h2
  unfold checkT at h
  rw [if_pos (by omega)] at h
  cases h
theorem takeLong_ev (s : ByteArray) (text : Bool) (hs : s.size ≤ 9223372036854775000) : Ev (fun k => fairwayref1_TakeLong.f k s text) (takeT s text) := by
  obtain ⟨K, h⟩ := text_ev (tbin s).1
  obtain ⟨K2, h2⟩ := ref_take2_ev s
  refine ⟨K + K2, fun k hk => ?_⟩
  dsimp only at h h2 ⊢
  have h := h k (by omega)
  unfold fairwayref1_TakeLong.f takeT
  rw [h2 k (by omega)]
  simp only [Option.bind_some]
  unfold tbin at h ⊢
  obtain ⟨v0, v1⟩ := val2_range s
  by_cases c1 : (s.size : Int) < 2
  · simp [c1]
  · rw [if_neg c1]
    simp only [c1, if_false, if_true] at h ⊢
    rw [w64 (n := (s.size : Int) - 2) (by omega) (by omega), w64 (n := 2 + val2 s) (by omega) (by omega)]
    by_cases c2 : val2 s > 1024
    · simp [c2]
    · simp only [c2, if_false] at h ⊢
      by_cases c3 : (s.size : Int) - 2 < val2 s
      · simp [c3]
      · simp only [c3, if_false] at h ⊢
        rw [if_pos (by omega), if_pos (by omega)]
        cases text with
        | true =>
          rw [if_pos rfl, h]
          simp only [Option.bind_some, if_true]
          split <;> rfl
        | false => simp
theorem vtext_ev (s : ByteArray) : Ev (fun k => vbi_Text.f k s) (longT s true) := by
  obtain ⟨K, h⟩ := bin_ev s
  refine ⟨K, fun k hk => ?_⟩
  dsimp only at h ⊢
  unfold vbi_Text.f longT text_Check.f
  simp only [Option.bind_some, if_true]
  by_cases hc : checkT s = 0
  · rw [if_pos hc, if_pos hc, h k hk, if_neg (check_small hc)]
    rfl
  · rw [if_neg hc, if_neg hc]
theorem vtakeText_ev (s : ByteArray) (hs : s.size ≤ 9223372036854775807) : Ev (fun k => vbi_TakeText.f k s) (takeT s true) := by
  obtain ⟨K, h⟩ := takeBin_ev s hs
  refine ⟨K, fun k hk => ?_⟩
  dsimp only at h ⊢
  unfold vbi_TakeText.f takeT text_Check.f
  rw [h k hk]
  simp only [Option.bind_some, if_true]
  by_cases hc : (tbin s).2.2 = 0
  · rw [if_pos hc, if_pos hc]
    by_cases h2 : checkT (tbin s).1 = 0
    · rw [if_pos h2, if_pos h2, ← hc]
    · rw [if_neg h2, if_neg h2]
  · rw [if_neg hc, if_neg hc]
    have : tbin s = ((⟨#[]⟩ : ByteArray), 0, (tbin s).2.2) := by
      unfold tbin at hc ⊢
      repeat' split
      all_goals first | rfl | simp_all
    rw [← this]
end Go.Proofs.YtiancopplinpcaaDoor.P
end
section
namespace Go.Proofs.YtiancopplinpcaaDoor.P
open Go.RowKit Go.Proofs.YtiancopplinpcaaDoorW.PrintWords Go.Proofs.YtiancopplinpcaaDoorW.PrintLast Go.Proofs.YtiancopplinpcaaDoorW.PrintMore
set_option linter.unusedSimpArgs false
set_option linter.unusedVariables false
def mostK (k : Int) : Int := if k = 1 then 1 else if k = 2 then 65535 else if k = 3 then 4294967295 else 268435455
def okP (a n : Int) (s v : ByteArray) : Bool :=
  if kindOf a = 0 then false
  else if kindOf a ≤ 4 then decide (¬ ((a = 33 ∨ a = 35 ∨ a = 39 ∨ a = 11) ∧ n = 0) ∧ 0 ≤ n ∧ n ≤ mostK (kindOf a) ∧ s.toList = [] ∧ v.toList = [])
  else if kindOf a = 5 then decide (n = 0 ∧ v.toList = [] ∧ checkT s = 0)
  else if kindOf a = 6 then decide (n = 0 ∧ v.toList = [] ∧ (s.size : Int) ≤ 1024)
  else decide (n = 0 ∧ checkT s = 0 ∧ checkT v = 0)
theorem kind_cases (a : Int) : kindOf a = 0 ∨ kindOf a = 1 ∨ kindOf a = 2 ∨ kindOf a = 3 ∨ kindOf a = 4 ∨ kindOf a = 5 ∨ kindOf a = 6 ∨ kindOf a = 7 := by
  have := kindOf_range a
  omega
set_option maxHeartbeats 1000000 in
theorem refFits_ev (a n : Int) (s v : ByteArray) : Ev (fun k => fairwayref4_fits.f k a n s v) (okP a n s v) := by
  obtain ⟨K0, h0⟩ := refKind_ev a
  obtain ⟨K1, h1⟩ := text_ev s
  obtain ⟨K2, h2⟩ := text_ev v
  refine ⟨K0 + K1 + K2 + 1, fun k hk => ?_⟩
  obtain ⟨k, rfl⟩ : ∃ m, k = m + 1 := ⟨k - 1, by omega⟩
  have e0 := h0 (k + 1) (by omega)
  have e1 := h1 k (by omega)
  have e2 := h2 k (by omega)
  dsimp only at e0 e1 e2 ⊢
  have hc := kind_cases a
  unfold fairwayref4_fits.f okP
  rw [e0]
  simp only [Option.bind_some]
  generalize kindOf a = kd at hc
  have num : ∀ m : Int, fairwayref0_Num.f n m = some (decide (0 ≤ n ∧ n ≤ m)) := by
    intro m
    unfold fairwayref0_Num.f
    by_cases h : n ≥ 0
    · rw [if_pos h]; simp [show 0 ≤ n from h]
    · rw [if_neg h]; simp [show ¬ 0 ≤ n from h]
  have low : ∀ m : Int, 1 ≤ kd → kd ≤ 4 → rd [0, 1, 65535, 4294967295, 268435455] kd = m → fairwayref4_fits.j0 (k + 1) kd kd true a n s v = some (decide (¬ ((a = 33 ∨ a = 35 ∨ a = 39 ∨ a = 11) ∧ n = 0) ∧ 0 ≤ n ∧ n ≤ m ∧ s.toList = [] ∧ v.toList = [])) := by
    intro m hl hh hm
    simp only [fairwayref4_fits.j0, if_true, Option.bind_some, List.length_cons, List.length_nil, num, hm]
    rw [if_pos (by omega), if_pos (by omega)]
    have hX : ((some (decide (0 ≤ n ∧ n ≤ m))).bind fun t => if t = true then (if s.toList = ([] : List UInt8) then some (v.toList == ([] : List UInt8)) else some false) else some false) = some (decide (0 ≤ n ∧ n ≤ m ∧ s.toList = [] ∧ v.toList = [])) := by
      by_cases x6 : 0 ≤ n ∧ n ≤ m <;> by_cases x7 : s.toList = [] <;> by_cases x8 : v.toList = [] <;> simp [x6, x7, x8, List.beq_nil_eq]
      all_goals first | (exact fun h => absurd h x6) | (intro h1 h2; exact absurd ⟨h1, h2⟩ x6) | skip
    simp only [Option.bind_some] at hX ⊢
    rw [hX]
    by_cases x5 : n = 0 <;> by_cases x1 : a = 33 <;> by_cases x2 : a = 35 <;> by_cases x3 : a = 39 <;> by_cases x4 : a = 11 <;> simp [x1, x2, x3, x4, x5]
  have e3 : (v.toList == ([] : List UInt8)) = decide (v.toList = []) := by
    by_cases h : v.toList = [] <;> simp [h]
  rcases hc with rfl | rfl | rfl | rfl | rfl | rfl | rfl | rfl
  · simp [fairwayref4_fits.j0]
  · simpa [mostK] using low 1 (by omega) (by omega) rfl
  · simpa [mostK] using low 65535 (by omega) (by omega) rfl
  · simpa [mostK] using low 4294967295 (by omega) (by omega) rfl
  · simpa [mostK] using low 268435455 (by omega) (by omega) rfl
  · by_cases x1 : n = 0 <;> by_cases x2 : v.toList = [] <;> simp [fairwayref4_fits.j0, x1, x2, e1]
    rfl
  · by_cases x1 : n = 0 <;> by_cases x2 : v.toList = [] <;> simp [fairwayref4_fits.j0, x1, x2]
  · by_cases x1 : n = 0 <;> by_cases x2 : checkT s = 0 <;> simp [fairwayref4_fits.j0, x1, x2, e1, e2]
    rfl
def againP (p a : Int) (l : List S42) : Bool := if a = 38 ∨ a = 11 ∧ p = 3 then false else l.any fun x => x.f0 == a
theorem twice_loop (a : Int) (l : List S42) (hl : l.length ≤ 100000) (d : Nat) : ∀ (i k : Nat), l.length - i = d → d < k → fairwayref4_twice.l0 k a l (i : Int) = some ((l.drop i).any fun x => x.f0 == a) := by
  induction d with
  | zero =>
    intro i k hd hk
    obtain ⟨k, rfl⟩ : ∃ m, k = m + 1 := ⟨k - 1, by omega⟩
    simp only [fairwayref4_twice.l0]
    rw [if_neg (by omega), List.drop_of_length_le (by omega)]
    rfl
  | succ d ih =>
    intro i k hd hk
    obtain ⟨k, rfl⟩ : ∃ m, k = m + 1 := ⟨k - 1, by omega⟩
    have hi : i < l.length := by omega
    have hrd : rd_T42 l (i : Int) = l[i] := by simp [rd_T42, hi]
    rw [List.drop_eq_getElem_cons hi]
    simp only [fairwayref4_twice.l0]
    rw [if_pos (by omega), if_pos (by omega), hrd, w64 (by omega) (by omega)]
    by_cases h : l[i].f0 = a
    · rw [if_pos h, List.any_cons, beq_iff_eq.2 h, Bool.true_or]
    · rw [if_neg h, show ((i : Int) + 1) = ((i + 1 : Nat) : Int) by omega, ih (i + 1) k (by omega) (by omega), List.any_cons, beq_eq_false_iff_ne.2 h, Bool.false_or]
theorem refTwice_ev (p a : Int) (l : List S42) (hl : l.length ≤ 100000) : Ev (fun k => fairwayref4_twice.f k p a l) (againP p a l) := by
  refine ⟨l.length + 3, fun k hk => ?_⟩
  obtain ⟨k, rfl⟩ : ∃ m, k = m + 1 := ⟨k - 1, by omega⟩
  have h := twice_loop a l hl l.length 0 k (by omega) (by omega)
  rw [List.drop_zero] at h
  dsimp only
  unfold fairwayref4_twice.f againP
  by_cases x1 : a = 38
  · simp [x1, fairwayref4_twice.j0]
  · by_cases x2 : a = 11
    · by_cases x3 : p = 3
      · simp [x1, x2, x3, fairwayref4_twice.j0]
      · simp [x1, x2, x3, fairwayref4_twice.j0]
        rw [x2] at h
        simpa using h
    · simp [x1, x2, fairwayref4_twice.j0]
      simpa using h
def valT (a n : Int) (s v : ByteArray) : AnyV × Bool :=
  if kindOf a < 5 ∧ s.toList = [] ∧ v.toList = [] then (AnyV.num n, decide (kindOf a > 0))
  else if n ≠ 0 ∨ kindOf a < 5 ∨ kindOf a ≠ 7 ∧ v.toList ≠ [] then (AnyV.no, false)
  else if kindOf a = 7 then (AnyV.two s v, true) else (AnyV.str s, true)
theorem value_ev (a n : Int) (s v : ByteArray) : Ev (fun k => prop_value.f k a n s v) (valT a n s v) := by
  obtain ⟨K0, h0⟩ := kind_ev a
  refine ⟨K0 + 3, fun k hk => ?_⟩
  obtain ⟨k, rfl⟩ : ∃ m, k = m + 2 := ⟨k - 2, by omega⟩
  have e0 := h0 (k + 2) (by omega)
  dsimp only at e0 ⊢
  have hc := kind_cases a
  unfold prop_value.f valT
  rw [e0]
  simp only [Option.bind_some]
  generalize kindOf a = kd at hc
  have e3 : (v.toList == ([] : List UInt8)) = decide (v.toList = []) := by
    by_cases h : v.toList = [] <;> simp [h]
  rcases hc with rfl | rfl | rfl | rfl | rfl | rfl | rfl | rfl <;> by_cases x1 : n = 0 <;> by_cases x2 : s.toList = [] <;> by_cases x3 : v.toList = [] <;> simp [prop_value.j0, prop_value.j1, x1, x2, x3]
def fitsP (p : Int) (l : List S42) (a n : Int) : Bool :=
  decide (a ∈ placeL p ∧ ¬ (kindOf a = 1 ∧ n > 1) ∧ ¬ ((a = 33 ∨ a = 35 ∨ a = 39 ∨ a = 11) ∧ n = 0)) && !againP p a l
theorem fits_ev (p : Int) (l : List S42) (a n : Int) (s v : ByteArray) : Ev (fun k => prop_fits.f k p l a n s v) (fitsP p l a n) := by
  obtain ⟨K0, h0⟩ := kind_ev a
  obtain ⟨K1, h1⟩ := stands_ev p
  obtain ⟨K2, h2⟩ := contains_ev (placeL p) a (by have := placeL_len p; omega)
  refine ⟨K0 + K1 + K2, fun k hk => ?_⟩
  have e0 := h0 k (by omega)
  have e1 := h1 k (by omega)
  have e2 := h2 k (by omega)
  dsimp only at e0 e1 e2 ⊢
  unfold prop_fits.f fitsP againP
  rw [e0, e1]
  simp only [Option.bind_some]
  rw [e2, nought_is]
  simp only [Option.bind_some]
  generalize kindOf a = kd
  by_cases x1 : a ∈ placeL p
  · by_cases x2 : kd = 1 ∧ n > 1
    · simp [x1, x2]
    · by_cases x3 : (a = 33 ∨ a = 35 ∨ a = 39 ∨ a = 11) ∧ n = 0
      · rw [if_pos (by simpa using x1), if_neg x2, if_pos (by simpa using x3)]
        simp [x3]
      · rw [if_pos (by simpa using x1), if_neg x2, if_neg (by simpa using x3), decide_eq_true ⟨x1, x2, x3⟩, Bool.true_and]
        by_cases x4 : a = 38
        · simp [x4]
        · by_cases x5 : a = 11 ∧ p = 3
          · simp [x4, x5]
          · rw [if_neg x4, if_neg x5, if_neg (by rintro (h | h); exact x4 h; exact x5 h)]
  · simp [x1]
def bodyP (a n : Int) (s v : ByteArray) : ByteArray :=
  if kindOf a = 1 then strOfNums [n % 256] else if kindOf a = 2 then two n else if kindOf a = 3 then four n else if kindOf a = 4 then numOf n
  else if kindOf a = 5 ∨ kindOf a = 6 then two s.size ++ s else (two s.size ++ s) ++ (two v.size ++ v)
theorem checkT_pos (s : ByteArray) : 0 ≤ checkT s := by
  unfold checkT
  split
  · omega
  · generalize s.size = f at *
    have : ∀ f p, 0 ≤ chk s f p := by
      intro f
      induction f with
      | zero => intro p; unfold chk; omega
      | succ f ih => intro p; unfold chk; repeat' split
                     all_goals first | omega | exact ih _
    exact this _ _
theorem laid_ev (a n : Int) (s v : ByteArray) (hv : (valT a n s v).2 = true) (hn : ¬ (kindOf a = 1 ∧ n > 1)) (h0 : ¬ ((a = 33 ∨ a = 35 ∨ a = 39 ∨ a = 11) ∧ n = 0)) :
    ∃ b e, Ev (fun k => prop_laid.f k (kindOf a) (valT a n s v).1) (b, e) ∧ (e = 0 ↔ okP a n s v = true) ∧ (e = 0 → b = bodyP a n s v) := by
  have hc := kind_cases a
  unfold valT at hv ⊢
  unfold okP bodyP
  generalize kindOf a = kd at hc hv hn ⊢
  by_cases x1 : kd < 5 ∧ s.toList = [] ∧ v.toList = []
  · rw [if_pos x1] at hv ⊢
    have hp : kd > 0 := by simpa using hv
    dsimp only
    rcases hc with rfl | rfl | rfl | rfl | rfl | rfl | rfl | rfl
    · omega
    · have hn1 : n ≤ 1 := by omega
      by_cases hz : n < 0
      · refine ⟨strOfNums [n % 256], 2, Ev.of (prop_laid.mono _ _) (k := 0) (by simp [prop_laid.f, prop_within.f, hz]), ?_, ?_⟩
        · simp [mostK, x1]; intros; omega
        · simp
      · refine ⟨strOfNums [n % 256], 0, Ev.of (prop_laid.mono _ _) (k := 0) (by simp [prop_laid.f, prop_within.f, hz, show ¬ n > 255 by omega]), ?_, ?_⟩
        · simp [mostK, x1, show 0 ≤ n by omega, show n ≤ 1 by omega]; omega
        · simp
    · have ⟨K, hK⟩ := two_ev n
      by_cases h : 0 ≤ n ∧ n ≤ 65535
      · rw [if_pos h] at hK
        refine ⟨_, _, ⟨K, fun k hk => by have := hK k hk; simpa [prop_laid.f] using this⟩, ?_, ?_⟩
        · simp [mostK, x1, h]; omega
        · simp
      · rw [if_neg h] at hK
        refine ⟨_, _, ⟨K, fun k hk => by have := hK k hk; simpa [prop_laid.f] using this⟩, ?_, ?_⟩
        · simp [mostK, x1]; intros; omega
        · simp
    · have ⟨K, hK⟩ := four_ev n
      by_cases h : 0 ≤ n ∧ n ≤ 4294967295
      · rw [if_pos h] at hK
        refine ⟨_, _, ⟨K, fun k hk => by have := hK k hk; simpa [prop_laid.f] using this⟩, ?_, ?_⟩
        · simp [mostK, x1, h]; omega
        · simp
      · rw [if_neg h] at hK
        refine ⟨_, _, ⟨K, fun k hk => by have := hK k hk; simpa [prop_laid.f] using this⟩, ?_, ?_⟩
        · simp [mostK, x1]; intros; omega
        · simp
    · by_cases h : 0 ≤ n ∧ n ≤ 268435455
      · have ⟨K, hK⟩ := num_ok h.1 h.2
        refine ⟨_, _, ⟨K, fun k hk => by have := hK k hk; simpa [prop_laid.f] using this⟩, ?_, ?_⟩
        · simp [mostK, x1, h]; omega
        · simp
      · have ⟨K, hK⟩ := num_no (n := n) (by omega)
        refine ⟨_, _, ⟨K, fun k hk => by have := hK k hk; simpa [prop_laid.f] using this⟩, ?_, ?_⟩
        · simp [mostK, x1]; intros; omega
        · simp
    · omega
    · omega
    · omega
  · rw [if_neg x1] at hv ⊢
    by_cases x2 : n ≠ 0 ∨ kd < 5 ∨ kd ≠ 7 ∧ v.toList ≠ []
    · rw [if_pos x2] at hv
      simp at hv
    · rw [if_neg x2] at hv ⊢
      have hn0 : n = 0 := by omega
      have t1 := vtext_ev s
      have t2 := vtext_ev v
      have b1 := bin_ev s
      unfold longT at t1 t2
      rw [if_pos rfl] at t1 t2
      rcases hc with rfl | rfl | rfl | rfl | rfl | rfl | rfl | rfl
      · omega
      · omega
      · omega
      · omega
      · omega
      · have hv0 : v.toList = [] := (show n = 0 ∧ v.toList = [] by simpa using x2).2
        have ⟨K, hK⟩ := t1
        by_cases h : checkT s = 0
        · rw [if_pos h] at hK
          exact ⟨_, _, ⟨K, fun k hk => by have := hK k hk; simpa [prop_laid.f] using this⟩, by simp [hn0, hv0, h], by simp⟩
        · rw [if_neg h] at hK
          exact ⟨_, _, ⟨K, fun k hk => by have := hK k hk; simpa [prop_laid.f] using this⟩, by simp [hn0, hv0, h], by simp [h]⟩
      · have hv0 : v.toList = [] := (show n = 0 ∧ v.toList = [] by simpa using x2).2
        have ⟨K, hK⟩ := b1
        by_cases h : (s.size : Int) > 1024
        · rw [if_pos h] at hK
          exact ⟨_, _, ⟨K, fun k hk => by have := hK k hk; simpa [prop_laid.f] using this⟩, by simp [hn0, hv0]; omega, by simp⟩
        · rw [if_neg h] at hK
          exact ⟨_, _, ⟨K, fun k hk => by have := hK k hk; simpa [prop_laid.f] using this⟩, by simp [hn0, hv0]; omega, by simp⟩
      · obtain ⟨K1, h1⟩ := t1
        obtain ⟨K2, h2⟩ := t2
        have p1 := checkT_pos s
        have p2 := checkT_pos v
        have z1 : (if checkT s = 0 then (two s.size ++ s, (0 : Int)) else ((⟨#[]⟩ : ByteArray), checkT s)).1.size ≤ 2000 := by
          split
          · rename_i h
            have := check_small h
            rw [app_size, two_size]; omega
          · exact Nat.zero_le _
        have z2 : (if checkT v = 0 then (two v.size ++ v, (0 : Int)) else ((⟨#[]⟩ : ByteArray), checkT v)).1.size ≤ 2000 := by
          split
          · rename_i h
            have := check_small h
            rw [app_size, two_size]; omega
          · exact Nat.zero_le _
        refine ⟨_, _, ⟨K1 + K2, fun k hk => by
          have a1 := h1 k (by omega)
          have a2 := h2 k (by omega)
          dsimp only at a1 a2 ⊢
          simp only [prop_laid.f, if_true]
          rw [if_neg (by omega), a1, a2]
          simp only [Option.bind_some]
          rw [if_pos (by omega)]⟩, ?_, ?_⟩
        · by_cases h : checkT s = 0 <;> by_cases h' : checkT v = 0 <;> simp [hn0, h, h', mx] <;> omega
        · by_cases h : checkT s = 0 <;> by_cases h' : checkT v = 0 <;> simp [h, h', mx] <;> omega
theorem value_no {a n : Int} {s v : ByteArray} (h : (valT a n s v).2 = false) : okP a n s v = false := by
  have hc := kind_cases a
  unfold valT at h
  unfold okP
  generalize kindOf a = kd at hc h ⊢
  by_cases x1 : kd < 5 ∧ s.toList = [] ∧ v.toList = []
  · rw [if_pos x1] at h
    have : ¬ kd > 0 := by simpa using h
    rw [if_pos (by omega)]
  · rw [if_neg x1] at h
    by_cases x2 : n ≠ 0 ∨ kd < 5 ∨ kd ≠ 7 ∧ v.toList ≠ []
    · rcases hc with rfl | rfl | rfl | rfl | rfl | rfl | rfl | rfl <;> simp at x1 x2 ⊢ <;> intros <;> first | (simp_all; done) | omega
    · rw [if_neg x2] at h
      by_cases x3 : kd = 7 <;> simp [x3] at h
def stepP (p : Int) (l : List S42) (a n : Int) (s v : ByteArray) : Bool := okP a n s v && decide (a ∈ placeL p) && !againP p a l
theorem nought_kind {a : Int} (h : a = 33 ∨ a = 35 ∨ a = 39 ∨ a = 11) : kindOf a = 2 ∨ kindOf a = 3 ∨ kindOf a = 4 := by
  rcases h with rfl | rfl | rfl | rfl <;> decide
theorem fits_no {p : Int} {l : List S42} {a n : Int} {s v : ByteArray} (h : fitsP p l a n = false) : stepP p l a n s v = false := by
  unfold fitsP at h
  unfold stepP
  by_cases x1 : a ∈ placeL p
  · by_cases x2 : kindOf a = 1 ∧ n > 1
    · have : okP a n s v = false := by
        unfold okP
        simp [x2.1, mostK]
        intros; omega
      rw [this]; rfl
    · by_cases x3 : (a = 33 ∨ a = 35 ∨ a = 39 ∨ a = 11) ∧ n = 0
      · have : okP a n s v = false := by
          unfold okP
          have hk := nought_kind x3.1
          rw [if_neg (by omega), if_pos (by omega)]
          exact decide_eq_false fun h => h.1 x3
        rw [this]; rfl
      · rw [decide_eq_true ⟨x1, x2, x3⟩, Bool.true_and] at h
        rw [h, Bool.and_false]
  · rw [decide_eq_false x1]; simp
theorem fits_yes {p : Int} {l : List S42} {a n : Int} {s v : ByteArray} (h : fitsP p l a n = true) : stepP p l a n s v = okP a n s v ∧ ¬ (kindOf a = 1 ∧ n > 1) ∧ ¬ ((a = 33 ∨ a = 35 ∨ a = 39 ∨ a = 11) ∧ n = 0) := by
  unfold fitsP at h
  rw [Bool.and_eq_true, decide_eq_true_eq] at h
  unfold stepP
  rw [decide_eq_true h.1.1, h.2, Bool.and_true, Bool.and_true]
  exact ⟨rfl, h.1.2⟩
theorem vb_len5 (n : Nat) (h : n ≤ 268435455) : (vb n).length ≤ 4 := vb_len (d := 4) (by omega) (by omega)
theorem str_size (l : List Int) : (strOfNums l).size = l.length := by simp [strOfNums, ByteArray.size]
theorem body_size {a n : Int} {s v : ByteArray} (h : okP a n s v = true) : (bodyP a n s v).size ≤ 2100 := by
  have hc := kind_cases a
  unfold okP at h
  unfold bodyP
  generalize kindOf a = kd at hc h ⊢
  rcases hc with rfl | rfl | rfl | rfl | rfl | rfl | rfl | rfl
  · simp at h
  · simp [str_size]
  · simp [two_size]
  · simp [four, str_size]
  · simp [mostK] at h
    simp [numOf_size]
    have := vb_len5 n.toNat (by omega)
    omega
  · simp at h
    have := check_small h.2.2
    simp [app_size, two_size]; omega
  · simp at h
    simp [app_size, two_size]; omega
  · simp at h
    have := check_small h.2.1
    have := check_small h.2.2
    simp [app_size, two_size]; omega
def oneP (x : S42) : ByteArray := strOfNums [x.f0 % 256] ++ bodyP x.f0 x.f1 x.f2 x.f3
def allP (p : Int) : List S42 → List S42 → Bool
  | _, [] => true
  | pre, x :: r => stepP p pre x.f0 x.f1 x.f2 x.f3 && allP p (pre ++ [x]) r
def bytesP (l : List S42) : ByteArray := l.foldl (fun a x => a ++ oneP x) (⟨#[]⟩ : ByteArray)
theorem rd_pre (pre r : List S42) (x : S42) : rd_T42 (pre ++ x :: r) (pre.length : Int) = x := by simp [rd_T42]
theorem take_pre (pre r : List S42) : (pre ++ r).take (pre.length : Int).toNat = pre := by simp
theorem props_loop (p : Int) (r : List S42) : ∀ pre : List S42, (pre ++ r).length ≤ 100000 → Ev (fun k => fairwayref4_Props.l0 k p (pre ++ r) (pre.length : Int)) (allP p pre r) := by
  induction r with
  | nil =>
    intro pre hl
    refine ⟨1, fun k hk => ?_⟩
    obtain ⟨k, rfl⟩ : ∃ m, k = m + 1 := ⟨k - 1, by omega⟩
    dsimp only
    simp only [fairwayref4_Props.l0, List.append_nil]
    rw [if_neg (by omega)]
    rfl
  | cons x r ih =>
    intro pre hl
    have hL : (pre ++ x :: r).length = pre.length + 1 + r.length := by simp; omega
    obtain ⟨K0, h0⟩ := refFits_ev x.f0 x.f1 x.f2 x.f3
    obtain ⟨K1, h1⟩ := refStands_ev p x.f0
    obtain ⟨K2, h2⟩ := refTwice_ev p x.f0 pre (by omega)
    obtain ⟨K3, h3⟩ := ih (pre ++ [x]) (by simpa using hl)
    refine ⟨K0 + K1 + K2 + K3 + 1, fun k hk => ?_⟩
    obtain ⟨k, rfl⟩ : ∃ m, k = m + 1 := ⟨k - 1, by omega⟩
    have e0 := h0 k (by omega)
    have e1 := h1 k (by omega)
    have e2 := h2 k (by omega)
    have e3 := h3 k (by omega)
    dsimp only at e0 e1 e2 e3 ⊢
    simp only [fairwayref4_Props.l0, rd_pre, take_pre]
    rw [if_pos (by omega), if_pos (by omega), e0]
    simp only [Option.bind_some, allP, stepP]
    cases okP x.f0 x.f1 x.f2 x.f3 with
    | false => simp
    | true =>
      rw [if_pos rfl, e1]
      simp only [Option.bind_some, Bool.true_and]
      by_cases hs : x.f0 ∈ placeL p
      · rw [if_pos (by simpa using hs), if_pos (by omega), e2]
        simp only [Option.bind_some]
        cases againP p x.f0 pre with
        | true => simp
        | false =>
          simp only [List.append_assoc, List.singleton_append, List.length_append, List.length_singleton] at e3
          rw [if_neg (by simp), w64 (by omega) (by omega), show ((pre.length : Int) + 1) = ((pre.length + 1 : Nat) : Int) by omega, e3]
          simp [hs]
      · rw [if_neg (by simpa using hs)]
        simp [hs]
def layR (p : Int) : List S42 → List S42 → ByteArray → ByteArray × Bool
  | _, [], acc => (acc, true)
  | pre, x :: r, acc => if stepP p pre x.f0 x.f1 x.f2 x.f3 = true then layR p (pre ++ [x]) r (acc ++ oneP x) else ((⟨#[]⟩ : ByteArray), false)
theorem lay_loop (p : Int) (r : List S42) : ∀ (pre : List S42) (acc : ByteArray), (pre ++ r).length ≤ 100000 → acc.size ≤ 3000 * pre.length →
    Ev (fun k => prop_lay.l0 k p (pre ++ r) acc (pre ++ r) ((pre ++ r).length : Int) (pre.length : Int)) (layR p pre r acc) := by
  induction r with
  | nil =>
    intro pre acc hl ha
    refine ⟨1, fun k hk => ?_⟩
    obtain ⟨k, rfl⟩ : ∃ m, k = m + 1 := ⟨k - 1, by omega⟩
    dsimp only
    simp only [prop_lay.l0, List.append_nil]
    rw [if_neg (by omega)]
    rfl
  | cons x r ih =>
    intro pre acc hl ha
    have hL : (pre ++ x :: r).length = pre.length + 1 + r.length := by simp; omega
    obtain ⟨K0, h0⟩ := value_ev x.f0 x.f1 x.f2 x.f3
    obtain ⟨K1, h1⟩ := fits_ev p pre x.f0 x.f1 x.f2 x.f3
    obtain ⟨K2, h2⟩ := kind_ev x.f0
    have main : ∃ K, ∀ k, K ≤ k → prop_lay.l0 (k + 2) p (pre ++ x :: r) acc (pre ++ x :: r) ((pre ++ x :: r).length : Int) (pre.length : Int) = some (layR p pre (x :: r) acc) := by
      unfold layR
      cases hv : (valT x.f0 x.f1 x.f2 x.f3).2 with
      | false =>
        refine ⟨K0 + K1 + K2, fun k hk => ?_⟩
        have e0 := h0 (k + 1) (by omega)
        dsimp only at e0
        simp only [prop_lay.l0, rd_pre]
        rw [if_pos (by omega), if_pos (by omega), if_pos (by omega), e0]
        simp only [Option.bind_some]
        rw [if_neg (by rw [hv]; simp)]
        have : stepP p pre x.f0 x.f1 x.f2 x.f3 = false := by unfold stepP; rw [value_no hv]; rfl
        rw [this]
        simp [prop_lay.j2]
      | true =>
        cases hf : fitsP p pre x.f0 x.f1 with
        | false =>
          refine ⟨K0 + K1 + K2, fun k hk => ?_⟩
          have e0 := h0 (k + 1) (by omega)
          have e1 := h1 (k + 1) (by omega)
          dsimp only at e0 e1
          simp only [prop_lay.l0, rd_pre, take_pre]
          rw [if_pos (by omega), if_pos (by omega), if_pos (by omega), e0]
          simp only [Option.bind_some]
          rw [if_pos hv, if_pos (by omega), e1, fits_no hf]
          simp only [Option.bind_some]
          simp [prop_lay.j2, hf]
        | true =>
          obtain ⟨hs, hn, hz⟩ := fits_yes (s := x.f2) (v := x.f3) hf
          obtain ⟨b, e, ⟨K3, h3⟩, hok, hb⟩ := laid_ev x.f0 x.f1 x.f2 x.f3 hv hn hz
          rw [hs]
          by_cases he : e = 0
          · have ok := hok.1 he
            have bs := body_size ok
            have sz : (acc ++ oneP x).size ≤ 3000 * (pre ++ [x]).length := by
              simp only [oneP, app_size, str_size, List.length_append, List.length_singleton]
              omega
            obtain ⟨K4, h4⟩ := ih (pre ++ [x]) (acc ++ oneP x) (by simpa using hl) sz
            refine ⟨K0 + K1 + K2 + K3 + K4, fun k hk => ?_⟩
            have e0 := h0 (k + 1) (by omega)
            have e1 := h1 (k + 1) (by omega)
            have e2 := h2 k (by omega)
            have e3 := h3 k (by omega)
            have e4 := h4 k (by omega)
            dsimp only at e0 e1 e2 e3 e4
            simp only [prop_lay.l0, rd_pre, take_pre]
            rw [if_pos (by omega), if_pos (by omega), if_pos (by omega), e0]
            simp only [Option.bind_some]
            rw [if_pos hv, if_pos (by omega), e1, hf]
            simp only [Option.bind_some]
            simp only [prop_lay.j2, Bool.not_true, Bool.false_eq_true, if_false]
            rw [e2]
            simp only [Option.bind_some]
            rw [e3]
            simp only [Option.bind_some]
            rw [if_pos he, hb he]
            have s1 : (strOfNums [x.f0 % 256]).size = 1 := str_size _
            have s2 : (acc ++ (strOfNums [x.f0 % 256] ++ bodyP x.f0 x.f1 x.f2 x.f3)).size ≤ 3000 * (pre ++ [x]).length := sz
            rw [app_size] at s2
            simp only [List.length_append, List.length_singleton] at s2
            rw [if_pos (by omega), if_pos (by omega), if_pos ok]
            simp only [List.append_assoc, List.singleton_append, List.length_append, List.length_singleton] at e4
            rw [w64 (by omega) (by omega), show ((pre.length : Int) + 1) = ((pre.length + 1 : Nat) : Int) by omega]
            simpa [oneP] using e4
          · have ok : okP x.f0 x.f1 x.f2 x.f3 = false := by
              cases h : okP x.f0 x.f1 x.f2 x.f3 with
              | false => rfl
              | true => exact absurd (hok.2 h) he
            refine ⟨K0 + K1 + K2 + K3, fun k hk => ?_⟩
            have e0 := h0 (k + 1) (by omega)
            have e1 := h1 (k + 1) (by omega)
            have e2 := h2 k (by omega)
            have e3 := h3 k (by omega)
            dsimp only at e0 e1 e2 e3
            simp only [prop_lay.l0, rd_pre, take_pre]
            rw [if_pos (by omega), if_pos (by omega), if_pos (by omega), e0]
            simp only [Option.bind_some]
            rw [if_pos hv, if_pos (by omega), e1, hf]
            simp only [Option.bind_some]
            simp only [prop_lay.j2, Bool.not_true, Bool.false_eq_true, if_false]
            rw [e2]
            simp only [Option.bind_some]
            rw [e3]
            simp only [Option.bind_some]
            rw [if_neg he, ok, if_neg (by simp)]
    obtain ⟨K, h⟩ := main
    refine ⟨K + 2, fun k hk => ?_⟩
    obtain ⟨k, rfl⟩ : ∃ m, k = m + 2 := ⟨k - 2, by omega⟩
    exact h k (by omega)
theorem layR_is (p : Int) (r : List S42) : ∀ (pre : List S42) (acc : ByteArray), layR p pre r acc = if allP p pre r = true then (r.foldl (fun a x => a ++ oneP x) acc, true) else ((⟨#[]⟩ : ByteArray), false) := by
  induction r with
  | nil => intro pre acc; rfl
  | cons x r ih =>
    intro pre acc
    unfold layR allP
    rw [ih]
    cases stepP p pre x.f0 x.f1 x.f2 x.f3 with
    | false => rfl
    | true => rfl
theorem allP_ok (p : Int) (r : List S42) : ∀ pre : List S42, allP p pre r = true → ∀ x ∈ r, okP x.f0 x.f1 x.f2 x.f3 = true := by
  induction r with
  | nil => intro pre h x hx; cases hx
  | cons y r ih =>
    intro pre h x hx
    simp only [allP, Bool.and_eq_true] at h
    rcases List.mem_cons.1 hx with rfl | hx
    · have := h.1
      simp only [stepP, Bool.and_eq_true] at this
      exact this.1.1
    · exact ih _ h.2 x hx
theorem fold_size (r : List S42) (h : ∀ x ∈ r, okP x.f0 x.f1 x.f2 x.f3 = true) : ∀ acc : ByteArray, (r.foldl (fun a x => a ++ oneP x) acc).size ≤ acc.size + 3000 * r.length := by
  induction r with
  | nil => intro acc; simp
  | cons x r ih =>
    intro acc
    have := ih (fun y hy => h y (List.mem_cons_of_mem _ hy)) (acc ++ oneP x)
    have b := body_size (h x List.mem_cons_self)
    rw [List.foldl_cons]
    simp only [oneP, app_size, str_size, List.length_cons, List.length_nil] at this ⊢
    omega
theorem step_w {n : Nat} (h : n ≤ 1000000) : wrap64 ((n : Int) + 1) = ((n + 1 : Nat) : Int) := by rw [w64 (by omega) (by omega)]; omega
set_option maxHeartbeats 1000000 in
theorem bytes_loop (r : List S42) (hr : ∀ x ∈ r, okP x.f0 x.f1 x.f2 x.f3 = true) : ∀ (pre : List S42) (acc : ByteArray), (pre ++ r).length ≤ 1000 → acc.size ≤ 3000 * pre.length →
    Ev (fun k => fairwayref4_PropBytes.l0 k (pre ++ r) acc (pre.length : Int)) (numOf ((r.foldl (fun a x => a ++ oneP x) acc).size : Int) ++ r.foldl (fun a x => a ++ oneP x) acc) := by
  induction r with
  | nil =>
    intro pre acc hl ha
    simp only [List.append_nil] at hl
    obtain ⟨K, h⟩ := ref_num_ok (n := (acc.size : Int)) (by omega) (by omega)
    refine ⟨K + 1, fun k hk => ?_⟩
    obtain ⟨k, rfl⟩ : ∃ m, k = m + 1 := ⟨k - 1, by omega⟩
    have e := h k (by omega)
    dsimp only at e ⊢
    simp only [fairwayref4_PropBytes.l0, List.append_nil, List.foldl_nil]
    rw [if_neg (by omega), e]
    simp only [Option.bind_some]
    have := numOf_size (acc.size : Int)
    have := vb_len5 (acc.size : Int).toNat (by omega)
    rw [if_pos (by omega)]
  | cons x r ih =>
    intro pre acc hl ha
    have hL : (pre ++ x :: r).length = pre.length + 1 + r.length := by simp; omega
    have ok := hr x List.mem_cons_self
    have bs := body_size ok
    have s1 : (strOfNums [x.f0 % 256]).size = 1 := str_size _
    have sz : (acc ++ oneP x).size ≤ 3000 * (pre ++ [x]).length := by
      simp only [oneP, app_size, str_size, List.length_append, List.length_singleton]
      omega
    have w : wrap64 ((pre.length : Int) + 1) = ((pre.length + 1 : Nat) : Int) := step_w (by omega)
    have c1 : (pre.length : Int) < ((pre ++ x :: r).length : Int) := by omega
    have c2 : 0 ≤ (pre.length : Int) := Int.natCast_nonneg _
    have c3 : acc.size + (strOfNums [x.f0 % 256]).size ≤ 9223372036854775807 := Nat.le_trans (m := 4000000) (by omega) (by decide)
    obtain ⟨K3, h3⟩ := ih (fun y hy => hr y (List.mem_cons_of_mem _ hy)) (pre ++ [x]) (acc ++ oneP x) (by simpa using hl) sz
    obtain ⟨K0, h0⟩ := refKind_ev x.f0
    obtain ⟨K1, h1⟩ := fixed2_ev x.f1
    obtain ⟨K2, h2⟩ := fixed4_ev x.f1
    obtain ⟨K5, h5⟩ := fixed2_ev (x.f2.size : Int)
    obtain ⟨K6, h6⟩ := fixed2_ev (x.f3.size : Int)
    have hn : ∃ K, kindOf x.f0 = 4 → ∀ k, K ≤ k → fairwayref1_Num.f k x.f1 = some (numOf x.f1) := by
      by_cases h4 : kindOf x.f0 = 4
      · have b : 0 ≤ x.f1 ∧ x.f1 ≤ 268435455 := by
          unfold okP at ok
          simp [h4, mostK] at ok
          omega
        obtain ⟨K, h⟩ := ref_num_ok (n := x.f1) b.1 (by omega)
        exact ⟨K, fun _ => h⟩
      · exact ⟨0, fun h => absurd h h4⟩
    obtain ⟨K4, h4⟩ := hn
    refine ⟨K0 + K1 + K2 + K3 + K4 + K5 + K6 + 2, fun k hk => ?_⟩
    obtain ⟨k, rfl⟩ : ∃ m, k = m + 1 := ⟨k - 1, by omega⟩
    have e0 := h0 k (by omega)
    have e1 := h1 k (by omega)
    have e2 := h2 k (by omega)
    have e3 := h3 k (by omega)
    have e4 := fun hk4 => h4 hk4 k (by omega)
    dsimp only at e0 e1 e2 e3 ⊢
    rw [List.foldl_cons]
    simp only [List.append_assoc, List.singleton_append, List.length_append, List.length_singleton] at e3
    simp only [fairwayref4_PropBytes.l0, rd_pre]
    rw [if_pos c1, if_pos c2]
    simp only [Option.bind_some]
    rw [if_pos c3, e0]
    simp only [Option.bind_some, w]
    have hc := kind_cases x.f0
    have hk0 : kindOf x.f0 ≠ 0 := by
      intro h
      unfold okP at ok
      simp [h] at ok
    unfold oneP at e3
    have fit : ∀ b : ByteArray, b.size ≤ 2100 → (acc ++ strOfNums [x.f0 % 256]).size + b.size ≤ 9223372036854775807 := by
      intro b hb
      rw [app_size, s1]
      exact Nat.le_trans (m := 4000000) (by omega) (by decide)
    have fit2 : ∀ a b : ByteArray, (a ++ b).size ≤ 2100 → ((acc ++ strOfNums [x.f0 % 256]) ++ a).size + b.size ≤ 9223372036854775807 := by
      intro a b hb
      rw [app_size] at hb
      rw [app_size, app_size, s1]
      exact Nat.le_trans (m := 4000000) (by omega) (by decide)
    rcases hc with h | h | h | h | h | h | h | h
    · exact absurd h hk0
    · have bd : bodyP x.f0 x.f1 x.f2 x.f3 = strOfNums [x.f1 % 256] := by simp [bodyP, h]
      rw [bd] at bs
      unfold oneP
      rw [bd] at e3 ⊢
      simp only [h, if_true, Option.bind_some]
      rw [if_pos (fit _ bs), ByteArray.append_assoc]
      exact e3
    · have bd : bodyP x.f0 x.f1 x.f2 x.f3 = two x.f1 := by simp [bodyP, h]
      rw [bd] at bs
      unfold oneP
      rw [bd] at e3 ⊢
      simp only [h, Int.reduceEq, if_true, if_false]
      rw [e1]
      simp only [Option.bind_some]
      rw [if_pos (fit _ bs), ByteArray.append_assoc]
      exact e3
    · have bd : bodyP x.f0 x.f1 x.f2 x.f3 = four x.f1 := by simp [bodyP, h]
      rw [bd] at bs
      unfold oneP
      rw [bd] at e3 ⊢
      simp only [h, Int.reduceEq, if_true, if_false]
      rw [e2]
      simp only [Option.bind_some]
      rw [if_pos (fit _ bs), ByteArray.append_assoc]
      exact e3
    · have bd : bodyP x.f0 x.f1 x.f2 x.f3 = numOf x.f1 := by simp [bodyP, h]
      rw [bd] at bs
      unfold oneP
      rw [bd] at e3 ⊢
      have e4' := e4 h
      simp only [h, Int.reduceEq, if_true, if_false]
      rw [e4']
      simp only [Option.bind_some]
      rw [if_pos (fit _ bs), ByteArray.append_assoc]
      exact e3
    all_goals obtain ⟨k, rfl⟩ : ∃ m, k = m + 1 := ⟨k - 1, by omega⟩
    all_goals have e5 := h5 k (by omega)
    all_goals have e6 := h6 k (by omega)
    all_goals have e3'' := h3 k (by omega)
    all_goals dsimp only at e5 e6 e3''
    all_goals simp only [List.append_assoc, List.singleton_append, List.length_append, List.length_singleton] at e3''
    all_goals unfold oneP at e3''
    · have bd : bodyP x.f0 x.f1 x.f2 x.f3 = two x.f2.size ++ x.f2 := by simp [bodyP, h]
      rw [bd] at bs
      unfold oneP
      rw [bd] at e3'' ⊢
      simp only [h, Int.reduceEq, if_true, if_false, Int.reduceBEq, fairwayref4_PropBytes.j1, Bool.false_eq_true]
      rw [e5]
      simp only [Option.bind_some]
      rw [app_size, two_size] at bs
      rw [if_pos (fit _ (by rw [two_size]; omega)), if_pos (fit2 _ _ (by rw [app_size, two_size]; omega)), w, ByteArray.append_assoc, ByteArray.append_assoc]
      exact e3''
    · have bd : bodyP x.f0 x.f1 x.f2 x.f3 = two x.f2.size ++ x.f2 := by simp [bodyP, h]
      rw [bd] at bs
      unfold oneP
      rw [bd] at e3'' ⊢
      simp only [h, Int.reduceEq, if_true, if_false, Int.reduceBEq, fairwayref4_PropBytes.j1, Bool.false_eq_true]
      rw [e5]
      simp only [Option.bind_some]
      rw [app_size, two_size] at bs
      rw [if_pos (fit _ (by rw [two_size]; omega)), if_pos (fit2 _ _ (by rw [app_size, two_size]; omega)), w, ByteArray.append_assoc, ByteArray.append_assoc]
      exact e3''
    · have bd : bodyP x.f0 x.f1 x.f2 x.f3 = (two x.f2.size ++ x.f2) ++ (two x.f3.size ++ x.f3) := by simp [bodyP, h]
      rw [bd] at bs
      unfold oneP
      rw [bd] at e3'' ⊢
      simp only [h, Int.reduceEq, if_true, if_false, Int.reduceBEq, fairwayref4_PropBytes.j1, Bool.false_eq_true]
      rw [e5]
      simp only [Option.bind_some]
      rw [app_size, app_size, app_size, two_size, two_size] at bs
      have g3 : ((acc ++ strOfNums [x.f0 % 256]) ++ two x.f2.size ++ x.f2).size + (two x.f3.size).size ≤ 9223372036854775807 := by
        rw [app_size, app_size, app_size, s1, two_size, two_size]
        exact Nat.le_trans (m := 4000000) (by omega) (by decide)
      have g4 : ((acc ++ strOfNums [x.f0 % 256]) ++ two x.f2.size ++ x.f2 ++ two x.f3.size).size + x.f3.size ≤ 9223372036854775807 := by
        rw [app_size, app_size, app_size, app_size, s1, two_size, two_size]
        exact Nat.le_trans (m := 4000000) (by omega) (by decide)
      rw [if_pos (fit _ (by rw [two_size]; omega)), if_pos (fit2 _ _ (by rw [app_size, two_size]; omega)), e6]
      simp only [Option.bind_some]
      rw [if_pos g3, if_pos g4, w]
      simp only [ByteArray.append_assoc] at e3'' ⊢
      exact e3''
def propsP (p : Int) (l : List S42) : Bool := decide (0 ≤ p ∧ p ≤ 15) && decide (l.length ≤ 8) && allP p [] l
theorem lay_ev (p : Int) (l : List S42) (hl : l.length ≤ 100000) : Ev (fun k => prop_lay.f k p l) (if propsP p l = true then (bytesP l, true) else ((⟨#[]⟩ : ByteArray), false)) := by
  obtain ⟨K0, h0⟩ := stands_ev p
  obtain ⟨K1, h1⟩ := lay_loop p l [] (⟨#[]⟩ : ByteArray) (by simpa using hl) (Nat.zero_le _)
  refine ⟨K0 + K1 + 1, fun k hk => ?_⟩
  obtain ⟨k, rfl⟩ : ∃ m, k = m + 1 := ⟨k - 1, by omega⟩
  have e0 := h0 (k + 1) (by omega)
  have e1 := h1 k (by omega)
  dsimp only at e0 e1 ⊢
  rw [layR_is] at e1
  simp only [List.nil_append, List.length_nil] at e1
  unfold prop_lay.f propsP
  rw [e0]
  simp only [Option.bind_some]
  by_cases x1 : 0 ≤ p ∧ p ≤ 15
  · by_cases x2 : l.length ≤ 8
    · rw [decide_eq_true x1, decide_eq_true x2, if_pos rfl, decide_eq_false (by omega), Bool.true_and, Bool.true_and]
      simp only [prop_lay.j0, Bool.false_eq_true, if_false]
      exact e1
    · rw [decide_eq_true x1, decide_eq_false x2, if_pos rfl, decide_eq_true (by omega)]
      simp [prop_lay.j0]
  · rw [decide_eq_false x1]
    simp [prop_lay.j0]
theorem bytesP_size {p : Int} {l : List S42} (h : propsP p l = true) : (bytesP l).size ≤ 24000 := by
  unfold propsP at h
  simp only [Bool.and_eq_true, decide_eq_true_eq] at h
  have := fold_size l (allP_ok p l [] h.2) (⟨#[]⟩ : ByteArray)
  have z : (⟨#[]⟩ : ByteArray).size = 0 := rfl
  unfold bytesP
  omega
theorem bytes_ev (p : Int) (l : List S42) (hl : l.length ≤ 100000) : Ev (fun k => prop_Bytes.f k p l) (if propsP p l = true then (numOf ((bytesP l).size : Int) ++ bytesP l, 0) else ((⟨#[]⟩ : ByteArray), 1)) := by
  obtain ⟨K0, h0⟩ := lay_ev p l hl
  cases hp : propsP p l with
  | false =>
    refine ⟨K0, fun k hk => ?_⟩
    have e0 := h0 k hk
    dsimp only at e0 ⊢
    unfold prop_Bytes.f
    rw [e0, hp]
    rfl
  | true =>
    have hs := bytesP_size hp
    obtain ⟨K1, h1⟩ := num_ok (n := ((bytesP l).size : Int)) (by omega) (by omega)
    refine ⟨K0 + K1, fun k hk => ?_⟩
    have e0 := h0 k (by omega)
    have e1 := h1 k (by omega)
    dsimp only at e0 e1 ⊢
    unfold prop_Bytes.f
    rw [e0, hp]
    simp only [if_true, Option.bind_some]
    rw [e1]
    simp only [Option.bind_some]
    have := numOf_size ((bytesP l).size : Int)
    have := vb_len5 ((bytesP l).size : Int).toNat (by omega)
    rw [if_pos (Nat.le_trans (m := 100000) (by omega) (by decide))]
theorem refProps_ev (p : Int) (l : List S42) (hl : l.length ≤ 100000) : Ev (fun k => fairwayref4_Props.f k p l) (propsP p l) := by
  obtain ⟨K1, h1⟩ := props_loop p l [] (by simpa using hl)
  refine ⟨K1 + 1, fun k hk => ?_⟩
  obtain ⟨k, rfl⟩ : ∃ m, k = m + 1 := ⟨k - 1, by omega⟩
  have e1 := h1 k (by omega)
  simp only [List.nil_append, List.length_nil] at e1
  dsimp only at e1 ⊢
  unfold fairwayref4_Props.f propsP
  rw [place_is]
  simp only [Option.bind_some]
  by_cases x1 : 0 ≤ p ∧ p ≤ 15
  · by_cases x2 : l.length ≤ 8
    · rw [decide_eq_true x1, decide_eq_true x2, if_pos rfl, decide_eq_false (by omega), Bool.true_and, Bool.true_and]
      simp only [fairwayref4_Props.j0, Bool.false_eq_true, if_false]
      exact e1
    · rw [decide_eq_true x1, decide_eq_false x2, if_pos rfl, decide_eq_true (by omega)]
      simp [fairwayref4_Props.j0]
  · rw [decide_eq_false x1]
    simp [fairwayref4_Props.j0]
theorem refBytes_ev {p : Int} {l : List S42} (h : propsP p l = true) : Ev (fun k => fairwayref4_PropBytes.f k l) (numOf ((bytesP l).size : Int) ++ bytesP l) := by
  have h' := h
  unfold propsP at h'
  simp only [Bool.and_eq_true, decide_eq_true_eq] at h'
  exact bytes_loop l (allP_ok p l [] h'.2) [] (⟨#[]⟩ : ByteArray) (by simp; omega) (Nat.zero_le _)
end Go.Proofs.YtiancopplinpcaaDoor.P
end
section
namespace Go.Proofs.YtiancopplinpcaaDoor.P
open Go.RowKit Go.Proofs.YtiancopplinpcaaDoorW.PrintWords Go.Proofs.YtiancopplinpcaaDoorW.PrintLast Go.Proofs.YtiancopplinpcaaDoorW.PrintMore
attribute [local go_sem] max2_int min2_int max_two min_two max_three min_three max_four min_four
set_option linter.unusedVariables false
set_option linter.unusedSimpArgs false
mutual
def fairwayref4_TakeProps.l0 : Nat → Int → Int → Int → ByteArray → List (S42) → Option ((List (S42)) × Int × Int)
  | 0, _, _, _, _, _ => none
  | k + 1, x0, x7, x8, x10, x11 => if (x10.size : Int) > 0 then (if 0 < (x10.size : Int) then ((fairwayref4_Kind.f k (wrap64 (bt x10 0))).bind fun t429 => (if t429 = 0 then (some (([] : List (S42)), 0, 8)) else (if 1 ≤ (x10.size : Int) then ((fairwayref4_value.f k (wrap64 (bt x10 0)) (x10.extract 1 x10.size)).bind fun bt430 => (if bt430.2.2.2.2.2 = 0 then ((fairwayref4_stands.f k x0 (wrap64 (bt x10 0))).bind fun t437 => (if t437 = true then ((fairwayref4_twice.f k x0 (wrap64 (bt x10 0)) x11).bind fun t438 => (if t438 = true then (fairwayref4_TakeProps.j1 k x0 x7 x8 x10 x11 bt430.2.2.2.2.1 true bt430.1 bt430.2.1 bt430.2.2.1 bt430.2.2.2.1) else ((fairwayref4_fits.f k bt430.1 bt430.2.1 bt430.2.2.1 bt430.2.2.2.1).bind fun t439 => (fairwayref4_TakeProps.j1 k x0 x7 x8 x10 x11 bt430.2.2.2.2.1 (!t439) bt430.1 bt430.2.1 bt430.2.2.1 bt430.2.2.2.1)))) else (fairwayref4_TakeProps.j1 k x0 x7 x8 x10 x11 bt430.2.2.2.2.1 true bt430.1 bt430.2.1 bt430.2.2.1 bt430.2.2.2.1))) else (some (([] : List (S42)), 0, bt430.2.2.2.2.2)))) else (none)))) else (none)) else (some (x11, wrap64 (x8 + x7), 0))
def fairwayref4_TakeProps.j1 : Nat → Int → Int → Int → ByteArray → List (S42) → Int → Bool → Int → Int → ByteArray → ByteArray → Option ((List (S42)) × Int × Int)
  | 0, _, _, _, _, _, _, _, _, _, _, _ => none
  | k + 1, x0, x7, x8, x10, x11, x14, x71, x437000, x437001, x437002, x437003 => if x71 = true then (some (([] : List (S42)), 0, 9)) else (if (x11.length : Int) = 8 then (some (([] : List (S42)), 0, 2)) else (if x11.length < 2932031007402 then (if 0 ≤ (wrap64 (1 + x14)) then (if (wrap64 (1 + x14)) ≤ (x10.size : Int) then (fairwayref4_TakeProps.l0 k x0 x7 x8 (x10.extract ((wrap64 (1 + x14)) : Int).toNat x10.size) (x11 ++ [(⟨x437000, x437001, x437002, x437003⟩ : S42)])) else (none)) else (none)) else (none)))
end
def fairwayref4_TakeProps.f (k : Nat) (a0 : Int) (a1 : ByteArray) : Option ((List (S42)) × Int × Int) := (fairwayref1_TakeNum.f k a1).bind fun bt426 => (if bt426.2.2 = 0 then (if (wrap64 ((a1.size : Int) - bt426.2.1)) < bt426.1 then (some (([] : List (S42)), 0, 7)) else (if 0 ≤ bt426.2.1 then (if bt426.2.1 ≤ (wrap64 (bt426.2.1 + bt426.1)) then (if (wrap64 (bt426.2.1 + bt426.1)) ≤ (a1.size : Int) then (fairwayref4_TakeProps.l0 k a0 bt426.1 bt426.2.1 (a1.extract (bt426.2.1 : Int).toNat ((wrap64 (bt426.2.1 + bt426.1)) : Int).toNat) ([] : List (S42))) else (none)) else (none)) else (none))) else (some (([] : List (S42)), 0, bt426.2.2)))
theorem fairwayref4_TakeProps.mono_l : ∀ k, (∀ y0 y1 y2 y3 y4, LeO (fairwayref4_TakeProps.l0 k y0 y1 y2 y3 y4) (fairwayref4_TakeProps.l0 (k + 1) y0 y1 y2 y3 y4)) ∧ (∀ y0 y1 y2 y3 y4 y5 y6 y7 y8 y9 y10, LeO (fairwayref4_TakeProps.j1 k y0 y1 y2 y3 y4 y5 y6 y7 y8 y9 y10) (fairwayref4_TakeProps.j1 (k + 1) y0 y1 y2 y3 y4 y5 y6 y7 y8 y9 y10))
 | 0 => ⟨fun _ _ _ _ _ r h => by simp [fairwayref4_TakeProps.l0] at h, fun _ _ _ _ _ _ _ _ _ _ _ r h => by simp [fairwayref4_TakeProps.j1] at h⟩
 | k + 1 => by
  obtain ⟨ih0, ih1⟩ := fairwayref4_TakeProps.mono_l k; refine ⟨?_, ?_⟩ <;> intros
  all_goals first | unfold fairwayref4_TakeProps.l0 | unfold fairwayref4_TakeProps.j1
  all_goals repeat' first
   | (with_reducible exact ih0 _ _ _ _ _)
   | (with_reducible exact ih1 _ _ _ _ _ _ _ _ _ _ _)
   | (with_reducible exact fairwayref1_TakeNum.mono _ _)
   | (with_reducible exact fairwayref4_Kind.mono _ _)
   | (with_reducible exact fairwayref4_fits.mono _ _ _ _ _)
   | (with_reducible exact fairwayref4_stands.mono _ _ _)
   | (with_reducible exact fairwayref4_twice.mono _ _ _ _)
   | (with_reducible exact fairwayref4_value.mono _ _ _)
   | (with_reducible exact LeO.refl _)
   | (with_reducible exact LeO.none _)
   | (with_reducible refine LeO.ite ?_ ?_)
   | (with_reducible refine LeO.bind ?_ (fun _ => ?_))
   | exact ih0 _ _ _ _ _
   | exact ih1 _ _ _ _ _ _ _ _ _ _ _
   | exact fairwayref1_TakeNum.mono _ _
   | exact fairwayref4_Kind.mono _ _
   | exact fairwayref4_fits.mono _ _ _ _ _
   | exact fairwayref4_stands.mono _ _ _
   | exact fairwayref4_twice.mono _ _ _ _
   | exact fairwayref4_value.mono _ _ _
   | exact LeO.none _
   | refine LeO.ite ?_ ?_
   | refine LeO.bind ?_ (fun _ => ?_)
theorem fairwayref4_TakeProps.mono : ∀ a0 a1 k, LeO (fairwayref4_TakeProps.f k a0 a1) (fairwayref4_TakeProps.f (k + 1) a0 a1) := by
 intro a0 a1 k
 obtain ⟨ih0, ih1⟩ := fairwayref4_TakeProps.mono_l k; unfold fairwayref4_TakeProps.f; repeat' first
   | (with_reducible exact ih0 _ _ _ _ _)
   | (with_reducible exact ih1 _ _ _ _ _ _ _ _ _ _ _)
   | (with_reducible exact fairwayref1_TakeNum.mono _ _)
   | (with_reducible exact fairwayref4_Kind.mono _ _)
   | (with_reducible exact fairwayref4_fits.mono _ _ _ _ _)
   | (with_reducible exact fairwayref4_stands.mono _ _ _)
   | (with_reducible exact fairwayref4_twice.mono _ _ _ _)
   | (with_reducible exact fairwayref4_value.mono _ _ _)
   | (with_reducible exact LeO.refl _)
   | (with_reducible exact LeO.none _)
   | (with_reducible refine LeO.ite ?_ ?_)
   | (with_reducible refine LeO.bind ?_ (fun _ => ?_))
   | exact ih0 _ _ _ _ _
   | exact ih1 _ _ _ _ _ _ _ _ _ _ _
   | exact fairwayref1_TakeNum.mono _ _
   | exact fairwayref4_Kind.mono _ _
   | exact fairwayref4_fits.mono _ _ _ _ _
   | exact fairwayref4_stands.mono _ _ _
   | exact fairwayref4_twice.mono _ _ _ _
   | exact fairwayref4_value.mono _ _ _
   | exact LeO.none _
   | refine LeO.ite ?_ ?_
   | refine LeO.bind ?_ (fun _ => ?_)
set_option maxHeartbeats 8000000 in
set_option maxRecDepth 100000 in
theorem fairwayref4_TakeProps.calls (k : Nat) (a0 : Int) (a1 : ByteArray) (r1 : List (S42)) (r2 : Int) (r3 : Int) (w : World) (h : fairwayref4_TakeProps.f k a0 a1 = some (r1, r2, r3)) :
  Calls Tryd.prog 24 #[.int .i64 a0, .string a1] w fun e w' => ∃ v0_ : Value, e = .returned (.tuple #[v0_, .int .i64 r2, .int .i64 r3]) ∧ Kd.R k42 42 w' w.heap.size (fun _ => True) v0_ r1 ∧ Below w.heap.size w w' := by
 have hu42 := Tryd.underlying42; have HB := Aside0.mk (Below.refl w.heap.size w); have H : ((fairwayref1_TakeNum.f k a1).bind fun bt426 => (if bt426.2.2 = 0 then (if (wrap64 ((a1.size : Int) - bt426.2.1)) < bt426.1 then (some (([] : List (S42)), 0, 7)) else (if 0 ≤ bt426.2.1 then (if bt426.2.1 ≤ (wrap64 (bt426.2.1 + bt426.1)) then (if (wrap64 (bt426.2.1 + bt426.1)) ≤ (a1.size : Int) then (fairwayref4_TakeProps.l0 k a0 bt426.1 bt426.2.1 (a1.extract (bt426.2.1 : Int).toNat ((wrap64 (bt426.2.1 + bt426.1)) : Int).toNat) ([] : List (S42))) else (none)) else (none)) else (none))) else (some (([] : List (S42)), 0, bt426.2.2)))) = some (r1, r2, r3) := h; clear h; replace H := Option.bind_eq_some_iff.mp H; obtain ⟨⟨t426, t427, t428⟩, A30, H⟩ := H; replace H : (if t428 = 0 then (if (wrap64 ((a1.size : Int) - t427)) < t426 then (some (([] : List (S42)), 0, 7)) else (if 0 ≤ t427 then (if t427 ≤ (wrap64 (t427 + t426)) then (if (wrap64 (t427 + t426)) ≤ (a1.size : Int) then (fairwayref4_TakeProps.l0 k a0 t426 t427 (a1.extract (t427 : Int).toNat ((wrap64 (t427 + t426)) : Int).toNat) ([] : List (S42))) else (none)) else (none)) else (none))) else (some (([] : List (S42)), 0, t428))) = some (r1, r2, r3) := H; have A3 := Aside0.mk A30; clear A30; by_cases c4 : t428 = 0
 ·
  rw [if_pos c4] at H; have c4b0 : (t428 == 0) = true := beq_iff_eq.mpr c4; have c4b1 : (t428 != 0) = false := bne_eq_false_iff_eq.mpr c4; clear c4; by_cases c5 : (wrap64 ((a1.size : Int) - t427)) < t426
  ·
   rw [if_pos c5] at H; have c5b0 : decide ((wrap64 ((a1.size : Int) - t427)) < t426) = true := decide_eq_true c5; clear c5; simp only [Option.some.injEq, Prod.mk.injEq] at H; obtain ⟨rfl, rfl, rfl⟩ := H; go_enter Tryd.func24, Tryd.ntmps24
   go_wp2_with (first | ((with_reducible refine gate_callee (f := 39) rfl ?_); refine goesL_ (some 18) rfl rfl Tryd.func39 zz49 rfl #[.string a1] rfl zz20 ?_; (with_reducible refine (fairwayref1_TakeNum.calls k a1 t426 t427 t428 _ A3.out).mono ?_); rintro e w' ⟨rfl, ⟨nd, rfl⟩⟩; refine ⟨_, rfl, ?_⟩))
   go_ret3
   exact ⟨_, zz40, zz16, zz21⟩
  rw [if_neg c5] at H; have c5b0 : decide ((wrap64 ((a1.size : Int) - t427)) < t426) = false := decide_eq_false c5; clear c5; by_cases c6 : 0 ≤ t427
  ·
   rw [if_pos c6] at H; have c6b0 := eq_true c6; have c6b1 : decide (0 ≤ t427) = true := decide_eq_true c6; clear c6; by_cases c7 : t427 ≤ (wrap64 (t427 + t426))
   ·
    rw [if_pos c7] at H; have c7b0 := eq_true c7; have c7b1 : decide (t427 ≤ (wrap64 (t427 + t426))) = true := decide_eq_true c7; by_cases c8 : (wrap64 (t427 + t426)) ≤ (a1.size : Int)
    ·
     rw [if_pos c8] at H; have c8b0 := eq_true c8; have c8b1 : decide ((wrap64 (t427 + t426)) ≤ (a1.size : Int)) = true := decide_eq_true c8; have H' := Aside0.mk H; clear H; go_enter Tryd.func24, Tryd.ntmps24
     go_wp2_with (first | ((with_reducible refine gate_callee (f := 39) rfl ?_); refine goesL_ (some 18) rfl rfl Tryd.func39 zz49 rfl #[.string a1] rfl zz20 ?_; (with_reducible refine (fairwayref1_TakeNum.calls k a1 t426 t427 t428 _ A3.out).mono ?_); rintro e w' ⟨rfl, ⟨nd, rfl⟩⟩; refine ⟨_, rfl, ?_⟩))
     go_loopg [10, 11] k (fun kq v10 v11 w' => ∃ (x10_1 : ByteArray) (x11_1 : List (S42)), v10 = .string x10_1 ∧ Aside0 (fairwayref4_TakeProps.l0 kq a0 t426 t427 x10_1 x11_1 = some (r1, r2, r3)) ∧ Aside0 (kq ≤ k) ∧ Aside0 (Kd.R k42 42 w' w.heap.size (fun _ => True) v11 x11_1) ∧ Aside0 (Below w.heap.size w w'))
     case atStart => exact ⟨(a1.extract (t427 : Int).toNat ((wrap64 (t427 + t426)) : Int).toNat), (([] : List (S42))), zz47, H', ⟨Nat.le_refl _⟩, ⟨zz16⟩, ⟨zz21⟩⟩
     case round =>
      as_aux_lemma =>
       clear H'; (try clear c2); (try clear p2); (try clear c3); (try clear c4); (try clear c4b0); (try clear c4b1); (try clear c5); (try clear c5b0); (try clear c6); (try clear c6b0); (try clear c6b1); (try clear p6); (try clear c7); (try clear c7b0); (try clear c7b1); (try clear c8); (try clear c8b0); (try clear c8b1); obtain ⟨x10_1, x11_1, rfl, HA, HK1, HO_11, HB⟩ := hrel; cases gk with
       | zero => exact absurd HA.out (by simp [fairwayref4_TakeProps.l0])
       | succ k1 =>
        have H := HA.out; clear HA; simp only [fairwayref4_TakeProps.l0] at H; by_cases c9 : (x10_1.size : Int) > 0
        ·
         rw [if_pos c9] at H; have c9b0 : decide (0 < (x10_1.size : Int)) = true := decide_eq_true c9; have c9b1 : decide (0 < x10_1.size) = true := decide_eq_true (by omega); clear c9; by_cases c10 : 0 < (x10_1.size : Int)
         ·
          rw [if_pos c10] at H; have c10b0 : decide (0 < (x10_1.size : Int)) = true := decide_eq_true c10; have c10b1 : decide (0 < x10_1.size) = true := decide_eq_true (by omega); clear c10; replace H := Option.bind_eq_some_iff.mp H; obtain ⟨t429, A120, H⟩ := H; replace H : (if t429 = 0 then (some (([] : List (S42)), 0, 8)) else (if 1 ≤ (x10_1.size : Int) then ((fairwayref4_value.f k1 (wrap64 (bt x10_1 0)) (x10_1.extract 1 x10_1.size)).bind fun bt430 => (if bt430.2.2.2.2.2 = 0 then ((fairwayref4_stands.f k1 a0 (wrap64 (bt x10_1 0))).bind fun t437 => (if t437 = true then ((fairwayref4_twice.f k1 a0 (wrap64 (bt x10_1 0)) x11_1).bind fun t438 => (if t438 = true then (fairwayref4_TakeProps.j1 k1 a0 t426 t427 x10_1 x11_1 bt430.2.2.2.2.1 true bt430.1 bt430.2.1 bt430.2.2.1 bt430.2.2.2.1) else ((fairwayref4_fits.f k1 bt430.1 bt430.2.1 bt430.2.2.1 bt430.2.2.2.1).bind fun t439 => (fairwayref4_TakeProps.j1 k1 a0 t426 t427 x10_1 x11_1 bt430.2.2.2.2.1 (!t439) bt430.1 bt430.2.1 bt430.2.2.1 bt430.2.2.2.1)))) else (fairwayref4_TakeProps.j1 k1 a0 t426 t427 x10_1 x11_1 bt430.2.2.2.2.1 true bt430.1 bt430.2.1 bt430.2.2.1 bt430.2.2.2.1))) else (some (([] : List (S42)), 0, bt430.2.2.2.2.2)))) else (none))) = some (r1, r2, r3) := H; have A12 := Aside0.mk A120; clear A120; by_cases c13 : t429 = 0
          ·
           rw [if_pos c13] at H; have c13b0 : (t429 == 0) = true := beq_iff_eq.mpr c13; have c13b1 : (t429 != 0) = false := bne_eq_false_iff_eq.mpr c13; clear c13; simp only [Option.some.injEq, Prod.mk.injEq] at H; obtain ⟨rfl, rfl, rfl⟩ := H; have p11 : 0 ≤ (0 : Int) := (by omega); have q11 : 0 < x10_1.size := (by have : (0 : Int) < (x10_1.size : Int) := of_decide_eq_true zz46; omega); have hx11 : ∀ h : 0 < x10_1.size, ((x10_1[0]'h).toNat : Int) = bt x10_1 0 := bt_at x10_1 0; clear p11; have qi11 : (0 < (x10_1.size : Int)) = True := eq_true (of_decide_eq_true zz46); replace q11 := eq_true q11; go_wp2_with (first | ((with_reducible refine gate_callee (f := 12) rfl ?_); refine goesL_ (some 44) rfl rfl Tryd.func12 zz49 rfl #[.int .i64 (wrap64 (bt x10_1 0))] rfl zz20 ?_; (with_reducible refine (fairwayref4_Kind.calls k1 (wrap64 (bt x10_1 0)) t429 _ A12.out).mono ?_); rintro e w' ⟨rfl, ⟨nd, rfl⟩⟩; refine ⟨_, rfl, ?_⟩))
           go_ret3
           exact ⟨_, zz40, zz16, zz21⟩
          rw [if_neg c13] at H; have c13b0 : (t429 == 0) = false := beq_eq_false_iff_ne.mpr c13; have c13b1 : (t429 != 0) = true := bne_iff_ne.mpr c13; by_cases c14 : 1 ≤ (x10_1.size : Int)
          ·
           rw [if_pos c14] at H; have c14b0 := eq_true c14; have c14b1 : decide (1 ≤ (x10_1.size : Int)) = true := decide_eq_true c14; clear c14; replace H := Option.bind_eq_some_iff.mp H; obtain ⟨⟨t430, t431, t432, t433, t434, t435⟩, A150, H⟩ := H; replace H : (if t435 = 0 then ((fairwayref4_stands.f k1 a0 (wrap64 (bt x10_1 0))).bind fun t437 => (if t437 = true then ((fairwayref4_twice.f k1 a0 (wrap64 (bt x10_1 0)) x11_1).bind fun t438 => (if t438 = true then (fairwayref4_TakeProps.j1 k1 a0 t426 t427 x10_1 x11_1 t434 true t430 t431 t432 t433) else ((fairwayref4_fits.f k1 t430 t431 t432 t433).bind fun t439 => (fairwayref4_TakeProps.j1 k1 a0 t426 t427 x10_1 x11_1 t434 (!t439) t430 t431 t432 t433)))) else (fairwayref4_TakeProps.j1 k1 a0 t426 t427 x10_1 x11_1 t434 true t430 t431 t432 t433))) else (some (([] : List (S42)), 0, t435))) = some (r1, r2, r3) := H; have A15 := Aside0.mk A150; clear A150; by_cases c16 : t435 = 0
           ·
            rw [if_pos c16] at H; have c16b0 : (t435 == 0) = true := beq_iff_eq.mpr c16; have c16b1 : (t435 != 0) = false := bne_eq_false_iff_eq.mpr c16; clear c16; have HC17 := Aside0.mk H; clear H; have p11 : 0 ≤ (0 : Int) := (by omega); have q11 : 0 < x10_1.size := (by have : (0 : Int) < (x10_1.size : Int) := of_decide_eq_true zz46; omega); have hx11 : ∀ h : 0 < x10_1.size, ((x10_1[0]'h).toNat : Int) = bt x10_1 0 := bt_at x10_1 0; clear p11; have qi11 : (0 < (x10_1.size : Int)) = True := eq_true (of_decide_eq_true zz46); replace q11 := eq_true q11; go_upto_region 15 with (first | ((with_reducible refine gate_callee (f := 12) rfl ?_); refine goesL_ (some 44) rfl rfl Tryd.func12 zz49 rfl #[.int .i64 (wrap64 (bt x10_1 0))] rfl zz20 ?_; (with_reducible refine (fairwayref4_Kind.calls k1 (wrap64 (bt x10_1 0)) t429 _ A12.out).mono ?_); rintro e w' ⟨rfl, ⟨nd, rfl⟩⟩; refine ⟨_, rfl, ?_⟩; (try (rw [drewN_self wr]; generalize hq_ : World.drewN wr _ = wr; have n0_ : Aside0 (Kd.R k42 42 wr w.heap.size (fun _ => True) u11 x11_1) := ⟨by rw [← hq_]; exact zz34⟩; have n1_ : Aside0 (Below w.heap.size w wr) := ⟨by rw [← hq_]; exact zz21⟩; clear HO_11 HB hq_; have HO_11 := n0_; have HB := n1_; clear n0_ n1_))) | ((with_reducible refine gate_callee (f := 40) rfl ?_); refine goesL_ (some 50) rfl rfl Tryd.func40 zz49 rfl #[.int .i64 (wrap64 (bt x10_1 0)), .string (x10_1.extract 1 x10_1.size)] rfl zz20 ?_; (with_reducible refine (fairwayref4_value.calls k1 (wrap64 (bt x10_1 0)) (x10_1.extract 1 x10_1.size) t430 t431 t432 t433 t434 t435 _ A15.out).mono ?_); rintro e w18 ⟨rfl, hb⟩; refine ⟨_, rfl, ?_⟩; have n0_ := Aside0.mk (Kd.R_below zz34 hb); have n1_ := Aside0.mk (below_step zz21 hb); clear HO_11; clear HB; have HO_11 := n0_; have HB := n1_; clear n0_ n1_; (try clear hb); (try clear hb2); (try clear hk); (try clear hi)) | ((with_reducible refine gate_dst (N := 13) rfl ?_); refine box_event ?hg (N := 13) ?hd (cs := #[.int .i64 0, .int .i64 0, .string (⟨#[]⟩ : ByteArray), .string (⟨#[]⟩ : ByteArray)]) (t := 42) ?hr ?_; (case hd => rfl); (case hg => rfl); (case hr => first | (go_simp; done) | (go_simp; rfl)); intro gb436 hg w19 hbox hb; have n0_ := Aside0.mk (Kd.R_below (Kd.R_elderB zz34 gb436 (Nat.le_of_eq hg.symm)) hb); have n1_ := Aside0.mk (below_step zz21 hb); have n2_ := Aside0.mk (hbox); have n3_ := Aside0.mk ((by rw [hg]; exact (below_size zz21) : w.heap.size ≤ gb436)); have n4_ := Aside0.mk ((by rw [hg]; exact (below_size zz21) : w.heap.size ≤ gb436)); clear HO_11; clear HB; have HO_11 := n0_; have HB := n1_; have BK436 := n2_; have GW436 := n3_; have GE436 := n4_; clear n0_ n1_ n2_ n3_ n4_; clear hb hbox hg; have hcz20_0 : w19.cell? ⟨gb436, 0, none⟩ = some (.int .i64 0) := (blk_cell BK436.out 0).trans rfl; have hcz20_1 : w19.cell? ⟨gb436, 1, none⟩ = some (.int .i64 0) := (blk_cell BK436.out 1).trans rfl; have hcz20_2 : w19.cell? ⟨gb436, 2, none⟩ = some (.string (⟨#[]⟩ : ByteArray)) := (blk_cell BK436.out 2).trans rfl; have hcz20_3 : w19.cell? ⟨gb436, 3, none⟩ = some (.string (⟨#[]⟩ : ByteArray)) := (blk_cell BK436.out 3).trans rfl; have hfz20_0 := blk_frozen BK436.out 0; have hfz20_1 := blk_frozen BK436.out 1; have hfz20_2 := blk_frozen BK436.out 2; have hfz20_3 := blk_frozen BK436.out 3))
            (try simp only [Act.put, List.setIfInBounds_toArray, List.set_cons_zero, List.set_cons_succ])
            go_cut [71] (fun v71 wc => ∃ (kq : Nat) (x71_16 : Bool), v71 = .bool x71_16 ∧ Aside0 (fairwayref4_TakeProps.j1 kq a0 t426 t427 x10_1 x11_1 t434 x71_16 t430 t431 t432 t433 = some (r1, r2, r3)) ∧ Aside0 (kq ≤ k1) ∧ Aside0 (Kd.R k42 42 wc w.heap.size (fun k_ => k_ ≠ gb436) u11 x11_1) ∧ Aside0 (wc.heap[gb436]? = some (.cells #[.int .i64 t430, .int .i64 t431, .string t432, .string t433] 42 (0, 0))) ∧ Aside0 (Below w.heap.size w wc))
            case first =>
             have H := HC17.out; clear HC17; replace H := Option.bind_eq_some_iff.mp H; obtain ⟨t437, A210, H⟩ := H; replace H : (if t437 = true then ((fairwayref4_twice.f k1 a0 (wrap64 (bt x10_1 0)) x11_1).bind fun t438 => (if t438 = true then (fairwayref4_TakeProps.j1 k1 a0 t426 t427 x10_1 x11_1 t434 true t430 t431 t432 t433) else ((fairwayref4_fits.f k1 t430 t431 t432 t433).bind fun t439 => (fairwayref4_TakeProps.j1 k1 a0 t426 t427 x10_1 x11_1 t434 (!t439) t430 t431 t432 t433)))) else (fairwayref4_TakeProps.j1 k1 a0 t426 t427 x10_1 x11_1 t434 true t430 t431 t432 t433)) = some (r1, r2, r3) := H; have A21 := Aside0.mk A210; clear A210; by_cases c22 : t437 = true
             ·
              subst c22; have H1 : ((fairwayref4_twice.f k1 a0 (wrap64 (bt x10_1 0)) x11_1).bind fun t438 => (if t438 = true then (fairwayref4_TakeProps.j1 k1 a0 t426 t427 x10_1 x11_1 t434 true t430 t431 t432 t433) else ((fairwayref4_fits.f k1 t430 t431 t432 t433).bind fun t439 => (fairwayref4_TakeProps.j1 k1 a0 t426 t427 x10_1 x11_1 t434 (!t439) t430 t431 t432 t433)))) = some (r1, r2, r3) := by rw [if_pos rfl] at H; exact H
              clear H; have H := H1; clear H1; replace H := Option.bind_eq_some_iff.mp H; obtain ⟨t438, A230, H⟩ := H; replace H : (if t438 = true then (fairwayref4_TakeProps.j1 k1 a0 t426 t427 x10_1 x11_1 t434 true t430 t431 t432 t433) else ((fairwayref4_fits.f k1 t430 t431 t432 t433).bind fun t439 => (fairwayref4_TakeProps.j1 k1 a0 t426 t427 x10_1 x11_1 t434 (!t439) t430 t431 t432 t433))) = some (r1, r2, r3) := H; have A23 := Aside0.mk A230; clear A230; by_cases c24 : t438 = true
              ·
               subst c24; have H1 : (fairwayref4_TakeProps.j1 k1 a0 t426 t427 x10_1 x11_1 t434 true t430 t431 t432 t433) = some (r1, r2, r3) := by rw [if_pos rfl] at H; exact H
               clear H; have H := H1; clear H1; have H' := Aside0.mk H; clear H; go_wp2_with (first | ((with_reducible refine gate_callee (f := 31) rfl ?_); refine goesL_ (some 59) rfl rfl Tryd.func31 zz49 rfl #[.int .i64 a0, .int .i64 (wrap64 (bt x10_1 0))] rfl zz20 ?_; (with_reducible refine (fairwayref4_stands.calls k1 a0 (wrap64 (bt x10_1 0)) true _ A21.out).mono ?_); rintro e w25 ⟨rfl, hb⟩; refine ⟨_, rfl, ?_⟩; have n0_ := Aside0.mk (Kd.R_below zz0 hb); have n1_ := Aside0.mk (blk_below (g := gb436) (o := .cells #[.int .i64 t430, .int .i64 t431, .string t432, .string t433] 42 (0, 0)) (by (with_reducible repeat (first | refine blk_drewN ?_ _ | refine blk_drew ?_ | refine blk_alloc ?_ _)); refine blk_put (cs := #[.int .i64 t430, .int .i64 t431, .string t432, .string (⟨#[]⟩ : ByteArray)]) ?_ 3 _ rfl; (with_reducible repeat (first | refine blk_drewN ?_ _ | refine blk_drew ?_ | refine blk_alloc ?_ _)); refine blk_put (cs := #[.int .i64 t430, .int .i64 t431, .string (⟨#[]⟩ : ByteArray), .string (⟨#[]⟩ : ByteArray)]) ?_ 2 _ rfl; (with_reducible repeat (first | refine blk_drewN ?_ _ | refine blk_drew ?_ | refine blk_alloc ?_ _)); refine blk_put (cs := #[.int .i64 t430, .int .i64 0, .string (⟨#[]⟩ : ByteArray), .string (⟨#[]⟩ : ByteArray)]) ?_ 1 _ rfl; (with_reducible repeat (first | refine blk_drewN ?_ _ | refine blk_drew ?_ | refine blk_alloc ?_ _)); refine blk_put (cs := #[.int .i64 0, .int .i64 0, .string (⟨#[]⟩ : ByteArray), .string (⟨#[]⟩ : ByteArray)]) ?_ 0 _ rfl; (with_reducible repeat (first | refine blk_drewN ?_ _ | refine blk_drew ?_ | refine blk_alloc ?_ _)); exact BK436.out) hb); have n2_ := Aside0.mk (below_step zz14 hb); clear HO_11; clear BK436; clear HB; have HO_11 := n0_; have BK436 := n1_; have HB := n2_; clear n0_ n1_ n2_; (try clear hb); (try clear hb2); (try clear hk); (try clear hi); obtain ⟨Ao26, co26, eo26⟩ := Kd.R_slice HO_11.out; subst eo26) | (go_at_call 32; (with_reducible refine (fairwayref4_twice.calls k1 a0 (wrap64 (bt x10_1 0)) _ _ x11_1 true _ ?side1 ?side2 A23.out).mono ?_); (case side1 => repeat (first | exact (Kd.R_reads' HO_11.out).2.2 | (with_reducible refine Kd.C_alloc ?_ _) | (with_reducible refine Kd.C_drewN ?_ _) | (with_reducible refine Kd.C_drew ?_))); (case side2 => exact (Kd.R_reads' HO_11.out).2.1); rintro e w' ⟨rfl, ⟨nd, rfl⟩⟩))
               go_meet
               case rel => exact ⟨_, (true), zz47, H', ⟨zz45⟩, ⟨by (with_reducible repeat (first | apply Kd.R_alloc | apply Kd.R_drewN | apply Kd.R_drew)); exact Kd.R_mono HO_11.out (fun _ hk => hk.2)⟩, ⟨zz29⟩, ⟨zz14⟩⟩
              replace c24 := Bool.eq_false_iff.mpr c24; subst c24; have H1 : ((fairwayref4_fits.f k1 t430 t431 t432 t433).bind fun t439 => (fairwayref4_TakeProps.j1 k1 a0 t426 t427 x10_1 x11_1 t434 (!t439) t430 t431 t432 t433)) = some (r1, r2, r3) := by rw [if_neg (show ¬ (false = true) by decide)] at H; exact H
              clear H; have H := H1; clear H1; replace H := Option.bind_eq_some_iff.mp H; obtain ⟨t439, A270, H⟩ := H; replace H : (fairwayref4_TakeProps.j1 k1 a0 t426 t427 x10_1 x11_1 t434 (!t439) t430 t431 t432 t433) = some (r1, r2, r3) := H; have A27 := Aside0.mk A270; clear A270; have H' := Aside0.mk H; clear H; go_wp2_with (first | ((with_reducible refine gate_callee (f := 31) rfl ?_); refine goesL_ (some 59) rfl rfl Tryd.func31 zz49 rfl #[.int .i64 a0, .int .i64 (wrap64 (bt x10_1 0))] rfl zz20 ?_; (with_reducible refine (fairwayref4_stands.calls k1 a0 (wrap64 (bt x10_1 0)) true _ A21.out).mono ?_); rintro e w28 ⟨rfl, hb⟩; refine ⟨_, rfl, ?_⟩; have n0_ := Aside0.mk (Kd.R_below zz0 hb); have n1_ := Aside0.mk (blk_below (g := gb436) (o := .cells #[.int .i64 t430, .int .i64 t431, .string t432, .string t433] 42 (0, 0)) (by (with_reducible repeat (first | refine blk_drewN ?_ _ | refine blk_drew ?_ | refine blk_alloc ?_ _)); refine blk_put (cs := #[.int .i64 t430, .int .i64 t431, .string t432, .string (⟨#[]⟩ : ByteArray)]) ?_ 3 _ rfl; (with_reducible repeat (first | refine blk_drewN ?_ _ | refine blk_drew ?_ | refine blk_alloc ?_ _)); refine blk_put (cs := #[.int .i64 t430, .int .i64 t431, .string (⟨#[]⟩ : ByteArray), .string (⟨#[]⟩ : ByteArray)]) ?_ 2 _ rfl; (with_reducible repeat (first | refine blk_drewN ?_ _ | refine blk_drew ?_ | refine blk_alloc ?_ _)); refine blk_put (cs := #[.int .i64 t430, .int .i64 0, .string (⟨#[]⟩ : ByteArray), .string (⟨#[]⟩ : ByteArray)]) ?_ 1 _ rfl; (with_reducible repeat (first | refine blk_drewN ?_ _ | refine blk_drew ?_ | refine blk_alloc ?_ _)); refine blk_put (cs := #[.int .i64 0, .int .i64 0, .string (⟨#[]⟩ : ByteArray), .string (⟨#[]⟩ : ByteArray)]) ?_ 0 _ rfl; (with_reducible repeat (first | refine blk_drewN ?_ _ | refine blk_drew ?_ | refine blk_alloc ?_ _)); exact BK436.out) hb); have n2_ := Aside0.mk (below_step zz14 hb); clear HO_11; clear BK436; clear HB; have HO_11 := n0_; have BK436 := n1_; have HB := n2_; clear n0_ n1_ n2_; (try clear hb); (try clear hb2); (try clear hk); (try clear hi); obtain ⟨Ao29, co29, eo29⟩ := Kd.R_slice HO_11.out; subst eo29) | (go_at_call 32; (with_reducible refine (fairwayref4_twice.calls k1 a0 (wrap64 (bt x10_1 0)) _ _ x11_1 false _ ?side1 ?side2 A23.out).mono ?_); (case side1 => repeat (first | exact (Kd.R_reads' HO_11.out).2.2 | (with_reducible refine Kd.C_alloc ?_ _) | (with_reducible refine Kd.C_drewN ?_ _) | (with_reducible refine Kd.C_drew ?_))); (case side2 => exact (Kd.R_reads' HO_11.out).2.1); rintro e w' ⟨rfl, ⟨nd, rfl⟩⟩; have hcz30_0 : w28.cell? ⟨gb436, 0, none⟩ = some (.int .i64 t430) := (blk_cell BK436.out 0).trans rfl; have hcz30_1 : w28.cell? ⟨gb436, 1, none⟩ = some (.int .i64 t431) := (blk_cell BK436.out 1).trans rfl; have hcz30_2 : w28.cell? ⟨gb436, 2, none⟩ = some (.string t432) := (blk_cell BK436.out 2).trans rfl; have hcz30_3 : w28.cell? ⟨gb436, 3, none⟩ = some (.string t433) := (blk_cell BK436.out 3).trans rfl; have hfz30_0 := blk_frozen BK436.out 0; have hfz30_1 := blk_frozen BK436.out 1; have hfz30_2 := blk_frozen BK436.out 2; have hfz30_3 := blk_frozen BK436.out 3) | (go_at_call 30; (with_reducible refine (fairwayref4_fits.calls k1 t430 t431 t432 t433 t439 _ A27.out).mono ?_); rintro e w31 ⟨rfl, hb⟩; have n0_ := Aside0.mk (Kd.R_below zz34 hb); have n1_ := Aside0.mk (blk_below (g := gb436) (o := .cells #[.int .i64 t430, .int .i64 t431, .string t432, .string t433] 42 (0, 0)) zz29 hb); have n2_ := Aside0.mk (below_step zz14 hb); clear HO_11; clear BK436; clear HB; have HO_11 := n0_; have BK436 := n1_; have HB := n2_; clear n0_ n1_ n2_; (try clear hb); (try clear hb2); (try clear hk); (try clear hi)))
              go_meet
              case rel => exact ⟨_, (!t439), zz47, H', ⟨zz45⟩, ⟨by (with_reducible repeat (first | apply Kd.R_alloc | apply Kd.R_drewN | apply Kd.R_drew)); exact Kd.R_mono HO_11.out (fun _ hk => hk.2)⟩, ⟨zz29⟩, ⟨zz14⟩⟩
             replace c22 := Bool.eq_false_iff.mpr c22; subst c22; have H1 : (fairwayref4_TakeProps.j1 k1 a0 t426 t427 x10_1 x11_1 t434 true t430 t431 t432 t433) = some (r1, r2, r3) := by rw [if_neg (show ¬ (false = true) by decide)] at H; exact H
             clear H; have H := H1; clear H1; have H' := Aside0.mk H; clear H; go_wp2_with (first | ((with_reducible refine gate_callee (f := 31) rfl ?_); refine goesL_ (some 59) rfl rfl Tryd.func31 zz49 rfl #[.int .i64 a0, .int .i64 (wrap64 (bt x10_1 0))] rfl zz20 ?_; (with_reducible refine (fairwayref4_stands.calls k1 a0 (wrap64 (bt x10_1 0)) false _ A21.out).mono ?_); rintro e w32 ⟨rfl, hb⟩; refine ⟨_, rfl, ?_⟩; have n0_ := Aside0.mk (Kd.R_below zz0 hb); have n1_ := Aside0.mk (blk_below (g := gb436) (o := .cells #[.int .i64 t430, .int .i64 t431, .string t432, .string t433] 42 (0, 0)) (by (with_reducible repeat (first | refine blk_drewN ?_ _ | refine blk_drew ?_ | refine blk_alloc ?_ _)); refine blk_put (cs := #[.int .i64 t430, .int .i64 t431, .string t432, .string (⟨#[]⟩ : ByteArray)]) ?_ 3 _ rfl; (with_reducible repeat (first | refine blk_drewN ?_ _ | refine blk_drew ?_ | refine blk_alloc ?_ _)); refine blk_put (cs := #[.int .i64 t430, .int .i64 t431, .string (⟨#[]⟩ : ByteArray), .string (⟨#[]⟩ : ByteArray)]) ?_ 2 _ rfl; (with_reducible repeat (first | refine blk_drewN ?_ _ | refine blk_drew ?_ | refine blk_alloc ?_ _)); refine blk_put (cs := #[.int .i64 t430, .int .i64 0, .string (⟨#[]⟩ : ByteArray), .string (⟨#[]⟩ : ByteArray)]) ?_ 1 _ rfl; (with_reducible repeat (first | refine blk_drewN ?_ _ | refine blk_drew ?_ | refine blk_alloc ?_ _)); refine blk_put (cs := #[.int .i64 0, .int .i64 0, .string (⟨#[]⟩ : ByteArray), .string (⟨#[]⟩ : ByteArray)]) ?_ 0 _ rfl; (with_reducible repeat (first | refine blk_drewN ?_ _ | refine blk_drew ?_ | refine blk_alloc ?_ _)); exact BK436.out) hb); have n2_ := Aside0.mk (below_step zz14 hb); clear HO_11; clear BK436; clear HB; have HO_11 := n0_; have BK436 := n1_; have HB := n2_; clear n0_ n1_ n2_; (try clear hb); (try clear hb2); (try clear hk); (try clear hi)))
             go_meet
             case rel => exact ⟨_, (true), zz47, H', ⟨zz45⟩, ⟨by (with_reducible repeat (first | apply Kd.R_alloc | apply Kd.R_drewN | apply Kd.R_drew)); exact Kd.R_mono HO_11.out (fun _ hk => hk.2)⟩, ⟨zz29⟩, ⟨zz14⟩⟩
            case rest =>
             as_aux_lemma =>
              clear HC17; (try clear c1); (try clear p1); (try clear q1); (try clear hx1); (try clear qi1); (try clear c2); (try clear p2); (try clear c3); (try clear c4); (try clear c4b0); (try clear c4b1); (try clear c5); (try clear c5b0); (try clear c6); (try clear c6b0); (try clear c6b1); (try clear p6); (try clear c7); (try clear c7b0); (try clear c7b1); (try clear c8); (try clear c8b0); (try clear c8b1); (try clear c9); (try clear c9b0); (try clear c9b1); (try clear c10); (try clear c10b0); (try clear c10b1); (try clear p11); (try clear q11); (try clear hx11); (try clear qi11); (try clear c12); (try clear c13); (try clear c13b0); (try clear c13b1); (try clear c14); (try clear c14b0); (try clear c14b1); (try clear c16); (try clear c16b0); (try clear c16b1); (try clear c22); (try clear c24); (try clear c31); (try clear hcz20_0); (try clear hcz20_1); (try clear hcz20_2); (try clear hcz20_3); (try clear hcz30_0); (try clear hcz30_1); (try clear hcz30_2); (try clear hcz30_3); (try clear hfz20_0); (try clear hfz20_1); (try clear hfz20_2); (try clear hfz20_3); (try clear hfz30_0); (try clear hfz30_1); (try clear hfz30_2); (try clear hfz30_3); (try clear p11); (try clear p2); (try clear p6); (try clear q11); obtain ⟨kq, x71_16, rfl, HA, HJ16, HO_11, BK436, HB⟩ := hcut; cases kq with
              | zero => exact absurd HA.out (by simp [fairwayref4_TakeProps.j1])
              | succ kj16 =>
               have H := HA.out; clear HA; simp only [fairwayref4_TakeProps.j1] at H; by_cases c33 : x71_16 = true
               ·
                subst c33; have H1 : (some (([] : List (S42)), 0, 9)) = some (r1, r2, r3) := by rw [if_pos rfl] at H; exact H
                clear H; have H := H1; clear H1; simp only [Option.some.injEq, Prod.mk.injEq] at H; obtain ⟨rfl, rfl, rfl⟩ := H; go_wp2
                go_ret3
                exact ⟨_, zz40, zz16, zz14⟩
               replace c33 := Bool.eq_false_iff.mpr c33; subst c33; have H1 : (if (x11_1.length : Int) = 8 then (some (([] : List (S42)), 0, 2)) else (if x11_1.length < 2932031007402 then (if 0 ≤ (wrap64 (1 + t434)) then (if (wrap64 (1 + t434)) ≤ (x10_1.size : Int) then (fairwayref4_TakeProps.l0 kj16 a0 t426 t427 (x10_1.extract ((wrap64 (1 + t434)) : Int).toNat x10_1.size) (x11_1 ++ [(⟨t430, t431, t432, t433⟩ : S42)])) else (none)) else (none)) else (none))) = some (r1, r2, r3) := by rw [if_neg (show ¬ (false = true) by decide)] at H; exact H
               clear H; have H := H1; clear H1; by_cases c34 : (x11_1.length : Int) = 8
               ·
                rw [if_pos c34] at H; have c34b0 : ((x11_1.length : Int) == 8) = true := beq_iff_eq.mpr c34; have c34b1 : ((x11_1.length : Int) != 8) = false := bne_eq_false_iff_eq.mpr c34; clear c34; simp only [Option.some.injEq, Prod.mk.injEq] at H; obtain ⟨rfl, rfl, rfl⟩ := H; obtain ⟨Ao35, co35, eo35⟩ := Kd.R_slice HO_11.out; subst eo35; go_wp2
                go_ret3
                exact ⟨_, zz40, zz16, zz14⟩
               rw [if_neg c34] at H; have c34b0 : ((x11_1.length : Int) == 8) = false := beq_eq_false_iff_ne.mpr c34; have c34b1 : ((x11_1.length : Int) != 8) = true := bne_iff_ne.mpr c34; by_cases c36 : x11_1.length < 2932031007402
               ·
                rw [if_pos c36] at H; have LMc36 := Aside0.mk c36; clear c36; obtain ⟨y440, hy440⟩ : ∃ y_ : List (S42), y_ = (x11_1 ++ [(⟨t430, t431, t432, t433⟩ : S42)]) := ⟨_, rfl⟩; replace H : (if 0 ≤ (wrap64 (1 + t434)) then (if (wrap64 (1 + t434)) ≤ (x10_1.size : Int) then (fairwayref4_TakeProps.l0 kj16 a0 t426 t427 (x10_1.extract ((wrap64 (1 + t434)) : Int).toNat x10_1.size) y440) else (none)) else (none)) = some (r1, r2, r3) := by first | (rw [hy440]; with_reducible exact H) | (have H2_ := (Option.bind_some _ _).symm.trans H; rw [hy440]; with_reducible exact H2_) | (have H2_ := (Option.bind_some _ _).symm.trans H; with_reducible exact H2_) | with_reducible exact H | (rw [hy440]; exact H) | exact H
                have Ny440 := Aside0.mk hy440; clear hy440; obtain ⟨ji37, hji37⟩ : ∃ j_ : Int, (wrap64 (1 + t434)) = j_ := ⟨_, rfl⟩; replace H : (if 0 ≤ (ji37) then (if (ji37) ≤ (x10_1.size : Int) then (fairwayref4_TakeProps.l0 kj16 a0 t426 t427 (x10_1.extract ((ji37) : Int).toNat x10_1.size) y440) else (none)) else (none)) = some (r1, r2, r3) := by first | (rw [hji37] at H; exact H) | (simp only [hji37] at H ⊢; exact H)
                have hji37w : (IntKind.i64.wrap (1 + t434)) = ji37 := (i64_w _).trans hji37; by_cases c38 : 0 ≤ (ji37)
                ·
                 rw [if_pos c38] at H; have c38b0 := eq_true c38; have c38b1 : decide (0 ≤ (ji37)) = true := decide_eq_true c38; clear c38; by_cases c39 : (ji37) ≤ (x10_1.size : Int)
                 ·
                  rw [if_pos c39] at H; have c39b0 := eq_true c39; have c39b1 : decide ((ji37) ≤ (x10_1.size : Int)) = true := decide_eq_true c39; clear c39; have H' := Aside0.mk H; clear H; obtain ⟨Ao40, co40, eo40⟩ := Kd.R_slice HO_11.out; subst eo40; have hcz41_0 : wc.cell? ⟨gb436, 0, none⟩ = some (.int .i64 t430) := (blk_cell BK436.out 0).trans rfl; have hcz41_1 : wc.cell? ⟨gb436, 1, none⟩ = some (.int .i64 t431) := (blk_cell BK436.out 1).trans rfl; have hcz41_2 : wc.cell? ⟨gb436, 2, none⟩ = some (.string t432) := (blk_cell BK436.out 2).trans rfl; have hcz41_3 : wc.cell? ⟨gb436, 3, none⟩ = some (.string t433) := (blk_cell BK436.out 3).trans rfl; have hfz41_0 := blk_frozen BK436.out 0; have hfz41_1 := blk_frozen BK436.out 1; have hfz41_2 := blk_frozen BK436.out 2; have hfz41_3 := blk_frozen BK436.out 3; go_wp2_with (first | ((with_reducible refine gate_builtin (b := .append) (xs := #[.tmp 75, .tmp 77]) rfl ?_); at_builtin; refine Kd.R_append k42 (w0 := w) w.heap.size rfl (.tmp 75) (.tmp 77) 23 42 (.agg #[(.int .i64 0), (.int .i64 0), (.string ⟨#[]⟩), (.string ⟨#[]⟩)]) 48 rfl Tryd.underlying23 info42 rfl (by decide) (by omega) (.slice Ao40 x11_1.length co40) x11_1 (⟨t430, t431, t432, t433⟩ : S42) [.int .i64 t430, .int .i64 t431, .string t432, .string t433] (fun k_ => k_ ≠ gb436) (fun _ => False) rfl rfl ?aP (fun _ hk => hk.elim) ?aF ?aO ?aB ?aS ?aL ?_; (case aP => exact k42_mkM _ _ _ (⟨t430, t431, t432, t433⟩ : S42)); (case aB => exact zz14); (case aF => exact (fun k_ hk => Kd.freshB (g := gb436) (o := .cells #[.int .i64 t430, .int .i64 t431, .string t432, .string t433] 42 (0, 0)) zz29 k_ hk)); (case aO => exact zz34); (case aS => exact (below_size zz14)); (case aL => have := LMc36.out; omega); intro v441 w42 ho hb hg hat; rw [← Ny440.out] at ho; have n0_ := Aside0.mk (blk_grown (g := gb436) (o := .cells #[.int .i64 t430, .int .i64 t431, .string t432, .string t433] 42 (0, 0)) zz29 hg (Kd.R_away HO_11.out (fun _ hk => hk))); have n1_ := Aside0.mk (hb); have n2_ := Aside0.mk (ho); clear BK436; clear HB; clear HO_11; have BK436 := n0_; have HB := n1_; have HO442 := n2_; clear n0_ n1_ n2_; clear ho hb hg hat))
                  go_roundg kj16
                  case measure => have := HK1.out; have := HJ16.out; omega
                  case rel => exact ⟨(x10_1.extract ((ji37) : Int).toNat x10_1.size), (y440), (by first | rfl | (simp; done) | (simp only [← hji37] <;> (first | rfl | simp)) | (simp [*]; done)), H', ⟨by have := HK1.out; have := HJ16.out; omega⟩, ⟨by (with_reducible repeat (first | apply Kd.R_alloc | apply Kd.R_drewN | apply Kd.R_drew)); exact Kd.R_mono HO442.out (fun _ hk => trivial)⟩, ⟨zz14⟩⟩
                 rw [if_neg c39] at H; exact absurd H (by simp)
                rw [if_neg c38] at H; exact absurd H (by simp)
               rw [if_neg c36] at H; exact absurd H (by simp)
           rw [if_neg c16] at H; have c16b0 : (t435 == 0) = false := beq_eq_false_iff_ne.mpr c16; have c16b1 : (t435 != 0) = true := bne_iff_ne.mpr c16; simp only [Option.some.injEq, Prod.mk.injEq] at H; obtain ⟨rfl, rfl, rfl⟩ := H; have p11 : 0 ≤ (0 : Int) := (by omega); have q11 : 0 < x10_1.size := (by have : (0 : Int) < (x10_1.size : Int) := of_decide_eq_true zz46; omega); have hx11 : ∀ h : 0 < x10_1.size, ((x10_1[0]'h).toNat : Int) = bt x10_1 0 := bt_at x10_1 0; clear p11; have qi11 : (0 < (x10_1.size : Int)) = True := eq_true (of_decide_eq_true zz46); replace q11 := eq_true q11; go_wp2_with (first | ((with_reducible refine gate_callee (f := 12) rfl ?_); refine goesL_ (some 44) rfl rfl Tryd.func12 zz49 rfl #[.int .i64 (wrap64 (bt x10_1 0))] rfl zz20 ?_; (with_reducible refine (fairwayref4_Kind.calls k1 (wrap64 (bt x10_1 0)) t429 _ A12.out).mono ?_); rintro e w' ⟨rfl, ⟨nd, rfl⟩⟩; refine ⟨_, rfl, ?_⟩; (try (rw [drewN_self wr]; generalize hq_ : World.drewN wr _ = wr; have n0_ : Aside0 (Kd.R k42 42 wr w.heap.size (fun _ => True) u11 x11_1) := ⟨by rw [← hq_]; exact zz34⟩; have n1_ : Aside0 (Below w.heap.size w wr) := ⟨by rw [← hq_]; exact zz21⟩; clear HO_11 HB hq_; have HO_11 := n0_; have HB := n1_; clear n0_ n1_))) | ((with_reducible refine gate_callee (f := 40) rfl ?_); refine goesL_ (some 50) rfl rfl Tryd.func40 zz49 rfl #[.int .i64 (wrap64 (bt x10_1 0)), .string (x10_1.extract 1 x10_1.size)] rfl zz20 ?_; (with_reducible refine (fairwayref4_value.calls k1 (wrap64 (bt x10_1 0)) (x10_1.extract 1 x10_1.size) t430 t431 t432 t433 t434 t435 _ A15.out).mono ?_); rintro e w43 ⟨rfl, hb⟩; refine ⟨_, rfl, ?_⟩; have n0_ := Aside0.mk (Kd.R_below zz34 hb); have n1_ := Aside0.mk (below_step zz21 hb); clear HO_11; clear HB; have HO_11 := n0_; have HB := n1_; clear n0_ n1_; (try clear hb); (try clear hb2); (try clear hk); (try clear hi)) | ((with_reducible refine gate_dst (N := 13) rfl ?_); refine box_event ?hg (N := 13) ?hd (cs := #[.int .i64 0, .int .i64 0, .string (⟨#[]⟩ : ByteArray), .string (⟨#[]⟩ : ByteArray)]) (t := 42) ?hr ?_; (case hd => rfl); (case hg => rfl); (case hr => first | (go_simp; done) | (go_simp; rfl)); intro gb436 hg w44 hbox hb; have n0_ := Aside0.mk (Kd.R_below (Kd.R_elderB zz34 gb436 (Nat.le_of_eq hg.symm)) hb); have n1_ := Aside0.mk (below_step zz21 hb); have n2_ := Aside0.mk (hbox); have n3_ := Aside0.mk ((by rw [hg]; exact (below_size zz21) : w.heap.size ≤ gb436)); have n4_ := Aside0.mk ((by rw [hg]; exact (below_size zz21) : w.heap.size ≤ gb436)); clear HO_11; clear HB; have HO_11 := n0_; have HB := n1_; have BK436 := n2_; have GW436 := n3_; have GE436 := n4_; clear n0_ n1_ n2_ n3_ n4_; clear hb hbox hg; have hcz45_0 : w44.cell? ⟨gb436, 0, none⟩ = some (.int .i64 0) := (blk_cell BK436.out 0).trans rfl; have hcz45_1 : w44.cell? ⟨gb436, 1, none⟩ = some (.int .i64 0) := (blk_cell BK436.out 1).trans rfl; have hcz45_2 : w44.cell? ⟨gb436, 2, none⟩ = some (.string (⟨#[]⟩ : ByteArray)) := (blk_cell BK436.out 2).trans rfl; have hcz45_3 : w44.cell? ⟨gb436, 3, none⟩ = some (.string (⟨#[]⟩ : ByteArray)) := (blk_cell BK436.out 3).trans rfl; have hfz45_0 := blk_frozen BK436.out 0; have hfz45_1 := blk_frozen BK436.out 1; have hfz45_2 := blk_frozen BK436.out 2; have hfz45_3 := blk_frozen BK436.out 3))
           go_ret3
           exact ⟨_, zz40, zz16, zz14⟩
          rw [if_neg c14] at H; exact absurd H (by simp)
         rw [if_neg c10] at H; exact absurd H (by simp)
        rw [if_neg c9] at H; have c9b0 : decide (0 < (x10_1.size : Int)) = false := decide_eq_false c9; have c9b1 : decide (0 < x10_1.size) = false := decide_eq_false (by omega); clear c9; simp only [Option.some.injEq, Prod.mk.injEq] at H; obtain ⟨rfl, rfl, rfl⟩ := H; go_wp2
        go_ret3
        exact ⟨_, zz40, zz34, zz21⟩
    rw [if_neg c8] at H; exact absurd H (by simp)
   rw [if_neg c7] at H; exact absurd H (by simp)
  rw [if_neg c6] at H; exact absurd H (by simp)
 rw [if_neg c4] at H; have c4b0 : (t428 == 0) = false := beq_eq_false_iff_ne.mpr c4; have c4b1 : (t428 != 0) = true := bne_iff_ne.mpr c4; simp only [Option.some.injEq, Prod.mk.injEq] at H; obtain ⟨rfl, rfl, rfl⟩ := H; go_enter Tryd.func24, Tryd.ntmps24
 go_wp2_with (first | ((with_reducible refine gate_callee (f := 39) rfl ?_); refine goesL_ (some 18) rfl rfl Tryd.func39 zz49 rfl #[.string a1] rfl zz20 ?_; (with_reducible refine (fairwayref1_TakeNum.calls k a1 t426 t427 t428 _ A3.out).mono ?_); rintro e w' ⟨rfl, ⟨nd, rfl⟩⟩; refine ⟨_, rfl, ?_⟩))
 go_ret3
 exact ⟨_, zz40, zz16, zz21⟩
def fairwaylaw0_Props.l0 : Nat → List (S42) → Int → Option (Unit)
  | 0, _, _ => none
  | k + 1, x0, x2 => if x2 < (x0.length : Int) then (if 0 ≤ x2 then (fairwaylaw0_Props.l0 k (x0.set (x2 : Int).toNat (⟨(-9), 0, (⟨#[]⟩ : ByteArray), (⟨#[]⟩ : ByteArray)⟩ : S42)) (wrap64 (x2 + 1))) else (none)) else (if x0.length < 2932031007402 then (some ()) else (none))
def fairwaylaw0_Props.f (k : Nat) (l0 : List (S42)) : Option (Unit) := fairwaylaw0_Props.l0 k l0 0
end Go.Proofs.YtiancopplinpcaaDoor.P
end
section
namespace Go.Proofs.YtiancopplinpcaaDoor.P
open Go.RowKit Go.Proofs.YtiancopplinpcaaDoorW.PrintWords Go.Proofs.YtiancopplinpcaaDoorW.PrintLast Go.Proofs.YtiancopplinpcaaDoorW.PrintMore
set_option linter.unusedVariables false
set_option linter.unusedSimpArgs false
noncomputable def fairwayref4_fits.fL (a0_0 : Int) (a0_1 : Int) (a0_2 : ByteArray) (a0_3 : ByteArray) : Option (Bool) := lim fun k => fairwayref4_fits.f k a0_0 a0_1 a0_2 a0_3
end Go.Proofs.YtiancopplinpcaaDoor.P
end
section
namespace Go.Proofs.YtiancopplinpcaaDoor.P
open Go.RowKit Go.Proofs.YtiancopplinpcaaDoorW.PrintWords Go.Proofs.YtiancopplinpcaaDoorW.PrintLast Go.Proofs.YtiancopplinpcaaDoorW.PrintMore
set_option linter.unusedVariables false
set_option linter.unusedSimpArgs false
noncomputable def fairwayref4_stands.fL (a0 : Int) (a1 : Int) : Option (Bool) := lim fun k => fairwayref4_stands.f k a0 a1
noncomputable def fairwayref4_twice.fL (a0 : Int) (a1 : Int) (l2 : List (S42)) : Option (Bool) := lim fun k => fairwayref4_twice.f k a0 a1 l2
end Go.Proofs.YtiancopplinpcaaDoor.P
end
section
namespace Go.Proofs.YtiancopplinpcaaDoor.P
open Go.RowKit Go.Proofs.YtiancopplinpcaaDoorW.PrintWords Go.Proofs.YtiancopplinpcaaDoorW.PrintLast Go.Proofs.YtiancopplinpcaaDoorW.PrintMore
set_option linter.unusedVariables false
set_option linter.unusedSimpArgs false
noncomputable def fairwayref1_TakeLong.fL (a0 : ByteArray) (a1 : Bool) : Option (ByteArray × Int × Int) := lim fun k => fairwayref1_TakeLong.f k a0 a1
noncomputable def fairwayref4_value.fL (a0 : Int) (a1 : ByteArray) : Option (Int × Int × ByteArray × ByteArray × Int × Int) := lim fun k => fairwayref4_value.f k a0 a1
noncomputable def fairwayref4_value.j0L (x1 : ByteArray) (x8 : Int) (x24 : Int) (x25 : Bool) (x407000 : Int) (x407001 : Int) (x407002 : ByteArray) (x407003 : ByteArray) : Option (Int × Int × ByteArray × ByteArray × Int × Int) := lim fun k => fairwayref4_value.j0 k x1 x8 x24 x25 x407000 x407001 x407002 x407003
noncomputable def fairwayref4_value.j1L (x1 : ByteArray) (x15 : ByteArray) (x16 : Int) (x17 : Int) (x73 : Bool) (x407000 : Int) (x407001 : Int) (x407002 : ByteArray) (x407003 : ByteArray) : Option (Int × Int × ByteArray × ByteArray × Int × Int) := lim fun k => fairwayref4_value.j1 k x1 x15 x16 x17 x73 x407000 x407001 x407002 x407003
theorem fairwayref4_value.fL_eq (a0 : Int) (a1 : ByteArray) : fairwayref4_value.fL a0 a1 = (fairwayref4_Kind.fL a0).bind fun t407 => (if t407 = 1 then (fairwayref4_value.j0L a1 t407 t407 (t407 == 1) a0 0 (⟨#[]⟩ : ByteArray) (⟨#[]⟩ : ByteArray)) else (if t407 = 2 then (fairwayref4_value.j0L a1 t407 t407 (t407 == 2) a0 0 (⟨#[]⟩ : ByteArray) (⟨#[]⟩ : ByteArray)) else (fairwayref4_value.j0L a1 t407 t407 (t407 == 3) a0 0 (⟨#[]⟩ : ByteArray) (⟨#[]⟩ : ByteArray)))) := by
  show lim (fun k => fairwayref4_value.f k a0 a1) = _
  show lim (fun k => (fairwayref4_Kind.f k a0).bind fun t407 => (if t407 = 1 then (fairwayref4_value.j0 k a1 t407 t407 (t407 == 1) a0 0 (⟨#[]⟩ : ByteArray) (⟨#[]⟩ : ByteArray)) else (if t407 = 2 then (fairwayref4_value.j0 k a1 t407 t407 (t407 == 2) a0 0 (⟨#[]⟩ : ByteArray) (⟨#[]⟩ : ByteArray)) else (fairwayref4_value.j0 k a1 t407 t407 (t407 == 3) a0 0 (⟨#[]⟩ : ByteArray) (⟨#[]⟩ : ByteArray))))) = _
  repeat' (first | exact lim_const _ | (with_reducible refine lim_ite' ?_ ?_) | ((with_reducible refine lim_bind' ?hm ?hx (fun _ => ?_)); (case hm => exact (fun k => by first | exact LeO.refl _ | apply fairwayref4_Kind.mono)); (case hx => first | exact lim_const _ | rfl)) | rfl)
theorem fairwayref4_value.j0L_eq (x1 : ByteArray) (x8 : Int) (x24 : Int) (x25 : Bool) (x407000 : Int) (x407001 : Int) (x407002 : ByteArray) (x407003 : ByteArray) : fairwayref4_value.j0L x1 x8 x24 x25 x407000 x407001 x407002 x407003 = if x25 = true then ((some (([0, 1, 2, 4] : List Int) : List Int)).bind fun y408 => (if 0 ≤ x8 then (if x8 < (y408.length : Int) then ((fairwayref1_TakeFixed.fL x1 (rd y408 x8)).bind fun bt412 => (if bt412.2 = true then (some (x407000, bt412.1, x407002, x407003, rd y408 x8, 0)) else (some (x407000, x407001, x407002, x407003, 0, 8)))) else (none)) else (none))) else (if x24 = 4 then ((fairwayref1_TakeNum.fL x1).bind fun bt414 => ((fairwayref4_inner.f bt414.2.2).bind fun t417 => (some (x407000, bt414.1, x407002, x407003, bt414.2.1, t417)))) else ((fairwayref1_TakeLong.fL x1 (x8 != 6)).bind fun bt418 => (if bt418.2.2 = 0 then (fairwayref4_value.j1L x1 bt418.1 bt418.2.1 bt418.2.2 (x8 != 7) x407000 x407001 x407002 x407003) else (fairwayref4_value.j1L x1 bt418.1 bt418.2.1 bt418.2.2 true x407000 x407001 x407002 x407003)))) := by
  show lim (fun k => fairwayref4_value.j0 k x1 x8 x24 x25 x407000 x407001 x407002 x407003) = _
  rw [lim_step (f := fun k => if x25 = true then ((some (([0, 1, 2, 4] : List Int) : List Int)).bind fun y408 => (if 0 ≤ x8 then (if x8 < (y408.length : Int) then ((fairwayref1_TakeFixed.f k x1 (rd y408 x8)).bind fun bt412 => (if bt412.2 = true then (some (x407000, bt412.1, x407002, x407003, rd y408 x8, 0)) else (some (x407000, x407001, x407002, x407003, 0, 8)))) else (none)) else (none))) else (if x24 = 4 then ((fairwayref1_TakeNum.f k x1).bind fun bt414 => ((fairwayref4_inner.f bt414.2.2).bind fun t417 => (some (x407000, bt414.1, x407002, x407003, bt414.2.1, t417)))) else ((fairwayref1_TakeLong.f k x1 (x8 != 6)).bind fun bt418 => (if bt418.2.2 = 0 then (fairwayref4_value.j1 k x1 bt418.1 bt418.2.1 bt418.2.2 (x8 != 7) x407000 x407001 x407002 x407003) else (fairwayref4_value.j1 k x1 bt418.1 bt418.2.1 bt418.2.2 true x407000 x407001 x407002 x407003))))) (fun k => by first | rfl | simp only [fairwayref4_value.j0])]
  repeat' (first | exact lim_const _ | (with_reducible refine lim_ite' ?_ ?_) | ((with_reducible refine lim_bind' ?hm ?hx (fun _ => ?_)); (case hm => exact (fun k => by first | exact LeO.refl _ | apply fairwayref1_TakeFixed.mono | apply fairwayref1_TakeLong.mono | apply fairwayref1_TakeNum.mono)); (case hx => first | exact lim_const _ | rfl)) | rfl)
theorem fairwayref4_value.j1L_eq (x1 : ByteArray) (x15 : ByteArray) (x16 : Int) (x17 : Int) (x73 : Bool) (x407000 : Int) (x407001 : Int) (x407002 : ByteArray) (x407003 : ByteArray) : fairwayref4_value.j1L x1 x15 x16 x17 x73 x407000 x407001 x407002 x407003 = if x73 = true then ((fairwayref4_inner.f x17).bind fun t421 => (some (x407000, x407001, x15, x407003, x16, t421))) else (if 0 ≤ x16 then (if x16 ≤ (x1.size : Int) then ((fairwayref1_TakeLong.fL (x1.extract (x16 : Int).toNat x1.size) true).bind fun bt422 => ((fairwayref4_inner.f bt422.2.2).bind fun t425 => (some (x407000, x407001, x15, bt422.1, wrap64 (x16 + bt422.2.1), t425)))) else (none)) else (none)) := by
  show lim (fun k => fairwayref4_value.j1 k x1 x15 x16 x17 x73 x407000 x407001 x407002 x407003) = _
  rw [lim_step (f := fun k => if x73 = true then ((fairwayref4_inner.f x17).bind fun t421 => (some (x407000, x407001, x15, x407003, x16, t421))) else (if 0 ≤ x16 then (if x16 ≤ (x1.size : Int) then ((fairwayref1_TakeLong.f k (x1.extract (x16 : Int).toNat x1.size) true).bind fun bt422 => ((fairwayref4_inner.f bt422.2.2).bind fun t425 => (some (x407000, x407001, x15, bt422.1, wrap64 (x16 + bt422.2.1), t425)))) else (none)) else (none))) (fun k => by first | rfl | simp only [fairwayref4_value.j1])]
  repeat' (first | exact lim_const _ | (with_reducible refine lim_ite' ?_ ?_) | ((with_reducible refine lim_bind' ?hm ?hx (fun _ => ?_)); (case hm => exact (fun k => by first | exact LeO.refl _ | apply fairwayref1_TakeLong.mono)); (case hx => first | exact lim_const _ | rfl)) | rfl)
end Go.Proofs.YtiancopplinpcaaDoor.P
end
section
namespace Go.Proofs.YtiancopplinpcaaDoor.P
open Go.RowKit Go.Proofs.YtiancopplinpcaaDoorW.PrintWords Go.Proofs.YtiancopplinpcaaDoorW.PrintLast Go.Proofs.YtiancopplinpcaaDoorW.PrintMore
set_option linter.unusedVariables false
set_option linter.unusedSimpArgs false
noncomputable def fairwayref4_TakeProps.fL (a0 : Int) (a1 : ByteArray) : Option ((List (S42)) × Int × Int) := lim fun k => fairwayref4_TakeProps.f k a0 a1
noncomputable def fairwayref4_TakeProps.l0L (x0 : Int) (x7 : Int) (x8 : Int) (x10 : ByteArray) (x11 : List (S42)) : Option ((List (S42)) × Int × Int) := lim fun k => fairwayref4_TakeProps.l0 k x0 x7 x8 x10 x11
noncomputable def fairwayref4_TakeProps.j1L (x0 : Int) (x7 : Int) (x8 : Int) (x10 : ByteArray) (x11 : List (S42)) (x14 : Int) (x71 : Bool) (x437000 : Int) (x437001 : Int) (x437002 : ByteArray) (x437003 : ByteArray) : Option ((List (S42)) × Int × Int) := lim fun k => fairwayref4_TakeProps.j1 k x0 x7 x8 x10 x11 x14 x71 x437000 x437001 x437002 x437003
theorem fairwayref4_TakeProps.fL_eq (a0 : Int) (a1 : ByteArray) : fairwayref4_TakeProps.fL a0 a1 = (fairwayref1_TakeNum.fL a1).bind fun bt426 => (if bt426.2.2 = 0 then (if (wrap64 ((a1.size : Int) - bt426.2.1)) < bt426.1 then (some (([] : List (S42)), 0, 7)) else (if 0 ≤ bt426.2.1 then (if bt426.2.1 ≤ (wrap64 (bt426.2.1 + bt426.1)) then (if (wrap64 (bt426.2.1 + bt426.1)) ≤ (a1.size : Int) then (fairwayref4_TakeProps.l0L a0 bt426.1 bt426.2.1 (a1.extract (bt426.2.1 : Int).toNat ((wrap64 (bt426.2.1 + bt426.1)) : Int).toNat) ([] : List (S42))) else (none)) else (none)) else (none))) else (some (([] : List (S42)), 0, bt426.2.2))) := by
  show lim (fun k => fairwayref4_TakeProps.f k a0 a1) = _
  show lim (fun k => (fairwayref1_TakeNum.f k a1).bind fun bt426 => (if bt426.2.2 = 0 then (if (wrap64 ((a1.size : Int) - bt426.2.1)) < bt426.1 then (some (([] : List (S42)), 0, 7)) else (if 0 ≤ bt426.2.1 then (if bt426.2.1 ≤ (wrap64 (bt426.2.1 + bt426.1)) then (if (wrap64 (bt426.2.1 + bt426.1)) ≤ (a1.size : Int) then (fairwayref4_TakeProps.l0 k a0 bt426.1 bt426.2.1 (a1.extract (bt426.2.1 : Int).toNat ((wrap64 (bt426.2.1 + bt426.1)) : Int).toNat) ([] : List (S42))) else (none)) else (none)) else (none))) else (some (([] : List (S42)), 0, bt426.2.2)))) = _
  repeat' (first | exact lim_const _ | (with_reducible refine lim_ite' ?_ ?_) | ((with_reducible refine lim_bind' ?hm ?hx (fun _ => ?_)); (case hm => exact (fun k => by first | exact LeO.refl _ | apply fairwayref1_TakeNum.mono)); (case hx => first | exact lim_const _ | rfl)) | rfl)
theorem fairwayref4_TakeProps.l0L_eq (x0 : Int) (x7 : Int) (x8 : Int) (x10 : ByteArray) (x11 : List (S42)) : fairwayref4_TakeProps.l0L x0 x7 x8 x10 x11 = if (x10.size : Int) > 0 then (if 0 < (x10.size : Int) then ((fairwayref4_Kind.fL (wrap64 (bt x10 0))).bind fun t429 => (if t429 = 0 then (some (([] : List (S42)), 0, 8)) else (if 1 ≤ (x10.size : Int) then ((fairwayref4_value.fL (wrap64 (bt x10 0)) (x10.extract 1 x10.size)).bind fun bt430 => (if bt430.2.2.2.2.2 = 0 then ((fairwayref4_stands.fL x0 (wrap64 (bt x10 0))).bind fun t437 => (if t437 = true then ((fairwayref4_twice.fL x0 (wrap64 (bt x10 0)) x11).bind fun t438 => (if t438 = true then (fairwayref4_TakeProps.j1L x0 x7 x8 x10 x11 bt430.2.2.2.2.1 true bt430.1 bt430.2.1 bt430.2.2.1 bt430.2.2.2.1) else ((fairwayref4_fits.fL bt430.1 bt430.2.1 bt430.2.2.1 bt430.2.2.2.1).bind fun t439 => (fairwayref4_TakeProps.j1L x0 x7 x8 x10 x11 bt430.2.2.2.2.1 (!t439) bt430.1 bt430.2.1 bt430.2.2.1 bt430.2.2.2.1)))) else (fairwayref4_TakeProps.j1L x0 x7 x8 x10 x11 bt430.2.2.2.2.1 true bt430.1 bt430.2.1 bt430.2.2.1 bt430.2.2.2.1))) else (some (([] : List (S42)), 0, bt430.2.2.2.2.2)))) else (none)))) else (none)) else (some (x11, wrap64 (x8 + x7), 0)) := by
  show lim (fun k => fairwayref4_TakeProps.l0 k x0 x7 x8 x10 x11) = _
  rw [lim_step (f := fun k => if (x10.size : Int) > 0 then (if 0 < (x10.size : Int) then ((fairwayref4_Kind.f k (wrap64 (bt x10 0))).bind fun t429 => (if t429 = 0 then (some (([] : List (S42)), 0, 8)) else (if 1 ≤ (x10.size : Int) then ((fairwayref4_value.f k (wrap64 (bt x10 0)) (x10.extract 1 x10.size)).bind fun bt430 => (if bt430.2.2.2.2.2 = 0 then ((fairwayref4_stands.f k x0 (wrap64 (bt x10 0))).bind fun t437 => (if t437 = true then ((fairwayref4_twice.f k x0 (wrap64 (bt x10 0)) x11).bind fun t438 => (if t438 = true then (fairwayref4_TakeProps.j1 k x0 x7 x8 x10 x11 bt430.2.2.2.2.1 true bt430.1 bt430.2.1 bt430.2.2.1 bt430.2.2.2.1) else ((fairwayref4_fits.f k bt430.1 bt430.2.1 bt430.2.2.1 bt430.2.2.2.1).bind fun t439 => (fairwayref4_TakeProps.j1 k x0 x7 x8 x10 x11 bt430.2.2.2.2.1 (!t439) bt430.1 bt430.2.1 bt430.2.2.1 bt430.2.2.2.1)))) else (fairwayref4_TakeProps.j1 k x0 x7 x8 x10 x11 bt430.2.2.2.2.1 true bt430.1 bt430.2.1 bt430.2.2.1 bt430.2.2.2.1))) else (some (([] : List (S42)), 0, bt430.2.2.2.2.2)))) else (none)))) else (none)) else (some (x11, wrap64 (x8 + x7), 0))) (fun k => by first | rfl | simp only [fairwayref4_TakeProps.l0])]
  repeat' (first | exact lim_const _ | (with_reducible refine lim_ite' ?_ ?_) | ((with_reducible refine lim_bind' ?hm ?hx (fun _ => ?_)); (case hm => exact (fun k => by first | exact LeO.refl _ | apply fairwayref4_Kind.mono | apply fairwayref4_fits.mono | apply fairwayref4_stands.mono | apply fairwayref4_twice.mono | apply fairwayref4_value.mono)); (case hx => first | exact lim_const _ | rfl)) | rfl)
theorem fairwayref4_TakeProps.j1L_eq (x0 : Int) (x7 : Int) (x8 : Int) (x10 : ByteArray) (x11 : List (S42)) (x14 : Int) (x71 : Bool) (x437000 : Int) (x437001 : Int) (x437002 : ByteArray) (x437003 : ByteArray) : fairwayref4_TakeProps.j1L x0 x7 x8 x10 x11 x14 x71 x437000 x437001 x437002 x437003 = if x71 = true then (some (([] : List (S42)), 0, 9)) else (if (x11.length : Int) = 8 then (some (([] : List (S42)), 0, 2)) else (if x11.length < 2932031007402 then (if 0 ≤ (wrap64 (1 + x14)) then (if (wrap64 (1 + x14)) ≤ (x10.size : Int) then (fairwayref4_TakeProps.l0L x0 x7 x8 (x10.extract ((wrap64 (1 + x14)) : Int).toNat x10.size) (x11 ++ [(⟨x437000, x437001, x437002, x437003⟩ : S42)])) else (none)) else (none)) else (none))) := by
  show lim (fun k => fairwayref4_TakeProps.j1 k x0 x7 x8 x10 x11 x14 x71 x437000 x437001 x437002 x437003) = _
  rw [lim_step (f := fun k => if x71 = true then (some (([] : List (S42)), 0, 9)) else (if (x11.length : Int) = 8 then (some (([] : List (S42)), 0, 2)) else (if x11.length < 2932031007402 then (if 0 ≤ (wrap64 (1 + x14)) then (if (wrap64 (1 + x14)) ≤ (x10.size : Int) then (fairwayref4_TakeProps.l0 k x0 x7 x8 (x10.extract ((wrap64 (1 + x14)) : Int).toNat x10.size) (x11 ++ [(⟨x437000, x437001, x437002, x437003⟩ : S42)])) else (none)) else (none)) else (none)))) (fun k => by first | rfl | simp only [fairwayref4_TakeProps.j1])]
  repeat' (first | exact lim_const _ | (with_reducible refine lim_ite' ?_ ?_) | ((with_reducible refine lim_bind' ?hm ?hx (fun _ => ?_)); (case hm => exact (fun k => by first | exact LeO.refl _)); (case hx => first | exact lim_const _ | rfl)) | rfl)
end Go.Proofs.YtiancopplinpcaaDoor.P
end
section
namespace Go.Proofs.YtiancopplinpcaaDoor.P
open Go.RowKit Go.Proofs.YtiancopplinpcaaDoorW.PrintWords Go.Proofs.YtiancopplinpcaaDoorW.PrintLast Go.Proofs.YtiancopplinpcaaDoorW.PrintMore
set_option linter.unusedSimpArgs false
set_option linter.unusedVariables false
theorem size_list (x : ByteArray) : x.toList = ([] : List UInt8) ↔ x.size = 0 := by
  rw [ByteArray.toList_eq]
  constructor
  · intro h
    have := congrArg List.length h
    rw [Array.length_toList] at this
    exact this
  · intro h
    apply List.eq_nil_of_length_eq_zero
    rw [Array.length_toList]
    exact h
theorem chk_of (s : ByteArray) (f : Nat) : ∀ p, chk s f p = 0 ∨ chk s f p = 8 := by
  induction f with
  | zero => intro p; exact .inl rfl
  | succ f ih =>
    intro p
    unfold chk
    repeat' split
    all_goals first | exact .inl rfl | exact .inr rfl | exact ih _
theorem checkT_of (s : ByteArray) : checkT s = 0 ∨ checkT s = 2 ∨ checkT s = 8 := by
  unfold checkT
  split
  · exact .inr (.inl rfl)
  · rcases chk_of s s.size 0 with h | h
    · exact .inl h
    · exact .inr (.inr h)
theorem tbin_of (s : ByteArray) (hs : s.size ≤ 100000) : ((tbin s).2.2 = 0 ∧ 2 ≤ (tbin s).2.1 ∧ (tbin s).2.1 ≤ s.size ∧ ((tbin s).1.size : Int) ≤ 1024) ∨ (tbin s).2.2 = 2 ∨ (tbin s).2.2 = 7 := by
  have hv := val2_range s
  unfold tbin
  by_cases a : (s.size : Int) < 2
  · rw [if_pos a]; exact .inr (.inr rfl)
  · rw [if_neg a]
    by_cases b : val2 s > 1024
    · rw [if_pos b]; exact .inr (.inl rfl)
    · rw [if_neg b]
      by_cases c : (s.size : Int) - 2 < val2 s
      · rw [if_pos c]; exact .inr (.inr rfl)
      · rw [if_neg c]
        refine .inl ⟨rfl, ?_, ?_, ?_⟩
        · show 2 ≤ 2 + val2 s; omega
        · show 2 + val2 s ≤ s.size; omega
        · show ((s.extract 2 (2 + val2 s).toNat).size : Int) ≤ 1024
          rw [extract_size s (by omega) (by omega)]; omega
theorem takeT_of (s : ByteArray) (hs : s.size ≤ 100000) : ((takeT s true).2.2 = 0 ∧ 2 ≤ (takeT s true).2.1 ∧ (takeT s true).2.1 ≤ s.size ∧ checkT (takeT s true).1 = 0) ∨ (takeT s true).2.2 = 2 ∨ (takeT s true).2.2 = 7 ∨ (takeT s true).2.2 = 8 := by
  unfold takeT
  have h := tbin_of s hs
  by_cases a : (tbin s).2.2 = 0
  · rw [if_pos a, if_pos rfl]
    by_cases b : checkT (tbin s).1 = 0
    · rw [if_pos b]
      refine .inl ⟨a, ?_, ?_, b⟩ <;> omega
    · rw [if_neg b]
      have := checkT_of (tbin s).1
      right
      show checkT (tbin s).1 = 2 ∨ checkT (tbin s).1 = 7 ∨ checkT (tbin s).1 = 8
      omega
  · rw [if_neg a]
    right
    omega
theorem tk_of (s : ByteArray) (d : Nat) : ∀ (i : Nat) (n : Int), (tk s d i n).2.2 = 0 ∨ (tk s d i n).2.2 = 7 ∨ (tk s d i n).2.2 = 8 := by
  induction d with
  | zero => intro i n; exact .inr (.inr rfl)
  | succ d ih =>
    intro i n
    unfold tk
    repeat' split
    all_goals first | exact .inl rfl | exact .inr (.inl rfl) | exact .inr (.inr rfl) | exact ih _ _
theorem tkn_of (s : ByteArray) : ((tkn s).2.2 = 0 ∧ 0 ≤ (tkn s).1 ∧ (tkn s).1 ≤ 268435455 ∧ 0 ≤ (tkn s).2.1 ∧ (tkn s).2.1 ≤ s.size) ∨ (tkn s).2.2 = 7 ∨ (tkn s).2.2 = 8 := by
  rcases tk_of s 4 0 0 with h | h | h
  · have := tkn_was (x := s) (m := (tkn s).1) (k := (tkn s).2.1) (by rw [← show (tkn s).2.2 = 0 from h])
    exact .inl ⟨h, this.1, this.2.1, this.2.2.1, this.2.2.2.1⟩
  · exact .inr (.inl h)
  · exact .inr (.inr h)
def innerT (e : Int) : Int := if e = 7 then 8 else e
theorem inner_is (e : Int) : fairwayref4_inner.f e = some (innerT e) := by
  unfold fairwayref4_inner.f innerT
  split <;> rfl
theorem innerT0 : innerT 0 = 0 := by decide
theorem kind_is (id : Int) : prop_Kind.fL id = some (kindOf id, if kindOf id = 0 then 3 else 0) := lim_of (kind_ev id)
theorem refKind_is (id : Int) : fairwayref4_Kind.fL id = some (kindOf id) := lim_of (refKind_ev id)
theorem takeNum_is (s : ByteArray) : vbi_TakeNum.fL s = some (tkn s) := lim_of (take_ev s)
theorem refTakeNum_is (s : ByteArray) : fairwayref1_TakeNum.fL s = some (tkn s) := lim_of (ref_take_ev s)
theorem takeText_is (s : ByteArray) (hs : s.size ≤ 100000) : vbi_TakeText.fL s = some (takeT s true) := lim_of (vtakeText_ev s (by omega))
theorem takeBin_is (s : ByteArray) (hs : s.size ≤ 100000) : vbi_TakeBin.fL s = some (tbin s) := lim_of (takeBin_ev s (by omega))
theorem takeLong_is (s : ByteArray) (t : Bool) (hs : s.size ≤ 100000) : fairwayref1_TakeLong.fL s t = some (takeT s t) := lim_of (takeLong_ev s t (by omega))
theorem takeT_no (s : ByteArray) : takeT s false = tbin s := by
  unfold takeT
  split <;> rfl
theorem next_ok {x : ByteArray} (hx : 0 < x.size) (hk : kindOf (bt x 0) ≠ 0) {v : AnyV} {k n : Int} {S V : ByteArray} (hr : prop_read.fL (kindOf (bt x 0)) (x.extract 1 x.size) = some (v, k, 0)) (hw : prop_with.f (bt x 0) v = some (bt x 0, n, S, V)) (h0 : 0 ≤ k) (h1 : k ≤ 100000) :
    prop_next.fL x = some (bt x 0, n, S, V, 1 + k, 0) := by
  rw [prop_next.fL_eq, if_pos (by omega), w64bt, kind_is]
  simp only [Option.bind_some]
  rw [if_neg hk, if_pos rfl, if_pos (by omega), hr]
  simp only [Option.bind_some, if_true]
  rw [hw]
  simp only [Option.bind_some]
  rw [w64 (by omega) (by omega)]
theorem next_no {x : ByteArray} (hx : 0 < x.size) (hk : kindOf (bt x 0) ≠ 0) {v : AnyV} {k e : Int} (hr : prop_read.fL (kindOf (bt x 0)) (x.extract 1 x.size) = some (v, k, e)) (he : e = 2 ∨ e = 7 ∨ e = 8) :
    ∃ t, prop_next.fL x = some t ∧ t.2.2.2.2.2 = innerT e := by
  rw [prop_next.fL_eq, if_pos (by omega), w64bt, kind_is]
  simp only [Option.bind_some]
  rw [if_neg hk, if_pos rfl, if_pos (by omega), hr]
  simp only [Option.bind_some]
  rw [if_neg (by omega)]
  rcases he with rfl | rfl | rfl
  · exact ⟨_, rfl, rfl⟩
  · exact ⟨_, rfl, rfl⟩
  · exact ⟨_, rfl, rfl⟩
def Same (x : ByteArray) : Prop :=
  (∃ n S V k, prop_next.fL x = some (bt x 0, n, S, V, 1 + k, 0) ∧ fairwayref4_value.fL (bt x 0) (x.extract 1 x.size) = some (bt x 0, n, S, V, k, 0) ∧ 0 ≤ k ∧ k ≤ (x.size : Int) - 1 ∧
    (¬ (kindOf (bt x 0) = 1 ∧ n > 1) → ¬ ((bt x 0 = 33 ∨ bt x 0 = 35 ∨ bt x 0 = 39 ∨ bt x 0 = 11) ∧ n = 0) → okP (bt x 0) n S V = true)) ∨
  (∃ e t u, e ≠ 0 ∧ prop_next.fL x = some t ∧ t.2.2.2.2.2 = e ∧ fairwayref4_value.fL (bt x 0) (x.extract 1 x.size) = some u ∧ u.2.2.2.2.2 = e)
theorem eB_list' : (⟨#[]⟩ : ByteArray).toList = [] := by decide +kernel
theorem val4_range (s : ByteArray) : 0 ≤ val4 s ∧ val4 s ≤ 4294967295 := by
  have := bt_range s 0; have := bt_range s 1; have := bt_range s 2; have := bt_range s 3; unfold val4; omega
theorem same_no {x : ByteArray} (hx : 0 < x.size) (hk : kindOf (bt x 0) ≠ 0) {v : AnyV} {k e : Int} (hr : prop_read.fL (kindOf (bt x 0)) (x.extract 1 x.size) = some (v, k, e)) (he : e = 2 ∨ e = 7 ∨ e = 8) {u : Int × Int × ByteArray × ByteArray × Int × Int}
    (hu : fairwayref4_value.fL (bt x 0) (x.extract 1 x.size) = some u) (hue : u.2.2.2.2.2 = innerT e) : Same x := by
  obtain ⟨t, ht, hte⟩ := next_no hx hk hr he
  refine .inr ⟨innerT e, t, u, ?_, ht, hte, hu, hue⟩
  rcases he with rfl | rfl | rfl <;> decide
set_option maxHeartbeats 4000000 in
theorem next_same (x : ByteArray) (hx : 0 < x.size) (hs : x.size ≤ 100000) (hk : kindOf (bt x 0) ≠ 0) : Same x := by
  have hz : (x.extract 1 x.size).size = x.size - 1 := extract_size x (by omega) (Nat.le_refl _)
  have hc := kind_cases (bt x 0)
  have hv := fairwayref4_value.fL_eq (bt x 0) (x.extract 1 x.size)
  rw [refKind_is] at hv
  simp only [Option.bind_some] at hv
  have nx_ok := fun v k n S V => @next_ok x hx hk v k n S V
  have nx_no := fun v k e => @same_no x hx hk v k e
  have hss : (x.extract 1 x.size).size ≤ 100000 := by omega
  rcases hc with h | h | h | h | h | h | h | h
  · exact absurd h hk
  ·
    rw [h] at nx_ok nx_no hv
    rw [if_pos rfl, fairwayref4_value.j0L_eq] at hv
    simp only [Option.bind_some, beq_self_eq_true, if_true] at hv
    rw [if_pos (by decide), if_pos (by decide), show rd [0, 1, 2, 4] 1 = 1 from rfl, show fairwayref1_TakeFixed.fL (x.extract 1 x.size) 1 = _ from lim_of (ref_take1_ev _)] at hv
    simp only [Option.bind_some] at hv
    by_cases e : ((x.extract 1 x.size).size : Int) < 1
    · rw [if_pos e] at hv
      simp only [Bool.false_eq_true, if_false] at hv
      refine nx_no .no 0 7 ?_ (by decide) hv rfl
      rw [prop_read.fL_eq, if_pos rfl, if_pos ((size_list _).2 (by omega))]
    · rw [if_neg e] at hv
      simp only [if_true] at hv
      refine .inl ⟨bt (x.extract 1 x.size) 0, _, _, 1, nx_ok (.num (bt (x.extract 1 x.size) 0)) 1 _ _ _ ?_ rfl (by decide) (by decide), hv, by decide, by omega, fun q1 q2 => ?_⟩
      · rw [prop_read.fL_eq, if_pos rfl, if_neg (by rw [size_list]; omega), if_pos (by omega), w64bt]
      · have := bt_range (x.extract 1 x.size) 0
        unfold okP
        rw [h] at q1 ⊢
        rw [if_neg (by decide), if_pos (by decide)]
        exact decide_eq_true ⟨q2, by omega, by simp [mostK]; omega, eB_list', eB_list'⟩
  · rw [h] at nx_ok nx_no hv
    rw [if_neg (by decide), if_pos rfl, fairwayref4_value.j0L_eq] at hv
    simp only [Option.bind_some, beq_self_eq_true, if_true] at hv
    rw [if_pos (by decide), if_pos (by decide), show rd [0, 1, 2, 4] 2 = 2 from rfl, show fairwayref1_TakeFixed.fL (x.extract 1 x.size) 2 = _ from lim_of (ref_take2_ev _)] at hv
    simp only [Option.bind_some] at hv
    have hr : prop_read.fL 2 (x.extract 1 x.size) = (vbi_TakeTwo.fL (x.extract 1 x.size)).bind fun t => some (AnyV.num t.1, 2, t.2) := by rw [prop_read.fL_eq, if_neg (by decide), if_pos rfl]
    rw [show vbi_TakeTwo.fL (x.extract 1 x.size) = _ from lim_of (takeTwo_ev _)] at hr
    simp only [Option.bind_some] at hr
    by_cases e : ((x.extract 1 x.size).size : Int) < 2
    · rw [if_pos e] at hv hr
      simp only [Bool.false_eq_true, if_false] at hv
      exact nx_no _ _ _ hr (by decide) hv rfl
    · rw [if_neg e] at hv hr
      simp only [if_true] at hv
      refine .inl ⟨_, _, _, 2, nx_ok _ 2 _ _ _ hr rfl (by decide) (by decide), hv, by decide, by omega, fun q1 q2 => ?_⟩
      have := val2_range (x.extract 1 x.size)
      unfold okP
      rw [h, if_neg (by decide), if_pos (by decide)]
      exact decide_eq_true ⟨q2, this.1, by simp [mostK]; omega, eB_list', eB_list'⟩
  · rw [h] at nx_ok nx_no hv
    rw [if_neg (by decide), if_neg (by decide), fairwayref4_value.j0L_eq] at hv
    simp only [Option.bind_some, beq_self_eq_true, if_true] at hv
    rw [if_pos (by decide), if_pos (by decide), show rd [0, 1, 2, 4] 3 = 4 from rfl, show fairwayref1_TakeFixed.fL (x.extract 1 x.size) 4 = _ from lim_of (ref_take4_ev _)] at hv
    simp only [Option.bind_some] at hv
    have hr : prop_read.fL 3 (x.extract 1 x.size) = (vbi_TakeFour.fL (x.extract 1 x.size)).bind fun t => some (AnyV.num t.1, 4, t.2) := by rw [prop_read.fL_eq, if_neg (by decide), if_neg (by decide), if_pos rfl]
    rw [show vbi_TakeFour.fL (x.extract 1 x.size) = _ from lim_of (takeFour_ev _)] at hr
    simp only [Option.bind_some] at hr
    by_cases e : ((x.extract 1 x.size).size : Int) < 4
    · rw [if_pos e] at hv hr
      simp only [Bool.false_eq_true, if_false] at hv
      exact nx_no _ _ _ hr (by decide) hv rfl
    · rw [if_neg e] at hv hr
      simp only [if_true] at hv
      refine .inl ⟨_, _, _, 4, nx_ok _ 4 _ _ _ hr rfl (by decide) (by decide), hv, by decide, by omega, fun q1 q2 => ?_⟩
      have := val4_range (x.extract 1 x.size)
      unfold okP
      rw [h, if_neg (by decide), if_pos (by decide)]
      exact decide_eq_true ⟨q2, this.1, by simp [mostK]; omega, eB_list', eB_list'⟩
  · rw [h] at nx_ok nx_no hv
    rw [if_neg (by decide), if_neg (by decide), fairwayref4_value.j0L_eq] at hv
    rw [if_neg (by decide), if_pos rfl, refTakeNum_is] at hv
    simp only [Option.bind_some, inner_is] at hv
    have hr : prop_read.fL 4 (x.extract 1 x.size) = (vbi_TakeNum.fL (x.extract 1 x.size)).bind fun t => some (AnyV.num t.1, t.2.1, t.2.2) := by rw [prop_read.fL_eq, if_neg (by decide), if_neg (by decide), if_neg (by decide), if_pos rfl]
    rw [takeNum_is] at hr
    simp only [Option.bind_some] at hr
    rcases tkn_of (x.extract 1 x.size) with ⟨e, q1, q2, q3, q4⟩ | e
    · rw [e] at hv hr
      rw [innerT0] at hv
      refine .inl ⟨_, _, _, _, nx_ok _ _ _ _ _ hr rfl q3 (by omega), hv, q3, by omega, fun q5 q6 => ?_⟩
      unfold okP
      rw [h, if_neg (by decide), if_pos (by decide)]
      exact decide_eq_true ⟨q6, q1, by simp [mostK]; omega, eB_list', eB_list'⟩
    · exact nx_no _ _ _ hr (.inr e) hv rfl
  · rw [h] at nx_ok nx_no hv
    rw [if_neg (by decide), if_neg (by decide), fairwayref4_value.j0L_eq] at hv
    rw [if_neg (by decide), if_neg (by decide), show ((5 : Int) != 6) = true from rfl, show ((5 : Int) != 7) = true from rfl, takeLong_is _ _ hss] at hv
    simp only [Option.bind_some, fairwayref4_value.j1L_eq, if_true, inner_is, ite_self] at hv
    have hr : prop_read.fL 5 (x.extract 1 x.size) = (vbi_TakeText.fL (x.extract 1 x.size)).bind fun t => some (AnyV.str t.1, t.2.1, t.2.2) := by rw [prop_read.fL_eq, if_neg (by decide), if_neg (by decide), if_neg (by decide), if_neg (by decide), if_pos rfl]
    rw [takeText_is _ hss] at hr
    simp only [Option.bind_some] at hr
    rcases takeT_of (x.extract 1 x.size) hss with ⟨e, q1, q2, q3⟩ | e
    · rw [e] at hv hr
      rw [innerT0] at hv
      refine .inl ⟨_, _, _, _, nx_ok _ _ _ _ _ hr rfl (by omega) (by omega), hv, by omega, by omega, fun q5 q6 => ?_⟩
      unfold okP
      rw [h, if_neg (by decide), if_neg (by decide), if_pos rfl]
      exact decide_eq_true ⟨rfl, eB_list', q3⟩
    · exact nx_no _ _ _ hr (by omega) hv rfl
  · rw [h] at nx_ok nx_no hv
    rw [if_neg (by decide), if_neg (by decide), fairwayref4_value.j0L_eq] at hv
    rw [if_neg (by decide), if_neg (by decide), show ((6 : Int) != 6) = false from rfl, show ((6 : Int) != 7) = true from rfl, takeLong_is _ _ hss, takeT_no] at hv
    simp only [Option.bind_some, fairwayref4_value.j1L_eq, if_true, inner_is, ite_self] at hv
    have hr : prop_read.fL 6 (x.extract 1 x.size) = (vbi_TakeBin.fL (x.extract 1 x.size)).bind fun t => some (AnyV.str t.1, t.2.1, t.2.2) := by rw [prop_read.fL_eq, if_neg (by decide), if_neg (by decide), if_neg (by decide), if_neg (by decide), if_neg (by decide), if_pos rfl]
    rw [takeBin_is _ hss] at hr
    simp only [Option.bind_some] at hr
    rcases tbin_of (x.extract 1 x.size) hss with ⟨e, q1, q2, q3⟩ | e
    · rw [e] at hv hr
      rw [innerT0] at hv
      refine .inl ⟨_, _, _, _, nx_ok _ _ _ _ _ hr rfl (by omega) (by omega), hv, by omega, by omega, fun q5 q6 => ?_⟩
      unfold okP
      rw [h, if_neg (by decide), if_neg (by decide), if_neg (by decide), if_pos rfl]
      exact decide_eq_true ⟨rfl, eB_list', q3⟩
    · exact nx_no _ _ _ hr (by omega) hv rfl
  · rw [h] at nx_ok nx_no hv
    rw [if_neg (by decide), if_neg (by decide), fairwayref4_value.j0L_eq] at hv
    rw [if_neg (by decide), if_neg (by decide), show ((7 : Int) != 6) = true from rfl, show ((7 : Int) != 7) = false from rfl, takeLong_is _ _ hss] at hv
    simp only [Option.bind_some] at hv
    have hr : prop_read.fL 7 (x.extract 1 x.size) = _ := prop_read.fL_eq 7 _
    rw [if_neg (by decide), if_neg (by decide), if_neg (by decide), if_neg (by decide), if_neg (by decide), if_neg (by decide), takeText_is _ hss] at hr
    simp only [Option.bind_some] at hr
    rcases takeT_of (x.extract 1 x.size) hss with ⟨e, q1, q2, q3⟩ | e
    · have hz2 : ((x.extract 1 x.size).extract (takeT (x.extract 1 x.size) true).2.1.toNat (x.extract 1 x.size).size).size = (x.extract 1 x.size).size - (takeT (x.extract 1 x.size) true).2.1.toNat := extract_size _ (by omega) (Nat.le_refl _)
      rw [if_pos e, if_pos (by omega), if_pos q2, takeText_is _ (by omega)] at hr
      simp only [Option.bind_some] at hr
      rw [if_pos e, fairwayref4_value.j1L_eq, if_neg (by decide), if_pos (by omega), if_pos q2, takeLong_is _ _ (by omega)] at hv
      simp only [Option.bind_some, inner_is] at hv
      rcases takeT_of ((x.extract 1 x.size).extract (takeT (x.extract 1 x.size) true).2.1.toNat (x.extract 1 x.size).size) (by omega) with ⟨e', q1', q2', q3'⟩ | e'
      · rw [e', w64 (by omega) (by omega)] at hv hr
        rw [innerT0] at hv
        refine .inl ⟨_, _, _, _, nx_ok _ _ _ _ _ hr rfl (by omega) (by omega), hv, by omega, by omega, fun q5 q6 => ?_⟩
        unfold okP
        rw [h, if_neg (by decide), if_neg (by decide), if_neg (by decide), if_neg (by decide)]
        exact decide_eq_true ⟨rfl, q3, q3'⟩
      · have a1 := nx_no _ _ _ hr e' hv
        dsimp only at a1
        first | exact a1 | exact a1 trivial | exact a1 (Eq.refl _)
    · rw [if_neg (by omega)] at hr
      rw [if_neg (by omega), fairwayref4_value.j1L_eq, if_pos rfl] at hv
      simp only [inner_is, Option.bind_some] at hv
      exact nx_no _ _ _ hr (by omega) hv rfl
theorem next_bad (x : ByteArray) (hx : 0 < x.size) (hk : kindOf (bt x 0) = 0) : ∃ t, prop_next.fL x = some t ∧ t.2.2.2.2.2 = 8 := by
  rw [prop_next.fL_eq, if_pos (by omega), w64bt, kind_is]
  simp only [Option.bind_some]
  rw [if_pos hk, if_neg (by decide)]
  exact ⟨_, rfl, rfl⟩
theorem fits_is (p : Int) (l : List S42) (a n : Int) (s v : ByteArray) : prop_fits.fL p l a n s v = some (fitsP p l a n) := lim_of (fits_ev p l a n s v)
theorem refStands_is (p a : Int) : fairwayref4_stands.fL p a = some (decide (a ∈ placeL p)) := lim_of (refStands_ev p a)
theorem refTwice_is (p a : Int) (l : List S42) (hl : l.length ≤ 100000) : fairwayref4_twice.fL p a l = some (againP p a l) := lim_of (refTwice_ev p a l hl)
theorem refFits_is (a n : Int) (s v : ByteArray) : fairwayref4_fits.fL a n s v = some (okP a n s v) := lim_of (refFits_ev a n s v)
theorem takes_loop (p a b : Int) (d : Nat) : ∀ (x : ByteArray) (pre : List S42), x.size ≤ d → x.size ≤ 100000 → pre.length ≤ 8 →
    ∃ R, prop_Take.l0L p pre a b x = some R ∧ fairwayref4_TakeProps.l0L p b a x pre = some R ∧ R.1.length ≤ 8 ∧ (R.2.1 = wrap64 (a + b) ∧ R.2.2 = 0 ∨ R.1 = [] ∧ R.2.1 = 0 ∧ R.2.2 ≠ 0) := by
  induction d with
  | zero =>
    intro x pre hd hs hl
    refine ⟨(pre, wrap64 (a + b), 0), ?_, ?_, hl, .inl ⟨rfl, rfl⟩⟩
    · rw [prop_Take.l0L_eq, if_pos ((size_list _).2 (by omega))]
    · rw [fairwayref4_TakeProps.l0L_eq, if_neg (by omega)]
  | succ d ih =>
    intro x pre hd hs hl
    by_cases hx : x.size = 0
    · refine ⟨(pre, wrap64 (a + b), 0), ?_, ?_, hl, .inl ⟨rfl, rfl⟩⟩
      · rw [prop_Take.l0L_eq, if_pos ((size_list _).2 hx)]
      · rw [fairwayref4_TakeProps.l0L_eq, if_neg (by omega)]
    · have hx0 : 0 < x.size := by omega
      rw [prop_Take.l0L_eq, if_neg (by rw [size_list]; exact hx), fairwayref4_TakeProps.l0L_eq, if_pos (by omega), if_pos (by omega), w64bt, refKind_is]
      simp only [Option.bind_some]
      by_cases hk : kindOf (bt x 0) = 0
      · obtain ⟨t, ht, hte⟩ := next_bad x hx0 hk
        rw [ht]
        simp only [Option.bind_some]
        rw [hte, if_neg (by decide), if_pos hk]
        exact ⟨_, rfl, rfl, by simp, .inr ⟨rfl, rfl, by show (8 : Int) ≠ 0; decide⟩⟩
      · rw [if_neg hk, if_pos (by omega)]
        rcases next_same x hx0 hs hk with ⟨n, S, V, k, h1, h2, h3, h4, h5⟩ | ⟨e, t, u, he, ht, hte, hu, hue⟩
        · rw [h1, h2]
          simp only [Option.bind_some, if_true]
          rw [fits_is, refStands_is]
          simp only [Option.bind_some]
          have hst : fitsP p pre (bt x 0) n = stepP p pre (bt x 0) n S V := by
            cases hf : fitsP p pre (bt x 0) n with
            | false => rw [fits_no hf]
            | true =>
              obtain ⟨q1, q2, q3⟩ := fits_yes (s := S) (v := V) hf
              rw [q1, h5 q2 q3]
          have hR : (if decide (bt x 0 ∈ placeL p) = true then (fairwayref4_twice.fL p (bt x 0) pre).bind fun t438 => (if t438 = true then (fairwayref4_TakeProps.j1L p b a x pre k true (bt x 0) n S V) else ((fairwayref4_fits.fL (bt x 0) n S V).bind fun t439 => (fairwayref4_TakeProps.j1L p b a x pre k (!t439) (bt x 0) n S V))) else (fairwayref4_TakeProps.j1L p b a x pre k true (bt x 0) n S V)) = fairwayref4_TakeProps.j1L p b a x pre k (!(stepP p pre (bt x 0) n S V)) (bt x 0) n S V := by
            unfold stepP
            by_cases m : bt x 0 ∈ placeL p
            · rw [if_pos (decide_eq_true m), refTwice_is _ _ _ (by omega)]
              simp only [Option.bind_some]
              cases againP p (bt x 0) pre with
              | true => simp
              | false =>
                rw [if_neg (by simp), refFits_is]
                simp [m]
            · rw [if_neg (by simpa using m)]
              simp [m]
          rw [hR, hst, fairwayref4_TakeProps.j1L_eq]
          cases hp : stepP p pre (bt x 0) n S V with
          | false => exact ⟨_, rfl, rfl, by simp, .inr ⟨rfl, rfl, by show (9 : Int) ≠ 0; decide⟩⟩
          | true =>
            simp only [if_true, Bool.not_true, Bool.false_eq_true, if_false]
            by_cases h8 : (pre.length : Int) = 8
            · rw [if_pos h8, if_pos h8]
              exact ⟨_, rfl, rfl, by simp, .inr ⟨rfl, rfl, by show (2 : Int) ≠ 0; decide⟩⟩
            · have w : wrap64 (1 + k) = 1 + k := w64 (by omega) (by omega)
              rw [if_neg h8, if_neg h8, if_pos (by omega), if_pos (by omega), if_pos (by omega), w, if_pos (by omega), if_pos (by omega), if_pos (by omega)]
              have hz : (x.extract (1 + k).toNat x.size).size = x.size - (1 + k).toNat := extract_size x (by omega) (Nat.le_refl _)
              exact ih _ _ (by omega) (by omega) (by simp; omega)
        · rw [ht, hu]
          simp only [Option.bind_some]
          rw [hte, hue, if_neg he, if_neg he]
          exact ⟨_, rfl, rfl, by simp, .inr ⟨rfl, rfl, he⟩⟩
theorem stands_is (p : Int) : prop_stands.fL p = some (placeL p, decide (0 ≤ p ∧ p ≤ 15)) := lim_of (stands_ev p)
theorem take_same (p : Int) (hp : 0 ≤ p ∧ p ≤ 15) (x : ByteArray) (hs : x.size ≤ 100000) : ∃ R, prop_Take.fL p x = some R ∧ fairwayref4_TakeProps.fL p x = some R ∧ R.1.length ≤ 8 ∧ 0 ≤ R.2.1 ∧ R.2.1 ≤ x.size := by
  rw [prop_Take.fL_eq, fairwayref4_TakeProps.fL_eq, stands_is, takeNum_is, refTakeNum_is, decide_eq_true hp]
  simp only [Option.bind_some, if_true]
  rcases tkn_of x with ⟨e, q1, q2, q3, q4⟩ | e
  · rw [if_pos e, if_pos e, w64 (by omega) (by omega)]
    by_cases h : (tkn x).1 > (x.size : Int) - (tkn x).2.1
    · rw [if_pos h, if_pos (by omega)]
      exact ⟨_, rfl, rfl, by simp, by simp, by simp⟩
    · have a1 : ((tkn x).1 > (x.size : Int) - (tkn x).2.1) = False := eq_false h
      have a2 : ((x.size : Int) - (tkn x).2.1 < (tkn x).1) = False := eq_false (by omega)
      have a3 : (0 ≤ (tkn x).2.1) = True := eq_true q3
      have a4 : ((tkn x).2.1 ≤ (tkn x).2.1 + (tkn x).1) = True := eq_true (by omega)
      have a5 : ((tkn x).2.1 + (tkn x).1 ≤ (x.size : Int)) = True := eq_true (by omega)
      have w : wrap64 ((tkn x).2.1 + (tkn x).1) = (tkn x).2.1 + (tkn x).1 := w64 (by omega) (by omega)
      simp only [a1, a2, a3, w, a4, a5, if_true, if_false]
      clear a1 a2 a3 a4 a5 w
      have hz : (x.extract (tkn x).2.1.toNat ((tkn x).2.1 + (tkn x).1).toNat).size = ((tkn x).2.1 + (tkn x).1).toNat - (tkn x).2.1.toNat := extract_size x (by omega) (by omega)
      obtain ⟨R, h1, h2, h3, h4⟩ := takes_loop p (tkn x).2.1 (tkn x).1 _ (x.extract (tkn x).2.1.toNat ((tkn x).2.1 + (tkn x).1).toNat) [] (Nat.le_refl _) (by omega) (by simp)
      refine ⟨R, h1, h2, h3, ?_⟩
      rcases h4 with ⟨h5, h6⟩ | ⟨h5, h6, h7⟩
      · rw [w64 (by omega) (by omega)] at h5
        omega
      · omega
  · rw [if_neg (by omega), if_neg (by omega)]
    exact ⟨_, rfl, rfl, by simp, by simp, by simp⟩
end Go.Proofs.YtiancopplinpcaaDoor.P
end
section
namespace Go.Proofs.YtiancopplinpcaaDoor.P
open Go.RowKit Go.Proofs.YtiancopplinpcaaDoorW.PrintWords Go.Proofs.YtiancopplinpcaaDoorW.PrintLast Go.Proofs.YtiancopplinpcaaDoorW.PrintMore
set_option linter.unusedVariables false
set_option linter.unusedSimpArgs false
noncomputable def prop_Bytes.fL (a0 : Int) (l1 : List (S42)) : Option (ByteArray × Int) := lim fun k => prop_Bytes.f k a0 l1
noncomputable def fairwaylaw4_wakes.fL : Option (Bool) := lim fun k => fairwaylaw4_wakes.f k
end Go.Proofs.YtiancopplinpcaaDoor.P
end
section
namespace Go.Proofs.YtiancopplinpcaaDoor.P
open Go.RowKit Go.Proofs.YtiancopplinpcaaDoorW.PrintWords Go.Proofs.YtiancopplinpcaaDoorW.PrintLast Go.Proofs.YtiancopplinpcaaDoorW.PrintMore
set_option linter.unusedVariables false
set_option linter.unusedSimpArgs false
noncomputable def fairwaylaw0_PropsWeight.fL (l0 : List (S42)) : Option (Int) := lim fun k => fairwaylaw0_PropsWeight.f k l0
noncomputable def fairwaylaw4_heavy.fL (a0_0 : Int) (l0_1 : List (S42)) (a0_2 : ByteArray) : Option (Bool) := lim fun k => fairwaylaw4_heavy.f k a0_0 l0_1 a0_2
noncomputable def fairwaylaw0_PropsWeight.l0L (x0 : List (S42)) (x3 : Int) (x4 : Int) : Option (Int) := lim fun k => fairwaylaw0_PropsWeight.l0 k x0 x3 x4
theorem fairwaylaw0_PropsWeight.fL_eq (l0 : List (S42)) : fairwaylaw0_PropsWeight.fL l0 = fairwaylaw0_PropsWeight.l0L l0 (l0.length : Int) 0 := by
  show lim (fun k => fairwaylaw0_PropsWeight.f k l0) = _
  show lim (fun k => fairwaylaw0_PropsWeight.l0 k l0 (l0.length : Int) 0) = _
  repeat' (first | exact lim_const _ | (with_reducible refine lim_ite' ?_ ?_) | ((with_reducible refine lim_bind' ?hm ?hx (fun _ => ?_)); (case hm => exact (fun k => by first | exact LeO.refl _)); (case hx => first | exact lim_const _ | rfl)) | rfl)
theorem fairwaylaw4_heavy.fL_eq (a0_0 : Int) (l0_1 : List (S42)) (a0_2 : ByteArray) : fairwaylaw4_heavy.fL a0_0 l0_1 a0_2 = (fairwaylaw0_PropsWeight.fL l0_1).bind fun t194 => (if t194 > 10000 then (some true) else (some (decide ((a0_2.size : Int) > 9000)))) := by
  show lim (fun k => fairwaylaw4_heavy.f k a0_0 l0_1 a0_2) = _
  show lim (fun k => (fairwaylaw0_PropsWeight.f k l0_1).bind fun t194 => (if t194 > 10000 then (some true) else (some (decide ((a0_2.size : Int) > 9000))))) = _
  repeat' (first | exact lim_const _ | (with_reducible refine lim_ite' ?_ ?_) | ((with_reducible refine lim_bind' ?hm ?hx (fun _ => ?_)); (case hm => exact (fun k => by first | exact LeO.refl _ | apply fairwaylaw0_PropsWeight.mono)); (case hx => first | exact lim_const _ | rfl)) | rfl)
theorem fairwaylaw0_PropsWeight.l0L_eq (x0 : List (S42)) (x3 : Int) (x4 : Int) : fairwaylaw0_PropsWeight.l0L x0 x3 x4 = if x4 < (x0.length : Int) then (if x3 < 1048576 then (if 0 ≤ x4 then (fairwaylaw0_PropsWeight.l0L x0 (wrap64 ((wrap64 (x3 + (((rd_T42 x0 x4).f2).size : Int))) + (((rd_T42 x0 x4).f3).size : Int))) (wrap64 (x4 + 1))) else (none)) else (some x3)) else (some x3) := by
  show lim (fun k => fairwaylaw0_PropsWeight.l0 k x0 x3 x4) = _
  rw [lim_step (f := fun k => if x4 < (x0.length : Int) then (if x3 < 1048576 then (if 0 ≤ x4 then (fairwaylaw0_PropsWeight.l0 k x0 (wrap64 ((wrap64 (x3 + (((rd_T42 x0 x4).f2).size : Int))) + (((rd_T42 x0 x4).f3).size : Int))) (wrap64 (x4 + 1))) else (none)) else (some x3)) else (some x3)) (fun k => by first | rfl | simp only [fairwaylaw0_PropsWeight.l0])]
  repeat' (first | exact lim_const _ | (with_reducible refine lim_ite' ?_ ?_) | ((with_reducible refine lim_bind' ?hm ?hx (fun _ => ?_)); (case hm => exact (fun k => by first | exact LeO.refl _)); (case hx => first | exact lim_const _ | rfl)) | rfl)
end Go.Proofs.YtiancopplinpcaaDoor.P
end
section
namespace Go.Proofs.YtiancopplinpcaaDoor.P
open Go.RowKit Go.Proofs.YtiancopplinpcaaDoorW.PrintWords Go.Proofs.YtiancopplinpcaaDoorW.PrintLast Go.Proofs.YtiancopplinpcaaDoorW.PrintMore
set_option linter.unusedVariables false
set_option linter.unusedSimpArgs false
noncomputable def fairwayref4_Props.fL (a0 : Int) (l1 : List (S42)) : Option (Bool) := lim fun k => fairwayref4_Props.f k a0 l1
end Go.Proofs.YtiancopplinpcaaDoor.P
end
section
namespace Go.Proofs.YtiancopplinpcaaDoor.P
open Go.RowKit Go.Proofs.YtiancopplinpcaaDoorW.PrintWords Go.Proofs.YtiancopplinpcaaDoorW.PrintLast Go.Proofs.YtiancopplinpcaaDoorW.PrintMore
set_option linter.unusedVariables false
set_option linter.unusedSimpArgs false
noncomputable def fairwayref0_EqProps.fL (l0 : List (S42)) (l1 : List (S42)) : Option (Bool) := lim fun k => fairwayref0_EqProps.f k l0 l1
noncomputable def fairwayref0_EqProps.l0L (x0 : List (S42)) (x1 : List (S42)) (x5 : Int) : Option (Bool) := lim fun k => fairwayref0_EqProps.l0 k x0 x1 x5
theorem fairwayref0_EqProps.fL_eq (l0 : List (S42)) (l1 : List (S42)) : fairwayref0_EqProps.fL l0 l1 = if (l0.length : Int) = (l1.length : Int) then (fairwayref0_EqProps.l0L l0 l1 0) else (some false) := by
  show lim (fun k => fairwayref0_EqProps.f k l0 l1) = _
  show lim (fun k => if (l0.length : Int) = (l1.length : Int) then (fairwayref0_EqProps.l0 k l0 l1 0) else (some false)) = _
  repeat' (first | exact lim_const _ | (with_reducible refine lim_ite' ?_ ?_) | ((with_reducible refine lim_bind' ?hm ?hx (fun _ => ?_)); (case hm => exact (fun k => by first | exact LeO.refl _)); (case hx => first | exact lim_const _ | rfl)) | rfl)
theorem fairwayref0_EqProps.l0L_eq (x0 : List (S42)) (x1 : List (S42)) (x5 : Int) : fairwayref0_EqProps.l0L x0 x1 x5 = if x5 < (x0.length : Int) then (if 0 ≤ x5 then (if x5 < (x1.length : Int) then (if (!(((rd_T42 x0 x5).f0) == ((rd_T42 x1 x5).f0)) || (!(((rd_T42 x0 x5).f1) == ((rd_T42 x1 x5).f1)) || (!((((rd_T42 x0 x5).f2).toList) == (((rd_T42 x1 x5).f2).toList)) || (!((((rd_T42 x0 x5).f3).toList) == (((rd_T42 x1 x5).f3).toList)))))) = true then (some false) else (fairwayref0_EqProps.l0L x0 x1 (wrap64 (x5 + 1)))) else (none)) else (none)) else (some true) := by
  show lim (fun k => fairwayref0_EqProps.l0 k x0 x1 x5) = _
  rw [lim_step (f := fun k => if x5 < (x0.length : Int) then (if 0 ≤ x5 then (if x5 < (x1.length : Int) then (if (!(((rd_T42 x0 x5).f0) == ((rd_T42 x1 x5).f0)) || (!(((rd_T42 x0 x5).f1) == ((rd_T42 x1 x5).f1)) || (!((((rd_T42 x0 x5).f2).toList) == (((rd_T42 x1 x5).f2).toList)) || (!((((rd_T42 x0 x5).f3).toList) == (((rd_T42 x1 x5).f3).toList)))))) = true then (some false) else (fairwayref0_EqProps.l0 k x0 x1 (wrap64 (x5 + 1)))) else (none)) else (none)) else (some true)) (fun k => by first | rfl | simp only [fairwayref0_EqProps.l0])]
  repeat' (first | exact lim_const _ | (with_reducible refine lim_ite' ?_ ?_) | ((with_reducible refine lim_bind' ?hm ?hx (fun _ => ?_)); (case hm => exact (fun k => by first | exact LeO.refl _)); (case hx => first | exact lim_const _ | rfl)) | rfl)
end Go.Proofs.YtiancopplinpcaaDoor.P
end
section
namespace Go.Proofs.YtiancopplinpcaaDoor.P
open Go.RowKit Go.Proofs.YtiancopplinpcaaDoorW.PrintWords Go.Proofs.YtiancopplinpcaaDoorW.PrintLast Go.Proofs.YtiancopplinpcaaDoorW.PrintMore
attribute [local go_sem] max2_int min2_int max_two min_two max_three min_three max_four min_four
set_option linter.unusedVariables false
set_option linter.unusedSimpArgs false
mutual
def fairwaylaw4_PropTakes.l0 : Nat → List (S25) → Int → Option (Bool)
  | 0, _, _ => none
  | k + 1, x0, x3 => if x3 < (x0.length : Int) then (fairwaylaw4_PropTakes.j1 k x0 x3 (decide (x3 < 10))) else (fairwaylaw4_PropTakes.j1 k x0 x3 false)
def fairwaylaw4_PropTakes.j1 : Nat → List (S25) → Int → Bool → Option (Bool)
  | 0, _, _, _ => none
  | k + 1, x0, x3, x19 => if x19 = true then (if 0 ≤ x3 then (if x3 < (x0.length : Int) then ((fairwaylaw4_heavy.f k ((rd_T25 x0 x3).f0) ((rd_T25 x0 x3).f1) ((rd_T25 x0 x3).f2)).bind fun t450 => (if t450 = true then (some true) else (fairwaylaw4_PropTakes.l1 k x0 x3 (-1) ((rd_T25 x0 x3).f0) ((rd_T25 x0 x3).f1) ((rd_T25 x0 x3).f2)))) else (none)) else (none)) else ((fairwaylaw4_wakes.f k).bind fun t447 => (some t447))
def fairwaylaw4_PropTakes.l1 : Nat → List (S25) → Int → Int → Int → List (S42) → ByteArray → Option (Bool)
  | 0, _, _, _, _, _, _ => none
  | k + 1, x0, x3, x5, x450000, x450001, x450002 => if x5 ≤ 16 then ((prop_Take.f k x5 x450002).bind fun bt451 => ((fairwayref4_Place.f x5).bind fun t456 => (if t456 = true then ((fairwayref4_TakeProps.f k x5 x450002).bind fun bt457 => (fairwaylaw4_PropTakes.j3 k x0 x3 x5 bt451.1 bt451.2.1 bt451.2.2 bt457.1 bt457.2.1 bt457.2.2 x450000 x450001 x450002)) else (fairwaylaw4_PropTakes.j3 k x0 x3 x5 bt451.1 bt451.2.1 bt451.2.2 ([] : List (S42)) 0 1 x450000 x450001 x450002)))) else (fairwaylaw4_PropTakes.l0 k x0 (wrap64 (x3 + 1)))
def fairwaylaw4_PropTakes.j3 : Nat → List (S25) → Int → Int → List (S42) → Int → Int → List (S42) → Int → Int → Int → List (S42) → ByteArray → Option (Bool)
  | 0, _, _, _, _, _, _, _, _, _, _, _, _ => none
  | k + 1, x0, x3, x5, x6, x7, x8, x9, x10, x11, x450000, x450001, x450002 => (fairwaylaw4_num.f x8).bind fun t462 => (if t462 = x11 then (if x7 = x10 then ((fairwayref0_EqProps.f k x6 x9).bind fun t463 => (if t463 = true then ((fairwaylaw0_Props.f k x6).bind fun _ => (fairwaylaw4_PropTakes.l1 k x0 x3 (wrap64 (x5 + 1)) x450000 x450001 x450002)) else (some false))) else (some false)) else (some false))
end
def fairwaylaw4_PropTakes.f (k : Nat) (l0 : List (S25)) : Option (Bool) := fairwaylaw4_PropTakes.l0 k l0 0
end Go.Proofs.YtiancopplinpcaaDoor.P
end
