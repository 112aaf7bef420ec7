/- The statement PropOnce: for every input the law answers true, and its argument reads behind the call as it did (part 4 of 10 of the proof). -/
import Derived.Test.YtiancopplinpcaaDoorMPropOnce2
import Derived.Test.YtiancopplinpcaaDoorProg
import Derived.Below
import Derived.Deep.Draws
import Derived.Deep.AppendLies
import Derived.Maps.AppendAt
import Derived.OwnWalk
import Derived.Laws.BytesArg
import Derived.Laws.MakeOwn
import Derived.Laws.OwnMore
import Derived.Deep.OwnRows
import Derived.Tactics
import Derived.Lib.ConvBytes
import Derived.Laws.Slices
import Derived.WalkKit
import Derived.KernelRfl
import Derived.RowKit3
import Derived.Deep.LoopGhost
import Derived.Deep.QuietTactic
import Derived.BigQuiet
import Derived.WideLaws
import Derived.Deep.DeepCutAuto
import Derived.Deep.CutBlock
import Derived.Deep.RegionHeld3
import Derived.Laws.Rows
import Derived.Lib.AppendStr
import Derived.ArgAppend
import Derived.Laws.IdiomCopy
import Derived.OrdersHeld
import Derived.Laws.BitsLemmas
import Derived.RowKit
section
theorem zz19 {p : Prop} (h : p := by kernel_rfl) : p := h
theorem zz16 {p : Prop} (h : p := by first | rfl | (simp; done) | (simp [*]; done)) : p := h
theorem zz14 {p : Prop} (h : p := by repeat (first | exact Drawn0.refl _ | apply Drawn0.step)) : p := h
theorem zz17 {p : Prop} (h : p := by first | omega | exact Nat.le_refl _) : p := h
theorem zz10 {p : Prop} (h : p := by have := HJ1.out; have := HJ10.out; have := HJ15.out; first | omega | exact Nat.le_refl _) : p := h
theorem zz6 {p : Prop} (h : p := by repeat (first | (with_reducible first | exact HB.out | apply below_alloc | apply pw_below_drewN | apply below_drew1) | exact HB.out)) : p := h
theorem zz9 {p : Prop} (h : p := by first | rfl | (simp [errW_none, errW_some] <;> rfl) | (simp [*, errW_none, errW_some] <;> rfl)) : p := h
theorem zz4 {p : Prop} (h : p := by first | exact Kd.R_nil _ _ _ _ _ | exact Kd.N_nil _ _ _ _ _ | exact Kd.V_nil _ _ _ _ _ | exact Kd.Q_nil _ _ _ _ _ | exact Kd.S_nil _ _ _ _ _) : p := h
theorem zz15 {p : Prop} (h : p := by first | (with_reducible assumption) | assumption) : p := h
theorem zz5 {p : Prop} (h : p := by (try simp only [List.map_toArray, List.map_cons, List.map_nil]); first | done | rfl | (simp only [List.length_drop, List.length_take]; rfl)) : p := h
theorem zz7 {p : Prop} (h : p := by (with_reducible repeat (first | refine blk_drewN ?_ _ | refine blk_drew ?_ | refine blk_alloc ?_ _)); exact BK130.out) : p := h
theorem zz2 {p : Prop} (h : p := by repeat (first | (with_reducible first | exact HB.out | apply below_alloc | apply pw_below_drewN | apply below_drew1 | refine below_set ?_ GE130.out) | exact HB.out)) : p := h
namespace Go.Proofs.YtiancopplinpcaaDoor.P
open Go.RowKit Go.Proofs.YtiancopplinpcaaDoorW.PrintWords Go.Proofs.YtiancopplinpcaaDoorW.PrintLast Go.Proofs.YtiancopplinpcaaDoorW.PrintMore
attribute [local go_sem] max2_int min2_int max_two min_two max_three min_three max_four min_four
set_option linter.unusedVariables false
set_option linter.unusedSimpArgs false
theorem isEmpty_bne (l : List UInt8) : l.isEmpty = !(l != []) := by cases l <;> rfl
inductive AnyV where
  | no
  | num (n : Int)
  | str (s : ByteArray)
  | two (a b : ByteArray)
def anyW : AnyV → Value
  | .no => .nilIface
  | .num n => .iface 3 (.int .i64 n)
  | .str s => .iface 9 (.string s)
  | .two a b => .iface 87 (.agg #[.string a, .string b])
def errW : Option Int → Value
  | none => .nilIface
  | some c => .iface 0 (.int .i64 c)
theorem errW_none : errW none = .nilIface := rfl
theorem errW_some (c : Int) : errW (some c) = .iface 0 (.int .i64 c) := rfl
theorem info5 : (Tryd.prog.info? 5).map (fun i => (i.zero, i.size, i.bytes)) = some (some (.int .u8 0), 1, 1) := by kernel_rfl
theorem info42 : (Tryd.prog.info? 42).map (fun i => (i.zero, i.size, i.bytes)) = some (some (.agg #[(.int .i64 0), (.int .i64 0), (.string ⟨#[]⟩), (.string ⟨#[]⟩)]), 4, 48) := by kernel_rfl
structure S42 where
  f0 : Int
  f1 : Int
  f2 : ByteArray
  f3 : ByteArray
def z42 : S42 := ⟨(0 : Int), (0 : Int), (⟨#[]⟩ : ByteArray), (⟨#[]⟩ : ByteArray)⟩
def k42 : Kd S42 := Kd.iso (Kd.pair (Kd.int .i64) (Kd.pair (Kd.int .i64) (Kd.pair Kd.string Kd.string))) (fun x : S42 => (x.f0, x.f1, x.f2, x.f3))
theorem k42_open {w : World} {x : S42} {cs : List Value} (h : k42.K w x cs) : cs = [.int .i64 x.f0, .int .i64 x.f1, .string x.f2, .string x.f3] := by
 obtain ⟨_, _, rfl, rfl, ⟨_, _, rfl, rfl, ⟨_, _, rfl, rfl, rfl⟩⟩⟩ := h
 exact rfl
theorem k42_mkM (w : World) (base : Nat) (ok : Nat → Prop) (x : S42)  : k42.M w base ok x [.int .i64 x.f0, .int .i64 x.f1, .string x.f2, .string x.f3] := ⟨[.int .i64 x.f0], [.int .i64 x.f1, .string x.f2, .string x.f3], rfl, rfl, ⟨[.int .i64 x.f1], [.string x.f2, .string x.f3], rfl, rfl, ⟨[.string x.f2], [.string x.f3], rfl, rfl, rfl⟩⟩⟩
def rd_T42 (xs : List S42) (i : Int) : S42 := xs.getD i.toNat z42
theorem at_T42 {w : World} {A : Option Addr} {n : Nat} {xs : List S42} (h : Kd.C k42 w A n xs) (i : Int) (h0 : 0 ≤ i) (h1 : i < n) : ∃ ad , A = some ad ∧ w.cell? (ad.add (i.toNat * 4)) = some (.int .i64 (rd_T42 xs i).f0) ∧ w.cell? ⟨(ad.add (i.toNat * 4)).block, (ad.add (i.toNat * 4)).off + 1, none⟩ = some (.int .i64 (rd_T42 xs i).f1) ∧ w.cell? ⟨(ad.add (i.toNat * 4)).block, (ad.add (i.toNat * 4)).off + 2, none⟩ = some (.string (rd_T42 xs i).f2) ∧ w.cell? ⟨(ad.add (i.toNat * 4)).block, (ad.add (i.toNat * 4)).off + 3, none⟩ = some (.string (rd_T42 xs i).f3) := by
 obtain ⟨ad, c, e, _, hK, hc0⟩ := Kd.C_get h z42 i h0 h1
 have hc : ∀ j u, c[j]? = some u → w.cell? (ad.add (i.toNat * 4 + j)) = some u := hc0
 obtain rfl := k42_open hK
 exact ⟨ad, e, hc 0 _ rfl, by rw [← add_field _ _ 1 (by omega)]; exact hc 1 _ rfl, by rw [← add_field _ _ 2 (by omega)]; exact hc 2 _ rfl, by rw [← add_field _ _ 3 (by omega)]; exact hc 3 _ rfl⟩
structure S25 where
  f0 : Int
  f1 : (List S42)
  f2 : ByteArray
def z25 : S25 := ⟨(0 : Int), ([] : List S42), (⟨#[]⟩ : ByteArray)⟩
def k25 : Kd S25 := Kd.iso (Kd.pair (Kd.int .i64) (Kd.pair (Kd.slice 42 k42) Kd.string)) (fun x : S25 => (x.f0, x.f1, x.f2))
def rd_T25 (xs : List S25) (i : Int) : S25 := xs.getD i.toNat z25
end Go.Proofs.YtiancopplinpcaaDoor.P
end
section
namespace Go.Proofs.YtiancopplinpcaaDoor.P
open Go.RowKit Go.Proofs.YtiancopplinpcaaDoorW.PrintWords Go.Proofs.YtiancopplinpcaaDoorW.PrintLast Go.Proofs.YtiancopplinpcaaDoorW.PrintMore
attribute [local go_sem] max2_int min2_int max_two min_two max_three min_three max_four min_four
set_option linter.unusedVariables false
set_option linter.unusedSimpArgs false
theorem eqA42 (d : Nat) (w : World) (x0 y0 : Int) (x1 y1 : Int) (x2 y2 : ByteArray) (x3 y3 : ByteArray) :
  (Op.equalIn (d + 2) 42 (.agg #[.int .i64 x0, .int .i64 x1, .string x2, .string x3]) (.agg #[.int .i64 y0, .int .i64 y1, .string y2, .string y3])).run Tryd.prog w = .ok (x0 == y0 && (x1 == y1 && (x2.toList == y2.toList && (x3.toList == y3.toList)))) w := by
 refine eqA_of Tryd.underlying42 zz19 ?_
 refine eqf_cons (by rfl) (by go_simp; rfl) (by go_simp; rfl) (by go_simp) ?_
 refine eqf_cons (by rfl) (by go_simp; rfl) (by go_simp; rfl) (by go_simp) ?_
 refine eqf_cons (by rfl) (by go_simp; rfl) (by go_simp; rfl) (by go_simp) ?_
 exact eqf_last (by rfl) (by go_simp; rfl) (by go_simp; rfl) (by go_simp)
end Go.Proofs.YtiancopplinpcaaDoor.P
end
section
namespace Go.Proofs.YtiancopplinpcaaDoor.P
open Go.RowKit Go.Proofs.YtiancopplinpcaaDoorW.PrintWords Go.Proofs.YtiancopplinpcaaDoorW.PrintLast Go.Proofs.YtiancopplinpcaaDoorW.PrintMore
attribute [local go_sem] max2_int min2_int max_two min_two max_three min_three max_four min_four
set_option linter.unusedVariables false
set_option linter.unusedSimpArgs false
mutual
def fairwayref4_Kind.j0 : Nat → Int → Bool → Option (Int)
  | 0, _, _ => none
  | k + 1, x3, x4 => if x4 = true then (some 1) else (if x3 = 19 then (fairwayref4_Kind.j1 k x3 (x3 == 19)) else (if x3 = 33 then (fairwayref4_Kind.j1 k x3 (x3 == 33)) else (if x3 = 34 then (fairwayref4_Kind.j1 k x3 (x3 == 34)) else (fairwayref4_Kind.j1 k x3 (x3 == 35)))))
def fairwayref4_Kind.j1 : Nat → Int → Bool → Option (Int)
  | 0, _, _ => none
  | k + 1, x3, x13 => if x13 = true then (some 2) else (if x3 = 2 then (fairwayref4_Kind.j2 k x3 (x3 == 2)) else (if x3 = 17 then (fairwayref4_Kind.j2 k x3 (x3 == 17)) else (if x3 = 24 then (fairwayref4_Kind.j2 k x3 (x3 == 24)) else (fairwayref4_Kind.j2 k x3 (x3 == 39)))))
def fairwayref4_Kind.j2 : Nat → Int → Bool → Option (Int)
  | 0, _, _ => none
  | k + 1, x3, x18 => if x18 = true then (some 3) else (if x3 = 11 then (some 4) else (if x3 = 3 then (fairwayref4_Kind.j3 k x3 (x3 == 3)) else (if x3 = 8 then (fairwayref4_Kind.j3 k x3 (x3 == 8)) else (if x3 = 18 then (fairwayref4_Kind.j3 k x3 (x3 == 18)) else (if x3 = 21 then (fairwayref4_Kind.j3 k x3 (x3 == 21)) else (if x3 = 26 then (fairwayref4_Kind.j3 k x3 (x3 == 26)) else (if x3 = 28 then (fairwayref4_Kind.j3 k x3 (x3 == 28)) else (fairwayref4_Kind.j3 k x3 (x3 == 31)))))))))
def fairwayref4_Kind.j3 : Nat → Int → Bool → Option (Int)
  | 0, _, _ => none
  | k + 1, x3, x25 => if x25 = true then (some 5) else (if x3 = 9 then (fairwayref4_Kind.j4 k x3 (x3 == 9)) else (fairwayref4_Kind.j4 k x3 (x3 == 22)))
def fairwayref4_Kind.j4 : Nat → Int → Bool → Option (Int)
  | 0, _, _ => none
  | k + 1, x3, x33 => if x33 = true then (some 6) else (if x3 = 38 then (some 7) else (some 0))
end
def fairwayref4_Kind.f (k : Nat) (a0 : Int) : Option (Int) := if a0 = 1 then (fairwayref4_Kind.j0 k a0 (a0 == 1)) else (if a0 = 23 then (fairwayref4_Kind.j0 k a0 (a0 == 23)) else (if a0 = 25 then (fairwayref4_Kind.j0 k a0 (a0 == 25)) else (if a0 = 36 then (fairwayref4_Kind.j0 k a0 (a0 == 36)) else (if a0 = 37 then (fairwayref4_Kind.j0 k a0 (a0 == 37)) else (if a0 = 40 then (fairwayref4_Kind.j0 k a0 (a0 == 40)) else (if a0 = 41 then (fairwayref4_Kind.j0 k a0 (a0 == 41)) else (fairwayref4_Kind.j0 k a0 (a0 == 42))))))))
def fairwaylaw4_num.f (a0 : Int) : Option (Int) := some a0
set_option maxHeartbeats 8000000 in
set_option maxRecDepth 100000 in
theorem fairwaylaw4_num.calls (a0 : Int) (r : Int) (w : World) (h : fairwaylaw4_num.f a0 = some r) :
  Calls Tryd.prog 13 #[.int .i64 a0] w fun e w' => e = .returned (.int .i64 r) ∧ Drawn0 w w' := by
 have H : (some a0) = some r := h; clear h; obtain rfl := Option.some.inj H; go_enter Tryd.func13, Tryd.ntmps13
 go_wp2
 go_ret
 exact ⟨zz16, zz14⟩
end Go.Proofs.YtiancopplinpcaaDoor.P
end
section
namespace Go.Proofs.YtiancopplinpcaaDoor.P
open Go.RowKit Go.Proofs.YtiancopplinpcaaDoorW.PrintWords Go.Proofs.YtiancopplinpcaaDoorW.PrintLast Go.Proofs.YtiancopplinpcaaDoorW.PrintMore
attribute [local go_sem] max2_int min2_int max_two min_two max_three min_three max_four min_four
set_option linter.unusedVariables false
set_option linter.unusedSimpArgs false
mutual
def prop_Kind.j0 : Nat → Int → Bool → Option (Int × Int)
  | 0, _, _ => none
  | k + 1, x4, x5 => if x5 = true then (some (1, 0)) else (if x4 = 19 then (prop_Kind.j1 k x4 (x4 == 19)) else (if x4 = 33 then (prop_Kind.j1 k x4 (x4 == 33)) else (if x4 = 34 then (prop_Kind.j1 k x4 (x4 == 34)) else (prop_Kind.j1 k x4 (x4 == 35)))))
def prop_Kind.j1 : Nat → Int → Bool → Option (Int × Int)
  | 0, _, _ => none
  | k + 1, x4, x14 => if x14 = true then (some (2, 0)) else (if x4 = 2 then (prop_Kind.j2 k x4 (x4 == 2)) else (if x4 = 17 then (prop_Kind.j2 k x4 (x4 == 17)) else (if x4 = 24 then (prop_Kind.j2 k x4 (x4 == 24)) else (prop_Kind.j2 k x4 (x4 == 39)))))
def prop_Kind.j2 : Nat → Int → Bool → Option (Int × Int)
  | 0, _, _ => none
  | k + 1, x4, x19 => if x19 = true then (some (3, 0)) else (if x4 = 11 then (some (4, 0)) else (if x4 = 3 then (prop_Kind.j3 k x4 (x4 == 3)) else (if x4 = 8 then (prop_Kind.j3 k x4 (x4 == 8)) else (if x4 = 18 then (prop_Kind.j3 k x4 (x4 == 18)) else (if x4 = 21 then (prop_Kind.j3 k x4 (x4 == 21)) else (if x4 = 26 then (prop_Kind.j3 k x4 (x4 == 26)) else (if x4 = 28 then (prop_Kind.j3 k x4 (x4 == 28)) else (prop_Kind.j3 k x4 (x4 == 31)))))))))
def prop_Kind.j3 : Nat → Int → Bool → Option (Int × Int)
  | 0, _, _ => none
  | k + 1, x4, x26 => if x26 = true then (some (5, 0)) else (if x4 = 9 then (prop_Kind.j4 k x4 (x4 == 9)) else (prop_Kind.j4 k x4 (x4 == 22)))
def prop_Kind.j4 : Nat → Int → Bool → Option (Int × Int)
  | 0, _, _ => none
  | k + 1, x4, x34 => if x34 = true then (some (6, 0)) else (if x4 = 38 then (some (7, 0)) else (some (0, 3)))
end
def prop_Kind.f (k : Nat) (a0 : Int) : Option (Int × Int) := if a0 = 1 then (prop_Kind.j0 k a0 (a0 == 1)) else (if a0 = 23 then (prop_Kind.j0 k a0 (a0 == 23)) else (if a0 = 25 then (prop_Kind.j0 k a0 (a0 == 25)) else (if a0 = 36 then (prop_Kind.j0 k a0 (a0 == 36)) else (if a0 = 37 then (prop_Kind.j0 k a0 (a0 == 37)) else (if a0 = 40 then (prop_Kind.j0 k a0 (a0 == 40)) else (if a0 = 41 then (prop_Kind.j0 k a0 (a0 == 41)) else (prop_Kind.j0 k a0 (a0 == 42))))))))
theorem prop_Kind.mono_l : ∀ k, (∀ y0 y1, LeO (prop_Kind.j0 k y0 y1) (prop_Kind.j0 (k + 1) y0 y1)) ∧ (∀ y0 y1, LeO (prop_Kind.j1 k y0 y1) (prop_Kind.j1 (k + 1) y0 y1)) ∧ (∀ y0 y1, LeO (prop_Kind.j2 k y0 y1) (prop_Kind.j2 (k + 1) y0 y1)) ∧ (∀ y0 y1, LeO (prop_Kind.j3 k y0 y1) (prop_Kind.j3 (k + 1) y0 y1)) ∧ (∀ y0 y1, LeO (prop_Kind.j4 k y0 y1) (prop_Kind.j4 (k + 1) y0 y1))
 | 0 => ⟨fun _ _ r h => by simp [prop_Kind.j0] at h, fun _ _ r h => by simp [prop_Kind.j1] at h, fun _ _ r h => by simp [prop_Kind.j2] at h, fun _ _ r h => by simp [prop_Kind.j3] at h, fun _ _ r h => by simp [prop_Kind.j4] at h⟩
 | k + 1 => by
  obtain ⟨ih0, ih1, ih2, ih3, ih4⟩ := prop_Kind.mono_l k; refine ⟨?_, ?_, ?_, ?_, ?_⟩ <;> intros
  all_goals first | unfold prop_Kind.j0 | unfold prop_Kind.j1 | unfold prop_Kind.j2 | unfold prop_Kind.j3 | unfold prop_Kind.j4
  all_goals repeat' first
   | (with_reducible exact ih0 _ _)
   | (with_reducible exact ih1 _ _)
   | (with_reducible exact ih2 _ _)
   | (with_reducible exact ih3 _ _)
   | (with_reducible exact ih4 _ _)
   | (with_reducible exact LeO.refl _)
   | (with_reducible exact LeO.none _)
   | (with_reducible refine LeO.ite ?_ ?_)
   | (with_reducible refine LeO.bind ?_ (fun _ => ?_))
   | exact ih0 _ _
   | exact ih1 _ _
   | exact ih2 _ _
   | exact ih3 _ _
   | exact ih4 _ _
   | exact LeO.none _
   | refine LeO.ite ?_ ?_
   | refine LeO.bind ?_ (fun _ => ?_)
theorem prop_Kind.mono : ∀ a0 k, LeO (prop_Kind.f k a0) (prop_Kind.f (k + 1) a0) := by
 intro a0 k
 obtain ⟨ih0, ih1, ih2, ih3, ih4⟩ := prop_Kind.mono_l k; unfold prop_Kind.f; repeat' first
   | (with_reducible exact ih0 _ _)
   | (with_reducible exact ih1 _ _)
   | (with_reducible exact ih2 _ _)
   | (with_reducible exact ih3 _ _)
   | (with_reducible exact ih4 _ _)
   | (with_reducible exact LeO.refl _)
   | (with_reducible exact LeO.none _)
   | (with_reducible refine LeO.ite ?_ ?_)
   | (with_reducible refine LeO.bind ?_ (fun _ => ?_))
   | exact ih0 _ _
   | exact ih1 _ _
   | exact ih2 _ _
   | exact ih3 _ _
   | exact ih4 _ _
   | exact LeO.none _
   | refine LeO.ite ?_ ?_
   | refine LeO.bind ?_ (fun _ => ?_)
set_option maxHeartbeats 8000000 in
set_option maxRecDepth 100000 in
theorem prop_Kind.calls (k : Nat) (a0 : Int) (r1 : Int) (r2 : Int) (w : World) (h : prop_Kind.f k a0 = some (r1, r2)) :
  Calls Tryd.prog 11 #[.int .i64 a0] w fun e w' => e = .returned (.tuple #[.int .i64 r1, .int .i64 r2]) ∧ Drawn0 w w' := by
 have H : (if a0 = 1 then (prop_Kind.j0 k a0 (a0 == 1)) else (if a0 = 23 then (prop_Kind.j0 k a0 (a0 == 23)) else (if a0 = 25 then (prop_Kind.j0 k a0 (a0 == 25)) else (if a0 = 36 then (prop_Kind.j0 k a0 (a0 == 36)) else (if a0 = 37 then (prop_Kind.j0 k a0 (a0 == 37)) else (if a0 = 40 then (prop_Kind.j0 k a0 (a0 == 40)) else (if a0 = 41 then (prop_Kind.j0 k a0 (a0 == 41)) else (prop_Kind.j0 k a0 (a0 == 42))))))))) = some (r1, r2) := h; clear h; have HC2 := Aside0.mk H; clear H; go_enter Tryd.func11, Tryd.ntmps11
 go_upto_if 5 with (fail)
 go_cut [5] (fun v5 wc => ∃ (kq : Nat) (x5_1 : Bool), v5 = .bool x5_1 ∧ Aside0 (prop_Kind.j0 kq a0 x5_1 = some (r1, r2)) ∧ Aside0 (kq ≤ k) ∧ Drawn0 w wc)
 case first =>
  have H := HC2.out; clear HC2; by_cases c3 : a0 = 1
  ·
   rw [if_pos c3] at H; have c3b0 : (a0 == 1) = true := beq_iff_eq.mpr c3; have c3b1 : (a0 != 1) = false := bne_eq_false_iff_eq.mpr c3; clear c3; (first | rw [c3b0] | (simp only [i64_w, i32_w]; rw [c3b0]) | skip)
   have H' := Aside0.mk H; clear H; go_wp2
   go_meet
   case rel => exact ⟨_, ((a0 == 1)), zz16, H', ⟨zz17⟩, zz14⟩
  rw [if_neg c3] at H; have c3b0 : (a0 == 1) = false := beq_eq_false_iff_ne.mpr c3; have c3b1 : (a0 != 1) = true := bne_iff_ne.mpr c3; (first | rw [c3b0] | (simp only [i64_w, i32_w]; rw [c3b0]) | skip)
  by_cases c4 : a0 = 23
  ·
   rw [if_pos c4] at H; have c4b0 : (a0 == 23) = true := beq_iff_eq.mpr c4; have c4b1 : (a0 != 23) = false := bne_eq_false_iff_eq.mpr c4; clear c4; have H' := Aside0.mk H; clear H; go_wp2
   go_meet
   case rel => exact ⟨_, ((a0 == 23)), zz16, H', ⟨zz17⟩, zz14⟩
  rw [if_neg c4] at H; have c4b0 : (a0 == 23) = false := beq_eq_false_iff_ne.mpr c4; have c4b1 : (a0 != 23) = true := bne_iff_ne.mpr c4; by_cases c5 : a0 = 25
  ·
   rw [if_pos c5] at H; have c5b0 : (a0 == 25) = true := beq_iff_eq.mpr c5; have c5b1 : (a0 != 25) = false := bne_eq_false_iff_eq.mpr c5; clear c5; have H' := Aside0.mk H; clear H; go_wp2
   go_meet
   case rel => exact ⟨_, ((a0 == 25)), zz16, H', ⟨zz17⟩, zz14⟩
  rw [if_neg c5] at H; have c5b0 : (a0 == 25) = false := beq_eq_false_iff_ne.mpr c5; have c5b1 : (a0 != 25) = true := bne_iff_ne.mpr c5; by_cases c6 : a0 = 36
  ·
   rw [if_pos c6] at H; have c6b0 : (a0 == 36) = true := beq_iff_eq.mpr c6; have c6b1 : (a0 != 36) = false := bne_eq_false_iff_eq.mpr c6; clear c6; have H' := Aside0.mk H; clear H; go_wp2
   go_meet
   case rel => exact ⟨_, ((a0 == 36)), zz16, H', ⟨zz17⟩, zz14⟩
  rw [if_neg c6] at H; have c6b0 : (a0 == 36) = false := beq_eq_false_iff_ne.mpr c6; have c6b1 : (a0 != 36) = true := bne_iff_ne.mpr c6; by_cases c7 : a0 = 37
  ·
   rw [if_pos c7] at H; have c7b0 : (a0 == 37) = true := beq_iff_eq.mpr c7; have c7b1 : (a0 != 37) = false := bne_eq_false_iff_eq.mpr c7; clear c7; have H' := Aside0.mk H; clear H; go_wp2
   go_meet
   case rel => exact ⟨_, ((a0 == 37)), zz16, H', ⟨zz17⟩, zz14⟩
  rw [if_neg c7] at H; have c7b0 : (a0 == 37) = false := beq_eq_false_iff_ne.mpr c7; have c7b1 : (a0 != 37) = true := bne_iff_ne.mpr c7; by_cases c8 : a0 = 40
  ·
   rw [if_pos c8] at H; have c8b0 : (a0 == 40) = true := beq_iff_eq.mpr c8; have c8b1 : (a0 != 40) = false := bne_eq_false_iff_eq.mpr c8; clear c8; have H' := Aside0.mk H; clear H; go_wp2
   go_meet
   case rel => exact ⟨_, ((a0 == 40)), zz16, H', ⟨zz17⟩, zz14⟩
  rw [if_neg c8] at H; have c8b0 : (a0 == 40) = false := beq_eq_false_iff_ne.mpr c8; have c8b1 : (a0 != 40) = true := bne_iff_ne.mpr c8; by_cases c9 : a0 = 41
  ·
   rw [if_pos c9] at H; have c9b0 : (a0 == 41) = true := beq_iff_eq.mpr c9; have c9b1 : (a0 != 41) = false := bne_eq_false_iff_eq.mpr c9; clear c9; have H' := Aside0.mk H; clear H; go_wp2
   go_meet
   case rel => exact ⟨_, ((a0 == 41)), zz16, H', ⟨zz17⟩, zz14⟩
  rw [if_neg c9] at H; have c9b0 : (a0 == 41) = false := beq_eq_false_iff_ne.mpr c9; have c9b1 : (a0 != 41) = true := bne_iff_ne.mpr c9; have H' := Aside0.mk H; clear H; go_wp2
  go_meet
  case rel => exact ⟨_, ((a0 == 42)), zz16, H', ⟨zz17⟩, zz14⟩
 case rest =>
  as_aux_lemma =>
   clear HC2; (try clear c1); (try clear p2); (try clear c3); (try clear c3b0); (try clear c3b1); (try clear c4); (try clear c4b0); (try clear c4b1); (try clear c5); (try clear c5b0); (try clear c5b1); (try clear c6); (try clear c6b0); (try clear c6b1); (try clear c7); (try clear c7b0); (try clear c7b1); (try clear c8); (try clear c8b0); (try clear c8b1); (try clear c9); (try clear c9b0); (try clear c9b1); obtain ⟨kq, x5_1, rfl, HA, HJ1, ⟨mc1, rfl⟩⟩ := hcut; cases kq with
   | zero => exact absurd HA.out (by simp [prop_Kind.j0])
   | succ kj1 =>
    have H := HA.out; clear HA; simp only [prop_Kind.j0] at H; by_cases c10 : x5_1 = true
    ·
     subst c10; have H1 : (some (1, 0)) = some (r1, r2) := by rw [if_pos rfl] at H; exact H
     clear H; have H := H1; clear H1; simp only [Option.some.injEq, Prod.mk.injEq] at H; obtain ⟨rfl, rfl⟩ := H; go_wp2
     go_ret2
     exact ⟨zz16, zz14⟩
    replace c10 := Bool.eq_false_iff.mpr c10; subst c10; have H1 : (if a0 = 19 then (prop_Kind.j1 kj1 a0 (a0 == 19)) else (if a0 = 33 then (prop_Kind.j1 kj1 a0 (a0 == 33)) else (if a0 = 34 then (prop_Kind.j1 kj1 a0 (a0 == 34)) else (prop_Kind.j1 kj1 a0 (a0 == 35))))) = some (r1, r2) := by rw [if_neg (show ¬ (false = true) by decide)] at H; exact H
    clear H; have H := H1; clear H1; have HC11 := Aside0.mk H; clear H; go_upto_if 14 with (fail)
    go_cut [14] (fun v14 wc => ∃ (kq : Nat) (x14_10 : Bool), v14 = .bool x14_10 ∧ Aside0 (prop_Kind.j1 kq a0 x14_10 = some (r1, r2)) ∧ Aside0 (kq ≤ kj1) ∧ Drawn0 w wc)
    case first =>
     have H := HC11.out; clear HC11; by_cases c12 : a0 = 19
     ·
      rw [if_pos c12] at H; have c12b0 : (a0 == 19) = true := beq_iff_eq.mpr c12; have c12b1 : (a0 != 19) = false := bne_eq_false_iff_eq.mpr c12; clear c12; (first | rw [c12b0] | (simp only [i64_w, i32_w]; rw [c12b0]) | skip)
      have H' := Aside0.mk H; clear H; go_wp2
      go_meet
      case rel => exact ⟨_, ((a0 == 19)), zz16, H', ⟨by have := HJ1.out; first | omega | exact Nat.le_refl _⟩, zz14⟩
     rw [if_neg c12] at H; have c12b0 : (a0 == 19) = false := beq_eq_false_iff_ne.mpr c12; have c12b1 : (a0 != 19) = true := bne_iff_ne.mpr c12; (first | rw [c12b0] | (simp only [i64_w, i32_w]; rw [c12b0]) | skip)
     by_cases c13 : a0 = 33
     ·
      rw [if_pos c13] at H; have c13b0 : (a0 == 33) = true := beq_iff_eq.mpr c13; have c13b1 : (a0 != 33) = false := bne_eq_false_iff_eq.mpr c13; clear c13; have H' := Aside0.mk H; clear H; go_wp2
      go_meet
      case rel => exact ⟨_, ((a0 == 33)), zz16, H', ⟨by have := HJ1.out; first | omega | exact Nat.le_refl _⟩, zz14⟩
     rw [if_neg c13] at H; have c13b0 : (a0 == 33) = false := beq_eq_false_iff_ne.mpr c13; have c13b1 : (a0 != 33) = true := bne_iff_ne.mpr c13; by_cases c14 : a0 = 34
     ·
      rw [if_pos c14] at H; have c14b0 : (a0 == 34) = true := beq_iff_eq.mpr c14; have c14b1 : (a0 != 34) = false := bne_eq_false_iff_eq.mpr c14; clear c14; have H' := Aside0.mk H; clear H; go_wp2
      go_meet
      case rel => exact ⟨_, ((a0 == 34)), zz16, H', ⟨by have := HJ1.out; first | omega | exact Nat.le_refl _⟩, zz14⟩
     rw [if_neg c14] at H; have c14b0 : (a0 == 34) = false := beq_eq_false_iff_ne.mpr c14; have c14b1 : (a0 != 34) = true := bne_iff_ne.mpr c14; have H' := Aside0.mk H; clear H; go_wp2
     go_meet
     case rel => exact ⟨_, ((a0 == 35)), zz16, H', ⟨by have := HJ1.out; first | omega | exact Nat.le_refl _⟩, zz14⟩
    case rest =>
     as_aux_lemma =>
      clear HC11; (try clear c1); (try clear p2); (try clear c3); (try clear c3b0); (try clear c3b1); (try clear c4); (try clear c4b0); (try clear c4b1); (try clear c5); (try clear c5b0); (try clear c5b1); (try clear c6); (try clear c6b0); (try clear c6b1); (try clear c7); (try clear c7b0); (try clear c7b1); (try clear c8); (try clear c8b0); (try clear c8b1); (try clear c9); (try clear c9b0); (try clear c9b1); (try clear c10); (try clear c11); (try clear c12); (try clear c12b0); (try clear c12b1); (try clear c13); (try clear c13b0); (try clear c13b1); (try clear c14); (try clear c14b0); (try clear c14b1); (try clear p2); obtain ⟨kq, x14_10, rfl, HA, HJ10, ⟨mc10, rfl⟩⟩ := hcut; cases kq with
      | zero => exact absurd HA.out (by simp [prop_Kind.j1])
      | succ kj10 =>
       have H := HA.out; clear HA; simp only [prop_Kind.j1] at H; by_cases c15 : x14_10 = true
       ·
        subst c15; have H1 : (some (2, 0)) = some (r1, r2) := by rw [if_pos rfl] at H; exact H
        clear H; have H := H1; clear H1; simp only [Option.some.injEq, Prod.mk.injEq] at H; obtain ⟨rfl, rfl⟩ := H; go_wp2
        go_ret2
        exact ⟨zz16, zz14⟩
       replace c15 := Bool.eq_false_iff.mpr c15; subst c15; have H1 : (if a0 = 2 then (prop_Kind.j2 kj10 a0 (a0 == 2)) else (if a0 = 17 then (prop_Kind.j2 kj10 a0 (a0 == 17)) else (if a0 = 24 then (prop_Kind.j2 kj10 a0 (a0 == 24)) else (prop_Kind.j2 kj10 a0 (a0 == 39))))) = some (r1, r2) := by rw [if_neg (show ¬ (false = true) by decide)] at H; exact H
       clear H; have H := H1; clear H1; have HC16 := Aside0.mk H; clear H; go_upto_if 19 with (fail)
       go_cut [19] (fun v19 wc => ∃ (kq : Nat) (x19_15 : Bool), v19 = .bool x19_15 ∧ Aside0 (prop_Kind.j2 kq a0 x19_15 = some (r1, r2)) ∧ Aside0 (kq ≤ kj10) ∧ Drawn0 w wc)
       case first =>
        have H := HC16.out; clear HC16; by_cases c17 : a0 = 2
        ·
         rw [if_pos c17] at H; have c17b0 : (a0 == 2) = true := beq_iff_eq.mpr c17; have c17b1 : (a0 != 2) = false := bne_eq_false_iff_eq.mpr c17; clear c17; (first | rw [c17b0] | (simp only [i64_w, i32_w]; rw [c17b0]) | skip)
         have H' := Aside0.mk H; clear H; go_wp2
         go_meet
         case rel => exact ⟨_, ((a0 == 2)), zz16, H', ⟨by have := HJ1.out; have := HJ10.out; first | omega | exact Nat.le_refl _⟩, zz14⟩
        rw [if_neg c17] at H; have c17b0 : (a0 == 2) = false := beq_eq_false_iff_ne.mpr c17; have c17b1 : (a0 != 2) = true := bne_iff_ne.mpr c17; (first | rw [c17b0] | (simp only [i64_w, i32_w]; rw [c17b0]) | skip)
        by_cases c18 : a0 = 17
        ·
         rw [if_pos c18] at H; have c18b0 : (a0 == 17) = true := beq_iff_eq.mpr c18; have c18b1 : (a0 != 17) = false := bne_eq_false_iff_eq.mpr c18; clear c18; have H' := Aside0.mk H; clear H; go_wp2
         go_meet
         case rel => exact ⟨_, ((a0 == 17)), zz16, H', ⟨by have := HJ1.out; have := HJ10.out; first | omega | exact Nat.le_refl _⟩, zz14⟩
        rw [if_neg c18] at H; have c18b0 : (a0 == 17) = false := beq_eq_false_iff_ne.mpr c18; have c18b1 : (a0 != 17) = true := bne_iff_ne.mpr c18; by_cases c19 : a0 = 24
        ·
         rw [if_pos c19] at H; have c19b0 : (a0 == 24) = true := beq_iff_eq.mpr c19; have c19b1 : (a0 != 24) = false := bne_eq_false_iff_eq.mpr c19; clear c19; have H' := Aside0.mk H; clear H; go_wp2
         go_meet
         case rel => exact ⟨_, ((a0 == 24)), zz16, H', ⟨by have := HJ1.out; have := HJ10.out; first | omega | exact Nat.le_refl _⟩, zz14⟩
        rw [if_neg c19] at H; have c19b0 : (a0 == 24) = false := beq_eq_false_iff_ne.mpr c19; have c19b1 : (a0 != 24) = true := bne_iff_ne.mpr c19; have H' := Aside0.mk H; clear H; go_wp2
        go_meet
        case rel => exact ⟨_, ((a0 == 39)), zz16, H', ⟨by have := HJ1.out; have := HJ10.out; first | omega | exact Nat.le_refl _⟩, zz14⟩
       case rest =>
        as_aux_lemma =>
         clear HC16; (try clear c1); (try clear p2); (try clear c3); (try clear c3b0); (try clear c3b1); (try clear c4); (try clear c4b0); (try clear c4b1); (try clear c5); (try clear c5b0); (try clear c5b1); (try clear c6); (try clear c6b0); (try clear c6b1); (try clear c7); (try clear c7b0); (try clear c7b1); (try clear c8); (try clear c8b0); (try clear c8b1); (try clear c9); (try clear c9b0); (try clear c9b1); (try clear c10); (try clear c11); (try clear c12); (try clear c12b0); (try clear c12b1); (try clear c13); (try clear c13b0); (try clear c13b1); (try clear c14); (try clear c14b0); (try clear c14b1); (try clear c15); (try clear c17); (try clear c17b0); (try clear c17b1); (try clear c18); (try clear c18b0); (try clear c18b1); (try clear c19); (try clear c19b0); (try clear c19b1); (try clear p2); obtain ⟨kq, x19_15, rfl, HA, HJ15, ⟨mc15, rfl⟩⟩ := hcut; cases kq with
         | zero => exact absurd HA.out (by simp [prop_Kind.j2])
         | succ kj15 =>
          have H := HA.out; clear HA; simp only [prop_Kind.j2] at H; by_cases c20 : x19_15 = true
          ·
           subst c20; have H1 : (some (3, 0)) = some (r1, r2) := by rw [if_pos rfl] at H; exact H
           clear H; have H := H1; clear H1; simp only [Option.some.injEq, Prod.mk.injEq] at H; obtain ⟨rfl, rfl⟩ := H; go_wp2
           go_ret2
           exact ⟨zz16, zz14⟩
          replace c20 := Bool.eq_false_iff.mpr c20; subst c20; have H1 : (if a0 = 11 then (some (4, 0)) else (if a0 = 3 then (prop_Kind.j3 kj15 a0 (a0 == 3)) else (if a0 = 8 then (prop_Kind.j3 kj15 a0 (a0 == 8)) else (if a0 = 18 then (prop_Kind.j3 kj15 a0 (a0 == 18)) else (if a0 = 21 then (prop_Kind.j3 kj15 a0 (a0 == 21)) else (if a0 = 26 then (prop_Kind.j3 kj15 a0 (a0 == 26)) else (if a0 = 28 then (prop_Kind.j3 kj15 a0 (a0 == 28)) else (prop_Kind.j3 kj15 a0 (a0 == 31))))))))) = some (r1, r2) := by rw [if_neg (show ¬ (false = true) by decide)] at H; exact H
          clear H; have H := H1; clear H1; by_cases c21 : a0 = 11
          ·
           rw [if_pos c21] at H; have c21b0 : (a0 == 11) = true := beq_iff_eq.mpr c21; have c21b1 : (a0 != 11) = false := bne_eq_false_iff_eq.mpr c21; clear c21; simp only [Option.some.injEq, Prod.mk.injEq] at H; obtain ⟨rfl, rfl⟩ := H; go_wp2
           go_ret2
           exact ⟨zz16, zz14⟩
          rw [if_neg c21] at H; have c21b0 : (a0 == 11) = false := beq_eq_false_iff_ne.mpr c21; have c21b1 : (a0 != 11) = true := bne_iff_ne.mpr c21; have HC22 := Aside0.mk H; clear H; go_upto_if 26 with (fail)
          go_cut [26] (fun v26 wc => ∃ (kq : Nat) (x26_21 : Bool), v26 = .bool x26_21 ∧ Aside0 (prop_Kind.j3 kq a0 x26_21 = some (r1, r2)) ∧ Aside0 (kq ≤ kj15) ∧ Drawn0 w wc)
          case first =>
           have H := HC22.out; clear HC22; by_cases c23 : a0 = 3
           ·
            rw [if_pos c23] at H; have c23b0 : (a0 == 3) = true := beq_iff_eq.mpr c23; have c23b1 : (a0 != 3) = false := bne_eq_false_iff_eq.mpr c23; clear c23; (first | rw [c23b0] | (simp only [i64_w, i32_w]; rw [c23b0]) | skip)
            have H' := Aside0.mk H; clear H; go_wp2
            go_meet
            case rel => exact ⟨_, ((a0 == 3)), zz16, H', ⟨zz10⟩, zz14⟩
           rw [if_neg c23] at H; have c23b0 : (a0 == 3) = false := beq_eq_false_iff_ne.mpr c23; have c23b1 : (a0 != 3) = true := bne_iff_ne.mpr c23; (first | rw [c23b0] | (simp only [i64_w, i32_w]; rw [c23b0]) | skip)
           by_cases c24 : a0 = 8
           ·
            rw [if_pos c24] at H; have c24b0 : (a0 == 8) = true := beq_iff_eq.mpr c24; have c24b1 : (a0 != 8) = false := bne_eq_false_iff_eq.mpr c24; clear c24; have H' := Aside0.mk H; clear H; go_wp2
            go_meet
            case rel => exact ⟨_, ((a0 == 8)), zz16, H', ⟨zz10⟩, zz14⟩
           rw [if_neg c24] at H; have c24b0 : (a0 == 8) = false := beq_eq_false_iff_ne.mpr c24; have c24b1 : (a0 != 8) = true := bne_iff_ne.mpr c24; by_cases c25 : a0 = 18
           ·
            rw [if_pos c25] at H; have c25b0 : (a0 == 18) = true := beq_iff_eq.mpr c25; have c25b1 : (a0 != 18) = false := bne_eq_false_iff_eq.mpr c25; clear c25; have H' := Aside0.mk H; clear H; go_wp2
            go_meet
            case rel => exact ⟨_, ((a0 == 18)), zz16, H', ⟨zz10⟩, zz14⟩
           rw [if_neg c25] at H; have c25b0 : (a0 == 18) = false := beq_eq_false_iff_ne.mpr c25; have c25b1 : (a0 != 18) = true := bne_iff_ne.mpr c25; by_cases c26 : a0 = 21
           ·
            rw [if_pos c26] at H; have c26b0 : (a0 == 21) = true := beq_iff_eq.mpr c26; have c26b1 : (a0 != 21) = false := bne_eq_false_iff_eq.mpr c26; clear c26; have H' := Aside0.mk H; clear H; go_wp2
            go_meet
            case rel => exact ⟨_, ((a0 == 21)), zz16, H', ⟨zz10⟩, zz14⟩
           rw [if_neg c26] at H; have c26b0 : (a0 == 21) = false := beq_eq_false_iff_ne.mpr c26; have c26b1 : (a0 != 21) = true := bne_iff_ne.mpr c26; by_cases c27 : a0 = 26
           ·
            rw [if_pos c27] at H; have c27b0 : (a0 == 26) = true := beq_iff_eq.mpr c27; have c27b1 : (a0 != 26) = false := bne_eq_false_iff_eq.mpr c27; clear c27; have H' := Aside0.mk H; clear H; go_wp2
            go_meet
            case rel => exact ⟨_, ((a0 == 26)), zz16, H', ⟨zz10⟩, zz14⟩
           rw [if_neg c27] at H; have c27b0 : (a0 == 26) = false := beq_eq_false_iff_ne.mpr c27; have c27b1 : (a0 != 26) = true := bne_iff_ne.mpr c27; by_cases c28 : a0 = 28
           ·
            rw [if_pos c28] at H; have c28b0 : (a0 == 28) = true := beq_iff_eq.mpr c28; have c28b1 : (a0 != 28) = false := bne_eq_false_iff_eq.mpr c28; clear c28; have H' := Aside0.mk H; clear H; go_wp2
            go_meet
            case rel => exact ⟨_, ((a0 == 28)), zz16, H', ⟨zz10⟩, zz14⟩
           rw [if_neg c28] at H; have c28b0 : (a0 == 28) = false := beq_eq_false_iff_ne.mpr c28; have c28b1 : (a0 != 28) = true := bne_iff_ne.mpr c28; have H' := Aside0.mk H; clear H; go_wp2
           go_meet
           case rel => exact ⟨_, ((a0 == 31)), zz16, H', ⟨zz10⟩, zz14⟩
          case rest =>
           as_aux_lemma =>
            clear HC22; (try clear c1); (try clear c2); (try clear p2); (try clear c3); (try clear c3b0); (try clear c3b1); (try clear c4); (try clear c4b0); (try clear c4b1); (try clear c5); (try clear c5b0); (try clear c5b1); (try clear c6); (try clear c6b0); (try clear c6b1); (try clear c7); (try clear c7b0); (try clear c7b1); (try clear c8); (try clear c8b0); (try clear c8b1); (try clear c9); (try clear c9b0); (try clear c9b1); (try clear c10); (try clear c11); (try clear c12); (try clear c12b0); (try clear c12b1); (try clear c13); (try clear c13b0); (try clear c13b1); (try clear c14); (try clear c14b0); (try clear c14b1); (try clear c15); (try clear c17); (try clear c17b0); (try clear c17b1); (try clear c18); (try clear c18b0); (try clear c18b1); (try clear c19); (try clear c19b0); (try clear c19b1); (try clear c20); (try clear c21); (try clear c21b0); (try clear c21b1); (try clear c23); (try clear c23b0); (try clear c23b1); (try clear c24); (try clear c24b0); (try clear c24b1); (try clear c25); (try clear c25b0); (try clear c25b1); (try clear c26); (try clear c26b0); (try clear c26b1); (try clear c27); (try clear c27b0); (try clear c27b1); (try clear c28); (try clear c28b0); (try clear c28b1); (try clear p2); obtain ⟨kq, x26_21, rfl, HA, HJ21, ⟨mc21, rfl⟩⟩ := hcut; cases kq with
            | zero => exact absurd HA.out (by simp [prop_Kind.j3])
            | succ kj21 =>
             have H := HA.out; clear HA; simp only [prop_Kind.j3] at H; by_cases c29 : x26_21 = true
             ·
              subst c29; have H1 : (some (5, 0)) = some (r1, r2) := by rw [if_pos rfl] at H; exact H
              clear H; have H := H1; clear H1; simp only [Option.some.injEq, Prod.mk.injEq] at H; obtain ⟨rfl, rfl⟩ := H; go_wp2
              go_ret2
              exact ⟨zz16, zz14⟩
             replace c29 := Bool.eq_false_iff.mpr c29; subst c29; have H1 : (if a0 = 9 then (prop_Kind.j4 kj21 a0 (a0 == 9)) else (prop_Kind.j4 kj21 a0 (a0 == 22))) = some (r1, r2) := by rw [if_neg (show ¬ (false = true) by decide)] at H; exact H
             clear H; have H := H1; clear H1; have HC30 := Aside0.mk H; clear H; go_upto_if 34 with (fail)
             go_cut [34] (fun v34 wc => ∃ (kq : Nat) (x34_29 : Bool), v34 = .bool x34_29 ∧ Aside0 (prop_Kind.j4 kq a0 x34_29 = some (r1, r2)) ∧ Aside0 (kq ≤ kj21) ∧ Drawn0 w wc)
             case first =>
              have H := HC30.out; clear HC30; by_cases c31 : a0 = 9
              ·
               rw [if_pos c31] at H; have c31b0 : (a0 == 9) = true := beq_iff_eq.mpr c31; have c31b1 : (a0 != 9) = false := bne_eq_false_iff_eq.mpr c31; clear c31; (first | rw [c31b0] | (simp only [i64_w, i32_w]; rw [c31b0]) | skip)
               have H' := Aside0.mk H; clear H; go_wp2
               go_meet
               case rel => exact ⟨_, ((a0 == 9)), zz16, H', ⟨by have := HJ1.out; have := HJ10.out; have := HJ15.out; have := HJ21.out; first | omega | exact Nat.le_refl _⟩, zz14⟩
              rw [if_neg c31] at H; have c31b0 : (a0 == 9) = false := beq_eq_false_iff_ne.mpr c31; have c31b1 : (a0 != 9) = true := bne_iff_ne.mpr c31; (first | rw [c31b0] | (simp only [i64_w, i32_w]; rw [c31b0]) | skip)
              have H' := Aside0.mk H; clear H; go_wp2
              go_meet
              case rel => exact ⟨_, ((a0 == 22)), zz16, H', ⟨by have := HJ1.out; have := HJ10.out; have := HJ15.out; have := HJ21.out; first | omega | exact Nat.le_refl _⟩, zz14⟩
             case rest =>
              as_aux_lemma =>
               clear HC30; (try clear c1); (try clear c2); (try clear p2); (try clear c3); (try clear c3b0); (try clear c3b1); (try clear c4); (try clear c4b0); (try clear c4b1); (try clear c5); (try clear c5b0); (try clear c5b1); (try clear c6); (try clear c6b0); (try clear c6b1); (try clear c7); (try clear c7b0); (try clear c7b1); (try clear c8); (try clear c8b0); (try clear c8b1); (try clear c9); (try clear c9b0); (try clear c9b1); (try clear c10); (try clear c11); (try clear c12); (try clear c12b0); (try clear c12b1); (try clear c13); (try clear c13b0); (try clear c13b1); (try clear c14); (try clear c14b0); (try clear c14b1); (try clear c15); (try clear c17); (try clear c17b0); (try clear c17b1); (try clear c18); (try clear c18b0); (try clear c18b1); (try clear c19); (try clear c19b0); (try clear c19b1); (try clear c20); (try clear c21); (try clear c21b0); (try clear c21b1); (try clear c23); (try clear c23b0); (try clear c23b1); (try clear c24); (try clear c24b0); (try clear c24b1); (try clear c25); (try clear c25b0); (try clear c25b1); (try clear c26); (try clear c26b0); (try clear c26b1); (try clear c27); (try clear c27b0); (try clear c27b1); (try clear c28); (try clear c28b0); (try clear c28b1); (try clear c29); (try clear c31); (try clear c31b0); (try clear c31b1); (try clear p2); obtain ⟨kq, x34_29, rfl, HA, HJ29, ⟨mc29, rfl⟩⟩ := hcut; cases kq with
               | zero => exact absurd HA.out (by simp [prop_Kind.j4])
               | succ kj29 =>
                have H := HA.out; clear HA; simp only [prop_Kind.j4] at H; by_cases c32 : x34_29 = true
                ·
                 subst c32; have H1 : (some (6, 0)) = some (r1, r2) := by rw [if_pos rfl] at H; exact H
                 clear H; have H := H1; clear H1; simp only [Option.some.injEq, Prod.mk.injEq] at H; obtain ⟨rfl, rfl⟩ := H; go_wp2
                 go_ret2
                 exact ⟨zz16, zz14⟩
                replace c32 := Bool.eq_false_iff.mpr c32; subst c32; have H1 : (if a0 = 38 then (some (7, 0)) else (some (0, 3))) = some (r1, r2) := by rw [if_neg (show ¬ (false = true) by decide)] at H; exact H
                clear H; have H := H1; clear H1; by_cases c33 : a0 = 38
                ·
                 rw [if_pos c33] at H; have c33b0 : (a0 == 38) = true := beq_iff_eq.mpr c33; have c33b1 : (a0 != 38) = false := bne_eq_false_iff_eq.mpr c33; clear c33; simp only [Option.some.injEq, Prod.mk.injEq] at H; obtain ⟨rfl, rfl⟩ := H; go_wp2
                 go_ret2
                 exact ⟨zz16, zz14⟩
                rw [if_neg c33] at H; have c33b0 : (a0 == 38) = false := beq_eq_false_iff_ne.mpr c33; have c33b1 : (a0 != 38) = true := bne_iff_ne.mpr c33; simp only [Option.some.injEq, Prod.mk.injEq] at H; obtain ⟨rfl, rfl⟩ := H; go_wp2
                go_ret2
                exact ⟨zz16, zz14⟩
end Go.Proofs.YtiancopplinpcaaDoor.P
end
section
namespace Go.Proofs.YtiancopplinpcaaDoor.P
open Go.RowKit Go.Proofs.YtiancopplinpcaaDoorW.PrintWords Go.Proofs.YtiancopplinpcaaDoorW.PrintLast Go.Proofs.YtiancopplinpcaaDoorW.PrintMore
attribute [local go_sem] max2_int min2_int max_two min_two max_three min_three max_four min_four
set_option linter.unusedVariables false
set_option linter.unusedSimpArgs false
def prop_stands.j0 : Nat → Int → Bool → Option (List Int × Bool)
  | 0, _, _ => none
  | k + 1, x4, x17 => if x17 = true then (some ((([31, 38] : List Int)), true)) else (if x4 = 8 then (some ((([11, 38] : List Int)), true)) else (if x4 = 10 then (some ((([38] : List Int)), true)) else (if x4 = 14 then (some ((([17, 28, 31, 38] : List Int)), true)) else (if x4 = 15 then (some ((([21, 22, 31, 38] : List Int)), true)) else (if x4 = 12 then (some (([] : List Int), true)) else (if x4 = 13 then (some (([] : List Int), true)) else (some (([] : List Int), false))))))))
def prop_stands.f (k : Nat) (a0 : Int) : Option (List Int × Bool) := if a0 = 0 then (some ((([1, 2, 3, 8, 9, 24, 38] : List Int)), true)) else (if a0 = 1 then (some ((([17, 21, 22, 23, 25, 33, 34, 38, 39] : List Int)), true)) else (if a0 = 2 then (some ((([17, 18, 19, 21, 22, 26, 28, 31, 33, 34, 36, 37, 38, 39, 40, 41, 42] : List Int)), true)) else (if a0 = 3 then (some ((([1, 2, 3, 8, 9, 11, 35, 38] : List Int)), true)) else (if a0 = 4 then (prop_stands.j0 k a0 (a0 == 4)) else (if a0 = 5 then (prop_stands.j0 k a0 (a0 == 5)) else (if a0 = 6 then (prop_stands.j0 k a0 (a0 == 6)) else (if a0 = 7 then (prop_stands.j0 k a0 (a0 == 7)) else (if a0 = 9 then (prop_stands.j0 k a0 (a0 == 9)) else (prop_stands.j0 k a0 (a0 == 11))))))))))
theorem prop_stands.mono_l : ∀ k, (∀ y0 y1, LeO (prop_stands.j0 k y0 y1) (prop_stands.j0 (k + 1) y0 y1))
 | 0 => fun _ _ r h => by simp [prop_stands.j0] at h
 | k + 1 => by
  have ih0 := prop_stands.mono_l k
  ·
   intro y0 y1
   unfold prop_stands.j0; repeat' first
   | (with_reducible exact ih0 _ _)
   | (with_reducible exact LeO.refl _)
   | (with_reducible exact LeO.none _)
   | (with_reducible refine LeO.ite ?_ ?_)
   | (with_reducible refine LeO.bind ?_ (fun _ => ?_))
   | exact ih0 _ _
   | exact LeO.none _
   | refine LeO.ite ?_ ?_
   | refine LeO.bind ?_ (fun _ => ?_)
theorem prop_stands.mono : ∀ a0 k, LeO (prop_stands.f k a0) (prop_stands.f (k + 1) a0) := by
 intro a0 k
 have ih0 := prop_stands.mono_l k; unfold prop_stands.f; repeat' first
   | (with_reducible exact ih0 _ _)
   | (with_reducible exact LeO.refl _)
   | (with_reducible exact LeO.none _)
   | (with_reducible refine LeO.ite ?_ ?_)
   | (with_reducible refine LeO.bind ?_ (fun _ => ?_))
   | exact ih0 _ _
   | exact LeO.none _
   | refine LeO.ite ?_ ?_
   | refine LeO.bind ?_ (fun _ => ?_)
set_option maxHeartbeats 8000000 in
set_option maxRecDepth 100000 in
theorem prop_stands.calls (k : Nat) (a0 : Int) (r1 : List Int) (r2 : Bool) (w : World) (h : prop_stands.f k a0 = some (r1, r2)) :
  Calls Tryd.prog 35 #[.int .i64 a0] w fun e w' => ∃ v0_ : Value, e = .returned (.tuple #[v0_, .bool r2]) ∧ Kd.R (Kd.int .i64) 3 w' w.heap.size (fun _ => True) v0_ r1 ∧ Below w.heap.size w w' := by
 have HB := Aside0.mk (Below.refl w.heap.size w); have H : (if a0 = 0 then (some ((([1, 2, 3, 8, 9, 24, 38] : List Int)), true)) else (if a0 = 1 then (some ((([17, 21, 22, 23, 25, 33, 34, 38, 39] : List Int)), true)) else (if a0 = 2 then (some ((([17, 18, 19, 21, 22, 26, 28, 31, 33, 34, 36, 37, 38, 39, 40, 41, 42] : List Int)), true)) else (if a0 = 3 then (some ((([1, 2, 3, 8, 9, 11, 35, 38] : List Int)), true)) else (if a0 = 4 then (prop_stands.j0 k a0 (a0 == 4)) else (if a0 = 5 then (prop_stands.j0 k a0 (a0 == 5)) else (if a0 = 6 then (prop_stands.j0 k a0 (a0 == 6)) else (if a0 = 7 then (prop_stands.j0 k a0 (a0 == 7)) else (if a0 = 9 then (prop_stands.j0 k a0 (a0 == 9)) else (prop_stands.j0 k a0 (a0 == 11))))))))))) = some (r1, r2) := h; clear h; by_cases c2 : a0 = 0
 ·
  rw [if_pos c2] at H; have c2b0 : (a0 == 0) = true := beq_iff_eq.mpr c2; have c2b1 : (a0 != 0) = false := bne_eq_false_iff_eq.mpr c2; clear c2; obtain ⟨y101, hy101⟩ : ∃ y_ : List Int, y_ = (([1, 2, 3, 8, 9, 24, 38] : List Int)) := ⟨_, rfl⟩; replace H : (some (y101, true)) = some (r1, r2) := by first | (rw [hy101]; with_reducible exact H) | (have H2_ := (Option.bind_some _ _).symm.trans H; rw [hy101]; with_reducible exact H2_) | (have H2_ := (Option.bind_some _ _).symm.trans H; with_reducible exact H2_) | with_reducible exact H | (rw [hy101]; exact H) | exact H
  have Ny101 := Aside0.mk hy101; clear hy101; simp only [Option.some.injEq, Prod.mk.injEq] at H; obtain ⟨rfl, rfl⟩ := H; go_enter Tryd.func35, Tryd.ntmps35
  go_wp2_with (first | ((with_reducible refine gate_dst (N := 7) rfl ?_); refine Kd.R_lit (Kd.int .i64) _ 3 ?hg (N := 7) ?hd (xs := ([1, 2, 3, 8, 9, 24, 38] : List Int)) (inner := [.int .i64 1, .int .i64 2, .int .i64 3, .int .i64 8, .int .i64 9, .int .i64 24, .int .i64 38]) (ok := fun _ => True) (okp := fun _ => True) ?hr ?hp (fun _ hk => hk) trivial (Below.refl _ _) (Nat.le_refl _) (by simp) ?_; (case hd => rfl); (case hg => rfl); (case hr => first | (go_simp; done) | (go_simp; rfl)); (case hp => exact (Reps.one (show Kd.M (Kd.int .i64) _ _ _ 1 [.int .i64 1] from rfl) (Reps.one (show Kd.M (Kd.int .i64) _ _ _ 2 [.int .i64 2] from rfl) (Reps.one (show Kd.M (Kd.int .i64) _ _ _ 3 [.int .i64 3] from rfl) (Reps.one (show Kd.M (Kd.int .i64) _ _ _ 8 [.int .i64 8] from rfl) (Reps.one (show Kd.M (Kd.int .i64) _ _ _ 9 [.int .i64 9] from rfl) (Reps.one (show Kd.M (Kd.int .i64) _ _ _ 24 [.int .i64 24] from rfl) (Reps.one (show Kd.M (Kd.int .i64) _ _ _ 38 [.int .i64 38] from rfl) (Reps.none _ _))))))))); intro v102 w3 ho4 hb hg_ hnew_; clear hg_ hnew_; (first | rw [← Ny101.out] at ho4 | (simp only [Int.reduceToNat] at ho4; rw [← Ny101.out] at ho4)); have n0_ := Aside0.mk (Kd.R_lower ho4 (below_size zz6)); have n1_ := Aside0.mk (below_step zz6 hb); clear HB; have HO103 := n0_; have HB := n1_; clear n0_ n1_; clear hb ho4))
  go_ret2
  exact ⟨_, zz9, by (with_reducible repeat (first | apply Kd.R_alloc | apply Kd.R_drewN | apply Kd.R_drew)); exact HO103.out, zz6⟩
 rw [if_neg c2] at H; have c2b0 : (a0 == 0) = false := beq_eq_false_iff_ne.mpr c2; have c2b1 : (a0 != 0) = true := bne_iff_ne.mpr c2; by_cases c5 : a0 = 1
 ·
  rw [if_pos c5] at H; have c5b0 : (a0 == 1) = true := beq_iff_eq.mpr c5; have c5b1 : (a0 != 1) = false := bne_eq_false_iff_eq.mpr c5; clear c5; obtain ⟨y104, hy104⟩ : ∃ y_ : List Int, y_ = (([17, 21, 22, 23, 25, 33, 34, 38, 39] : List Int)) := ⟨_, rfl⟩; replace H : (some (y104, true)) = some (r1, r2) := by first | (rw [hy104]; with_reducible exact H) | (have H2_ := (Option.bind_some _ _).symm.trans H; rw [hy104]; with_reducible exact H2_) | (have H2_ := (Option.bind_some _ _).symm.trans H; with_reducible exact H2_) | with_reducible exact H | (rw [hy104]; exact H) | exact H
  have Ny104 := Aside0.mk hy104; clear hy104; simp only [Option.some.injEq, Prod.mk.injEq] at H; obtain ⟨rfl, rfl⟩ := H; go_enter Tryd.func35, Tryd.ntmps35
  go_wp2_with (first | ((with_reducible refine gate_dst (N := 10) rfl ?_); refine Kd.R_lit (Kd.int .i64) _ 3 ?hg (N := 10) ?hd (xs := ([17, 21, 22, 23, 25, 33, 34, 38, 39] : List Int)) (inner := [.int .i64 17, .int .i64 21, .int .i64 22, .int .i64 23, .int .i64 25, .int .i64 33, .int .i64 34, .int .i64 38, .int .i64 39]) (ok := fun _ => True) (okp := fun _ => True) ?hr ?hp (fun _ hk => hk) trivial (Below.refl _ _) (Nat.le_refl _) (by simp) ?_; (case hd => rfl); (case hg => rfl); (case hr => first | (go_simp; done) | (go_simp; rfl)); (case hp => exact (Reps.one (show Kd.M (Kd.int .i64) _ _ _ 17 [.int .i64 17] from rfl) (Reps.one (show Kd.M (Kd.int .i64) _ _ _ 21 [.int .i64 21] from rfl) (Reps.one (show Kd.M (Kd.int .i64) _ _ _ 22 [.int .i64 22] from rfl) (Reps.one (show Kd.M (Kd.int .i64) _ _ _ 23 [.int .i64 23] from rfl) (Reps.one (show Kd.M (Kd.int .i64) _ _ _ 25 [.int .i64 25] from rfl) (Reps.one (show Kd.M (Kd.int .i64) _ _ _ 33 [.int .i64 33] from rfl) (Reps.one (show Kd.M (Kd.int .i64) _ _ _ 34 [.int .i64 34] from rfl) (Reps.one (show Kd.M (Kd.int .i64) _ _ _ 38 [.int .i64 38] from rfl) (Reps.one (show Kd.M (Kd.int .i64) _ _ _ 39 [.int .i64 39] from rfl) (Reps.none _ _))))))))))); intro v105 w6 ho7 hb hg_ hnew_; clear hg_ hnew_; (first | rw [← Ny104.out] at ho7 | (simp only [Int.reduceToNat] at ho7; rw [← Ny104.out] at ho7)); have n0_ := Aside0.mk (Kd.R_lower ho7 (below_size zz6)); have n1_ := Aside0.mk (below_step zz6 hb); clear HB; have HO106 := n0_; have HB := n1_; clear n0_ n1_; clear hb ho7))
  go_ret2
  exact ⟨_, zz9, by (with_reducible repeat (first | apply Kd.R_alloc | apply Kd.R_drewN | apply Kd.R_drew)); exact HO106.out, zz6⟩
 rw [if_neg c5] at H; have c5b0 : (a0 == 1) = false := beq_eq_false_iff_ne.mpr c5; have c5b1 : (a0 != 1) = true := bne_iff_ne.mpr c5; by_cases c8 : a0 = 2
 ·
  rw [if_pos c8] at H; have c8b0 : (a0 == 2) = true := beq_iff_eq.mpr c8; have c8b1 : (a0 != 2) = false := bne_eq_false_iff_eq.mpr c8; clear c8; obtain ⟨y107, hy107⟩ : ∃ y_ : List Int, y_ = (([17, 18, 19, 21, 22, 26, 28, 31, 33, 34, 36, 37, 38, 39, 40, 41, 42] : List Int)) := ⟨_, rfl⟩; replace H : (some (y107, true)) = some (r1, r2) := by first | (rw [hy107]; with_reducible exact H) | (have H2_ := (Option.bind_some _ _).symm.trans H; rw [hy107]; with_reducible exact H2_) | (have H2_ := (Option.bind_some _ _).symm.trans H; with_reducible exact H2_) | with_reducible exact H | (rw [hy107]; exact H) | exact H
  have Ny107 := Aside0.mk hy107; clear hy107; simp only [Option.some.injEq, Prod.mk.injEq] at H; obtain ⟨rfl, rfl⟩ := H; go_enter Tryd.func35, Tryd.ntmps35
  go_wp2_with (first | ((with_reducible refine gate_dst (N := 13) rfl ?_); refine Kd.R_lit (Kd.int .i64) _ 3 ?hg (N := 13) ?hd (xs := ([17, 18, 19, 21, 22, 26, 28, 31, 33, 34, 36, 37, 38, 39, 40, 41, 42] : List Int)) (inner := [.int .i64 17, .int .i64 18, .int .i64 19, .int .i64 21, .int .i64 22, .int .i64 26, .int .i64 28, .int .i64 31, .int .i64 33, .int .i64 34, .int .i64 36, .int .i64 37, .int .i64 38, .int .i64 39, .int .i64 40, .int .i64 41, .int .i64 42]) (ok := fun _ => True) (okp := fun _ => True) ?hr ?hp (fun _ hk => hk) trivial (Below.refl _ _) (Nat.le_refl _) (by simp) ?_; (case hd => rfl); (case hg => rfl); (case hr => first | (go_simp; done) | (go_simp; rfl)); (case hp => exact (Reps.one (show Kd.M (Kd.int .i64) _ _ _ 17 [.int .i64 17] from rfl) (Reps.one (show Kd.M (Kd.int .i64) _ _ _ 18 [.int .i64 18] from rfl) (Reps.one (show Kd.M (Kd.int .i64) _ _ _ 19 [.int .i64 19] from rfl) (Reps.one (show Kd.M (Kd.int .i64) _ _ _ 21 [.int .i64 21] from rfl) (Reps.one (show Kd.M (Kd.int .i64) _ _ _ 22 [.int .i64 22] from rfl) (Reps.one (show Kd.M (Kd.int .i64) _ _ _ 26 [.int .i64 26] from rfl) (Reps.one (show Kd.M (Kd.int .i64) _ _ _ 28 [.int .i64 28] from rfl) (Reps.one (show Kd.M (Kd.int .i64) _ _ _ 31 [.int .i64 31] from rfl) (Reps.one (show Kd.M (Kd.int .i64) _ _ _ 33 [.int .i64 33] from rfl) (Reps.one (show Kd.M (Kd.int .i64) _ _ _ 34 [.int .i64 34] from rfl) (Reps.one (show Kd.M (Kd.int .i64) _ _ _ 36 [.int .i64 36] from rfl) (Reps.one (show Kd.M (Kd.int .i64) _ _ _ 37 [.int .i64 37] from rfl) (Reps.one (show Kd.M (Kd.int .i64) _ _ _ 38 [.int .i64 38] from rfl) (Reps.one (show Kd.M (Kd.int .i64) _ _ _ 39 [.int .i64 39] from rfl) (Reps.one (show Kd.M (Kd.int .i64) _ _ _ 40 [.int .i64 40] from rfl) (Reps.one (show Kd.M (Kd.int .i64) _ _ _ 41 [.int .i64 41] from rfl) (Reps.one (show Kd.M (Kd.int .i64) _ _ _ 42 [.int .i64 42] from rfl) (Reps.none _ _))))))))))))))))))); intro v108 w9 ho10 hb hg_ hnew_; clear hg_ hnew_; (first | rw [← Ny107.out] at ho10 | (simp only [Int.reduceToNat] at ho10; rw [← Ny107.out] at ho10)); have n0_ := Aside0.mk (Kd.R_lower ho10 (below_size zz6)); have n1_ := Aside0.mk (below_step zz6 hb); clear HB; have HO109 := n0_; have HB := n1_; clear n0_ n1_; clear hb ho10))
  go_ret2
  exact ⟨_, zz9, by (with_reducible repeat (first | apply Kd.R_alloc | apply Kd.R_drewN | apply Kd.R_drew)); exact HO109.out, zz6⟩
 rw [if_neg c8] at H; have c8b0 : (a0 == 2) = false := beq_eq_false_iff_ne.mpr c8; have c8b1 : (a0 != 2) = true := bne_iff_ne.mpr c8; by_cases c11 : a0 = 3
 ·
  rw [if_pos c11] at H; have c11b0 : (a0 == 3) = true := beq_iff_eq.mpr c11; have c11b1 : (a0 != 3) = false := bne_eq_false_iff_eq.mpr c11; clear c11; obtain ⟨y110, hy110⟩ : ∃ y_ : List Int, y_ = (([1, 2, 3, 8, 9, 11, 35, 38] : List Int)) := ⟨_, rfl⟩; replace H : (some (y110, true)) = some (r1, r2) := by first | (rw [hy110]; with_reducible exact H) | (have H2_ := (Option.bind_some _ _).symm.trans H; rw [hy110]; with_reducible exact H2_) | (have H2_ := (Option.bind_some _ _).symm.trans H; with_reducible exact H2_) | with_reducible exact H | (rw [hy110]; exact H) | exact H
  have Ny110 := Aside0.mk hy110; clear hy110; simp only [Option.some.injEq, Prod.mk.injEq] at H; obtain ⟨rfl, rfl⟩ := H; go_enter Tryd.func35, Tryd.ntmps35
  go_wp2_with (first | ((with_reducible refine gate_dst (N := 16) rfl ?_); refine Kd.R_lit (Kd.int .i64) _ 3 ?hg (N := 16) ?hd (xs := ([1, 2, 3, 8, 9, 11, 35, 38] : List Int)) (inner := [.int .i64 1, .int .i64 2, .int .i64 3, .int .i64 8, .int .i64 9, .int .i64 11, .int .i64 35, .int .i64 38]) (ok := fun _ => True) (okp := fun _ => True) ?hr ?hp (fun _ hk => hk) trivial (Below.refl _ _) (Nat.le_refl _) (by simp) ?_; (case hd => rfl); (case hg => rfl); (case hr => first | (go_simp; done) | (go_simp; rfl)); (case hp => exact (Reps.one (show Kd.M (Kd.int .i64) _ _ _ 1 [.int .i64 1] from rfl) (Reps.one (show Kd.M (Kd.int .i64) _ _ _ 2 [.int .i64 2] from rfl) (Reps.one (show Kd.M (Kd.int .i64) _ _ _ 3 [.int .i64 3] from rfl) (Reps.one (show Kd.M (Kd.int .i64) _ _ _ 8 [.int .i64 8] from rfl) (Reps.one (show Kd.M (Kd.int .i64) _ _ _ 9 [.int .i64 9] from rfl) (Reps.one (show Kd.M (Kd.int .i64) _ _ _ 11 [.int .i64 11] from rfl) (Reps.one (show Kd.M (Kd.int .i64) _ _ _ 35 [.int .i64 35] from rfl) (Reps.one (show Kd.M (Kd.int .i64) _ _ _ 38 [.int .i64 38] from rfl) (Reps.none _ _)))))))))); intro v111 w12 ho13 hb hg_ hnew_; clear hg_ hnew_; (first | rw [← Ny110.out] at ho13 | (simp only [Int.reduceToNat] at ho13; rw [← Ny110.out] at ho13)); have n0_ := Aside0.mk (Kd.R_lower ho13 (below_size zz6)); have n1_ := Aside0.mk (below_step zz6 hb); clear HB; have HO112 := n0_; have HB := n1_; clear n0_ n1_; clear hb ho13))
  go_ret2
  exact ⟨_, zz9, by (with_reducible repeat (first | apply Kd.R_alloc | apply Kd.R_drewN | apply Kd.R_drew)); exact HO112.out, zz6⟩
 rw [if_neg c11] at H; have c11b0 : (a0 == 3) = false := beq_eq_false_iff_ne.mpr c11; have c11b1 : (a0 != 3) = true := bne_iff_ne.mpr c11; have HC14 := Aside0.mk H; clear H; go_enter Tryd.func35, Tryd.ntmps35
 go_upto_if 17 with (fail)
 go_cut [17] (fun v17 wc => ∃ (kq : Nat) (x17_13 : Bool), v17 = .bool x17_13 ∧ Aside0 (prop_stands.j0 kq a0 x17_13 = some (r1, r2)) ∧ Aside0 (kq ≤ k) ∧ Aside0 (Below w.heap.size w wc))
 case first =>
  have H := HC14.out; clear HC14; by_cases c15 : a0 = 4
  ·
   rw [if_pos c15] at H; have c15b0 : (a0 == 4) = true := beq_iff_eq.mpr c15; have c15b1 : (a0 != 4) = false := bne_eq_false_iff_eq.mpr c15; clear c15; (first | rw [c15b0] | (simp only [i64_w, i32_w]; rw [c15b0]) | skip)
   have H' := Aside0.mk H; clear H; go_wp2
   go_meet
   case rel => exact ⟨_, ((a0 == 4)), zz16, H', ⟨zz17⟩, ⟨zz6⟩⟩
  rw [if_neg c15] at H; have c15b0 : (a0 == 4) = false := beq_eq_false_iff_ne.mpr c15; have c15b1 : (a0 != 4) = true := bne_iff_ne.mpr c15; (first | rw [c15b0] | (simp only [i64_w, i32_w]; rw [c15b0]) | skip)
  by_cases c16 : a0 = 5
  ·
   rw [if_pos c16] at H; have c16b0 : (a0 == 5) = true := beq_iff_eq.mpr c16; have c16b1 : (a0 != 5) = false := bne_eq_false_iff_eq.mpr c16; clear c16; have H' := Aside0.mk H; clear H; go_wp2
   go_meet
   case rel => exact ⟨_, ((a0 == 5)), zz16, H', ⟨zz17⟩, ⟨zz6⟩⟩
  rw [if_neg c16] at H; have c16b0 : (a0 == 5) = false := beq_eq_false_iff_ne.mpr c16; have c16b1 : (a0 != 5) = true := bne_iff_ne.mpr c16; by_cases c17 : a0 = 6
  ·
   rw [if_pos c17] at H; have c17b0 : (a0 == 6) = true := beq_iff_eq.mpr c17; have c17b1 : (a0 != 6) = false := bne_eq_false_iff_eq.mpr c17; clear c17; have H' := Aside0.mk H; clear H; go_wp2
   go_meet
   case rel => exact ⟨_, ((a0 == 6)), zz16, H', ⟨zz17⟩, ⟨zz6⟩⟩
  rw [if_neg c17] at H; have c17b0 : (a0 == 6) = false := beq_eq_false_iff_ne.mpr c17; have c17b1 : (a0 != 6) = true := bne_iff_ne.mpr c17; by_cases c18 : a0 = 7
  ·
   rw [if_pos c18] at H; have c18b0 : (a0 == 7) = true := beq_iff_eq.mpr c18; have c18b1 : (a0 != 7) = false := bne_eq_false_iff_eq.mpr c18; clear c18; have H' := Aside0.mk H; clear H; go_wp2
   go_meet
   case rel => exact ⟨_, ((a0 == 7)), zz16, H', ⟨zz17⟩, ⟨zz6⟩⟩
  rw [if_neg c18] at H; have c18b0 : (a0 == 7) = false := beq_eq_false_iff_ne.mpr c18; have c18b1 : (a0 != 7) = true := bne_iff_ne.mpr c18; by_cases c19 : a0 = 9
  ·
   rw [if_pos c19] at H; have c19b0 : (a0 == 9) = true := beq_iff_eq.mpr c19; have c19b1 : (a0 != 9) = false := bne_eq_false_iff_eq.mpr c19; clear c19; have H' := Aside0.mk H; clear H; go_wp2
   go_meet
   case rel => exact ⟨_, ((a0 == 9)), zz16, H', ⟨zz17⟩, ⟨zz6⟩⟩
  rw [if_neg c19] at H; have c19b0 : (a0 == 9) = false := beq_eq_false_iff_ne.mpr c19; have c19b1 : (a0 != 9) = true := bne_iff_ne.mpr c19; have H' := Aside0.mk H; clear H; go_wp2
  go_meet
  case rel => exact ⟨_, ((a0 == 11)), zz16, H', ⟨zz17⟩, ⟨zz6⟩⟩
 case rest =>
  clear HC14; (try clear c1); (try clear c2); (try clear c2b0); (try clear c2b1); (try clear p2); (try clear c3); (try clear c5); (try clear c5b0); (try clear c5b1); (try clear c8); (try clear c8b0); (try clear c8b1); (try clear c11); (try clear c11b0); (try clear c11b1); (try clear c15); (try clear c15b0); (try clear c15b1); (try clear c16); (try clear c16b0); (try clear c16b1); (try clear c17); (try clear c17b0); (try clear c17b1); (try clear c18); (try clear c18b0); (try clear c18b1); (try clear c19); (try clear c19b0); (try clear c19b1); obtain ⟨kq, x17_13, rfl, HA, HJ13, HB⟩ := hcut; cases kq with
  | zero => exact absurd HA.out (by simp [prop_stands.j0])
  | succ kj13 =>
   have H := HA.out; clear HA; simp only [prop_stands.j0] at H; by_cases c20 : x17_13 = true
   ·
    subst c20; have H1 : (some ((([31, 38] : List Int)), true)) = some (r1, r2) := by rw [if_pos rfl] at H; exact H
    clear H; have H := H1; clear H1; obtain ⟨y113, hy113⟩ : ∃ y_ : List Int, y_ = (([31, 38] : List Int)) := ⟨_, rfl⟩; replace H : (some (y113, true)) = some (r1, r2) := by first | (rw [hy113]; with_reducible exact H) | (have H2_ := (Option.bind_some _ _).symm.trans H; rw [hy113]; with_reducible exact H2_) | (have H2_ := (Option.bind_some _ _).symm.trans H; with_reducible exact H2_) | with_reducible exact H | (rw [hy113]; exact H) | exact H
    have Ny113 := Aside0.mk hy113; clear hy113; simp only [Option.some.injEq, Prod.mk.injEq] at H; obtain ⟨rfl, rfl⟩ := H; go_wp2_with (first | ((with_reducible refine gate_dst (N := 24) rfl ?_); refine Kd.R_lit (Kd.int .i64) _ 3 ?hg (N := 24) ?hd (xs := ([31, 38] : List Int)) (inner := [.int .i64 31, .int .i64 38]) (ok := fun _ => True) (okp := fun _ => True) ?hr ?hp (fun _ hk => hk) trivial (Below.refl _ _) (Nat.le_refl _) (by simp) ?_; (case hd => rfl); (case hg => rfl); (case hr => first | (go_simp; done) | (go_simp; rfl)); (case hp => exact (Reps.one (show Kd.M (Kd.int .i64) _ _ _ 31 [.int .i64 31] from rfl) (Reps.one (show Kd.M (Kd.int .i64) _ _ _ 38 [.int .i64 38] from rfl) (Reps.none _ _)))); intro v114 w21 ho22 hb hg_ hnew_; clear hg_ hnew_; (first | rw [← Ny113.out] at ho22 | (simp only [Int.reduceToNat] at ho22; rw [← Ny113.out] at ho22)); have n0_ := Aside0.mk (Kd.R_lower ho22 (below_size zz6)); have n1_ := Aside0.mk (below_step zz6 hb); clear HB; have HO115 := n0_; have HB := n1_; clear n0_ n1_; clear hb ho22))
    go_ret2
    exact ⟨_, zz9, by (with_reducible repeat (first | apply Kd.R_alloc | apply Kd.R_drewN | apply Kd.R_drew)); exact HO115.out, zz6⟩
   replace c20 := Bool.eq_false_iff.mpr c20; subst c20; have H1 : (if a0 = 8 then (some ((([11, 38] : List Int)), true)) else (if a0 = 10 then (some ((([38] : List Int)), true)) else (if a0 = 14 then (some ((([17, 28, 31, 38] : List Int)), true)) else (if a0 = 15 then (some ((([21, 22, 31, 38] : List Int)), true)) else (if a0 = 12 then (some (([] : List Int), true)) else (if a0 = 13 then (some (([] : List Int), true)) else (some (([] : List Int), false)))))))) = some (r1, r2) := by rw [if_neg (show ¬ (false = true) by decide)] at H; exact H
   clear H; have H := H1; clear H1; by_cases c23 : a0 = 8
   ·
    rw [if_pos c23] at H; have c23b0 : (a0 == 8) = true := beq_iff_eq.mpr c23; have c23b1 : (a0 != 8) = false := bne_eq_false_iff_eq.mpr c23; clear c23; obtain ⟨y116, hy116⟩ : ∃ y_ : List Int, y_ = (([11, 38] : List Int)) := ⟨_, rfl⟩; replace H : (some (y116, true)) = some (r1, r2) := by first | (rw [hy116]; with_reducible exact H) | (have H2_ := (Option.bind_some _ _).symm.trans H; rw [hy116]; with_reducible exact H2_) | (have H2_ := (Option.bind_some _ _).symm.trans H; with_reducible exact H2_) | with_reducible exact H | (rw [hy116]; exact H) | exact H
    have Ny116 := Aside0.mk hy116; clear hy116; simp only [Option.some.injEq, Prod.mk.injEq] at H; obtain ⟨rfl, rfl⟩ := H; go_wp2_with (first | ((with_reducible refine gate_dst (N := 27) rfl ?_); refine Kd.R_lit (Kd.int .i64) _ 3 ?hg (N := 27) ?hd (xs := ([11, 38] : List Int)) (inner := [.int .i64 11, .int .i64 38]) (ok := fun _ => True) (okp := fun _ => True) ?hr ?hp (fun _ hk => hk) trivial (Below.refl _ _) (Nat.le_refl _) (by simp) ?_; (case hd => rfl); (case hg => rfl); (case hr => first | (go_simp; done) | (go_simp; rfl)); (case hp => exact (Reps.one (show Kd.M (Kd.int .i64) _ _ _ 11 [.int .i64 11] from rfl) (Reps.one (show Kd.M (Kd.int .i64) _ _ _ 38 [.int .i64 38] from rfl) (Reps.none _ _)))); intro v117 w24 ho25 hb hg_ hnew_; clear hg_ hnew_; (first | rw [← Ny116.out] at ho25 | (simp only [Int.reduceToNat] at ho25; rw [← Ny116.out] at ho25)); have n0_ := Aside0.mk (Kd.R_lower ho25 (below_size zz6)); have n1_ := Aside0.mk (below_step zz6 hb); clear HB; have HO118 := n0_; have HB := n1_; clear n0_ n1_; clear hb ho25))
    go_ret2
    exact ⟨_, zz9, by (with_reducible repeat (first | apply Kd.R_alloc | apply Kd.R_drewN | apply Kd.R_drew)); exact HO118.out, zz6⟩
   rw [if_neg c23] at H; have c23b0 : (a0 == 8) = false := beq_eq_false_iff_ne.mpr c23; have c23b1 : (a0 != 8) = true := bne_iff_ne.mpr c23; by_cases c26 : a0 = 10
   ·
    rw [if_pos c26] at H; have c26b0 : (a0 == 10) = true := beq_iff_eq.mpr c26; have c26b1 : (a0 != 10) = false := bne_eq_false_iff_eq.mpr c26; clear c26; obtain ⟨y119, hy119⟩ : ∃ y_ : List Int, y_ = (([38] : List Int)) := ⟨_, rfl⟩; replace H : (some (y119, true)) = some (r1, r2) := by first | (rw [hy119]; with_reducible exact H) | (have H2_ := (Option.bind_some _ _).symm.trans H; rw [hy119]; with_reducible exact H2_) | (have H2_ := (Option.bind_some _ _).symm.trans H; with_reducible exact H2_) | with_reducible exact H | (rw [hy119]; exact H) | exact H
    have Ny119 := Aside0.mk hy119; clear hy119; simp only [Option.some.injEq, Prod.mk.injEq] at H; obtain ⟨rfl, rfl⟩ := H; go_wp2_with (first | ((with_reducible refine gate_dst (N := 30) rfl ?_); refine Kd.R_lit (Kd.int .i64) _ 3 ?hg (N := 30) ?hd (xs := ([38] : List Int)) (inner := [.int .i64 38]) (ok := fun _ => True) (okp := fun _ => True) ?hr ?hp (fun _ hk => hk) trivial (Below.refl _ _) (Nat.le_refl _) (by simp) ?_; (case hd => rfl); (case hg => rfl); (case hr => first | (go_simp; done) | (go_simp; rfl)); (case hp => exact (Reps.one (show Kd.M (Kd.int .i64) _ _ _ 38 [.int .i64 38] from rfl) (Reps.none _ _))); intro v120 w27 ho28 hb hg_ hnew_; clear hg_ hnew_; (first | rw [← Ny119.out] at ho28 | (simp only [Int.reduceToNat] at ho28; rw [← Ny119.out] at ho28)); have n0_ := Aside0.mk (Kd.R_lower ho28 (below_size zz6)); have n1_ := Aside0.mk (below_step zz6 hb); clear HB; have HO121 := n0_; have HB := n1_; clear n0_ n1_; clear hb ho28))
    go_ret2
    exact ⟨_, zz9, by (with_reducible repeat (first | apply Kd.R_alloc | apply Kd.R_drewN | apply Kd.R_drew)); exact HO121.out, zz6⟩
   rw [if_neg c26] at H; have c26b0 : (a0 == 10) = false := beq_eq_false_iff_ne.mpr c26; have c26b1 : (a0 != 10) = true := bne_iff_ne.mpr c26; by_cases c29 : a0 = 14
   ·
    rw [if_pos c29] at H; have c29b0 : (a0 == 14) = true := beq_iff_eq.mpr c29; have c29b1 : (a0 != 14) = false := bne_eq_false_iff_eq.mpr c29; clear c29; obtain ⟨y122, hy122⟩ : ∃ y_ : List Int, y_ = (([17, 28, 31, 38] : List Int)) := ⟨_, rfl⟩; replace H : (some (y122, true)) = some (r1, r2) := by first | (rw [hy122]; with_reducible exact H) | (have H2_ := (Option.bind_some _ _).symm.trans H; rw [hy122]; with_reducible exact H2_) | (have H2_ := (Option.bind_some _ _).symm.trans H; with_reducible exact H2_) | with_reducible exact H | (rw [hy122]; exact H) | exact H
    have Ny122 := Aside0.mk hy122; clear hy122; simp only [Option.some.injEq, Prod.mk.injEq] at H; obtain ⟨rfl, rfl⟩ := H; go_wp2_with (first | ((with_reducible refine gate_dst (N := 33) rfl ?_); refine Kd.R_lit (Kd.int .i64) _ 3 ?hg (N := 33) ?hd (xs := ([17, 28, 31, 38] : List Int)) (inner := [.int .i64 17, .int .i64 28, .int .i64 31, .int .i64 38]) (ok := fun _ => True) (okp := fun _ => True) ?hr ?hp (fun _ hk => hk) trivial (Below.refl _ _) (Nat.le_refl _) (by simp) ?_; (case hd => rfl); (case hg => rfl); (case hr => first | (go_simp; done) | (go_simp; rfl)); (case hp => exact (Reps.one (show Kd.M (Kd.int .i64) _ _ _ 17 [.int .i64 17] from rfl) (Reps.one (show Kd.M (Kd.int .i64) _ _ _ 28 [.int .i64 28] from rfl) (Reps.one (show Kd.M (Kd.int .i64) _ _ _ 31 [.int .i64 31] from rfl) (Reps.one (show Kd.M (Kd.int .i64) _ _ _ 38 [.int .i64 38] from rfl) (Reps.none _ _)))))); intro v123 w30 ho31 hb hg_ hnew_; clear hg_ hnew_; (first | rw [← Ny122.out] at ho31 | (simp only [Int.reduceToNat] at ho31; rw [← Ny122.out] at ho31)); have n0_ := Aside0.mk (Kd.R_lower ho31 (below_size zz6)); have n1_ := Aside0.mk (below_step zz6 hb); clear HB; have HO124 := n0_; have HB := n1_; clear n0_ n1_; clear hb ho31))
    go_ret2
    exact ⟨_, zz9, by (with_reducible repeat (first | apply Kd.R_alloc | apply Kd.R_drewN | apply Kd.R_drew)); exact HO124.out, zz6⟩
   rw [if_neg c29] at H; have c29b0 : (a0 == 14) = false := beq_eq_false_iff_ne.mpr c29; have c29b1 : (a0 != 14) = true := bne_iff_ne.mpr c29; by_cases c32 : a0 = 15
   ·
    rw [if_pos c32] at H; have c32b0 : (a0 == 15) = true := beq_iff_eq.mpr c32; have c32b1 : (a0 != 15) = false := bne_eq_false_iff_eq.mpr c32; clear c32; obtain ⟨y125, hy125⟩ : ∃ y_ : List Int, y_ = (([21, 22, 31, 38] : List Int)) := ⟨_, rfl⟩; replace H : (some (y125, true)) = some (r1, r2) := by first | (rw [hy125]; with_reducible exact H) | (have H2_ := (Option.bind_some _ _).symm.trans H; rw [hy125]; with_reducible exact H2_) | (have H2_ := (Option.bind_some _ _).symm.trans H; with_reducible exact H2_) | with_reducible exact H | (rw [hy125]; exact H) | exact H
    have Ny125 := Aside0.mk hy125; clear hy125; simp only [Option.some.injEq, Prod.mk.injEq] at H; obtain ⟨rfl, rfl⟩ := H; go_wp2_with (first | ((with_reducible refine gate_dst (N := 36) rfl ?_); refine Kd.R_lit (Kd.int .i64) _ 3 ?hg (N := 36) ?hd (xs := ([21, 22, 31, 38] : List Int)) (inner := [.int .i64 21, .int .i64 22, .int .i64 31, .int .i64 38]) (ok := fun _ => True) (okp := fun _ => True) ?hr ?hp (fun _ hk => hk) trivial (Below.refl _ _) (Nat.le_refl _) (by simp) ?_; (case hd => rfl); (case hg => rfl); (case hr => first | (go_simp; done) | (go_simp; rfl)); (case hp => exact (Reps.one (show Kd.M (Kd.int .i64) _ _ _ 21 [.int .i64 21] from rfl) (Reps.one (show Kd.M (Kd.int .i64) _ _ _ 22 [.int .i64 22] from rfl) (Reps.one (show Kd.M (Kd.int .i64) _ _ _ 31 [.int .i64 31] from rfl) (Reps.one (show Kd.M (Kd.int .i64) _ _ _ 38 [.int .i64 38] from rfl) (Reps.none _ _)))))); intro v126 w33 ho34 hb hg_ hnew_; clear hg_ hnew_; (first | rw [← Ny125.out] at ho34 | (simp only [Int.reduceToNat] at ho34; rw [← Ny125.out] at ho34)); have n0_ := Aside0.mk (Kd.R_lower ho34 (below_size zz6)); have n1_ := Aside0.mk (below_step zz6 hb); clear HB; have HO127 := n0_; have HB := n1_; clear n0_ n1_; clear hb ho34))
    go_ret2
    exact ⟨_, zz9, by (with_reducible repeat (first | apply Kd.R_alloc | apply Kd.R_drewN | apply Kd.R_drew)); exact HO127.out, zz6⟩
   rw [if_neg c32] at H; have c32b0 : (a0 == 15) = false := beq_eq_false_iff_ne.mpr c32; have c32b1 : (a0 != 15) = true := bne_iff_ne.mpr c32; by_cases c35 : a0 = 12
   ·
    rw [if_pos c35] at H; have c35b0 : (a0 == 12) = true := beq_iff_eq.mpr c35; have c35b1 : (a0 != 12) = false := bne_eq_false_iff_eq.mpr c35; clear c35; simp only [Option.some.injEq, Prod.mk.injEq] at H; obtain ⟨rfl, rfl⟩ := H; go_wp2
    go_ret2
    exact ⟨_, zz9, zz4, zz6⟩
   rw [if_neg c35] at H; have c35b0 : (a0 == 12) = false := beq_eq_false_iff_ne.mpr c35; have c35b1 : (a0 != 12) = true := bne_iff_ne.mpr c35; by_cases c36 : a0 = 13
   ·
    rw [if_pos c36] at H; have c36b0 : (a0 == 13) = true := beq_iff_eq.mpr c36; have c36b1 : (a0 != 13) = false := bne_eq_false_iff_eq.mpr c36; clear c36; simp only [Option.some.injEq, Prod.mk.injEq] at H; obtain ⟨rfl, rfl⟩ := H; go_wp2
    go_ret2
    exact ⟨_, zz9, zz4, zz6⟩
   rw [if_neg c36] at H; have c36b0 : (a0 == 13) = false := beq_eq_false_iff_ne.mpr c36; have c36b1 : (a0 != 13) = true := bne_iff_ne.mpr c36; simp only [Option.some.injEq, Prod.mk.injEq] at H; obtain ⟨rfl, rfl⟩ := H; go_wp2
   go_ret2
   exact ⟨_, zz9, zz4, zz6⟩
def slices_Index_int_int.l0 : Nat → List Int → Int → Int → Int → Option (Int)
  | 0, _, _, _, _ => none
  | k + 1, x0, x1, x7, x8 => if x8 < x7 then (if 0 ≤ x8 then (if x8 < (x0.length : Int) then (if x1 = (rd x0 x8) then (some x8) else (slices_Index_int_int.l0 k x0 x1 x7 (wrap64 (x8 + 1)))) else (none)) else (none)) else (some (-1))
def slices_Index_int_int.f (k : Nat) (l0 : List Int) (a1 : Int) : Option (Int) := slices_Index_int_int.l0 k l0 a1 (l0.length : Int) 0
theorem slices_Index_int_int.mono_l : ∀ k, (∀ y0 y1 y2 y3, LeO (slices_Index_int_int.l0 k y0 y1 y2 y3) (slices_Index_int_int.l0 (k + 1) y0 y1 y2 y3))
 | 0 => fun _ _ _ _ r h => by simp [slices_Index_int_int.l0] at h
 | k + 1 => by
  have ih0 := slices_Index_int_int.mono_l k
  ·
   intro y0 y1 y2 y3
   unfold slices_Index_int_int.l0; repeat' first
   | (with_reducible exact ih0 _ _ _ _)
   | (with_reducible exact LeO.refl _)
   | (with_reducible exact LeO.none _)
   | (with_reducible refine LeO.ite ?_ ?_)
   | (with_reducible refine LeO.bind ?_ (fun _ => ?_))
   | exact ih0 _ _ _ _
   | exact LeO.none _
   | refine LeO.ite ?_ ?_
   | refine LeO.bind ?_ (fun _ => ?_)
theorem slices_Index_int_int.mono : ∀ a0 a1 k, LeO (slices_Index_int_int.f k a0 a1) (slices_Index_int_int.f (k + 1) a0 a1) := by
 intro a0 a1 k
 have ih0 := slices_Index_int_int.mono_l k; unfold slices_Index_int_int.f; repeat' first
   | (with_reducible exact ih0 _ _ _ _)
   | (with_reducible exact LeO.refl _)
   | (with_reducible exact LeO.none _)
   | (with_reducible refine LeO.ite ?_ ?_)
   | (with_reducible refine LeO.bind ?_ (fun _ => ?_))
   | exact ih0 _ _ _ _
   | exact LeO.none _
   | refine LeO.ite ?_ ?_
   | refine LeO.bind ?_ (fun _ => ?_)
set_option maxHeartbeats 8000000 in
set_option maxRecDepth 100000 in
theorem slices_Index_int_int.calls (k : Nat) (A0 : Option Addr) (c0 : Nat) (l0 : List Int) (a1 : Int) (r : Int) (w : World) (hr0 : Kd.C (Kd.int .i64) w A0 l0.length l0) (hc0 : l0.length ≤ c0) (h : slices_Index_int_int.f k l0 a1 = some r) :
  Calls Tryd.prog 65 #[.slice A0 l0.length c0, .int .i64 a1] w fun e w' => e = .returned (.int .i64 r) ∧ Drawn0 w w' := by
 have HR0 := Aside0.mk hr0; have HC0 := Aside0.mk hc0; clear hr0 hc0; have H : (slices_Index_int_int.l0 k l0 a1 (l0.length : Int) 0) = some r := h; clear h; have H' := Aside0.mk H; clear H; go_enter Tryd.func65, Tryd.ntmps65
 go_wp2
 go_loopg [8] k (fun kq v8 w' => ∃ (x8_1 : Int), v8 = .int .i64 x8_1 ∧ Aside0 (slices_Index_int_int.l0 kq l0 a1 (l0.length : Int) x8_1 = some r) ∧ Aside0 (kq ≤ k) ∧ Drawn0 w w')
 case atStart => exact ⟨(0), zz16, H', ⟨Nat.le_refl _⟩, zz14⟩
 case round =>
  clear H'; (try clear p2); obtain ⟨x8_1, rfl, HA, HK1, ⟨m1, rfl⟩⟩ := hrel; cases gk with
  | zero => exact absurd HA.out (by simp [slices_Index_int_int.l0])
  | succ k1 =>
   have H := HA.out; clear HA; simp only [slices_Index_int_int.l0] at H; by_cases c3 : x8_1 < (l0.length : Int)
   ·
    rw [if_pos c3] at H; have c3b0 : decide (x8_1 < (l0.length : Int)) = true := decide_eq_true c3; clear c3; by_cases c4 : 0 ≤ x8_1
    ·
     rw [if_pos c4] at H; have c4b0 : decide (0 ≤ x8_1) = true := decide_eq_true c4; clear c4; by_cases c5 : x8_1 < (l0.length : Int)
     ·
      rw [if_pos c5] at H; have c5b0 : decide (x8_1 < (l0.length : Int)) = true := decide_eq_true c5; clear c5; by_cases c6 : a1 = (rd l0 x8_1)
      ·
       rw [if_pos c6] at H; have c6b0 : (a1 == (rd l0 x8_1)) = true := beq_iff_eq.mpr c6; have c6b1 : (a1 != (rd l0 x8_1)) = false := bne_eq_false_iff_eq.mpr c6; clear c6; obtain rfl := Option.some.inj H; have p128 : 0 ≤ (x8_1 : Int) := of_decide_eq_true zz15; have q128 : x8_1 < (l0.length : Int) := of_decide_eq_true zz15; obtain ⟨ad128, e128, hx128_0⟩ := Kd.at_int HR0.out x8_1 p128 q128; cases e128; replace p128 := eq_true p128; replace q128 := eq_true q128; go_wp2
       go_ret
       exact ⟨zz16, zz14⟩
      rw [if_neg c6] at H; have c6b0 : (a1 == (rd l0 x8_1)) = false := beq_eq_false_iff_ne.mpr c6; have c6b1 : (a1 != (rd l0 x8_1)) = true := bne_iff_ne.mpr c6; have H' := Aside0.mk H; clear H; have p128 : 0 ≤ (x8_1 : Int) := of_decide_eq_true zz15; have q128 : x8_1 < (l0.length : Int) := of_decide_eq_true zz15; obtain ⟨ad128, e128, hx128_0⟩ := Kd.at_int HR0.out x8_1 p128 q128; cases e128; replace p128 := eq_true p128; replace q128 := eq_true q128; go_wp2
      go_roundg k1
      case measure => have := HK1.out; omega
      case rel => exact ⟨(wrap64 (x8_1 + 1)), zz16, H', ⟨by have := HK1.out; omega⟩, zz14⟩
     rw [if_neg c5] at H; exact absurd H (by simp)
    rw [if_neg c4] at H; exact absurd H (by simp)
   rw [if_neg c3] at H; have c3b0 : decide (x8_1 < (l0.length : Int)) = false := decide_eq_false c3; clear c3; obtain rfl := Option.some.inj H; go_wp2
   go_ret
   exact ⟨zz16, zz14⟩
def slices_Contains_int_int.f (k : Nat) (l0 : List Int) (a1 : Int) : Option (Bool) := (slices_Index_int_int.f k l0 a1).bind fun t129 => (some (decide (t129 ≥ 0)))
theorem slices_Contains_int_int.mono : ∀ a0 a1 k, LeO (slices_Contains_int_int.f k a0 a1) (slices_Contains_int_int.f (k + 1) a0 a1) := by
 intro a0 a1 k
 unfold slices_Contains_int_int.f; repeat' first
   | (with_reducible exact slices_Index_int_int.mono _ _ _)
   | (with_reducible exact LeO.refl _)
   | (with_reducible exact LeO.none _)
   | (with_reducible refine LeO.ite ?_ ?_)
   | (with_reducible refine LeO.bind ?_ (fun _ => ?_))
   | exact slices_Index_int_int.mono _ _ _
   | exact LeO.none _
   | refine LeO.ite ?_ ?_
   | refine LeO.bind ?_ (fun _ => ?_)
set_option maxHeartbeats 8000000 in
set_option maxRecDepth 100000 in
theorem slices_Contains_int_int.calls (k : Nat) (A0 : Option Addr) (c0 : Nat) (l0 : List Int) (a1 : Int) (r : Bool) (w : World) (hr0 : Kd.C (Kd.int .i64) w A0 l0.length l0) (hc0 : l0.length ≤ c0) (h : slices_Contains_int_int.f k l0 a1 = some r) :
  Calls Tryd.prog 48 #[.slice A0 l0.length c0, .int .i64 a1] w fun e w' => e = .returned (.bool r) ∧ Drawn0 w w' := by
 have HR0 := Aside0.mk hr0; have HC0 := Aside0.mk hc0; clear hr0 hc0; have H : ((slices_Index_int_int.f k l0 a1).bind fun t129 => (some (decide (t129 ≥ 0)))) = some r := h; clear h; replace H := Option.bind_eq_some_iff.mp H; obtain ⟨t129, A30, H⟩ := H; replace H : (some (decide (t129 ≥ 0))) = some r := H; have A3 := Aside0.mk A30; clear A30; obtain rfl := Option.some.inj H; go_enter Tryd.func48, Tryd.ntmps48
 go_wp2_with (first | ((with_reducible refine gate_callee (f := 65) rfl ?_); refine goesL_ (some 7) rfl rfl Tryd.func65 zz19 rfl #[.slice A0 l0.length c0, .int .i64 a1] rfl zz5 ?_; (with_reducible refine (slices_Index_int_int.calls k _ _ l0 a1 t129 _ ?side1 ?side2 A3.out).mono ?_); (case side1 => repeat (first | exact HR0.out | (with_reducible refine Kd.C_alloc ?_ _) | (with_reducible refine Kd.C_drewN ?_ _) | (with_reducible refine Kd.C_drew ?_))); (case side2 => exact HC0.out); rintro e w' ⟨rfl, ⟨nd, rfl⟩⟩; refine ⟨_, rfl, ?_⟩))
 go_ret
 exact ⟨zz16, zz14⟩
def prop_nought.f (a0 : Int) : Option (Bool) := if a0 = 33 then (some true) else (if a0 = 35 then (some true) else (if a0 = 39 then (some true) else (some (a0 == 11))))
set_option maxHeartbeats 8000000 in
set_option maxRecDepth 100000 in
theorem prop_nought.calls (a0 : Int) (r : Bool) (w : World) (h : prop_nought.f a0 = some r) :
  Calls Tryd.prog 49 #[.int .i64 a0] w fun e w' => e = .returned (.bool r) ∧ Drawn0 w w' := by
 have H : (if a0 = 33 then (some true) else (if a0 = 35 then (some true) else (if a0 = 39 then (some true) else (some (a0 == 11))))) = some r := h; clear h; by_cases c2 : a0 = 33
 ·
  rw [if_pos c2] at H; have c2b0 : (a0 == 33) = true := beq_iff_eq.mpr c2; have c2b1 : (a0 != 33) = false := bne_eq_false_iff_eq.mpr c2; clear c2; obtain rfl := Option.some.inj H; go_enter Tryd.func49, Tryd.ntmps49
  go_wp2
  go_ret
  exact ⟨zz16, zz14⟩
 rw [if_neg c2] at H; have c2b0 : (a0 == 33) = false := beq_eq_false_iff_ne.mpr c2; have c2b1 : (a0 != 33) = true := bne_iff_ne.mpr c2; by_cases c3 : a0 = 35
 ·
  rw [if_pos c3] at H; have c3b0 : (a0 == 35) = true := beq_iff_eq.mpr c3; have c3b1 : (a0 != 35) = false := bne_eq_false_iff_eq.mpr c3; clear c3; obtain rfl := Option.some.inj H; go_enter Tryd.func49, Tryd.ntmps49
  go_wp2
  go_ret
  exact ⟨zz16, zz14⟩
 rw [if_neg c3] at H; have c3b0 : (a0 == 35) = false := beq_eq_false_iff_ne.mpr c3; have c3b1 : (a0 != 35) = true := bne_iff_ne.mpr c3; by_cases c4 : a0 = 39
 ·
  rw [if_pos c4] at H; have c4b0 : (a0 == 39) = true := beq_iff_eq.mpr c4; have c4b1 : (a0 != 39) = false := bne_eq_false_iff_eq.mpr c4; clear c4; obtain rfl := Option.some.inj H; go_enter Tryd.func49, Tryd.ntmps49
  go_wp2
  go_ret
  exact ⟨zz16, zz14⟩
 rw [if_neg c4] at H; have c4b0 : (a0 == 39) = false := beq_eq_false_iff_ne.mpr c4; have c4b1 : (a0 != 39) = true := bne_iff_ne.mpr c4; obtain rfl := Option.some.inj H; go_enter Tryd.func49, Tryd.ntmps49
 go_wp2
 go_ret
 exact ⟨zz16, zz14⟩
end Go.Proofs.YtiancopplinpcaaDoor.P
end
section
namespace Go.Proofs.YtiancopplinpcaaDoor.P
open Go.RowKit Go.Proofs.YtiancopplinpcaaDoorW.PrintWords Go.Proofs.YtiancopplinpcaaDoorW.PrintLast Go.Proofs.YtiancopplinpcaaDoorW.PrintMore
attribute [local go_sem] max2_int min2_int max_two min_two max_three min_three max_four min_four
set_option linter.unusedVariables false
set_option linter.unusedSimpArgs false
mutual
def prop_value.j0 : Nat → Int → Bool → Int → Int → ByteArray → ByteArray → Option (AnyV × Bool)
  | 0, _, _, _, _, _, _ => none
  | k + 1, x4, x23, x131000, x131001, x131002, x131003 => if x23 = true then (some (AnyV.num x131001, decide (x4 > 0))) else (if x131001 = 0 then (if x4 < 5 then (prop_value.j1 k x4 true x131000 x131001 x131002 x131003) else (if x4 = 7 then (prop_value.j1 k x4 false x131000 x131001 x131002 x131003) else (prop_value.j1 k x4 (x131003.toList != ([] : List UInt8)) x131000 x131001 x131002 x131003))) else (prop_value.j1 k x4 true x131000 x131001 x131002 x131003))
def prop_value.j1 : Nat → Int → Bool → Int → Int → ByteArray → ByteArray → Option (AnyV × Bool)
  | 0, _, _, _, _, _, _ => none
  | k + 1, x4, x44, x131000, x131001, x131002, x131003 => if x44 = true then (some (AnyV.no, false)) else (if x4 = 7 then (some (AnyV.two x131002 x131003, true)) else (some (AnyV.str x131002, true)))
end
def prop_value.f (k : Nat) (a0_0 : Int) (a0_1 : Int) (a0_2 : ByteArray) (a0_3 : ByteArray) : Option (AnyV × Bool) := (prop_Kind.f k a0_0).bind fun bt131 => (if bt131.1 < 5 then (if a0_2.toList = ([] : List UInt8) then (prop_value.j0 k bt131.1 (a0_3.toList == ([] : List UInt8)) a0_0 a0_1 a0_2 a0_3) else (prop_value.j0 k bt131.1 false a0_0 a0_1 a0_2 a0_3)) else (prop_value.j0 k bt131.1 false a0_0 a0_1 a0_2 a0_3))
set_option maxHeartbeats 8000000 in
set_option maxRecDepth 100000 in
theorem prop_value.calls (k : Nat) (a0_0 : Int) (a0_1 : Int) (a0_2 : ByteArray) (a0_3 : ByteArray) (r1 : AnyV) (r2 : Bool) (w : World) (h : prop_value.f k a0_0 a0_1 a0_2 a0_3 = some (r1, r2)) :
  Calls Tryd.prog 41 #[.agg #[.int .i64 a0_0, .int .i64 a0_1, .string a0_2, .string a0_3]] w fun e w' => e = .returned (.tuple #[anyW r1, .bool r2]) ∧ Below w.heap.size w w' := by
 have hu42 := Tryd.underlying42; have hu87 := Tryd.underlying87; have HB := Aside0.mk (Below.refl w.heap.size w); have H : ((prop_Kind.f k a0_0).bind fun bt131 => (if bt131.1 < 5 then (if a0_2.toList = ([] : List UInt8) then (prop_value.j0 k bt131.1 (a0_3.toList == ([] : List UInt8)) a0_0 a0_1 a0_2 a0_3) else (prop_value.j0 k bt131.1 false a0_0 a0_1 a0_2 a0_3)) else (prop_value.j0 k bt131.1 false a0_0 a0_1 a0_2 a0_3))) = some (r1, r2) := h; clear h; replace H := Option.bind_eq_some_iff.mp H; obtain ⟨⟨t131, t132⟩, A20, H⟩ := H; replace H : (if t131 < 5 then (if a0_2.toList = ([] : List UInt8) then (prop_value.j0 k t131 (a0_3.toList == ([] : List UInt8)) a0_0 a0_1 a0_2 a0_3) else (prop_value.j0 k t131 false a0_0 a0_1 a0_2 a0_3)) else (prop_value.j0 k t131 false a0_0 a0_1 a0_2 a0_3)) = some (r1, r2) := H; have A2 := Aside0.mk A20; clear A20; have HC3 := Aside0.mk H; clear H; go_enter Tryd.func41, Tryd.ntmps41
 go_upto_region 2 with (first | ((with_reducible refine gate_dst (N := 1) rfl ?_); refine box_event ?hg (N := 1) ?hd (cs := #[.int .i64 a0_0, .int .i64 a0_1, .string a0_2, .string a0_3]) (t := 42) ?hr ?_; (case hd => rfl); (case hg => rfl); (case hr => first | (go_simp; done) | (go_simp; rfl)); intro gb130 hg w4 hbox hb; have n0_ := Aside0.mk (below_step zz6 hb); have n1_ := Aside0.mk (hbox); have n2_ := Aside0.mk ((by rw [hg]; exact (below_size zz6) : w.heap.size ≤ gb130)); have n3_ := Aside0.mk ((by rw [hg]; exact (below_size zz6) : w.heap.size ≤ gb130)); clear HB; have HB := n0_; have BK130 := n1_; have GW130 := n2_; have GE130 := n3_; clear n0_ n1_ n2_ n3_; clear hb hbox hg; have hcz5_0 : w4.cell? ⟨gb130, 0, none⟩ = some (.int .i64 a0_0) := (blk_cell BK130.out 0).trans rfl; have hcz5_1 : w4.cell? ⟨gb130, 1, none⟩ = some (.int .i64 a0_1) := (blk_cell BK130.out 1).trans rfl; have hcz5_2 : w4.cell? ⟨gb130, 2, none⟩ = some (.string a0_2) := (blk_cell BK130.out 2).trans rfl; have hcz5_3 : w4.cell? ⟨gb130, 3, none⟩ = some (.string a0_3) := (blk_cell BK130.out 3).trans rfl; have hfz5_0 := blk_frozen BK130.out 0; have hfz5_1 := blk_frozen BK130.out 1; have hfz5_2 := blk_frozen BK130.out 2; have hfz5_3 := blk_frozen BK130.out 3) | ((with_reducible refine gate_callee (f := 11) rfl ?_); refine goesL_ (some 9) rfl rfl Tryd.func11 zz19 rfl #[.int .i64 a0_0] rfl zz5 ?_; (with_reducible refine (prop_Kind.calls k a0_0 t131 t132 _ A2.out).mono ?_); rintro e w' ⟨rfl, ⟨nd, rfl⟩⟩; refine ⟨_, rfl, ?_⟩))
 (try simp only [Act.put, List.setIfInBounds_toArray, List.set_cons_zero, List.set_cons_succ])
 go_cut [23] (fun v23 wc => ∃ (kq : Nat) (x23_2 : Bool), v23 = .bool x23_2 ∧ Aside0 (prop_value.j0 kq t131 x23_2 a0_0 a0_1 a0_2 a0_3 = some (r1, r2)) ∧ Aside0 (kq ≤ k) ∧ Aside0 (wc.heap[gb130]? = some (.cells #[.int .i64 a0_0, .int .i64 a0_1, .string a0_2, .string a0_3] 42 (0, 0))) ∧ Aside0 (Below w.heap.size w wc))
 case first =>
  have H := HC3.out; clear HC3; by_cases c6 : t131 < 5
  ·
   rw [if_pos c6] at H; have c6b0 : decide (t131 < 5) = true := decide_eq_true c6; clear c6; (first | rw [c6b0] | (simp only [i64_w, i32_w]; rw [c6b0]) | skip)
   by_cases c7 : a0_2.toList = ([] : List UInt8)
   ·
    rw [if_pos c7] at H; have c7b0 : (a0_2.toList == ([] : List UInt8)) = true := beq_iff_eq.mpr c7; have c7b1 : (a0_2.toList != ([] : List UInt8)) = false := bne_eq_false_iff_eq.mpr c7; clear c7; have H' := Aside0.mk H; clear H; have hcz8_0 : w4.cell? ⟨gb130, 0, none⟩ = some (.int .i64 a0_0) := (blk_cell BK130.out 0).trans rfl; have hcz8_1 : w4.cell? ⟨gb130, 1, none⟩ = some (.int .i64 a0_1) := (blk_cell BK130.out 1).trans rfl; have hcz8_2 : w4.cell? ⟨gb130, 2, none⟩ = some (.string a0_2) := (blk_cell BK130.out 2).trans rfl; have hcz8_3 : w4.cell? ⟨gb130, 3, none⟩ = some (.string a0_3) := (blk_cell BK130.out 3).trans rfl; have hfz8_0 := blk_frozen BK130.out 0; have hfz8_1 := blk_frozen BK130.out 1; have hfz8_2 := blk_frozen BK130.out 2; have hfz8_3 := blk_frozen BK130.out 3; go_wp2
    go_meet
    case rel => exact ⟨_, ((a0_3.toList == ([] : List UInt8))), zz16, H', ⟨zz17⟩, ⟨zz7⟩, ⟨zz2⟩⟩
   rw [if_neg c7] at H; have c7b0 : (a0_2.toList == ([] : List UInt8)) = false := beq_eq_false_iff_ne.mpr c7; have c7b1 : (a0_2.toList != ([] : List UInt8)) = true := bne_iff_ne.mpr c7; have H' := Aside0.mk H; clear H; have hcz9_0 : w4.cell? ⟨gb130, 0, none⟩ = some (.int .i64 a0_0) := (blk_cell BK130.out 0).trans rfl; have hcz9_1 : w4.cell? ⟨gb130, 1, none⟩ = some (.int .i64 a0_1) := (blk_cell BK130.out 1).trans rfl; have hcz9_2 : w4.cell? ⟨gb130, 2, none⟩ = some (.string a0_2) := (blk_cell BK130.out 2).trans rfl; have hcz9_3 : w4.cell? ⟨gb130, 3, none⟩ = some (.string a0_3) := (blk_cell BK130.out 3).trans rfl; have hfz9_0 := blk_frozen BK130.out 0; have hfz9_1 := blk_frozen BK130.out 1; have hfz9_2 := blk_frozen BK130.out 2; have hfz9_3 := blk_frozen BK130.out 3; go_wp2
   go_meet
   case rel => exact ⟨_, (false), zz16, H', ⟨zz17⟩, ⟨zz7⟩, ⟨zz2⟩⟩
  rw [if_neg c6] at H; have c6b0 : decide (t131 < 5) = false := decide_eq_false c6; clear c6; (first | rw [c6b0] | (simp only [i64_w, i32_w]; rw [c6b0]) | skip)
  have H' := Aside0.mk H; clear H; go_wp2
  go_meet
  case rel => exact ⟨_, (false), zz16, H', ⟨zz17⟩, ⟨zz7⟩, ⟨zz2⟩⟩
 case rest =>
  as_aux_lemma =>
   clear HC3; (try clear c1); (try clear p2); (try clear c4); (try clear c6); (try clear c6b0); (try clear c7); (try clear c7b0); (try clear c7b1); (try clear hcz5_0); (try clear hcz5_1); (try clear hcz5_2); (try clear hcz5_3); (try clear hcz8_0); (try clear hcz8_1); (try clear hcz8_2); (try clear hcz8_3); (try clear hcz9_0); (try clear hcz9_1); (try clear hcz9_2); (try clear hcz9_3); (try clear hfz5_0); (try clear hfz5_1); (try clear hfz5_2); (try clear hfz5_3); (try clear hfz8_0); (try clear hfz8_1); (try clear hfz8_2); (try clear hfz8_3); (try clear hfz9_0); (try clear hfz9_1); (try clear hfz9_2); (try clear hfz9_3); obtain ⟨kq, x23_2, rfl, HA, HJ2, BK130, HB⟩ := hcut; cases kq with
   | zero => exact absurd HA.out (by simp [prop_value.j0])
   | succ kj2 =>
    have H := HA.out; clear HA; simp only [prop_value.j0] at H; by_cases c10 : x23_2 = true
    ·
     subst c10; have H1 : (some (AnyV.num a0_1, decide (t131 > 0))) = some (r1, r2) := by rw [if_pos rfl] at H; exact H
     clear H; have H := H1; clear H1; simp only [Option.some.injEq, Prod.mk.injEq] at H; obtain ⟨rfl, rfl⟩ := H; have hcz11_0 : wc.cell? ⟨gb130, 0, none⟩ = some (.int .i64 a0_0) := (blk_cell BK130.out 0).trans rfl; have hcz11_1 : wc.cell? ⟨gb130, 1, none⟩ = some (.int .i64 a0_1) := (blk_cell BK130.out 1).trans rfl; have hcz11_2 : wc.cell? ⟨gb130, 2, none⟩ = some (.string a0_2) := (blk_cell BK130.out 2).trans rfl; have hcz11_3 : wc.cell? ⟨gb130, 3, none⟩ = some (.string a0_3) := (blk_cell BK130.out 3).trans rfl; have hfz11_0 := blk_frozen BK130.out 0; have hfz11_1 := blk_frozen BK130.out 1; have hfz11_2 := blk_frozen BK130.out 2; have hfz11_3 := blk_frozen BK130.out 3; go_wp2
     go_ret2
     exact ⟨zz9, zz2⟩
    replace c10 := Bool.eq_false_iff.mpr c10; subst c10; have H1 : (if a0_1 = 0 then (if t131 < 5 then (prop_value.j1 kj2 t131 true a0_0 a0_1 a0_2 a0_3) else (if t131 = 7 then (prop_value.j1 kj2 t131 false a0_0 a0_1 a0_2 a0_3) else (prop_value.j1 kj2 t131 (a0_3.toList != ([] : List UInt8)) a0_0 a0_1 a0_2 a0_3))) else (prop_value.j1 kj2 t131 true a0_0 a0_1 a0_2 a0_3)) = some (r1, r2) := by rw [if_neg (show ¬ (false = true) by decide)] at H; exact H
    clear H; have H := H1; clear H1; have HC12 := Aside0.mk H; clear H; go_upto_region 4 with (fail)
    go_cut [44] (fun v44 wc => ∃ (kq : Nat) (x44_11 : Bool), v44 = .bool x44_11 ∧ Aside0 (prop_value.j1 kq t131 x44_11 a0_0 a0_1 a0_2 a0_3 = some (r1, r2)) ∧ Aside0 (kq ≤ kj2) ∧ Aside0 (wc.heap[gb130]? = some (.cells #[.int .i64 a0_0, .int .i64 a0_1, .string a0_2, .string a0_3] 42 (0, 0))) ∧ Aside0 (Below w.heap.size w wc))
    case first =>
     have H := HC12.out; clear HC12; by_cases c13 : a0_1 = 0
     ·
      rw [if_pos c13] at H; have c13b0 : (a0_1 == 0) = true := beq_iff_eq.mpr c13; have c13b1 : (a0_1 != 0) = false := bne_eq_false_iff_eq.mpr c13; clear c13; (first | rw [c13b0] | (simp only [i64_w, i32_w]; rw [c13b0]) | skip)
      by_cases c14 : t131 < 5
      ·
       rw [if_pos c14] at H; have c14b0 : decide (t131 < 5) = true := decide_eq_true c14; clear c14; have H' := Aside0.mk H; clear H; have hcz15_0 : wc.cell? ⟨gb130, 0, none⟩ = some (.int .i64 a0_0) := (blk_cell BK130.out 0).trans rfl; have hcz15_1 : wc.cell? ⟨gb130, 1, none⟩ = some (.int .i64 a0_1) := (blk_cell BK130.out 1).trans rfl; have hcz15_2 : wc.cell? ⟨gb130, 2, none⟩ = some (.string a0_2) := (blk_cell BK130.out 2).trans rfl; have hcz15_3 : wc.cell? ⟨gb130, 3, none⟩ = some (.string a0_3) := (blk_cell BK130.out 3).trans rfl; have hfz15_0 := blk_frozen BK130.out 0; have hfz15_1 := blk_frozen BK130.out 1; have hfz15_2 := blk_frozen BK130.out 2; have hfz15_3 := blk_frozen BK130.out 3; go_wp2
       go_meet
       case rel => exact ⟨_, (true), zz16, H', ⟨by have := HJ2.out; first | omega | exact Nat.le_refl _⟩, ⟨zz7⟩, ⟨zz2⟩⟩
      rw [if_neg c14] at H; have c14b0 : decide (t131 < 5) = false := decide_eq_false c14; clear c14; by_cases c16 : t131 = 7
      ·
       rw [if_pos c16] at H; have c16b0 : (t131 == 7) = true := beq_iff_eq.mpr c16; have c16b1 : (t131 != 7) = false := bne_eq_false_iff_eq.mpr c16; clear c16; have H' := Aside0.mk H; clear H; have hcz17_0 : wc.cell? ⟨gb130, 0, none⟩ = some (.int .i64 a0_0) := (blk_cell BK130.out 0).trans rfl; have hcz17_1 : wc.cell? ⟨gb130, 1, none⟩ = some (.int .i64 a0_1) := (blk_cell BK130.out 1).trans rfl; have hcz17_2 : wc.cell? ⟨gb130, 2, none⟩ = some (.string a0_2) := (blk_cell BK130.out 2).trans rfl; have hcz17_3 : wc.cell? ⟨gb130, 3, none⟩ = some (.string a0_3) := (blk_cell BK130.out 3).trans rfl; have hfz17_0 := blk_frozen BK130.out 0; have hfz17_1 := blk_frozen BK130.out 1; have hfz17_2 := blk_frozen BK130.out 2; have hfz17_3 := blk_frozen BK130.out 3; go_wp2
       go_meet
       case rel => exact ⟨_, (false), zz16, H', ⟨by have := HJ2.out; first | omega | exact Nat.le_refl _⟩, ⟨zz7⟩, ⟨zz2⟩⟩
      rw [if_neg c16] at H; have c16b0 : (t131 == 7) = false := beq_eq_false_iff_ne.mpr c16; have c16b1 : (t131 != 7) = true := bne_iff_ne.mpr c16; have H' := Aside0.mk H; clear H; have hcz18_0 : wc.cell? ⟨gb130, 0, none⟩ = some (.int .i64 a0_0) := (blk_cell BK130.out 0).trans rfl; have hcz18_1 : wc.cell? ⟨gb130, 1, none⟩ = some (.int .i64 a0_1) := (blk_cell BK130.out 1).trans rfl; have hcz18_2 : wc.cell? ⟨gb130, 2, none⟩ = some (.string a0_2) := (blk_cell BK130.out 2).trans rfl; have hcz18_3 : wc.cell? ⟨gb130, 3, none⟩ = some (.string a0_3) := (blk_cell BK130.out 3).trans rfl; have hfz18_0 := blk_frozen BK130.out 0; have hfz18_1 := blk_frozen BK130.out 1; have hfz18_2 := blk_frozen BK130.out 2; have hfz18_3 := blk_frozen BK130.out 3; go_wp2
      go_meet
      case rel => exact ⟨_, ((a0_3.toList != ([] : List UInt8))), (by first | rfl | (simp; done) | (simp [*]; done) | (simp [isEmpty_bne]; done)), H', ⟨by have := HJ2.out; first | omega | exact Nat.le_refl _⟩, ⟨zz7⟩, ⟨zz2⟩⟩
     rw [if_neg c13] at H; have c13b0 : (a0_1 == 0) = false := beq_eq_false_iff_ne.mpr c13; have c13b1 : (a0_1 != 0) = true := bne_iff_ne.mpr c13; (first | rw [c13b0] | (simp only [i64_w, i32_w]; rw [c13b0]) | skip)
     have H' := Aside0.mk H; clear H; have hcz19_0 : wc.cell? ⟨gb130, 0, none⟩ = some (.int .i64 a0_0) := (blk_cell BK130.out 0).trans rfl; have hcz19_1 : wc.cell? ⟨gb130, 1, none⟩ = some (.int .i64 a0_1) := (blk_cell BK130.out 1).trans rfl; have hcz19_2 : wc.cell? ⟨gb130, 2, none⟩ = some (.string a0_2) := (blk_cell BK130.out 2).trans rfl; have hcz19_3 : wc.cell? ⟨gb130, 3, none⟩ = some (.string a0_3) := (blk_cell BK130.out 3).trans rfl; have hfz19_0 := blk_frozen BK130.out 0; have hfz19_1 := blk_frozen BK130.out 1; have hfz19_2 := blk_frozen BK130.out 2; have hfz19_3 := blk_frozen BK130.out 3; go_wp2
     go_meet
     case rel => exact ⟨_, (true), zz16, H', ⟨by have := HJ2.out; first | omega | exact Nat.le_refl _⟩, ⟨zz7⟩, ⟨zz2⟩⟩
    case rest =>
     as_aux_lemma =>
      clear HC12; (try clear c1); (try clear p2); (try clear c4); (try clear c6); (try clear c6b0); (try clear c7); (try clear c7b0); (try clear c7b1); (try clear c10); (try clear c11); (try clear c13); (try clear c13b0); (try clear c13b1); (try clear c14); (try clear c14b0); (try clear c16); (try clear c16b0); (try clear c16b1); (try clear hcz11_0); (try clear hcz11_1); (try clear hcz11_2); (try clear hcz11_3); (try clear hcz15_0); (try clear hcz15_1); (try clear hcz15_2); (try clear hcz15_3); (try clear hcz17_0); (try clear hcz17_1); (try clear hcz17_2); (try clear hcz17_3); (try clear hcz18_0); (try clear hcz18_1); (try clear hcz18_2); (try clear hcz18_3); (try clear hcz19_0); (try clear hcz19_1); (try clear hcz19_2); (try clear hcz19_3); (try clear hcz5_0); (try clear hcz5_1); (try clear hcz5_2); (try clear hcz5_3); (try clear hcz8_0); (try clear hcz8_1); (try clear hcz8_2); (try clear hcz8_3); (try clear hcz9_0); (try clear hcz9_1); (try clear hcz9_2); (try clear hcz9_3); (try clear hfz11_0); (try clear hfz11_1); (try clear hfz11_2); (try clear hfz11_3); (try clear hfz15_0); (try clear hfz15_1); (try clear hfz15_2); (try clear hfz15_3); (try clear hfz17_0); (try clear hfz17_1); (try clear hfz17_2); (try clear hfz17_3); (try clear hfz18_0); (try clear hfz18_1); (try clear hfz18_2); (try clear hfz18_3); (try clear hfz19_0); (try clear hfz19_1); (try clear hfz19_2); (try clear hfz19_3); (try clear hfz5_0); (try clear hfz5_1); (try clear hfz5_2); (try clear hfz5_3); (try clear hfz8_0); (try clear hfz8_1); (try clear hfz8_2); (try clear hfz8_3); (try clear hfz9_0); (try clear hfz9_1); (try clear hfz9_2); (try clear hfz9_3); (try clear p2); obtain ⟨kq, x44_11, rfl, HA, HJ11, BK130, HB⟩ := hcut; cases kq with
      | zero => exact absurd HA.out (by simp [prop_value.j1])
      | succ kj11 =>
       have H := HA.out; clear HA; simp only [prop_value.j1] at H; by_cases c20 : x44_11 = true
       ·
        subst c20; have H1 : (some (AnyV.no, false)) = some (r1, r2) := by rw [if_pos rfl] at H; exact H
        clear H; have H := H1; clear H1; simp only [Option.some.injEq, Prod.mk.injEq] at H; obtain ⟨rfl, rfl⟩ := H; go_wp2
        go_ret2
        exact ⟨zz9, zz2⟩
       replace c20 := Bool.eq_false_iff.mpr c20; subst c20; have H1 : (if t131 = 7 then (some (AnyV.two a0_2 a0_3, true)) else (some (AnyV.str a0_2, true))) = some (r1, r2) := by rw [if_neg (show ¬ (false = true) by decide)] at H; exact H
       clear H; have H := H1; clear H1; by_cases c21 : t131 = 7
       ·
        rw [if_pos c21] at H; have c21b0 : (t131 == 7) = true := beq_iff_eq.mpr c21; have c21b1 : (t131 != 7) = false := bne_eq_false_iff_eq.mpr c21; clear c21; simp only [Option.some.injEq, Prod.mk.injEq] at H; obtain ⟨rfl, rfl⟩ := H; have hcz22_0 : wc.cell? ⟨gb130, 0, none⟩ = some (.int .i64 a0_0) := (blk_cell BK130.out 0).trans rfl; have hcz22_1 : wc.cell? ⟨gb130, 1, none⟩ = some (.int .i64 a0_1) := (blk_cell BK130.out 1).trans rfl; have hcz22_2 : wc.cell? ⟨gb130, 2, none⟩ = some (.string a0_2) := (blk_cell BK130.out 2).trans rfl; have hcz22_3 : wc.cell? ⟨gb130, 3, none⟩ = some (.string a0_3) := (blk_cell BK130.out 3).trans rfl; have hfz22_0 := blk_frozen BK130.out 0; have hfz22_1 := blk_frozen BK130.out 1; have hfz22_2 := blk_frozen BK130.out 2; have hfz22_3 := blk_frozen BK130.out 3; go_wp2
        go_ret2
        exact ⟨zz9, zz2⟩
       rw [if_neg c21] at H; have c21b0 : (t131 == 7) = false := beq_eq_false_iff_ne.mpr c21; have c21b1 : (t131 != 7) = true := bne_iff_ne.mpr c21; simp only [Option.some.injEq, Prod.mk.injEq] at H; obtain ⟨rfl, rfl⟩ := H; have hcz23_0 : wc.cell? ⟨gb130, 0, none⟩ = some (.int .i64 a0_0) := (blk_cell BK130.out 0).trans rfl; have hcz23_1 : wc.cell? ⟨gb130, 1, none⟩ = some (.int .i64 a0_1) := (blk_cell BK130.out 1).trans rfl; have hcz23_2 : wc.cell? ⟨gb130, 2, none⟩ = some (.string a0_2) := (blk_cell BK130.out 2).trans rfl; have hcz23_3 : wc.cell? ⟨gb130, 3, none⟩ = some (.string a0_3) := (blk_cell BK130.out 3).trans rfl; have hfz23_0 := blk_frozen BK130.out 0; have hfz23_1 := blk_frozen BK130.out 1; have hfz23_2 := blk_frozen BK130.out 2; have hfz23_3 := blk_frozen BK130.out 3; go_wp2
       go_ret2
       exact ⟨zz9, zz2⟩
mutual
def vbi_Num.j0 : Nat → Int → Bool → Option (ByteArray × Int)
  | 0, _, _ => none
  | k + 1, x0, x10 => if x10 = true then (some ((⟨#[]⟩ : ByteArray), 2)) else (vbi_Num.l0 k x0 ([] : List Int))
def vbi_Num.l0 : Nat → Int → List Int → Option (ByteArray × Int)
  | 0, _, _ => none
  | k + 1, x0, x4 => if x0 > 127 then (if x4.length < 140737488355328 then (vbi_Num.l0 k (x0 / 128) (x4 ++ [(Go.bits .or .i64 (Go.bits .and .i64 x0 127) 128) % 256])) else (none)) else (if x4.length < 140737488355328 then (some (strOfNums (x4 ++ [(x0) % 256]), 0)) else (none))
end
def vbi_Num.f (k : Nat) (a0 : Int) : Option (ByteArray × Int) := if a0 < 0 then (vbi_Num.j0 k a0 true) else (vbi_Num.j0 k a0 (decide (a0 > 268435455)))
theorem vbi_Num.mono_l : ∀ k, (∀ y0 y1, LeO (vbi_Num.j0 k y0 y1) (vbi_Num.j0 (k + 1) y0 y1)) ∧ (∀ y0 y1, LeO (vbi_Num.l0 k y0 y1) (vbi_Num.l0 (k + 1) y0 y1))
 | 0 => ⟨fun _ _ r h => by simp [vbi_Num.j0] at h, fun _ _ r h => by simp [vbi_Num.l0] at h⟩
 | k + 1 => by
  obtain ⟨ih0, ih1⟩ := vbi_Num.mono_l k; refine ⟨?_, ?_⟩ <;> intros
  all_goals first | unfold vbi_Num.j0 | unfold vbi_Num.l0
  all_goals repeat' first
   | (with_reducible exact ih0 _ _)
   | (with_reducible exact ih1 _ _)
   | (with_reducible exact LeO.refl _)
   | (with_reducible exact LeO.none _)
   | (with_reducible refine LeO.ite ?_ ?_)
   | (with_reducible refine LeO.bind ?_ (fun _ => ?_))
   | exact ih0 _ _
   | exact ih1 _ _
   | exact LeO.none _
   | refine LeO.ite ?_ ?_
   | refine LeO.bind ?_ (fun _ => ?_)
theorem vbi_Num.mono : ∀ a0 k, LeO (vbi_Num.f k a0) (vbi_Num.f (k + 1) a0) := by
 intro a0 k
 obtain ⟨ih0, ih1⟩ := vbi_Num.mono_l k; unfold vbi_Num.f; repeat' first
   | (with_reducible exact ih0 _ _)
   | (with_reducible exact ih1 _ _)
   | (with_reducible exact LeO.refl _)
   | (with_reducible exact LeO.none _)
   | (with_reducible refine LeO.ite ?_ ?_)
   | (with_reducible refine LeO.bind ?_ (fun _ => ?_))
   | exact ih0 _ _
   | exact ih1 _ _
   | exact LeO.none _
   | refine LeO.ite ?_ ?_
   | refine LeO.bind ?_ (fun _ => ?_)
set_option maxHeartbeats 8000000 in
set_option maxRecDepth 100000 in
theorem vbi_Num.calls (k : Nat) (a0 : Int) (r1 : ByteArray) (r2 : Int) (w : World) (h : vbi_Num.f k a0 = some (r1, r2)) :
  Calls Tryd.prog 29 #[.int .i64 a0] w fun e w' => e = .returned (.tuple #[.string r1, .int .i64 r2]) ∧ Below w.heap.size w w' := by
 have HB := Aside0.mk (Below.refl w.heap.size w); have H : (if a0 < 0 then (vbi_Num.j0 k a0 true) else (vbi_Num.j0 k a0 (decide (a0 > 268435455)))) = some (r1, r2) := h; clear h; have HC2 := Aside0.mk H; clear H; go_enter Tryd.func29, Tryd.ntmps29
 go_upto_region 1 with (fail)
 go_cut [10] (fun v10 wc => ∃ (kq : Nat) (x10_1 : Bool), v10 = .bool x10_1 ∧ Aside0 (vbi_Num.j0 kq a0 x10_1 = some (r1, r2)) ∧ Aside0 (kq ≤ k) ∧ Aside0 (Below w.heap.size w wc))
 case first =>
  have H := HC2.out; clear HC2; by_cases c3 : a0 < 0
  ·
   rw [if_pos c3] at H; have c3b0 : decide (a0 < 0) = true := decide_eq_true c3; clear c3; (first | rw [c3b0] | (simp only [i64_w, i32_w]; rw [c3b0]) | skip)
   have H' := Aside0.mk H; clear H; go_wp2
   go_meet
   case rel => exact ⟨_, (true), zz16, H', ⟨zz17⟩, ⟨zz6⟩⟩
  rw [if_neg c3] at H; have c3b0 : decide (a0 < 0) = false := decide_eq_false c3; clear c3; (first | rw [c3b0] | (simp only [i64_w, i32_w]; rw [c3b0]) | skip)
  have H' := Aside0.mk H; clear H; go_wp2
  go_meet
  case rel => exact ⟨_, (decide (a0 > 268435455)), zz16, H', ⟨zz17⟩, ⟨zz6⟩⟩
 case rest =>
  clear HC2; (try clear c2); (try clear p2); (try clear c3); (try clear c3b0); obtain ⟨kq, x10_1, rfl, HA, HJ1, HB⟩ := hcut; cases kq with
  | zero => exact absurd HA.out (by simp [vbi_Num.j0])
  | succ kj1 =>
   have H := HA.out; clear HA; simp only [vbi_Num.j0] at H; by_cases c4 : x10_1 = true
   ·
    subst c4; have H1 : (some ((⟨#[]⟩ : ByteArray), 2)) = some (r1, r2) := by rw [if_pos rfl] at H; exact H
    clear H; have H := H1; clear H1; simp only [Option.some.injEq, Prod.mk.injEq] at H; obtain ⟨rfl, rfl⟩ := H; go_wp2
    go_ret2
    exact ⟨zz9, zz6⟩
   replace c4 := Bool.eq_false_iff.mpr c4; subst c4; have H1 : (vbi_Num.l0 kj1 a0 ([] : List Int)) = some (r1, r2) := by rw [if_neg (show ¬ (false = true) by decide)] at H; exact H
   clear H; have H := H1; clear H1; have H' := Aside0.mk H; clear H; go_wp2
   go_loopg [0, 4] kj1 (fun kq v0 v4 w' => ∃ (x0_2 : Int) (x4_2 : List Int), v0 = .int .i64 x0_2 ∧ Aside0 (vbi_Num.l0 kq x0_2 x4_2 = some (r1, r2)) ∧ Aside0 (kq ≤ kj1) ∧ Aside0 (Kd.R (Kd.int .u8) 5 w' w.heap.size (fun _ => True) v4 x4_2) ∧ Aside0 (Below w.heap.size w w'))
   case atStart => exact ⟨(a0), (([] : List Int)), zz16, H', ⟨Nat.le_refl _⟩, ⟨zz4⟩, ⟨zz6⟩⟩
   case round =>
    clear H'; (try clear c2); (try clear p2); (try clear c3); (try clear c3b0); (try clear c4); (try clear p2); obtain ⟨x0_2, x4_2, rfl, HA, HK2, HO_4, HB⟩ := hrel; cases gk with
    | zero => exact absurd HA.out (by simp [vbi_Num.l0])
    | succ k2 =>
     have H := HA.out; clear HA; simp only [vbi_Num.l0] at H; by_cases c5 : x0_2 > 127
     ·
      rw [if_pos c5] at H; have c5b0 : decide (127 < x0_2) = true := decide_eq_true c5; clear c5; by_cases c6 : x4_2.length < 140737488355328
      ·
       rw [if_pos c6] at H; have LMc6 := Aside0.mk c6; clear c6; obtain ⟨y133, hy133⟩ : ∃ y_ : List Int, y_ = (x4_2 ++ [(Go.bits .or .i64 (Go.bits .and .i64 x0_2 127) 128) % 256]) := ⟨_, rfl⟩; replace H : (vbi_Num.l0 k2 (x0_2 / 128) y133) = some (r1, r2) := by first | (rw [hy133]; with_reducible exact H) | (have H2_ := (Option.bind_some _ _).symm.trans H; rw [hy133]; with_reducible exact H2_) | (have H2_ := (Option.bind_some _ _).symm.trans H; with_reducible exact H2_) | with_reducible exact H | (rw [hy133]; exact H) | exact H
       have Ny133 := Aside0.mk hy133; clear hy133; have H' := Aside0.mk H; clear H; go_wp2_with (first | ((with_reducible refine gate_builtin (b := .append) (xs := #[.tmp 13, .tmp 18]) rfl ?_); at_builtin; refine Kd.R_append (Kd.int .u8) (w0 := w) w.heap.size rfl (.tmp 13) (.tmp 18) 58 5 (.int .u8 0) 1 rfl Tryd.underlying58 info5 rfl (by decide) (by omega) u4 x4_2 ((Go.bits .or .i64 (Go.bits .and .i64 x0_2 127) 128) % 256) [.int .u8 ((Go.bits .or .i64 (Go.bits .and .i64 x0_2 127) 128) % 256)] (fun _ => True) (fun _ => False) rfl rfl ?aP (fun _ hk => hk.elim) ?aF ?aO ?aB ?aS ?aL ?_; (case aP => exact rfl); (case aB => exact zz6); (case aF => exact (fun _ _ => trivial)); (case aO => exact (by (with_reducible repeat (first | apply Kd.R_alloc | apply Kd.R_drewN | apply Kd.R_drew)); exact HO_4.out)); (case aS => exact (below_size zz6)); (case aL => have := LMc6.out; omega); intro v134 w7 ho hb hg hat; rw [← Ny133.out] at ho; have n0_ := Aside0.mk (hb); have n1_ := Aside0.mk (ho); clear HB; clear HO_4; have HB := n0_; have HO135 := n1_; clear n0_ n1_; clear ho hb hg hat))
       go_roundg k2
       case measure => have := HJ1.out; have := HK2.out; omega
       case rel => exact ⟨(x0_2 / 128), (y133), zz16, H', ⟨by have := HJ1.out; have := HK2.out; omega⟩, ⟨by (with_reducible repeat (first | apply Kd.R_alloc | apply Kd.R_drewN | apply Kd.R_drew)); exact HO135.out⟩, ⟨zz6⟩⟩
      rw [if_neg c6] at H; exact absurd H (by simp)
     rw [if_neg c5] at H; have c5b0 : decide (127 < x0_2) = false := decide_eq_false c5; clear c5; by_cases c8 : x4_2.length < 140737488355328
     ·
      rw [if_pos c8] at H; have LMc8 := Aside0.mk c8; clear c8; obtain ⟨y136, hy136⟩ : ∃ y_ : List Int, y_ = (x4_2 ++ [(x0_2) % 256]) := ⟨_, rfl⟩; replace H : (some (strOfNums y136, 0)) = some (r1, r2) := by first | (rw [hy136]; with_reducible exact H) | (have H2_ := (Option.bind_some _ _).symm.trans H; rw [hy136]; with_reducible exact H2_) | (have H2_ := (Option.bind_some _ _).symm.trans H; with_reducible exact H2_) | with_reducible exact H | (rw [hy136]; exact H) | exact H
      have Ny136 := Aside0.mk hy136; clear hy136; simp only [Option.some.injEq, Prod.mk.injEq] at H; obtain ⟨rfl, rfl⟩ := H; go_wp2_with (first | ((with_reducible refine gate_builtin (b := .append) (xs := #[.tmp 22, .tmp 25]) rfl ?_); at_builtin; refine Kd.R_append (Kd.int .u8) (w0 := w) w.heap.size rfl (.tmp 22) (.tmp 25) 58 5 (.int .u8 0) 1 rfl Tryd.underlying58 info5 rfl (by decide) (by omega) u4 x4_2 ((x0_2) % 256) [.int .u8 ((x0_2) % 256)] (fun _ => True) (fun _ => False) rfl rfl ?aP (fun _ hk => hk.elim) ?aF ?aO ?aB ?aS ?aL ?_; (case aP => exact rfl); (case aB => exact zz6); (case aF => exact (fun _ _ => trivial)); (case aO => exact (by (with_reducible repeat (first | apply Kd.R_alloc | apply Kd.R_drewN | apply Kd.R_drew)); exact HO_4.out)); (case aS => exact (below_size zz6)); (case aL => have := LMc8.out; omega); intro v137 w9 ho hb hg hat; rw [← Ny136.out] at ho; have n0_ := Aside0.mk (hb); have n1_ := Aside0.mk (ho); clear HB; clear HO_4; have HB := n0_; have HO138 := n1_; clear n0_ n1_; clear ho hb hg hat; have hcv10 := own_string (P := Tryd.prog) Tryd.underlying58 Tryd.underlying5 Tryd.underlying9 (Kd.own_of_R HO138.out)))
      go_ret2
      exact ⟨zz9, zz6⟩
     rw [if_neg c8] at H; exact absurd H (by simp)
def prop_within.f (a0 : Int) (a1 : Int) : Option (Int) := if a0 < 0 then (some 2) else (if a0 > a1 then (some 2) else (some 0))
set_option maxHeartbeats 8000000 in
set_option maxRecDepth 100000 in
theorem prop_within.calls (a0 : Int) (a1 : Int) (r : Int) (w : World) (h : prop_within.f a0 a1 = some r) :
  Calls Tryd.prog 55 #[.int .i64 a0, .int .i64 a1] w fun e w' => e = .returned (.int .i64 r) ∧ Drawn0 w w' := by
 have H : (if a0 < 0 then (some 2) else (if a0 > a1 then (some 2) else (some 0))) = some r := h; clear h; by_cases c3 : a0 < 0
 ·
  rw [if_pos c3] at H; have c3b0 : decide (a0 < 0) = true := decide_eq_true c3; clear c3; obtain rfl := Option.some.inj H; go_enter Tryd.func55, Tryd.ntmps55
  go_wp2
  go_ret
  exact ⟨zz16, zz14⟩
 rw [if_neg c3] at H; have c3b0 : decide (a0 < 0) = false := decide_eq_false c3; clear c3; by_cases c4 : a0 > a1
 ·
  rw [if_pos c4] at H; have c4b0 : decide (a1 < a0) = true := decide_eq_true c4; clear c4; obtain rfl := Option.some.inj H; go_enter Tryd.func55, Tryd.ntmps55
  go_wp2
  go_ret
  exact ⟨zz16, zz14⟩
 rw [if_neg c4] at H; have c4b0 : decide (a1 < a0) = false := decide_eq_false c4; clear c4; obtain rfl := Option.some.inj H; go_enter Tryd.func55, Tryd.ntmps55
 go_wp2
 go_ret
 exact ⟨zz16, zz14⟩
end Go.Proofs.YtiancopplinpcaaDoor.P
end
section
namespace Go.Proofs.YtiancopplinpcaaDoor.P
open Go.RowKit Go.Proofs.YtiancopplinpcaaDoorW.PrintWords Go.Proofs.YtiancopplinpcaaDoorW.PrintLast Go.Proofs.YtiancopplinpcaaDoorW.PrintMore
attribute [local go_sem] max2_int min2_int max_two min_two max_three min_three max_four min_four
set_option linter.unusedVariables false
set_option linter.unusedSimpArgs false
mutual
def vbi_high.j0 : Nat → Int → Int → Bool → Option (ByteArray × Int)
  | 0, _, _, _ => none
  | k + 1, x0, x1, x16 => if x16 = true then (some ((⟨#[]⟩ : ByteArray), 2)) else (if 0 ≤ x1 then (if (x1 : Int).toNat ≤ 281474976710656 then ((some (List.replicate (x1 : Int).toNat 0 : List Int)).bind fun y139 => (vbi_high.l0 k x0 x1 y139 (y139.length : Int) 0)) else (none)) else (none))
def vbi_high.l0 : Nat → Int → Int → List Int → Int → Int → Option (ByteArray × Int)
  | 0, _, _, _, _, _ => none
  | k + 1, x0, x1, x6, x20, x21 => if x21 < x20 then (if 0 ≤ (wrap64 (8 * x21)) then (if 0 ≤ (wrap64 ((wrap64 (x1 - 1)) - x21)) then (if (wrap64 ((wrap64 (x1 - 1)) - x21)) < (x6.length : Int) then (vbi_high.l0 k x0 x1 (x6.set ((wrap64 ((wrap64 (x1 - 1)) - x21)) : Int).toNat ((shr .i64 x0 (wrap64 (8 * x21))) % 256)) x20 (wrap64 (x21 + 1))) else (none)) else (none)) else (none)) else (some (strOfNums x6, 0))
end
def vbi_high.f (k : Nat) (a0 : Int) (a1 : Int) : Option (ByteArray × Int) := if a0 < 0 then (vbi_high.j0 k a0 a1 true) else (if 0 ≤ (wrap64 (8 * a1)) then (vbi_high.j0 k a0 a1 ((shr .i64 a0 (wrap64 (8 * a1))) != 0)) else (none))
theorem vbi_high.mono_l : ∀ k, (∀ y0 y1 y2, LeO (vbi_high.j0 k y0 y1 y2) (vbi_high.j0 (k + 1) y0 y1 y2)) ∧ (∀ y0 y1 y2 y3 y4, LeO (vbi_high.l0 k y0 y1 y2 y3 y4) (vbi_high.l0 (k + 1) y0 y1 y2 y3 y4))
 | 0 => ⟨fun _ _ _ r h => by simp [vbi_high.j0] at h, fun _ _ _ _ _ r h => by simp [vbi_high.l0] at h⟩
 | k + 1 => by
  obtain ⟨ih0, ih1⟩ := vbi_high.mono_l k; refine ⟨?_, ?_⟩ <;> intros
  all_goals first | unfold vbi_high.j0 | unfold vbi_high.l0
  all_goals repeat' first
   | (with_reducible exact ih0 _ _ _)
   | (with_reducible exact ih1 _ _ _ _ _)
   | (with_reducible exact LeO.refl _)
   | (with_reducible exact LeO.none _)
   | (with_reducible refine LeO.ite ?_ ?_)
   | (with_reducible refine LeO.bind ?_ (fun _ => ?_))
   | exact ih0 _ _ _
   | exact ih1 _ _ _ _ _
   | exact LeO.none _
   | refine LeO.ite ?_ ?_
   | refine LeO.bind ?_ (fun _ => ?_)
theorem vbi_high.mono : ∀ a0 a1 k, LeO (vbi_high.f k a0 a1) (vbi_high.f (k + 1) a0 a1) := by
 intro a0 a1 k
 obtain ⟨ih0, ih1⟩ := vbi_high.mono_l k; unfold vbi_high.f; repeat' first
   | (with_reducible exact ih0 _ _ _)
   | (with_reducible exact ih1 _ _ _ _ _)
   | (with_reducible exact LeO.refl _)
   | (with_reducible exact LeO.none _)
   | (with_reducible refine LeO.ite ?_ ?_)
   | (with_reducible refine LeO.bind ?_ (fun _ => ?_))
   | exact ih0 _ _ _
   | exact ih1 _ _ _ _ _
   | exact LeO.none _
   | refine LeO.ite ?_ ?_
   | refine LeO.bind ?_ (fun _ => ?_)
set_option maxHeartbeats 8000000 in
set_option maxRecDepth 100000 in
theorem vbi_high.calls (k : Nat) (a0 : Int) (a1 : Int) (r1 : ByteArray) (r2 : Int) (w : World) (h : vbi_high.f k a0 a1 = some (r1, r2)) :
  Calls Tryd.prog 67 #[.int .i64 a0, .int .i64 a1] w fun e w' => e = .returned (.tuple #[.string r1, .int .i64 r2]) ∧ Below w.heap.size w w' := by
 have HB := Aside0.mk (Below.refl w.heap.size w); have H : (if a0 < 0 then (vbi_high.j0 k a0 a1 true) else (if 0 ≤ (wrap64 (8 * a1)) then (vbi_high.j0 k a0 a1 ((shr .i64 a0 (wrap64 (8 * a1))) != 0)) else (none))) = some (r1, r2) := h; clear h; have HC3 := Aside0.mk H; clear H; go_enter Tryd.func67, Tryd.ntmps67
 go_upto_region 1 with (fail)
 go_cut [16] (fun v16 wc => ∃ (kq : Nat) (x16_2 : Bool), v16 = .bool x16_2 ∧ Aside0 (vbi_high.j0 kq a0 a1 x16_2 = some (r1, r2)) ∧ Aside0 (kq ≤ k) ∧ Aside0 (Below w.heap.size w wc))
 case first =>
  have H := HC3.out; clear HC3; by_cases c4 : a0 < 0
  ·
   rw [if_pos c4] at H; have c4b0 : decide (a0 < 0) = true := decide_eq_true c4; clear c4; (first | rw [c4b0] | (simp only [i64_w, i32_w]; rw [c4b0]) | skip)
   have H' := Aside0.mk H; clear H; go_wp2
   go_meet
   case rel => exact ⟨_, (true), zz16, H', ⟨zz17⟩, ⟨zz6⟩⟩
  rw [if_neg c4] at H; have c4b0 : decide (a0 < 0) = false := decide_eq_false c4; clear c4; (first | rw [c4b0] | (simp only [i64_w, i32_w]; rw [c4b0]) | skip)
  obtain ⟨ji5, hji5⟩ : ∃ j_ : Int, (wrap64 (8 * a1)) = j_ := ⟨_, rfl⟩; replace H : (if 0 ≤ (ji5) then (vbi_high.j0 k a0 a1 ((shr .i64 a0 (ji5)) != 0)) else (none)) = some (r1, r2) := by first | (rw [hji5] at H; exact H) | (simp only [hji5] at H ⊢; exact H)
  have hji5w : (IntKind.i64.wrap (8 * a1)) = ji5 := (i64_w _).trans hji5; by_cases c6 : 0 ≤ (ji5)
  ·
   rw [if_pos c6] at H; have c6b0 := eq_true c6; have c6b1 : decide (0 ≤ (ji5)) = true := decide_eq_true c6; clear c6; obtain ⟨ji7, hji7⟩ : ∃ j_ : Int, (shr .i64 a0 (ji5)) = j_ := ⟨_, rfl⟩; replace H : (vbi_high.j0 k a0 a1 ((ji7) != 0)) = some (r1, r2) := by first | (rw [hji7] at H; exact H) | (simp only [hji7] at H ⊢; exact H)
   have hji7_ : (a0 / 2 ^ min (ji5).toNat 64) = ji7 := hji7; have hji7z : (ji5) ≤ 64 → (a0 / 2 ^ (ji5).toNat) = ji7 := shr_small hji7; have H' := Aside0.mk H; clear H; go_wp2
   go_meet
   case rel => exact ⟨_, (((ji7) != 0)), (by first | rfl | (simp; done) | (simp only [← hji7] <;> (first | rfl | simp)) | (simp [*]; done)), H', ⟨zz17⟩, ⟨zz6⟩⟩
  rw [if_neg c6] at H; exact absurd H (by simp)
 case rest =>
  clear HC3; (try clear p2); (try clear c4); (try clear c4b0); (try clear c6); (try clear c6b0); (try clear c6b1); (try clear p6); obtain ⟨kq, x16_2, rfl, HA, HJ2, HB⟩ := hcut; cases kq with
  | zero => exact absurd HA.out (by simp [vbi_high.j0])
  | succ kj2 =>
   have H := HA.out; clear HA; simp only [vbi_high.j0] at H; by_cases c8 : x16_2 = true
   ·
    subst c8; have H1 : (some ((⟨#[]⟩ : ByteArray), 2)) = some (r1, r2) := by rw [if_pos rfl] at H; exact H
    clear H; have H := H1; clear H1; simp only [Option.some.injEq, Prod.mk.injEq] at H; obtain ⟨rfl, rfl⟩ := H; go_wp2
    go_ret2
    exact ⟨zz9, zz6⟩
   replace c8 := Bool.eq_false_iff.mpr c8; subst c8; have H1 : (if 0 ≤ a1 then (if (a1 : Int).toNat ≤ 281474976710656 then ((some (List.replicate (a1 : Int).toNat 0 : List Int)).bind fun y139 => (vbi_high.l0 kj2 a0 a1 y139 (y139.length : Int) 0)) else (none)) else (none)) = some (r1, r2) := by rw [if_neg (show ¬ (false = true) by decide)] at H; exact H
   clear H; have H := H1; clear H1; by_cases c9 : 0 ≤ a1
   ·
    rw [if_pos c9] at H; have c9b0 := eq_true c9; have c9b1 : decide (0 ≤ a1) = true := decide_eq_true c9; clear c9; by_cases c10 : (a1 : Int).toNat ≤ 281474976710656
    ·
     rw [if_pos c10] at H; have c10b0 := eq_true c10; have c10b1 : decide ((a1 : Int).toNat ≤ 281474976710656) = true := decide_eq_true c10; clear c10; obtain ⟨y139, hy139⟩ : ∃ y_ : List Int, y_ = (List.replicate (a1 : Int).toNat 0) := ⟨_, rfl⟩; replace H : (vbi_high.l0 kj2 a0 a1 y139 (y139.length : Int) 0) = some (r1, r2) := by first | (rw [hy139]; with_reducible exact H) | (have H2_ := (Option.bind_some _ _).symm.trans H; rw [hy139]; with_reducible exact H2_) | (have H2_ := (Option.bind_some _ _).symm.trans H; with_reducible exact H2_) | with_reducible exact H | (rw [hy139]; exact H) | exact H
     have Ny139 := Aside0.mk hy139; clear hy139; have H' := Aside0.mk H; clear H; go_wp2_with (first | ((with_reducible refine gate_dst (N := 18) rfl ?_); refine Kd.R_make (Kd.int .u8) _ 5 rfl (N := 18) rfl 58 _ _ rfl a1 rfl rfl Tryd.underlying58 (.int .u8 0) 1 info5 rfl (by decide) (by omega) 0 (ok := fun _ => True) (okp := fun _ => True) rfl (fun _ hk => hk) trivial (of_decide_eq_true zz15) (Nat.le_trans (Nat.mul_le_mul_right _ (of_decide_eq_true zz15 : a1.toNat ≤ 281474976710656)) (by omega)) (Below.refl _ _) (Nat.le_refl _) ?_; intro v140 w11 ho12 hb hg_ hnew_; clear hg_ hnew_; (first | rw [← Ny139.out] at ho12 | (simp only [Int.reduceToNat] at ho12; rw [← Ny139.out] at ho12)); have n0_ := Aside0.mk (Kd.R_lower ho12 (below_size zz6)); have n1_ := Aside0.mk (below_step zz6 hb); clear HB; have HO141 := n0_; have HB := n1_; clear n0_ n1_; clear hb ho12; obtain ⟨Ao13, co13, eo13⟩ := Kd.R_slice HO141.out; subst eo13))
     go_loopg [21] kj2 (fun kq v21 w' => ∃ (x6_2 : List Int) (x21_2 : Int), v21 = .int .i64 x21_2 ∧ Aside0 (vbi_high.l0 kq a0 a1 x6_2 (y139.length : Int) x21_2 = some (r1, r2)) ∧ Aside0 (kq ≤ kj2) ∧ Aside0 (Kd.R (Kd.int .u8) 5 w' w.heap.size (fun _ => True) (.slice Ao13 y139.length co13) x6_2) ∧ Aside0 (Below w.heap.size w w'))
     case atStart => exact ⟨(y139), (0), zz16, H', ⟨Nat.le_refl _⟩, ⟨by (with_reducible repeat (first | apply Kd.R_alloc | apply Kd.R_drewN | apply Kd.R_drew)); exact HO141.out⟩, ⟨zz6⟩⟩
     case round =>
      clear H'; (try clear c1); (try clear p2); (try clear c4); (try clear c4b0); (try clear c6); (try clear c6b0); (try clear c6b1); (try clear p6); (try clear c8); (try clear c9); (try clear c9b0); (try clear c9b1); (try clear c10); (try clear c10b0); (try clear c10b1); (try clear p2); (try clear p6); obtain ⟨x6_2, x21_2, rfl, HA, HK2, HO_6, HB⟩ := hrel; have hl6_2 := (Kd.R_reads' HO_6.out).1; rw [hl6_2] at HO_6; (try simp only [hl6_2])
      cases gk with
      | zero => exact absurd HA.out (by simp [vbi_high.l0])
      | succ k2 =>
       have H := HA.out; clear HA; simp only [vbi_high.l0] at H; by_cases c14 : x21_2 < (y139.length : Int)
       ·
        rw [if_pos c14] at H; have c14b0 : decide (x21_2 < (y139.length : Int)) = true := decide_eq_true c14; (try (have c14b0_hl6_2 := c14b0; simp only [hl6_2] at c14b0_hl6_2))
        clear c14; obtain ⟨ji15, hji15⟩ : ∃ j_ : Int, (wrap64 (8 * x21_2)) = j_ := ⟨_, rfl⟩; replace H : (if 0 ≤ (ji15) then (if 0 ≤ (wrap64 ((wrap64 (a1 - 1)) - x21_2)) then (if (wrap64 ((wrap64 (a1 - 1)) - x21_2)) < (x6_2.length : Int) then (vbi_high.l0 k2 a0 a1 (x6_2.set ((wrap64 ((wrap64 (a1 - 1)) - x21_2)) : Int).toNat ((shr .i64 a0 (ji15)) % 256)) (y139.length : Int) (wrap64 (x21_2 + 1))) else (none)) else (none)) else (none)) = some (r1, r2) := by first | (rw [hji15] at H; exact H) | (simp only [hji15] at H ⊢; exact H)
        have hji15w : (IntKind.i64.wrap (8 * x21_2)) = ji15 := (i64_w _).trans hji15; by_cases c16 : 0 ≤ (ji15)
        ·
         rw [if_pos c16] at H; have c16b0 := eq_true c16; have c16b1 : decide (0 ≤ (ji15)) = true := decide_eq_true c16; clear c16; obtain ⟨ji17, hji17⟩ : ∃ j_ : Int, (shr .i64 a0 (ji15)) = j_ := ⟨_, rfl⟩; replace H : (if 0 ≤ (wrap64 ((wrap64 (a1 - 1)) - x21_2)) then (if (wrap64 ((wrap64 (a1 - 1)) - x21_2)) < (x6_2.length : Int) then (vbi_high.l0 k2 a0 a1 (x6_2.set ((wrap64 ((wrap64 (a1 - 1)) - x21_2)) : Int).toNat ((ji17) % 256)) (y139.length : Int) (wrap64 (x21_2 + 1))) else (none)) else (none)) = some (r1, r2) := by first | (rw [hji17] at H; exact H) | (simp only [hji17] at H ⊢; exact H)
         have hji17_ : (a0 / 2 ^ min (ji15).toNat 64) = ji17 := hji17; have hji17z : (ji15) ≤ 64 → (a0 / 2 ^ (ji15).toNat) = ji17 := shr_small hji17; obtain ⟨ji18, hji18⟩ : ∃ j_ : Int, (wrap64 ((wrap64 (a1 - 1)) - x21_2)) = j_ := ⟨_, rfl⟩; replace H : (if 0 ≤ (ji18) then (if (ji18) < (x6_2.length : Int) then (vbi_high.l0 k2 a0 a1 (x6_2.set ((ji18) : Int).toNat ((ji17) % 256)) (y139.length : Int) (wrap64 (x21_2 + 1))) else (none)) else (none)) = some (r1, r2) := by first | (rw [hji18] at H; exact H) | (simp only [hji18] at H ⊢; exact H)
         have hji18w : (IntKind.i64.wrap ((wrap64 (a1 - 1)) - x21_2)) = ji18 := (i64_w _).trans hji18; by_cases c19 : 0 ≤ (ji18)
         ·
          rw [if_pos c19] at H; have c19b0 : decide (0 ≤ (ji18)) = true := decide_eq_true c19; clear c19; by_cases c20 : (ji18) < (x6_2.length : Int)
          ·
           rw [if_pos c20] at H; have c20b0 : decide ((ji18) < (x6_2.length : Int)) = true := decide_eq_true c20; (try (have c20b0_hl6_2 := c20b0; simp only [hl6_2] at c20b0_hl6_2))
           clear c20; obtain ⟨y142, hy142⟩ : ∃ y_ : List Int, y_ = (x6_2.set ((ji18) : Int).toNat ((ji17) % 256)) := ⟨_, rfl⟩; replace H : (vbi_high.l0 k2 a0 a1 y142 (y139.length : Int) (wrap64 (x21_2 + 1))) = some (r1, r2) := by first | (rw [hy142]; with_reducible exact H) | (have H2_ := (Option.bind_some _ _).symm.trans H; rw [hy142]; with_reducible exact H2_) | (have H2_ := (Option.bind_some _ _).symm.trans H; with_reducible exact H2_) | with_reducible exact H | (rw [hy142]; exact H) | exact H
           have Ny142 := Aside0.mk hy142; clear hy142; have H' := Aside0.mk H; clear H; have p21 : 0 ≤ ((ji18) : Int) := of_decide_eq_true zz15; have q21 : ((ji18) : Int) < ((x6_2.length : Int) : Int) := of_decide_eq_true zz15; obtain ⟨go21, co21, eo21, gb21, gl21, cl21, HG21⟩ := Kd.R_form HO_6.out (by omega); (first | cases eo21 | (injection eo21 with ea_ en_ ec_; (first | subst ea_ | (injection ea_ with ea_; subst ea_)); subst ec_; clear en_))
           have GB21 := Aside0.mk gb21; have GG21 := Aside0.mk HG21; clear gb21 gl21 HG21; obtain ⟨hx21_0, hf21_0⟩ := Kd.R_celln 0 HO_6.out ((ji18) : Int) p21 q21; replace p21 := eq_true p21; replace q21 := eq_true q21; have HP22 := Kd.R_putg HO_6.out ((ji18) : Int) ((ji17) % 256); go_wp2_with (first | ((with_reducible refine gate_store (t := 5) (p := 34) rfl ?_); refine store_event (t := 5) (p := 34) (v := ?vo_w23) (w1 := (wr.setCell ⟨go21, ((ji18) : Int).toNat, none⟩ (.int .u8 ((ji17) % 256)))) ?hg ?ho ?hn ?hr ?_; (case ho => rfl); (case hg => rfl); (case hn => rfl); (case hr => first | (go_simp; done) | (go_simp; rfl)); intro w23 hw; have hg : wr.grownBy w23 (some go21) := (by rw [hw]; exact HP22.2); have hp_ : Kd.R (Kd.int .u8) 5 w23 w.heap.size (fun _ => True) (.slice (some ⟨go21, 0, none⟩) x6_2.length co13) y142 := (by rw [hw, Ny142.out]; exact HP22.1); clear HP22; have n0_ := Aside0.mk (hp_); have n1_ := Aside0.mk ((by rw [hw]; exact below_set (HB.out) GB21.out : Below w.heap.size w w23)); clear HO_6; clear HB; have HO_6 := n0_; have HB := n1_; clear n0_ n1_; clear hg hw hp_))
           (try simp only [← hl6_2])
           go_roundg k2
           case measure => have := HJ2.out; have := HK2.out; omega
           case rel => exact ⟨(y142), (wrap64 (x21_2 + 1)), zz16, H', ⟨by have := HJ2.out; have := HK2.out; omega⟩, ⟨by (try simp only [hl6_2]); (with_reducible repeat (first | apply Kd.R_alloc | apply Kd.R_drewN | apply Kd.R_drew)); exact HO_6.out⟩, ⟨zz6⟩⟩
          rw [if_neg c20] at H; exact absurd H (by simp)
         rw [if_neg c19] at H; exact absurd H (by simp)
        rw [if_neg c16] at H; exact absurd H (by simp)
       rw [if_neg c14] at H; have c14b0 : decide (x21_2 < (y139.length : Int)) = false := decide_eq_false c14; (try (have c14b0_hl6_2 := c14b0; simp only [hl6_2] at c14b0_hl6_2))
       clear c14; simp only [Option.some.injEq, Prod.mk.injEq] at H; obtain ⟨rfl, rfl⟩ := H; have hcv24 := own_string (P := Tryd.prog) Tryd.underlying58 Tryd.underlying5 Tryd.underlying9 (Kd.own_of_R HO_6.out); go_wp2
       go_ret2
       exact ⟨zz9, zz6⟩
    rw [if_neg c10] at H; exact absurd H (by simp)
   rw [if_neg c9] at H; exact absurd H (by simp)
def vbi_Two.f (k : Nat) (a0 : Int) : Option (ByteArray × Int) := (vbi_high.f k a0 2).bind fun bt143 => (some (bt143.1, bt143.2))
theorem vbi_Two.mono : ∀ a0 k, LeO (vbi_Two.f k a0) (vbi_Two.f (k + 1) a0) := by
 intro a0 k
 unfold vbi_Two.f; repeat' first
   | (with_reducible exact vbi_high.mono _ _ _)
   | (with_reducible exact LeO.refl _)
   | (with_reducible exact LeO.none _)
   | (with_reducible refine LeO.ite ?_ ?_)
   | (with_reducible refine LeO.bind ?_ (fun _ => ?_))
   | exact vbi_high.mono _ _ _
   | exact LeO.none _
   | refine LeO.ite ?_ ?_
   | refine LeO.bind ?_ (fun _ => ?_)
set_option maxHeartbeats 8000000 in
set_option maxRecDepth 100000 in
theorem vbi_Two.calls (k : Nat) (a0 : Int) (r1 : ByteArray) (r2 : Int) (w : World) (h : vbi_Two.f k a0 = some (r1, r2)) :
  Calls Tryd.prog 56 #[.int .i64 a0] w fun e w' => e = .returned (.tuple #[.string r1, .int .i64 r2]) ∧ Below w.heap.size w w' := by
 have HB := Aside0.mk (Below.refl w.heap.size w); have H : ((vbi_high.f k a0 2).bind fun bt143 => (some (bt143.1, bt143.2))) = some (r1, r2) := h; clear h; replace H := Option.bind_eq_some_iff.mp H; obtain ⟨⟨t143, t144⟩, A20, H⟩ := H; replace H : (some (t143, t144)) = some (r1, r2) := H; have A2 := Aside0.mk A20; clear A20; simp only [Option.some.injEq, Prod.mk.injEq] at H; obtain ⟨rfl, rfl⟩ := H; go_enter Tryd.func56, Tryd.ntmps56
 go_wp2_with (first | ((with_reducible refine gate_callee (f := 67) rfl ?_); refine goesL_ (some 5) rfl rfl Tryd.func67 zz19 rfl #[.int .i64 a0, .int .i64 2] rfl zz5 ?_; (with_reducible refine (vbi_high.calls k a0 2 t143 t144 _ A2.out).mono ?_); rintro e w3 ⟨rfl, hb⟩; refine ⟨_, rfl, ?_⟩; have n0_ := Aside0.mk (below_step zz6 hb); clear HB; have HB := n0_; clear n0_; (try clear hb); (try clear hb2); (try clear hk); (try clear hi)))
 go_ret2
 exact ⟨zz9, zz6⟩
def vbi_Four.f (k : Nat) (a0 : Int) : Option (ByteArray × Int) := (vbi_high.f k a0 4).bind fun bt145 => (some (bt145.1, bt145.2))
theorem vbi_Four.mono : ∀ a0 k, LeO (vbi_Four.f k a0) (vbi_Four.f (k + 1) a0) := by
 intro a0 k
 unfold vbi_Four.f; repeat' first
   | (with_reducible exact vbi_high.mono _ _ _)
   | (with_reducible exact LeO.refl _)
   | (with_reducible exact LeO.none _)
   | (with_reducible refine LeO.ite ?_ ?_)
   | (with_reducible refine LeO.bind ?_ (fun _ => ?_))
   | exact vbi_high.mono _ _ _
   | exact LeO.none _
   | refine LeO.ite ?_ ?_
   | refine LeO.bind ?_ (fun _ => ?_)
set_option maxHeartbeats 8000000 in
set_option maxRecDepth 100000 in
theorem vbi_Four.calls (k : Nat) (a0 : Int) (r1 : ByteArray) (r2 : Int) (w : World) (h : vbi_Four.f k a0 = some (r1, r2)) :
  Calls Tryd.prog 57 #[.int .i64 a0] w fun e w' => e = .returned (.tuple #[.string r1, .int .i64 r2]) ∧ Below w.heap.size w w' := by
 have HB := Aside0.mk (Below.refl w.heap.size w); have H : ((vbi_high.f k a0 4).bind fun bt145 => (some (bt145.1, bt145.2))) = some (r1, r2) := h; clear h; replace H := Option.bind_eq_some_iff.mp H; obtain ⟨⟨t145, t146⟩, A20, H⟩ := H; replace H : (some (t145, t146)) = some (r1, r2) := H; have A2 := Aside0.mk A20; clear A20; simp only [Option.some.injEq, Prod.mk.injEq] at H; obtain ⟨rfl, rfl⟩ := H; go_enter Tryd.func57, Tryd.ntmps57
 go_wp2_with (first | ((with_reducible refine gate_callee (f := 67) rfl ?_); refine goesL_ (some 5) rfl rfl Tryd.func67 zz19 rfl #[.int .i64 a0, .int .i64 4] rfl zz5 ?_; (with_reducible refine (vbi_high.calls k a0 4 t145 t146 _ A2.out).mono ?_); rintro e w3 ⟨rfl, hb⟩; refine ⟨_, rfl, ?_⟩; have n0_ := Aside0.mk (below_step zz6 hb); clear HB; have HB := n0_; clear n0_; (try clear hb); (try clear hb2); (try clear hk); (try clear hi)))
 go_ret2
 exact ⟨zz9, zz6⟩
def vbi_Bin.f (k : Nat) (a0 : ByteArray) : Option (ByteArray × Int) := if (a0.size : Int) > 1024 then (some ((⟨#[]⟩ : ByteArray), 2)) else ((vbi_Two.f k (a0.size : Int)).bind fun bt147 => (if bt147.1.size + a0.size ≤ 9223372036854775807 then (some (bt147.1 ++ a0, bt147.2)) else (none)))
theorem vbi_Bin.mono : ∀ a0 k, LeO (vbi_Bin.f k a0) (vbi_Bin.f (k + 1) a0) := by
 intro a0 k
 unfold vbi_Bin.f; repeat' first
   | (with_reducible exact vbi_Two.mono _ _)
   | (with_reducible exact LeO.refl _)
   | (with_reducible exact LeO.none _)
   | (with_reducible refine LeO.ite ?_ ?_)
   | (with_reducible refine LeO.bind ?_ (fun _ => ?_))
   | exact vbi_Two.mono _ _
   | exact LeO.none _
   | refine LeO.ite ?_ ?_
   | refine LeO.bind ?_ (fun _ => ?_)
set_option maxHeartbeats 8000000 in
set_option maxRecDepth 100000 in
theorem vbi_Bin.calls (k : Nat) (a0 : ByteArray) (r1 : ByteArray) (r2 : Int) (w : World) (h : vbi_Bin.f k a0 = some (r1, r2)) :
  Calls Tryd.prog 58 #[.string a0] w fun e w' => e = .returned (.tuple #[.string r1, .int .i64 r2]) ∧ Below w.heap.size w w' := by
 have HB := Aside0.mk (Below.refl w.heap.size w); have H : (if (a0.size : Int) > 1024 then (some ((⟨#[]⟩ : ByteArray), 2)) else ((vbi_Two.f k (a0.size : Int)).bind fun bt147 => (if bt147.1.size + a0.size ≤ 9223372036854775807 then (some (bt147.1 ++ a0, bt147.2)) else (none)))) = some (r1, r2) := h; clear h; by_cases c2 : (a0.size : Int) > 1024
 ·
  rw [if_pos c2] at H; have c2b0 : decide (1024 < (a0.size : Int)) = true := decide_eq_true c2; have c2b1 : decide (1024 < a0.size) = true := decide_eq_true (by omega); clear c2; simp only [Option.some.injEq, Prod.mk.injEq] at H; obtain ⟨rfl, rfl⟩ := H; go_enter Tryd.func58, Tryd.ntmps58
  go_wp2
  go_ret2
  exact ⟨zz9, zz6⟩
 rw [if_neg c2] at H; have c2b0 : decide (1024 < (a0.size : Int)) = false := decide_eq_false c2; have c2b1 : decide (1024 < a0.size) = false := decide_eq_false (by omega); clear c2; replace H := Option.bind_eq_some_iff.mp H; obtain ⟨⟨t147, t148⟩, A30, H⟩ := H; replace H : (if t147.size + a0.size ≤ 9223372036854775807 then (some (t147 ++ a0, t148)) else (none)) = some (r1, r2) := H; have A3 := Aside0.mk A30; clear A30; by_cases c4 : t147.size + a0.size ≤ 9223372036854775807
 ·
  rw [if_pos c4] at H; have c4b0 := eq_true c4; have c4b1 : decide (t147.size + a0.size ≤ 9223372036854775807) = true := decide_eq_true c4; try have c4b2 : (9223372036854775807 < t147.size + a0.size) = False := eq_false (Nat.not_lt.2 c4)
  simp only [Option.some.injEq, Prod.mk.injEq] at H; obtain ⟨rfl, rfl⟩ := H; go_enter Tryd.func58, Tryd.ntmps58
  go_wp2_with (first | ((with_reducible refine gate_callee (f := 56) rfl ?_); refine goesL_ (some 12) rfl rfl Tryd.func56 zz19 rfl #[.int .i64 (a0.size : Int)] rfl zz5 ?_; (with_reducible refine (vbi_Two.calls k (a0.size : Int) t147 t148 _ A3.out).mono ?_); rintro e w5 ⟨rfl, hb⟩; refine ⟨_, rfl, ?_⟩; have n0_ := Aside0.mk (below_step zz6 hb); clear HB; have HB := n0_; clear n0_; (try clear hb); (try clear hb2); (try clear hk); (try clear hi)))
  go_ret2
  exact ⟨zz9, zz6⟩
 rw [if_neg c4] at H; exact absurd H (by simp)
mutual
def text_may.j0 : Nat → Int → Bool → Option (Bool)
  | 0, _, _ => none
  | k + 1, x0, x3 => if x3 = true then (some false) else (if x0 ≥ 55296 then (text_may.j1 k x0 (decide (x0 ≤ 57343))) else (text_may.j1 k x0 false))
def text_may.j1 : Nat → Int → Bool → Option (Bool)
  | 0, _, _ => none
  | k + 1, x0, x14 => if x14 = true then (some false) else (if x0 ≥ 64976 then (if x0 ≤ 65007 then (some false) else (some ((Go.bits .and .i32 x0 65534) != 65534))) else (some ((Go.bits .and .i32 x0 65534) != 65534)))
end
def text_may.f (k : Nat) (a0 : Int) : Option (Bool) := if a0 < 32 then (text_may.j0 k a0 (decide (a0 < 32))) else (if a0 ≥ 127 then (if a0 ≤ 159 then (text_may.j0 k a0 (decide (a0 ≤ 159))) else (text_may.j0 k a0 (decide (a0 > 1114111)))) else (text_may.j0 k a0 (decide (a0 > 1114111))))
set_option maxHeartbeats 8000000 in
set_option maxRecDepth 100000 in
theorem text_may.calls (k : Nat) (a0 : Int) (r : Bool) (w : World) (h : text_may.f k a0 = some r) :
  Calls Tryd.prog 71 #[.int .i32 a0] w fun e w' => e = .returned (.bool r) ∧ Drawn0 w w' := by
 have H : (if a0 < 32 then (text_may.j0 k a0 (decide (a0 < 32))) else (if a0 ≥ 127 then (if a0 ≤ 159 then (text_may.j0 k a0 (decide (a0 ≤ 159))) else (text_may.j0 k a0 (decide (a0 > 1114111)))) else (text_may.j0 k a0 (decide (a0 > 1114111))))) = some r := h; clear h; have HC2 := Aside0.mk H; clear H; go_enter Tryd.func71, Tryd.ntmps71
 go_upto_if 3 with (fail)
 go_cut [3] (fun v3 wc => ∃ (kq : Nat) (x3_1 : Bool), v3 = .bool x3_1 ∧ Aside0 (text_may.j0 kq a0 x3_1 = some r) ∧ Aside0 (kq ≤ k) ∧ Drawn0 w wc)
 case first =>
  have H := HC2.out; clear HC2; by_cases c3 : a0 < 32
  ·
   rw [if_pos c3] at H; have c3b0 : decide (a0 < 32) = true := decide_eq_true c3; clear c3; (first | rw [c3b0] | (simp only [i64_w, i32_w]; rw [c3b0]) | skip)
   have H' := Aside0.mk H; clear H; go_wp2
   go_meet
   case rel => exact ⟨_, (decide (a0 < 32)), zz16, H', ⟨zz17⟩, zz14⟩
  rw [if_neg c3] at H; have c3b0 : decide (a0 < 32) = false := decide_eq_false c3; clear c3; (first | rw [c3b0] | (simp only [i64_w, i32_w]; rw [c3b0]) | skip)
  by_cases c4 : a0 ≥ 127
  ·
   rw [if_pos c4] at H; have c4b0 : decide (127 ≤ a0) = true := decide_eq_true c4; clear c4; by_cases c5 : a0 ≤ 159
   ·
    rw [if_pos c5] at H; have c5b0 : decide (a0 ≤ 159) = true := decide_eq_true c5; clear c5; have H' := Aside0.mk H; clear H; go_wp2
    go_meet
    case rel => exact ⟨_, (decide (a0 ≤ 159)), zz16, H', ⟨zz17⟩, zz14⟩
   rw [if_neg c5] at H; have c5b0 : decide (a0 ≤ 159) = false := decide_eq_false c5; clear c5; have H' := Aside0.mk H; clear H; go_wp2
   go_meet
   case rel => exact ⟨_, (decide (a0 > 1114111)), zz16, H', ⟨zz17⟩, zz14⟩
  rw [if_neg c4] at H; have c4b0 : decide (127 ≤ a0) = false := decide_eq_false c4; clear c4; have H' := Aside0.mk H; clear H; go_wp2
  go_meet
  case rel => exact ⟨_, (decide (a0 > 1114111)), zz16, H', ⟨zz17⟩, zz14⟩
 case rest =>
  clear HC2; (try clear p2); (try clear c3); (try clear c3b0); (try clear c4); (try clear c4b0); (try clear c5); (try clear c5b0); obtain ⟨kq, x3_1, rfl, HA, HJ1, ⟨mc1, rfl⟩⟩ := hcut; cases kq with
  | zero => exact absurd HA.out (by simp [text_may.j0])
  | succ kj1 =>
   have H := HA.out; clear HA; simp only [text_may.j0] at H; by_cases c6 : x3_1 = true
   ·
    subst c6; have H1 : (some false) = some r := by rw [if_pos rfl] at H; exact H
    clear H; have H := H1; clear H1; obtain rfl := Option.some.inj H; go_wp2
    go_ret
    exact ⟨zz16, zz14⟩
   replace c6 := Bool.eq_false_iff.mpr c6; subst c6; have H1 : (if a0 ≥ 55296 then (text_may.j1 kj1 a0 (decide (a0 ≤ 57343))) else (text_may.j1 kj1 a0 false)) = some r := by rw [if_neg (show ¬ (false = true) by decide)] at H; exact H
   clear H; have H := H1; clear H1; have HC7 := Aside0.mk H; clear H; go_upto_region 5 with (fail)
   go_cut [14] (fun v14 wc => ∃ (kq : Nat) (x14_6 : Bool), v14 = .bool x14_6 ∧ Aside0 (text_may.j1 kq a0 x14_6 = some r) ∧ Aside0 (kq ≤ kj1) ∧ Drawn0 w wc)
   case first =>
    have H := HC7.out; clear HC7; by_cases c8 : a0 ≥ 55296
    ·
     rw [if_pos c8] at H; have c8b0 : decide (55296 ≤ a0) = true := decide_eq_true c8; clear c8; (first | rw [c8b0] | (simp only [i64_w, i32_w]; rw [c8b0]) | skip)
     have H' := Aside0.mk H; clear H; go_wp2
     go_meet
     case rel => exact ⟨_, (decide (a0 ≤ 57343)), zz16, H', ⟨by have := HJ1.out; first | omega | exact Nat.le_refl _⟩, zz14⟩
    rw [if_neg c8] at H; have c8b0 : decide (55296 ≤ a0) = false := decide_eq_false c8; clear c8; (first | rw [c8b0] | (simp only [i64_w, i32_w]; rw [c8b0]) | skip)
    have H' := Aside0.mk H; clear H; go_wp2
    go_meet
    case rel => exact ⟨_, (false), zz16, H', ⟨by have := HJ1.out; first | omega | exact Nat.le_refl _⟩, zz14⟩
   case rest =>
    clear HC7; (try clear c1); (try clear p2); (try clear c3); (try clear c3b0); (try clear c4); (try clear c4b0); (try clear c5); (try clear c5b0); (try clear c6); (try clear c7); (try clear c8); (try clear c8b0); (try clear p2); obtain ⟨kq, x14_6, rfl, HA, HJ6, ⟨mc6, rfl⟩⟩ := hcut; cases kq with
    | zero => exact absurd HA.out (by simp [text_may.j1])
    | succ kj6 =>
     have H := HA.out; clear HA; simp only [text_may.j1] at H; by_cases c9 : x14_6 = true
     ·
      subst c9; have H1 : (some false) = some r := by rw [if_pos rfl] at H; exact H
      clear H; have H := H1; clear H1; obtain rfl := Option.some.inj H; go_wp2
      go_ret
      exact ⟨zz16, zz14⟩
     replace c9 := Bool.eq_false_iff.mpr c9; subst c9; have H1 : (if a0 ≥ 64976 then (if a0 ≤ 65007 then (some false) else (some ((Go.bits .and .i32 a0 65534) != 65534))) else (some ((Go.bits .and .i32 a0 65534) != 65534))) = some r := by rw [if_neg (show ¬ (false = true) by decide)] at H; exact H
     clear H; have H := H1; clear H1; by_cases c10 : a0 ≥ 64976
     ·
      rw [if_pos c10] at H; have c10b0 : decide (64976 ≤ a0) = true := decide_eq_true c10; clear c10; by_cases c11 : a0 ≤ 65007
      ·
       rw [if_pos c11] at H; have c11b0 : decide (a0 ≤ 65007) = true := decide_eq_true c11; clear c11; obtain rfl := Option.some.inj H; go_wp2
       go_ret
       exact ⟨zz16, zz14⟩
      rw [if_neg c11] at H; have c11b0 : decide (a0 ≤ 65007) = false := decide_eq_false c11; clear c11; obtain rfl := Option.some.inj H; go_wp2
      go_ret
      exact ⟨zz16, zz14⟩
     rw [if_neg c10] at H; have c10b0 : decide (64976 ≤ a0) = false := decide_eq_false c10; clear c10; obtain rfl := Option.some.inj H; go_wp2
     go_ret
     exact ⟨zz16, zz14⟩
end Go.Proofs.YtiancopplinpcaaDoor.P
end
