/- The statement PropNumbers, PropTexts, PropPairs: for every input the law answers true, and its argument reads behind the call as it did (part 8 of 14 of the proof). -/
import Derived.Test.YtiancopplinpcaaDoorMPropOne6
import Derived.Laws.RangeAny
import Derived.Lib.OthersKept
import Derived.LoopTactic
import Derived.Lib.Hide
section
theorem zz31 {p : Prop} (h : p := by have : (0 : Int) < (a0.size : Int) := of_decide_eq_true (by first | (with_reducible assumption) | assumption); omega) : p := h
theorem zz17 {p : Prop} (h : p := by rw [← hq_]; exact (by (with_reducible repeat (first | refine blk_drewN ?_ _ | refine blk_drew ?_ | refine blk_alloc ?_ _)); exact BK374.out)) : p := h
theorem zz5 {p : Prop} (h : p := by rw [← hq_]; exact (by repeat (first | (with_reducible first | exact HB.out | apply below_alloc | apply pw_below_drewN | apply below_drew1 | refine below_set ?_ GE374.out) | exact HB.out))) : p := h
theorem zz24 {p : Prop} (h : p := by (with_reducible repeat (first | refine blk_drewN ?_ _ | refine blk_drew ?_ | refine blk_alloc ?_ _)); exact BK374.out) : p := h
theorem zz9 {p : Prop} (h : p := by repeat (first | (with_reducible first | exact HB.out | apply below_alloc | apply pw_below_drewN | apply below_drew1 | refine below_set ?_ GE374.out) | exact HB.out)) : p := h
theorem zz1 {p : Prop} (h : p := by (with_reducible repeat (first | apply Kd.R_alloc | apply Kd.R_drewN | apply Kd.R_drew)); exact (Kd.R_mono (Kd.R_far (p := ⟨gb397, 3, none⟩) (Kd.R_far (p := ⟨gb397, 2, none⟩) (Kd.R_far (p := ⟨gb397, 1, none⟩) (Kd.R_far (p := ⟨gb397, 0, none⟩) (Kd.R_mono HO_4.out (fun k_ hk => (⟨hk, hk.2⟩ : _ ∧ k_ ≠ gb397))) (fun _ hk => hk.2) (.int .i64 t391)) (fun _ hk => hk.2) (.int .i64 t392)) (fun _ hk => hk.2) (.string t393)) (fun _ hk => hk.2) (.string t394)) (fun _ h_ => h_.1))) : p := h
theorem zz10 {p : Prop} (h : p := by repeat (first | (with_reducible first | exact HB.out | apply below_alloc | apply pw_below_drewN | apply below_drew1 | refine below_set ?_ GE397.out) | exact HB.out)) : p := h
namespace Go.Proofs.YtiancopplinpcaaDoor.P
open Go.RowKit Go.Proofs.YtiancopplinpcaaDoorW.PrintWords Go.Proofs.YtiancopplinpcaaDoorW.PrintLast Go.Proofs.YtiancopplinpcaaDoorW.PrintMore
set_option linter.unusedSimpArgs false
set_option linter.unusedVariables false
def mayT (r : Int) : Bool := !(decide (r < 32) || (decide (127 ≤ r) && decide (r ≤ 159)) || decide (1114111 < r) || (decide (55296 ≤ r) && decide (r ≤ 57343)) || (decide (64976 ≤ r) && decide (r ≤ 65007))) && (Go.bits .and .i32 r 65534 != 65534)
theorem may_is (r : Int) : text_may.f 5 r = some (mayT r) := by
  unfold mayT
  simp only [text_may.f, text_may.j0, text_may.j1]
  by_cases h1 : r < 32
  · simp [h1]
  · by_cases h2 : 127 ≤ r
    · by_cases h3 : r ≤ 159
      · simp [h1, h2, h3]
      · by_cases h4 : 1114111 < r
        · simp [h1, h2, h3, h4]
        · by_cases h5 : 55296 ≤ r
          · by_cases h6 : r ≤ 57343
            · simp [h1, h2, h3, h4, h5, h6]
            · by_cases h7 : 64976 ≤ r
              · by_cases h8 : r ≤ 65007
                · simp [h1, h2, h3, h4, h5, h6, h7, h8]
                · simp [h1, h2, h3, h4, h5, h6, h7, h8]
              · simp [h1, h2, h3, h4, h5, h6, h7]
          · have h7 : ¬ 64976 ≤ r := by omega
            simp [h1, h2, h3, h4, h5, h7]
    · have h4 : ¬ 1114111 < r := by omega
      have h5 : ¬ 55296 ≤ r := by omega
      have h7 : ¬ 64976 ≤ r := by omega
      simp [h1, h2, h4, h5, h7]
def wholeT (s : ByteArray) (pos : Nat) : Bool := decide (((Go.Lib.decodeGo (s.extract pos s.size)).2 : Int) > 1)
theorem whole_is (s : ByteArray) (pos : Nat) : text_whole.f (s.extract pos s.size) = some (wholeT s pos) := rfl
def chk (s : ByteArray) : Nat → Nat → Int
  | 0, _ => 0
  | f + 1, pos => if pos < s.size then (if mayT (Utf8.decode s pos).1 = true then (if ((Utf8.decode s pos).1 : Int) = 65533 ∧ wholeT s pos = false then 8 else chk s f (pos + (Utf8.decode s pos).2)) else 8) else 0
theorem chk_end (s : ByteArray) (f pos : Nat) (h : ¬ pos < s.size) : chk s f pos = 0 := by
  cases f with
  | zero => rfl
  | succ f => simp [chk, h]
theorem width_pos (s : ByteArray) (pos : Nat) (h : pos < s.size) : 1 ≤ (Utf8.decode s pos).2 := by
  by_cases ha : (s[pos]'h).toNat < 128
  · rw [decode_ascii s pos h ha]
    exact Nat.le_refl _
  · exact (decode_high s pos h (by omega)).2
def checkT (s : ByteArray) : Int := if s.size > 1024 then 2 else chk s s.size 0
def text_Check.f (a0 : ByteArray) : Option (Int) := some (checkT a0)
theorem iter_below {W w1 : World} {k : Nat} {s : ByteArray} {pos : Nat} (hit : W.heap[k]? = some (.stringIter s pos)) (hb : Below W.heap.size W w1) : w1.heap[k]? = some (.stringIter s pos) :=
  (hb.block k (Array.getElem?_eq_some_iff.1 hit).1).trans hit
set_option maxHeartbeats 4000000 in
set_option maxRecDepth 1000000 in
theorem text_Check.calls (a0 : ByteArray) (r : Int) (w : World) (HLAID : Laid w) (h : text_Check.f a0 = some r) :
    Calls Tryd.prog 68 #[.string a0] w fun e w' => e = .returned (.int .i64 r) ∧ Below w.heap.size w w' := by
  obtain rfl := Option.some.inj h; clear h; by_cases hs : a0.size > 1024
  · have hr : checkT a0 = 2 := by unfold checkT; rw [if_pos hs]
    rw [hr]; clear hr; have hs' : decide (1024 < (a0.size : Int)) = true := by simp; omega
    go_enter Tryd.func68, Tryd.ntmps68
    go_wp2
    go_ret
    exact ⟨rfl, Below.refl _ _⟩
  · have hr : checkT a0 = chk a0 a0.size 0 := by unfold checkT; rw [if_neg hs]
    rw [hr]; clear hr; have hs' : decide (1024 < (a0.size : Int)) = false := by simp; omega
    obtain ⟨R, hR⟩ : ∃ R, R = chk a0 a0.size 0 := ⟨_, rfl⟩; rw [← hR]; have HR := Aside0.mk hR; clear hR; go_enter Tryd.func68, Tryd.ntmps68
    go_wp2
    go_loopw [] (fun wr => ∃ (pos fuel : Nat), wr.heap[w.heap.size]? = some (.stringIter a0 pos) ∧ Aside0 (Below w.heap.size w wr) ∧ Aside0 (R = chk a0 fuel pos) ∧ Aside0 (a0.size ≤ pos + fuel)) (fun wr => a0.size - wr.iterPos w.heap.size)
    case atStart => exact ⟨0, a0.size, World.iter_heap w a0 0, ⟨(Below.refl _ w).alloc (Nat.le_refl _) _⟩, HR, ⟨by omega⟩⟩
    case round =>
      clear HR; obtain ⟨pos, fuel, hit, hbw, hacc, hfu⟩ := hrel; have hsz : w.heap.size < wr.heap.size := (Array.getElem?_eq_some_iff.1 hit).1; by_cases hp : pos < a0.size
      · have hnx : ∀ ty, (Instr.next (.pointer (some ⟨w.heap.size, 0, none⟩)) true ty).run Tryd.prog wr = _ := fun ty => Lib.run_next_any_at wr w.heap.size a0 pos ty hit hp
        have hwd := width_pos a0 pos hp; have hd1 := decode_le a0 pos; have hit2 := Lib.iterAt_heap wr w.heap.size a0 pos (pos + (Utf8.decode a0 pos).2) hit; have hbw2 := Lib.below_iterAt hbw.out (k := w.heap.size) (Nat.le_refl _) a0 (pos + (Utf8.decode a0 pos).2); obtain ⟨f, rfl⟩ : ∃ f, fuel = f + 1 := ⟨fuel - 1, by have := hfu.out; omega⟩; have hstep : ∀ W', Aside0 (Below (wr.iterAt w.heap.size a0 (pos + (Utf8.decode a0 pos).2)).heap.size (wr.iterAt w.heap.size a0 (pos + (Utf8.decode a0 pos).2)) W') → W'.heap[w.heap.size]? = some (.stringIter a0 (pos + (Utf8.decode a0 pos).2)) ∧ Aside0 (Below w.heap.size w W') := by
          intro W' hb
          refine ⟨iter_below hit2 hb.out, ⟨below_weaken hbw2 ?_ hb.out⟩⟩
          rw [Lib.iterAt_size]; omega
        have HS := Lib.hid hstep; clear hstep; have hm := may_is ((Utf8.decode a0 pos).1 : Int); have hn : chk a0 (f + 1) pos = if mayT (Utf8.decode a0 pos).1 = true then (if ((Utf8.decode a0 pos).1 : Int) = 65533 ∧ wholeT a0 pos = false then 8 else chk a0 f (pos + (Utf8.decode a0 pos).2)) else 8 := by
          simp only [chk, hp, if_true]
        have HN := Aside0.mk hn; clear hn; have HW := Aside0.mk (whole_is a0 pos); have HD := Aside0.mk hwd; have HD1 := Aside0.mk hd1; clear hwd hd1; have HIT := Aside0.mk hit; have HIT2 := Aside0.mk hit2; have HL2 : Aside0 (Laid (wr.iterAt w.heap.size a0 (pos + (Utf8.decode a0 pos).2))) := ⟨HLAID.below hbw2⟩; clear hit2 hbw2; have hps : decide ((pos : Int) ≤ (a0.size : Int)) = true := by simp; omega
        cases hmt : mayT ((Utf8.decode a0 pos).1 : Int) with
        | false =>
          rw [hmt] at hm; have HM := Aside0.mk hm; have HMT := Aside0.mk hmt; clear hm hmt; go_wp2_with (first | (go_at_call 71; (with_reducible refine (text_may.calls 5 ((Utf8.decode a0 pos).1 : Int) false _ HM.out).mono ?_); rintro e w' ⟨rfl, ⟨nd, rfl⟩⟩))
          go_ret
          rw [hacc.out, HN.out, HMT.out, if_neg (by decide)]; exact ⟨rfl, (HS.out _ ⟨by repeat (first | exact Below.refl _ _ | apply pw_below_drewN)⟩).2.out⟩
        | true =>
          rw [hmt] at hm; have HM := Aside0.mk hm; have HMT := Aside0.mk hmt; clear hm hmt; by_cases h5 : ((Utf8.decode a0 pos).1 : Int) = 65533
          · have hb5 : (((Utf8.decode a0 pos).1 : Int) == 65533) = true := by rw [h5]; rfl
            have H5 := Aside0.mk h5; clear h5; cases hwt : wholeT a0 pos with
            | false =>
              have HW2 := HW.out; rw [hwt] at HW2; have HWT := Aside0.mk hwt; have HW3 := Aside0.mk HW2; clear HW2 hwt; go_wp2_with (first | (go_at_call 71; (with_reducible refine (text_may.calls 5 ((Utf8.decode a0 pos).1 : Int) true _ HM.out).mono ?_); rintro e w' ⟨rfl, ⟨nd, rfl⟩⟩) | (go_at_call 72; (with_reducible refine (text_whole.calls (a0.extract pos a0.size) false _ ?hl HW3.out).mono ?_); (case hl => exact ⟨HL2.out.out⟩); rintro e W1 ⟨rfl, hb1⟩))
              go_ret
              rw [hacc.out, HN.out, HMT.out, if_pos rfl, HWT.out, if_pos ⟨H5.out, rfl⟩]; exact ⟨rfl, (HS.out _ ⟨by first | exact hb1 | exact (pw_below_drewN (Below.refl _ _) _).trans hb1⟩).2.out⟩
            | true =>
              have HW2 := HW.out; rw [hwt] at HW2; have HWT := Aside0.mk hwt; have HW3 := Aside0.mk HW2; clear HW2 hwt; go_wp2_with (first | (go_at_call 71; (with_reducible refine (text_may.calls 5 ((Utf8.decode a0 pos).1 : Int) true _ HM.out).mono ?_); rintro e w' ⟨rfl, ⟨nd, rfl⟩⟩) | (go_at_call 72; (with_reducible refine (text_whole.calls (a0.extract pos a0.size) true _ ?hl HW3.out).mono ?_); (case hl => exact ⟨HL2.out.out⟩); rintro e W1 ⟨rfl, hb1⟩))
              go_roundw
              case rel =>
                refine ⟨pos + (Utf8.decode a0 pos).2, f, (HS.out _ ⟨by first | exact hb1 | exact (pw_below_drewN (Below.refl _ _) _).trans hb1⟩).1, (HS.out _ ⟨by first | exact hb1 | exact (pw_below_drewN (Below.refl _ _) _).trans hb1⟩).2, ⟨?_⟩, ⟨by have := hfu.out; have := HD.out; omega⟩⟩
                rw [hacc.out, HN.out, HMT.out, if_pos rfl, HWT.out, if_neg (by simp)]
              case measure =>
                simp only [World.iterPos, (HS.out _ ⟨by first | exact hb1 | exact (pw_below_drewN (Below.refl _ _) _).trans hb1⟩).1, HIT.out]; have := HD.out; omega
          · have hb5 : (((Utf8.decode a0 pos).1 : Int) == 65533) = false := by simpa using h5
            have H5 := Aside0.mk h5; clear h5; go_wp2_with (first | (go_at_call 71; (with_reducible refine (text_may.calls 5 ((Utf8.decode a0 pos).1 : Int) true _ HM.out).mono ?_); rintro e w' ⟨rfl, ⟨nd, rfl⟩⟩))
            go_roundw
            case rel =>
              refine ⟨pos + (Utf8.decode a0 pos).2, f, (HS.out _ ⟨by repeat (first | exact Below.refl _ _ | apply pw_below_drewN)⟩).1, (HS.out _ ⟨by repeat (first | exact Below.refl _ _ | apply pw_below_drewN)⟩).2, ⟨?_⟩, ⟨by have := hfu.out; have := HD.out; omega⟩⟩
              rw [hacc.out, HN.out, HMT.out, if_pos rfl, if_neg (by intro h_; exact H5.out h_.1)]
            case measure =>
              have e : ∀ n, ((wr.iterAt w.heap.size a0 (pos + (Utf8.decode a0 pos).2)).drewN n).heap = (wr.iterAt w.heap.size a0 (pos + (Utf8.decode a0 pos).2)).heap := fun _ => rfl
              simp only [World.iterPos, e, (HS.out (wr.iterAt w.heap.size a0 (pos + (Utf8.decode a0 pos).2)) ⟨Below.refl _ _⟩).1, HIT.out]; have := HD.out; omega
      · have hnx : ∀ ty, (Instr.next (.pointer (some ⟨w.heap.size, 0, none⟩)) true ty).run Tryd.prog wr = _ := fun ty => Lib.run_next_end_at wr w.heap.size a0 pos ty hit hp
        go_wp2
        go_ret
        rw [hacc.out, chk_end _ _ _ hp]; exact ⟨rfl, hbw.out⟩
end Go.Proofs.YtiancopplinpcaaDoor.P
end
section
namespace Go.Proofs.YtiancopplinpcaaDoor.P
open Go.RowKit Go.Proofs.YtiancopplinpcaaDoorW.PrintWords Go.Proofs.YtiancopplinpcaaDoorW.PrintLast Go.Proofs.YtiancopplinpcaaDoorW.PrintMore
attribute [local go_sem] max2_int min2_int max_two min_two max_three min_three max_four min_four
set_option linter.unusedVariables false
set_option linter.unusedSimpArgs false
def vbi_Text.f (k : Nat) (a0 : ByteArray) : Option (ByteArray × Int) := (text_Check.f a0).bind fun t151 => (if t151 = 0 then ((vbi_Bin.f k a0).bind fun bt152 => (some (bt152.1, bt152.2))) else (some ((⟨#[]⟩ : ByteArray), t151)))
theorem vbi_Text.mono : ∀ a0 k, LeO (vbi_Text.f k a0) (vbi_Text.f (k + 1) a0) := by
 intro a0 k
 unfold vbi_Text.f; repeat' first
   | (with_reducible exact vbi_Bin.mono _ _)
   | (with_reducible exact LeO.refl _)
   | (with_reducible exact LeO.none _)
   | (with_reducible refine LeO.ite ?_ ?_)
   | (with_reducible refine LeO.bind ?_ (fun _ => ?_))
   | exact vbi_Bin.mono _ _
   | exact LeO.none _
   | refine LeO.ite ?_ ?_
   | refine LeO.bind ?_ (fun _ => ?_)
set_option maxHeartbeats 8000000 in
set_option maxRecDepth 100000 in
theorem vbi_Text.calls (k : Nat) (a0 : ByteArray) (r1 : ByteArray) (r2 : Int) (w : World) (HLAID : Laid w) (h : vbi_Text.f k a0 = some (r1, r2)) :
  Calls Tryd.prog 59 #[.string a0] w fun e w' => e = .returned (.tuple #[.string r1, .int .i64 r2]) ∧ Below w.heap.size w w' := by
 have HB := Aside0.mk (Below.refl w.heap.size w); have H : ((text_Check.f a0).bind fun t151 => (if t151 = 0 then ((vbi_Bin.f k a0).bind fun bt152 => (some (bt152.1, bt152.2))) else (some ((⟨#[]⟩ : ByteArray), t151)))) = some (r1, r2) := h; clear h; replace H := Option.bind_eq_some_iff.mp H; obtain ⟨t151, A20, H⟩ := H; replace H : (if t151 = 0 then ((vbi_Bin.f k a0).bind fun bt152 => (some (bt152.1, bt152.2))) else (some ((⟨#[]⟩ : ByteArray), t151))) = some (r1, r2) := H; have A2 := Aside0.mk A20; clear A20; by_cases c3 : t151 = 0
 ·
  rw [if_pos c3] at H; have c3b0 : (t151 == 0) = true := beq_iff_eq.mpr c3; have c3b1 : (t151 != 0) = false := bne_eq_false_iff_eq.mpr c3; clear c3; replace H := Option.bind_eq_some_iff.mp H; obtain ⟨⟨t152, t153⟩, A40, H⟩ := H; replace H : (some (t152, t153)) = some (r1, r2) := H; have A4 := Aside0.mk A40; clear A40; simp only [Option.some.injEq, Prod.mk.injEq] at H; obtain ⟨rfl, rfl⟩ := H; go_enter Tryd.func59, Tryd.ntmps59
  go_wp2_with (first | ((with_reducible refine gate_callee (f := 68) rfl ?_); refine goesL_ (some 6) rfl rfl Tryd.func68 zz49 rfl #[.string a0] rfl zz20 ?_; (with_reducible refine (text_Check.calls a0 t151 _ zz6 A2.out).mono ?_); rintro e w5 ⟨rfl, hb⟩; refine ⟨_, rfl, ?_⟩; have n0_ := Aside0.mk (below_step zz21 hb); clear HB; have HB := n0_; clear n0_; (try clear hb); (try clear hb2); (try clear hk); (try clear hi)) | ((with_reducible refine gate_callee (f := 58) rfl ?_); refine goesL_ (some 11) rfl rfl Tryd.func58 zz49 rfl #[.string a0] rfl zz20 ?_; (with_reducible refine (vbi_Bin.calls k a0 t152 t153 _ A4.out).mono ?_); rintro e w6 ⟨rfl, hb⟩; refine ⟨_, rfl, ?_⟩; have n0_ := Aside0.mk (below_step zz21 hb); clear HB; have HB := n0_; clear n0_; (try clear hb); (try clear hb2); (try clear hk); (try clear hi)))
  go_ret2
  exact ⟨zz40, zz21⟩
 rw [if_neg c3] at H; have c3b0 : (t151 == 0) = false := beq_eq_false_iff_ne.mpr c3; have c3b1 : (t151 != 0) = true := bne_iff_ne.mpr c3; simp only [Option.some.injEq, Prod.mk.injEq] at H; obtain ⟨rfl, rfl⟩ := H; go_enter Tryd.func59, Tryd.ntmps59
 go_wp2_with (first | ((with_reducible refine gate_callee (f := 68) rfl ?_); refine goesL_ (some 6) rfl rfl Tryd.func68 zz49 rfl #[.string a0] rfl zz20 ?_; (with_reducible refine (text_Check.calls a0 t151 _ zz6 A2.out).mono ?_); rintro e w7 ⟨rfl, hb⟩; refine ⟨_, rfl, ?_⟩; have n0_ := Aside0.mk (below_step zz21 hb); clear HB; have HB := n0_; clear n0_; (try clear hb); (try clear hb2); (try clear hk); (try clear hi)))
 go_ret2
 exact ⟨zz40, zz21⟩
end Go.Proofs.YtiancopplinpcaaDoor.P
end
section
namespace Go.Proofs.YtiancopplinpcaaDoor.P
open Go.RowKit Go.Proofs.YtiancopplinpcaaDoorW.PrintWords Go.Proofs.YtiancopplinpcaaDoorW.PrintLast Go.Proofs.YtiancopplinpcaaDoorW.PrintMore
attribute [local go_sem] max2_int min2_int max_two min_two max_three min_three max_four min_four
set_option linter.unusedVariables false
set_option linter.unusedSimpArgs false
mutual
def vbi_TakeNum.l0 : Nat → ByteArray → Int → Int → Option (Int × Int × Int)
  | 0, _, _, _ => none
  | k + 1, x0, x2, x3 => if x3 < (x0.size : Int) then (if 0 ≤ x3 then (if 0 ≤ (wrap64 (7 * x3)) then (if (wrap64 (bt x0 x3)) > 127 then (vbi_TakeNum.j1 k x0 (Go.bits .or .i64 x2 (shl .i64 (Go.bits .and .i64 (wrap64 (bt x0 x3)) 127) (wrap64 (7 * x3)))) (wrap64 (x3 + 1)) (wrap64 (bt x0 x3)) ((wrap64 (x3 + 1)) == 4)) else (vbi_TakeNum.j1 k x0 (Go.bits .or .i64 x2 (shl .i64 (Go.bits .and .i64 (wrap64 (bt x0 x3)) 127) (wrap64 (7 * x3)))) (wrap64 (x3 + 1)) (wrap64 (bt x0 x3)) false)) else (none)) else (none)) else (some (0, 0, 7))
def vbi_TakeNum.j1 : Nat → ByteArray → Int → Int → Int → Bool → Option (Int × Int × Int)
  | 0, _, _, _, _, _ => none
  | k + 1, x0, x2, x3, x5, x23 => if x23 = true then (vbi_TakeNum.j2 k x0 x2 x3 x5 x23) else (if x5 = 0 then (vbi_TakeNum.j2 k x0 x2 x3 x5 (decide (x3 > 1))) else (vbi_TakeNum.j2 k x0 x2 x3 x5 false))
def vbi_TakeNum.j2 : Nat → ByteArray → Int → Int → Int → Bool → Option (Int × Int × Int)
  | 0, _, _, _, _, _ => none
  | k + 1, x0, x2, x3, x5, x23 => if x23 = true then (some (0, 0, 8)) else (if x5 ≤ 127 then (some (x2, x3, 0)) else (vbi_TakeNum.l0 k x0 x2 x3))
end
def vbi_TakeNum.f (k : Nat) (a0 : ByteArray) : Option (Int × Int × Int) := vbi_TakeNum.l0 k a0 0 0
theorem vbi_TakeNum.mono_l : ∀ k, (∀ y0 y1 y2, LeO (vbi_TakeNum.l0 k y0 y1 y2) (vbi_TakeNum.l0 (k + 1) y0 y1 y2)) ∧ (∀ y0 y1 y2 y3 y4, LeO (vbi_TakeNum.j1 k y0 y1 y2 y3 y4) (vbi_TakeNum.j1 (k + 1) y0 y1 y2 y3 y4)) ∧ (∀ y0 y1 y2 y3 y4, LeO (vbi_TakeNum.j2 k y0 y1 y2 y3 y4) (vbi_TakeNum.j2 (k + 1) y0 y1 y2 y3 y4))
 | 0 => ⟨fun _ _ _ r h => by simp [vbi_TakeNum.l0] at h, fun _ _ _ _ _ r h => by simp [vbi_TakeNum.j1] at h, fun _ _ _ _ _ r h => by simp [vbi_TakeNum.j2] at h⟩
 | k + 1 => by
  obtain ⟨ih0, ih1, ih2⟩ := vbi_TakeNum.mono_l k; refine ⟨?_, ?_, ?_⟩ <;> intros
  all_goals first | unfold vbi_TakeNum.l0 | unfold vbi_TakeNum.j1 | unfold vbi_TakeNum.j2
  all_goals repeat' first
   | (with_reducible exact ih0 _ _ _)
   | (with_reducible exact ih1 _ _ _ _ _)
   | (with_reducible exact ih2 _ _ _ _ _)
   | (with_reducible exact LeO.refl _)
   | (with_reducible exact LeO.none _)
   | (with_reducible refine LeO.ite ?_ ?_)
   | (with_reducible refine LeO.bind ?_ (fun _ => ?_))
   | exact ih0 _ _ _
   | exact ih1 _ _ _ _ _
   | exact ih2 _ _ _ _ _
   | exact LeO.none _
   | refine LeO.ite ?_ ?_
   | refine LeO.bind ?_ (fun _ => ?_)
theorem vbi_TakeNum.mono : ∀ a0 k, LeO (vbi_TakeNum.f k a0) (vbi_TakeNum.f (k + 1) a0) := by
 intro a0 k
 obtain ⟨ih0, ih1, ih2⟩ := vbi_TakeNum.mono_l k; unfold vbi_TakeNum.f; repeat' first
   | (with_reducible exact ih0 _ _ _)
   | (with_reducible exact ih1 _ _ _ _ _)
   | (with_reducible exact ih2 _ _ _ _ _)
   | (with_reducible exact LeO.refl _)
   | (with_reducible exact LeO.none _)
   | (with_reducible refine LeO.ite ?_ ?_)
   | (with_reducible refine LeO.bind ?_ (fun _ => ?_))
   | exact ih0 _ _ _
   | exact ih1 _ _ _ _ _
   | exact ih2 _ _ _ _ _
   | exact LeO.none _
   | refine LeO.ite ?_ ?_
   | refine LeO.bind ?_ (fun _ => ?_)
set_option maxHeartbeats 8000000 in
set_option maxRecDepth 100000 in
theorem vbi_TakeNum.calls (k : Nat) (a0 : ByteArray) (r1 : Int) (r2 : Int) (r3 : Int) (w : World) (h : vbi_TakeNum.f k a0 = some (r1, r2, r3)) :
  Calls Tryd.prog 36 #[.string a0] w fun e w' => e = .returned (.tuple #[.int .i64 r1, .int .i64 r2, .int .i64 r3]) ∧ Drawn0 w w' := by
 have H : (vbi_TakeNum.l0 k a0 0 0) = some (r1, r2, r3) := h; clear h; have H' := Aside0.mk H; clear H; go_enter Tryd.func36, Tryd.ntmps36
 go_wp2
 go_loopg [2, 3] k (fun kq v2 v3 w' => ∃ (x2_1 : Int) (x3_1 : Int), v2 = .int .i64 x2_1 ∧ v3 = .int .i64 x3_1 ∧ Aside0 (vbi_TakeNum.l0 kq a0 x2_1 x3_1 = some (r1, r2, r3)) ∧ Aside0 (kq ≤ k) ∧ Drawn0 w w')
 case atStart => exact ⟨(0), (0), zz47, zz47, H', ⟨Nat.le_refl _⟩, zz43⟩
 case round =>
  clear H'; obtain ⟨x2_1, x3_1, rfl, rfl, HA, HK1, ⟨m1, rfl⟩⟩ := hrel; cases gk with
  | zero => exact absurd HA.out (by simp [vbi_TakeNum.l0])
  | succ k1 =>
   have H := HA.out; clear HA; simp only [vbi_TakeNum.l0] at H; by_cases c2 : x3_1 < (a0.size : Int)
   ·
    rw [if_pos c2] at H; have c2b0 : decide (x3_1 < (a0.size : Int)) = true := decide_eq_true c2; clear c2; by_cases c3 : 0 ≤ x3_1
    ·
     rw [if_pos c3] at H; have c3b0 : decide (0 ≤ x3_1) = true := decide_eq_true c3; clear c3; obtain ⟨ji5, hji5⟩ : ∃ j_ : Int, (wrap64 (7 * x3_1)) = j_ := ⟨_, rfl⟩; replace H : (if 0 ≤ (ji5) then (if (wrap64 (bt a0 x3_1)) > 127 then (vbi_TakeNum.j1 k1 a0 (Go.bits .or .i64 x2_1 (shl .i64 (Go.bits .and .i64 (wrap64 (bt a0 x3_1)) 127) (ji5))) (wrap64 (x3_1 + 1)) (wrap64 (bt a0 x3_1)) ((wrap64 (x3_1 + 1)) == 4)) else (vbi_TakeNum.j1 k1 a0 (Go.bits .or .i64 x2_1 (shl .i64 (Go.bits .and .i64 (wrap64 (bt a0 x3_1)) 127) (ji5))) (wrap64 (x3_1 + 1)) (wrap64 (bt a0 x3_1)) false)) else (none)) = some (r1, r2, r3) := by first | (rw [hji5] at H; exact H) | (simp only [hji5] at H ⊢; exact H)
     have hji5w : (IntKind.i64.wrap (7 * x3_1)) = ji5 := (i64_w _).trans hji5; by_cases c6 : 0 ≤ (ji5)
     ·
      rw [if_pos c6] at H; have c6b0 := eq_true c6; have c6b1 : decide (0 ≤ (ji5)) = true := decide_eq_true c6; clear c6; obtain ⟨ji7, hji7⟩ : ∃ j_ : Int, (shl .i64 (Go.bits .and .i64 (wrap64 (bt a0 x3_1)) 127) (ji5)) = j_ := ⟨_, rfl⟩; replace H : (if (wrap64 (bt a0 x3_1)) > 127 then (vbi_TakeNum.j1 k1 a0 (Go.bits .or .i64 x2_1 (ji7)) (wrap64 (x3_1 + 1)) (wrap64 (bt a0 x3_1)) ((wrap64 (x3_1 + 1)) == 4)) else (vbi_TakeNum.j1 k1 a0 (Go.bits .or .i64 x2_1 (ji7)) (wrap64 (x3_1 + 1)) (wrap64 (bt a0 x3_1)) false)) = some (r1, r2, r3) := by first | (rw [hji7] at H; exact H) | (simp only [hji7] at H ⊢; exact H)
      have hji7_ : (IntKind.i64.wrap ((Go.bits .and .i64 (wrap64 (bt a0 x3_1)) 127) * 2 ^ min (ji5).toNat 64)) = ji7 := hji7; have hji7z : (ji5) ≤ 64 → (IntKind.i64.wrap ((Go.bits .and .i64 (wrap64 (bt a0 x3_1)) 127) * 2 ^ (ji5).toNat)) = ji7 := shl_small hji7; have hji7y : (wrap64 ((Go.bits .and .i64 (wrap64 (bt a0 x3_1)) 127) * 2 ^ min (ji5).toNat 64)) = ji7 := (i64_w _).symm.trans hji7_; have hji7x : (ji5) ≤ 64 → (wrap64 ((Go.bits .and .i64 (wrap64 (bt a0 x3_1)) 127) * 2 ^ (ji5).toNat)) = ji7 := fun h_ => (i64_w _).symm.trans (hji7z h_)
      have HC8 := Aside0.mk H; clear H; have p4 : 0 ≤ (x3_1 : Int) := of_decide_eq_true zz46; have q4 : x3_1 < (a0.size : Int) := of_decide_eq_true zz46; have hx4 := bt_at a0 x3_1; replace p4 := eq_true p4; replace q4 := eq_true q4; go_upto_region 5 with (fail)
      go_cut [23] (fun v23 wc => ∃ (kq : Nat) (x23_7 : Bool), v23 = .bool x23_7 ∧ Aside0 (vbi_TakeNum.j1 kq a0 (Go.bits .or .i64 x2_1 (ji7)) (wrap64 (x3_1 + 1)) (wrap64 (bt a0 x3_1)) x23_7 = some (r1, r2, r3)) ∧ Aside0 (kq ≤ k1) ∧ Drawn0 w wc)
      case first =>
       have H := HC8.out; clear HC8; by_cases c9 : (wrap64 (bt a0 x3_1)) > 127
       ·
        rw [if_pos c9] at H; have c9b0 : decide (127 < (wrap64 (bt a0 x3_1))) = true := decide_eq_true c9; clear c9; (first | rw [c9b0] | (simp only [i64_w, i32_w]; rw [c9b0]) | skip)
        have H' := Aside0.mk H; clear H; go_wp2
        go_meet
        case rel => exact ⟨_, (((wrap64 (x3_1 + 1)) == 4)), zz47, H', ⟨zz45⟩, zz43⟩
       rw [if_neg c9] at H; have c9b0 : decide (127 < (wrap64 (bt a0 x3_1))) = false := decide_eq_false c9; clear c9; (first | rw [c9b0] | (simp only [i64_w, i32_w]; rw [c9b0]) | skip)
       have H' := Aside0.mk H; clear H; go_wp2
       go_meet
       case rel => exact ⟨_, (false), zz47, H', ⟨zz45⟩, zz43⟩
      case rest =>
       clear HC8; (try clear c2); (try clear c2b0); (try clear p2); (try clear c3); (try clear c3b0); (try clear p4); (try clear q4); (try clear hx4); (try clear c6); (try clear c6b0); (try clear c6b1); (try clear p6); (try clear c9); (try clear c9b0); (try clear p4); (try clear q4); obtain ⟨kq, x23_7, rfl, HA, HJ7, ⟨mc7, rfl⟩⟩ := hcut; cases kq with
       | zero => exact absurd HA.out (by simp [vbi_TakeNum.j1])
       | succ kj7 =>
        have H := HA.out; clear HA; simp only [vbi_TakeNum.j1] at H; have HC10 := Aside0.mk H; clear H; go_upto_if 23 with (fail)
        go_cut [23] (fun v23 wc => ∃ (kq : Nat) (x23_9 : Bool), v23 = .bool x23_9 ∧ Aside0 (vbi_TakeNum.j2 kq a0 (Go.bits .or .i64 x2_1 (ji7)) (wrap64 (x3_1 + 1)) (wrap64 (bt a0 x3_1)) x23_9 = some (r1, r2, r3)) ∧ Aside0 (kq ≤ kj7) ∧ Drawn0 w wc)
        case first =>
         have H := HC10.out; clear HC10; by_cases c11 : x23_7 = true
         ·
          subst c11; have H1 : (vbi_TakeNum.j2 kj7 a0 (Go.bits .or .i64 x2_1 (ji7)) (wrap64 (x3_1 + 1)) (wrap64 (bt a0 x3_1)) true) = some (r1, r2, r3) := by rw [if_pos rfl] at H; exact H
          clear H; have H := H1; clear H1; have H' := Aside0.mk H; clear H; go_wp2
          go_meet
          case rel => exact ⟨_, (true), zz47, H', ⟨by have := HK1.out; have := HJ7.out; first | omega | exact Nat.le_refl _⟩, zz43⟩
         replace c11 := Bool.eq_false_iff.mpr c11; subst c11; have H1 : (if (wrap64 (bt a0 x3_1)) = 0 then (vbi_TakeNum.j2 kj7 a0 (Go.bits .or .i64 x2_1 (ji7)) (wrap64 (x3_1 + 1)) (wrap64 (bt a0 x3_1)) (decide ((wrap64 (x3_1 + 1)) > 1))) else (vbi_TakeNum.j2 kj7 a0 (Go.bits .or .i64 x2_1 (ji7)) (wrap64 (x3_1 + 1)) (wrap64 (bt a0 x3_1)) false)) = some (r1, r2, r3) := by rw [if_neg (show ¬ (false = true) by decide)] at H; exact H
         clear H; have H := H1; clear H1; by_cases c12 : (wrap64 (bt a0 x3_1)) = 0
         ·
          rw [if_pos c12] at H; have c12b0 : ((wrap64 (bt a0 x3_1)) == 0) = true := beq_iff_eq.mpr c12; have c12b1 : ((wrap64 (bt a0 x3_1)) != 0) = false := bne_eq_false_iff_eq.mpr c12; clear c12; (first | rw [c12b0] | (simp only [i64_w, i32_w]; rw [c12b0]) | skip)
          have H' := Aside0.mk H; clear H; go_wp2
          go_meet
          case rel => exact ⟨_, (decide ((wrap64 (x3_1 + 1)) > 1)), zz47, H', ⟨by have := HK1.out; have := HJ7.out; first | omega | exact Nat.le_refl _⟩, zz43⟩
         rw [if_neg c12] at H; have c12b0 : ((wrap64 (bt a0 x3_1)) == 0) = false := beq_eq_false_iff_ne.mpr c12; have c12b1 : ((wrap64 (bt a0 x3_1)) != 0) = true := bne_iff_ne.mpr c12; (first | rw [c12b0] | (simp only [i64_w, i32_w]; rw [c12b0]) | skip)
         have H' := Aside0.mk H; clear H; go_wp2
         go_meet
         case rel => exact ⟨_, (false), zz47, H', ⟨by have := HK1.out; have := HJ7.out; first | omega | exact Nat.le_refl _⟩, zz43⟩
        case rest =>
         clear HC10; (try clear c1); (try clear c2); (try clear c2b0); (try clear p2); (try clear c3); (try clear c3b0); (try clear p4); (try clear q4); (try clear hx4); (try clear c6); (try clear c6b0); (try clear c6b1); (try clear p6); (try clear c7); (try clear c9); (try clear c9b0); (try clear c11); (try clear c12); (try clear c12b0); (try clear c12b1); (try clear p2); (try clear p4); (try clear p6); (try clear q4); obtain ⟨kq, x23_9, rfl, HA, HJ9, ⟨mc9, rfl⟩⟩ := hcut; cases kq with
         | zero => exact absurd HA.out (by simp [vbi_TakeNum.j2])
         | succ kj9 =>
          have H := HA.out; clear HA; simp only [vbi_TakeNum.j2] at H; by_cases c13 : x23_9 = true
          ·
           subst c13; have H1 : (some (0, 0, 8)) = some (r1, r2, r3) := by rw [if_pos rfl] at H; exact H
           clear H; have H := H1; clear H1; simp only [Option.some.injEq, Prod.mk.injEq] at H; obtain ⟨rfl, rfl, rfl⟩ := H; go_wp2
           go_ret3
           exact ⟨by first | rfl | (simp; done) | (simp only [← hji5, ← hji7] <;> (first | rfl | simp)) | (simp [*]; done), zz43⟩
          replace c13 := Bool.eq_false_iff.mpr c13; subst c13; have H1 : (if (wrap64 (bt a0 x3_1)) ≤ 127 then (some ((Go.bits .or .i64 x2_1 (ji7)), (wrap64 (x3_1 + 1)), 0)) else (vbi_TakeNum.l0 kj9 a0 (Go.bits .or .i64 x2_1 (ji7)) (wrap64 (x3_1 + 1)))) = some (r1, r2, r3) := by rw [if_neg (show ¬ (false = true) by decide)] at H; exact H
          clear H; have H := H1; clear H1; by_cases c14 : (wrap64 (bt a0 x3_1)) ≤ 127
          ·
           rw [if_pos c14] at H; have c14b0 : decide ((wrap64 (bt a0 x3_1)) ≤ 127) = true := decide_eq_true c14; clear c14; simp only [Option.some.injEq, Prod.mk.injEq] at H; obtain ⟨rfl, rfl, rfl⟩ := H; go_wp2
           go_ret3
           exact ⟨by first | rfl | (simp; done) | (simp only [← hji5, ← hji7] <;> (first | rfl | simp)) | (simp [*]; done), zz43⟩
          rw [if_neg c14] at H; have c14b0 : decide ((wrap64 (bt a0 x3_1)) ≤ 127) = false := decide_eq_false c14; clear c14; have H' := Aside0.mk H; clear H; go_wp2
          go_roundg kj9
          case measure => have := HK1.out; have := HJ7.out; have := HJ9.out; omega
          case rel => exact ⟨((Go.bits .or .i64 x2_1 (ji7))), ((wrap64 (x3_1 + 1))), (by first | rfl | (simp; done) | (simp only [← hji7] <;> (first | rfl | simp)) | (simp [*]; done)), zz47, H', ⟨by have := HK1.out; have := HJ7.out; have := HJ9.out; omega⟩, zz43⟩
     rw [if_neg c6] at H; exact absurd H (by simp)
    rw [if_neg c3] at H; exact absurd H (by simp)
   rw [if_neg c2] at H; have c2b0 : decide (x3_1 < (a0.size : Int)) = false := decide_eq_false c2; clear c2; simp only [Option.some.injEq, Prod.mk.injEq] at H; obtain ⟨rfl, rfl, rfl⟩ := H; go_wp2
   go_ret3
   exact ⟨zz47, zz43⟩
def vbi_taken.l0 : Nat → ByteArray → Int → Int → Int → Option (Int × Int)
  | 0, _, _, _, _ => none
  | k + 1, x0, x6, x12, x13 => if x13 < x12 then (if 0 ≤ x13 then (if x13 < (x0.size : Int) then (vbi_taken.l0 k x0 (Go.bits .or .i64 (wrap64 (x6 * 256)) (wrap64 (bt x0 x13))) x12 (wrap64 (x13 + 1))) else (none)) else (none)) else (some (x6, 0))
def vbi_taken.f (k : Nat) (a0 : ByteArray) (a1 : Int) : Option (Int × Int) := if (a0.size : Int) < a1 then (some (0, 7)) else (vbi_taken.l0 k a0 0 a1 0)
theorem vbi_taken.mono_l : ∀ k, (∀ y0 y1 y2 y3, LeO (vbi_taken.l0 k y0 y1 y2 y3) (vbi_taken.l0 (k + 1) y0 y1 y2 y3))
 | 0 => fun _ _ _ _ r h => by simp [vbi_taken.l0] at h
 | k + 1 => by
  have ih0 := vbi_taken.mono_l k
  ·
   intro y0 y1 y2 y3
   unfold vbi_taken.l0; repeat' first
   | (with_reducible exact ih0 _ _ _ _)
   | (with_reducible exact LeO.refl _)
   | (with_reducible exact LeO.none _)
   | (with_reducible refine LeO.ite ?_ ?_)
   | (with_reducible refine LeO.bind ?_ (fun _ => ?_))
   | exact ih0 _ _ _ _
   | exact LeO.none _
   | refine LeO.ite ?_ ?_
   | refine LeO.bind ?_ (fun _ => ?_)
theorem vbi_taken.mono : ∀ a0 a1 k, LeO (vbi_taken.f k a0 a1) (vbi_taken.f (k + 1) a0 a1) := by
 intro a0 a1 k
 have ih0 := vbi_taken.mono_l k; unfold vbi_taken.f; repeat' first
   | (with_reducible exact ih0 _ _ _ _)
   | (with_reducible exact LeO.refl _)
   | (with_reducible exact LeO.none _)
   | (with_reducible refine LeO.ite ?_ ?_)
   | (with_reducible refine LeO.bind ?_ (fun _ => ?_))
   | exact ih0 _ _ _ _
   | exact LeO.none _
   | refine LeO.ite ?_ ?_
   | refine LeO.bind ?_ (fun _ => ?_)
set_option maxHeartbeats 8000000 in
set_option maxRecDepth 100000 in
theorem vbi_taken.calls (k : Nat) (a0 : ByteArray) (a1 : Int) (r1 : Int) (r2 : Int) (w : World) (h : vbi_taken.f k a0 a1 = some (r1, r2)) :
  Calls Tryd.prog 70 #[.string a0, .int .i64 a1] w fun e w' => e = .returned (.tuple #[.int .i64 r1, .int .i64 r2]) ∧ Drawn0 w w' := by
 have H : (if (a0.size : Int) < a1 then (some (0, 7)) else (vbi_taken.l0 k a0 0 a1 0)) = some (r1, r2) := h; clear h; by_cases c3 : (a0.size : Int) < a1
 ·
  rw [if_pos c3] at H; have c3b0 : decide ((a0.size : Int) < a1) = true := decide_eq_true c3; clear c3; simp only [Option.some.injEq, Prod.mk.injEq] at H; obtain ⟨rfl, rfl⟩ := H; go_enter Tryd.func70, Tryd.ntmps70
  go_wp2
  go_ret2
  exact ⟨zz47, zz43⟩
 rw [if_neg c3] at H; have c3b0 : decide ((a0.size : Int) < a1) = false := decide_eq_false c3; clear c3; have H' := Aside0.mk H; clear H; go_enter Tryd.func70, Tryd.ntmps70
 go_wp2
 go_loopg [6, 13] k (fun kq v6 v13 w' => ∃ (x6_1 : Int) (x13_1 : Int), v6 = .int .i64 x6_1 ∧ v13 = .int .i64 x13_1 ∧ Aside0 (vbi_taken.l0 kq a0 x6_1 a1 x13_1 = some (r1, r2)) ∧ Aside0 (kq ≤ k) ∧ Drawn0 w w')
 case atStart => exact ⟨(0), (0), zz47, zz47, H', ⟨Nat.le_refl _⟩, zz43⟩
 case round =>
  clear H'; (try clear p2); (try clear c3); (try clear c3b0); obtain ⟨x6_1, x13_1, rfl, rfl, HA, HK1, ⟨m1, rfl⟩⟩ := hrel; cases gk with
  | zero => exact absurd HA.out (by simp [vbi_taken.l0])
  | succ k1 =>
   have H := HA.out; clear HA; simp only [vbi_taken.l0] at H; by_cases c4 : x13_1 < a1
   ·
    rw [if_pos c4] at H; have c4b0 : decide (x13_1 < a1) = true := decide_eq_true c4; clear c4; by_cases c5 : 0 ≤ x13_1
    ·
     rw [if_pos c5] at H; have c5b0 : decide (0 ≤ x13_1) = true := decide_eq_true c5; clear c5; by_cases c6 : x13_1 < (a0.size : Int)
     ·
      rw [if_pos c6] at H; have c6b0 : decide (x13_1 < (a0.size : Int)) = true := decide_eq_true c6; clear c6; have H' := Aside0.mk H; clear H; have p7 : 0 ≤ (x13_1 : Int) := of_decide_eq_true zz46; have q7 : x13_1 < (a0.size : Int) := of_decide_eq_true zz46; have hx7 := bt_at a0 x13_1; replace p7 := eq_true p7; replace q7 := eq_true q7; go_wp2
      go_roundg k1
      case measure => have := HK1.out; omega
      case rel => exact ⟨(Go.bits .or .i64 (wrap64 (x6_1 * 256)) (wrap64 (bt a0 x13_1))), (wrap64 (x13_1 + 1)), zz47, zz47, H', ⟨by have := HK1.out; omega⟩, zz43⟩
     rw [if_neg c6] at H; exact absurd H (by simp)
    rw [if_neg c5] at H; exact absurd H (by simp)
   rw [if_neg c4] at H; have c4b0 : decide (x13_1 < a1) = false := decide_eq_false c4; clear c4; simp only [Option.some.injEq, Prod.mk.injEq] at H; obtain ⟨rfl, rfl⟩ := H; go_wp2
   go_ret2
   exact ⟨zz47, zz43⟩
def vbi_TakeTwo.f (k : Nat) (a0 : ByteArray) : Option (Int × Int) := (vbi_taken.f k a0 2).bind fun bt345 => (some (bt345.1, bt345.2))
theorem vbi_TakeTwo.mono : ∀ a0 k, LeO (vbi_TakeTwo.f k a0) (vbi_TakeTwo.f (k + 1) a0) := by
 intro a0 k
 unfold vbi_TakeTwo.f; repeat' first
   | (with_reducible exact vbi_taken.mono _ _ _)
   | (with_reducible exact LeO.refl _)
   | (with_reducible exact LeO.none _)
   | (with_reducible refine LeO.ite ?_ ?_)
   | (with_reducible refine LeO.bind ?_ (fun _ => ?_))
   | exact vbi_taken.mono _ _ _
   | exact LeO.none _
   | refine LeO.ite ?_ ?_
   | refine LeO.bind ?_ (fun _ => ?_)
set_option maxHeartbeats 8000000 in
set_option maxRecDepth 100000 in
theorem vbi_TakeTwo.calls (k : Nat) (a0 : ByteArray) (r1 : Int) (r2 : Int) (w : World) (h : vbi_TakeTwo.f k a0 = some (r1, r2)) :
  Calls Tryd.prog 61 #[.string a0] w fun e w' => e = .returned (.tuple #[.int .i64 r1, .int .i64 r2]) ∧ Drawn0 w w' := by
 have H : ((vbi_taken.f k a0 2).bind fun bt345 => (some (bt345.1, bt345.2))) = some (r1, r2) := h; clear h; replace H := Option.bind_eq_some_iff.mp H; obtain ⟨⟨t345, t346⟩, A20, H⟩ := H; replace H : (some (t345, t346)) = some (r1, r2) := H; have A2 := Aside0.mk A20; clear A20; simp only [Option.some.injEq, Prod.mk.injEq] at H; obtain ⟨rfl, rfl⟩ := H; go_enter Tryd.func61, Tryd.ntmps61
 go_wp2_with (first | ((with_reducible refine gate_callee (f := 70) rfl ?_); refine goesL_ (some 5) rfl rfl Tryd.func70 zz49 rfl #[.string a0, .int .i64 2] rfl zz20 ?_; (with_reducible refine (vbi_taken.calls k a0 2 t345 t346 _ A2.out).mono ?_); rintro e w' ⟨rfl, ⟨nd, rfl⟩⟩; refine ⟨_, rfl, ?_⟩))
 go_ret2
 exact ⟨zz47, zz43⟩
def vbi_TakeFour.f (k : Nat) (a0 : ByteArray) : Option (Int × Int) := (vbi_taken.f k a0 4).bind fun bt347 => (some (bt347.1, bt347.2))
theorem vbi_TakeFour.mono : ∀ a0 k, LeO (vbi_TakeFour.f k a0) (vbi_TakeFour.f (k + 1) a0) := by
 intro a0 k
 unfold vbi_TakeFour.f; repeat' first
   | (with_reducible exact vbi_taken.mono _ _ _)
   | (with_reducible exact LeO.refl _)
   | (with_reducible exact LeO.none _)
   | (with_reducible refine LeO.ite ?_ ?_)
   | (with_reducible refine LeO.bind ?_ (fun _ => ?_))
   | exact vbi_taken.mono _ _ _
   | exact LeO.none _
   | refine LeO.ite ?_ ?_
   | refine LeO.bind ?_ (fun _ => ?_)
set_option maxHeartbeats 8000000 in
set_option maxRecDepth 100000 in
theorem vbi_TakeFour.calls (k : Nat) (a0 : ByteArray) (r1 : Int) (r2 : Int) (w : World) (h : vbi_TakeFour.f k a0 = some (r1, r2)) :
  Calls Tryd.prog 62 #[.string a0] w fun e w' => e = .returned (.tuple #[.int .i64 r1, .int .i64 r2]) ∧ Drawn0 w w' := by
 have H : ((vbi_taken.f k a0 4).bind fun bt347 => (some (bt347.1, bt347.2))) = some (r1, r2) := h; clear h; replace H := Option.bind_eq_some_iff.mp H; obtain ⟨⟨t347, t348⟩, A20, H⟩ := H; replace H : (some (t347, t348)) = some (r1, r2) := H; have A2 := Aside0.mk A20; clear A20; simp only [Option.some.injEq, Prod.mk.injEq] at H; obtain ⟨rfl, rfl⟩ := H; go_enter Tryd.func62, Tryd.ntmps62
 go_wp2_with (first | ((with_reducible refine gate_callee (f := 70) rfl ?_); refine goesL_ (some 5) rfl rfl Tryd.func70 zz49 rfl #[.string a0, .int .i64 4] rfl zz20 ?_; (with_reducible refine (vbi_taken.calls k a0 4 t347 t348 _ A2.out).mono ?_); rintro e w' ⟨rfl, ⟨nd, rfl⟩⟩; refine ⟨_, rfl, ?_⟩))
 go_ret2
 exact ⟨zz47, zz43⟩
def vbi_TakeBin.f (k : Nat) (a0 : ByteArray) : Option (ByteArray × Int × Int) := (vbi_TakeTwo.f k a0).bind fun bt349 => (if bt349.2 = 0 then (if bt349.1 > 1024 then (some ((⟨#[]⟩ : ByteArray), 0, 2)) else (if (wrap64 ((a0.size : Int) - 2)) < bt349.1 then (some ((⟨#[]⟩ : ByteArray), 0, 7)) else (if 2 ≤ (wrap64 (2 + bt349.1)) then (if (wrap64 (2 + bt349.1)) ≤ (a0.size : Int) then (some (a0.extract 2 ((wrap64 (2 + bt349.1)) : Int).toNat, wrap64 (2 + bt349.1), 0)) else (none)) else (none)))) else (some ((⟨#[]⟩ : ByteArray), 0, bt349.2)))
theorem vbi_TakeBin.mono : ∀ a0 k, LeO (vbi_TakeBin.f k a0) (vbi_TakeBin.f (k + 1) a0) := by
 intro a0 k
 unfold vbi_TakeBin.f; repeat' first
   | (with_reducible exact vbi_TakeTwo.mono _ _)
   | (with_reducible exact LeO.refl _)
   | (with_reducible exact LeO.none _)
   | (with_reducible refine LeO.ite ?_ ?_)
   | (with_reducible refine LeO.bind ?_ (fun _ => ?_))
   | exact vbi_TakeTwo.mono _ _
   | exact LeO.none _
   | refine LeO.ite ?_ ?_
   | refine LeO.bind ?_ (fun _ => ?_)
set_option maxHeartbeats 8000000 in
set_option maxRecDepth 100000 in
theorem vbi_TakeBin.calls (k : Nat) (a0 : ByteArray) (r1 : ByteArray) (r2 : Int) (r3 : Int) (w : World) (h : vbi_TakeBin.f k a0 = some (r1, r2, r3)) :
  Calls Tryd.prog 64 #[.string a0] w fun e w' => e = .returned (.tuple #[.string r1, .int .i64 r2, .int .i64 r3]) ∧ Drawn0 w w' := by
 have H : ((vbi_TakeTwo.f k a0).bind fun bt349 => (if bt349.2 = 0 then (if bt349.1 > 1024 then (some ((⟨#[]⟩ : ByteArray), 0, 2)) else (if (wrap64 ((a0.size : Int) - 2)) < bt349.1 then (some ((⟨#[]⟩ : ByteArray), 0, 7)) else (if 2 ≤ (wrap64 (2 + bt349.1)) then (if (wrap64 (2 + bt349.1)) ≤ (a0.size : Int) then (some (a0.extract 2 ((wrap64 (2 + bt349.1)) : Int).toNat, wrap64 (2 + bt349.1), 0)) else (none)) else (none)))) else (some ((⟨#[]⟩ : ByteArray), 0, bt349.2)))) = some (r1, r2, r3) := h; clear h; replace H := Option.bind_eq_some_iff.mp H; obtain ⟨⟨t349, t350⟩, A20, H⟩ := H; replace H : (if t350 = 0 then (if t349 > 1024 then (some ((⟨#[]⟩ : ByteArray), 0, 2)) else (if (wrap64 ((a0.size : Int) - 2)) < t349 then (some ((⟨#[]⟩ : ByteArray), 0, 7)) else (if 2 ≤ (wrap64 (2 + t349)) then (if (wrap64 (2 + t349)) ≤ (a0.size : Int) then (some (a0.extract 2 ((wrap64 (2 + t349)) : Int).toNat, wrap64 (2 + t349), 0)) else (none)) else (none)))) else (some ((⟨#[]⟩ : ByteArray), 0, t350))) = some (r1, r2, r3) := H; have A2 := Aside0.mk A20; clear A20; by_cases c3 : t350 = 0
 ·
  rw [if_pos c3] at H; have c3b0 : (t350 == 0) = true := beq_iff_eq.mpr c3; have c3b1 : (t350 != 0) = false := bne_eq_false_iff_eq.mpr c3; clear c3; by_cases c4 : t349 > 1024
  ·
   rw [if_pos c4] at H; have c4b0 : decide (1024 < t349) = true := decide_eq_true c4; clear c4; simp only [Option.some.injEq, Prod.mk.injEq] at H; obtain ⟨rfl, rfl, rfl⟩ := H; go_enter Tryd.func64, Tryd.ntmps64
   go_wp2_with (first | ((with_reducible refine gate_callee (f := 61) rfl ?_); refine goesL_ (some 8) rfl rfl Tryd.func61 zz49 rfl #[.string a0] rfl zz20 ?_; (with_reducible refine (vbi_TakeTwo.calls k a0 t349 t350 _ A2.out).mono ?_); rintro e w' ⟨rfl, ⟨nd, rfl⟩⟩; refine ⟨_, rfl, ?_⟩))
   go_ret3
   exact ⟨zz47, zz43⟩
  rw [if_neg c4] at H; have c4b0 : decide (1024 < t349) = false := decide_eq_false c4; clear c4; by_cases c5 : (wrap64 ((a0.size : Int) - 2)) < t349
  ·
   rw [if_pos c5] at H; have c5b0 : decide ((wrap64 ((a0.size : Int) - 2)) < t349) = true := decide_eq_true c5; clear c5; simp only [Option.some.injEq, Prod.mk.injEq] at H; obtain ⟨rfl, rfl, rfl⟩ := H; go_enter Tryd.func64, Tryd.ntmps64
   go_wp2_with (first | ((with_reducible refine gate_callee (f := 61) rfl ?_); refine goesL_ (some 8) rfl rfl Tryd.func61 zz49 rfl #[.string a0] rfl zz20 ?_; (with_reducible refine (vbi_TakeTwo.calls k a0 t349 t350 _ A2.out).mono ?_); rintro e w' ⟨rfl, ⟨nd, rfl⟩⟩; refine ⟨_, rfl, ?_⟩))
   go_ret3
   exact ⟨zz47, zz43⟩
  rw [if_neg c5] at H; have c5b0 : decide ((wrap64 ((a0.size : Int) - 2)) < t349) = false := decide_eq_false c5; clear c5; by_cases c6 : 2 ≤ (wrap64 (2 + t349))
  ·
   rw [if_pos c6] at H; have c6b0 := eq_true c6; have c6b1 : decide (2 ≤ (wrap64 (2 + t349))) = true := decide_eq_true c6; by_cases c7 : (wrap64 (2 + t349)) ≤ (a0.size : Int)
   ·
    rw [if_pos c7] at H; have c7b0 := eq_true c7; have c7b1 : decide ((wrap64 (2 + t349)) ≤ (a0.size : Int)) = true := decide_eq_true c7; simp only [Option.some.injEq, Prod.mk.injEq] at H; obtain ⟨rfl, rfl, rfl⟩ := H; go_enter Tryd.func64, Tryd.ntmps64
    go_wp2_with (first | ((with_reducible refine gate_callee (f := 61) rfl ?_); refine goesL_ (some 8) rfl rfl Tryd.func61 zz49 rfl #[.string a0] rfl zz20 ?_; (with_reducible refine (vbi_TakeTwo.calls k a0 t349 t350 _ A2.out).mono ?_); rintro e w' ⟨rfl, ⟨nd, rfl⟩⟩; refine ⟨_, rfl, ?_⟩))
    go_ret3
    exact ⟨zz47, zz43⟩
   rw [if_neg c7] at H; exact absurd H (by simp)
  rw [if_neg c6] at H; exact absurd H (by simp)
 rw [if_neg c3] at H; have c3b0 : (t350 == 0) = false := beq_eq_false_iff_ne.mpr c3; have c3b1 : (t350 != 0) = true := bne_iff_ne.mpr c3; simp only [Option.some.injEq, Prod.mk.injEq] at H; obtain ⟨rfl, rfl, rfl⟩ := H; go_enter Tryd.func64, Tryd.ntmps64
 go_wp2_with (first | ((with_reducible refine gate_callee (f := 61) rfl ?_); refine goesL_ (some 8) rfl rfl Tryd.func61 zz49 rfl #[.string a0] rfl zz20 ?_; (with_reducible refine (vbi_TakeTwo.calls k a0 t349 t350 _ A2.out).mono ?_); rintro e w' ⟨rfl, ⟨nd, rfl⟩⟩; refine ⟨_, rfl, ?_⟩))
 go_ret3
 exact ⟨zz47, zz43⟩
def vbi_TakeText.f (k : Nat) (a0 : ByteArray) : Option (ByteArray × Int × Int) := (vbi_TakeBin.f k a0).bind fun bt351 => (if bt351.2.2 = 0 then ((text_Check.f bt351.1).bind fun t354 => (if t354 = 0 then (some (bt351.1, bt351.2.1, 0)) else (some ((⟨#[]⟩ : ByteArray), 0, t354)))) else (some ((⟨#[]⟩ : ByteArray), 0, bt351.2.2)))
theorem vbi_TakeText.mono : ∀ a0 k, LeO (vbi_TakeText.f k a0) (vbi_TakeText.f (k + 1) a0) := by
 intro a0 k
 unfold vbi_TakeText.f; repeat' first
   | (with_reducible exact vbi_TakeBin.mono _ _)
   | (with_reducible exact LeO.refl _)
   | (with_reducible exact LeO.none _)
   | (with_reducible refine LeO.ite ?_ ?_)
   | (with_reducible refine LeO.bind ?_ (fun _ => ?_))
   | exact vbi_TakeBin.mono _ _
   | exact LeO.none _
   | refine LeO.ite ?_ ?_
   | refine LeO.bind ?_ (fun _ => ?_)
set_option maxHeartbeats 8000000 in
set_option maxRecDepth 100000 in
theorem vbi_TakeText.calls (k : Nat) (a0 : ByteArray) (r1 : ByteArray) (r2 : Int) (r3 : Int) (w : World) (HLAID : Laid w) (h : vbi_TakeText.f k a0 = some (r1, r2, r3)) :
  Calls Tryd.prog 63 #[.string a0] w fun e w' => e = .returned (.tuple #[.string r1, .int .i64 r2, .int .i64 r3]) ∧ Below w.heap.size w w' := by
 have HB := Aside0.mk (Below.refl w.heap.size w); have H : ((vbi_TakeBin.f k a0).bind fun bt351 => (if bt351.2.2 = 0 then ((text_Check.f bt351.1).bind fun t354 => (if t354 = 0 then (some (bt351.1, bt351.2.1, 0)) else (some ((⟨#[]⟩ : ByteArray), 0, t354)))) else (some ((⟨#[]⟩ : ByteArray), 0, bt351.2.2)))) = some (r1, r2, r3) := h; clear h; replace H := Option.bind_eq_some_iff.mp H; obtain ⟨⟨t351, t352, t353⟩, A20, H⟩ := H; replace H : (if t353 = 0 then ((text_Check.f t351).bind fun t354 => (if t354 = 0 then (some (t351, t352, 0)) else (some ((⟨#[]⟩ : ByteArray), 0, t354)))) else (some ((⟨#[]⟩ : ByteArray), 0, t353))) = some (r1, r2, r3) := H; have A2 := Aside0.mk A20; clear A20; by_cases c3 : t353 = 0
 ·
  rw [if_pos c3] at H; have c3b0 : (t353 == 0) = true := beq_iff_eq.mpr c3; have c3b1 : (t353 != 0) = false := bne_eq_false_iff_eq.mpr c3; clear c3; replace H := Option.bind_eq_some_iff.mp H; obtain ⟨t354, A40, H⟩ := H; replace H : (if t354 = 0 then (some (t351, t352, 0)) else (some ((⟨#[]⟩ : ByteArray), 0, t354))) = some (r1, r2, r3) := H; have A4 := Aside0.mk A40; clear A40; by_cases c5 : t354 = 0
  ·
   rw [if_pos c5] at H; have c5b0 : (t354 == 0) = true := beq_iff_eq.mpr c5; have c5b1 : (t354 != 0) = false := bne_eq_false_iff_eq.mpr c5; clear c5; simp only [Option.some.injEq, Prod.mk.injEq] at H; obtain ⟨rfl, rfl, rfl⟩ := H; go_enter Tryd.func63, Tryd.ntmps63
   go_wp2_with (first | ((with_reducible refine gate_callee (f := 64) rfl ?_); refine goesL_ (some 7) rfl rfl Tryd.func64 zz49 rfl #[.string a0] rfl zz20 ?_; (with_reducible refine (vbi_TakeBin.calls k a0 t351 t352 t353 _ A2.out).mono ?_); rintro e w' ⟨rfl, ⟨nd, rfl⟩⟩; refine ⟨_, rfl, ?_⟩) | ((with_reducible refine gate_callee (f := 68) rfl ?_); refine goesL_ (some 14) rfl rfl Tryd.func68 zz49 rfl #[.string t351] rfl zz20 ?_; (with_reducible refine (text_Check.calls t351 t354 _ zz6 A4.out).mono ?_); rintro e w6 ⟨rfl, hb⟩; refine ⟨_, rfl, ?_⟩; have n0_ := Aside0.mk (below_step zz21 hb); clear HB; have HB := n0_; clear n0_; (try clear hb); (try clear hb2); (try clear hk); (try clear hi)))
   go_ret3
   exact ⟨zz40, zz21⟩
  rw [if_neg c5] at H; have c5b0 : (t354 == 0) = false := beq_eq_false_iff_ne.mpr c5; have c5b1 : (t354 != 0) = true := bne_iff_ne.mpr c5; simp only [Option.some.injEq, Prod.mk.injEq] at H; obtain ⟨rfl, rfl, rfl⟩ := H; go_enter Tryd.func63, Tryd.ntmps63
  go_wp2_with (first | ((with_reducible refine gate_callee (f := 64) rfl ?_); refine goesL_ (some 7) rfl rfl Tryd.func64 zz49 rfl #[.string a0] rfl zz20 ?_; (with_reducible refine (vbi_TakeBin.calls k a0 t351 t352 t353 _ A2.out).mono ?_); rintro e w' ⟨rfl, ⟨nd, rfl⟩⟩; refine ⟨_, rfl, ?_⟩) | ((with_reducible refine gate_callee (f := 68) rfl ?_); refine goesL_ (some 14) rfl rfl Tryd.func68 zz49 rfl #[.string t351] rfl zz20 ?_; (with_reducible refine (text_Check.calls t351 t354 _ zz6 A4.out).mono ?_); rintro e w7 ⟨rfl, hb⟩; refine ⟨_, rfl, ?_⟩; have n0_ := Aside0.mk (below_step zz21 hb); clear HB; have HB := n0_; clear n0_; (try clear hb); (try clear hb2); (try clear hk); (try clear hi)))
  go_ret3
  exact ⟨zz40, zz21⟩
 rw [if_neg c3] at H; have c3b0 : (t353 == 0) = false := beq_eq_false_iff_ne.mpr c3; have c3b1 : (t353 != 0) = true := bne_iff_ne.mpr c3; simp only [Option.some.injEq, Prod.mk.injEq] at H; obtain ⟨rfl, rfl, rfl⟩ := H; go_enter Tryd.func63, Tryd.ntmps63
 go_wp2_with (first | ((with_reducible refine gate_callee (f := 64) rfl ?_); refine goesL_ (some 7) rfl rfl Tryd.func64 zz49 rfl #[.string a0] rfl zz20 ?_; (with_reducible refine (vbi_TakeBin.calls k a0 t351 t352 t353 _ A2.out).mono ?_); rintro e w' ⟨rfl, ⟨nd, rfl⟩⟩; refine ⟨_, rfl, ?_⟩))
 go_ret3
 exact ⟨zz40, zz21⟩
def prop_read.f (k : Nat) (a0 : Int) (a1 : ByteArray) : Option (AnyV × Int × Int) := if a0 = 1 then (if a1.toList = ([] : List UInt8) then (some (AnyV.no, 0, 7)) else (if 0 < (a1.size : Int) then (some (AnyV.num (wrap64 (bt a1 0)), 1, 0)) else (none))) else (if a0 = 2 then ((vbi_TakeTwo.f k a1).bind fun bt355 => (some (AnyV.num bt355.1, 2, bt355.2))) else (if a0 = 3 then ((vbi_TakeFour.f k a1).bind fun bt357 => (some (AnyV.num bt357.1, 4, bt357.2))) else (if a0 = 4 then ((vbi_TakeNum.f k a1).bind fun bt359 => (some (AnyV.num bt359.1, bt359.2.1, bt359.2.2))) else (if a0 = 5 then ((vbi_TakeText.f k a1).bind fun bt362 => (some (AnyV.str bt362.1, bt362.2.1, bt362.2.2))) else (if a0 = 6 then ((vbi_TakeBin.f k a1).bind fun bt365 => (some (AnyV.str bt365.1, bt365.2.1, bt365.2.2))) else ((vbi_TakeText.f k a1).bind fun bt368 => (if bt368.2.2 = 0 then (if 0 ≤ bt368.2.1 then (if bt368.2.1 ≤ (a1.size : Int) then ((vbi_TakeText.f k (a1.extract (bt368.2.1 : Int).toNat a1.size)).bind fun bt371 => (some (AnyV.two bt368.1 bt371.1, wrap64 (bt368.2.1 + bt371.2.1), bt371.2.2))) else (none)) else (none)) else (some (AnyV.no, 0, bt368.2.2)))))))))
theorem prop_read.mono : ∀ a0 a1 k, LeO (prop_read.f k a0 a1) (prop_read.f (k + 1) a0 a1) := by
 intro a0 a1 k
 unfold prop_read.f; repeat' first
   | (with_reducible exact vbi_TakeBin.mono _ _)
   | (with_reducible exact vbi_TakeFour.mono _ _)
   | (with_reducible exact vbi_TakeNum.mono _ _)
   | (with_reducible exact vbi_TakeText.mono _ _)
   | (with_reducible exact vbi_TakeTwo.mono _ _)
   | (with_reducible exact LeO.refl _)
   | (with_reducible exact LeO.none _)
   | (with_reducible refine LeO.ite ?_ ?_)
   | (with_reducible refine LeO.bind ?_ (fun _ => ?_))
   | exact vbi_TakeBin.mono _ _
   | exact vbi_TakeFour.mono _ _
   | exact vbi_TakeNum.mono _ _
   | exact vbi_TakeText.mono _ _
   | exact vbi_TakeTwo.mono _ _
   | exact LeO.none _
   | refine LeO.ite ?_ ?_
   | refine LeO.bind ?_ (fun _ => ?_)
set_option maxHeartbeats 8000000 in
set_option maxRecDepth 100000 in
theorem prop_read.calls (k : Nat) (a0 : Int) (a1 : ByteArray) (r1 : AnyV) (r2 : Int) (r3 : Int) (w : World) (HLAID : Laid w) (h : prop_read.f k a0 a1 = some (r1, r2, r3)) :
  Calls Tryd.prog 46 #[.int .i64 a0, .string a1] w fun e w' => e = .returned (.tuple #[anyW r1, .int .i64 r2, .int .i64 r3]) ∧ Below w.heap.size w w' := by
 have hu87 := Tryd.underlying87; have HB := Aside0.mk (Below.refl w.heap.size w); have H : (if a0 = 1 then (if a1.toList = ([] : List UInt8) then (some (AnyV.no, 0, 7)) else (if 0 < (a1.size : Int) then (some (AnyV.num (wrap64 (bt a1 0)), 1, 0)) else (none))) else (if a0 = 2 then ((vbi_TakeTwo.f k a1).bind fun bt355 => (some (AnyV.num bt355.1, 2, bt355.2))) else (if a0 = 3 then ((vbi_TakeFour.f k a1).bind fun bt357 => (some (AnyV.num bt357.1, 4, bt357.2))) else (if a0 = 4 then ((vbi_TakeNum.f k a1).bind fun bt359 => (some (AnyV.num bt359.1, bt359.2.1, bt359.2.2))) else (if a0 = 5 then ((vbi_TakeText.f k a1).bind fun bt362 => (some (AnyV.str bt362.1, bt362.2.1, bt362.2.2))) else (if a0 = 6 then ((vbi_TakeBin.f k a1).bind fun bt365 => (some (AnyV.str bt365.1, bt365.2.1, bt365.2.2))) else ((vbi_TakeText.f k a1).bind fun bt368 => (if bt368.2.2 = 0 then (if 0 ≤ bt368.2.1 then (if bt368.2.1 ≤ (a1.size : Int) then ((vbi_TakeText.f k (a1.extract (bt368.2.1 : Int).toNat a1.size)).bind fun bt371 => (some (AnyV.two bt368.1 bt371.1, wrap64 (bt368.2.1 + bt371.2.1), bt371.2.2))) else (none)) else (none)) else (some (AnyV.no, 0, bt368.2.2)))))))))) = some (r1, r2, r3) := h; clear h; by_cases c3 : a0 = 1
 ·
  rw [if_pos c3] at H; have c3b0 : (a0 == 1) = true := beq_iff_eq.mpr c3; have c3b1 : (a0 != 1) = false := bne_eq_false_iff_eq.mpr c3; clear c3; by_cases c4 : a1.toList = ([] : List UInt8)
  ·
   rw [if_pos c4] at H; have c4b0 : (a1.toList == ([] : List UInt8)) = true := beq_iff_eq.mpr c4; have c4b1 : (a1.toList != ([] : List UInt8)) = false := bne_eq_false_iff_eq.mpr c4; clear c4; simp only [Option.some.injEq, Prod.mk.injEq] at H; obtain ⟨rfl, rfl, rfl⟩ := H; go_enter Tryd.func46, Tryd.ntmps46
   go_wp2
   go_ret3
   exact ⟨zz40, zz21⟩
  rw [if_neg c4] at H; have c4b0 : (a1.toList == ([] : List UInt8)) = false := beq_eq_false_iff_ne.mpr c4; have c4b1 : (a1.toList != ([] : List UInt8)) = true := bne_iff_ne.mpr c4; by_cases c5 : 0 < (a1.size : Int)
  ·
   rw [if_pos c5] at H; have c5b0 : decide (0 < (a1.size : Int)) = true := decide_eq_true c5; have c5b1 : decide (0 < a1.size) = true := decide_eq_true (by omega); clear c5; simp only [Option.some.injEq, Prod.mk.injEq] at H; obtain ⟨rfl, rfl, rfl⟩ := H; have p6 : 0 ≤ (0 : Int) := (by omega); have q6 : 0 < a1.size := (by have : (0 : Int) < (a1.size : Int) := of_decide_eq_true zz46; omega); have hx6 : ∀ h : 0 < a1.size, ((a1[0]'h).toNat : Int) = bt a1 0 := bt_at a1 0; clear p6; have qi6 : (0 < (a1.size : Int)) = True := eq_true (of_decide_eq_true zz46); replace q6 := eq_true q6; go_enter Tryd.func46, Tryd.ntmps46
   go_wp2
   go_ret3
   exact ⟨zz40, zz21⟩
  rw [if_neg c5] at H; exact absurd H (by simp)
 rw [if_neg c3] at H; have c3b0 : (a0 == 1) = false := beq_eq_false_iff_ne.mpr c3; have c3b1 : (a0 != 1) = true := bne_iff_ne.mpr c3; by_cases c7 : a0 = 2
 ·
  rw [if_pos c7] at H; have c7b0 : (a0 == 2) = true := beq_iff_eq.mpr c7; have c7b1 : (a0 != 2) = false := bne_eq_false_iff_eq.mpr c7; clear c7; replace H := Option.bind_eq_some_iff.mp H; obtain ⟨⟨t355, t356⟩, A80, H⟩ := H; replace H : (some (AnyV.num t355, 2, t356)) = some (r1, r2, r3) := H; have A8 := Aside0.mk A80; clear A80; simp only [Option.some.injEq, Prod.mk.injEq] at H; obtain ⟨rfl, rfl, rfl⟩ := H; go_enter Tryd.func46, Tryd.ntmps46
  go_wp2_with (first | ((with_reducible refine gate_callee (f := 61) rfl ?_); refine goesL_ (some 36) rfl rfl Tryd.func61 zz49 rfl #[.string a1] rfl zz20 ?_; (with_reducible refine (vbi_TakeTwo.calls k a1 t355 t356 _ A8.out).mono ?_); rintro e w' ⟨rfl, ⟨nd, rfl⟩⟩; refine ⟨_, rfl, ?_⟩))
  go_ret3
  exact ⟨zz40, zz21⟩
 rw [if_neg c7] at H; have c7b0 : (a0 == 2) = false := beq_eq_false_iff_ne.mpr c7; have c7b1 : (a0 != 2) = true := bne_iff_ne.mpr c7; by_cases c9 : a0 = 3
 ·
  rw [if_pos c9] at H; have c9b0 : (a0 == 3) = true := beq_iff_eq.mpr c9; have c9b1 : (a0 != 3) = false := bne_eq_false_iff_eq.mpr c9; clear c9; replace H := Option.bind_eq_some_iff.mp H; obtain ⟨⟨t357, t358⟩, A100, H⟩ := H; replace H : (some (AnyV.num t357, 4, t358)) = some (r1, r2, r3) := H; have A10 := Aside0.mk A100; clear A100; simp only [Option.some.injEq, Prod.mk.injEq] at H; obtain ⟨rfl, rfl, rfl⟩ := H; go_enter Tryd.func46, Tryd.ntmps46
  go_wp2_with (first | ((with_reducible refine gate_callee (f := 62) rfl ?_); refine goesL_ (some 46) rfl rfl Tryd.func62 zz49 rfl #[.string a1] rfl zz20 ?_; (with_reducible refine (vbi_TakeFour.calls k a1 t357 t358 _ A10.out).mono ?_); rintro e w' ⟨rfl, ⟨nd, rfl⟩⟩; refine ⟨_, rfl, ?_⟩))
  go_ret3
  exact ⟨zz40, zz21⟩
 rw [if_neg c9] at H; have c9b0 : (a0 == 3) = false := beq_eq_false_iff_ne.mpr c9; have c9b1 : (a0 != 3) = true := bne_iff_ne.mpr c9; by_cases c11 : a0 = 4
 ·
  rw [if_pos c11] at H; have c11b0 : (a0 == 4) = true := beq_iff_eq.mpr c11; have c11b1 : (a0 != 4) = false := bne_eq_false_iff_eq.mpr c11; clear c11; replace H := Option.bind_eq_some_iff.mp H; obtain ⟨⟨t359, t360, t361⟩, A120, H⟩ := H; replace H : (some (AnyV.num t359, t360, t361)) = some (r1, r2, r3) := H; have A12 := Aside0.mk A120; clear A120; simp only [Option.some.injEq, Prod.mk.injEq] at H; obtain ⟨rfl, rfl, rfl⟩ := H; go_enter Tryd.func46, Tryd.ntmps46
  go_wp2_with (first | ((with_reducible refine gate_callee (f := 36) rfl ?_); refine goesL_ (some 56) rfl rfl Tryd.func36 zz49 rfl #[.string a1] rfl zz20 ?_; (with_reducible refine (vbi_TakeNum.calls k a1 t359 t360 t361 _ A12.out).mono ?_); rintro e w' ⟨rfl, ⟨nd, rfl⟩⟩; refine ⟨_, rfl, ?_⟩))
  go_ret3
  exact ⟨zz40, zz21⟩
 rw [if_neg c11] at H; have c11b0 : (a0 == 4) = false := beq_eq_false_iff_ne.mpr c11; have c11b1 : (a0 != 4) = true := bne_iff_ne.mpr c11; by_cases c13 : a0 = 5
 ·
  rw [if_pos c13] at H; have c13b0 : (a0 == 5) = true := beq_iff_eq.mpr c13; have c13b1 : (a0 != 5) = false := bne_eq_false_iff_eq.mpr c13; clear c13; replace H := Option.bind_eq_some_iff.mp H; obtain ⟨⟨t362, t363, t364⟩, A140, H⟩ := H; replace H : (some (AnyV.str t362, t363, t364)) = some (r1, r2, r3) := H; have A14 := Aside0.mk A140; clear A140; simp only [Option.some.injEq, Prod.mk.injEq] at H; obtain ⟨rfl, rfl, rfl⟩ := H; go_enter Tryd.func46, Tryd.ntmps46
  go_wp2_with (first | ((with_reducible refine gate_callee (f := 63) rfl ?_); refine goesL_ (some 68) rfl rfl Tryd.func63 zz49 rfl #[.string a1] rfl zz20 ?_; (with_reducible refine (vbi_TakeText.calls k a1 t362 t363 t364 _ zz6 A14.out).mono ?_); rintro e w15 ⟨rfl, hb⟩; refine ⟨_, rfl, ?_⟩; have n0_ := Aside0.mk (below_step zz21 hb); clear HB; have HB := n0_; clear n0_; (try clear hb); (try clear hb2); (try clear hk); (try clear hi)))
  go_ret3
  exact ⟨zz40, zz21⟩
 rw [if_neg c13] at H; have c13b0 : (a0 == 5) = false := beq_eq_false_iff_ne.mpr c13; have c13b1 : (a0 != 5) = true := bne_iff_ne.mpr c13; by_cases c16 : a0 = 6
 ·
  rw [if_pos c16] at H; have c16b0 : (a0 == 6) = true := beq_iff_eq.mpr c16; have c16b1 : (a0 != 6) = false := bne_eq_false_iff_eq.mpr c16; clear c16; replace H := Option.bind_eq_some_iff.mp H; obtain ⟨⟨t365, t366, t367⟩, A170, H⟩ := H; replace H : (some (AnyV.str t365, t366, t367)) = some (r1, r2, r3) := H; have A17 := Aside0.mk A170; clear A170; simp only [Option.some.injEq, Prod.mk.injEq] at H; obtain ⟨rfl, rfl, rfl⟩ := H; go_enter Tryd.func46, Tryd.ntmps46
  go_wp2_with (first | ((with_reducible refine gate_callee (f := 64) rfl ?_); refine goesL_ (some 80) rfl rfl Tryd.func64 zz49 rfl #[.string a1] rfl zz20 ?_; (with_reducible refine (vbi_TakeBin.calls k a1 t365 t366 t367 _ A17.out).mono ?_); rintro e w' ⟨rfl, ⟨nd, rfl⟩⟩; refine ⟨_, rfl, ?_⟩))
  go_ret3
  exact ⟨zz40, zz21⟩
 rw [if_neg c16] at H; have c16b0 : (a0 == 6) = false := beq_eq_false_iff_ne.mpr c16; have c16b1 : (a0 != 6) = true := bne_iff_ne.mpr c16; replace H := Option.bind_eq_some_iff.mp H; obtain ⟨⟨t368, t369, t370⟩, A180, H⟩ := H; replace H : (if t370 = 0 then (if 0 ≤ t369 then (if t369 ≤ (a1.size : Int) then ((vbi_TakeText.f k (a1.extract (t369 : Int).toNat a1.size)).bind fun bt371 => (some (AnyV.two t368 bt371.1, wrap64 (t369 + bt371.2.1), bt371.2.2))) else (none)) else (none)) else (some (AnyV.no, 0, t370))) = some (r1, r2, r3) := H; have A18 := Aside0.mk A180; clear A180; by_cases c19 : t370 = 0
 ·
  rw [if_pos c19] at H; have c19b0 : (t370 == 0) = true := beq_iff_eq.mpr c19; have c19b1 : (t370 != 0) = false := bne_eq_false_iff_eq.mpr c19; clear c19; by_cases c20 : 0 ≤ t369
  ·
   rw [if_pos c20] at H; have c20b0 := eq_true c20; have c20b1 : decide (0 ≤ t369) = true := decide_eq_true c20; clear c20; by_cases c21 : t369 ≤ (a1.size : Int)
   ·
    rw [if_pos c21] at H; have c21b0 := eq_true c21; have c21b1 : decide (t369 ≤ (a1.size : Int)) = true := decide_eq_true c21; clear c21; replace H := Option.bind_eq_some_iff.mp H; obtain ⟨⟨t371, t372, t373⟩, A220, H⟩ := H; replace H : (some (AnyV.two t368 t371, wrap64 (t369 + t372), t373)) = some (r1, r2, r3) := H; have A22 := Aside0.mk A220; clear A220; simp only [Option.some.injEq, Prod.mk.injEq] at H; obtain ⟨rfl, rfl, rfl⟩ := H; go_enter Tryd.func46, Tryd.ntmps46
    go_wp2_with (first | ((with_reducible refine gate_callee (f := 63) rfl ?_); refine goesL_ (some 90) rfl rfl Tryd.func63 zz49 rfl #[.string a1] rfl zz20 ?_; (with_reducible refine (vbi_TakeText.calls k a1 t368 t369 t370 _ zz6 A18.out).mono ?_); rintro e w23 ⟨rfl, hb⟩; refine ⟨_, rfl, ?_⟩; have n0_ := Aside0.mk (below_step zz21 hb); clear HB; have HB := n0_; clear n0_; (try clear hb); (try clear hb2); (try clear hk); (try clear hi)) | ((with_reducible refine gate_callee (f := 63) rfl ?_); refine goesL_ (some 101) rfl rfl Tryd.func63 zz49 rfl #[.string (a1.extract (t369 : Int).toNat a1.size)] rfl zz20 ?_; (with_reducible refine (vbi_TakeText.calls k (a1.extract (t369 : Int).toNat a1.size) t371 t372 t373 _ zz6 A22.out).mono ?_); rintro e w24 ⟨rfl, hb⟩; refine ⟨_, rfl, ?_⟩; have n0_ := Aside0.mk (below_step zz21 hb); clear HB; have HB := n0_; clear n0_; (try clear hb); (try clear hb2); (try clear hk); (try clear hi)))
    go_ret3
    exact ⟨zz40, zz21⟩
   rw [if_neg c21] at H; exact absurd H (by simp)
  rw [if_neg c20] at H; exact absurd H (by simp)
 rw [if_neg c19] at H; have c19b0 : (t370 == 0) = false := beq_eq_false_iff_ne.mpr c19; have c19b1 : (t370 != 0) = true := bne_iff_ne.mpr c19; simp only [Option.some.injEq, Prod.mk.injEq] at H; obtain ⟨rfl, rfl, rfl⟩ := H; go_enter Tryd.func46, Tryd.ntmps46
 go_wp2_with (first | ((with_reducible refine gate_callee (f := 63) rfl ?_); refine goesL_ (some 90) rfl rfl Tryd.func63 zz49 rfl #[.string a1] rfl zz20 ?_; (with_reducible refine (vbi_TakeText.calls k a1 t368 t369 t370 _ zz6 A18.out).mono ?_); rintro e w25 ⟨rfl, hb⟩; refine ⟨_, rfl, ?_⟩; have n0_ := Aside0.mk (below_step zz21 hb); clear HB; have HB := n0_; clear n0_; (try clear hb); (try clear hb2); (try clear hk); (try clear hi)))
 go_ret3
 exact ⟨zz40, zz21⟩
end Go.Proofs.YtiancopplinpcaaDoor.P
end
section
namespace Go.Proofs.YtiancopplinpcaaDoor.P
open Go.RowKit Go.Proofs.YtiancopplinpcaaDoorW.PrintWords Go.Proofs.YtiancopplinpcaaDoorW.PrintLast Go.Proofs.YtiancopplinpcaaDoorW.PrintMore
attribute [local go_sem] max2_int min2_int max_two min_two max_three min_three max_four min_four
set_option linter.unusedVariables false
set_option linter.unusedSimpArgs false
def prop_next.f (k : Nat) (a0 : ByteArray) : Option (Int × Int × ByteArray × ByteArray × Int × Int) := if 0 < (a0.size : Int) then ((prop_Kind.f k (wrap64 (bt a0 0))).bind fun bt375 => (if bt375.2 = 0 then (if 1 ≤ (a0.size : Int) then ((prop_read.f k bt375.1 (a0.extract 1 a0.size)).bind fun bt377 => (if bt377.2.2 = 0 then ((prop_with.f (wrap64 (bt a0 0)) bt377.1).bind fun bt380 => (some (bt380.1, bt380.2.1, bt380.2.2.1, bt380.2.2.2, wrap64 (1 + bt377.2.1), 0))) else (if bt377.2.2 = 2 then (some (0, 0, (⟨#[]⟩ : ByteArray), (⟨#[]⟩ : ByteArray), 0, bt377.2.2)) else (some (0, 0, (⟨#[]⟩ : ByteArray), (⟨#[]⟩ : ByteArray), 0, 8))))) else (none)) else (some (0, 0, (⟨#[]⟩ : ByteArray), (⟨#[]⟩ : ByteArray), 0, 8)))) else (none)
theorem prop_next.mono : ∀ a0 k, LeO (prop_next.f k a0) (prop_next.f (k + 1) a0) := by
 intro a0 k
 unfold prop_next.f; repeat' first
   | (with_reducible exact prop_Kind.mono _ _)
   | (with_reducible exact prop_read.mono _ _ _)
   | (with_reducible exact LeO.refl _)
   | (with_reducible exact LeO.none _)
   | (with_reducible refine LeO.ite ?_ ?_)
   | (with_reducible refine LeO.bind ?_ (fun _ => ?_))
   | exact prop_Kind.mono _ _
   | exact prop_read.mono _ _ _
   | exact LeO.none _
   | refine LeO.ite ?_ ?_
   | refine LeO.bind ?_ (fun _ => ?_)
set_option maxHeartbeats 8000000 in
set_option maxRecDepth 100000 in
theorem prop_next.calls (k : Nat) (a0 : ByteArray) (r1 : Int) (r2 : Int) (r3 : ByteArray) (r4 : ByteArray) (r5 : Int) (r6 : Int) (w : World) (HLAID : Laid w) (h : prop_next.f k a0 = some (r1, r2, r3, r4, r5, r6)) :
  Calls Tryd.prog 37 #[.string a0] w fun e w' => e = .returned (.tuple #[.agg #[.int .i64 r1, .int .i64 r2, .string r3, .string r4], .int .i64 r5, .int .i64 r6]) ∧ Below w.heap.size w w' := by
 have hu42 := Tryd.underlying42; have HB := Aside0.mk (Below.refl w.heap.size w); have H : (if 0 < (a0.size : Int) then ((prop_Kind.f k (wrap64 (bt a0 0))).bind fun bt375 => (if bt375.2 = 0 then (if 1 ≤ (a0.size : Int) then ((prop_read.f k bt375.1 (a0.extract 1 a0.size)).bind fun bt377 => (if bt377.2.2 = 0 then ((prop_with.f (wrap64 (bt a0 0)) bt377.1).bind fun bt380 => (some (bt380.1, bt380.2.1, bt380.2.2.1, bt380.2.2.2, wrap64 (1 + bt377.2.1), 0))) else (if bt377.2.2 = 2 then (some (0, 0, (⟨#[]⟩ : ByteArray), (⟨#[]⟩ : ByteArray), 0, bt377.2.2)) else (some (0, 0, (⟨#[]⟩ : ByteArray), (⟨#[]⟩ : ByteArray), 0, 8))))) else (none)) else (some (0, 0, (⟨#[]⟩ : ByteArray), (⟨#[]⟩ : ByteArray), 0, 8)))) else (none)) = some (r1, r2, r3, r4, r5, r6) := h; clear h; by_cases c2 : 0 < (a0.size : Int)
 ·
  rw [if_pos c2] at H; have c2b0 : decide (0 < (a0.size : Int)) = true := decide_eq_true c2; have c2b1 : decide (0 < a0.size) = true := decide_eq_true (by omega); clear c2; replace H := Option.bind_eq_some_iff.mp H; obtain ⟨⟨t375, t376⟩, A40, H⟩ := H; replace H : (if t376 = 0 then (if 1 ≤ (a0.size : Int) then ((prop_read.f k t375 (a0.extract 1 a0.size)).bind fun bt377 => (if bt377.2.2 = 0 then ((prop_with.f (wrap64 (bt a0 0)) bt377.1).bind fun bt380 => (some (bt380.1, bt380.2.1, bt380.2.2.1, bt380.2.2.2, wrap64 (1 + bt377.2.1), 0))) else (if bt377.2.2 = 2 then (some (0, 0, (⟨#[]⟩ : ByteArray), (⟨#[]⟩ : ByteArray), 0, bt377.2.2)) else (some (0, 0, (⟨#[]⟩ : ByteArray), (⟨#[]⟩ : ByteArray), 0, 8))))) else (none)) else (some (0, 0, (⟨#[]⟩ : ByteArray), (⟨#[]⟩ : ByteArray), 0, 8))) = some (r1, r2, r3, r4, r5, r6) := H; have A4 := Aside0.mk A40; clear A40; by_cases c5 : t376 = 0
  ·
   rw [if_pos c5] at H; have c5b0 : (t376 == 0) = true := beq_iff_eq.mpr c5; have c5b1 : (t376 != 0) = false := bne_eq_false_iff_eq.mpr c5; clear c5; by_cases c6 : 1 ≤ (a0.size : Int)
   ·
    rw [if_pos c6] at H; have c6b0 := eq_true c6; have c6b1 : decide (1 ≤ (a0.size : Int)) = true := decide_eq_true c6; clear c6; replace H := Option.bind_eq_some_iff.mp H; obtain ⟨⟨t377, t378, t379⟩, A70, H⟩ := H; replace H : (if t379 = 0 then ((prop_with.f (wrap64 (bt a0 0)) t377).bind fun bt380 => (some (bt380.1, bt380.2.1, bt380.2.2.1, bt380.2.2.2, wrap64 (1 + t378), 0))) else (if t379 = 2 then (some (0, 0, (⟨#[]⟩ : ByteArray), (⟨#[]⟩ : ByteArray), 0, t379)) else (some (0, 0, (⟨#[]⟩ : ByteArray), (⟨#[]⟩ : ByteArray), 0, 8)))) = some (r1, r2, r3, r4, r5, r6) := H; have A7 := Aside0.mk A70; clear A70; by_cases c8 : t379 = 0
    ·
     rw [if_pos c8] at H; have c8b0 : (t379 == 0) = true := beq_iff_eq.mpr c8; have c8b1 : (t379 != 0) = false := bne_eq_false_iff_eq.mpr c8; clear c8; replace H := Option.bind_eq_some_iff.mp H; obtain ⟨⟨t380, t381, t382, t383⟩, A100, H⟩ := H; replace H : (some (t380, t381, t382, t383, wrap64 (1 + t378), 0)) = some (r1, r2, r3, r4, r5, r6) := H; have A10 := Aside0.mk A100; clear A100; simp only [Option.some.injEq, Prod.mk.injEq] at H; obtain ⟨rfl, rfl, rfl, rfl, rfl, rfl⟩ := H; go_enter Tryd.func37, Tryd.ntmps37
     go_wp2_with (first | ((with_reducible refine gate_dst (N := 2) rfl ?_); refine box_event ?hg (N := 2) ?hd (cs := #[.int .i64 0, .int .i64 0, .string (⟨#[]⟩ : ByteArray), .string (⟨#[]⟩ : ByteArray)]) (t := 42) ?hr ?_; (case hd => rfl); (case hg => rfl); (case hr => first | (go_simp; done) | (go_simp; rfl)); intro gb374 hg w11 hbox hb; have n0_ := Aside0.mk (below_step zz21 hb); have n1_ := Aside0.mk (hbox); have n2_ := Aside0.mk ((by rw [hg]; exact (below_size zz21) : w.heap.size ≤ gb374)); have n3_ := Aside0.mk ((by rw [hg]; exact (below_size zz21) : w.heap.size ≤ gb374)); clear HB; have HB := n0_; have BK374 := n1_; have GW374 := n2_; have GE374 := n3_; clear n0_ n1_ n2_ n3_; clear hb hbox hg; have p3 : 0 ≤ (0 : Int) := (by omega); have q3 : 0 < a0.size := zz31; have hx3 : ∀ h : 0 < a0.size, ((a0[0]'h).toNat : Int) = bt a0 0 := bt_at a0 0; clear p3; have qi3 : (0 < (a0.size : Int)) = True := eq_true (of_decide_eq_true zz46); replace q3 := eq_true q3) | ((with_reducible refine gate_callee (f := 11) rfl ?_); refine goesL_ (some 11) rfl rfl Tryd.func11 zz49 rfl #[.int .i64 (wrap64 (bt a0 0))] rfl zz20 ?_; (with_reducible refine (prop_Kind.calls k (wrap64 (bt a0 0)) t375 t376 _ A4.out).mono ?_); rintro e w' ⟨rfl, ⟨nd, rfl⟩⟩; refine ⟨_, rfl, ?_⟩; (try (rw [drewN_self w11]; generalize hq_ : World.drewN w11 _ = w11; have n0_ : Aside0 (w11.heap[gb374]? = some (.cells #[.int .i64 0, .int .i64 0, .string (⟨#[]⟩ : ByteArray), .string (⟨#[]⟩ : ByteArray)] 42 (0, 0))) := ⟨zz17⟩; have n1_ : Aside0 (Below w.heap.size w w11) := ⟨zz5⟩; clear BK374 HB hq_; have BK374 := n0_; have HB := n1_; clear n0_ n1_))) | ((with_reducible refine gate_callee (f := 46) rfl ?_); refine goesL_ (some 21) rfl rfl Tryd.func46 zz49 rfl #[.int .i64 t375, .string (a0.extract 1 a0.size)] rfl zz20 ?_; (with_reducible refine (prop_read.calls k t375 (a0.extract 1 a0.size) t377 t378 t379 _ zz6 A7.out).mono ?_); rintro e w12 ⟨rfl, hb⟩; refine ⟨_, rfl, ?_⟩; have n0_ := Aside0.mk (blk_below (g := gb374) (o := .cells #[.int .i64 0, .int .i64 0, .string (⟨#[]⟩ : ByteArray), .string (⟨#[]⟩ : ByteArray)] 42 (0, 0)) zz24 hb); have n1_ := Aside0.mk (below_step zz9 hb); clear BK374; clear HB; have BK374 := n0_; have HB := n1_; clear n0_ n1_; (try clear hb); (try clear hb2); (try clear hk); (try clear hi); have p9 : 0 ≤ (0 : Int) := (by omega); have q9 : 0 < a0.size := zz31; have hx9 : ∀ h : 0 < a0.size, ((a0[0]'h).toNat : Int) = bt a0 0 := bt_at a0 0; clear p9; have qi9 : (0 < (a0.size : Int)) = True := eq_true (of_decide_eq_true zz46); replace q9 := eq_true q9) | ((with_reducible refine gate_callee (f := 47) rfl ?_); refine goesL_ (some 32) rfl rfl Tryd.func47 zz49 rfl #[.int .i64 (wrap64 (bt a0 0)), anyW t377] rfl zz20 ?_; (with_reducible refine (prop_with.calls (wrap64 (bt a0 0)) t377 t380 t381 t382 t383 _ A10.out).mono ?_); rintro e w13 ⟨rfl, hb⟩; refine ⟨_, rfl, ?_⟩; have n0_ := Aside0.mk (blk_below (g := gb374) (o := .cells #[.int .i64 0, .int .i64 0, .string (⟨#[]⟩ : ByteArray), .string (⟨#[]⟩ : ByteArray)] 42 (0, 0)) zz24 hb); have n1_ := Aside0.mk (below_step zz9 hb); clear BK374; clear HB; have BK374 := n0_; have HB := n1_; clear n0_ n1_; (try clear hb); (try clear hb2); (try clear hk); (try clear hi); have hcz14_0 : w13.cell? ⟨gb374, 0, none⟩ = some (.int .i64 0) := (blk_cell BK374.out 0).trans rfl; have hcz14_1 : w13.cell? ⟨gb374, 1, none⟩ = some (.int .i64 0) := (blk_cell BK374.out 1).trans rfl; have hcz14_2 : w13.cell? ⟨gb374, 2, none⟩ = some (.string (⟨#[]⟩ : ByteArray)) := (blk_cell BK374.out 2).trans rfl; have hcz14_3 : w13.cell? ⟨gb374, 3, none⟩ = some (.string (⟨#[]⟩ : ByteArray)) := (blk_cell BK374.out 3).trans rfl; have hfz14_0 := blk_frozen BK374.out 0; have hfz14_1 := blk_frozen BK374.out 1; have hfz14_2 := blk_frozen BK374.out 2; have hfz14_3 := blk_frozen BK374.out 3))
     refine bodyPost_ret (results_ctt rfl _ _ gb374 42 #[.int .i64 t380, .int .i64 t381, .string t382, .string t383] (0, 0) _ rfl (by (with_reducible repeat (first | refine blk_drewN ?_ _ | refine blk_drew ?_ | refine blk_alloc ?_ _)); refine blk_put (cs := #[.int .i64 t380, .int .i64 t381, .string t382, .string (⟨#[]⟩ : ByteArray)]) ?_ 3 _ rfl; (with_reducible repeat (first | refine blk_drewN ?_ _ | refine blk_drew ?_ | refine blk_alloc ?_ _)); refine blk_put (cs := #[.int .i64 t380, .int .i64 t381, .string (⟨#[]⟩ : ByteArray), .string (⟨#[]⟩ : ByteArray)]) ?_ 2 _ rfl; (with_reducible repeat (first | refine blk_drewN ?_ _ | refine blk_drew ?_ | refine blk_alloc ?_ _)); refine blk_put (cs := #[.int .i64 t380, .int .i64 0, .string (⟨#[]⟩ : ByteArray), .string (⟨#[]⟩ : ByteArray)]) ?_ 1 _ rfl; (with_reducible repeat (first | refine blk_drewN ?_ _ | refine blk_drew ?_ | refine blk_alloc ?_ _)); refine blk_put (cs := #[.int .i64 0, .int .i64 0, .string (⟨#[]⟩ : ByteArray), .string (⟨#[]⟩ : ByteArray)]) ?_ 0 _ rfl; (with_reducible repeat (first | refine blk_drewN ?_ _ | refine blk_drew ?_ | refine blk_alloc ?_ _)); exact BK374.out) Tryd.underlying42 rfl zz49) rfl ?_
     exact ⟨zz40, zz9⟩
    rw [if_neg c8] at H; have c8b0 : (t379 == 0) = false := beq_eq_false_iff_ne.mpr c8; have c8b1 : (t379 != 0) = true := bne_iff_ne.mpr c8; by_cases c15 : t379 = 2
    ·
     rw [if_pos c15] at H; have c15b0 : (t379 == 2) = true := beq_iff_eq.mpr c15; have c15b1 : (t379 != 2) = false := bne_eq_false_iff_eq.mpr c15; clear c15; simp only [Option.some.injEq, Prod.mk.injEq] at H; obtain ⟨rfl, rfl, rfl, rfl, rfl, rfl⟩ := H; go_enter Tryd.func37, Tryd.ntmps37
     go_wp2_with (first | ((with_reducible refine gate_dst (N := 2) rfl ?_); refine box_event ?hg (N := 2) ?hd (cs := #[.int .i64 0, .int .i64 0, .string (⟨#[]⟩ : ByteArray), .string (⟨#[]⟩ : ByteArray)]) (t := 42) ?hr ?_; (case hd => rfl); (case hg => rfl); (case hr => first | (go_simp; done) | (go_simp; rfl)); intro gb374 hg w16 hbox hb; have n0_ := Aside0.mk (below_step zz21 hb); have n1_ := Aside0.mk (hbox); have n2_ := Aside0.mk ((by rw [hg]; exact (below_size zz21) : w.heap.size ≤ gb374)); have n3_ := Aside0.mk ((by rw [hg]; exact (below_size zz21) : w.heap.size ≤ gb374)); clear HB; have HB := n0_; have BK374 := n1_; have GW374 := n2_; have GE374 := n3_; clear n0_ n1_ n2_ n3_; clear hb hbox hg; have p3 : 0 ≤ (0 : Int) := (by omega); have q3 : 0 < a0.size := zz31; have hx3 : ∀ h : 0 < a0.size, ((a0[0]'h).toNat : Int) = bt a0 0 := bt_at a0 0; clear p3; have qi3 : (0 < (a0.size : Int)) = True := eq_true (of_decide_eq_true zz46); replace q3 := eq_true q3) | ((with_reducible refine gate_callee (f := 11) rfl ?_); refine goesL_ (some 11) rfl rfl Tryd.func11 zz49 rfl #[.int .i64 (wrap64 (bt a0 0))] rfl zz20 ?_; (with_reducible refine (prop_Kind.calls k (wrap64 (bt a0 0)) t375 t376 _ A4.out).mono ?_); rintro e w' ⟨rfl, ⟨nd, rfl⟩⟩; refine ⟨_, rfl, ?_⟩; (try (rw [drewN_self w16]; generalize hq_ : World.drewN w16 _ = w16; have n0_ : Aside0 (w16.heap[gb374]? = some (.cells #[.int .i64 0, .int .i64 0, .string (⟨#[]⟩ : ByteArray), .string (⟨#[]⟩ : ByteArray)] 42 (0, 0))) := ⟨zz17⟩; have n1_ : Aside0 (Below w.heap.size w w16) := ⟨zz5⟩; clear BK374 HB hq_; have BK374 := n0_; have HB := n1_; clear n0_ n1_))) | ((with_reducible refine gate_callee (f := 46) rfl ?_); refine goesL_ (some 21) rfl rfl Tryd.func46 zz49 rfl #[.int .i64 t375, .string (a0.extract 1 a0.size)] rfl zz20 ?_; (with_reducible refine (prop_read.calls k t375 (a0.extract 1 a0.size) t377 t378 t379 _ zz6 A7.out).mono ?_); rintro e w17 ⟨rfl, hb⟩; refine ⟨_, rfl, ?_⟩; have n0_ := Aside0.mk (blk_below (g := gb374) (o := .cells #[.int .i64 0, .int .i64 0, .string (⟨#[]⟩ : ByteArray), .string (⟨#[]⟩ : ByteArray)] 42 (0, 0)) zz24 hb); have n1_ := Aside0.mk (below_step zz9 hb); clear BK374; clear HB; have BK374 := n0_; have HB := n1_; clear n0_ n1_; (try clear hb); (try clear hb2); (try clear hk); (try clear hi); have hcz18_0 : w17.cell? ⟨gb374, 0, none⟩ = some (.int .i64 0) := (blk_cell BK374.out 0).trans rfl; have hcz18_1 : w17.cell? ⟨gb374, 1, none⟩ = some (.int .i64 0) := (blk_cell BK374.out 1).trans rfl; have hcz18_2 : w17.cell? ⟨gb374, 2, none⟩ = some (.string (⟨#[]⟩ : ByteArray)) := (blk_cell BK374.out 2).trans rfl; have hcz18_3 : w17.cell? ⟨gb374, 3, none⟩ = some (.string (⟨#[]⟩ : ByteArray)) := (blk_cell BK374.out 3).trans rfl; have hfz18_0 := blk_frozen BK374.out 0; have hfz18_1 := blk_frozen BK374.out 1; have hfz18_2 := blk_frozen BK374.out 2; have hfz18_3 := blk_frozen BK374.out 3))
     refine bodyPost_ret (results_ctt rfl _ _ gb374 42 #[.int .i64 0, .int .i64 0, .string (⟨#[]⟩ : ByteArray), .string (⟨#[]⟩ : ByteArray)] (0, 0) _ rfl (by (with_reducible repeat (first | refine blk_drewN ?_ _ | refine blk_drew ?_ | refine blk_alloc ?_ _)); refine blk_put (cs := #[.int .i64 0, .int .i64 0, .string (⟨#[]⟩ : ByteArray), .string (⟨#[]⟩ : ByteArray)]) ?_ 3 _ rfl; (with_reducible repeat (first | refine blk_drewN ?_ _ | refine blk_drew ?_ | refine blk_alloc ?_ _)); refine blk_put (cs := #[.int .i64 0, .int .i64 0, .string (⟨#[]⟩ : ByteArray), .string (⟨#[]⟩ : ByteArray)]) ?_ 2 _ rfl; (with_reducible repeat (first | refine blk_drewN ?_ _ | refine blk_drew ?_ | refine blk_alloc ?_ _)); refine blk_put (cs := #[.int .i64 0, .int .i64 0, .string (⟨#[]⟩ : ByteArray), .string (⟨#[]⟩ : ByteArray)]) ?_ 1 _ rfl; (with_reducible repeat (first | refine blk_drewN ?_ _ | refine blk_drew ?_ | refine blk_alloc ?_ _)); refine blk_put (cs := #[.int .i64 0, .int .i64 0, .string (⟨#[]⟩ : ByteArray), .string (⟨#[]⟩ : ByteArray)]) ?_ 0 _ rfl; (with_reducible repeat (first | refine blk_drewN ?_ _ | refine blk_drew ?_ | refine blk_alloc ?_ _)); exact BK374.out) Tryd.underlying42 rfl zz49) rfl ?_
     exact ⟨zz40, zz9⟩
    rw [if_neg c15] at H; have c15b0 : (t379 == 2) = false := beq_eq_false_iff_ne.mpr c15; have c15b1 : (t379 != 2) = true := bne_iff_ne.mpr c15; simp only [Option.some.injEq, Prod.mk.injEq] at H; obtain ⟨rfl, rfl, rfl, rfl, rfl, rfl⟩ := H; go_enter Tryd.func37, Tryd.ntmps37
    go_wp2_with (first | ((with_reducible refine gate_dst (N := 2) rfl ?_); refine box_event ?hg (N := 2) ?hd (cs := #[.int .i64 0, .int .i64 0, .string (⟨#[]⟩ : ByteArray), .string (⟨#[]⟩ : ByteArray)]) (t := 42) ?hr ?_; (case hd => rfl); (case hg => rfl); (case hr => first | (go_simp; done) | (go_simp; rfl)); intro gb374 hg w19 hbox hb; have n0_ := Aside0.mk (below_step zz21 hb); have n1_ := Aside0.mk (hbox); have n2_ := Aside0.mk ((by rw [hg]; exact (below_size zz21) : w.heap.size ≤ gb374)); have n3_ := Aside0.mk ((by rw [hg]; exact (below_size zz21) : w.heap.size ≤ gb374)); clear HB; have HB := n0_; have BK374 := n1_; have GW374 := n2_; have GE374 := n3_; clear n0_ n1_ n2_ n3_; clear hb hbox hg; have p3 : 0 ≤ (0 : Int) := (by omega); have q3 : 0 < a0.size := zz31; have hx3 : ∀ h : 0 < a0.size, ((a0[0]'h).toNat : Int) = bt a0 0 := bt_at a0 0; clear p3; have qi3 : (0 < (a0.size : Int)) = True := eq_true (of_decide_eq_true zz46); replace q3 := eq_true q3) | ((with_reducible refine gate_callee (f := 11) rfl ?_); refine goesL_ (some 11) rfl rfl Tryd.func11 zz49 rfl #[.int .i64 (wrap64 (bt a0 0))] rfl zz20 ?_; (with_reducible refine (prop_Kind.calls k (wrap64 (bt a0 0)) t375 t376 _ A4.out).mono ?_); rintro e w' ⟨rfl, ⟨nd, rfl⟩⟩; refine ⟨_, rfl, ?_⟩; (try (rw [drewN_self w19]; generalize hq_ : World.drewN w19 _ = w19; have n0_ : Aside0 (w19.heap[gb374]? = some (.cells #[.int .i64 0, .int .i64 0, .string (⟨#[]⟩ : ByteArray), .string (⟨#[]⟩ : ByteArray)] 42 (0, 0))) := ⟨zz17⟩; have n1_ : Aside0 (Below w.heap.size w w19) := ⟨zz5⟩; clear BK374 HB hq_; have BK374 := n0_; have HB := n1_; clear n0_ n1_))) | ((with_reducible refine gate_callee (f := 46) rfl ?_); refine goesL_ (some 21) rfl rfl Tryd.func46 zz49 rfl #[.int .i64 t375, .string (a0.extract 1 a0.size)] rfl zz20 ?_; (with_reducible refine (prop_read.calls k t375 (a0.extract 1 a0.size) t377 t378 t379 _ zz6 A7.out).mono ?_); rintro e w20 ⟨rfl, hb⟩; refine ⟨_, rfl, ?_⟩; have n0_ := Aside0.mk (blk_below (g := gb374) (o := .cells #[.int .i64 0, .int .i64 0, .string (⟨#[]⟩ : ByteArray), .string (⟨#[]⟩ : ByteArray)] 42 (0, 0)) zz24 hb); have n1_ := Aside0.mk (below_step zz9 hb); clear BK374; clear HB; have BK374 := n0_; have HB := n1_; clear n0_ n1_; (try clear hb); (try clear hb2); (try clear hk); (try clear hi); have hcz21_0 : w20.cell? ⟨gb374, 0, none⟩ = some (.int .i64 0) := (blk_cell BK374.out 0).trans rfl; have hcz21_1 : w20.cell? ⟨gb374, 1, none⟩ = some (.int .i64 0) := (blk_cell BK374.out 1).trans rfl; have hcz21_2 : w20.cell? ⟨gb374, 2, none⟩ = some (.string (⟨#[]⟩ : ByteArray)) := (blk_cell BK374.out 2).trans rfl; have hcz21_3 : w20.cell? ⟨gb374, 3, none⟩ = some (.string (⟨#[]⟩ : ByteArray)) := (blk_cell BK374.out 3).trans rfl; have hfz21_0 := blk_frozen BK374.out 0; have hfz21_1 := blk_frozen BK374.out 1; have hfz21_2 := blk_frozen BK374.out 2; have hfz21_3 := blk_frozen BK374.out 3))
    refine bodyPost_ret (results_ctt rfl _ _ gb374 42 #[.int .i64 0, .int .i64 0, .string (⟨#[]⟩ : ByteArray), .string (⟨#[]⟩ : ByteArray)] (0, 0) _ rfl (by (with_reducible repeat (first | refine blk_drewN ?_ _ | refine blk_drew ?_ | refine blk_alloc ?_ _)); refine blk_put (cs := #[.int .i64 0, .int .i64 0, .string (⟨#[]⟩ : ByteArray), .string (⟨#[]⟩ : ByteArray)]) ?_ 3 _ rfl; (with_reducible repeat (first | refine blk_drewN ?_ _ | refine blk_drew ?_ | refine blk_alloc ?_ _)); refine blk_put (cs := #[.int .i64 0, .int .i64 0, .string (⟨#[]⟩ : ByteArray), .string (⟨#[]⟩ : ByteArray)]) ?_ 2 _ rfl; (with_reducible repeat (first | refine blk_drewN ?_ _ | refine blk_drew ?_ | refine blk_alloc ?_ _)); refine blk_put (cs := #[.int .i64 0, .int .i64 0, .string (⟨#[]⟩ : ByteArray), .string (⟨#[]⟩ : ByteArray)]) ?_ 1 _ rfl; (with_reducible repeat (first | refine blk_drewN ?_ _ | refine blk_drew ?_ | refine blk_alloc ?_ _)); refine blk_put (cs := #[.int .i64 0, .int .i64 0, .string (⟨#[]⟩ : ByteArray), .string (⟨#[]⟩ : ByteArray)]) ?_ 0 _ rfl; (with_reducible repeat (first | refine blk_drewN ?_ _ | refine blk_drew ?_ | refine blk_alloc ?_ _)); exact BK374.out) Tryd.underlying42 rfl zz49) rfl ?_
    exact ⟨zz40, zz9⟩
   rw [if_neg c6] at H; exact absurd H (by simp)
  rw [if_neg c5] at H; have c5b0 : (t376 == 0) = false := beq_eq_false_iff_ne.mpr c5; have c5b1 : (t376 != 0) = true := bne_iff_ne.mpr c5; simp only [Option.some.injEq, Prod.mk.injEq] at H; obtain ⟨rfl, rfl, rfl, rfl, rfl, rfl⟩ := H; go_enter Tryd.func37, Tryd.ntmps37
  go_wp2_with (first | ((with_reducible refine gate_dst (N := 2) rfl ?_); refine box_event ?hg (N := 2) ?hd (cs := #[.int .i64 0, .int .i64 0, .string (⟨#[]⟩ : ByteArray), .string (⟨#[]⟩ : ByteArray)]) (t := 42) ?hr ?_; (case hd => rfl); (case hg => rfl); (case hr => first | (go_simp; done) | (go_simp; rfl)); intro gb374 hg w22 hbox hb; have n0_ := Aside0.mk (below_step zz21 hb); have n1_ := Aside0.mk (hbox); have n2_ := Aside0.mk ((by rw [hg]; exact (below_size zz21) : w.heap.size ≤ gb374)); have n3_ := Aside0.mk ((by rw [hg]; exact (below_size zz21) : w.heap.size ≤ gb374)); clear HB; have HB := n0_; have BK374 := n1_; have GW374 := n2_; have GE374 := n3_; clear n0_ n1_ n2_ n3_; clear hb hbox hg; have p3 : 0 ≤ (0 : Int) := (by omega); have q3 : 0 < a0.size := zz31; have hx3 : ∀ h : 0 < a0.size, ((a0[0]'h).toNat : Int) = bt a0 0 := bt_at a0 0; clear p3; have qi3 : (0 < (a0.size : Int)) = True := eq_true (of_decide_eq_true zz46); replace q3 := eq_true q3) | ((with_reducible refine gate_callee (f := 11) rfl ?_); refine goesL_ (some 11) rfl rfl Tryd.func11 zz49 rfl #[.int .i64 (wrap64 (bt a0 0))] rfl zz20 ?_; (with_reducible refine (prop_Kind.calls k (wrap64 (bt a0 0)) t375 t376 _ A4.out).mono ?_); rintro e w' ⟨rfl, ⟨nd, rfl⟩⟩; refine ⟨_, rfl, ?_⟩; (try (rw [drewN_self w22]; generalize hq_ : World.drewN w22 _ = w22; have n0_ : Aside0 (w22.heap[gb374]? = some (.cells #[.int .i64 0, .int .i64 0, .string (⟨#[]⟩ : ByteArray), .string (⟨#[]⟩ : ByteArray)] 42 (0, 0))) := ⟨zz17⟩; have n1_ : Aside0 (Below w.heap.size w w22) := ⟨zz5⟩; clear BK374 HB hq_; have BK374 := n0_; have HB := n1_; clear n0_ n1_)); have hcz23_0 : w22.cell? ⟨gb374, 0, none⟩ = some (.int .i64 0) := (blk_cell BK374.out 0).trans rfl; have hcz23_1 : w22.cell? ⟨gb374, 1, none⟩ = some (.int .i64 0) := (blk_cell BK374.out 1).trans rfl; have hcz23_2 : w22.cell? ⟨gb374, 2, none⟩ = some (.string (⟨#[]⟩ : ByteArray)) := (blk_cell BK374.out 2).trans rfl; have hcz23_3 : w22.cell? ⟨gb374, 3, none⟩ = some (.string (⟨#[]⟩ : ByteArray)) := (blk_cell BK374.out 3).trans rfl; have hfz23_0 := blk_frozen BK374.out 0; have hfz23_1 := blk_frozen BK374.out 1; have hfz23_2 := blk_frozen BK374.out 2; have hfz23_3 := blk_frozen BK374.out 3))
  refine bodyPost_ret (results_ctt rfl _ _ gb374 42 #[.int .i64 0, .int .i64 0, .string (⟨#[]⟩ : ByteArray), .string (⟨#[]⟩ : ByteArray)] (0, 0) _ rfl (by (with_reducible repeat (first | refine blk_drewN ?_ _ | refine blk_drew ?_ | refine blk_alloc ?_ _)); refine blk_put (cs := #[.int .i64 0, .int .i64 0, .string (⟨#[]⟩ : ByteArray), .string (⟨#[]⟩ : ByteArray)]) ?_ 3 _ rfl; (with_reducible repeat (first | refine blk_drewN ?_ _ | refine blk_drew ?_ | refine blk_alloc ?_ _)); refine blk_put (cs := #[.int .i64 0, .int .i64 0, .string (⟨#[]⟩ : ByteArray), .string (⟨#[]⟩ : ByteArray)]) ?_ 2 _ rfl; (with_reducible repeat (first | refine blk_drewN ?_ _ | refine blk_drew ?_ | refine blk_alloc ?_ _)); refine blk_put (cs := #[.int .i64 0, .int .i64 0, .string (⟨#[]⟩ : ByteArray), .string (⟨#[]⟩ : ByteArray)]) ?_ 1 _ rfl; (with_reducible repeat (first | refine blk_drewN ?_ _ | refine blk_drew ?_ | refine blk_alloc ?_ _)); refine blk_put (cs := #[.int .i64 0, .int .i64 0, .string (⟨#[]⟩ : ByteArray), .string (⟨#[]⟩ : ByteArray)]) ?_ 0 _ rfl; (with_reducible repeat (first | refine blk_drewN ?_ _ | refine blk_drew ?_ | refine blk_alloc ?_ _)); exact BK374.out) Tryd.underlying42 rfl zz49) rfl ?_
  exact ⟨zz40, zz9⟩
 rw [if_neg c2] at H; exact absurd H (by simp)
def prop_Take.l0 : Nat → Int → List (S42) → Int → Int → ByteArray → Option ((List (S42)) × Int × Int)
  | 0, _, _, _, _, _ => none
  | k + 1, x0, x4, x5, x9, x10 => if x10.toList = ([] : List UInt8) then (some (x4, wrap64 (x5 + x9), 0)) else ((prop_next.f k x10).bind fun bt391 => (if bt391.2.2.2.2.2 = 0 then ((prop_fits.f k x0 x4 bt391.1 bt391.2.1 bt391.2.2.1 bt391.2.2.2.1).bind fun t398 => (if t398 = true then (if (x4.length : Int) = 8 then (some (([] : List (S42)), 0, 2)) else (if x4.length < 2932031007402 then (if 0 ≤ bt391.2.2.2.2.1 then (if bt391.2.2.2.2.1 ≤ (x10.size : Int) then (prop_Take.l0 k x0 (x4 ++ [(⟨bt391.1, bt391.2.1, bt391.2.2.1, bt391.2.2.2.1⟩ : S42)]) x5 x9 (x10.extract (bt391.2.2.2.2.1 : Int).toNat x10.size)) else (none)) else (none)) else (none))) else (some (([] : List (S42)), 0, 9)))) else (some (([] : List (S42)), 0, bt391.2.2.2.2.2))))
def prop_Take.f (k : Nat) (a0 : Int) (a1 : ByteArray) : Option ((List (S42)) × Int × Int) := (prop_stands.f k a0).bind fun bt384 => (if bt384.2 = true then ((vbi_TakeNum.f k a1).bind fun bt388 => (if bt388.2.2 = 0 then (if bt388.1 > (wrap64 ((a1.size : Int) - bt388.2.1)) then (some (([] : List (S42)), 0, 7)) else (if 0 ≤ bt388.2.1 then (if bt388.2.1 ≤ (wrap64 (bt388.2.1 + bt388.1)) then (if (wrap64 (bt388.2.1 + bt388.1)) ≤ (a1.size : Int) then (prop_Take.l0 k a0 ([] : List (S42)) bt388.2.1 bt388.1 (a1.extract (bt388.2.1 : Int).toNat ((wrap64 (bt388.2.1 + bt388.1)) : Int).toNat)) else (none)) else (none)) else (none))) else (some (([] : List (S42)), 0, bt388.2.2)))) else (some (([] : List (S42)), 0, 1)))
theorem prop_Take.mono_l : ∀ k, (∀ y0 y1 y2 y3 y4, LeO (prop_Take.l0 k y0 y1 y2 y3 y4) (prop_Take.l0 (k + 1) y0 y1 y2 y3 y4))
 | 0 => fun _ _ _ _ _ r h => by simp [prop_Take.l0] at h
 | k + 1 => by
  have ih0 := prop_Take.mono_l k
  ·
   intro y0 y1 y2 y3 y4
   unfold prop_Take.l0; repeat' first
   | (with_reducible exact ih0 _ _ _ _ _)
   | (with_reducible exact prop_fits.mono _ _ _ _ _ _ _)
   | (with_reducible exact prop_next.mono _ _)
   | (with_reducible exact prop_stands.mono _ _)
   | (with_reducible exact vbi_TakeNum.mono _ _)
   | (with_reducible exact LeO.refl _)
   | (with_reducible exact LeO.none _)
   | (with_reducible refine LeO.ite ?_ ?_)
   | (with_reducible refine LeO.bind ?_ (fun _ => ?_))
   | exact ih0 _ _ _ _ _
   | exact prop_fits.mono _ _ _ _ _ _ _
   | exact prop_next.mono _ _
   | exact prop_stands.mono _ _
   | exact vbi_TakeNum.mono _ _
   | exact LeO.none _
   | refine LeO.ite ?_ ?_
   | refine LeO.bind ?_ (fun _ => ?_)
theorem prop_Take.mono : ∀ a0 a1 k, LeO (prop_Take.f k a0 a1) (prop_Take.f (k + 1) a0 a1) := by
 intro a0 a1 k
 have ih0 := prop_Take.mono_l k; unfold prop_Take.f; repeat' first
   | (with_reducible exact ih0 _ _ _ _ _)
   | (with_reducible exact prop_fits.mono _ _ _ _ _ _ _)
   | (with_reducible exact prop_next.mono _ _)
   | (with_reducible exact prop_stands.mono _ _)
   | (with_reducible exact vbi_TakeNum.mono _ _)
   | (with_reducible exact LeO.refl _)
   | (with_reducible exact LeO.none _)
   | (with_reducible refine LeO.ite ?_ ?_)
   | (with_reducible refine LeO.bind ?_ (fun _ => ?_))
   | exact ih0 _ _ _ _ _
   | exact prop_fits.mono _ _ _ _ _ _ _
   | exact prop_next.mono _ _
   | exact prop_stands.mono _ _
   | exact vbi_TakeNum.mono _ _
   | exact LeO.none _
   | refine LeO.ite ?_ ?_
   | refine LeO.bind ?_ (fun _ => ?_)
def prop_Take.T18 : Bool × List (List Nat × List Nat) := (true, [([], []), ([], []), ([1], [1]), ([0, 2], [0, 2]), ([], []), ([], []), ([4, 5], [4, 5]), ([3, 3, 0, 1, 2, 3], [0, 3]), ([6, 7, 0, 1, 2, 3, 4, 5, 6, 7], [4, 6])])
def prop_Take.B18 : List Nat := [0, 0, 2, 7, 0, 0, 48, 15, 255]
theorem prop_Take.tab18 : rtab .any (opsOf Tryd.f22 18) = prop_Take.T18 := by kernel_rfl
theorem prop_Take.bits18 : waitsOk prop_Take.T18.2 prop_Take.B18 = true := by kernel_rfl
set_option maxHeartbeats 8000000 in
set_option maxRecDepth 100000 in
theorem prop_Take.calls (k : Nat) (a0 : Int) (a1 : ByteArray) (r1 : List (S42)) (r2 : Int) (r3 : Int) (w : World) (HLAID : Laid w) (h : prop_Take.f k a0 a1 = some (r1, r2, r3)) :
  Calls Tryd.prog 22 #[.int .i64 a0, .string a1] w fun e w' => ∃ v0_ : Value, e = .returned (.tuple #[v0_, .int .i64 r2, .int .i64 r3]) ∧ Kd.R k42 42 w' w.heap.size (fun _ => True) v0_ r1 ∧ Below w.heap.size w w' := by
 have hu42 := Tryd.underlying42; have HB := Aside0.mk (Below.refl w.heap.size w); have H : ((prop_stands.f k a0).bind fun bt384 => (if bt384.2 = true then ((vbi_TakeNum.f k a1).bind fun bt388 => (if bt388.2.2 = 0 then (if bt388.1 > (wrap64 ((a1.size : Int) - bt388.2.1)) then (some (([] : List (S42)), 0, 7)) else (if 0 ≤ bt388.2.1 then (if bt388.2.1 ≤ (wrap64 (bt388.2.1 + bt388.1)) then (if (wrap64 (bt388.2.1 + bt388.1)) ≤ (a1.size : Int) then (prop_Take.l0 k a0 ([] : List (S42)) bt388.2.1 bt388.1 (a1.extract (bt388.2.1 : Int).toNat ((wrap64 (bt388.2.1 + bt388.1)) : Int).toNat)) else (none)) else (none)) else (none))) else (some (([] : List (S42)), 0, bt388.2.2)))) else (some (([] : List (S42)), 0, 1)))) = some (r1, r2, r3) := h; clear h; replace H := Option.bind_eq_some_iff.mp H; obtain ⟨⟨t384, t385⟩, A30, H⟩ := H; replace H : (if t385 = true then ((vbi_TakeNum.f k a1).bind fun bt388 => (if bt388.2.2 = 0 then (if bt388.1 > (wrap64 ((a1.size : Int) - bt388.2.1)) then (some (([] : List (S42)), 0, 7)) else (if 0 ≤ bt388.2.1 then (if bt388.2.1 ≤ (wrap64 (bt388.2.1 + bt388.1)) then (if (wrap64 (bt388.2.1 + bt388.1)) ≤ (a1.size : Int) then (prop_Take.l0 k a0 ([] : List (S42)) bt388.2.1 bt388.1 (a1.extract (bt388.2.1 : Int).toNat ((wrap64 (bt388.2.1 + bt388.1)) : Int).toNat)) else (none)) else (none)) else (none))) else (some (([] : List (S42)), 0, bt388.2.2)))) else (some (([] : List (S42)), 0, 1))) = some (r1, r2, r3) := H; have A3 := Aside0.mk A30; clear A30; by_cases c4 : t385 = true
 ·
  subst c4; have H1 : ((vbi_TakeNum.f k a1).bind fun bt388 => (if bt388.2.2 = 0 then (if bt388.1 > (wrap64 ((a1.size : Int) - bt388.2.1)) then (some (([] : List (S42)), 0, 7)) else (if 0 ≤ bt388.2.1 then (if bt388.2.1 ≤ (wrap64 (bt388.2.1 + bt388.1)) then (if (wrap64 (bt388.2.1 + bt388.1)) ≤ (a1.size : Int) then (prop_Take.l0 k a0 ([] : List (S42)) bt388.2.1 bt388.1 (a1.extract (bt388.2.1 : Int).toNat ((wrap64 (bt388.2.1 + bt388.1)) : Int).toNat)) else (none)) else (none)) else (none))) else (some (([] : List (S42)), 0, bt388.2.2)))) = some (r1, r2, r3) := by rw [if_pos rfl] at H; exact H
  clear H; have H := H1; clear H1; replace H := Option.bind_eq_some_iff.mp H; obtain ⟨⟨t388, t389, t390⟩, A50, H⟩ := H; replace H : (if t390 = 0 then (if t388 > (wrap64 ((a1.size : Int) - t389)) then (some (([] : List (S42)), 0, 7)) else (if 0 ≤ t389 then (if t389 ≤ (wrap64 (t389 + t388)) then (if (wrap64 (t389 + t388)) ≤ (a1.size : Int) then (prop_Take.l0 k a0 ([] : List (S42)) t389 t388 (a1.extract (t389 : Int).toNat ((wrap64 (t389 + t388)) : Int).toNat)) else (none)) else (none)) else (none))) else (some (([] : List (S42)), 0, t390))) = some (r1, r2, r3) := H; have A5 := Aside0.mk A50; clear A50; by_cases c6 : t390 = 0
  ·
   rw [if_pos c6] at H; have c6b0 : (t390 == 0) = true := beq_iff_eq.mpr c6; have c6b1 : (t390 != 0) = false := bne_eq_false_iff_eq.mpr c6; clear c6; by_cases c7 : t388 > (wrap64 ((a1.size : Int) - t389))
   ·
    rw [if_pos c7] at H; have c7b0 : decide ((wrap64 ((a1.size : Int) - t389)) < t388) = true := decide_eq_true c7; clear c7; simp only [Option.some.injEq, Prod.mk.injEq] at H; obtain ⟨rfl, rfl, rfl⟩ := H; go_enter Tryd.func22, Tryd.ntmps22
    go_wp2_with (first | ((with_reducible refine gate_callee (f := 35) rfl ?_); refine goesL_ (some 16) rfl rfl Tryd.func35 zz49 rfl #[.int .i64 a0] rfl zz20 ?_; (with_reducible refine (prop_stands.calls k a0 t384 true _ A3.out).mono ?_); rintro e w8 ⟨v386, rfl, ho0, hb⟩; refine ⟨_, rfl, ?_⟩; have n0_ := Aside0.mk (Kd.R_lower ho0 (below_size zz21)); have n1_ := Aside0.mk (below_step zz21 hb); clear HB; have HO387 := n0_; have HB := n1_; clear n0_ n1_; (try clear hb); (try clear hb2); (try clear hk); (try clear hi); (try clear ho0)) | ((with_reducible refine gate_callee (f := 36) rfl ?_); refine goesL_ (some 23) rfl rfl Tryd.func36 zz49 rfl #[.string a1] rfl zz20 ?_; (with_reducible refine (vbi_TakeNum.calls k a1 t388 t389 t390 _ A5.out).mono ?_); rintro e w' ⟨rfl, ⟨nd, rfl⟩⟩; refine ⟨_, rfl, ?_⟩))
    go_ret3
    exact ⟨_, zz40, zz16, zz21⟩
   rw [if_neg c7] at H; have c7b0 : decide ((wrap64 ((a1.size : Int) - t389)) < t388) = false := decide_eq_false c7; clear c7; by_cases c9 : 0 ≤ t389
   ·
    rw [if_pos c9] at H; have c9b0 := eq_true c9; have c9b1 : decide (0 ≤ t389) = true := decide_eq_true c9; clear c9; by_cases c10 : t389 ≤ (wrap64 (t389 + t388))
    ·
     rw [if_pos c10] at H; have c10b0 := eq_true c10; have c10b1 : decide (t389 ≤ (wrap64 (t389 + t388))) = true := decide_eq_true c10; by_cases c11 : (wrap64 (t389 + t388)) ≤ (a1.size : Int)
     ·
      rw [if_pos c11] at H; have c11b0 := eq_true c11; have c11b1 : decide ((wrap64 (t389 + t388)) ≤ (a1.size : Int)) = true := decide_eq_true c11; have H' := Aside0.mk H; clear H; go_enter Tryd.func22, Tryd.ntmps22
      go_wp2_with (first | ((with_reducible refine gate_callee (f := 35) rfl ?_); refine goesL_ (some 16) rfl rfl Tryd.func35 zz49 rfl #[.int .i64 a0] rfl zz20 ?_; (with_reducible refine (prop_stands.calls k a0 t384 true _ A3.out).mono ?_); rintro e w12 ⟨v386, rfl, ho0, hb⟩; refine ⟨_, rfl, ?_⟩; have n0_ := Aside0.mk (Kd.R_lower ho0 (below_size zz21)); have n1_ := Aside0.mk (below_step zz21 hb); clear HB; have HO387 := n0_; have HB := n1_; clear n0_ n1_; (try clear hb); (try clear hb2); (try clear hk); (try clear hi); (try clear ho0)) | ((with_reducible refine gate_callee (f := 36) rfl ?_); refine goesL_ (some 23) rfl rfl Tryd.func36 zz49 rfl #[.string a1] rfl zz20 ?_; (with_reducible refine (vbi_TakeNum.calls k a1 t388 t389 t390 _ A5.out).mono ?_); rintro e w' ⟨rfl, ⟨nd, rfl⟩⟩; refine ⟨_, rfl, ?_⟩))
      go_loopg [4, 5, 10] k (fun kq v4 v5 v10 w' => ∃ (x4_1 : List (S42)) (x5_1 : Int) (x10_1 : ByteArray), v5 = .int .i64 x5_1 ∧ v10 = .string x10_1 ∧ Aside0 (prop_Take.l0 kq a0 x4_1 x5_1 t388 x10_1 = some (r1, r2, r3)) ∧ Aside0 (kq ≤ k) ∧ Aside0 (Kd.R k42 42 w' w.heap.size (fun _ => True) v4 x4_1) ∧ Aside0 (Below w.heap.size w w'))
      case atStart => exact ⟨(([] : List (S42))), (t389), (a1.extract (t389 : Int).toNat ((wrap64 (t389 + t388)) : Int).toNat), zz47, zz47, H', ⟨Nat.le_refl _⟩, ⟨zz16⟩, ⟨zz21⟩⟩
      case round =>
       clear H'; (try clear c1); (try clear c2); (try clear p2); (try clear c3); (try clear c4); (try clear c6); (try clear c6b0); (try clear c6b1); (try clear p6); (try clear c7); (try clear c7b0); (try clear c9); (try clear c9b0); (try clear c9b1); (try clear c10); (try clear c10b0); (try clear c10b1); (try clear c11); (try clear c11b0); (try clear c11b1); obtain ⟨x4_1, x5_1, x10_1, rfl, rfl, HA, HK1, HO_4, HB⟩ := hrel; cases gk with
       | zero => exact absurd HA.out (by simp [prop_Take.l0])
       | succ k1 =>
        have H := HA.out; clear HA; simp only [prop_Take.l0] at H; by_cases c13 : x10_1.toList = ([] : List UInt8)
        ·
         rw [if_pos c13] at H; have c13b0 : (x10_1.toList == ([] : List UInt8)) = true := beq_iff_eq.mpr c13; have c13b1 : (x10_1.toList != ([] : List UInt8)) = false := bne_eq_false_iff_eq.mpr c13; clear c13; simp only [Option.some.injEq, Prod.mk.injEq] at H; obtain ⟨rfl, rfl, rfl⟩ := H; go_wp2
         go_ret3
         exact ⟨_, zz40, zz38, zz21⟩
        rw [if_neg c13] at H; have c13b0 : (x10_1.toList == ([] : List UInt8)) = false := beq_eq_false_iff_ne.mpr c13; have c13b1 : (x10_1.toList != ([] : List UInt8)) = true := bne_iff_ne.mpr c13; replace H := Option.bind_eq_some_iff.mp H; obtain ⟨⟨t391, t392, t393, t394, t395, t396⟩, A140, H⟩ := H; replace H : (if t396 = 0 then ((prop_fits.f k1 a0 x4_1 t391 t392 t393 t394).bind fun t398 => (if t398 = true then (if (x4_1.length : Int) = 8 then (some (([] : List (S42)), 0, 2)) else (if x4_1.length < 2932031007402 then (if 0 ≤ t395 then (if t395 ≤ (x10_1.size : Int) then (prop_Take.l0 k1 a0 (x4_1 ++ [(⟨t391, t392, t393, t394⟩ : S42)]) x5_1 t388 (x10_1.extract (t395 : Int).toNat x10_1.size)) else (none)) else (none)) else (none))) else (some (([] : List (S42)), 0, 9)))) else (some (([] : List (S42)), 0, t396))) = some (r1, r2, r3) := H; have A14 := Aside0.mk A140; clear A140; by_cases c15 : t396 = 0
        ·
         rw [if_pos c15] at H; have c15b0 : (t396 == 0) = true := beq_iff_eq.mpr c15; have c15b1 : (t396 != 0) = false := bne_eq_false_iff_eq.mpr c15; clear c15; replace H := Option.bind_eq_some_iff.mp H; obtain ⟨t398, A160, H⟩ := H; replace H : (if t398 = true then (if (x4_1.length : Int) = 8 then (some (([] : List (S42)), 0, 2)) else (if x4_1.length < 2932031007402 then (if 0 ≤ t395 then (if t395 ≤ (x10_1.size : Int) then (prop_Take.l0 k1 a0 (x4_1 ++ [(⟨t391, t392, t393, t394⟩ : S42)]) x5_1 t388 (x10_1.extract (t395 : Int).toNat x10_1.size)) else (none)) else (none)) else (none))) else (some (([] : List (S42)), 0, 9))) = some (r1, r2, r3) := H; have A16 := Aside0.mk A160; clear A160; by_cases c17 : t398 = true
         ·
          subst c17; have H1 : (if (x4_1.length : Int) = 8 then (some (([] : List (S42)), 0, 2)) else (if x4_1.length < 2932031007402 then (if 0 ≤ t395 then (if t395 ≤ (x10_1.size : Int) then (prop_Take.l0 k1 a0 (x4_1 ++ [(⟨t391, t392, t393, t394⟩ : S42)]) x5_1 t388 (x10_1.extract (t395 : Int).toNat x10_1.size)) else (none)) else (none)) else (none))) = some (r1, r2, r3) := by rw [if_pos rfl] at H; exact H
          clear H; have H := H1; clear H1; by_cases c18 : (x4_1.length : Int) = 8
          ·
           rw [if_pos c18] at H; have c18b0 : ((x4_1.length : Int) == 8) = true := beq_iff_eq.mpr c18; have c18b1 : ((x4_1.length : Int) != 8) = false := bne_eq_false_iff_eq.mpr c18; clear c18; simp only [Option.some.injEq, Prod.mk.injEq] at H; obtain ⟨rfl, rfl, rfl⟩ := H; go_wp2_with (first | ((with_reducible refine gate_callee (f := 37) rfl ?_); refine goesL_ (some 48) rfl rfl Tryd.func37 zz49 rfl #[.string x10_1] rfl zz20 ?_; (with_reducible refine (prop_next.calls k1 x10_1 t391 t392 t393 t394 t395 t396 _ zz6 A14.out).mono ?_); rintro e w19 ⟨rfl, hb⟩; refine ⟨_, rfl, ?_⟩; have n0_ := Aside0.mk (Kd.R_below zz38 hb); have n1_ := Aside0.mk (below_step zz21 hb); clear HO_4; clear HB; have HO_4 := n0_; have HB := n1_; clear n0_ n1_; (try clear hb); (try clear hb2); (try clear hk); (try clear hi)) | ((with_reducible refine gate_dst (N := 11) rfl ?_); refine box_event ?hg (N := 11) ?hd (cs := #[.int .i64 0, .int .i64 0, .string (⟨#[]⟩ : ByteArray), .string (⟨#[]⟩ : ByteArray)]) (t := 42) ?hr ?_; (case hd => rfl); (case hg => rfl); (case hr => first | (go_simp; done) | (go_simp; rfl)); intro gb397 hg w20 hbox hb; have n0_ := Aside0.mk (Kd.R_below (Kd.R_elderB zz38 gb397 (Nat.le_of_eq hg.symm)) hb); have n1_ := Aside0.mk (below_step zz21 hb); have n2_ := Aside0.mk (hbox); have n3_ := Aside0.mk ((by rw [hg]; exact (below_size zz21) : w.heap.size ≤ gb397)); have n4_ := Aside0.mk ((by rw [hg]; exact (below_size zz21) : w.heap.size ≤ gb397)); clear HO_4; clear HB; have HO_4 := n0_; have HB := n1_; have BK397 := n2_; have GW397 := n3_; have GE397 := n4_; clear n0_ n1_ n2_ n3_ n4_; clear hb hbox hg; have hcz21_0 : w20.cell? ⟨gb397, 0, none⟩ = some (.int .i64 0) := (blk_cell BK397.out 0).trans rfl; have hcz21_1 : w20.cell? ⟨gb397, 1, none⟩ = some (.int .i64 0) := (blk_cell BK397.out 1).trans rfl; have hcz21_2 : w20.cell? ⟨gb397, 2, none⟩ = some (.string (⟨#[]⟩ : ByteArray)) := (blk_cell BK397.out 2).trans rfl; have hcz21_3 : w20.cell? ⟨gb397, 3, none⟩ = some (.string (⟨#[]⟩ : ByteArray)) := (blk_cell BK397.out 3).trans rfl; have hfz21_0 := blk_frozen BK397.out 0; have hfz21_1 := blk_frozen BK397.out 1; have hfz21_2 := blk_frozen BK397.out 2; have hfz21_3 := blk_frozen BK397.out 3; obtain ⟨Ao22, co22, eo22⟩ := Kd.R_slice HO_4.out; subst eo22) | ((with_reducible refine gate_callee (f := 38) rfl ?_); refine goesL_ (some 60) rfl rfl Tryd.func38 zz49 rfl #[.int .i64 a0, .slice Ao22 x4_1.length co22, .agg #[.int .i64 t391, .int .i64 t392, .string t393, .string t394]] rfl zz20 ?_; (with_reducible refine (prop_fits.calls k1 a0 _ _ x4_1 t391 t392 t393 t394 true _ ?side1 ?side2 A16.out).mono ?_); (case side1 => refine (Kd.R_reads' (e := 42) (base := w.heap.size) (ok := fun k_ => (True ∧ k_ ≠ gb397)) (n := x4_1.length) (c := co22) ?_).2.2; exact zz1); (case side2 => exact (Kd.R_reads' HO_4.out).2.1); rintro e w23 ⟨rfl, hb⟩; refine ⟨_, rfl, ?_⟩; have n0_ := Aside0.mk (Kd.R_below zz1 hb); have n1_ := Aside0.mk (blk_below (g := gb397) (o := .cells #[.int .i64 t391, .int .i64 t392, .string t393, .string t394] 42 (0, 0)) (by (with_reducible repeat (first | refine blk_drewN ?_ _ | refine blk_drew ?_ | refine blk_alloc ?_ _)); refine blk_put (cs := #[.int .i64 t391, .int .i64 t392, .string t393, .string (⟨#[]⟩ : ByteArray)]) ?_ 3 _ rfl; (with_reducible repeat (first | refine blk_drewN ?_ _ | refine blk_drew ?_ | refine blk_alloc ?_ _)); refine blk_put (cs := #[.int .i64 t391, .int .i64 t392, .string (⟨#[]⟩ : ByteArray), .string (⟨#[]⟩ : ByteArray)]) ?_ 2 _ rfl; (with_reducible repeat (first | refine blk_drewN ?_ _ | refine blk_drew ?_ | refine blk_alloc ?_ _)); refine blk_put (cs := #[.int .i64 t391, .int .i64 0, .string (⟨#[]⟩ : ByteArray), .string (⟨#[]⟩ : ByteArray)]) ?_ 1 _ rfl; (with_reducible repeat (first | refine blk_drewN ?_ _ | refine blk_drew ?_ | refine blk_alloc ?_ _)); refine blk_put (cs := #[.int .i64 0, .int .i64 0, .string (⟨#[]⟩ : ByteArray), .string (⟨#[]⟩ : ByteArray)]) ?_ 0 _ rfl; (with_reducible repeat (first | refine blk_drewN ?_ _ | refine blk_drew ?_ | refine blk_alloc ?_ _)); exact BK397.out) hb); have n2_ := Aside0.mk (below_step zz10 hb); clear HO_4; clear BK397; clear HB; have HO_4 := n0_; have BK397 := n1_; have HB := n2_; clear n0_ n1_ n2_; (try clear hb); (try clear hb2); (try clear hk); (try clear hi)))
           go_ret3
           exact ⟨_, zz40, zz16, zz10⟩
          rw [if_neg c18] at H; have c18b0 : ((x4_1.length : Int) == 8) = false := beq_eq_false_iff_ne.mpr c18; have c18b1 : ((x4_1.length : Int) != 8) = true := bne_iff_ne.mpr c18; by_cases c24 : x4_1.length < 2932031007402
          ·
           rw [if_pos c24] at H; have LMc24 := Aside0.mk c24; clear c24; obtain ⟨y399, hy399⟩ : ∃ y_ : List (S42), y_ = (x4_1 ++ [(⟨t391, t392, t393, t394⟩ : S42)]) := ⟨_, rfl⟩; replace H : (if 0 ≤ t395 then (if t395 ≤ (x10_1.size : Int) then (prop_Take.l0 k1 a0 y399 x5_1 t388 (x10_1.extract (t395 : Int).toNat x10_1.size)) else (none)) else (none)) = some (r1, r2, r3) := by first | (rw [hy399]; with_reducible exact H) | (have H2_ := (Option.bind_some _ _).symm.trans H; rw [hy399]; with_reducible exact H2_) | (have H2_ := (Option.bind_some _ _).symm.trans H; with_reducible exact H2_) | with_reducible exact H | (rw [hy399]; exact H) | exact H
           have Ny399 := Aside0.mk hy399; clear hy399; by_cases c25 : 0 ≤ t395
           ·
            rw [if_pos c25] at H; have c25b0 := eq_true c25; have c25b1 : decide (0 ≤ t395) = true := decide_eq_true c25; clear c25; by_cases c26 : t395 ≤ (x10_1.size : Int)
            ·
             rw [if_pos c26] at H; have c26b0 := eq_true c26; have c26b1 : decide (t395 ≤ (x10_1.size : Int)) = true := decide_eq_true c26; clear c26; have H' := Aside0.mk H; clear H; try go_wp2_with (first | ((with_reducible refine gate_callee (f := 37) rfl ?_); refine goesL_ (some 48) rfl rfl Tryd.func37 zz49 rfl #[.string x10_1] rfl zz20 ?_; (with_reducible refine (prop_next.calls k1 x10_1 t391 t392 t393 t394 t395 t396 _ zz6 A14.out).mono ?_); rintro e w27 ⟨rfl, hb⟩; refine ⟨_, rfl, ?_⟩; have n0_ := Aside0.mk (Kd.R_below zz38 hb); have n1_ := Aside0.mk (below_step zz21 hb); clear HO_4; clear HB; have HO_4 := n0_; have HB := n1_; clear n0_ n1_; (try clear hb); (try clear hb2); (try clear hk); (try clear hi)) | ((with_reducible refine gate_dst (N := 11) rfl ?_); refine box_event ?hg (N := 11) ?hd (cs := #[.int .i64 0, .int .i64 0, .string (⟨#[]⟩ : ByteArray), .string (⟨#[]⟩ : ByteArray)]) (t := 42) ?hr ?_; (case hd => rfl); (case hg => rfl); (case hr => first | (go_simp; done) | (go_simp; rfl)); intro gb397 hg w28 hbox hb; have n0_ := Aside0.mk (Kd.R_below (Kd.R_elderB zz38 gb397 (Nat.le_of_eq hg.symm)) hb); have n1_ := Aside0.mk (below_step zz21 hb); have n2_ := Aside0.mk (hbox); have n3_ := Aside0.mk ((by rw [hg]; exact (below_size zz21) : w.heap.size ≤ gb397)); have n4_ := Aside0.mk ((by rw [hg]; exact (below_size zz21) : w.heap.size ≤ gb397)); clear HO_4; clear HB; have HO_4 := n0_; have HB := n1_; have BK397 := n2_; have GW397 := n3_; have GE397 := n4_; clear n0_ n1_ n2_ n3_ n4_; clear hb hbox hg; have hcz29_0 : w28.cell? ⟨gb397, 0, none⟩ = some (.int .i64 0) := (blk_cell BK397.out 0).trans rfl; have hcz29_1 : w28.cell? ⟨gb397, 1, none⟩ = some (.int .i64 0) := (blk_cell BK397.out 1).trans rfl; have hcz29_2 : w28.cell? ⟨gb397, 2, none⟩ = some (.string (⟨#[]⟩ : ByteArray)) := (blk_cell BK397.out 2).trans rfl; have hcz29_3 : w28.cell? ⟨gb397, 3, none⟩ = some (.string (⟨#[]⟩ : ByteArray)) := (blk_cell BK397.out 3).trans rfl; have hfz29_0 := blk_frozen BK397.out 0; have hfz29_1 := blk_frozen BK397.out 1; have hfz29_2 := blk_frozen BK397.out 2; have hfz29_3 := blk_frozen BK397.out 3; obtain ⟨Ao30, co30, eo30⟩ := Kd.R_slice HO_4.out; subst eo30) | ((with_reducible refine gate_callee (f := 38) rfl ?_); refine goesL_ (some 60) rfl rfl Tryd.func38 zz49 rfl #[.int .i64 a0, .slice Ao30 x4_1.length co30, .agg #[.int .i64 t391, .int .i64 t392, .string t393, .string t394]] rfl zz20 ?_; (with_reducible refine (prop_fits.calls k1 a0 _ _ x4_1 t391 t392 t393 t394 true _ ?side1 ?side2 A16.out).mono ?_); (case side1 => refine (Kd.R_reads' (e := 42) (base := w.heap.size) (ok := fun k_ => (True ∧ k_ ≠ gb397)) (n := x4_1.length) (c := co30) ?_).2.2; exact zz1); (case side2 => exact (Kd.R_reads' HO_4.out).2.1); rintro e w31 ⟨rfl, hb⟩; refine ⟨_, rfl, ?_⟩; have n0_ := Aside0.mk (Kd.R_below zz1 hb); have n1_ := Aside0.mk (blk_below (g := gb397) (o := .cells #[.int .i64 t391, .int .i64 t392, .string t393, .string t394] 42 (0, 0)) (by (with_reducible repeat (first | refine blk_drewN ?_ _ | refine blk_drew ?_ | refine blk_alloc ?_ _)); refine blk_put (cs := #[.int .i64 t391, .int .i64 t392, .string t393, .string (⟨#[]⟩ : ByteArray)]) ?_ 3 _ rfl; (with_reducible repeat (first | refine blk_drewN ?_ _ | refine blk_drew ?_ | refine blk_alloc ?_ _)); refine blk_put (cs := #[.int .i64 t391, .int .i64 t392, .string (⟨#[]⟩ : ByteArray), .string (⟨#[]⟩ : ByteArray)]) ?_ 2 _ rfl; (with_reducible repeat (first | refine blk_drewN ?_ _ | refine blk_drew ?_ | refine blk_alloc ?_ _)); refine blk_put (cs := #[.int .i64 t391, .int .i64 0, .string (⟨#[]⟩ : ByteArray), .string (⟨#[]⟩ : ByteArray)]) ?_ 1 _ rfl; (with_reducible repeat (first | refine blk_drewN ?_ _ | refine blk_drew ?_ | refine blk_alloc ?_ _)); refine blk_put (cs := #[.int .i64 0, .int .i64 0, .string (⟨#[]⟩ : ByteArray), .string (⟨#[]⟩ : ByteArray)]) ?_ 0 _ rfl; (with_reducible repeat (first | refine blk_drewN ?_ _ | refine blk_drew ?_ | refine blk_alloc ?_ _)); exact BK397.out) hb); have n2_ := Aside0.mk (below_step zz10 hb); clear HO_4; clear BK397; clear HB; have HO_4 := n0_; have BK397 := n1_; have HB := n2_; clear n0_ n1_ n2_; (try clear hb); (try clear hb2); (try clear hk); (try clear hi)))
             have n0_ := Aside0.mk (Kd.R_drew HO_4.out); have n1_ := Aside0.mk (blk_drew BK397.out); have n2_ := Aside0.mk (below_drew1 HB.out); clear HO_4; clear BK397; clear HB; have HO_4 := n0_; have BK397 := n1_; have HB := n2_; clear n0_ n1_ n2_; refine start_ (n := 9) (S := fun w' => w'.cell? ⟨gb397, 0, none⟩ = some (.int .i64 t391) ∧ w'.cell? ⟨gb397, 1, none⟩ = some (.int .i64 t392) ∧ w'.cell? ⟨gb397, 2, none⟩ = some (.string t393) ∧ w'.cell? ⟨gb397, 3, none⟩ = some (.string t394)) (ds := []) #[false, false, false, false, false, false, false, false, false] zz49 rfl rfl ⟨(blk_cell BK397.out 0).trans rfl, (blk_cell BK397.out 1).trans rfl, (blk_cell BK397.out 2).trans rfl, (blk_cell BK397.out 3).trans rfl⟩ (fun hHeld => ?_); refine with_tabW prop_Take.tab18 prop_Take.bits18 (fun HT_ HW_ => ?_)
             generalize w31.drew = w32 at HO_4 BK397 HB hHeld ⊢
             refine pure_ (i := 0) (N := some 66) (v := ?_) (a' := ?_) #[true, false, false, false, false, false, false, false, false] rfl rfl (any_of HT_.out zz49) (fun _ _ _ h => h) (Or.inl ⟨by rfl, ?_⟩) ?_ ?_
             rotate_left
             ·
              intro w'
              go_simp
              with_reducible rfl
             rotate_left
             ·
              simp only [Act.put, List.setIfInBounds_toArray, List.set_cons_zero, List.set_cons_succ, i64_w, i32_w]; rfl
             refine pure_ (i := 4) (N := some 70) (v := ?_) (a' := ?_) #[true, false, false, false, true, false, false, false, false] rfl rfl (any_of HT_.out zz49) (fun _ _ _ h => h) (Or.inl ⟨by rfl, ?_⟩) ?_ ?_
             rotate_left
             ·
              intro w'
              go_simp
              with_reducible rfl
             rotate_left
             ·
              simp only [Act.put, List.setIfInBounds_toArray, List.set_cons_zero, List.set_cons_succ, i64_w, i32_w]; rfl
             refine pure_ (i := 5) (N := some 71) (v := ?_) (a' := ?_) #[true, false, false, false, true, true, false, false, false] rfl rfl (any_of HT_.out zz49) (fun _ _ _ h => h) (Or.inl ⟨by rfl, ?_⟩) ?_ ?_
             rotate_left
             ·
              intro w'
              go_simp
              with_reducible rfl
             rotate_left
             ·
              simp only [Act.put, List.setIfInBounds_toArray, List.set_cons_zero, List.set_cons_succ, i64_w, i32_w]; rfl
             refine pure_ (i := 6) (N := some 72) (v := ?_) (a' := ?_) #[true, false, false, false, true, true, true, false, false] rfl rfl (any_of HT_.out zz49) (fun _ _ _ h => h) (Or.inl ⟨by rfl, ?_⟩) ?_ ?_
             rotate_left
             ·
              intro w'
              go_simp
              with_reducible rfl
             rotate_left
             ·
              simp only [Act.put, List.setIfInBounds_toArray, List.set_cons_zero, List.set_cons_succ, i64_w, i32_w]; rfl
             refine take_ (i := 1) (N := some 67) (v := ?_) (a' := ?_) #[true, true, false, false, true, true, true, false, false] rfl rfl (take_ofW HT_.out HW_.out zz49) (fun _ _ _ h => h) (Or.inl ⟨by rfl, ?_⟩) hHeld ?_ ?_
             rotate_left
             ·
              rintro w' ⟨s0, s1, s2, s3⟩
              go_simp
              with_reducible rfl
             rotate_left
             ·
              simp only [Act.put, List.setIfInBounds_toArray, List.set_cons_zero, List.set_cons_succ, i64_w, i32_w]; rfl
             refine one_ (i := 2) (N := some 68) #[true, true, true, false, true, true, true, false, false] rfl rfl (one_of HT_.out zz49) (by decide) (fun K hK => ?_)
             refine value_ (w1 := ?_) (v := ?_) (by rfl) rfl ?_ ?_
             rotate_left 2
             ·
              go_simp
              constructor
              ·
               rfl
              ·
               rfl
             refine hK.out _ _ ⟨(blk_cell (blk_alloc BK397.out _) 0).trans rfl, (blk_cell (blk_alloc BK397.out _) 1).trans rfl, (blk_cell (blk_alloc BK397.out _) 2).trans rfl, (blk_cell (blk_alloc BK397.out _) 3).trans rfl⟩ (fun hHeld => ?_)
             clear hK K; refine norm_ (a' := ?_) ?_ ?_
             rotate_left
             ·
              show Act.put _ (some 68) _ = _
              simp only [Act.put, List.setIfInBounds_toArray, List.set_cons_zero, List.set_cons_succ, i64_w, i32_w]; rfl
             refine one_ (i := 3) (N := some 69) #[true, true, true, true, true, true, true, false, false] rfl rfl (one_of HT_.out zz49) (by decide) (fun K hK => ?_)
             refine Kd.R_append_step k42 (w0 := w) w.heap.size (by rfl) (.tmp 66) (.tmp 68) 23 42 (.agg #[(.int .i64 0), (.int .i64 0), (.string ⟨#[]⟩), (.string ⟨#[]⟩)]) 48 rfl Tryd.underlying23 info42 rfl (by decide) (by omega) (.slice Ao30 x4_1.length co30) x4_1 (⟨t391, t392, t393, t394⟩ : S42) [.int .i64 t391, .int .i64 t392, .string t393, .string t394] (fun k_ => k_ ≠ gb397) (fun _ => False) rfl rfl ?aP (fun _ hk => hk.elim) ?aF ?aO ?aB ?aS ?aL ?_
             (case aP => exact k42_mkM _ _ _ (⟨t391, t392, t393, t394⟩ : S42))
             (case aB => exact zz10)
             (case aF => exact (fun k_ hk => Kd.freshB (g := gb397) (o := .cells #[.int .i64 t391, .int .i64 t392, .string t393, .string t394] 42 (0, 0)) (by (with_reducible repeat (first | refine blk_drewN ?_ _ | refine blk_drew ?_ | refine blk_alloc ?_ _)); exact BK397.out) k_ hk))
             (case aO => exact (by (with_reducible repeat (first | apply Kd.R_alloc | apply Kd.R_drewN | apply Kd.R_drew)); exact Kd.R_mono HO_4.out (fun _ hk => hk.2)))
             (case aS => exact (below_size zz10))
             (case aL => have := LMc24.out; omega)
             intro v400 w33 ho hb hg hat
             rw [← Ny399.out] at ho; have n0_ := Aside0.mk (blk_grown (g := gb397) (o := .cells #[.int .i64 t391, .int .i64 t392, .string t393, .string t394] 42 (0, 0)) (by (with_reducible repeat (first | refine blk_drewN ?_ _ | refine blk_drew ?_ | refine blk_alloc ?_ _)); exact BK397.out) hg (Kd.R_away HO_4.out (fun _ hk => hk.2))); have n1_ := Aside0.mk (hb); have n2_ := Aside0.mk (ho); clear BK397; clear HB; clear HO_4; have BK397 := n0_; have HB := n1_; have HO401 := n2_; clear n0_ n1_ n2_; clear ho hb hg hat; refine hK.out _ _ ⟨(blk_cell BK397.out 0).trans rfl, (blk_cell BK397.out 1).trans rfl, (blk_cell BK397.out 2).trans rfl, (blk_cell BK397.out 3).trans rfl⟩ (fun hHeld => ?_)
             clear hK K; refine norm_ (a' := ?_) ?_ ?_
             rotate_left
             ·
              show Act.put _ (some 69) _ = _
              simp only [Act.put, List.setIfInBounds_toArray, List.set_cons_zero, List.set_cons_succ, i64_w, i32_w]; rfl
             refine pure_ (i := 7) (N := some 4) (v := ?_) (a' := ?_) #[true, true, true, true, true, true, true, true, false] rfl rfl (any_of HT_.out zz49) (fun _ _ _ h => h) (Or.inl ⟨by rfl, ?_⟩) ?_ ?_
             rotate_left
             ·
              intro w'
              go_simp
              with_reducible rfl
             rotate_left
             ·
              simp only [Act.put, List.setIfInBounds_toArray, List.set_cons_zero, List.set_cons_succ, i64_w, i32_w]; rfl
             refine pure_ (i := 8) (N := some 10) (v := ?_) (a' := ?_) #[true, true, true, true, true, true, true, true, true] rfl rfl (any_of HT_.out zz49) (fun _ _ _ h => h) (Or.inl ⟨by rfl, ?_⟩) ?_ ?_
             rotate_left
             ·
              intro w'
              go_simp
              with_reducible rfl
             rotate_left
             ·
              simp only [Act.put, List.setIfInBounds_toArray, List.set_cons_zero, List.set_cons_succ, i64_w, i32_w]; rfl
             refine done_ (done_of HT_.out zz49) ?_
             try go_wp2
             go_roundg k1
             case measure => have := HK1.out; omega
             case rel => exact ⟨(y399), (x5_1), (x10_1.extract (t395 : Int).toNat x10_1.size), zz47, zz47, H', ⟨by have := HK1.out; omega⟩, ⟨by (with_reducible repeat (first | apply Kd.R_alloc | apply Kd.R_drewN | apply Kd.R_drew)); exact Kd.R_mono HO401.out (fun _ hk => trivial)⟩, ⟨zz10⟩⟩
            rw [if_neg c26] at H; exact absurd H (by simp)
           rw [if_neg c25] at H; exact absurd H (by simp)
          rw [if_neg c24] at H; exact absurd H (by simp)
         replace c17 := Bool.eq_false_iff.mpr c17; subst c17; have H1 : (some (([] : List (S42)), 0, 9)) = some (r1, r2, r3) := by rw [if_neg (show ¬ (false = true) by decide)] at H; exact H
         clear H; have H := H1; clear H1; simp only [Option.some.injEq, Prod.mk.injEq] at H; obtain ⟨rfl, rfl, rfl⟩ := H; go_wp2_with (first | ((with_reducible refine gate_callee (f := 37) rfl ?_); refine goesL_ (some 48) rfl rfl Tryd.func37 zz49 rfl #[.string x10_1] rfl zz20 ?_; (with_reducible refine (prop_next.calls k1 x10_1 t391 t392 t393 t394 t395 t396 _ zz6 A14.out).mono ?_); rintro e w34 ⟨rfl, hb⟩; refine ⟨_, rfl, ?_⟩; have n0_ := Aside0.mk (Kd.R_below zz38 hb); have n1_ := Aside0.mk (below_step zz21 hb); clear HO_4; clear HB; have HO_4 := n0_; have HB := n1_; clear n0_ n1_; (try clear hb); (try clear hb2); (try clear hk); (try clear hi)) | ((with_reducible refine gate_dst (N := 11) rfl ?_); refine box_event ?hg (N := 11) ?hd (cs := #[.int .i64 0, .int .i64 0, .string (⟨#[]⟩ : ByteArray), .string (⟨#[]⟩ : ByteArray)]) (t := 42) ?hr ?_; (case hd => rfl); (case hg => rfl); (case hr => first | (go_simp; done) | (go_simp; rfl)); intro gb397 hg w35 hbox hb; have n0_ := Aside0.mk (Kd.R_below (Kd.R_elderB zz38 gb397 (Nat.le_of_eq hg.symm)) hb); have n1_ := Aside0.mk (below_step zz21 hb); have n2_ := Aside0.mk (hbox); have n3_ := Aside0.mk ((by rw [hg]; exact (below_size zz21) : w.heap.size ≤ gb397)); have n4_ := Aside0.mk ((by rw [hg]; exact (below_size zz21) : w.heap.size ≤ gb397)); clear HO_4; clear HB; have HO_4 := n0_; have HB := n1_; have BK397 := n2_; have GW397 := n3_; have GE397 := n4_; clear n0_ n1_ n2_ n3_ n4_; clear hb hbox hg; have hcz36_0 : w35.cell? ⟨gb397, 0, none⟩ = some (.int .i64 0) := (blk_cell BK397.out 0).trans rfl; have hcz36_1 : w35.cell? ⟨gb397, 1, none⟩ = some (.int .i64 0) := (blk_cell BK397.out 1).trans rfl; have hcz36_2 : w35.cell? ⟨gb397, 2, none⟩ = some (.string (⟨#[]⟩ : ByteArray)) := (blk_cell BK397.out 2).trans rfl; have hcz36_3 : w35.cell? ⟨gb397, 3, none⟩ = some (.string (⟨#[]⟩ : ByteArray)) := (blk_cell BK397.out 3).trans rfl; have hfz36_0 := blk_frozen BK397.out 0; have hfz36_1 := blk_frozen BK397.out 1; have hfz36_2 := blk_frozen BK397.out 2; have hfz36_3 := blk_frozen BK397.out 3; obtain ⟨Ao37, co37, eo37⟩ := Kd.R_slice HO_4.out; subst eo37) | ((with_reducible refine gate_callee (f := 38) rfl ?_); refine goesL_ (some 60) rfl rfl Tryd.func38 zz49 rfl #[.int .i64 a0, .slice Ao37 x4_1.length co37, .agg #[.int .i64 t391, .int .i64 t392, .string t393, .string t394]] rfl zz20 ?_; (with_reducible refine (prop_fits.calls k1 a0 _ _ x4_1 t391 t392 t393 t394 false _ ?side1 ?side2 A16.out).mono ?_); (case side1 => refine (Kd.R_reads' (e := 42) (base := w.heap.size) (ok := fun k_ => (True ∧ k_ ≠ gb397)) (n := x4_1.length) (c := co37) ?_).2.2; exact zz1); (case side2 => exact (Kd.R_reads' HO_4.out).2.1); rintro e w38 ⟨rfl, hb⟩; refine ⟨_, rfl, ?_⟩; have n0_ := Aside0.mk (Kd.R_below zz1 hb); have n1_ := Aside0.mk (blk_below (g := gb397) (o := .cells #[.int .i64 t391, .int .i64 t392, .string t393, .string t394] 42 (0, 0)) (by (with_reducible repeat (first | refine blk_drewN ?_ _ | refine blk_drew ?_ | refine blk_alloc ?_ _)); refine blk_put (cs := #[.int .i64 t391, .int .i64 t392, .string t393, .string (⟨#[]⟩ : ByteArray)]) ?_ 3 _ rfl; (with_reducible repeat (first | refine blk_drewN ?_ _ | refine blk_drew ?_ | refine blk_alloc ?_ _)); refine blk_put (cs := #[.int .i64 t391, .int .i64 t392, .string (⟨#[]⟩ : ByteArray), .string (⟨#[]⟩ : ByteArray)]) ?_ 2 _ rfl; (with_reducible repeat (first | refine blk_drewN ?_ _ | refine blk_drew ?_ | refine blk_alloc ?_ _)); refine blk_put (cs := #[.int .i64 t391, .int .i64 0, .string (⟨#[]⟩ : ByteArray), .string (⟨#[]⟩ : ByteArray)]) ?_ 1 _ rfl; (with_reducible repeat (first | refine blk_drewN ?_ _ | refine blk_drew ?_ | refine blk_alloc ?_ _)); refine blk_put (cs := #[.int .i64 0, .int .i64 0, .string (⟨#[]⟩ : ByteArray), .string (⟨#[]⟩ : ByteArray)]) ?_ 0 _ rfl; (with_reducible repeat (first | refine blk_drewN ?_ _ | refine blk_drew ?_ | refine blk_alloc ?_ _)); exact BK397.out) hb); have n2_ := Aside0.mk (below_step zz10 hb); clear HO_4; clear BK397; clear HB; have HO_4 := n0_; have BK397 := n1_; have HB := n2_; clear n0_ n1_ n2_; (try clear hb); (try clear hb2); (try clear hk); (try clear hi)))
         go_ret3
         exact ⟨_, zz40, zz16, zz10⟩
        rw [if_neg c15] at H; have c15b0 : (t396 == 0) = false := beq_eq_false_iff_ne.mpr c15; have c15b1 : (t396 != 0) = true := bne_iff_ne.mpr c15; simp only [Option.some.injEq, Prod.mk.injEq] at H; obtain ⟨rfl, rfl, rfl⟩ := H; go_wp2_with (first | ((with_reducible refine gate_callee (f := 37) rfl ?_); refine goesL_ (some 48) rfl rfl Tryd.func37 zz49 rfl #[.string x10_1] rfl zz20 ?_; (with_reducible refine (prop_next.calls k1 x10_1 t391 t392 t393 t394 t395 t396 _ zz6 A14.out).mono ?_); rintro e w39 ⟨rfl, hb⟩; refine ⟨_, rfl, ?_⟩; have n0_ := Aside0.mk (Kd.R_below zz38 hb); have n1_ := Aside0.mk (below_step zz21 hb); clear HO_4; clear HB; have HO_4 := n0_; have HB := n1_; clear n0_ n1_; (try clear hb); (try clear hb2); (try clear hk); (try clear hi)) | ((with_reducible refine gate_dst (N := 11) rfl ?_); refine box_event ?hg (N := 11) ?hd (cs := #[.int .i64 0, .int .i64 0, .string (⟨#[]⟩ : ByteArray), .string (⟨#[]⟩ : ByteArray)]) (t := 42) ?hr ?_; (case hd => rfl); (case hg => rfl); (case hr => first | (go_simp; done) | (go_simp; rfl)); intro gb397 hg w40 hbox hb; have n0_ := Aside0.mk (Kd.R_below (Kd.R_elderB zz38 gb397 (Nat.le_of_eq hg.symm)) hb); have n1_ := Aside0.mk (below_step zz21 hb); have n2_ := Aside0.mk (hbox); have n3_ := Aside0.mk ((by rw [hg]; exact (below_size zz21) : w.heap.size ≤ gb397)); have n4_ := Aside0.mk ((by rw [hg]; exact (below_size zz21) : w.heap.size ≤ gb397)); clear HO_4; clear HB; have HO_4 := n0_; have HB := n1_; have BK397 := n2_; have GW397 := n3_; have GE397 := n4_; clear n0_ n1_ n2_ n3_ n4_; clear hb hbox hg; have hcz41_0 : w40.cell? ⟨gb397, 0, none⟩ = some (.int .i64 0) := (blk_cell BK397.out 0).trans rfl; have hcz41_1 : w40.cell? ⟨gb397, 1, none⟩ = some (.int .i64 0) := (blk_cell BK397.out 1).trans rfl; have hcz41_2 : w40.cell? ⟨gb397, 2, none⟩ = some (.string (⟨#[]⟩ : ByteArray)) := (blk_cell BK397.out 2).trans rfl; have hcz41_3 : w40.cell? ⟨gb397, 3, none⟩ = some (.string (⟨#[]⟩ : ByteArray)) := (blk_cell BK397.out 3).trans rfl; have hfz41_0 := blk_frozen BK397.out 0; have hfz41_1 := blk_frozen BK397.out 1; have hfz41_2 := blk_frozen BK397.out 2; have hfz41_3 := blk_frozen BK397.out 3))
        go_ret3
        exact ⟨_, zz40, zz16, zz10⟩
     rw [if_neg c11] at H; exact absurd H (by simp)
    rw [if_neg c10] at H; exact absurd H (by simp)
   rw [if_neg c9] at H; exact absurd H (by simp)
  rw [if_neg c6] at H; have c6b0 : (t390 == 0) = false := beq_eq_false_iff_ne.mpr c6; have c6b1 : (t390 != 0) = true := bne_iff_ne.mpr c6; simp only [Option.some.injEq, Prod.mk.injEq] at H; obtain ⟨rfl, rfl, rfl⟩ := H; go_enter Tryd.func22, Tryd.ntmps22
  go_wp2_with (first | ((with_reducible refine gate_callee (f := 35) rfl ?_); refine goesL_ (some 16) rfl rfl Tryd.func35 zz49 rfl #[.int .i64 a0] rfl zz20 ?_; (with_reducible refine (prop_stands.calls k a0 t384 true _ A3.out).mono ?_); rintro e w42 ⟨v386, rfl, ho0, hb⟩; refine ⟨_, rfl, ?_⟩; have n0_ := Aside0.mk (Kd.R_lower ho0 (below_size zz21)); have n1_ := Aside0.mk (below_step zz21 hb); clear HB; have HO387 := n0_; have HB := n1_; clear n0_ n1_; (try clear hb); (try clear hb2); (try clear hk); (try clear hi); (try clear ho0)) | ((with_reducible refine gate_callee (f := 36) rfl ?_); refine goesL_ (some 23) rfl rfl Tryd.func36 zz49 rfl #[.string a1] rfl zz20 ?_; (with_reducible refine (vbi_TakeNum.calls k a1 t388 t389 t390 _ A5.out).mono ?_); rintro e w' ⟨rfl, ⟨nd, rfl⟩⟩; refine ⟨_, rfl, ?_⟩))
  go_ret3
  exact ⟨_, zz40, zz16, zz21⟩
 replace c4 := Bool.eq_false_iff.mpr c4; subst c4; have H1 : (some (([] : List (S42)), 0, 1)) = some (r1, r2, r3) := by rw [if_neg (show ¬ (false = true) by decide)] at H; exact H
 clear H; have H := H1; clear H1; simp only [Option.some.injEq, Prod.mk.injEq] at H; obtain ⟨rfl, rfl, rfl⟩ := H; go_enter Tryd.func22, Tryd.ntmps22
 go_wp2_with (first | ((with_reducible refine gate_callee (f := 35) rfl ?_); refine goesL_ (some 16) rfl rfl Tryd.func35 zz49 rfl #[.int .i64 a0] rfl zz20 ?_; (with_reducible refine (prop_stands.calls k a0 t384 false _ A3.out).mono ?_); rintro e w43 ⟨v386, rfl, ho0, hb⟩; refine ⟨_, rfl, ?_⟩; have n0_ := Aside0.mk (Kd.R_lower ho0 (below_size zz21)); have n1_ := Aside0.mk (below_step zz21 hb); clear HB; have HO387 := n0_; have HB := n1_; clear n0_ n1_; (try clear hb); (try clear hb2); (try clear hk); (try clear hi); (try clear ho0)))
 go_ret3
 exact ⟨_, zz40, zz16, zz21⟩
def fairwayref1_TakeNum.l0 : Nat → ByteArray → Int → Int → Option (Int × Int × Int)
  | 0, _, _, _ => none
  | k + 1, x0, x5, x6 => if x6 < 4 then (if x6 ≥ (x0.size : Int) then (some (0, 0, 7)) else (if 0 ≤ x6 then (if x6 < (x0.size : Int) then (if 0 ≤ (wrap64 (7 * x6)) then (if (wrap64 (bt x0 x6)) < 128 then (if (wrap64 (bt x0 x6)) = 0 then (if x6 > 0 then (some (0, 0, 8)) else (some (Go.bits .or .i64 x5 (shl .i64 (Int.tmod (wrap64 (bt x0 x6)) 128) (wrap64 (7 * x6))), wrap64 (x6 + 1), 0))) else (some (Go.bits .or .i64 x5 (shl .i64 (Int.tmod (wrap64 (bt x0 x6)) 128) (wrap64 (7 * x6))), wrap64 (x6 + 1), 0))) else (fairwayref1_TakeNum.l0 k x0 (Go.bits .or .i64 x5 (shl .i64 (Int.tmod (wrap64 (bt x0 x6)) 128) (wrap64 (7 * x6)))) (wrap64 (x6 + 1)))) else (none)) else (none)) else (none))) else (some (0, 0, 8))
def fairwayref1_TakeNum.f (k : Nat) (a0 : ByteArray) : Option (Int × Int × Int) := fairwayref1_TakeNum.l0 k a0 0 0
theorem fairwayref1_TakeNum.mono_l : ∀ k, (∀ y0 y1 y2, LeO (fairwayref1_TakeNum.l0 k y0 y1 y2) (fairwayref1_TakeNum.l0 (k + 1) y0 y1 y2))
 | 0 => fun _ _ _ r h => by simp [fairwayref1_TakeNum.l0] at h
 | k + 1 => by
  have ih0 := fairwayref1_TakeNum.mono_l k
  ·
   intro y0 y1 y2
   unfold fairwayref1_TakeNum.l0; repeat' first
   | (with_reducible exact ih0 _ _ _)
   | (with_reducible exact LeO.refl _)
   | (with_reducible exact LeO.none _)
   | (with_reducible refine LeO.ite ?_ ?_)
   | (with_reducible refine LeO.bind ?_ (fun _ => ?_))
   | exact ih0 _ _ _
   | exact LeO.none _
   | refine LeO.ite ?_ ?_
   | refine LeO.bind ?_ (fun _ => ?_)
theorem fairwayref1_TakeNum.mono : ∀ a0 k, LeO (fairwayref1_TakeNum.f k a0) (fairwayref1_TakeNum.f (k + 1) a0) := by
 intro a0 k
 have ih0 := fairwayref1_TakeNum.mono_l k; unfold fairwayref1_TakeNum.f; repeat' first
   | (with_reducible exact ih0 _ _ _)
   | (with_reducible exact LeO.refl _)
   | (with_reducible exact LeO.none _)
   | (with_reducible refine LeO.ite ?_ ?_)
   | (with_reducible refine LeO.bind ?_ (fun _ => ?_))
   | exact ih0 _ _ _
   | exact LeO.none _
   | refine LeO.ite ?_ ?_
   | refine LeO.bind ?_ (fun _ => ?_)
set_option maxHeartbeats 8000000 in
set_option maxRecDepth 100000 in
theorem fairwayref1_TakeNum.calls (k : Nat) (a0 : ByteArray) (r1 : Int) (r2 : Int) (r3 : Int) (w : World) (h : fairwayref1_TakeNum.f k a0 = some (r1, r2, r3)) :
  Calls Tryd.prog 39 #[.string a0] w fun e w' => e = .returned (.tuple #[.int .i64 r1, .int .i64 r2, .int .i64 r3]) ∧ Drawn0 w w' := by
 have H : (fairwayref1_TakeNum.l0 k a0 0 0) = some (r1, r2, r3) := h; clear h; have H' := Aside0.mk H; clear H; go_enter Tryd.func39, Tryd.ntmps39
 go_wp2
 go_loopg [5, 6] k (fun kq v5 v6 w' => ∃ (x5_1 : Int) (x6_1 : Int), v5 = .int .i64 x5_1 ∧ v6 = .int .i64 x6_1 ∧ Aside0 (fairwayref1_TakeNum.l0 kq a0 x5_1 x6_1 = some (r1, r2, r3)) ∧ Aside0 (kq ≤ k) ∧ Drawn0 w w')
 case atStart => exact ⟨(0), (0), zz47, zz47, H', ⟨Nat.le_refl _⟩, zz43⟩
 case round =>
  clear H'; obtain ⟨x5_1, x6_1, rfl, rfl, HA, HK1, ⟨m1, rfl⟩⟩ := hrel; cases gk with
  | zero => exact absurd HA.out (by simp [fairwayref1_TakeNum.l0])
  | succ k1 =>
   have H := HA.out; clear HA; simp only [fairwayref1_TakeNum.l0] at H; by_cases c2 : x6_1 < 4
   ·
    rw [if_pos c2] at H; have c2b0 : decide (x6_1 < 4) = true := decide_eq_true c2; clear c2; by_cases c3 : x6_1 ≥ (a0.size : Int)
    ·
     rw [if_pos c3] at H; have c3b0 : decide ((a0.size : Int) ≤ x6_1) = true := decide_eq_true c3; clear c3; simp only [Option.some.injEq, Prod.mk.injEq] at H; obtain ⟨rfl, rfl, rfl⟩ := H; go_wp2
     go_ret3
     exact ⟨zz47, zz43⟩
    rw [if_neg c3] at H; have c3b0 : decide ((a0.size : Int) ≤ x6_1) = false := decide_eq_false c3; clear c3; by_cases c4 : 0 ≤ x6_1
    ·
     rw [if_pos c4] at H; have c4b0 : decide (0 ≤ x6_1) = true := decide_eq_true c4; clear c4; by_cases c5 : x6_1 < (a0.size : Int)
     ·
      rw [if_pos c5] at H; have c5b0 : decide (x6_1 < (a0.size : Int)) = true := decide_eq_true c5; clear c5; obtain ⟨ji7, hji7⟩ : ∃ j_ : Int, (wrap64 (7 * x6_1)) = j_ := ⟨_, rfl⟩; replace H : (if 0 ≤ (ji7) then (if (wrap64 (bt a0 x6_1)) < 128 then (if (wrap64 (bt a0 x6_1)) = 0 then (if x6_1 > 0 then (some (0, 0, 8)) else (some (Go.bits .or .i64 x5_1 (shl .i64 (Int.tmod (wrap64 (bt a0 x6_1)) 128) (ji7)), wrap64 (x6_1 + 1), 0))) else (some (Go.bits .or .i64 x5_1 (shl .i64 (Int.tmod (wrap64 (bt a0 x6_1)) 128) (ji7)), wrap64 (x6_1 + 1), 0))) else (fairwayref1_TakeNum.l0 k1 a0 (Go.bits .or .i64 x5_1 (shl .i64 (Int.tmod (wrap64 (bt a0 x6_1)) 128) (ji7))) (wrap64 (x6_1 + 1)))) else (none)) = some (r1, r2, r3) := by first | (rw [hji7] at H; exact H) | (simp only [hji7] at H ⊢; exact H)
      have hji7w : (IntKind.i64.wrap (7 * x6_1)) = ji7 := (i64_w _).trans hji7; by_cases c8 : 0 ≤ (ji7)
      ·
       rw [if_pos c8] at H; have c8b0 := eq_true c8; have c8b1 : decide (0 ≤ (ji7)) = true := decide_eq_true c8; clear c8; obtain ⟨ji9, hji9⟩ : ∃ j_ : Int, (shl .i64 (Int.tmod (wrap64 (bt a0 x6_1)) 128) (ji7)) = j_ := ⟨_, rfl⟩; replace H : (if (wrap64 (bt a0 x6_1)) < 128 then (if (wrap64 (bt a0 x6_1)) = 0 then (if x6_1 > 0 then (some (0, 0, 8)) else (some (Go.bits .or .i64 x5_1 (ji9), wrap64 (x6_1 + 1), 0))) else (some (Go.bits .or .i64 x5_1 (ji9), wrap64 (x6_1 + 1), 0))) else (fairwayref1_TakeNum.l0 k1 a0 (Go.bits .or .i64 x5_1 (ji9)) (wrap64 (x6_1 + 1)))) = some (r1, r2, r3) := by first | (rw [hji9] at H; exact H) | (simp only [hji9] at H ⊢; exact H)
       have hji9_ : (IntKind.i64.wrap ((Int.tmod (wrap64 (bt a0 x6_1)) 128) * 2 ^ min (ji7).toNat 64)) = ji9 := hji9; have hji9z : (ji7) ≤ 64 → (IntKind.i64.wrap ((Int.tmod (wrap64 (bt a0 x6_1)) 128) * 2 ^ (ji7).toNat)) = ji9 := shl_small hji9; have hji9y : (wrap64 ((Int.tmod (wrap64 (bt a0 x6_1)) 128) * 2 ^ min (ji7).toNat 64)) = ji9 := (i64_w _).symm.trans hji9_; have hji9x : (ji7) ≤ 64 → (wrap64 ((Int.tmod (wrap64 (bt a0 x6_1)) 128) * 2 ^ (ji7).toNat)) = ji9 := fun h_ => (i64_w _).symm.trans (hji9z h_)
       by_cases c10 : (wrap64 (bt a0 x6_1)) < 128
       ·
        rw [if_pos c10] at H; have c10b0 : decide ((wrap64 (bt a0 x6_1)) < 128) = true := decide_eq_true c10; clear c10; by_cases c11 : (wrap64 (bt a0 x6_1)) = 0
        ·
         rw [if_pos c11] at H; have c11b0 : ((wrap64 (bt a0 x6_1)) == 0) = true := beq_iff_eq.mpr c11; have c11b1 : ((wrap64 (bt a0 x6_1)) != 0) = false := bne_eq_false_iff_eq.mpr c11; clear c11; by_cases c12 : x6_1 > 0
         ·
          rw [if_pos c12] at H; have c12b0 : decide (0 < x6_1) = true := decide_eq_true c12; clear c12; simp only [Option.some.injEq, Prod.mk.injEq] at H; obtain ⟨rfl, rfl, rfl⟩ := H; have p6 : 0 ≤ (x6_1 : Int) := of_decide_eq_true zz46; have q6 : x6_1 < (a0.size : Int) := of_decide_eq_true zz46; have hx6 := bt_at a0 x6_1; replace p6 := eq_true p6; replace q6 := eq_true q6; go_wp2
          go_ret3
          exact ⟨by first | rfl | (simp; done) | (simp only [← hji7, ← hji9] <;> (first | rfl | simp)) | (simp [*]; done), zz43⟩
         rw [if_neg c12] at H; have c12b0 : decide (0 < x6_1) = false := decide_eq_false c12; clear c12; simp only [Option.some.injEq, Prod.mk.injEq] at H; obtain ⟨rfl, rfl, rfl⟩ := H; have p6 : 0 ≤ (x6_1 : Int) := of_decide_eq_true zz46; have q6 : x6_1 < (a0.size : Int) := of_decide_eq_true zz46; have hx6 := bt_at a0 x6_1; replace p6 := eq_true p6; replace q6 := eq_true q6; go_wp2
         go_ret3
         exact ⟨by first | rfl | (simp; done) | (simp only [← hji7, ← hji9] <;> (first | rfl | simp)) | (simp [*]; done), zz43⟩
        rw [if_neg c11] at H; have c11b0 : ((wrap64 (bt a0 x6_1)) == 0) = false := beq_eq_false_iff_ne.mpr c11; have c11b1 : ((wrap64 (bt a0 x6_1)) != 0) = true := bne_iff_ne.mpr c11; simp only [Option.some.injEq, Prod.mk.injEq] at H; obtain ⟨rfl, rfl, rfl⟩ := H; have p6 : 0 ≤ (x6_1 : Int) := of_decide_eq_true zz46; have q6 : x6_1 < (a0.size : Int) := of_decide_eq_true zz46; have hx6 := bt_at a0 x6_1; replace p6 := eq_true p6; replace q6 := eq_true q6; go_wp2
        go_ret3
        exact ⟨by first | rfl | (simp; done) | (simp only [← hji7, ← hji9] <;> (first | rfl | simp)) | (simp [*]; done), zz43⟩
       rw [if_neg c10] at H; have c10b0 : decide ((wrap64 (bt a0 x6_1)) < 128) = false := decide_eq_false c10; clear c10; have H' := Aside0.mk H; clear H; have p6 : 0 ≤ (x6_1 : Int) := of_decide_eq_true zz46; have q6 : x6_1 < (a0.size : Int) := of_decide_eq_true zz46; have hx6 := bt_at a0 x6_1; replace p6 := eq_true p6; replace q6 := eq_true q6; go_wp2
       go_roundg k1
       case measure => have := HK1.out; omega
       case rel => exact ⟨(Go.bits .or .i64 x5_1 (ji9)), (wrap64 (x6_1 + 1)), (by first | rfl | (simp; done) | (simp only [← hji9] <;> (first | rfl | simp)) | (simp [*]; done)), zz47, H', ⟨by have := HK1.out; omega⟩, zz43⟩
      rw [if_neg c8] at H; exact absurd H (by simp)
     rw [if_neg c5] at H; exact absurd H (by simp)
    rw [if_neg c4] at H; exact absurd H (by simp)
   rw [if_neg c2] at H; have c2b0 : decide (x6_1 < 4) = false := decide_eq_false c2; clear c2; simp only [Option.some.injEq, Prod.mk.injEq] at H; obtain ⟨rfl, rfl, rfl⟩ := H; go_wp2
   go_ret3
   exact ⟨zz47, zz43⟩
def fairwayref1_TakeFixed.l0 : Nat → ByteArray → Int → Int → Int → Option (Int × Bool)
  | 0, _, _, _, _ => none
  | k + 1, x0, x1, x6, x7 => if x7 < x1 then (if 0 ≤ x7 then (if x7 < (x0.size : Int) then (fairwayref1_TakeFixed.l0 k x0 x1 (Go.bits .or .i64 (wrap64 (x6 * 256)) (wrap64 (bt x0 x7))) (wrap64 (x7 + 1))) else (none)) else (none)) else (some (x6, true))
def fairwayref1_TakeFixed.f (k : Nat) (a0 : ByteArray) (a1 : Int) : Option (Int × Bool) := if (a0.size : Int) < a1 then (some (0, false)) else (fairwayref1_TakeFixed.l0 k a0 a1 0 0)
theorem fairwayref1_TakeFixed.mono_l : ∀ k, (∀ y0 y1 y2 y3, LeO (fairwayref1_TakeFixed.l0 k y0 y1 y2 y3) (fairwayref1_TakeFixed.l0 (k + 1) y0 y1 y2 y3))
 | 0 => fun _ _ _ _ r h => by simp [fairwayref1_TakeFixed.l0] at h
 | k + 1 => by
  have ih0 := fairwayref1_TakeFixed.mono_l k
  ·
   intro y0 y1 y2 y3
   unfold fairwayref1_TakeFixed.l0; repeat' first
   | (with_reducible exact ih0 _ _ _ _)
   | (with_reducible exact LeO.refl _)
   | (with_reducible exact LeO.none _)
   | (with_reducible refine LeO.ite ?_ ?_)
   | (with_reducible refine LeO.bind ?_ (fun _ => ?_))
   | exact ih0 _ _ _ _
   | exact LeO.none _
   | refine LeO.ite ?_ ?_
   | refine LeO.bind ?_ (fun _ => ?_)
theorem fairwayref1_TakeFixed.mono : ∀ a0 a1 k, LeO (fairwayref1_TakeFixed.f k a0 a1) (fairwayref1_TakeFixed.f (k + 1) a0 a1) := by
 intro a0 a1 k
 have ih0 := fairwayref1_TakeFixed.mono_l k; unfold fairwayref1_TakeFixed.f; repeat' first
   | (with_reducible exact ih0 _ _ _ _)
   | (with_reducible exact LeO.refl _)
   | (with_reducible exact LeO.none _)
   | (with_reducible refine LeO.ite ?_ ?_)
   | (with_reducible refine LeO.bind ?_ (fun _ => ?_))
   | exact ih0 _ _ _ _
   | exact LeO.none _
   | refine LeO.ite ?_ ?_
   | refine LeO.bind ?_ (fun _ => ?_)
set_option maxHeartbeats 8000000 in
set_option maxRecDepth 100000 in
theorem fairwayref1_TakeFixed.calls (k : Nat) (a0 : ByteArray) (a1 : Int) (r1 : Int) (r2 : Bool) (w : World) (h : fairwayref1_TakeFixed.f k a0 a1 = some (r1, r2)) :
  Calls Tryd.prog 52 #[.string a0, .int .i64 a1] w fun e w' => e = .returned (.tuple #[.int .i64 r1, .bool r2]) ∧ Drawn0 w w' := by
 have H : (if (a0.size : Int) < a1 then (some (0, false)) else (fairwayref1_TakeFixed.l0 k a0 a1 0 0)) = some (r1, r2) := h; clear h; by_cases c3 : (a0.size : Int) < a1
 ·
  rw [if_pos c3] at H; have c3b0 : decide ((a0.size : Int) < a1) = true := decide_eq_true c3; clear c3; simp only [Option.some.injEq, Prod.mk.injEq] at H; obtain ⟨rfl, rfl⟩ := H; go_enter Tryd.func52, Tryd.ntmps52
  go_wp2
  go_ret2
  exact ⟨zz47, zz43⟩
 rw [if_neg c3] at H; have c3b0 : decide ((a0.size : Int) < a1) = false := decide_eq_false c3; clear c3; have H' := Aside0.mk H; clear H; go_enter Tryd.func52, Tryd.ntmps52
 go_wp2
 go_loopg [6, 7] k (fun kq v6 v7 w' => ∃ (x6_1 : Int) (x7_1 : Int), v6 = .int .i64 x6_1 ∧ v7 = .int .i64 x7_1 ∧ Aside0 (fairwayref1_TakeFixed.l0 kq a0 a1 x6_1 x7_1 = some (r1, r2)) ∧ Aside0 (kq ≤ k) ∧ Drawn0 w w')
 case atStart => exact ⟨(0), (0), zz47, zz47, H', ⟨Nat.le_refl _⟩, zz43⟩
 case round =>
  clear H'; (try clear p2); (try clear c3); (try clear c3b0); obtain ⟨x6_1, x7_1, rfl, rfl, HA, HK1, ⟨m1, rfl⟩⟩ := hrel; cases gk with
  | zero => exact absurd HA.out (by simp [fairwayref1_TakeFixed.l0])
  | succ k1 =>
   have H := HA.out; clear HA; simp only [fairwayref1_TakeFixed.l0] at H; by_cases c4 : x7_1 < a1
   ·
    rw [if_pos c4] at H; have c4b0 : decide (x7_1 < a1) = true := decide_eq_true c4; clear c4; by_cases c5 : 0 ≤ x7_1
    ·
     rw [if_pos c5] at H; have c5b0 : decide (0 ≤ x7_1) = true := decide_eq_true c5; clear c5; by_cases c6 : x7_1 < (a0.size : Int)
     ·
      rw [if_pos c6] at H; have c6b0 : decide (x7_1 < (a0.size : Int)) = true := decide_eq_true c6; clear c6; have H' := Aside0.mk H; clear H; have p7 : 0 ≤ (x7_1 : Int) := of_decide_eq_true zz46; have q7 : x7_1 < (a0.size : Int) := of_decide_eq_true zz46; have hx7 := bt_at a0 x7_1; replace p7 := eq_true p7; replace q7 := eq_true q7; go_wp2
      go_roundg k1
      case measure => have := HK1.out; omega
      case rel => exact ⟨(Go.bits .or .i64 (wrap64 (x6_1 * 256)) (wrap64 (bt a0 x7_1))), (wrap64 (x7_1 + 1)), zz47, zz47, H', ⟨by have := HK1.out; omega⟩, zz43⟩
     rw [if_neg c6] at H; exact absurd H (by simp)
    rw [if_neg c5] at H; exact absurd H (by simp)
   rw [if_neg c4] at H; have c4b0 : decide (x7_1 < a1) = false := decide_eq_false c4; clear c4; simp only [Option.some.injEq, Prod.mk.injEq] at H; obtain ⟨rfl, rfl⟩ := H; go_wp2
   go_ret2
   exact ⟨zz47, zz43⟩
def fairwayref4_inner.f (a0 : Int) : Option (Int) := if a0 = 7 then (some 8) else (some a0)
set_option maxHeartbeats 8000000 in
set_option maxRecDepth 100000 in
theorem fairwayref4_inner.calls (a0 : Int) (r : Int) (w : World) (h : fairwayref4_inner.f a0 = some r) :
  Calls Tryd.prog 53 #[.int .i64 a0] w fun e w' => e = .returned (.int .i64 r) ∧ Drawn0 w w' := by
 have H : (if a0 = 7 then (some 8) else (some a0)) = some r := h; clear h; by_cases c2 : a0 = 7
 ·
  rw [if_pos c2] at H; have c2b0 : (a0 == 7) = true := beq_iff_eq.mpr c2; have c2b1 : (a0 != 7) = false := bne_eq_false_iff_eq.mpr c2; clear c2; obtain rfl := Option.some.inj H; go_enter Tryd.func53, Tryd.ntmps53
  go_wp2
  go_ret
  exact ⟨zz47, zz43⟩
 rw [if_neg c2] at H; have c2b0 : (a0 == 7) = false := beq_eq_false_iff_ne.mpr c2; have c2b1 : (a0 != 7) = true := bne_iff_ne.mpr c2; obtain rfl := Option.some.inj H; go_enter Tryd.func53, Tryd.ntmps53
 go_wp2
 go_ret
 exact ⟨zz47, zz43⟩
end Go.Proofs.YtiancopplinpcaaDoor.P
end
section
namespace Go.Proofs.YtiancopplinpcaaDoor.P
open Go.RowKit Go.Proofs.YtiancopplinpcaaDoorW.PrintWords Go.Proofs.YtiancopplinpcaaDoorW.PrintLast Go.Proofs.YtiancopplinpcaaDoorW.PrintMore
set_option linter.unusedVariables false
set_option linter.unusedSimpArgs false
noncomputable def vbi_TakeNum.fL (a0 : ByteArray) : Option (Int × Int × Int) := lim fun k => vbi_TakeNum.f k a0
noncomputable def vbi_TakeTwo.fL (a0 : ByteArray) : Option (Int × Int) := lim fun k => vbi_TakeTwo.f k a0
noncomputable def vbi_TakeFour.fL (a0 : ByteArray) : Option (Int × Int) := lim fun k => vbi_TakeFour.f k a0
noncomputable def vbi_TakeBin.fL (a0 : ByteArray) : Option (ByteArray × Int × Int) := lim fun k => vbi_TakeBin.f k a0
noncomputable def vbi_TakeText.fL (a0 : ByteArray) : Option (ByteArray × Int × Int) := lim fun k => vbi_TakeText.f k a0
noncomputable def prop_read.fL (a0 : Int) (a1 : ByteArray) : Option (AnyV × Int × Int) := lim fun k => prop_read.f k a0 a1
theorem prop_read.fL_eq (a0 : Int) (a1 : ByteArray) : prop_read.fL a0 a1 = if a0 = 1 then (if a1.toList = ([] : List UInt8) then (some (AnyV.no, 0, 7)) else (if 0 < (a1.size : Int) then (some (AnyV.num (wrap64 (bt a1 0)), 1, 0)) else (none))) else (if a0 = 2 then ((vbi_TakeTwo.fL a1).bind fun bt355 => (some (AnyV.num bt355.1, 2, bt355.2))) else (if a0 = 3 then ((vbi_TakeFour.fL a1).bind fun bt357 => (some (AnyV.num bt357.1, 4, bt357.2))) else (if a0 = 4 then ((vbi_TakeNum.fL a1).bind fun bt359 => (some (AnyV.num bt359.1, bt359.2.1, bt359.2.2))) else (if a0 = 5 then ((vbi_TakeText.fL a1).bind fun bt362 => (some (AnyV.str bt362.1, bt362.2.1, bt362.2.2))) else (if a0 = 6 then ((vbi_TakeBin.fL a1).bind fun bt365 => (some (AnyV.str bt365.1, bt365.2.1, bt365.2.2))) else ((vbi_TakeText.fL a1).bind fun bt368 => (if bt368.2.2 = 0 then (if 0 ≤ bt368.2.1 then (if bt368.2.1 ≤ (a1.size : Int) then ((vbi_TakeText.fL (a1.extract (bt368.2.1 : Int).toNat a1.size)).bind fun bt371 => (some (AnyV.two bt368.1 bt371.1, wrap64 (bt368.2.1 + bt371.2.1), bt371.2.2))) else (none)) else (none)) else (some (AnyV.no, 0, bt368.2.2))))))))) := by
  show lim (fun k => prop_read.f k a0 a1) = _
  show lim (fun k => if a0 = 1 then (if a1.toList = ([] : List UInt8) then (some (AnyV.no, 0, 7)) else (if 0 < (a1.size : Int) then (some (AnyV.num (wrap64 (bt a1 0)), 1, 0)) else (none))) else (if a0 = 2 then ((vbi_TakeTwo.f k a1).bind fun bt355 => (some (AnyV.num bt355.1, 2, bt355.2))) else (if a0 = 3 then ((vbi_TakeFour.f k a1).bind fun bt357 => (some (AnyV.num bt357.1, 4, bt357.2))) else (if a0 = 4 then ((vbi_TakeNum.f k a1).bind fun bt359 => (some (AnyV.num bt359.1, bt359.2.1, bt359.2.2))) else (if a0 = 5 then ((vbi_TakeText.f k a1).bind fun bt362 => (some (AnyV.str bt362.1, bt362.2.1, bt362.2.2))) else (if a0 = 6 then ((vbi_TakeBin.f k a1).bind fun bt365 => (some (AnyV.str bt365.1, bt365.2.1, bt365.2.2))) else ((vbi_TakeText.f k a1).bind fun bt368 => (if bt368.2.2 = 0 then (if 0 ≤ bt368.2.1 then (if bt368.2.1 ≤ (a1.size : Int) then ((vbi_TakeText.f k (a1.extract (bt368.2.1 : Int).toNat a1.size)).bind fun bt371 => (some (AnyV.two bt368.1 bt371.1, wrap64 (bt368.2.1 + bt371.2.1), bt371.2.2))) else (none)) else (none)) else (some (AnyV.no, 0, bt368.2.2)))))))))) = _
  repeat' (first | exact lim_const _ | (with_reducible refine lim_ite' ?_ ?_) | ((with_reducible refine lim_bind' ?hm ?hx (fun _ => ?_)); (case hm => exact (fun k => by first | exact LeO.refl _ | apply vbi_TakeBin.mono | apply vbi_TakeFour.mono | apply vbi_TakeNum.mono | apply vbi_TakeText.mono | apply vbi_TakeTwo.mono)); (case hx => first | exact lim_const _ | rfl)) | rfl)
end Go.Proofs.YtiancopplinpcaaDoor.P
end
section
namespace Go.Proofs.YtiancopplinpcaaDoor.P
open Go.RowKit Go.Proofs.YtiancopplinpcaaDoorW.PrintWords Go.Proofs.YtiancopplinpcaaDoorW.PrintLast Go.Proofs.YtiancopplinpcaaDoorW.PrintMore
set_option linter.unusedVariables false
set_option linter.unusedSimpArgs false
noncomputable def prop_next.fL (a0 : ByteArray) : Option (Int × Int × ByteArray × ByteArray × Int × Int) := lim fun k => prop_next.f k a0
noncomputable def prop_Take.fL (a0 : Int) (a1 : ByteArray) : Option ((List (S42)) × Int × Int) := lim fun k => prop_Take.f k a0 a1
noncomputable def fairwayref1_TakeNum.fL (a0 : ByteArray) : Option (Int × Int × Int) := lim fun k => fairwayref1_TakeNum.f k a0
noncomputable def fairwayref1_TakeFixed.fL (a0 : ByteArray) (a1 : Int) : Option (Int × Bool) := lim fun k => fairwayref1_TakeFixed.f k a0 a1
noncomputable def prop_Take.l0L (x0 : Int) (x4 : List (S42)) (x5 : Int) (x9 : Int) (x10 : ByteArray) : Option ((List (S42)) × Int × Int) := lim fun k => prop_Take.l0 k x0 x4 x5 x9 x10
theorem prop_next.fL_eq (a0 : ByteArray) : prop_next.fL a0 = if 0 < (a0.size : Int) then ((prop_Kind.fL (wrap64 (bt a0 0))).bind fun bt375 => (if bt375.2 = 0 then (if 1 ≤ (a0.size : Int) then ((prop_read.fL bt375.1 (a0.extract 1 a0.size)).bind fun bt377 => (if bt377.2.2 = 0 then ((prop_with.f (wrap64 (bt a0 0)) bt377.1).bind fun bt380 => (some (bt380.1, bt380.2.1, bt380.2.2.1, bt380.2.2.2, wrap64 (1 + bt377.2.1), 0))) else (if bt377.2.2 = 2 then (some (0, 0, (⟨#[]⟩ : ByteArray), (⟨#[]⟩ : ByteArray), 0, bt377.2.2)) else (some (0, 0, (⟨#[]⟩ : ByteArray), (⟨#[]⟩ : ByteArray), 0, 8))))) else (none)) else (some (0, 0, (⟨#[]⟩ : ByteArray), (⟨#[]⟩ : ByteArray), 0, 8)))) else (none) := by
  show lim (fun k => prop_next.f k a0) = _
  show lim (fun k => if 0 < (a0.size : Int) then ((prop_Kind.f k (wrap64 (bt a0 0))).bind fun bt375 => (if bt375.2 = 0 then (if 1 ≤ (a0.size : Int) then ((prop_read.f k bt375.1 (a0.extract 1 a0.size)).bind fun bt377 => (if bt377.2.2 = 0 then ((prop_with.f (wrap64 (bt a0 0)) bt377.1).bind fun bt380 => (some (bt380.1, bt380.2.1, bt380.2.2.1, bt380.2.2.2, wrap64 (1 + bt377.2.1), 0))) else (if bt377.2.2 = 2 then (some (0, 0, (⟨#[]⟩ : ByteArray), (⟨#[]⟩ : ByteArray), 0, bt377.2.2)) else (some (0, 0, (⟨#[]⟩ : ByteArray), (⟨#[]⟩ : ByteArray), 0, 8))))) else (none)) else (some (0, 0, (⟨#[]⟩ : ByteArray), (⟨#[]⟩ : ByteArray), 0, 8)))) else (none)) = _
  repeat' (first | exact lim_const _ | (with_reducible refine lim_ite' ?_ ?_) | ((with_reducible refine lim_bind' ?hm ?hx (fun _ => ?_)); (case hm => exact (fun k => by first | exact LeO.refl _ | apply prop_Kind.mono | apply prop_read.mono)); (case hx => first | exact lim_const _ | rfl)) | rfl)
theorem prop_Take.fL_eq (a0 : Int) (a1 : ByteArray) : prop_Take.fL a0 a1 = (prop_stands.fL a0).bind fun bt384 => (if bt384.2 = true then ((vbi_TakeNum.fL a1).bind fun bt388 => (if bt388.2.2 = 0 then (if bt388.1 > (wrap64 ((a1.size : Int) - bt388.2.1)) then (some (([] : List (S42)), 0, 7)) else (if 0 ≤ bt388.2.1 then (if bt388.2.1 ≤ (wrap64 (bt388.2.1 + bt388.1)) then (if (wrap64 (bt388.2.1 + bt388.1)) ≤ (a1.size : Int) then (prop_Take.l0L a0 ([] : List (S42)) bt388.2.1 bt388.1 (a1.extract (bt388.2.1 : Int).toNat ((wrap64 (bt388.2.1 + bt388.1)) : Int).toNat)) else (none)) else (none)) else (none))) else (some (([] : List (S42)), 0, bt388.2.2)))) else (some (([] : List (S42)), 0, 1))) := by
  show lim (fun k => prop_Take.f k a0 a1) = _
  show lim (fun k => (prop_stands.f k a0).bind fun bt384 => (if bt384.2 = true then ((vbi_TakeNum.f k a1).bind fun bt388 => (if bt388.2.2 = 0 then (if bt388.1 > (wrap64 ((a1.size : Int) - bt388.2.1)) then (some (([] : List (S42)), 0, 7)) else (if 0 ≤ bt388.2.1 then (if bt388.2.1 ≤ (wrap64 (bt388.2.1 + bt388.1)) then (if (wrap64 (bt388.2.1 + bt388.1)) ≤ (a1.size : Int) then (prop_Take.l0 k a0 ([] : List (S42)) bt388.2.1 bt388.1 (a1.extract (bt388.2.1 : Int).toNat ((wrap64 (bt388.2.1 + bt388.1)) : Int).toNat)) else (none)) else (none)) else (none))) else (some (([] : List (S42)), 0, bt388.2.2)))) else (some (([] : List (S42)), 0, 1)))) = _
  repeat' (first | exact lim_const _ | (with_reducible refine lim_ite' ?_ ?_) | ((with_reducible refine lim_bind' ?hm ?hx (fun _ => ?_)); (case hm => exact (fun k => by first | exact LeO.refl _ | apply prop_stands.mono | apply vbi_TakeNum.mono)); (case hx => first | exact lim_const _ | rfl)) | rfl)
theorem prop_Take.l0L_eq (x0 : Int) (x4 : List (S42)) (x5 : Int) (x9 : Int) (x10 : ByteArray) : prop_Take.l0L x0 x4 x5 x9 x10 = if x10.toList = ([] : List UInt8) then (some (x4, wrap64 (x5 + x9), 0)) else ((prop_next.fL x10).bind fun bt391 => (if bt391.2.2.2.2.2 = 0 then ((prop_fits.fL x0 x4 bt391.1 bt391.2.1 bt391.2.2.1 bt391.2.2.2.1).bind fun t398 => (if t398 = true then (if (x4.length : Int) = 8 then (some (([] : List (S42)), 0, 2)) else (if x4.length < 2932031007402 then (if 0 ≤ bt391.2.2.2.2.1 then (if bt391.2.2.2.2.1 ≤ (x10.size : Int) then (prop_Take.l0L x0 (x4 ++ [(⟨bt391.1, bt391.2.1, bt391.2.2.1, bt391.2.2.2.1⟩ : S42)]) x5 x9 (x10.extract (bt391.2.2.2.2.1 : Int).toNat x10.size)) else (none)) else (none)) else (none))) else (some (([] : List (S42)), 0, 9)))) else (some (([] : List (S42)), 0, bt391.2.2.2.2.2)))) := by
  show lim (fun k => prop_Take.l0 k x0 x4 x5 x9 x10) = _
  rw [lim_step (f := fun k => if x10.toList = ([] : List UInt8) then (some (x4, wrap64 (x5 + x9), 0)) else ((prop_next.f k x10).bind fun bt391 => (if bt391.2.2.2.2.2 = 0 then ((prop_fits.f k x0 x4 bt391.1 bt391.2.1 bt391.2.2.1 bt391.2.2.2.1).bind fun t398 => (if t398 = true then (if (x4.length : Int) = 8 then (some (([] : List (S42)), 0, 2)) else (if x4.length < 2932031007402 then (if 0 ≤ bt391.2.2.2.2.1 then (if bt391.2.2.2.2.1 ≤ (x10.size : Int) then (prop_Take.l0 k x0 (x4 ++ [(⟨bt391.1, bt391.2.1, bt391.2.2.1, bt391.2.2.2.1⟩ : S42)]) x5 x9 (x10.extract (bt391.2.2.2.2.1 : Int).toNat x10.size)) else (none)) else (none)) else (none))) else (some (([] : List (S42)), 0, 9)))) else (some (([] : List (S42)), 0, bt391.2.2.2.2.2))))) (fun k => by first | rfl | simp only [prop_Take.l0])]
  repeat' (first | exact lim_const _ | (with_reducible refine lim_ite' ?_ ?_) | ((with_reducible refine lim_bind' ?hm ?hx (fun _ => ?_)); (case hm => exact (fun k => by first | exact LeO.refl _ | apply prop_fits.mono | apply prop_next.mono)); (case hx => first | exact lim_const _ | rfl)) | rfl)
end Go.Proofs.YtiancopplinpcaaDoor.P
end
