/- The statement PropOnce: for every input the law answers true, and its argument reads behind the call as it did (part 7 of 10 of the proof). -/
import Derived.Test.YtiancopplinpcaaDoorMPropOnce5
import Derived.Laws.RangeAny
import Derived.Lib.OthersKept
import Derived.LoopTactic
import Derived.Lib.Hide
section
namespace Go.Proofs.YtiancopplinpcaaDoor.P
open Go.RowKit Go.Proofs.YtiancopplinpcaaDoorW.PrintWords Go.Proofs.YtiancopplinpcaaDoorW.PrintLast Go.Proofs.YtiancopplinpcaaDoorW.PrintMore
set_option linter.unusedSimpArgs false
set_option linter.unusedVariables false
def mayT (r : Int) : Bool := !(decide (r < 32) || (decide (127 ≤ r) && decide (r ≤ 159)) || decide (1114111 < r) || (decide (55296 ≤ r) && decide (r ≤ 57343)) || (decide (64976 ≤ r) && decide (r ≤ 65007))) && (Go.bits .and .i32 r 65534 != 65534)
theorem may_is (r : Int) : text_may.f 5 r = some (mayT r) := by
  unfold mayT
  simp only [text_may.f, text_may.j0, text_may.j1]
  by_cases h1 : r < 32
  · simp [h1]
  · by_cases h2 : 127 ≤ r
    · by_cases h3 : r ≤ 159
      · simp [h1, h2, h3]
      · by_cases h4 : 1114111 < r
        · simp [h1, h2, h3, h4]
        · by_cases h5 : 55296 ≤ r
          · by_cases h6 : r ≤ 57343
            · simp [h1, h2, h3, h4, h5, h6]
            · by_cases h7 : 64976 ≤ r
              · by_cases h8 : r ≤ 65007
                · simp [h1, h2, h3, h4, h5, h6, h7, h8]
                · simp [h1, h2, h3, h4, h5, h6, h7, h8]
              · simp [h1, h2, h3, h4, h5, h6, h7]
          · have h7 : ¬ 64976 ≤ r := by omega
            simp [h1, h2, h3, h4, h5, h7]
    · have h4 : ¬ 1114111 < r := by omega
      have h5 : ¬ 55296 ≤ r := by omega
      have h7 : ¬ 64976 ≤ r := by omega
      simp [h1, h2, h4, h5, h7]
def wholeT (s : ByteArray) (pos : Nat) : Bool := decide (((Go.Lib.decodeGo (s.extract pos s.size)).2 : Int) > 1)
theorem whole_is (s : ByteArray) (pos : Nat) : text_whole.f (s.extract pos s.size) = some (wholeT s pos) := rfl
def chk (s : ByteArray) : Nat → Nat → Int
  | 0, _ => 0
  | f + 1, pos => if pos < s.size then (if mayT (Utf8.decode s pos).1 = true then (if ((Utf8.decode s pos).1 : Int) = 65533 ∧ wholeT s pos = false then 8 else chk s f (pos + (Utf8.decode s pos).2)) else 8) else 0
theorem chk_end (s : ByteArray) (f pos : Nat) (h : ¬ pos < s.size) : chk s f pos = 0 := by
  cases f with
  | zero => rfl
  | succ f => simp [chk, h]
theorem width_pos (s : ByteArray) (pos : Nat) (h : pos < s.size) : 1 ≤ (Utf8.decode s pos).2 := by
  by_cases ha : (s[pos]'h).toNat < 128
  · rw [decode_ascii s pos h ha]
    exact Nat.le_refl _
  · exact (decode_high s pos h (by omega)).2
def checkT (s : ByteArray) : Int := if s.size > 1024 then 2 else chk s s.size 0
def text_Check.f (a0 : ByteArray) : Option (Int) := some (checkT a0)
theorem iter_below {W w1 : World} {k : Nat} {s : ByteArray} {pos : Nat} (hit : W.heap[k]? = some (.stringIter s pos)) (hb : Below W.heap.size W w1) : w1.heap[k]? = some (.stringIter s pos) :=
  (hb.block k (Array.getElem?_eq_some_iff.1 hit).1).trans hit
set_option maxHeartbeats 4000000 in
set_option maxRecDepth 1000000 in
theorem text_Check.calls (a0 : ByteArray) (r : Int) (w : World) (HLAID : Laid w) (h : text_Check.f a0 = some r) :
    Calls Tryd.prog 68 #[.string a0] w fun e w' => e = .returned (.int .i64 r) ∧ Below w.heap.size w w' := by
  obtain rfl := Option.some.inj h; clear h; by_cases hs : a0.size > 1024
  · have hr : checkT a0 = 2 := by unfold checkT; rw [if_pos hs]
    rw [hr]; clear hr; have hs' : decide (1024 < (a0.size : Int)) = true := by simp; omega
    go_enter Tryd.func68, Tryd.ntmps68
    go_wp2
    go_ret
    exact ⟨rfl, Below.refl _ _⟩
  · have hr : checkT a0 = chk a0 a0.size 0 := by unfold checkT; rw [if_neg hs]
    rw [hr]; clear hr; have hs' : decide (1024 < (a0.size : Int)) = false := by simp; omega
    obtain ⟨R, hR⟩ : ∃ R, R = chk a0 a0.size 0 := ⟨_, rfl⟩; rw [← hR]; have HR := Aside0.mk hR; clear hR; go_enter Tryd.func68, Tryd.ntmps68
    go_wp2
    go_loopw [] (fun wr => ∃ (pos fuel : Nat), wr.heap[w.heap.size]? = some (.stringIter a0 pos) ∧ Aside0 (Below w.heap.size w wr) ∧ Aside0 (R = chk a0 fuel pos) ∧ Aside0 (a0.size ≤ pos + fuel)) (fun wr => a0.size - wr.iterPos w.heap.size)
    case atStart => exact ⟨0, a0.size, World.iter_heap w a0 0, ⟨(Below.refl _ w).alloc (Nat.le_refl _) _⟩, HR, ⟨by omega⟩⟩
    case round =>
      clear HR; obtain ⟨pos, fuel, hit, hbw, hacc, hfu⟩ := hrel; have hsz : w.heap.size < wr.heap.size := (Array.getElem?_eq_some_iff.1 hit).1; by_cases hp : pos < a0.size
      · have hnx : ∀ ty, (Instr.next (.pointer (some ⟨w.heap.size, 0, none⟩)) true ty).run Tryd.prog wr = _ := fun ty => Lib.run_next_any_at wr w.heap.size a0 pos ty hit hp
        have hwd := width_pos a0 pos hp; have hd1 := decode_le a0 pos; have hit2 := Lib.iterAt_heap wr w.heap.size a0 pos (pos + (Utf8.decode a0 pos).2) hit; have hbw2 := Lib.below_iterAt hbw.out (k := w.heap.size) (Nat.le_refl _) a0 (pos + (Utf8.decode a0 pos).2); obtain ⟨f, rfl⟩ : ∃ f, fuel = f + 1 := ⟨fuel - 1, by have := hfu.out; omega⟩; have hstep : ∀ W', Aside0 (Below (wr.iterAt w.heap.size a0 (pos + (Utf8.decode a0 pos).2)).heap.size (wr.iterAt w.heap.size a0 (pos + (Utf8.decode a0 pos).2)) W') → W'.heap[w.heap.size]? = some (.stringIter a0 (pos + (Utf8.decode a0 pos).2)) ∧ Aside0 (Below w.heap.size w W') := by
          intro W' hb
          refine ⟨iter_below hit2 hb.out, ⟨below_weaken hbw2 ?_ hb.out⟩⟩
          rw [Lib.iterAt_size]; omega
        have HS := Lib.hid hstep; clear hstep; have hm := may_is ((Utf8.decode a0 pos).1 : Int); have hn : chk a0 (f + 1) pos = if mayT (Utf8.decode a0 pos).1 = true then (if ((Utf8.decode a0 pos).1 : Int) = 65533 ∧ wholeT a0 pos = false then 8 else chk a0 f (pos + (Utf8.decode a0 pos).2)) else 8 := by
          simp only [chk, hp, if_true]
        have HN := Aside0.mk hn; clear hn; have HW := Aside0.mk (whole_is a0 pos); have HD := Aside0.mk hwd; have HD1 := Aside0.mk hd1; clear hwd hd1; have HIT := Aside0.mk hit; have HIT2 := Aside0.mk hit2; have HL2 : Aside0 (Laid (wr.iterAt w.heap.size a0 (pos + (Utf8.decode a0 pos).2))) := ⟨HLAID.below hbw2⟩; clear hit2 hbw2; have hps : decide ((pos : Int) ≤ (a0.size : Int)) = true := by simp; omega
        cases hmt : mayT ((Utf8.decode a0 pos).1 : Int) with
        | false =>
          rw [hmt] at hm; have HM := Aside0.mk hm; have HMT := Aside0.mk hmt; clear hm hmt; go_wp2_with (first | (go_at_call 71; (with_reducible refine (text_may.calls 5 ((Utf8.decode a0 pos).1 : Int) false _ HM.out).mono ?_); rintro e w' ⟨rfl, ⟨nd, rfl⟩⟩))
          go_ret
          rw [hacc.out, HN.out, HMT.out, if_neg (by decide)]; exact ⟨rfl, (HS.out _ ⟨by repeat (first | exact Below.refl _ _ | apply pw_below_drewN)⟩).2.out⟩
        | true =>
          rw [hmt] at hm; have HM := Aside0.mk hm; have HMT := Aside0.mk hmt; clear hm hmt; by_cases h5 : ((Utf8.decode a0 pos).1 : Int) = 65533
          · have hb5 : (((Utf8.decode a0 pos).1 : Int) == 65533) = true := by rw [h5]; rfl
            have H5 := Aside0.mk h5; clear h5; cases hwt : wholeT a0 pos with
            | false =>
              have HW2 := HW.out; rw [hwt] at HW2; have HWT := Aside0.mk hwt; have HW3 := Aside0.mk HW2; clear HW2 hwt; go_wp2_with (first | (go_at_call 71; (with_reducible refine (text_may.calls 5 ((Utf8.decode a0 pos).1 : Int) true _ HM.out).mono ?_); rintro e w' ⟨rfl, ⟨nd, rfl⟩⟩) | (go_at_call 72; (with_reducible refine (text_whole.calls (a0.extract pos a0.size) false _ ?hl HW3.out).mono ?_); (case hl => exact ⟨HL2.out.out⟩); rintro e W1 ⟨rfl, hb1⟩))
              go_ret
              rw [hacc.out, HN.out, HMT.out, if_pos rfl, HWT.out, if_pos ⟨H5.out, rfl⟩]; exact ⟨rfl, (HS.out _ ⟨by first | exact hb1 | exact (pw_below_drewN (Below.refl _ _) _).trans hb1⟩).2.out⟩
            | true =>
              have HW2 := HW.out; rw [hwt] at HW2; have HWT := Aside0.mk hwt; have HW3 := Aside0.mk HW2; clear HW2 hwt; go_wp2_with (first | (go_at_call 71; (with_reducible refine (text_may.calls 5 ((Utf8.decode a0 pos).1 : Int) true _ HM.out).mono ?_); rintro e w' ⟨rfl, ⟨nd, rfl⟩⟩) | (go_at_call 72; (with_reducible refine (text_whole.calls (a0.extract pos a0.size) true _ ?hl HW3.out).mono ?_); (case hl => exact ⟨HL2.out.out⟩); rintro e W1 ⟨rfl, hb1⟩))
              go_roundw
              case rel =>
                refine ⟨pos + (Utf8.decode a0 pos).2, f, (HS.out _ ⟨by first | exact hb1 | exact (pw_below_drewN (Below.refl _ _) _).trans hb1⟩).1, (HS.out _ ⟨by first | exact hb1 | exact (pw_below_drewN (Below.refl _ _) _).trans hb1⟩).2, ⟨?_⟩, ⟨by have := hfu.out; have := HD.out; omega⟩⟩
                rw [hacc.out, HN.out, HMT.out, if_pos rfl, HWT.out, if_neg (by simp)]
              case measure =>
                simp only [World.iterPos, (HS.out _ ⟨by first | exact hb1 | exact (pw_below_drewN (Below.refl _ _) _).trans hb1⟩).1, HIT.out]; have := HD.out; omega
          · have hb5 : (((Utf8.decode a0 pos).1 : Int) == 65533) = false := by simpa using h5
            have H5 := Aside0.mk h5; clear h5; go_wp2_with (first | (go_at_call 71; (with_reducible refine (text_may.calls 5 ((Utf8.decode a0 pos).1 : Int) true _ HM.out).mono ?_); rintro e w' ⟨rfl, ⟨nd, rfl⟩⟩))
            go_roundw
            case rel =>
              refine ⟨pos + (Utf8.decode a0 pos).2, f, (HS.out _ ⟨by repeat (first | exact Below.refl _ _ | apply pw_below_drewN)⟩).1, (HS.out _ ⟨by repeat (first | exact Below.refl _ _ | apply pw_below_drewN)⟩).2, ⟨?_⟩, ⟨by have := hfu.out; have := HD.out; omega⟩⟩
              rw [hacc.out, HN.out, HMT.out, if_pos rfl, if_neg (by intro h_; exact H5.out h_.1)]
            case measure =>
              have e : ∀ n, ((wr.iterAt w.heap.size a0 (pos + (Utf8.decode a0 pos).2)).drewN n).heap = (wr.iterAt w.heap.size a0 (pos + (Utf8.decode a0 pos).2)).heap := fun _ => rfl
              simp only [World.iterPos, e, (HS.out (wr.iterAt w.heap.size a0 (pos + (Utf8.decode a0 pos).2)) ⟨Below.refl _ _⟩).1, HIT.out]; have := HD.out; omega
      · have hnx : ∀ ty, (Instr.next (.pointer (some ⟨w.heap.size, 0, none⟩)) true ty).run Tryd.prog wr = _ := fun ty => Lib.run_next_end_at wr w.heap.size a0 pos ty hit hp
        go_wp2
        go_ret
        rw [hacc.out, chk_end _ _ _ hp]; exact ⟨rfl, hbw.out⟩
end Go.Proofs.YtiancopplinpcaaDoor.P
end
section
namespace Go.Proofs.YtiancopplinpcaaDoor.P
open Go.RowKit Go.Proofs.YtiancopplinpcaaDoorW.PrintWords Go.Proofs.YtiancopplinpcaaDoorW.PrintLast Go.Proofs.YtiancopplinpcaaDoorW.PrintMore
attribute [local go_sem] max2_int min2_int max_two min_two max_three min_three max_four min_four
set_option linter.unusedVariables false
set_option linter.unusedSimpArgs false
def vbi_Text.f (k : Nat) (a0 : ByteArray) : Option (ByteArray × Int) := (text_Check.f a0).bind fun t151 => (if t151 = 0 then ((vbi_Bin.f k a0).bind fun bt152 => (some (bt152.1, bt152.2))) else (some ((⟨#[]⟩ : ByteArray), t151)))
theorem vbi_Text.mono : ∀ a0 k, LeO (vbi_Text.f k a0) (vbi_Text.f (k + 1) a0) := by
 intro a0 k
 unfold vbi_Text.f; repeat' first
   | (with_reducible exact vbi_Bin.mono _ _)
   | (with_reducible exact LeO.refl _)
   | (with_reducible exact LeO.none _)
   | (with_reducible refine LeO.ite ?_ ?_)
   | (with_reducible refine LeO.bind ?_ (fun _ => ?_))
   | exact vbi_Bin.mono _ _
   | exact LeO.none _
   | refine LeO.ite ?_ ?_
   | refine LeO.bind ?_ (fun _ => ?_)
set_option maxHeartbeats 8000000 in
set_option maxRecDepth 100000 in
theorem vbi_Text.calls (k : Nat) (a0 : ByteArray) (r1 : ByteArray) (r2 : Int) (w : World) (HLAID : Laid w) (h : vbi_Text.f k a0 = some (r1, r2)) :
  Calls Tryd.prog 59 #[.string a0] w fun e w' => e = .returned (.tuple #[.string r1, .int .i64 r2]) ∧ Below w.heap.size w w' := by
 have HB := Aside0.mk (Below.refl w.heap.size w); have H : ((text_Check.f a0).bind fun t151 => (if t151 = 0 then ((vbi_Bin.f k a0).bind fun bt152 => (some (bt152.1, bt152.2))) else (some ((⟨#[]⟩ : ByteArray), t151)))) = some (r1, r2) := h; clear h; replace H := Option.bind_eq_some_iff.mp H; obtain ⟨t151, A20, H⟩ := H; replace H : (if t151 = 0 then ((vbi_Bin.f k a0).bind fun bt152 => (some (bt152.1, bt152.2))) else (some ((⟨#[]⟩ : ByteArray), t151))) = some (r1, r2) := H; have A2 := Aside0.mk A20; clear A20; by_cases c3 : t151 = 0
 ·
  rw [if_pos c3] at H; have c3b0 : (t151 == 0) = true := beq_iff_eq.mpr c3; have c3b1 : (t151 != 0) = false := bne_eq_false_iff_eq.mpr c3; clear c3; replace H := Option.bind_eq_some_iff.mp H; obtain ⟨⟨t152, t153⟩, A40, H⟩ := H; replace H : (some (t152, t153)) = some (r1, r2) := H; have A4 := Aside0.mk A40; clear A40; simp only [Option.some.injEq, Prod.mk.injEq] at H; obtain ⟨rfl, rfl⟩ := H; go_enter Tryd.func59, Tryd.ntmps59
  go_wp2_with (first | ((with_reducible refine gate_callee (f := 68) rfl ?_); refine goesL_ (some 6) rfl rfl Tryd.func68 zz19 rfl #[.string a0] rfl zz5 ?_; (with_reducible refine (text_Check.calls a0 t151 _ zz1 A2.out).mono ?_); rintro e w5 ⟨rfl, hb⟩; refine ⟨_, rfl, ?_⟩; have n0_ := Aside0.mk (below_step zz6 hb); clear HB; have HB := n0_; clear n0_; (try clear hb); (try clear hb2); (try clear hk); (try clear hi)) | ((with_reducible refine gate_callee (f := 58) rfl ?_); refine goesL_ (some 11) rfl rfl Tryd.func58 zz19 rfl #[.string a0] rfl zz5 ?_; (with_reducible refine (vbi_Bin.calls k a0 t152 t153 _ A4.out).mono ?_); rintro e w6 ⟨rfl, hb⟩; refine ⟨_, rfl, ?_⟩; have n0_ := Aside0.mk (below_step zz6 hb); clear HB; have HB := n0_; clear n0_; (try clear hb); (try clear hb2); (try clear hk); (try clear hi)))
  go_ret2
  exact ⟨zz9, zz6⟩
 rw [if_neg c3] at H; have c3b0 : (t151 == 0) = false := beq_eq_false_iff_ne.mpr c3; have c3b1 : (t151 != 0) = true := bne_iff_ne.mpr c3; simp only [Option.some.injEq, Prod.mk.injEq] at H; obtain ⟨rfl, rfl⟩ := H; go_enter Tryd.func59, Tryd.ntmps59
 go_wp2_with (first | ((with_reducible refine gate_callee (f := 68) rfl ?_); refine goesL_ (some 6) rfl rfl Tryd.func68 zz19 rfl #[.string a0] rfl zz5 ?_; (with_reducible refine (text_Check.calls a0 t151 _ zz1 A2.out).mono ?_); rintro e w7 ⟨rfl, hb⟩; refine ⟨_, rfl, ?_⟩; have n0_ := Aside0.mk (below_step zz6 hb); clear HB; have HB := n0_; clear n0_; (try clear hb); (try clear hb2); (try clear hk); (try clear hi)))
 go_ret2
 exact ⟨zz9, zz6⟩
end Go.Proofs.YtiancopplinpcaaDoor.P
end
