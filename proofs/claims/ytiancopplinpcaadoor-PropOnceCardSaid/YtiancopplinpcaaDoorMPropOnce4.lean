/- The statement PropOnce: for every input the law answers true, and its argument reads behind the call as it did (part 5 of 10 of the proof). -/
import Derived.Test.YtiancopplinpcaaDoorMPropOnce3
import Derived.RegionTactic
import Derived.ChangeAlike
import Derived.LoopTactic
import Derived.Shelf.Abstract
section
namespace Go.Proofs.YtiancopplinpcaaDoor.P
open Go.RowKit Go.Proofs.YtiancopplinpcaaDoorW.PrintWords Go.Proofs.YtiancopplinpcaaDoorW.PrintLast Go.Proofs.YtiancopplinpcaaDoorW.PrintMore
set_option linter.unusedSimpArgs false
set_option linter.unusedVariables false
theorem fits1.calls (f0 f1 : Int) (f2 f3 : ByteArray) (id : Int) (g : Nat) (b : Bool) (W : World) (hg : W.cell? ⟨g, 0, none⟩ = some (.int .i64 id)) (hb : (f0 == id) = b) :
    Calls Tryd.prog 51 #[.agg #[.int .i64 f0, .int .i64 f1, .string f2, .string f3], .pointer (some ⟨g, 0, none⟩)] W fun e w' => e = .returned (.bool b) ∧ Below W.heap.size W w' := by
  have hu42 := Tryd.underlying42; have hlt : g < W.heap.size := World.block_lt_of_cell? W _ hg; have hz : (W.alloc (.cells #[.int .i64 f0, .int .i64 f1, .string f2, .string f3] 42)).cell? ⟨g, 0, none⟩ = some (.int .i64 id) := (World.cell?_alloc_lt _ _ _ hlt).trans hg; go_enter Tryd.func51, Tryd.ntmps51
  go_wp2
  go_ret
  exact ⟨by simp [hb], (Below.refl _ _).alloc (Nat.le_refl _) _⟩
set_option maxHeartbeats 4000000 in
theorem idxFunc.calls (A : Option Addr) (c : Nat) (l : List S42) (id : Int) (g : Nat) (w : World) (hC : Kd.C k42 w A l.length l) (hg : w.cell? ⟨g, 0, none⟩ = some (.int .i64 id)) :
    Calls Tryd.prog 66 #[.slice A l.length c, .func (.func 51) #[] #[.pointer (some ⟨g, 0, none⟩)]] w fun e w' => ∃ i : Int, e = .returned (.int .i64 i) ∧ Aside0 (decide (0 ≤ i) = l.any fun x => x.f0 == id) ∧ Below w.heap.size w w' := by
  have hu42 := Tryd.underlying42; have HC := Aside0.mk hC; have HG := Aside0.mk hg; have HN := Aside0.mk hC.2.1; clear hC hg; go_enter Tryd.func66, Tryd.ntmps66
  go_wp2
  go_loopg [5, 8] l.length (fun gg _ s8 wr => ∃ kk : Int, s8 = .int .i64 kk ∧ Aside0 (0 ≤ kk) ∧ Aside0 (kk ≤ l.length) ∧ Aside0 ((l.length : Int) - kk ≤ gg) ∧ Aside0 (Below w.heap.size w wr) ∧ Aside0 ((l.take kk.toNat).any (fun x => x.f0 == id) = false))
  case atStart => exact ⟨0, rfl, ⟨Int.le_refl _⟩, ⟨by omega⟩, ⟨by omega⟩, ⟨Below.refl _ w⟩, ⟨rfl⟩⟩
  case round =>
    obtain ⟨kk, rfl, h0, h1, h2, BW, HA⟩ := hrel; by_cases hlt : kk < (l.length : Int)
    · have hltb : decide (kk < (l.length : Int)) = true := decide_eq_true hlt
      have hp0 : (0 ≤ kk) = True := eq_true h0.out; have hp1 : (kk < (l.length : Int)) = True := eq_true hlt; obtain ⟨ad, eA, hx0, hx1, hx2, hx3⟩ := at_T42 (Kd.C_below HC.out BW.out) kk h0.out hlt; subst eA; have HLT := Aside0.mk hlt; clear hlt; have hgw : wr.cell? ⟨g, 0, none⟩ = some (.int .i64 id) := pw_cell_below BW.out HG.out; have HGW := Aside0.mk hgw; clear hgw; have hmem : (l.take (kk + 1).toNat).any (fun x => x.f0 == id) = ((rd_T42 l kk).f0 == id) := by
        have hk := HLT.out; have h0' := h0.out; have e : (kk + 1).toNat = kk.toNat + 1 := by omega
        have hl : kk.toNat < l.length := by omega
        rw [e, List.take_succ_eq_append_getElem hl, List.any_append, HA.out]; simp [rd_T42, hl]
      have HM := Aside0.mk hmem; clear hmem; cases hq : ((rd_T42 l kk).f0 == id) with
      | true =>
        have HQ := Aside0.mk hq; clear hq; go_wp2_with (fail)
        refine (fits1.calls _ _ _ _ id g true _ HGW.out HQ.out).mono ?_
        rintro e w' ⟨rfl, hb'⟩
        go_wp2
        go_ret
        refine ⟨kk, rfl, ⟨?_⟩, below_step BW.out hb'⟩
        rw [decide_eq_true h0.out]; have hM := HM.out; rw [HQ.out] at hM; rw [← List.take_append_drop (kk + 1).toNat l, List.any_append, hM]; rfl
      | false =>
        have HQ := Aside0.mk hq; clear hq; go_wp2_with (fail)
        refine (fits1.calls _ _ _ _ id g false _ HGW.out HQ.out).mono ?_
        rintro e w' ⟨rfl, hb'⟩
        go_wp2
        go_roundg (l.length - (kk.toNat + 1))
        case measure => have := h2.out; have := HLT.out; have := h0.out; omega
        case rel =>
          have := h2.out; have := HLT.out; have := h0.out
          refine ⟨kk + 1, ?_, ⟨by omega⟩, ⟨by omega⟩, ⟨by omega⟩, ⟨below_step BW.out hb'⟩, ⟨by rw [HM.out, HQ.out]⟩⟩
          have hn := HN.out; have e : wrap64 (kk + 1) = kk + 1 := by unfold wrap64; omega
          first | rfl | rw [e]
    · have hltb : decide (kk < (l.length : Int)) = false := decide_eq_false hlt
      have HLT := Aside0.mk hlt; clear hlt; go_wp2
      go_ret
      refine ⟨-1, rfl, ⟨?_⟩, BW.out⟩
      have h3 := HA.out; have h4 := h1.out; have h5 := HLT.out; rw [List.take_of_length_le (by omega)] at h3; rw [h3]; rfl
theorem containsFunc.calls (A : Option Addr) (c : Nat) (l : List S42) (id : Int) (g : Nat) (b : Bool) (w : World) (hC : Kd.C k42 w A l.length l) (hg : w.cell? ⟨g, 0, none⟩ = some (.int .i64 id)) (hb : (l.any fun x => x.f0 == id) = b) :
    Calls Tryd.prog 50 #[.slice A l.length c, .func (.func 51) #[] #[.pointer (some ⟨g, 0, none⟩)]] w fun e w' => e = .returned (.bool b) ∧ Below w.heap.size w w' := by
  have HC := Aside0.mk hC; have HG := Aside0.mk hg; have HBB := Aside0.mk hb; clear hC hg hb; go_enter Tryd.func50, Tryd.ntmps50
  go_wp2_with (go_at_call 66; (with_reducible refine (idxFunc.calls A c l id g _ HC.out HG.out).mono ?_); rintro e w1 ⟨i, rfl, hi, hb1⟩)
  go_ret
  exact ⟨by first | exact rfl | (rw [← HBB.out, ← hi.out]; exact rfl), hb1⟩
def prop_fits.f (k : Nat) (a0 : Int) (l1 : List S42) (a2_0 : Int) (a2_1 : Int) (a2_2 : ByteArray) (a2_3 : ByteArray) : Option (Bool) :=
  (prop_stands.f k a0).bind fun st => (prop_Kind.f k a2_0).bind fun kd => (slices_Contains_int_int.f k st.1 a2_0).bind fun ct => (prop_nought.f a2_0).bind fun nt =>
    if ct = true then (if kd.1 = 1 ∧ a2_1 > 1 then some false else (if nt = true ∧ a2_1 = 0 then some false else (if a2_0 = 38 then some true else (if a2_0 = 11 ∧ a0 = 3 then some true else some (!(l1.any fun x => x.f0 == a2_0)))))) else some false
theorem fitsD : ∀ x y nt v f g p : Bool, (x = true ∧ y = true) ∨ (((x = false) ∨ (x = true ∧ y = false)) ∧ ((nt = true ∧ v = true) ∨ ((nt = false ∨ (nt = true ∧ v = false)) ∧ (f = true ∨ (f = false ∧ (g = false ∨ (g = true ∧ p = true) ∨ (g = true ∧ p = false))))))) := by
  intro x y nt v f g p
  cases x <;> cases y <;> cases nt <;> cases v <;> cases f <;> cases g <;> cases p <;> simp
theorem fcell {W w1 : World} (hb : Below W.heap.size W w1) : ∀ b o, b < W.heap.size → w1.cell? ⟨b, o, none⟩ = W.cell? ⟨b, o, none⟩ := fun b o h => hb.cell (p := ⟨b, o, none⟩) h
set_option maxHeartbeats 8000000 in
set_option maxRecDepth 100000 in
theorem prop_fits.calls (k : Nat) (a0 : Int) (A1 : Option Addr) (c1 : Nat) (l1 : List S42) (a2_0 : Int) (a2_1 : Int) (a2_2 : ByteArray) (a2_3 : ByteArray) (r : Bool) (w : World) (hr1 : Kd.C k42 w A1 l1.length l1) (hc1 : l1.length ≤ c1) (h : prop_fits.f k a0 l1 a2_0 a2_1 a2_2 a2_3 = some r) :
    Calls Tryd.prog 38 #[.int .i64 a0, .slice A1 l1.length c1, .agg #[.int .i64 a2_0, .int .i64 a2_1, .string a2_2, .string a2_3]] w fun e w' => e = .returned (.bool r) ∧ Below w.heap.size w w' := by
  have hu42 := Tryd.underlying42; unfold prop_fits.f at h; replace h := Option.bind_eq_some_iff.1 h; obtain ⟨⟨sl, sb⟩, hst, h⟩ := h; replace h := Option.bind_eq_some_iff.1 h; obtain ⟨⟨kd, ke⟩, hkd, h⟩ := h; replace h := Option.bind_eq_some_iff.1 h; obtain ⟨ct, hct, h⟩ := h; replace h := Option.bind_eq_some_iff.1 h; obtain ⟨nt, hnt, h⟩ := h; have HST := Aside0.mk hst; have HKD := Aside0.mk hkd; have HCT := Aside0.mk hct; have HNT := Aside0.mk hnt
  have HR := Aside0.mk hr1; have H := Aside0.mk h; clear hst hkd hct hnt hr1 hc1 h; have HB := Aside0.mk (Below.refl w.heap.size w); obtain ⟨an, han⟩ : ∃ an, (l1.any fun x => x.f0 == a2_0) = an := ⟨_, rfl⟩; have HAN := Aside0.mk han; clear han; have fin : ∀ (ct' nt' : Bool), ct = ct' → nt = nt' → (if ct' = true then (if kd = 1 ∧ a2_1 > 1 then some false else (if nt' = true ∧ a2_1 = 0 then some false else (if a2_0 = 38 then some true else (if a2_0 = 11 ∧ a0 = 3 then some true else some (!an))))) else some false) = some r := by
    rintro _ _ rfl rfl
    have := H.out; rw [HAN.out] at this; exact this
  have FIN := Aside0.mk fin; clear fin; cases ct with
  | false =>
    have hr : r = false := by
      have := FIN.out false nt rfl rfl; simpa using this.symm
    subst hr; go_enter Tryd.func38, Tryd.ntmps38
    go_wp2_with (first
      | (go_at_call 35; (with_reducible refine (prop_stands.calls k a0 sl sb _ HST.out).mono ?_); rintro e w1 ⟨v0, rfl, hR, hb⟩; obtain ⟨As, cs, rfl, hls, hCs⟩ := Kd.R_reads hR; have HCS := Aside0.mk hCs; have HLS := Aside0.mk hls; have hc := fcell hb; have n0_ := Aside0.mk (below_step zz6 hb); clear HB; have HB := n0_; clear n0_ hR hCs hls)
      | (go_at_call 11; (with_reducible refine (prop_Kind.calls k a2_0 kd ke _ HKD.out).mono ?_); rintro e w2 ⟨rfl, ⟨nd, rfl⟩⟩)
      | (go_at_call 48; (with_reducible refine (slices_Contains_int_int.calls k _ _ sl a2_0 false _ ?hk1 ?hk2 HCT.out).mono ?_); (case hk1 => exact Kd.C_below HCS.out (by repeat (first | exact Below.refl _ _ | apply pw_below_drewN))); (case hk2 => exact HLS.out); rintro e w3 ⟨rfl, ⟨nd, rfl⟩⟩)
      | (go_at_call 49; (with_reducible refine (prop_nought.calls a2_0 _ _ HNT.out).mono ?_); rintro e w4 ⟨rfl, ⟨nd, rfl⟩⟩)
      | (go_at_call 50; (with_reducible refine (containsFunc.calls A1 c1 l1 a2_0 w.heap.size an _ ?hk3 ?hk4 HAN.out).mono ?_); (case hk3 => exact Kd.C_below HR.out zz6); (case hk4 => first | assumption | simp [*]); rintro e w5 ⟨rfl, hb5⟩; have n0_ := Aside0.mk (below_step zz6 hb5); clear HB; have HB := n0_; clear n0_))
    go_ret
    exact ⟨rfl, zz6⟩
  | true =>
    have E := Aside0.mk (FIN.out true nt rfl rfl); clear FIN H; have go1 : ∀ (x y : Bool), (kd == 1) = x → decide (1 < a2_1) = y → (x && y) = false → ∀ (u v : Bool), nt = u → (a2_1 == 0) = v → (u && v) = false → ∀ (f g h : Bool), (a2_0 == 38) = f → (a2_0 == 11) = g → (a0 == 3) = h → r = (f || (g && h) || !an) := by
      intro x y hx hy hxy u v hu hv huv f g h hf hg hh
      have e := E.out; have k1 : ¬ (kd = 1 ∧ a2_1 > 1) := by
        rintro ⟨a, b⟩
        rw [← hx, ← hy, a] at hxy; simp at hxy
        omega
      have k2 : ¬ (nt = true ∧ a2_1 = 0) := by
        rintro ⟨a, b⟩
        rw [← hu, ← hv, a, b] at huv; simp at huv
      simp only [if_true, k1, if_false, k2] at e; by_cases h38 : a2_0 = 38
      · simp only [h38, if_true, Option.some.injEq] at e
        rw [← hf, h38, ← e]; rfl
      · have f0 : f = false := by rw [← hf]; simpa using h38
        simp only [h38, if_false] at e; by_cases h11 : a2_0 = 11 ∧ a0 = 3
        · simp only [h11, and_self, if_true, Option.some.injEq] at e
          rw [← hg, ← hh, h11.1, h11.2, ← e]; simp
        · have gh : (g && h) = false := by
            rw [← hg, ← hh]; simp only [Bool.and_eq_false_iff, beq_eq_false_iff_ne]; by_cases z : a2_0 = 11
            · exact .inr (fun w => h11 ⟨z, w⟩)
            · exact .inl z
          simp only [h11, if_false, Option.some.injEq] at e; rw [f0, gh, ← e]; rfl
    have GO := Aside0.mk go1; have no : (kd = 1 ∧ a2_1 > 1) ∨ (¬ (kd = 1 ∧ a2_1 > 1) ∧ nt = true ∧ a2_1 = 0) → r = false := by
      intro hh
      have e := E.out; rcases hh with hh | ⟨h1, h2⟩
      · rw [if_pos rfl, if_pos hh] at e
        exact (Option.some.inj e).symm
      · rw [if_pos rfl, if_neg h1, if_pos h2] at e
        exact (Option.some.inj e).symm
    have NO := Aside0.mk no; clear go1 no E; obtain ⟨x, hx⟩ : ∃ x, (kd == 1) = x := ⟨_, rfl⟩; obtain ⟨y, hy⟩ : ∃ y, decide (1 < a2_1) = y := ⟨_, rfl⟩; obtain ⟨v, hv⟩ : ∃ v, (a2_1 == 0) = v := ⟨_, rfl⟩; obtain ⟨f, hf⟩ : ∃ f, (a2_0 == 38) = f := ⟨_, rfl⟩; obtain ⟨g, hg⟩ : ∃ g, (a2_0 == 11) = g := ⟨_, rfl⟩; obtain ⟨p, hp⟩ : ∃ p, (a0 == 3) = p := ⟨_, rfl⟩; have RES : Aside0 (r = if (x && y) = true then false else if (nt && v) = true then false else (f || (g && p) || !an)) := by
      refine ⟨?_⟩
      by_cases c1 : (x && y) = true
      · rw [if_pos c1]
        refine NO.out (.inl ?_)
        rw [← hx, ← hy] at c1; simp at c1
        exact ⟨c1.1, c1.2⟩
      · rw [if_neg c1]
        by_cases c2 : (nt && v) = true
        · rw [if_pos c2]
          refine NO.out (.inr ⟨?_, ?_⟩)
          · rintro ⟨a, b⟩
            rw [← hx, ← hy, a] at c1; simp at c1
            omega
          · rw [← hv] at c2
            simp at c2
            exact c2
        · rw [if_neg c2]
          exact GO.out x y hx hy (by simpa using c1) nt v rfl hv (by simpa using c2) f g p hf hg hp
    clear GO NO; have fits_walk : ∀ r', r = r' → r' = (if (x && y) = true then false else if (nt && v) = true then false else (f || (g && p) || !an)) → Calls Tryd.prog 38 #[.int .i64 a0, .slice A1 l1.length c1, .agg #[.int .i64 a2_0, .int .i64 a2_1, .string a2_2, .string a2_3]] w fun e w' => e = .returned (.bool r') ∧ Below w.heap.size w w' := by
      rintro r' rfl hr
      subst hr; clear RES; have D := fitsD x y nt v f g p; rcases D with ⟨rfl, rfl⟩ | ⟨rfl | ⟨rfl, rfl⟩, ⟨rfl, rfl⟩ | ⟨rfl | ⟨rfl, rfl⟩, rfl | ⟨rfl, rfl | ⟨rfl, rfl⟩ | ⟨rfl, rfl⟩⟩⟩⟩
      all_goals simp only [Bool.and_true, Bool.true_and, Bool.and_false, Bool.false_and, Bool.or_true, Bool.true_or, Bool.or_false, Bool.false_or, if_true, if_false, Bool.false_eq_true, Bool.and_self, Bool.or_self]
      all_goals
        go_enter Tryd.func38, Tryd.ntmps38
        go_wp2_with (first
          | (go_at_call 35; (with_reducible refine (prop_stands.calls k a0 sl sb _ HST.out).mono ?_); rintro e w1 ⟨v0, rfl, hR, hb⟩; obtain ⟨As, cs, rfl, hls, hCs⟩ := Kd.R_reads hR; have HCS := Aside0.mk hCs; have HLS := Aside0.mk hls; have hc := fcell hb; have n0_ := Aside0.mk (below_step zz6 hb); clear HB; have HB := n0_; clear n0_ hR hCs hls)
          | (go_at_call 11; (with_reducible refine (prop_Kind.calls k a2_0 kd ke _ HKD.out).mono ?_); rintro e w2 ⟨rfl, ⟨nd, rfl⟩⟩)
          | (go_at_call 48; (with_reducible refine (slices_Contains_int_int.calls k _ _ sl a2_0 true _ ?hk1 ?hk2 HCT.out).mono ?_); (case hk1 => exact Kd.C_below HCS.out (by repeat (first | exact Below.refl _ _ | apply pw_below_drewN))); (case hk2 => exact HLS.out); rintro e w3 ⟨rfl, ⟨nd, rfl⟩⟩)
          | (go_at_call 49; (with_reducible refine (prop_nought.calls a2_0 _ _ HNT.out).mono ?_); rintro e w4 ⟨rfl, ⟨nd, rfl⟩⟩)
          | (go_at_call 50; (with_reducible refine (containsFunc.calls A1 c1 l1 a2_0 w.heap.size an _ ?hk3 ?hk4 HAN.out).mono ?_); (case hk3 => exact Kd.C_below HR.out zz6); (case hk4 => first | assumption | simp [*]); rintro e w5 ⟨rfl, hb5⟩; have n0_ := Aside0.mk (below_step zz6 hb5); clear HB; have HB := n0_; clear n0_))
        go_ret
        exact ⟨rfl, zz6⟩
    exact fits_walk r rfl RES.out
end Go.Proofs.YtiancopplinpcaaDoor.P
end
