/- The statement PropNumbers, PropTexts, PropPairs: for every input the law answers true, and its argument reads behind the call as it did (part 13 of 14 of the proof). -/
import Derived.Test.YtiancopplinpcaaDoorMPropOne11
import Derived.Deep.Slices
import Derived.SizedLaws
section
namespace Go.Proofs.YtiancopplinpcaaDoor.Open
open Go.RowKit Go.Proofs.YtiancopplinpcaaDoorW.PrintWords Go.Deep
def Opens {α : Type} (P : Program) (t : TypeId) (d : Kd α) (G : α → Prop) : Prop :=
  ∀ (H : Type) (enc : TypeId × Value → H) (w : World) (base : Nat) (spare : Nat → Bool) (held : Bool) (fuel : Nat) (cs : List Value) (x : DataW H × List MemPlace),
    DataW.trod enc P w base spare held fuel t cs = some x → (∀ n ∈ x.1.weights P t, n ≤ reachBytes) → ∃ a, d.K w a cs ∧ G a
theorem opens_int {P : Program} {t : TypeId} {k : IntKind} (hu : P.underlying t = some (.int k)) : Opens P t (Kd.int k) (fun n => (Lit.int k n).wf = true) := by
  intro H enc w base spare held fuel cs x h _
  obtain ⟨n, rfl, rfl, hw⟩ := DataW.trod_int hu h
  exact ⟨n, rfl, hw⟩
theorem opens_string {P : Program} {t : TypeId} (hu : P.underlying t = some .string) : Opens P t Kd.string (fun s => s.size ≤ 140737488351232) := by
  intro H enc w base spare held fuel cs x h hw
  obtain ⟨s, rfl, rfl, _⟩ := DataW.trod_string hu h
  refine ⟨s, rfl, ?_⟩
  have := hw s.data.toList.length (by simp [DataW.weights])
  rwa [data_length] at this
theorem weights_all {H : Type} {P : Program} {e : TypeId} : ∀ {ds : List (DataW H)} {d : DataW H}, d ∈ ds → ∀ n ∈ d.weights P e, n ∈ DataW.weightsAll P e ds
  | d0 :: ds, d, hd, n, hn => by
    simp only [DataW.weightsAll, List.mem_append]
    rcases List.mem_cons.1 hd with rfl | hd
    · exact Or.inl hn
    · exact Or.inr (weights_all hd n hn)
  | [], _, hd, _, _ => by simp at hd
theorem opens_slice {α : Type} [Inhabited α] {P : Program} {t e : TypeId} {d : Kd α} {G : α → Prop} {B sz : Nat} (hu : P.underlying t = some (.slice e)) (hsz : P.cellsOf e = sz) (hd : d.sz = sz) (hB : P.bytesOf e = B)
    (h : Opens P e d G) : Opens P t (Kd.slice e d) (fun l => l.length * B ≤ 140737488351232 ∧ ∀ a ∈ l, G a) := by
  intro H enc w base spare held fuel cs x hx hw
  rcases open_slice hu hx with ⟨rfl, rfl⟩ | ⟨a, len, cap, m, n, D, Pl, rfl, hb, hl, hm, hmm, rfl, hel⟩
  · refine ⟨[], ⟨none, 0, rfl, Nat.le_refl _, ?_⟩, by simp, by simp⟩
    exact ⟨rfl, by simp, fun h0 => absurd h0 (Nat.lt_irrefl 0)⟩
  · have hlm : len ≤ m := by rw [hmm]; split <;> omega
    have hwD : ∀ i, i < len → ∀ n ∈ (D i).weights P e, n ≤ reachBytes := by
      intro i hi n hn
      refine hw n ?_
      simp only [DataW.weights, hu, List.mem_cons, List.mem_append]
      exact .inr (.inl (weights_all (List.mem_map.2 ⟨i, List.mem_range.2 hi, rfl⟩) n hn))
    have hel' : ∀ i, i < len → ∃ x : α × List Value, w.cells? base (a.add (i * sz)) sz = some x.2 ∧ d.K w x.1 x.2 ∧ G x.1 := by
      intro i hi
      obtain ⟨cs', hc, ht⟩ := hel i (by omega)
      obtain ⟨v, hk, hg⟩ := h H enc w base spare held n cs' (D i, Pl i) ht (hwD i hi)
      rw [hsz] at hc
      exact ⟨(v, cs'), hc, hk, hg⟩
    obtain ⟨F, hF⟩ := choose_lt (α := α × List Value) hel'
    have hlen : ((List.range len).map fun i => (F i).1).length = len := by simp
    refine ⟨(List.range len).map fun i => (F i).1, ⟨some a, cap, by rw [hlen], by rw [hlen]; exact hl, ?_⟩, ?_, ?_⟩
    · rw [hlen]
      refine ⟨hlen, by simp only [maxLen] at hm; omega, fun _ => ⟨a, rfl, fun j p hj => ?_⟩⟩
      obtain ⟨hj1, hj2⟩ := List.getElem?_eq_some_iff.1 hj
      rw [hlen] at hj1
      obtain ⟨hc, hk, _⟩ := hF j hj1
      have hp : (F j).1 = p := by simpa using hj2
      obtain ⟨_, hcl, hcell⟩ := World.cells?_some hc
      refine ⟨(F j).2, by rw [hd]; exact hcl, hp ▸ hk, fun i u hu => ?_⟩
      have hi : i < sz := by rw [← hcl]; exact (List.getElem?_eq_some_iff.1 hu).1
      have := hcell i hi
      rw [hu, Go.Deep.add_add] at this
      rw [hd]
      exact this
    · rw [hlen]
      have := hw ((len + (m - len)) * P.bytesOf e) (by simp [DataW.weights, hu])
      rw [hB] at this
      have hx : len * B ≤ (len + (m - len)) * B := Nat.mul_le_mul_right _ (by omega)
      exact Nat.le_trans hx this
    · intro v hv
      obtain ⟨i, hi, rfl⟩ := List.mem_map.1 hv
      exact (hF i (List.mem_range.1 hi)).2.2
theorem opens_iso {α β : Type} {P : Program} {t : TypeId} {d : Kd α} {G : α → Prop} (f : β → α) (g : α → β) (hf : ∀ a, f (g a) = a) (h : Opens P t d G) : Opens P t (Kd.iso d f) (fun b => G (f b)) := by
  intro H enc w base spare held fuel cs x hx hw
  obtain ⟨a, hk, hg⟩ := h H enc w base spare held fuel cs x hx hw
  refine ⟨g a, ?_, by show G (f (g a)); rw [hf]; exact hg⟩
  show d.K w (f (g a)) cs
  rw [hf]
  exact hk
theorem opens_imp {α : Type} {P : Program} {t : TypeId} {d : Kd α} {G G' : α → Prop} (h : Opens P t d G) (hG : ∀ a, G a → G' a) : Opens P t d G' := by
  intro H enc w base spare held fuel cs x hx hw
  obtain ⟨a, hk, hg⟩ := h H enc w base spare held fuel cs x hx hw
  exact ⟨a, hk, hG a hg⟩
def OpensAt {α : Type} (P : Program) (fs : List Field) (off : Nat) (d : Kd α) (G : α → Prop) : Prop :=
  ∀ (H : Type) (enc : TypeId × Value → H) (w : World) (base : Nat) (spare : Nat → Bool) (held : Bool) (fuel : Nat) (cs : List Value) (D : List (DataW H)),
    (∀ (i : Nat) (f : Field), fs[i]? = some f → ∃ x, DataW.trod enc P w base spare held fuel f.type ((cs.drop f.offset).take (P.cellsOf f.type)) = some x ∧ D[i]? = some x.1) →
    (∀ n ∈ DataW.weightsEach P (fs.map (·.type)) D, n ≤ reachBytes) → ∃ a, d.K w a ((cs.drop off).take d.sz) ∧ G a
theorem opensAt_one {α : Type} {P : Program} {f : Field} {off : Nat} {d : Kd α} {G : α → Prop} (ho : f.offset = off) (hs : P.cellsOf f.type = d.sz) (h : Opens P f.type d G) : OpensAt P [f] off d G := by
  intro H enc w base spare held fuel cs D hf hw
  obtain ⟨x, hx, hD⟩ := hf 0 f rfl
  rw [ho, hs] at hx
  refine h H enc w base spare held fuel _ x hx ?_
  intro n hn
  exact hw n (DataW.weights_mem_each (j := 0) rfl hD n hn)
theorem opensAt_cons {α β : Type} {P : Program} {f : Field} {fs : List Field} {off : Nat} {d : Kd α} {e : Kd β} {G : α → Prop} {G' : β → Prop} (ho : f.offset = off) (hs : P.cellsOf f.type = d.sz) (h : Opens P f.type d G) (k : OpensAt P fs (off + d.sz) e G') :
    OpensAt P (f :: fs) off (Kd.pair d e) (fun x => G x.1 ∧ G' x.2) := by
  intro H enc w base spare held fuel cs D hf hw
  obtain ⟨x, hx, hD⟩ := hf 0 f rfl
  rw [ho, hs] at hx
  obtain ⟨a, ha, hg⟩ := h H enc w base spare held fuel _ x hx (fun n hn => hw n (DataW.weights_mem_each (j := 0) rfl hD n hn))
  obtain ⟨d0, D', rfl⟩ : ∃ d0 D', D = d0 :: D' := by
    cases D with
    | nil => simp at hD
    | cons d0 D' => exact ⟨d0, D', rfl⟩
  obtain ⟨b, hb, hg'⟩ := k H enc w base spare held fuel cs D' (fun i f hi => by
    obtain ⟨y, hy, hyD⟩ := hf (i + 1) f (by simpa using hi)
    exact ⟨y, hy, by simpa using hyD⟩) (fun n hn => hw n (by
      simp only [List.map_cons, DataW.weightsEach, List.mem_append]
      exact .inr hn))
  refine ⟨(a, b), ⟨_, _, ?_, ha, hb⟩, hg, hg'⟩
  show (cs.drop off).take (d.sz + e.sz) = _
  rw [List.take_add, List.drop_drop]
theorem opens_struct {α : Type} {P : Program} {t : TypeId} {fs : Array Field} {d : Kd α} {G : α → Prop} (hu : P.underlying t = some (.struct fs)) (hs : P.cellsOf t = d.sz) (h : OpensAt P fs.toList 0 d G) : Opens P t d G := by
  intro H enc w base spare held fuel cs x hx hw
  obtain ⟨xs, n, rfl, rfl, hl, hxl, hf⟩ := DataW.trod_struct hu hx
  obtain ⟨a, ha, hg⟩ := h H enc w base spare held n cs (xs.map (·.1)) (fun i f hi => by
    have hi' : fs[i]? = some f := by simpa using hi
    have := hf i f hi'
    have hlt : i < xs.length := by rw [hxl]; exact (Array.getElem?_eq_some_iff.1 hi').1
    refine ⟨xs[i], by rw [this, List.getElem?_eq_getElem hlt], by simp [List.getElem?_eq_getElem hlt]⟩) (fun n hn => hw n (by simp only [DataW.weights, hu]; exact hn))
  refine ⟨a, ?_, hg⟩
  rw [List.drop_zero, ← hs, ← hl, List.take_length] at ha
  exact ha
end Go.Proofs.YtiancopplinpcaaDoor.Open
end
section
namespace Go.Proofs.YtiancopplinpcaaDoor.P
open Go.RowKit Go.Proofs.YtiancopplinpcaaDoorW.PrintWords Go.Proofs.YtiancopplinpcaaDoor.Open Go.Deep
instance : Inhabited S42 := ⟨z42⟩
def g42 (x : S42) : Prop := (Lit.int .i64 x.f0).wf = true ∧ (Lit.int .i64 x.f1).wf = true ∧ x.f2.size ≤ 140737488351232 ∧ x.f3.size ≤ 140737488351232
set_option maxRecDepth 100000 in
theorem o42 : Opens Tryd.prog 42 k42 (fun x => g42 x) :=
  opens_imp (opens_iso (fun x : S42 => (x.f0, x.f1, x.f2, x.f3)) (fun x => ⟨x.1, x.2.1, x.2.2.1, x.2.2.2⟩) (fun _ => rfl) (opens_struct Tryd.underlying42 zz49 (opensAt_cons rfl zz49 (opens_int Tryd.underlying3) (opensAt_cons rfl zz49 (opens_int Tryd.underlying3) (opensAt_cons rfl zz49 (opens_string Tryd.underlying9) (opensAt_one rfl zz49 (opens_string Tryd.underlying9))))))) (fun _ h => h)
instance : Inhabited S25 := ⟨z25⟩
def g25 (x : S25) : Prop := (Lit.int .i64 x.f0).wf = true ∧ (x.f1.length * 48 ≤ 140737488351232 ∧ ∀ a_ ∈ x.f1, g42 a_) ∧ x.f2.size ≤ 140737488351232
set_option maxRecDepth 100000 in
theorem o25 : Opens Tryd.prog 25 k25 (fun x => g25 x) :=
  opens_imp (opens_iso (fun x : S25 => (x.f0, x.f1, x.f2)) (fun x => ⟨x.1, x.2.1, x.2.2⟩) (fun _ => rfl) (opens_struct Tryd.underlying25 zz49 (opensAt_cons rfl zz49 (opens_int Tryd.underlying3) (opensAt_cons rfl zz49 (opens_slice (sz := 4) (B := 48) Tryd.underlying23 zz49 (by rfl) zz49 o42) (opensAt_one rfl zz49 (opens_string Tryd.underlying9)))))) (fun _ h => h)
end Go.Proofs.YtiancopplinpcaaDoor.P
end
section
namespace Go.Proofs.YtiancopplinpcaaDoor.P
def PropKinds.Pure : Prop := ∀ (l0 : (List S25)), (l0.length * 48 ≤ 140737488351232 ∧ ∀ a_ ∈ l0, g25 a_) → ∃ k, fairwaylaw4_PropKinds.f k l0 = some true
end Go.Proofs.YtiancopplinpcaaDoor.P
end
section
namespace Go.Proofs.YtiancopplinpcaaDoor.P
open Go.RowKit Go.Proofs.YtiancopplinpcaaDoorW.PrintWords Go.Proofs.YtiancopplinpcaaDoorW.PrintLast Go.Proofs.YtiancopplinpcaaDoorW.PrintMore
set_option linter.unusedSimpArgs false
set_option linter.unusedVariables false
theorem num_id (e : Int) : fairwaylaw4_num.f e = some e := rfl
theorem wakes_ev : Ev (fun k => fairwaylaw4_wakes.f k) true := by
  obtain ⟨K1, h1⟩ := stands_ev 0
  obtain ⟨K2, h2⟩ := num_ok (n := 0) (by decide) (by decide)
  obtain ⟨K3, h3⟩ := kind_ev 38
  refine ⟨K1 + K2 + K3 + 4, fun k hk => ?_⟩
  obtain ⟨k, rfl⟩ : ∃ m, k = m + 2 := ⟨k - 2, by omega⟩
  dsimp only at h1 h2 h3 ⊢
  unfold fairwaylaw4_wakes.f prop_Bytes.f prop_lay.f
  rw [h1 _ (by omega)]
  simp only [Option.bind_some]
  rw [if_pos (by decide)]
  simp only [prop_lay.j0]
  rw [if_neg (by decide)]
  simp only [prop_lay.l0]
  rw [if_neg (by decide)]
  simp only [Option.bind_some, if_true]
  have e0 : (((⟨#[]⟩ : ByteArray).size : Nat) : Int) = 0 := rfl
  rw [e0, h2 _ (by omega)]
  simp only [Option.bind_some]
  rw [if_pos (by rw [numOf_size, show (0 : Int).toNat = 0 from rfl, vb_small (by decide)]; decide), h3 _ (by omega)]
  have e1 : (numOf 0 ++ (⟨#[]⟩ : ByteArray)).toList = [0] := by
    unfold numOf
    rw [show (0 : Int).toNat = 0 from rfl, vb_small (by decide)]
    decide +kernel
  simp only [Option.bind_some, num_id, e1, if_true]
  rfl
end Go.Proofs.YtiancopplinpcaaDoor.P
end
section
namespace Go.Proofs.YtiancopplinpcaaDoor.P
def PropBytes.Pure : Prop := ∀ (l0 : (List S25)), (l0.length * 48 ≤ 140737488351232 ∧ ∀ a_ ∈ l0, g25 a_) → ∃ k, fairwaylaw4_PropBytes.f k l0 = some true
end Go.Proofs.YtiancopplinpcaaDoor.P
end
section
namespace Go.Proofs.YtiancopplinpcaaDoor.P
open Go.RowKit Go.Proofs.YtiancopplinpcaaDoorW.PrintWords Go.Proofs.YtiancopplinpcaaDoorW.PrintLast Go.Proofs.YtiancopplinpcaaDoorW.PrintMore
set_option linter.unusedSimpArgs false
set_option linter.unusedVariables false
theorem weight_loop (l : List S42) (hl : ∀ x ∈ l, x.f2.size ≤ 140737488351232 ∧ x.f3.size ≤ 140737488351232) (hn : l.length ≤ 140737488351232) (d : Nat) : ∀ (i : Nat) (n : Int), l.length - i = d → 0 ≤ n → n ≤ 400000000000000 →
    ∃ r, fairwaylaw0_PropsWeight.l0L l n (i : Int) = some r ∧ n ≤ r := by
  induction d with
  | zero =>
    intro i n hd h0 h1
    refine ⟨n, ?_, Int.le_refl _⟩
    rw [fairwaylaw0_PropsWeight.l0L_eq, if_neg (by omega)]
  | succ d ih =>
    intro i n hd h0 h1
    have hi : i < l.length := by omega
    have hrd : rd_T42 l (i : Int) = l[i] := by simp [rd_T42, hi]
    have hs := hl l[i] (List.getElem_mem hi)
    rw [fairwaylaw0_PropsWeight.l0L_eq, if_pos (by omega), hrd]
    by_cases hb : n < 1048576
    · obtain ⟨r, hr, hle⟩ := ih (i + 1) (n + l[i].f2.size + l[i].f3.size) (by omega) (by omega) (by omega)
      refine ⟨r, ?_, by omega⟩
      rw [if_pos hb, if_pos (by omega), w64 (n := n + (l[i].f2.size : Int)) (by omega) (by omega), w64 (n := n + (l[i].f2.size : Int) + (l[i].f3.size : Int)) (by omega) (by omega), w64 (n := (i : Int) + 1) (by omega) (by omega), show ((i : Int) + 1) = ((i + 1 : Nat) : Int) by omega]
      exact hr
    · exact ⟨n, by rw [if_neg hb], Int.le_refl _⟩
theorem heavy_is (x : S25) (hx : g25 x) : ∃ b, fairwaylaw4_heavy.fL x.f0 x.f1 x.f2 = some b ∧ (b = false → x.f1.length ≤ 10000 ∧ x.f2.size ≤ 9000) := by
  obtain ⟨h0, ⟨h1, h2⟩, h3⟩ := hx
  obtain ⟨r, hr, hle⟩ := weight_loop x.f1 (fun y hy => ⟨(h2 y hy).2.2.1, (h2 y hy).2.2.2⟩) (by omega) x.f1.length 0 x.f1.length (by omega) (by omega) (by omega)
  have e : fairwaylaw0_PropsWeight.fL x.f1 = some r := by rw [fairwaylaw0_PropsWeight.fL_eq]; exact hr
  rw [fairwaylaw4_heavy.fL_eq, e]
  simp only [Option.bind_some]
  by_cases h : r > 10000
  · exact ⟨true, by rw [if_pos h], by simp⟩
  · refine ⟨_, by rw [if_neg h], fun hb => ?_⟩
    have := of_decide_eq_false hb
    omega
theorem bytes_eq {a b : ByteArray} (h : a.toList = b.toList) : a = b := by
  rw [ByteArray.toList_eq, ByteArray.toList_eq] at h
  exact ByteArray.ext (Array.toList_inj.mp h)
theorem prop_eq (x y : S42) : (!(x.f0 == y.f0) || (!(x.f1 == y.f1) || (!(x.f2.toList == y.f2.toList) || (!(x.f3.toList == y.f3.toList))))) = false ↔ x = y := by
  obtain ⟨a, b, c, d⟩ := x
  obtain ⟨a', b', c', d'⟩ := y
  simp only [Bool.or_eq_false_iff, Bool.not_eq_false', beq_iff_eq]
  constructor
  · rintro ⟨rfl, rfl, h, h'⟩
    rw [bytes_eq h, bytes_eq h']
  · intro h; cases h; exact ⟨rfl, rfl, rfl, rfl⟩
theorem eq_loop (l m : List S42) (hlm : l.length = m.length) (hl : l.length ≤ 100000) (d : Nat) : ∀ i : Nat, l.length - i = d → ∃ b, fairwayref0_EqProps.l0L l m (i : Int) = some b ∧ (b = true ↔ l.drop i = m.drop i) := by
  induction d with
  | zero =>
    intro i hd
    refine ⟨true, ?_, ?_⟩
    · rw [fairwayref0_EqProps.l0L_eq, if_neg (by omega)]
    · rw [List.drop_of_length_le (by omega), List.drop_of_length_le (by omega)]
      simp
  | succ d ih =>
    intro i hd
    have hi : i < l.length := by omega
    have hm : i < m.length := by omega
    have e1 : rd_T42 l (i : Int) = l[i] := by simp [rd_T42, hi]
    have e2 : rd_T42 m (i : Int) = m[i] := by simp [rd_T42, hm]
    rw [fairwayref0_EqProps.l0L_eq, if_pos (by omega), if_pos (by omega), if_pos (by omega), e1, e2, List.drop_eq_getElem_cons hi, List.drop_eq_getElem_cons hm]
    by_cases h : l[i] = m[i]
    · obtain ⟨b, hb, hc⟩ := ih (i + 1) (by omega)
      refine ⟨b, ?_, ?_⟩
      · rw [if_neg (by rw [(prop_eq _ _).2 h]; simp), w64 (by omega) (by omega)]
        exact hb
      · rw [hc, h]
        exact ⟨fun h => by rw [h], fun h => (List.cons.inj h).2⟩
    · refine ⟨false, ?_, ?_⟩
      · rw [if_pos (by cases h' : (!((l[i]).f0 == (m[i]).f0) || (!((l[i]).f1 == (m[i]).f1) || (!((l[i]).f2.toList == (m[i]).f2.toList) || (!((l[i]).f3.toList == (m[i]).f3.toList))))) with
          | true => rfl
          | false => exact absurd ((prop_eq _ _).1 h') h)]
      · exact ⟨(fun h => by cases h), (fun h' => absurd (List.cons.inj h').1 h)⟩
theorem eq_is (l m : List S42) (hl : l.length ≤ 100000) : ∃ b, fairwayref0_EqProps.fL l m = some b ∧ (b = true ↔ l = m) := by
  rw [fairwayref0_EqProps.fL_eq]
  by_cases h : l.length = m.length
  · obtain ⟨b, hb, hc⟩ := eq_loop l m h hl l.length 0 (by omega)
    exact ⟨b, by rw [if_pos (by omega)]; exact hb, by simpa using hc⟩
  · exact ⟨false, by rw [if_neg (by omega)], by simp; intro h'; exact h (by rw [h'])⟩
theorem eq_self (l : List S42) (hl : l.length ≤ 100000) : fairwayref0_EqProps.fL l l = some true := by
  obtain ⟨b, hb, hc⟩ := eq_is l l hl
  rw [hb, hc.2 rfl]
theorem wakes_is : fairwaylaw4_wakes.fL = some true := lim_of wakes_ev
end Go.Proofs.YtiancopplinpcaaDoor.P
end
section
namespace Go.Proofs.YtiancopplinpcaaDoor.P
def PropTakes.Pure : Prop := ∀ (l0 : (List S25)), (l0.length * 48 ≤ 140737488351232 ∧ ∀ a_ ∈ l0, g25 a_) → ∃ k, fairwaylaw4_PropTakes.f k l0 = some true
end Go.Proofs.YtiancopplinpcaaDoor.P
end
section
namespace Go.Proofs.YtiancopplinpcaaDoor.P
def PropNumbers.Pure : Prop := ∀ (l0 : (List S25)), (l0.length * 48 ≤ 140737488351232 ∧ ∀ a_ ∈ l0, g25 a_) → ∃ k, fairwaylaw4_PropNumbers.f k l0 = some true
end Go.Proofs.YtiancopplinpcaaDoor.P
end
section
namespace Go.Proofs.YtiancopplinpcaaDoor.P
def PropTexts.Pure : Prop := ∀ (l0 : (List S25)), (l0.length * 48 ≤ 140737488351232 ∧ ∀ a_ ∈ l0, g25 a_) → ∃ k, fairwaylaw4_PropTexts.f k l0 = some true
end Go.Proofs.YtiancopplinpcaaDoor.P
end
section
namespace Go.Proofs.YtiancopplinpcaaDoor.P
def PropPairs.Pure : Prop := ∀ (l0 : (List S25)), (l0.length * 48 ≤ 140737488351232 ∧ ∀ a_ ∈ l0, g25 a_) → ∃ k, fairwaylaw4_PropPairs.f k l0 = some true
end Go.Proofs.YtiancopplinpcaaDoor.P
end
section
namespace Go.Proofs.YtiancopplinpcaaDoor.P
open Go.RowKit Go.Proofs.YtiancopplinpcaaDoorW.PrintWords Go.Proofs.YtiancopplinpcaaDoorW.PrintLast Go.Proofs.YtiancopplinpcaaDoorW.PrintMore
set_option linter.unusedSimpArgs false
set_option linter.unusedVariables false
theorem one3_loop (l : List S25) (lo hi i k p : Int) (s : ByteArray) (hs : s.size ≤ 90000) (a n : Int) (S V : ByteArray) (b : Bool) (hp : 0 ≤ p ∧ p ≤ 15) (nx : fairwaylaw4_one.l2L l lo hi i k (wrap64 (p + 1)) a n S V = some b) (d : Nat) :
    ∀ j : Nat, 12 - j = d → j ≤ 12 → fairwaylaw4_one.l3L l lo hi i k p s (j : Int) a n S V = some b := by
  induction d with
  | zero =>
    intro j hd hj
    rw [fairwaylaw4_one.l3L_eq]
    have e : decide ((j : Int) < 12) = false := decide_eq_false (by omega)
    rw [e, ite_self, fairwaylaw4_one.j8L_eq, if_neg (by simp)]
    exact nx
  | succ d ih =>
    intro j hd hj
    have hn := ih (j + 1) (by omega) (by omega)
    rw [fairwaylaw4_one.l3L_eq]
    have e : decide ((j : Int) < 12) = true := decide_eq_true (by omega)
    rw [e]
    by_cases h : (j : Int) < (s.size : Int)
    · rw [if_pos h, fairwaylaw4_one.j8L_eq, if_pos rfl, if_pos (by omega)]
      simp only [Option.bind_some]
      rw [if_pos (by omega), if_pos (by rw [bytesOf_length]; exact h)]
      generalize hy : (bytesOf s).set (j : Int).toNat (Go.bits .xor .u8 (rd (bytesOf s) (j : Int)) ((wrap64 (1 + (Int.tmod (wrap64 ((wrap64 (i * 41)) + (wrap64 ((j : Int) * 13)))) 255))) % 256)) = y
      have hyl : y.length = s.size := by rw [← hy, List.length_set, bytesOf_length]
      obtain ⟨R, h1, h2, h3, _⟩ := take_same p hp (strOfNums y) (by rw [str_size]; omega)
      rw [h1, h2]
      simp only [Option.bind_some, num_id, if_true]
      rw [eq_self R.1 (by omega)]
      simp only [Option.bind_some, if_true]
      rw [w64 (by omega) (by omega)]
      exact hn
    · rw [if_neg h, fairwaylaw4_one.j8L_eq, if_neg (by simp)]
      exact nx
theorem one2_loop (l : List S25) (lo hi i k : Int) (a n : Int) (S V : ByteArray) (b : Bool) (nx : fairwaylaw4_one.l1L l lo hi i (wrap64 (k + 1)) = some b) (d : Nat) :
    ∀ p : Int, (16 - p).toNat = d → 0 ≤ p → p ≤ 16 → fairwaylaw4_one.l2L l lo hi i k p a n S V = some b := by
  induction d with
  | zero =>
    intro p hd h0 h1
    rw [fairwaylaw4_one.l2L_eq, if_neg (by omega)]
    exact nx
  | succ d ih =>
    intro p hd h0 h1
    have hn := ih (p + 1) (by omega) (by omega) (by omega)
    have hw : wrap64 (p + 1) = p + 1 := w64 (by omega) (by omega)
    rw [← hw] at hn
    rw [fairwaylaw4_one.l2L_eq, if_pos (by clear hw hn; omega), show prop_Bytes.fL p [⟨a, n, S, V⟩] = _ from lim_of (bytes_ev p _ (by simp)), show fairwayref4_Props.fL p [⟨a, n, S, V⟩] = _ from lim_of (refProps_ev p _ (by simp))]
    simp only [Option.bind_some, num_id]
    cases hp : propsP p [⟨a, n, S, V⟩] with
    | true =>
      have hz := bytesP_size hp
      rw [if_neg (by simp), if_pos rfl, show fairwayref4_PropBytes.fL [⟨a, n, S, V⟩] = _ from lim_of (refBytes_ev hp)]
      simp only [Option.bind_some, if_true]
      rw [fairwaylaw4_one.j6L_eq, if_neg (by simp), if_pos rfl]
      have hv := numOf_size ((bytesP [⟨a, n, S, V⟩]).size : Int)
      have hl := vb_len5 ((bytesP [⟨a, n, S, V⟩]).size : Int).toNat (by clear hw hn; omega)
      exact one3_loop l lo hi i k p _ (by rw [app_size]; clear hw hn; omega) a n S V b (by clear hw hn; omega) hn 12 0 rfl (by decide)
    | false =>
      rw [if_neg (by simp), if_neg (by simp), fairwaylaw4_one.j6L_eq, if_neg (by simp), if_neg (by simp)]
      exact hn
theorem one1_loop (l : List S25) (lo hi : Int) (i : Nat) (hi' : i < l.length) (hl : l.length ≤ 9223372036854775807) (b : Bool) (nx : fairwaylaw4_one.l0L l lo hi (wrap64 ((i : Int) + 1)) = some b) (d : Nat) :
    ∀ k : Nat, 6 - k = d → k ≤ 6 → fairwaylaw4_one.l1L l lo hi (i : Int) (k : Int) = some b := by
  have hrd : rd_T25 l (i : Int) = l[i] := by simp [rd_T25, hi']
  have c0 : (0 ≤ (i : Int)) = True := eq_true (by omega)
  have c1 : ((i : Int) < (l.length : Int)) = True := eq_true (by omega)
  induction d with
  | zero =>
    intro k hd hk
    have e : decide ((k : Int) < 6) = false := decide_eq_false (by omega)
    rw [fairwaylaw4_one.l1L_eq]
    simp only [c0, c1, if_true, e, ite_self]
    rw [fairwaylaw4_one.j3L_eq, if_neg (by simp)]
    exact nx
  | succ d ih =>
    intro k hd hk
    have hn := ih (k + 1) (by omega) (by omega)
    have e : decide ((k : Int) < 6) = true := decide_eq_true (by omega)
    rw [fairwaylaw4_one.l1L_eq]
    simp only [c0, c1, if_true, e, hrd]
    by_cases h : (k : Int) < (l[i].f1.length : Int)
    · have c2 : (0 ≤ (k : Int)) = True := eq_true (by omega)
      rw [if_pos h, fairwaylaw4_one.j3L_eq]
      simp only [c0, c1, c2, if_true, hrd]
      rw [if_pos h, show fairwayref4_Kind.fL _ = _ from lim_of (refKind_ev _)]
      simp only [Option.bind_some]
      have hw : wrap64 ((k : Int) + 1) = ((k + 1 : Nat) : Int) := step_w (by omega)
      rw [← hw] at hn
      have fin : ∀ (t : Bool) (x : S42), fairwaylaw4_one.j4L l lo hi (i : Int) (k : Int) t x.f0 x.f1 x.f2 x.f3 = some b := by
        intro t x
        rw [fairwaylaw4_one.j4L_eq]
        cases t with
        | true => rw [if_pos rfl]; exact hn
        | false =>
          rw [if_neg (by simp)]
          exact one2_loop l lo hi i k _ _ _ _ b hn 16 0 rfl (by decide) (by decide)
      split <;> exact fin _ _
    · rw [if_neg h, fairwaylaw4_one.j3L_eq, if_neg (by simp)]
      exact nx
theorem one0_loop (l : List S25) (lo hi : Int) (hl : ∀ x ∈ l, g25 x) (hll : l.length ≤ 9223372036854775807) (d : Nat) : ∀ i : Nat, 10 - i = d → i ≤ 10 → fairwaylaw4_one.l0L l lo hi (i : Int) = some true := by
  induction d with
  | zero =>
    intro i hd hi
    rw [fairwaylaw4_one.l0L_eq]
    have e : decide ((i : Int) < 10) = false := decide_eq_false (by omega)
    rw [e, ite_self, fairwaylaw4_one.j1L_eq, if_neg (by simp), wakes_is]; rfl
  | succ d ih =>
    intro i hd hi'
    have hn := ih (i + 1) (by omega) (by omega)
    rw [fairwaylaw4_one.l0L_eq]
    have e : decide ((i : Int) < 10) = true := decide_eq_true (by omega)
    rw [e]
    by_cases h : (i : Int) < (l.length : Int)
    · have hi'' : i < l.length := by omega
      have hrd : rd_T25 l (i : Int) = l[i] := by simp [rd_T25, hi'']
      rw [if_pos h, fairwaylaw4_one.j1L_eq, if_pos rfl, if_pos (by omega), if_pos h, hrd]
      obtain ⟨b, hb, hs⟩ := heavy_is l[i] (hl _ (List.getElem_mem hi''))
      rw [hb]
      simp only [Option.bind_some]
      cases b with
      | true => rfl
      | false =>
        rw [if_neg (by simp)]
        refine one1_loop l lo hi i hi'' hll true ?_ 6 0 rfl (by decide)
        rw [w64 (by omega) (by omega)]
        exact hn
    · rw [if_neg h, fairwaylaw4_one.j1L_eq, if_neg (by simp), wakes_is]; rfl
theorem one_is (l : List S25) (lo hi : Int) (h : l.length * 48 ≤ 140737488351232 ∧ ∀ x ∈ l, g25 x) : fairwaylaw4_one.fL l lo hi = some true := by
  rw [fairwaylaw4_one.fL_eq]
  exact one0_loop l lo hi h.2 (by omega) 10 0 rfl (by decide)
theorem PropNumbers_pure : PropNumbers.Pure := fun l h => Ev.rounds (ev_of_lim (g := fun k => fairwaylaw4_PropNumbers.f k l) (by
  show fairwaylaw4_PropNumbers.fL l = _
  rw [fairwaylaw4_PropNumbers.fL_eq, one_is l _ _ h]
  rfl))
theorem PropTexts_pure : PropTexts.Pure := fun l h => Ev.rounds (ev_of_lim (g := fun k => fairwaylaw4_PropTexts.f k l) (by
  show fairwaylaw4_PropTexts.fL l = _
  rw [fairwaylaw4_PropTexts.fL_eq, one_is l _ _ h]
  rfl))
theorem PropPairs_pure : PropPairs.Pure := fun l h => Ev.rounds (ev_of_lim (g := fun k => fairwaylaw4_PropPairs.f k l) (by
  show fairwaylaw4_PropPairs.fL l = _
  rw [fairwaylaw4_PropPairs.fL_eq, one_is l _ _ h]
  rfl))
end Go.Proofs.YtiancopplinpcaaDoor.P
end
