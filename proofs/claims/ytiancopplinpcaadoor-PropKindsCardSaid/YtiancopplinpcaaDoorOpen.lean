/- What an argument reads as is told here as a plain Lean value: numbers, bools, strings, slices and structs, nested. -/
import Derived.Test.YtiancopplinpcaaDoorWWords
import Derived.Deep.Slices
import Derived.SizedLaws
namespace Go.Proofs.YtiancopplinpcaaDoor.Open
open Go.RowKit Go.Proofs.YtiancopplinpcaaDoorW.PrintWords Go.Deep

/-- Cells that are read as type t are of kind d, and the value is good. -/
def Opens {α : Type} (P : Program) (t : TypeId) (d : Kd α) (G : α → Prop) : Prop :=
  ∀ (H : Type) (enc : TypeId × Value → H) (w : World) (base : Nat) (spare : Nat → Bool) (held : Bool) (fuel : Nat) (cs : List Value) (x : DataW H × List MemPlace),
    DataW.trod enc P w base spare held fuel t cs = some x → (∀ n ∈ x.1.weights P t, n ≤ reachBytes) → ∃ a, d.K w a cs ∧ G a

theorem opens_int {P : Program} {t : TypeId} {k : IntKind} (hu : P.underlying t = some (.int k)) : Opens P t (Kd.int k) (fun n => (Lit.int k n).wf = true) := by
  intro H enc w base spare held fuel cs x h _
  obtain ⟨n, rfl, rfl, hw⟩ := DataW.trod_int hu h
  exact ⟨n, rfl, hw⟩

theorem opens_bool {P : Program} {t : TypeId} (hu : P.underlying t = some .bool) : Opens P t Kd.bool (fun _ => True) := by
  intro H enc w base spare held fuel cs x h _
  obtain ⟨b, rfl, rfl⟩ := DataW.trod_bool hu h
  exact ⟨b, rfl, trivial⟩

theorem opens_string {P : Program} {t : TypeId} (hu : P.underlying t = some .string) : Opens P t Kd.string (fun s => s.size ≤ 140737488351232) := by
  intro H enc w base spare held fuel cs x h hw
  obtain ⟨s, rfl, rfl, _⟩ := DataW.trod_string hu h
  refine ⟨s, rfl, ?_⟩
  have := hw s.data.toList.length (by simp [DataW.weights])
  rwa [data_length] at this

theorem weights_all {H : Type} {P : Program} {e : TypeId} : ∀ {ds : List (DataW H)} {d : DataW H}, d ∈ ds → ∀ n ∈ d.weights P e, n ∈ DataW.weightsAll P e ds
  | d0 :: ds, d, hd, n, hn => by
    simp only [DataW.weightsAll, List.mem_append]
    rcases List.mem_cons.1 hd with rfl | hd
    · exact Or.inl hn
    · exact Or.inr (weights_all hd n hn)
  | [], _, hd, _, _ => by simp at hd

theorem opens_slice {α : Type} [Inhabited α] {P : Program} {t e : TypeId} {d : Kd α} {G : α → Prop} {B sz : Nat} (hu : P.underlying t = some (.slice e)) (hsz : P.cellsOf e = sz) (hd : d.sz = sz) (hB : P.bytesOf e = B)
    (h : Opens P e d G) : Opens P t (Kd.slice e d) (fun l => l.length * B ≤ 140737488351232 ∧ ∀ a ∈ l, G a) := by
  intro H enc w base spare held fuel cs x hx hw
  rcases open_slice hu hx with ⟨rfl, rfl⟩ | ⟨a, len, cap, m, n, D, Pl, rfl, hb, hl, hm, hmm, rfl, hel⟩
  · refine ⟨[], ⟨none, 0, rfl, Nat.le_refl _, ?_⟩, by simp, by simp⟩
    exact ⟨rfl, by simp, fun h0 => absurd h0 (Nat.lt_irrefl 0)⟩
  · have hlm : len ≤ m := by rw [hmm]; split <;> omega
    have hwD : ∀ i, i < len → ∀ n ∈ (D i).weights P e, n ≤ reachBytes := by
      intro i hi n hn
      refine hw n ?_
      simp only [DataW.weights, hu, List.mem_cons, List.mem_append]
      exact .inr (.inl (weights_all (List.mem_map.2 ⟨i, List.mem_range.2 hi, rfl⟩) n hn))
    have hel' : ∀ i, i < len → ∃ x : α × List Value, w.cells? base (a.add (i * sz)) sz = some x.2 ∧ d.K w x.1 x.2 ∧ G x.1 := by
      intro i hi
      obtain ⟨cs', hc, ht⟩ := hel i (by omega)
      obtain ⟨v, hk, hg⟩ := h H enc w base spare held n cs' (D i, Pl i) ht (hwD i hi)
      rw [hsz] at hc
      exact ⟨(v, cs'), hc, hk, hg⟩
    obtain ⟨F, hF⟩ := choose_lt (α := α × List Value) hel'
    have hlen : ((List.range len).map fun i => (F i).1).length = len := by simp
    refine ⟨(List.range len).map fun i => (F i).1, ⟨some a, cap, by rw [hlen], by rw [hlen]; exact hl, ?_⟩, ?_, ?_⟩
    · rw [hlen]
      refine ⟨hlen, by simp only [maxLen] at hm; omega, fun _ => ⟨a, rfl, fun j p hj => ?_⟩⟩
      obtain ⟨hj1, hj2⟩ := List.getElem?_eq_some_iff.1 hj
      rw [hlen] at hj1
      obtain ⟨hc, hk, _⟩ := hF j hj1
      have hp : (F j).1 = p := by simpa using hj2
      obtain ⟨_, hcl, hcell⟩ := World.cells?_some hc
      refine ⟨(F j).2, by rw [hd]; exact hcl, hp ▸ hk, fun i u hu => ?_⟩
      have hi : i < sz := by rw [← hcl]; exact (List.getElem?_eq_some_iff.1 hu).1
      have := hcell i hi
      rw [hu, Go.Deep.add_add] at this
      rw [hd]
      exact this
    · rw [hlen]
      have := hw ((len + (m - len)) * P.bytesOf e) (by simp [DataW.weights, hu])
      rw [hB] at this
      have hx : len * B ≤ (len + (m - len)) * B := Nat.mul_le_mul_right _ (by omega)
      exact Nat.le_trans hx this
    · intro v hv
      obtain ⟨i, hi, rfl⟩ := List.mem_map.1 hv
      exact (hF i (List.mem_range.1 hi)).2.2

theorem opens_iso {α β : Type} {P : Program} {t : TypeId} {d : Kd α} {G : α → Prop} (f : β → α) (g : α → β) (hf : ∀ a, f (g a) = a) (h : Opens P t d G) : Opens P t (Kd.iso d f) (fun b => G (f b)) := by
  intro H enc w base spare held fuel cs x hx hw
  obtain ⟨a, hk, hg⟩ := h H enc w base spare held fuel cs x hx hw
  refine ⟨g a, ?_, by show G (f (g a)); rw [hf]; exact hg⟩
  show d.K w (f (g a)) cs
  rw [hf]
  exact hk

theorem opens_imp {α : Type} {P : Program} {t : TypeId} {d : Kd α} {G G' : α → Prop} (h : Opens P t d G) (hG : ∀ a, G a → G' a) : Opens P t d G' := by
  intro H enc w base spare held fuel cs x hx hw
  obtain ⟨a, hk, hg⟩ := h H enc w base spare held fuel cs x hx hw
  exact ⟨a, hk, hG a hg⟩

/-- Fields in line, from an offset on. -/
def OpensAt {α : Type} (P : Program) (fs : List Field) (off : Nat) (d : Kd α) (G : α → Prop) : Prop :=
  ∀ (H : Type) (enc : TypeId × Value → H) (w : World) (base : Nat) (spare : Nat → Bool) (held : Bool) (fuel : Nat) (cs : List Value) (D : List (DataW H)),
    (∀ (i : Nat) (f : Field), fs[i]? = some f → ∃ x, DataW.trod enc P w base spare held fuel f.type ((cs.drop f.offset).take (P.cellsOf f.type)) = some x ∧ D[i]? = some x.1) →
    (∀ n ∈ DataW.weightsEach P (fs.map (·.type)) D, n ≤ reachBytes) → ∃ a, d.K w a ((cs.drop off).take d.sz) ∧ G a

theorem opensAt_one {α : Type} {P : Program} {f : Field} {off : Nat} {d : Kd α} {G : α → Prop} (ho : f.offset = off) (hs : P.cellsOf f.type = d.sz) (h : Opens P f.type d G) : OpensAt P [f] off d G := by
  intro H enc w base spare held fuel cs D hf hw
  obtain ⟨x, hx, hD⟩ := hf 0 f rfl
  rw [ho, hs] at hx
  refine h H enc w base spare held fuel _ x hx ?_
  intro n hn
  exact hw n (DataW.weights_mem_each (j := 0) rfl hD n hn)

theorem opensAt_cons {α β : Type} {P : Program} {f : Field} {fs : List Field} {off : Nat} {d : Kd α} {e : Kd β} {G : α → Prop} {G' : β → Prop} (ho : f.offset = off) (hs : P.cellsOf f.type = d.sz) (h : Opens P f.type d G) (k : OpensAt P fs (off + d.sz) e G') :
    OpensAt P (f :: fs) off (Kd.pair d e) (fun x => G x.1 ∧ G' x.2) := by
  intro H enc w base spare held fuel cs D hf hw
  obtain ⟨x, hx, hD⟩ := hf 0 f rfl
  rw [ho, hs] at hx
  obtain ⟨a, ha, hg⟩ := h H enc w base spare held fuel _ x hx (fun n hn => hw n (DataW.weights_mem_each (j := 0) rfl hD n hn))
  obtain ⟨d0, D', rfl⟩ : ∃ d0 D', D = d0 :: D' := by
    cases D with
    | nil => simp at hD
    | cons d0 D' => exact ⟨d0, D', rfl⟩
  obtain ⟨b, hb, hg'⟩ := k H enc w base spare held fuel cs D' (fun i f hi => by
    obtain ⟨y, hy, hyD⟩ := hf (i + 1) f (by simpa using hi)
    exact ⟨y, hy, by simpa using hyD⟩) (fun n hn => hw n (by
      simp only [List.map_cons, DataW.weightsEach, List.mem_append]
      exact .inr hn))
  refine ⟨(a, b), ⟨_, _, ?_, ha, hb⟩, hg, hg'⟩
  show (cs.drop off).take (d.sz + e.sz) = _
  rw [List.take_add, List.drop_drop]

theorem opens_struct {α : Type} {P : Program} {t : TypeId} {fs : Array Field} {d : Kd α} {G : α → Prop} (hu : P.underlying t = some (.struct fs)) (hs : P.cellsOf t = d.sz) (h : OpensAt P fs.toList 0 d G) : Opens P t d G := by
  intro H enc w base spare held fuel cs x hx hw
  obtain ⟨xs, n, rfl, rfl, hl, hxl, hf⟩ := DataW.trod_struct hu hx
  obtain ⟨a, ha, hg⟩ := h H enc w base spare held n cs (xs.map (·.1)) (fun i f hi => by
    have hi' : fs[i]? = some f := by simpa using hi
    have := hf i f hi'
    have hlt : i < xs.length := by rw [hxl]; exact (Array.getElem?_eq_some_iff.1 hi').1
    refine ⟨xs[i], by rw [this, List.getElem?_eq_getElem hlt], by simp [List.getElem?_eq_getElem hlt]⟩) (fun n hn => hw n (by simp only [DataW.weights, hu]; exact hn))
  refine ⟨a, ?_, hg⟩
  rw [List.drop_zero, ← hs, ← hl, List.take_length] at ha
  exact ha

end Go.Proofs.YtiancopplinpcaaDoor.Open
