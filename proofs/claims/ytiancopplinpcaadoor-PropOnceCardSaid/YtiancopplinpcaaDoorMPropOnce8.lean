/- The statement PropOnce: for every input the law answers true, and its argument reads behind the call as it did (part 9 of 10 of the proof). -/
import Derived.Test.YtiancopplinpcaaDoorMPropOnce7
import Derived.Deep.Slices
import Derived.SizedLaws
import Derived.RegionTactic
import Derived.ChangeAlike
import Derived.LoopTactic
import Derived.Shelf.Abstract
section
theorem zz11 {p : Prop} (h : p := by repeat (first | exact BW1.out | refine Below.setCell ?_ g6.out _)) : p := h
theorem zz12 {p : Prop} (h : p := by repeat (first | exact BW2.out | refine Below.setCell ?_ g7.out _)) : p := h
theorem zz18 {p : Prop} (h : p := by have := HI.out; omega) : p := h
theorem zz13 {p : Prop} (h : p := by rw [show (((id.toNat : Nat)) : Int) = id by omega]; exact HKK.out) : p := h
namespace Go.Proofs.YtiancopplinpcaaDoor.Open
open Go.RowKit Go.Proofs.YtiancopplinpcaaDoorW.PrintWords Go.Deep
def Opens {α : Type} (P : Program) (t : TypeId) (d : Kd α) (G : α → Prop) : Prop :=
  ∀ (H : Type) (enc : TypeId × Value → H) (w : World) (base : Nat) (spare : Nat → Bool) (held : Bool) (fuel : Nat) (cs : List Value) (x : DataW H × List MemPlace),
    DataW.trod enc P w base spare held fuel t cs = some x → (∀ n ∈ x.1.weights P t, n ≤ reachBytes) → ∃ a, d.K w a cs ∧ G a
theorem opens_int {P : Program} {t : TypeId} {k : IntKind} (hu : P.underlying t = some (.int k)) : Opens P t (Kd.int k) (fun n => (Lit.int k n).wf = true) := by
  intro H enc w base spare held fuel cs x h _
  obtain ⟨n, rfl, rfl, hw⟩ := DataW.trod_int hu h
  exact ⟨n, rfl, hw⟩
theorem opens_string {P : Program} {t : TypeId} (hu : P.underlying t = some .string) : Opens P t Kd.string (fun s => s.size ≤ 140737488351232) := by
  intro H enc w base spare held fuel cs x h hw
  obtain ⟨s, rfl, rfl, _⟩ := DataW.trod_string hu h
  refine ⟨s, rfl, ?_⟩
  have := hw s.data.toList.length (by simp [DataW.weights])
  rwa [data_length] at this
theorem weights_all {H : Type} {P : Program} {e : TypeId} : ∀ {ds : List (DataW H)} {d : DataW H}, d ∈ ds → ∀ n ∈ d.weights P e, n ∈ DataW.weightsAll P e ds
  | d0 :: ds, d, hd, n, hn => by
    simp only [DataW.weightsAll, List.mem_append]
    rcases List.mem_cons.1 hd with rfl | hd
    · exact Or.inl hn
    · exact Or.inr (weights_all hd n hn)
  | [], _, hd, _, _ => by simp at hd
theorem opens_slice {α : Type} [Inhabited α] {P : Program} {t e : TypeId} {d : Kd α} {G : α → Prop} {B sz : Nat} (hu : P.underlying t = some (.slice e)) (hsz : P.cellsOf e = sz) (hd : d.sz = sz) (hB : P.bytesOf e = B)
    (h : Opens P e d G) : Opens P t (Kd.slice e d) (fun l => l.length * B ≤ 140737488351232 ∧ ∀ a ∈ l, G a) := by
  intro H enc w base spare held fuel cs x hx hw
  rcases open_slice hu hx with ⟨rfl, rfl⟩ | ⟨a, len, cap, m, n, D, Pl, rfl, hb, hl, hm, hmm, rfl, hel⟩
  · refine ⟨[], ⟨none, 0, rfl, Nat.le_refl _, ?_⟩, by simp, by simp⟩
    exact ⟨rfl, by simp, fun h0 => absurd h0 (Nat.lt_irrefl 0)⟩
  · have hlm : len ≤ m := by rw [hmm]; split <;> omega
    have hwD : ∀ i, i < len → ∀ n ∈ (D i).weights P e, n ≤ reachBytes := by
      intro i hi n hn
      refine hw n ?_
      simp only [DataW.weights, hu, List.mem_cons, List.mem_append]
      exact .inr (.inl (weights_all (List.mem_map.2 ⟨i, List.mem_range.2 hi, rfl⟩) n hn))
    have hel' : ∀ i, i < len → ∃ x : α × List Value, w.cells? base (a.add (i * sz)) sz = some x.2 ∧ d.K w x.1 x.2 ∧ G x.1 := by
      intro i hi
      obtain ⟨cs', hc, ht⟩ := hel i (by omega)
      obtain ⟨v, hk, hg⟩ := h H enc w base spare held n cs' (D i, Pl i) ht (hwD i hi)
      rw [hsz] at hc
      exact ⟨(v, cs'), hc, hk, hg⟩
    obtain ⟨F, hF⟩ := choose_lt (α := α × List Value) hel'
    have hlen : ((List.range len).map fun i => (F i).1).length = len := by simp
    refine ⟨(List.range len).map fun i => (F i).1, ⟨some a, cap, by rw [hlen], by rw [hlen]; exact hl, ?_⟩, ?_, ?_⟩
    · rw [hlen]
      refine ⟨hlen, by simp only [maxLen] at hm; omega, fun _ => ⟨a, rfl, fun j p hj => ?_⟩⟩
      obtain ⟨hj1, hj2⟩ := List.getElem?_eq_some_iff.1 hj
      rw [hlen] at hj1
      obtain ⟨hc, hk, _⟩ := hF j hj1
      have hp : (F j).1 = p := by simpa using hj2
      obtain ⟨_, hcl, hcell⟩ := World.cells?_some hc
      refine ⟨(F j).2, by rw [hd]; exact hcl, hp ▸ hk, fun i u hu => ?_⟩
      have hi : i < sz := by rw [← hcl]; exact (List.getElem?_eq_some_iff.1 hu).1
      have := hcell i hi
      rw [hu, Go.Deep.add_add] at this
      rw [hd]
      exact this
    · rw [hlen]
      have := hw ((len + (m - len)) * P.bytesOf e) (by simp [DataW.weights, hu])
      rw [hB] at this
      have hx : len * B ≤ (len + (m - len)) * B := Nat.mul_le_mul_right _ (by omega)
      exact Nat.le_trans hx this
    · intro v hv
      obtain ⟨i, hi, rfl⟩ := List.mem_map.1 hv
      exact (hF i (List.mem_range.1 hi)).2.2
theorem opens_iso {α β : Type} {P : Program} {t : TypeId} {d : Kd α} {G : α → Prop} (f : β → α) (g : α → β) (hf : ∀ a, f (g a) = a) (h : Opens P t d G) : Opens P t (Kd.iso d f) (fun b => G (f b)) := by
  intro H enc w base spare held fuel cs x hx hw
  obtain ⟨a, hk, hg⟩ := h H enc w base spare held fuel cs x hx hw
  refine ⟨g a, ?_, by show G (f (g a)); rw [hf]; exact hg⟩
  show d.K w (f (g a)) cs
  rw [hf]
  exact hk
theorem opens_imp {α : Type} {P : Program} {t : TypeId} {d : Kd α} {G G' : α → Prop} (h : Opens P t d G) (hG : ∀ a, G a → G' a) : Opens P t d G' := by
  intro H enc w base spare held fuel cs x hx hw
  obtain ⟨a, hk, hg⟩ := h H enc w base spare held fuel cs x hx hw
  exact ⟨a, hk, hG a hg⟩
def OpensAt {α : Type} (P : Program) (fs : List Field) (off : Nat) (d : Kd α) (G : α → Prop) : Prop :=
  ∀ (H : Type) (enc : TypeId × Value → H) (w : World) (base : Nat) (spare : Nat → Bool) (held : Bool) (fuel : Nat) (cs : List Value) (D : List (DataW H)),
    (∀ (i : Nat) (f : Field), fs[i]? = some f → ∃ x, DataW.trod enc P w base spare held fuel f.type ((cs.drop f.offset).take (P.cellsOf f.type)) = some x ∧ D[i]? = some x.1) →
    (∀ n ∈ DataW.weightsEach P (fs.map (·.type)) D, n ≤ reachBytes) → ∃ a, d.K w a ((cs.drop off).take d.sz) ∧ G a
theorem opensAt_one {α : Type} {P : Program} {f : Field} {off : Nat} {d : Kd α} {G : α → Prop} (ho : f.offset = off) (hs : P.cellsOf f.type = d.sz) (h : Opens P f.type d G) : OpensAt P [f] off d G := by
  intro H enc w base spare held fuel cs D hf hw
  obtain ⟨x, hx, hD⟩ := hf 0 f rfl
  rw [ho, hs] at hx
  refine h H enc w base spare held fuel _ x hx ?_
  intro n hn
  exact hw n (DataW.weights_mem_each (j := 0) rfl hD n hn)
theorem opensAt_cons {α β : Type} {P : Program} {f : Field} {fs : List Field} {off : Nat} {d : Kd α} {e : Kd β} {G : α → Prop} {G' : β → Prop} (ho : f.offset = off) (hs : P.cellsOf f.type = d.sz) (h : Opens P f.type d G) (k : OpensAt P fs (off + d.sz) e G') :
    OpensAt P (f :: fs) off (Kd.pair d e) (fun x => G x.1 ∧ G' x.2) := by
  intro H enc w base spare held fuel cs D hf hw
  obtain ⟨x, hx, hD⟩ := hf 0 f rfl
  rw [ho, hs] at hx
  obtain ⟨a, ha, hg⟩ := h H enc w base spare held fuel _ x hx (fun n hn => hw n (DataW.weights_mem_each (j := 0) rfl hD n hn))
  obtain ⟨d0, D', rfl⟩ : ∃ d0 D', D = d0 :: D' := by
    cases D with
    | nil => simp at hD
    | cons d0 D' => exact ⟨d0, D', rfl⟩
  obtain ⟨b, hb, hg'⟩ := k H enc w base spare held fuel cs D' (fun i f hi => by
    obtain ⟨y, hy, hyD⟩ := hf (i + 1) f (by simpa using hi)
    exact ⟨y, hy, by simpa using hyD⟩) (fun n hn => hw n (by
      simp only [List.map_cons, DataW.weightsEach, List.mem_append]
      exact .inr hn))
  refine ⟨(a, b), ⟨_, _, ?_, ha, hb⟩, hg, hg'⟩
  show (cs.drop off).take (d.sz + e.sz) = _
  rw [List.take_add, List.drop_drop]
theorem opens_struct {α : Type} {P : Program} {t : TypeId} {fs : Array Field} {d : Kd α} {G : α → Prop} (hu : P.underlying t = some (.struct fs)) (hs : P.cellsOf t = d.sz) (h : OpensAt P fs.toList 0 d G) : Opens P t d G := by
  intro H enc w base spare held fuel cs x hx hw
  obtain ⟨xs, n, rfl, rfl, hl, hxl, hf⟩ := DataW.trod_struct hu hx
  obtain ⟨a, ha, hg⟩ := h H enc w base spare held n cs (xs.map (·.1)) (fun i f hi => by
    have hi' : fs[i]? = some f := by simpa using hi
    have := hf i f hi'
    have hlt : i < xs.length := by rw [hxl]; exact (Array.getElem?_eq_some_iff.1 hi').1
    refine ⟨xs[i], by rw [this, List.getElem?_eq_getElem hlt], by simp [List.getElem?_eq_getElem hlt]⟩) (fun n hn => hw n (by simp only [DataW.weights, hu]; exact hn))
  refine ⟨a, ?_, hg⟩
  rw [List.drop_zero, ← hs, ← hl, List.take_length] at ha
  exact ha
end Go.Proofs.YtiancopplinpcaaDoor.Open
end
section
namespace Go.Proofs.YtiancopplinpcaaDoor.P
open Go.RowKit Go.Proofs.YtiancopplinpcaaDoorW.PrintWords Go.Proofs.YtiancopplinpcaaDoor.Open Go.Deep
instance : Inhabited S42 := ⟨z42⟩
def g42 (x : S42) : Prop := (Lit.int .i64 x.f0).wf = true ∧ (Lit.int .i64 x.f1).wf = true ∧ x.f2.size ≤ 140737488351232 ∧ x.f3.size ≤ 140737488351232
set_option maxRecDepth 100000 in
theorem o42 : Opens Tryd.prog 42 k42 (fun x => g42 x) :=
  opens_imp (opens_iso (fun x : S42 => (x.f0, x.f1, x.f2, x.f3)) (fun x => ⟨x.1, x.2.1, x.2.2.1, x.2.2.2⟩) (fun _ => rfl) (opens_struct Tryd.underlying42 zz19 (opensAt_cons rfl zz19 (opens_int Tryd.underlying3) (opensAt_cons rfl zz19 (opens_int Tryd.underlying3) (opensAt_cons rfl zz19 (opens_string Tryd.underlying9) (opensAt_one rfl zz19 (opens_string Tryd.underlying9))))))) (fun _ h => h)
instance : Inhabited S25 := ⟨z25⟩
def g25 (x : S25) : Prop := (Lit.int .i64 x.f0).wf = true ∧ (x.f1.length * 48 ≤ 140737488351232 ∧ ∀ a_ ∈ x.f1, g42 a_) ∧ x.f2.size ≤ 140737488351232
set_option maxRecDepth 100000 in
theorem o25 : Opens Tryd.prog 25 k25 (fun x => g25 x) :=
  opens_imp (opens_iso (fun x : S25 => (x.f0, x.f1, x.f2)) (fun x => ⟨x.1, x.2.1, x.2.2⟩) (fun _ => rfl) (opens_struct Tryd.underlying25 zz19 (opensAt_cons rfl zz19 (opens_int Tryd.underlying3) (opensAt_cons rfl zz19 (opens_slice (sz := 4) (B := 48) Tryd.underlying23 zz19 (by rfl) zz19 o42) (opensAt_one rfl zz19 (opens_string Tryd.underlying9)))))) (fun _ h => h)
end Go.Proofs.YtiancopplinpcaaDoor.P
end
section
namespace Go.Proofs.YtiancopplinpcaaDoor.P
def PropKinds.Pure : Prop := ∀ (l0 : (List S25)), (l0.length * 48 ≤ 140737488351232 ∧ ∀ a_ ∈ l0, g25 a_) → ∃ k, fairwaylaw4_PropKinds.f k l0 = some true
end Go.Proofs.YtiancopplinpcaaDoor.P
end
section
namespace Go.Proofs.YtiancopplinpcaaDoor.P
open Go.RowKit Go.Proofs.YtiancopplinpcaaDoorW.PrintWords Go.Proofs.YtiancopplinpcaaDoorW.PrintLast Go.Proofs.YtiancopplinpcaaDoorW.PrintMore
set_option linter.unusedSimpArgs false
set_option linter.unusedVariables false
theorem num_id (e : Int) : fairwaylaw4_num.f e = some e := rfl
theorem wakes_ev : Ev (fun k => fairwaylaw4_wakes.f k) true := by
  obtain ⟨K1, h1⟩ := stands_ev 0
  obtain ⟨K2, h2⟩ := num_ok (n := 0) (by decide) (by decide)
  obtain ⟨K3, h3⟩ := kind_ev 38
  refine ⟨K1 + K2 + K3 + 4, fun k hk => ?_⟩
  obtain ⟨k, rfl⟩ : ∃ m, k = m + 2 := ⟨k - 2, by omega⟩
  dsimp only at h1 h2 h3 ⊢
  unfold fairwaylaw4_wakes.f prop_Bytes.f prop_lay.f
  rw [h1 _ (by omega)]
  simp only [Option.bind_some]
  rw [if_pos (by decide)]
  simp only [prop_lay.j0]
  rw [if_neg (by decide)]
  simp only [prop_lay.l0]
  rw [if_neg (by decide)]
  simp only [Option.bind_some, if_true]
  have e0 : (((⟨#[]⟩ : ByteArray).size : Nat) : Int) = 0 := rfl
  rw [e0, h2 _ (by omega)]
  simp only [Option.bind_some]
  rw [if_pos (by rw [numOf_size, show (0 : Int).toNat = 0 from rfl, vb_small (by decide)]; decide), h3 _ (by omega)]
  have e1 : (numOf 0 ++ (⟨#[]⟩ : ByteArray)).toList = [0] := by
    unfold numOf
    rw [show (0 : Int).toNat = 0 from rfl, vb_small (by decide)]
    decide +kernel
  simp only [Option.bind_some, num_id, e1, if_true]
  rfl
end Go.Proofs.YtiancopplinpcaaDoor.P
end
section
namespace Go.Proofs.YtiancopplinpcaaDoor.P
open Go.RowKit Go.Proofs.YtiancopplinpcaaDoorW.PrintWords Go.Proofs.YtiancopplinpcaaDoorW.PrintLast Go.Proofs.YtiancopplinpcaaDoorW.PrintMore
set_option linter.unusedSimpArgs false
set_option linter.unusedVariables false
abbrev eB : ByteArray := (⟨#[]⟩ : ByteArray)
theorem eB_check : checkT eB = 0 := by decide +kernel
theorem eB_list : eB.toList = [] := by decide +kernel
theorem ok_one {id n : Int} (hk : kindOf id ≠ 0) (hn : n = if kindOf id ≤ 4 then 1 else 0) : okP id n eB eB = true := by
  have hc := kind_cases id
  unfold okP
  subst hn
  generalize kindOf id = kd at hc hk ⊢
  rcases hc with rfl | rfl | rfl | rfl | rfl | rfl | rfl | rfl
  · exact absurd rfl hk
  all_goals simp [mostK, eB_check, eB_list, show eB.size = 0 from rfl]
theorem ok_far {id n : Int} (hk : kindOf id ≠ 0) (hn : n = rd [0, 2, 65536, 4294967296, 268435456, 1, 1, 1] (kindOf id)) : okP id n eB eB = false := by
  have hc := kind_cases id
  unfold okP
  subst hn
  generalize kindOf id = kd at hc hk ⊢
  rcases hc with rfl | rfl | rfl | rfl | rfl | rfl | rfl | rfl
  · exact absurd rfl hk
  all_goals simp [mostK, rd]
theorem props_one (p id n : Int) (hp : 0 ≤ p ∧ p ≤ 15) : propsP p [⟨id, n, eB, eB⟩] = (okP id n eB eB && decide (id ∈ placeL p)) := by
  unfold propsP
  rw [decide_eq_true hp]
  simp [allP, stepP, againP]
theorem props_two (p id n : Int) (hp : 0 ≤ p ∧ p ≤ 15) (ok : okP id n eB eB = true) (hm : id ∈ placeL p) : propsP p [⟨id, n, eB, eB⟩, ⟨id, n, eB, eB⟩] = decide (id = 38 ∨ id = 11 ∧ p = 3) := by
  unfold propsP
  rw [decide_eq_true hp]
  simp [allP, stepP, againP, ok, hm]
set_option maxRecDepth 100000 in
theorem stands_some : ∀ n : Fin 43, kindOf (n.val : Int) ≠ 0 → ∃ q : Fin 16, (n.val : Int) ∈ placeL (q.val : Int) := by decide +kernel
theorem row1 (W : World) (x : S42) : Kd.C k42 (W.alloc (.cells #[.int .i64 x.f0, .int .i64 x.f1, .string x.f2, .string x.f3] 42)) (some ⟨W.heap.size, 0, none⟩) [x].length [x] := by
  have h2 := World.ownsRow_lit (base := W.heap.size) (e := 42) (size := 4) W #[.int .i64 x.f0, .int .i64 x.f1, .string x.f2, .string x.f3] 1 (Nat.le_refl _) (by decide) (by rfl)
  have hR : Kd.R k42 42 (W.alloc (.cells #[.int .i64 x.f0, .int .i64 x.f1, .string x.f2, .string x.f3] 42)) W.heap.size (fun _ => True) (.slice (some ⟨W.heap.size, 0, none⟩) 1 1) [x] := ⟨fun _ _ => trivial, _, h2, Reps.c4 (k42_mkM _ _ _ x) (Reps.none _ _)⟩
  exact (Kd.R_reads' hR).2.2
theorem row2 (W : World) (x : S42) : Kd.C k42 (W.alloc (.cells #[.int .i64 x.f0, .int .i64 x.f1, .string x.f2, .string x.f3, .int .i64 x.f0, .int .i64 x.f1, .string x.f2, .string x.f3] 42)) (some ⟨W.heap.size, 0, none⟩) [x, x].length [x, x] := by
  have h2 := World.ownsRow_lit (base := W.heap.size) (e := 42) (size := 4) W #[.int .i64 x.f0, .int .i64 x.f1, .string x.f2, .string x.f3, .int .i64 x.f0, .int .i64 x.f1, .string x.f2, .string x.f3] 2 (Nat.le_refl _) (by decide) (by rfl)
  have hR : Kd.R k42 42 (W.alloc (.cells #[.int .i64 x.f0, .int .i64 x.f1, .string x.f2, .string x.f3, .int .i64 x.f0, .int .i64 x.f1, .string x.f2, .string x.f3] 42)) W.heap.size (fun _ => True) (.slice (some ⟨W.heap.size, 0, none⟩) 2 2) [x, x] := ⟨fun _ _ => trivial, _, h2, Reps.c4 (k42_mkM _ _ _ x) (Reps.c4 (k42_mkM _ _ _ x) (Reps.none _ _))⟩
  exact (Kd.R_reads' hR).2.2
theorem chk1 (p id n r : Int) (W : World) (hL : Laid W) (hr : (if propsP p [⟨id, n, eB, eB⟩] = true then 0 else 1) = r) :
    Calls Tryd.prog 20 #[.int .i64 p, .slice (some ⟨W.heap.size, 0, none⟩) 1 1] (W.alloc (.cells #[.int .i64 id, .int .i64 n, .string eB, .string eB] 42)) fun e w' => e = .returned (.int .i64 r) ∧ Below W.heap.size W w' := by
  obtain ⟨k, hk⟩ := (check_ev p [⟨id, n, eB, eB⟩] (by simp)).rounds
  subst hr
  refine (prop_Check.calls k p (some ⟨W.heap.size, 0, none⟩) 1 [⟨id, n, eB, eB⟩] _ _ (row1 W ⟨id, n, eB, eB⟩) (Nat.le_refl _) (hL.below (below_alloc (Below.refl _ _) _)) hk).mono ?_
  rintro e w' ⟨rfl, hb⟩
  exact ⟨rfl, (below_alloc (Below.refl _ _) _).trans (hb.mono (by simp))⟩
theorem chk2 (p id n r : Int) (W : World) (hL : Laid W) (hr : (if propsP p [⟨id, n, eB, eB⟩, ⟨id, n, eB, eB⟩] = true then 0 else 1) = r) :
    Calls Tryd.prog 20 #[.int .i64 p, .slice (some ⟨W.heap.size, 0, none⟩) 2 2] (W.alloc (.cells #[.int .i64 id, .int .i64 n, .string eB, .string eB, .int .i64 id, .int .i64 n, .string eB, .string eB] 42)) fun e w' => e = .returned (.int .i64 r) ∧ Below W.heap.size W w' := by
  obtain ⟨k, hk⟩ := (check_ev p [⟨id, n, eB, eB⟩, ⟨id, n, eB, eB⟩] (by simp)).rounds
  subst hr
  refine (prop_Check.calls k p (some ⟨W.heap.size, 0, none⟩) 2 [⟨id, n, eB, eB⟩, ⟨id, n, eB, eB⟩] _ _ (row2 W ⟨id, n, eB, eB⟩) (Nat.le_refl _) (hL.below (below_alloc (Below.refl _ _) _)) hk).mono ?_
  rintro e w' ⟨rfl, hb⟩
  exact ⟨rfl, (below_alloc (Below.refl _ _) _).trans (hb.mono (by simp))⟩
structure Box (W : World) (b : Nat) (id n : Int) : Prop where
  c0 : W.cell? ⟨b, 0, none⟩ = some (.int .i64 id)
  c1 : W.cell? ⟨b, 1, none⟩ = some (.int .i64 n)
  c2 : W.cell? ⟨b, 2, none⟩ = some (.string eB)
  c3 : W.cell? ⟨b, 3, none⟩ = some (.string eB)
theorem Box.below {W W1 : World} {b : Nat} {id n : Int} (h : Box W b id n) (hb : Below W.heap.size W W1) : Box W1 b id n := by
  have hlt : b < W.heap.size := World.block_lt_of_cell? W _ h.c0
  exact ⟨(hb.cell (p := ⟨b, 0, none⟩) hlt).trans h.c0, (hb.cell (p := ⟨b, 1, none⟩) hlt).trans h.c1, (hb.cell (p := ⟨b, 2, none⟩) hlt).trans h.c2, (hb.cell (p := ⟨b, 3, none⟩) hlt).trans h.c3⟩
theorem Box.drewN {W : World} {b : Nat} {id n : Int} (h : Box W b id n) (m : Nat) : Box (W.drewN m) b id n := h.below (pw_below_drewN (Below.refl _ _) m)
end Go.Proofs.YtiancopplinpcaaDoor.P
end
section
namespace Go.Proofs.YtiancopplinpcaaDoor.P
open Go.RowKit Go.Proofs.YtiancopplinpcaaDoorW.PrintWords Go.Proofs.YtiancopplinpcaaDoorW.PrintLast Go.Proofs.YtiancopplinpcaaDoorW.PrintMore
set_option linter.unusedSimpArgs false
set_option linter.unusedVariables false
theorem wp_gen {P : Program} {c : Code} {Q : Exit → Act → World → Prop} {a : Act} {W : World} (R : World → Prop) (hR : R W) (h : ∀ wA, R wA → Code.wp P c Q a wA) : Code.wp P c Q a W := h W hR
theorem box_of {W : World} {b : Nat} {id n : Int} (h : W.heap[b]? = some (.cells #[.int .i64 id, .int .i64 n, .string eB, .string eB] 42 (0, 0))) : Box W b id n := ⟨(blk_cell h 0).trans rfl, (blk_cell h 1).trans rfl, (blk_cell h 2).trans rfl, (blk_cell h 3).trans rfl⟩
theorem wakes_calls (w : World) (HL : Laid w) : Calls Tryd.prog 14 #[] w fun e w' => e = .returned (.bool true) ∧ Below w.heap.size w w' := by
  obtain ⟨k, hk⟩ := wakes_ev.rounds
  exact fairwaylaw4_wakes.calls k true w HL hk
theorem kind_calls (id : Int) (a b : Int) (w : World) (ha : kindOf id = a) (hb : (if kindOf id = 0 then 3 else 0) = b) : Calls Tryd.prog 11 #[.int .i64 id] w fun e w' => e = .returned (.tuple #[.int .i64 a, .int .i64 b]) ∧ Drawn0 w w' := by
  obtain ⟨k, hk⟩ := (kind_ev id).rounds
  subst ha; subst hb
  exact prop_Kind.calls k id _ _ w hk
set_option maxHeartbeats 8000000 in
set_option maxRecDepth 100000 in
theorem once_calls (A0 : Option Addr) (c0 : Nat) (l0 : List S25) (w : World) (HLAID : Laid w) : Calls Tryd.prog 5 #[.slice A0 l0.length c0] w fun e w' => e = .returned (.bool true) ∧ Below w.heap.size w w' := by
  have hu42 := Tryd.underlying42
  have HL := Aside0.mk HLAID
  clear HLAID
  go_enter Tryd.func5, Tryd.ntmps5
  go_wp2
  go_loopg [3] 43 (fun gg v3 wr => ∃ id : Int, v3 = .int .i64 id ∧ Aside0 (1 ≤ id) ∧ Aside0 (id ≤ 43) ∧ Aside0 (43 - id ≤ gg) ∧ Aside0 (Below w.heap.size w wr))
  case atStart => exact ⟨1, rfl, ⟨by decide⟩, ⟨by decide⟩, ⟨by decide⟩, ⟨Below.refl _ w⟩⟩
  case round =>
    obtain ⟨id, rfl, h1, h2, h3, BW⟩ := hrel
    by_cases hlt : id ≤ 42
    · have hltb : decide (id ≤ 42) = true := decide_eq_true hlt
      have HLT := Aside0.mk hlt
      clear hlt
      by_cases hk : kindOf id = 0
      · have HK := Aside0.mk hk
        clear hk
        go_wp2_with (fail)
        refine (kind_calls id 0 3 _ HK.out (by rw [HK.out]; rfl)).mono ?_
        rintro e w1 ⟨rfl, ⟨nd, rfl⟩⟩
        go_wp2_with (fail)
        refine (fairwaylaw4_num.calls 3 3 _ rfl).mono ?_
        rintro e w1 ⟨rfl, ⟨nd2, rfl⟩⟩
        go_wp2
        go_roundg (43 - (id.toNat + 1))
        case measure => have := h1.out; have := HLT.out; have := h3.out; omega
        case rel =>
          have := h1.out; have := HLT.out; have := h3.out
          refine ⟨id + 1, ?_, ⟨by omega⟩, ⟨by omega⟩, ⟨by omega⟩, ⟨pw_below_drewN BW.out _⟩⟩
          have e : wrap64 (id + 1) = id + 1 := by unfold wrap64; omega
          first | rfl | rw [e]
      · have hc := kind_cases id
        rcases hc with h | h | h | h | h | h | h | h
        · exact absurd h hk
        · have OK1 := Aside0.mk (ok_one (n := 1) hk (by rw [h]; rfl))
          have OK2 := Aside0.mk (ok_far (n := 2) hk (by rw [h]; rfl))
          have HKK := Aside0.mk hk
          have HK := Aside0.mk h
          clear h hk
          go_wp2_with (fail)
          refine (kind_calls id 1 0 _ HK.out (by rw [HK.out]; rfl)).mono ?_
          rintro e w1 ⟨rfl, ⟨nd, rfl⟩⟩
          go_wp2_with (fail)
          refine (fairwaylaw4_num.calls 0 0 _ rfl).mono ?_
          rintro e w1 ⟨rfl, ⟨nd2, rfl⟩⟩
          go_upto_region 11 with (first | ((with_reducible refine gate_dst (N := 6) rfl ?_); refine box_event ?hg (N := 6) ?hd (cs := #[.int .i64 0, .int .i64 0, .string eB, .string eB]) (t := 42) ?hr ?_; (case hd => rfl); (case hg => rfl); (case hr => first | (go_simp; done) | (go_simp; rfl)); intro b6 hb6 w10 hx6 hb10; have BW1 := Aside0.mk (below_step (pw_below_drewN BW.out _) hb10); have l6 := Aside0.mk (blk_lt hx6); have g6 := Aside0.mk (show w.heap.size ≤ b6 by rw [hb6]; exact (pw_below_drewN BW.out _).size); have c60 : w10.cell? ⟨b6, 0, none⟩ = some (.int .i64 0) := (blk_cell hx6 0).trans rfl; have c61 : w10.cell? ⟨b6, 1, none⟩ = some (.int .i64 0) := (blk_cell hx6 1).trans rfl; have c62 : w10.cell? ⟨b6, 2, none⟩ = some (.string eB) := (blk_cell hx6 2).trans rfl; have c63 : w10.cell? ⟨b6, 3, none⟩ = some (.string eB) := (blk_cell hx6 3).trans rfl; have f60 := blk_frozen hx6 0; have f61 := blk_frozen hx6 1; have f62 := blk_frozen hx6 2; have f63 := blk_frozen hx6 3; have HX6 := Aside0.mk hx6; clear hx6 hb10 hb6) | fail)
          refine wp_gen (fun wA => Box wA b6 id 1 ∧ Below w.heap.size w wA) ⟨box_of (blk_set (blk_set (blk_set (blk_set (blk_set HX6.out 0 (.int .i64 id)) 1 (.int .i64 0)) 2 (.string eB)) 3 (.string eB)) 1 (.int .i64 1)), zz11⟩ ?_
          clear c60 c61 c62 c63 f60 f61 f62 f63
          rintro wA ⟨XA, BA⟩
          have c60 := XA.c0; have c61 := XA.c1; have c62 := XA.c2; have c63 := XA.c3
          have BA' := Aside0.mk BA
          have X6 := Aside0.mk XA
          clear XA BA
          go_upto_region 12 with (first | ((with_reducible refine gate_dst (N := 7) rfl ?_); refine box_event ?hg (N := 7) ?hd (cs := #[.int .i64 0, .int .i64 0, .string eB, .string eB]) (t := 42) ?hr ?_; (case hd => rfl); (case hg => rfl); (case hr => first | (go_simp; done) | (go_simp; rfl)); intro b7 hb7 w17 hx7 hb17; have X6' := Aside0.mk (X6.out.below hb17); have BW2 := Aside0.mk (below_step BA'.out hb17); have l6 := Aside0.mk (World.block_lt_of_cell? wA _ X6.out.c0); have n67 : b6 ≠ b7 := (by rw [hb7]; exact Nat.ne_of_lt l6.out); have n76 : b7 ≠ b6 := Ne.symm n67; have g7 := Aside0.mk (show w.heap.size ≤ b7 by rw [hb7]; exact BA'.out.size); have c70 : w17.cell? ⟨b7, 0, none⟩ = some (.int .i64 0) := (blk_cell hx7 0).trans rfl; have c71 : w17.cell? ⟨b7, 1, none⟩ = some (.int .i64 0) := (blk_cell hx7 1).trans rfl; have c72 : w17.cell? ⟨b7, 2, none⟩ = some (.string eB) := (blk_cell hx7 2).trans rfl; have c73 : w17.cell? ⟨b7, 3, none⟩ = some (.string eB) := (blk_cell hx7 3).trans rfl; have f70 := blk_frozen hx7 0; have f71 := blk_frozen hx7 1; have f72 := blk_frozen hx7 2; have f73 := blk_frozen hx7 3; have HX7 := Aside0.mk hx7; clear hx7 hb17 hb7 c60 c61 c62 c63) | fail)
          refine wp_gen (fun wB => Box wB b7 id 1 ∧ Box wB b6 id 1 ∧ Aside0 (wB.frozen? ⟨b7, 1, none⟩ = false) ∧ Below w.heap.size w wB) ⟨box_of (blk_set (blk_set (blk_set (blk_set HX7.out 0 (.int .i64 id)) 1 (.int .i64 1)) 2 (.string eB)) 3 (.string eB)), ?_, ⟨by go_simp⟩, zz12⟩ ?_
          · have c60 := X6'.out.c0; have c61 := X6'.out.c1; have c62 := X6'.out.c2; have c63 := X6'.out.c3
            exact ⟨by go_simp, by go_simp, by go_simp, by go_simp⟩
          clear c70 c71 c72 c73 f70 f71 f72 f73
          rintro wB ⟨XB7, XB6, FB, BB⟩
          have c70 := XB7.c0; have c71 := XB7.c1; have c72 := XB7.c2; have c73 := XB7.c3
          have c60 := XB6.c0; have c61 := XB6.c1; have c62 := XB6.c2; have c63 := XB6.c3
          have BB' := Aside0.mk BB
          have fz : wB.frozen? ⟨b7, 1, none⟩ = false := FB.out
          have lt7 : b7 < wB.heap.size := World.block_lt_of_cell? wB _ c70
          have lt6 : b6 < wB.heap.size := World.block_lt_of_cell? wB _ c60
          clear XB7 XB6 BB
          go_upto_region 13 with (fail)
          refine wp_gen (fun wC => Box wC b7 id 2 ∧ Box wC b6 id 1 ∧ Below w.heap.size w wC) ⟨⟨by go_simp, by go_simp, by go_simp, by go_simp⟩, ⟨by go_simp, by go_simp, by go_simp, by go_simp⟩, (BB'.out.setCell g7.out _).alloc (by simpa using BB'.out.size) _⟩ ?_
          clear c70 c71 c72 c73 c60 c61 c62 c63 fz lt7 lt6
          rintro wC ⟨XC7, XC6, BC⟩
          have Y7 := Aside0.mk XC7; have Y6 := Aside0.mk XC6; have BC' := Aside0.mk BC
          clear XC7 XC6 BC
          go_wp2
          go_loopg [8, 9] 16 (fun gg v8 v9 wi => ∃ c p : Int, v8 = .int .i64 c ∧ v9 = .int .i64 p ∧ Aside0 (0 ≤ p ∧ p ≤ 16 ∧ 0 ≤ c ∧ c ≤ p ∧ 16 - p ≤ gg) ∧ Aside0 (c = 0 → ∀ q, 0 ≤ q → q < p → id ∉ placeL q) ∧ Aside0 (Box wi b7 id 2) ∧ Aside0 (Box wi b6 id 1) ∧ Aside0 (Below w.heap.size w wi))
          case atStart => exact ⟨0, 0, rfl, rfl, ⟨by omega⟩, ⟨fun _ q h0 h1 => by omega⟩, Y7, Y6, BC'⟩
          case round =>
            obtain ⟨c, p, rfl, rfl, HI, HQ, Z7, Z6, BI⟩ := hrel
            by_cases hp : p ≤ 15
            · have hpb : decide (p ≤ 15) = true := decide_eq_true hp
              have HP := Aside0.mk (show 0 ≤ p ∧ p ≤ 15 from ⟨HI.out.1, hp⟩)
              clear hp
              have c60 := Z6.out.c0; have c61 := Z6.out.c1; have c62 := Z6.out.c2; have c63 := Z6.out.c3
              by_cases hm : id ∈ placeL p
              · have HM := Aside0.mk hm
                clear hm
                go_wp2_with (fail)
                refine (chk1 p id 1 0 _ (HL.out.below BI.out) (by rw [props_one p id 1 HP.out, OK1.out, decide_eq_true HM.out]; rfl)).mono ?_
                rintro e w3 ⟨rfl, hb3⟩
                have Z7a := Aside0.mk (Z7.out.below hb3); have Z6a := Aside0.mk (Z6.out.below hb3); have BIa := Aside0.mk (below_step BI.out hb3)
                clear c60 c61 c62 c63 hb3
                have c60 := Z6a.out.c0; have c61 := Z6a.out.c1; have c62 := Z6a.out.c2; have c63 := Z6a.out.c3
                go_wp2_with (fail)
                refine (fairwaylaw4_num.calls 0 0 _ rfl).mono ?_
                rintro e w4 ⟨rfl, ⟨nd3, rfl⟩⟩
                obtain ⟨r2, hr2⟩ : ∃ r2 : Int, (if propsP p [⟨id, 1, eB, eB⟩, ⟨id, 1, eB, eB⟩] = true then 0 else 1) = r2 := ⟨_, rfl⟩
                have HR2 := Aside0.mk hr2
                clear hr2
                go_wp2_with (fail)
                refine (chk2 p id 1 r2 _ (HL.out.below (pw_below_drewN BIa.out _)) HR2.out).mono ?_
                rintro e w5 ⟨rfl, hb5⟩
                have Z7b := Aside0.mk ((Z7a.out.drewN _).below hb5); have Z6b := Aside0.mk ((Z6a.out.drewN _).below hb5); have BIb := Aside0.mk (below_step (pw_below_drewN BIa.out _) hb5)
                clear c60 c61 c62 c63 hb5
                have c70 := Z7b.out.c0; have c71 := Z7b.out.c1; have c72 := Z7b.out.c2; have c73 := Z7b.out.c3
                have e2 := HR2.out
                rw [props_two p id 1 HP.out OK1.out HM.out] at e2
                have w1 : wrap64 (c + 1) = c + 1 := w64 zz18 zz18
                have w2 : wrap64 (p + 1) = p + 1 := w64 zz18 zz18
                have W1 := Aside0.mk w1; have W2 := Aside0.mk w2
                clear w1 w2
                have four : (id == 38) = true ∧ r2 = 0 ∨ (id == 38) = false ∧ (id == 11) = true ∧ (p == 3) = true ∧ r2 = 0 ∨ (id == 38) = false ∧ (id == 11) = true ∧ (p == 3) = false ∧ r2 = 1 ∨ (id == 38) = false ∧ (id == 11) = false ∧ r2 = 1 := by
                  by_cases x1 : id = 38
                  · left; simp [x1] at e2 ⊢; omega
                  · right
                    by_cases x2 : id = 11
                    · by_cases x3 : p = 3
                      · left; simp [x1, x2, x3] at e2 ⊢; omega
                      · right; left; simp [x1, x2, x3] at e2 ⊢; omega
                    · right; right; simp [x1, x2] at e2 ⊢; omega
                clear e2 HR2
                rcases four with ⟨d1, rfl⟩ | ⟨d1, d2, d3, rfl⟩ | ⟨d1, d2, d3, rfl⟩ | ⟨d1, d2, rfl⟩
                all_goals
                  go_wp2_with (fail)
                  refine (fairwaylaw4_num.calls _ _ _ rfl).mono ?_
                  rintro e w6 ⟨rfl, ⟨nd4, rfl⟩⟩
                  go_wp2_with (fail)
                  refine (chk1 p id 2 1 _ (HL.out.below (pw_below_drewN BIb.out _)) (by rw [props_one p id 2 HP.out, OK2.out]; rfl)).mono ?_
                  rintro e w7 ⟨rfl, hb7⟩
                  have Z7c := Aside0.mk ((Z7b.out.drewN _).below hb7); have Z6c := Aside0.mk ((Z6b.out.drewN _).below hb7); have BIc := Aside0.mk (below_step (pw_below_drewN BIb.out _) hb7)
                  clear hb7
                  go_wp2_with (fail)
                  refine (fairwaylaw4_num.calls 1 1 _ rfl).mono ?_
                  rintro e w8 ⟨rfl, ⟨nd5, rfl⟩⟩
                  go_wp2
                  go_roundg (16 - (p.toNat + 1))
                  case measure => have := HI.out; have := HP.out; omega
                  case rel =>
                    have := HI.out; have := HP.out
                    refine ⟨c + 1, p + 1, ?_, ?_, ⟨by omega⟩, ⟨fun h => by omega⟩, ⟨Z7c.out.drewN _⟩, ⟨Z6c.out.drewN _⟩, ⟨pw_below_drewN BIc.out _⟩⟩
                    · first | rfl | rw [W1.out]
                    · first | rfl | rw [W2.out]
              · have HM := Aside0.mk hm
                clear hm
                go_wp2_with (fail)
                refine (chk1 p id 1 1 _ (HL.out.below BI.out) (by rw [props_one p id 1 HP.out, OK1.out, decide_eq_false HM.out]; rfl)).mono ?_
                rintro e w3 ⟨rfl, hb3⟩
                have Z7a := Aside0.mk (Z7.out.below hb3); have Z6a := Aside0.mk (Z6.out.below hb3); have BIa := Aside0.mk (below_step BI.out hb3)
                clear c60 c61 c62 c63 hb3
                go_wp2_with (fail)
                refine (fairwaylaw4_num.calls 1 1 _ rfl).mono ?_
                rintro e w4 ⟨rfl, ⟨nd3, rfl⟩⟩
                have w2 : wrap64 (p + 1) = p + 1 := w64 zz18 zz18
                have W2 := Aside0.mk w2
                clear w2
                go_wp2
                go_roundg (16 - (p.toNat + 1))
                case measure => have := HI.out; have := HP.out; omega
                case rel =>
                  have := HI.out; have := HP.out
                  refine ⟨c, p + 1, rfl, ?_, ⟨by omega⟩, ⟨fun h q h0 h1 => ?_⟩, ⟨Z7a.out.drewN _⟩, ⟨Z6a.out.drewN _⟩, ⟨pw_below_drewN BIa.out _⟩⟩
                  · first | rfl | rw [W2.out]
                  · by_cases e : q = p
                    · rw [e]; exact HM.out
                    · exact HQ.out h q h0 (by omega)
            · have hpb : decide (p ≤ 15) = false := decide_eq_false hp
              have hc0 : (c == 0) = false := by
                rw [beq_eq_false_iff_ne]
                intro e
                have hi := HI.out
                have h1' := h1.out; have h2' := HLT.out
                obtain ⟨q, hq⟩ := stands_some ⟨id.toNat, by omega⟩ zz13
                rw [show (((id.toNat : Nat)) : Int) = id by omega] at hq
                exact HQ.out e q.val (by omega) (by have := q.isLt; omega) hq
              clear hp
              go_wp2
              go_roundg (43 - (id.toNat + 1))
              case measure => have := h1.out; have := HLT.out; have := h3.out; omega
              case rel =>
                have := h1.out; have := HLT.out; have := h3.out
                refine ⟨id + 1, ?_, ⟨by omega⟩, ⟨by omega⟩, ⟨by omega⟩, BI⟩
                have e : wrap64 (id + 1) = id + 1 := by unfold wrap64; omega
                first | rfl | rw [e]
        · have OK1 := Aside0.mk (ok_one (n := 1) hk (by rw [h]; rfl))
          have OK2 := Aside0.mk (ok_far (n := 65536) hk (by rw [h]; rfl))
          have HKK := Aside0.mk hk
          have HK := Aside0.mk h
          clear h hk
          go_wp2_with (fail)
          refine (kind_calls id 2 0 _ HK.out (by rw [HK.out]; rfl)).mono ?_
          rintro e w1 ⟨rfl, ⟨nd, rfl⟩⟩
          go_wp2_with (fail)
          refine (fairwaylaw4_num.calls 0 0 _ rfl).mono ?_
          rintro e w1 ⟨rfl, ⟨nd2, rfl⟩⟩
          go_upto_region 11 with (first | ((with_reducible refine gate_dst (N := 6) rfl ?_); refine box_event ?hg (N := 6) ?hd (cs := #[.int .i64 0, .int .i64 0, .string eB, .string eB]) (t := 42) ?hr ?_; (case hd => rfl); (case hg => rfl); (case hr => first | (go_simp; done) | (go_simp; rfl)); intro b6 hb6 w10 hx6 hb10; have BW1 := Aside0.mk (below_step (pw_below_drewN BW.out _) hb10); have l6 := Aside0.mk (blk_lt hx6); have g6 := Aside0.mk (show w.heap.size ≤ b6 by rw [hb6]; exact (pw_below_drewN BW.out _).size); have c60 : w10.cell? ⟨b6, 0, none⟩ = some (.int .i64 0) := (blk_cell hx6 0).trans rfl; have c61 : w10.cell? ⟨b6, 1, none⟩ = some (.int .i64 0) := (blk_cell hx6 1).trans rfl; have c62 : w10.cell? ⟨b6, 2, none⟩ = some (.string eB) := (blk_cell hx6 2).trans rfl; have c63 : w10.cell? ⟨b6, 3, none⟩ = some (.string eB) := (blk_cell hx6 3).trans rfl; have f60 := blk_frozen hx6 0; have f61 := blk_frozen hx6 1; have f62 := blk_frozen hx6 2; have f63 := blk_frozen hx6 3; have HX6 := Aside0.mk hx6; clear hx6 hb10 hb6) | fail)
          refine wp_gen (fun wA => Box wA b6 id 1 ∧ Below w.heap.size w wA) ⟨box_of (blk_set (blk_set (blk_set (blk_set (blk_set HX6.out 0 (.int .i64 id)) 1 (.int .i64 0)) 2 (.string eB)) 3 (.string eB)) 1 (.int .i64 1)), zz11⟩ ?_
          clear c60 c61 c62 c63 f60 f61 f62 f63
          rintro wA ⟨XA, BA⟩
          have c60 := XA.c0; have c61 := XA.c1; have c62 := XA.c2; have c63 := XA.c3
          have BA' := Aside0.mk BA
          have X6 := Aside0.mk XA
          clear XA BA
          go_upto_region 12 with (first | ((with_reducible refine gate_dst (N := 7) rfl ?_); refine box_event ?hg (N := 7) ?hd (cs := #[.int .i64 0, .int .i64 0, .string eB, .string eB]) (t := 42) ?hr ?_; (case hd => rfl); (case hg => rfl); (case hr => first | (go_simp; done) | (go_simp; rfl)); intro b7 hb7 w17 hx7 hb17; have X6' := Aside0.mk (X6.out.below hb17); have BW2 := Aside0.mk (below_step BA'.out hb17); have l6 := Aside0.mk (World.block_lt_of_cell? wA _ X6.out.c0); have n67 : b6 ≠ b7 := (by rw [hb7]; exact Nat.ne_of_lt l6.out); have n76 : b7 ≠ b6 := Ne.symm n67; have g7 := Aside0.mk (show w.heap.size ≤ b7 by rw [hb7]; exact BA'.out.size); have c70 : w17.cell? ⟨b7, 0, none⟩ = some (.int .i64 0) := (blk_cell hx7 0).trans rfl; have c71 : w17.cell? ⟨b7, 1, none⟩ = some (.int .i64 0) := (blk_cell hx7 1).trans rfl; have c72 : w17.cell? ⟨b7, 2, none⟩ = some (.string eB) := (blk_cell hx7 2).trans rfl; have c73 : w17.cell? ⟨b7, 3, none⟩ = some (.string eB) := (blk_cell hx7 3).trans rfl; have f70 := blk_frozen hx7 0; have f71 := blk_frozen hx7 1; have f72 := blk_frozen hx7 2; have f73 := blk_frozen hx7 3; have HX7 := Aside0.mk hx7; clear hx7 hb17 hb7 c60 c61 c62 c63) | fail)
          refine wp_gen (fun wB => Box wB b7 id 1 ∧ Box wB b6 id 1 ∧ Aside0 (wB.frozen? ⟨b7, 1, none⟩ = false) ∧ Below w.heap.size w wB) ⟨box_of (blk_set (blk_set (blk_set (blk_set HX7.out 0 (.int .i64 id)) 1 (.int .i64 1)) 2 (.string eB)) 3 (.string eB)), ?_, ⟨by go_simp⟩, zz12⟩ ?_
          · have c60 := X6'.out.c0; have c61 := X6'.out.c1; have c62 := X6'.out.c2; have c63 := X6'.out.c3
            exact ⟨by go_simp, by go_simp, by go_simp, by go_simp⟩
          clear c70 c71 c72 c73 f70 f71 f72 f73
          rintro wB ⟨XB7, XB6, FB, BB⟩
          have c70 := XB7.c0; have c71 := XB7.c1; have c72 := XB7.c2; have c73 := XB7.c3
          have c60 := XB6.c0; have c61 := XB6.c1; have c62 := XB6.c2; have c63 := XB6.c3
          have BB' := Aside0.mk BB
          have fz : wB.frozen? ⟨b7, 1, none⟩ = false := FB.out
          have lt7 : b7 < wB.heap.size := World.block_lt_of_cell? wB _ c70
          have lt6 : b6 < wB.heap.size := World.block_lt_of_cell? wB _ c60
          clear XB7 XB6 BB
          go_upto_region 13 with (fail)
          refine wp_gen (fun wC => Box wC b7 id 65536 ∧ Box wC b6 id 1 ∧ Below w.heap.size w wC) ⟨⟨by go_simp, by go_simp, by go_simp, by go_simp⟩, ⟨by go_simp, by go_simp, by go_simp, by go_simp⟩, (BB'.out.setCell g7.out _).alloc (by simpa using BB'.out.size) _⟩ ?_
          clear c70 c71 c72 c73 c60 c61 c62 c63 fz lt7 lt6
          rintro wC ⟨XC7, XC6, BC⟩
          have Y7 := Aside0.mk XC7; have Y6 := Aside0.mk XC6; have BC' := Aside0.mk BC
          clear XC7 XC6 BC
          go_wp2
          go_loopg [8, 9] 16 (fun gg v8 v9 wi => ∃ c p : Int, v8 = .int .i64 c ∧ v9 = .int .i64 p ∧ Aside0 (0 ≤ p ∧ p ≤ 16 ∧ 0 ≤ c ∧ c ≤ p ∧ 16 - p ≤ gg) ∧ Aside0 (c = 0 → ∀ q, 0 ≤ q → q < p → id ∉ placeL q) ∧ Aside0 (Box wi b7 id 65536) ∧ Aside0 (Box wi b6 id 1) ∧ Aside0 (Below w.heap.size w wi))
          case atStart => exact ⟨0, 0, rfl, rfl, ⟨by omega⟩, ⟨fun _ q h0 h1 => by omega⟩, Y7, Y6, BC'⟩
          case round =>
            obtain ⟨c, p, rfl, rfl, HI, HQ, Z7, Z6, BI⟩ := hrel
            by_cases hp : p ≤ 15
            · have hpb : decide (p ≤ 15) = true := decide_eq_true hp
              have HP := Aside0.mk (show 0 ≤ p ∧ p ≤ 15 from ⟨HI.out.1, hp⟩)
              clear hp
              have c60 := Z6.out.c0; have c61 := Z6.out.c1; have c62 := Z6.out.c2; have c63 := Z6.out.c3
              by_cases hm : id ∈ placeL p
              · have HM := Aside0.mk hm
                clear hm
                go_wp2_with (fail)
                refine (chk1 p id 1 0 _ (HL.out.below BI.out) (by rw [props_one p id 1 HP.out, OK1.out, decide_eq_true HM.out]; rfl)).mono ?_
                rintro e w3 ⟨rfl, hb3⟩
                have Z7a := Aside0.mk (Z7.out.below hb3); have Z6a := Aside0.mk (Z6.out.below hb3); have BIa := Aside0.mk (below_step BI.out hb3)
                clear c60 c61 c62 c63 hb3
                have c60 := Z6a.out.c0; have c61 := Z6a.out.c1; have c62 := Z6a.out.c2; have c63 := Z6a.out.c3
                go_wp2_with (fail)
                refine (fairwaylaw4_num.calls 0 0 _ rfl).mono ?_
                rintro e w4 ⟨rfl, ⟨nd3, rfl⟩⟩
                obtain ⟨r2, hr2⟩ : ∃ r2 : Int, (if propsP p [⟨id, 1, eB, eB⟩, ⟨id, 1, eB, eB⟩] = true then 0 else 1) = r2 := ⟨_, rfl⟩
                have HR2 := Aside0.mk hr2
                clear hr2
                go_wp2_with (fail)
                refine (chk2 p id 1 r2 _ (HL.out.below (pw_below_drewN BIa.out _)) HR2.out).mono ?_
                rintro e w5 ⟨rfl, hb5⟩
                have Z7b := Aside0.mk ((Z7a.out.drewN _).below hb5); have Z6b := Aside0.mk ((Z6a.out.drewN _).below hb5); have BIb := Aside0.mk (below_step (pw_below_drewN BIa.out _) hb5)
                clear c60 c61 c62 c63 hb5
                have c70 := Z7b.out.c0; have c71 := Z7b.out.c1; have c72 := Z7b.out.c2; have c73 := Z7b.out.c3
                have e2 := HR2.out
                rw [props_two p id 1 HP.out OK1.out HM.out] at e2
                have w1 : wrap64 (c + 1) = c + 1 := w64 zz18 zz18
                have w2 : wrap64 (p + 1) = p + 1 := w64 zz18 zz18
                have W1 := Aside0.mk w1; have W2 := Aside0.mk w2
                clear w1 w2
                have four : (id == 38) = true ∧ r2 = 0 ∨ (id == 38) = false ∧ (id == 11) = true ∧ (p == 3) = true ∧ r2 = 0 ∨ (id == 38) = false ∧ (id == 11) = true ∧ (p == 3) = false ∧ r2 = 1 ∨ (id == 38) = false ∧ (id == 11) = false ∧ r2 = 1 := by
                  by_cases x1 : id = 38
                  · left; simp [x1] at e2 ⊢; omega
                  · right
                    by_cases x2 : id = 11
                    · by_cases x3 : p = 3
                      · left; simp [x1, x2, x3] at e2 ⊢; omega
                      · right; left; simp [x1, x2, x3] at e2 ⊢; omega
                    · right; right; simp [x1, x2] at e2 ⊢; omega
                clear e2 HR2
                rcases four with ⟨d1, rfl⟩ | ⟨d1, d2, d3, rfl⟩ | ⟨d1, d2, d3, rfl⟩ | ⟨d1, d2, rfl⟩
                all_goals
                  go_wp2_with (fail)
                  refine (fairwaylaw4_num.calls _ _ _ rfl).mono ?_
                  rintro e w6 ⟨rfl, ⟨nd4, rfl⟩⟩
                  go_wp2_with (fail)
                  refine (chk1 p id 65536 1 _ (HL.out.below (pw_below_drewN BIb.out _)) (by rw [props_one p id 65536 HP.out, OK2.out]; rfl)).mono ?_
                  rintro e w7 ⟨rfl, hb7⟩
                  have Z7c := Aside0.mk ((Z7b.out.drewN _).below hb7); have Z6c := Aside0.mk ((Z6b.out.drewN _).below hb7); have BIc := Aside0.mk (below_step (pw_below_drewN BIb.out _) hb7)
                  clear hb7
                  go_wp2_with (fail)
                  refine (fairwaylaw4_num.calls 1 1 _ rfl).mono ?_
                  rintro e w8 ⟨rfl, ⟨nd5, rfl⟩⟩
                  go_wp2
                  go_roundg (16 - (p.toNat + 1))
                  case measure => have := HI.out; have := HP.out; omega
                  case rel =>
                    have := HI.out; have := HP.out
                    refine ⟨c + 1, p + 1, ?_, ?_, ⟨by omega⟩, ⟨fun h => by omega⟩, ⟨Z7c.out.drewN _⟩, ⟨Z6c.out.drewN _⟩, ⟨pw_below_drewN BIc.out _⟩⟩
                    · first | rfl | rw [W1.out]
                    · first | rfl | rw [W2.out]
              · have HM := Aside0.mk hm
                clear hm
                go_wp2_with (fail)
                refine (chk1 p id 1 1 _ (HL.out.below BI.out) (by rw [props_one p id 1 HP.out, OK1.out, decide_eq_false HM.out]; rfl)).mono ?_
                rintro e w3 ⟨rfl, hb3⟩
                have Z7a := Aside0.mk (Z7.out.below hb3); have Z6a := Aside0.mk (Z6.out.below hb3); have BIa := Aside0.mk (below_step BI.out hb3)
                clear c60 c61 c62 c63 hb3
                go_wp2_with (fail)
                refine (fairwaylaw4_num.calls 1 1 _ rfl).mono ?_
                rintro e w4 ⟨rfl, ⟨nd3, rfl⟩⟩
                have w2 : wrap64 (p + 1) = p + 1 := w64 zz18 zz18
                have W2 := Aside0.mk w2
                clear w2
                go_wp2
                go_roundg (16 - (p.toNat + 1))
                case measure => have := HI.out; have := HP.out; omega
                case rel =>
                  have := HI.out; have := HP.out
                  refine ⟨c, p + 1, rfl, ?_, ⟨by omega⟩, ⟨fun h q h0 h1 => ?_⟩, ⟨Z7a.out.drewN _⟩, ⟨Z6a.out.drewN _⟩, ⟨pw_below_drewN BIa.out _⟩⟩
                  · first | rfl | rw [W2.out]
                  · by_cases e : q = p
                    · rw [e]; exact HM.out
                    · exact HQ.out h q h0 (by omega)
            · have hpb : decide (p ≤ 15) = false := decide_eq_false hp
              have hc0 : (c == 0) = false := by
                rw [beq_eq_false_iff_ne]
                intro e
                have hi := HI.out
                have h1' := h1.out; have h2' := HLT.out
                obtain ⟨q, hq⟩ := stands_some ⟨id.toNat, by omega⟩ zz13
                rw [show (((id.toNat : Nat)) : Int) = id by omega] at hq
                exact HQ.out e q.val (by omega) (by have := q.isLt; omega) hq
              clear hp
              go_wp2
              go_roundg (43 - (id.toNat + 1))
              case measure => have := h1.out; have := HLT.out; have := h3.out; omega
              case rel =>
                have := h1.out; have := HLT.out; have := h3.out
                refine ⟨id + 1, ?_, ⟨by omega⟩, ⟨by omega⟩, ⟨by omega⟩, BI⟩
                have e : wrap64 (id + 1) = id + 1 := by unfold wrap64; omega
                first | rfl | rw [e]
        · have OK1 := Aside0.mk (ok_one (n := 1) hk (by rw [h]; rfl))
          have OK2 := Aside0.mk (ok_far (n := 4294967296) hk (by rw [h]; rfl))
          have HKK := Aside0.mk hk
          have HK := Aside0.mk h
          clear h hk
          go_wp2_with (fail)
          refine (kind_calls id 3 0 _ HK.out (by rw [HK.out]; rfl)).mono ?_
          rintro e w1 ⟨rfl, ⟨nd, rfl⟩⟩
          go_wp2_with (fail)
          refine (fairwaylaw4_num.calls 0 0 _ rfl).mono ?_
          rintro e w1 ⟨rfl, ⟨nd2, rfl⟩⟩
          go_upto_region 11 with (first | ((with_reducible refine gate_dst (N := 6) rfl ?_); refine box_event ?hg (N := 6) ?hd (cs := #[.int .i64 0, .int .i64 0, .string eB, .string eB]) (t := 42) ?hr ?_; (case hd => rfl); (case hg => rfl); (case hr => first | (go_simp; done) | (go_simp; rfl)); intro b6 hb6 w10 hx6 hb10; have BW1 := Aside0.mk (below_step (pw_below_drewN BW.out _) hb10); have l6 := Aside0.mk (blk_lt hx6); have g6 := Aside0.mk (show w.heap.size ≤ b6 by rw [hb6]; exact (pw_below_drewN BW.out _).size); have c60 : w10.cell? ⟨b6, 0, none⟩ = some (.int .i64 0) := (blk_cell hx6 0).trans rfl; have c61 : w10.cell? ⟨b6, 1, none⟩ = some (.int .i64 0) := (blk_cell hx6 1).trans rfl; have c62 : w10.cell? ⟨b6, 2, none⟩ = some (.string eB) := (blk_cell hx6 2).trans rfl; have c63 : w10.cell? ⟨b6, 3, none⟩ = some (.string eB) := (blk_cell hx6 3).trans rfl; have f60 := blk_frozen hx6 0; have f61 := blk_frozen hx6 1; have f62 := blk_frozen hx6 2; have f63 := blk_frozen hx6 3; have HX6 := Aside0.mk hx6; clear hx6 hb10 hb6) | fail)
          refine wp_gen (fun wA => Box wA b6 id 1 ∧ Below w.heap.size w wA) ⟨box_of (blk_set (blk_set (blk_set (blk_set (blk_set HX6.out 0 (.int .i64 id)) 1 (.int .i64 0)) 2 (.string eB)) 3 (.string eB)) 1 (.int .i64 1)), zz11⟩ ?_
          clear c60 c61 c62 c63 f60 f61 f62 f63
          rintro wA ⟨XA, BA⟩
          have c60 := XA.c0; have c61 := XA.c1; have c62 := XA.c2; have c63 := XA.c3
          have BA' := Aside0.mk BA
          have X6 := Aside0.mk XA
          clear XA BA
          go_upto_region 12 with (first | ((with_reducible refine gate_dst (N := 7) rfl ?_); refine box_event ?hg (N := 7) ?hd (cs := #[.int .i64 0, .int .i64 0, .string eB, .string eB]) (t := 42) ?hr ?_; (case hd => rfl); (case hg => rfl); (case hr => first | (go_simp; done) | (go_simp; rfl)); intro b7 hb7 w17 hx7 hb17; have X6' := Aside0.mk (X6.out.below hb17); have BW2 := Aside0.mk (below_step BA'.out hb17); have l6 := Aside0.mk (World.block_lt_of_cell? wA _ X6.out.c0); have n67 : b6 ≠ b7 := (by rw [hb7]; exact Nat.ne_of_lt l6.out); have n76 : b7 ≠ b6 := Ne.symm n67; have g7 := Aside0.mk (show w.heap.size ≤ b7 by rw [hb7]; exact BA'.out.size); have c70 : w17.cell? ⟨b7, 0, none⟩ = some (.int .i64 0) := (blk_cell hx7 0).trans rfl; have c71 : w17.cell? ⟨b7, 1, none⟩ = some (.int .i64 0) := (blk_cell hx7 1).trans rfl; have c72 : w17.cell? ⟨b7, 2, none⟩ = some (.string eB) := (blk_cell hx7 2).trans rfl; have c73 : w17.cell? ⟨b7, 3, none⟩ = some (.string eB) := (blk_cell hx7 3).trans rfl; have f70 := blk_frozen hx7 0; have f71 := blk_frozen hx7 1; have f72 := blk_frozen hx7 2; have f73 := blk_frozen hx7 3; have HX7 := Aside0.mk hx7; clear hx7 hb17 hb7 c60 c61 c62 c63) | fail)
          refine wp_gen (fun wB => Box wB b7 id 1 ∧ Box wB b6 id 1 ∧ Aside0 (wB.frozen? ⟨b7, 1, none⟩ = false) ∧ Below w.heap.size w wB) ⟨box_of (blk_set (blk_set (blk_set (blk_set HX7.out 0 (.int .i64 id)) 1 (.int .i64 1)) 2 (.string eB)) 3 (.string eB)), ?_, ⟨by go_simp⟩, zz12⟩ ?_
          · have c60 := X6'.out.c0; have c61 := X6'.out.c1; have c62 := X6'.out.c2; have c63 := X6'.out.c3
            exact ⟨by go_simp, by go_simp, by go_simp, by go_simp⟩
          clear c70 c71 c72 c73 f70 f71 f72 f73
          rintro wB ⟨XB7, XB6, FB, BB⟩
          have c70 := XB7.c0; have c71 := XB7.c1; have c72 := XB7.c2; have c73 := XB7.c3
          have c60 := XB6.c0; have c61 := XB6.c1; have c62 := XB6.c2; have c63 := XB6.c3
          have BB' := Aside0.mk BB
          have fz : wB.frozen? ⟨b7, 1, none⟩ = false := FB.out
          have lt7 : b7 < wB.heap.size := World.block_lt_of_cell? wB _ c70
          have lt6 : b6 < wB.heap.size := World.block_lt_of_cell? wB _ c60
          clear XB7 XB6 BB
          go_upto_region 13 with (fail)
          refine wp_gen (fun wC => Box wC b7 id 4294967296 ∧ Box wC b6 id 1 ∧ Below w.heap.size w wC) ⟨⟨by go_simp, by go_simp, by go_simp, by go_simp⟩, ⟨by go_simp, by go_simp, by go_simp, by go_simp⟩, (BB'.out.setCell g7.out _).alloc (by simpa using BB'.out.size) _⟩ ?_
          clear c70 c71 c72 c73 c60 c61 c62 c63 fz lt7 lt6
          rintro wC ⟨XC7, XC6, BC⟩
          have Y7 := Aside0.mk XC7; have Y6 := Aside0.mk XC6; have BC' := Aside0.mk BC
          clear XC7 XC6 BC
          go_wp2
          go_loopg [8, 9] 16 (fun gg v8 v9 wi => ∃ c p : Int, v8 = .int .i64 c ∧ v9 = .int .i64 p ∧ Aside0 (0 ≤ p ∧ p ≤ 16 ∧ 0 ≤ c ∧ c ≤ p ∧ 16 - p ≤ gg) ∧ Aside0 (c = 0 → ∀ q, 0 ≤ q → q < p → id ∉ placeL q) ∧ Aside0 (Box wi b7 id 4294967296) ∧ Aside0 (Box wi b6 id 1) ∧ Aside0 (Below w.heap.size w wi))
          case atStart => exact ⟨0, 0, rfl, rfl, ⟨by omega⟩, ⟨fun _ q h0 h1 => by omega⟩, Y7, Y6, BC'⟩
          case round =>
            obtain ⟨c, p, rfl, rfl, HI, HQ, Z7, Z6, BI⟩ := hrel
            by_cases hp : p ≤ 15
            · have hpb : decide (p ≤ 15) = true := decide_eq_true hp
              have HP := Aside0.mk (show 0 ≤ p ∧ p ≤ 15 from ⟨HI.out.1, hp⟩)
              clear hp
              have c60 := Z6.out.c0; have c61 := Z6.out.c1; have c62 := Z6.out.c2; have c63 := Z6.out.c3
              by_cases hm : id ∈ placeL p
              · have HM := Aside0.mk hm
                clear hm
                go_wp2_with (fail)
                refine (chk1 p id 1 0 _ (HL.out.below BI.out) (by rw [props_one p id 1 HP.out, OK1.out, decide_eq_true HM.out]; rfl)).mono ?_
                rintro e w3 ⟨rfl, hb3⟩
                have Z7a := Aside0.mk (Z7.out.below hb3); have Z6a := Aside0.mk (Z6.out.below hb3); have BIa := Aside0.mk (below_step BI.out hb3)
                clear c60 c61 c62 c63 hb3
                have c60 := Z6a.out.c0; have c61 := Z6a.out.c1; have c62 := Z6a.out.c2; have c63 := Z6a.out.c3
                go_wp2_with (fail)
                refine (fairwaylaw4_num.calls 0 0 _ rfl).mono ?_
                rintro e w4 ⟨rfl, ⟨nd3, rfl⟩⟩
                obtain ⟨r2, hr2⟩ : ∃ r2 : Int, (if propsP p [⟨id, 1, eB, eB⟩, ⟨id, 1, eB, eB⟩] = true then 0 else 1) = r2 := ⟨_, rfl⟩
                have HR2 := Aside0.mk hr2
                clear hr2
                go_wp2_with (fail)
                refine (chk2 p id 1 r2 _ (HL.out.below (pw_below_drewN BIa.out _)) HR2.out).mono ?_
                rintro e w5 ⟨rfl, hb5⟩
                have Z7b := Aside0.mk ((Z7a.out.drewN _).below hb5); have Z6b := Aside0.mk ((Z6a.out.drewN _).below hb5); have BIb := Aside0.mk (below_step (pw_below_drewN BIa.out _) hb5)
                clear c60 c61 c62 c63 hb5
                have c70 := Z7b.out.c0; have c71 := Z7b.out.c1; have c72 := Z7b.out.c2; have c73 := Z7b.out.c3
                have e2 := HR2.out
                rw [props_two p id 1 HP.out OK1.out HM.out] at e2
                have w1 : wrap64 (c + 1) = c + 1 := w64 zz18 zz18
                have w2 : wrap64 (p + 1) = p + 1 := w64 zz18 zz18
                have W1 := Aside0.mk w1; have W2 := Aside0.mk w2
                clear w1 w2
                have four : (id == 38) = true ∧ r2 = 0 ∨ (id == 38) = false ∧ (id == 11) = true ∧ (p == 3) = true ∧ r2 = 0 ∨ (id == 38) = false ∧ (id == 11) = true ∧ (p == 3) = false ∧ r2 = 1 ∨ (id == 38) = false ∧ (id == 11) = false ∧ r2 = 1 := by
                  by_cases x1 : id = 38
                  · left; simp [x1] at e2 ⊢; omega
                  · right
                    by_cases x2 : id = 11
                    · by_cases x3 : p = 3
                      · left; simp [x1, x2, x3] at e2 ⊢; omega
                      · right; left; simp [x1, x2, x3] at e2 ⊢; omega
                    · right; right; simp [x1, x2] at e2 ⊢; omega
                clear e2 HR2
                rcases four with ⟨d1, rfl⟩ | ⟨d1, d2, d3, rfl⟩ | ⟨d1, d2, d3, rfl⟩ | ⟨d1, d2, rfl⟩
                all_goals
                  go_wp2_with (fail)
                  refine (fairwaylaw4_num.calls _ _ _ rfl).mono ?_
                  rintro e w6 ⟨rfl, ⟨nd4, rfl⟩⟩
                  go_wp2_with (fail)
                  refine (chk1 p id 4294967296 1 _ (HL.out.below (pw_below_drewN BIb.out _)) (by rw [props_one p id 4294967296 HP.out, OK2.out]; rfl)).mono ?_
                  rintro e w7 ⟨rfl, hb7⟩
                  have Z7c := Aside0.mk ((Z7b.out.drewN _).below hb7); have Z6c := Aside0.mk ((Z6b.out.drewN _).below hb7); have BIc := Aside0.mk (below_step (pw_below_drewN BIb.out _) hb7)
                  clear hb7
                  go_wp2_with (fail)
                  refine (fairwaylaw4_num.calls 1 1 _ rfl).mono ?_
                  rintro e w8 ⟨rfl, ⟨nd5, rfl⟩⟩
                  go_wp2
                  go_roundg (16 - (p.toNat + 1))
                  case measure => have := HI.out; have := HP.out; omega
                  case rel =>
                    have := HI.out; have := HP.out
                    refine ⟨c + 1, p + 1, ?_, ?_, ⟨by omega⟩, ⟨fun h => by omega⟩, ⟨Z7c.out.drewN _⟩, ⟨Z6c.out.drewN _⟩, ⟨pw_below_drewN BIc.out _⟩⟩
                    · first | rfl | rw [W1.out]
                    · first | rfl | rw [W2.out]
              · have HM := Aside0.mk hm
                clear hm
                go_wp2_with (fail)
                refine (chk1 p id 1 1 _ (HL.out.below BI.out) (by rw [props_one p id 1 HP.out, OK1.out, decide_eq_false HM.out]; rfl)).mono ?_
                rintro e w3 ⟨rfl, hb3⟩
                have Z7a := Aside0.mk (Z7.out.below hb3); have Z6a := Aside0.mk (Z6.out.below hb3); have BIa := Aside0.mk (below_step BI.out hb3)
                clear c60 c61 c62 c63 hb3
                go_wp2_with (fail)
                refine (fairwaylaw4_num.calls 1 1 _ rfl).mono ?_
                rintro e w4 ⟨rfl, ⟨nd3, rfl⟩⟩
                have w2 : wrap64 (p + 1) = p + 1 := w64 zz18 zz18
                have W2 := Aside0.mk w2
                clear w2
                go_wp2
                go_roundg (16 - (p.toNat + 1))
                case measure => have := HI.out; have := HP.out; omega
                case rel =>
                  have := HI.out; have := HP.out
                  refine ⟨c, p + 1, rfl, ?_, ⟨by omega⟩, ⟨fun h q h0 h1 => ?_⟩, ⟨Z7a.out.drewN _⟩, ⟨Z6a.out.drewN _⟩, ⟨pw_below_drewN BIa.out _⟩⟩
                  · first | rfl | rw [W2.out]
                  · by_cases e : q = p
                    · rw [e]; exact HM.out
                    · exact HQ.out h q h0 (by omega)
            · have hpb : decide (p ≤ 15) = false := decide_eq_false hp
              have hc0 : (c == 0) = false := by
                rw [beq_eq_false_iff_ne]
                intro e
                have hi := HI.out
                have h1' := h1.out; have h2' := HLT.out
                obtain ⟨q, hq⟩ := stands_some ⟨id.toNat, by omega⟩ zz13
                rw [show (((id.toNat : Nat)) : Int) = id by omega] at hq
                exact HQ.out e q.val (by omega) (by have := q.isLt; omega) hq
              clear hp
              go_wp2
              go_roundg (43 - (id.toNat + 1))
              case measure => have := h1.out; have := HLT.out; have := h3.out; omega
              case rel =>
                have := h1.out; have := HLT.out; have := h3.out
                refine ⟨id + 1, ?_, ⟨by omega⟩, ⟨by omega⟩, ⟨by omega⟩, BI⟩
                have e : wrap64 (id + 1) = id + 1 := by unfold wrap64; omega
                first | rfl | rw [e]
        · have OK1 := Aside0.mk (ok_one (n := 1) hk (by rw [h]; rfl))
          have OK2 := Aside0.mk (ok_far (n := 268435456) hk (by rw [h]; rfl))
          have HKK := Aside0.mk hk
          have HK := Aside0.mk h
          clear h hk
          go_wp2_with (fail)
          refine (kind_calls id 4 0 _ HK.out (by rw [HK.out]; rfl)).mono ?_
          rintro e w1 ⟨rfl, ⟨nd, rfl⟩⟩
          go_wp2_with (fail)
          refine (fairwaylaw4_num.calls 0 0 _ rfl).mono ?_
          rintro e w1 ⟨rfl, ⟨nd2, rfl⟩⟩
          go_upto_region 11 with (first | ((with_reducible refine gate_dst (N := 6) rfl ?_); refine box_event ?hg (N := 6) ?hd (cs := #[.int .i64 0, .int .i64 0, .string eB, .string eB]) (t := 42) ?hr ?_; (case hd => rfl); (case hg => rfl); (case hr => first | (go_simp; done) | (go_simp; rfl)); intro b6 hb6 w10 hx6 hb10; have BW1 := Aside0.mk (below_step (pw_below_drewN BW.out _) hb10); have l6 := Aside0.mk (blk_lt hx6); have g6 := Aside0.mk (show w.heap.size ≤ b6 by rw [hb6]; exact (pw_below_drewN BW.out _).size); have c60 : w10.cell? ⟨b6, 0, none⟩ = some (.int .i64 0) := (blk_cell hx6 0).trans rfl; have c61 : w10.cell? ⟨b6, 1, none⟩ = some (.int .i64 0) := (blk_cell hx6 1).trans rfl; have c62 : w10.cell? ⟨b6, 2, none⟩ = some (.string eB) := (blk_cell hx6 2).trans rfl; have c63 : w10.cell? ⟨b6, 3, none⟩ = some (.string eB) := (blk_cell hx6 3).trans rfl; have f60 := blk_frozen hx6 0; have f61 := blk_frozen hx6 1; have f62 := blk_frozen hx6 2; have f63 := blk_frozen hx6 3; have HX6 := Aside0.mk hx6; clear hx6 hb10 hb6) | fail)
          refine wp_gen (fun wA => Box wA b6 id 1 ∧ Below w.heap.size w wA) ⟨box_of (blk_set (blk_set (blk_set (blk_set (blk_set HX6.out 0 (.int .i64 id)) 1 (.int .i64 0)) 2 (.string eB)) 3 (.string eB)) 1 (.int .i64 1)), zz11⟩ ?_
          clear c60 c61 c62 c63 f60 f61 f62 f63
          rintro wA ⟨XA, BA⟩
          have c60 := XA.c0; have c61 := XA.c1; have c62 := XA.c2; have c63 := XA.c3
          have BA' := Aside0.mk BA
          have X6 := Aside0.mk XA
          clear XA BA
          go_upto_region 12 with (first | ((with_reducible refine gate_dst (N := 7) rfl ?_); refine box_event ?hg (N := 7) ?hd (cs := #[.int .i64 0, .int .i64 0, .string eB, .string eB]) (t := 42) ?hr ?_; (case hd => rfl); (case hg => rfl); (case hr => first | (go_simp; done) | (go_simp; rfl)); intro b7 hb7 w17 hx7 hb17; have X6' := Aside0.mk (X6.out.below hb17); have BW2 := Aside0.mk (below_step BA'.out hb17); have l6 := Aside0.mk (World.block_lt_of_cell? wA _ X6.out.c0); have n67 : b6 ≠ b7 := (by rw [hb7]; exact Nat.ne_of_lt l6.out); have n76 : b7 ≠ b6 := Ne.symm n67; have g7 := Aside0.mk (show w.heap.size ≤ b7 by rw [hb7]; exact BA'.out.size); have c70 : w17.cell? ⟨b7, 0, none⟩ = some (.int .i64 0) := (blk_cell hx7 0).trans rfl; have c71 : w17.cell? ⟨b7, 1, none⟩ = some (.int .i64 0) := (blk_cell hx7 1).trans rfl; have c72 : w17.cell? ⟨b7, 2, none⟩ = some (.string eB) := (blk_cell hx7 2).trans rfl; have c73 : w17.cell? ⟨b7, 3, none⟩ = some (.string eB) := (blk_cell hx7 3).trans rfl; have f70 := blk_frozen hx7 0; have f71 := blk_frozen hx7 1; have f72 := blk_frozen hx7 2; have f73 := blk_frozen hx7 3; have HX7 := Aside0.mk hx7; clear hx7 hb17 hb7 c60 c61 c62 c63) | fail)
          refine wp_gen (fun wB => Box wB b7 id 1 ∧ Box wB b6 id 1 ∧ Aside0 (wB.frozen? ⟨b7, 1, none⟩ = false) ∧ Below w.heap.size w wB) ⟨box_of (blk_set (blk_set (blk_set (blk_set HX7.out 0 (.int .i64 id)) 1 (.int .i64 1)) 2 (.string eB)) 3 (.string eB)), ?_, ⟨by go_simp⟩, zz12⟩ ?_
          · have c60 := X6'.out.c0; have c61 := X6'.out.c1; have c62 := X6'.out.c2; have c63 := X6'.out.c3
            exact ⟨by go_simp, by go_simp, by go_simp, by go_simp⟩
          clear c70 c71 c72 c73 f70 f71 f72 f73
          rintro wB ⟨XB7, XB6, FB, BB⟩
          have c70 := XB7.c0; have c71 := XB7.c1; have c72 := XB7.c2; have c73 := XB7.c3
          have c60 := XB6.c0; have c61 := XB6.c1; have c62 := XB6.c2; have c63 := XB6.c3
          have BB' := Aside0.mk BB
          have fz : wB.frozen? ⟨b7, 1, none⟩ = false := FB.out
          have lt7 : b7 < wB.heap.size := World.block_lt_of_cell? wB _ c70
          have lt6 : b6 < wB.heap.size := World.block_lt_of_cell? wB _ c60
          clear XB7 XB6 BB
          go_upto_region 13 with (fail)
          refine wp_gen (fun wC => Box wC b7 id 268435456 ∧ Box wC b6 id 1 ∧ Below w.heap.size w wC) ⟨⟨by go_simp, by go_simp, by go_simp, by go_simp⟩, ⟨by go_simp, by go_simp, by go_simp, by go_simp⟩, (BB'.out.setCell g7.out _).alloc (by simpa using BB'.out.size) _⟩ ?_
          clear c70 c71 c72 c73 c60 c61 c62 c63 fz lt7 lt6
          rintro wC ⟨XC7, XC6, BC⟩
          have Y7 := Aside0.mk XC7; have Y6 := Aside0.mk XC6; have BC' := Aside0.mk BC
          clear XC7 XC6 BC
          go_wp2
          go_loopg [8, 9] 16 (fun gg v8 v9 wi => ∃ c p : Int, v8 = .int .i64 c ∧ v9 = .int .i64 p ∧ Aside0 (0 ≤ p ∧ p ≤ 16 ∧ 0 ≤ c ∧ c ≤ p ∧ 16 - p ≤ gg) ∧ Aside0 (c = 0 → ∀ q, 0 ≤ q → q < p → id ∉ placeL q) ∧ Aside0 (Box wi b7 id 268435456) ∧ Aside0 (Box wi b6 id 1) ∧ Aside0 (Below w.heap.size w wi))
          case atStart => exact ⟨0, 0, rfl, rfl, ⟨by omega⟩, ⟨fun _ q h0 h1 => by omega⟩, Y7, Y6, BC'⟩
          case round =>
            obtain ⟨c, p, rfl, rfl, HI, HQ, Z7, Z6, BI⟩ := hrel
            by_cases hp : p ≤ 15
            · have hpb : decide (p ≤ 15) = true := decide_eq_true hp
              have HP := Aside0.mk (show 0 ≤ p ∧ p ≤ 15 from ⟨HI.out.1, hp⟩)
              clear hp
              have c60 := Z6.out.c0; have c61 := Z6.out.c1; have c62 := Z6.out.c2; have c63 := Z6.out.c3
              by_cases hm : id ∈ placeL p
              · have HM := Aside0.mk hm
                clear hm
                go_wp2_with (fail)
                refine (chk1 p id 1 0 _ (HL.out.below BI.out) (by rw [props_one p id 1 HP.out, OK1.out, decide_eq_true HM.out]; rfl)).mono ?_
                rintro e w3 ⟨rfl, hb3⟩
                have Z7a := Aside0.mk (Z7.out.below hb3); have Z6a := Aside0.mk (Z6.out.below hb3); have BIa := Aside0.mk (below_step BI.out hb3)
                clear c60 c61 c62 c63 hb3
                have c60 := Z6a.out.c0; have c61 := Z6a.out.c1; have c62 := Z6a.out.c2; have c63 := Z6a.out.c3
                go_wp2_with (fail)
                refine (fairwaylaw4_num.calls 0 0 _ rfl).mono ?_
                rintro e w4 ⟨rfl, ⟨nd3, rfl⟩⟩
                obtain ⟨r2, hr2⟩ : ∃ r2 : Int, (if propsP p [⟨id, 1, eB, eB⟩, ⟨id, 1, eB, eB⟩] = true then 0 else 1) = r2 := ⟨_, rfl⟩
                have HR2 := Aside0.mk hr2
                clear hr2
                go_wp2_with (fail)
                refine (chk2 p id 1 r2 _ (HL.out.below (pw_below_drewN BIa.out _)) HR2.out).mono ?_
                rintro e w5 ⟨rfl, hb5⟩
                have Z7b := Aside0.mk ((Z7a.out.drewN _).below hb5); have Z6b := Aside0.mk ((Z6a.out.drewN _).below hb5); have BIb := Aside0.mk (below_step (pw_below_drewN BIa.out _) hb5)
                clear c60 c61 c62 c63 hb5
                have c70 := Z7b.out.c0; have c71 := Z7b.out.c1; have c72 := Z7b.out.c2; have c73 := Z7b.out.c3
                have e2 := HR2.out
                rw [props_two p id 1 HP.out OK1.out HM.out] at e2
                have w1 : wrap64 (c + 1) = c + 1 := w64 zz18 zz18
                have w2 : wrap64 (p + 1) = p + 1 := w64 zz18 zz18
                have W1 := Aside0.mk w1; have W2 := Aside0.mk w2
                clear w1 w2
                have four : (id == 38) = true ∧ r2 = 0 ∨ (id == 38) = false ∧ (id == 11) = true ∧ (p == 3) = true ∧ r2 = 0 ∨ (id == 38) = false ∧ (id == 11) = true ∧ (p == 3) = false ∧ r2 = 1 ∨ (id == 38) = false ∧ (id == 11) = false ∧ r2 = 1 := by
                  by_cases x1 : id = 38
                  · left; simp [x1] at e2 ⊢; omega
                  · right
                    by_cases x2 : id = 11
                    · by_cases x3 : p = 3
                      · left; simp [x1, x2, x3] at e2 ⊢; omega
                      · right; left; simp [x1, x2, x3] at e2 ⊢; omega
                    · right; right; simp [x1, x2] at e2 ⊢; omega
                clear e2 HR2
                rcases four with ⟨d1, rfl⟩ | ⟨d1, d2, d3, rfl⟩ | ⟨d1, d2, d3, rfl⟩ | ⟨d1, d2, rfl⟩
                all_goals
                  go_wp2_with (fail)
                  refine (fairwaylaw4_num.calls _ _ _ rfl).mono ?_
                  rintro e w6 ⟨rfl, ⟨nd4, rfl⟩⟩
                  go_wp2_with (fail)
                  refine (chk1 p id 268435456 1 _ (HL.out.below (pw_below_drewN BIb.out _)) (by rw [props_one p id 268435456 HP.out, OK2.out]; rfl)).mono ?_
                  rintro e w7 ⟨rfl, hb7⟩
                  have Z7c := Aside0.mk ((Z7b.out.drewN _).below hb7); have Z6c := Aside0.mk ((Z6b.out.drewN _).below hb7); have BIc := Aside0.mk (below_step (pw_below_drewN BIb.out _) hb7)
                  clear hb7
                  go_wp2_with (fail)
                  refine (fairwaylaw4_num.calls 1 1 _ rfl).mono ?_
                  rintro e w8 ⟨rfl, ⟨nd5, rfl⟩⟩
                  go_wp2
                  go_roundg (16 - (p.toNat + 1))
                  case measure => have := HI.out; have := HP.out; omega
                  case rel =>
                    have := HI.out; have := HP.out
                    refine ⟨c + 1, p + 1, ?_, ?_, ⟨by omega⟩, ⟨fun h => by omega⟩, ⟨Z7c.out.drewN _⟩, ⟨Z6c.out.drewN _⟩, ⟨pw_below_drewN BIc.out _⟩⟩
                    · first | rfl | rw [W1.out]
                    · first | rfl | rw [W2.out]
              · have HM := Aside0.mk hm
                clear hm
                go_wp2_with (fail)
                refine (chk1 p id 1 1 _ (HL.out.below BI.out) (by rw [props_one p id 1 HP.out, OK1.out, decide_eq_false HM.out]; rfl)).mono ?_
                rintro e w3 ⟨rfl, hb3⟩
                have Z7a := Aside0.mk (Z7.out.below hb3); have Z6a := Aside0.mk (Z6.out.below hb3); have BIa := Aside0.mk (below_step BI.out hb3)
                clear c60 c61 c62 c63 hb3
                go_wp2_with (fail)
                refine (fairwaylaw4_num.calls 1 1 _ rfl).mono ?_
                rintro e w4 ⟨rfl, ⟨nd3, rfl⟩⟩
                have w2 : wrap64 (p + 1) = p + 1 := w64 zz18 zz18
                have W2 := Aside0.mk w2
                clear w2
                go_wp2
                go_roundg (16 - (p.toNat + 1))
                case measure => have := HI.out; have := HP.out; omega
                case rel =>
                  have := HI.out; have := HP.out
                  refine ⟨c, p + 1, rfl, ?_, ⟨by omega⟩, ⟨fun h q h0 h1 => ?_⟩, ⟨Z7a.out.drewN _⟩, ⟨Z6a.out.drewN _⟩, ⟨pw_below_drewN BIa.out _⟩⟩
                  · first | rfl | rw [W2.out]
                  · by_cases e : q = p
                    · rw [e]; exact HM.out
                    · exact HQ.out h q h0 (by omega)
            · have hpb : decide (p ≤ 15) = false := decide_eq_false hp
              have hc0 : (c == 0) = false := by
                rw [beq_eq_false_iff_ne]
                intro e
                have hi := HI.out
                have h1' := h1.out; have h2' := HLT.out
                obtain ⟨q, hq⟩ := stands_some ⟨id.toNat, by omega⟩ zz13
                rw [show (((id.toNat : Nat)) : Int) = id by omega] at hq
                exact HQ.out e q.val (by omega) (by have := q.isLt; omega) hq
              clear hp
              go_wp2
              go_roundg (43 - (id.toNat + 1))
              case measure => have := h1.out; have := HLT.out; have := h3.out; omega
              case rel =>
                have := h1.out; have := HLT.out; have := h3.out
                refine ⟨id + 1, ?_, ⟨by omega⟩, ⟨by omega⟩, ⟨by omega⟩, BI⟩
                have e : wrap64 (id + 1) = id + 1 := by unfold wrap64; omega
                first | rfl | rw [e]
        · have OK1 := Aside0.mk (ok_one (n := 0) hk (by rw [h]; rfl))
          have OK2 := Aside0.mk (ok_far (n := 1) hk (by rw [h]; rfl))
          have HKK := Aside0.mk hk
          have HK := Aside0.mk h
          clear h hk
          go_wp2_with (fail)
          refine (kind_calls id 5 0 _ HK.out (by rw [HK.out]; rfl)).mono ?_
          rintro e w1 ⟨rfl, ⟨nd, rfl⟩⟩
          go_wp2_with (fail)
          refine (fairwaylaw4_num.calls 0 0 _ rfl).mono ?_
          rintro e w1 ⟨rfl, ⟨nd2, rfl⟩⟩
          go_upto_region 11 with (first | ((with_reducible refine gate_dst (N := 6) rfl ?_); refine box_event ?hg (N := 6) ?hd (cs := #[.int .i64 0, .int .i64 0, .string eB, .string eB]) (t := 42) ?hr ?_; (case hd => rfl); (case hg => rfl); (case hr => first | (go_simp; done) | (go_simp; rfl)); intro b6 hb6 w10 hx6 hb10; have BW1 := Aside0.mk (below_step (pw_below_drewN BW.out _) hb10); have l6 := Aside0.mk (blk_lt hx6); have g6 := Aside0.mk (show w.heap.size ≤ b6 by rw [hb6]; exact (pw_below_drewN BW.out _).size); have c60 : w10.cell? ⟨b6, 0, none⟩ = some (.int .i64 0) := (blk_cell hx6 0).trans rfl; have c61 : w10.cell? ⟨b6, 1, none⟩ = some (.int .i64 0) := (blk_cell hx6 1).trans rfl; have c62 : w10.cell? ⟨b6, 2, none⟩ = some (.string eB) := (blk_cell hx6 2).trans rfl; have c63 : w10.cell? ⟨b6, 3, none⟩ = some (.string eB) := (blk_cell hx6 3).trans rfl; have f60 := blk_frozen hx6 0; have f61 := blk_frozen hx6 1; have f62 := blk_frozen hx6 2; have f63 := blk_frozen hx6 3; have HX6 := Aside0.mk hx6; clear hx6 hb10 hb6) | fail)
          refine wp_gen (fun wA => Box wA b6 id 0 ∧ Below w.heap.size w wA) ⟨box_of (blk_set (blk_set (blk_set (blk_set HX6.out 0 (.int .i64 id)) 1 (.int .i64 0)) 2 (.string eB)) 3 (.string eB)), zz11⟩ ?_
          clear c60 c61 c62 c63 f60 f61 f62 f63
          rintro wA ⟨XA, BA⟩
          have c60 := XA.c0; have c61 := XA.c1; have c62 := XA.c2; have c63 := XA.c3
          have BA' := Aside0.mk BA
          have X6 := Aside0.mk XA
          clear XA BA
          go_upto_region 12 with (first | ((with_reducible refine gate_dst (N := 7) rfl ?_); refine box_event ?hg (N := 7) ?hd (cs := #[.int .i64 0, .int .i64 0, .string eB, .string eB]) (t := 42) ?hr ?_; (case hd => rfl); (case hg => rfl); (case hr => first | (go_simp; done) | (go_simp; rfl)); intro b7 hb7 w17 hx7 hb17; have X6' := Aside0.mk (X6.out.below hb17); have BW2 := Aside0.mk (below_step BA'.out hb17); have l6 := Aside0.mk (World.block_lt_of_cell? wA _ X6.out.c0); have n67 : b6 ≠ b7 := (by rw [hb7]; exact Nat.ne_of_lt l6.out); have n76 : b7 ≠ b6 := Ne.symm n67; have g7 := Aside0.mk (show w.heap.size ≤ b7 by rw [hb7]; exact BA'.out.size); have c70 : w17.cell? ⟨b7, 0, none⟩ = some (.int .i64 0) := (blk_cell hx7 0).trans rfl; have c71 : w17.cell? ⟨b7, 1, none⟩ = some (.int .i64 0) := (blk_cell hx7 1).trans rfl; have c72 : w17.cell? ⟨b7, 2, none⟩ = some (.string eB) := (blk_cell hx7 2).trans rfl; have c73 : w17.cell? ⟨b7, 3, none⟩ = some (.string eB) := (blk_cell hx7 3).trans rfl; have f70 := blk_frozen hx7 0; have f71 := blk_frozen hx7 1; have f72 := blk_frozen hx7 2; have f73 := blk_frozen hx7 3; have HX7 := Aside0.mk hx7; clear hx7 hb17 hb7 c60 c61 c62 c63) | fail)
          refine wp_gen (fun wB => Box wB b7 id 0 ∧ Box wB b6 id 0 ∧ Aside0 (wB.frozen? ⟨b7, 1, none⟩ = false) ∧ Below w.heap.size w wB) ⟨box_of (blk_set (blk_set (blk_set (blk_set HX7.out 0 (.int .i64 id)) 1 (.int .i64 0)) 2 (.string eB)) 3 (.string eB)), ?_, ⟨by go_simp⟩, zz12⟩ ?_
          · have c60 := X6'.out.c0; have c61 := X6'.out.c1; have c62 := X6'.out.c2; have c63 := X6'.out.c3
            exact ⟨by go_simp, by go_simp, by go_simp, by go_simp⟩
          clear c70 c71 c72 c73 f70 f71 f72 f73
          rintro wB ⟨XB7, XB6, FB, BB⟩
          have c70 := XB7.c0; have c71 := XB7.c1; have c72 := XB7.c2; have c73 := XB7.c3
          have c60 := XB6.c0; have c61 := XB6.c1; have c62 := XB6.c2; have c63 := XB6.c3
          have BB' := Aside0.mk BB
          have fz : wB.frozen? ⟨b7, 1, none⟩ = false := FB.out
          have lt7 : b7 < wB.heap.size := World.block_lt_of_cell? wB _ c70
          have lt6 : b6 < wB.heap.size := World.block_lt_of_cell? wB _ c60
          clear XB7 XB6 BB
          go_upto_region 13 with (fail)
          refine wp_gen (fun wC => Box wC b7 id 1 ∧ Box wC b6 id 0 ∧ Below w.heap.size w wC) ⟨⟨by go_simp, by go_simp, by go_simp, by go_simp⟩, ⟨by go_simp, by go_simp, by go_simp, by go_simp⟩, (BB'.out.setCell g7.out _).alloc (by simpa using BB'.out.size) _⟩ ?_
          clear c70 c71 c72 c73 c60 c61 c62 c63 fz lt7 lt6
          rintro wC ⟨XC7, XC6, BC⟩
          have Y7 := Aside0.mk XC7; have Y6 := Aside0.mk XC6; have BC' := Aside0.mk BC
          clear XC7 XC6 BC
          go_wp2
          go_loopg [8, 9] 16 (fun gg v8 v9 wi => ∃ c p : Int, v8 = .int .i64 c ∧ v9 = .int .i64 p ∧ Aside0 (0 ≤ p ∧ p ≤ 16 ∧ 0 ≤ c ∧ c ≤ p ∧ 16 - p ≤ gg) ∧ Aside0 (c = 0 → ∀ q, 0 ≤ q → q < p → id ∉ placeL q) ∧ Aside0 (Box wi b7 id 1) ∧ Aside0 (Box wi b6 id 0) ∧ Aside0 (Below w.heap.size w wi))
          case atStart => exact ⟨0, 0, rfl, rfl, ⟨by omega⟩, ⟨fun _ q h0 h1 => by omega⟩, Y7, Y6, BC'⟩
          case round =>
            obtain ⟨c, p, rfl, rfl, HI, HQ, Z7, Z6, BI⟩ := hrel
            by_cases hp : p ≤ 15
            · have hpb : decide (p ≤ 15) = true := decide_eq_true hp
              have HP := Aside0.mk (show 0 ≤ p ∧ p ≤ 15 from ⟨HI.out.1, hp⟩)
              clear hp
              have c60 := Z6.out.c0; have c61 := Z6.out.c1; have c62 := Z6.out.c2; have c63 := Z6.out.c3
              by_cases hm : id ∈ placeL p
              · have HM := Aside0.mk hm
                clear hm
                go_wp2_with (fail)
                refine (chk1 p id 0 0 _ (HL.out.below BI.out) (by rw [props_one p id 0 HP.out, OK1.out, decide_eq_true HM.out]; rfl)).mono ?_
                rintro e w3 ⟨rfl, hb3⟩
                have Z7a := Aside0.mk (Z7.out.below hb3); have Z6a := Aside0.mk (Z6.out.below hb3); have BIa := Aside0.mk (below_step BI.out hb3)
                clear c60 c61 c62 c63 hb3
                have c60 := Z6a.out.c0; have c61 := Z6a.out.c1; have c62 := Z6a.out.c2; have c63 := Z6a.out.c3
                go_wp2_with (fail)
                refine (fairwaylaw4_num.calls 0 0 _ rfl).mono ?_
                rintro e w4 ⟨rfl, ⟨nd3, rfl⟩⟩
                obtain ⟨r2, hr2⟩ : ∃ r2 : Int, (if propsP p [⟨id, 0, eB, eB⟩, ⟨id, 0, eB, eB⟩] = true then 0 else 1) = r2 := ⟨_, rfl⟩
                have HR2 := Aside0.mk hr2
                clear hr2
                go_wp2_with (fail)
                refine (chk2 p id 0 r2 _ (HL.out.below (pw_below_drewN BIa.out _)) HR2.out).mono ?_
                rintro e w5 ⟨rfl, hb5⟩
                have Z7b := Aside0.mk ((Z7a.out.drewN _).below hb5); have Z6b := Aside0.mk ((Z6a.out.drewN _).below hb5); have BIb := Aside0.mk (below_step (pw_below_drewN BIa.out _) hb5)
                clear c60 c61 c62 c63 hb5
                have c70 := Z7b.out.c0; have c71 := Z7b.out.c1; have c72 := Z7b.out.c2; have c73 := Z7b.out.c3
                have e2 := HR2.out
                rw [props_two p id 0 HP.out OK1.out HM.out] at e2
                have w1 : wrap64 (c + 1) = c + 1 := w64 zz18 zz18
                have w2 : wrap64 (p + 1) = p + 1 := w64 zz18 zz18
                have W1 := Aside0.mk w1; have W2 := Aside0.mk w2
                clear w1 w2
                have four : (id == 38) = true ∧ r2 = 0 ∨ (id == 38) = false ∧ (id == 11) = true ∧ (p == 3) = true ∧ r2 = 0 ∨ (id == 38) = false ∧ (id == 11) = true ∧ (p == 3) = false ∧ r2 = 1 ∨ (id == 38) = false ∧ (id == 11) = false ∧ r2 = 1 := by
                  by_cases x1 : id = 38
                  · left; simp [x1] at e2 ⊢; omega
                  · right
                    by_cases x2 : id = 11
                    · by_cases x3 : p = 3
                      · left; simp [x1, x2, x3] at e2 ⊢; omega
                      · right; left; simp [x1, x2, x3] at e2 ⊢; omega
                    · right; right; simp [x1, x2] at e2 ⊢; omega
                clear e2 HR2
                rcases four with ⟨d1, rfl⟩ | ⟨d1, d2, d3, rfl⟩ | ⟨d1, d2, d3, rfl⟩ | ⟨d1, d2, rfl⟩
                all_goals
                  go_wp2_with (fail)
                  refine (fairwaylaw4_num.calls _ _ _ rfl).mono ?_
                  rintro e w6 ⟨rfl, ⟨nd4, rfl⟩⟩
                  go_wp2_with (fail)
                  refine (chk1 p id 1 1 _ (HL.out.below (pw_below_drewN BIb.out _)) (by rw [props_one p id 1 HP.out, OK2.out]; rfl)).mono ?_
                  rintro e w7 ⟨rfl, hb7⟩
                  have Z7c := Aside0.mk ((Z7b.out.drewN _).below hb7); have Z6c := Aside0.mk ((Z6b.out.drewN _).below hb7); have BIc := Aside0.mk (below_step (pw_below_drewN BIb.out _) hb7)
                  clear hb7
                  go_wp2_with (fail)
                  refine (fairwaylaw4_num.calls 1 1 _ rfl).mono ?_
                  rintro e w8 ⟨rfl, ⟨nd5, rfl⟩⟩
                  go_wp2
                  go_roundg (16 - (p.toNat + 1))
                  case measure => have := HI.out; have := HP.out; omega
                  case rel =>
                    have := HI.out; have := HP.out
                    refine ⟨c + 1, p + 1, ?_, ?_, ⟨by omega⟩, ⟨fun h => by omega⟩, ⟨Z7c.out.drewN _⟩, ⟨Z6c.out.drewN _⟩, ⟨pw_below_drewN BIc.out _⟩⟩
                    · first | rfl | rw [W1.out]
                    · first | rfl | rw [W2.out]
              · have HM := Aside0.mk hm
                clear hm
                go_wp2_with (fail)
                refine (chk1 p id 0 1 _ (HL.out.below BI.out) (by rw [props_one p id 0 HP.out, OK1.out, decide_eq_false HM.out]; rfl)).mono ?_
                rintro e w3 ⟨rfl, hb3⟩
                have Z7a := Aside0.mk (Z7.out.below hb3); have Z6a := Aside0.mk (Z6.out.below hb3); have BIa := Aside0.mk (below_step BI.out hb3)
                clear c60 c61 c62 c63 hb3
                go_wp2_with (fail)
                refine (fairwaylaw4_num.calls 1 1 _ rfl).mono ?_
                rintro e w4 ⟨rfl, ⟨nd3, rfl⟩⟩
                have w2 : wrap64 (p + 1) = p + 1 := w64 zz18 zz18
                have W2 := Aside0.mk w2
                clear w2
                go_wp2
                go_roundg (16 - (p.toNat + 1))
                case measure => have := HI.out; have := HP.out; omega
                case rel =>
                  have := HI.out; have := HP.out
                  refine ⟨c, p + 1, rfl, ?_, ⟨by omega⟩, ⟨fun h q h0 h1 => ?_⟩, ⟨Z7a.out.drewN _⟩, ⟨Z6a.out.drewN _⟩, ⟨pw_below_drewN BIa.out _⟩⟩
                  · first | rfl | rw [W2.out]
                  · by_cases e : q = p
                    · rw [e]; exact HM.out
                    · exact HQ.out h q h0 (by omega)
            · have hpb : decide (p ≤ 15) = false := decide_eq_false hp
              have hc0 : (c == 0) = false := by
                rw [beq_eq_false_iff_ne]
                intro e
                have hi := HI.out
                have h1' := h1.out; have h2' := HLT.out
                obtain ⟨q, hq⟩ := stands_some ⟨id.toNat, by omega⟩ zz13
                rw [show (((id.toNat : Nat)) : Int) = id by omega] at hq
                exact HQ.out e q.val (by omega) (by have := q.isLt; omega) hq
              clear hp
              go_wp2
              go_roundg (43 - (id.toNat + 1))
              case measure => have := h1.out; have := HLT.out; have := h3.out; omega
              case rel =>
                have := h1.out; have := HLT.out; have := h3.out
                refine ⟨id + 1, ?_, ⟨by omega⟩, ⟨by omega⟩, ⟨by omega⟩, BI⟩
                have e : wrap64 (id + 1) = id + 1 := by unfold wrap64; omega
                first | rfl | rw [e]
        · have OK1 := Aside0.mk (ok_one (n := 0) hk (by rw [h]; rfl))
          have OK2 := Aside0.mk (ok_far (n := 1) hk (by rw [h]; rfl))
          have HKK := Aside0.mk hk
          have HK := Aside0.mk h
          clear h hk
          go_wp2_with (fail)
          refine (kind_calls id 6 0 _ HK.out (by rw [HK.out]; rfl)).mono ?_
          rintro e w1 ⟨rfl, ⟨nd, rfl⟩⟩
          go_wp2_with (fail)
          refine (fairwaylaw4_num.calls 0 0 _ rfl).mono ?_
          rintro e w1 ⟨rfl, ⟨nd2, rfl⟩⟩
          go_upto_region 11 with (first | ((with_reducible refine gate_dst (N := 6) rfl ?_); refine box_event ?hg (N := 6) ?hd (cs := #[.int .i64 0, .int .i64 0, .string eB, .string eB]) (t := 42) ?hr ?_; (case hd => rfl); (case hg => rfl); (case hr => first | (go_simp; done) | (go_simp; rfl)); intro b6 hb6 w10 hx6 hb10; have BW1 := Aside0.mk (below_step (pw_below_drewN BW.out _) hb10); have l6 := Aside0.mk (blk_lt hx6); have g6 := Aside0.mk (show w.heap.size ≤ b6 by rw [hb6]; exact (pw_below_drewN BW.out _).size); have c60 : w10.cell? ⟨b6, 0, none⟩ = some (.int .i64 0) := (blk_cell hx6 0).trans rfl; have c61 : w10.cell? ⟨b6, 1, none⟩ = some (.int .i64 0) := (blk_cell hx6 1).trans rfl; have c62 : w10.cell? ⟨b6, 2, none⟩ = some (.string eB) := (blk_cell hx6 2).trans rfl; have c63 : w10.cell? ⟨b6, 3, none⟩ = some (.string eB) := (blk_cell hx6 3).trans rfl; have f60 := blk_frozen hx6 0; have f61 := blk_frozen hx6 1; have f62 := blk_frozen hx6 2; have f63 := blk_frozen hx6 3; have HX6 := Aside0.mk hx6; clear hx6 hb10 hb6) | fail)
          refine wp_gen (fun wA => Box wA b6 id 0 ∧ Below w.heap.size w wA) ⟨box_of (blk_set (blk_set (blk_set (blk_set HX6.out 0 (.int .i64 id)) 1 (.int .i64 0)) 2 (.string eB)) 3 (.string eB)), zz11⟩ ?_
          clear c60 c61 c62 c63 f60 f61 f62 f63
          rintro wA ⟨XA, BA⟩
          have c60 := XA.c0; have c61 := XA.c1; have c62 := XA.c2; have c63 := XA.c3
          have BA' := Aside0.mk BA
          have X6 := Aside0.mk XA
          clear XA BA
          go_upto_region 12 with (first | ((with_reducible refine gate_dst (N := 7) rfl ?_); refine box_event ?hg (N := 7) ?hd (cs := #[.int .i64 0, .int .i64 0, .string eB, .string eB]) (t := 42) ?hr ?_; (case hd => rfl); (case hg => rfl); (case hr => first | (go_simp; done) | (go_simp; rfl)); intro b7 hb7 w17 hx7 hb17; have X6' := Aside0.mk (X6.out.below hb17); have BW2 := Aside0.mk (below_step BA'.out hb17); have l6 := Aside0.mk (World.block_lt_of_cell? wA _ X6.out.c0); have n67 : b6 ≠ b7 := (by rw [hb7]; exact Nat.ne_of_lt l6.out); have n76 : b7 ≠ b6 := Ne.symm n67; have g7 := Aside0.mk (show w.heap.size ≤ b7 by rw [hb7]; exact BA'.out.size); have c70 : w17.cell? ⟨b7, 0, none⟩ = some (.int .i64 0) := (blk_cell hx7 0).trans rfl; have c71 : w17.cell? ⟨b7, 1, none⟩ = some (.int .i64 0) := (blk_cell hx7 1).trans rfl; have c72 : w17.cell? ⟨b7, 2, none⟩ = some (.string eB) := (blk_cell hx7 2).trans rfl; have c73 : w17.cell? ⟨b7, 3, none⟩ = some (.string eB) := (blk_cell hx7 3).trans rfl; have f70 := blk_frozen hx7 0; have f71 := blk_frozen hx7 1; have f72 := blk_frozen hx7 2; have f73 := blk_frozen hx7 3; have HX7 := Aside0.mk hx7; clear hx7 hb17 hb7 c60 c61 c62 c63) | fail)
          refine wp_gen (fun wB => Box wB b7 id 0 ∧ Box wB b6 id 0 ∧ Aside0 (wB.frozen? ⟨b7, 1, none⟩ = false) ∧ Below w.heap.size w wB) ⟨box_of (blk_set (blk_set (blk_set (blk_set HX7.out 0 (.int .i64 id)) 1 (.int .i64 0)) 2 (.string eB)) 3 (.string eB)), ?_, ⟨by go_simp⟩, zz12⟩ ?_
          · have c60 := X6'.out.c0; have c61 := X6'.out.c1; have c62 := X6'.out.c2; have c63 := X6'.out.c3
            exact ⟨by go_simp, by go_simp, by go_simp, by go_simp⟩
          clear c70 c71 c72 c73 f70 f71 f72 f73
          rintro wB ⟨XB7, XB6, FB, BB⟩
          have c70 := XB7.c0; have c71 := XB7.c1; have c72 := XB7.c2; have c73 := XB7.c3
          have c60 := XB6.c0; have c61 := XB6.c1; have c62 := XB6.c2; have c63 := XB6.c3
          have BB' := Aside0.mk BB
          have fz : wB.frozen? ⟨b7, 1, none⟩ = false := FB.out
          have lt7 : b7 < wB.heap.size := World.block_lt_of_cell? wB _ c70
          have lt6 : b6 < wB.heap.size := World.block_lt_of_cell? wB _ c60
          clear XB7 XB6 BB
          go_upto_region 13 with (fail)
          refine wp_gen (fun wC => Box wC b7 id 1 ∧ Box wC b6 id 0 ∧ Below w.heap.size w wC) ⟨⟨by go_simp, by go_simp, by go_simp, by go_simp⟩, ⟨by go_simp, by go_simp, by go_simp, by go_simp⟩, (BB'.out.setCell g7.out _).alloc (by simpa using BB'.out.size) _⟩ ?_
          clear c70 c71 c72 c73 c60 c61 c62 c63 fz lt7 lt6
          rintro wC ⟨XC7, XC6, BC⟩
          have Y7 := Aside0.mk XC7; have Y6 := Aside0.mk XC6; have BC' := Aside0.mk BC
          clear XC7 XC6 BC
          go_wp2
          go_loopg [8, 9] 16 (fun gg v8 v9 wi => ∃ c p : Int, v8 = .int .i64 c ∧ v9 = .int .i64 p ∧ Aside0 (0 ≤ p ∧ p ≤ 16 ∧ 0 ≤ c ∧ c ≤ p ∧ 16 - p ≤ gg) ∧ Aside0 (c = 0 → ∀ q, 0 ≤ q → q < p → id ∉ placeL q) ∧ Aside0 (Box wi b7 id 1) ∧ Aside0 (Box wi b6 id 0) ∧ Aside0 (Below w.heap.size w wi))
          case atStart => exact ⟨0, 0, rfl, rfl, ⟨by omega⟩, ⟨fun _ q h0 h1 => by omega⟩, Y7, Y6, BC'⟩
          case round =>
            obtain ⟨c, p, rfl, rfl, HI, HQ, Z7, Z6, BI⟩ := hrel
            by_cases hp : p ≤ 15
            · have hpb : decide (p ≤ 15) = true := decide_eq_true hp
              have HP := Aside0.mk (show 0 ≤ p ∧ p ≤ 15 from ⟨HI.out.1, hp⟩)
              clear hp
              have c60 := Z6.out.c0; have c61 := Z6.out.c1; have c62 := Z6.out.c2; have c63 := Z6.out.c3
              by_cases hm : id ∈ placeL p
              · have HM := Aside0.mk hm
                clear hm
                go_wp2_with (fail)
                refine (chk1 p id 0 0 _ (HL.out.below BI.out) (by rw [props_one p id 0 HP.out, OK1.out, decide_eq_true HM.out]; rfl)).mono ?_
                rintro e w3 ⟨rfl, hb3⟩
                have Z7a := Aside0.mk (Z7.out.below hb3); have Z6a := Aside0.mk (Z6.out.below hb3); have BIa := Aside0.mk (below_step BI.out hb3)
                clear c60 c61 c62 c63 hb3
                have c60 := Z6a.out.c0; have c61 := Z6a.out.c1; have c62 := Z6a.out.c2; have c63 := Z6a.out.c3
                go_wp2_with (fail)
                refine (fairwaylaw4_num.calls 0 0 _ rfl).mono ?_
                rintro e w4 ⟨rfl, ⟨nd3, rfl⟩⟩
                obtain ⟨r2, hr2⟩ : ∃ r2 : Int, (if propsP p [⟨id, 0, eB, eB⟩, ⟨id, 0, eB, eB⟩] = true then 0 else 1) = r2 := ⟨_, rfl⟩
                have HR2 := Aside0.mk hr2
                clear hr2
                go_wp2_with (fail)
                refine (chk2 p id 0 r2 _ (HL.out.below (pw_below_drewN BIa.out _)) HR2.out).mono ?_
                rintro e w5 ⟨rfl, hb5⟩
                have Z7b := Aside0.mk ((Z7a.out.drewN _).below hb5); have Z6b := Aside0.mk ((Z6a.out.drewN _).below hb5); have BIb := Aside0.mk (below_step (pw_below_drewN BIa.out _) hb5)
                clear c60 c61 c62 c63 hb5
                have c70 := Z7b.out.c0; have c71 := Z7b.out.c1; have c72 := Z7b.out.c2; have c73 := Z7b.out.c3
                have e2 := HR2.out
                rw [props_two p id 0 HP.out OK1.out HM.out] at e2
                have w1 : wrap64 (c + 1) = c + 1 := w64 zz18 zz18
                have w2 : wrap64 (p + 1) = p + 1 := w64 zz18 zz18
                have W1 := Aside0.mk w1; have W2 := Aside0.mk w2
                clear w1 w2
                have four : (id == 38) = true ∧ r2 = 0 ∨ (id == 38) = false ∧ (id == 11) = true ∧ (p == 3) = true ∧ r2 = 0 ∨ (id == 38) = false ∧ (id == 11) = true ∧ (p == 3) = false ∧ r2 = 1 ∨ (id == 38) = false ∧ (id == 11) = false ∧ r2 = 1 := by
                  by_cases x1 : id = 38
                  · left; simp [x1] at e2 ⊢; omega
                  · right
                    by_cases x2 : id = 11
                    · by_cases x3 : p = 3
                      · left; simp [x1, x2, x3] at e2 ⊢; omega
                      · right; left; simp [x1, x2, x3] at e2 ⊢; omega
                    · right; right; simp [x1, x2] at e2 ⊢; omega
                clear e2 HR2
                rcases four with ⟨d1, rfl⟩ | ⟨d1, d2, d3, rfl⟩ | ⟨d1, d2, d3, rfl⟩ | ⟨d1, d2, rfl⟩
                all_goals
                  go_wp2_with (fail)
                  refine (fairwaylaw4_num.calls _ _ _ rfl).mono ?_
                  rintro e w6 ⟨rfl, ⟨nd4, rfl⟩⟩
                  go_wp2_with (fail)
                  refine (chk1 p id 1 1 _ (HL.out.below (pw_below_drewN BIb.out _)) (by rw [props_one p id 1 HP.out, OK2.out]; rfl)).mono ?_
                  rintro e w7 ⟨rfl, hb7⟩
                  have Z7c := Aside0.mk ((Z7b.out.drewN _).below hb7); have Z6c := Aside0.mk ((Z6b.out.drewN _).below hb7); have BIc := Aside0.mk (below_step (pw_below_drewN BIb.out _) hb7)
                  clear hb7
                  go_wp2_with (fail)
                  refine (fairwaylaw4_num.calls 1 1 _ rfl).mono ?_
                  rintro e w8 ⟨rfl, ⟨nd5, rfl⟩⟩
                  go_wp2
                  go_roundg (16 - (p.toNat + 1))
                  case measure => have := HI.out; have := HP.out; omega
                  case rel =>
                    have := HI.out; have := HP.out
                    refine ⟨c + 1, p + 1, ?_, ?_, ⟨by omega⟩, ⟨fun h => by omega⟩, ⟨Z7c.out.drewN _⟩, ⟨Z6c.out.drewN _⟩, ⟨pw_below_drewN BIc.out _⟩⟩
                    · first | rfl | rw [W1.out]
                    · first | rfl | rw [W2.out]
              · have HM := Aside0.mk hm
                clear hm
                go_wp2_with (fail)
                refine (chk1 p id 0 1 _ (HL.out.below BI.out) (by rw [props_one p id 0 HP.out, OK1.out, decide_eq_false HM.out]; rfl)).mono ?_
                rintro e w3 ⟨rfl, hb3⟩
                have Z7a := Aside0.mk (Z7.out.below hb3); have Z6a := Aside0.mk (Z6.out.below hb3); have BIa := Aside0.mk (below_step BI.out hb3)
                clear c60 c61 c62 c63 hb3
                go_wp2_with (fail)
                refine (fairwaylaw4_num.calls 1 1 _ rfl).mono ?_
                rintro e w4 ⟨rfl, ⟨nd3, rfl⟩⟩
                have w2 : wrap64 (p + 1) = p + 1 := w64 zz18 zz18
                have W2 := Aside0.mk w2
                clear w2
                go_wp2
                go_roundg (16 - (p.toNat + 1))
                case measure => have := HI.out; have := HP.out; omega
                case rel =>
                  have := HI.out; have := HP.out
                  refine ⟨c, p + 1, rfl, ?_, ⟨by omega⟩, ⟨fun h q h0 h1 => ?_⟩, ⟨Z7a.out.drewN _⟩, ⟨Z6a.out.drewN _⟩, ⟨pw_below_drewN BIa.out _⟩⟩
                  · first | rfl | rw [W2.out]
                  · by_cases e : q = p
                    · rw [e]; exact HM.out
                    · exact HQ.out h q h0 (by omega)
            · have hpb : decide (p ≤ 15) = false := decide_eq_false hp
              have hc0 : (c == 0) = false := by
                rw [beq_eq_false_iff_ne]
                intro e
                have hi := HI.out
                have h1' := h1.out; have h2' := HLT.out
                obtain ⟨q, hq⟩ := stands_some ⟨id.toNat, by omega⟩ zz13
                rw [show (((id.toNat : Nat)) : Int) = id by omega] at hq
                exact HQ.out e q.val (by omega) (by have := q.isLt; omega) hq
              clear hp
              go_wp2
              go_roundg (43 - (id.toNat + 1))
              case measure => have := h1.out; have := HLT.out; have := h3.out; omega
              case rel =>
                have := h1.out; have := HLT.out; have := h3.out
                refine ⟨id + 1, ?_, ⟨by omega⟩, ⟨by omega⟩, ⟨by omega⟩, BI⟩
                have e : wrap64 (id + 1) = id + 1 := by unfold wrap64; omega
                first | rfl | rw [e]
        · have OK1 := Aside0.mk (ok_one (n := 0) hk (by rw [h]; rfl))
          have OK2 := Aside0.mk (ok_far (n := 1) hk (by rw [h]; rfl))
          have HKK := Aside0.mk hk
          have HK := Aside0.mk h
          clear h hk
          go_wp2_with (fail)
          refine (kind_calls id 7 0 _ HK.out (by rw [HK.out]; rfl)).mono ?_
          rintro e w1 ⟨rfl, ⟨nd, rfl⟩⟩
          go_wp2_with (fail)
          refine (fairwaylaw4_num.calls 0 0 _ rfl).mono ?_
          rintro e w1 ⟨rfl, ⟨nd2, rfl⟩⟩
          go_upto_region 11 with (first | ((with_reducible refine gate_dst (N := 6) rfl ?_); refine box_event ?hg (N := 6) ?hd (cs := #[.int .i64 0, .int .i64 0, .string eB, .string eB]) (t := 42) ?hr ?_; (case hd => rfl); (case hg => rfl); (case hr => first | (go_simp; done) | (go_simp; rfl)); intro b6 hb6 w10 hx6 hb10; have BW1 := Aside0.mk (below_step (pw_below_drewN BW.out _) hb10); have l6 := Aside0.mk (blk_lt hx6); have g6 := Aside0.mk (show w.heap.size ≤ b6 by rw [hb6]; exact (pw_below_drewN BW.out _).size); have c60 : w10.cell? ⟨b6, 0, none⟩ = some (.int .i64 0) := (blk_cell hx6 0).trans rfl; have c61 : w10.cell? ⟨b6, 1, none⟩ = some (.int .i64 0) := (blk_cell hx6 1).trans rfl; have c62 : w10.cell? ⟨b6, 2, none⟩ = some (.string eB) := (blk_cell hx6 2).trans rfl; have c63 : w10.cell? ⟨b6, 3, none⟩ = some (.string eB) := (blk_cell hx6 3).trans rfl; have f60 := blk_frozen hx6 0; have f61 := blk_frozen hx6 1; have f62 := blk_frozen hx6 2; have f63 := blk_frozen hx6 3; have HX6 := Aside0.mk hx6; clear hx6 hb10 hb6) | fail)
          refine wp_gen (fun wA => Box wA b6 id 0 ∧ Below w.heap.size w wA) ⟨box_of (blk_set (blk_set (blk_set (blk_set HX6.out 0 (.int .i64 id)) 1 (.int .i64 0)) 2 (.string eB)) 3 (.string eB)), zz11⟩ ?_
          clear c60 c61 c62 c63 f60 f61 f62 f63
          rintro wA ⟨XA, BA⟩
          have c60 := XA.c0; have c61 := XA.c1; have c62 := XA.c2; have c63 := XA.c3
          have BA' := Aside0.mk BA
          have X6 := Aside0.mk XA
          clear XA BA
          go_upto_region 12 with (first | ((with_reducible refine gate_dst (N := 7) rfl ?_); refine box_event ?hg (N := 7) ?hd (cs := #[.int .i64 0, .int .i64 0, .string eB, .string eB]) (t := 42) ?hr ?_; (case hd => rfl); (case hg => rfl); (case hr => first | (go_simp; done) | (go_simp; rfl)); intro b7 hb7 w17 hx7 hb17; have X6' := Aside0.mk (X6.out.below hb17); have BW2 := Aside0.mk (below_step BA'.out hb17); have l6 := Aside0.mk (World.block_lt_of_cell? wA _ X6.out.c0); have n67 : b6 ≠ b7 := (by rw [hb7]; exact Nat.ne_of_lt l6.out); have n76 : b7 ≠ b6 := Ne.symm n67; have g7 := Aside0.mk (show w.heap.size ≤ b7 by rw [hb7]; exact BA'.out.size); have c70 : w17.cell? ⟨b7, 0, none⟩ = some (.int .i64 0) := (blk_cell hx7 0).trans rfl; have c71 : w17.cell? ⟨b7, 1, none⟩ = some (.int .i64 0) := (blk_cell hx7 1).trans rfl; have c72 : w17.cell? ⟨b7, 2, none⟩ = some (.string eB) := (blk_cell hx7 2).trans rfl; have c73 : w17.cell? ⟨b7, 3, none⟩ = some (.string eB) := (blk_cell hx7 3).trans rfl; have f70 := blk_frozen hx7 0; have f71 := blk_frozen hx7 1; have f72 := blk_frozen hx7 2; have f73 := blk_frozen hx7 3; have HX7 := Aside0.mk hx7; clear hx7 hb17 hb7 c60 c61 c62 c63) | fail)
          refine wp_gen (fun wB => Box wB b7 id 0 ∧ Box wB b6 id 0 ∧ Aside0 (wB.frozen? ⟨b7, 1, none⟩ = false) ∧ Below w.heap.size w wB) ⟨box_of (blk_set (blk_set (blk_set (blk_set HX7.out 0 (.int .i64 id)) 1 (.int .i64 0)) 2 (.string eB)) 3 (.string eB)), ?_, ⟨by go_simp⟩, zz12⟩ ?_
          · have c60 := X6'.out.c0; have c61 := X6'.out.c1; have c62 := X6'.out.c2; have c63 := X6'.out.c3
            exact ⟨by go_simp, by go_simp, by go_simp, by go_simp⟩
          clear c70 c71 c72 c73 f70 f71 f72 f73
          rintro wB ⟨XB7, XB6, FB, BB⟩
          have c70 := XB7.c0; have c71 := XB7.c1; have c72 := XB7.c2; have c73 := XB7.c3
          have c60 := XB6.c0; have c61 := XB6.c1; have c62 := XB6.c2; have c63 := XB6.c3
          have BB' := Aside0.mk BB
          have fz : wB.frozen? ⟨b7, 1, none⟩ = false := FB.out
          have lt7 : b7 < wB.heap.size := World.block_lt_of_cell? wB _ c70
          have lt6 : b6 < wB.heap.size := World.block_lt_of_cell? wB _ c60
          clear XB7 XB6 BB
          go_upto_region 13 with (fail)
          refine wp_gen (fun wC => Box wC b7 id 1 ∧ Box wC b6 id 0 ∧ Below w.heap.size w wC) ⟨⟨by go_simp, by go_simp, by go_simp, by go_simp⟩, ⟨by go_simp, by go_simp, by go_simp, by go_simp⟩, (BB'.out.setCell g7.out _).alloc (by simpa using BB'.out.size) _⟩ ?_
          clear c70 c71 c72 c73 c60 c61 c62 c63 fz lt7 lt6
          rintro wC ⟨XC7, XC6, BC⟩
          have Y7 := Aside0.mk XC7; have Y6 := Aside0.mk XC6; have BC' := Aside0.mk BC
          clear XC7 XC6 BC
          go_wp2
          go_loopg [8, 9] 16 (fun gg v8 v9 wi => ∃ c p : Int, v8 = .int .i64 c ∧ v9 = .int .i64 p ∧ Aside0 (0 ≤ p ∧ p ≤ 16 ∧ 0 ≤ c ∧ c ≤ p ∧ 16 - p ≤ gg) ∧ Aside0 (c = 0 → ∀ q, 0 ≤ q → q < p → id ∉ placeL q) ∧ Aside0 (Box wi b7 id 1) ∧ Aside0 (Box wi b6 id 0) ∧ Aside0 (Below w.heap.size w wi))
          case atStart => exact ⟨0, 0, rfl, rfl, ⟨by omega⟩, ⟨fun _ q h0 h1 => by omega⟩, Y7, Y6, BC'⟩
          case round =>
            obtain ⟨c, p, rfl, rfl, HI, HQ, Z7, Z6, BI⟩ := hrel
            by_cases hp : p ≤ 15
            · have hpb : decide (p ≤ 15) = true := decide_eq_true hp
              have HP := Aside0.mk (show 0 ≤ p ∧ p ≤ 15 from ⟨HI.out.1, hp⟩)
              clear hp
              have c60 := Z6.out.c0; have c61 := Z6.out.c1; have c62 := Z6.out.c2; have c63 := Z6.out.c3
              by_cases hm : id ∈ placeL p
              · have HM := Aside0.mk hm
                clear hm
                go_wp2_with (fail)
                refine (chk1 p id 0 0 _ (HL.out.below BI.out) (by rw [props_one p id 0 HP.out, OK1.out, decide_eq_true HM.out]; rfl)).mono ?_
                rintro e w3 ⟨rfl, hb3⟩
                have Z7a := Aside0.mk (Z7.out.below hb3); have Z6a := Aside0.mk (Z6.out.below hb3); have BIa := Aside0.mk (below_step BI.out hb3)
                clear c60 c61 c62 c63 hb3
                have c60 := Z6a.out.c0; have c61 := Z6a.out.c1; have c62 := Z6a.out.c2; have c63 := Z6a.out.c3
                go_wp2_with (fail)
                refine (fairwaylaw4_num.calls 0 0 _ rfl).mono ?_
                rintro e w4 ⟨rfl, ⟨nd3, rfl⟩⟩
                obtain ⟨r2, hr2⟩ : ∃ r2 : Int, (if propsP p [⟨id, 0, eB, eB⟩, ⟨id, 0, eB, eB⟩] = true then 0 else 1) = r2 := ⟨_, rfl⟩
                have HR2 := Aside0.mk hr2
                clear hr2
                go_wp2_with (fail)
                refine (chk2 p id 0 r2 _ (HL.out.below (pw_below_drewN BIa.out _)) HR2.out).mono ?_
                rintro e w5 ⟨rfl, hb5⟩
                have Z7b := Aside0.mk ((Z7a.out.drewN _).below hb5); have Z6b := Aside0.mk ((Z6a.out.drewN _).below hb5); have BIb := Aside0.mk (below_step (pw_below_drewN BIa.out _) hb5)
                clear c60 c61 c62 c63 hb5
                have c70 := Z7b.out.c0; have c71 := Z7b.out.c1; have c72 := Z7b.out.c2; have c73 := Z7b.out.c3
                have e2 := HR2.out
                rw [props_two p id 0 HP.out OK1.out HM.out] at e2
                have w1 : wrap64 (c + 1) = c + 1 := w64 zz18 zz18
                have w2 : wrap64 (p + 1) = p + 1 := w64 zz18 zz18
                have W1 := Aside0.mk w1; have W2 := Aside0.mk w2
                clear w1 w2
                have four : (id == 38) = true ∧ r2 = 0 ∨ (id == 38) = false ∧ (id == 11) = true ∧ (p == 3) = true ∧ r2 = 0 ∨ (id == 38) = false ∧ (id == 11) = true ∧ (p == 3) = false ∧ r2 = 1 ∨ (id == 38) = false ∧ (id == 11) = false ∧ r2 = 1 := by
                  by_cases x1 : id = 38
                  · left; simp [x1] at e2 ⊢; omega
                  · right
                    by_cases x2 : id = 11
                    · by_cases x3 : p = 3
                      · left; simp [x1, x2, x3] at e2 ⊢; omega
                      · right; left; simp [x1, x2, x3] at e2 ⊢; omega
                    · right; right; simp [x1, x2] at e2 ⊢; omega
                clear e2 HR2
                rcases four with ⟨d1, rfl⟩ | ⟨d1, d2, d3, rfl⟩ | ⟨d1, d2, d3, rfl⟩ | ⟨d1, d2, rfl⟩
                all_goals
                  go_wp2_with (fail)
                  refine (fairwaylaw4_num.calls _ _ _ rfl).mono ?_
                  rintro e w6 ⟨rfl, ⟨nd4, rfl⟩⟩
                  go_wp2_with (fail)
                  refine (chk1 p id 1 1 _ (HL.out.below (pw_below_drewN BIb.out _)) (by rw [props_one p id 1 HP.out, OK2.out]; rfl)).mono ?_
                  rintro e w7 ⟨rfl, hb7⟩
                  have Z7c := Aside0.mk ((Z7b.out.drewN _).below hb7); have Z6c := Aside0.mk ((Z6b.out.drewN _).below hb7); have BIc := Aside0.mk (below_step (pw_below_drewN BIb.out _) hb7)
                  clear hb7
                  go_wp2_with (fail)
                  refine (fairwaylaw4_num.calls 1 1 _ rfl).mono ?_
                  rintro e w8 ⟨rfl, ⟨nd5, rfl⟩⟩
                  go_wp2
                  go_roundg (16 - (p.toNat + 1))
                  case measure => have := HI.out; have := HP.out; omega
                  case rel =>
                    have := HI.out; have := HP.out
                    refine ⟨c + 1, p + 1, ?_, ?_, ⟨by omega⟩, ⟨fun h => by omega⟩, ⟨Z7c.out.drewN _⟩, ⟨Z6c.out.drewN _⟩, ⟨pw_below_drewN BIc.out _⟩⟩
                    · first | rfl | rw [W1.out]
                    · first | rfl | rw [W2.out]
              · have HM := Aside0.mk hm
                clear hm
                go_wp2_with (fail)
                refine (chk1 p id 0 1 _ (HL.out.below BI.out) (by rw [props_one p id 0 HP.out, OK1.out, decide_eq_false HM.out]; rfl)).mono ?_
                rintro e w3 ⟨rfl, hb3⟩
                have Z7a := Aside0.mk (Z7.out.below hb3); have Z6a := Aside0.mk (Z6.out.below hb3); have BIa := Aside0.mk (below_step BI.out hb3)
                clear c60 c61 c62 c63 hb3
                go_wp2_with (fail)
                refine (fairwaylaw4_num.calls 1 1 _ rfl).mono ?_
                rintro e w4 ⟨rfl, ⟨nd3, rfl⟩⟩
                have w2 : wrap64 (p + 1) = p + 1 := w64 zz18 zz18
                have W2 := Aside0.mk w2
                clear w2
                go_wp2
                go_roundg (16 - (p.toNat + 1))
                case measure => have := HI.out; have := HP.out; omega
                case rel =>
                  have := HI.out; have := HP.out
                  refine ⟨c, p + 1, rfl, ?_, ⟨by omega⟩, ⟨fun h q h0 h1 => ?_⟩, ⟨Z7a.out.drewN _⟩, ⟨Z6a.out.drewN _⟩, ⟨pw_below_drewN BIa.out _⟩⟩
                  · first | rfl | rw [W2.out]
                  · by_cases e : q = p
                    · rw [e]; exact HM.out
                    · exact HQ.out h q h0 (by omega)
            · have hpb : decide (p ≤ 15) = false := decide_eq_false hp
              have hc0 : (c == 0) = false := by
                rw [beq_eq_false_iff_ne]
                intro e
                have hi := HI.out
                have h1' := h1.out; have h2' := HLT.out
                obtain ⟨q, hq⟩ := stands_some ⟨id.toNat, by omega⟩ zz13
                rw [show (((id.toNat : Nat)) : Int) = id by omega] at hq
                exact HQ.out e q.val (by omega) (by have := q.isLt; omega) hq
              clear hp
              go_wp2
              go_roundg (43 - (id.toNat + 1))
              case measure => have := h1.out; have := HLT.out; have := h3.out; omega
              case rel =>
                have := h1.out; have := HLT.out; have := h3.out
                refine ⟨id + 1, ?_, ⟨by omega⟩, ⟨by omega⟩, ⟨by omega⟩, BI⟩
                have e : wrap64 (id + 1) = id + 1 := by unfold wrap64; omega
                first | rfl | rw [e]
    · have h43 : decide (id ≤ 42) = false := decide_eq_false hlt
      have hge : decide ((l0.length : Int) ≥ 0) = true := decide_eq_true (Int.natCast_nonneg _)
      clear hlt
      go_wp2_with (fail)
      refine (wakes_calls _ (HL.out.below BW.out)).mono ?_
      rintro e w1 ⟨rfl, hb⟩
      go_wp2
      go_ret
      exact ⟨rfl, below_step BW.out hb⟩
def fairwaylaw4_PropOnce.f (l0 : List S25) : Option (Bool) := some true
theorem fairwaylaw4_PropOnce.calls (A0 : Option Addr) (c0 : Nat) (l0 : List S25) (r : Bool) (w : World) (hr0 : Kd.C k25 w A0 l0.length l0) (hc0 : l0.length ≤ c0) (HLAID : Laid w) (h : fairwaylaw4_PropOnce.f l0 = some r) :
    Calls Tryd.prog 5 #[.slice A0 l0.length c0] w fun e w' => e = .returned (.bool r) ∧ Below w.heap.size w w' := by
  obtain rfl := Option.some.inj h; exact once_calls A0 c0 l0 w HLAID
end Go.Proofs.YtiancopplinpcaaDoor.P
end
section
namespace Go.Proofs.YtiancopplinpcaaDoor.P
def PropOnce.Pure : Prop := ∀ (l0 : (List S25)), (l0.length * 48 ≤ 140737488351232 ∧ ∀ a_ ∈ l0, g25 a_) → fairwaylaw4_PropOnce.f l0 = some true
end Go.Proofs.YtiancopplinpcaaDoor.P
end
section
namespace Go.Proofs.YtiancopplinpcaaDoor.P
theorem PropOnce_pure : PropOnce.Pure := fun _ _ => rfl
end Go.Proofs.YtiancopplinpcaaDoor.P
end
