/- What the properties' tables tell: kinds and places, the program's and the page's alike. -/
import Derived.Test.YtiancopplinpcaaDoorPx11
import Derived.Test.YtiancopplinpcaaDoorPx12
import Derived.Test.YtiancopplinpcaaDoorPx14
import Derived.Test.YtiancopplinpcaaDoorPx15
import Derived.Test.YtiancopplinpcaaDoorPx2
import Derived.Test.YtiancopplinpcaaDoorPx3
import Derived.Test.YtiancopplinpcaaDoorVbi
namespace Go.Proofs.YtiancopplinpcaaDoor.P
open Go.RowKit Go.Proofs.YtiancopplinpcaaDoorW.PrintWords Go.Proofs.YtiancopplinpcaaDoorW.PrintLast Go.Proofs.YtiancopplinpcaaDoorW.PrintMore
set_option linter.unusedSimpArgs false
set_option linter.unusedVariables false

/-- What a property is of. -/
def kindOf (id : Int) : Int :=
  if id ∈ [1, 23, 25, 36, 37, 40, 41, 42] then 1 else if id ∈ [19, 33, 34, 35] then 2 else if id ∈ [2, 17, 24, 39] then 3 else if id = 11 then 4 else if id ∈ [3, 8, 18, 21, 26, 28, 31] then 5 else if id ∈ [9, 22] then 6 else if id = 38 then 7 else 0
theorem kindOf_range (id : Int) : 0 ≤ kindOf id ∧ kindOf id ≤ 7 := by
  unfold kindOf
  repeat' split
  all_goals omega
theorem kindOf_out {id : Int} (h : id < 0 ∨ 42 < id) : kindOf id = 0 := by
  unfold kindOf
  simp only [List.mem_cons, List.not_mem_nil, or_false]
  repeat rw [if_neg (by omega)]
set_option maxRecDepth 100000 in
theorem kind_in : ∀ n : Fin 43, prop_Kind.f 6 (n.val : Int) = some (kindOf (n.val : Int), if kindOf (n.val : Int) = 0 then 3 else 0) := by decide
set_option maxRecDepth 100000 in
theorem refKind_in : ∀ n : Fin 43, fairwayref4_Kind.f 6 (n.val : Int) = some (kindOf (n.val : Int)) := by decide
theorem kind_ev (id : Int) : Ev (fun k => prop_Kind.f k id) (kindOf id, if kindOf id = 0 then 3 else 0) := by
  refine Ev.of (prop_Kind.mono id) (k := 6) ?_
  by_cases h : id < 0 ∨ 42 < id
  · rw [kindOf_out h, if_pos rfl]
    simp only [prop_Kind.f, prop_Kind.j0, prop_Kind.j1, prop_Kind.j2, prop_Kind.j3, prop_Kind.j4, beq_iff_eq]
    repeat rw [if_neg (by omega)]
  · have := kind_in ⟨id.toNat, by omega⟩
    have e : ((id.toNat : Nat) : Int) = id := by omega
    simpa only [e] using this
theorem refKind_ev (id : Int) : Ev (fun k => fairwayref4_Kind.f k id) (kindOf id) := by
  refine Ev.of (fairwayref4_Kind.mono id) (k := 6) ?_
  by_cases h : id < 0 ∨ 42 < id
  · rw [kindOf_out h]
    simp only [fairwayref4_Kind.f, fairwayref4_Kind.j0, fairwayref4_Kind.j1, fairwayref4_Kind.j2, fairwayref4_Kind.j3, fairwayref4_Kind.j4, beq_iff_eq]
    repeat rw [if_neg (by omega)]
  · have := refKind_in ⟨id.toNat, by omega⟩
    have e : ((id.toNat : Nat) : Int) = id := by omega
    simpa only [e] using this

/-- Which may stand at a place. -/
def placeL (p : Int) : List Int :=
  if p = 0 then [1, 2, 3, 8, 9, 24, 38] else if p = 1 then [17, 21, 22, 23, 25, 33, 34, 38, 39] else if p = 2 then [17, 18, 19, 21, 22, 26, 28, 31, 33, 34, 36, 37, 38, 39, 40, 41, 42] else if p = 3 then [1, 2, 3, 8, 9, 11, 35, 38]
  else if p = 4 ∨ p = 5 ∨ p = 6 ∨ p = 7 ∨ p = 9 ∨ p = 11 then [31, 38] else if p = 8 then [11, 38] else if p = 10 then [38] else if p = 14 then [17, 28, 31, 38] else if p = 15 then [21, 22, 31, 38] else []
theorem placeL_out {p : Int} (h : p < 0 ∨ 15 < p) : placeL p = [] := by
  unfold placeL
  repeat rw [if_neg (by omega)]
set_option maxRecDepth 100000 in
theorem stands_in : ∀ n : Fin 16, prop_stands.f 3 (n.val : Int) = some (placeL (n.val : Int), true) := by decide
theorem stands_ev (p : Int) : Ev (fun k => prop_stands.f k p) (placeL p, decide (0 ≤ p ∧ p ≤ 15)) := by
  refine Ev.of (prop_stands.mono p) (k := 3) ?_
  by_cases h : p < 0 ∨ 15 < p
  · rw [placeL_out h, decide_eq_false (by omega)]
    simp only [prop_stands.f, prop_stands.j0, beq_iff_eq]
    repeat rw [if_neg (by omega)]
  · have := stands_in ⟨p.toNat, by omega⟩
    have e : ((p.toNat : Nat) : Int) = p := by omega
    rw [decide_eq_true (by omega)]
    simpa only [e] using this
/-- Where a number stands among others. -/
theorem in_loop (l : List Int) (x : Int) (hl : l.length ≤ 1000) (d : Nat) : ∀ (i k : Nat), l.length - i = d → d < k → ∃ r, fairwayref0_In.l0 k l x (i : Int) = some r ∧ (r ≥ 0 ↔ x ∈ l.drop i) := by
  induction d with
  | zero =>
    intro i k hd hk
    obtain ⟨k, rfl⟩ : ∃ m, k = m + 1 := ⟨k - 1, by omega⟩
    refine ⟨-1, ?_, ?_⟩
    · simp only [fairwayref0_In.l0]
      rw [if_neg (by omega)]
    · rw [List.drop_of_length_le (by omega)]
      simp
  | succ d ih =>
    intro i k hd hk
    obtain ⟨k, rfl⟩ : ∃ m, k = m + 1 := ⟨k - 1, by omega⟩
    have hi : i < l.length := by omega
    have hrd : rd l (i : Int) = l[i] := by simp [rd, hi]
    rw [List.drop_eq_getElem_cons hi]
    by_cases h : l[i] = x
    · refine ⟨i, ?_, by simp [h]⟩
      simp only [fairwayref0_In.l0]
      rw [if_pos (by omega), if_pos (by omega), hrd, if_pos h]
    · obtain ⟨r, hr, hm⟩ := ih (i + 1) k (by omega) (by omega)
      refine ⟨r, ?_, ?_⟩
      · simp only [fairwayref0_In.l0]
        rw [if_pos (by omega), if_pos (by omega), hrd, if_neg h, w64 (by omega) (by omega)]
        exact hr
      · rw [hm, List.mem_cons]
        constructor
        · exact .inr
        · rintro (rfl | h2)
          · exact absurd rfl h
          · exact h2
theorem in_ev (l : List Int) (x : Int) (hl : l.length ≤ 1000) : ∃ r, Ev (fun k => fairwayref0_In.f k l x) r ∧ (r ≥ 0 ↔ x ∈ l) := by
  obtain ⟨r, hr, hm⟩ := in_loop l x hl l.length 0 (l.length + 1) (by omega) (by omega)
  exact ⟨r, Ev.of (fairwayref0_In.mono l x) hr, by simpa using hm⟩
theorem index_loop (l : List Int) (x : Int) (hl : l.length ≤ 1000) (d : Nat) : ∀ (i k : Nat), l.length - i = d → d < k → ∃ r, slices_Index_int_int.l0 k l x (l.length : Int) (i : Int) = some r ∧ (r ≥ 0 ↔ x ∈ l.drop i) := by
  induction d with
  | zero =>
    intro i k hd hk
    obtain ⟨k, rfl⟩ : ∃ m, k = m + 1 := ⟨k - 1, by omega⟩
    refine ⟨-1, ?_, ?_⟩
    · simp only [slices_Index_int_int.l0]
      rw [if_neg (by omega)]
    · rw [List.drop_of_length_le (by omega)]
      simp
  | succ d ih =>
    intro i k hd hk
    obtain ⟨k, rfl⟩ : ∃ m, k = m + 1 := ⟨k - 1, by omega⟩
    have hi : i < l.length := by omega
    have hrd : rd l (i : Int) = l[i] := by simp [rd, hi]
    rw [List.drop_eq_getElem_cons hi]
    by_cases h : x = l[i]
    · refine ⟨i, ?_, ⟨fun _ => by rw [h]; exact List.mem_cons_self, fun _ => Int.natCast_nonneg _⟩⟩
      simp only [slices_Index_int_int.l0]
      rw [if_pos (by omega), if_pos (by omega), if_pos (by omega), hrd, if_pos h]
    · obtain ⟨r, hr, hm⟩ := ih (i + 1) k (by omega) (by omega)
      refine ⟨r, ?_, ?_⟩
      · simp only [slices_Index_int_int.l0]
        rw [if_pos (by omega), if_pos (by omega), if_pos (by omega), hrd, if_neg h, w64 (by omega) (by omega)]
        exact hr
      · rw [hm, List.mem_cons]
        constructor
        · exact .inr
        · rintro (rfl | h2)
          · exact absurd rfl h
          · exact h2
theorem contains_ev (l : List Int) (x : Int) (hl : l.length ≤ 1000) : Ev (fun k => slices_Contains_int_int.f k l x) (decide (x ∈ l)) := by
  obtain ⟨r, hr, hm⟩ := index_loop l x hl l.length 0 (l.length + 1) (by omega) (by omega)
  refine Ev.of (slices_Contains_int_int.mono l x) (k := l.length + 1) ?_
  unfold slices_Contains_int_int.f slices_Index_int_int.f
  rw [show (0 : Int) = ((0 : Nat) : Int) from rfl, hr]
  simp only [Option.bind_some, Option.some.injEq]
  exact decide_eq_decide.2 (by simpa using hm)
theorem placeL_len (p : Int) : (placeL p).length ≤ 17 := by
  unfold placeL
  repeat' split
  all_goals decide
/-- The page's table is the program's. -/
theorem refStands_ev (p id : Int) : Ev (fun k => fairwayref4_stands.f k p id) (decide (id ∈ placeL p)) := by
  obtain ⟨r, ⟨K, hr⟩, hm⟩ := in_ev (placeL p) id (by have := placeL_len p; omega)
  refine ⟨K + 3, fun k hk => ?_⟩
  obtain ⟨k, rfl⟩ : ∃ m, k = m + 1 := ⟨k - 1, by omega⟩
  have h0 := hr (k + 1) (by omega)
  have h1 := hr k (by omega)
  have e : decide (r ≥ 0) = decide (id ∈ placeL p) := decide_eq_decide.2 hm
  dsimp only at h0 h1 ⊢
  by_cases hp : p < 0 ∨ 15 < p
  · rw [placeL_out hp] at h0 h1 e ⊢
    simp only [fairwayref4_stands.f, fairwayref4_stands.j0, beq_iff_eq]
    repeat rw [if_neg (by omega)]
    rw [h1]
    simp only [Option.bind_some, e]
  · have hc : p = 0 ∨ p = 1 ∨ p = 2 ∨ p = 3 ∨ p = 4 ∨ p = 5 ∨ p = 6 ∨ p = 7 ∨ p = 8 ∨ p = 9 ∨ p = 10 ∨ p = 11 ∨ p = 12 ∨ p = 13 ∨ p = 14 ∨ p = 15 := by omega
    unfold placeL at h0 h1
    rw [← e]
    rcases hc with rfl | rfl | rfl | rfl | rfl | rfl | rfl | rfl | rfl | rfl | rfl | rfl | rfl | rfl | rfl | rfl
    all_goals simp only [fairwayref4_stands.f, fairwayref4_stands.j0, beq_iff_eq, reduceIte, Int.reduceEq, or_self, or_true, or_false, true_or, false_or, if_true, if_false] at h0 h1 ⊢
    all_goals first | (rw [h0]; rfl) | (rw [h1]; rfl)
theorem nought_is (id : Int) : prop_nought.f id = some (decide (id = 33 ∨ id = 35 ∨ id = 39 ∨ id = 11)) := by
  unfold prop_nought.f
  by_cases a : id = 33
  · simp [a]
  · by_cases b : id = 35
    · simp [b]
    · by_cases c : id = 39
      · simp [c]
      · simp only [a, b, c, if_false, false_or]
        rfl
theorem place_is (p : Int) : fairwayref4_Place.f p = some (decide (0 ≤ p ∧ p ≤ 15)) := by
  unfold fairwayref4_Place.f
  by_cases h : p ≥ 0
  · rw [if_pos h]; simp; omega
  · rw [if_neg h]; simp; omega
end Go.Proofs.YtiancopplinpcaaDoor.P
