/- The statement PropKinds, told of the printed functions alone. -/
import Derived.Test.YtiancopplinpcaaDoorPx20
import Derived.Test.YtiancopplinpcaaDoorPx8
import Derived.Test.YtiancopplinpcaaDoorProp
import Derived.Test.YtiancopplinpcaaDoorVbiBack
import Derived.Test.YtiancopplinpcaaDoorDPropKinds
namespace Go.Proofs.YtiancopplinpcaaDoor.P
open Go.RowKit Go.Proofs.YtiancopplinpcaaDoorW.PrintWords Go.Proofs.YtiancopplinpcaaDoorW.PrintLast Go.Proofs.YtiancopplinpcaaDoorW.PrintMore
set_option linter.unusedSimpArgs false
set_option linter.unusedVariables false
theorem num_id (e : Int) : fairwaylaw4_num.f e = some e := rfl
theorem wakes_ev : Ev (fun k => fairwaylaw4_wakes.f k) true := by
  obtain ⟨K1, h1⟩ := stands_ev 0
  obtain ⟨K2, h2⟩ := num_ok (n := 0) (by decide) (by decide)
  obtain ⟨K3, h3⟩ := kind_ev 38
  refine ⟨K1 + K2 + K3 + 4, fun k hk => ?_⟩
  obtain ⟨k, rfl⟩ : ∃ m, k = m + 2 := ⟨k - 2, by omega⟩
  dsimp only at h1 h2 h3 ⊢
  unfold fairwaylaw4_wakes.f prop_Bytes.f prop_lay.f
  rw [h1 _ (by omega)]
  simp only [Option.bind_some]
  rw [if_pos (by decide)]
  simp only [prop_lay.j0]
  rw [if_neg (by decide)]
  simp only [prop_lay.l0]
  rw [if_neg (by decide)]
  simp only [Option.bind_some, if_true]
  have e0 : (((⟨#[]⟩ : ByteArray).size : Nat) : Int) = 0 := rfl
  rw [e0, h2 _ (by omega)]
  simp only [Option.bind_some]
  rw [if_pos (by rw [numOf_size, show (0 : Int).toNat = 0 from rfl, vb_small (by decide)]; decide), h3 _ (by omega)]
  have e1 : (numOf 0 ++ (⟨#[]⟩ : ByteArray)).toList = [0] := by
    unfold numOf
    rw [show (0 : Int).toNat = 0 from rfl, vb_small (by decide)]
    decide +kernel
  simp only [Option.bind_some, num_id, e1, if_true]
  rfl
theorem kinds_loop (l : List S25) (hl : l.length * 48 ≤ 140737488351232) (d : Nat) : ∀ i : Int, -3 ≤ i → i ≤ 260 → (260 - i).toNat = d → Ev (fun k => fairwaylaw4_PropKinds.l0 k l i) true := by
  induction d with
  | zero =>
    intro i h0 h1 hd
    obtain ⟨K, hw⟩ := wakes_ev
    refine ⟨K + 2, fun k hk => ?_⟩
    obtain ⟨k, rfl⟩ : ∃ m, k = m + 1 := ⟨k - 1, by omega⟩
    dsimp only at hw ⊢
    simp only [fairwaylaw4_PropKinds.l0]
    rw [if_neg (by omega), hw k (by omega)]
    rfl
  | succ d ih =>
    intro i h0 h1 hd
    obtain ⟨K0, h2⟩ := ih (i + 1) (by omega) (by omega) (by omega)
    have two : ∀ id : Int, Ev (fun k => fairwaylaw4_PropKinds.j2 k l i id) true := by
      intro id
      obtain ⟨K1, g1⟩ := kind_ev id
      obtain ⟨K2, g2⟩ := refKind_ev id
      refine ⟨K0 + K1 + K2 + 2, fun k hk => ?_⟩
      obtain ⟨k, rfl⟩ : ∃ m, k = m + 1 := ⟨k - 1, by omega⟩
      dsimp only at h2 g1 g2 ⊢
      simp only [fairwaylaw4_PropKinds.j2]
      rw [g1 _ (by omega), g2 _ (by omega), w64 (by omega) (by omega)]
      have hr := kindOf_range id
      simp only [Option.bind_some, num_id, if_true]
      by_cases hz : kindOf id = 0
      · simp only [hz, if_true]
        rw [if_neg (by decide)]
        exact h2 k (by omega)
      · simp only [hz, if_false]
        rw [if_neg (by simp; omega)]
        exact h2 k (by omega)
    by_cases h250 : i ≥ 250
    · have e : wrap64 (i - 250) = i - 250 := w64 (by omega) (by omega)
      by_cases hlt : i - 250 < (l.length : Int)
      · obtain ⟨K, h⟩ := two (rd_T25 l (i - 250)).f0
        refine ⟨K + 2, fun k hk => ?_⟩
        obtain ⟨k, rfl⟩ : ∃ m, k = m + 2 := ⟨k - 2, by omega⟩
        dsimp only at h ⊢
        simp only [fairwaylaw4_PropKinds.l0, e]
        rw [if_pos (by omega), if_pos h250]
        simp only [fairwaylaw4_PropKinds.j1, e]
        rw [if_pos (by simpa using hlt)]
        clear e
        rw [if_pos (by omega), if_pos hlt]
        exact h k (by omega)
      · obtain ⟨K, h⟩ := two i
        refine ⟨K + 2, fun k hk => ?_⟩
        obtain ⟨k, rfl⟩ : ∃ m, k = m + 2 := ⟨k - 2, by omega⟩
        dsimp only at h ⊢
        simp only [fairwaylaw4_PropKinds.l0, e]
        rw [if_pos (by omega), if_pos h250]
        simp only [fairwaylaw4_PropKinds.j1, e]
        rw [if_neg (by simpa using hlt)]
        exact h k (by omega)
    · obtain ⟨K, h⟩ := two i
      refine ⟨K + 2, fun k hk => ?_⟩
      obtain ⟨k, rfl⟩ : ∃ m, k = m + 2 := ⟨k - 2, by omega⟩
      dsimp only at h ⊢
      simp only [fairwaylaw4_PropKinds.l0]
      rw [if_pos (by omega), if_neg h250]
      simp only [fairwaylaw4_PropKinds.j1]
      rw [if_neg (by decide)]
      exact h k (by omega)
theorem PropKinds_pure : PropKinds.Pure := fun l h => Ev.rounds (kinds_loop l (by have := h.1; omega) _ (-3) (by decide) (by decide) rfl)
end Go.Proofs.YtiancopplinpcaaDoor.P
