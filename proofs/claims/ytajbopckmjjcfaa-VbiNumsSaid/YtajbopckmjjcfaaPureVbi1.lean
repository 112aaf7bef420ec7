/- The statements VbiEdges and VbiTakes, told of the printed functions alone. -/
import Derived.Test.YtajbopckmjjcfaaPx1
import Derived.Test.YtajbopckmjjcfaaPx3
import Derived.Test.YtajbopckmjjcfaaPx5
import Derived.Test.YtajbopckmjjcfaaVbi
import Derived.Test.YtajbopckmjjcfaaDVbiEdges
import Derived.Test.YtajbopckmjjcfaaDVbiTakes
namespace Go.Proofs.Ytajbopckmjjcfaa.P
open Go.RowKit Go.Proofs.YtajbopckmjjcfaaW.PrintWords Go.Proofs.YtajbopckmjjcfaaW.PrintLast Go.Proofs.YtajbopckmjjcfaaW.PrintMore
set_option linter.unusedSimpArgs false

theorem num_id (e : Int) : fairwaylaw2_num.f e = some e := rfl
theorem wakes_ev : Ev (fun k => fairwaylaw2_wakes.f k) true := by
  obtain ⟨K, h⟩ := num_ok (n := 321) (by decide) (by decide)
  refine ⟨K, fun k hk => ?_⟩
  dsimp only at h ⊢
  unfold fairwaylaw2_wakes.f
  rw [h k hk]
  have e : (numOf 321).toList = [193, 2] := by
    unfold numOf
    rw [show (321 : Int).toNat = 321 from rfl, vb_big (by decide), vb_small (by decide)]
    decide +kernel
  simp [num_id, e]

theorem takes_loop (l : List S24) (d : Nat) : ∀ i : Nat, l.length - i = d → Ev (fun k => fairwaylaw2_VbiTakes.l0 k l (i : Int)) true := by
  induction d with
  | zero =>
    intro i hd
    obtain ⟨K, hw⟩ := wakes_ev
    refine ⟨K + 2, fun k hk => ?_⟩
    obtain ⟨k, rfl⟩ : ∃ m, k = m + 2 := ⟨k - 2, by omega⟩
    dsimp only at hw
    simp only [fairwaylaw2_VbiTakes.l0, fairwaylaw2_VbiTakes.j1]
    rw [if_neg (by omega), if_neg (by simp), hw k (by omega)]
    rfl
  | succ d ih =>
    intro i hd
    obtain ⟨K, hw⟩ := wakes_ev
    obtain ⟨K0, h0⟩ := ih (i + 1) (by omega)
    obtain ⟨K1, h1⟩ := take_ev (rd_T24 l i).f2
    obtain ⟨K2, h2⟩ := ref_take_ev (rd_T24 l i).f2
    obtain ⟨K3, h3⟩ := takeTwo_ev (rd_T24 l i).f2
    obtain ⟨K4, h4⟩ := ref_take2_ev (rd_T24 l i).f2
    obtain ⟨K5, h5⟩ := takeFour_ev (rd_T24 l i).f2
    obtain ⟨K6, h6⟩ := ref_take4_ev (rd_T24 l i).f2
    refine ⟨K + K0 + K1 + K2 + K3 + K4 + K5 + K6 + 4, fun k hk => ?_⟩
    obtain ⟨k, rfl⟩ : ∃ m, k = m + 4 := ⟨k - 4, by omega⟩
    have hl : i < l.length := by omega
    dsimp only at hw h0 h1 h2 h3 h4 h5 h6
    simp only [fairwaylaw2_VbiTakes.l0]
    rw [if_pos (by omega)]
    simp only [fairwaylaw2_VbiTakes.j1]
    by_cases h15 : (i : Int) < 15
    · rw [if_pos (by simpa using h15), if_pos (by omega), if_pos (by omega)]
      have hh : ∃ b, fairwaylaw2_heavy.f (rd_T24 l i).f0 (rd_T24 l i).f1 (rd_T24 l i).f2 = some b := by
        unfold fairwaylaw2_heavy.f; split <;> exact ⟨_, rfl⟩
      obtain ⟨b, hb⟩ := hh
      rw [hb]
      simp only [Option.bind_some]
      cases b with
      | true => rfl
      | false =>
        rw [if_neg (by decide), h1 _ (by omega), h2 _ (by omega)]
        simp only [Option.bind_some, if_true, num_id, bne_self_eq_false, fairwaylaw2_VbiTakes.j2]
        rw [if_neg (by decide), if_pos (by omega), if_pos (by omega), h3 _ (by omega), h4 _ (by omega)]
        have three : fairwaylaw2_VbiTakes.j3 (k + 1) l (i : Int) false = some true := by
          simp only [fairwaylaw2_VbiTakes.j3]
          rw [if_neg (by decide), if_pos (by omega), if_pos (by omega), h5 _ (by omega), h6 _ (by omega)]
          have e : wrap64 ((i : Int) + 1) = ((i + 1 : Nat) : Int) := by unfold wrap64; omega
          have h0' := h0 k (by omega)
          by_cases hs : ((rd_T24 l i).f2.size : Int) < 4
          · simp [hs, num_id, e]; exact h0'
          · simp [hs, num_id, e]; exact h0'
        by_cases hs : ((rd_T24 l i).f2.size : Int) < 2
        · simp [hs, num_id, three]
        · simp [hs, num_id, three]
    · rw [if_neg (by simpa using h15), hw _ (by omega)]
      rfl

theorem VbiTakes_pure : VbiTakes.Pure := fun l _ => Ev.rounds (takes_loop l l.length 0 (by omega))

theorem VbiEdges_pure : VbiEdges.Pure := by
  intro l _
  obtain ⟨K, hw⟩ := wakes_ev
  obtain ⟨Ka, ha⟩ := num_no (n := 268435456) (.inr (by decide))
  obtain ⟨Kb, hb⟩ := num_no (n := -1) (.inl (by decide))
  obtain ⟨K1, h1⟩ := take_ev ⟨#[255, 255, 255, 255]⟩
  obtain ⟨K2, h2⟩ := take_ev ⟨#[128, 0]⟩
  obtain ⟨K3, h3⟩ := take_ev ⟨#[255, 255, 255]⟩
  dsimp only at hw ha hb h1 h2 h3
  have e1 : tkn ⟨#[255, 255, 255, 255]⟩ = (0, 0, 8) := by decide +kernel
  have e2 : tkn ⟨#[128, 0]⟩ = (0, 0, 8) := by decide +kernel
  have e3 : tkn ⟨#[255, 255, 255]⟩ = (0, 0, 7) := by decide +kernel
  have n : ∀ (m : Int) (z : Nat), 0 ≤ m → m ≤ 268435455 → (vb m.toNat).length = z → ∃ K s, (∀ k, K ≤ k → vbi_Num.f k m = some (s, 0)) ∧ s.size = z := by
    intro m z h0 h1 hz
    obtain ⟨K, h⟩ := num_ok h0 h1
    refine ⟨K, numOf m, h, ?_⟩
    unfold numOf strOfNums
    simp [ByteArray.size, hz]
  have v1 : ∀ m : Nat, m < 128 → (vb m).length = 1 := fun m h => by rw [vb_small h]; rfl
  have v2 : ∀ m : Nat, 128 ≤ m → m < 16384 → (vb m).length = 2 := fun m h h' => by rw [vb_big h, List.length_cons, v1 _ (by omega)]
  have v3 : ∀ m : Nat, 16384 ≤ m → m < 2097152 → (vb m).length = 3 := fun m h h' => by rw [vb_big (by omega), List.length_cons, v2 _ (by omega) (by omega)]
  have v4 : ∀ m : Nat, 2097152 ≤ m → m < 268435456 → (vb m).length = 4 := fun m h h' => by rw [vb_big (by omega), List.length_cons, v3 _ (by omega) (by omega)]
  obtain ⟨L0, s0, g0, z0⟩ := n 0 1 (by decide) (by decide) (v1 _ (by decide))
  obtain ⟨L1, s1, g1, z1⟩ := n 127 1 (by decide) (by decide) (v1 _ (by decide))
  obtain ⟨L2, s2, g2, z2⟩ := n 128 2 (by decide) (by decide) (v2 _ (by decide) (by decide))
  obtain ⟨L3, s3, g3, z3⟩ := n 16383 2 (by decide) (by decide) (v2 _ (by decide) (by decide))
  obtain ⟨L4, s4, g4, z4⟩ := n 16384 3 (by decide) (by decide) (v3 _ (by decide) (by decide))
  obtain ⟨L5, s5, g5, z5⟩ := n 2097151 3 (by decide) (by decide) (v3 _ (by decide) (by decide))
  obtain ⟨L6, s6, g6, z6⟩ := n 2097152 4 (by decide) (by decide) (v4 _ (by decide) (by decide))
  obtain ⟨L7, s7, g7, z7⟩ := n 268435455 4 (by decide) (by decide) (v4 _ (by decide) (by decide))
  refine ⟨K + Ka + Kb + K1 + K2 + K3 + L0 + L1 + L2 + L3 + L4 + L5 + L6 + L7 + 9, ?_⟩
  generalize hk : K + Ka + Kb + K1 + K2 + K3 + L0 + L1 + L2 + L3 + L4 + L5 + L6 + L7 = k
  unfold fairwaylaw2_VbiEdges.f
  have r0 : rd [0, 127, 128, 16383, 16384, 2097151, 2097152, 268435455] 0 = 0 := rfl
  have go : ∀ (j : Nat) (i m z : Int) (s : ByteArray), i < 8 → 0 ≤ i → rd [0, 127, 128, 16383, 16384, 2097151, 2097152, 268435455] i = m → rd [1, 1, 2, 2, 3, 3, 4, 4] i = z → (s.size : Int) = z → vbi_Num.f j m = some (s, 0) →
      fairwaylaw2_VbiEdges.l0 (j + 1) l [0, 127, 128, 16383, 16384, 2097151, 2097152, 268435455] [1, 1, 2, 2, 3, 3, 4, 4] i = fairwaylaw2_VbiEdges.l0 j l [0, 127, 128, 16383, 16384, 2097151, 2097152, 268435455] [1, 1, 2, 2, 3, 3, 4, 4] (i + 1) := by
    intro j i m z s hi h0 hm hz hs hj
    simp only [fairwaylaw2_VbiEdges.l0]
    rw [if_pos (by simpa using hi), if_pos h0, hm, hj]
    simp only [Option.bind_some, num_id, if_true]
    rw [if_pos (by simpa using hi), hz, if_pos hs, w64 (by omega) (by omega)]
  rw [go (k + 8) 0 0 1 s0 (by decide) (by decide) rfl rfl (by omega) (g0 _ (by omega))]
  rw [go (k + 7) (0 + 1) 127 1 s1 (by decide) (by decide) rfl rfl (by omega) (g1 _ (by omega))]
  rw [go (k + 6) (0 + 1 + 1) 128 2 s2 (by decide) (by decide) rfl rfl (by omega) (g2 _ (by omega))]
  rw [go (k + 5) (0 + 1 + 1 + 1) 16383 2 s3 (by decide) (by decide) rfl rfl (by omega) (g3 _ (by omega))]
  rw [go (k + 4) (0 + 1 + 1 + 1 + 1) 16384 3 s4 (by decide) (by decide) rfl rfl (by omega) (g4 _ (by omega))]
  rw [go (k + 3) (0 + 1 + 1 + 1 + 1 + 1) 2097151 3 s5 (by decide) (by decide) rfl rfl (by omega) (g5 _ (by omega))]
  rw [go (k + 2) (0 + 1 + 1 + 1 + 1 + 1 + 1) 2097152 4 s6 (by decide) (by decide) rfl rfl (by omega) (g6 _ (by omega))]
  rw [go (k + 1) (0 + 1 + 1 + 1 + 1 + 1 + 1 + 1) 268435455 4 s7 (by decide) (by decide) rfl rfl (by omega) (g7 _ (by omega))]
  simp only [fairwaylaw2_VbiEdges.l0]
  rw [if_neg (by decide), ha _ (by omega), hb _ (by omega), h1 _ (by omega), h2 _ (by omega), h3 _ (by omega), e1, e2, e3]
  simp only [Option.bind_some, num_id, if_true]
  rw [if_pos (Int.natCast_nonneg _), hw _ (by omega)]
  rfl
end Go.Proofs.Ytajbopckmjjcfaa.P
