/- The statements VbiTexts and VbiBins, told of the printed functions alone. -/
import Derived.Test.YtajbopckmjjcfaaDoorPx1
import Derived.Test.YtajbopckmjjcfaaDoorPx5
import Derived.Test.YtajbopckmjjcfaaDoorPx6
import Derived.Test.YtajbopckmjjcfaaDoorTxt
import Derived.Test.YtajbopckmjjcfaaDoorDVbiTexts
import Derived.Test.YtajbopckmjjcfaaDoorDVbiBins
namespace Go.Proofs.YtajbopckmjjcfaaDoor.P
open Go.RowKit Go.Proofs.YtajbopckmjjcfaaDoorW.PrintWords Go.Proofs.YtajbopckmjjcfaaDoorW.PrintLast Go.Proofs.YtajbopckmjjcfaaDoorW.PrintMore
set_option linter.unusedSimpArgs false
set_option linter.unusedVariables false

theorem num_id (e : Int) : fairwaylaw2_num.f e = some e := rfl
theorem wakes_ev : Ev (fun k => fairwaylaw2_wakes.f k) true := by
  obtain ⟨K, h⟩ := num_ok (n := 321) (by decide) (by decide)
  refine ⟨K, fun k hk => ?_⟩
  dsimp only at h ⊢
  unfold fairwaylaw2_wakes.f
  rw [h k hk]
  have e : (numOf 321).toList = [193, 2] := by
    unfold numOf
    rw [show (321 : Int).toNat = 321 from rfl, vb_big (by decide), vb_small (by decide)]
    decide +kernel
  simp [num_id, e]
theorem long_loop (l : List S27) (text : Bool) (d : Nat) : ∀ i : Nat, l.length - i = d → Ev (fun k => fairwaylaw2_long.l0 k l text (i : Int)) true := by
  induction d with
  | zero =>
    intro i hd
    obtain ⟨K, hw⟩ := wakes_ev
    refine ⟨K + 2, fun k hk => ?_⟩
    obtain ⟨k, rfl⟩ : ∃ m, k = m + 2 := ⟨k - 2, by omega⟩
    dsimp only at hw ⊢
    simp only [fairwaylaw2_long.l0, fairwaylaw2_long.j1]
    rw [if_neg (by omega), if_neg (by simp), hw k (by omega)]
    rfl
  | succ d ih =>
    intro i hd
    obtain ⟨K0, h0⟩ := ih (i + 1) (by omega)
    have hl : i < l.length := by omega
    generalize hs : (rd_T27 l i).f1 = s
    generalize hx : (rd_T27 l i).f2 = x
    dsimp only at h0
    by_cases h15 : (i : Int) < 15
    · by_cases hv : 3000 < s.size ∨ 3000 < x.size
      · have hh : fairwaylaw2_heavy.f (rd_T27 l i).f0 s x = some true := by
          unfold fairwaylaw2_heavy.f
          by_cases h1 : (s.size : Int) > 3000
          · rw [if_pos h1]
          · rw [if_neg h1]; simp; omega
        refine ⟨2, fun k hk => ?_⟩
        obtain ⟨k, rfl⟩ : ∃ m, k = m + 2 := ⟨k - 2, by omega⟩
        dsimp only
        simp only [fairwaylaw2_long.l0]
        rw [if_pos (by omega)]
        simp only [fairwaylaw2_long.j1]
        rw [if_pos (by simpa using h15), if_pos (by omega), if_pos (by omega), hs, hx, hh]
        rfl
      · have hh : fairwaylaw2_heavy.f (rd_T27 l i).f0 s x = some false := by
          unfold fairwaylaw2_heavy.f
          rw [if_neg (by omega)]
          simp; omega
        obtain ⟨K1, h1⟩ := long_ev s text (by omega)
        obtain ⟨K2, h2⟩ := takeLong_ev x text (by omega)
        obtain ⟨K3, h3⟩ := vtext_ev s
        obtain ⟨K4, h4⟩ := vtakeText_ev x (by omega)
        obtain ⟨K5, h5⟩ := bin_ev s
        obtain ⟨K6, h6⟩ := takeBin_ev x (by omega)
        dsimp only at h1 h2 h3 h4 h5 h6
        refine ⟨K0 + K1 + K2 + K3 + K4 + K5 + K6 + 4, fun k hk => ?_⟩
        obtain ⟨k, rfl⟩ : ∃ m, k = m + 3 := ⟨k - 3, by omega⟩
        have e1 : wrap64 ((i : Int) + 1) = ((i + 1 : Nat) : Int) := by unfold wrap64; omega
        have hend := h0 k (by omega)
        rw [← e1] at hend
        clear e1
        dsimp only
        simp only [fairwaylaw2_long.l0]
        rw [if_pos (by omega)]
        simp only [fairwaylaw2_long.j1]
        rw [if_pos (by simpa using h15), if_pos (by omega), if_pos (by omega), hs, hx, hh]
        simp only [Option.bind_some]
        rw [if_neg (by decide), h1 _ (by omega), h2 _ (by omega), h3 _ (by omega), h4 _ (by omega)]
        cases text with
        | true =>
          simp only [Option.bind_some, if_true, fairwaylaw2_long.j2, num_id]
          exact hend
        | false =>
          simp only [Option.bind_some, if_false, Bool.false_eq_true]
          rw [h5 _ (by omega), h6 _ (by omega)]
          have eb : (if (s.size : Int) > 1024 then ((⟨#[]⟩ : ByteArray), (2 : Int)) else (two s.size ++ s, 0)) = longT s false := by
            unfold longT; simp
          have et : takeT x false = tbin x := by unfold takeT; simp
          rw [eb, et]
          simp only [Option.bind_some, if_true, fairwaylaw2_long.j2, num_id, Bool.false_eq_true, if_false]
          exact hend
    · obtain ⟨K, hw⟩ := wakes_ev
      refine ⟨K + 2, fun k hk => ?_⟩
      obtain ⟨k, rfl⟩ : ∃ m, k = m + 2 := ⟨k - 2, by omega⟩
      dsimp only at hw ⊢
      simp only [fairwaylaw2_long.l0]
      rw [if_pos (by omega)]
      simp only [fairwaylaw2_long.j1]
      rw [if_neg (by simpa using h15), hw k (by omega)]
      rfl
theorem VbiTexts_pure : VbiTexts.Pure := fun l _ => by
  obtain ⟨k, h⟩ := Ev.rounds (long_loop l true l.length 0 (by omega))
  exact ⟨k, by unfold fairwaylaw2_VbiTexts.f fairwaylaw2_long.f; rw [show (0 : Int) = ((0 : Nat) : Int) from rfl, h]; rfl⟩
theorem VbiBins_pure : VbiBins.Pure := fun l _ => by
  obtain ⟨k, h⟩ := Ev.rounds (long_loop l false l.length 0 (by omega))
  exact ⟨k, by unfold fairwaylaw2_VbiBins.f fairwaylaw2_long.f; rw [show (0 : Int) = ((0 : Nat) : Int) from rfl, h]; rfl⟩
end Go.Proofs.YtajbopckmjjcfaaDoor.P
