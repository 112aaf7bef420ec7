/- What is written as a number, or as bytes behind their length, is taken back: told of lists of bytes. -/
import Derived.Test.YtiancopplinpcaaDoorVbi
namespace Go.Proofs.YtiancopplinpcaaDoor.P
open Go.RowKit Go.Proofs.YtiancopplinpcaaDoorW.PrintWords Go.Proofs.YtiancopplinpcaaDoorW.PrintLast Go.Proofs.YtiancopplinpcaaDoorW.PrintMore
set_option linter.unusedSimpArgs false
set_option linter.unusedVariables false

/-! ### bytes as lists -/
theorem data_app (a b : ByteArray) : (a ++ b).data.toList = a.data.toList ++ b.data.toList := by simp
theorem bytesOf_app (a b : ByteArray) : bytesOf (a ++ b) = bytesOf a ++ bytesOf b := by simp [bytesOf]
theorem bytesOf_range (s : ByteArray) : ∀ c ∈ bytesOf s, 0 ≤ c ∧ c < 256 := by
  intro c hc
  simp only [bytesOf, List.mem_map] at hc
  obtain ⟨b, _, rfl⟩ := hc
  have := b.toNat_lt
  omega
theorem bytesOf_str {l : List Int} (h : ∀ c ∈ l, 0 ≤ c ∧ c < 256) : bytesOf (strOfNums l) = l := by
  simp only [bytesOf, strOfNums, List.map_map]
  conv => rhs; rw [← List.map_id l]
  refine List.map_congr_left fun c hc => ?_
  obtain ⟨h0, h1⟩ := h c hc
  simp only [Function.comp]
  rw [UInt8.toNat_ofNat_of_lt' (by show c.toNat < 256; omega)]
  simp; omega
theorem bytesOf_inj {a b : ByteArray} (h : bytesOf a = bytesOf b) : a = b := by
  have : a.data.toList = b.data.toList := by
    exact (List.map_inj_right (fun x y hxy => UInt8.toNat_inj.1 (by exact_mod_cast hxy))).1 h
  cases a; cases b
  simp only [ByteArray.mk.injEq]
  exact Array.toList_inj.1 this
theorem bytesOf_extract (s : ByteArray) (i j : Nat) : bytesOf (s.extract i j) = (bytesOf s).extract i j := by
  simp [bytesOf, List.extract_eq_take_drop, List.map_take, List.map_drop]
theorem bytesOf_len (s : ByteArray) : (bytesOf s).length = s.size := bytesOf_length s
theorem bt_list (s : ByteArray) (i : Nat) (h : i < s.size) : bt s i = (bytesOf s)[i]'(by rw [bytesOf_len]; exact h) := by
  rw [← rd_bytesOf]
  simp [rd, bytesOf_len, h]
theorem bytesOf_eq_str (s : ByteArray) : strOfNums (bytesOf s) = s := bytesOf_inj (bytesOf_str (bytesOf_range s))

/-! ### numbers in seven bits -/
theorem vb_range (n : Nat) : ∀ c ∈ vb n, 0 ≤ c ∧ c < 256 := by
  induction n using Nat.strongRecOn with
  | _ n ih =>
    by_cases h : n < 128
    · rw [vb_small h]; intro c hc; simp at hc; omega
    · rw [vb_big (by omega)]
      intro c hc
      rcases List.mem_cons.1 hc with rfl | hc
      · omega
      · exact ih (n / 128) (by omega) c hc
theorem vb_pos (n : Nat) : 0 < (vb n).length := by rw [vb]; split <;> simp
theorem vb_len {d : Nat} : ∀ {n : Nat}, n < 128 ^ d → 0 < d → (vb n).length ≤ d := by
  induction d with
  | zero => intro n _ h; omega
  | succ d ih =>
    intro n hn _
    by_cases h : n < 128
    · rw [vb_small h]; simp
    · rw [vb_big (by omega), List.length_cons]
      have hd : 0 < d := by
        rcases Nat.eq_zero_or_pos d with rfl | hd
        · simp at hn; omega
        · exact hd
      have := ih (n := n / 128) (by rw [Nat.pow_succ] at hn; omega) hd
      omega
/-- The number that a list of bytes begins with. -/
def tl : Nat → Nat → Int → List Int → Int × Int × Int
  | 0, _, _, _ => (0, 0, 8)
  | _ + 1, _, _, [] => (0, 0, 7)
  | d + 1, i, n, c :: r => if 128 ≤ c then tl d (i + 1) (n + c % 128 * 2 ^ (7 * i)) r else if c = 0 ∧ 0 < i then (0, 0, 8) else (n + c % 128 * 2 ^ (7 * i), ((i + 1 : Nat) : Int), 0)
theorem tk_list (s : ByteArray) (d : Nat) : ∀ (i : Nat) (n : Int), tk s d i n = tl d i n ((bytesOf s).drop i) := by
  induction d with
  | zero => intro i n; rfl
  | succ d ih =>
    intro i n
    by_cases h : s.size ≤ i
    · rw [List.drop_of_length_le (by rw [bytesOf_len]; exact h)]
      simp only [tk, tl, h, if_true]
    · have hi : i < (bytesOf s).length := by rw [bytesOf_len]; omega
      rw [List.drop_eq_getElem_cons hi]
      simp only [tk, tl]
      rw [if_neg h, ← bt_list s i (by omega), ih]
theorem tkn_list (s : ByteArray) : tkn s = tl 4 0 0 (bytesOf s) := by rw [tkn, tk_list, List.drop_zero]

theorem pow7 (i : Nat) : (2 : Int) ^ (7 * (i + 1)) = 128 * 2 ^ (7 * i) := by
  rw [Nat.mul_add, Int.pow_add, Int.mul_comm]; rfl
/-- What was written is taken, whatever stands behind it. -/
theorem tl_back (r : List Int) (d : Nat) : ∀ (i : Nat) (a : Int) (m : Nat), (vb m).length ≤ d → (0 < m ∨ i = 0) → tl d i a (vb m ++ r) = (a + m * 2 ^ (7 * i), ((i + (vb m).length : Nat) : Int), 0) := by
  induction d with
  | zero => intro i a m h _; have := vb_pos m; omega
  | succ d ih =>
    intro i a m hl hm
    by_cases h : m < 128
    · rw [vb_small h]
      simp only [List.cons_append, List.nil_append, tl]
      rw [if_neg (by omega), if_neg (by omega), show (m : Int) % 128 = m by omega]
      rfl
    · rw [vb_big (by omega)] at hl ⊢
      simp only [List.cons_append, tl, List.length_cons] at hl ⊢
      rw [if_pos (by omega), ih (i + 1) _ (m / 128) (by omega) (.inl (by omega)), pow7]
      have e : (((m % 128 + 128 : Nat) : Int)) % 128 = ((m % 128 : Nat) : Int) := by omega
      have e2 : (m : Int) = 128 * ((m / 128 : Nat) : Int) + ((m % 128 : Nat) : Int) := by omega
      rw [e]
      refine Prod.ext ?_ (Prod.ext ?_ rfl)
      · simp only
        rw [e2]
        generalize (2 : Int) ^ (7 * i) = p
        generalize ((m / 128 : Nat) : Int) = x
        generalize ((m % 128 : Nat) : Int) = y
        grind
      · simp only; omega
/-- Cut off anywhere it is cut off. -/
theorem tl_cut (d : Nat) : ∀ (i : Nat) (a : Int) (l : List Int), (∀ c ∈ l, 128 ≤ c) → l.length < d → tl d i a l = (0, 0, 7) := by
  induction d with
  | zero => intro i a l _ h; omega
  | succ d ih =>
    intro i a l hl hd
    cases l with
    | nil => rfl
    | cons c r =>
      simp only [tl]
      rw [if_pos (hl c List.mem_cons_self)]
      exact ih _ _ r (fun x hx => hl x (List.mem_cons_of_mem _ hx)) (by simp at hd; omega)
theorem vb_take (n : Nat) : ∀ j, j < (vb n).length → ∀ c ∈ (vb n).take j, 128 ≤ c := by
  induction n using Nat.strongRecOn with
  | _ n ih =>
    intro j hj c hc
    by_cases h : n < 128
    · rw [vb_small h] at hj hc; simp at hj; subst hj; simp at hc
    · rw [vb_big (by omega)] at hj hc
      cases j with
      | zero => simp at hc
      | succ j =>
        rw [List.take_succ_cons] at hc
        rcases List.mem_cons.1 hc with rfl | hc
        · omega
        · exact ih (n / 128) (by omega) j (by simp at hj; omega) c hc
/-- What is taken was written so. -/
theorem tl_was (d : Nat) : ∀ (i : Nat) (a : Int) (l : List Int) (m k : Int), (∀ c ∈ l, 0 ≤ c ∧ c < 256) → tl d i a l = (m, k, 0) →
    ∃ (q : Nat) (r : List Int), l = vb q ++ r ∧ m = a + q * 2 ^ (7 * i) ∧ k = ((i + (vb q).length : Nat) : Int) ∧ q < 128 ^ d ∧ (0 < q ∨ i = 0) := by
  induction d with
  | zero => intro i a l m k _ h; simp [tl] at h
  | succ d ih =>
    intro i a l m k hl h
    cases l with
    | nil => simp [tl] at h
    | cons c r =>
      obtain ⟨h0, h1⟩ := hl c List.mem_cons_self
      simp only [tl] at h
      have hp : 0 < 128 ^ d := Nat.pow_pos (by decide)
      by_cases hc : 128 ≤ c
      · rw [if_pos hc] at h
        obtain ⟨q, r', hr, hm, hk, hq, hz⟩ := ih (i + 1) _ r m k (fun x hx => hl x (List.mem_cons_of_mem _ hx)) h
        have hq0 : 0 < q := by omega
        have hb : vb (128 * q + (c % 128).toNat) = c :: vb q := by
          rw [vb_big (by omega)]
          congr 1
          · omega
          · congr 1; omega
        refine ⟨128 * q + (c % 128).toNat, r', by rw [hb, hr]; rfl, ?_, by rw [hb, hk]; simp; omega, by rw [Nat.pow_succ]; omega, .inl (by omega)⟩
        rw [hm, pow7]
        have e : ((128 * q + (c % 128).toNat : Nat) : Int) = 128 * (q : Int) + c % 128 := by omega
        rw [e]
        generalize (2 : Int) ^ (7 * i) = p
        generalize c % 128 = y
        grind
      · rw [if_neg hc] at h
        by_cases hz : c = 0 ∧ 0 < i
        · rw [if_pos hz] at h; simp at h
        · rw [if_neg hz] at h
          simp only [Prod.mk.injEq] at h
          obtain ⟨rfl, rfl, _⟩ := h
          have hv : vb c.toNat = [c] := by rw [vb_small (by omega)]; simp; omega
          refine ⟨c.toNat, r, by rw [hv]; rfl, ?_, by rw [hv]; rfl, by rw [Nat.pow_succ]; omega, by omega⟩
          have e : ((c.toNat : Nat) : Int) = c % 128 := by omega
          rw [e]
theorem bytesOf_num (n : Int) : bytesOf (numOf n) = vb n.toNat := bytesOf_str (vb_range _)
theorem numOf_size (n : Int) : (numOf n).size = (vb n.toNat).length := by rw [← bytesOf_len, bytesOf_num]
theorem tkn_back {n : Int} (h0 : 0 ≤ n) (h1 : n ≤ 268435455) (x : ByteArray) : tkn (numOf n ++ x) = (n, ((numOf n).size : Int), 0) := by
  rw [tkn_list, bytesOf_app, bytesOf_num, tl_back _ 4 0 0 n.toNat (vb_len (by omega) (by decide)) (.inr rfl), numOf_size]
  simp; omega
theorem tkn_cut {n : Int} (h0 : 0 ≤ n) (h1 : n ≤ 268435455) (j : Nat) (hj : j < (numOf n).size) : tkn ((numOf n).extract 0 j) = (0, 0, 7) := by
  have hl : (vb n.toNat).length ≤ 4 := vb_len (by omega) (by decide)
  rw [numOf_size] at hj
  rw [tkn_list, bytesOf_extract, bytesOf_num, List.extract_eq_take_drop, List.drop_zero, Nat.sub_zero]
  refine tl_cut 4 0 0 _ (vb_take _ j hj) ?_
  rw [List.length_take]; omega
theorem tkn_was {x : ByteArray} {m k : Int} (h : tkn x = (m, k, 0)) : 0 ≤ m ∧ m ≤ 268435455 ∧ 0 ≤ k ∧ k ≤ x.size ∧ numOf m = x.extract 0 k.toNat ∧ k = (numOf m).size := by
  rw [tkn_list] at h
  obtain ⟨q, r, hl, hm, hk, hq, _⟩ := tl_was 4 0 0 _ m k (bytesOf_range x) h
  have hm' : m = q := by simp at hm; exact hm
  subst hm'
  have hlen : (bytesOf x).length = (vb q).length + r.length := by rw [hl, List.length_append]
  rw [bytesOf_len] at hlen
  refine ⟨by omega, by omega, by omega, by omega, bytesOf_inj ?_, ?_⟩
  · rw [bytesOf_num, bytesOf_extract, hl, List.extract_eq_take_drop, List.drop_zero, Nat.sub_zero, hk]
    simp
  · rw [numOf_size, hk]; simp

/-! ### bytes behind their length -/
theorem bytesOf_two {n : Int} : bytesOf (two n) = [n / 256 % 256, n % 256] := bytesOf_str (by
  intro c hc
  simp only [List.mem_cons, List.not_mem_nil, or_false] at hc
  omega)
theorem two_size (n : Int) : (two n).size = 2 := by rw [← bytesOf_len, bytesOf_two]; rfl
theorem val2_app {n : Int} (h0 : 0 ≤ n) (h1 : n ≤ 65535) (x : ByteArray) : val2 (two n ++ x) = n := by
  have hs : (two n ++ x).size = 2 + x.size := by rw [← bytesOf_len, bytesOf_app, List.length_append, bytesOf_len, bytesOf_len, two_size]
  have a0 := bt_list (two n ++ x) 0 (by omega)
  have a1 := bt_list (two n ++ x) 1 (by omega)
  simp only [bytesOf_app, bytesOf_two, List.cons_append, List.nil_append, List.getElem_cons_zero, List.getElem_cons_succ] at a0 a1
  unfold val2
  rw [show ((0 : Nat) : Int) = 0 from rfl] at a0
  rw [show ((1 : Nat) : Int) = 1 from rfl] at a1
  rw [a0, a1]
  omega
theorem app_size (a b : ByteArray) : (a ++ b).size = a.size + b.size := by rw [← bytesOf_len, bytesOf_app, List.length_append, bytesOf_len, bytesOf_len]
theorem extract_size (a : ByteArray) {i j : Nat} (hij : i ≤ j) (hj : j ≤ a.size) : (a.extract i j).size = j - i := by
  rw [← bytesOf_len, bytesOf_extract, List.extract_eq_take_drop, List.length_take, List.length_drop, bytesOf_len]; omega
theorem extract_app_left (a b : ByteArray) {j : Nat} (hj : j ≤ a.size) : (a ++ b).extract 0 j = a.extract 0 j := bytesOf_inj (by
  simp only [bytesOf_extract, bytesOf_app, List.extract_eq_take_drop, List.drop_zero]
  rw [List.take_append_of_le_length (by rw [bytesOf_len]; omega)])
theorem extract_mid (a b c : ByteArray) : ((a ++ b) ++ c).extract a.size (a.size + b.size) = b := bytesOf_inj (by
  simp only [bytesOf_extract, bytesOf_app, List.extract_eq_take_drop]
  rw [List.append_assoc, ← bytesOf_len a, List.drop_left, Nat.add_sub_cancel_left, ← bytesOf_len b, List.take_left])
theorem extract_all (a : ByteArray) : a.extract 0 a.size = a := bytesOf_inj (by
  rw [bytesOf_extract, List.extract_eq_take_drop, List.drop_zero, Nat.sub_zero, ← bytesOf_len, List.take_length])

/-- Bytes behind their length: what Bin tells. -/
theorem bin_ev (s : ByteArray) : Ev (fun k => vbi_Bin.f k s) (if (s.size : Int) > 1024 then ((⟨#[]⟩ : ByteArray), 2) else (two s.size ++ s, 0)) := by
  obtain ⟨K, h⟩ := two_ev (s.size : Int)
  refine ⟨K, fun k hk => ?_⟩
  dsimp only at h ⊢
  unfold vbi_Bin.f
  by_cases hs : (s.size : Int) > 1024
  · rw [if_pos hs, if_pos hs]
  · rw [if_neg hs, if_neg hs, h k hk, if_pos (by omega)]
    simp only [Option.bind_some]
    rw [if_pos (by rw [two_size]; omega)]
/-- The bytes behind their length at the front: how many bytes, the error. -/
def tbin (s : ByteArray) : ByteArray × Int × Int :=
  if (s.size : Int) < 2 then ((⟨#[]⟩ : ByteArray), 0, 7) else if val2 s > 1024 then ((⟨#[]⟩ : ByteArray), 0, 2) else if (s.size : Int) - 2 < val2 s then ((⟨#[]⟩ : ByteArray), 0, 7) else (s.extract 2 (2 + val2 s).toNat, 2 + val2 s, 0)
theorem val2_range (s : ByteArray) : 0 ≤ val2 s ∧ val2 s ≤ 65535 := by
  have := bt_range s 0; have := bt_range s 1; unfold val2; omega
theorem takeBin_ev (s : ByteArray) (hs : s.size ≤ 9223372036854775807) : Ev (fun k => vbi_TakeBin.f k s) (tbin s) := by
  obtain ⟨K, h⟩ := takeTwo_ev s
  refine ⟨K, fun k hk => ?_⟩
  dsimp only at h ⊢
  unfold vbi_TakeBin.f tbin
  rw [h k hk]
  simp only [Option.bind_some]
  by_cases h2 : (s.size : Int) < 2
  · rw [if_pos h2, if_pos h2]; rfl
  · obtain ⟨v0, v1⟩ := val2_range s
    rw [if_neg h2, if_neg h2]
    simp only [if_true]
    rw [w64 (n := (s.size : Int) - 2) (by omega) (by omega), w64 (n := 2 + val2 s) (by omega) (by omega)]
    by_cases h3 : val2 s > 1024
    · rw [if_pos h3, if_pos h3]
    · rw [if_neg h3, if_neg h3]
      by_cases h4 : (s.size : Int) - 2 < val2 s
      · rw [if_pos h4, if_pos h4]
      · rw [if_neg h4, if_neg h4, if_pos (by omega), if_pos (by omega)]
theorem tbin_back {s : ByteArray} (hs : ¬ (s.size : Int) > 1024) (x : ByteArray) : tbin (two s.size ++ s ++ x) = (s, ((two s.size ++ s).size : Int), 0) := by
  have hv : val2 (two s.size ++ s ++ x) = s.size := by
    have := val2_app (n := (s.size : Int)) (by omega) (by omega) (s ++ x)
    rwa [← ByteArray.append_assoc] at this
  have hz := two_size (s.size : Int)
  unfold tbin
  rw [if_neg (by rw [app_size, app_size, hz]; omega), hv, if_neg hs, if_neg (by rw [app_size, app_size, hz]; omega)]
  refine Prod.ext ?_ (Prod.ext ?_ rfl)
  · show (two s.size ++ s ++ x).extract 2 (2 + (s.size : Int)).toNat = s
    have := extract_mid (two s.size) s x
    rw [hz] at this
    rw [show (2 + (s.size : Int)).toNat = 2 + s.size by omega]
    exact this
  · show 2 + (s.size : Int) = (((two s.size ++ s).size : Nat) : Int)
    rw [app_size, hz]; omega
theorem tbin_cut {s : ByteArray} (hs : ¬ (s.size : Int) > 1024) (j : Nat) (hj : j < 2 + s.size) : tbin ((two s.size ++ s).extract 0 j) = ((⟨#[]⟩ : ByteArray), 0, 7) := by
  have hz := two_size (s.size : Int)
  have hsz : ((two s.size ++ s).extract 0 j).size = j := by rw [extract_size _ (by omega) (by rw [app_size, hz]; omega)]; omega
  unfold tbin
  by_cases h2 : (((two s.size ++ s).extract 0 j).size : Int) < 2
  · rw [if_pos h2]
  · have hv : val2 ((two s.size ++ s).extract 0 j) = s.size := by
      have e : (two s.size ++ s).extract 0 j = two s.size ++ s.extract 0 (j - 2) := bytesOf_inj (by
        simp only [bytesOf_extract, bytesOf_app, bytesOf_two, List.extract_eq_take_drop, List.drop_zero, Nat.sub_zero]
        obtain ⟨j', rfl⟩ : ∃ j', j = j' + 2 := ⟨j - 2, by omega⟩
        simp)
      rw [e]
      exact val2_app (by omega) (by omega) _
    rw [if_neg h2, hv, if_neg hs, if_pos (by omega)]
end Go.Proofs.YtiancopplinpcaaDoor.P
