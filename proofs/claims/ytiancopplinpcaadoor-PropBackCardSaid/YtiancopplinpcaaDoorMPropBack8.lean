/- The statement PropBack: for every input the law answers true, and its argument reads behind the call as it did (part 9 of 11 of the proof). -/
import Derived.Test.YtiancopplinpcaaDoorMPropBack7
section
theorem zz8 {p : Prop} (h : p := by repeat (first | (with_reducible first | exact HB.out | apply below_alloc | apply pw_below_drewN | apply below_drew1 | refine below_set ?_ GE508.out) | exact HB.out)) : p := h
theorem zz16 {p : Prop} (h : p := by (with_reducible repeat (first | refine blk_drewN ?_ _ | refine blk_drew ?_ | refine blk_alloc ?_ _)); exact BK508.out) : p := h
theorem zz18 {p : Prop} (h : p := by (with_reducible repeat (first | apply Kd.R_alloc | apply Kd.R_drewN | apply Kd.R_drew)); exact HO530.out) : p := h
namespace Go.Proofs.YtiancopplinpcaaDoor.P
open Go.RowKit Go.Proofs.YtiancopplinpcaaDoorW.PrintWords Go.Proofs.YtiancopplinpcaaDoorW.PrintLast Go.Proofs.YtiancopplinpcaaDoorW.PrintMore
set_option linter.unusedSimpArgs false
set_option linter.unusedVariables false
theorem bytes_of_list {a b : ByteArray} (h : a.toList = b.toList) : a = b := by
  rw [ByteArray.toList_eq, ByteArray.toList_eq] at h
  exact ByteArray.ext (Array.toList_inj.mp h)
theorem empty_of {a : ByteArray} (h : a.toList = []) : a = (⟨#[]⟩ : ByteArray) := bytes_of_list (h.trans eB_list'.symm)
theorem app_drop (a b : ByteArray) : (a ++ b).extract a.size (a ++ b).size = b := bytesOf_inj (by
  simp only [bytesOf_extract, bytesOf_app, List.extract_eq_take_drop]
  rw [← bytesOf_len a, List.drop_left, app_size, ← bytesOf_len a, Nat.add_sub_cancel_left, ← bytesOf_len b, List.take_length])
theorem bt_app (a b : ByteArray) (i : Nat) (h : i < a.size) : bt (a ++ b) (i : Int) = bt a (i : Int) := by
  rw [bt_list _ i (by rw [app_size]; omega), bt_list _ i h]
  simp only [bytesOf_app]
  rw [List.getElem_append_left]
theorem bt_str (l : List Int) (hl : ∀ c ∈ l, 0 ≤ c ∧ c < 256) (i : Nat) (h : i < l.length) : bt (strOfNums l) (i : Int) = l[i] := by
  rw [bt_list _ i (by rw [str_size]; exact h)]
  simp only [bytesOf_str hl]
theorem bytesOf_four {n : Int} : bytesOf (four n) = [n / 16777216 % 256, n / 65536 % 256, n / 256 % 256, n % 256] := bytesOf_str (by
  intro c hc
  simp only [List.mem_cons, List.not_mem_nil, or_false] at hc
  rcases hc with rfl | rfl | rfl | rfl <;> omega)
theorem four_size (n : Int) : (four n).size = 4 := by rw [← bytesOf_len, bytesOf_four]; rfl
theorem val4_app {n : Int} (h0 : 0 ≤ n) (h1 : n ≤ 4294967295) (x : ByteArray) : val4 (four n ++ x) = n := by
  have hz := four_size n
  have e : ∀ (i : Nat) (h : i < 4), bt (four n ++ x) (i : Int) = ([n / 16777216 % 256, n / 65536 % 256, n / 256 % 256, n % 256] : List Int)[i] := by
    intro i h
    rw [bt_app _ _ i (by omega), bt_list _ i (by omega)]
    simp only [bytesOf_four]
  have e0 := e 0 (by omega)
  have e1 := e 1 (by omega)
  have e2 := e 2 (by omega)
  have e3 := e 3 (by omega)
  simp only [List.getElem_cons_zero, List.getElem_cons_succ] at e0 e1 e2 e3
  unfold val4
  rw [show (0 : Int) = ((0 : Nat) : Int) from rfl, show (1 : Int) = ((1 : Nat) : Int) from rfl, show (2 : Int) = ((2 : Nat) : Int) from rfl, show (3 : Int) = ((3 : Nat) : Int) from rfl, e0, e1, e2, e3]
  omega
theorem takeT_back {s : ByteArray} (hs : checkT s = 0) (x : ByteArray) : takeT (two s.size ++ s ++ x) true = (s, ((two s.size ++ s).size : Int), 0) := by
  have h := tbin_back (check_small hs) x
  unfold takeT
  rw [h]
  simp only [if_true, hs]
theorem read_back {id n : Int} {s v : ByteArray} (ok : okP id n s v = true) (r : ByteArray) (hr : r.size ≤ 60000) :
    ∃ w, prop_read.fL (kindOf id) (bodyP id n s v ++ r) = some (w, ((bodyP id n s v).size : Int), 0) ∧ prop_with.f id w = some (id, n, s, v) := by
  have hb := body_size ok
  have hc := kind_cases id
  have ok' := ok
  unfold okP at ok
  rcases hc with h | h | h | h | h | h | h | h
  · simp [h] at ok
  · simp [h, mostK] at ok
    obtain ⟨q1, q2, q3, q4, q5⟩ := ok
    have bd : bodyP id n s v = strOfNums [n % 256] := by simp [bodyP, h]
    rw [bd, h, empty_of q4, empty_of q5]
    have hz : (strOfNums [n % 256]).size = 1 := str_size _
    have hb0 : bt (strOfNums [n % 256] ++ r) 0 = n := by
      have e := bt_app (strOfNums [n % 256]) r 0 (by omega)
      have e' := bt_str [n % 256] (by intro c hc; simp at hc; omega) 0 (by simp)
      simp only [List.getElem_cons_zero] at e'
      rw [show (0 : Int) = ((0 : Nat) : Int) from rfl, e, e']
      omega
    refine ⟨.num n, ?_, rfl⟩
    rw [prop_read.fL_eq, if_pos rfl, if_neg (by rw [size_list, app_size]; omega), if_pos (by rw [app_size]; omega), w64bt, hb0, hz]
    rfl
  · simp [h, mostK] at ok
    obtain ⟨q1, q2, q3, q4, q5⟩ := ok
    have bd : bodyP id n s v = two n := by simp [bodyP, h]
    have hz := two_size n
    rw [bd, h, empty_of q4, empty_of q5]
    refine ⟨.num n, ?_, rfl⟩
    rw [prop_read.fL_eq, if_neg (by decide), if_pos rfl, show vbi_TakeTwo.fL (two n ++ r) = _ from lim_of (takeTwo_ev _), if_neg (by rw [app_size]; omega), val2_app q2 q3, hz]
    rfl
  · simp [h, mostK] at ok
    obtain ⟨q1, q2, q3, q4, q5⟩ := ok
    have bd : bodyP id n s v = four n := by simp [bodyP, h]
    have hz := four_size n
    rw [bd, h, empty_of q4, empty_of q5]
    refine ⟨.num n, ?_, rfl⟩
    rw [prop_read.fL_eq, if_neg (by decide), if_neg (by decide), if_pos rfl, show vbi_TakeFour.fL (four n ++ r) = _ from lim_of (takeFour_ev _), if_neg (by rw [app_size]; omega), val4_app q2 q3, hz]
    rfl
  · simp [h, mostK] at ok
    obtain ⟨q1, q2, q3, q4, q5⟩ := ok
    have bd : bodyP id n s v = numOf n := by simp [bodyP, h]
    rw [bd, h, empty_of q4, empty_of q5]
    refine ⟨.num n, ?_, rfl⟩
    rw [prop_read.fL_eq, if_neg (by decide), if_neg (by decide), if_neg (by decide), if_pos rfl, takeNum_is, tkn_back q2 q3]
    rfl
  · simp [h] at ok
    obtain ⟨q1, q2, q3⟩ := ok
    have bd : bodyP id n s v = two s.size ++ s := by simp [bodyP, h]
    rw [bd] at hb ⊢
    rw [h, q1, empty_of q2]
    refine ⟨.str s, ?_, rfl⟩
    rw [prop_read.fL_eq, if_neg (by decide), if_neg (by decide), if_neg (by decide), if_neg (by decide), if_pos rfl, takeText_is _ (by rw [app_size]; omega), takeT_back q3]
    rfl
  · simp [h] at ok
    obtain ⟨q1, q2, q3⟩ := ok
    have bd : bodyP id n s v = two s.size ++ s := by simp [bodyP, h]
    rw [bd] at hb ⊢
    rw [h, q1, empty_of q2]
    refine ⟨.str s, ?_, rfl⟩
    rw [prop_read.fL_eq, if_neg (by decide), if_neg (by decide), if_neg (by decide), if_neg (by decide), if_neg (by decide), if_pos rfl, takeBin_is _ (by rw [app_size]; omega), tbin_back (by omega)]
    rfl
  · simp [h] at ok
    obtain ⟨q1, q2, q3⟩ := ok
    have bd : bodyP id n s v = (two s.size ++ s) ++ (two v.size ++ v) := by simp [bodyP, h]
    rw [bd] at hb ⊢
    rw [h, q1]
    refine ⟨.two s v, ?_, rfl⟩
    have e1 : ((two s.size ++ s) ++ (two v.size ++ v)) ++ r = (two s.size ++ s) ++ ((two v.size ++ v) ++ r) := ByteArray.append_assoc
    have hd := app_drop (two s.size ++ s) ((two v.size ++ v) ++ r)
    have hsz : ((two s.size ++ s) ++ ((two v.size ++ v) ++ r)).size ≤ 100000 := by
      rw [← e1, app_size]; omega
    have hle : (two (s.size : Int) ++ s).size ≤ ((two s.size ++ s) ++ ((two v.size ++ v) ++ r)).size := by
      rw [app_size (two s.size ++ s)]; omega
    have hdz : ((two (v.size : Int) ++ v) ++ r).size ≤ 100000 := by
      rw [app_size (two s.size ++ s)] at hsz; omega
    have hv2 : (two (v.size : Int) ++ v).size ≤ 100000 := by
      rw [app_size (two v.size ++ v)] at hdz; omega
    rw [e1, prop_read.fL_eq, if_neg (by decide), if_neg (by decide), if_neg (by decide), if_neg (by decide), if_neg (by decide), if_neg (by decide), takeText_is _ hsz, takeT_back q2]
    simp only [Option.bind_some, if_true]
    rw [if_pos (by omega), if_pos (by omega), Int.toNat_natCast, hd, takeText_is _ hdz, takeT_back q3]
    simp only [Option.bind_some]
    rw [w64 (by omega) (by omega), app_size (two s.size ++ s)]
    simp
theorem id_range {id : Int} (h : kindOf id ≠ 0) : 0 ≤ id ∧ id ≤ 42 := by
  refine ⟨?_, ?_⟩
  · rcases Int.lt_or_le id 0 with h' | h'
    · exact absurd (kindOf_out (.inl h')) h
    · exact h'
  · rcases Int.lt_or_le 42 id with h' | h'
    · exact absurd (kindOf_out (.inr h')) h
    · exact h'
theorem ok_kind {id n : Int} {s v : ByteArray} (ok : okP id n s v = true) : kindOf id ≠ 0 := by
  intro h
  unfold okP at ok
  simp [h] at ok
theorem one_size {x : S42} : (oneP x).size = 1 + (bodyP x.f0 x.f1 x.f2 x.f3).size := by
  unfold oneP
  rw [app_size, str_size]; rfl
theorem next_back (x : S42) (ok : okP x.f0 x.f1 x.f2 x.f3 = true) (r : ByteArray) (hr : r.size ≤ 60000) :
    prop_next.fL (oneP x ++ r) = some (x.f0, x.f1, x.f2, x.f3, ((oneP x).size : Int), 0) := by
  have hk := ok_kind ok
  have hid := id_range hk
  have hz := one_size (x := x)
  have hb := body_size ok
  have hb0 : bt (oneP x ++ r) 0 = x.f0 := by
    have e := bt_app (oneP x) r 0 (by omega)
    have e1 := bt_app (strOfNums [x.f0 % 256]) (bodyP x.f0 x.f1 x.f2 x.f3) 0 (by rw [str_size]; simp)
    have e' := bt_str [x.f0 % 256] (by intro c hc; simp at hc; omega) 0 (by simp)
    simp only [List.getElem_cons_zero] at e'
    rw [show (0 : Int) = ((0 : Nat) : Int) from rfl, e]
    unfold oneP
    rw [e1, e']
    omega
  have hdr : (oneP x ++ r).extract 1 (oneP x ++ r).size = bodyP x.f0 x.f1 x.f2 x.f3 ++ r := by
    have := app_drop (strOfNums [x.f0 % 256]) (bodyP x.f0 x.f1 x.f2 x.f3 ++ r)
    rw [str_size, ← ByteArray.append_assoc] at this
    exact this
  obtain ⟨w, hw1, hw2⟩ := read_back ok r hr
  have := next_ok (x := oneP x ++ r) (by rw [app_size]; omega) (by rw [hb0]; exact hk) (v := w) (k := ((bodyP x.f0 x.f1 x.f2 x.f3).size : Int)) (n := x.f1) (S := x.f2) (V := x.f3) (by rw [hb0, hdr]; exact hw1) (by rw [hb0]; exact hw2) (by omega) (by omega)
  rw [this, hb0, hz]
  simp
theorem fold_app (r : List S42) : ∀ acc : ByteArray, r.foldl (fun a x => a ++ oneP x) acc = acc ++ r.foldl (fun a x => a ++ oneP x) (⟨#[]⟩ : ByteArray) := by
  induction r with
  | nil => intro acc; rw [List.foldl_nil, List.foldl_nil]; exact bytesOf_inj (by rw [bytesOf_app]; simp [bytesOf])
  | cons x r ih =>
    intro acc
    rw [List.foldl_cons, List.foldl_cons, ih (acc ++ oneP x), ih ((⟨#[]⟩ : ByteArray) ++ oneP x)]
    refine bytesOf_inj ?_
    simp only [bytesOf_app, List.append_assoc]
    simp [bytesOf]
theorem bytesP_cons (x : S42) (r : List S42) : bytesP (x :: r) = oneP x ++ bytesP r := by
  unfold bytesP
  rw [List.foldl_cons, fold_app]
  refine bytesOf_inj ?_
  simp only [bytesOf_app, List.append_assoc]
  simp [bytesOf]
theorem loop_back (p a b : Int) (r : List S42) : ∀ pre : List S42, (pre ++ r).length ≤ 8 → allP p pre r = true → (bytesP r).size ≤ 60000 → prop_Take.l0L p pre a b (bytesP r) = some (pre ++ r, wrap64 (a + b), 0) := by
  induction r with
  | nil =>
    intro pre hl h hs
    rw [prop_Take.l0L_eq, if_pos ((size_list _).2 rfl), List.append_nil]
  | cons x r ih =>
    intro pre hl h hs
    simp only [allP, Bool.and_eq_true] at h
    have hst := h.1
    have hok : okP x.f0 x.f1 x.f2 x.f3 = true := by
      have := hst
      simp only [stepP, Bool.and_eq_true] at this
      exact this.1.1
    rw [bytesP_cons] at hs ⊢
    have hz := one_size (x := x)
    have hb := body_size hok
    rw [app_size] at hs
    have hlen : (pre ++ x :: r).length = pre.length + 1 + r.length := by simp; omega
    have hfit : fitsP p pre x.f0 x.f1 = true := by
      cases hf : fitsP p pre x.f0 x.f1 with
      | true => rfl
      | false => rw [fits_no hf] at hst; cases hst
    rw [prop_Take.l0L_eq, if_neg (by rw [size_list, app_size]; omega), next_back x hok _ (by omega)]
    simp only [Option.bind_some, if_true]
    rw [fits_is, hfit]
    simp only [Option.bind_some, if_true]
    rw [if_neg (by omega), if_pos (by omega), if_pos (by omega), if_pos (by rw [app_size]; omega), Int.toNat_natCast, app_drop]
    have := ih (pre ++ [x]) (by simpa using hl) h.2 (by omega)
    rw [List.append_assoc] at this
    exact this
theorem take_back {p : Int} {l : List S42} (h : propsP p l = true) (x : ByteArray) (hx : x.size ≤ 20000) : prop_Take.fL p ((numOf ((bytesP l).size : Int) ++ bytesP l) ++ x) = some (l, ((numOf ((bytesP l).size : Int) ++ bytesP l).size : Int), 0) := by
  have hs := bytesP_size h
  have hv := numOf_size ((bytesP l).size : Int)
  have hl5 := vb_len5 ((bytesP l).size : Int).toNat (by omega)
  have h' := h
  unfold propsP at h'
  simp only [Bool.and_eq_true, decide_eq_true_eq] at h'
  rw [prop_Take.fL_eq, stands_is, decide_eq_true h'.1.1, takeNum_is]
  have e : (numOf ((bytesP l).size : Int) ++ bytesP l) ++ x = numOf ((bytesP l).size : Int) ++ (bytesP l ++ x) := ByteArray.append_assoc
  have hz : ((numOf ((bytesP l).size : Int) ++ bytesP l) ++ x).size = (numOf ((bytesP l).size : Int)).size + (bytesP l).size + x.size := by rw [app_size, app_size]
  have ht : tkn ((numOf ((bytesP l).size : Int) ++ bytesP l) ++ x) = (((bytesP l).size : Int), ((numOf ((bytesP l).size : Int)).size : Int), 0) := by
    rw [e]; exact tkn_back (by omega) (by omega) _
  rw [ht]
  simp only [Option.bind_some, if_true]
  generalize numOf ((bytesP l).size : Int) = N at *
  rw [hz]
  have a1 : (((bytesP l).size : Int) > wrap64 (((N.size + (bytesP l).size + x.size : Nat) : Int) - (N.size : Int))) = False := by
    rw [w64 (by omega) (by omega)]; exact eq_false (by omega)
  have a2 : wrap64 ((N.size : Int) + ((bytesP l).size : Int)) = ((N.size + (bytesP l).size : Nat) : Int) := by rw [w64 (by omega) (by omega)]; omega
  have a3 : (0 ≤ (N.size : Int)) = True := eq_true (by omega)
  have a4 : ((N.size : Int) ≤ ((N.size + (bytesP l).size : Nat) : Int)) = True := eq_true (by omega)
  have a5 : (((N.size + (bytesP l).size : Nat) : Int) ≤ ((N.size + (bytesP l).size + x.size : Nat) : Int)) = True := eq_true (by omega)
  simp only [a1, a2, a3, a4, a5, if_true, if_false, Int.toNat_natCast]
  rw [extract_mid, loop_back p _ _ l [] (by simpa using h'.1.2) h'.2 (by omega), a2, app_size]
  rfl
theorem take_cut {p : Int} {l : List S42} (h : propsP p l = true) (j : Nat) (hj : j < (numOf ((bytesP l).size : Int) ++ bytesP l).size) : prop_Take.fL p ((numOf ((bytesP l).size : Int) ++ bytesP l).extract 0 j) = some ([], 0, 7) := by
  have hs := bytesP_size h
  have hv := numOf_size ((bytesP l).size : Int)
  have hl5 := vb_len5 ((bytesP l).size : Int).toNat (by omega)
  have h' := h
  unfold propsP at h'
  simp only [Bool.and_eq_true, decide_eq_true_eq] at h'
  have hz : ((numOf ((bytesP l).size : Int) ++ bytesP l).extract 0 j).size = j := by rw [extract_size _ (by omega) (by omega)]; omega
  rw [app_size] at hj
  rw [prop_Take.fL_eq, stands_is, decide_eq_true h'.1.1, takeNum_is]
  simp only [Option.bind_some, if_true]
  by_cases hc : j < (numOf ((bytesP l).size : Int)).size
  · rw [extract_app_left _ _ (by omega), tkn_cut (by omega) (by omega) j hc]
    rfl
  · have e : (numOf ((bytesP l).size : Int) ++ bytesP l).extract 0 j = numOf ((bytesP l).size : Int) ++ (bytesP l).extract 0 (j - (numOf ((bytesP l).size : Int)).size) := bytesOf_inj (by
      simp only [bytesOf_extract, bytesOf_app, List.extract_eq_take_drop, List.drop_zero, Nat.sub_zero]
      rw [List.take_append, bytesOf_len, List.take_of_length_le (by rw [bytesOf_len]; omega)])
    rw [hz, e, tkn_back (by omega) (by omega)]
    simp only [if_true]
    rw [if_pos (by rw [w64 (by omega) (by omega)]; omega)]
theorem extract_cat (s : ByteArray) {i j k : Nat} (hij : i ≤ j) (hjk : j ≤ k) : s.extract i j ++ s.extract j k = s.extract i k := bytesOf_inj (by
  simp only [bytesOf_extract, bytesOf_app, List.extract_eq_take_drop]
  rw [show k - i = (j - i) + (k - j) by omega, List.take_add, List.drop_drop, show i + (j - i) = j by omega])
theorem extract_in (s : ByteArray) (i k : Nat) (h : i + k ≤ s.size) : (s.extract i s.size).extract 0 k = s.extract i (i + k) := bytesOf_inj (by
  simp only [bytesOf_extract, List.extract_eq_take_drop, List.drop_zero, Nat.sub_zero]
  rw [List.take_take, show i + k - i = k by omega, Nat.min_eq_left (by omega)])
theorem take_one {l : List Int} (h : 1 ≤ l.length) : l.take 1 = [l[0]] := by
  match l, h with
  | a :: r, _ => rfl
theorem take_two {l : List Int} (h : 2 ≤ l.length) : l.take 2 = [l[0], l[1]] := by
  match l, h with
  | a :: b :: r, _ => rfl
theorem take_four {l : List Int} (h : 4 ≤ l.length) : l.take 4 = [l[0], l[1], l[2], l[3]] := by
  match l, h with
  | a :: b :: c :: d :: r, _ => rfl
theorem one_was {s : ByteArray} (h : 1 ≤ s.size) : strOfNums [bt s 0 % 256] = s.extract 0 1 := bytesOf_inj (by
  have hb := bt_range s 0
  rw [bytesOf_str (by intro c hc; simp at hc; omega), bytesOf_extract, List.extract_eq_take_drop, List.drop_zero, Nat.sub_zero, take_one (by rw [bytesOf_len]; exact h), ← bt_list s 0 (by omega)]
  rw [show ((0 : Nat) : Int) = 0 from rfl, Int.emod_eq_of_lt hb.1 (by omega)])
theorem two_was {s : ByteArray} (h : 2 ≤ s.size) : two (val2 s) = s.extract 0 2 := bytesOf_inj (by
  have hb := bt_range s 0
  have hc := bt_range s 1
  rw [bytesOf_two, bytesOf_extract, List.extract_eq_take_drop, List.drop_zero, Nat.sub_zero, take_two (by rw [bytesOf_len]; exact h), ← bt_list s 0 (by omega), ← bt_list s 1 (by omega)]
  unfold val2
  rw [show ((0 : Nat) : Int) = 0 from rfl, show ((1 : Nat) : Int) = 1 from rfl, show (bt s 0 * 256 + bt s 1) / 256 % 256 = bt s 0 by omega, show (bt s 0 * 256 + bt s 1) % 256 = bt s 1 by omega])
theorem four_was {s : ByteArray} (h : 4 ≤ s.size) : four (val4 s) = s.extract 0 4 := bytesOf_inj (by
  have h0 := bt_range s 0
  have h1 := bt_range s 1
  have h2 := bt_range s 2
  have h3 := bt_range s 3
  rw [bytesOf_four, bytesOf_extract, List.extract_eq_take_drop, List.drop_zero, Nat.sub_zero, take_four (by rw [bytesOf_len]; exact h), ← bt_list s 0 (by omega), ← bt_list s 1 (by omega), ← bt_list s 2 (by omega), ← bt_list s 3 (by omega)]
  unfold val4
  rw [show ((0 : Nat) : Int) = 0 from rfl, show ((1 : Nat) : Int) = 1 from rfl, show ((2 : Nat) : Int) = 2 from rfl, show ((3 : Nat) : Int) = 3 from rfl]
  generalize bt s 0 = a at *
  generalize bt s 1 = b at *
  generalize bt s 2 = c at *
  generalize bt s 3 = d at *
  rw [show (((a * 256 + b) * 256 + c) * 256 + d) / 16777216 % 256 = a by omega, show (((a * 256 + b) * 256 + c) * 256 + d) / 65536 % 256 = b by omega, show (((a * 256 + b) * 256 + c) * 256 + d) / 256 % 256 = c by omega, show (((a * 256 + b) * 256 + c) * 256 + d) % 256 = d by omega])
theorem tbin_was {s : ByteArray} (h : (tbin s).2.2 = 0) : two (tbin s).1.size ++ (tbin s).1 = s.extract 0 (tbin s).2.1.toNat := by
  have hv := val2_range s
  unfold tbin at h ⊢
  by_cases a : (s.size : Int) < 2
  · rw [if_pos a] at h; cases h
  · rw [if_neg a] at h ⊢
    by_cases b : val2 s > 1024
    · rw [if_pos b] at h; cases h
    · rw [if_neg b] at h ⊢
      by_cases c : (s.size : Int) - 2 < val2 s
      · rw [if_pos c] at h; cases h
      · rw [if_neg c]
        show two (s.extract 2 (2 + val2 s).toNat).size ++ s.extract 2 (2 + val2 s).toNat = s.extract 0 (2 + val2 s).toNat
        have hz : ((s.extract 2 (2 + val2 s).toNat).size : Int) = val2 s := by rw [extract_size s (by omega) (by omega)]; omega
        rw [hz, two_was (by omega), extract_cat s (by omega) (by omega)]
theorem takeT_was {s : ByteArray} (h : (takeT s true).2.2 = 0) : two (takeT s true).1.size ++ (takeT s true).1 = s.extract 0 (takeT s true).2.1.toNat := by
  unfold takeT at h ⊢
  by_cases a : (tbin s).2.2 = 0
  · rw [if_pos a, if_pos rfl] at h ⊢
    by_cases b : checkT (tbin s).1 = 0
    · rw [if_pos b]
      exact tbin_was a
    · rw [if_neg b] at h
      exact absurd h b
  · rw [if_neg a] at h
    exact absurd h a
theorem value_was {id : Int} {s : ByteArray} (hs : s.size ≤ 100000) (hk : kindOf id ≠ 0) {n k : Int} {S V : ByteArray} (hv : fairwayref4_value.fL id s = some (id, n, S, V, k, 0)) : bodyP id n S V = s.extract 0 k.toNat := by
  have hc := kind_cases id
  rw [fairwayref4_value.fL_eq, refKind_is] at hv
  simp only [Option.bind_some] at hv
  unfold bodyP
  rcases hc with h | h | h | h | h | h | h | h
  · exact absurd h hk
  · rw [h, if_pos rfl, fairwayref4_value.j0L_eq] at hv
    simp only [Option.bind_some, beq_self_eq_true, if_true] at hv
    rw [if_pos (by decide), if_pos (by decide), show rd [0, 1, 2, 4] 1 = 1 from rfl, show fairwayref1_TakeFixed.fL s 1 = _ from lim_of (ref_take1_ev _)] at hv
    simp only [Option.bind_some] at hv
    by_cases e : (s.size : Int) < 1
    · rw [if_pos e] at hv; simp at hv
    · rw [if_neg e] at hv
      simp only [if_true, Option.some.injEq, Prod.mk.injEq] at hv
      obtain ⟨_, rfl, rfl, rfl, rfl, _⟩ := hv
      rw [if_pos h]
      exact one_was (by omega)
  · rw [h, if_neg (by decide), if_pos rfl, fairwayref4_value.j0L_eq] at hv
    simp only [Option.bind_some, beq_self_eq_true, if_true] at hv
    rw [if_pos (by decide), if_pos (by decide), show rd [0, 1, 2, 4] 2 = 2 from rfl, show fairwayref1_TakeFixed.fL s 2 = _ from lim_of (ref_take2_ev _)] at hv
    simp only [Option.bind_some] at hv
    by_cases e : (s.size : Int) < 2
    · rw [if_pos e] at hv; simp at hv
    · rw [if_neg e] at hv
      simp only [if_true, Option.some.injEq, Prod.mk.injEq] at hv
      obtain ⟨_, rfl, rfl, rfl, rfl, _⟩ := hv
      rw [if_neg (by omega), if_pos h]
      exact two_was (by omega)
  · rw [h, if_neg (by decide), if_neg (by decide), fairwayref4_value.j0L_eq] at hv
    simp only [Option.bind_some, beq_self_eq_true, if_true] at hv
    rw [if_pos (by decide), if_pos (by decide), show rd [0, 1, 2, 4] 3 = 4 from rfl, show fairwayref1_TakeFixed.fL s 4 = _ from lim_of (ref_take4_ev _)] at hv
    simp only [Option.bind_some] at hv
    by_cases e : (s.size : Int) < 4
    · rw [if_pos e] at hv; simp at hv
    · rw [if_neg e] at hv
      simp only [if_true, Option.some.injEq, Prod.mk.injEq] at hv
      obtain ⟨_, rfl, rfl, rfl, rfl, _⟩ := hv
      rw [if_neg (by omega), if_neg (by omega), if_pos h]
      exact four_was (by omega)
  · rw [h, if_neg (by decide), if_neg (by decide), fairwayref4_value.j0L_eq, if_neg (by decide), if_pos rfl, refTakeNum_is] at hv
    simp only [Option.bind_some, inner_is, Option.some.injEq, Prod.mk.injEq] at hv
    obtain ⟨_, rfl, rfl, rfl, rfl, h0⟩ := hv
    rcases tkn_of s with ⟨e, _⟩ | e
    · rw [if_neg (by omega), if_neg (by omega), if_neg (by omega), if_pos h]
      exact (tkn_was (x := s) (m := (tkn s).1) (k := (tkn s).2.1) (by rw [← e])).2.2.2.2.1
    · rcases e with e | e <;> (rw [e] at h0; cases h0)
  · rw [h, if_neg (by decide), if_neg (by decide), fairwayref4_value.j0L_eq, if_neg (by decide), if_neg (by decide), show ((5 : Int) != 6) = true from rfl, show ((5 : Int) != 7) = true from rfl, takeLong_is _ _ hs] at hv
    simp only [Option.bind_some, fairwayref4_value.j1L_eq, if_true, inner_is, ite_self, Option.some.injEq, Prod.mk.injEq] at hv
    obtain ⟨_, rfl, rfl, rfl, rfl, h0⟩ := hv
    rw [if_neg (by omega), if_neg (by omega), if_neg (by omega), if_neg (by omega), if_pos (.inl h)]
    refine takeT_was ?_
    rcases takeT_of s hs with ⟨e, _⟩ | e | e | e
    · exact e
    all_goals (rw [e] at h0; cases h0)
  · rw [h, if_neg (by decide), if_neg (by decide), fairwayref4_value.j0L_eq, if_neg (by decide), if_neg (by decide), show ((6 : Int) != 6) = false from rfl, show ((6 : Int) != 7) = true from rfl, takeLong_is _ _ hs, takeT_no] at hv
    simp only [Option.bind_some, fairwayref4_value.j1L_eq, if_true, inner_is, ite_self, Option.some.injEq, Prod.mk.injEq] at hv
    obtain ⟨_, rfl, rfl, rfl, rfl, h0⟩ := hv
    rw [if_neg (by omega), if_neg (by omega), if_neg (by omega), if_neg (by omega), if_pos (.inr h)]
    refine tbin_was ?_
    rcases tbin_of s hs with ⟨e, _⟩ | e | e
    · exact e
    all_goals (rw [e] at h0; cases h0)
  · rw [h, if_neg (by decide), if_neg (by decide), fairwayref4_value.j0L_eq, if_neg (by decide), if_neg (by decide), show ((7 : Int) != 6) = true from rfl, show ((7 : Int) != 7) = false from rfl, takeLong_is _ _ hs] at hv
    simp only [Option.bind_some] at hv
    rcases takeT_of s hs with ⟨e, q1, q2, q3⟩ | e
    · have hz2 : (s.extract (takeT s true).2.1.toNat s.size).size = s.size - (takeT s true).2.1.toNat := extract_size _ (by omega) (Nat.le_refl _)
      rw [if_pos e, fairwayref4_value.j1L_eq, if_neg (by decide), if_pos (by omega), if_pos q2, takeLong_is _ _ (by omega)] at hv
      simp only [Option.bind_some, inner_is, Option.some.injEq, Prod.mk.injEq] at hv
      obtain ⟨_, rfl, rfl, rfl, hkk, h0⟩ := hv
      have hw := takeT_was e
      rcases takeT_of (s.extract (takeT s true).2.1.toNat s.size) (by omega) with ⟨e', q1', q2', q3'⟩ | e' | e' | e'
      · have hw' := takeT_was e'
        rw [if_neg (by omega), if_neg (by omega), if_neg (by omega), if_neg (by omega), if_neg (by omega), hw, hw', extract_in _ _ _ (by omega), extract_cat _ (by omega) (by omega), ← hkk, w64 (by omega) (by omega)]
        generalize (takeT (s.extract (takeT s true).2.1.toNat s.size) true).2.1 = B at *
        generalize (takeT s true).2.1 = A at *
        rw [show A.toNat + B.toNat = (A + B).toNat by omega]
      all_goals (rw [e'] at h0; cases h0)
    · rw [if_neg (by omega), fairwayref4_value.j1L_eq, if_pos rfl] at hv
      simp only [inner_is, Option.bind_some, Option.some.injEq, Prod.mk.injEq] at hv
      obtain ⟨_, _, _, _, _, h0⟩ := hv
      rcases e with e | e | e <;> (rw [e] at h0; cases h0)
theorem loop_was (p a b : Int) (d : Nat) : ∀ (x : ByteArray) (pre l : List S42) (m : Int), x.size ≤ d → x.size ≤ 100000 → pre.length ≤ 8 → prop_Take.l0L p pre a b x = some (l, m, 0) →
    ∃ r, l = pre ++ r ∧ allP p pre r = true ∧ bytesP r = x ∧ (pre ++ r).length ≤ 8 ∧ m = wrap64 (a + b) := by
  induction d with
  | zero =>
    intro x pre l m hd hs hl h
    rw [prop_Take.l0L_eq, if_pos ((size_list _).2 (by omega))] at h
    simp only [Option.some.injEq, Prod.mk.injEq] at h
    obtain ⟨rfl, rfl, _⟩ := h
    refine ⟨[], by simp, rfl, ?_, by simpa using hl, rfl⟩
    exact (empty_of ((size_list _).2 (by omega))).symm
  | succ d ih =>
    intro x pre l m hd hs hl h
    by_cases hx : x.size = 0
    · rw [prop_Take.l0L_eq, if_pos ((size_list _).2 hx)] at h
      simp only [Option.some.injEq, Prod.mk.injEq] at h
      obtain ⟨rfl, rfl, _⟩ := h
      exact ⟨[], by simp, rfl, (empty_of ((size_list _).2 hx)).symm, by simpa using hl, rfl⟩
    · have hx0 : 0 < x.size := by omega
      rw [prop_Take.l0L_eq, if_neg (by rw [size_list]; exact hx)] at h
      by_cases hk : kindOf (bt x 0) = 0
      · obtain ⟨t, ht, hte⟩ := next_bad x hx0 hk
        rw [ht] at h
        simp only [Option.bind_some] at h
        rw [hte, if_neg (by decide)] at h
        simp at h
      · rcases next_same x hx0 hs hk with ⟨n, S, V, k, h1, h2, h3, h4, h5⟩ | ⟨e, t, u, he, ht, hte, hu, hue⟩
        · rw [h1] at h
          simp only [Option.bind_some, if_true] at h
          rw [fits_is] at h
          simp only [Option.bind_some] at h
          cases hf : fitsP p pre (bt x 0) n with
          | false => rw [hf, if_neg (by simp)] at h; simp at h
          | true =>
            obtain ⟨q1, q2, q3⟩ := fits_yes (s := S) (v := V) hf
            have hok := h5 q2 q3
            rw [hf, if_pos rfl] at h
            by_cases h8 : (pre.length : Int) = 8
            · rw [if_pos h8] at h; simp at h
            · rw [if_neg h8, if_pos (by omega), if_pos (by omega), if_pos (by omega)] at h
              have hz : (x.extract (1 + k).toNat x.size).size = x.size - (1 + k).toNat := extract_size x (by omega) (Nat.le_refl _)
              obtain ⟨r, e1, e2, e3, e4, e5⟩ := ih _ _ _ _ (by omega) (by omega) (by simp; omega) h
              refine ⟨⟨bt x 0, n, S, V⟩ :: r, by rw [e1]; simp, ?_, ?_, by simpa using e4, e5⟩
              · simp only [allP, q1, hok, Bool.true_and]
                exact e2
              · have hz1 : (x.extract 1 x.size).size = x.size - 1 := extract_size x (by omega) (Nat.le_refl _)
                have hw := value_was (by omega) hk h2
                rw [bytesP_cons, e3]
                unfold oneP
                show (strOfNums [bt x 0 % 256] ++ bodyP (bt x 0) n S V) ++ _ = x
                rw [hw, one_was (by omega), extract_in _ _ _ (by omega), extract_cat _ (by omega) (by omega), show 1 + k.toNat = (1 + k).toNat by omega, extract_cat _ (by omega) (by omega), extract_all]
        · rw [ht] at h
          simp only [Option.bind_some] at h
          rw [if_neg (by rw [hte]; exact he)] at h
          simp only [Option.some.injEq, Prod.mk.injEq] at h
          exact absurd (hte.symm.trans h.2.2) he
theorem take_was {p : Int} {x : ByteArray} (hs : x.size ≤ 100000) {l : List S42} {m : Int} (h : prop_Take.fL p x = some (l, m, 0)) : propsP p l = true ∧ numOf ((bytesP l).size : Int) ++ bytesP l = x.extract 0 m.toNat ∧ 0 ≤ m ∧ m ≤ x.size := by
  by_cases hp : 0 ≤ p ∧ p ≤ 15
  · rw [prop_Take.fL_eq, stands_is, takeNum_is, decide_eq_true hp] at h
    simp only [Option.bind_some, if_true] at h
    rcases tkn_of x with ⟨e, q1, q2, q3, q4⟩ | e
    · have hw := tkn_was (x := x) (m := (tkn x).1) (k := (tkn x).2.1) (by rw [← e])
      rw [if_pos e, w64 (by omega) (by omega)] at h
      by_cases hb : (tkn x).1 > (x.size : Int) - (tkn x).2.1
      · rw [if_pos hb] at h; simp at h
      · rw [if_neg hb, w64 (by omega) (by omega), if_pos q3, if_pos (by omega), if_pos (by omega)] at h
        have hz : (x.extract (tkn x).2.1.toNat ((tkn x).2.1 + (tkn x).1).toNat).size = ((tkn x).2.1 + (tkn x).1).toNat - (tkn x).2.1.toNat := extract_size x (by omega) (by omega)
        obtain ⟨r, e1, e2, e3, e4, e5⟩ := loop_was p _ _ _ _ _ _ _ (Nat.le_refl _) (by omega) (by simp) h
        rw [w64 (by omega) (by omega)] at e5
        simp only [List.nil_append] at e1 e4
        subst e1
        refine ⟨?_, ?_, by omega, by omega⟩
        · unfold propsP
          rw [decide_eq_true hp, decide_eq_true e4, e2]; rfl
        · rw [e3, hz, show ((((tkn x).2.1 + (tkn x).1).toNat - (tkn x).2.1.toNat : Nat) : Int) = (tkn x).1 by omega, hw.2.2.2.2.1, extract_cat _ (by omega) (by omega), e5]
    · rw [if_neg (by omega)] at h
      simp only [Option.some.injEq, Prod.mk.injEq] at h
      have := h.2.2
      omega
  · rw [take_nowhere p hp] at h
    simp at h
end Go.Proofs.YtiancopplinpcaaDoor.P
end
section
namespace Go.Proofs.YtiancopplinpcaaDoor.P
open Go.RowKit Go.Proofs.YtiancopplinpcaaDoorW.PrintWords Go.Proofs.YtiancopplinpcaaDoorW.PrintLast Go.Proofs.YtiancopplinpcaaDoorW.PrintMore
set_option linter.unusedVariables false
set_option linter.unusedSimpArgs false
noncomputable def prop_Bytes.fL (a0 : Int) (l1 : List (S42)) : Option (ByteArray × Int) := lim fun k => prop_Bytes.f k a0 l1
noncomputable def fairwaylaw4_wakes.fL : Option (Bool) := lim fun k => fairwaylaw4_wakes.f k
end Go.Proofs.YtiancopplinpcaaDoor.P
end
section
namespace Go.Proofs.YtiancopplinpcaaDoor.P
open Go.RowKit Go.Proofs.YtiancopplinpcaaDoorW.PrintWords Go.Proofs.YtiancopplinpcaaDoorW.PrintLast Go.Proofs.YtiancopplinpcaaDoorW.PrintMore
set_option linter.unusedVariables false
set_option linter.unusedSimpArgs false
noncomputable def fairwaylaw0_PropsWeight.fL (l0 : List (S42)) : Option (Int) := lim fun k => fairwaylaw0_PropsWeight.f k l0
noncomputable def fairwaylaw4_heavy.fL (a0_0 : Int) (l0_1 : List (S42)) (a0_2 : ByteArray) : Option (Bool) := lim fun k => fairwaylaw4_heavy.f k a0_0 l0_1 a0_2
noncomputable def fairwaylaw0_PropsWeight.l0L (x0 : List (S42)) (x3 : Int) (x4 : Int) : Option (Int) := lim fun k => fairwaylaw0_PropsWeight.l0 k x0 x3 x4
theorem fairwaylaw0_PropsWeight.fL_eq (l0 : List (S42)) : fairwaylaw0_PropsWeight.fL l0 = fairwaylaw0_PropsWeight.l0L l0 (l0.length : Int) 0 := by
  show lim (fun k => fairwaylaw0_PropsWeight.f k l0) = _
  show lim (fun k => fairwaylaw0_PropsWeight.l0 k l0 (l0.length : Int) 0) = _
  repeat' (first | exact lim_const _ | (with_reducible refine lim_ite' ?_ ?_) | ((with_reducible refine lim_bind' ?hm ?hx (fun _ => ?_)); (case hm => exact (fun k => by first | exact LeO.refl _)); (case hx => first | exact lim_const _ | rfl)) | rfl)
theorem fairwaylaw4_heavy.fL_eq (a0_0 : Int) (l0_1 : List (S42)) (a0_2 : ByteArray) : fairwaylaw4_heavy.fL a0_0 l0_1 a0_2 = (fairwaylaw0_PropsWeight.fL l0_1).bind fun t194 => (if t194 > 10000 then (some true) else (some (decide ((a0_2.size : Int) > 9000)))) := by
  show lim (fun k => fairwaylaw4_heavy.f k a0_0 l0_1 a0_2) = _
  show lim (fun k => (fairwaylaw0_PropsWeight.f k l0_1).bind fun t194 => (if t194 > 10000 then (some true) else (some (decide ((a0_2.size : Int) > 9000))))) = _
  repeat' (first | exact lim_const _ | (with_reducible refine lim_ite' ?_ ?_) | ((with_reducible refine lim_bind' ?hm ?hx (fun _ => ?_)); (case hm => exact (fun k => by first | exact LeO.refl _ | apply fairwaylaw0_PropsWeight.mono)); (case hx => first | exact lim_const _ | rfl)) | rfl)
theorem fairwaylaw0_PropsWeight.l0L_eq (x0 : List (S42)) (x3 : Int) (x4 : Int) : fairwaylaw0_PropsWeight.l0L x0 x3 x4 = if x4 < (x0.length : Int) then (if x3 < 1048576 then (if 0 ≤ x4 then (fairwaylaw0_PropsWeight.l0L x0 (wrap64 ((wrap64 (x3 + (((rd_T42 x0 x4).f2).size : Int))) + (((rd_T42 x0 x4).f3).size : Int))) (wrap64 (x4 + 1))) else (none)) else (some x3)) else (some x3) := by
  show lim (fun k => fairwaylaw0_PropsWeight.l0 k x0 x3 x4) = _
  rw [lim_step (f := fun k => if x4 < (x0.length : Int) then (if x3 < 1048576 then (if 0 ≤ x4 then (fairwaylaw0_PropsWeight.l0 k x0 (wrap64 ((wrap64 (x3 + (((rd_T42 x0 x4).f2).size : Int))) + (((rd_T42 x0 x4).f3).size : Int))) (wrap64 (x4 + 1))) else (none)) else (some x3)) else (some x3)) (fun k => by first | rfl | simp only [fairwaylaw0_PropsWeight.l0])]
  repeat' (first | exact lim_const _ | (with_reducible refine lim_ite' ?_ ?_) | ((with_reducible refine lim_bind' ?hm ?hx (fun _ => ?_)); (case hm => exact (fun k => by first | exact LeO.refl _)); (case hx => first | exact lim_const _ | rfl)) | rfl)
end Go.Proofs.YtiancopplinpcaaDoor.P
end
section
namespace Go.Proofs.YtiancopplinpcaaDoor.P
open Go.RowKit Go.Proofs.YtiancopplinpcaaDoorW.PrintWords Go.Proofs.YtiancopplinpcaaDoorW.PrintLast Go.Proofs.YtiancopplinpcaaDoorW.PrintMore
set_option linter.unusedVariables false
set_option linter.unusedSimpArgs false
noncomputable def fairwayref0_EqProps.fL (l0 : List (S42)) (l1 : List (S42)) : Option (Bool) := lim fun k => fairwayref0_EqProps.f k l0 l1
noncomputable def fairwayref0_EqProps.l0L (x0 : List (S42)) (x1 : List (S42)) (x5 : Int) : Option (Bool) := lim fun k => fairwayref0_EqProps.l0 k x0 x1 x5
theorem fairwayref0_EqProps.fL_eq (l0 : List (S42)) (l1 : List (S42)) : fairwayref0_EqProps.fL l0 l1 = if (l0.length : Int) = (l1.length : Int) then (fairwayref0_EqProps.l0L l0 l1 0) else (some false) := by
  show lim (fun k => fairwayref0_EqProps.f k l0 l1) = _
  show lim (fun k => if (l0.length : Int) = (l1.length : Int) then (fairwayref0_EqProps.l0 k l0 l1 0) else (some false)) = _
  repeat' (first | exact lim_const _ | (with_reducible refine lim_ite' ?_ ?_) | ((with_reducible refine lim_bind' ?hm ?hx (fun _ => ?_)); (case hm => exact (fun k => by first | exact LeO.refl _)); (case hx => first | exact lim_const _ | rfl)) | rfl)
theorem fairwayref0_EqProps.l0L_eq (x0 : List (S42)) (x1 : List (S42)) (x5 : Int) : fairwayref0_EqProps.l0L x0 x1 x5 = if x5 < (x0.length : Int) then (if 0 ≤ x5 then (if x5 < (x1.length : Int) then (if (!(((rd_T42 x0 x5).f0) == ((rd_T42 x1 x5).f0)) || (!(((rd_T42 x0 x5).f1) == ((rd_T42 x1 x5).f1)) || (!((((rd_T42 x0 x5).f2).toList) == (((rd_T42 x1 x5).f2).toList)) || (!((((rd_T42 x0 x5).f3).toList) == (((rd_T42 x1 x5).f3).toList)))))) = true then (some false) else (fairwayref0_EqProps.l0L x0 x1 (wrap64 (x5 + 1)))) else (none)) else (none)) else (some true) := by
  show lim (fun k => fairwayref0_EqProps.l0 k x0 x1 x5) = _
  rw [lim_step (f := fun k => if x5 < (x0.length : Int) then (if 0 ≤ x5 then (if x5 < (x1.length : Int) then (if (!(((rd_T42 x0 x5).f0) == ((rd_T42 x1 x5).f0)) || (!(((rd_T42 x0 x5).f1) == ((rd_T42 x1 x5).f1)) || (!((((rd_T42 x0 x5).f2).toList) == (((rd_T42 x1 x5).f2).toList)) || (!((((rd_T42 x0 x5).f3).toList) == (((rd_T42 x1 x5).f3).toList)))))) = true then (some false) else (fairwayref0_EqProps.l0 k x0 x1 (wrap64 (x5 + 1)))) else (none)) else (none)) else (some true)) (fun k => by first | rfl | simp only [fairwayref0_EqProps.l0])]
  repeat' (first | exact lim_const _ | (with_reducible refine lim_ite' ?_ ?_) | ((with_reducible refine lim_bind' ?hm ?hx (fun _ => ?_)); (case hm => exact (fun k => by first | exact LeO.refl _)); (case hx => first | exact lim_const _ | rfl)) | rfl)
end Go.Proofs.YtiancopplinpcaaDoor.P
end
section
namespace Go.Proofs.YtiancopplinpcaaDoor.P
open Go.RowKit Go.Proofs.YtiancopplinpcaaDoorW.PrintWords Go.Proofs.YtiancopplinpcaaDoorW.PrintLast Go.Proofs.YtiancopplinpcaaDoorW.PrintMore
attribute [local go_sem] max2_int min2_int max_two min_two max_three min_three max_four min_four
set_option linter.unusedVariables false
set_option linter.unusedSimpArgs false
mutual
def fairwaylaw4_PropBack.l0 : Nat → List (S25) → Int → Option (Bool)
  | 0, _, _ => none
  | k + 1, x0, x3 => if x3 < (x0.length : Int) then (fairwaylaw4_PropBack.j1 k x0 x3 (decide (x3 < 10))) else (fairwaylaw4_PropBack.j1 k x0 x3 false)
def fairwaylaw4_PropBack.j1 : Nat → List (S25) → Int → Bool → Option (Bool)
  | 0, _, _, _ => none
  | k + 1, x0, x3, x26 => if x26 = true then (if 0 ≤ x3 then (if x3 < (x0.length : Int) then ((fairwaylaw4_heavy.f k ((rd_T25 x0 x3).f0) ((rd_T25 x0 x3).f1) ((rd_T25 x0 x3).f2)).bind fun t509 => (if t509 = true then (some true) else ((prop_Bytes.f k ((rd_T25 x0 x3).f0) ((rd_T25 x0 x3).f1)).bind fun bt510 => ((fairwaylaw4_num.f bt510.2).bind fun t512 => (if t512 = 0 then (if bt510.1.size + ((rd_T25 x0 x3).f2).size ≤ 9223372036854775807 then ((prop_Take.f k ((rd_T25 x0 x3).f0) (bt510.1 ++ ((rd_T25 x0 x3).f2))).bind fun bt513 => ((fairwaylaw4_num.f bt513.2.2).bind fun t518 => (if t518 = 0 then (if bt513.2.1 = (bt510.1.size : Int) then ((fairwayref0_EqProps.f k bt513.1 ((rd_T25 x0 x3).f1)).bind fun t519 => (fairwaylaw4_PropBack.j2 k x0 x3 bt510.1 (!t519) ((rd_T25 x0 x3).f0) ((rd_T25 x0 x3).f1) ((rd_T25 x0 x3).f2))) else (fairwaylaw4_PropBack.j2 k x0 x3 bt510.1 true ((rd_T25 x0 x3).f0) ((rd_T25 x0 x3).f1) ((rd_T25 x0 x3).f2))) else (fairwaylaw4_PropBack.j2 k x0 x3 bt510.1 true ((rd_T25 x0 x3).f0) ((rd_T25 x0 x3).f1) ((rd_T25 x0 x3).f2))))) else (none)) else (fairwaylaw4_PropBack.j4 k x0 x3 ((rd_T25 x0 x3).f0) ((rd_T25 x0 x3).f1) ((rd_T25 x0 x3).f2))))))) else (none)) else (none)) else ((fairwaylaw4_wakes.f k).bind fun t506 => (some t506))
def fairwaylaw4_PropBack.j4 : Nat → List (S25) → Int → Int → List (S42) → ByteArray → Option (Bool)
  | 0, _, _, _, _, _ => none
  | k + 1, x0, x3, x509000, x509001, x509002 => (prop_Take.f k x509000 x509002).bind fun bt526 => ((fairwaylaw4_num.f bt526.2.2).bind fun t531 => (if t531 = 0 then ((prop_Bytes.f k x509000 bt526.1).bind fun bt532 => ((fairwaylaw4_num.f bt532.2).bind fun t534 => (if t534 = 0 then (if bt526.2.1 < 0 then (some false) else (if bt526.2.1 > (x509002.size : Int) then (some false) else (if 0 ≤ bt526.2.1 then (if bt526.2.1 ≤ (x509002.size : Int) then (if bt532.1.toList = (x509002.extract 0 (bt526.2.1 : Int).toNat).toList then (fairwaylaw4_PropBack.l0 k x0 (wrap64 (x3 + 1))) else (some false)) else (none)) else (none)))) else (some false)))) else (fairwaylaw4_PropBack.l0 k x0 (wrap64 (x3 + 1)))))
def fairwaylaw4_PropBack.j2 : Nat → List (S25) → Int → ByteArray → Bool → Int → List (S42) → ByteArray → Option (Bool)
  | 0, _, _, _, _, _, _, _ => none
  | k + 1, x0, x3, x5, x72, x509000, x509001, x509002 => if x72 = true then (some false) else (fairwaylaw4_PropBack.l1 k x0 x3 x5 0 x509000 x509001 x509002)
def fairwaylaw4_PropBack.l1 : Nat → List (S25) → Int → ByteArray → Int → Int → List (S42) → ByteArray → Option (Bool)
  | 0, _, _, _, _, _, _, _ => none
  | k + 1, x0, x3, x5, x10, x509000, x509001, x509002 => if x10 < (x5.size : Int) then (if 0 ≤ x10 then (if x10 ≤ (x5.size : Int) then ((prop_Take.f k x509000 (x5.extract 0 (x10 : Int).toNat)).bind fun bt520 => ((fairwaylaw4_num.f bt520.2.2).bind fun t525 => (if t525 = 7 then (fairwaylaw4_PropBack.l1 k x0 x3 x5 (wrap64 ((wrap64 (x10 + 1)) + (wrap64 ((x5.size : Int) / 20)))) x509000 x509001 x509002) else (some false)))) else (none)) else (none)) else (fairwaylaw4_PropBack.j4 k x0 x3 x509000 x509001 x509002)
end
def fairwaylaw4_PropBack.f (k : Nat) (l0 : List (S25)) : Option (Bool) := fairwaylaw4_PropBack.l0 k l0 0
def fairwaylaw4_PropBack.T15 : Bool × List (List Nat × List Nat) := (true, [([], []), ([0], [0]), ([], []), ([], []), ([2, 3], [2, 3]), ([1, 4], [1, 4]), ([5], [5]), ([6], [6]), ([6], [6]), ([6], [6]), ([7, 5, 0, 1, 2, 3, 4, 5, 6, 7], [7]), ([8, 10, 0, 1, 2, 3, 4, 5, 6, 7, 8, 10], [8]), ([9, 11, 0, 1, 2, 3, 4, 5, 6, 7, 8, 9, 10, 11], [9])])
def fairwaylaw4_PropBack.B15 : List Nat := [0, 1, 0, 0, 12, 31, 63, 127, 127, 127, 255, 1535, 4095]
theorem fairwaylaw4_PropBack.tab15 : rtab .any (opsOf Tryd.f7 15) = fairwaylaw4_PropBack.T15 := by kernel_rfl
theorem fairwaylaw4_PropBack.bits15 : waitsOk fairwaylaw4_PropBack.T15.2 fairwaylaw4_PropBack.B15 = true := by kernel_rfl
set_option maxHeartbeats 8000000 in
set_option maxRecDepth 100000 in
theorem fairwaylaw4_PropBack.calls (k : Nat) (A0 : Option Addr) (c0 : Nat) (l0 : List (S25)) (r : Bool) (w : World) (hr0 : Kd.C k25 w A0 l0.length l0) (hc0 : l0.length ≤ c0) (HLAID : Laid w) (h : fairwaylaw4_PropBack.f k l0 = some r) :
  Calls Tryd.prog 7 #[.slice A0 l0.length c0] w fun e w' => e = .returned (.bool r) ∧ Below w.heap.size w w' := by
 have hu25 := Tryd.underlying25; have HR0 := Aside0.mk hr0; have HC0 := Aside0.mk hc0; clear hr0 hc0; have HB := Aside0.mk (Below.refl w.heap.size w); have H : (fairwaylaw4_PropBack.l0 k l0 0) = some r := h; clear h; have H' := Aside0.mk H; clear H; go_enter Tryd.func7, Tryd.ntmps7
 go_wp2
 go_loopg [3] k (fun kq v3 w' => ∃ (x3_1 : Int), v3 = .int .i64 x3_1 ∧ Aside0 (fairwaylaw4_PropBack.l0 kq l0 x3_1 = some r) ∧ Aside0 (kq ≤ k) ∧ Aside0 (Below w.heap.size w w'))
 case atStart => exact ⟨(0), zz24, H', ⟨Nat.le_refl _⟩, ⟨zz12⟩⟩
 case round =>
  as_aux_lemma =>
   clear H'; obtain ⟨x3_1, rfl, HA, HK1, HB⟩ := hrel; cases gk with
   | zero => exact absurd HA.out (by simp [fairwaylaw4_PropBack.l0])
   | succ k1 =>
    have H := HA.out; clear HA; simp only [fairwaylaw4_PropBack.l0] at H; have HC2 := Aside0.mk H; clear H; go_upto_region 2 with (fail)
    go_cut [26] (fun v26 wc => ∃ (kq : Nat) (x26_1 : Bool), v26 = .bool x26_1 ∧ Aside0 (fairwaylaw4_PropBack.j1 kq l0 x3_1 x26_1 = some r) ∧ Aside0 (kq ≤ k1) ∧ Aside0 (Below w.heap.size w wc))
    case first =>
     have H := HC2.out; clear HC2; by_cases c3 : x3_1 < (l0.length : Int)
     ·
      rw [if_pos c3] at H; have c3b0 : decide (x3_1 < (l0.length : Int)) = true := decide_eq_true c3; clear c3; (first | rw [c3b0] | (simp only [i64_w, i32_w]; rw [c3b0]) | skip)
      have H' := Aside0.mk H; clear H; go_wp2
      go_meet
      case rel => exact ⟨_, (decide (x3_1 < 10)), zz24, H', ⟨by have := HK1.out; first | omega | exact Nat.le_refl _⟩, ⟨zz12⟩⟩
     rw [if_neg c3] at H; have c3b0 : decide (x3_1 < (l0.length : Int)) = false := decide_eq_false c3; clear c3; (first | rw [c3b0] | (simp only [i64_w, i32_w]; rw [c3b0]) | skip)
     have H' := Aside0.mk H; clear H; go_wp2
     go_meet
     case rel => exact ⟨_, (false), zz24, H', ⟨by have := HK1.out; first | omega | exact Nat.le_refl _⟩, ⟨zz12⟩⟩
    case rest =>
     as_aux_lemma =>
      clear HC2; (try clear p2); (try clear c3); (try clear c3b0); obtain ⟨kq, x26_1, rfl, HA, HJ1, HB⟩ := hcut; cases kq with
      | zero => exact absurd HA.out (by simp [fairwaylaw4_PropBack.j1])
      | succ kj1 =>
       have H := HA.out; clear HA; simp only [fairwaylaw4_PropBack.j1] at H; by_cases c4 : x26_1 = true
       ·
        subst c4; have H1 : (if 0 ≤ x3_1 then (if x3_1 < (l0.length : Int) then ((fairwaylaw4_heavy.f kj1 ((rd_T25 l0 x3_1).f0) ((rd_T25 l0 x3_1).f1) ((rd_T25 l0 x3_1).f2)).bind fun t509 => (if t509 = true then (some true) else ((prop_Bytes.f kj1 ((rd_T25 l0 x3_1).f0) ((rd_T25 l0 x3_1).f1)).bind fun bt510 => ((fairwaylaw4_num.f bt510.2).bind fun t512 => (if t512 = 0 then (if bt510.1.size + ((rd_T25 l0 x3_1).f2).size ≤ 9223372036854775807 then ((prop_Take.f kj1 ((rd_T25 l0 x3_1).f0) (bt510.1 ++ ((rd_T25 l0 x3_1).f2))).bind fun bt513 => ((fairwaylaw4_num.f bt513.2.2).bind fun t518 => (if t518 = 0 then (if bt513.2.1 = (bt510.1.size : Int) then ((fairwayref0_EqProps.f kj1 bt513.1 ((rd_T25 l0 x3_1).f1)).bind fun t519 => (fairwaylaw4_PropBack.j2 kj1 l0 x3_1 bt510.1 (!t519) ((rd_T25 l0 x3_1).f0) ((rd_T25 l0 x3_1).f1) ((rd_T25 l0 x3_1).f2))) else (fairwaylaw4_PropBack.j2 kj1 l0 x3_1 bt510.1 true ((rd_T25 l0 x3_1).f0) ((rd_T25 l0 x3_1).f1) ((rd_T25 l0 x3_1).f2))) else (fairwaylaw4_PropBack.j2 kj1 l0 x3_1 bt510.1 true ((rd_T25 l0 x3_1).f0) ((rd_T25 l0 x3_1).f1) ((rd_T25 l0 x3_1).f2))))) else (none)) else (fairwaylaw4_PropBack.j4 kj1 l0 x3_1 ((rd_T25 l0 x3_1).f0) ((rd_T25 l0 x3_1).f1) ((rd_T25 l0 x3_1).f2))))))) else (none)) else (none)) = some r := by rw [if_pos rfl] at H; exact H
        clear H; have H := H1; clear H1; by_cases c5 : 0 ≤ x3_1
        ·
         rw [if_pos c5] at H; have c5b0 : decide (0 ≤ x3_1) = true := decide_eq_true c5; clear c5; by_cases c6 : x3_1 < (l0.length : Int)
         ·
          rw [if_pos c6] at H; have c6b0 : decide (x3_1 < (l0.length : Int)) = true := decide_eq_true c6; clear c6; replace H := Option.bind_eq_some_iff.mp H; obtain ⟨t509, A70, H⟩ := H; replace H : (if t509 = true then (some true) else ((prop_Bytes.f kj1 ((rd_T25 l0 x3_1).f0) ((rd_T25 l0 x3_1).f1)).bind fun bt510 => ((fairwaylaw4_num.f bt510.2).bind fun t512 => (if t512 = 0 then (if bt510.1.size + ((rd_T25 l0 x3_1).f2).size ≤ 9223372036854775807 then ((prop_Take.f kj1 ((rd_T25 l0 x3_1).f0) (bt510.1 ++ ((rd_T25 l0 x3_1).f2))).bind fun bt513 => ((fairwaylaw4_num.f bt513.2.2).bind fun t518 => (if t518 = 0 then (if bt513.2.1 = (bt510.1.size : Int) then ((fairwayref0_EqProps.f kj1 bt513.1 ((rd_T25 l0 x3_1).f1)).bind fun t519 => (fairwaylaw4_PropBack.j2 kj1 l0 x3_1 bt510.1 (!t519) ((rd_T25 l0 x3_1).f0) ((rd_T25 l0 x3_1).f1) ((rd_T25 l0 x3_1).f2))) else (fairwaylaw4_PropBack.j2 kj1 l0 x3_1 bt510.1 true ((rd_T25 l0 x3_1).f0) ((rd_T25 l0 x3_1).f1) ((rd_T25 l0 x3_1).f2))) else (fairwaylaw4_PropBack.j2 kj1 l0 x3_1 bt510.1 true ((rd_T25 l0 x3_1).f0) ((rd_T25 l0 x3_1).f1) ((rd_T25 l0 x3_1).f2))))) else (none)) else (fairwaylaw4_PropBack.j4 kj1 l0 x3_1 ((rd_T25 l0 x3_1).f0) ((rd_T25 l0 x3_1).f1) ((rd_T25 l0 x3_1).f2)))))) = some r := H; have A7 := Aside0.mk A70; clear A70; by_cases c8 : t509 = true
          ·
           subst c8; have H1 : (some true) = some r := by rw [if_pos rfl] at H; exact H
           clear H; have H := H1; clear H1; obtain rfl := Option.some.inj H; have p507 : 0 ≤ (x3_1 : Int) := of_decide_eq_true zz23; have q507 : x3_1 < (l0.length : Int) := of_decide_eq_true zz23; obtain ⟨ad507, A507_1, c507_1, e507, hx507_0, hx507_1, hx507_2, hl507_1, hi507_1⟩ := at_T25 HR0.out x3_1 p507 q507; cases e507; replace hx507_0 := (HB.out.cell (World.block_lt_of_cell? w _ hx507_0)).trans hx507_0; replace hx507_1 := (HB.out.cell (World.block_lt_of_cell? w _ hx507_1)).trans hx507_1; replace hx507_2 := (HB.out.cell (World.block_lt_of_cell? w _ hx507_2)).trans hx507_2; have HR507_1 := Aside0.mk hi507_1; have HC507_1 := Aside0.mk hl507_1; clear hi507_1 hl507_1; replace p507 := eq_true p507; replace q507 := eq_true q507; go_wp2_with (first | ((with_reducible refine gate_dst (N := 4) rfl ?_); (try (refine gate_guard (by rfl) ?_; dsimp only)); refine box_event ?hg (N := 4) ?hd (cs := #[.int .i64 0, .slice none 0 0, .string (⟨#[]⟩ : ByteArray)]) (t := 25) ?hr ?_; (case hd => rfl); (case hg => rfl); (case hr => first | (go_simp; done) | (go_simp; rfl)); intro gb508 hg w9 hbox hb; have n0_ := Aside0.mk (below_step zz12 hb); have n1_ := Aside0.mk (hbox); have n2_ := Aside0.mk ((by rw [hg]; exact (below_size zz12) : w.heap.size ≤ gb508)); have n3_ := Aside0.mk ((by rw [hg]; exact (below_size zz12) : w.heap.size ≤ gb508)); clear HB; have HB := n0_; have BK508 := n1_; have GW508 := n2_; have GE508 := n3_; clear n0_ n1_ n2_ n3_; clear hb hbox hg; have hcz10_0 : w9.cell? ⟨gb508, 0, none⟩ = some (.int .i64 0) := (blk_cell BK508.out 0).trans rfl; have hcz10_1 : w9.cell? ⟨gb508, 1, none⟩ = some (.slice none 0 0) := (blk_cell BK508.out 1).trans rfl; have hcz10_2 : w9.cell? ⟨gb508, 2, none⟩ = some (.string (⟨#[]⟩ : ByteArray)) := (blk_cell BK508.out 2).trans rfl; have hfz10_0 := blk_frozen BK508.out 0; have hfz10_1 := blk_frozen BK508.out 1; have hfz10_2 := blk_frozen BK508.out 2) | ((with_reducible refine gate_callee (f := 15) rfl ?_); refine goesL_ (some 34) rfl rfl Tryd.func15 zz26 rfl #[.agg #[.int .i64 ((rd_T25 l0 x3_1).f0), .slice A507_1 ((rd_T25 l0 x3_1).f1).length c507_1, .string ((rd_T25 l0 x3_1).f2)]] rfl zz11 ?_; (with_reducible refine (fairwaylaw4_heavy.calls kj1 ((rd_T25 l0 x3_1).f0) _ _ ((rd_T25 l0 x3_1).f1) ((rd_T25 l0 x3_1).f2) true _ ?side1 ?side2 A7.out).mono ?_); (case side1 => exact Kd.C_below HR507_1.out zz8); (case side2 => exact HC507_1.out); rintro e w11 ⟨rfl, hb⟩; refine ⟨_, rfl, ?_⟩; have n0_ := Aside0.mk (blk_below (g := gb508) (o := .cells #[.int .i64 ((rd_T25 l0 x3_1).f0), .slice A507_1 ((rd_T25 l0 x3_1).f1).length c507_1, .string ((rd_T25 l0 x3_1).f2)] 25 (0, 0)) (by (with_reducible repeat (first | refine blk_drewN ?_ _ | refine blk_drew ?_ | refine blk_alloc ?_ _)); refine blk_put (cs := #[.int .i64 ((rd_T25 l0 x3_1).f0), .slice A507_1 ((rd_T25 l0 x3_1).f1).length c507_1, .string (⟨#[]⟩ : ByteArray)]) ?_ 2 _ rfl; (with_reducible repeat (first | refine blk_drewN ?_ _ | refine blk_drew ?_ | refine blk_alloc ?_ _)); refine blk_put (cs := #[.int .i64 ((rd_T25 l0 x3_1).f0), .slice none 0 0, .string (⟨#[]⟩ : ByteArray)]) ?_ 1 _ rfl; (with_reducible repeat (first | refine blk_drewN ?_ _ | refine blk_drew ?_ | refine blk_alloc ?_ _)); refine blk_put (cs := #[.int .i64 0, .slice none 0 0, .string (⟨#[]⟩ : ByteArray)]) ?_ 0 _ rfl; (with_reducible repeat (first | refine blk_drewN ?_ _ | refine blk_drew ?_ | refine blk_alloc ?_ _)); exact BK508.out) hb); have n1_ := Aside0.mk (below_step zz8 hb); clear BK508; clear HB; have BK508 := n0_; have HB := n1_; clear n0_ n1_; (try clear hb); (try clear hb2); (try clear hk); (try clear hi)))
           go_ret
           exact ⟨zz20, zz8⟩
          replace c8 := Bool.eq_false_iff.mpr c8; subst c8; have H1 : ((prop_Bytes.f kj1 ((rd_T25 l0 x3_1).f0) ((rd_T25 l0 x3_1).f1)).bind fun bt510 => ((fairwaylaw4_num.f bt510.2).bind fun t512 => (if t512 = 0 then (if bt510.1.size + ((rd_T25 l0 x3_1).f2).size ≤ 9223372036854775807 then ((prop_Take.f kj1 ((rd_T25 l0 x3_1).f0) (bt510.1 ++ ((rd_T25 l0 x3_1).f2))).bind fun bt513 => ((fairwaylaw4_num.f bt513.2.2).bind fun t518 => (if t518 = 0 then (if bt513.2.1 = (bt510.1.size : Int) then ((fairwayref0_EqProps.f kj1 bt513.1 ((rd_T25 l0 x3_1).f1)).bind fun t519 => (fairwaylaw4_PropBack.j2 kj1 l0 x3_1 bt510.1 (!t519) ((rd_T25 l0 x3_1).f0) ((rd_T25 l0 x3_1).f1) ((rd_T25 l0 x3_1).f2))) else (fairwaylaw4_PropBack.j2 kj1 l0 x3_1 bt510.1 true ((rd_T25 l0 x3_1).f0) ((rd_T25 l0 x3_1).f1) ((rd_T25 l0 x3_1).f2))) else (fairwaylaw4_PropBack.j2 kj1 l0 x3_1 bt510.1 true ((rd_T25 l0 x3_1).f0) ((rd_T25 l0 x3_1).f1) ((rd_T25 l0 x3_1).f2))))) else (none)) else (fairwaylaw4_PropBack.j4 kj1 l0 x3_1 ((rd_T25 l0 x3_1).f0) ((rd_T25 l0 x3_1).f1) ((rd_T25 l0 x3_1).f2))))) = some r := by rw [if_neg (show ¬ (false = true) by decide)] at H; exact H
          clear H; have H := H1; clear H1; replace H := Option.bind_eq_some_iff.mp H; obtain ⟨⟨t510, t511⟩, A120, H⟩ := H; replace H : ((fairwaylaw4_num.f t511).bind fun t512 => (if t512 = 0 then (if t510.size + ((rd_T25 l0 x3_1).f2).size ≤ 9223372036854775807 then ((prop_Take.f kj1 ((rd_T25 l0 x3_1).f0) (t510 ++ ((rd_T25 l0 x3_1).f2))).bind fun bt513 => ((fairwaylaw4_num.f bt513.2.2).bind fun t518 => (if t518 = 0 then (if bt513.2.1 = (t510.size : Int) then ((fairwayref0_EqProps.f kj1 bt513.1 ((rd_T25 l0 x3_1).f1)).bind fun t519 => (fairwaylaw4_PropBack.j2 kj1 l0 x3_1 t510 (!t519) ((rd_T25 l0 x3_1).f0) ((rd_T25 l0 x3_1).f1) ((rd_T25 l0 x3_1).f2))) else (fairwaylaw4_PropBack.j2 kj1 l0 x3_1 t510 true ((rd_T25 l0 x3_1).f0) ((rd_T25 l0 x3_1).f1) ((rd_T25 l0 x3_1).f2))) else (fairwaylaw4_PropBack.j2 kj1 l0 x3_1 t510 true ((rd_T25 l0 x3_1).f0) ((rd_T25 l0 x3_1).f1) ((rd_T25 l0 x3_1).f2))))) else (none)) else (fairwaylaw4_PropBack.j4 kj1 l0 x3_1 ((rd_T25 l0 x3_1).f0) ((rd_T25 l0 x3_1).f1) ((rd_T25 l0 x3_1).f2)))) = some r := H; have A12 := Aside0.mk A120; clear A120; replace H := Option.bind_eq_some_iff.mp H; obtain ⟨t512, A130, H⟩ := H; replace H : (if t512 = 0 then (if t510.size + ((rd_T25 l0 x3_1).f2).size ≤ 9223372036854775807 then ((prop_Take.f kj1 ((rd_T25 l0 x3_1).f0) (t510 ++ ((rd_T25 l0 x3_1).f2))).bind fun bt513 => ((fairwaylaw4_num.f bt513.2.2).bind fun t518 => (if t518 = 0 then (if bt513.2.1 = (t510.size : Int) then ((fairwayref0_EqProps.f kj1 bt513.1 ((rd_T25 l0 x3_1).f1)).bind fun t519 => (fairwaylaw4_PropBack.j2 kj1 l0 x3_1 t510 (!t519) ((rd_T25 l0 x3_1).f0) ((rd_T25 l0 x3_1).f1) ((rd_T25 l0 x3_1).f2))) else (fairwaylaw4_PropBack.j2 kj1 l0 x3_1 t510 true ((rd_T25 l0 x3_1).f0) ((rd_T25 l0 x3_1).f1) ((rd_T25 l0 x3_1).f2))) else (fairwaylaw4_PropBack.j2 kj1 l0 x3_1 t510 true ((rd_T25 l0 x3_1).f0) ((rd_T25 l0 x3_1).f1) ((rd_T25 l0 x3_1).f2))))) else (none)) else (fairwaylaw4_PropBack.j4 kj1 l0 x3_1 ((rd_T25 l0 x3_1).f0) ((rd_T25 l0 x3_1).f1) ((rd_T25 l0 x3_1).f2))) = some r := H; have A13 := Aside0.mk A130; clear A130; have HC14 := Aside0.mk H; clear H; have p507 : 0 ≤ (x3_1 : Int) := of_decide_eq_true zz23; have q507 : x3_1 < (l0.length : Int) := of_decide_eq_true zz23; obtain ⟨ad507, A507_1, c507_1, e507, hx507_0, hx507_1, hx507_2, hl507_1, hi507_1⟩ := at_T25 HR0.out x3_1 p507 q507; cases e507; replace hx507_0 := (HB.out.cell (World.block_lt_of_cell? w _ hx507_0)).trans hx507_0; replace hx507_1 := (HB.out.cell (World.block_lt_of_cell? w _ hx507_1)).trans hx507_1; replace hx507_2 := (HB.out.cell (World.block_lt_of_cell? w _ hx507_2)).trans hx507_2; have HR507_1 := Aside0.mk hi507_1; have HC507_1 := Aside0.mk hl507_1; clear hi507_1 hl507_1; replace p507 := eq_true p507; replace q507 := eq_true q507; go_upto_if 45 with (first | ((with_reducible refine gate_dst (N := 4) rfl ?_); (try (refine gate_guard (by rfl) ?_; dsimp only)); refine box_event ?hg (N := 4) ?hd (cs := #[.int .i64 0, .slice none 0 0, .string (⟨#[]⟩ : ByteArray)]) (t := 25) ?hr ?_; (case hd => rfl); (case hg => rfl); (case hr => first | (go_simp; done) | (go_simp; rfl)); intro gb508 hg w15 hbox hb; have n0_ := Aside0.mk (below_step zz12 hb); have n1_ := Aside0.mk (hbox); have n2_ := Aside0.mk ((by rw [hg]; exact (below_size zz12) : w.heap.size ≤ gb508)); have n3_ := Aside0.mk ((by rw [hg]; exact (below_size zz12) : w.heap.size ≤ gb508)); clear HB; have HB := n0_; have BK508 := n1_; have GW508 := n2_; have GE508 := n3_; clear n0_ n1_ n2_ n3_; clear hb hbox hg; have hcz16_0 : w15.cell? ⟨gb508, 0, none⟩ = some (.int .i64 0) := (blk_cell BK508.out 0).trans rfl; have hcz16_1 : w15.cell? ⟨gb508, 1, none⟩ = some (.slice none 0 0) := (blk_cell BK508.out 1).trans rfl; have hcz16_2 : w15.cell? ⟨gb508, 2, none⟩ = some (.string (⟨#[]⟩ : ByteArray)) := (blk_cell BK508.out 2).trans rfl; have hfz16_0 := blk_frozen BK508.out 0; have hfz16_1 := blk_frozen BK508.out 1; have hfz16_2 := blk_frozen BK508.out 2) | ((with_reducible refine gate_callee (f := 15) rfl ?_); refine goesL_ (some 34) rfl rfl Tryd.func15 zz26 rfl #[.agg #[.int .i64 ((rd_T25 l0 x3_1).f0), .slice A507_1 ((rd_T25 l0 x3_1).f1).length c507_1, .string ((rd_T25 l0 x3_1).f2)]] rfl zz11 ?_; (with_reducible refine (fairwaylaw4_heavy.calls kj1 ((rd_T25 l0 x3_1).f0) _ _ ((rd_T25 l0 x3_1).f1) ((rd_T25 l0 x3_1).f2) false _ ?side1 ?side2 A7.out).mono ?_); (case side1 => exact Kd.C_below HR507_1.out zz8); (case side2 => exact HC507_1.out); rintro e w17 ⟨rfl, hb⟩; refine ⟨_, rfl, ?_⟩; have n0_ := Aside0.mk (blk_below (g := gb508) (o := .cells #[.int .i64 ((rd_T25 l0 x3_1).f0), .slice A507_1 ((rd_T25 l0 x3_1).f1).length c507_1, .string ((rd_T25 l0 x3_1).f2)] 25 (0, 0)) (by (with_reducible repeat (first | refine blk_drewN ?_ _ | refine blk_drew ?_ | refine blk_alloc ?_ _)); refine blk_put (cs := #[.int .i64 ((rd_T25 l0 x3_1).f0), .slice A507_1 ((rd_T25 l0 x3_1).f1).length c507_1, .string (⟨#[]⟩ : ByteArray)]) ?_ 2 _ rfl; (with_reducible repeat (first | refine blk_drewN ?_ _ | refine blk_drew ?_ | refine blk_alloc ?_ _)); refine blk_put (cs := #[.int .i64 ((rd_T25 l0 x3_1).f0), .slice none 0 0, .string (⟨#[]⟩ : ByteArray)]) ?_ 1 _ rfl; (with_reducible repeat (first | refine blk_drewN ?_ _ | refine blk_drew ?_ | refine blk_alloc ?_ _)); refine blk_put (cs := #[.int .i64 0, .slice none 0 0, .string (⟨#[]⟩ : ByteArray)]) ?_ 0 _ rfl; (with_reducible repeat (first | refine blk_drewN ?_ _ | refine blk_drew ?_ | refine blk_alloc ?_ _)); exact BK508.out) hb); have n1_ := Aside0.mk (below_step zz8 hb); clear BK508; clear HB; have BK508 := n0_; have HB := n1_; clear n0_ n1_; (try clear hb); (try clear hb2); (try clear hk); (try clear hi); have hcz18_0 : w17.cell? ⟨gb508, 0, none⟩ = some (.int .i64 ((rd_T25 l0 x3_1).f0)) := (blk_cell BK508.out 0).trans rfl; have hcz18_1 : w17.cell? ⟨gb508, 1, none⟩ = some (.slice A507_1 ((rd_T25 l0 x3_1).f1).length c507_1) := (blk_cell BK508.out 1).trans rfl; have hcz18_2 : w17.cell? ⟨gb508, 2, none⟩ = some (.string ((rd_T25 l0 x3_1).f2)) := (blk_cell BK508.out 2).trans rfl; have hfz18_0 := blk_frozen BK508.out 0; have hfz18_1 := blk_frozen BK508.out 1; have hfz18_2 := blk_frozen BK508.out 2) | ((with_reducible refine gate_callee (f := 17) rfl ?_); refine goesL_ (some 40) rfl rfl Tryd.func17 zz26 rfl #[.int .i64 ((rd_T25 l0 x3_1).f0), .slice A507_1 ((rd_T25 l0 x3_1).f1).length c507_1] rfl zz11 ?_; (with_reducible refine (prop_Bytes.calls kj1 ((rd_T25 l0 x3_1).f0) _ _ ((rd_T25 l0 x3_1).f1) t510 t511 _ ?side1 ?side2 zz3 A12.out).mono ?_); (case side1 => repeat (first | exact (Kd.C_below HR507_1.out HB.out) | (with_reducible refine Kd.C_alloc ?_ _) | (with_reducible refine Kd.C_drewN ?_ _) | (with_reducible refine Kd.C_drew ?_))); (case side2 => exact HC507_1.out); rintro e w19 ⟨rfl, hb⟩; refine ⟨_, rfl, ?_⟩; have n0_ := Aside0.mk (blk_below (g := gb508) (o := .cells #[.int .i64 ((rd_T25 l0 x3_1).f0), .slice A507_1 ((rd_T25 l0 x3_1).f1).length c507_1, .string ((rd_T25 l0 x3_1).f2)] 25 (0, 0)) zz16 hb); have n1_ := Aside0.mk (below_step zz8 hb); clear BK508; clear HB; have BK508 := n0_; have HB := n1_; clear n0_ n1_; (try clear hb); (try clear hb2); (try clear hk); (try clear hi)) | ((with_reducible refine gate_callee (f := 13) rfl ?_); refine goesL_ (some 44) rfl rfl Tryd.func13 zz26 rfl #[.int .i64 t511] rfl zz11 ?_; (with_reducible refine (fairwaylaw4_num.calls t511 t512 _ A13.out).mono ?_); rintro e w' ⟨rfl, ⟨nd, rfl⟩⟩; refine ⟨_, rfl, ?_⟩))
          (try simp only [Act.put, List.setIfInBounds_toArray, List.set_cons_zero, List.set_cons_succ])
          go_cut [] (fun wc => ∃ (kq : Nat), Aside0 (fairwaylaw4_PropBack.j4 kq l0 x3_1 ((rd_T25 l0 x3_1).f0) ((rd_T25 l0 x3_1).f1) ((rd_T25 l0 x3_1).f2) = some r) ∧ Aside0 (kq ≤ kj1) ∧ Aside0 (wc.heap[gb508]? = some (.cells #[.int .i64 ((rd_T25 l0 x3_1).f0), (.slice A507_1 ((rd_T25 l0 x3_1).f1).length c507_1), .string ((rd_T25 l0 x3_1).f2)] 25 (0, 0))) ∧ Aside0 (Below w.heap.size w wc))
          case first =>
           have H := HC14.out; clear HC14; by_cases c20 : t512 = 0
           ·
            rw [if_pos c20] at H; have c20b0 : (t512 == 0) = true := beq_iff_eq.mpr c20; have c20b1 : (t512 != 0) = false := bne_eq_false_iff_eq.mpr c20; clear c20; (first | rw [c20b0] | (simp only [i64_w, i32_w]; rw [c20b0]) | skip)
            by_cases c21 : t510.size + ((rd_T25 l0 x3_1).f2).size ≤ 9223372036854775807
            ·
             rw [if_pos c21] at H; have c21b0 := eq_true c21; have c21b1 : decide (t510.size + ((rd_T25 l0 x3_1).f2).size ≤ 9223372036854775807) = true := decide_eq_true c21; try have c21b2 : (9223372036854775807 < t510.size + ((rd_T25 l0 x3_1).f2).size) = False := eq_false (Nat.not_lt.2 c21)
             replace H := Option.bind_eq_some_iff.mp H; obtain ⟨⟨t513, t514, t515⟩, A220, H⟩ := H; replace H : ((fairwaylaw4_num.f t515).bind fun t518 => (if t518 = 0 then (if t514 = (t510.size : Int) then ((fairwayref0_EqProps.f kj1 t513 ((rd_T25 l0 x3_1).f1)).bind fun t519 => (fairwaylaw4_PropBack.j2 kj1 l0 x3_1 t510 (!t519) ((rd_T25 l0 x3_1).f0) ((rd_T25 l0 x3_1).f1) ((rd_T25 l0 x3_1).f2))) else (fairwaylaw4_PropBack.j2 kj1 l0 x3_1 t510 true ((rd_T25 l0 x3_1).f0) ((rd_T25 l0 x3_1).f1) ((rd_T25 l0 x3_1).f2))) else (fairwaylaw4_PropBack.j2 kj1 l0 x3_1 t510 true ((rd_T25 l0 x3_1).f0) ((rd_T25 l0 x3_1).f1) ((rd_T25 l0 x3_1).f2)))) = some r := H; have A22 := Aside0.mk A220; clear A220; have HC23 := Aside0.mk H; clear H; have hcz24_0 : w19.cell? ⟨gb508, 0, none⟩ = some (.int .i64 ((rd_T25 l0 x3_1).f0)) := (blk_cell BK508.out 0).trans rfl; have hcz24_1 : w19.cell? ⟨gb508, 1, none⟩ = some (.slice A507_1 ((rd_T25 l0 x3_1).f1).length c507_1) := (blk_cell BK508.out 1).trans rfl; have hcz24_2 : w19.cell? ⟨gb508, 2, none⟩ = some (.string ((rd_T25 l0 x3_1).f2)) := (blk_cell BK508.out 2).trans rfl; have hfz24_0 := blk_frozen BK508.out 0; have hfz24_1 := blk_frozen BK508.out 1; have hfz24_2 := blk_frozen BK508.out 2; go_upto_region 10 with (first | ((with_reducible refine gate_callee (f := 22) rfl ?_); refine goesL_ (some 53) rfl rfl Tryd.func22 zz26 rfl #[.int .i64 ((rd_T25 l0 x3_1).f0), .string (t510 ++ ((rd_T25 l0 x3_1).f2))] rfl zz11 ?_; (with_reducible refine (prop_Take.calls kj1 ((rd_T25 l0 x3_1).f0) (t510 ++ ((rd_T25 l0 x3_1).f2)) t513 t514 t515 _ zz3 A22.out).mono ?_); rintro e w25 ⟨v516, rfl, ho0, hb⟩; refine ⟨_, rfl, ?_⟩; have n0_ := Aside0.mk (Kd.R_lower ho0 (below_size zz8)); have n1_ := Aside0.mk (blk_below (g := gb508) (o := .cells #[.int .i64 ((rd_T25 l0 x3_1).f0), .slice A507_1 ((rd_T25 l0 x3_1).f1).length c507_1, .string ((rd_T25 l0 x3_1).f2)] 25 (0, 0)) zz16 hb); have n2_ := Aside0.mk (below_step zz8 hb); clear BK508; clear HB; have HO517 := n0_; have BK508 := n1_; have HB := n2_; clear n0_ n1_ n2_; (try clear hb); (try clear hb2); (try clear hk); (try clear hi); (try clear ho0)))
             (try simp only [Act.put, List.setIfInBounds_toArray, List.set_cons_zero, List.set_cons_succ])
             go_cut [72] (fun v72 wc => ∃ (kq : Nat) (x72_22 : Bool), v72 = .bool x72_22 ∧ Aside0 (fairwaylaw4_PropBack.j2 kq l0 x3_1 t510 x72_22 ((rd_T25 l0 x3_1).f0) ((rd_T25 l0 x3_1).f1) ((rd_T25 l0 x3_1).f2) = some r) ∧ Aside0 (kq ≤ kj1) ∧ Aside0 (wc.heap[gb508]? = some (.cells #[.int .i64 ((rd_T25 l0 x3_1).f0), (.slice A507_1 ((rd_T25 l0 x3_1).f1).length c507_1), .string ((rd_T25 l0 x3_1).f2)] 25 (0, 0))) ∧ Aside0 (Below w.heap.size w wc))
             case first =>
              have H := HC23.out; clear HC23; replace H := Option.bind_eq_some_iff.mp H; obtain ⟨t518, A260, H⟩ := H; replace H : (if t518 = 0 then (if t514 = (t510.size : Int) then ((fairwayref0_EqProps.f kj1 t513 ((rd_T25 l0 x3_1).f1)).bind fun t519 => (fairwaylaw4_PropBack.j2 kj1 l0 x3_1 t510 (!t519) ((rd_T25 l0 x3_1).f0) ((rd_T25 l0 x3_1).f1) ((rd_T25 l0 x3_1).f2))) else (fairwaylaw4_PropBack.j2 kj1 l0 x3_1 t510 true ((rd_T25 l0 x3_1).f0) ((rd_T25 l0 x3_1).f1) ((rd_T25 l0 x3_1).f2))) else (fairwaylaw4_PropBack.j2 kj1 l0 x3_1 t510 true ((rd_T25 l0 x3_1).f0) ((rd_T25 l0 x3_1).f1) ((rd_T25 l0 x3_1).f2))) = some r := H; have A26 := Aside0.mk A260; clear A260; by_cases c27 : t518 = 0
              ·
               rw [if_pos c27] at H; have c27b0 : (t518 == 0) = true := beq_iff_eq.mpr c27; have c27b1 : (t518 != 0) = false := bne_eq_false_iff_eq.mpr c27; clear c27; (first | rw [c27b0] | (simp only [i64_w, i32_w]; rw [c27b0]) | skip)
               by_cases c28 : t514 = (t510.size : Int)
               ·
                rw [if_pos c28] at H; have c28b0 : (t514 == (t510.size : Int)) = true := beq_iff_eq.mpr c28; have c28b1 : (t514 != (t510.size : Int)) = false := bne_eq_false_iff_eq.mpr c28; clear c28; replace H := Option.bind_eq_some_iff.mp H; obtain ⟨t519, A290, H⟩ := H; replace H : (fairwaylaw4_PropBack.j2 kj1 l0 x3_1 t510 (!t519) ((rd_T25 l0 x3_1).f0) ((rd_T25 l0 x3_1).f1) ((rd_T25 l0 x3_1).f2)) = some r := H; have A29 := Aside0.mk A290; clear A290; have H' := Aside0.mk H; clear H; go_wp2_with (first | ((with_reducible refine gate_callee (f := 13) rfl ?_); refine goesL_ (some 58) rfl rfl Tryd.func13 zz26 rfl #[.int .i64 t515] rfl zz11 ?_; (with_reducible refine (fairwaylaw4_num.calls t515 t518 _ A26.out).mono ?_); rintro e w' ⟨rfl, ⟨nd, rfl⟩⟩; refine ⟨_, rfl, ?_⟩; have hcz30_0 : w25.cell? ⟨gb508, 0, none⟩ = some (.int .i64 ((rd_T25 l0 x3_1).f0)) := (blk_cell BK508.out 0).trans rfl; have hcz30_1 : w25.cell? ⟨gb508, 1, none⟩ = some (.slice A507_1 ((rd_T25 l0 x3_1).f1).length c507_1) := (blk_cell BK508.out 1).trans rfl; have hcz30_2 : w25.cell? ⟨gb508, 2, none⟩ = some (.string ((rd_T25 l0 x3_1).f2)) := (blk_cell BK508.out 2).trans rfl; have hfz30_0 := blk_frozen BK508.out 0; have hfz30_1 := blk_frozen BK508.out 1; have hfz30_2 := blk_frozen BK508.out 2; obtain ⟨Ao31, co31, eo31⟩ := Kd.R_slice HO517.out; subst eo31) | (go_at_call 21; (with_reducible refine (fairwayref0_EqProps.calls kj1 _ _ t513 _ _ ((rd_T25 l0 x3_1).f1) t519 _ ?side1 ?side2 ?side3 ?side4 A29.out).mono ?_); (case side1 => repeat (first | exact (Kd.R_reads' HO517.out).2.2 | (with_reducible refine Kd.C_alloc ?_ _) | (with_reducible refine Kd.C_drewN ?_ _) | (with_reducible refine Kd.C_drew ?_))); (case side2 => exact (Kd.R_reads' HO517.out).2.1); (case side3 => repeat (first | exact (Kd.C_below HR507_1.out zz8) | (with_reducible refine Kd.C_alloc ?_ _) | (with_reducible refine Kd.C_drewN ?_ _) | (with_reducible refine Kd.C_drew ?_))); (case side4 => exact HC507_1.out); rintro e w' ⟨rfl, ⟨nd, rfl⟩⟩))
                go_meet
                case rel => exact ⟨_, (!t519), zz24, H', ⟨by have := HK1.out; have := HJ1.out; first | omega | exact Nat.le_refl _⟩, ⟨zz16⟩, ⟨zz8⟩⟩
               rw [if_neg c28] at H; have c28b0 : (t514 == (t510.size : Int)) = false := beq_eq_false_iff_ne.mpr c28; have c28b1 : (t514 != (t510.size : Int)) = true := bne_iff_ne.mpr c28; have H' := Aside0.mk H; clear H; go_wp2_with (first | ((with_reducible refine gate_callee (f := 13) rfl ?_); refine goesL_ (some 58) rfl rfl Tryd.func13 zz26 rfl #[.int .i64 t515] rfl zz11 ?_; (with_reducible refine (fairwaylaw4_num.calls t515 t518 _ A26.out).mono ?_); rintro e w' ⟨rfl, ⟨nd, rfl⟩⟩; refine ⟨_, rfl, ?_⟩))
               go_meet
               case rel => exact ⟨_, (true), zz24, H', ⟨by have := HK1.out; have := HJ1.out; first | omega | exact Nat.le_refl _⟩, ⟨zz16⟩, ⟨zz8⟩⟩
              rw [if_neg c27] at H; have c27b0 : (t518 == 0) = false := beq_eq_false_iff_ne.mpr c27; have c27b1 : (t518 != 0) = true := bne_iff_ne.mpr c27; (first | rw [c27b0] | (simp only [i64_w, i32_w]; rw [c27b0]) | skip)
              have H' := Aside0.mk H; clear H; go_wp2_with (first | ((with_reducible refine gate_callee (f := 13) rfl ?_); refine goesL_ (some 58) rfl rfl Tryd.func13 zz26 rfl #[.int .i64 t515] rfl zz11 ?_; (with_reducible refine (fairwaylaw4_num.calls t515 t518 _ A26.out).mono ?_); rintro e w' ⟨rfl, ⟨nd, rfl⟩⟩; refine ⟨_, rfl, ?_⟩))
              go_meet
              case rel => exact ⟨_, (true), zz24, H', ⟨by have := HK1.out; have := HJ1.out; first | omega | exact Nat.le_refl _⟩, ⟨zz16⟩, ⟨zz8⟩⟩
             case rest =>
              as_aux_lemma =>
               clear HC23; (try clear c1); (try clear c2); (try clear p2); (try clear c3); (try clear c3b0); (try clear c4); (try clear c5); (try clear c5b0); (try clear p5); (try clear q5); (try clear hx5); (try clear c6); (try clear c6b0); (try clear c7); (try clear c8); (try clear c13); (try clear c15); (try clear c17); (try clear c20); (try clear c20b0); (try clear c20b1); (try clear c21); (try clear c21b0); (try clear c21b1); (try clear c21b2); (try clear c22); (try clear c27); (try clear c27b0); (try clear c27b1); (try clear c28); (try clear c28b0); (try clear c28b1); (try clear hcz10_0); (try clear hcz10_1); (try clear hcz10_2); (try clear hcz16_0); (try clear hcz16_1); (try clear hcz16_2); (try clear hcz18_0); (try clear hcz18_1); (try clear hcz18_2); (try clear hcz24_0); (try clear hcz24_1); (try clear hcz24_2); (try clear hcz30_0); (try clear hcz30_1); (try clear hcz30_2); (try clear hfz10_0); (try clear hfz10_1); (try clear hfz10_2); (try clear hfz16_0); (try clear hfz16_1); (try clear hfz16_2); (try clear hfz18_0); (try clear hfz18_1); (try clear hfz18_2); (try clear hfz24_0); (try clear hfz24_1); (try clear hfz24_2); (try clear hfz30_0); (try clear hfz30_1); (try clear hfz30_2); (try clear hx507_0); (try clear hx507_1); (try clear hx507_2); (try clear p2); (try clear p507); (try clear q507); obtain ⟨kq, x72_22, rfl, HA, HJ22, BK508, HB⟩ := hcut; cases kq with
               | zero => exact absurd HA.out (by simp [fairwaylaw4_PropBack.j2])
               | succ kj22 =>
                have H := HA.out; clear HA; simp only [fairwaylaw4_PropBack.j2] at H; by_cases c32 : x72_22 = true
                ·
                 subst c32; have H1 : (some false) = some r := by rw [if_pos rfl] at H; exact H
                 clear H; have H := H1; clear H1; obtain rfl := Option.some.inj H; go_wp2
                 go_ret
                 exact ⟨zz20, zz8⟩
                replace c32 := Bool.eq_false_iff.mpr c32; subst c32; have H1 : (fairwaylaw4_PropBack.l1 kj22 l0 x3_1 t510 0 ((rd_T25 l0 x3_1).f0) ((rd_T25 l0 x3_1).f1) ((rd_T25 l0 x3_1).f2)) = some r := by rw [if_neg (show ¬ (false = true) by decide)] at H; exact H
                clear H; have H := H1; clear H1; have H' := Aside0.mk H; clear H; go_wp2
                go_loopg [10] kj22 (fun kq v10 w' => ∃ (x10_4 : Int), v10 = .int .i64 x10_4 ∧ Aside0 (fairwaylaw4_PropBack.l1 kq l0 x3_1 t510 x10_4 ((rd_T25 l0 x3_1).f0) ((rd_T25 l0 x3_1).f1) ((rd_T25 l0 x3_1).f2) = some r) ∧ Aside0 (kq ≤ kj22) ∧ Aside0 (w'.heap[gb508]? = some (.cells #[.int .i64 ((rd_T25 l0 x3_1).f0), (.slice A507_1 ((rd_T25 l0 x3_1).f1).length c507_1), .string ((rd_T25 l0 x3_1).f2)] 25 (0, 0))) ∧ Aside0 (Below w.heap.size w w'))
                case atStart => exact ⟨(0), zz24, H', ⟨Nat.le_refl _⟩, ⟨zz16⟩, ⟨zz8⟩⟩
                case round =>
                 as_aux_lemma =>
                  clear H'; (try clear c1); (try clear c2); (try clear p2); (try clear c3); (try clear c3b0); (try clear c4); (try clear c5); (try clear c5b0); (try clear p5); (try clear q5); (try clear hx5); (try clear c6); (try clear c6b0); (try clear c7); (try clear c8); (try clear c13); (try clear c15); (try clear c17); (try clear c20); (try clear c20b0); (try clear c20b1); (try clear c21); (try clear c21b0); (try clear c21b1); (try clear c21b2); (try clear c22); (try clear c27); (try clear c27b0); (try clear c27b1); (try clear c28); (try clear c28b0); (try clear c28b1); (try clear c32); (try clear hcz10_0); (try clear hcz10_1); (try clear hcz10_2); (try clear hcz16_0); (try clear hcz16_1); (try clear hcz16_2); (try clear hcz18_0); (try clear hcz18_1); (try clear hcz18_2); (try clear hcz24_0); (try clear hcz24_1); (try clear hcz24_2); (try clear hcz30_0); (try clear hcz30_1); (try clear hcz30_2); (try clear hfz10_0); (try clear hfz10_1); (try clear hfz10_2); (try clear hfz16_0); (try clear hfz16_1); (try clear hfz16_2); (try clear hfz18_0); (try clear hfz18_1); (try clear hfz18_2); (try clear hfz24_0); (try clear hfz24_1); (try clear hfz24_2); (try clear hfz30_0); (try clear hfz30_1); (try clear hfz30_2); (try clear hx507_0); (try clear hx507_1); (try clear hx507_2); (try clear p2); (try clear p5); (try clear p507); (try clear q5); (try clear q507); obtain ⟨x10_4, rfl, HA, HK4, BK508, HB⟩ := hrel; cases gk with
                  | zero => exact absurd HA.out (by simp [fairwaylaw4_PropBack.l1])
                  | succ k4 =>
                   have H := HA.out; clear HA; simp only [fairwaylaw4_PropBack.l1] at H; by_cases c33 : x10_4 < (t510.size : Int)
                   ·
                    rw [if_pos c33] at H; have c33b0 : decide (x10_4 < (t510.size : Int)) = true := decide_eq_true c33; clear c33; by_cases c34 : 0 ≤ x10_4
                    ·
                     rw [if_pos c34] at H; have c34b0 := eq_true c34; have c34b1 : decide (0 ≤ x10_4) = true := decide_eq_true c34; clear c34; by_cases c35 : x10_4 ≤ (t510.size : Int)
                     ·
                      rw [if_pos c35] at H; have c35b0 := eq_true c35; have c35b1 : decide (x10_4 ≤ (t510.size : Int)) = true := decide_eq_true c35; clear c35; replace H := Option.bind_eq_some_iff.mp H; obtain ⟨⟨t520, t521, t522⟩, A360, H⟩ := H; replace H : ((fairwaylaw4_num.f t522).bind fun t525 => (if t525 = 7 then (fairwaylaw4_PropBack.l1 k4 l0 x3_1 t510 (wrap64 ((wrap64 (x10_4 + 1)) + (wrap64 ((t510.size : Int) / 20)))) ((rd_T25 l0 x3_1).f0) ((rd_T25 l0 x3_1).f1) ((rd_T25 l0 x3_1).f2)) else (some false))) = some r := H; have A36 := Aside0.mk A360; clear A360; replace H := Option.bind_eq_some_iff.mp H; obtain ⟨t525, A370, H⟩ := H; replace H : (if t525 = 7 then (fairwaylaw4_PropBack.l1 k4 l0 x3_1 t510 (wrap64 ((wrap64 (x10_4 + 1)) + (wrap64 ((t510.size : Int) / 20)))) ((rd_T25 l0 x3_1).f0) ((rd_T25 l0 x3_1).f1) ((rd_T25 l0 x3_1).f2)) else (some false)) = some r := H; have A37 := Aside0.mk A370; clear A370; by_cases c38 : t525 = 7
                      ·
                       rw [if_pos c38] at H; have c38b0 : (t525 == 7) = true := beq_iff_eq.mpr c38; have c38b1 : (t525 != 7) = false := bne_eq_false_iff_eq.mpr c38; clear c38; have H' := Aside0.mk H; clear H; try go_wp2
                       have n0_ := Aside0.mk (blk_drew BK508.out); have n1_ := Aside0.mk (below_drew1 HB.out); clear BK508; clear HB; have BK508 := n0_; have HB := n1_; clear n0_ n1_; refine start_ (n := 13) (S := fun w' => w'.cell? ⟨gb508, 0, none⟩ = some (.int .i64 ((rd_T25 l0 x3_1).f0)) ∧ w'.cell? ⟨gb508, 1, none⟩ = some (.slice A507_1 ((rd_T25 l0 x3_1).f1).length c507_1) ∧ w'.cell? ⟨gb508, 2, none⟩ = some (.string ((rd_T25 l0 x3_1).f2))) (ds := []) #[false, false, false, false, false, false, false, false, false, false, false, false, false] zz26 rfl rfl ⟨(blk_cell BK508.out 0).trans rfl, (blk_cell BK508.out 1).trans rfl, (blk_cell BK508.out 2).trans rfl⟩ (fun hHeld => ?_); refine with_tabW fairwaylaw4_PropBack.tab15 fairwaylaw4_PropBack.bits15 (fun HT_ HW_ => ?_)
                       generalize wr.drew = w39 at BK508 HB hHeld ⊢
                       refine pure_ (i := 0) (N := some 84) (v := ?_) (a' := ?_) #[true, false, false, false, false, false, false, false, false, false, false, false, false] rfl rfl (any_of HT_.out zz26) (fun _ _ _ h => h) (Or.inl ⟨by rfl, ?_⟩) ?_ ?_
                       rotate_left
                       ·
                        intro w'
                        go_simp
                        with_reducible rfl
                       rotate_left
                       ·
                        simp only [Act.put, List.setIfInBounds_toArray, List.set_cons_zero, List.set_cons_succ, i64_w, i32_w]; rfl
                       refine pure_ (i := 2) (N := some 86) (v := ?_) (a' := ?_) #[true, false, true, false, false, false, false, false, false, false, false, false, false] rfl rfl (any_of HT_.out zz26) (fun _ _ _ h => h) (Or.inl ⟨by rfl, ?_⟩) ?_ ?_
                       rotate_left
                       ·
                        intro w'
                        go_simp
                        with_reducible rfl
                       rotate_left
                       ·
                        simp only [Act.put, List.setIfInBounds_toArray, List.set_cons_zero, List.set_cons_succ, i64_w, i32_w]; rfl
                       refine pure_ (i := 3) (N := some 87) (v := ?_) (a' := ?_) #[true, false, true, true, false, false, false, false, false, false, false, false, false] rfl rfl (any_of HT_.out zz26) (fun _ _ _ h => h) (Or.inl ⟨by rfl, ?_⟩) ?_ ?_
                       rotate_left
                       ·
                        intro w'
                        go_simp
                        with_reducible rfl
                       rotate_left
                       ·
                        simp only [Act.put, List.setIfInBounds_toArray, List.set_cons_zero, List.set_cons_succ, i64_w, i32_w]; rfl
                       refine pure_ (i := 4) (N := some 88) (v := ?_) (a' := ?_) #[true, false, true, true, true, false, false, false, false, false, false, false, false] rfl rfl (any_of HT_.out zz26) (fun _ _ _ h => h) (Or.inl ⟨by rfl, ?_⟩) ?_ ?_
                       rotate_left
                       ·
                        intro w'
                        go_simp
                        with_reducible rfl
                       rotate_left
                       ·
                        simp only [Act.put, List.setIfInBounds_toArray, List.set_cons_zero, List.set_cons_succ, i64_w, i32_w]; rfl
                       refine take_ (i := 1) (N := some 85) (v := ?_) (a' := ?_) #[true, true, true, true, true, false, false, false, false, false, false, false, false] rfl rfl (take_ofW HT_.out HW_.out zz26) (fun _ _ _ h => h) (Or.inl ⟨by rfl, ?_⟩) hHeld ?_ ?_
                       rotate_left
                       ·
                        rintro w' ⟨s0, s1, s2⟩
                        go_simp
                        with_reducible rfl
                       rotate_left
                       ·
                        simp only [Act.put, List.setIfInBounds_toArray, List.set_cons_zero, List.set_cons_succ, i64_w, i32_w]; rfl
                       refine one_ (i := 5) (N := some 89) #[true, true, true, true, true, true, false, false, false, false, false, false, false] rfl rfl (one_of HT_.out zz26) (by decide) (fun K hK => ?_)
                       refine goes_ Tryd.func22 zz26 rfl #[.int .i64 ((rd_T25 l0 x3_1).f0), .string (t510.extract 0 (x10_4 : Int).toNat)] (by rfl) rfl rfl zz11 ?_
                       with_reducible refine (prop_Take.calls k4 ((rd_T25 l0 x3_1).f0) (t510.extract 0 (x10_4 : Int).toNat) t520 t521 t522 _ zz3 A36.out).mono ?_
                       rintro e w40 ⟨v523, rfl, ho0, hb⟩
                       refine ⟨_, rfl, ?_⟩
                       have n0_ := Aside0.mk (Kd.R_lower ho0 (below_size zz8)); have n1_ := Aside0.mk (blk_below (g := gb508) (o := .cells #[.int .i64 ((rd_T25 l0 x3_1).f0), .slice A507_1 ((rd_T25 l0 x3_1).f1).length c507_1, .string ((rd_T25 l0 x3_1).f2)] 25 (0, 0)) zz16 hb); have n2_ := Aside0.mk (below_step zz8 hb); clear BK508; clear HB; have HO524 := n0_; have BK508 := n1_; have HB := n2_; clear n0_ n1_ n2_; (try clear hb)
                       (try clear hb2)
                       (try clear hk)
                       (try clear hi)
                       (try clear ho0)
                       refine hK.out _ _ ⟨(blk_cell BK508.out 0).trans rfl, (blk_cell BK508.out 1).trans rfl, (blk_cell BK508.out 2).trans rfl⟩ (fun hHeld => ?_)
                       clear hK K; refine norm_ (a' := ?_) ?_ ?_
                       rotate_left
                       ·
                        show Act.put _ (some 89) _ = _
                        simp only [Act.put, List.setIfInBounds_toArray, List.set_cons_zero, List.set_cons_succ, i64_w, i32_w]; rfl
                       refine pure_ (i := 6) (N := some 83) (v := ?_) (a' := ?_) #[true, true, true, true, true, true, true, false, false, false, false, false, false] rfl rfl (any_of HT_.out zz26) (fun _ _ _ h => h) (Or.inl ⟨by rfl, ?_⟩) ?_ ?_
                       rotate_left
                       ·
                        intro w'
                        go_simp
                        with_reducible rfl
                       rotate_left
                       ·
                        simp only [Act.put, List.setIfInBounds_toArray, List.set_cons_zero, List.set_cons_succ, i64_w, i32_w]; rfl
                       refine pure_ (i := 7) (N := some 90) (v := ?_) (a' := ?_) #[true, true, true, true, true, true, true, true, false, false, false, false, false] rfl rfl (any_of HT_.out zz26) (fun _ _ _ h => h) (Or.inl ⟨by rfl, ?_⟩) ?_ ?_
                       rotate_left
                       ·
                        intro w'
                        go_simp
                        with_reducible rfl
                       rotate_left
                       ·
                        simp only [Act.put, List.setIfInBounds_toArray, List.set_cons_zero, List.set_cons_succ, i64_w, i32_w]; rfl
                       refine pure_ (i := 8) (N := some 91) (v := ?_) (a' := ?_) #[true, true, true, true, true, true, true, true, true, false, false, false, false] rfl rfl (any_of HT_.out zz26) (fun _ _ _ h => h) (Or.inl ⟨by rfl, ?_⟩) ?_ ?_
                       rotate_left
                       ·
                        intro w'
                        go_simp
                        with_reducible rfl
                       rotate_left
                       ·
                        simp only [Act.put, List.setIfInBounds_toArray, List.set_cons_zero, List.set_cons_succ, i64_w, i32_w]; rfl
                       refine pure_ (i := 9) (N := some 92) (v := ?_) (a' := ?_) #[true, true, true, true, true, true, true, true, true, true, false, false, false] rfl rfl (any_of HT_.out zz26) (fun _ _ _ h => h) (Or.inl ⟨by rfl, ?_⟩) ?_ ?_
                       rotate_left
                       ·
                        intro w'
                        go_simp
                        with_reducible rfl
                       rotate_left
                       ·
                        simp only [Act.put, List.setIfInBounds_toArray, List.set_cons_zero, List.set_cons_succ, i64_w, i32_w]; rfl
                       refine pure_ (i := 10) (N := some 11) (v := ?_) (a' := ?_) #[true, true, true, true, true, true, true, true, true, true, true, false, false] rfl rfl (any_of HT_.out zz26) (fun _ _ _ h => h) (Or.inl ⟨by rfl, ?_⟩) ?_ ?_
                       rotate_left
                       ·
                        intro w'
                        go_simp
                        with_reducible rfl
                       rotate_left
                       ·
                        simp only [Act.put, List.setIfInBounds_toArray, List.set_cons_zero, List.set_cons_succ, i64_w, i32_w]; rfl
                       refine pure_ (i := 11) (N := some 12) (v := ?_) (a' := ?_) #[true, true, true, true, true, true, true, true, true, true, true, true, false] rfl rfl (any_of HT_.out zz26) (fun _ _ _ h => h) (Or.inl ⟨by rfl, ?_⟩) ?_ ?_
                       rotate_left
                       ·
                        intro w'
                        go_simp
                        with_reducible rfl
                       rotate_left
                       ·
                        simp only [Act.put, List.setIfInBounds_toArray, List.set_cons_zero, List.set_cons_succ, i64_w, i32_w]; rfl
                       refine pure_ (i := 12) (N := some 13) (v := ?_) (a' := ?_) #[true, true, true, true, true, true, true, true, true, true, true, true, true] rfl rfl (any_of HT_.out zz26) (fun _ _ _ h => h) (Or.inl ⟨by rfl, ?_⟩) ?_ ?_
                       rotate_left
                       ·
                        intro w'
                        go_simp
                        with_reducible rfl
                       rotate_left
                       ·
                        simp only [Act.put, List.setIfInBounds_toArray, List.set_cons_zero, List.set_cons_succ, i64_w, i32_w]; rfl
                       refine done_ (done_of HT_.out zz26) ?_
                       try go_wp2_with (first | ((with_reducible refine gate_callee (f := 13) rfl ?_); refine goesL_ (some 94) rfl rfl Tryd.func13 zz26 rfl #[.int .i64 t522] rfl zz11 ?_; (with_reducible refine (fairwaylaw4_num.calls t522 t525 _ A37.out).mono ?_); rintro e w' ⟨rfl, ⟨nd, rfl⟩⟩; refine ⟨_, rfl, ?_⟩))
                       go_roundg k4
                       case measure => have := HK1.out; have := HJ1.out; have := HJ22.out; have := HK4.out; omega
                       case rel => exact ⟨(wrap64 ((wrap64 (x10_4 + 1)) + (wrap64 ((t510.size : Int) / 20)))), zz24, H', ⟨by have := HK1.out; have := HJ1.out; have := HJ22.out; have := HK4.out; omega⟩, ⟨zz16⟩, ⟨zz8⟩⟩
                      rw [if_neg c38] at H; have c38b0 : (t525 == 7) = false := beq_eq_false_iff_ne.mpr c38; have c38b1 : (t525 != 7) = true := bne_iff_ne.mpr c38; obtain rfl := Option.some.inj H; try go_wp2
                      have n0_ := Aside0.mk (blk_drew BK508.out); have n1_ := Aside0.mk (below_drew1 HB.out); clear BK508; clear HB; have BK508 := n0_; have HB := n1_; clear n0_ n1_; refine start_ (n := 13) (S := fun w' => w'.cell? ⟨gb508, 0, none⟩ = some (.int .i64 ((rd_T25 l0 x3_1).f0)) ∧ w'.cell? ⟨gb508, 1, none⟩ = some (.slice A507_1 ((rd_T25 l0 x3_1).f1).length c507_1) ∧ w'.cell? ⟨gb508, 2, none⟩ = some (.string ((rd_T25 l0 x3_1).f2))) (ds := []) #[false, false, false, false, false, false, false, false, false, false, false, false, false] zz26 rfl rfl ⟨(blk_cell BK508.out 0).trans rfl, (blk_cell BK508.out 1).trans rfl, (blk_cell BK508.out 2).trans rfl⟩ (fun hHeld => ?_); refine with_tabW fairwaylaw4_PropBack.tab15 fairwaylaw4_PropBack.bits15 (fun HT_ HW_ => ?_)
                      generalize wr.drew = w41 at BK508 HB hHeld ⊢
                      refine pure_ (i := 0) (N := some 84) (v := ?_) (a' := ?_) #[true, false, false, false, false, false, false, false, false, false, false, false, false] rfl rfl (any_of HT_.out zz26) (fun _ _ _ h => h) (Or.inl ⟨by rfl, ?_⟩) ?_ ?_
                      rotate_left
                      ·
                       intro w'
                       go_simp
                       with_reducible rfl
                      rotate_left
                      ·
                       simp only [Act.put, List.setIfInBounds_toArray, List.set_cons_zero, List.set_cons_succ, i64_w, i32_w]; rfl
                      refine pure_ (i := 2) (N := some 86) (v := ?_) (a' := ?_) #[true, false, true, false, false, false, false, false, false, false, false, false, false] rfl rfl (any_of HT_.out zz26) (fun _ _ _ h => h) (Or.inl ⟨by rfl, ?_⟩) ?_ ?_
                      rotate_left
                      ·
                       intro w'
                       go_simp
                       with_reducible rfl
                      rotate_left
                      ·
                       simp only [Act.put, List.setIfInBounds_toArray, List.set_cons_zero, List.set_cons_succ, i64_w, i32_w]; rfl
                      refine pure_ (i := 3) (N := some 87) (v := ?_) (a' := ?_) #[true, false, true, true, false, false, false, false, false, false, false, false, false] rfl rfl (any_of HT_.out zz26) (fun _ _ _ h => h) (Or.inl ⟨by rfl, ?_⟩) ?_ ?_
                      rotate_left
                      ·
                       intro w'
                       go_simp
                       with_reducible rfl
                      rotate_left
                      ·
                       simp only [Act.put, List.setIfInBounds_toArray, List.set_cons_zero, List.set_cons_succ, i64_w, i32_w]; rfl
                      refine pure_ (i := 4) (N := some 88) (v := ?_) (a' := ?_) #[true, false, true, true, true, false, false, false, false, false, false, false, false] rfl rfl (any_of HT_.out zz26) (fun _ _ _ h => h) (Or.inl ⟨by rfl, ?_⟩) ?_ ?_
                      rotate_left
                      ·
                       intro w'
                       go_simp
                       with_reducible rfl
                      rotate_left
                      ·
                       simp only [Act.put, List.setIfInBounds_toArray, List.set_cons_zero, List.set_cons_succ, i64_w, i32_w]; rfl
                      refine take_ (i := 1) (N := some 85) (v := ?_) (a' := ?_) #[true, true, true, true, true, false, false, false, false, false, false, false, false] rfl rfl (take_ofW HT_.out HW_.out zz26) (fun _ _ _ h => h) (Or.inl ⟨by rfl, ?_⟩) hHeld ?_ ?_
                      rotate_left
                      ·
                       rintro w' ⟨s0, s1, s2⟩
                       go_simp
                       with_reducible rfl
                      rotate_left
                      ·
                       simp only [Act.put, List.setIfInBounds_toArray, List.set_cons_zero, List.set_cons_succ, i64_w, i32_w]; rfl
                      refine one_ (i := 5) (N := some 89) #[true, true, true, true, true, true, false, false, false, false, false, false, false] rfl rfl (one_of HT_.out zz26) (by decide) (fun K hK => ?_)
                      refine goes_ Tryd.func22 zz26 rfl #[.int .i64 ((rd_T25 l0 x3_1).f0), .string (t510.extract 0 (x10_4 : Int).toNat)] (by rfl) rfl rfl zz11 ?_
                      with_reducible refine (prop_Take.calls k4 ((rd_T25 l0 x3_1).f0) (t510.extract 0 (x10_4 : Int).toNat) t520 t521 t522 _ zz3 A36.out).mono ?_
                      rintro e w42 ⟨v523, rfl, ho0, hb⟩
                      refine ⟨_, rfl, ?_⟩
                      have n0_ := Aside0.mk (Kd.R_lower ho0 (below_size zz8)); have n1_ := Aside0.mk (blk_below (g := gb508) (o := .cells #[.int .i64 ((rd_T25 l0 x3_1).f0), .slice A507_1 ((rd_T25 l0 x3_1).f1).length c507_1, .string ((rd_T25 l0 x3_1).f2)] 25 (0, 0)) zz16 hb); have n2_ := Aside0.mk (below_step zz8 hb); clear BK508; clear HB; have HO524 := n0_; have BK508 := n1_; have HB := n2_; clear n0_ n1_ n2_; (try clear hb)
                      (try clear hb2)
                      (try clear hk)
                      (try clear hi)
                      (try clear ho0)
                      refine hK.out _ _ ⟨(blk_cell BK508.out 0).trans rfl, (blk_cell BK508.out 1).trans rfl, (blk_cell BK508.out 2).trans rfl⟩ (fun hHeld => ?_)
                      clear hK K; refine norm_ (a' := ?_) ?_ ?_
                      rotate_left
                      ·
                       show Act.put _ (some 89) _ = _
                       simp only [Act.put, List.setIfInBounds_toArray, List.set_cons_zero, List.set_cons_succ, i64_w, i32_w]; rfl
                      refine pure_ (i := 6) (N := some 83) (v := ?_) (a' := ?_) #[true, true, true, true, true, true, true, false, false, false, false, false, false] rfl rfl (any_of HT_.out zz26) (fun _ _ _ h => h) (Or.inl ⟨by rfl, ?_⟩) ?_ ?_
                      rotate_left
                      ·
                       intro w'
                       go_simp
                       with_reducible rfl
                      rotate_left
                      ·
                       simp only [Act.put, List.setIfInBounds_toArray, List.set_cons_zero, List.set_cons_succ, i64_w, i32_w]; rfl
                      refine pure_ (i := 7) (N := some 90) (v := ?_) (a' := ?_) #[true, true, true, true, true, true, true, true, false, false, false, false, false] rfl rfl (any_of HT_.out zz26) (fun _ _ _ h => h) (Or.inl ⟨by rfl, ?_⟩) ?_ ?_
                      rotate_left
                      ·
                       intro w'
                       go_simp
                       with_reducible rfl
                      rotate_left
                      ·
                       simp only [Act.put, List.setIfInBounds_toArray, List.set_cons_zero, List.set_cons_succ, i64_w, i32_w]; rfl
                      refine pure_ (i := 8) (N := some 91) (v := ?_) (a' := ?_) #[true, true, true, true, true, true, true, true, true, false, false, false, false] rfl rfl (any_of HT_.out zz26) (fun _ _ _ h => h) (Or.inl ⟨by rfl, ?_⟩) ?_ ?_
                      rotate_left
                      ·
                       intro w'
                       go_simp
                       with_reducible rfl
                      rotate_left
                      ·
                       simp only [Act.put, List.setIfInBounds_toArray, List.set_cons_zero, List.set_cons_succ, i64_w, i32_w]; rfl
                      refine pure_ (i := 9) (N := some 92) (v := ?_) (a' := ?_) #[true, true, true, true, true, true, true, true, true, true, false, false, false] rfl rfl (any_of HT_.out zz26) (fun _ _ _ h => h) (Or.inl ⟨by rfl, ?_⟩) ?_ ?_
                      rotate_left
                      ·
                       intro w'
                       go_simp
                       with_reducible rfl
                      rotate_left
                      ·
                       simp only [Act.put, List.setIfInBounds_toArray, List.set_cons_zero, List.set_cons_succ, i64_w, i32_w]; rfl
                      refine pure_ (i := 10) (N := some 11) (v := ?_) (a' := ?_) #[true, true, true, true, true, true, true, true, true, true, true, false, false] rfl rfl (any_of HT_.out zz26) (fun _ _ _ h => h) (Or.inl ⟨by rfl, ?_⟩) ?_ ?_
                      rotate_left
                      ·
                       intro w'
                       go_simp
                       with_reducible rfl
                      rotate_left
                      ·
                       simp only [Act.put, List.setIfInBounds_toArray, List.set_cons_zero, List.set_cons_succ, i64_w, i32_w]; rfl
                      refine pure_ (i := 11) (N := some 12) (v := ?_) (a' := ?_) #[true, true, true, true, true, true, true, true, true, true, true, true, false] rfl rfl (any_of HT_.out zz26) (fun _ _ _ h => h) (Or.inl ⟨by rfl, ?_⟩) ?_ ?_
                      rotate_left
                      ·
                       intro w'
                       go_simp
                       with_reducible rfl
                      rotate_left
                      ·
                       simp only [Act.put, List.setIfInBounds_toArray, List.set_cons_zero, List.set_cons_succ, i64_w, i32_w]; rfl
                      refine pure_ (i := 12) (N := some 13) (v := ?_) (a' := ?_) #[true, true, true, true, true, true, true, true, true, true, true, true, true] rfl rfl (any_of HT_.out zz26) (fun _ _ _ h => h) (Or.inl ⟨by rfl, ?_⟩) ?_ ?_
                      rotate_left
                      ·
                       intro w'
                       go_simp
                       with_reducible rfl
                      rotate_left
                      ·
                       simp only [Act.put, List.setIfInBounds_toArray, List.set_cons_zero, List.set_cons_succ, i64_w, i32_w]; rfl
                      refine done_ (done_of HT_.out zz26) ?_
                      try go_wp2_with (first | ((with_reducible refine gate_callee (f := 13) rfl ?_); refine goesL_ (some 94) rfl rfl Tryd.func13 zz26 rfl #[.int .i64 t522] rfl zz11 ?_; (with_reducible refine (fairwaylaw4_num.calls t522 t525 _ A37.out).mono ?_); rintro e w' ⟨rfl, ⟨nd, rfl⟩⟩; refine ⟨_, rfl, ?_⟩))
                      go_ret
                      exact ⟨zz20, zz8⟩
                     rw [if_neg c35] at H; exact absurd H (by simp)
                    rw [if_neg c34] at H; exact absurd H (by simp)
                   rw [if_neg c33] at H; have c33b0 : decide (x10_4 < (t510.size : Int)) = false := decide_eq_false c33; clear c33; have H' := Aside0.mk H; clear H; go_wp2
                   go_meet
                   case rel => exact ⟨_, H', ⟨by have := HK1.out; have := HJ1.out; have := HJ22.out; have := HK4.out; first | omega | exact Nat.le_refl _⟩, ⟨zz16⟩, ⟨zz8⟩⟩
            rw [if_neg c21] at H; exact absurd H (by simp)
           rw [if_neg c20] at H; have c20b0 : (t512 == 0) = false := beq_eq_false_iff_ne.mpr c20; have c20b1 : (t512 != 0) = true := bne_iff_ne.mpr c20; (first | rw [c20b0] | (simp only [i64_w, i32_w]; rw [c20b0]) | skip)
           have H' := Aside0.mk H; clear H; go_wp2
           go_meet
           case rel => exact ⟨_, H', ⟨by have := HK1.out; have := HJ1.out; first | omega | exact Nat.le_refl _⟩, ⟨zz16⟩, ⟨zz8⟩⟩
          case rest =>
           as_aux_lemma =>
            clear HC14; (try clear c1); (try clear c2); (try clear p2); (try clear c3); (try clear c3b0); (try clear c4); (try clear c5); (try clear c5b0); (try clear p5); (try clear q5); (try clear hx5); (try clear c6); (try clear c6b0); (try clear p6); (try clear c7); (try clear c8); (try clear c13); (try clear c15); (try clear c17); (try clear c20); (try clear c20b0); (try clear c20b1); (try clear c21); (try clear c21b0); (try clear c21b1); (try clear c21b2); (try clear c22); (try clear c27); (try clear c27b0); (try clear c27b1); (try clear c28); (try clear c28b0); (try clear c28b1); (try clear c32); (try clear c33); (try clear c33b0); (try clear c34); (try clear c34b0); (try clear c34b1); (try clear c35); (try clear c35b0); (try clear c35b1); (try clear c38); (try clear c38b0); (try clear c38b1); (try clear hcz10_0); (try clear hcz10_1); (try clear hcz10_2); (try clear hcz16_0); (try clear hcz16_1); (try clear hcz16_2); (try clear hcz18_0); (try clear hcz18_1); (try clear hcz18_2); (try clear hcz24_0); (try clear hcz24_1); (try clear hcz24_2); (try clear hcz30_0); (try clear hcz30_1); (try clear hcz30_2); (try clear hfz10_0); (try clear hfz10_1); (try clear hfz10_2); (try clear hfz16_0); (try clear hfz16_1); (try clear hfz16_2); (try clear hfz18_0); (try clear hfz18_1); (try clear hfz18_2); (try clear hfz24_0); (try clear hfz24_1); (try clear hfz24_2); (try clear hfz30_0); (try clear hfz30_1); (try clear hfz30_2); (try clear hx507_0); (try clear hx507_1); (try clear hx507_2); (try clear p2); (try clear p5); (try clear p507); (try clear q5); (try clear q507); obtain ⟨kq, HA, HJ13, BK508, HB⟩ := hcut; cases kq with
            | zero => exact absurd HA.out (by simp [fairwaylaw4_PropBack.j4])
            | succ kj13 =>
             have H := HA.out; clear HA; simp only [fairwaylaw4_PropBack.j4] at H; replace H := Option.bind_eq_some_iff.mp H; obtain ⟨⟨t526, t527, t528⟩, A430, H⟩ := H; replace H : ((fairwaylaw4_num.f t528).bind fun t531 => (if t531 = 0 then ((prop_Bytes.f kj13 ((rd_T25 l0 x3_1).f0) t526).bind fun bt532 => ((fairwaylaw4_num.f bt532.2).bind fun t534 => (if t534 = 0 then (if t527 < 0 then (some false) else (if t527 > (((rd_T25 l0 x3_1).f2).size : Int) then (some false) else (if 0 ≤ t527 then (if t527 ≤ (((rd_T25 l0 x3_1).f2).size : Int) then (if bt532.1.toList = (((rd_T25 l0 x3_1).f2).extract 0 (t527 : Int).toNat).toList then (fairwaylaw4_PropBack.l0 kj13 l0 (wrap64 (x3_1 + 1))) else (some false)) else (none)) else (none)))) else (some false)))) else (fairwaylaw4_PropBack.l0 kj13 l0 (wrap64 (x3_1 + 1))))) = some r := H; have A43 := Aside0.mk A430; clear A430; replace H := Option.bind_eq_some_iff.mp H; obtain ⟨t531, A440, H⟩ := H; replace H : (if t531 = 0 then ((prop_Bytes.f kj13 ((rd_T25 l0 x3_1).f0) t526).bind fun bt532 => ((fairwaylaw4_num.f bt532.2).bind fun t534 => (if t534 = 0 then (if t527 < 0 then (some false) else (if t527 > (((rd_T25 l0 x3_1).f2).size : Int) then (some false) else (if 0 ≤ t527 then (if t527 ≤ (((rd_T25 l0 x3_1).f2).size : Int) then (if bt532.1.toList = (((rd_T25 l0 x3_1).f2).extract 0 (t527 : Int).toNat).toList then (fairwaylaw4_PropBack.l0 kj13 l0 (wrap64 (x3_1 + 1))) else (some false)) else (none)) else (none)))) else (some false)))) else (fairwaylaw4_PropBack.l0 kj13 l0 (wrap64 (x3_1 + 1)))) = some r := H; have A44 := Aside0.mk A440; clear A440; by_cases c45 : t531 = 0
             ·
              rw [if_pos c45] at H; have c45b0 : (t531 == 0) = true := beq_iff_eq.mpr c45; have c45b1 : (t531 != 0) = false := bne_eq_false_iff_eq.mpr c45; clear c45; replace H := Option.bind_eq_some_iff.mp H; obtain ⟨⟨t532, t533⟩, A460, H⟩ := H; replace H : ((fairwaylaw4_num.f t533).bind fun t534 => (if t534 = 0 then (if t527 < 0 then (some false) else (if t527 > (((rd_T25 l0 x3_1).f2).size : Int) then (some false) else (if 0 ≤ t527 then (if t527 ≤ (((rd_T25 l0 x3_1).f2).size : Int) then (if t532.toList = (((rd_T25 l0 x3_1).f2).extract 0 (t527 : Int).toNat).toList then (fairwaylaw4_PropBack.l0 kj13 l0 (wrap64 (x3_1 + 1))) else (some false)) else (none)) else (none)))) else (some false))) = some r := H; have A46 := Aside0.mk A460; clear A460; replace H := Option.bind_eq_some_iff.mp H; obtain ⟨t534, A470, H⟩ := H; replace H : (if t534 = 0 then (if t527 < 0 then (some false) else (if t527 > (((rd_T25 l0 x3_1).f2).size : Int) then (some false) else (if 0 ≤ t527 then (if t527 ≤ (((rd_T25 l0 x3_1).f2).size : Int) then (if t532.toList = (((rd_T25 l0 x3_1).f2).extract 0 (t527 : Int).toNat).toList then (fairwaylaw4_PropBack.l0 kj13 l0 (wrap64 (x3_1 + 1))) else (some false)) else (none)) else (none)))) else (some false)) = some r := H; have A47 := Aside0.mk A470; clear A470; by_cases c48 : t534 = 0
              ·
               rw [if_pos c48] at H; have c48b0 : (t534 == 0) = true := beq_iff_eq.mpr c48; have c48b1 : (t534 != 0) = false := bne_eq_false_iff_eq.mpr c48; clear c48; by_cases c49 : t527 < 0
               ·
                rw [if_pos c49] at H; have c49b0 : decide (t527 < 0) = true := decide_eq_true c49; clear c49; obtain rfl := Option.some.inj H; have hcz50_0 : wc.cell? ⟨gb508, 0, none⟩ = some (.int .i64 ((rd_T25 l0 x3_1).f0)) := (blk_cell BK508.out 0).trans rfl; have hcz50_1 : wc.cell? ⟨gb508, 1, none⟩ = some (.slice A507_1 ((rd_T25 l0 x3_1).f1).length c507_1) := (blk_cell BK508.out 1).trans rfl; have hcz50_2 : wc.cell? ⟨gb508, 2, none⟩ = some (.string ((rd_T25 l0 x3_1).f2)) := (blk_cell BK508.out 2).trans rfl; have hfz50_0 := blk_frozen BK508.out 0; have hfz50_1 := blk_frozen BK508.out 1; have hfz50_2 := blk_frozen BK508.out 2; go_wp2_with (first | ((with_reducible refine gate_callee (f := 22) rfl ?_); refine goesL_ (some 101) rfl rfl Tryd.func22 zz26 rfl #[.int .i64 ((rd_T25 l0 x3_1).f0), .string ((rd_T25 l0 x3_1).f2)] rfl zz11 ?_; (with_reducible refine (prop_Take.calls kj13 ((rd_T25 l0 x3_1).f0) ((rd_T25 l0 x3_1).f2) t526 t527 t528 _ zz3 A43.out).mono ?_); rintro e w51 ⟨v529, rfl, ho0, hb⟩; refine ⟨_, rfl, ?_⟩; have n0_ := Aside0.mk (Kd.R_lower ho0 (below_size zz8)); have n1_ := Aside0.mk (blk_below (g := gb508) (o := .cells #[.int .i64 ((rd_T25 l0 x3_1).f0), .slice A507_1 ((rd_T25 l0 x3_1).f1).length c507_1, .string ((rd_T25 l0 x3_1).f2)] 25 (0, 0)) zz16 hb); have n2_ := Aside0.mk (below_step zz8 hb); clear BK508; clear HB; have HO530 := n0_; have BK508 := n1_; have HB := n2_; clear n0_ n1_ n2_; (try clear hb); (try clear hb2); (try clear hk); (try clear hi); (try clear ho0)) | ((with_reducible refine gate_callee (f := 13) rfl ?_); refine goesL_ (some 106) rfl rfl Tryd.func13 zz26 rfl #[.int .i64 t528] rfl zz11 ?_; (with_reducible refine (fairwaylaw4_num.calls t528 t531 _ A44.out).mono ?_); rintro e w' ⟨rfl, ⟨nd, rfl⟩⟩; refine ⟨_, rfl, ?_⟩; have hcz52_0 : w51.cell? ⟨gb508, 0, none⟩ = some (.int .i64 ((rd_T25 l0 x3_1).f0)) := (blk_cell BK508.out 0).trans rfl; have hcz52_1 : w51.cell? ⟨gb508, 1, none⟩ = some (.slice A507_1 ((rd_T25 l0 x3_1).f1).length c507_1) := (blk_cell BK508.out 1).trans rfl; have hcz52_2 : w51.cell? ⟨gb508, 2, none⟩ = some (.string ((rd_T25 l0 x3_1).f2)) := (blk_cell BK508.out 2).trans rfl; have hfz52_0 := blk_frozen BK508.out 0; have hfz52_1 := blk_frozen BK508.out 1; have hfz52_2 := blk_frozen BK508.out 2; obtain ⟨Ao53, co53, eo53⟩ := Kd.R_slice HO530.out; subst eo53) | ((with_reducible refine gate_callee (f := 17) rfl ?_); refine goesL_ (some 112) rfl rfl Tryd.func17 zz26 rfl #[.int .i64 ((rd_T25 l0 x3_1).f0), .slice Ao53 t526.length co53] rfl zz11 ?_; (with_reducible refine (prop_Bytes.calls kj13 ((rd_T25 l0 x3_1).f0) _ _ t526 t532 t533 _ ?side1 ?side2 zz3 A46.out).mono ?_); (case side1 => repeat (first | exact (Kd.R_reads' HO530.out).2.2 | (with_reducible refine Kd.C_alloc ?_ _) | (with_reducible refine Kd.C_drewN ?_ _) | (with_reducible refine Kd.C_drew ?_))); (case side2 => exact (Kd.R_reads' HO530.out).2.1); rintro e w54 ⟨rfl, hb⟩; refine ⟨_, rfl, ?_⟩; have n0_ := Aside0.mk (Kd.R_below zz18 hb); have n1_ := Aside0.mk (blk_below (g := gb508) (o := .cells #[.int .i64 ((rd_T25 l0 x3_1).f0), .slice A507_1 ((rd_T25 l0 x3_1).f1).length c507_1, .string ((rd_T25 l0 x3_1).f2)] 25 (0, 0)) zz16 hb); have n2_ := Aside0.mk (below_step zz8 hb); clear HO530; clear BK508; clear HB; have HO530 := n0_; have BK508 := n1_; have HB := n2_; clear n0_ n1_ n2_; (try clear hb); (try clear hb2); (try clear hk); (try clear hi)) | ((with_reducible refine gate_callee (f := 13) rfl ?_); refine goesL_ (some 116) rfl rfl Tryd.func13 zz26 rfl #[.int .i64 t533] rfl zz11 ?_; (with_reducible refine (fairwaylaw4_num.calls t533 t534 _ A47.out).mono ?_); rintro e w' ⟨rfl, ⟨nd, rfl⟩⟩; refine ⟨_, rfl, ?_⟩))
                go_ret
                exact ⟨zz20, zz8⟩
               rw [if_neg c49] at H; have c49b0 : decide (t527 < 0) = false := decide_eq_false c49; clear c49; by_cases c55 : t527 > (((rd_T25 l0 x3_1).f2).size : Int)
               ·
                rw [if_pos c55] at H; have c55b0 : decide ((((rd_T25 l0 x3_1).f2).size : Int) < t527) = true := decide_eq_true c55; clear c55; obtain rfl := Option.some.inj H; have hcz56_0 : wc.cell? ⟨gb508, 0, none⟩ = some (.int .i64 ((rd_T25 l0 x3_1).f0)) := (blk_cell BK508.out 0).trans rfl; have hcz56_1 : wc.cell? ⟨gb508, 1, none⟩ = some (.slice A507_1 ((rd_T25 l0 x3_1).f1).length c507_1) := (blk_cell BK508.out 1).trans rfl; have hcz56_2 : wc.cell? ⟨gb508, 2, none⟩ = some (.string ((rd_T25 l0 x3_1).f2)) := (blk_cell BK508.out 2).trans rfl; have hfz56_0 := blk_frozen BK508.out 0; have hfz56_1 := blk_frozen BK508.out 1; have hfz56_2 := blk_frozen BK508.out 2; go_wp2_with (first | ((with_reducible refine gate_callee (f := 22) rfl ?_); refine goesL_ (some 101) rfl rfl Tryd.func22 zz26 rfl #[.int .i64 ((rd_T25 l0 x3_1).f0), .string ((rd_T25 l0 x3_1).f2)] rfl zz11 ?_; (with_reducible refine (prop_Take.calls kj13 ((rd_T25 l0 x3_1).f0) ((rd_T25 l0 x3_1).f2) t526 t527 t528 _ zz3 A43.out).mono ?_); rintro e w57 ⟨v529, rfl, ho0, hb⟩; refine ⟨_, rfl, ?_⟩; have n0_ := Aside0.mk (Kd.R_lower ho0 (below_size zz8)); have n1_ := Aside0.mk (blk_below (g := gb508) (o := .cells #[.int .i64 ((rd_T25 l0 x3_1).f0), .slice A507_1 ((rd_T25 l0 x3_1).f1).length c507_1, .string ((rd_T25 l0 x3_1).f2)] 25 (0, 0)) zz16 hb); have n2_ := Aside0.mk (below_step zz8 hb); clear BK508; clear HB; have HO530 := n0_; have BK508 := n1_; have HB := n2_; clear n0_ n1_ n2_; (try clear hb); (try clear hb2); (try clear hk); (try clear hi); (try clear ho0)) | ((with_reducible refine gate_callee (f := 13) rfl ?_); refine goesL_ (some 106) rfl rfl Tryd.func13 zz26 rfl #[.int .i64 t528] rfl zz11 ?_; (with_reducible refine (fairwaylaw4_num.calls t528 t531 _ A44.out).mono ?_); rintro e w' ⟨rfl, ⟨nd, rfl⟩⟩; refine ⟨_, rfl, ?_⟩; have hcz58_0 : w57.cell? ⟨gb508, 0, none⟩ = some (.int .i64 ((rd_T25 l0 x3_1).f0)) := (blk_cell BK508.out 0).trans rfl; have hcz58_1 : w57.cell? ⟨gb508, 1, none⟩ = some (.slice A507_1 ((rd_T25 l0 x3_1).f1).length c507_1) := (blk_cell BK508.out 1).trans rfl; have hcz58_2 : w57.cell? ⟨gb508, 2, none⟩ = some (.string ((rd_T25 l0 x3_1).f2)) := (blk_cell BK508.out 2).trans rfl; have hfz58_0 := blk_frozen BK508.out 0; have hfz58_1 := blk_frozen BK508.out 1; have hfz58_2 := blk_frozen BK508.out 2; obtain ⟨Ao59, co59, eo59⟩ := Kd.R_slice HO530.out; subst eo59) | ((with_reducible refine gate_callee (f := 17) rfl ?_); refine goesL_ (some 112) rfl rfl Tryd.func17 zz26 rfl #[.int .i64 ((rd_T25 l0 x3_1).f0), .slice Ao59 t526.length co59] rfl zz11 ?_; (with_reducible refine (prop_Bytes.calls kj13 ((rd_T25 l0 x3_1).f0) _ _ t526 t532 t533 _ ?side1 ?side2 zz3 A46.out).mono ?_); (case side1 => repeat (first | exact (Kd.R_reads' HO530.out).2.2 | (with_reducible refine Kd.C_alloc ?_ _) | (with_reducible refine Kd.C_drewN ?_ _) | (with_reducible refine Kd.C_drew ?_))); (case side2 => exact (Kd.R_reads' HO530.out).2.1); rintro e w60 ⟨rfl, hb⟩; refine ⟨_, rfl, ?_⟩; have n0_ := Aside0.mk (Kd.R_below zz18 hb); have n1_ := Aside0.mk (blk_below (g := gb508) (o := .cells #[.int .i64 ((rd_T25 l0 x3_1).f0), .slice A507_1 ((rd_T25 l0 x3_1).f1).length c507_1, .string ((rd_T25 l0 x3_1).f2)] 25 (0, 0)) zz16 hb); have n2_ := Aside0.mk (below_step zz8 hb); clear HO530; clear BK508; clear HB; have HO530 := n0_; have BK508 := n1_; have HB := n2_; clear n0_ n1_ n2_; (try clear hb); (try clear hb2); (try clear hk); (try clear hi)) | ((with_reducible refine gate_callee (f := 13) rfl ?_); refine goesL_ (some 116) rfl rfl Tryd.func13 zz26 rfl #[.int .i64 t533] rfl zz11 ?_; (with_reducible refine (fairwaylaw4_num.calls t533 t534 _ A47.out).mono ?_); rintro e w' ⟨rfl, ⟨nd, rfl⟩⟩; refine ⟨_, rfl, ?_⟩; have hcz61_0 : w60.cell? ⟨gb508, 0, none⟩ = some (.int .i64 ((rd_T25 l0 x3_1).f0)) := (blk_cell BK508.out 0).trans rfl; have hcz61_1 : w60.cell? ⟨gb508, 1, none⟩ = some (.slice A507_1 ((rd_T25 l0 x3_1).f1).length c507_1) := (blk_cell BK508.out 1).trans rfl; have hcz61_2 : w60.cell? ⟨gb508, 2, none⟩ = some (.string ((rd_T25 l0 x3_1).f2)) := (blk_cell BK508.out 2).trans rfl; have hfz61_0 := blk_frozen BK508.out 0; have hfz61_1 := blk_frozen BK508.out 1; have hfz61_2 := blk_frozen BK508.out 2))
                go_ret
                exact ⟨zz20, zz8⟩
               rw [if_neg c55] at H; have c55b0 : decide ((((rd_T25 l0 x3_1).f2).size : Int) < t527) = false := decide_eq_false c55; clear c55; by_cases c62 : 0 ≤ t527
               ·
                rw [if_pos c62] at H; have c62b0 := eq_true c62; have c62b1 : decide (0 ≤ t527) = true := decide_eq_true c62; clear c62; by_cases c63 : t527 ≤ (((rd_T25 l0 x3_1).f2).size : Int)
                ·
                 rw [if_pos c63] at H; have c63b0 := eq_true c63; have c63b1 : decide (t527 ≤ (((rd_T25 l0 x3_1).f2).size : Int)) = true := decide_eq_true c63; clear c63; by_cases c64 : t532.toList = (((rd_T25 l0 x3_1).f2).extract 0 (t527 : Int).toNat).toList
                 ·
                  rw [if_pos c64] at H; have c64b0 : (t532.toList == (((rd_T25 l0 x3_1).f2).extract 0 (t527 : Int).toNat).toList) = true := beq_iff_eq.mpr c64; have c64b1 : (t532.toList != (((rd_T25 l0 x3_1).f2).extract 0 (t527 : Int).toNat).toList) = false := bne_eq_false_iff_eq.mpr c64; clear c64; have H' := Aside0.mk H; clear H; have hcz65_0 : wc.cell? ⟨gb508, 0, none⟩ = some (.int .i64 ((rd_T25 l0 x3_1).f0)) := (blk_cell BK508.out 0).trans rfl; have hcz65_1 : wc.cell? ⟨gb508, 1, none⟩ = some (.slice A507_1 ((rd_T25 l0 x3_1).f1).length c507_1) := (blk_cell BK508.out 1).trans rfl; have hcz65_2 : wc.cell? ⟨gb508, 2, none⟩ = some (.string ((rd_T25 l0 x3_1).f2)) := (blk_cell BK508.out 2).trans rfl; have hfz65_0 := blk_frozen BK508.out 0; have hfz65_1 := blk_frozen BK508.out 1; have hfz65_2 := blk_frozen BK508.out 2; go_wp2_with (first | ((with_reducible refine gate_callee (f := 22) rfl ?_); refine goesL_ (some 101) rfl rfl Tryd.func22 zz26 rfl #[.int .i64 ((rd_T25 l0 x3_1).f0), .string ((rd_T25 l0 x3_1).f2)] rfl zz11 ?_; (with_reducible refine (prop_Take.calls kj13 ((rd_T25 l0 x3_1).f0) ((rd_T25 l0 x3_1).f2) t526 t527 t528 _ zz3 A43.out).mono ?_); rintro e w66 ⟨v529, rfl, ho0, hb⟩; refine ⟨_, rfl, ?_⟩; have n0_ := Aside0.mk (Kd.R_lower ho0 (below_size zz8)); have n1_ := Aside0.mk (blk_below (g := gb508) (o := .cells #[.int .i64 ((rd_T25 l0 x3_1).f0), .slice A507_1 ((rd_T25 l0 x3_1).f1).length c507_1, .string ((rd_T25 l0 x3_1).f2)] 25 (0, 0)) zz16 hb); have n2_ := Aside0.mk (below_step zz8 hb); clear BK508; clear HB; have HO530 := n0_; have BK508 := n1_; have HB := n2_; clear n0_ n1_ n2_; (try clear hb); (try clear hb2); (try clear hk); (try clear hi); (try clear ho0)) | ((with_reducible refine gate_callee (f := 13) rfl ?_); refine goesL_ (some 106) rfl rfl Tryd.func13 zz26 rfl #[.int .i64 t528] rfl zz11 ?_; (with_reducible refine (fairwaylaw4_num.calls t528 t531 _ A44.out).mono ?_); rintro e w' ⟨rfl, ⟨nd, rfl⟩⟩; refine ⟨_, rfl, ?_⟩; have hcz67_0 : w66.cell? ⟨gb508, 0, none⟩ = some (.int .i64 ((rd_T25 l0 x3_1).f0)) := (blk_cell BK508.out 0).trans rfl; have hcz67_1 : w66.cell? ⟨gb508, 1, none⟩ = some (.slice A507_1 ((rd_T25 l0 x3_1).f1).length c507_1) := (blk_cell BK508.out 1).trans rfl; have hcz67_2 : w66.cell? ⟨gb508, 2, none⟩ = some (.string ((rd_T25 l0 x3_1).f2)) := (blk_cell BK508.out 2).trans rfl; have hfz67_0 := blk_frozen BK508.out 0; have hfz67_1 := blk_frozen BK508.out 1; have hfz67_2 := blk_frozen BK508.out 2; obtain ⟨Ao68, co68, eo68⟩ := Kd.R_slice HO530.out; subst eo68) | ((with_reducible refine gate_callee (f := 17) rfl ?_); refine goesL_ (some 112) rfl rfl Tryd.func17 zz26 rfl #[.int .i64 ((rd_T25 l0 x3_1).f0), .slice Ao68 t526.length co68] rfl zz11 ?_; (with_reducible refine (prop_Bytes.calls kj13 ((rd_T25 l0 x3_1).f0) _ _ t526 t532 t533 _ ?side1 ?side2 zz3 A46.out).mono ?_); (case side1 => repeat (first | exact (Kd.R_reads' HO530.out).2.2 | (with_reducible refine Kd.C_alloc ?_ _) | (with_reducible refine Kd.C_drewN ?_ _) | (with_reducible refine Kd.C_drew ?_))); (case side2 => exact (Kd.R_reads' HO530.out).2.1); rintro e w69 ⟨rfl, hb⟩; refine ⟨_, rfl, ?_⟩; have n0_ := Aside0.mk (Kd.R_below zz18 hb); have n1_ := Aside0.mk (blk_below (g := gb508) (o := .cells #[.int .i64 ((rd_T25 l0 x3_1).f0), .slice A507_1 ((rd_T25 l0 x3_1).f1).length c507_1, .string ((rd_T25 l0 x3_1).f2)] 25 (0, 0)) zz16 hb); have n2_ := Aside0.mk (below_step zz8 hb); clear HO530; clear BK508; clear HB; have HO530 := n0_; have BK508 := n1_; have HB := n2_; clear n0_ n1_ n2_; (try clear hb); (try clear hb2); (try clear hk); (try clear hi)) | ((with_reducible refine gate_callee (f := 13) rfl ?_); refine goesL_ (some 116) rfl rfl Tryd.func13 zz26 rfl #[.int .i64 t533] rfl zz11 ?_; (with_reducible refine (fairwaylaw4_num.calls t533 t534 _ A47.out).mono ?_); rintro e w' ⟨rfl, ⟨nd, rfl⟩⟩; refine ⟨_, rfl, ?_⟩; have hcz70_0 : w69.cell? ⟨gb508, 0, none⟩ = some (.int .i64 ((rd_T25 l0 x3_1).f0)) := (blk_cell BK508.out 0).trans rfl; have hcz70_1 : w69.cell? ⟨gb508, 1, none⟩ = some (.slice A507_1 ((rd_T25 l0 x3_1).f1).length c507_1) := (blk_cell BK508.out 1).trans rfl; have hcz70_2 : w69.cell? ⟨gb508, 2, none⟩ = some (.string ((rd_T25 l0 x3_1).f2)) := (blk_cell BK508.out 2).trans rfl; have hfz70_0 := blk_frozen BK508.out 0; have hfz70_1 := blk_frozen BK508.out 1; have hfz70_2 := blk_frozen BK508.out 2))
                  go_roundg kj13
                  case measure => have := HK1.out; have := HJ1.out; have := HJ13.out; omega
                  case rel => exact ⟨(wrap64 (x3_1 + 1)), zz24, H', ⟨by have := HK1.out; have := HJ1.out; have := HJ13.out; omega⟩, ⟨zz8⟩⟩
                 rw [if_neg c64] at H; have c64b0 : (t532.toList == (((rd_T25 l0 x3_1).f2).extract 0 (t527 : Int).toNat).toList) = false := beq_eq_false_iff_ne.mpr c64; have c64b1 : (t532.toList != (((rd_T25 l0 x3_1).f2).extract 0 (t527 : Int).toNat).toList) = true := bne_iff_ne.mpr c64; obtain rfl := Option.some.inj H; have hcz71_0 : wc.cell? ⟨gb508, 0, none⟩ = some (.int .i64 ((rd_T25 l0 x3_1).f0)) := (blk_cell BK508.out 0).trans rfl; have hcz71_1 : wc.cell? ⟨gb508, 1, none⟩ = some (.slice A507_1 ((rd_T25 l0 x3_1).f1).length c507_1) := (blk_cell BK508.out 1).trans rfl; have hcz71_2 : wc.cell? ⟨gb508, 2, none⟩ = some (.string ((rd_T25 l0 x3_1).f2)) := (blk_cell BK508.out 2).trans rfl; have hfz71_0 := blk_frozen BK508.out 0; have hfz71_1 := blk_frozen BK508.out 1; have hfz71_2 := blk_frozen BK508.out 2; go_wp2_with (first | ((with_reducible refine gate_callee (f := 22) rfl ?_); refine goesL_ (some 101) rfl rfl Tryd.func22 zz26 rfl #[.int .i64 ((rd_T25 l0 x3_1).f0), .string ((rd_T25 l0 x3_1).f2)] rfl zz11 ?_; (with_reducible refine (prop_Take.calls kj13 ((rd_T25 l0 x3_1).f0) ((rd_T25 l0 x3_1).f2) t526 t527 t528 _ zz3 A43.out).mono ?_); rintro e w72 ⟨v529, rfl, ho0, hb⟩; refine ⟨_, rfl, ?_⟩; have n0_ := Aside0.mk (Kd.R_lower ho0 (below_size zz8)); have n1_ := Aside0.mk (blk_below (g := gb508) (o := .cells #[.int .i64 ((rd_T25 l0 x3_1).f0), .slice A507_1 ((rd_T25 l0 x3_1).f1).length c507_1, .string ((rd_T25 l0 x3_1).f2)] 25 (0, 0)) zz16 hb); have n2_ := Aside0.mk (below_step zz8 hb); clear BK508; clear HB; have HO530 := n0_; have BK508 := n1_; have HB := n2_; clear n0_ n1_ n2_; (try clear hb); (try clear hb2); (try clear hk); (try clear hi); (try clear ho0)) | ((with_reducible refine gate_callee (f := 13) rfl ?_); refine goesL_ (some 106) rfl rfl Tryd.func13 zz26 rfl #[.int .i64 t528] rfl zz11 ?_; (with_reducible refine (fairwaylaw4_num.calls t528 t531 _ A44.out).mono ?_); rintro e w' ⟨rfl, ⟨nd, rfl⟩⟩; refine ⟨_, rfl, ?_⟩; have hcz73_0 : w72.cell? ⟨gb508, 0, none⟩ = some (.int .i64 ((rd_T25 l0 x3_1).f0)) := (blk_cell BK508.out 0).trans rfl; have hcz73_1 : w72.cell? ⟨gb508, 1, none⟩ = some (.slice A507_1 ((rd_T25 l0 x3_1).f1).length c507_1) := (blk_cell BK508.out 1).trans rfl; have hcz73_2 : w72.cell? ⟨gb508, 2, none⟩ = some (.string ((rd_T25 l0 x3_1).f2)) := (blk_cell BK508.out 2).trans rfl; have hfz73_0 := blk_frozen BK508.out 0; have hfz73_1 := blk_frozen BK508.out 1; have hfz73_2 := blk_frozen BK508.out 2; obtain ⟨Ao74, co74, eo74⟩ := Kd.R_slice HO530.out; subst eo74) | ((with_reducible refine gate_callee (f := 17) rfl ?_); refine goesL_ (some 112) rfl rfl Tryd.func17 zz26 rfl #[.int .i64 ((rd_T25 l0 x3_1).f0), .slice Ao74 t526.length co74] rfl zz11 ?_; (with_reducible refine (prop_Bytes.calls kj13 ((rd_T25 l0 x3_1).f0) _ _ t526 t532 t533 _ ?side1 ?side2 zz3 A46.out).mono ?_); (case side1 => repeat (first | exact (Kd.R_reads' HO530.out).2.2 | (with_reducible refine Kd.C_alloc ?_ _) | (with_reducible refine Kd.C_drewN ?_ _) | (with_reducible refine Kd.C_drew ?_))); (case side2 => exact (Kd.R_reads' HO530.out).2.1); rintro e w75 ⟨rfl, hb⟩; refine ⟨_, rfl, ?_⟩; have n0_ := Aside0.mk (Kd.R_below zz18 hb); have n1_ := Aside0.mk (blk_below (g := gb508) (o := .cells #[.int .i64 ((rd_T25 l0 x3_1).f0), .slice A507_1 ((rd_T25 l0 x3_1).f1).length c507_1, .string ((rd_T25 l0 x3_1).f2)] 25 (0, 0)) zz16 hb); have n2_ := Aside0.mk (below_step zz8 hb); clear HO530; clear BK508; clear HB; have HO530 := n0_; have BK508 := n1_; have HB := n2_; clear n0_ n1_ n2_; (try clear hb); (try clear hb2); (try clear hk); (try clear hi)) | ((with_reducible refine gate_callee (f := 13) rfl ?_); refine goesL_ (some 116) rfl rfl Tryd.func13 zz26 rfl #[.int .i64 t533] rfl zz11 ?_; (with_reducible refine (fairwaylaw4_num.calls t533 t534 _ A47.out).mono ?_); rintro e w' ⟨rfl, ⟨nd, rfl⟩⟩; refine ⟨_, rfl, ?_⟩; have hcz76_0 : w75.cell? ⟨gb508, 0, none⟩ = some (.int .i64 ((rd_T25 l0 x3_1).f0)) := (blk_cell BK508.out 0).trans rfl; have hcz76_1 : w75.cell? ⟨gb508, 1, none⟩ = some (.slice A507_1 ((rd_T25 l0 x3_1).f1).length c507_1) := (blk_cell BK508.out 1).trans rfl; have hcz76_2 : w75.cell? ⟨gb508, 2, none⟩ = some (.string ((rd_T25 l0 x3_1).f2)) := (blk_cell BK508.out 2).trans rfl; have hfz76_0 := blk_frozen BK508.out 0; have hfz76_1 := blk_frozen BK508.out 1; have hfz76_2 := blk_frozen BK508.out 2))
                 go_ret
                 exact ⟨zz20, zz8⟩
                rw [if_neg c63] at H; exact absurd H (by simp)
               rw [if_neg c62] at H; exact absurd H (by simp)
              rw [if_neg c48] at H; have c48b0 : (t534 == 0) = false := beq_eq_false_iff_ne.mpr c48; have c48b1 : (t534 != 0) = true := bne_iff_ne.mpr c48; obtain rfl := Option.some.inj H; have hcz77_0 : wc.cell? ⟨gb508, 0, none⟩ = some (.int .i64 ((rd_T25 l0 x3_1).f0)) := (blk_cell BK508.out 0).trans rfl; have hcz77_1 : wc.cell? ⟨gb508, 1, none⟩ = some (.slice A507_1 ((rd_T25 l0 x3_1).f1).length c507_1) := (blk_cell BK508.out 1).trans rfl; have hcz77_2 : wc.cell? ⟨gb508, 2, none⟩ = some (.string ((rd_T25 l0 x3_1).f2)) := (blk_cell BK508.out 2).trans rfl; have hfz77_0 := blk_frozen BK508.out 0; have hfz77_1 := blk_frozen BK508.out 1; have hfz77_2 := blk_frozen BK508.out 2; go_wp2_with (first | ((with_reducible refine gate_callee (f := 22) rfl ?_); refine goesL_ (some 101) rfl rfl Tryd.func22 zz26 rfl #[.int .i64 ((rd_T25 l0 x3_1).f0), .string ((rd_T25 l0 x3_1).f2)] rfl zz11 ?_; (with_reducible refine (prop_Take.calls kj13 ((rd_T25 l0 x3_1).f0) ((rd_T25 l0 x3_1).f2) t526 t527 t528 _ zz3 A43.out).mono ?_); rintro e w78 ⟨v529, rfl, ho0, hb⟩; refine ⟨_, rfl, ?_⟩; have n0_ := Aside0.mk (Kd.R_lower ho0 (below_size zz8)); have n1_ := Aside0.mk (blk_below (g := gb508) (o := .cells #[.int .i64 ((rd_T25 l0 x3_1).f0), .slice A507_1 ((rd_T25 l0 x3_1).f1).length c507_1, .string ((rd_T25 l0 x3_1).f2)] 25 (0, 0)) zz16 hb); have n2_ := Aside0.mk (below_step zz8 hb); clear BK508; clear HB; have HO530 := n0_; have BK508 := n1_; have HB := n2_; clear n0_ n1_ n2_; (try clear hb); (try clear hb2); (try clear hk); (try clear hi); (try clear ho0)) | ((with_reducible refine gate_callee (f := 13) rfl ?_); refine goesL_ (some 106) rfl rfl Tryd.func13 zz26 rfl #[.int .i64 t528] rfl zz11 ?_; (with_reducible refine (fairwaylaw4_num.calls t528 t531 _ A44.out).mono ?_); rintro e w' ⟨rfl, ⟨nd, rfl⟩⟩; refine ⟨_, rfl, ?_⟩; have hcz79_0 : w78.cell? ⟨gb508, 0, none⟩ = some (.int .i64 ((rd_T25 l0 x3_1).f0)) := (blk_cell BK508.out 0).trans rfl; have hcz79_1 : w78.cell? ⟨gb508, 1, none⟩ = some (.slice A507_1 ((rd_T25 l0 x3_1).f1).length c507_1) := (blk_cell BK508.out 1).trans rfl; have hcz79_2 : w78.cell? ⟨gb508, 2, none⟩ = some (.string ((rd_T25 l0 x3_1).f2)) := (blk_cell BK508.out 2).trans rfl; have hfz79_0 := blk_frozen BK508.out 0; have hfz79_1 := blk_frozen BK508.out 1; have hfz79_2 := blk_frozen BK508.out 2; obtain ⟨Ao80, co80, eo80⟩ := Kd.R_slice HO530.out; subst eo80) | ((with_reducible refine gate_callee (f := 17) rfl ?_); refine goesL_ (some 112) rfl rfl Tryd.func17 zz26 rfl #[.int .i64 ((rd_T25 l0 x3_1).f0), .slice Ao80 t526.length co80] rfl zz11 ?_; (with_reducible refine (prop_Bytes.calls kj13 ((rd_T25 l0 x3_1).f0) _ _ t526 t532 t533 _ ?side1 ?side2 zz3 A46.out).mono ?_); (case side1 => repeat (first | exact (Kd.R_reads' HO530.out).2.2 | (with_reducible refine Kd.C_alloc ?_ _) | (with_reducible refine Kd.C_drewN ?_ _) | (with_reducible refine Kd.C_drew ?_))); (case side2 => exact (Kd.R_reads' HO530.out).2.1); rintro e w81 ⟨rfl, hb⟩; refine ⟨_, rfl, ?_⟩; have n0_ := Aside0.mk (Kd.R_below zz18 hb); have n1_ := Aside0.mk (blk_below (g := gb508) (o := .cells #[.int .i64 ((rd_T25 l0 x3_1).f0), .slice A507_1 ((rd_T25 l0 x3_1).f1).length c507_1, .string ((rd_T25 l0 x3_1).f2)] 25 (0, 0)) zz16 hb); have n2_ := Aside0.mk (below_step zz8 hb); clear HO530; clear BK508; clear HB; have HO530 := n0_; have BK508 := n1_; have HB := n2_; clear n0_ n1_ n2_; (try clear hb); (try clear hb2); (try clear hk); (try clear hi)) | ((with_reducible refine gate_callee (f := 13) rfl ?_); refine goesL_ (some 116) rfl rfl Tryd.func13 zz26 rfl #[.int .i64 t533] rfl zz11 ?_; (with_reducible refine (fairwaylaw4_num.calls t533 t534 _ A47.out).mono ?_); rintro e w' ⟨rfl, ⟨nd, rfl⟩⟩; refine ⟨_, rfl, ?_⟩))
              go_ret
              exact ⟨zz20, zz8⟩
             rw [if_neg c45] at H; have c45b0 : (t531 == 0) = false := beq_eq_false_iff_ne.mpr c45; have c45b1 : (t531 != 0) = true := bne_iff_ne.mpr c45; have H' := Aside0.mk H; clear H; have hcz82_0 : wc.cell? ⟨gb508, 0, none⟩ = some (.int .i64 ((rd_T25 l0 x3_1).f0)) := (blk_cell BK508.out 0).trans rfl; have hcz82_1 : wc.cell? ⟨gb508, 1, none⟩ = some (.slice A507_1 ((rd_T25 l0 x3_1).f1).length c507_1) := (blk_cell BK508.out 1).trans rfl; have hcz82_2 : wc.cell? ⟨gb508, 2, none⟩ = some (.string ((rd_T25 l0 x3_1).f2)) := (blk_cell BK508.out 2).trans rfl; have hfz82_0 := blk_frozen BK508.out 0; have hfz82_1 := blk_frozen BK508.out 1; have hfz82_2 := blk_frozen BK508.out 2; go_wp2_with (first | ((with_reducible refine gate_callee (f := 22) rfl ?_); refine goesL_ (some 101) rfl rfl Tryd.func22 zz26 rfl #[.int .i64 ((rd_T25 l0 x3_1).f0), .string ((rd_T25 l0 x3_1).f2)] rfl zz11 ?_; (with_reducible refine (prop_Take.calls kj13 ((rd_T25 l0 x3_1).f0) ((rd_T25 l0 x3_1).f2) t526 t527 t528 _ zz3 A43.out).mono ?_); rintro e w83 ⟨v529, rfl, ho0, hb⟩; refine ⟨_, rfl, ?_⟩; have n0_ := Aside0.mk (Kd.R_lower ho0 (below_size zz8)); have n1_ := Aside0.mk (blk_below (g := gb508) (o := .cells #[.int .i64 ((rd_T25 l0 x3_1).f0), .slice A507_1 ((rd_T25 l0 x3_1).f1).length c507_1, .string ((rd_T25 l0 x3_1).f2)] 25 (0, 0)) zz16 hb); have n2_ := Aside0.mk (below_step zz8 hb); clear BK508; clear HB; have HO530 := n0_; have BK508 := n1_; have HB := n2_; clear n0_ n1_ n2_; (try clear hb); (try clear hb2); (try clear hk); (try clear hi); (try clear ho0)) | ((with_reducible refine gate_callee (f := 13) rfl ?_); refine goesL_ (some 106) rfl rfl Tryd.func13 zz26 rfl #[.int .i64 t528] rfl zz11 ?_; (with_reducible refine (fairwaylaw4_num.calls t528 t531 _ A44.out).mono ?_); rintro e w' ⟨rfl, ⟨nd, rfl⟩⟩; refine ⟨_, rfl, ?_⟩))
             go_roundg kj13
             case measure => have := HK1.out; have := HJ1.out; have := HJ13.out; omega
             case rel => exact ⟨(wrap64 (x3_1 + 1)), zz24, H', ⟨by have := HK1.out; have := HJ1.out; have := HJ13.out; omega⟩, ⟨zz8⟩⟩
         rw [if_neg c6] at H; exact absurd H (by simp)
        rw [if_neg c5] at H; exact absurd H (by simp)
       replace c4 := Bool.eq_false_iff.mpr c4; subst c4; have H1 : ((fairwaylaw4_wakes.f kj1).bind fun t506 => (some t506)) = some r := by rw [if_neg (show ¬ (false = true) by decide)] at H; exact H
       clear H; have H := H1; clear H1; replace H := Option.bind_eq_some_iff.mp H; obtain ⟨t506, A840, H⟩ := H; replace H : (some t506) = some r := H; have A84 := Aside0.mk A840; clear A840; obtain rfl := Option.some.inj H; go_wp2_with (first | ((with_reducible refine gate_callee (f := 14) rfl ?_); refine goesL_ (some 137) rfl rfl Tryd.func14 zz26 rfl #[] rfl zz11 ?_; (with_reducible refine (fairwaylaw4_wakes.calls kj1  t506 _ zz3 A84.out).mono ?_); rintro e w85 ⟨rfl, hb⟩; refine ⟨_, rfl, ?_⟩; have n0_ := Aside0.mk (below_step zz12 hb); clear HB; have HB := n0_; clear n0_; (try clear hb); (try clear hb2); (try clear hk); (try clear hi)))
       go_ret
       exact ⟨zz20, zz12⟩
end Go.Proofs.YtiancopplinpcaaDoor.P
end
section
namespace Go.Proofs.YtiancopplinpcaaDoor.P
open Go.RowKit Go.Proofs.YtiancopplinpcaaDoorW.PrintWords Go.Proofs.YtiancopplinpcaaDoorW.PrintLast Go.Proofs.YtiancopplinpcaaDoorW.PrintMore
set_option linter.unusedVariables false
set_option linter.unusedSimpArgs false
noncomputable def fairwaylaw4_PropBack.fL (l0 : List (S25)) : Option (Bool) := lim fun k => fairwaylaw4_PropBack.f k l0
noncomputable def fairwaylaw4_PropBack.l0L (x0 : List (S25)) (x3 : Int) : Option (Bool) := lim fun k => fairwaylaw4_PropBack.l0 k x0 x3
noncomputable def fairwaylaw4_PropBack.j1L (x0 : List (S25)) (x3 : Int) (x26 : Bool) : Option (Bool) := lim fun k => fairwaylaw4_PropBack.j1 k x0 x3 x26
noncomputable def fairwaylaw4_PropBack.j4L (x0 : List (S25)) (x3 : Int) (x509000 : Int) (x509001 : List (S42)) (x509002 : ByteArray) : Option (Bool) := lim fun k => fairwaylaw4_PropBack.j4 k x0 x3 x509000 x509001 x509002
noncomputable def fairwaylaw4_PropBack.j2L (x0 : List (S25)) (x3 : Int) (x5 : ByteArray) (x72 : Bool) (x509000 : Int) (x509001 : List (S42)) (x509002 : ByteArray) : Option (Bool) := lim fun k => fairwaylaw4_PropBack.j2 k x0 x3 x5 x72 x509000 x509001 x509002
noncomputable def fairwaylaw4_PropBack.l1L (x0 : List (S25)) (x3 : Int) (x5 : ByteArray) (x10 : Int) (x509000 : Int) (x509001 : List (S42)) (x509002 : ByteArray) : Option (Bool) := lim fun k => fairwaylaw4_PropBack.l1 k x0 x3 x5 x10 x509000 x509001 x509002
theorem fairwaylaw4_PropBack.fL_eq (l0 : List (S25)) : fairwaylaw4_PropBack.fL l0 = fairwaylaw4_PropBack.l0L l0 0 := by
  show lim (fun k => fairwaylaw4_PropBack.f k l0) = _
  show lim (fun k => fairwaylaw4_PropBack.l0 k l0 0) = _
  repeat' (first | exact lim_const _ | (with_reducible refine lim_ite' ?_ ?_) | ((with_reducible refine lim_bind' ?hm ?hx (fun _ => ?_)); (case hm => exact (fun k => by first | exact LeO.refl _)); (case hx => first | exact lim_const _ | rfl)) | rfl)
theorem fairwaylaw4_PropBack.l0L_eq (x0 : List (S25)) (x3 : Int) : fairwaylaw4_PropBack.l0L x0 x3 = if x3 < (x0.length : Int) then (fairwaylaw4_PropBack.j1L x0 x3 (decide (x3 < 10))) else (fairwaylaw4_PropBack.j1L x0 x3 false) := by
  show lim (fun k => fairwaylaw4_PropBack.l0 k x0 x3) = _
  rw [lim_step (f := fun k => if x3 < (x0.length : Int) then (fairwaylaw4_PropBack.j1 k x0 x3 (decide (x3 < 10))) else (fairwaylaw4_PropBack.j1 k x0 x3 false)) (fun k => by first | rfl | simp only [fairwaylaw4_PropBack.l0])]
  repeat' (first | exact lim_const _ | (with_reducible refine lim_ite' ?_ ?_) | ((with_reducible refine lim_bind' ?hm ?hx (fun _ => ?_)); (case hm => exact (fun k => by first | exact LeO.refl _)); (case hx => first | exact lim_const _ | rfl)) | rfl)
theorem fairwaylaw4_PropBack.j1L_eq (x0 : List (S25)) (x3 : Int) (x26 : Bool) : fairwaylaw4_PropBack.j1L x0 x3 x26 = if x26 = true then (if 0 ≤ x3 then (if x3 < (x0.length : Int) then ((fairwaylaw4_heavy.fL ((rd_T25 x0 x3).f0) ((rd_T25 x0 x3).f1) ((rd_T25 x0 x3).f2)).bind fun t509 => (if t509 = true then (some true) else ((prop_Bytes.fL ((rd_T25 x0 x3).f0) ((rd_T25 x0 x3).f1)).bind fun bt510 => ((fairwaylaw4_num.f bt510.2).bind fun t512 => (if t512 = 0 then (if bt510.1.size + ((rd_T25 x0 x3).f2).size ≤ 9223372036854775807 then ((prop_Take.fL ((rd_T25 x0 x3).f0) (bt510.1 ++ ((rd_T25 x0 x3).f2))).bind fun bt513 => ((fairwaylaw4_num.f bt513.2.2).bind fun t518 => (if t518 = 0 then (if bt513.2.1 = (bt510.1.size : Int) then ((fairwayref0_EqProps.fL bt513.1 ((rd_T25 x0 x3).f1)).bind fun t519 => (fairwaylaw4_PropBack.j2L x0 x3 bt510.1 (!t519) ((rd_T25 x0 x3).f0) ((rd_T25 x0 x3).f1) ((rd_T25 x0 x3).f2))) else (fairwaylaw4_PropBack.j2L x0 x3 bt510.1 true ((rd_T25 x0 x3).f0) ((rd_T25 x0 x3).f1) ((rd_T25 x0 x3).f2))) else (fairwaylaw4_PropBack.j2L x0 x3 bt510.1 true ((rd_T25 x0 x3).f0) ((rd_T25 x0 x3).f1) ((rd_T25 x0 x3).f2))))) else (none)) else (fairwaylaw4_PropBack.j4L x0 x3 ((rd_T25 x0 x3).f0) ((rd_T25 x0 x3).f1) ((rd_T25 x0 x3).f2))))))) else (none)) else (none)) else ((fairwaylaw4_wakes.fL).bind fun t506 => (some t506)) := by
  show lim (fun k => fairwaylaw4_PropBack.j1 k x0 x3 x26) = _
  rw [lim_step (f := fun k => if x26 = true then (if 0 ≤ x3 then (if x3 < (x0.length : Int) then ((fairwaylaw4_heavy.f k ((rd_T25 x0 x3).f0) ((rd_T25 x0 x3).f1) ((rd_T25 x0 x3).f2)).bind fun t509 => (if t509 = true then (some true) else ((prop_Bytes.f k ((rd_T25 x0 x3).f0) ((rd_T25 x0 x3).f1)).bind fun bt510 => ((fairwaylaw4_num.f bt510.2).bind fun t512 => (if t512 = 0 then (if bt510.1.size + ((rd_T25 x0 x3).f2).size ≤ 9223372036854775807 then ((prop_Take.f k ((rd_T25 x0 x3).f0) (bt510.1 ++ ((rd_T25 x0 x3).f2))).bind fun bt513 => ((fairwaylaw4_num.f bt513.2.2).bind fun t518 => (if t518 = 0 then (if bt513.2.1 = (bt510.1.size : Int) then ((fairwayref0_EqProps.f k bt513.1 ((rd_T25 x0 x3).f1)).bind fun t519 => (fairwaylaw4_PropBack.j2 k x0 x3 bt510.1 (!t519) ((rd_T25 x0 x3).f0) ((rd_T25 x0 x3).f1) ((rd_T25 x0 x3).f2))) else (fairwaylaw4_PropBack.j2 k x0 x3 bt510.1 true ((rd_T25 x0 x3).f0) ((rd_T25 x0 x3).f1) ((rd_T25 x0 x3).f2))) else (fairwaylaw4_PropBack.j2 k x0 x3 bt510.1 true ((rd_T25 x0 x3).f0) ((rd_T25 x0 x3).f1) ((rd_T25 x0 x3).f2))))) else (none)) else (fairwaylaw4_PropBack.j4 k x0 x3 ((rd_T25 x0 x3).f0) ((rd_T25 x0 x3).f1) ((rd_T25 x0 x3).f2))))))) else (none)) else (none)) else ((fairwaylaw4_wakes.f k).bind fun t506 => (some t506))) (fun k => by first | rfl | simp only [fairwaylaw4_PropBack.j1])]
  repeat' (first | exact lim_const _ | (with_reducible refine lim_ite' ?_ ?_) | ((with_reducible refine lim_bind' ?hm ?hx (fun _ => ?_)); (case hm => exact (fun k => by first | exact LeO.refl _ | apply fairwaylaw4_heavy.mono | apply fairwaylaw4_wakes.mono | apply fairwayref0_EqProps.mono | apply prop_Bytes.mono | apply prop_Take.mono)); (case hx => first | exact lim_const _ | rfl)) | rfl)
theorem fairwaylaw4_PropBack.j4L_eq (x0 : List (S25)) (x3 : Int) (x509000 : Int) (x509001 : List (S42)) (x509002 : ByteArray) : fairwaylaw4_PropBack.j4L x0 x3 x509000 x509001 x509002 = (prop_Take.fL x509000 x509002).bind fun bt526 => ((fairwaylaw4_num.f bt526.2.2).bind fun t531 => (if t531 = 0 then ((prop_Bytes.fL x509000 bt526.1).bind fun bt532 => ((fairwaylaw4_num.f bt532.2).bind fun t534 => (if t534 = 0 then (if bt526.2.1 < 0 then (some false) else (if bt526.2.1 > (x509002.size : Int) then (some false) else (if 0 ≤ bt526.2.1 then (if bt526.2.1 ≤ (x509002.size : Int) then (if bt532.1.toList = (x509002.extract 0 (bt526.2.1 : Int).toNat).toList then (fairwaylaw4_PropBack.l0L x0 (wrap64 (x3 + 1))) else (some false)) else (none)) else (none)))) else (some false)))) else (fairwaylaw4_PropBack.l0L x0 (wrap64 (x3 + 1))))) := by
  show lim (fun k => fairwaylaw4_PropBack.j4 k x0 x3 x509000 x509001 x509002) = _
  rw [lim_step (f := fun k => (prop_Take.f k x509000 x509002).bind fun bt526 => ((fairwaylaw4_num.f bt526.2.2).bind fun t531 => (if t531 = 0 then ((prop_Bytes.f k x509000 bt526.1).bind fun bt532 => ((fairwaylaw4_num.f bt532.2).bind fun t534 => (if t534 = 0 then (if bt526.2.1 < 0 then (some false) else (if bt526.2.1 > (x509002.size : Int) then (some false) else (if 0 ≤ bt526.2.1 then (if bt526.2.1 ≤ (x509002.size : Int) then (if bt532.1.toList = (x509002.extract 0 (bt526.2.1 : Int).toNat).toList then (fairwaylaw4_PropBack.l0 k x0 (wrap64 (x3 + 1))) else (some false)) else (none)) else (none)))) else (some false)))) else (fairwaylaw4_PropBack.l0 k x0 (wrap64 (x3 + 1)))))) (fun k => by first | rfl | simp only [fairwaylaw4_PropBack.j4])]
  repeat' (first | exact lim_const _ | (with_reducible refine lim_ite' ?_ ?_) | ((with_reducible refine lim_bind' ?hm ?hx (fun _ => ?_)); (case hm => exact (fun k => by first | exact LeO.refl _ | apply prop_Bytes.mono | apply prop_Take.mono)); (case hx => first | exact lim_const _ | rfl)) | rfl)
theorem fairwaylaw4_PropBack.j2L_eq (x0 : List (S25)) (x3 : Int) (x5 : ByteArray) (x72 : Bool) (x509000 : Int) (x509001 : List (S42)) (x509002 : ByteArray) : fairwaylaw4_PropBack.j2L x0 x3 x5 x72 x509000 x509001 x509002 = if x72 = true then (some false) else (fairwaylaw4_PropBack.l1L x0 x3 x5 0 x509000 x509001 x509002) := by
  show lim (fun k => fairwaylaw4_PropBack.j2 k x0 x3 x5 x72 x509000 x509001 x509002) = _
  rw [lim_step (f := fun k => if x72 = true then (some false) else (fairwaylaw4_PropBack.l1 k x0 x3 x5 0 x509000 x509001 x509002)) (fun k => by first | rfl | simp only [fairwaylaw4_PropBack.j2])]
  repeat' (first | exact lim_const _ | (with_reducible refine lim_ite' ?_ ?_) | ((with_reducible refine lim_bind' ?hm ?hx (fun _ => ?_)); (case hm => exact (fun k => by first | exact LeO.refl _)); (case hx => first | exact lim_const _ | rfl)) | rfl)
theorem fairwaylaw4_PropBack.l1L_eq (x0 : List (S25)) (x3 : Int) (x5 : ByteArray) (x10 : Int) (x509000 : Int) (x509001 : List (S42)) (x509002 : ByteArray) : fairwaylaw4_PropBack.l1L x0 x3 x5 x10 x509000 x509001 x509002 = if x10 < (x5.size : Int) then (if 0 ≤ x10 then (if x10 ≤ (x5.size : Int) then ((prop_Take.fL x509000 (x5.extract 0 (x10 : Int).toNat)).bind fun bt520 => ((fairwaylaw4_num.f bt520.2.2).bind fun t525 => (if t525 = 7 then (fairwaylaw4_PropBack.l1L x0 x3 x5 (wrap64 ((wrap64 (x10 + 1)) + (wrap64 ((x5.size : Int) / 20)))) x509000 x509001 x509002) else (some false)))) else (none)) else (none)) else (fairwaylaw4_PropBack.j4L x0 x3 x509000 x509001 x509002) := by
  show lim (fun k => fairwaylaw4_PropBack.l1 k x0 x3 x5 x10 x509000 x509001 x509002) = _
  rw [lim_step (f := fun k => if x10 < (x5.size : Int) then (if 0 ≤ x10 then (if x10 ≤ (x5.size : Int) then ((prop_Take.f k x509000 (x5.extract 0 (x10 : Int).toNat)).bind fun bt520 => ((fairwaylaw4_num.f bt520.2.2).bind fun t525 => (if t525 = 7 then (fairwaylaw4_PropBack.l1 k x0 x3 x5 (wrap64 ((wrap64 (x10 + 1)) + (wrap64 ((x5.size : Int) / 20)))) x509000 x509001 x509002) else (some false)))) else (none)) else (none)) else (fairwaylaw4_PropBack.j4 k x0 x3 x509000 x509001 x509002)) (fun k => by first | rfl | simp only [fairwaylaw4_PropBack.l1])]
  repeat' (first | exact lim_const _ | (with_reducible refine lim_ite' ?_ ?_) | ((with_reducible refine lim_bind' ?hm ?hx (fun _ => ?_)); (case hm => exact (fun k => by first | exact LeO.refl _ | apply prop_Take.mono)); (case hx => first | exact lim_const _ | rfl)) | rfl)
end Go.Proofs.YtiancopplinpcaaDoor.P
end
