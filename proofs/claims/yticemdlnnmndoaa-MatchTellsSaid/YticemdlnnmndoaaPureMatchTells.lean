/- The pure statement of MatchTells: what the program tells of matchers is what the book's plain forms tell. -/
import Derived.Test.YticemdlnnmndoaaQ24
import Derived.Test.YticemdlnnmndoaaBaseP
namespace Go.Proofs.Yticemdlnnmndoaa.Pure
open Go.RowKit Go.Proofs.YticemdlnnmndoaaW.PrintWords Go.Proofs.YticemdlnnmndoaaW.PrintLast Go.Proofs.Yticemdlnnmndoaa.Q
set_option linter.unusedVariables false
set_option linter.unusedSimpArgs false

theorem rd_mem30 {l : List S30} {x : Int} (h0 : 0 ≤ x) (h1 : x < l.length) : rd_T30 l x ∈ l := by
  have h2 : x.toNat < l.length := by omega
  unfold rd_T30
  rw [List.getD_eq_getElem?_getD, List.getElem?_eq_getElem h2]
  exact List.getElem_mem h2
def SmallM (l : List S30) : Prop := l.length ≤ 100 ∧ ∀ y ∈ l, y.f0.size ≤ 5000 ∧ y.f2.size ≤ 5000
theorem great_l1 (l : List S44) (hl : l.length ≤ 100) (hg : ∀ y ∈ l, good44 y) : ∀ (d : Nat) (x left : Int), 0 ≤ x → x ≤ l.length → (l.length : Int) - x = d → 0 ≤ left → left ≤ 5000 →
    ∃ r, Ev (fun k => tocsinlaw08_great.l1 k l left x) r := by
  intro d
  induction d with
  | zero =>
    intro x left h0 h1 hd _ _
    exact ⟨false, Ev.step (fun k => by rw [tocsinlaw08_great.l1, if_neg (by omega)]) (Ev.now _)⟩
  | succ d ih =>
    intro x left h0 h1 hd hl0 hl1
    have hx : x < l.length := by omega
    have hgx := hg _ (show rd_T44 l x ∈ l by
      have h2 : x.toNat < l.length := by omega
      unfold rd_T44
      rw [List.getD_eq_getElem?_getD, List.getElem?_eq_getElem h2]
      exact List.getElem_mem h2)
    unfold good44 at hgx
    by_cases a : ((rd_T44 l x).f0.size : Int) > left
    · exact ⟨true, Ev.step (fun k => by rw [tocsinlaw08_great.l1, if_pos hx, if_pos h0, if_pos a]) (Ev.now _)⟩
    · by_cases b : ((rd_T44 l x).f1.size : Int) > left - (rd_T44 l x).f0.size
      · exact ⟨true, Ev.step (fun k => by rw [tocsinlaw08_great.l1, if_pos hx, if_pos h0, if_neg a, w64 (x := left - _) (by omega) (by omega), if_pos b]) (Ev.now _)⟩
      · obtain ⟨r, hr⟩ := ih (x + 1) (left - (rd_T44 l x).f0.size - (rd_T44 l x).f1.size) (by omega) (by omega) (by omega) (by omega) (by omega)
        exact ⟨r, Ev.step (fun k => by rw [tocsinlaw08_great.l1, if_pos hx, if_pos h0, if_neg a, w64 (x := left - _) (by omega) (by omega), if_neg b, w64 (x := _ - _) (by omega) (by omega), w64 (x := x + 1) (by omega) (by omega)]) hr⟩
theorem great_l0 (m : List S30) (l : List S44) (hm : m.length ≤ 100) (hl : l.length ≤ 100) (hgm : ∀ y ∈ m, good30 y) (hg : ∀ y ∈ l, good44 y) : ∀ (d : Nat) (x left : Int), 0 ≤ x → x ≤ m.length → (m.length : Int) - x = d → 0 ≤ left → left ≤ 5000 →
    ∃ r, Ev (fun k => tocsinlaw08_great.l0 k m l left x) r ∧ (r = false → ∀ y ∈ m.drop x.toNat, y.f0.size ≤ 5000 ∧ y.f2.size ≤ 5000) := by
  intro d
  induction d with
  | zero =>
    intro x left h0 h1 hd h2 h3
    obtain ⟨r, hr⟩ := great_l1 l hl hg l.length 0 left (by omega) (by omega) (by omega) h2 h3
    refine ⟨r, Ev.step (fun k => by rw [tocsinlaw08_great.l0, if_neg (by omega)]) hr, fun _ y hy => ?_⟩
    rw [List.drop_eq_nil_of_le (by omega)] at hy
    simp at hy
  | succ d ih =>
    intro x left h0 h1 hd hl0 hl1
    have hx : x < m.length := by omega
    have hgx := hgm _ (rd_mem30 h0 hx)
    unfold good30 at hgx
    by_cases a : ((rd_T30 m x).f0.size : Int) > left
    · exact ⟨true, Ev.step (fun k => by rw [tocsinlaw08_great.l0, if_pos hx, if_pos h0, if_pos a]) (Ev.now _), fun h => by cases h⟩
    · by_cases b : ((rd_T30 m x).f2.size : Int) > left - (rd_T30 m x).f0.size
      · exact ⟨true, Ev.step (fun k => by rw [tocsinlaw08_great.l0, if_pos hx, if_pos h0, if_neg a, w64 (x := left - _) (by omega) (by omega), if_pos b]) (Ev.now _), fun h => by cases h⟩
      · obtain ⟨r, hr, hs⟩ := ih (x + 1) (left - (rd_T30 m x).f0.size - (rd_T30 m x).f2.size) (by omega) (by omega) (by omega) (by omega) (by omega)
        refine ⟨r, Ev.step (fun k => by rw [tocsinlaw08_great.l0, if_pos hx, if_pos h0, if_neg a, w64 (x := left - _) (by omega) (by omega), if_neg b, w64 (x := _ - _) (by omega) (by omega), w64 (x := x + 1) (by omega) (by omega)]) hr, fun h y hy => ?_⟩
        rw [rd_drop30 m x.toNat (by omega), Int.toNat_of_nonneg h0, ← toNat_succ h0] at hy
        rcases List.mem_cons.1 hy with rfl | hy
        · omega
        · exact hs h y hy
theorem great (m : List S30) (l : List S44) (hgm : ∀ y ∈ m, good30 y) (hg : ∀ y ∈ l, good44 y) : ∃ r, Ev (fun k => tocsinlaw08_great.f k m l) r ∧ (r = false → SmallM m ∧ l.length ≤ 100) := by
  have hj : Ev (fun k => tocsinlaw08_great.j0 k m l true) true := Ev.step (fun k => by rw [tocsinlaw08_great.j0, if_pos rfl]) (Ev.now _)
  unfold tocsinlaw08_great.f
  by_cases a : (m.length : Int) > 100
  · exact ⟨true, ev_pos a hj, fun h => by cases h⟩
  · by_cases b : (l.length : Int) > 100
    · refine ⟨true, ev_neg a ?_, fun h => by cases h⟩
      rw [decide_eq_true b]
      exact hj
    · obtain ⟨r, hr, hs⟩ := great_l0 m l (by omega) (by omega) hgm hg m.length 0 5000 (by omega) (by omega) (by omega) (by omega) (by omega)
      refine ⟨r, ev_neg a ?_, fun h => ⟨⟨by omega, by simpa using hs h⟩, by omega⟩⟩
      rw [decide_eq_false b]
      exact Ev.step (fun k => by rw [tocsinlaw08_great.j0, if_neg (by simp)]) hr

/-! May -/
theorem may_val (v : ByteArray) : match_may.f v = some (decide (v.size ≤ 32) && allB signB v) := by
  unfold match_may.f
  by_cases h : v.toList = []
  · rw [if_pos h]
    rw [ByteArray.toList_eq] at h
    have h0 : v.size = 0 := by rw [← data_length, h]; rfl
    unfold allB
    rw [h, h0]
    rfl
  · rw [if_neg h]
    have h0 : 1 ≤ v.size := by
      rw [ByteArray.toList_eq] at h
      rw [← data_length]
      cases hv : v.data.toList with
      | nil => exact absurd hv h
      | cons => simp
    unfold labels_MayValue.f mayValue
    rw [decide_eq_true h0, Bool.true_and]
    rfl
theorem u8_nat {x : S30} (h : good30 x) : 0 ≤ x.f1 := by
  have := h.2.1
  simp [Lit.wf] at this
  first | omega | exact this.1
theorem okM_eq {x : S30} (h : 0 ≤ x.f1) : okM x = (decide (x.f1 ≤ 2) && (mayName x.f0 && (decide (x.f2.size ≤ 32) && allB signB x.f2))) := by
  unfold okM
  rw [may_val]
  have : Ops.lookB x.f1 = decide (x.f1 ≤ 2) := by
    unfold Ops.lookB
    rw [Bool.eq_iff_iff]
    simp
    omega
  rw [this]
theorem refmay_ev (l : List S30) (hl : l.length ≤ 9223372036854775807) (hg : ∀ y ∈ l, good30 y) : ∀ (d : Nat) (x : Int), 0 ≤ x → x ≤ l.length → (l.length : Int) - x = d →
    Ev (fun k => tocsinref08_May.l0 k l x) ((l.drop x.toNat).all okM && decide (l.length ≤ 6)) := by
  intro d
  induction d with
  | zero =>
    intro x h0 h1 hd
    rw [List.drop_eq_nil_of_le (by omega)]
    refine Ev.step (fun k => by rw [tocsinref08_May.l0, if_neg (by omega)]) (ev_some ?_)
    rw [List.all_nil, Bool.true_and, decide_eq_decide]
    omega
  | succ d ih =>
    intro x h0 h1 hd
    have hx : x < l.length := by omega
    have hgx := hg _ (rd_mem30 h0 hx)
    have hn := u8_nat hgx
    unfold good30 at hgx
    rw [all_drop (p := okM) h0 hx, okM_eq hn]
    by_cases a : (rd_T30 l x).f1 > 2
    · rw [decide_eq_false (show ¬ (rd_T30 l x).f1 ≤ 2 by omega)]
      exact Ev.step (fun k => by rw [tocsinref08_May.l0, if_pos hx, if_pos h0, if_pos a]) (ev_some (by simp))
    · rw [decide_eq_true (show (rd_T30 l x).f1 ≤ 2 by omega), Bool.true_and]
      refine Ev.step (fun k => by rw [tocsinref08_May.l0, if_pos hx, if_pos h0, if_neg a]) ?_
      refine Ev.bind (mayName_ref _ hgx.1) ?_
      cases hm : mayName (rd_T30 l x).f0 with
      | false => exact ev_neg (by simp) (ev_some (by simp))
      | true =>
        refine ev_pos rfl ?_
        by_cases b : ((rd_T30 l x).f2.size : Int) > 32
        · rw [decide_eq_false (show ¬ (rd_T30 l x).f2.size ≤ 32 by omega)]
          exact ev_pos b (ev_some (by simp))
        · rw [decide_eq_true (show (rd_T30 l x).f2.size ≤ 32 by omega)]
          refine ev_neg b ?_
          have hp := plain_ev (rd_T30 l x).f2 hgx.2.2 (rd_T30 l x).f2.size 0 (by omega) (by omega) (by omega)
          rw [all_zero] at hp
          refine Ev.bind (show Ev (fun k => tocsinref07_Plain.f k (rd_T30 l x).f2) _ from hp) ?_
          cases hv : allB signB (rd_T30 l x).f2 with
          | false => exact ev_neg (by simp) (ev_some (by simp))
          | true =>
            refine ev_pos rfl ?_
            rw [w64 (by omega) (by omega)]
            have := ih (x + 1) (by omega) (by omega) (by omega)
            simpa using this

/-! Print -/
def itemM (y : S30) : List UInt8 := B y.f0 ++ (B (sgn y.f1) ++ quoteL (B y.f2))
def joinM : List S30 → List UInt8
  | [] => []
  | x :: l => itemM x ++ (match l with | [] => [] | _ :: _ => 44 :: joinM l)
def printM (l : List S30) : List UInt8 := 123 :: (joinM l ++ [125])
theorem joinM_flat (x : S30) (l : List S30) : joinM (x :: l) = itemM x ++ (l.map fun y => 44 :: itemM y).flatten := by
  induction l generalizing x with
  | nil => show itemM x ++ [] = _; simp
  | cons y l ih => show itemM x ++ 44 :: joinM (y :: l) = _; rw [ih y]; simp
theorem sgn_len (q : Int) : (sgn q).size ≤ 2 := by
  unfold sgn
  split
  · exact Nat.le_refl 2
  · split
    · exact Nat.le_refl 2
    · exact Nat.le_succ 1
theorem itemM_len (y : S30) : (itemM y).length ≤ y.f0.size + 2 * y.f2.size + 4 := by
  unfold itemM
  have := quoteL_len (B y.f2)
  have h2 := sgn_len y.f1
  rw [data_length] at this
  rw [List.length_append, List.length_append, data_length, data_length]
  omega
theorem joinM_len {l : List S30} (hs : ∀ y ∈ l, y.f0.size ≤ 5000 ∧ y.f2.size ≤ 5000) : (joinM l).length ≤ 15005 * l.length := by
  induction l with
  | nil => simp [joinM]
  | cons x l ih =>
    have h1 := itemM_len x
    have h2 := hs x (by simp)
    have h3 := ih (fun y hy => hs y (by simp [hy]))
    cases l with
    | nil => show (itemM x ++ []).length ≤ _; rw [List.append_nil, List.length_singleton]; omega
    | cons y l =>
      show (itemM x ++ 44 :: joinM (y :: l)).length ≤ _
      simp only [List.length_append, List.length_cons] at h3 ⊢
      omega
theorem join_comma (l : List S30) : joinL (l.map fun y => str (itemM y)) ⟨#[44]⟩ = joinM l := by
  unfold joinL
  rw [List.map_map, show ((fun x : ByteArray => x.data.toList) ∘ fun y => str (itemM y)) = itemM from rfl]
  cases l with
  | nil => rw [List.map_nil, Lib.join_nil]; rfl
  | cons x l =>
    rw [List.map_cons, Lib.join_cons, joinM_flat]
    unfold Lib.joinTail
    rw [List.map_map]
    rfl
theorem join3 (a b c : ByteArray) : joinL [a, b, c] ⟨#[]⟩ = B a ++ (B b ++ B c) := by
  unfold joinL
  rw [List.map_cons, Lib.join_cons]
  unfold Lib.joinTail
  simp
theorem joined3 (a b c : ByteArray) (h : a.size + b.size + c.size ≤ 140737488355328) : match_joined.f [a, b, c] = some (str (B a ++ (B b ++ B c))) := by
  unfold match_joined.f strings_Join.f
  rw [join3, if_pos ⟨by simp, by simp only [List.length_append, data_length]; omega⟩]
  rfl
theorem run_eq : ∀ (l : List S30) (xs : List S30), SmallM l → xs.length + l.length ≤ 100 → runP l (xs.map fun y => str (itemM y)) = finP ((xs ++ l).map fun y => str (itemM y))
  | [], xs, _, _ => by rw [runP, List.append_nil]
  | y :: l, xs, hs, hl => by
    have hy := hs.2 y (by simp)
    have hq : (quoteL y.f2.data.toList).length ≤ 2 * y.f2.size + 2 := by have := quoteL_len (B y.f2); rwa [data_length] at this
    have hz : (⟨(quoteL y.f2.data.toList).toArray⟩ : ByteArray).size = (quoteL y.f2.data.toList).length := size_str _
    have hg := sgn_len y.f1
    rw [List.length_cons] at hl
    rw [runP, labels_Quote.f, if_pos (by omega), Option.bind_some, joined3 _ _ _ (by omega), Option.bind_some, if_pos (by rw [List.length_map]; omega)]
    have := run_eq l (xs ++ [y]) ⟨by omega, fun z hz => hs.2 z (by simp [hz])⟩ (by rw [List.length_append, List.length_singleton]; omega)
    rw [List.map_append, List.map_cons, List.map_nil] at this
    rw [show xs ++ y :: l = (xs ++ [y]) ++ l by simp, ← this]
    rfl
theorem print (l : List S30) (hs : SmallM l) : match_Print.f l = some (str (printM l)) := by
  unfold match_Print.f
  have h := run_eq l [] hs (by have := hs.1; simpa using this)
  rw [List.map_nil, List.nil_append] at h
  rw [h]
  unfold finP strings_Join.f
  have hj := joinM_len hs.2
  have := hs.1
  rw [join_comma, if_pos ⟨by rw [List.length_map]; omega, by omega⟩, Option.bind_some, joined3 _ _ _ (by have h1 := size_str (joinM l); unfold str at h1; have h2 : (⟨#[123]⟩ : ByteArray).size = 1 := rfl; have h3 : (⟨#[125]⟩ : ByteArray).size = 1 := rfl; omega)]
  rfl
theorem sign_ref (q : Int) : tocsinref08_sign.f q = some (sgn q) := by
  unfold tocsinref08_sign.f sgn
  split
  · rfl
  · split <;> rfl
def tailM (l : List S30) : List UInt8 := (l.map fun y => 44 :: itemM y).flatten
theorem rp_ev (l : List S30) (hl : SmallM l) : ∀ (d : Nat) (x : Int) (acc : ByteArray), 0 < x → x ≤ l.length → (l.length : Int) - x = d → (acc.size : Int) ≤ 1 + 15005 * x →
    Ev (fun k => tocsinref08_Print.l0 k l acc x) (str (B acc ++ tailM (l.drop x.toNat) ++ [125])) := by
  intro d
  have h100 := hl.1
  induction d with
  | zero =>
    intro x acc h0 h1 hd ha
    refine Ev.step (fun k => by rw [tocsinref08_Print.l0, if_neg (by omega), if_pos (by omega)]) (ev_some ?_)
    rw [List.drop_eq_nil_of_le (by omega)]
    apply B_inj
    rw [B_app, B_str]
    simp [tailM]
  | succ d ih =>
    intro x acc h0 h1 hd ha
    have hx : x < l.length := by omega
    have hs := hl.2 _ (rd_mem30 (by omega) hx)
    have s1 : (⟨#[44]⟩ : ByteArray).size = 1 := rfl
    have hsg := sgn_len (rd_T30 l x).f1
    have hq : (quoteL (B (rd_T30 l x).f2)).length ≤ 2 * (B (rd_T30 l x).f2).length + 2 := quoteL_len _
    rw [data_length] at hq
    have s3 := size_str (quoteL (B (rd_T30 l x).f2))
    refine Ev.step (fun k => by rw [tocsinref08_Print.l0, if_pos hx, if_pos (by omega), if_pos (by omega), if_pos (by omega), if_pos (by rw [size_app]; omega), sign_ref, Option.bind_some, if_pos (by rw [size_app, size_app]; omega)]) ?_
    refine Ev.bind (refquote _ (by omega)) (ev_pos (by rw [size_app, size_app, size_app]; omega) ?_)
    rw [w64 (by omega) (by omega)]
    have := ih (x + 1) ((((acc ++ (⟨#[44]⟩ : ByteArray)) ++ ((rd_T30 l x).f0)) ++ sgn (rd_T30 l x).f1) ++ str (quoteL (B (rd_T30 l x).f2))) (by omega) (by omega) (by omega) (by rw [size_app, size_app, size_app, size_app]; omega)
    have he : B ((((acc ++ (⟨#[44]⟩ : ByteArray)) ++ ((rd_T30 l x).f0)) ++ sgn (rd_T30 l x).f1) ++ str (quoteL (B (rd_T30 l x).f2))) = B acc ++ 44 :: itemM (rd_T30 l x) := by
      rw [B_app, B_app, B_app, B_app, B_str, show B (⟨#[44]⟩ : ByteArray) = [44] from rfl]
      unfold itemM
      simp
    rw [he] at this
    have hd2 : l.drop x.toNat = rd_T30 l x :: l.drop (x + 1).toNat := by
      rw [rd_drop30 l x.toNat (by omega), Int.toNat_of_nonneg (by omega), toNat_succ (by omega)]
    rw [hd2]
    unfold tailM at this ⊢
    simpa using this
theorem refprint (l : List S30) (hl : SmallM l) : Ev (fun k => tocsinref08_Print.f k l) (str (printM l)) := by
  unfold tocsinref08_Print.f
  have h100 := hl.1
  have s0 : (⟨#[123]⟩ : ByteArray).size = 1 := rfl
  cases l with
  | nil =>
    refine Ev.step (fun k => by rw [tocsinref08_Print.l0, if_neg (by simp), if_pos (by omega)]) (ev_some ?_)
    apply B_inj
    rw [B_app, B_str]
    rfl
  | cons y l =>
    have hs := hl.2 y (by simp)
    have hy : rd_T30 (y :: l) 0 = y := rfl
    have hsg := sgn_len y.f1
    have hq : (quoteL (B y.f2)).length ≤ 2 * (B y.f2).length + 2 := quoteL_len _
    rw [data_length] at hq
    have s3 := size_str (quoteL (B y.f2))
    have hlen : (y :: l).length = l.length + 1 := rfl
    refine Ev.step (fun k => by rw [tocsinref08_Print.l0, if_pos (by omega), if_neg (by omega), if_pos (by omega), hy, if_pos (by omega), sign_ref, Option.bind_some, if_pos (by rw [size_app]; omega)]) ?_
    refine Ev.bind (refquote _ (by omega)) (ev_pos (by rw [size_app, size_app]; omega) ?_)
    rw [w64 (by omega) (by omega)]
    have := rp_ev (y :: l) hl l.length (0 + 1) ((((⟨#[123]⟩ : ByteArray) ++ y.f0) ++ sgn y.f1) ++ str (quoteL (B y.f2))) (by omega) (by omega) (by omega) (by rw [size_app, size_app, size_app]; omega)
    have he : B ((((⟨#[123]⟩ : ByteArray) ++ y.f0) ++ sgn y.f1) ++ str (quoteL (B y.f2))) = 123 :: itemM y := by
      rw [B_app, B_app, B_app, B_str, show B (⟨#[123]⟩ : ByteArray) = [123] from rfl]
      unfold itemM
      simp
    rw [he] at this
    unfold printM
    rw [joinM_flat]
    unfold tailM at this
    simpa using this

/-! Does -/
theorem refvalue_ev (l : List S44) (n : ByteArray) (hl : l.length ≤ 9223372036854775807) : ∀ (d : Nat) (x : Int), 0 ≤ x → x ≤ l.length → (l.length : Int) - x = d → Ev (fun k => tocsinref07_Value.l0 k l n x) (valueL n (l.drop x.toNat)) := by
  intro d
  induction d with
  | zero =>
    intro x h0 h1 hd
    rw [List.drop_eq_nil_of_le (by omega), valueL]
    exact Ev.step (fun k => by rw [tocsinref07_Value.l0, if_neg (by omega)]) (Ev.now _)
  | succ d ih =>
    intro x h0 h1 hd
    have hx : x < l.length := by omega
    rw [rd_dropV l x.toNat (by omega), Int.toNat_of_nonneg h0, valueL]
    by_cases hn : (rd_T44 l x).f0.toList = n.toList
    · rw [if_pos hn]
      exact Ev.step (fun k => by rw [tocsinref07_Value.l0, if_pos hx, if_pos h0, if_pos hn]) (Ev.now _)
    · rw [if_neg hn]
      refine Ev.step (fun k => by rw [tocsinref07_Value.l0, if_pos hx, if_pos h0, if_neg hn, w64 (by omega) (by omega)]) ?_
      have := ih (x + 1) (by omega) (by omega) (by omega)
      rwa [toNat_succ h0] at this
theorem refvalue (l : List S44) (n : ByteArray) (hl : l.length ≤ 9223372036854775807) : Ev (fun k => tocsinref07_Value.f k l n) (valueL n l) := refvalue_ev l n hl l.length 0 (by omega) (by omega) (by omega)
theorem pre_neg {v w : ByteArray} (h : ¬ (v.size : Int) ≥ w.size) : pre v w = false := by
  unfold pre strings_HasPrefix.f stringslite_HasPrefix.f
  rw [if_neg h]
  rfl
theorem pre_pos {v w : ByteArray} (h : (v.size : Int) ≥ w.size) : pre v w = ((v.extract 0 ((w.size : Int) : Int).toNat).toList == w.toList) := by
  unfold pre strings_HasPrefix.f stringslite_HasPrefix.f
  rw [if_pos h, if_pos (by omega), if_pos h]
  rfl
theorem refdoes_ev (m : List S30) (l : List S44) (hm : m.length ≤ 9223372036854775807) (hl : l.length ≤ 9223372036854775807) : ∀ (d : Nat) (x : Int), 0 ≤ x → x ≤ m.length → (m.length : Int) - x = d →
    Ev (fun k => tocsinref08_Does.l0 k m l x) ((m.drop x.toNat).all (okD l)) := by
  intro d
  induction d with
  | zero =>
    intro x h0 h1 hd
    rw [List.drop_eq_nil_of_le (by omega)]
    exact Ev.step (fun k => by rw [tocsinref08_Does.l0, if_neg (by omega)]; rfl) (Ev.now _)
  | succ d ih =>
    intro x h0 h1 hd
    have hx : x < m.length := by omega
    have hn := ih (x + 1) (by omega) (by omega) (by omega)
    rw [all_dropD (p := okD l) h0 hx]
    refine Ev.step (fun k => by rw [tocsinref08_Does.l0, if_pos hx, if_pos h0]) ?_
    refine Ev.bind (refvalue l _ hl) ?_
    rw [w64 (by omega) (by omega)]
    generalize rd_T30 m x = y
    unfold okD asks Ops.lookB
    generalize valueL y.f0 l = v
    by_cases a : y.f1 = 0
    · refine ev_pos a ?_
      rw [if_pos a, show ((y.f1 == 0) || ((y.f1 == 1) || (y.f1 == 2))) = true by simp [a], Bool.true_and]
      by_cases e : v.toList = y.f2.toList
      · rw [show (v.toList == y.f2.toList) = true by simpa using e, Bool.true_and]
        exact ev_pos e hn
      · rw [show (v.toList == y.f2.toList) = false by simpa using e, Bool.false_and]
        exact ev_neg e (Ev.now _)
    · refine ev_neg a ?_
      rw [if_neg a]
      by_cases b : y.f1 = 1
      · refine ev_pos b ?_
        rw [if_pos b, show ((y.f1 == 0) || ((y.f1 == 1) || (y.f1 == 2))) = true by simp [b], Bool.true_and]
        by_cases e : v.toList = y.f2.toList
        · rw [show (v.toList != y.f2.toList) = false by simpa using e, Bool.false_and]
          exact ev_neg (fun h => h e) (Ev.now _)
        · rw [show (v.toList != y.f2.toList) = true by simpa using e, Bool.true_and]
          exact ev_pos e hn
      · refine ev_neg b ?_
        rw [if_neg b]
        by_cases c : y.f1 = 2
        · refine ev_pos c ?_
          rw [show ((y.f1 == 0) || ((y.f1 == 1) || (y.f1 == 2))) = true by simp [c], Bool.true_and]
          by_cases e : (v.size : Int) ≥ y.f2.size
          · refine ev_pos e (ev_pos (by omega) (ev_pos e ?_))
            rw [pre_pos e]
            by_cases f : (v.extract 0 ((y.f2.size : Int) : Int).toNat).toList = y.f2.toList
            · rw [show ((v.extract 0 ((y.f2.size : Int) : Int).toNat).toList == y.f2.toList) = true by rw [beq_iff_eq]; exact f, Bool.true_and]
              exact ev_pos f hn
            · rw [show ((v.extract 0 ((y.f2.size : Int) : Int).toNat).toList == y.f2.toList) = false by rw [beq_eq_false_iff_ne]; exact f, Bool.false_and]
              exact ev_neg f (Ev.now _)
          · refine ev_neg e ?_
            rw [pre_neg e]
            exact Ev.now _
        · rw [show ((y.f1 == 0) || ((y.f1 == 1) || (y.f1 == 2))) = false by simp [a, b, c]]
          exact ev_neg c (Ev.now _)

/-! The same -/
theorem same30 (m : List S30) (hm : m.length ≤ 9223372036854775807) : Ev (fun k => tocsinref08_Same.f k m m) true := by
  have : ∀ (d : Nat) (x : Int), 0 ≤ x → x ≤ m.length → (m.length : Int) - x = d → Ev (fun k => tocsinref08_Same.l0 k m m x) true := by
    intro d
    induction d with
    | zero => intro x h0 h1 hd; exact Ev.step (fun k => by rw [tocsinref08_Same.l0, if_neg (by omega)]) (Ev.now _)
    | succ d ih =>
      intro x h0 h1 hd
      exact Ev.step (fun k => by rw [tocsinref08_Same.l0, if_pos (by omega), if_pos h0, if_pos (by omega), if_neg (by simp), w64 (by omega) (by omega)]) (ih (x + 1) (by omega) (by omega) (by omega))
  exact ev_pos rfl (this m.length 0 (by omega) (by omega) (by omega))
theorem same44 (m : List S44) (hm : m.length ≤ 9223372036854775807) : Ev (fun k => tocsinref07_Same.f k m m) true := by
  have : ∀ (d : Nat) (x : Int), 0 ≤ x → x ≤ m.length → (m.length : Int) - x = d → Ev (fun k => tocsinref07_Same.l0 k m m x) true := by
    intro d
    induction d with
    | zero => intro x h0 h1 hd; exact Ev.step (fun k => by rw [tocsinref07_Same.l0, if_neg (by omega)]) (Ev.now _)
    | succ d ih =>
      intro x h0 h1 hd
      exact Ev.step (fun k => by rw [tocsinref07_Same.l0, if_pos (by omega), if_pos h0, if_pos (by omega), if_neg (by simp), w64 (by omega) (by omega)]) (ih (x + 1) (by omega) (by omega) (by omega))
  exact ev_pos rfl (this m.length 0 (by omega) (by omega) (by omega))
theorem MatchTells : tocsinlaw08_MatchTells.Pure := by
  intro m l hm _ hgm hl _ hgl
  refine Ev.rounds ?_
  unfold tocsinlaw08_MatchTells.f
  obtain ⟨r, hr, hsm⟩ := great m l hgm hgl
  refine Ev.bind hr ?_
  cases r with
  | true => exact ev_pos rfl (Ev.now _)
  | false =>
    obtain ⟨hs, hl100⟩ := hsm rfl
    have h100 := hs.1
    refine ev_neg (by simp) ?_
    have hc1 : tocsinref08_Copy.f m = some m := by unfold tocsinref08_Copy.f; rw [if_pos (by simp; omega), List.nil_append]
    have hc2 : tocsinref07_Copy.f l = some l := by unfold tocsinref07_Copy.f; rw [if_pos (by simp; omega), List.nil_append]
    refine Ev.congr (fun k => by rw [hc1, Option.bind_some, hc2, Option.bind_some, match_May.f, Option.bind_some]) ?_
    have hmay := refmay_ev m hm hgm m.length 0 (by omega) (by omega) (by omega)
    refine Ev.bind (show Ev (fun k => tocsinref08_May.f k m) (mayM m) from hmay) ?_
    refine ev_neg (by simp) ?_
    refine Ev.congr (fun k => by rw [print m hs, Option.bind_some]) ?_
    refine Ev.bind (refprint m hs) (ev_pos rfl ?_)
    refine Ev.congr (fun k => by rw [match_Does.f, Option.bind_some]) ?_
    have hdoes := refdoes_ev m l hm hl m.length 0 (by omega) (by omega) (by omega)
    refine Ev.bind (show Ev (fun k => tocsinref08_Does.f k m l) (doesL m l) from hdoes) ?_
    rw [show (doesL m l != doesL m l) = false by simp]
    refine Ev.step (fun k => by rw [tocsinlaw08_MatchTells.j0, if_neg (by simp)]) ?_
    exact Ev.bind (same30 m hm) (ev_pos rfl (Ev.bind (same44 l hl) (Ev.now _)))
end Go.Proofs.Yticemdlnnmndoaa.Pure
