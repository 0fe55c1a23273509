/- Plain laws of labels: which names, values and rows may be, as the program and as the document have it. -/
import Derived.Test.YtiicfejaoilfcaaQ7
import Derived.Test.YtiicfejaoilfcaaQ9
import Derived.Test.YtiicfejaoilfcaaQ13
import Derived.Test.YtiicfejaoilfcaaQ12
import Derived.Test.YtiicfejaoilfcaaQ13
import Derived.Test.YtiicfejaoilfcaaQ17
import Derived.Test.YtiicfejaoilfcaaLessP
namespace Go.Proofs.Ytiicfejaoilfcaa.Pure
open Go.RowKit Go.Proofs.YtiicfejaoilfcaaW.PrintWords Go.Proofs.YtiicfejaoilfcaaW.PrintLast Go.Proofs.Ytiicfejaoilfcaa.Q
set_option linter.unusedVariables false
set_option linter.unusedSimpArgs false

def allFrom (p : Int → Bool) (s : ByteArray) (x : Int) : Bool := (s.data.toList.drop x.toNat).all fun b => p b.toNat
theorem bt_nat (s : ByteArray) (x : Int) (h0 : 0 ≤ x) (h : x < s.size) : ∃ h2 : x.toNat < s.data.toList.length, bt s x = ((s.data.toList[x.toNat]'h2).toNat : Int) := by
  have h2 : x.toNat < s.data.toList.length := by rw [data_length]; omega
  refine ⟨h2, ?_⟩
  have := bt_list s x.toNat h2
  rwa [Int.toNat_of_nonneg h0] at this
theorem drop_bt (s : ByteArray) (x : Int) (h0 : 0 ≤ x) (h : x < s.size) : ∃ c : UInt8, bt s x = (c.toNat : Int) ∧ s.data.toList.drop x.toNat = c :: s.data.toList.drop (x + 1).toNat := by
  obtain ⟨h2, hb⟩ := bt_nat s x h0 h
  exact ⟨_, hb, by rw [toNat_succ h0]; exact List.drop_eq_getElem_cons h2⟩
theorem drop_end (s : ByteArray) (x : Int) (h : ¬ x < s.size) : s.data.toList.drop x.toNat = [] := List.drop_eq_nil_of_le (by rw [data_length]; omega)
theorem all_step (p : Int → Bool) (s : ByteArray) (x : Int) (h0 : 0 ≤ x) (h : x < s.size) : allFrom p s x = (p (bt s x) && allFrom p s (x + 1)) := by
  obtain ⟨c, hc, hd⟩ := drop_bt s x h0 h
  unfold allFrom
  rw [hd, hc]
  rfl
theorem all_end (p : Int → Bool) (s : ByteArray) (x : Int) (h : ¬ x < s.size) : allFrom p s x = true := by
  unfold allFrom
  rw [drop_end s x h]
  rfl
theorem mark_cases (c : Int) : markB c = true ↔ (c ≥ 97 ∧ c ≤ 122) ∨ (c ≥ 48 ∧ c ≤ 57) ∨ c = 95 := by
  unfold markB letterB
  simp only [Bool.or_eq_true, Bool.and_eq_true, decide_eq_true_eq, beq_iff_eq]
  constructor
  · rintro ((⟨a, b⟩ | ⟨a, b⟩) | a)
    · exact .inl ⟨a, b⟩
    · exact .inr (.inl ⟨a, b⟩)
    · exact .inr (.inr a)
  · rintro (⟨a, b⟩ | ⟨a, b⟩ | a)
    · exact .inl (.inl ⟨a, b⟩)
    · exact .inl (.inr ⟨a, b⟩)
    · exact .inr a
theorem name_ev (s : ByteArray) (hs : s.size ≤ 9223372036854775807) : ∀ (d : Nat) (x : Int), 0 ≤ x → x ≤ s.size → (s.size : Int) - x = d → Ev (fun k => tocsinref07_MayName.l0 k s x) (allFrom markB s x) := by
  intro d
  induction d with
  | zero =>
    intro x h0 h1 hd
    rw [all_end _ _ _ (by omega)]
    apply Ev.step
    · intro k
      rw [tocsinref07_MayName.l0, if_neg (by omega)]
    · exact Ev.now _
  | succ d ih =>
    intro x h0 h1 hd
    have hx : x < s.size := by omega
    rw [all_step _ _ _ h0 hx]
    have hm := mark_cases (bt s x)
    have hn := ih (x + 1) (by omega) (by omega) (by omega)
    cases hb : markB (bt s x) with
    | true =>
      rw [hb] at hm
      have hm := hm.1 rfl
      rw [Bool.true_and]
      apply Ev.step (f := fun k => tocsinref07_MayName.l0 k s (x + 1))
      · intro k
        rw [tocsinref07_MayName.l0, if_pos hx, if_pos h0, w64 (by omega) (by omega)]
        repeat' split
        all_goals first | rfl | (exfalso; omega)
      · exact hn
    | false =>
      rw [hb] at hm
      have hm : ¬ ((bt s x ≥ 97 ∧ bt s x ≤ 122) ∨ (bt s x ≥ 48 ∧ bt s x ≤ 57) ∨ bt s x = 95) := fun h => by cases hm.2 h
      rw [Bool.false_and]
      apply Ev.step (f := fun k => some false)
      · intro k
        rw [tocsinref07_MayName.l0, if_pos hx, if_pos h0]
        repeat' split
        all_goals first | rfl | (exfalso; omega)
      · exact Ev.now _
theorem all_zero (p : Int → Bool) (s : ByteArray) : allFrom p s 0 = allB p s := rfl
theorem mayName_ref (s : ByteArray) (hs : s.size ≤ 9223372036854775807) : Ev (fun k => tocsinref07_MayName.f k s) (mayName s) := by
  unfold mayName
  by_cases h1 : 1 ≤ s.size
  · by_cases h2 : s.size ≤ 16
    · rw [decide_eq_true h1, decide_eq_true h2, Bool.true_and, Bool.true_and]
      unfold letterB
      refine Ev.congr (f := fun k => if bt s 0 < 97 then tocsinref07_MayName.j0 k s true else tocsinref07_MayName.j0 k s (decide (bt s 0 > 122))) (fun k => ?_) ?_
      · unfold tocsinref07_MayName.f
        rw [if_neg (by omega), if_neg (by omega), if_pos (by omega)]
      · by_cases a : bt s 0 < 97
        · simp only [if_pos a]
          rw [decide_eq_false (show ¬ 97 ≤ bt s 0 by omega), Bool.false_and, Bool.false_and]
          exact Ev.step (fun k => by rw [tocsinref07_MayName.j0, if_pos rfl]) (Ev.now _)
        · simp only [if_neg a]
          rw [decide_eq_true (show 97 ≤ bt s 0 by omega), Bool.true_and]
          by_cases b : bt s 0 > 122
          · rw [decide_eq_true b, decide_eq_false (show ¬ bt s 0 ≤ 122 by omega), Bool.false_and]
            exact Ev.step (fun k => by rw [tocsinref07_MayName.j0, if_pos rfl]) (Ev.now _)
          · rw [decide_eq_false b, decide_eq_true (show bt s 0 ≤ 122 by omega), Bool.true_and]
            refine Ev.step (fun k => by rw [tocsinref07_MayName.j0, if_neg (by simp)]) ?_
            exact name_ev s hs s.size 0 (by omega) (by omega) (by omega)
    · rw [decide_eq_false h2, Bool.false_and, Bool.and_false]
      refine Ev.congr (fun k => ?_) (Ev.step (fun k => by rw [tocsinref07_MayName.j0, if_pos rfl]) (Ev.now _) : Ev (fun k => tocsinref07_MayName.j0 k s true) false)
      unfold tocsinref07_MayName.f
      rw [if_neg (by omega), if_pos (by omega)]
  · rw [decide_eq_false h1, Bool.false_and]
    refine Ev.congr (fun k => ?_) (Ev.step (fun k => by rw [tocsinref07_MayName.j0, if_pos rfl]) (Ev.now _) : Ev (fun k => tocsinref07_MayName.j0 k s true) false)
    unfold tocsinref07_MayName.f
    rw [if_pos (by omega)]
theorem plain_ev (s : ByteArray) (hs : s.size ≤ 9223372036854775807) : ∀ (d : Nat) (x : Int), 0 ≤ x → x ≤ s.size → (s.size : Int) - x = d → Ev (fun k => tocsinref07_Plain.l0 k s x) (allFrom signB s x) := by
  intro d
  induction d with
  | zero =>
    intro x h0 h1 hd
    rw [all_end _ _ _ (by omega)]
    apply Ev.step
    · intro k
      rw [tocsinref07_Plain.l0, if_neg (by omega)]
    · exact Ev.now _
  | succ d ih =>
    intro x h0 h1 hd
    have hx : x < s.size := by omega
    rw [all_step _ _ _ h0 hx]
    unfold signB
    by_cases a : bt s x < 32
    · rw [decide_eq_false (show ¬ 32 ≤ bt s x by omega), Bool.false_and, Bool.false_and]
      exact Ev.step (fun k => by rw [tocsinref07_Plain.l0, if_pos hx, if_pos h0, if_pos a]) (Ev.now _)
    · rw [decide_eq_true (show 32 ≤ bt s x by omega), Bool.true_and]
      by_cases b : bt s x > 126
      · rw [decide_eq_false (show ¬ bt s x ≤ 126 by omega), Bool.false_and]
        exact Ev.step (fun k => by rw [tocsinref07_Plain.l0, if_pos hx, if_pos h0, if_neg a, if_pos b]) (Ev.now _)
      · rw [decide_eq_true (show bt s x ≤ 126 by omega), Bool.true_and]
        refine Ev.step (fun k => by rw [tocsinref07_Plain.l0, if_pos hx, if_pos h0, if_neg a, if_neg b, w64 (by omega) (by omega)]) ?_
        exact ih (x + 1) (by omega) (by omega) (by omega)
theorem mayValue_ref (s : ByteArray) (hs : s.size ≤ 9223372036854775807) : Ev (fun k => tocsinref07_MayValue.f k s) (mayValue s) := by
  unfold mayValue
  by_cases h1 : 1 ≤ s.size
  · by_cases h2 : s.size ≤ 32
    · rw [decide_eq_true h1, decide_eq_true h2, Bool.true_and, Bool.true_and]
      refine Ev.congr (fun k => ?_) (plain_ev s hs s.size 0 (by omega) (by omega) (by omega))
      unfold tocsinref07_MayValue.f tocsinref07_Plain.f
      rw [if_pos (by omega), if_pos (by omega)]
      show (tocsinref07_Plain.l0 k s 0).bind some = tocsinref07_Plain.l0 k s 0
      cases tocsinref07_Plain.l0 k s 0 <;> rfl
    · rw [decide_eq_false h2, Bool.false_and, Bool.and_false]
      refine Ev.congr (fun k => ?_) (Ev.now _)
      unfold tocsinref07_MayValue.f
      rw [if_pos (by omega), if_neg (by omega)]
  · rw [decide_eq_false h1, Bool.false_and]
    refine Ev.congr (fun k => ?_) (Ev.now _)
    unfold tocsinref07_MayValue.f
    rw [if_neg (by omega)]

/-- Each name and value may be, the names rise, from behind p on. -/
def okL : Option S31 → List S31 → Bool
  | _, [] => true
  | p, x :: l => mayName x.f0 && (mayValue x.f1 && ((match p with | none => true | some q => Op.bytesLess q.f0.toList x.f0.toList) && okL (some x) l))
def mayB (l : List S31) : Bool := okL none l && decide (l.length ≤ 4)
def prevAt (l : List S31) (x : Int) : Option S31 := if x > 0 then some (rd_T31 l (x - 1)) else none
theorem okL_step {l : List S31} {x : Int} (h0 : 0 ≤ x) (h : x < l.length) : okL (prevAt l x) (l.drop x.toNat) = (mayName (rd_T31 l x).f0 && (mayValue (rd_T31 l x).f1 && ((if x > 0 then Op.bytesLess (rd_T31 l (x - 1)).f0.toList (rd_T31 l x).f0.toList else true) && okL (prevAt l (x + 1)) (l.drop (x + 1).toNat)))) := by
  rw [rd_drop l x.toNat (by omega), Int.toNat_of_nonneg h0, toNat_succ h0]
  unfold prevAt
  rw [if_pos (show x + 1 > 0 by omega), show x + 1 - 1 = x by omega]
  by_cases hx : x > 0
  · rw [if_pos hx, if_pos hx]
    rfl
  · rw [if_neg hx, if_neg hx]
    rfl
theorem okL_end {l : List S31} {x : Int} (h : ¬ x < l.length) : okL (prevAt l x) (l.drop x.toNat) = true := by
  rw [List.drop_eq_nil_of_le (by omega)]
  rfl
theorem may_ev (l : List S31) (hl : l.length ≤ 9223372036854775807) : ∀ (d : Nat) (x : Int), 0 ≤ x → x ≤ l.length → (l.length : Int) - x = d →
    Ev (fun k => labels_May.l0 k l l (l.length : Int) x) (okL (prevAt l x) (l.drop x.toNat) && decide (l.length ≤ 4)) := by
  intro d
  induction d with
  | zero =>
    intro x h0 h1 hd
    rw [okL_end (by omega), Bool.true_and]
    refine Ev.step (fun k => by rw [labels_May.l0, if_neg (by omega)]) (Ev.congr (fun k => ?_) (Ev.now _))
    congr 1
    rw [decide_eq_decide]
    omega
  | succ d ih =>
    intro x h0 h1 hd
    have hx : x < l.length := by omega
    have hn := ih (x + 1) (by omega) (by omega) (by omega)
    rw [okL_step h0 hx]
    cases hm : mayName (rd_T31 l x).f0 with
    | false =>
      rw [Bool.false_and, Bool.false_and]
      exact Ev.step (fun k => by rw [labels_May.l0, if_pos hx, if_pos h0, if_pos hx, labels_MayName.f, hm, Option.bind_some, if_neg (by simp)]) (Ev.now _)
    | true =>
      cases hv : mayValue (rd_T31 l x).f1 with
      | false =>
        rw [Bool.true_and, Bool.false_and, Bool.false_and]
        exact Ev.step (fun k => by rw [labels_May.l0, if_pos hx, if_pos h0, if_pos hx, labels_MayName.f, hm, Option.bind_some, if_pos rfl, labels_MayValue.f, hv, Option.bind_some, if_neg (by simp)]) (Ev.now _)
      | true =>
        simp only [Bool.true_and]
        by_cases hp : x > 0
        · cases hb : Op.bytesLess (rd_T31 l (x - 1)).f0.toList (rd_T31 l x).f0.toList with
          | false =>
            rw [if_pos hp, Bool.false_and, Bool.false_and]
            exact Ev.step (fun k => by rw [labels_May.l0, if_pos hx, if_pos h0, if_pos hx, labels_MayName.f, hm, Option.bind_some, if_pos rfl, labels_MayValue.f, hv, Option.bind_some, if_pos rfl, if_pos hp, w64 (by omega) (by omega), if_pos (by omega), if_pos (by omega), hb, if_neg (by simp)]) (Ev.now _)
          | true =>
            rw [if_pos hp, Bool.true_and]
            exact Ev.step (fun k => by rw [labels_May.l0, if_pos hx, if_pos h0, if_pos hx, labels_MayName.f, hm, Option.bind_some, if_pos rfl, labels_MayValue.f, hv, Option.bind_some, if_pos rfl, if_pos hp, w64 (by omega) (by omega), if_pos (by omega), if_pos (by omega), hb, if_pos rfl, w64 (by omega) (by omega)]) hn
        · rw [if_neg hp, Bool.true_and]
          exact Ev.step (fun k => by rw [labels_May.l0, if_pos hx, if_pos h0, if_pos hx, labels_MayName.f, hm, Option.bind_some, if_pos rfl, labels_MayValue.f, hv, Option.bind_some, if_pos rfl, if_neg hp, w64 (by omega) (by omega)]) hn
theorem may (l : List S31) (hl : l.length ≤ 9223372036854775807) : Ev (fun k => labels_May.f k l) (mayB l) := may_ev l hl l.length 0 (by omega) (by omega) (by omega)
def Good (l : List S31) : Prop := ∀ y ∈ l, y.f0.size ≤ 9223372036854775807 ∧ y.f1.size ≤ 9223372036854775807
theorem refmay_ev (l : List S31) (hl : l.length ≤ 9223372036854775807) (hg : Good l) : ∀ (d : Nat) (x : Int), 0 ≤ x → x ≤ l.length → (l.length : Int) - x = d →
    Ev (fun k => tocsinref07_May.l0 k l x) (okL (prevAt l x) (l.drop x.toNat)) := by
  intro d
  induction d with
  | zero =>
    intro x h0 h1 hd
    rw [okL_end (by omega)]
    exact Ev.step (fun k => by rw [tocsinref07_May.l0, if_neg (by omega)]) (Ev.now _)
  | succ d ih =>
    intro x h0 h1 hd
    have hx : x < l.length := by omega
    have hn := ih (x + 1) (by omega) (by omega) (by omega)
    have hgx := hg _ (rd_mem h0 hx)
    rw [okL_step h0 hx]
    refine Ev.step (fun k => by rw [tocsinref07_May.l0, if_pos hx, if_pos h0]) (Ev.bind (mayName_ref _ hgx.1) ?_)
    cases hm : mayName (rd_T31 l x).f0 with
    | false => exact Ev.congr (fun k => if_neg (by simp)) (Ev.now _)
    | true =>
      simp only [reduceIte]
      refine Ev.bind (mayValue_ref _ hgx.2) ?_
      cases hv : mayValue (rd_T31 l x).f1 with
      | false => exact Ev.congr (fun k => if_neg (by simp)) (Ev.now _)
      | true =>
        simp only [Bool.true_and]
        simp only [reduceIte]
        by_cases hp : x > 0
        · cases hb : Op.bytesLess (rd_T31 l (x - 1)).f0.toList (rd_T31 l x).f0.toList with
          | false =>
            rw [if_pos hp, Bool.false_and]
            exact Ev.congr (fun k => by rw [if_pos hp, w64 (by omega) (by omega), if_pos (by omega), if_pos (by omega), hb, if_neg (by simp)]) (Ev.now _)
          | true =>
            rw [if_pos hp, Bool.true_and]
            exact Ev.congr (fun k => by rw [if_pos hp, w64 (by omega) (by omega), if_pos (by omega), if_pos (by omega), hb, if_pos rfl, w64 (by omega) (by omega)]) hn
        · rw [if_neg hp, Bool.true_and]
          exact Ev.congr (fun k => by rw [if_neg hp, w64 (by omega) (by omega)]) hn
theorem refmay (l : List S31) (hl : l.length ≤ 9223372036854775807) (hg : Good l) : Ev (fun k => tocsinref07_May.f k l) (mayB l) := by
  unfold mayB
  by_cases h : l.length ≤ 4
  · rw [decide_eq_true h, Bool.and_true]
    refine Ev.congr (fun k => ?_) (refmay_ev l hl hg l.length 0 (by omega) (by omega) (by omega))
    unfold tocsinref07_May.f
    rw [if_neg (by omega)]
  · rw [decide_eq_false h, Bool.and_false]
    refine Ev.congr (fun k => ?_) (Ev.now _)
    unfold tocsinref07_May.f
    rw [if_pos (by omega)]
theorem may_small {l : List S31} (h : mayB l = true) : l.length ≤ 4 ∧ ∀ y ∈ l, mayName y.f0 = true ∧ mayValue y.f1 = true := by
  unfold mayB at h
  rw [Bool.and_eq_true, decide_eq_true_eq] at h
  refine ⟨h.2, ?_⟩
  have key : ∀ (l : List S31) (p : Option S31), okL p l = true → ∀ y ∈ l, mayName y.f0 = true ∧ mayValue y.f1 = true := by
    intro l
    induction l with
    | nil => intro p _ y hy; cases hy
    | cons x l ih =>
      intro p hp y hy
      rw [okL.eq_def] at hp
      simp only [Bool.and_eq_true] at hp
      rcases List.mem_cons.1 hy with rfl | hy
      · exact ⟨hp.1, hp.2.1⟩
      · exact ih _ hp.2.2.2 y hy
  exact key l none h.1

/-! Same -/
theorem ext31 {x y : S31} (h0 : x.f0.toList = y.f0.toList) (h1 : x.f1.toList = y.f1.toList) : x = y := by
  have inj : ∀ {a b : ByteArray}, a.toList = b.toList → a = b := fun {a b} h => by
    rw [ByteArray.toList_eq, ByteArray.toList_eq] at h
    exact ByteArray.ext (Array.ext' h)
  have e0 := inj h0
  have e1 := inj h1
  cases x
  cases y
  simp only at e0 e1
  rw [e0, e1]
theorem same_ev (a b : List S31) (hl : a.length = b.length) (ha : a.length ≤ 9223372036854775807) : ∀ (d : Nat) (x : Int), 0 ≤ x → x ≤ a.length → (a.length : Int) - x = d →
    ∃ r, Ev (fun k => tocsinref07_Same.l0 k a b x) r ∧ (r = true ↔ a.drop x.toNat = b.drop x.toNat) := by
  intro d
  induction d with
  | zero =>
    intro x h0 h1 hd
    refine ⟨true, Ev.step (fun k => by rw [tocsinref07_Same.l0, if_neg (by omega)]) (Ev.now _), fun _ => ?_, fun _ => rfl⟩
    rw [List.drop_eq_nil_of_le (by omega), List.drop_eq_nil_of_le (by omega)]
  | succ d ih =>
    intro x h0 h1 hd
    have hx : x < a.length := by omega
    have hx2 : x < b.length := by omega
    obtain ⟨r, hr, hi⟩ := ih (x + 1) (by omega) (by omega) (by omega)
    rw [rd_drop a x.toNat (by omega), rd_drop b x.toNat (by omega), Int.toNat_of_nonneg h0]
    rw [toNat_succ h0] at hi
    by_cases he : rd_T31 a x = rd_T31 b x
    · refine ⟨r, Ev.step (fun k => by rw [tocsinref07_Same.l0, if_pos hx, if_pos h0, if_pos hx2, if_neg (by rw [he]; simp), w64 (by omega) (by omega)]) hr, ?_⟩
      rw [hi, he]
      simp
    · have hne : (!((rd_T31 a x).f0.toList == (rd_T31 b x).f0.toList) || (!((rd_T31 a x).f1.toList == (rd_T31 b x).f1.toList))) = true := by
        rw [Bool.or_eq_true, Bool.not_eq_true', Bool.not_eq_true', beq_eq_false_iff_ne, beq_eq_false_iff_ne]
        by_cases h3 : (rd_T31 a x).f0.toList = (rd_T31 b x).f0.toList
        · exact .inr (fun h4 => he (ext31 h3 h4))
        · exact .inl h3
      exact ⟨false, Ev.step (fun k => by rw [tocsinref07_Same.l0, if_pos hx, if_pos h0, if_pos hx2, if_pos hne]) (Ev.now _), fun h => (by cases h), fun h => absurd (List.cons.inj h).1 he⟩
theorem same (a b : List S31) (ha : a.length ≤ 9223372036854775807) : ∃ r, Ev (fun k => tocsinref07_Same.f k a b) r ∧ (r = true ↔ a = b) := by
  by_cases h : a.length = b.length
  · obtain ⟨r, hr, hi⟩ := same_ev a b h ha a.length 0 (by omega) (by omega) (by omega)
    refine ⟨r, Ev.congr (fun k => ?_) hr, by simpa using hi⟩
    unfold tocsinref07_Same.f
    rw [if_pos (by omega)]
  · refine ⟨false, Ev.congr (fun k => ?_) (Ev.now _), fun h => (by cases h), fun e => absurd (by rw [e]) h⟩
    unfold tocsinref07_Same.f
    rw [if_neg (by omega)]
end Go.Proofs.Ytiicfejaoilfcaa.Pure
