/- What labels may be, and their text, in plain words: as the program and the document have it. No law is proved here. -/
import Derived.Test.YtlhlaadnifkdhaaQ9
import Derived.Test.YtlhlaadnifkdhaaQ11
import Derived.Test.YtlhlaadnifkdhaaQ6
import Derived.Test.YtlhlaadnifkdhaaQ5
import Derived.Test.YtlhlaadnifkdhaaQ6
import Derived.Test.YtlhlaadnifkdhaaQ4
import Derived.Test.YtlhlaadnifkdhaaQ3
namespace Go.Proofs.Ytlhlaadnifkdhaa.Pure
open Go.RowKit Go.Proofs.YtlhlaadnifkdhaaW.PrintWords Go.Proofs.YtlhlaadnifkdhaaW.PrintLast Go.Proofs.Ytlhlaadnifkdhaa.Q
set_option linter.unusedVariables false
set_option linter.unusedSimpArgs false

theorem rd_drop (l : List S31) (k : Nat) (h : k < l.length) : l.drop k = rd_T31 l (k : Int) :: l.drop (k + 1) := by
  rw [List.drop_eq_getElem_cons h]
  simp [rd_T31, List.getElem?_eq_getElem h]
theorem toNat_succ {x : Int} (h : 0 ≤ x) : (x + 1).toNat = x.toNat + 1 := by omega
def str (l : List UInt8) : ByteArray := ⟨l.toArray⟩
set_option linter.unusedSimpArgs false

theorem w64 {x : Int} (h0 : -9223372036854775808 ≤ x) (h1 : x ≤ 9223372036854775807) : wrap64 x = x := by unfold wrap64; omega

theorem ev_pos {α : Type} {c : Prop} [Decidable c] {A B : Nat → Option α} {r : α} (hc : c) (h : Ev A r) : Ev (fun k => if c then A k else B k) r := Ev.congr (fun _ => if_pos hc) h
theorem ev_neg {α : Type} {c : Prop} [Decidable c] {A B : Nat → Option α} {r : α} (hc : ¬ c) (h : Ev B r) : Ev (fun k => if c then A k else B k) r := Ev.congr (fun _ => if_neg hc) h
theorem ev_some {α : Type} {a r : α} (h : a = r) : Ev (fun _ => some a) r := by rw [h]; exact Ev.now _
theorem ev_bsome {α β : Type} {a : α} {F : Nat → α → Option β} {r : β} (h : Ev (fun k => F k a) r) : Ev (fun k => (some a).bind (F k)) r := h
theorem ev_unique {α : Type} {g : Nat → Option α} {r q : α} (h : Ev g r) (k : Ev g q) : r = q := by
  obtain ⟨K, h⟩ := h
  obtain ⟨K', k⟩ := k
  exact Option.some.inj ((h (max K K') (by omega)).symm.trans (k (max K K') (by omega)))
def Small (l : List S31) : Prop := l.length ≤ 100 ∧ ∀ y ∈ l, y.f0.size ≤ 5000 ∧ y.f1.size ≤ 5000
theorem rd_mem {l : List S31} {x : Int} (h0 : 0 ≤ x) (h1 : x < l.length) : rd_T31 l x ∈ l := by
  unfold rd_T31
  have h : x.toNat < l.length := by omega
  rw [List.getD_eq_getElem?_getD, List.getElem?_eq_getElem h]
  exact List.getElem_mem h
def allFrom (p : Int → Bool) (s : ByteArray) (x : Int) : Bool := (s.data.toList.drop x.toNat).all fun b => p b.toNat
theorem bt_nat (s : ByteArray) (x : Int) (h0 : 0 ≤ x) (h : x < s.size) : ∃ h2 : x.toNat < s.data.toList.length, bt s x = ((s.data.toList[x.toNat]'h2).toNat : Int) := by
  have h2 : x.toNat < s.data.toList.length := by rw [data_length]; omega
  refine ⟨h2, ?_⟩
  have := bt_list s x.toNat h2
  rwa [Int.toNat_of_nonneg h0] at this
theorem drop_bt (s : ByteArray) (x : Int) (h0 : 0 ≤ x) (h : x < s.size) : ∃ c : UInt8, bt s x = (c.toNat : Int) ∧ s.data.toList.drop x.toNat = c :: s.data.toList.drop (x + 1).toNat := by
  obtain ⟨h2, hb⟩ := bt_nat s x h0 h
  exact ⟨_, hb, by rw [toNat_succ h0]; exact List.drop_eq_getElem_cons h2⟩
theorem drop_end (s : ByteArray) (x : Int) (h : ¬ x < s.size) : s.data.toList.drop x.toNat = [] := List.drop_eq_nil_of_le (by rw [data_length]; omega)
theorem all_step (p : Int → Bool) (s : ByteArray) (x : Int) (h0 : 0 ≤ x) (h : x < s.size) : allFrom p s x = (p (bt s x) && allFrom p s (x + 1)) := by
  obtain ⟨c, hc, hd⟩ := drop_bt s x h0 h
  unfold allFrom
  rw [hd, hc]
  rfl
theorem all_end (p : Int → Bool) (s : ByteArray) (x : Int) (h : ¬ x < s.size) : allFrom p s x = true := by
  unfold allFrom
  rw [drop_end s x h]
  rfl
theorem mark_cases (c : Int) : markB c = true ↔ (c ≥ 97 ∧ c ≤ 122) ∨ (c ≥ 48 ∧ c ≤ 57) ∨ c = 95 := by
  unfold markB letterB
  simp only [Bool.or_eq_true, Bool.and_eq_true, decide_eq_true_eq, beq_iff_eq]
  constructor
  · rintro ((⟨a, b⟩ | ⟨a, b⟩) | a)
    · exact .inl ⟨a, b⟩
    · exact .inr (.inl ⟨a, b⟩)
    · exact .inr (.inr a)
  · rintro (⟨a, b⟩ | ⟨a, b⟩ | a)
    · exact .inl (.inl ⟨a, b⟩)
    · exact .inl (.inr ⟨a, b⟩)
    · exact .inr a
theorem name_ev (s : ByteArray) (hs : s.size ≤ 9223372036854775807) : ∀ (d : Nat) (x : Int), 0 ≤ x → x ≤ s.size → (s.size : Int) - x = d → Ev (fun k => tocsinref07_MayName.l0 k s x) (allFrom markB s x) := by
  intro d
  induction d with
  | zero =>
    intro x h0 h1 hd
    rw [all_end _ _ _ (by omega)]
    apply Ev.step
    · intro k
      rw [tocsinref07_MayName.l0, if_neg (by omega)]
    · exact Ev.now _
  | succ d ih =>
    intro x h0 h1 hd
    have hx : x < s.size := by omega
    rw [all_step _ _ _ h0 hx]
    have hm := mark_cases (bt s x)
    have hn := ih (x + 1) (by omega) (by omega) (by omega)
    cases hb : markB (bt s x) with
    | true =>
      rw [hb] at hm
      have hm := hm.1 rfl
      rw [Bool.true_and]
      apply Ev.step (f := fun k => tocsinref07_MayName.l0 k s (x + 1))
      · intro k
        rw [tocsinref07_MayName.l0, if_pos hx, if_pos h0, w64 (by omega) (by omega)]
        repeat' split
        all_goals first | rfl | (exfalso; omega)
      · exact hn
    | false =>
      rw [hb] at hm
      have hm : ¬ ((bt s x ≥ 97 ∧ bt s x ≤ 122) ∨ (bt s x ≥ 48 ∧ bt s x ≤ 57) ∨ bt s x = 95) := fun h => by cases hm.2 h
      rw [Bool.false_and]
      apply Ev.step (f := fun k => some false)
      · intro k
        rw [tocsinref07_MayName.l0, if_pos hx, if_pos h0]
        repeat' split
        all_goals first | rfl | (exfalso; omega)
      · exact Ev.now _
theorem all_zero (p : Int → Bool) (s : ByteArray) : allFrom p s 0 = allB p s := rfl
theorem mayName_ref (s : ByteArray) (hs : s.size ≤ 9223372036854775807) : Ev (fun k => tocsinref07_MayName.f k s) (mayName s) := by
  unfold mayName
  by_cases h1 : 1 ≤ s.size
  · by_cases h2 : s.size ≤ 16
    · rw [decide_eq_true h1, decide_eq_true h2, Bool.true_and, Bool.true_and]
      unfold letterB
      refine Ev.congr (f := fun k => if bt s 0 < 97 then tocsinref07_MayName.j0 k s true else tocsinref07_MayName.j0 k s (decide (bt s 0 > 122))) (fun k => ?_) ?_
      · unfold tocsinref07_MayName.f
        rw [if_neg (by omega), if_neg (by omega), if_pos (by omega)]
      · by_cases a : bt s 0 < 97
        · simp only [if_pos a]
          rw [decide_eq_false (show ¬ 97 ≤ bt s 0 by omega), Bool.false_and, Bool.false_and]
          exact Ev.step (fun k => by rw [tocsinref07_MayName.j0, if_pos rfl]) (Ev.now _)
        · simp only [if_neg a]
          rw [decide_eq_true (show 97 ≤ bt s 0 by omega), Bool.true_and]
          by_cases b : bt s 0 > 122
          · rw [decide_eq_true b, decide_eq_false (show ¬ bt s 0 ≤ 122 by omega), Bool.false_and]
            exact Ev.step (fun k => by rw [tocsinref07_MayName.j0, if_pos rfl]) (Ev.now _)
          · rw [decide_eq_false b, decide_eq_true (show bt s 0 ≤ 122 by omega), Bool.true_and]
            refine Ev.step (fun k => by rw [tocsinref07_MayName.j0, if_neg (by simp)]) ?_
            exact name_ev s hs s.size 0 (by omega) (by omega) (by omega)
    · rw [decide_eq_false h2, Bool.false_and, Bool.and_false]
      refine Ev.congr (fun k => ?_) (Ev.step (fun k => by rw [tocsinref07_MayName.j0, if_pos rfl]) (Ev.now _) : Ev (fun k => tocsinref07_MayName.j0 k s true) false)
      unfold tocsinref07_MayName.f
      rw [if_neg (by omega), if_pos (by omega)]
  · rw [decide_eq_false h1, Bool.false_and]
    refine Ev.congr (fun k => ?_) (Ev.step (fun k => by rw [tocsinref07_MayName.j0, if_pos rfl]) (Ev.now _) : Ev (fun k => tocsinref07_MayName.j0 k s true) false)
    unfold tocsinref07_MayName.f
    rw [if_pos (by omega)]
theorem plain_ev (s : ByteArray) (hs : s.size ≤ 9223372036854775807) : ∀ (d : Nat) (x : Int), 0 ≤ x → x ≤ s.size → (s.size : Int) - x = d → Ev (fun k => tocsinref07_Plain.l0 k s x) (allFrom signB s x) := by
  intro d
  induction d with
  | zero =>
    intro x h0 h1 hd
    rw [all_end _ _ _ (by omega)]
    apply Ev.step
    · intro k
      rw [tocsinref07_Plain.l0, if_neg (by omega)]
    · exact Ev.now _
  | succ d ih =>
    intro x h0 h1 hd
    have hx : x < s.size := by omega
    rw [all_step _ _ _ h0 hx]
    unfold signB
    by_cases a : bt s x < 32
    · rw [decide_eq_false (show ¬ 32 ≤ bt s x by omega), Bool.false_and, Bool.false_and]
      exact Ev.step (fun k => by rw [tocsinref07_Plain.l0, if_pos hx, if_pos h0, if_pos a]) (Ev.now _)
    · rw [decide_eq_true (show 32 ≤ bt s x by omega), Bool.true_and]
      by_cases b : bt s x > 126
      · rw [decide_eq_false (show ¬ bt s x ≤ 126 by omega), Bool.false_and]
        exact Ev.step (fun k => by rw [tocsinref07_Plain.l0, if_pos hx, if_pos h0, if_neg a, if_pos b]) (Ev.now _)
      · rw [decide_eq_true (show bt s x ≤ 126 by omega), Bool.true_and]
        refine Ev.step (fun k => by rw [tocsinref07_Plain.l0, if_pos hx, if_pos h0, if_neg a, if_neg b, w64 (by omega) (by omega)]) ?_
        exact ih (x + 1) (by omega) (by omega) (by omega)
theorem mayValue_ref (s : ByteArray) (hs : s.size ≤ 9223372036854775807) : Ev (fun k => tocsinref07_MayValue.f k s) (mayValue s) := by
  unfold mayValue
  by_cases h1 : 1 ≤ s.size
  · by_cases h2 : s.size ≤ 32
    · rw [decide_eq_true h1, decide_eq_true h2, Bool.true_and, Bool.true_and]
      refine Ev.congr (fun k => ?_) (plain_ev s hs s.size 0 (by omega) (by omega) (by omega))
      unfold tocsinref07_MayValue.f tocsinref07_Plain.f
      rw [if_pos (by omega), if_pos (by omega)]
      show (tocsinref07_Plain.l0 k s 0).bind some = tocsinref07_Plain.l0 k s 0
      cases tocsinref07_Plain.l0 k s 0 <;> rfl
    · rw [decide_eq_false h2, Bool.false_and, Bool.and_false]
      refine Ev.congr (fun k => ?_) (Ev.now _)
      unfold tocsinref07_MayValue.f
      rw [if_pos (by omega), if_neg (by omega)]
  · rw [decide_eq_false h1, Bool.false_and]
    refine Ev.congr (fun k => ?_) (Ev.now _)
    unfold tocsinref07_MayValue.f
    rw [if_neg (by omega)]

/-- Each name and value may be, the names rise, from behind p on. -/
def okL : Option S31 → List S31 → Bool
  | _, [] => true
  | p, x :: l => mayName x.f0 && (mayValue x.f1 && ((match p with | none => true | some q => Op.bytesLess q.f0.toList x.f0.toList) && okL (some x) l))
def mayB (l : List S31) : Bool := okL none l && decide (l.length ≤ 4)
def prevAt (l : List S31) (x : Int) : Option S31 := if x > 0 then some (rd_T31 l (x - 1)) else none
theorem okL_step {l : List S31} {x : Int} (h0 : 0 ≤ x) (h : x < l.length) : okL (prevAt l x) (l.drop x.toNat) = (mayName (rd_T31 l x).f0 && (mayValue (rd_T31 l x).f1 && ((if x > 0 then Op.bytesLess (rd_T31 l (x - 1)).f0.toList (rd_T31 l x).f0.toList else true) && okL (prevAt l (x + 1)) (l.drop (x + 1).toNat)))) := by
  rw [rd_drop l x.toNat (by omega), Int.toNat_of_nonneg h0, toNat_succ h0]
  unfold prevAt
  rw [if_pos (show x + 1 > 0 by omega), show x + 1 - 1 = x by omega]
  by_cases hx : x > 0
  · rw [if_pos hx, if_pos hx]
    rfl
  · rw [if_neg hx, if_neg hx]
    rfl
theorem okL_end {l : List S31} {x : Int} (h : ¬ x < l.length) : okL (prevAt l x) (l.drop x.toNat) = true := by
  rw [List.drop_eq_nil_of_le (by omega)]
  rfl
theorem may_ev (l : List S31) (hl : l.length ≤ 9223372036854775807) : ∀ (d : Nat) (x : Int), 0 ≤ x → x ≤ l.length → (l.length : Int) - x = d →
    Ev (fun k => labels_May.l0 k l l (l.length : Int) x) (okL (prevAt l x) (l.drop x.toNat) && decide (l.length ≤ 4)) := by
  intro d
  induction d with
  | zero =>
    intro x h0 h1 hd
    rw [okL_end (by omega), Bool.true_and]
    refine Ev.step (fun k => by rw [labels_May.l0, if_neg (by omega)]) (Ev.congr (fun k => ?_) (Ev.now _))
    congr 1
    rw [decide_eq_decide]
    omega
  | succ d ih =>
    intro x h0 h1 hd
    have hx : x < l.length := by omega
    have hn := ih (x + 1) (by omega) (by omega) (by omega)
    rw [okL_step h0 hx]
    cases hm : mayName (rd_T31 l x).f0 with
    | false =>
      rw [Bool.false_and, Bool.false_and]
      exact Ev.step (fun k => by rw [labels_May.l0, if_pos hx, if_pos h0, if_pos hx, labels_MayName.f, hm, Option.bind_some, if_neg (by simp)]) (Ev.now _)
    | true =>
      cases hv : mayValue (rd_T31 l x).f1 with
      | false =>
        rw [Bool.true_and, Bool.false_and, Bool.false_and]
        exact Ev.step (fun k => by rw [labels_May.l0, if_pos hx, if_pos h0, if_pos hx, labels_MayName.f, hm, Option.bind_some, if_pos rfl, labels_MayValue.f, hv, Option.bind_some, if_neg (by simp)]) (Ev.now _)
      | true =>
        simp only [Bool.true_and]
        by_cases hp : x > 0
        · cases hb : Op.bytesLess (rd_T31 l (x - 1)).f0.toList (rd_T31 l x).f0.toList with
          | false =>
            rw [if_pos hp, Bool.false_and, Bool.false_and]
            exact Ev.step (fun k => by rw [labels_May.l0, if_pos hx, if_pos h0, if_pos hx, labels_MayName.f, hm, Option.bind_some, if_pos rfl, labels_MayValue.f, hv, Option.bind_some, if_pos rfl, if_pos hp, w64 (by omega) (by omega), if_pos (by omega), if_pos (by omega), hb, if_neg (by simp)]) (Ev.now _)
          | true =>
            rw [if_pos hp, Bool.true_and]
            exact Ev.step (fun k => by rw [labels_May.l0, if_pos hx, if_pos h0, if_pos hx, labels_MayName.f, hm, Option.bind_some, if_pos rfl, labels_MayValue.f, hv, Option.bind_some, if_pos rfl, if_pos hp, w64 (by omega) (by omega), if_pos (by omega), if_pos (by omega), hb, if_pos rfl, w64 (by omega) (by omega)]) hn
        · rw [if_neg hp, Bool.true_and]
          exact Ev.step (fun k => by rw [labels_May.l0, if_pos hx, if_pos h0, if_pos hx, labels_MayName.f, hm, Option.bind_some, if_pos rfl, labels_MayValue.f, hv, Option.bind_some, if_pos rfl, if_neg hp, w64 (by omega) (by omega)]) hn
theorem may (l : List S31) (hl : l.length ≤ 9223372036854775807) : Ev (fun k => labels_May.f k l) (mayB l) := may_ev l hl l.length 0 (by omega) (by omega) (by omega)
def Good (l : List S31) : Prop := ∀ y ∈ l, y.f0.size ≤ 9223372036854775807 ∧ y.f1.size ≤ 9223372036854775807
theorem refmay_ev (l : List S31) (hl : l.length ≤ 9223372036854775807) (hg : Good l) : ∀ (d : Nat) (x : Int), 0 ≤ x → x ≤ l.length → (l.length : Int) - x = d →
    Ev (fun k => tocsinref07_May.l0 k l x) (okL (prevAt l x) (l.drop x.toNat)) := by
  intro d
  induction d with
  | zero =>
    intro x h0 h1 hd
    rw [okL_end (by omega)]
    exact Ev.step (fun k => by rw [tocsinref07_May.l0, if_neg (by omega)]) (Ev.now _)
  | succ d ih =>
    intro x h0 h1 hd
    have hx : x < l.length := by omega
    have hn := ih (x + 1) (by omega) (by omega) (by omega)
    have hgx := hg _ (rd_mem h0 hx)
    rw [okL_step h0 hx]
    refine Ev.step (fun k => by rw [tocsinref07_May.l0, if_pos hx, if_pos h0]) (Ev.bind (mayName_ref _ hgx.1) ?_)
    cases hm : mayName (rd_T31 l x).f0 with
    | false => exact Ev.congr (fun k => if_neg (by simp)) (Ev.now _)
    | true =>
      simp only [reduceIte]
      refine Ev.bind (mayValue_ref _ hgx.2) ?_
      cases hv : mayValue (rd_T31 l x).f1 with
      | false => exact Ev.congr (fun k => if_neg (by simp)) (Ev.now _)
      | true =>
        simp only [Bool.true_and]
        simp only [reduceIte]
        by_cases hp : x > 0
        · cases hb : Op.bytesLess (rd_T31 l (x - 1)).f0.toList (rd_T31 l x).f0.toList with
          | false =>
            rw [if_pos hp, Bool.false_and]
            exact Ev.congr (fun k => by rw [if_pos hp, w64 (by omega) (by omega), if_pos (by omega), if_pos (by omega), hb, if_neg (by simp)]) (Ev.now _)
          | true =>
            rw [if_pos hp, Bool.true_and]
            exact Ev.congr (fun k => by rw [if_pos hp, w64 (by omega) (by omega), if_pos (by omega), if_pos (by omega), hb, if_pos rfl, w64 (by omega) (by omega)]) hn
        · rw [if_neg hp, Bool.true_and]
          exact Ev.congr (fun k => by rw [if_neg hp, w64 (by omega) (by omega)]) hn
theorem refmay (l : List S31) (hl : l.length ≤ 9223372036854775807) (hg : Good l) : Ev (fun k => tocsinref07_May.f k l) (mayB l) := by
  unfold mayB
  by_cases h : l.length ≤ 4
  · rw [decide_eq_true h, Bool.and_true]
    refine Ev.congr (fun k => ?_) (refmay_ev l hl hg l.length 0 (by omega) (by omega) (by omega))
    unfold tocsinref07_May.f
    rw [if_neg (by omega)]
  · rw [decide_eq_false h, Bool.and_false]
    refine Ev.congr (fun k => ?_) (Ev.now _)
    unfold tocsinref07_May.f
    rw [if_pos (by omega)]
theorem may_small {l : List S31} (h : mayB l = true) : l.length ≤ 4 ∧ ∀ y ∈ l, mayName y.f0 = true ∧ mayValue y.f1 = true := by
  unfold mayB at h
  rw [Bool.and_eq_true, decide_eq_true_eq] at h
  refine ⟨h.2, ?_⟩
  have key : ∀ (l : List S31) (p : Option S31), okL p l = true → ∀ y ∈ l, mayName y.f0 = true ∧ mayValue y.f1 = true := by
    intro l
    induction l with
    | nil => intro p _ y hy; cases hy
    | cons x l ih =>
      intro p hp y hy
      rw [okL.eq_def] at hp
      simp only [Bool.and_eq_true] at hp
      rcases List.mem_cons.1 hy with rfl | hy
      · exact ⟨hp.1, hp.2.1⟩
      · exact ih _ hp.2.2.2 y hy
  exact key l none h.1

/-! Same -/
theorem ext31 {x y : S31} (h0 : x.f0.toList = y.f0.toList) (h1 : x.f1.toList = y.f1.toList) : x = y := by
  have inj : ∀ {a b : ByteArray}, a.toList = b.toList → a = b := fun {a b} h => by
    rw [ByteArray.toList_eq, ByteArray.toList_eq] at h
    exact ByteArray.ext (Array.ext' h)
  have e0 := inj h0
  have e1 := inj h1
  cases x
  cases y
  simp only at e0 e1
  rw [e0, e1]
abbrev B (s : ByteArray) : List UInt8 := s.data.toList
theorem B_str (l : List UInt8) : B (str l) = l := rfl
theorem str_B (s : ByteArray) : str (B s) = s := Lib.mk_data s
theorem size_str (l : List UInt8) : (str l).size = l.length := by rw [← data_length]; rfl
theorem B_inj {a b : ByteArray} (h : B a = B b) : a = b := by rw [← str_B a, ← str_B b, h]
def item (x : S31) : List UInt8 := B x.f0 ++ 61 :: quoteL (B x.f1)
def joinC : List S31 → List UInt8
  | [] => []
  | x :: l => item x ++ (match l with | [] => [] | _ :: _ => 44 :: joinC l)
def printL (l : List S31) : List UInt8 := 123 :: (joinC l ++ [125])
theorem joinC_one (x : S31) : joinC [x] = item x := by rw [joinC, List.append_nil]
theorem joinC_two (x y : S31) (l : List S31) : joinC (x :: y :: l) = item x ++ 44 :: joinC (y :: l) := by rw [joinC]
theorem B_app (a b : ByteArray) : B (a ++ b) = B a ++ B b := by
  unfold B
  rw [ByteArray.data_append, Array.toList_append]
theorem size_app (a b : ByteArray) : (a ++ b).size = a.size + b.size := ByteArray.size_append
def itemS (y : S31) : ByteArray := (y.f0 ++ (⟨#[61]⟩ : ByteArray)) ++ str (quoteL (B y.f1))
theorem B_itemS (y : S31) : B (itemS y) = item y := by
  unfold itemS item
  rw [B_app, B_app, B_str, List.append_assoc]
  rfl
theorem joinC_flat (x : S31) (l : List S31) : joinC (x :: l) = item x ++ (l.map fun y => 44 :: item y).flatten := by
  induction l generalizing x with
  | nil => rw [joinC_one]; simp
  | cons y l ih => rw [joinC_two, ih y]; simp
theorem joinL_items (l : List S31) : joinL (l.map itemS) ⟨#[44]⟩ = joinC l := by
  unfold joinL
  rw [List.map_map, show ((fun x : ByteArray => x.data.toList) ∘ itemS) = item from funext fun y => B_itemS y]
  cases l with
  | nil => rw [List.map_nil, Lib.join_nil]; rfl
  | cons x l =>
    rw [List.map_cons, Lib.join_cons, joinC_flat]
    unfold Lib.joinTail
    rw [List.map_map]
    rfl
theorem quoteL_len (u : List UInt8) : (quoteL u).length ≤ 2 * u.length + 2 := by
  unfold quoteL
  have := esc_len u
  simp only [List.length_cons, List.length_append, List.length_nil]
  omega
theorem item_len (y : S31) : (item y).length ≤ y.f0.size + 2 * y.f1.size + 3 := by
  unfold item
  have := quoteL_len (B y.f1)
  rw [data_length] at this
  rw [List.length_append, List.length_cons, data_length]
  omega
theorem joinC_len {l : List S31} (hs : ∀ y ∈ l, y.f0.size ≤ 5000 ∧ y.f1.size ≤ 5000) : (joinC l).length ≤ 15004 * l.length := by
  induction l with
  | nil => simp [joinC]
  | cons x l ih =>
    have h1 := item_len x
    have h2 := hs x (by simp)
    have h3 := ih (fun y hy => hs y (by simp [hy]))
    cases l with
    | nil => rw [joinC_one, List.length_singleton]; omega
    | cons y l =>
      rw [joinC_two, List.length_append, List.length_cons, List.length_cons]
      omega
theorem print_ev (l : List S31) (hl : Small l) : ∀ (d : Nat) (x : Int), 0 ≤ x → x ≤ l.length → (l.length : Int) - x = d →
    Ev (fun k => labels_Print.l0 k ((l.take x.toNat).map itemS) l (l.length : Int) x) (str (printL l)) := by
  intro d
  have h100 := hl.1
  induction d with
  | zero =>
    intro x h0 h1 hd
    refine Ev.step (fun k => by rw [labels_Print.l0, if_neg (by omega), List.take_of_length_le (by omega)]) ?_
    have hj := joinC_len hl.2
    unfold strings_Join.f
    rw [joinL_items, List.length_map, if_pos ⟨by omega, by omega⟩]
    refine ev_bsome ?_
    have hsz : (⟨(joinC l).toArray⟩ : ByteArray).size = (joinC l).length := size_str _
    refine ev_pos (by rw [hsz]; omega) (ev_pos (by rw [size_app, hsz]; have : (⟨#[123]⟩ : ByteArray).size = 1 := rfl; omega) (ev_some ?_))
    apply B_inj
    rw [B_app, B_app, B_str]
    unfold printL
    rfl
  | succ d ih =>
    intro x h0 h1 hd
    have hx : x < l.length := by omega
    have hs := hl.2 _ (rd_mem h0 hx)
    have hsz : (⟨#[61]⟩ : ByteArray).size = 1 := rfl
    have hq := quoteL_len (B (rd_T31 l x).f1)
    rw [data_length] at hq
    refine Ev.step (fun k => by rw [labels_Print.l0, if_pos hx, if_pos h0, if_pos hx, if_pos (by omega), labels_Quote.f, if_pos (by omega)]) ?_
    refine ev_bsome (ev_pos ?_ (ev_pos (by rw [List.length_map, List.length_take]; omega) ?_))
    · rw [size_app, hsz]
      show _ + (str (quoteL (B (rd_T31 l x).f1))).size ≤ _
      rw [size_str]
      omega
    · have hn := ih (x + 1) (by omega) (by omega) (by omega)
      have htk : (l.take (x + 1).toNat).map itemS = (l.take x.toNat).map itemS ++ [itemS (rd_T31 l x)] := by
        rw [toNat_succ h0, List.take_succ_eq_append_getElem (by omega), List.map_append]
        congr 1
        simp only [List.map_cons, List.map_nil]
        congr 1
        unfold rd_T31
        rw [List.getD_eq_getElem?_getD, List.getElem?_eq_getElem (by omega)]
        rfl
      rw [htk] at hn
      rw [w64 (by omega) (by omega)]
      exact hn
theorem print (l : List S31) (hl : Small l) : Ev (fun k => labels_Print.f k l) (str (printL l)) := by
  exact print_ev l hl l.length 0 (by omega) (by omega) (by omega)
theorem good_small {l : List S31} (h : mayB l = true) : Small l := by
  have hm := may_small h
  refine ⟨by omega, fun y hy => ?_⟩
  have h2 := hm.2 y hy
  unfold mayName mayValue at h2
  simp only [Bool.and_eq_true, decide_eq_true_eq] at h2
  omega
/-- One text, one row. -/
theorem printL_len {l : List S31} (hl : Small l) : (printL l).length ≤ 1500410 := by
  unfold printL
  have := joinC_len hl.2
  have := hl.1
  simp only [List.length_cons, List.length_append, List.length_nil]
  omega
end Go.Proofs.Ytlhlaadnifkdhaa.Pure
