/- Plain laws that any chapter over texts leans on: whole rounds, bytes, names, values, quotes. -/
import Derived.Test.YticemdlnnmndoaaQ4
import Derived.Test.YticemdlnnmndoaaQ5
import Derived.Test.YticemdlnnmndoaaQ20
import Derived.Test.YticemdlnnmndoaaQ11
import Derived.Test.YticemdlnnmndoaaQ11
import Derived.Test.YticemdlnnmndoaaQ18
namespace Go.Proofs.Yticemdlnnmndoaa.Pure
open Go.RowKit Go.Proofs.YticemdlnnmndoaaW.PrintWords Go.Proofs.YticemdlnnmndoaaW.PrintLast Go.Proofs.Yticemdlnnmndoaa.Q
set_option linter.unusedVariables false
set_option linter.unusedSimpArgs false

theorem toNat_succ {x : Int} (h : 0 ≤ x) : (x + 1).toNat = x.toNat + 1 := by omega
def str (l : List UInt8) : ByteArray := ⟨l.toArray⟩
theorem data_length (s : ByteArray) : s.data.toList.length = s.size := Array.length_toList
theorem w64 {x : Int} (h0 : -9223372036854775808 ≤ x) (h1 : x ≤ 9223372036854775807) : wrap64 x = x := by unfold wrap64; omega

theorem ev_pos {α : Type} {c : Prop} [Decidable c] {A B : Nat → Option α} {r : α} (hc : c) (h : Ev A r) : Ev (fun k => if c then A k else B k) r := Ev.congr (fun _ => if_pos hc) h
theorem ev_neg {α : Type} {c : Prop} [Decidable c] {A B : Nat → Option α} {r : α} (hc : ¬ c) (h : Ev B r) : Ev (fun k => if c then A k else B k) r := Ev.congr (fun _ => if_neg hc) h
theorem ev_some {α : Type} {a r : α} (h : a = r) : Ev (fun _ => some a) r := by rw [h]; exact Ev.now _
theorem ev_bsome {α β : Type} {a : α} {F : Nat → α → Option β} {r : β} (h : Ev (fun k => F k a) r) : Ev (fun k => (some a).bind (F k)) r := h
theorem ev_unique {α : Type} {g : Nat → Option α} {r q : α} (h : Ev g r) (k : Ev g q) : r = q := by
  obtain ⟨K, h⟩ := h
  obtain ⟨K', k⟩ := k
  exact Option.some.inj ((h (max K K') (by omega)).symm.trans (k (max K K') (by omega)))
def allFrom (p : Int → Bool) (s : ByteArray) (x : Int) : Bool := (s.data.toList.drop x.toNat).all fun b => p b.toNat
theorem bt_nat (s : ByteArray) (x : Int) (h0 : 0 ≤ x) (h : x < s.size) : ∃ h2 : x.toNat < s.data.toList.length, bt s x = ((s.data.toList[x.toNat]'h2).toNat : Int) := by
  have h2 : x.toNat < s.data.toList.length := by rw [data_length]; omega
  refine ⟨h2, ?_⟩
  have := bt_list s x.toNat h2
  rwa [Int.toNat_of_nonneg h0] at this
theorem drop_bt (s : ByteArray) (x : Int) (h0 : 0 ≤ x) (h : x < s.size) : ∃ c : UInt8, bt s x = (c.toNat : Int) ∧ s.data.toList.drop x.toNat = c :: s.data.toList.drop (x + 1).toNat := by
  obtain ⟨h2, hb⟩ := bt_nat s x h0 h
  exact ⟨_, hb, by rw [toNat_succ h0]; exact List.drop_eq_getElem_cons h2⟩
theorem drop_end (s : ByteArray) (x : Int) (h : ¬ x < s.size) : s.data.toList.drop x.toNat = [] := List.drop_eq_nil_of_le (by rw [data_length]; omega)
theorem all_step (p : Int → Bool) (s : ByteArray) (x : Int) (h0 : 0 ≤ x) (h : x < s.size) : allFrom p s x = (p (bt s x) && allFrom p s (x + 1)) := by
  obtain ⟨c, hc, hd⟩ := drop_bt s x h0 h
  unfold allFrom
  rw [hd, hc]
  rfl
theorem all_end (p : Int → Bool) (s : ByteArray) (x : Int) (h : ¬ x < s.size) : allFrom p s x = true := by
  unfold allFrom
  rw [drop_end s x h]
  rfl
theorem mark_cases (c : Int) : markB c = true ↔ (c ≥ 97 ∧ c ≤ 122) ∨ (c ≥ 48 ∧ c ≤ 57) ∨ c = 95 := by
  unfold markB letterB
  simp only [Bool.or_eq_true, Bool.and_eq_true, decide_eq_true_eq, beq_iff_eq]
  constructor
  · rintro ((⟨a, b⟩ | ⟨a, b⟩) | a)
    · exact .inl ⟨a, b⟩
    · exact .inr (.inl ⟨a, b⟩)
    · exact .inr (.inr a)
  · rintro (⟨a, b⟩ | ⟨a, b⟩ | a)
    · exact .inl (.inl ⟨a, b⟩)
    · exact .inl (.inr ⟨a, b⟩)
    · exact .inr a
theorem name_ev (s : ByteArray) (hs : s.size ≤ 9223372036854775807) : ∀ (d : Nat) (x : Int), 0 ≤ x → x ≤ s.size → (s.size : Int) - x = d → Ev (fun k => tocsinref07_MayName.l0 k s x) (allFrom markB s x) := by
  intro d
  induction d with
  | zero =>
    intro x h0 h1 hd
    rw [all_end _ _ _ (by omega)]
    apply Ev.step
    · intro k
      rw [tocsinref07_MayName.l0, if_neg (by omega)]
    · exact Ev.now _
  | succ d ih =>
    intro x h0 h1 hd
    have hx : x < s.size := by omega
    rw [all_step _ _ _ h0 hx]
    have hm := mark_cases (bt s x)
    have hn := ih (x + 1) (by omega) (by omega) (by omega)
    cases hb : markB (bt s x) with
    | true =>
      rw [hb] at hm
      have hm := hm.1 rfl
      rw [Bool.true_and]
      apply Ev.step (f := fun k => tocsinref07_MayName.l0 k s (x + 1))
      · intro k
        rw [tocsinref07_MayName.l0, if_pos hx, if_pos h0, w64 (by omega) (by omega)]
        repeat' split
        all_goals first | rfl | (exfalso; omega)
      · exact hn
    | false =>
      rw [hb] at hm
      have hm : ¬ ((bt s x ≥ 97 ∧ bt s x ≤ 122) ∨ (bt s x ≥ 48 ∧ bt s x ≤ 57) ∨ bt s x = 95) := fun h => by cases hm.2 h
      rw [Bool.false_and]
      apply Ev.step (f := fun k => some false)
      · intro k
        rw [tocsinref07_MayName.l0, if_pos hx, if_pos h0]
        repeat' split
        all_goals first | rfl | (exfalso; omega)
      · exact Ev.now _
theorem all_zero (p : Int → Bool) (s : ByteArray) : allFrom p s 0 = allB p s := rfl
theorem mayName_ref (s : ByteArray) (hs : s.size ≤ 9223372036854775807) : Ev (fun k => tocsinref07_MayName.f k s) (mayName s) := by
  unfold mayName
  by_cases h1 : 1 ≤ s.size
  · by_cases h2 : s.size ≤ 16
    · rw [decide_eq_true h1, decide_eq_true h2, Bool.true_and, Bool.true_and]
      unfold letterB
      refine Ev.congr (f := fun k => if bt s 0 < 97 then tocsinref07_MayName.j0 k s true else tocsinref07_MayName.j0 k s (decide (bt s 0 > 122))) (fun k => ?_) ?_
      · unfold tocsinref07_MayName.f
        rw [if_neg (by omega), if_neg (by omega), if_pos (by omega)]
      · by_cases a : bt s 0 < 97
        · simp only [if_pos a]
          rw [decide_eq_false (show ¬ 97 ≤ bt s 0 by omega), Bool.false_and, Bool.false_and]
          exact Ev.step (fun k => by rw [tocsinref07_MayName.j0, if_pos rfl]) (Ev.now _)
        · simp only [if_neg a]
          rw [decide_eq_true (show 97 ≤ bt s 0 by omega), Bool.true_and]
          by_cases b : bt s 0 > 122
          · rw [decide_eq_true b, decide_eq_false (show ¬ bt s 0 ≤ 122 by omega), Bool.false_and]
            exact Ev.step (fun k => by rw [tocsinref07_MayName.j0, if_pos rfl]) (Ev.now _)
          · rw [decide_eq_false b, decide_eq_true (show bt s 0 ≤ 122 by omega), Bool.true_and]
            refine Ev.step (fun k => by rw [tocsinref07_MayName.j0, if_neg (by simp)]) ?_
            exact name_ev s hs s.size 0 (by omega) (by omega) (by omega)
    · rw [decide_eq_false h2, Bool.false_and, Bool.and_false]
      refine Ev.congr (fun k => ?_) (Ev.step (fun k => by rw [tocsinref07_MayName.j0, if_pos rfl]) (Ev.now _) : Ev (fun k => tocsinref07_MayName.j0 k s true) false)
      unfold tocsinref07_MayName.f
      rw [if_neg (by omega), if_pos (by omega)]
  · rw [decide_eq_false h1, Bool.false_and]
    refine Ev.congr (fun k => ?_) (Ev.step (fun k => by rw [tocsinref07_MayName.j0, if_pos rfl]) (Ev.now _) : Ev (fun k => tocsinref07_MayName.j0 k s true) false)
    unfold tocsinref07_MayName.f
    rw [if_pos (by omega)]
theorem plain_ev (s : ByteArray) (hs : s.size ≤ 9223372036854775807) : ∀ (d : Nat) (x : Int), 0 ≤ x → x ≤ s.size → (s.size : Int) - x = d → Ev (fun k => tocsinref07_Plain.l0 k s x) (allFrom signB s x) := by
  intro d
  induction d with
  | zero =>
    intro x h0 h1 hd
    rw [all_end _ _ _ (by omega)]
    apply Ev.step
    · intro k
      rw [tocsinref07_Plain.l0, if_neg (by omega)]
    · exact Ev.now _
  | succ d ih =>
    intro x h0 h1 hd
    have hx : x < s.size := by omega
    rw [all_step _ _ _ h0 hx]
    unfold signB
    by_cases a : bt s x < 32
    · rw [decide_eq_false (show ¬ 32 ≤ bt s x by omega), Bool.false_and, Bool.false_and]
      exact Ev.step (fun k => by rw [tocsinref07_Plain.l0, if_pos hx, if_pos h0, if_pos a]) (Ev.now _)
    · rw [decide_eq_true (show 32 ≤ bt s x by omega), Bool.true_and]
      by_cases b : bt s x > 126
      · rw [decide_eq_false (show ¬ bt s x ≤ 126 by omega), Bool.false_and]
        exact Ev.step (fun k => by rw [tocsinref07_Plain.l0, if_pos hx, if_pos h0, if_neg a, if_pos b]) (Ev.now _)
      · rw [decide_eq_true (show bt s x ≤ 126 by omega), Bool.true_and]
        refine Ev.step (fun k => by rw [tocsinref07_Plain.l0, if_pos hx, if_pos h0, if_neg a, if_neg b, w64 (by omega) (by omega)]) ?_
        exact ih (x + 1) (by omega) (by omega) (by omega)
abbrev B (s : ByteArray) : List UInt8 := s.data.toList
theorem B_str (l : List UInt8) : B (str l) = l := rfl
theorem str_B (s : ByteArray) : str (B s) = s := Lib.mk_data s
theorem size_str (l : List UInt8) : (str l).size = l.length := by rw [← data_length]; rfl
theorem B_inj {a b : ByteArray} (h : B a = B b) : a = b := by rw [← str_B a, ← str_B b, h]
theorem B_app (a b : ByteArray) : B (a ++ b) = B a ++ B b := by
  unfold B
  rw [ByteArray.data_append, Array.toList_append]
theorem size_app (a b : ByteArray) : (a ++ b).size = a.size + b.size := ByteArray.size_append
theorem quoteL_len (u : List UInt8) : (quoteL u).length ≤ 2 * u.length + 2 := by
  unfold quoteL
  have := esc_len u
  simp only [List.length_cons, List.length_append, List.length_nil]
  omega
theorem ext_one {s : ByteArray} {x : Int} {c : UInt8} {t : List UInt8} (h0 : 0 ≤ x) (h : (B s).drop x.toNat = c :: t) : s.extract x.toNat (x + 1).toNat = str [c] := by
  rw [Lib.extract_eq, show (x + 1).toNat - x.toNat = 1 by omega]
  show str (((B s).drop x.toNat).take 1) = _
  rw [h]
  rfl
theorem toNat_ne {c d : UInt8} {z : Int} (h : c ≠ d) (hz : (d.toNat : Int) = z) : ¬ (c.toNat : Int) = z := fun e => h (UInt8.toNat_inj.1 (by omega))
theorem rq_ev (s : ByteArray) (hs : s.size ≤ 140737488351232) : ∀ (d : Nat) (x : Int) (acc : ByteArray), 0 ≤ x → x ≤ s.size → (s.size : Int) - x = d → (acc.size : Int) ≤ 2 * x + 1 →
    Ev (fun k => tocsinref07_Quote.l0 k s acc x) (str (B acc ++ ((B s).drop x.toNat).flatMap esc ++ [34])) := by
  intro d
  induction d with
  | zero =>
    intro x acc h0 h1 hd ha
    rw [drop_end s x (by omega)]
    refine Ev.step (fun k => by rw [tocsinref07_Quote.l0, if_neg (by omega), if_pos (by omega)]) (ev_some ?_)
    apply B_inj
    rw [B_app, B_str]
    simp
  | succ d ih =>
    intro x acc h0 h1 hd ha
    have hx : x < s.size := by omega
    obtain ⟨c, hc, hdr⟩ := drop_bt s x h0 hx
    have hone := ext_one (c := c) h0 hdr
    have hsz : (str [c]).size = 1 := rfl
    have h92z : (⟨#[92]⟩ : ByteArray).size = 1 := rfl
    have hrec1 := ih (x + 1) ((acc ++ ⟨#[92]⟩) ++ str [c]) (by omega) (by omega) (by omega) (by rw [size_app, size_app]; omega)
    have hrec2 := ih (x + 1) (acc ++ str [c]) (by omega) (by omega) (by omega) (by rw [size_app]; omega)
    refine Ev.step (fun k => by rw [tocsinref07_Quote.l0, if_pos hx, if_pos h0, hc, w64 (x := x + 1) (by omega) (by omega), hone]) ?_
    rw [show (B s).drop x.toNat = _ from hdr, List.flatMap_cons]
    have hesc : ∀ (_ : c = 34 ∨ c = 92), Ev (fun k => tocsinref07_Quote.l0 k s ((acc ++ ⟨#[92]⟩) ++ str [c]) (x + 1)) (str (B acc ++ (esc c ++ ((B s).drop (x + 1).toNat).flatMap esc) ++ [34])) := by
      intro h
      rw [show esc c = [92, c] by unfold esc; rw [if_pos h]]
      rw [B_app, B_app, B_str, show B (⟨#[92]⟩ : ByteArray) = [92] from rfl] at hrec1
      simpa using hrec1
    by_cases h34 : c = 34
    · refine ev_pos (by rw [h34]; rfl) (ev_pos (by omega) (ev_pos (by omega) (ev_pos (by omega) (ev_pos (by rw [size_app]; omega) ?_))))
      exact hesc (.inl h34)
    · refine ev_neg (toNat_ne (d := 34) (z := 34) h34 rfl) ?_
      by_cases h92 : c = 92
      · refine ev_pos (by rw [h92]; rfl) (ev_pos (by omega) (ev_pos (by omega) (ev_pos (by omega) (ev_pos (by rw [size_app]; omega) ?_))))
        exact hesc (.inr h92)
      · refine ev_neg (toNat_ne (d := 92) (z := 92) h92 rfl) (ev_pos (by omega) (ev_pos (by omega) (ev_pos (by omega) ?_)))
        rw [show esc c = [c] by unfold esc; rw [if_neg (fun e => e.elim h34 h92)]]
        rw [B_app, B_str] at hrec2
        simpa using hrec2
theorem refquote (s : ByteArray) (hs : s.size ≤ 140737488351232) : Ev (fun k => tocsinref07_Quote.f k s) (str (quoteL (B s))) := by
  unfold tocsinref07_Quote.f
  have := rq_ev s hs s.size 0 ⟨#[34]⟩ (by omega) (by omega) (by omega) (by have : (⟨#[34]⟩ : ByteArray).size = 1 := rfl; omega)
  rw [show B (⟨#[34]⟩ : ByteArray) = [34] from rfl] at this
  unfold quoteL
  simpa using this
end Go.Proofs.Yticemdlnnmndoaa.Pure
