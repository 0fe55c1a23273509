/- Plain laws of the book's reader of matchers: it reads as the program's does. -/
import Derived.Test.YticemdlnnmndoaaQ9
import Derived.Test.YticemdlnnmndoaaQ8
import Derived.Test.YticemdlnnmndoaaQ7
import Derived.Test.YticemdlnnmndoaaQ6
import Derived.Test.YticemdlnnmndoaaQ3
import Derived.Test.YticemdlnnmndoaaParseP
namespace Go.Proofs.Yticemdlnnmndoaa.Pure
open Go.RowKit Go.Proofs.YticemdlnnmndoaaW.PrintWords Go.Proofs.YticemdlnnmndoaaW.PrintLast Go.Proofs.Yticemdlnnmndoaa.Q
set_option linter.unusedVariables false
set_option linter.unusedSimpArgs false

def qres (s : ByteArray) : Option (List UInt8 × List UInt8) → ByteArray × Int
  | none => (⟨#[]⟩, 0)
  | some (v, r) => (str v, (s.size : Int) - r.length)
theorem app_str (a : ByteArray) (l : List UInt8) : B (a ++ str l) = B a ++ l := by
  unfold B
  rw [ByteArray.data_append, Array.toList_append]
  rfl
theorem refq_ev (s : ByteArray) (hs : s.size ≤ 140737488351232) (n : Nat) : ∀ (x : Int) (acc : ByteArray), 0 ≤ x → x ≤ s.size → (s.size : Int) - x ≤ n → (acc.size : Int) ≤ x →
    Ev (fun k => tocsinref07_Quoted.l0 k s acc x) (qres s (unq (B acc) ((B s).drop x.toNat))) := by
  induction n with
  | zero =>
    intro x acc h0 h1 hd ha
    rw [drop_end s x (by omega), unq_nil]
    exact Ev.step (fun k => by rw [tocsinref07_Quoted.l0, if_neg (by omega)]; rfl) (Ev.now _)
  | succ n ih =>
    intro x acc h0 h1 hd ha
    by_cases hx : x < s.size
    · obtain ⟨c, hc, hdr⟩ := drop_bt s x h0 hx
      refine Ev.step (fun k => by rw [tocsinref07_Quoted.l0, if_pos hx, if_pos h0, hc, w64 (x := x + 1) (by omega) (by omega)]) ?_
      rw [show (B s).drop x.toNat = _ from hdr]
      have hone : ∀ (y : Int) (c : UInt8) (t : List UInt8), 0 ≤ y → (B s).drop y.toNat = c :: t → (acc.size + (s.extract y.toNat (y + 1).toNat).size ≤ 9223372036854775807 ∧ B (acc ++ s.extract y.toNat (y + 1).toNat) = B acc ++ [c] ∧ ((acc ++ s.extract y.toNat (y + 1).toNat).size : Int) ≤ acc.size + 1) := by
        intro y c t h hy
        rw [ext_one h hy]
        have h1 : (str [c]).size = 1 := rfl
        refine ⟨by omega, app_str _ _, ?_⟩
        rw [ByteArray.size_append]
        omega
      by_cases h34 : c = 34
      · subst h34
        refine ev_pos rfl (ev_some ?_)
        rw [unq_end]
        show _ = (str (B acc), (s.size : Int) - _)
        rw [show str (B acc) = acc from str_B acc, List.length_drop, data_length, show (s.size : Int) - ((s.size - (x + 1).toNat : Nat) : Int) = x + 1 by omega]
      · refine ev_neg (fun e => h34 (UInt8.toNat_inj.1 (by have : (34 : UInt8).toNat = 34 := rfl; omega))) ?_
        by_cases h92 : c = 92
        · subst h92
          refine ev_pos rfl ?_
          by_cases hend : x + 1 = s.size
          · rw [drop_end s (x + 1) (by omega), unq_last]
            exact ev_pos hend (Ev.now _)
          · obtain ⟨d, hd2, hdr2⟩ := drop_bt s (x + 1) (by omega) (by omega)
            refine ev_neg hend (ev_pos (by omega) (ev_pos (by omega) ?_))
            rw [hd2, hdr2, w64 (x := x + 1 + 1) (by omega) (by omega)]
            obtain ⟨g1, g2, g3⟩ := hone (x + 1) d _ (by omega) hdr2
            have hrec := ih (x + 1 + 1) _ (by omega) (by omega) (by omega) (Int.le_trans g3 (by omega))
            rw [g2] at hrec
            by_cases e34 : d = 34
            · refine ev_pos (by rw [e34]; rfl) (ev_pos (by omega) (ev_pos (by omega) (ev_pos g1 ?_)))
              rw [unq_esc (.inl e34)]
              exact hrec
            · refine ev_neg (fun e => e34 (UInt8.toNat_inj.1 (by have : (34 : UInt8).toNat = 34 := rfl; omega))) ?_
              by_cases e92 : d = 92
              · refine ev_pos (by rw [e92]; rfl) (ev_pos (by omega) (ev_pos (by omega) (ev_pos g1 ?_)))
                rw [unq_esc (.inr e92)]
                exact hrec
              · refine ev_neg (fun e => e92 (UInt8.toNat_inj.1 (by have : (92 : UInt8).toNat = 92 := rfl; omega))) ?_
                rw [unq_bad e34 e92]
                exact Ev.now _
        · refine ev_neg (fun e => h92 (UInt8.toNat_inj.1 (by have : (92 : UInt8).toNat = 92 := rfl; omega))) ?_
          obtain ⟨g1, g2, g3⟩ := hone x c _ h0 hdr
          have hrec := ih (x + 1) _ (by omega) (by omega) (by omega) (Int.le_trans g3 (by omega))
          rw [g2] at hrec
          refine ev_pos (by omega) (ev_pos (by omega) (ev_pos g1 ?_))
          rw [unq_one h34 h92]
          exact hrec
    · rw [drop_end s x hx, unq_nil]
      exact Ev.step (fun k => by rw [tocsinref07_Quoted.l0, if_neg hx]; rfl) (Ev.now _)
theorem refquoted (s : ByteArray) (hs : s.size ≤ 140737488351232) : Ev (fun k => tocsinref07_Quoted.f k s) (qres s (quotedL (B s))) := by
  unfold tocsinref07_Quoted.f
  cases hB : B s with
  | nil =>
    refine ev_pos (by rw [ByteArray.toList_eq]; exact hB) (Ev.step (fun k => by rw [tocsinref07_Quoted.j0, if_pos rfl]; rfl) (Ev.now _))
  | cons c t =>
    have h1 : (B s).length = t.length + 1 := by rw [hB]; rfl
    rw [data_length] at h1
    obtain ⟨c', hc, hdr⟩ := drop_bt s 0 (by omega) (by omega)
    have hdr' : B s = c' :: (B s).drop 1 := hdr
    rw [hB] at hdr'
    obtain ⟨rfl, -⟩ := List.cons.inj hdr'
    refine ev_neg (by rw [ByteArray.toList_eq]; intro e; rw [show B s = [] from e] at hB; cases hB) (ev_pos (by omega) ?_)
    rw [hc]
    unfold quotedL
    simp only
    by_cases h34 : c = 34
    · subst h34
      refine Ev.step (fun k => by rw [tocsinref07_Quoted.j0, if_neg (by simp)]) ?_
      rw [if_pos rfl]
      have := refq_ev s hs s.size 1 ⟨#[]⟩ (by omega) (by omega) (by omega) (by have : (⟨#[]⟩ : ByteArray).size = 0 := rfl; omega)
      rw [show (1 : Int).toNat = 1 from rfl, show (B s).drop 1 = t by rw [hB]; rfl] at this
      exact this
    · rw [if_neg h34]
      refine Ev.step (fun k => by rw [tocsinref07_Quoted.j0, if_pos (by rw [bne_iff_ne]; exact fun e => h34 (UInt8.toNat_inj.1 (by have : (34 : UInt8).toNat = 34 := rfl; omega)))]; rfl) (Ev.now _)

theorem u8_nat {x : S30} (h : good30 x) : 0 ≤ x.f1 := by
  have := h.2.1
  simp [Lit.wf] at this
  first | omega | exact this.1
theorem okM_eq {x : S30} (h : 0 ≤ x.f1) : okM x = (decide (x.f1 ≤ 2) && (mayName x.f0 && (decide (x.f2.size ≤ 32) && allB signB x.f2))) := by
  unfold okM
  rw [may_val]
  have : Ops.lookB x.f1 = decide (x.f1 ≤ 2) := by
    unfold Ops.lookB
    rw [Bool.eq_iff_iff]
    simp
    omega
  rw [this]
theorem refmay_ev (l : List S30) (hl : l.length ≤ 9223372036854775807) (hg : ∀ y ∈ l, good30 y) : ∀ (d : Nat) (x : Int), 0 ≤ x → x ≤ l.length → (l.length : Int) - x = d →
    Ev (fun k => tocsinref08_May.l0 k l x) ((l.drop x.toNat).all okM && decide (l.length ≤ 6)) := by
  intro d
  induction d with
  | zero =>
    intro x h0 h1 hd
    rw [List.drop_eq_nil_of_le (by omega)]
    refine Ev.step (fun k => by rw [tocsinref08_May.l0, if_neg (by omega)]) (ev_some ?_)
    rw [List.all_nil, Bool.true_and, decide_eq_decide]
    omega
  | succ d ih =>
    intro x h0 h1 hd
    have hx : x < l.length := by omega
    have hgx := hg _ (rd_mem30 h0 hx)
    have hn := u8_nat hgx
    unfold good30 at hgx
    rw [all_drop (p := okM) h0 hx, okM_eq hn]
    by_cases a : (rd_T30 l x).f1 > 2
    · rw [decide_eq_false (show ¬ (rd_T30 l x).f1 ≤ 2 by omega)]
      exact Ev.step (fun k => by rw [tocsinref08_May.l0, if_pos hx, if_pos h0, if_pos a]) (ev_some (by simp))
    · rw [decide_eq_true (show (rd_T30 l x).f1 ≤ 2 by omega), Bool.true_and]
      refine Ev.step (fun k => by rw [tocsinref08_May.l0, if_pos hx, if_pos h0, if_neg a]) ?_
      refine Ev.bind (mayName_ref _ hgx.1) ?_
      cases hm : mayName (rd_T30 l x).f0 with
      | false => exact ev_neg (by simp) (ev_some (by simp))
      | true =>
        refine ev_pos rfl ?_
        by_cases b : ((rd_T30 l x).f2.size : Int) > 32
        · rw [decide_eq_false (show ¬ (rd_T30 l x).f2.size ≤ 32 by omega)]
          exact ev_pos b (ev_some (by simp))
        · rw [decide_eq_true (show (rd_T30 l x).f2.size ≤ 32 by omega)]
          refine ev_neg b ?_
          have hp := plain_ev (rd_T30 l x).f2 hgx.2.2 (rd_T30 l x).f2.size 0 (by omega) (by omega) (by omega)
          rw [all_zero] at hp
          refine Ev.bind (show Ev (fun k => tocsinref07_Plain.f k (rd_T30 l x).f2) _ from hp) ?_
          cases hv : allB signB (rd_T30 l x).f2 with
          | false => exact ev_neg (by simp) (ev_some (by simp))
          | true =>
            refine ev_pos rfl ?_
            rw [w64 (by omega) (by omega)]
            have := ih (x + 1) (by omega) (by omega) (by omega)
            simpa using this

theorem suf_drop {s : ByteArray} {R : List UInt8} (h : R <:+ B s) : R.length ≤ s.size ∧ (B s).drop ((s.size : Int) - R.length).toNat = R := by
  have h1 := h.length_le
  rw [data_length] at h1
  refine ⟨h1, ?_⟩
  have h2 := List.suffix_iff_eq_drop.1 h
  rw [data_length] at h2
  rw [show ((s.size : Int) - R.length).toNat = s.size - R.length by omega]
  exact h2.symm
theorem head_bt {s : ByteArray} {c : UInt8} {R : List UInt8} (h : (c :: R) <:+ B s) : bt s ((s.size : Int) - (c :: R).length) = (c.toNat : Int) := by
  obtain ⟨hle, hdr⟩ := suf_drop h
  rw [List.length_cons] at hle
  obtain ⟨c', hc, hdr'⟩ := drop_bt s ((s.size : Int) - (c :: R).length) (by rw [List.length_cons]; omega) (by rw [List.length_cons]; omega)
  rw [show s.data.toList.drop ((s.size : Int) - (c :: R).length).toNat = _ from hdr] at hdr'
  obtain ⟨rfl, -⟩ := List.cons.inj hdr'
  exact hc

/-! One matcher -/
theorem sign_ref (q : Int) : tocsinref08_sign.f q = some (sgn q) := by
  unfold tocsinref08_sign.f sgn
  split
  · rfl
  · split <;> rfl
def markU (c : UInt8) : Bool := markB c.toNat
def spanM (l : List UInt8) : Nat := (l.takeWhile markU).length
theorem spanM_le (l : List UInt8) : spanM l ≤ l.length := (List.takeWhile_sublist _).length_le
theorem spanM_cons (c : UInt8) (l : List UInt8) : spanM (c :: l) = if markU c = true then spanM l + 1 else 0 := by
  unfold spanM
  rw [List.takeWhile_cons]
  split <;> simp
theorem spanM_app (n t : List UInt8) (c : UInt8) (hc : markU c = false) (hn : n.all markU = true) : spanM (n ++ c :: t) = n.length := by
  induction n with
  | nil => rw [List.nil_append, spanM_cons, if_neg (by rw [hc]; simp)]; rfl
  | cons d n ih =>
    rw [List.all_cons, Bool.and_eq_true] at hn
    rw [List.cons_append, spanM_cons, if_pos hn.1, ih hn.2, List.length_cons]
def refM (l : List UInt8) : Option (S30 × List UInt8) := match cutO (l.drop (spanM l)) with
  | none => none
  | some (q, r) => match quotedL r with
    | none => none
    | some (v, r') => some (⟨str (l.take (spanM l)), q, str v⟩, r')
theorem cutO_op {l r : List UInt8} {q : Int} (h : cutO l = some (q, r)) : q = 0 ∨ q = 1 ∨ q = 2 := by
  unfold cutO at h
  cases l with
  | nil => cases h
  | cons c m =>
    simp only at h
    by_cases a : c = 61
    · rw [if_pos a] at h
      simp only [Option.some.injEq, Prod.mk.injEq] at h
      exact .inl h.1.symm
    · rw [if_neg a] at h
      cases m with
      | nil => cases h
      | cons d m =>
        simp only at h
        by_cases b : c = 33 ∧ d = 61
        · rw [if_pos b] at h
          simp only [Option.some.injEq, Prod.mk.injEq] at h
          exact .inr (.inl h.1.symm)
        · rw [if_neg b] at h
          by_cases e : c = 94 ∧ d = 61
          · rw [if_pos e] at h
            simp only [Option.some.injEq, Prod.mk.injEq] at h
            exact .inr (.inr h.1.symm)
          · rw [if_neg e] at h
            cases h
theorem refM_sound {l : List UInt8} {x : S30} {r : List UInt8} (h : refM l = some (x, r)) : l = itemM x ++ r ∧ (x.f1 = 0 ∨ x.f1 = 1 ∨ x.f1 = 2) := by
  unfold refM at h
  cases hc : cutO (l.drop (spanM l)) with
  | none => rw [hc] at h; cases h
  | some p =>
    obtain ⟨q, t⟩ := p
    rw [hc] at h
    simp only at h
    cases hq : quotedL t with
    | none => rw [hq] at h; cases h
    | some p =>
      obtain ⟨v, r'⟩ := p
      rw [hq] at h
      simp only [Option.some.injEq, Prod.mk.injEq] at h
      obtain ⟨rfl, rfl⟩ := h
      have h1 := cutO_sound hc
      have h2 := quotedL_sound hq
      refine ⟨?_, cutO_op hc⟩
      unfold itemM
      rw [B_str, B_str, List.append_assoc, List.append_assoc, ← h2, ← h1, List.take_append_drop]
theorem name_marks {s : ByteArray} (h : mayName s = true) : (B s).all markU = true := by
  unfold mayName at h
  simp only [Bool.and_eq_true] at h
  exact h.2.2.2
theorem set_mark {c : UInt8} (h : inSet c = true) : markU c = false := by
  unfold inSet at h
  simp only [Bool.or_eq_true, beq_iff_eq] at h
  rcases h with rfl | rfl | rfl <;> decide
theorem refM_app {x : S30} (hx : okM x = true) (r : List UInt8) : refM (itemM x ++ r) = some (x, r) := by
  obtain ⟨hq, hn, -, -⟩ := okM_small hx
  obtain ⟨c, t, hs, hc⟩ := sgn_head hq
  have hsp : spanM (itemM x ++ r) = (B x.f0).length := by
    unfold itemM
    rw [hs, List.append_assoc, List.cons_append, List.cons_append]
    exact spanM_app _ _ _ (set_mark hc) (name_marks hn)
  unfold refM
  rw [hsp]
  have hd : (itemM x ++ r).drop (B x.f0).length = B (sgn x.f1) ++ (quoteL (B x.f2) ++ r) := by
    unfold itemM
    rw [List.append_assoc, List.drop_left, List.append_assoc]
  have ht : (itemM x ++ r).take (B x.f0).length = B x.f0 := by
    unfold itemM
    rw [List.append_assoc, List.take_left]
  rw [hd, ht, cutO_app hq]
  simp only [quotedL_app, str_B]
abbrev One := ByteArray × Int × ByteArray × Int
abbrev none1 : One := (⟨#[]⟩, 0, ⟨#[]⟩, 0)
def oneR (s : ByteArray) : Option (S30 × List UInt8) → One
  | none => none1
  | some (x, r) => (x.f0, x.f1, x.f2, (s.size : Int) - r.length)
theorem a_name (c : UInt8) : mayName ((⟨#[97]⟩ : ByteArray) ++ str [c]) = markB c.toNat := by
  have hB : ((⟨#[97]⟩ : ByteArray) ++ str [c]).data.toList = [97, c] := rfl
  have hs : ((⟨#[97]⟩ : ByteArray) ++ str [c]).size = 2 := rfl
  have hb : bt ((⟨#[97]⟩ : ByteArray) ++ str [c]) 0 = 97 := rfl
  unfold mayName allB
  rw [hB, hs, hb]
  have h97 : markB ((97 : UInt8).toNat : Int) = true := by decide
  simp only [List.all_cons, List.all_nil, Bool.and_true, h97, Bool.true_and]
  have hl : letterB 97 = true := by decide
  rw [hl]
  simp
/-- The signs, one behind the other. -/
theorem span_ev (s : ByteArray) (hs : s.size ≤ 140737488351232) {r : One} : ∀ (d : Nat) (x : Int), 0 ≤ x → x ≤ s.size → (s.size : Int) - x = d →
    Ev (fun k => tocsinref08_one.j1 k s (x + (spanM ((B s).drop x.toNat) : Int))) r → Ev (fun k => tocsinref08_one.l0 k s x) r := by
  intro d
  induction d with
  | zero =>
    intro x h0 h1 hd h
    rw [drop_end s x (by omega)] at h
    refine Ev.step (fun k => by rw [tocsinref08_one.l0, if_neg (by omega)]) ?_
    simpa [spanM] using h
  | succ d ih =>
    intro x h0 h1 hd h
    have hx : x < s.size := by omega
    obtain ⟨c, hc, hdr⟩ := drop_bt s x h0 hx
    rw [hdr, spanM_cons] at h
    have he := ext_one (c := c) h0 hdr
    have h1s : (str [c]).size = 1 := rfl
    refine Ev.step (fun k => by rw [tocsinref08_one.l0, if_pos hx, if_pos h0, w64 (x := x + 1) (by omega) (by omega), if_pos (by omega), if_pos (by omega), he, if_pos (by omega)]) ?_
    refine Ev.bind (mayName_ref _ (by rw [ByteArray.size_append, h1s]; decide)) ?_
    rw [a_name]
    by_cases hm : markB (c.toNat : Int) = true
    · rw [if_pos (show markU c = true from hm)] at h
      refine ev_pos hm ?_
      refine ih (x + 1) (by omega) (by omega) (by omega) ?_
      rw [show x + 1 + (spanM ((B s).drop (x + 1).toNat) : Int) = x + ((spanM ((B s).drop (x + 1).toNat) + 1 : Nat) : Int) by omega]
      exact h
    · rw [if_neg (show ¬ markU c = true from hm)] at h
      refine ev_neg hm ?_
      simpa using h
theorem take_str (s : ByteArray) (n : Nat) : s.extract 0 n = str ((B s).take n) := by
  rw [Lib.extract_eq, List.drop_zero, Nat.sub_zero]
  rfl
theorem mid_str (s : ByteArray) (i j : Nat) : s.extract i j = str (((B s).drop i).take (j - i)) := by
  rw [Lib.extract_eq]
  rfl
theorem sgn_size (q : Int) : (sgn q).size = (B (sgn q)).length := (data_length _).symm
/-- A sign that stands there: what follows is a value in quotes, or nothing. -/
theorem j3_true (s : ByteArray) (n : Nat) (q : Int) (t : List UInt8) (hs : s.size ≤ 140737488351232) (hn : n ≤ s.size) (hq : (B s).drop n = B (sgn q) ++ t) :
    Ev (fun k => tocsinref08_one.j3 k s n q (n + (sgn q).size) true) (oneR s (match quotedL t with | none => none | some (v, r) => some (⟨str ((B s).take n), q, str v⟩, r))) := by
  have hl : s.size - n = (sgn q).size + t.length := by
    have := congrArg List.length hq
    rw [List.length_drop, data_length, List.length_append, data_length] at this
    exact this
  have hdt : (B s).drop (n + (sgn q).size) = t := by
    rw [← List.drop_drop, hq, sgn_size, List.drop_left]
  have hex : s.extract (((n : Int) + ((sgn q).size : Int) : Int)).toNat s.size = str t := by
    rw [extract_str, show ((n : Int) + ((sgn q).size : Int)).toNat = n + (sgn q).size by omega]
    show str ((B s).drop _) = _
    rw [hdt]
  refine Ev.step (fun k => by rw [tocsinref08_one.j3, if_pos rfl, if_pos (by omega), if_pos (by omega), hex]) ?_
  have hts : (str t).size = t.length := size_str t
  refine Ev.bind (refquoted (str t) (by omega)) ?_
  rw [B_str]
  cases hqt : quotedL t with
  | none => exact ev_pos rfl (Ev.now _)
  | some p =>
    obtain ⟨v, r⟩ := p
    have hqs := quotedL_sound hqt
    have hur : t.length = (quoteL v).length + r.length := by rw [hqs, List.length_append]
    have h2 : 2 ≤ (quoteL v).length := by unfold quoteL; simp
    have hi : (qres (str t) (some (v, r))).2 = (t.length : Int) - r.length := by unfold qres; rw [size_str]
    have hv : (qres (str t) (some (v, r))).1 = str v := rfl
    rw [hi, hv]
    refine ev_neg (by omega) (ev_pos (by omega) (ev_pos (by omega) (ev_some ?_)))
    rw [w64 (by omega) (by omega), Int.toNat_natCast, take_str]
    unfold oneR
    simp only [Prod.mk.injEq, true_and]
    omega
theorem j3_false (s : ByteArray) (n x6 : Int) (q : Int) {r : One} (h : Ev (fun k => tocsinref08_one.l1 k s n ((q + 1) % 256)) r) : Ev (fun k => tocsinref08_one.j3 k s n q x6 false) r :=
  Ev.step (fun k => by rw [tocsinref08_one.j3, if_neg (by simp)]) h
theorem l1_no (s : ByteArray) (n : Nat) (q : Int) (hs : s.size ≤ 140737488351232) (hn : n ≤ s.size) (hq : 0 ≤ q) (hq3 : q < 3) (hno : ¬ (B (sgn q)).isPrefixOf ((B s).drop n) = true) {r : One} (h : Ev (fun k => tocsinref08_one.l1 k s n ((q + 1) % 256)) r) :
    Ev (fun k => tocsinref08_one.l1 k s n q) r := by
  have hg := sgn_len q
  refine Ev.step (fun k => by rw [tocsinref08_one.l1, if_pos hq3, sign_ref, Option.bind_some, w64 (by omega) (by omega)]) ?_
  by_cases a : (n : Int) + ((sgn q).size : Int) ≤ (s.size : Int)
  · refine ev_pos a (ev_pos (by omega) (ev_pos (by omega) ?_))
    refine Ev.congr (fun k => by rw [Option.bind_some]) ?_
    have : ((s.extract ((n : Int) : Int).toNat ((n : Int) + ((sgn q).size : Int)).toNat).toList == (sgn q).toList) = false := by
      rw [beq_eq_false_iff_ne, ByteArray.toList_eq, ByteArray.toList_eq, Int.toNat_natCast, mid_str, show ((n : Int) + ((sgn q).size : Int)).toNat - n = (sgn q).size by omega]
      intro e
      refine hno (List.isPrefixOf_iff_prefix.2 ?_)
      have e2 : ((B s).drop n).take (sgn q).size = B (sgn q) := e
      rw [← e2]
      exact List.take_prefix _ _
    rw [this]
    exact j3_false _ _ _ _ h
  · exact ev_neg a (j3_false _ _ _ _ h)
theorem l1_yes (s : ByteArray) (n : Nat) (q : Int) (t : List UInt8) (hs : s.size ≤ 140737488351232) (hn : n ≤ s.size) (hq : 0 ≤ q) (hq3 : q < 3) (hyes : (B s).drop n = B (sgn q) ++ t) :
    Ev (fun k => tocsinref08_one.l1 k s n q) (oneR s (match quotedL t with | none => none | some (v, r) => some (⟨str ((B s).take n), q, str v⟩, r))) := by
  have hg := sgn_len q
  have hl : s.size - n = (sgn q).size + t.length := by
    have := congrArg List.length hyes
    rw [List.length_drop, data_length, List.length_append, data_length] at this
    exact this
  refine Ev.step (fun k => by rw [tocsinref08_one.l1, if_pos hq3, sign_ref, Option.bind_some, w64 (by omega) (by omega)]) ?_
  refine ev_pos (by omega) (ev_pos (by omega) (ev_pos (by omega) ?_))
  refine Ev.congr (fun k => by rw [Option.bind_some]) ?_
  have : ((s.extract ((n : Int) : Int).toNat ((n : Int) + ((sgn q).size : Int)).toNat).toList == (sgn q).toList) = true := by
    rw [beq_iff_eq, ByteArray.toList_eq, ByteArray.toList_eq, Int.toNat_natCast, mid_str, show ((n : Int) + ((sgn q).size : Int)).toNat - n = (sgn q).size by omega]
    show ((B s).drop n).take (sgn q).size = B (sgn q)
    rw [hyes, sgn_size, List.take_left]
  rw [this]
  exact j3_true s n q t hs hn hyes
theorem l1_end (s : ByteArray) (n : Int) : Ev (fun k => tocsinref08_one.l1 k s n 3) none1 := Ev.step (fun k => by rw [tocsinref08_one.l1, if_neg (by decide)]) (Ev.now _)
theorem signs_ev (s : ByteArray) (n : Nat) (hs : s.size ≤ 140737488351232) (hn : n ≤ s.size) :
    Ev (fun k => tocsinref08_one.l1 k s n 0) (oneR s (match cutO ((B s).drop n) with | none => none | some (q, r) => match quotedL r with | none => none | some (v, r') => some (⟨str ((B s).take n), q, str v⟩, r'))) := by
  have n1 : ((0 : Int) + 1) % 256 = 1 := by decide
  have n2 : ((1 : Int) + 1) % 256 = 2 := by decide
  have n3 : ((2 : Int) + 1) % 256 = 3 := by decide
  cases hc : cutO ((B s).drop n) with
  | some p =>
    obtain ⟨q, t⟩ := p
    have hsd := cutO_sound hc
    simp only
    rcases cutO_op hc with rfl | rfl | rfl
    · exact l1_yes s n 0 t hs hn (by decide) (by decide) hsd
    · refine l1_no s n 0 hs hn (by decide) (by decide) (fun h => ?_) (by rw [n1]; exact l1_yes s n 1 t hs hn (by decide) (by decide) hsd)
      rw [hsd] at h
      obtain ⟨u, hu⟩ := List.isPrefixOf_iff_prefix.1 h
      have hu2 : (61 :: u : List UInt8) = 33 :: 61 :: t := hu
      exact absurd (List.cons.inj hu2).1 (by decide)
    · have h1 : ¬ (B (sgn 1)).isPrefixOf ((B s).drop n) = true := by
        intro h
        rw [hsd] at h
        obtain ⟨u, hu⟩ := List.isPrefixOf_iff_prefix.1 h
        have hu2 : (33 :: 61 :: u : List UInt8) = 94 :: 61 :: t := hu
        exact absurd (List.cons.inj hu2).1 (by decide)
      have h0 : ¬ (B (sgn 0)).isPrefixOf ((B s).drop n) = true := by
        intro h
        rw [hsd] at h
        obtain ⟨u, hu⟩ := List.isPrefixOf_iff_prefix.1 h
        have hu2 : (61 :: u : List UInt8) = 94 :: 61 :: t := hu
        exact absurd (List.cons.inj hu2).1 (by decide)
      refine l1_no s n 0 hs hn (by decide) (by decide) h0 ?_
      rw [n1]
      refine l1_no s n 1 hs hn (by decide) (by decide) h1 ?_
      rw [n2]
      exact l1_yes s n 2 t hs hn (by decide) (by decide) hsd
  | none =>
    have hno : ∀ q : Int, (q = 0 ∨ q = 1 ∨ q = 2) → ¬ (B (sgn q)).isPrefixOf ((B s).drop n) = true := by
      intro q hq h
      obtain ⟨t, ht⟩ := List.isPrefixOf_iff_prefix.1 h
      rw [← ht, cutO_app hq] at hc
      cases hc
    refine l1_no s n 0 hs hn (by decide) (by decide) (hno 0 (.inl rfl)) ?_
    rw [n1]
    refine l1_no s n 1 hs hn (by decide) (by decide) (hno 1 (.inr (.inl rfl))) ?_
    rw [n2]
    refine l1_no s n 2 hs hn (by decide) (by decide) (hno 2 (.inr (.inr rfl))) ?_
    rw [n3]
    exact l1_end _ _
theorem refone (s : ByteArray) (hs : s.size ≤ 140737488351232) : Ev (fun k => tocsinref08_one.f k s) (oneR s (refM (B s))) := by
  unfold tocsinref08_one.f
  have hle := spanM_le (B s)
  rw [data_length] at hle
  refine span_ev s hs s.size 0 (by omega) (by omega) (by omega) ?_
  refine Ev.step (f := fun k => tocsinref08_one.l1 k s (spanM (B s) : Nat) 0) (fun k => by rw [tocsinref08_one.j1]; simp) ?_
  exact signs_ev s (spanM (B s)) hs hle

/-! The loop -/
def GoodM (l : List S30) : Prop := ∀ y ∈ l, good30 y
theorem refmay (l : List S30) (hl : l.length ≤ 9223372036854775807) (hg : GoodM l) : Ev (fun k => tocsinref08_May.f k l) (mayM l) := by
  have := refmay_ev l hl hg l.length 0 (by omega) (by omega) (by omega)
  exact this
theorem j2r_true (s : ByteArray) (acc : List S30) (x : Int) : Ev (fun k => tocsinref08_Parse.j2 k s acc x true) errR := Ev.step (fun k => by rw [tocsinref08_Parse.j2, if_pos rfl]) (Ev.now _)
theorem itemM_pos {y : S30} (r : List UInt8) {s : ByteArray} (h : (itemM y ++ r).length ≤ s.size) : 2 ≤ (itemM y).length := by
  unfold itemM quoteL
  simp
  omega
theorem good_snoc {acc : List S30} {y : S30} {r : List UInt8} {s : ByteArray} (hs : s.size ≤ 140737488351232) (hg : GoodM acc) (hq : y.f1 = 0 ∨ y.f1 = 1 ∨ y.f1 = 2) (h : (itemM y ++ r).length ≤ s.size) : GoodM (acc ++ [y]) := by
  intro z hz
  rcases List.mem_append.1 hz with hz | hz
  · exact hg z hz
  · rw [List.mem_singleton] at hz
    subst hz
    have h2 : (B z.f2).length ≤ (quoteL (B z.f2)).length := by
      unfold quoteL
      have : ∀ u : List UInt8, u.length ≤ (u.flatMap esc).length := by
        intro u
        induction u with
        | nil => simp
        | cons c u ih =>
          rw [List.flatMap_cons, List.length_append, List.length_cons]
          have : 1 ≤ (esc c).length := by unfold esc; split <;> simp
          omega
      have := this (B z.f2)
      simp only [List.length_cons, List.length_append]
      omega
    unfold itemM at h
    rw [List.length_append, List.length_append, List.length_append, data_length] at h
    rw [data_length] at h2
    refine ⟨by omega, ?_, by omega⟩
    rcases hq with e | e | e <;> rw [e] <;> decide
theorem rround (s : ByteArray) (acc : List S30) (R : List UInt8) (hs : s.size ≤ 140737488351232) (ha : acc.length ≤ 6) (hg : GoodM acc) (hR : R <:+ B s) {q : Res}
    (h : match refM R with
      | none => q = errR
      | some (_, []) => q = errR
      | some (y, d :: m) => if acc.length + 1 ≤ 6 then (if d = 125 then q = (if mayM (acc ++ [y]) = true then (acc ++ [y], str m, 0) else errR) else if d = 44 then Ev (fun k => tocsinref08_Parse.l0 k s (acc ++ [y]) ((s.size : Int) - m.length)) q else q = errR) else q = errR) :
    Ev (fun k => tocsinref08_Parse.l0 k s acc ((s.size : Int) - R.length)) q := by
  obtain ⟨hle, hdr⟩ := suf_drop hR
  have hex : s.extract ((s.size : Int) - (R.length : Int)).toNat s.size = str R := by
    rw [extract_str]
    show str ((B s).drop _) = _
    rw [hdr]
  have hRs : (str R).size = R.length := size_str R
  refine Ev.step (fun k => by rw [tocsinref08_Parse.l0, if_pos (by omega), if_pos (by omega), hex]) ?_
  refine Ev.bind (refone (str R) (by omega)) (ev_pos (by omega) ?_)
  rw [B_str]
  refine ev_bsome ?_
  cases hm : refM R with
  | none =>
    rw [hm] at h
    simp only at h
    subst h
    exact ev_pos rfl (j2r_true _ _ _)
  | some p =>
    obtain ⟨y, r⟩ := p
    rw [hm] at h
    obtain ⟨hL, hop⟩ := refM_sound hm
    have hRl : R.length = (itemM y).length + r.length := by rw [hL, List.length_append]
    have hip := itemM_pos (y := y) r (s := s) (by rw [← hL]; exact hle)
    have hgy : GoodM (acc ++ [y]) := good_snoc (r := r) hs hg hop (by rw [← hL]; exact hle)
    have hor : oneR (str R) (some (y, r)) = (y.f0, y.f1, y.f2, ((str R).size : Int) - r.length) := rfl
    rw [hor]
    simp only
    rw [hRs, w64 (x := (s.size : Int) - R.length + _) (by omega) (by omega), show (s.size : Int) - R.length + ((R.length : Int) - r.length) = (s.size : Int) - r.length by omega]
    have hal : ((acc ++ [(⟨y.f0, y.f1, y.f2⟩ : S30)]).length : Int) = acc.length + 1 := by simp
    refine ev_neg (by omega) ?_
    have hrs : r <:+ B s := List.IsSuffix.trans ⟨itemM y, hL.symm⟩ hR
    cases r with
    | nil =>
      simp only at h
      subst h
      exact ev_pos (by simp) (j2r_true _ _ _)
    | cons d m =>
      simp only at h
      have hbd := head_bt hrs
      obtain ⟨hle3, -⟩ := suf_drop hrs
      have hl3 : (d :: m).length = m.length + 1 := rfl
      refine ev_neg (by omega) ?_
      rw [hal]
      by_cases h6 : acc.length + 1 ≤ 6
      · rw [if_pos h6] at h
        rw [show decide ((acc.length : Int) + 1 > 6) = false by rw [decide_eq_false_iff_not]; omega]
        have e1 : wrap64 ((s.size : Int) - ((d :: m).length : Int) + 1) = (s.size : Int) - m.length := by rw [w64 (by omega) (by omega)]; omega
        have e2 : wrap64 ((s.size : Int) - (m.length : Int) - 1) = (s.size : Int) - ((d :: m).length : Int) := by rw [w64 (by omega) (by omega)]; omega
        refine Ev.step (fun k => by rw [tocsinref08_Parse.j2, if_neg (by simp), e1, e2, if_pos (by omega), if_pos (by omega), hbd]) ?_
        by_cases h125 : d = 125
        · rw [if_pos h125] at h
          subst h
          refine ev_pos (by rw [h125]; rfl) ?_
          refine Ev.bind (refmay (acc ++ [y]) (by rw [List.length_append, List.length_singleton]; omega) hgy) ?_
          by_cases hmm : mayM (acc ++ [y]) = true
          · refine ev_pos hmm ?_
            rw [if_pos hmm]
            refine ev_pos (by omega) (ev_pos (by omega) (ev_some ?_))
            rw [extract_str]
            have := (suf_drop ((List.suffix_cons d m).trans hrs)).2
            show (_, str ((B s).drop _), _) = _
            rw [this]
          · refine ev_neg hmm ?_
            rw [if_neg hmm]
            exact Ev.now _
        · rw [if_neg h125] at h
          refine ev_neg (toNat_ne (d := 125) h125 rfl) ?_
          by_cases h44 : d = 44
          · rw [if_pos h44] at h
            exact ev_pos (by rw [h44]; rfl) h
          · rw [if_neg h44] at h
            subst h
            exact ev_neg (toNat_ne (d := 44) h44 rfl) (Ev.now _)
      · rw [if_neg h6] at h
        subst h
        rw [show decide ((acc.length : Int) + 1 > 6) = true by rw [decide_eq_true_eq]; omega]
        exact j2r_true _ _ _
theorem rloop_sound (s : ByteArray) (hs : s.size ≤ 140737488351232) (n : Nat) : ∀ (acc : List S30) (R : List UInt8), R.length ≤ n → R <:+ B s → acc.length ≤ 6 → GoodM acc →
    ∃ q, Ev (fun k => tocsinref08_Parse.l0 k s acc ((s.size : Int) - R.length)) q ∧ (q = errR ∨ ∃ l m, l ≠ [] ∧ mayM (acc ++ l) = true ∧ R = joinM l ++ 125 :: m ∧ q = (acc ++ l, str m, 0)) := by
  induction n with
  | zero =>
    intro acc R hn hR ha hg
    have : R = [] := List.length_eq_zero_iff.1 (by omega)
    subst this
    exact ⟨errR, rround s acc [] hs ha hg hR rfl, .inl rfl⟩
  | succ n ih =>
    intro acc R hn hR ha hg
    cases hl : refM R with
    | none => exact ⟨errR, rround s acc R hs ha hg hR (by rw [hl]), .inl rfl⟩
    | some p =>
      obtain ⟨y, r⟩ := p
      obtain ⟨hL, hop⟩ := refM_sound hl
      have hRl := hR.length_le
      rw [data_length] at hRl
      have hgy : GoodM (acc ++ [y]) := good_snoc (r := r) hs hg hop (by rw [← hL]; exact hRl)
      have hip := itemM_pos (y := y) r (s := s) (by rw [← hL]; exact hRl)
      have hLl : R.length = (itemM y).length + r.length := by rw [hL, List.length_append]
      cases r with
      | nil => exact ⟨errR, rround s acc R hs ha hg hR (by rw [hl]), .inl rfl⟩
      | cons d m =>
        by_cases h6 : acc.length + 1 ≤ 6
        · by_cases h125 : d = 125
          · refine ⟨if mayM (acc ++ [y]) = true then (acc ++ [y], str m, 0) else errR, rround s acc R hs ha hg hR (by rw [hl]; simp only [if_pos h6, if_pos h125]), ?_⟩
            by_cases hm : mayM (acc ++ [y]) = true
            · rw [if_pos hm]
              exact .inr ⟨[y], m, by simp, hm, by rw [joinM_one, hL, h125], rfl⟩
            · rw [if_neg hm]
              exact .inl rfl
          · by_cases h44 : d = 44
            · have hms : m <:+ B s := (List.suffix_cons d m).trans (List.IsSuffix.trans ⟨itemM y, hL.symm⟩ hR)
              obtain ⟨q, hq, hor⟩ := ih (acc ++ [y]) m (by rw [List.length_cons] at hLl; omega) hms (by rw [List.length_append, List.length_singleton]; omega) hgy
              refine ⟨q, rround s acc R hs ha hg hR (by rw [hl]; simp only [if_pos h6, if_neg h125, if_pos h44]; exact hq), ?_⟩
              rcases hor with rfl | ⟨l, m', hne, hml, hB, rfl⟩
              · exact .inl rfl
              · refine .inr ⟨y :: l, m', by simp, by simpa using hml, ?_, by simp⟩
                cases l with
                | nil => exact absurd rfl hne
                | cons z l => rw [hL, h44, hB, joinM_two, List.append_assoc, List.cons_append]
            · exact ⟨errR, rround s acc R hs ha hg hR (by rw [hl]; simp only [if_pos h6, if_neg h125, if_neg h44]), .inl rfl⟩
        · exact ⟨errR, rround s acc R hs ha hg hR (by rw [hl]; simp only [if_neg h6]), .inl rfl⟩
theorem rloop_back (s : ByteArray) (hs : s.size ≤ 140737488351232) : ∀ (l : List S30) (x : S30) (acc : List S30) (m : List UInt8), (joinM (x :: l) ++ 125 :: m) <:+ B s → acc.length ≤ 6 → GoodM acc → mayM (acc ++ x :: l) = true →
    Ev (fun k => tocsinref08_Parse.l0 k s acc ((s.size : Int) - (joinM (x :: l) ++ 125 :: m).length)) (acc ++ x :: l, str m, 0)
  | [], x, acc, m, hR, ha, hg, hm => by
    have hx := (may_all hm).2 x (by simp)
    have h6 := (may_all hm).1
    rw [List.length_append, List.length_singleton] at h6
    refine rround s acc _ hs ha hg hR ?_
    rw [joinM_one, refM_app hx]
    simp only [if_pos h6, if_true, if_pos hm]
  | y :: l, x, acc, m, hR, ha, hg, hm => by
    have hx := (may_all hm).2 x (by simp)
    have h6 := (may_all hm).1
    rw [List.length_append, List.length_cons] at h6
    have h61 : acc.length + 1 ≤ 6 := by omega
    have hm' : mayM (acc ++ [x]) = true := may_prefixM (m := y :: l) (by simpa using hm)
    have hRl := hR.length_le
    rw [data_length] at hRl
    have hj : joinM (x :: y :: l) ++ 125 :: m = itemM x ++ 44 :: (joinM (y :: l) ++ 125 :: m) := by rw [joinM_two, List.append_assoc, List.cons_append]
    have hgx : GoodM (acc ++ [x]) := good_snoc (r := 44 :: (joinM (y :: l) ++ 125 :: m)) hs hg (okM_small hx).1 (by rw [← hj]; exact hRl)
    have hms : (joinM (y :: l) ++ 125 :: m) <:+ B s := by
      refine List.IsSuffix.trans ?_ hR
      rw [hj]
      exact ⟨itemM x ++ [44], by simp⟩
    have hb := rloop_back s hs l y (acc ++ [x]) m hms (by rw [List.length_append, List.length_singleton]; omega) hgx (by simpa using hm)
    refine rround s acc _ hs ha hg hR ?_
    rw [hj, refM_app hx]
    simp only [if_pos h61, show ¬ ((44 : UInt8) = 125) by decide, if_false, if_true]
    simpa using hb
theorem goodM_nil : GoodM [] := fun _ h => by simp at h
theorem ref_start (s : ByteArray) {q : Res} (h : match B s with
      | [] => q = errR
      | c :: t => if c = 123 then (match t with | [] => q = errR | d :: m => if d = 125 then q = ([], str m, 0) else Ev (fun k => tocsinref08_Parse.l0 k s [] ((s.size : Int) - (d :: m).length)) q) else q = errR) : Ev (fun k => tocsinref08_Parse.f k s) q := by
  have herr : Ev (fun k => tocsinref08_Parse.j0 k s true) errR := Ev.step (fun k => by rw [tocsinref08_Parse.j0, if_pos rfl]) (Ev.now _)
  unfold tocsinref08_Parse.f
  cases hB : B s with
  | nil =>
    rw [hB] at h
    simp only at h
    subst h
    have : (B s).length = 0 := by rw [hB]; rfl
    rw [data_length] at this
    exact ev_pos (by omega) herr
  | cons c t =>
    rw [hB] at h
    simp only at h
    have hl : s.size = t.length + 1 := by
      have : (B s).length = t.length + 1 := by rw [hB]; rfl
      rw [data_length] at this
      exact this
    cases t with
    | nil =>
      have hq : q = errR := by
        by_cases hc : c = 123
        · rw [if_pos hc] at h; exact h
        · rw [if_neg hc] at h; exact h
      subst hq
      exact ev_pos (by rw [hl]; simp) herr
    | cons d m =>
      rw [List.length_cons] at hl
      have hb0 : bt s 0 = (c.toNat : Int) := by
        have := head_bt (s := s) (c := c) (R := d :: m) (by rw [hB]; exact List.suffix_refl _)
        rw [List.length_cons, List.length_cons, show (s.size : Int) - ((m.length + 1 + 1 : Nat) : Int) = 0 by omega] at this
        exact this
      have hb1 : bt s 1 = (d.toNat : Int) := by
        have := head_bt (s := s) (c := d) (R := m) (by rw [hB]; exact List.suffix_cons _ _)
        rw [List.length_cons, show (s.size : Int) - ((m.length + 1 : Nat) : Int) = 1 by omega] at this
        exact this
      refine ev_neg (by omega) (ev_pos (by omega) ?_)
      rw [hb0]
      by_cases hc : c = 123
      · rw [if_pos hc] at h
        simp only at h
        refine Ev.step (fun k => by rw [tocsinref08_Parse.j0, if_neg (by rw [hc]; decide), if_pos (by omega), hb1]) ?_
        by_cases hd : d = 125
        · rw [if_pos hd] at h
          subst h
          refine ev_pos (by rw [hd]; rfl) (ev_pos (by omega) (ev_some ?_))
          rw [extract_str]
          show (_, str ((B s).drop 2), _) = _
          rw [hB]
          rfl
        · rw [if_neg hd] at h
          refine ev_neg (toNat_ne (d := 125) hd rfl) ?_
          rw [List.length_cons, show (s.size : Int) - ((m.length + 1 : Nat) : Int) = 1 by omega] at h
          exact h
      · rw [if_neg hc] at h
        subst h
        rw [show ((c.toNat : Int) != 123) = true by rw [bne_iff_ne]; exact toNat_ne (d := 123) hc rfl]
        exact herr
theorem ref_sound (s : ByteArray) (hs : s.size ≤ 140737488351232) : ∃ q, Ev (fun k => tocsinref08_Parse.f k s) q ∧ (q = errR ∨ ∃ l m, mayM l = true ∧ B s = printM l ++ m ∧ q = (l, str m, 0)) := by
  cases hB : B s with
  | nil => exact ⟨errR, ref_start s (by rw [hB]), .inl rfl⟩
  | cons c t =>
    by_cases hc : c = 123
    · subst hc
      cases t with
      | nil => exact ⟨errR, ref_start s (by rw [hB]; rfl), .inl rfl⟩
      | cons d m =>
        by_cases hd : d = 125
        · subst hd
          exact ⟨([], str m, 0), ref_start s (by rw [hB]; rfl), .inr ⟨[], m, rfl, rfl, rfl⟩⟩
        · obtain ⟨q, hq, hor⟩ := rloop_sound s hs (d :: m).length [] (d :: m) (Nat.le_refl _) (by rw [hB]; exact List.suffix_cons _ _) (by simp) goodM_nil
          refine ⟨q, ref_start s (by rw [hB]; simp only [if_true, if_neg hd]; exact hq), ?_⟩
          rcases hor with rfl | ⟨l, m', hne, hm, hBt, rfl⟩
          · exact .inl rfl
          · refine .inr ⟨l, m', by simpa using hm, ?_, by simp⟩
            rw [hBt]
            unfold printM
            simp
    · exact ⟨errR, ref_start s (by rw [hB]; simp only [if_neg hc]), .inl rfl⟩
theorem ref_back (s : ByteArray) (hs : s.size ≤ 140737488351232) (l : List S30) (m : List UInt8) (hm : mayM l = true) (hB : B s = printM l ++ m) : Ev (fun k => tocsinref08_Parse.f k s) (l, str m, 0) := by
  refine ref_start s ?_
  cases l with
  | nil => rw [hB, printM_nil]; rfl
  | cons x l =>
    have hB2 : B s = 123 :: (joinM (x :: l) ++ 125 :: m) := by rw [hB]; unfold printM; simp
    have hx := (may_all hm).2 x (by simp)
    obtain ⟨u, hu⟩ : ∃ u, joinM (x :: l) ++ 125 :: m = itemM x ++ u := ⟨_, by rw [joinM_flat, List.append_assoc]⟩
    obtain ⟨d, t, hdt⟩ : ∃ d t, joinM (x :: l) ++ 125 :: m = d :: t := by
      cases h : joinM (x :: l) ++ 125 :: m with
      | nil => simp at h
      | cons c t => exact ⟨c, t, rfl⟩
    have hd : d ≠ 125 := by
      rintro rfl
      exact item_head hx u t (by rw [← hu, hdt])
    have := rloop_back s hs l x [] m (by rw [hB2]; exact List.suffix_cons _ _) (by simp) goodM_nil (by simpa using hm)
    rw [hB2]
    simp only [if_true]
    rw [hdt] at this ⊢
    simp only [if_neg hd]
    simpa using this
/-- Both readers tell one thing. -/
theorem parse_same (s : ByteArray) (hs : s.size ≤ 140737488351232) : ∃ q : Res, Ev (fun k => tocsinref08_Parse.f k s) q ∧ Ev (fun k => match_Parse.f k s) q ∧ q.1.length ≤ 6 := by
  obtain ⟨q, hq, hor⟩ := ref_sound s hs
  rcases hor with rfl | ⟨l, m, hm, hB, rfl⟩
  · obtain ⟨p, hp, hop⟩ := parse_sound s hs
    rcases hop with rfl | ⟨l, m, hm, hB, rfl⟩
    · exact ⟨_, hq, hp, by simp⟩
    · have := ev_unique hq (ref_back s hs l m hm hB)
      rw [this] at hq
      exact ⟨_, hq, hp, (may_all hm).1⟩
  · exact ⟨_, hq, parse_back s hs l m hm hB, (may_all hm).1⟩
end Go.Proofs.Yticemdlnnmndoaa.Pure
