/- Plain laws of the book's reader of labels: it reads as the program's does. -/
import Derived.Test.YtiicfejaoilfcaaQ11
import Derived.Test.YtiicfejaoilfcaaQ10
import Derived.Test.YtiicfejaoilfcaaParseP
namespace Go.Proofs.Ytiicfejaoilfcaa.Pure
open Go.RowKit Go.Proofs.YtiicfejaoilfcaaW.PrintWords Go.Proofs.YtiicfejaoilfcaaW.PrintLast Go.Proofs.Ytiicfejaoilfcaa.Q
set_option linter.unusedVariables false
set_option linter.unusedSimpArgs false

def qres (s : ByteArray) : Option (List UInt8 × List UInt8) → ByteArray × Int
  | none => (⟨#[]⟩, 0)
  | some (v, r) => (str v, (s.size : Int) - r.length)
theorem ext_one {s : ByteArray} {x : Int} {c : UInt8} {t : List UInt8} (h0 : 0 ≤ x) (h : (B s).drop x.toNat = c :: t) : s.extract x.toNat (x + 1).toNat = str [c] := by
  rw [Lib.extract_eq, show (x + 1).toNat - x.toNat = 1 by omega]
  show str (((B s).drop x.toNat).take 1) = _
  rw [h]
  rfl
theorem app_str (a : ByteArray) (l : List UInt8) : B (a ++ str l) = B a ++ l := by
  unfold B
  rw [ByteArray.data_append, Array.toList_append]
  rfl
theorem refq_ev (s : ByteArray) (hs : s.size ≤ 140737488351232) (n : Nat) : ∀ (x : Int) (acc : ByteArray), 0 ≤ x → x ≤ s.size → (s.size : Int) - x ≤ n → (acc.size : Int) ≤ x →
    Ev (fun k => tocsinref07_Quoted.l0 k s acc x) (qres s (unq (B acc) ((B s).drop x.toNat))) := by
  induction n with
  | zero =>
    intro x acc h0 h1 hd ha
    rw [drop_end s x (by omega), unq_nil]
    exact Ev.step (fun k => by rw [tocsinref07_Quoted.l0, if_neg (by omega)]; rfl) (Ev.now _)
  | succ n ih =>
    intro x acc h0 h1 hd ha
    by_cases hx : x < s.size
    · obtain ⟨c, hc, hdr⟩ := drop_bt s x h0 hx
      refine Ev.step (fun k => by rw [tocsinref07_Quoted.l0, if_pos hx, if_pos h0, hc, w64 (x := x + 1) (by omega) (by omega)]) ?_
      rw [show (B s).drop x.toNat = _ from hdr]
      have hone : ∀ (y : Int) (c : UInt8) (t : List UInt8), 0 ≤ y → (B s).drop y.toNat = c :: t → (acc.size + (s.extract y.toNat (y + 1).toNat).size ≤ 9223372036854775807 ∧ B (acc ++ s.extract y.toNat (y + 1).toNat) = B acc ++ [c] ∧ ((acc ++ s.extract y.toNat (y + 1).toNat).size : Int) ≤ acc.size + 1) := by
        intro y c t h hy
        rw [ext_one h hy]
        have h1 : (str [c]).size = 1 := rfl
        refine ⟨by omega, app_str _ _, ?_⟩
        rw [ByteArray.size_append]
        omega
      by_cases h34 : c = 34
      · subst h34
        refine ev_pos rfl (ev_some ?_)
        rw [unq_end]
        show _ = (str (B acc), (s.size : Int) - _)
        rw [show str (B acc) = acc from str_B acc, List.length_drop, data_length, show (s.size : Int) - ((s.size - (x + 1).toNat : Nat) : Int) = x + 1 by omega]
      · refine ev_neg (fun e => h34 (UInt8.toNat_inj.1 (by have : (34 : UInt8).toNat = 34 := rfl; omega))) ?_
        by_cases h92 : c = 92
        · subst h92
          refine ev_pos rfl ?_
          by_cases hend : x + 1 = s.size
          · rw [drop_end s (x + 1) (by omega), unq_last]
            exact ev_pos hend (Ev.now _)
          · obtain ⟨d, hd2, hdr2⟩ := drop_bt s (x + 1) (by omega) (by omega)
            refine ev_neg hend (ev_pos (by omega) (ev_pos (by omega) ?_))
            rw [hd2, hdr2, w64 (x := x + 1 + 1) (by omega) (by omega)]
            obtain ⟨g1, g2, g3⟩ := hone (x + 1) d _ (by omega) hdr2
            have hrec := ih (x + 1 + 1) _ (by omega) (by omega) (by omega) (Int.le_trans g3 (by omega))
            rw [g2] at hrec
            by_cases e34 : d = 34
            · refine ev_pos (by rw [e34]; rfl) (ev_pos (by omega) (ev_pos (by omega) (ev_pos g1 ?_)))
              rw [unq_esc (.inl e34)]
              exact hrec
            · refine ev_neg (fun e => e34 (UInt8.toNat_inj.1 (by have : (34 : UInt8).toNat = 34 := rfl; omega))) ?_
              by_cases e92 : d = 92
              · refine ev_pos (by rw [e92]; rfl) (ev_pos (by omega) (ev_pos (by omega) (ev_pos g1 ?_)))
                rw [unq_esc (.inr e92)]
                exact hrec
              · refine ev_neg (fun e => e92 (UInt8.toNat_inj.1 (by have : (92 : UInt8).toNat = 92 := rfl; omega))) ?_
                rw [unq_bad e34 e92]
                exact Ev.now _
        · refine ev_neg (fun e => h92 (UInt8.toNat_inj.1 (by have : (92 : UInt8).toNat = 92 := rfl; omega))) ?_
          obtain ⟨g1, g2, g3⟩ := hone x c _ h0 hdr
          have hrec := ih (x + 1) _ (by omega) (by omega) (by omega) (Int.le_trans g3 (by omega))
          rw [g2] at hrec
          refine ev_pos (by omega) (ev_pos (by omega) (ev_pos g1 ?_))
          rw [unq_one h34 h92]
          exact hrec
    · rw [drop_end s x hx, unq_nil]
      exact Ev.step (fun k => by rw [tocsinref07_Quoted.l0, if_neg hx]; rfl) (Ev.now _)
theorem refquoted (s : ByteArray) (hs : s.size ≤ 140737488351232) : Ev (fun k => tocsinref07_Quoted.f k s) (qres s (quotedL (B s))) := by
  unfold tocsinref07_Quoted.f
  cases hB : B s with
  | nil =>
    refine ev_pos (by rw [ByteArray.toList_eq]; exact hB) (Ev.step (fun k => by rw [tocsinref07_Quoted.j0, if_pos rfl]; rfl) (Ev.now _))
  | cons c t =>
    have h1 : (B s).length = t.length + 1 := by rw [hB]; rfl
    rw [data_length] at h1
    obtain ⟨c', hc, hdr⟩ := drop_bt s 0 (by omega) (by omega)
    have hdr' : B s = c' :: (B s).drop 1 := hdr
    rw [hB] at hdr'
    obtain ⟨rfl, -⟩ := List.cons.inj hdr'
    refine ev_neg (by rw [ByteArray.toList_eq]; intro e; rw [show B s = [] from e] at hB; cases hB) (ev_pos (by omega) ?_)
    rw [hc]
    unfold quotedL
    simp only
    by_cases h34 : c = 34
    · subst h34
      refine Ev.step (fun k => by rw [tocsinref07_Quoted.j0, if_neg (by simp)]) ?_
      rw [if_pos rfl]
      have := refq_ev s hs s.size 1 ⟨#[]⟩ (by omega) (by omega) (by omega) (by have : (⟨#[]⟩ : ByteArray).size = 0 := rfl; omega)
      rw [show (1 : Int).toNat = 1 from rfl, show (B s).drop 1 = t by rw [hB]; rfl] at this
      exact this
    · rw [if_neg h34]
      refine Ev.step (fun k => by rw [tocsinref07_Quoted.j0, if_pos (by rw [bne_iff_ne]; exact fun e => h34 (UInt8.toNat_inj.1 (by have : (34 : UInt8).toNat = 34 := rfl; omega)))]; rfl) (Ev.now _)

/-! One label -/
def notEq (c : UInt8) : Bool := c != 61
def cutL (l : List UInt8) : Nat := (l.takeWhile notEq).length
theorem cutL_le (l : List UInt8) : cutL l ≤ l.length := (List.takeWhile_sublist _).length_le
theorem cutL_cons (c : UInt8) (l : List UInt8) : cutL (c :: l) = if c = 61 then 0 else cutL l + 1 := by
  unfold cutL
  rw [List.takeWhile_cons]
  by_cases h : c = 61
  · rw [if_pos h, if_neg (by simp [notEq, h])]; rfl
  · rw [if_neg h, if_pos (by simp [notEq, h])]; rfl
theorem cutL_app (n t : List UInt8) (hn : n.all markU = true) : cutL (n ++ 61 :: t) = n.length := by
  induction n with
  | nil => rw [List.nil_append, cutL_cons, if_pos rfl]; rfl
  | cons c n ih =>
    rw [List.all_cons, Bool.and_eq_true] at hn
    rw [List.cons_append, cutL_cons, if_neg (by intro e; rw [e] at hn; exact absurd hn.1 (by decide)), ih hn.2, List.length_cons]
theorem cutL_stop : ∀ {l : List UInt8} {c : UInt8} {t : List UInt8}, l.drop (cutL l) = c :: t → c = 61
  | [], _, _, h => by simp at h
  | d :: l, c, t, h => by
    rw [cutL_cons] at h
    by_cases hd : d = 61
    · rw [if_pos hd, List.drop_zero] at h
      rw [← (List.cons.inj h).1]
      exact hd
    · rw [if_neg hd, List.drop_succ_cons] at h
      exact cutL_stop h
def labR (l : List UInt8) : Option (S31 × List UInt8) := match l.drop (cutL l) with
  | [] => none
  | _ :: t => match quotedL t with | none => none | some (v, r) => some (⟨str (l.take (cutL l)), str v⟩, r)
theorem labR_sound {l : List UInt8} {x : S31} {r : List UInt8} (h : labR l = some (x, r)) : l = item x ++ r := by
  unfold labR at h
  cases hd : l.drop (cutL l) with
  | nil => rw [hd] at h; cases h
  | cons c t =>
    rw [hd] at h
    simp only at h
    have hc := cutL_stop hd
    cases hq : quotedL t with
    | none => rw [hq] at h; cases h
    | some p =>
      obtain ⟨v, r'⟩ := p
      rw [hq] at h
      simp only [Option.some.injEq, Prod.mk.injEq] at h
      obtain ⟨rfl, rfl⟩ := h
      have ht := quotedL_sound hq
      unfold item
      rw [B_str, B_str, List.append_assoc, List.cons_append, ← ht, ← hc, ← hd, List.take_append_drop]
theorem labR_app {x : S31} (hx : mayName x.f0 = true) (r : List UInt8) : labR (item x ++ r) = some (x, r) := by
  have hs : cutL (item x ++ r) = (B x.f0).length := by
    unfold item
    rw [List.append_assoc, List.cons_append]
    exact cutL_app _ _ (name_marks hx)
  unfold labR
  rw [hs]
  have hd : (item x ++ r).drop (B x.f0).length = 61 :: (quoteL (B x.f1) ++ r) := by
    unfold item
    rw [List.append_assoc, List.drop_left]
    rfl
  have ht : (item x ++ r).take (B x.f0).length = B x.f0 := by
    unfold item
    rw [List.append_assoc, List.take_left]
  rw [hd, ht]
  simp only [quotedL_app, str_B]

/-! The loop -/
theorem suf_drop {s : ByteArray} {R : List UInt8} (h : R <:+ B s) : R.length ≤ s.size ∧ (B s).drop ((s.size : Int) - R.length).toNat = R := by
  have h1 := h.length_le
  rw [data_length] at h1
  refine ⟨h1, ?_⟩
  have h2 := List.suffix_iff_eq_drop.1 h
  rw [data_length] at h2
  rw [show ((s.size : Int) - R.length).toNat = s.size - R.length by omega]
  exact h2.symm
theorem cut_ev (s : ByteArray) (acc : List S31) (p : Int) (hs : s.size ≤ 140737488351232) {r : Res} : ∀ (R : List UInt8), R <:+ B s →
    Ev (fun k => tocsinref07_Parse.j3 k s acc p ((s.size : Int) - R.length + cutL R)) r → Ev (fun k => tocsinref07_Parse.l1 k s acc p ((s.size : Int) - R.length)) r
  | [], hR, h => by
    refine Ev.step (fun k => by rw [tocsinref07_Parse.l1, if_neg (by simp)]) ?_
    simpa [cutL] using h
  | c :: R, hR, h => by
    obtain ⟨hle, hdr⟩ := suf_drop hR
    rw [List.length_cons] at hle
    obtain ⟨c', hc, hdr'⟩ := drop_bt s ((s.size : Int) - (c :: R).length) (by rw [List.length_cons]; omega) (by rw [List.length_cons]; omega)
    rw [show s.data.toList.drop ((s.size : Int) - (c :: R).length).toNat = _ from hdr] at hdr'
    obtain ⟨rfl, -⟩ := List.cons.inj hdr'
    refine Ev.step (fun k => by rw [tocsinref07_Parse.l1, if_pos (by rw [List.length_cons]; omega), if_pos (by rw [List.length_cons]; omega), hc]) ?_
    rw [cutL_cons] at h
    by_cases h61 : c = 61
    · rw [if_pos h61] at h
      refine ev_pos (by rw [h61]; rfl) ?_
      simpa using h
    · rw [if_neg h61] at h
      refine ev_neg (fun e => h61 (UInt8.toNat_inj.1 (by have : (61 : UInt8).toNat = 61 := rfl; omega))) ?_
      rw [List.length_cons, w64 (by omega) (by omega), show (s.size : Int) - ((R.length + 1 : Nat) : Int) + 1 = (s.size : Int) - R.length by omega]
      refine cut_ev s acc p hs R ((List.suffix_cons c R).trans hR) ?_
      rw [List.length_cons, show (s.size : Int) - ((R.length + 1 : Nat) : Int) + ((cutL R + 1 : Nat) : Int) = (s.size : Int) - R.length + cutL R by omega] at h
      exact h
theorem j4r_true (s : ByteArray) (acc : List S31) (x : Int) : Ev (fun k => tocsinref07_Parse.j4 k s acc x true) errR := Ev.step (fun k => by rw [tocsinref07_Parse.j4, if_pos rfl]) (Ev.now _)
theorem head_bt {s : ByteArray} {c : UInt8} {R : List UInt8} (h : (c :: R) <:+ B s) : bt s ((s.size : Int) - (c :: R).length) = (c.toNat : Int) := by
  obtain ⟨hle, hdr⟩ := suf_drop h
  rw [List.length_cons] at hle
  obtain ⟨c', hc, hdr'⟩ := drop_bt s ((s.size : Int) - (c :: R).length) (by rw [List.length_cons]; omega) (by rw [List.length_cons]; omega)
  rw [show s.data.toList.drop ((s.size : Int) - (c :: R).length).toNat = _ from hdr] at hdr'
  obtain ⟨rfl, -⟩ := List.cons.inj hdr'
  exact hc
theorem toNat_ne {c d : UInt8} {z : Int} (h : c ≠ d) (hz : (d.toNat : Int) = z) : ¬ (c.toNat : Int) = z := fun e => h (UInt8.toNat_inj.1 (by omega))
/-- The loop at a closing brace. -/
theorem rstop (s : ByteArray) (acc : List S31) (t : List UInt8) (hs : s.size ≤ 140737488351232) (ha : acc.length ≤ 4) (hg : Good acc) (hR : (125 :: t) <:+ B s) :
    Ev (fun k => tocsinref07_Parse.l0 k s acc ((s.size : Int) - (125 :: t).length)) (if mayB acc = true then (acc, str t, 0) else errR) := by
  obtain ⟨hle, hdr⟩ := suf_drop hR
  have hb := head_bt hR
  rw [List.length_cons] at hle hdr hb ⊢
  refine Ev.step (fun k => by rw [tocsinref07_Parse.l0, if_pos (by omega), if_pos (by omega), hb, if_pos (by rfl)]) ?_
  refine Ev.bind (refmay acc (by omega) hg) ?_
  rw [w64 (by omega) (by omega)]
  by_cases hm : mayB acc = true
  · rw [if_pos hm, if_pos hm]
    refine (ev_pos (by omega) (ev_pos (by omega) (ev_some ?_)))
    rw [extract_str]
    have h2 : s.data.toList.drop ((s.size : Int) - ((t.length + 1 : Nat) : Int) + 1).toNat = t := by
      have := (suf_drop ((List.suffix_cons 125 t).trans hR)).2
      rw [show (s.size : Int) - ((t.length + 1 : Nat) : Int) + 1 = (s.size : Int) - t.length by omega]
      exact this
    rw [h2]
  · rw [if_neg hm, if_neg hm]
    exact (Ev.now _)
/-- The loop at a label. -/
theorem rround (s : ByteArray) (acc : List S31) (c : UInt8) (t : List UInt8) (hs : s.size ≤ 140737488351232) (ha : acc.length ≤ 4) (hR : (c :: t) <:+ B s) (hc : c ≠ 125) {q : Res}
    (h : match labR (c :: t) with
      | none => q = errR
      | some (y, []) => q = errR
      | some (y, d :: m) => if acc.length + 1 ≤ 4 then (if d = 44 then (match m with | [] => q = errR | e :: m' => if e = 125 then q = errR else Ev (fun k => tocsinref07_Parse.l0 k s (acc ++ [y]) ((s.size : Int) - (e :: m').length)) q) else if d = 125 then Ev (fun k => tocsinref07_Parse.l0 k s (acc ++ [y]) ((s.size : Int) - (d :: m).length)) q else q = errR) else q = errR) :
    Ev (fun k => tocsinref07_Parse.l0 k s acc ((s.size : Int) - (c :: t).length)) q := by
  obtain ⟨hle, hdr⟩ := suf_drop hR
  have hb := head_bt hR
  have hlen : (c :: t).length = t.length + 1 := rfl
  refine Ev.step (fun k => by rw [tocsinref07_Parse.l0, if_pos (by omega), if_pos (by omega), hb, if_neg (toNat_ne (d := 125) (z := 125) hc rfl)]) ?_
  refine cut_ev s acc _ hs (c :: t) hR ?_
  have hcut := cutL_le (c :: t)
  generalize c :: t = R at h hle hdr hb hlen hcut hR
  have hdr2 : (B s).drop ((s.size : Int) - R.length + cutL R).toNat = R.drop (cutL R) := by
    rw [show ((s.size : Int) - R.length + cutL R).toNat = ((s.size : Int) - R.length).toNat + cutL R by omega, ← List.drop_drop, hdr]
  unfold labR at h
  cases hd : R.drop (cutL R) with
  | nil =>
    rw [hd] at h
    simp only at h
    subst h
    have : R.length ≤ cutL R := List.drop_eq_nil_iff.1 hd
    exact Ev.step (fun k => by rw [tocsinref07_Parse.j3, if_pos (by omega)]) (Ev.now _)
  | cons c' u =>
    have hlt : cutL R < R.length := by
      have : (R.drop (cutL R)).length = u.length + 1 := by rw [hd]; rfl
      rw [List.length_drop] at this
      omega
    have hul : u.length = R.length - cutL R - 1 := by
      have : (R.drop (cutL R)).length = u.length + 1 := by rw [hd]; rfl
      rw [List.length_drop] at this
      omega
    have hu : s.extract ((s.size : Int) - R.length + cutL R + 1).toNat s.size = str u := by
      rw [extract_str, show ((s.size : Int) - R.length + cutL R + 1).toNat = ((s.size : Int) - R.length + cutL R).toNat + 1 by omega, ← List.drop_drop]
      rw [show s.data.toList.drop ((s.size : Int) - R.length + cutL R).toNat = _ from hdr2, hd]
      rfl
    have hname : s.extract ((s.size : Int) - R.length).toNat ((s.size : Int) - R.length + cutL R).toNat = str (R.take (cutL R)) := by
      rw [Lib.extract_eq, show ((s.size : Int) - R.length + cutL R).toNat - ((s.size : Int) - R.length).toNat = cutL R by omega]
      show str (((B s).drop _).take _) = _
      rw [hdr]
    refine Ev.step (fun k => by rw [tocsinref07_Parse.j3, if_neg (by omega), w64 (x := (s.size : Int) - R.length + cutL R + 1) (by omega) (by omega), if_pos (by omega), if_pos (by omega), hu, hname]) ?_
    refine Ev.bind (refquoted (str u) (by rw [size_str]; omega)) ?_
    rw [B_str]
    refine ev_pos (by omega) (ev_pos (by omega) (ev_pos (by omega) (ev_pos (by omega) (ev_bsome ?_))))
    have hsuf : R.drop (cutL R) <:+ B s := (List.drop_suffix _ _).trans hR
    rw [hd] at hsuf
    rw [hd] at h
    simp only at h
    cases hq : quotedL u with
    | none =>
      rw [hq] at h
      simp only at h
      subst h
      exact ev_pos rfl (j4r_true _ _ _)
    | some p =>
      obtain ⟨v, r⟩ := p
      rw [hq] at h
      have hqs := quotedL_sound hq
      have hur : u.length = (quoteL v).length + r.length := by rw [hqs, List.length_append]
      have h2 : 2 ≤ (quoteL v).length := by unfold quoteL; simp
      have hi : (qres (str u) (some (v, r))).2 = (u.length : Int) - r.length := by unfold qres; rw [size_str]
      have hv : (qres (str u) (some (v, r))).1 = str v := rfl
      rw [hi, hv, w64 (by omega) (by omega), show (s.size : Int) - R.length + cutL R + 1 + ((u.length : Int) - r.length) = (s.size : Int) - r.length by omega]
      refine ev_neg (by omega) ?_
      have hrs : r <:+ B s := by
        refine List.IsSuffix.trans ?_ hsuf
        rw [hqs]
        exact ⟨c' :: quoteL v, by simp⟩
      cases r with
      | nil =>
        simp only at h
        subst h
        exact ev_pos (by simp) (j4r_true _ _ _)
      | cons d m =>
        simp only at h
        have hbd := head_bt hrs
        obtain ⟨hle3, _⟩ := suf_drop hrs
        have hl3 : (d :: m).length = m.length + 1 := rfl
        refine ev_neg (by omega) (ev_pos (by omega) (ev_pos (by omega) ?_))
        rw [hbd]
        have hal : ((acc ++ [(⟨str (R.take (cutL R)), str v⟩ : S31)]).length : Int) = acc.length + 1 := by simp
        rw [hal]
        by_cases h4 : acc.length + 1 ≤ 4
        · rw [if_pos h4] at h
          rw [show decide ((acc.length : Int) + 1 > 4) = false by rw [decide_eq_false_iff_not]; omega]
          by_cases h44 : d = 44
          · subst h44
            rw [if_pos rfl] at h
            refine ev_pos rfl ?_
            refine Ev.step (fun k => by rw [tocsinref07_Parse.j4, if_neg (by simp), if_pos (by omega), if_pos (by omega), hbd, if_pos (by rfl), w64 (by omega) (by omega), show (s.size : Int) - ((44 :: m : List UInt8).length : Int) + 1 = (s.size : Int) - m.length by omega]) ?_
            cases m with
            | nil =>
              simp only at h
              subst h
              exact ev_pos (by simp) (Ev.now _)
            | cons e m =>
              simp only at h
              have hes : (e :: m) <:+ B s := (List.suffix_cons _ _).trans hrs
              have hbe := head_bt hes
              obtain ⟨hle4, _⟩ := suf_drop hes
              have hl4 : (e :: m).length = m.length + 1 := rfl
              refine ev_neg (by omega) (ev_pos (by omega) (ev_pos (by omega) ?_))
              rw [hbe]
              by_cases he : e = 125
              · rw [if_pos he] at h
                subst h
                exact ev_pos (by rw [he]; rfl) (Ev.now _)
              · rw [if_neg he] at h
                exact ev_neg (toNat_ne (d := 125) he rfl) h
          · rw [if_neg h44] at h
            refine ev_neg (toNat_ne (d := 44) h44 rfl) ?_
            by_cases h125 : d = 125
            · subst h125
              rw [if_pos rfl] at h
              refine ev_pos rfl ?_
              exact Ev.step (fun k => by rw [tocsinref07_Parse.j4, if_neg (by simp), if_pos (by omega), if_pos (by omega), hbd, if_neg (by decide)]) h
            · rw [if_neg h125] at h
              subst h
              exact ev_neg (toNat_ne (d := 125) h125 rfl) (j4r_true _ _ _)
        · rw [if_neg h4] at h
          subst h
          rw [show decide ((acc.length : Int) + 1 > 4) = true by rw [decide_eq_true_eq]; omega]
          by_cases h44 : (d.toNat : Int) = 44
          · exact ev_pos h44 (j4r_true _ _ _)
          · refine ev_neg h44 ?_
            by_cases h125 : (d.toNat : Int) = 125
            · exact ev_pos h125 (j4r_true _ _ _)
            · exact ev_neg h125 (j4r_true _ _ _)
theorem good_snoc {acc : List S31} {y : S31} {r : List UInt8} {s : ByteArray} (hs : s.size ≤ 140737488351232) (hg : Good acc) (h : (item y ++ r).length ≤ s.size) : Good (acc ++ [y]) := by
  intro z hz
  rcases List.mem_append.1 hz with hz | hz
  · exact hg z hz
  · rw [List.mem_singleton] at hz
    subst hz
    have h2 : (B z.f1).length ≤ (quoteL (B z.f1)).length := by
      unfold quoteL
      have : ∀ u : List UInt8, u.length ≤ (u.flatMap esc).length := by
        intro u
        induction u with
        | nil => simp
        | cons c u ih =>
          rw [List.flatMap_cons, List.length_append, List.length_cons]
          have : 1 ≤ (esc c).length := by unfold esc; split <;> simp
          omega
      have := this (B z.f1)
      simp only [List.length_cons, List.length_append]
      omega
    unfold item at h
    rw [List.length_append, List.length_append, List.length_cons, data_length] at h
    rw [data_length] at h2
    omega
theorem item_pos (y : S31) : 1 ≤ (item y).length := by unfold item; simp; omega
theorem rloop_sound (s : ByteArray) (hs : s.size ≤ 140737488351232) (n : Nat) : ∀ (acc : List S31) (R : List UInt8), R.length ≤ n → R ≠ [] → R <:+ B s → acc.length ≤ 4 → Good acc →
    ∃ q, Ev (fun k => tocsinref07_Parse.l0 k s acc ((s.size : Int) - R.length)) q ∧ (q = errR ∨ ∃ l m, mayB (acc ++ l) = true ∧ R = joinC l ++ 125 :: m ∧ q = (acc ++ l, str m, 0)) := by
  induction n with
  | zero =>
    intro acc R hn hne
    exact absurd (List.length_eq_zero_iff.1 (by omega)) hne
  | succ n ih =>
    intro acc R hn hne hR ha hg
    cases R with
    | nil => exact absurd rfl hne
    | cons c t =>
      by_cases hc : c = 125
      · subst hc
        refine ⟨_, rstop s acc t hs ha hg hR, ?_⟩
        by_cases hm : mayB acc = true
        · rw [if_pos hm]
          exact .inr ⟨[], t, by rw [List.append_nil]; exact hm, rfl, by rw [List.append_nil]⟩
        · rw [if_neg hm]
          exact .inl rfl
      · cases hl : labR (c :: t) with
        | none => exact ⟨errR, rround s acc c t hs ha hR hc (by rw [hl]), .inl rfl⟩
        | some p =>
          obtain ⟨y, r⟩ := p
          have hL := labR_sound hl
          have hRl := hR.length_le
          rw [data_length] at hRl
          have hgy : Good (acc ++ [y]) := good_snoc (r := r) hs hg (by rw [← hL]; exact hRl)
          have hip := item_pos y
          have hLl : (c :: t).length = (item y).length + r.length := by rw [hL, List.length_append]
          cases r with
          | nil => exact ⟨errR, rround s acc c t hs ha hR hc (by rw [hl]), .inl rfl⟩
          | cons d m =>
            by_cases h4 : acc.length + 1 ≤ 4
            · have hal : (acc ++ [y]).length ≤ 4 := by simpa using h4
              have hds : (d :: m) <:+ B s := List.IsSuffix.trans ⟨item y, hL.symm⟩ hR
              by_cases h44 : d = 44
              · subst h44
                cases m with
                | nil => exact ⟨errR, rround s acc c t hs ha hR hc (by rw [hl]; simp only [if_pos h4, if_true]), .inl rfl⟩
                | cons e m =>
                  by_cases he : e = 125
                  · exact ⟨errR, rround s acc c t hs ha hR hc (by rw [hl]; simp only [if_pos h4, if_true, if_pos he]), .inl rfl⟩
                  · obtain ⟨q, hq, hor⟩ := ih (acc ++ [y]) (e :: m) (by simp only [List.length_cons] at hLl hn ⊢; omega) (by simp) ((List.suffix_cons _ _).trans hds) hal hgy
                    refine ⟨q, rround s acc c t hs ha hR hc (by rw [hl]; simp only [if_pos h4, if_true, if_neg he]; exact hq), ?_⟩
                    rcases hor with rfl | ⟨l, m', hml, hB, rfl⟩
                    · exact .inl rfl
                    · refine .inr ⟨y :: l, m', by simpa using hml, ?_, by simp⟩
                      cases l with
                      | nil =>
                        exact absurd (List.cons.inj hB).1 he
                      | cons z l => rw [hL, hB, joinC_two, List.append_assoc, List.cons_append]
              · by_cases h125 : d = 125
                · subst h125
                  refine ⟨_, rround s acc c t hs ha hR hc (by rw [hl]; simp only [if_pos h4, if_neg h44, if_true]; exact rstop s _ m hs hal hgy hds), ?_⟩
                  by_cases hm : mayB (acc ++ [y]) = true
                  · rw [if_pos hm]
                    exact .inr ⟨[y], m, hm, by rw [joinC_one, hL], rfl⟩
                  · rw [if_neg hm]
                    exact .inl rfl
                · exact ⟨errR, rround s acc c t hs ha hR hc (by rw [hl]; simp only [if_pos h4, if_neg h44, if_neg h125]), .inl rfl⟩
            · exact ⟨errR, rround s acc c t hs ha hR hc (by rw [hl]; simp only [if_neg h4]), .inl rfl⟩
theorem rloop_back (s : ByteArray) (hs : s.size ≤ 140737488351232) : ∀ (l : List S31) (acc : List S31) (m : List UInt8), (joinC l ++ 125 :: m) <:+ B s → acc.length ≤ 4 → Good acc → mayB (acc ++ l) = true →
    Ev (fun k => tocsinref07_Parse.l0 k s acc ((s.size : Int) - (joinC l ++ 125 :: m).length)) (acc ++ l, str m, 0)
  | [], acc, m, hR, ha, hg, hm => by
    rw [List.append_nil] at hm ⊢
    have := rstop s acc m hs ha hg hR
    rw [if_pos hm] at this
    exact this
  | x :: l, acc, m, hR, ha, hg, hm => by
    have hx := ((may_small hm).2 x (by simp)).1
    have hlen := (may_small hm).1
    rw [List.length_append, List.length_cons] at hlen
    have h41 : acc.length + 1 ≤ 4 := by omega
    have h42 : (acc ++ [x]).length ≤ 4 := by rw [List.length_append, List.length_singleton]; exact h41
    have hm' : mayB (acc ++ [x]) = true := may_prefix (m := l) (by simpa using hm)
    obtain ⟨u, hu⟩ : ∃ u, joinC (x :: l) ++ 125 :: m = item x ++ u := by
      cases l with
      | nil => exact ⟨_, by rw [joinC_one]⟩
      | cons y l => exact ⟨_, by rw [joinC_two, List.append_assoc]⟩
    have hRl := hR.length_le
    rw [data_length] at hRl
    have hgx : Good (acc ++ [x]) := good_snoc (r := u) hs hg (by rw [← hu]; exact hRl)
    obtain ⟨c, t, hct⟩ : ∃ c t, joinC (x :: l) ++ 125 :: m = c :: t := by
      cases h : joinC (x :: l) ++ 125 :: m with
      | nil => simp at h
      | cons c t => exact ⟨c, t, rfl⟩
    have hc := joinC_head x l hx _ c t hct
    cases l with
    | nil =>
      rw [joinC_one] at hct hR ⊢
      have hlab := labR_app hx (125 :: m)
      have hR2 : (125 :: m) <:+ B s := List.IsSuffix.trans ⟨item x, rfl⟩ hR
      have hst := rstop s (acc ++ [x]) m hs h42 hgx hR2
      rw [if_pos hm'] at hst
      rw [hct] at hR hlab ⊢
      refine rround s acc c t hs ha hR hc ?_
      rw [hlab]
      simp only [if_pos h41, show ¬ ((125 : UInt8) = 44) by decide, if_false, if_true]
      exact hst
    | cons y l =>
      have hback := rloop_back s hs (y :: l) (acc ++ [x]) m
      rw [joinC_two, List.append_assoc, List.cons_append] at hct hR ⊢
      have hlab := labR_app hx (44 :: (joinC (y :: l) ++ 125 :: m))
      have hR2 : (44 :: (joinC (y :: l) ++ 125 :: m)) <:+ B s := List.IsSuffix.trans ⟨item x, rfl⟩ hR
      have hb := hback ((List.suffix_cons _ _).trans hR2) h42 hgx (by simpa using hm)
      have hy := ((may_small hm).2 y (by simp)).1
      obtain ⟨e, m', hem⟩ : ∃ e m', joinC (y :: l) ++ 125 :: m = e :: m' := by
        cases h : joinC (y :: l) ++ 125 :: m with
        | nil => simp at h
        | cons c t => exact ⟨c, t, rfl⟩
      have he := joinC_head y l hy _ e m' hem
      rw [hem] at hlab hb
      rw [hct] at hR ⊢
      rw [hem] at hct
      rw [hct] at hlab
      refine rround s acc c t hs ha hR hc ?_
      rw [hlab]
      simp only [if_pos h41, if_true, if_neg he]
      simpa using hb
theorem good_nil : Good [] := fun _ h => by simp at h
theorem ref_start (s : ByteArray) {q : Res} (h : match B s with
      | [] => q = errR
      | c :: t => if c = 123 ∧ t ≠ [] then Ev (fun k => tocsinref07_Parse.l0 k s [] ((s.size : Int) - t.length)) q else q = errR) : Ev (fun k => tocsinref07_Parse.f k s) q := by
  have herr : Ev (fun k => tocsinref07_Parse.j0 k s [] true) errR := Ev.step (fun k => by rw [tocsinref07_Parse.j0, if_pos rfl]) (Ev.now _)
  unfold tocsinref07_Parse.f
  cases hB : B s with
  | nil =>
    rw [hB] at h
    simp only at h
    subst h
    have : (B s).length = 0 := by rw [hB]; rfl
    rw [data_length] at this
    exact ev_pos (by omega) herr
  | cons c t =>
    rw [hB] at h
    simp only at h
    have hl : s.size = t.length + 1 := by
      have : (B s).length = t.length + 1 := by rw [hB]; rfl
      rw [data_length] at this
      exact this
    by_cases ht : t = []
    · rw [if_neg (fun e => e.2 ht)] at h
      subst h
      subst ht
      exact ev_pos (by rw [hl]; simp) herr
    · have : 1 ≤ t.length := by
        cases t with
        | nil => exact absurd rfl ht
        | cons => simp
      have hb : bt s 0 = (c.toNat : Int) := by
        have := head_bt (s := s) (c := c) (R := t) (by rw [hB]; exact List.suffix_refl _)
        rw [List.length_cons, show (s.size : Int) - ((t.length + 1 : Nat) : Int) = 0 by omega] at this
        exact this
      refine ev_neg (by omega) (ev_pos (by omega) ?_)
      rw [hb]
      by_cases hc : c = 123
      · rw [if_pos ⟨hc, ht⟩] at h
        refine Ev.step (fun k => by rw [tocsinref07_Parse.j0, if_neg (by rw [hc]; decide)]) ?_
        rw [show (s.size : Int) - t.length = 1 by omega] at h
        exact h
      · rw [if_neg (fun e => hc e.1)] at h
        subst h
        rw [show ((c.toNat : Int) != 123) = true by rw [bne_iff_ne]; exact toNat_ne (d := 123) hc rfl]
        exact herr
theorem ref_sound (s : ByteArray) (hs : s.size ≤ 140737488351232) : ∃ q, Ev (fun k => tocsinref07_Parse.f k s) q ∧ (q = errR ∨ ∃ l m, mayB l = true ∧ B s = printL l ++ m ∧ q = (l, str m, 0)) := by
  cases hB : B s with
  | nil => exact ⟨errR, ref_start s (by rw [hB]), .inl rfl⟩
  | cons c t =>
    by_cases hc : c = 123 ∧ t ≠ []
    · obtain ⟨q, hq, hor⟩ := rloop_sound s hs t.length [] t (Nat.le_refl _) hc.2 (by rw [hB]; exact List.suffix_cons _ _) (by simp) good_nil
      refine ⟨q, ref_start s (by rw [hB]; simp only [if_pos hc]; exact hq), ?_⟩
      rcases hor with rfl | ⟨l, m, hm, hBt, rfl⟩
      · exact .inl rfl
      · refine .inr ⟨l, m, by simpa using hm, ?_, by simp⟩
        rw [hc.1, hBt]
        unfold printL
        simp
    · exact ⟨errR, ref_start s (by rw [hB]; simp only [if_neg hc]), .inl rfl⟩
theorem ref_back (s : ByteArray) (hs : s.size ≤ 140737488351232) (l : List S31) (m : List UInt8) (hm : mayB l = true) (hB : B s = printL l ++ m) : Ev (fun k => tocsinref07_Parse.f k s) (l, str m, 0) := by
  refine ref_start s ?_
  have hB2 : B s = 123 :: (joinC l ++ 125 :: m) := by rw [hB]; unfold printL; simp
  rw [hB2]
  simp only
  rw [if_pos ⟨trivial, by simp⟩]
  have := rloop_back s hs l [] m (by rw [hB2]; exact List.suffix_cons _ _) (by simp) good_nil (by simpa using hm)
  simpa using this
/-- Both readers tell one thing. -/
theorem parse_same (s : ByteArray) (hs : s.size ≤ 140737488351232) : ∃ q : Res, Ev (fun k => tocsinref07_Parse.f k s) q ∧ Ev (fun k => labels_Parse.f k s) q ∧ q.1.length ≤ 4 := by
  obtain ⟨q, hq, hor⟩ := ref_sound s hs
  rcases hor with rfl | ⟨l, m, hm, hB, rfl⟩
  · obtain ⟨p, hp, hop⟩ := parse_sound s hs
    rcases hop with rfl | ⟨l, m, hm, hB, rfl⟩
    · exact ⟨_, hq, hp, by simp⟩
    · have := ev_unique hq (ref_back s hs l m hm hB)
      rw [this] at hq
      exact ⟨_, hq, hp, (may_small hm).1⟩
  · exact ⟨_, hq, parse_back s hs l m hm hB, (may_small hm).1⟩
end Go.Proofs.Ytiicfejaoilfcaa.Pure
