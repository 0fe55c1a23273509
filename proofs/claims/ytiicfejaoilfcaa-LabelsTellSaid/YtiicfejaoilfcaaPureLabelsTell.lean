/- The pure statement of LabelsTell: what the program tells of a row of labels is what the book's plain forms tell. -/
import Derived.Test.YtiicfejaoilfcaaQ24
import Derived.Test.YtiicfejaoilfcaaRefP
import Derived.Test.YtiicfejaoilfcaaPrintP
namespace Go.Proofs.Ytiicfejaoilfcaa.Pure
open Go.RowKit Go.Proofs.YtiicfejaoilfcaaW.PrintWords Go.Proofs.YtiicfejaoilfcaaW.PrintLast Go.Proofs.Ytiicfejaoilfcaa.Q
set_option linter.unusedVariables false
set_option linter.unusedSimpArgs false

def valueL (n : ByteArray) : List S31 → ByteArray
  | [] => ⟨#[]⟩
  | x :: l => if x.f0.toList = n.toList then x.f1 else valueL n l
theorem value_ev (l : List S31) (n : ByteArray) (hl : l.length ≤ 9223372036854775807) : ∀ (d : Nat) (x : Int), 0 ≤ x → x ≤ l.length → (l.length : Int) - x = d → Ev (fun k => labels_Value.l0 k n l (l.length : Int) x) (valueL n (l.drop x.toNat)) := by
  intro d
  induction d with
  | zero =>
    intro x h0 h1 hd
    rw [List.drop_eq_nil_of_le (by omega), valueL]
    exact Ev.step (fun k => by rw [labels_Value.l0, if_neg (by omega)]) (Ev.now _)
  | succ d ih =>
    intro x h0 h1 hd
    have hx : x < l.length := by omega
    rw [rd_drop l x.toNat (by omega), Int.toNat_of_nonneg h0, valueL]
    by_cases hn : (rd_T31 l x).f0.toList = n.toList
    · rw [if_pos hn]
      exact Ev.step (fun k => by rw [labels_Value.l0, if_pos hx, if_pos h0, if_pos hx, if_pos hn]) (Ev.now _)
    · rw [if_neg hn]
      refine Ev.step (fun k => by rw [labels_Value.l0, if_pos hx, if_pos h0, if_pos hx, if_neg hn, w64 (by omega) (by omega)]) ?_
      have := ih (x + 1) (by omega) (by omega) (by omega)
      rwa [toNat_succ h0] at this
theorem value (l : List S31) (n : ByteArray) (hl : l.length ≤ 9223372036854775807) : Ev (fun k => labels_Value.f k l n) (valueL n l) := value_ev l n hl l.length 0 (by omega) (by omega) (by omega)
theorem refvalue_ev (l : List S31) (n : ByteArray) (hl : l.length ≤ 9223372036854775807) : ∀ (d : Nat) (x : Int), 0 ≤ x → x ≤ l.length → (l.length : Int) - x = d → Ev (fun k => tocsinref07_Value.l0 k l n x) (valueL n (l.drop x.toNat)) := by
  intro d
  induction d with
  | zero =>
    intro x h0 h1 hd
    rw [List.drop_eq_nil_of_le (by omega), valueL]
    exact Ev.step (fun k => by rw [tocsinref07_Value.l0, if_neg (by omega)]) (Ev.now _)
  | succ d ih =>
    intro x h0 h1 hd
    have hx : x < l.length := by omega
    rw [rd_drop l x.toNat (by omega), Int.toNat_of_nonneg h0, valueL]
    by_cases hn : (rd_T31 l x).f0.toList = n.toList
    · rw [if_pos hn]
      exact Ev.step (fun k => by rw [tocsinref07_Value.l0, if_pos hx, if_pos h0, if_pos hn]) (Ev.now _)
    · rw [if_neg hn]
      refine Ev.step (fun k => by rw [tocsinref07_Value.l0, if_pos hx, if_pos h0, if_neg hn, w64 (by omega) (by omega)]) ?_
      have := ih (x + 1) (by omega) (by omega) (by omega)
      rwa [toNat_succ h0] at this
theorem rq_ev (s : ByteArray) (hs : s.size ≤ 140737488351232) : ∀ (d : Nat) (x : Int) (acc : ByteArray), 0 ≤ x → x ≤ s.size → (s.size : Int) - x = d → (acc.size : Int) ≤ 2 * x + 1 →
    Ev (fun k => tocsinref07_Quote.l0 k s acc x) (str (B acc ++ ((B s).drop x.toNat).flatMap esc ++ [34])) := by
  intro d
  induction d with
  | zero =>
    intro x acc h0 h1 hd ha
    rw [drop_end s x (by omega)]
    refine Ev.step (fun k => by rw [tocsinref07_Quote.l0, if_neg (by omega), if_pos (by omega)]) (ev_some ?_)
    apply B_inj
    rw [B_app, B_str]
    simp
  | succ d ih =>
    intro x acc h0 h1 hd ha
    have hx : x < s.size := by omega
    obtain ⟨c, hc, hdr⟩ := drop_bt s x h0 hx
    have hone := ext_one (c := c) h0 hdr
    have hsz : (str [c]).size = 1 := rfl
    have h92z : (⟨#[92]⟩ : ByteArray).size = 1 := rfl
    have hrec1 := ih (x + 1) ((acc ++ ⟨#[92]⟩) ++ str [c]) (by omega) (by omega) (by omega) (by rw [size_app, size_app]; omega)
    have hrec2 := ih (x + 1) (acc ++ str [c]) (by omega) (by omega) (by omega) (by rw [size_app]; omega)
    refine Ev.step (fun k => by rw [tocsinref07_Quote.l0, if_pos hx, if_pos h0, hc, w64 (x := x + 1) (by omega) (by omega), hone]) ?_
    rw [show (B s).drop x.toNat = _ from hdr, List.flatMap_cons]
    have hesc : ∀ (_ : c = 34 ∨ c = 92), Ev (fun k => tocsinref07_Quote.l0 k s ((acc ++ ⟨#[92]⟩) ++ str [c]) (x + 1)) (str (B acc ++ (esc c ++ ((B s).drop (x + 1).toNat).flatMap esc) ++ [34])) := by
      intro h
      rw [show esc c = [92, c] by unfold esc; rw [if_pos h]]
      rw [B_app, B_app, B_str, show B (⟨#[92]⟩ : ByteArray) = [92] from rfl] at hrec1
      simpa using hrec1
    by_cases h34 : c = 34
    · refine ev_pos (by rw [h34]; rfl) (ev_pos (by omega) (ev_pos (by omega) (ev_pos (by omega) (ev_pos (by rw [size_app]; omega) ?_))))
      exact hesc (.inl h34)
    · refine ev_neg (toNat_ne (d := 34) (z := 34) h34 rfl) ?_
      by_cases h92 : c = 92
      · refine ev_pos (by rw [h92]; rfl) (ev_pos (by omega) (ev_pos (by omega) (ev_pos (by omega) (ev_pos (by rw [size_app]; omega) ?_))))
        exact hesc (.inr h92)
      · refine ev_neg (toNat_ne (d := 92) (z := 92) h92 rfl) (ev_pos (by omega) (ev_pos (by omega) (ev_pos (by omega) ?_)))
        rw [show esc c = [c] by unfold esc; rw [if_neg (fun e => e.elim h34 h92)]]
        rw [B_app, B_str] at hrec2
        simpa using hrec2
theorem refquote (s : ByteArray) (hs : s.size ≤ 140737488351232) : Ev (fun k => tocsinref07_Quote.f k s) (str (quoteL (B s))) := by
  unfold tocsinref07_Quote.f
  have := rq_ev s hs s.size 0 ⟨#[34]⟩ (by omega) (by omega) (by omega) (by have : (⟨#[34]⟩ : ByteArray).size = 1 := rfl; omega)
  rw [show B (⟨#[34]⟩ : ByteArray) = [34] from rfl] at this
  unfold quoteL
  simpa using this
def tailC (l : List S31) : List UInt8 := (l.map fun y => 44 :: item y).flatten
theorem rp_ev (l : List S31) (hl : Small l) : ∀ (d : Nat) (x : Int) (acc : ByteArray), 0 < x → x ≤ l.length → (l.length : Int) - x = d → (acc.size : Int) ≤ 1 + 15004 * x →
    Ev (fun k => tocsinref07_Print.l0 k l acc x) (str (B acc ++ tailC (l.drop x.toNat) ++ [125])) := by
  intro d
  have h100 := hl.1
  induction d with
  | zero =>
    intro x acc h0 h1 hd ha
    refine Ev.step (fun k => by rw [tocsinref07_Print.l0, if_neg (by omega), if_pos (by omega)]) (ev_some ?_)
    rw [List.drop_eq_nil_of_le (by omega)]
    apply B_inj
    rw [B_app, B_str]
    simp [tailC]
  | succ d ih =>
    intro x acc h0 h1 hd ha
    have hx : x < l.length := by omega
    have hs := hl.2 _ (rd_mem (by omega) hx)
    have s1 : (⟨#[44]⟩ : ByteArray).size = 1 := rfl
    have s2 : (⟨#[61]⟩ : ByteArray).size = 1 := rfl
    have hq : (quoteL (B (rd_T31 l x).f1)).length ≤ 2 * (B (rd_T31 l x).f1).length + 2 := quoteL_len _
    rw [data_length] at hq
    have s3 := size_str (quoteL (B (rd_T31 l x).f1))
    refine Ev.step (fun k => by rw [tocsinref07_Print.l0, if_pos hx, if_pos (by omega), if_pos (by omega), if_pos (by omega), if_pos (by rw [size_app]; omega), if_pos (by rw [size_app, size_app]; omega)]) ?_
    refine Ev.bind (refquote _ (by omega)) (ev_pos (by rw [size_app, size_app, size_app]; omega) ?_)
    rw [w64 (by omega) (by omega)]
    have := ih (x + 1) ((((acc ++ (⟨#[44]⟩ : ByteArray)) ++ ((rd_T31 l x).f0)) ++ (⟨#[61]⟩ : ByteArray)) ++ str (quoteL (B (rd_T31 l x).f1))) (by omega) (by omega) (by omega) (by rw [size_app, size_app, size_app, size_app]; omega)
    have he : B ((((acc ++ (⟨#[44]⟩ : ByteArray)) ++ ((rd_T31 l x).f0)) ++ (⟨#[61]⟩ : ByteArray)) ++ str (quoteL (B (rd_T31 l x).f1))) = B acc ++ 44 :: item (rd_T31 l x) := by
      rw [B_app, B_app, B_app, B_app, B_str, show B (⟨#[44]⟩ : ByteArray) = [44] from rfl, show B (⟨#[61]⟩ : ByteArray) = [61] from rfl]
      unfold item
      simp
    rw [he] at this
    have hd2 : l.drop x.toNat = rd_T31 l x :: l.drop (x + 1).toNat := by
      rw [rd_drop l x.toNat (by omega), Int.toNat_of_nonneg (by omega), toNat_succ (by omega)]
    rw [hd2]
    unfold tailC at this ⊢
    simpa using this
theorem refprint (l : List S31) (hl : Small l) : Ev (fun k => tocsinref07_Print.f k l) (str (printL l)) := by
  unfold tocsinref07_Print.f
  have h100 := hl.1
  have s0 : (⟨#[123]⟩ : ByteArray).size = 1 := rfl
  cases l with
  | nil =>
    refine Ev.step (fun k => by rw [tocsinref07_Print.l0, if_neg (by simp), if_pos (by omega)]) (ev_some ?_)
    apply B_inj
    rw [B_app, B_str]
    rfl
  | cons y l =>
    have hs := hl.2 y (by simp)
    have hy : rd_T31 (y :: l) 0 = y := rfl
    have s2 : (⟨#[61]⟩ : ByteArray).size = 1 := rfl
    have hq : (quoteL (B y.f1)).length ≤ 2 * (B y.f1).length + 2 := quoteL_len _
    rw [data_length] at hq
    have s3 := size_str (quoteL (B y.f1))
    have hlen : (y :: l).length = l.length + 1 := rfl
    refine Ev.step (fun k => by rw [tocsinref07_Print.l0, if_pos (by omega), if_neg (by omega), if_pos (by omega), hy, if_pos (by omega), if_pos (by rw [size_app]; omega)]) ?_
    refine Ev.bind (refquote _ (by omega)) (ev_pos (by rw [size_app, size_app]; omega) ?_)
    rw [w64 (by omega) (by omega)]
    have := rp_ev (y :: l) hl l.length (0 + 1) ((((⟨#[123]⟩ : ByteArray) ++ y.f0) ++ (⟨#[61]⟩ : ByteArray)) ++ str (quoteL (B y.f1))) (by omega) (by omega) (by omega) (by rw [size_app, size_app, size_app]; omega)
    have he : B ((((⟨#[123]⟩ : ByteArray) ++ y.f0) ++ (⟨#[61]⟩ : ByteArray)) ++ str (quoteL (B y.f1))) = 123 :: item y := by
      rw [B_app, B_app, B_app, B_str, show B (⟨#[123]⟩ : ByteArray) = [123] from rfl, show B (⟨#[61]⟩ : ByteArray) = [61] from rfl]
      unfold item
      simp
    rw [he] at this
    unfold printL
    rw [joinC_flat]
    unfold tailC at this
    simpa using this
theorem tell_j1 (l : List S31) (n v : ByteArray) (hl : l.length ≤ 9223372036854775807) (hn : n.size ≤ 140737488351232) (hv : v.size ≤ 5000) : Ev (fun k => tocsinlaw07_LabelsTell.j1 k l n v l false) true := by
  refine Ev.step (fun k => by rw [tocsinlaw07_LabelsTell.j1, if_neg (by simp), labels_MayName.f, labels_MayValue.f, labels_Quote.f, if_pos (by omega)]) ?_
  refine ev_bsome (Ev.bind (mayName_ref n (by omega)) (ev_pos (by simp) (ev_bsome (Ev.bind (mayValue_ref v (by omega)) (ev_pos (by simp) (ev_bsome (Ev.bind (refquote v (by omega)) (ev_pos rfl ?_))))))))
  obtain ⟨e, he, hi⟩ := same l l hl
  rw [hi.2 rfl] at he
  exact Ev.bind he (Ev.now _)
theorem LabelsTell : tocsinlaw07_LabelsTell.Pure := by
  intro l n v hl _ hg hn hv
  refine Ev.rounds ?_
  unfold tocsinlaw07_LabelsTell.f
  have hj : Ev (fun k => tocsinlaw07_LabelsTell.j0 k l n v true) true := Ev.step (fun k => by rw [tocsinlaw07_LabelsTell.j0, if_pos rfl]) (Ev.now _)
  obtain ⟨r, hr, hsm⟩ := great l hg
  refine Ev.bind hr ?_
  cases r with
  | true => exact ev_pos rfl hj
  | false =>
    have hsm := hsm rfl
    have h100 := hsm.1
    refine ev_neg (by simp) ?_
    by_cases h1 : (n.size : Int) > 5000
    · exact ev_pos h1 hj
    · refine ev_neg h1 ?_
      by_cases h2 : (v.size : Int) > 5000
      · rw [show decide ((v.size : Int) > 5000) = true by simpa using h2]
        exact hj
      · rw [show decide ((v.size : Int) > 5000) = false by simpa using h2]
        refine Ev.step (fun k => by rw [tocsinlaw07_LabelsTell.j0, if_neg (by simp), tocsinref07_Copy.f, if_pos (by simp; omega), List.nil_append]) ?_
        refine ev_bsome (Ev.bind (may l hl) (Ev.bind (refmay l hl hg) (ev_neg (by simp) (Ev.bind (print l hsm) (Ev.bind (refprint l hsm) (ev_pos rfl ?_))))))
        refine Ev.bind (value l n hl) (Ev.bind (refvalue_ev l n hl l.length 0 (by omega) (by omega) (by omega)) ?_)
        rw [show ((valueL n l).toList != (valueL n (l.drop (0 : Int).toNat)).toList) = false by simp]
        exact tell_j1 l n v hl hn (by omega)
end Go.Proofs.Ytiicfejaoilfcaa.Pure
