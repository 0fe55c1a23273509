/- Plain laws of labels' text, as the program writes it. -/
import Derived.Test.YtiicfejaoilfcaaQ20
import Derived.Test.YtiicfejaoilfcaaQ19
import Derived.Test.YtiicfejaoilfcaaParseP
namespace Go.Proofs.Ytiicfejaoilfcaa.Pure
open Go.RowKit Go.Proofs.YtiicfejaoilfcaaW.PrintWords Go.Proofs.YtiicfejaoilfcaaW.PrintLast Go.Proofs.Ytiicfejaoilfcaa.Q
set_option linter.unusedVariables false
set_option linter.unusedSimpArgs false

theorem B_app (a b : ByteArray) : B (a ++ b) = B a ++ B b := by
  unfold B
  rw [ByteArray.data_append, Array.toList_append]
theorem size_app (a b : ByteArray) : (a ++ b).size = a.size + b.size := ByteArray.size_append
def itemS (y : S31) : ByteArray := (y.f0 ++ (⟨#[61]⟩ : ByteArray)) ++ str (quoteL (B y.f1))
theorem B_itemS (y : S31) : B (itemS y) = item y := by
  unfold itemS item
  rw [B_app, B_app, B_str, List.append_assoc]
  rfl
theorem joinC_flat (x : S31) (l : List S31) : joinC (x :: l) = item x ++ (l.map fun y => 44 :: item y).flatten := by
  induction l generalizing x with
  | nil => rw [joinC_one]; simp
  | cons y l ih => rw [joinC_two, ih y]; simp
theorem joinL_items (l : List S31) : joinL (l.map itemS) ⟨#[44]⟩ = joinC l := by
  unfold joinL
  rw [List.map_map, show ((fun x : ByteArray => x.data.toList) ∘ itemS) = item from funext fun y => B_itemS y]
  cases l with
  | nil => rw [List.map_nil, Lib.join_nil]; rfl
  | cons x l =>
    rw [List.map_cons, Lib.join_cons, joinC_flat]
    unfold Lib.joinTail
    rw [List.map_map]
    rfl
theorem quoteL_len (u : List UInt8) : (quoteL u).length ≤ 2 * u.length + 2 := by
  unfold quoteL
  have := esc_len u
  simp only [List.length_cons, List.length_append, List.length_nil]
  omega
theorem item_len (y : S31) : (item y).length ≤ y.f0.size + 2 * y.f1.size + 3 := by
  unfold item
  have := quoteL_len (B y.f1)
  rw [data_length] at this
  rw [List.length_append, List.length_cons, data_length]
  omega
theorem joinC_len {l : List S31} (hs : ∀ y ∈ l, y.f0.size ≤ 5000 ∧ y.f1.size ≤ 5000) : (joinC l).length ≤ 15004 * l.length := by
  induction l with
  | nil => simp [joinC]
  | cons x l ih =>
    have h1 := item_len x
    have h2 := hs x (by simp)
    have h3 := ih (fun y hy => hs y (by simp [hy]))
    cases l with
    | nil => rw [joinC_one, List.length_singleton]; omega
    | cons y l =>
      rw [joinC_two, List.length_append, List.length_cons, List.length_cons]
      omega
theorem print_ev (l : List S31) (hl : Small l) : ∀ (d : Nat) (x : Int), 0 ≤ x → x ≤ l.length → (l.length : Int) - x = d →
    Ev (fun k => labels_Print.l0 k ((l.take x.toNat).map itemS) l (l.length : Int) x) (str (printL l)) := by
  intro d
  have h100 := hl.1
  induction d with
  | zero =>
    intro x h0 h1 hd
    refine Ev.step (fun k => by rw [labels_Print.l0, if_neg (by omega), List.take_of_length_le (by omega)]) ?_
    have hj := joinC_len hl.2
    unfold strings_Join.f
    rw [joinL_items, List.length_map, if_pos ⟨by omega, by omega⟩]
    refine ev_bsome ?_
    have hsz : (⟨(joinC l).toArray⟩ : ByteArray).size = (joinC l).length := size_str _
    refine ev_pos (by rw [hsz]; omega) (ev_pos (by rw [size_app, hsz]; have : (⟨#[123]⟩ : ByteArray).size = 1 := rfl; omega) (ev_some ?_))
    apply B_inj
    rw [B_app, B_app, B_str]
    unfold printL
    rfl
  | succ d ih =>
    intro x h0 h1 hd
    have hx : x < l.length := by omega
    have hs := hl.2 _ (rd_mem h0 hx)
    have hsz : (⟨#[61]⟩ : ByteArray).size = 1 := rfl
    have hq := quoteL_len (B (rd_T31 l x).f1)
    rw [data_length] at hq
    refine Ev.step (fun k => by rw [labels_Print.l0, if_pos hx, if_pos h0, if_pos hx, if_pos (by omega), labels_Quote.f, if_pos (by omega)]) ?_
    refine ev_bsome (ev_pos ?_ (ev_pos (by rw [List.length_map, List.length_take]; omega) ?_))
    · rw [size_app, hsz]
      show _ + (str (quoteL (B (rd_T31 l x).f1))).size ≤ _
      rw [size_str]
      omega
    · have hn := ih (x + 1) (by omega) (by omega) (by omega)
      have htk : (l.take (x + 1).toNat).map itemS = (l.take x.toNat).map itemS ++ [itemS (rd_T31 l x)] := by
        rw [toNat_succ h0, List.take_succ_eq_append_getElem (by omega), List.map_append]
        congr 1
        simp only [List.map_cons, List.map_nil]
        congr 1
        unfold rd_T31
        rw [List.getD_eq_getElem?_getD, List.getElem?_eq_getElem (by omega)]
        rfl
      rw [htk] at hn
      rw [w64 (by omega) (by omega)]
      exact hn
theorem print (l : List S31) (hl : Small l) : Ev (fun k => labels_Print.f k l) (str (printL l)) := by
  exact print_ev l hl l.length 0 (by omega) (by omega) (by omega)
theorem good_small {l : List S31} (h : mayB l = true) : Small l := by
  have hm := may_small h
  refine ⟨by omega, fun y hy => ?_⟩
  have h2 := hm.2 y hy
  unfold mayName mayValue at h2
  simp only [Bool.and_eq_true, decide_eq_true_eq] at h2
  omega
/-- One text, one row. -/
theorem printL_inj {a b : List S31} {m n : List UInt8} (ha : mayB a = true) (hb : mayB b = true) (h : printL a ++ m = printL b ++ n) (hl : (printL a ++ m).length ≤ 140737488351232) : a = b ∧ m = n := by
  have h1 := parse_back (str (printL a ++ m)) (by rw [size_str]; exact hl) a m ha rfl
  have h2 := parse_back (str (printL a ++ m)) (by rw [size_str]; exact hl) b n hb (by rw [B_str, h])
  have := ev_unique h1 h2
  simp only [Prod.mk.injEq, and_true] at this
  refine ⟨this.1, ?_⟩
  have h3 := congrArg B this.2
  rwa [B_str, B_str] at h3
theorem printL_len {l : List S31} (hl : Small l) : (printL l).length ≤ 1500410 := by
  unfold printL
  have := joinC_len hl.2
  have := hl.1
  simp only [List.length_cons, List.length_append, List.length_nil]
  omega
end Go.Proofs.Ytiicfejaoilfcaa.Pure
