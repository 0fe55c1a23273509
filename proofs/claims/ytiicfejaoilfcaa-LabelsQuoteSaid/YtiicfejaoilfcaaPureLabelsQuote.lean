/- The pure statement of LabelsQuote: a value in quotes, as the one label of a text, is read as that value, if it may be; and is refused, if it may not. -/
import Derived.Test.YtiicfejaoilfcaaQ29
import Derived.Test.YtiicfejaoilfcaaPrintP
import Derived.Test.YtiicfejaoilfcaaAwakeP
namespace Go.Proofs.Ytiicfejaoilfcaa.Pure
open Go.RowKit Go.Proofs.YtiicfejaoilfcaaW.PrintWords Go.Proofs.YtiicfejaoilfcaaW.PrintLast Go.Proofs.Ytiicfejaoilfcaa.Q
set_option linter.unusedVariables false
set_option linter.unusedSimpArgs false

theorem one_label {x : S31} {l : List S31} {m r : List UInt8} (hx : mayName x.f0 = true) (hl : mayB l = true) (h : 123 :: (item x ++ r) = printL l ++ m) : ∃ l', l = x :: l' := by
  unfold printL at h
  rw [List.cons_append] at h
  have h := (List.cons.inj h).2
  cases l with
  | nil =>
    exact absurd rfl (joinC_head x [] hx r 125 m (by rw [joinC_one, h]; rfl))
  | cons y l =>
    have hy := (may_small hl).2 y (by simp)
    have h1 := labL_app hx r
    have h2 := labL_app (x := y) hy.1 ((l.map fun y => 44 :: item y).flatten ++ [125] ++ m)
    rw [joinC_flat, List.append_assoc, List.append_assoc] at h
    rw [h, ← List.append_assoc (List.flatten _)] at h1
    rw [h1] at h2
    simp only [Option.some.injEq, Prod.mk.injEq] at h2
    exact ⟨l, by rw [h2.1]⟩
theorem LabelsQuote : tocsinlaw07_LabelsQuote.Pure := by
  intro n v hn hv
  refine Ev.rounds ?_
  unfold tocsinlaw07_LabelsQuote.f
  refine Ev.bind awake (ev_pos rfl ?_)
  have hj : Ev (fun k => tocsinlaw07_LabelsQuote.j0 k n v true) true := Ev.step (fun k => by rw [tocsinlaw07_LabelsQuote.j0, if_pos rfl]) (Ev.now _)
  by_cases h1 : (v.size : Int) > 1000
  · exact ev_pos h1 hj
  · refine ev_neg h1 ?_
    unfold labels_MayName.f
    refine ev_bsome ?_
    cases hm : mayName n with
    | false => exact hj
    | true =>
      have hn16 : n.size ≤ 16 := by
        have := hm
        unfold mayName at this
        simp only [Bool.and_eq_true, decide_eq_true_eq] at this
        exact this.2.1
      have hq : (quoteL v.data.toList).length ≤ _ := quoteL_len (B v)
      rw [data_length] at hq
      have s1 : (⟨#[123]⟩ : ByteArray).size = 1 := rfl
      have s2 : (⟨#[61]⟩ : ByteArray).size = 1 := rfl
      have s3 : (⟨(quoteL v.data.toList).toArray⟩ : ByteArray).size = (quoteL v.data.toList).length := size_str _
      refine Ev.step (fun k => by rw [Bool.not_true, tocsinlaw07_LabelsQuote.j0, if_neg (by simp), if_pos (by omega), if_pos (by rw [size_app]; omega), labels_Quote.f, if_pos (by omega)]) ?_
      refine ev_bsome (ev_pos (by rw [size_app, size_app]; omega) (ev_pos (by rw [size_app, size_app, size_app]; omega) ?_))
      have hB : B (((((⟨#[123]⟩ : ByteArray) ++ n) ++ (⟨#[61]⟩ : ByteArray)) ++ (⟨(quoteL v.data.toList).toArray⟩ : ByteArray)) ++ (⟨#[125]⟩ : ByteArray)) = 123 :: (item ⟨n, v⟩ ++ [125]) := by
        rw [B_app, B_app, B_app, B_app]
        unfold item
        show [123] ++ B n ++ [61] ++ quoteL (B v) ++ [125] = _
        simp
      have hsz : (((((⟨#[123]⟩ : ByteArray) ++ n) ++ (⟨#[61]⟩ : ByteArray)) ++ (⟨(quoteL v.data.toList).toArray⟩ : ByteArray)) ++ (⟨#[125]⟩ : ByteArray)).size ≤ 140737488351232 := by
        rw [size_app, size_app, size_app, size_app]
        have s4 : (⟨#[125]⟩ : ByteArray).size = 1 := rfl
        omega
      generalize (((((⟨#[123]⟩ : ByteArray) ++ n) ++ (⟨#[61]⟩ : ByteArray)) ++ (⟨(quoteL v.data.toList).toArray⟩ : ByteArray)) ++ (⟨#[125]⟩ : ByteArray)) = s at hB hsz
      unfold labels_MayValue.f
      cases hmv : mayValue v with
      | true =>
        have hmay : mayB [(⟨n, v⟩ : S31)] = true := by
          unfold mayB
          rw [okL.eq_def]
          simp only [Bool.and_eq_true]
          exact ⟨⟨hm, hmv, trivial, rfl⟩, rfl⟩
        refine Ev.bind (parse_back s hsz [(⟨n, v⟩ : S31)] [] hmay (by rw [hB]; unfold printL; rw [joinC_one]; simp)) ?_
        refine ev_bsome (ev_pos rfl (ev_pos rfl (ev_pos rfl (ev_pos (by simp) (ev_pos ?_ (ev_some ?_))))))
        · simp [rd_T31]
        · rw [ByteArray.toList_eq]
          rfl
      | false =>
        obtain ⟨q, hq, hor⟩ := parse_sound s hsz
        refine Ev.bind hq ?_
        refine ev_bsome (ev_neg (by simp) ?_)
        rcases hor with rfl | ⟨l, m, hl, hBl, rfl⟩
        · exact ev_pos rfl (ev_some rfl)
        · exfalso
          rw [hB] at hBl
          obtain ⟨l', rfl⟩ := one_label (x := ⟨n, v⟩) hm hl hBl
          have := ((may_small hl).2 ⟨n, v⟩ (by simp)).2
          simp only at this
          rw [hmv] at this
          cases this
end Go.Proofs.Ytiicfejaoilfcaa.Pure
