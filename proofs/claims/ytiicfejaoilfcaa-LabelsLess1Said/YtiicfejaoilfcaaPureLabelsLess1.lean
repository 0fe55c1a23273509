/- The pure statement of LabelsLess1: a row without its last label is less than the row; so is one whose last value has one byte fewer. -/
import Derived.Test.YtiicfejaoilfcaaQ27
import Derived.Test.YtiicfejaoilfcaaMayP
import Derived.Test.YtiicfejaoilfcaaAwakeP
namespace Go.Proofs.Ytiicfejaoilfcaa.Pure
open Go.RowKit Go.Proofs.YtiicfejaoilfcaaW.PrintWords Go.Proofs.YtiicfejaoilfcaaW.PrintLast Go.Proofs.Ytiicfejaoilfcaa.Q
set_option linter.unusedVariables false
set_option linter.unusedSimpArgs false

theorem eqS_self (x : S31) : eqS x x = true := by unfold eqS; simp
theorem less_same (a : List S31) : ∀ (l m : List S31), lessL (a ++ l) (a ++ m) = lessL l m := by
  induction a with
  | nil => intro l m; rfl
  | cons x a ih => intro l m; rw [List.cons_append, List.cons_append, lessL, if_pos (eqS_self x)]; exact ih l m
theorem bl_cut : ∀ (l : List UInt8) (n : Nat), n < l.length → Op.bytesLess (l.take n) l = true ∧ Op.bytesLess l (l.take n) = false ∧ l.take n ≠ l
  | [], _, h => by simp at h
  | c :: l, 0, _ => by simp [Op.bytesLess]
  | c :: l, n + 1, h => by
    have ih := bl_cut l n (by simp at h; omega)
    rw [List.take_succ_cons]
    refine ⟨?_, ?_, ?_⟩
    · simp [Op.bytesLess, ih.1]
    · simp [Op.bytesLess, ih.2.1]
    · simpa using ih.2.2
theorem LabelsLess1 : tocsinlaw07_LabelsLess1.Pure := by
  intro l hl _ hg
  refine Ev.rounds ?_
  unfold tocsinlaw07_LabelsLess1.f
  refine Ev.bind awake (ev_pos rfl ?_)
  have hj : Ev (fun k => tocsinlaw07_LabelsLess1.j0 k l true) true := Ev.step (fun k => by rw [tocsinlaw07_LabelsLess1.j0, if_pos rfl]) (Ev.now _)
  obtain ⟨r, hr, hsm⟩ := great l hg
  refine Ev.bind hr ?_
  cases r with
  | true => exact ev_pos rfl hj
  | false =>
    have hsm := hsm rfl
    have h100 := hsm.1
    refine ev_neg (by simp) ?_
    by_cases h0 : l.length = 0
    · rw [show ((l.length : Int) == 0) = true by rw [h0]; rfl]
      exact hj
    · rw [show ((l.length : Int) == 0) = false by rw [beq_eq_false_iff_ne]; omega]
      obtain ⟨n, hn⟩ : ∃ n, l.length = n + 1 := ⟨l.length - 1, by omega⟩
      have hw : wrap64 ((l.length : Int) - 1) = (n : Int) := by rw [w64 (by omega) (by omega)]; omega
      refine Ev.step (fun k => by rw [tocsinlaw07_LabelsLess1.j0, if_neg (by simp), if_pos (by simp; omega), List.nil_append, hw]) ?_
      refine ev_bsome (ev_pos (by omega) (ev_pos (by omega) ?_))
      rw [Int.toNat_natCast]
      have hlast : l = l.take n ++ [rd_T31 l (n : Int)] := by
        have h1 : l.take (n + 1) = l := List.take_of_length_le (by omega)
        rw [List.take_succ_eq_append_getElem (by omega)] at h1
        have h2 : rd_T31 l (n : Int) = l[n]'(by omega) := by
          unfold rd_T31
          rw [List.getD_eq_getElem?_getD, Int.toNat_natCast, List.getElem?_eq_getElem (by omega)]
          rfl
        rw [h2]
        exact h1.symm
      have hA : lessL (l.take n) l = true := by
        have := less_same (l.take n) [] [rd_T31 l (n : Int)]
        rw [List.append_nil, ← hlast] at this
        rw [this, lessL]
      have hA' : lessL l (l.take n) = false := by
        have := less_same (l.take n) [rd_T31 l (n : Int)] []
        rw [List.append_nil, ← hlast] at this
        rw [this, lessL]
      unfold labels_Less.f
      refine ev_bsome (ev_pos hA (ev_bsome ?_))
      rw [hA']
      have hx := hg _ (rd_mem (l := l) (x := (n : Int)) (by omega) (by omega))
      unfold good31 at hx
      refine Ev.step (fun k => by rw [tocsinlaw07_LabelsLess1.j1, if_neg (by simp), if_pos (by omega), if_pos (by omega)]) ?_
      by_cases hz : (rd_T31 l (n : Int)).f1.size = 0
      · exact ev_pos (by omega) (Ev.now _)
      · refine ev_neg (by omega) ?_
        obtain ⟨m, hm⟩ : ∃ m, (rd_T31 l (n : Int)).f1.size = m + 1 := ⟨(rd_T31 l (n : Int)).f1.size - 1, by omega⟩
        rw [w64 (by omega) (by omega), show ((rd_T31 l (n : Int)).f1.size : Int) - 1 = (m : Int) by omega]
        refine ev_pos (by omega) (ev_pos (by omega) (ev_pos (by omega) (ev_bsome ?_)))
        rw [Int.toNat_natCast, Int.toNat_natCast]
        have hset : l.set n (⟨(rd_T31 l (n : Int)).f0, (rd_T31 l (n : Int)).f1.extract 0 m⟩ : S31) = l.take n ++ [(⟨(rd_T31 l (n : Int)).f0, (rd_T31 l (n : Int)).f1.extract 0 m⟩ : S31)] := by
          have hs : ∀ z : S31, l.set n z = l.take n ++ [z] := by
            intro z
            generalize rd_T31 l (n : Int) = w at hlast
            conv => lhs; rw [hlast]
            rw [List.set_append_right _ _ (by rw [List.length_take]; omega)]
            rw [List.length_take, Nat.min_eq_left (by omega), Nat.sub_self]
            rfl
          exact hs _
        have hc := bl_cut (rd_T31 l (n : Int)).f1.data.toList m (by rw [data_length]; omega)
        have hex : ((rd_T31 l (n : Int)).f1.extract 0 m).toList = (rd_T31 l (n : Int)).f1.data.toList.take m := by
          rw [Lib.extract_toList, List.drop_zero, Nat.sub_zero]
        have hne : ¬ eqS (⟨(rd_T31 l (n : Int)).f0, (rd_T31 l (n : Int)).f1.extract 0 m⟩ : S31) (rd_T31 l (n : Int)) = true := by
          unfold eqS
          rw [Bool.and_eq_true, beq_iff_eq, beq_iff_eq, hex, ByteArray.toList_eq (rd_T31 l (n : Int)).f1]
          exact fun h => hc.2.2 h.2
        have hne' : ¬ eqS (rd_T31 l (n : Int)) (⟨(rd_T31 l (n : Int)).f0, (rd_T31 l (n : Int)).f1.extract 0 m⟩ : S31) = true := by
          unfold eqS
          rw [Bool.and_eq_true, beq_iff_eq, beq_iff_eq, hex, ByteArray.toList_eq (rd_T31 l (n : Int)).f1]
          exact fun h => hc.2.2 h.2.symm
        have hB1 : lessL (l.take n ++ [(⟨(rd_T31 l (n : Int)).f0, (rd_T31 l (n : Int)).f1.extract 0 m⟩ : S31)]) l = true := by
          have := less_same (l.take n) [(⟨(rd_T31 l (n : Int)).f0, (rd_T31 l (n : Int)).f1.extract 0 m⟩ : S31)] [rd_T31 l (n : Int)]
          rw [← hlast] at this
          rw [this, lessL, if_neg hne]
          unfold ltS
          simp only
          rw [Opn.bl_irrefl, if_neg (by simp), if_pos trivial, hex, ByteArray.toList_eq (rd_T31 l (n : Int)).f1]
          exact hc.1
        have hB2 : lessL l (l.take n ++ [(⟨(rd_T31 l (n : Int)).f0, (rd_T31 l (n : Int)).f1.extract 0 m⟩ : S31)]) = false := by
          have := less_same (l.take n) [rd_T31 l (n : Int)] [(⟨(rd_T31 l (n : Int)).f0, (rd_T31 l (n : Int)).f1.extract 0 m⟩ : S31)]
          rw [← hlast] at this
          rw [this, lessL, if_neg hne']
          unfold ltS
          simp only
          rw [Opn.bl_irrefl, if_neg (by simp), if_pos trivial, hex, ByteArray.toList_eq (rd_T31 l (n : Int)).f1]
          exact hc.2.1
        rw [hset]
        refine ev_bsome (ev_pos hB1 (ev_bsome (ev_some ?_)))
        rw [hB2]
        rfl
end Go.Proofs.Ytiicfejaoilfcaa.Pure
