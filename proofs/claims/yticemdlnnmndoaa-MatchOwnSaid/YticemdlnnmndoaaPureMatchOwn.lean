/- The pure statement of MatchOwn: the matchers that say each label of a row hold for it; with one value otherwise they don't. -/
import Derived.Test.YticemdlnnmndoaaQ33
import Derived.Test.YticemdlnnmndoaaGreatP
import Derived.Test.YticemdlnnmndoaaAwakeP
namespace Go.Proofs.Yticemdlnnmndoaa.Pure
open Go.RowKit Go.Proofs.YticemdlnnmndoaaW.PrintWords Go.Proofs.YticemdlnnmndoaaW.PrintLast Go.Proofs.Yticemdlnnmndoaa.Q
set_option linter.unusedVariables false
set_option linter.unusedSimpArgs false

def own (y : S44) : S30 := ⟨y.f0, 0, y.f1⟩
def Unlike (l : List S44) : Prop := l.Pairwise (fun a b => a.f0.toList ≠ b.f0.toList)
theorem value_own : ∀ {l : List S44}, Unlike l → ∀ y ∈ l, valueL y.f0 l = y.f1
  | x :: l, h, y, hy => by
    rw [valueL]
    rcases List.mem_cons.1 hy with rfl | hy
    · rw [if_pos rfl]
    · have := (List.pairwise_cons.1 h).1 y hy
      rw [if_neg this]
      exact value_own (List.pairwise_cons.1 h).2 y hy
theorem okD_own (l : List S44) (y : S44) : okD l (own y) = ((valueL y.f0 l).toList == y.f1.toList) := by
  unfold okD asks Ops.lookB own
  simp
theorem does_own {l : List S44} (h : Unlike l) : doesL (l.map own) l = true := by
  unfold doesL
  rw [List.all_map, List.all_eq_true]
  intro y hy
  show okD l (own y) = true
  rw [okD_own, value_own h y hy]
  simp
theorem rd_map (l : List S44) (x : Int) (h0 : 0 ≤ x) (h1 : x < l.length) : rd_T30 (l.map own) x = own (rd_T44 l x) := by
  have h2 : x.toNat < l.length := by omega
  unfold rd_T30 rd_T44
  rw [List.getD_eq_getElem?_getD, List.getD_eq_getElem?_getD, List.getElem?_map, List.getElem?_eq_getElem h2]
  rfl
theorem app_ne (v : ByteArray) : (v.toList == (v ++ (⟨#[120]⟩ : ByteArray)).toList) = false := by
  rw [beq_eq_false_iff_ne]
  intro h
  have := congrArg List.length h
  rw [ByteArray.toList_eq, ByteArray.toList_eq, data_length, data_length, ByteArray.size_append] at this
  have h2 : (⟨#[120]⟩ : ByteArray).size = 1 := rfl
  omega
theorem take_snoc44 (l : List S44) (x : Int) (h0 : 0 ≤ x) (h1 : x < l.length) : l.take (x + 1).toNat = l.take x.toNat ++ [rd_T44 l x] := by
  have h2 : x.toNat < l.length := by omega
  rw [toNat_succ h0, List.take_succ_eq_append_getElem h2]
  unfold rd_T44
  rw [List.getD_eq_getElem?_getD, List.getElem?_eq_getElem h2]
  rfl
theorem unlike_snoc {l : List S44} {y : S44} (h : Unlike l) (hy : ∀ z ∈ l, z.f0.toList ≠ y.f0.toList) : Unlike (l ++ [y]) := by
  unfold Unlike at h ⊢
  rw [List.pairwise_append]
  refine ⟨h, List.pairwise_singleton _ _, fun a ha b hb => ?_⟩
  rw [List.mem_singleton] at hb
  subst hb
  exact hy a ha
theorem own_ev (l : List S44) (a1 : Int) (hs : SmallL l) : ∀ (d : Nat) (x : Int), 0 ≤ x → x ≤ l.length → (l.length : Int) - x = d → Unlike (l.take x.toNat) →
    Ev (fun k => tocsinlaw08_MatchOwn.l0 k l a1 ((l.take x.toNat).map own) x) true := by
  intro d
  have h100 := hs.1
  induction d with
  | zero =>
    intro x h0 h1 hd hu
    have htake : l.take x.toNat = l := List.take_of_length_le (by omega)
    rw [htake] at hu ⊢
    have hlen : (l.map own).length = l.length := List.length_map _
    refine Ev.step (fun k => by rw [tocsinlaw08_MatchOwn.l0, if_neg (by omega), match_Does.f, Option.bind_some, does_own hu, if_pos rfl]) ?_
    by_cases a : a1 < 0
    · exact ev_pos a (Ev.now _)
    · refine ev_neg a ?_
      by_cases b : a1 ≥ ((l.map own).length : Int)
      · exact ev_pos b (Ev.now _)
      · have hx : a1 < l.length := by omega
        have hy := rd_mem44 (by omega) hx
        have hv := (hs.2 _ hy).2
        refine ev_neg b (ev_pos (by omega) (ev_pos (by omega) ?_))
        rw [rd_map l a1 (by omega) hx]
        refine ev_pos (by show (rd_T44 l a1).f1.size + 1 ≤ _; omega) ?_
        refine Ev.congr (fun k => by rw [match_Does.f, Option.bind_some]) (ev_some ?_)
        rw [Bool.not_eq_true', doesL, List.all_eq_false]
        refine ⟨⟨(own (rd_T44 l a1)).f0, (own (rd_T44 l a1)).f1, (own (rd_T44 l a1)).f2 ++ (⟨#[120]⟩ : ByteArray)⟩, List.mem_iff_getElem.2 ⟨a1.toNat, by rw [List.length_set]; omega, List.getElem_set_self _⟩, ?_⟩
        show ¬ okD l (own ⟨(rd_T44 l a1).f0, (rd_T44 l a1).f1 ++ (⟨#[120]⟩ : ByteArray)⟩) = true
        rw [okD_own, value_own hu _ hy, app_ne]
        simp
  | succ d ih =>
    intro x h0 h1 hd hu
    have hx : x < l.length := by omega
    have inner : ∀ (e : Nat) (y : Int), 0 ≤ y → y ≤ x → x - y = e → (∀ z ∈ l.take y.toNat, z.f0.toList ≠ (rd_T44 l x).f0.toList) →
        Ev (fun k => tocsinlaw08_MatchOwn.l1 k l a1 ((l.take x.toNat).map own) x y) true := by
      intro e
      induction e with
      | zero =>
        intro y hy0 hy1 he hz
        have hlen : ((l.take x.toNat).map own).length = x.toNat := by rw [List.length_map, List.length_take]; omega
        refine Ev.step (fun k => by rw [tocsinlaw08_MatchOwn.l1, if_neg (by omega), if_pos h0, if_pos hx, if_pos (by omega), w64 (x := x + 1) (by omega) (by omega)]) ?_
        have hxy : y = x := by omega
        subst hxy
        have := ih (y + 1) (by omega) (by omega) (by omega) (by rw [take_snoc44 l y h0 hx]; exact unlike_snoc hu hz)
        rw [take_snoc44 l y h0 hx, List.map_append] at this
        exact this
      | succ e ihe =>
        intro y hy0 hy1 he hz
        by_cases q : (rd_T44 l y).f0.toList = (rd_T44 l x).f0.toList
        · exact Ev.step (fun k => by rw [tocsinlaw08_MatchOwn.l1, if_pos (by omega), if_pos hy0, if_pos (by omega), if_pos h0, if_pos hx, if_pos q]) (Ev.now _)
        · refine Ev.step (fun k => by rw [tocsinlaw08_MatchOwn.l1, if_pos (by omega), if_pos hy0, if_pos (by omega), if_pos h0, if_pos hx, if_neg q, w64 (x := y + 1) (by omega) (by omega)]) ?_
          refine ihe (y + 1) (by omega) (by omega) (by omega) (fun z hzm => ?_)
          rw [take_snoc44 l y hy0 (by omega)] at hzm
          rcases List.mem_append.1 hzm with hzm | hzm
          · exact hz z hzm
          · rw [List.mem_singleton] at hzm
            subst hzm
            exact q
    refine Ev.step (fun k => by rw [tocsinlaw08_MatchOwn.l0, if_pos hx]) ?_
    exact inner x.toNat 0 (by omega) h0 (by omega) (by simp)
theorem MatchOwn : tocsinlaw08_MatchOwn.Pure := by
  intro l a1 hl _ hgl _
  refine Ev.rounds ?_
  unfold tocsinlaw08_MatchOwn.f
  refine Ev.bind awake (ev_pos rfl ?_)
  obtain ⟨r, hr, hs⟩ := great [] l (by simp) hgl
  refine Ev.bind hr ?_
  cases r with
  | true => exact ev_pos rfl (Ev.now _)
  | false =>
    refine ev_neg (by simp) ?_
    have := own_ev l a1 (hs rfl).2 l.length 0 (by omega) (by omega) (by omega) (by simp [Unlike])
    simpa using this
end Go.Proofs.Yticemdlnnmndoaa.Pure
