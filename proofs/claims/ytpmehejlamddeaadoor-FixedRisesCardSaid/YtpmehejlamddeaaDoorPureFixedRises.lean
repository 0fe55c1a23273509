/- The pure statement of FixedRises: of two texts of decimals, noughts ahead, the one that says more is read as more. -/
import Derived.Test.YtpmehejlamddeaaDoorQ12
import Derived.Test.YtpmehejlamddeaaDoorBackP
import Derived.Test.YtpmehejlamddeaaDoorAwakeP
namespace Go.Proofs.YtpmehejlamddeaaDoor.Pure
open Go.RowKit Go.Proofs.YtpmehejlamddeaaDoorW.PrintWords Go.Proofs.YtpmehejlamddeaaDoorW.PrintLast Go.Proofs.YtpmehejlamddeaaDoorW.PrintMore Go.Proofs.YtpmehejlamddeaaDoor.Q
set_option linter.unusedVariables false
set_option linter.unusedSimpArgs false

theorem num_form (w : List UInt8) (hw : Digits w) (hne : w ≠ []) (m : Nat) (hm : m < 1000) : numL (w ++ (if m = 0 then [] else 46 :: partL m)) = some (w, if m = 0 then [] else partL m) := by
  unfold numL
  by_cases hz : m = 0
  · rw [if_pos hz, if_pos hz, List.append_nil]
    have hdrop : w.dropWhile isD = [] := by
      have := List.dropWhile_append_of_pos (p := isD) (l₂ := []) hw
      rwa [List.append_nil] at this
    rw [hdrop]
    dsimp only
    rw [if_neg hne]
  · obtain ⟨p1, p2, p3, p4, p5⟩ := part_facts (m := m) (by omega) hm
    rw [if_neg hz, if_neg hz]
    have hdrop : (w ++ 46 :: partL m).dropWhile isD = 46 :: partL m := by
      rw [List.dropWhile_append_of_pos hw]
      rfl
    have htake : (w ++ 46 :: partL m).takeWhile isD = w := by
      rw [List.takeWhile_append_of_pos hw]
      show w ++ [] = _
      rw [List.append_nil]
    rw [hdrop, htake]
    dsimp only
    rw [if_pos ⟨rfl, hne, p2, List.all_eq_true.2 p1, p3⟩]
theorem rest_form (w : List UInt8) (hw : Digits w) (hne : w ≠ []) (m : Nat) (hm : m < 1000) : restL (w ++ (if m = 0 then [] else 46 :: partL m)) = some (min 4611686018427387903 (valL 0 w * 1000 + m)) := by
  unfold restL
  rw [num_form w hw hne m hm, Option.map_some]
  congr 1
  by_cases hz : m = 0
  · rw [if_pos hz]
    show min 4611686018427387903 (valL 0 (w ++ [] ++ [48, 48, 48])) = _
    rw [List.append_nil, valL_append, valL_shift]
    show min 4611686018427387903 (valL 0 w * 1000 + 0) = _
    omega
  · obtain ⟨p1, p2, p3, p4, p5⟩ := part_facts (m := m) (by omega) hm
    rw [if_neg hz]
    show min 4611686018427387903 (valL 0 (w ++ partL m ++ List.replicate (3 - (partL m).length) 48)) = _
    rw [List.append_assoc, valL_append, valL_shift, p4, List.length_append, List.length_replicate, show (partL m).length + (3 - (partL m).length) = 3 by omega]
    rfl
theorem val_noughts : ∀ (k : Nat) (l : List UInt8), valL 0 (List.replicate k 48 ++ l) = valL 0 l
  | 0, l => rfl
  | k + 1, l => by
    rw [List.replicate_succ, List.cons_append]
    exact val_noughts k l
theorem rest_noughts (k n : Nat) (hn : n ≤ 4611686018427387903) : restL (List.replicate k 48 ++ absL n) = some (n : Int) := by
  obtain ⟨hw, hne, hv⟩ := whole_facts n hn
  unfold absL
  rw [← List.append_assoc, rest_form _ (digits_app (digits_nought k) hw) (fun q => hne (List.append_eq_nil_iff.1 q).2) (n % 1000) (by omega), val_noughts, hv]
  congr 1
  omega
theorem parse_noughts (k n : Nat) (hn : n ≤ 4611686018427387903) : parseL (List.replicate k 48 ++ absL n) = ((n : Int), 0) := by
  have hr := rest_noughts k n hn
  have hhead : ∃ c t, List.replicate k 48 ++ absL n = c :: t ∧ isD c = true := by
    cases k with
    | zero => exact abs_head n hn
    | succ k => exact ⟨48, _, by rw [List.replicate_succ, List.cons_append], rfl⟩
  obtain ⟨c, t, h, hc⟩ := hhead
  unfold parseL
  split
  · rename_i t' g
    rw [h] at g
    injection g with g1 g2
    subst g1
    exact absurd hc (by decide)
  · rw [hr]
theorem rises_end (a b n : Int) (a0 : 0 ≤ a) (a1 : a ≤ 1000000000000000) (b0 : 0 ≤ b) (b1 : b ≤ 1000000000000000) (i : Nat) (hi : i ≤ 100) (hn : ¬ (i : Int) < n) : Ev (fun k => tocsinlaw01_FixedRises.l0 k a b n (str (List.replicate i 48)) i) true := by
  have ha := print_ev a
  have hb := print_ev b
  rw [sat_id (by omega) (by omega)] at ha hb
  have ea : printL a = absL a.toNat := by unfold printL; rw [if_neg (by omega), List.nil_append, show a.natAbs = a.toNat by omega]
  have eb : printL b = absL b.toNat := by unfold printL; rw [if_neg (by omega), List.nil_append, show b.natAbs = b.toNat by omega]
  rw [ea] at ha
  rw [eb] at hb
  have la := abs_length a.toNat (by omega)
  have lb := abs_length b.toNat (by omega)
  refine Ev.step (fun k => by rw [tocsinlaw01_FixedRises.l0, if_neg hn]) ?_
  refine Ev.bind ha (ev_pos (by rw [size_str, size_str, List.length_replicate]; omega) ?_)
  rw [str_app]
  have hp := parse_ev (str (List.replicate i 48 ++ absL a.toNat)) (by rw [size_str, List.length_append, List.length_replicate]; omega)
  rw [B_str, parse_noughts _ _ (by omega)] at hp
  refine Ev.bind hp (ev_pos (by rw [size_str, List.length_replicate]; omega) ?_)
  refine Ev.bind hb ?_
  rw [show (⟨#[45]⟩ : ByteArray) = str [45] from rfl, str_app, str_app]
  refine ev_pos (by rw [size_str, size_str, List.length_append, List.length_replicate]; simp; omega) ?_
  have hq := parse_ev (str ([45] ++ List.replicate i 48 ++ absL b.toNat)) (by rw [size_str, List.length_append, List.length_append, List.length_replicate]; simp; omega)
  have e : parseL ([45] ++ List.replicate i 48 ++ absL b.toNat) = (-((b.toNat : Nat) : Int), 0) := by
    show (match restL (List.replicate i 48 ++ absL b.toNat) with | some v => (-v, (0 : Int)) | none => (0, 10)) = _
    rw [rest_noughts _ _ (by omega)]
  rw [B_str, e] at hq
  refine Ev.bind hq (ev_pos rfl (ev_pos rfl (ev_pos (by show ((a.toNat : Nat) : Int) = a; omega) (ev_pos ?_ (ev_some ?_)))))
  · show -((b.toNat : Nat) : Int) = wrap64 (-b)
    rw [w64 (by omega) (by omega)]
    omega
  · show (decide (((a.toNat : Nat) : Int) < wrap64 (-(-((b.toNat : Nat) : Int)))) == decide (a < b)) = true
    rw [w64 (by omega) (by omega), show ((a.toNat : Nat) : Int) = a by omega, show -(-((b.toNat : Nat) : Int)) = b by omega]
    simp
theorem rises_l0 (a b n : Int) (a0 : 0 ≤ a) (a1 : a ≤ 1000000000000000) (b0 : 0 ≤ b) (b1 : b ≤ 1000000000000000) (n0 : 0 ≤ n) (n1 : n ≤ 100) : ∀ (d i : Nat), (i : Int) ≤ n → n - i = d → Ev (fun k => tocsinlaw01_FixedRises.l0 k a b n (str (List.replicate i 48)) i) true := by
  intro d
  induction d with
  | zero => intro i hi hd; exact rises_end a b n a0 a1 b0 b1 i (by omega) (by omega)
  | succ d ih =>
    intro i hi hd
    have hnext := ih (i + 1) (by omega) (by omega)
    have e : str (List.replicate i 48) ++ (⟨#[48]⟩ : ByteArray) = str (List.replicate (i + 1) 48) := by
      rw [show (⟨#[48]⟩ : ByteArray) = str [48] from rfl, str_app, ← List.replicate_succ']
    exact Ev.step (fun k => by rw [tocsinlaw01_FixedRises.l0, if_pos (by omega), if_pos (by rw [size_str, List.length_replicate]; omega), e, (w64 (x := (i : Int) + 1) (by omega) (by omega)).trans (show (i : Int) + 1 = ((i + 1 : Nat) : Int) by omega)]) hnext
theorem FixedRises : tocsinlaw01_FixedRises.Pure := by
  intro a b n _ _ _
  refine Ev.rounds ?_
  unfold tocsinlaw01_FixedRises.f
  have hj : Ev (fun k => tocsinlaw01_FixedRises.j0 k a b n true) true := Ev.step (fun k => by rw [tocsinlaw01_FixedRises.j0, if_pos rfl]) (Ev.now _)
  refine Ev.bind awake (ev_pos rfl ?_)
  by_cases c1 : a < 0
  · exact ev_pos c1 hj
  · refine ev_neg c1 ?_
    by_cases c2 : b < 0
    · exact ev_pos c2 hj
    · refine ev_neg c2 ?_
      by_cases c3 : a > 1000000000000000
      · exact ev_pos c3 hj
      · refine ev_neg c3 ?_
        by_cases c4 : b > 1000000000000000
        · exact ev_pos c4 hj
        · refine ev_neg c4 ?_
          by_cases c5 : n < 0
          · exact ev_pos c5 hj
          · refine ev_neg c5 ?_
            by_cases c6 : n > 100
            · rw [decide_eq_true c6]; exact hj
            · rw [decide_eq_false c6]
              refine Ev.step (fun k => by rw [tocsinlaw01_FixedRises.j0, if_neg (by simp)]) ?_
              exact rises_l0 a b n (by omega) (by omega) (by omega) (by omega) (by omega) (by omega) n.toNat 0 (by omega) (by omega)
end Go.Proofs.YtpmehejlamddeaaDoor.Pure
