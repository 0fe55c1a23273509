/- What the document's own reading and writing come to: the same lists. -/
import Derived.Test.YtpmehejlamddeaaDoorParseP
import Derived.Test.YtpmehejlamddeaaDoorQ8
import Derived.Test.YtpmehejlamddeaaDoorQ9
namespace Go.Proofs.YtpmehejlamddeaaDoor.Pure
open Go.RowKit Go.Proofs.YtpmehejlamddeaaDoorW.PrintWords Go.Proofs.YtpmehejlamddeaaDoorW.PrintLast Go.Proofs.YtpmehejlamddeaaDoorW.PrintMore Go.Proofs.YtpmehejlamddeaaDoor.Q
set_option linter.unusedVariables false
set_option linter.unusedSimpArgs false

theorem satR_f (x : Int) : tocsinref01_Sat.f x = some (sat x) := by
  unfold tocsinref01_Sat.f
  rcases sat_cases x with ⟨a, b⟩ | ⟨a, b⟩ | ⟨a, b, c⟩
  · rw [if_pos a, b]
  · rw [if_neg (by omega), if_pos a, b]
  · rw [if_neg (by omega), if_neg (by omega), c]
def cap (v : Int) : Int := min 4611686018427387903 v
theorem valL_snoc (l : List UInt8) (c : UInt8) : valL 0 (l ++ [c]) = 10 * valL 0 l + ((c.toNat : Int) - 48) := by rw [valL_append]; rfl
theorem more_f (u : List UInt8) (c : UInt8) (hu : Digits u) (hc : isD c = true) : tocsinref01_more.f (cap (valL 0 u)) (c.toNat : Int) = some (cap (valL 0 (u ++ [c]))) := by
  obtain ⟨h0, h1⟩ := isD_iff.1 hc
  have hv := valL_ge u 0 hu (by omega)
  rw [valL_snoc]
  generalize valL 0 u = v at hv
  unfold tocsinref01_more.f cap
  by_cases a : min 4611686018427387903 v > 461168601842738790
  · rw [if_pos a]
    congr 1
    omega
  · have e : min 4611686018427387903 v = v := by omega
    rw [e] at a
    rw [e, if_neg a, w64 (x := 10 * v) (by omega) (by omega), show ((c.toNat : Int) - 48) % 256 = (c.toNat : Int) - 48 by omega, w64 (by omega) (by omega), satR_f, Option.bind_some]
    congr 1
    rcases sat_cases (10 * v + ((c.toNat : Int) - 48)) with ⟨q, r⟩ | ⟨q, r⟩ | ⟨q1, q2, r⟩ <;> omega
theorem digit_f (c : UInt8) : tocsinref01_digit.f (c.toNat : Int) = some (isD c) := by
  unfold tocsinref01_digit.f isD
  by_cases a : (c.toNat : Int) ≥ 48
  · rw [if_pos a]
    by_cases b : (c.toNat : Int) ≤ 57
    · rw [decide_eq_true b, decide_eq_true (p := _ ∧ _) ⟨by omega, by omega⟩]
    · rw [decide_eq_false b, decide_eq_false (p := _ ∧ _) (by omega)]
  · rw [if_neg a, decide_eq_false (p := _ ∧ _) (by omega)]
def sgn (less : Bool) (v : Int) : Int × Int := if less = true then (-v, 0) else (v, 0)
def finX (less : Bool) (w q rest : List UInt8) : Int × Int := if w = [] ∨ 3 < q.length ∨ rest ≠ [] then (0, 10) else sgn less (cap (valL 0 (w ++ q ++ List.replicate (3 - q.length) 48)))
def partX (less : Bool) (w r : List UInt8) : Int × Int := if r.takeWhile isD = [] then (0, 10) else finX less w (r.takeWhile isD) (r.dropWhile isD)
def tailX (less : Bool) (w rest : List UInt8) : Int × Int :=
  match rest with
  | [] => finX less w [] []
  | c :: r => if c = 46 then partX less w r else finX less w [] (c :: r)
theorem cap_range (u : List UInt8) (hu : Digits u) : 0 ≤ cap (valL 0 u) ∧ cap (valL 0 u) ≤ 4611686018427387903 := by
  have := valL_ge u 0 hu (by omega)
  unfold cap
  omega
theorem refP_l2 (less : Bool) : ∀ (d p : Nat) (u : List UInt8), Digits u → p ≤ 3 → 3 - p = d → Ev (fun k => tocsinref01_Parse.l2 k less (cap (valL 0 u)) (p : Int)) (sgn less (cap (valL 0 (u ++ List.replicate (3 - p) 48)))) := by
  intro d
  induction d with
  | zero =>
    intro p u hu hp hd
    obtain ⟨c0, c1⟩ := cap_range u hu
    rw [hd, List.replicate_zero, List.append_nil]
    refine Ev.step (fun k => by rw [tocsinref01_Parse.l2, if_neg (by omega), w64 (by omega) (by omega)]) ?_
    unfold sgn
    cases less
    · exact ev_neg (by decide) (ev_some rfl)
    · exact ev_pos rfl (ev_some rfl)
  | succ d ih =>
    intro p u hu hp hd
    have h48 : isD 48 = true := rfl
    have hm := more_f u 48 hu h48
    rw [show (((48 : UInt8).toNat : Nat) : Int) = 48 from rfl] at hm
    refine Ev.step (fun k => by rw [tocsinref01_Parse.l2, if_pos (by omega), hm, Option.bind_some, w64 (by omega) (by omega)]) ?_
    have := ih (p + 1) (u ++ [48]) (digits_app hu (digits_nought 1)) (by omega) (by omega)
    rw [List.append_assoc, show [48] ++ List.replicate (3 - (p + 1)) (48 : UInt8) = List.replicate (3 - p) 48 by rw [show 3 - p = (3 - (p + 1)) + 1 by omega, List.replicate_succ]; rfl] at this
    exact this
theorem refP_fin (s : ByteArray) (hs : s.size ≤ 20000) (less : Bool) (w q : List UInt8) (i : Nat) (hw : Digits w) (hq : Digits q) (hi : i ≤ s.size) (hwl : w.length ≤ 20000) (hql : q.length ≤ 20000) :
    Ev (fun k => tocsinref01_Parse.j6 k s (i : Int) less (cap (valL 0 (w ++ q))) (w.length : Int) (q.length : Int)) (finX less w q ((B s).drop i)) := by
  have hb : s.size = (B s).length := (data_length s).symm
  unfold finX
  refine Ev.step (fun k => by rw [tocsinref01_Parse.j6]) ?_
  by_cases a : w = []
  · rw [if_pos (.inl a)]
    refine ev_pos (by rw [a]; rfl) (Ev.step (fun k => by rw [tocsinref01_Parse.j7, if_pos rfl]) (Ev.now _))
  · have a' : 0 < w.length := List.length_pos_iff.2 a
    refine ev_neg (by omega) ?_
    by_cases b : 3 < q.length
    · rw [if_pos (.inr (.inl b))]
      refine ev_pos (by omega) (Ev.step (fun k => by rw [tocsinref01_Parse.j7, if_pos rfl]) (Ev.now _))
    · refine ev_neg (by omega) ?_
      by_cases c : (B s).drop i = []
      · rw [if_neg (by simp [a, c]; omega)]
        have hi2 : i = s.size := by
          have := List.drop_eq_nil_iff.1 c
          omega
        have e : ((i : Int) != (s.size : Int)) = false := by rw [hi2]; simp
        rw [e]
        refine Ev.step (fun k => by rw [tocsinref01_Parse.j7, if_neg (by decide)]) ?_
        exact refP_l2 less _ q.length (w ++ q) (digits_app hw hq) (by omega) rfl
      · rw [if_pos (.inr (.inr c))]
        have hi2 : i ≠ s.size := fun e => c (List.drop_eq_nil_iff.2 (by omega))
        have e : ((i : Int) != (s.size : Int)) = true := by rw [bne_iff_ne]; omega
        rw [e]
        exact Ev.step (fun k => by rw [tocsinref01_Parse.j7, if_pos rfl]) (Ev.now _)
theorem refP_l1 (s : ByteArray) (hs : s.size ≤ 20000) (less : Bool) (w : List UInt8) (hw : Digits w) (hwl : w.length ≤ 20000) : ∀ (d i : Nat) (q : List UInt8), Digits q → i ≤ s.size → s.size - i = d → q.length ≤ i →
    Ev (fun k => tocsinref01_Parse.l1 k s (i : Int) less (cap (valL 0 (w ++ q))) (w.length : Int) (q.length : Int)) (if q ++ ((B s).drop i).takeWhile isD = [] then (0, 10) else finX less w (q ++ ((B s).drop i).takeWhile isD) (((B s).drop i).dropWhile isD)) := by
  have hb : s.size = (B s).length := (data_length s).symm
  have stop : ∀ (i : Nat) (q : List UInt8), Digits q → i ≤ s.size → q.length ≤ i → (∀ (c : UInt8) r, (B s).drop i = c :: r → isD c = false) → Ev (fun k => if ((q.length : Int)) = 0 then some (0, 10) else tocsinref01_Parse.j6 k s (i : Int) less (cap (valL 0 (w ++ q))) (w.length : Int) (q.length : Int)) (if q ++ ((B s).drop i).takeWhile isD = [] then (0, 10) else finX less w (q ++ ((B s).drop i).takeWhile isD) (((B s).drop i).dropWhile isD)) := by
    intro i q hq hi hql hc
    have e1 : ((B s).drop i).takeWhile isD = [] ∧ ((B s).drop i).dropWhile isD = (B s).drop i := by
      cases h : (B s).drop i with
      | nil => exact ⟨rfl, rfl⟩
      | cons c r =>
        have := hc c r h
        rw [List.takeWhile_cons, List.dropWhile_cons, this]
        exact ⟨rfl, rfl⟩
    rw [e1.1, e1.2, List.append_nil]
    by_cases a : q = []
    · rw [if_pos a]
      exact ev_pos (by rw [a]; rfl) (Ev.now _)
    · rw [if_neg a]
      have a' : 0 < q.length := List.length_pos_iff.2 a
      exact ev_neg (by omega) (refP_fin s hs less w q i hw hq hi hwl (by omega))
  intro d
  induction d with
  | zero =>
    intro i q hq hi hd hql
    refine Ev.step (fun k => by rw [tocsinref01_Parse.l1, if_neg (by omega)]) ?_
    exact stop i q hq hi hql fun c r h => by
      have : ((B s).drop i).length = 0 := by rw [List.length_drop]; omega
      rw [h] at this
      cases this
  | succ d ih =>
    intro i q hq hi hd hql
    have hl : i < (B s).length := by omega
    have hdr : (B s).drop i = (B s)[i] :: (B s).drop (i + 1) := List.drop_eq_getElem_cons hl
    have hbt : bt s (i : Int) = (((B s)[i]).toNat : Int) := bt_get s i hl
    refine Ev.step (fun k => by rw [tocsinref01_Parse.l1, if_pos (by omega), if_pos (by omega), hbt, digit_f, Option.bind_some]) ?_
    cases hc : isD ((B s)[i]) with
    | true =>
      refine ev_pos rfl ?_
      have hm := more_f (w ++ q) ((B s)[i]) (digits_app hw hq) hc
      rw [hm]
      refine ev_bsome ?_
      have h1 : Digits (q ++ [(B s)[i]]) := digits_app hq (fun c h => by rw [List.mem_singleton] at h; rw [h]; exact hc)
      have := ih (i + 1) (q ++ [(B s)[i]]) h1 (by omega) (by omega) (by rw [List.length_append, List.length_singleton]; omega)
      rw [hdr, List.takeWhile_cons, List.dropWhile_cons, hc]
      rw [List.append_assoc, List.length_append, List.length_singleton, ← List.append_assoc w q] at this
      rw [w64 (x := (i : Int) + 1) (by omega) (by omega), w64 (x := (q.length : Int) + 1) (by omega) (by omega)]
      exact this
    | false =>
      refine ev_neg (by decide) ?_
      exact stop i q hq hi hql fun c r h => by rw [hdr] at h; injection h with h _; rw [← h]; exact hc
theorem refP_j3 (s : ByteArray) (hs : s.size ≤ 20000) (less : Bool) (w : List UInt8) (hw : Digits w) (i : Nat) (hi : i ≤ s.size) (hwl : w.length ≤ i) :
    Ev (fun k => tocsinref01_Parse.j3 k s (i : Int) less (cap (valL 0 w)) (w.length : Int)) (tailX less w ((B s).drop i)) := by
  have hb : s.size = (B s).length := (data_length s).symm
  have hfin := refP_fin s hs less w [] i hw (fun c h => absurd h List.not_mem_nil) hi (by omega) (by simp)
  rw [List.append_nil] at hfin
  by_cases a : i < s.size
  · have hl : i < (B s).length := by omega
    have hdr : (B s).drop i = (B s)[i] :: (B s).drop (i + 1) := List.drop_eq_getElem_cons hl
    have hpt := point_bt s i hl
    refine Ev.step (fun k => by rw [tocsinref01_Parse.j3, if_pos (by omega), if_pos (by omega)]) ?_
    rw [hdr] at hfin ⊢
    unfold tailX
    by_cases b : (B s)[i] = 46
    · have e : (bt s (i : Int) == 46) = true := beq_iff_eq.2 (hpt.2 b)
      rw [e]
      show Ev _ (if (B s)[i] = 46 then partX less w ((B s).drop (i + 1)) else finX less w [] ((B s)[i] :: (B s).drop (i + 1)))
      rw [if_pos b]
      have h1 := refP_l1 s hs less w hw (by omega) (s.size - (i + 1)) (i + 1) [] (fun c h => absurd h List.not_mem_nil) (by omega) rfl (by simp)
      rw [List.append_nil, List.nil_append] at h1
      refine Ev.step (fun k => by rw [tocsinref01_Parse.j4, if_pos rfl, w64 (x := (i : Int) + 1) (by omega) (by omega)]) ?_
      exact h1
    · have e : (bt s (i : Int) == 46) = false := beq_eq_false_iff_ne.2 (fun q => b (hpt.1 q))
      rw [e]
      show Ev _ (if (B s)[i] = 46 then partX less w ((B s).drop (i + 1)) else finX less w [] ((B s)[i] :: (B s).drop (i + 1)))
      rw [if_neg b]
      refine Ev.step (fun k => by rw [tocsinref01_Parse.j4, if_neg (by decide)]) ?_
      exact hfin
  · have hnil : (B s).drop i = [] := List.drop_eq_nil_of_le (by omega)
    refine Ev.step (fun k => by rw [tocsinref01_Parse.j3, if_neg (by omega)]) ?_
    rw [hnil] at hfin ⊢
    refine Ev.step (fun k => by rw [tocsinref01_Parse.j4, if_neg (by decide)]) ?_
    exact hfin
theorem refP_l0 (s : ByteArray) (hs : s.size ≤ 20000) (less : Bool) : ∀ (d i : Nat) (w : List UInt8), Digits w → i ≤ s.size → s.size - i = d → w.length ≤ i →
    Ev (fun k => tocsinref01_Parse.l0 k s (i : Int) less (cap (valL 0 w)) (w.length : Int)) (tailX less (w ++ ((B s).drop i).takeWhile isD) (((B s).drop i).dropWhile isD)) := by
  have hb : s.size = (B s).length := (data_length s).symm
  intro d
  induction d with
  | zero =>
    intro i w hw hi hd hwl
    have hnil : (B s).drop i = [] := List.drop_eq_nil_of_le (by omega)
    have := refP_j3 s hs less w hw i hi hwl
    rw [hnil] at this ⊢
    rw [List.takeWhile_nil, List.dropWhile_nil, List.append_nil]
    exact Ev.step (fun k => by rw [tocsinref01_Parse.l0, if_neg (by omega)]) this
  | succ d ih =>
    intro i w hw hi hd hwl
    have hl : i < (B s).length := by omega
    have hdr : (B s).drop i = (B s)[i] :: (B s).drop (i + 1) := List.drop_eq_getElem_cons hl
    have hbt : bt s (i : Int) = (((B s)[i]).toNat : Int) := bt_get s i hl
    refine Ev.step (fun k => by rw [tocsinref01_Parse.l0, if_pos (by omega), if_pos (by omega), hbt, digit_f, Option.bind_some]) ?_
    cases hc : isD ((B s)[i]) with
    | true =>
      refine ev_pos rfl ?_
      rw [more_f w ((B s)[i]) hw hc]
      refine ev_bsome ?_
      have h1 : Digits (w ++ [(B s)[i]]) := digits_app hw (fun c h => by rw [List.mem_singleton] at h; rw [h]; exact hc)
      have := ih (i + 1) (w ++ [(B s)[i]]) h1 (by omega) (by omega) (by rw [List.length_append, List.length_singleton]; omega)
      rw [hdr, List.takeWhile_cons, List.dropWhile_cons, hc]
      rw [List.append_assoc, List.length_append, List.length_singleton] at this
      rw [w64 (x := (i : Int) + 1) (by omega) (by omega), w64 (x := (w.length : Int) + 1) (by omega) (by omega)]
      exact this
    | false =>
      refine ev_neg (by decide) ?_
      have := refP_j3 s hs less w hw i hi hwl
      rw [hdr] at this ⊢
      rw [List.takeWhile_cons, List.dropWhile_cons, hc]
      simp only [Bool.false_eq_true, if_false, List.append_nil]
      exact this
theorem tw_all : ∀ r : List UInt8, r.all isD = true → r.takeWhile isD = r
  | [], _ => rfl
  | c :: r, h => by
    rw [List.all_cons, Bool.and_eq_true] at h
    rw [List.takeWhile_cons, h.1, if_pos rfl, tw_all r h.2]
/-- The tail's answer is the number's. -/
theorem tail_rest (less : Bool) (l : List UInt8) : tailX less (l.takeWhile isD) (l.dropWhile isD) = (match restL l with | some v => (if less = true then -v else v, 0) | none => (0, 10)) := by
  have hsg : ∀ v : Int, sgn less v = (if less = true then -v else v, 0) := fun v => by unfold sgn; cases less <;> rfl
  unfold restL numL
  cases h : l.dropWhile isD with
  | nil =>
    have hw : l.takeWhile isD = l := by
      have := List.takeWhile_append_dropWhile (p := isD) (l := l)
      rwa [h, List.append_nil] at this
    rw [hw]
    show finX less l [] [] = _
    unfold finX
    by_cases e : l = []
    · rw [if_pos (.inl e), if_pos e]
      rfl
    · rw [if_neg (by simp [e]), if_neg e, hsg]
      rfl
  | cons c r =>
    show (if c = 46 then partX less (l.takeWhile isD) r else finX less (l.takeWhile isD) [] (c :: r)) = _
    dsimp only
    by_cases hc : c = 46
    · rw [if_pos hc]
      unfold partX
      by_cases hr : r.takeWhile isD = []
      · rw [if_pos hr]
        have : ¬ (c = 46 ∧ l.takeWhile isD ≠ [] ∧ r ≠ [] ∧ r.all isD = true ∧ r.length ≤ 3) := fun ⟨_, _, h3, h4, _⟩ => by
          cases r with
          | nil => exact h3 rfl
          | cons x r =>
            rw [List.all_cons, Bool.and_eq_true] at h4
            rw [List.takeWhile_cons, h4.1] at hr
            cases hr
        rw [if_neg this]
        rfl
      · rw [if_neg hr]
        unfold finX
        by_cases hall : r.all isD = true
        · have h1 : r.takeWhile isD = r := tw_all r hall
          have h2 : r.dropWhile isD = [] := by
            have := List.takeWhile_append_dropWhile (p := isD) (l := r)
            rw [h1] at this
            exact List.append_cancel_left (this.trans (List.append_nil r).symm)
          rw [h1] at hr ⊢
          rw [h2]
          by_cases hw : l.takeWhile isD = []
          · rw [if_pos (.inl hw), if_neg (fun q => q.2.1 hw)]
            rfl
          · by_cases h3 : 3 < r.length
            · rw [if_pos (.inr (.inl h3)), if_neg (fun q => by have := q.2.2.2.2; omega)]
              rfl
            · rw [if_neg (by simp [hw]; omega), if_pos ⟨hc, hw, hr, hall, by omega⟩, hsg]
              rfl
        · have h2 : r.dropWhile isD ≠ [] := fun q => by
            have := List.takeWhile_append_dropWhile (p := isD) (l := r)
            rw [q, List.append_nil] at this
            exact hall (by rw [← this]; exact List.all_eq_true.2 (take_digits r))
          rw [if_pos (.inr (.inr h2)), if_neg (fun q => hall q.2.2.2.1)]
          rfl
    · rw [if_neg hc, if_neg (fun q => hc q.1)]
      unfold finX
      rw [if_pos (.inr (.inr (by simp)))]
      rfl
theorem refParse_ev (s : ByteArray) (hs : s.size ≤ 20000) : Ev (fun k => tocsinref01_Parse.f k s) (parseL (B s)) := by
  have hb : s.size = (B s).length := (data_length s).symm
  have hcap : cap (valL 0 []) = 0 := rfl
  have key : ∀ (less : Bool) (i : Nat), i ≤ s.size → Ev (fun k => tocsinref01_Parse.j1 k s (i : Int) less) (match restL ((B s).drop i) with | some v => (if less = true then -v else v, 0) | none => (0, 10)) := fun less i hi => by
    have := refP_l0 s hs less (s.size - i) i [] (fun c h => absurd h List.not_mem_nil) hi rfl (by simp)
    rw [hcap, List.nil_append, tail_rest] at this
    exact Ev.step (fun k => by rw [tocsinref01_Parse.j1]; rfl) this
  unfold tocsinref01_Parse.f parseL
  cases h : B s with
  | nil =>
    rw [h, List.length_nil] at hb
    have h0 := key false 0 (by omega)
    rw [List.drop_zero, h] at h0
    refine ev_neg (by omega) (Ev.step (fun k => by rw [tocsinref01_Parse.j0, if_neg (by decide)]) ?_)
    exact h0
  | cons c t =>
    rw [h, List.length_cons] at hb
    have hl : 0 < (B s).length := by rw [h]; simp
    have hbt : bt s 0 = ((c.toNat : Nat) : Int) := by
      have := bt_get s 0 hl
      have e : (B s)[0] = c := by simp [h]
      rw [e] at this
      exact this
    refine ev_pos (by omega) (ev_pos (by omega) ?_)
    by_cases e : c = 45
    · subst e
      have e2 : (bt s 0 == 45) = true := by rw [hbt]; rfl
      rw [e2]
      have h1 := key true 1 (by omega)
      rw [h] at h1
      refine Ev.step (fun k => by rw [tocsinref01_Parse.j0, if_pos rfl]) ?_
      exact h1
    · have e2 : (bt s 0 == 45) = false := by
        rw [hbt]
        refine beq_eq_false_iff_ne.2 fun q => e (UInt8.toNat_inj.1 ?_)
        have : (45 : UInt8).toNat = 45 := rfl
        omega
      rw [e2]
      have h1 := key false 0 (by omega)
      rw [List.drop_zero, h] at h1
      refine Ev.step (fun k => by rw [tocsinref01_Parse.j0, if_neg (by decide)]) ?_
      split
      · rename_i g
        injection g with g
        exact absurd g e
      · exact h1
end Go.Proofs.YtpmehejlamddeaaDoor.Pure
