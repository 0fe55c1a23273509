/- The pure statement of FixedNoughts: noughts behind the decimals, up to three of these, change nothing; a fourth one, or a point alone, is refused. -/
import Derived.Test.YtpmehejlamddeaaDoorQ14
import Derived.Test.YtpmehejlamddeaaDoorBackP
import Derived.Test.YtpmehejlamddeaaDoorAwakeP
namespace Go.Proofs.YtpmehejlamddeaaDoor.Pure
open Go.RowKit Go.Proofs.YtpmehejlamddeaaDoorW.PrintWords Go.Proofs.YtpmehejlamddeaaDoorW.PrintLast Go.Proofs.YtpmehejlamddeaaDoorW.PrintMore Go.Proofs.YtpmehejlamddeaaDoor.Q
set_option linter.unusedVariables false
set_option linter.unusedSimpArgs false

theorem parse_plain {l : List UInt8} (h : ∃ c t, l = c :: t ∧ isD c = true) : parseL l = (match restL l with | some v => (v, 0) | none => (0, 10)) := by
  obtain ⟨c, t, rfl, hc⟩ := h
  unfold parseL
  split
  · rename_i g
    injection g with g1 g2
    subst g1
    exact absurd hc (by decide)
  · rfl
theorem head_app {w : List UInt8} (hw : Digits w) (hne : w ≠ []) (l : List UInt8) : ∃ c t, w ++ l = c :: t ∧ isD c = true := by
  cases w with
  | nil => exact absurd rfl hne
  | cons c t => exact ⟨c, _, rfl, hw c List.mem_cons_self⟩
theorem num_point {w q : List UInt8} (hw : Digits w) (hne : w ≠ []) (hq : Digits q) : numL (w ++ 46 :: q) = if q ≠ [] ∧ q.length ≤ 3 then some (w, q) else none := by
  have hdrop : (w ++ 46 :: q).dropWhile isD = 46 :: q := by
    rw [List.dropWhile_append_of_pos hw]
    rfl
  have htake : (w ++ 46 :: q).takeWhile isD = w := by
    rw [List.takeWhile_append_of_pos hw]
    show w ++ [] = _
    rw [List.append_nil]
  unfold numL
  rw [hdrop, htake]
  dsimp only
  by_cases h : q ≠ [] ∧ q.length ≤ 3
  · rw [if_pos h, if_pos ⟨rfl, hne, h.1, List.all_eq_true.2 hq, h.2⟩]
  · rw [if_neg h, if_neg fun g => h ⟨g.2.2.1, g.2.2.2.2⟩]
theorem parse_good {w q : List UInt8} (hw : Digits w) (hne : w ≠ []) (hq : Digits q) (h0 : q ≠ []) (h3 : q.length ≤ 3) {n : Int} (hn : n ≤ 4611686018427387903) (hv : valL 0 (w ++ q ++ List.replicate (3 - q.length) 48) = n) : parseL (w ++ 46 :: q) = (n, 0) := by
  rw [parse_plain (head_app hw hne _)]
  unfold restL
  rw [num_point hw hne hq, if_pos ⟨h0, h3⟩, Option.map_some]
  show (min 4611686018427387903 (valL 0 (w ++ q ++ List.replicate (3 - q.length) 48)), (0 : Int)) = _
  rw [hv]
  congr 1
  omega
theorem parse_bad {w q : List UInt8} (hw : Digits w) (hne : w ≠ []) (hq : Digits q) (h : ¬ (q ≠ [] ∧ q.length ≤ 3)) : parseL (w ++ 46 :: q) = (0, 10) := by
  rw [parse_plain (head_app hw hne _)]
  unfold restL
  rw [num_point hw hne hq, if_neg h]
  rfl
theorem noughts_l1 (x : Int) (w : List UInt8) (hw : Digits w) (hne : w ≠ []) (hwl : w.length ≤ 100) : ∀ (d : Nat) (q : List UInt8), Digits q → q ≠ [] → q.length ≤ 3 → 3 - q.length = d → valL 0 (w ++ q ++ List.replicate (3 - q.length) 48) = sat x →
    Ev (fun k => tocsinlaw01_FixedNoughts.l1 k x (str (w ++ 46 :: q)) (w.length : Int)) true := by
  obtain ⟨s0, s1⟩ := sat_range x
  intro d
  induction d with
  | zero =>
    intro q hq h0 h3 hd hv
    have hl : q.length = 3 := by omega
    have e : wrap64 ((w.length : Int) + 4) = (w.length : Int) + 4 := w64 (by omega) (by omega)
    have hsz : (str (w ++ 46 :: q)).size = w.length + 4 := by rw [size_str, List.length_append, List.length_cons]; omega
    refine Ev.step (fun k => by rw [tocsinlaw01_FixedNoughts.l1, e, hsz, if_neg (by omega)]) ?_
    have hp := parse_ev (str (w ++ 46 :: q)) (by omega)
    rw [B_str, parse_good hw hne hq h0 h3 s1 hv] at hp
    refine Ev.bind hp (ev_pos (by omega) ?_)
    have e2 : str (w ++ 46 :: q) ++ (⟨#[48]⟩ : ByteArray) = str (w ++ 46 :: (q ++ [48])) := by
      rw [show (⟨#[48]⟩ : ByteArray) = str [48] from rfl, str_app, List.append_assoc]
      rfl
    rw [e2]
    have hp2 := parse_ev (str (w ++ 46 :: (q ++ [48]))) (by rw [size_str, List.length_append, List.length_cons, List.length_append]; simp; omega)
    rw [B_str, parse_bad (q := q ++ [48]) hw hne (digits_app hq (digits_nought 1)) (fun g => by have := g.2; rw [List.length_append] at this; simp at this; omega)] at hp2
    refine Ev.bind hp2 (ev_pos rfl ?_)
    rw [sat_f]
    exact ev_bsome (ev_pos rfl (ev_some rfl))
  | succ d ih =>
    intro q hq h0 h3 hd hv
    have e : wrap64 ((w.length : Int) + 4) = (w.length : Int) + 4 := w64 (by omega) (by omega)
    have hsz : (str (w ++ 46 :: q)).size = w.length + 1 + q.length := by rw [size_str, List.length_append, List.length_cons]; omega
    have e2 : str (w ++ 46 :: q) ++ (⟨#[48]⟩ : ByteArray) = str (w ++ 46 :: (q ++ [48])) := by
      rw [show (⟨#[48]⟩ : ByteArray) = str [48] from rfl, str_app, List.append_assoc]
      rfl
    refine Ev.step (fun k => by rw [tocsinlaw01_FixedNoughts.l1, e, hsz, if_pos (by omega)]) ?_
    have hp := parse_ev (str (w ++ 46 :: q)) (by omega)
    rw [B_str, parse_good hw hne hq h0 h3 s1 hv] at hp
    refine Ev.bind hp (ev_pos rfl ?_)
    rw [sat_f]
    refine ev_bsome (ev_pos rfl (ev_pos (by omega) ?_))
    rw [e2]
    have hlen : (q ++ [48]).length = q.length + 1 := by rw [List.length_append]; rfl
    refine ih (q ++ [48]) (digits_app hq (digits_nought 1)) (by simp) (by omega) (by omega) ?_
    rw [← hv, hlen, List.append_assoc, List.append_assoc, List.append_assoc]
    congr 3
    rw [show 3 - q.length = (3 - (q.length + 1)) + 1 by omega, List.replicate_succ]
    rfl
/-- Where the last point stands. -/
def lastP (pt : Int) (i : Nat) : List UInt8 → Int
  | [] => pt
  | c :: l => lastP (if c = 46 then (i : Int) else pt) (i + 1) l
theorem lastP_digits : ∀ (l : List UInt8) (pt : Int) (i : Nat), Digits l → lastP pt i l = pt
  | [], _, _, _ => rfl
  | c :: l, pt, i, h => by
    have hc : c ≠ 46 := fun q => by have := h c List.mem_cons_self; rw [q] at this; exact absurd this (by decide)
    rw [lastP, if_neg hc]
    exact lastP_digits l pt (i + 1) fun d hd => h d (List.mem_cons_of_mem _ hd)
theorem lastP_app : ∀ (l m : List UInt8) (pt : Int) (i : Nat), lastP pt i (l ++ m) = lastP (lastP pt i l) (i + l.length) m
  | [], m, pt, i => rfl
  | c :: l, m, pt, i => by
    rw [List.cons_append, lastP, lastP, lastP_app l m, List.length_cons, show i + 1 + l.length = i + (l.length + 1) by omega]
theorem seek (x : Int) (s : ByteArray) (hs : s.size ≤ 1000) (hgo : Ev (fun k => tocsinlaw01_FixedNoughts.l0 k x s (lastP (-1) 0 (B s)) (s.size : Int)) true) : ∀ (d i : Nat) (pt : Int), i ≤ s.size → s.size - i = d → lastP pt i ((B s).drop i) = lastP (-1) 0 (B s) → Ev (fun k => tocsinlaw01_FixedNoughts.l0 k x s pt (i : Int)) true := by
  intro d
  induction d with
  | zero =>
    intro i pt hi hd hp
    have : i = s.size := by omega
    subst this
    rw [List.drop_eq_nil_of_le (by rw [data_length]; exact Nat.le_refl _)] at hp
    have hp : pt = lastP (-1) 0 (B s) := hp
    rw [hp]
    exact hgo
  | succ d ih =>
    intro i pt hi hd hp
    have hlt : i < s.size := by omega
    have hl : i < (B s).length := by rw [data_length]; exact hlt
    rw [List.drop_eq_getElem_cons hl, lastP] at hp
    refine Ev.step (fun k => by rw [tocsinlaw01_FixedNoughts.l0, if_pos (by omega), if_pos (by omega), next_w hlt (by omega)]) ?_
    by_cases a : bt s (i : Int) = 46
    · rw [if_pos ((point_bt s i hl).1 a)] at hp
      exact ev_pos a (ih (i + 1) i (by omega) (by omega) hp)
    · rw [if_neg fun q => a ((point_bt s i hl).2 q)] at hp
      exact ev_neg a (ih (i + 1) pt (by omega) (by omega) hp)
theorem FixedNoughts : tocsinlaw01_FixedNoughts.Pure := by
  intro a _
  obtain ⟨h0, h1⟩ := sat_range a
  refine Ev.rounds ?_
  unfold tocsinlaw01_FixedNoughts.f
  refine Ev.bind awake (ev_pos rfl ?_)
  by_cases ha : a < 0
  · exact ev_pos ha (Ev.now _)
  · refine ev_neg ha ?_
    have hs : 0 ≤ sat a := by rcases sat_cases a with ⟨_, e⟩ | ⟨_, e⟩ | ⟨_, _, e⟩ <;> omega
    obtain ⟨n, hn⟩ : ∃ n : Nat, sat a = (n : Int) := ⟨(sat a).toNat, by omega⟩
    have hnM : n ≤ 4611686018427387903 := by omega
    have e1 : printL (sat a) = absL n := by unfold printL; rw [if_neg (by omega), hn]; rfl
    refine Ev.bind (print_ev a) ?_
    rw [e1]
    obtain ⟨hw, hne, hv⟩ := whole_facts n hnM
    have hwl := decS_length 20 (n / 1000)
    have hal := abs_length n hnM
    refine seek a (str (absL n)) (by rw [size_str]; omega) ?_ (str (absL n)).size 0 (-1) (by omega) (by omega) rfl
    rw [B_str]
    refine Ev.step (fun k => by rw [tocsinlaw01_FixedNoughts.l0, if_neg (by omega)]) ?_
    unfold absL
    by_cases hz : n % 1000 = 0
    · rw [if_pos hz, List.append_nil, lastP_digits _ _ _ hw]
      refine ev_pos (by omega) (ev_pos (by rw [size_str]; omega) ?_)
      rw [show (⟨#[46]⟩ : ByteArray) = str [46] from rfl, show (⟨#[46, 48]⟩ : ByteArray) = str [46, 48] from rfl, str_app, str_app, size_str]
      have hp := parse_ev (str (decS 20 (n / 1000) ++ [46])) (by rw [size_str, List.length_append]; simp; omega)
      rw [B_str, parse_bad (q := []) hw hne (fun c hc => by simp at hc) (fun g => g.1 rfl)] at hp
      refine Ev.bind hp (ev_pos rfl (ev_pos (by omega) ?_))
      refine Ev.step (fun k => by rw [tocsinlaw01_FixedNoughts.j1]) ?_
      refine noughts_l1 a _ hw hne (by omega) 2 [48] (digits_nought 1) (by simp) (by simp) rfl ?_
      show valL 0 (decS 20 (n / 1000) ++ [48] ++ [48, 48]) = _
      rw [List.append_assoc, valL_append, hv, valL_shift, hn]
      show ((n / 1000 : Nat) : Int) * 1000 + 0 = n
      omega
    · obtain ⟨p1, p2, p3, p4, p5⟩ := part_facts (m := n % 1000) (by omega) (by omega)
      have hlast : lastP (-1) 0 (decS 20 (n / 1000) ++ 46 :: partL (n % 1000)) = ((decS 20 (n / 1000)).length : Int) := by
        rw [lastP_app, lastP_digits _ _ _ hw, lastP, if_pos rfl, lastP_digits _ _ _ p1, Nat.zero_add]
      rw [if_neg hz, hlast]
      refine ev_neg (by omega) ?_
      refine Ev.step (fun k => by rw [tocsinlaw01_FixedNoughts.j1]) ?_
      refine noughts_l1 a _ hw hne (by omega) _ (partL (n % 1000)) p1 p2 p3 rfl ?_
      rw [List.append_assoc, valL_append, hv, valL_shift, p4, List.length_append, List.length_replicate, show (partL (n % 1000)).length + (3 - (partL (n % 1000)).length) = 3 by omega, hn]
      show ((n / 1000 : Nat) : Int) * 1000 + ((n % 1000 : Nat) : Int) = n
      omega
end Go.Proofs.YtpmehejlamddeaaDoor.Pure
