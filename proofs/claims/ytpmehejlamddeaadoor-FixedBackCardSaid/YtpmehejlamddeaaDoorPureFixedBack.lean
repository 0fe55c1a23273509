/- The pure statement of FixedBack: what is written is read as the same number; what is read is written in the shortest way. -/
import Derived.Test.YtpmehejlamddeaaDoorQ11
import Derived.Test.YtpmehejlamddeaaDoorBackP
import Derived.Test.YtpmehejlamddeaaDoorAwakeP
namespace Go.Proofs.YtpmehejlamddeaaDoor.Pure
open Go.RowKit Go.Proofs.YtpmehejlamddeaaDoorW.PrintWords Go.Proofs.YtpmehejlamddeaaDoorW.PrintLast Go.Proofs.YtpmehejlamddeaaDoorW.PrintMore Go.Proofs.YtpmehejlamddeaaDoor.Q
set_option linter.unusedVariables false
set_option linter.unusedSimpArgs false

theorem valL_lt : ∀ (l : List UInt8), Digits l → valL 0 l < 10 ^ l.length
  | [], _ => by decide
  | c :: l, h => by
    obtain ⟨c0, c1⟩ := isD_iff.1 (h c List.mem_cons_self)
    have ih := valL_lt l fun d hd => h d (List.mem_cons_of_mem _ hd)
    show valL (10 * 0 + ((c.toNat : Int) - 48)) l < 10 ^ (l.length + 1)
    rw [valL_shift, Int.pow_succ]
    have : (10 * 0 + ((c.toNat : Int) - 48)) * 10 ^ l.length ≤ 9 * 10 ^ l.length := Int.mul_le_mul_of_nonneg_right (by omega) (Int.le_of_lt (Int.pow_pos (by decide)))
    omega
/-- Digits of one length that say the same are the same. -/
theorem digits_inj : ∀ {l m : List UInt8}, Digits l → Digits m → l.length = m.length → valL 0 l = valL 0 m → l = m
  | [], [], _, _, _, _ => rfl
  | [], _ :: _, _, _, h, _ => by simp at h
  | _ :: _, [], _, _, h, _ => by simp at h
  | c :: l, d :: m, hl, hm, h, hv => by
    obtain ⟨c0, c1⟩ := isD_iff.1 (hl c List.mem_cons_self)
    obtain ⟨d0, d1⟩ := isD_iff.1 (hm d List.mem_cons_self)
    have hl' : Digits l := fun x hx => hl x (List.mem_cons_of_mem _ hx)
    have hm' : Digits m := fun x hx => hm x (List.mem_cons_of_mem _ hx)
    have hlen : l.length = m.length := by simpa using h
    have a1 := valL_lt l hl'
    have a2 := valL_lt m hm'
    have b1 := valL_ge l 0 hl' (by omega)
    have b2 := valL_ge m 0 hm' (by omega)
    have hv : valL (10 * 0 + ((c.toNat : Int) - 48)) l = valL (10 * 0 + ((d.toNat : Int) - 48)) m := hv
    rw [valL_shift l, valL_shift m, ← hlen] at hv
    rw [← hlen] at a2
    have hp : (0 : Int) < 10 ^ l.length := Int.pow_pos (by decide)
    generalize (10 : Int) ^ l.length = t at *
    have e : (10 * 0 + ((c.toNat : Int) - 48)) = (10 * 0 + ((d.toNat : Int) - 48)) := by
      rcases Int.lt_trichotomy (10 * 0 + ((c.toNat : Int) - 48)) (10 * 0 + ((d.toNat : Int) - 48)) with g | g | g
      · have := Int.mul_le_mul_of_nonneg_right (show (10 * 0 + ((c.toNat : Int) - 48)) + 1 ≤ (10 * 0 + ((d.toNat : Int) - 48)) by omega) (Int.le_of_lt hp)
        rw [Int.add_mul, Int.one_mul] at this
        omega
      · exact g
      · have := Int.mul_le_mul_of_nonneg_right (show (10 * 0 + ((d.toNat : Int) - 48)) + 1 ≤ (10 * 0 + ((c.toNat : Int) - 48)) by omega) (Int.le_of_lt hp)
        rw [Int.add_mul, Int.one_mul] at this
        omega
    have ec : c = d := UInt8.toNat_inj.1 (by omega)
    subst ec
    rw [digits_inj hl' hm' hlen (by omega)]
theorem decS_short : ∀ (f u k : Nat), u < 10 ^ k → 0 < k → (decS f u).length ≤ k
  | 0, _, _, _, _ => Nat.zero_le _
  | f + 1, u, k, h, hk => by
    rw [decS]
    by_cases hu : u < 10
    · rw [if_pos hu]; exact hk
    · rw [if_neg hu, List.length_append]
      cases k with
      | zero => omega
      | succ k =>
        rw [Nat.pow_succ] at h
        have hk2 : 0 < k := by
          rcases Nat.eq_zero_or_pos k with g | g
          · subst g; simp at h; omega
          · exact g
        have := decS_short f (u / 10) k (by omega) hk2
        simp
        omega
theorem part_short {m : Nat} (h0 : 0 < m) (h1 : m < 1000) {r : List UInt8} (hr : Digits r) (hl : r.length ≤ 3) (hv : valL 0 (r ++ List.replicate (3 - r.length) 48) = m) : (partL m).length ≤ r.length := by
  obtain ⟨p1, p2, p3, p4, p5⟩ := part_facts h0 h1
  have e := digits_inj (digits_app p1 (digits_nought (3 - (partL m).length))) (digits_app hr (digits_nought (3 - r.length))) (by simp; omega) (by rw [p4, hv])
  refine Nat.le_of_not_lt fun hlt => p5 ?_
  have hpos : 0 < (partL m).length := by omega
  rw [List.getLast?_eq_getElem?]
  have g1 : (partL m ++ List.replicate (3 - (partL m).length) 48)[(partL m).length - 1]? = (partL m)[(partL m).length - 1]? := List.getElem?_append_left (by omega)
  rw [← g1, e, List.getElem?_append_right (by omega), List.getElem?_replicate, if_pos (by omega)]
theorem numL_shape {l w r : List UInt8} (h : numL l = some (w, r)) : (r = [] ∧ l = w) ∨ (r ≠ [] ∧ l = w ++ 46 :: r) := by
  unfold numL at h
  have ht := List.takeWhile_append_dropWhile (p := isD) (l := l)
  split at h
  · split at h
    · exact absurd h (by simp)
    · injection h with h
      injection h with a b
      exact .inl ⟨b.symm, a⟩
  · rename_i c t hd
    split at h
    · rename_i q
      injection h with h
      injection h with a b
      refine .inr ⟨b ▸ q.2.2.1, ?_⟩
      rw [← a, ← b, ← q.1, ← hd, ht]
    · exact absurd h (by simp)
theorem abs_short {l : List UInt8} {v : Int} (h : restL l = some v) : 0 ≤ v ∧ v ≤ 4611686018427387903 ∧ (v < 4611686018427387903 → (absL v.natAbs).length ≤ l.length) := by
  unfold restL at h
  cases hn : numL l with
  | none => rw [hn] at h; exact absurd h (by simp)
  | some p =>
    obtain ⟨w, r⟩ := p
    rw [hn, Option.map_some] at h
    injection h with h
    obtain ⟨d1, d2, d3, d4, d5⟩ := num_facts hn
    have hz := digits_nought (3 - r.length)
    have ge := valL_ge (w ++ r ++ List.replicate (3 - r.length) 48) 0 (digits_app (digits_app d1 d2) hz) (by omega)
    have h' : min 4611686018427387903 (valL 0 (w ++ r ++ List.replicate (3 - r.length) 48)) = v := h
    refine ⟨by omega, by omega, fun hlt => ?_⟩
    have hval : v = valL 0 (w ++ r ++ List.replicate (3 - r.length) 48) := by omega
    have hw0 := valL_ge w 0 d1 (by omega)
    have hw1 := valL_lt w d1
    have hr0 := valL_ge (r ++ List.replicate (3 - r.length) 48) 0 (digits_app d2 hz) (by omega)
    have hr1 := valL_lt (r ++ List.replicate (3 - r.length) 48) (digits_app d2 hz)
    have hlen3 : (r ++ List.replicate (3 - r.length) 48).length = 3 := by rw [List.length_append, List.length_replicate]; omega
    rw [List.append_assoc, valL_append, valL_shift, hlen3] at hval
    rw [hlen3] at hr1
    have e1000 : (10 : Int) ^ 3 = 1000 := rfl
    rw [e1000] at hval hr1
    have q1 : ((v.natAbs / 1000 : Nat) : Int) = valL 0 w := by omega
    have q2 : ((v.natAbs % 1000 : Nat) : Int) = valL 0 (r ++ List.replicate (3 - r.length) 48) := by omega
    have hwl : 0 < w.length := List.length_pos_iff.2 d3
    have s1 : (decS 20 (v.natAbs / 1000)).length ≤ w.length := decS_short 20 _ _ (by
      have : ((v.natAbs / 1000 : Nat) : Int) < ((10 ^ w.length : Nat) : Int) := by rw [q1]; simpa using hw1
      omega) hwl
    unfold absL
    rw [List.length_append]
    rcases numL_shape hn with ⟨a, b⟩ | ⟨a, b⟩
    · have hm : v.natAbs % 1000 = 0 := by
        rw [a] at q2
        have : valL 0 ([] ++ List.replicate (3 - ([] : List UInt8).length) 48) = 0 := by decide
        omega
      rw [if_pos hm, b, List.length_nil]
      omega
    · rw [b, List.length_append, List.length_cons]
      by_cases hm : v.natAbs % 1000 = 0
      · rw [if_pos hm, List.length_nil]; omega
      · rw [if_neg hm, List.length_cons]
        have := part_short (m := v.natAbs % 1000) (by omega) (by omega) d2 d4 q2.symm
        omega
/-- What is read is within the bounds, and is written in no more bytes, where it isn't the greatest number. -/
theorem parse_short {l : List UInt8} {z : Int} (h : parseL l = (z, 0)) : -4611686018427387903 ≤ z ∧ z ≤ 4611686018427387903 ∧ ((printL z).length ≤ l.length ∨ z = 4611686018427387903 ∨ z = -4611686018427387903) := by
  unfold parseL at h
  split at h
  · rename_i t
    split at h
    · rename_i v hv
      injection h with h _
      obtain ⟨a, b, c⟩ := abs_short hv
      refine ⟨by omega, by omega, ?_⟩
      by_cases hz : v = 4611686018427387903
      · exact .inr (.inr (by omega))
      · refine .inl ?_
        have := c (by omega)
        have e : z.natAbs = v.natAbs := by omega
        unfold printL
        rw [List.length_append, List.length_cons, e]
        split <;> simp <;> omega
    · injection h with _ h
      exact absurd h (by decide)
  · split at h
    · rename_i v hv
      injection h with h _
      obtain ⟨a, b, c⟩ := abs_short hv
      refine ⟨by omega, by omega, ?_⟩
      by_cases hz : v = 4611686018427387903
      · exact .inr (.inl (by omega))
      · refine .inl ?_
        have := c (by omega)
        unfold printL
        rw [if_neg (by omega), List.nil_append, ← h]
        exact this
    · injection h with _ h
      exact absurd h (by decide)
theorem parse_err (l : List UInt8) : (∃ z, parseL l = (z, 0)) ∨ parseL l = (0, 10) := by
  unfold parseL
  split
  · split
    · exact .inl ⟨_, rfl⟩
    · exact .inr rfl
  · split
    · exact .inl ⟨_, rfl⟩
    · exact .inr rfl
theorem FixedBack : tocsinlaw01_FixedBack.Pure := by
  intro x s _ _
  refine Ev.rounds ?_
  unfold tocsinlaw01_FixedBack.f
  refine Ev.bind awake (ev_pos rfl ?_)
  by_cases hs : (s.size : Int) > 20000
  · exact ev_pos hs (ev_some rfl)
  refine ev_neg hs ?_
  obtain ⟨h0, h1⟩ := sat_range x
  refine Ev.bind (print_ev x) ?_
  have hl := print_length h0 h1
  have hq := parse_ev (str (printL (sat x))) (by rw [size_str]; omega)
  rw [B_str, parse_print h0 h1] at hq
  refine Ev.bind hq (ev_pos rfl ?_)
  rw [sat_f]
  refine ev_bsome ?_
  have hb : (sat x != sat x) = false := bne_self_eq_false _
  show Ev (fun k => tocsinlaw01_FixedBack.j0 k s (sat x != sat x)) true
  rw [hb]
  refine Ev.step (fun k => by rw [tocsinlaw01_FixedBack.j0, if_neg (by simp)]) ?_
  have hp := parse_ev s (by omega)
  rcases parse_err (B s) with ⟨z, hz⟩ | hz
  · rw [hz] at hp
    obtain ⟨b0, b1, hsh⟩ := parse_short hz
    refine Ev.bind hp (ev_pos rfl ?_)
    have hpr := print_ev z
    rw [sat_id b0 b1] at hpr
    have hl2 := print_length b0 b1
    have hq2 := parse_ev (str (printL z)) (by rw [size_str]; omega)
    rw [B_str, parse_print b0 b1] at hq2
    refine Ev.bind hpr (Ev.bind hq2 ?_)
    dsimp only
    rw [within_true ⟨b0, b1⟩]
    refine ev_bsome (ev_pos rfl (ev_pos rfl (ev_pos rfl ?_)))
    have hfin : Ev (fun k => (fixed_Print.f k z).bind fun t => (some (t.toList == (str (printL z)).toList) : Option Bool)) true := Ev.bind hpr (ev_some (by simp))
    by_cases hlen : ((str (printL z)).size : Int) ≤ (s.size : Int)
    · exact ev_pos hlen hfin
    · refine ev_neg hlen ?_
      rw [size_str, show s.size = (B s).length from (data_length s).symm] at hlen
      by_cases hz1 : z = 4611686018427387903
      · exact ev_pos hz1 hfin
      · refine ev_neg hz1 (ev_pos ?_ hfin)
        rcases hsh with g | g | g
        · exact absurd (by omega) hlen
        · exact absurd g hz1
        · exact g
  · rw [hz] at hp
    exact Ev.bind hp (ev_neg (by decide) (ev_some rfl))
end Go.Proofs.YtpmehejlamddeaaDoor.Pure
