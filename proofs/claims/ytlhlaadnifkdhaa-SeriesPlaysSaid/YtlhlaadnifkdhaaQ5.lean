/- Functions of the program as plain Lean functions, each with the proof that its call comes to just these answers: written by a program of this session (wip/tools/printg.py over the kit's print) for this claim. -/
import Derived.Test.YtlhlaadnifkdhaaQ0
namespace Go.Proofs.Ytlhlaadnifkdhaa.Q
open Go.RowKit Go.Proofs.YtlhlaadnifkdhaaW.PrintWords Go.Proofs.YtlhlaadnifkdhaaW.PrintLast Go.Proofs.YtlhlaadnifkdhaaW.PrintMore
attribute [local go_sem] Opn.str_leq Opn.str_gtr Opn.str_geq max2_int min2_int max_two min_two max_three min_three max_four min_four   -- for this text's walks alone
set_option linter.unusedVariables false
set_option linter.unusedSimpArgs false

-- NOT PRINTED: function 26 (series_Store_none)

/-! ### labels_letter: function 67 -/
def labels_letter.f (a0 : Int) : Option (Bool) := if a0 ≥ 97 then (some (decide (a0 ≤ 122))) else (some false)
set_option maxHeartbeats 8000000 in
set_option maxRecDepth 100000 in
theorem labels_letter.calls (a0 : Int) (r : Bool) (w : World) (h : labels_letter.f a0 = some r) :
    Calls Try.prog 67 #[.int .u8 a0] w fun e w' => e = .returned (.bool r) ∧ Drawn0 w w' := by
  have H : (if a0 ≥ 97 then (some (decide (a0 ≤ 122))) else (some false)) = some r := h
  clear h
  by_cases c2 : a0 ≥ 97
  · rw [if_pos c2] at H
    have c2b0 : decide (97 ≤ a0) = true := decide_eq_true c2
    clear c2
    obtain rfl := Option.some.inj H
    go_enter Try.func67, Try.ntmps67
    go_wp2
    go_ret
    exact ⟨by first | rfl | (simp; done) | (simp [*]; done), by repeat (first | exact Drawn0.refl _ | apply Drawn0.step)⟩
  · rw [if_neg c2] at H
    have c2b0 : decide (97 ≤ a0) = false := decide_eq_false c2
    clear c2
    obtain rfl := Option.some.inj H
    go_enter Try.func67, Try.ntmps67
    go_wp2
    go_ret
    exact ⟨by first | rfl | (simp; done) | (simp [*]; done), by repeat (first | exact Drawn0.refl _ | apply Drawn0.step)⟩

-- NOT PRINTED: function 68 (labels_every)

/-! ### labels_mark: function 69 -/
def labels_mark.f (a0 : Int) : Option (Bool) := (labels_letter.f a0).bind fun t108 => (if t108 = true then (some true) else (if a0 ≥ 48 then (if a0 ≤ 57 then (some true) else (some (a0 == 95))) else (some (a0 == 95))))
set_option maxHeartbeats 8000000 in
set_option maxRecDepth 100000 in
theorem labels_mark.calls (a0 : Int) (r : Bool) (w : World) (h : labels_mark.f a0 = some r) :
    Calls Try.prog 69 #[.int .u8 a0] w fun e w' => e = .returned (.bool r) ∧ Drawn0 w w' := by
  have H : ((labels_letter.f a0).bind fun t108 => (if t108 = true then (some true) else (if a0 ≥ 48 then (if a0 ≤ 57 then (some true) else (some (a0 == 95))) else (some (a0 == 95))))) = some r := h
  clear h
  replace H := Option.bind_eq_some_iff.mp H
  obtain ⟨t108, A20, H⟩ := H
  replace H : (if t108 = true then (some true) else (if a0 ≥ 48 then (if a0 ≤ 57 then (some true) else (some (a0 == 95))) else (some (a0 == 95)))) = some r := H
  have A2 := Aside0.mk A20
  clear A20
  by_cases c3 : t108 = true
  · subst c3
    have H1 : (some true) = some r := by rw [if_pos rfl] at H; exact H
    clear H
    have H := H1
    clear H1
    obtain rfl := Option.some.inj H
    go_enter Try.func69, Try.ntmps69
    go_wp2_with (first | ((with_reducible refine gate_callee (f := 67) rfl ?_); refine goesL_ (some 4) rfl rfl Try.func67 (by kernel_rfl) rfl #[.int .u8 a0] rfl (by (try simp only [List.map_toArray, List.map_cons, List.map_nil]); first | done | rfl | (simp only [List.length_drop, List.length_take]; rfl)) ?_; (with_reducible refine (labels_letter.calls a0 true _ A2.out).mono ?_); rintro e w' ⟨rfl, ⟨nd, rfl⟩⟩; refine ⟨_, rfl, ?_⟩))
    go_ret
    exact ⟨by first | rfl | (simp; done) | (simp [*]; done), by repeat (first | exact Drawn0.refl _ | apply Drawn0.step)⟩
  · replace c3 := Bool.eq_false_iff.mpr c3
    subst c3
    have H1 : (if a0 ≥ 48 then (if a0 ≤ 57 then (some true) else (some (a0 == 95))) else (some (a0 == 95))) = some r := by rw [if_neg (show ¬ (false = true) by decide)] at H; exact H
    clear H
    have H := H1
    clear H1
    by_cases c4 : a0 ≥ 48
    · rw [if_pos c4] at H
      have c4b0 : decide (48 ≤ a0) = true := decide_eq_true c4
      clear c4
      by_cases c5 : a0 ≤ 57
      · rw [if_pos c5] at H
        have c5b0 : decide (a0 ≤ 57) = true := decide_eq_true c5
        clear c5
        obtain rfl := Option.some.inj H
        go_enter Try.func69, Try.ntmps69
        go_wp2_with (first | ((with_reducible refine gate_callee (f := 67) rfl ?_); refine goesL_ (some 4) rfl rfl Try.func67 (by kernel_rfl) rfl #[.int .u8 a0] rfl (by (try simp only [List.map_toArray, List.map_cons, List.map_nil]); first | done | rfl | (simp only [List.length_drop, List.length_take]; rfl)) ?_; (with_reducible refine (labels_letter.calls a0 false _ A2.out).mono ?_); rintro e w' ⟨rfl, ⟨nd, rfl⟩⟩; refine ⟨_, rfl, ?_⟩))
        go_ret
        exact ⟨by first | rfl | (simp; done) | (simp [*]; done), by repeat (first | exact Drawn0.refl _ | apply Drawn0.step)⟩
      · rw [if_neg c5] at H
        have c5b0 : decide (a0 ≤ 57) = false := decide_eq_false c5
        clear c5
        obtain rfl := Option.some.inj H
        go_enter Try.func69, Try.ntmps69
        go_wp2_with (first | ((with_reducible refine gate_callee (f := 67) rfl ?_); refine goesL_ (some 4) rfl rfl Try.func67 (by kernel_rfl) rfl #[.int .u8 a0] rfl (by (try simp only [List.map_toArray, List.map_cons, List.map_nil]); first | done | rfl | (simp only [List.length_drop, List.length_take]; rfl)) ?_; (with_reducible refine (labels_letter.calls a0 false _ A2.out).mono ?_); rintro e w' ⟨rfl, ⟨nd, rfl⟩⟩; refine ⟨_, rfl, ?_⟩))
        go_ret
        exact ⟨by first | rfl | (simp; done) | (simp [*]; done), by repeat (first | exact Drawn0.refl _ | apply Drawn0.step)⟩
    · rw [if_neg c4] at H
      have c4b0 : decide (48 ≤ a0) = false := decide_eq_false c4
      clear c4
      obtain rfl := Option.some.inj H
      go_enter Try.func69, Try.ntmps69
      go_wp2_with (first | ((with_reducible refine gate_callee (f := 67) rfl ?_); refine goesL_ (some 4) rfl rfl Try.func67 (by kernel_rfl) rfl #[.int .u8 a0] rfl (by (try simp only [List.map_toArray, List.map_cons, List.map_nil]); first | done | rfl | (simp only [List.length_drop, List.length_take]; rfl)) ?_; (with_reducible refine (labels_letter.calls a0 false _ A2.out).mono ?_); rintro e w' ⟨rfl, ⟨nd, rfl⟩⟩; refine ⟨_, rfl, ?_⟩))
      go_ret
      exact ⟨by first | rfl | (simp; done) | (simp [*]; done), by repeat (first | exact Drawn0.refl _ | apply Drawn0.step)⟩

/-! ### labels_MayName: function 48 -/
theorem drawn_trans {w w1 w2 : World} (h : Drawn0 w w1) (k : Drawn0 w1 w2) : Drawn0 w w2 := by
  obtain ⟨n, rfl⟩ := k.out
  exact h.step n
theorem ret_bool {a b : Bool} (h : a = b) : Ending.returned (.bool a) = .returned (.bool b) := by rw [h]
def allTo (p : Int → Bool) (s : ByteArray) (k : Nat) : Prop := ∀ j : Nat, j < k → p (bt s j) = true
theorem allTo_snoc {p : Int → Bool} {s : ByteArray} {k : Nat} (h : allTo p s k) (hk : p (bt s k) = true) : allTo p s (k + 1) := fun j hj => by
  rcases Nat.lt_succ_iff_lt_or_eq.1 hj with h1 | rfl
  · exact h j h1
  · exact hk
set_option maxHeartbeats 1000000 in
/-- labels.every at any function value that reads alone. -/
theorem every_calls (g : Nat) (fn : Func) (hf : Try.prog.funcs[g]? = some fn) (hname : (fn.name == "runtime.NumGoroutine") = false) (hb : fn.body.isSome = true) (p : Int → Bool) (hg : ∀ (c : Int) (W : World), Calls Try.prog g #[.int .u8 c] W fun e w' => e = .returned (.bool (p c)) ∧ Drawn0 W w')
    (s : ByteArray) (hs : s.size ≤ 9223372036854775807) (r : Bool) (hr : r = true ↔ allTo p s s.size) (w : World) :
    Calls Try.prog 68 #[.string s, .func (.func g) #[] #[]] w fun e w' => e = .returned (.bool r) ∧ Drawn0 w w' := by
  have HR := Aside0.mk hr
  have HG := Aside0.mk hg
  clear hr hg
  have hen := fun args w => enters_ hf hname hb args w
  go_enter Try.func68, Try.ntmps68
  go_wp2
  go_loopw [8] (fun i wr => ∃ k : Nat, k ≤ s.size ∧ i = .int .i64 k ∧ Aside0 (allTo p s k) ∧ Drawn0 w wr) (fun i _ => s.size - (intOf i).toNat)
  case atStart => exact ⟨0, Nat.zero_le _, rfl, ⟨fun j hj => absurd hj (Nat.not_lt_zero _)⟩, Drawn0.refl _⟩
  case round =>
    obtain ⟨k, hk, rfl, HA, hd⟩ := hrel
    have hbt := bt_at s (k : Int)
    by_cases hlt : k < s.size
    · have hb2 : ∀ h : k < s.size, ((s[k]'h).toNat : Int) = bt s (k : Int) := hbt
      clear hbt
      cases hp : p (bt s (k : Int)) with
      | true =>
        have HP := Aside0.mk hp
        go_wp2_with fail
        refine (HG.out _ _).mono ?_
        rintro e w' ⟨rfl, hdn⟩
        have H2 := Aside0.mk hdn
        clear hdn hb2
        go_wp2
        go_roundw
        case rel => exact ⟨k + 1, by omega, by go_num, ⟨allTo_snoc HA.out HP.out⟩, drawn_trans hd H2.out⟩
        case measure => simp [intOf]; omega
      | false =>
        have HP := Aside0.mk hp
        go_wp2_with fail
        refine (HG.out _ _).mono ?_
        rintro e w' ⟨rfl, hdn⟩
        have H2 := Aside0.mk hdn
        clear hdn hb2
        go_wp2
        go_ret
        exact ⟨ret_bool (by cases r with | false => rfl | true => exact absurd (HR.out.1 rfl k hlt) (by rw [HP.out]; simp)), drawn_trans hd H2.out⟩
    · obtain rfl : k = s.size := by omega
      go_wp2
      go_ret
      exact ⟨ret_bool (HR.out.2 HA.out).symm, hd⟩

def letterB (c : Int) : Bool := decide (97 ≤ c) && decide (c ≤ 122)
def markB (c : Int) : Bool := letterB c || (decide (48 ≤ c) && decide (c ≤ 57)) || c == 95
def allB (p : Int → Bool) (s : ByteArray) : Bool := s.data.toList.all fun b => p b.toNat
theorem bt_list (s : ByteArray) (j : Nat) (h : j < s.data.toList.length) : bt s j = ((s.data.toList[j]'h).toNat : Int) := by
  have h2 : j < s.size := by rw [Array.length_toList] at h; exact h
  rw [← bt_at s (j : Int) (by simpa using h2)]
  simp
  rfl
theorem allB_iff (p : Int → Bool) (s : ByteArray) : allB p s = true ↔ allTo p s s.size := by
  unfold allB allTo
  rw [List.all_eq_true]
  constructor
  · intro h j hj
    have h2 : j < s.data.toList.length := by rw [Array.length_toList]; exact hj
    rw [bt_list s j h2]
    exact h _ (List.getElem_mem h2)
  · intro h b hb
    obtain ⟨j, hj, rfl⟩ := List.getElem_of_mem hb
    have := h j (by rw [Array.length_toList] at hj; exact hj)
    rwa [bt_list s j hj] at this
theorem letter_eq (c : Int) : labels_letter.f c = some (letterB c) := by
  unfold labels_letter.f letterB
  by_cases h : c ≥ 97
  · rw [if_pos h, decide_eq_true (show 97 ≤ c from h), Bool.true_and]
  · rw [if_neg h, decide_eq_false (show ¬ 97 ≤ c from h), Bool.false_and]
theorem mark_eq (c : Int) : labels_mark.f c = some (markB c) := by
  unfold labels_mark.f markB
  rw [letter_eq]
  simp only [Option.bind_some]
  cases letterB c with
  | true => simp
  | false =>
    by_cases h : c ≥ 48
    · by_cases h2 : c ≤ 57
      · simp [h, h2]
      · simp [h, h2]
    · simp [h]
def mayName (s : ByteArray) : Bool := decide (1 ≤ s.size) && (decide (s.size ≤ 16) && (letterB (bt s 0) && allB markB s))
def labels_MayName.f (a0 : ByteArray) : Option Bool := some (mayName a0)
set_option maxHeartbeats 1000000 in
theorem labels_MayName.calls (a0 : ByteArray) (r : Bool) (w : World) (h : labels_MayName.f a0 = some r) :
    Calls Try.prog 48 #[.string a0] w fun e w' => e = .returned (.bool r) ∧ Drawn0 w w' := by
  have H : mayName a0 = r := Option.some.inj h
  clear h
  have HL := Aside0.mk (fun W => labels_letter.calls (bt a0 0) _ W (letter_eq _))
  have HE := Aside0.mk (fun (h : a0.size ≤ 9223372036854775807) W => every_calls 69 Try.f69 Try.func69 (by kernel_rfl) rfl markB (fun c W => labels_mark.calls c _ W (mark_eq c)) a0 h _ (allB_iff _ _) W)
  have hbt := bt_at a0 0
  unfold mayName at H
  by_cases h1 : 1 ≤ a0.size
  · rw [decide_eq_true h1, Bool.true_and] at H
    by_cases h2 : a0.size ≤ 16
    · rw [decide_eq_true h2, Bool.true_and] at H
      have h0 : (0 : Nat) < a0.size := by omega
      have hb2 : ∀ h : 0 < a0.size, ((a0[0]'h).toNat : Int) = bt a0 0 := hbt
      clear hbt
      cases h3 : letterB (bt a0 0) with
      | true =>
        rw [h3, Bool.true_and] at H
        subst H
        rw [h3] at HL
        clear h3
        go_enter Try.func48, Try.ntmps48
        go_wp2_with fail
        refine (HL.out _).mono ?_
        rintro e w' ⟨rfl, hd⟩
        have H2 := Aside0.mk hd
        clear hd hb2
        go_wp2_with fail
        refine (HE.out (by omega) _).mono ?_
        rintro e w'' ⟨rfl, hd⟩
        have H3 := Aside0.mk hd
        clear hd
        go_wp2
        go_ret
        exact ⟨rfl, drawn_trans H2.out H3.out⟩
      | false =>
        rw [h3, Bool.false_and] at H
        subst H
        rw [h3] at HL
        clear h3
        go_enter Try.func48, Try.ntmps48
        go_wp2_with fail
        refine (HL.out _).mono ?_
        rintro e w' ⟨rfl, hd⟩
        have H2 := Aside0.mk hd
        clear hd hb2
        go_wp2
        go_ret
        exact ⟨rfl, H2.out⟩
    · rw [decide_eq_false h2, Bool.false_and] at H
      subst H
      go_enter Try.func48, Try.ntmps48
      go_wp2
      go_ret
      exact ⟨rfl, Drawn0.refl _⟩
  · rw [decide_eq_false h1, Bool.false_and] at H
    subst H
    have hz : a0.size = 0 := by omega
    go_enter Try.func48, Try.ntmps48
    go_wp2
    go_ret
    exact ⟨rfl, Drawn0.refl _⟩

/-! ### labels_sign: function 70 -/
def labels_sign.f (a0 : Int) : Option (Bool) := if a0 ≥ 32 then (some (decide (a0 ≤ 126))) else (some false)
set_option maxHeartbeats 8000000 in
set_option maxRecDepth 100000 in
theorem labels_sign.calls (a0 : Int) (r : Bool) (w : World) (h : labels_sign.f a0 = some r) :
    Calls Try.prog 70 #[.int .u8 a0] w fun e w' => e = .returned (.bool r) ∧ Drawn0 w w' := by
  have H : (if a0 ≥ 32 then (some (decide (a0 ≤ 126))) else (some false)) = some r := h
  clear h
  by_cases c2 : a0 ≥ 32
  · rw [if_pos c2] at H
    have c2b0 : decide (32 ≤ a0) = true := decide_eq_true c2
    clear c2
    obtain rfl := Option.some.inj H
    go_enter Try.func70, Try.ntmps70
    go_wp2
    go_ret
    exact ⟨by first | rfl | (simp; done) | (simp [*]; done), by repeat (first | exact Drawn0.refl _ | apply Drawn0.step)⟩
  · rw [if_neg c2] at H
    have c2b0 : decide (32 ≤ a0) = false := decide_eq_false c2
    clear c2
    obtain rfl := Option.some.inj H
    go_enter Try.func70, Try.ntmps70
    go_wp2
    go_ret
    exact ⟨by first | rfl | (simp; done) | (simp [*]; done), by repeat (first | exact Drawn0.refl _ | apply Drawn0.step)⟩

end Go.Proofs.Ytlhlaadnifkdhaa.Q
