/- Functions of the program as plain Lean functions, each with the proof that its call comes to just these answers: written by a program of this session (wip/tools/printg.py over the kit's print) for this claim. -/
import Derived.Test.YtiicfejaoilfcaaQ0
import Derived.Test.YtiicfejaoilfcaaQ14
import Derived.Test.YtiicfejaoilfcaaQ19
namespace Go.Proofs.Ytiicfejaoilfcaa.Q
open Go.RowKit Go.Proofs.YtiicfejaoilfcaaW.PrintWords Go.Proofs.YtiicfejaoilfcaaW.PrintLast Go.Proofs.YtiicfejaoilfcaaW.PrintMore
attribute [local go_sem] Opn.str_leq Opn.str_gtr Opn.str_geq max2_int min2_int max_two min_two max_three min_three max_four min_four   -- for this text's walks alone
set_option linter.unusedVariables false
set_option linter.unusedSimpArgs false

/-! ### labels_quoted: function 37 -/
def unq : List UInt8 → List UInt8 → Option (List UInt8 × List UInt8)
  | _, [] => none
  | acc, c :: l => if c = 34 then some (acc, l) else if c = 92 then (match l with | [] => none | d :: m => if d = 34 ∨ d = 92 then unq (acc ++ [d]) m else none) else unq (acc ++ [c]) l
def quotedL (l : List UInt8) : Option (List UInt8 × List UInt8) := match l with | [] => none | c :: m => if c = 34 then unq [] m else none
def str (l : List UInt8) : ByteArray := ⟨l.toArray⟩
def labels_quoted.f (a0 : ByteArray) : Option (ByteArray × ByteArray × Bool) :=
  if a0.size ≤ 140737488355327 then (match quotedL a0.data.toList with | none => some (str [], str [], false) | some (v, r) => some (str v, str r, true)) else none
theorem ret_qt {a b c d : ByteArray} {x y : Bool} (h1 : a = b) (h2 : c = d) (h3 : x = y) : Ending.returned (.tuple #[.string a, .string c, .bool x]) = .returned (.tuple #[.string b, .string d, .bool y]) := by rw [h1, h2, h3]
theorem extract_str (s : ByteArray) (k : Nat) : s.extract k s.size = str (s.data.toList.drop k) := by
  unfold str
  rw [Lib.extract_eq]
  congr 2
  rw [List.take_of_length_le (by rw [List.length_drop, data_length]; exact Nat.le_refl _)]
theorem prefix_eq (a p : ByteArray) : strings_HasPrefix.f a p = some (p.data.toList.isPrefixOf a.data.toList) := by
  unfold strings_HasPrefix.f stringslite_HasPrefix.f
  by_cases h : (a.size : Int) ≥ (p.size : Int)
  · rw [if_pos h, if_pos (by omega), if_pos (by omega)]
    simp only [Option.bind_some, Option.some.injEq]
    rw [ByteArray.toList_eq p, Lib.extract_toList, List.drop_zero, Nat.sub_zero, Int.toNat_natCast]
    have := Lib.hasPrefix_of_take a.data.toList p.data.toList
    rw [data_length, data_length, decide_eq_true (by omega), Bool.true_and] at this
    exact this
  · rw [if_neg h]
    simp only [Option.bind_some, Option.some.injEq]
    symm
    rw [Bool.eq_false_iff]
    intro hp
    have := (List.isPrefixOf_iff_prefix.1 hp).length_le
    rw [data_length, data_length] at this
    omega
theorem prefix_one (s : ByteArray) (c : UInt8) : (⟨#[c]⟩ : ByteArray).data.toList.isPrefixOf s.data.toList = (s.data.toList.head? == some c) := by
  cases s.data.toList with
  | nil => rfl
  | cons d l =>
    show (c == d && List.isPrefixOf [] l) = (some d == some c)
    rw [List.isPrefixOf, Bool.and_true]
    by_cases h : c = d
    · subst h
      simp
    · rw [beq_eq_false_iff_ne.2 h]
      symm
      rw [beq_eq_false_iff_ne]
      intro e
      exact h (Option.some.inj e).symm
theorem drop_at (s : ByteArray) (k : Nat) (h : k < s.size) : s.data.toList.drop k = (s[k]'h) :: s.data.toList.drop (k + 1) := by
  rw [List.drop_eq_getElem_cons (by rw [data_length]; exact h)]
  rfl
theorem u8_eq {c : UInt8} {n : UInt8} (h : ((c.toNat : Int) == (n.toNat : Int)) = true) : c = n := by
  have := beq_iff_eq.1 h
  exact UInt8.toNat_inj.1 (by omega)
theorem u8_ne {c : UInt8} {n : UInt8} (h : ((c.toNat : Int) == (n.toNat : Int)) = false) : c ≠ n := fun e => by rw [e] at h; simp at h
theorem qt_some {l : List UInt8} {v r : List UInt8} {r1 r2 : ByteArray} {r3 : Bool} (h : (match unq [] l with | none => some (str [], str [], false) | some (v, r) => some (str v, str r, true)) = some (r1, r2, r3)) (hu : unq [] l = some (v, r)) : str v = r1 ∧ str r = r2 ∧ true = r3 := by
  rw [hu] at h
  simpa using h
theorem qt_none {l : List UInt8} {r1 r2 : ByteArray} {r3 : Bool} (h : (match unq [] l with | none => some (str [], str [], false) | some (v, r) => some (str v, str r, true)) = some (r1, r2, r3)) (hu : unq [] l = none) : str [] = r1 ∧ str [] = r2 ∧ false = r3 := by
  rw [hu] at h
  simpa using h
theorem unq_cons (acc : List UInt8) (c : UInt8) (l : List UInt8) : unq acc (c :: l) = if c = 34 then some (acc, l) else if c = 92 then (match l with | [] => none | d :: m => if d = 34 ∨ d = 92 then unq (acc ++ [d]) m else none) else unq (acc ++ [c]) l := by
  rw [unq.eq_def]
theorem unq_nil (acc : List UInt8) : unq acc [] = none := by
  rw [unq.eq_def]
theorem unq_end {acc l : List UInt8} : unq acc (34 :: l) = some (acc, l) := by rw [unq_cons, if_pos rfl]
theorem unq_esc {acc l : List UInt8} {d : UInt8} (h : d = 34 ∨ d = 92) : unq acc (92 :: d :: l) = unq (acc ++ [d]) l := by
  rw [unq_cons, if_neg (by decide), if_pos rfl]
  simp only [if_pos h]
theorem unq_bad {acc l : List UInt8} {d : UInt8} (h : d ≠ 34) (h' : d ≠ 92) : unq acc (92 :: d :: l) = none := by
  rw [unq_cons, if_neg (by decide), if_pos rfl]
  simp only [if_neg (show ¬ (d = 34 ∨ d = 92) from fun e => e.elim h h')]
theorem unq_last {acc : List UInt8} : unq acc [92] = none := by
  rw [unq_cons, if_neg (by decide), if_pos rfl]
theorem unq_one {acc l : List UInt8} {c : UInt8} (h : c ≠ 34) (h' : c ≠ 92) : unq acc (c :: l) = unq (acc ++ [c]) l := by
  rw [unq_cons, if_neg h, if_neg h']
set_option maxHeartbeats 4000000 in
set_option maxRecDepth 100000 in
theorem labels_quoted.calls (a0 : ByteArray) (r1 : ByteArray) (r2 : ByteArray) (r3 : Bool) (w : World) (h : labels_quoted.f a0 = some (r1, r2, r3)) :
    Calls Try.prog 37 #[.string a0] w fun e w' => e = .returned (.tuple #[.string r1, .string r2, .bool r3]) ∧ Below w.heap.size w w' := by
  unfold labels_quoted.f at h
  by_cases hz : a0.size ≤ 140737488355327
  case neg => rw [if_neg hz] at h; cases h
  rw [if_pos hz] at h
  have HP := Aside0.mk (fun W => strings_HasPrefix.calls a0 (⟨#[34]⟩ : ByteArray) _ W (prefix_eq _ _))
  have hq1 := prefix_one a0 34
  cases hd : (a0.data.toList.head? == some 34) with
  | false =>
    rw [hq1, hd] at HP
    have hn : quotedL a0.data.toList = none := by
      unfold quotedL
      cases hl : a0.data.toList with
      | nil => rfl
      | cons c m =>
        rw [hl] at hd
        simp only [List.head?_cons] at hd
        simp only
        rw [if_neg (fun e => by rw [e] at hd; simp at hd)]
    rw [hn] at h
    simp only [Option.some.injEq, Prod.mk.injEq] at h
    have HR := Aside0.mk h
    clear h hn hd hq1
    go_enter Try.func37, Try.ntmps37
    go_wp2_with fail
    refine (HP.out _).mono ?_
    rintro e w1 ⟨rfl, hd1⟩
    have H1 := Aside0.mk (((Below.refl w.heap.size w).alloc (Nat.le_refl _) _).trans (hd1.below.mono (by simp)))
    clear hd1
    go_wp2
    exact bodyPost_ret (v := .tuple #[.string (str []), .string (str []), .bool false]) (by simp [results, Try.results37, go_sem, str]) rfl ⟨ret_qt HR.out.1 HR.out.2.1 HR.out.2.2, H1.out⟩
  | true =>
    rw [hq1, hd] at HP
    have hsz : 1 ≤ a0.size := by
      rcases Nat.eq_zero_or_pos a0.size with h0 | h0
      · have hnil : a0.data.toList = [] := List.length_eq_zero_iff.1 (by rw [data_length]; exact h0)
        rw [hnil] at hd
        simp at hd
      · exact h0
    have hq : quotedL a0.data.toList = unq [] (a0.data.toList.drop 1) := by
      unfold quotedL
      cases hl : a0.data.toList with
      | nil => rw [hl] at hd; simp at hd
      | cons c m =>
        rw [hl] at hd
        simp only [List.head?_cons, beq_iff_eq, Option.some.injEq] at hd
        simp only [hd, if_true, List.drop_succ_cons, List.drop_zero]
    rw [hq] at h
    have HR := Aside0.mk h
    clear h hq hd hq1
    go_enter Try.func37, Try.ntmps37
    go_wp2_with fail
    refine (HP.out _).mono ?_
    rintro e w1 ⟨rfl, hd1⟩
    have HB0 := Aside0.mk (by obtain ⟨n, rfl⟩ := hd1.out; exact .inl ⟨Nat.le_refl _, .slice none 0 0, heap_alloc_new w _, World.ownsRow_nil _ _ _ _, by simp [Value.ownBlock]⟩ : Lib.IsBuilder 58 5 w.heap.size w.heap.size (Lib.byteCells []) w1)
    have HL0 := Aside0.mk (((Below.refl w.heap.size w).alloc (Nat.le_refl _) _).trans (hd1.below.mono (by simp)))
    clear hd1
    go_wp2_with fail
    go_loopw [6] (fun i wr => ∃ k : Nat, 1 ≤ k ∧ k ≤ a0.size ∧ i = .int .i64 k ∧ Aside0 (∃ acc, acc.length + 1 ≤ k ∧ Lib.IsBuilder 58 5 w.heap.size w.heap.size (Lib.byteCells acc) wr ∧ unq acc (a0.data.toList.drop k) = unq [] (a0.data.toList.drop 1)) ∧ Aside0 (Below w.heap.size w wr)) (fun i _ => a0.size - (intOf i).toNat)
    case atStart => exact ⟨1, Nat.le_refl _, hsz, rfl, ⟨[], by simp, HB0.out, rfl⟩, HL0⟩
    case round =>
      obtain ⟨k, hk1, hk, rfl, HB, HL⟩ := hrel
      clear HB0 HL0
      obtain ⟨acc, hacc, hbld, hun⟩ := HB.out
      have HBD := Aside0.mk hbld
      have HU := Aside0.mk hun
      clear HB hbld hun
      by_cases hlt : k < a0.size
      · have hbt : ∀ h : k < a0.size, ((a0[k]'h).toNat : Int) = bt a0 (k : Int) := bt_at a0 (k : Int)
        have HC := Aside0.mk (hbt hlt).symm
        have HD := Aside0.mk (drop_at a0 k hlt)
        cases h34 : (bt a0 (k : Int) == 34) with
        | true =>
          have H34 := Aside0.mk (u8_eq (n := 34) (by rw [← HC.out]; exact h34))
          go_wp2_with fail
          have HQ := Aside0.mk (qt_some HR.out (v := acc) (r := a0.data.toList.drop (k + 1)) (by rw [← HU.out, HD.out, H34.out, unq_end]))
          have hx : a0.extract (k + 1) a0.size = str (a0.data.toList.drop (k + 1)) := extract_str a0 (k + 1)
          have HX := Aside0.mk hx
          clear hx
          have hw1 : IntKind.i64.wrap ((k : Int) + 1) = (k : Int) + 1 := IntWalk.i64_in _ (by omega)
          have hw2 : (0 : Int) ≤ (k : Int) + 1 := by omega
          have hw3 : ((k : Int) + 1).toNat = k + 1 := by omega
          have hw4 : k + 1 ≤ a0.size := by omega
          go_region_with (go_at_call 44; refine (Bld.string w.heap.size w.heap.size acc _ (by exact HBD.out) (by exact below_size (below_drew HL.out))).mono ?_; rintro e w4 ⟨rfl, hl4⟩; have HL4 := Aside0.mk hl4; clear hl4)
          all_goals go_wp2
          all_goals
            refine bodyPost_ret (v := .tuple #[.string (str acc), .string (a0.extract (k + 1) a0.size), .bool true]) (by simp [results, Try.results37, go_sem, Act.put, str]) rfl ?_
            exact ⟨ret_qt HQ.out.1 (HX.out.trans HQ.out.2.1) HQ.out.2.2, (below_drew HL.out).trans HL4.out⟩
        | false =>
          have H34 := Aside0.mk (u8_ne (n := 34) (by rw [← HC.out]; exact h34))
          cases h92 : (bt a0 (k : Int) == 92) with
          | true =>
            have H92 := Aside0.mk (u8_eq (n := 92) (by rw [← HC.out]; exact h92))
            by_cases hlt2 : k + 1 < a0.size
            · have hbt2 : ∀ h : k + 1 < a0.size, ((a0[k + 1]'h).toNat : Int) = bt a0 ((k : Int) + 1) := fun h => by have z := bt_at a0 ((k : Int) + 1) (by omega); exact z
              have HC2 := Aside0.mk (hbt2 hlt2).symm
              have HD2 := Aside0.mk (drop_at a0 (k + 1) hlt2)
              cases h34' : (bt a0 ((k : Int) + 1) == 34) with
              | true =>
                have H34' := Aside0.mk (u8_eq (n := 34) (by rw [← HC2.out]; exact h34'))
                go_wp2_with fail
                refine (Bld.writeByte w.heap.size w.heap.size _ _ _ HBD.out (by rw [cells_len]; omega) (below_size HL.out)).mono ?_
                rintro e w3 ⟨rfl, hb3, hl3⟩
                have HB3 := Aside0.mk hb3
                have HL3 := Aside0.mk (HL.out.trans hl3)
                clear hb3 hl3
                go_wp2
                go_roundw
                case rel => exact ⟨k + 2, by omega, by omega, by go_num, ⟨acc ++ [a0[k + 1]'hlt2], by simp; omega, .inr (by
                  have h3 := HB3.out
                  rw [HC2.out, cells_snoc] at h3
                  exact h3), by
                  rw [← HU.out, HD.out, H92.out, HD2.out, unq_esc (.inl H34'.out)]⟩, HL3⟩
                case measure => simp [intOf]; omega
              | false =>
                have H34' := Aside0.mk (u8_ne (n := 34) (by rw [← HC2.out]; exact h34'))
                cases h92' : (bt a0 ((k : Int) + 1) == 92) with
                | true =>
                  have H92' := Aside0.mk (u8_eq (n := 92) (by rw [← HC2.out]; exact h92'))
                  go_wp2_with fail
                  refine (Bld.writeByte w.heap.size w.heap.size _ _ _ HBD.out (by rw [cells_len]; omega) (below_size HL.out)).mono ?_
                  rintro e w3 ⟨rfl, hb3, hl3⟩
                  have HB3 := Aside0.mk hb3
                  have HL3 := Aside0.mk (HL.out.trans hl3)
                  clear hb3 hl3
                  go_wp2
                  go_roundw
                  case rel => exact ⟨k + 2, by omega, by omega, by go_num, ⟨acc ++ [a0[k + 1]'hlt2], by simp; omega, .inr (by
                    have h3 := HB3.out
                    rw [HC2.out, cells_snoc] at h3
                    exact h3), by
                    rw [← HU.out, HD.out, H92.out, HD2.out, unq_esc (.inr H92'.out)]⟩, HL3⟩
                  case measure => simp [intOf]; omega
                | false =>
                  have H92' := Aside0.mk (u8_ne (n := 92) (by rw [← HC2.out]; exact h92'))
                  go_wp2
                  exact bodyPost_ret (v := .tuple #[.string (str []), .string (str []), .bool false]) (by simp [results, Try.results37, go_sem, str]) rfl (by
                    have hq := qt_none HR.out (by rw [← HU.out, HD.out, H92.out, HD2.out, unq_bad H34'.out H92'.out])
                    exact ⟨ret_qt hq.1 hq.2.1 hq.2.2, HL.out⟩)
            · have hnil := Aside0.mk (List.drop_eq_nil_of_le (by rw [data_length]; omega) : a0.data.toList.drop (k + 1) = [])
              go_wp2
              exact bodyPost_ret (v := .tuple #[.string (str []), .string (str []), .bool false]) (by simp [results, Try.results37, go_sem, str]) rfl (by
                have hq := qt_none HR.out (by rw [← HU.out, HD.out, H92.out, hnil.out, unq_last])
                exact ⟨ret_qt hq.1 hq.2.1 hq.2.2, HL.out⟩)
          | false =>
            have H92 := Aside0.mk (u8_ne (n := 92) (by rw [← HC.out]; exact h92))
            go_wp2_with fail
            refine (Bld.writeByte w.heap.size w.heap.size _ _ _ HBD.out (by rw [cells_len]; omega) (below_size HL.out)).mono ?_
            rintro e w3 ⟨rfl, hb3, hl3⟩
            have HB3 := Aside0.mk hb3
            have HL3 := Aside0.mk (HL.out.trans hl3)
            clear hb3 hl3
            go_wp2
            go_roundw
            case rel => exact ⟨k + 1, by omega, by omega, by go_num, ⟨acc ++ [a0[k]'hlt], by simp; omega, .inr (by
              have h3 := HB3.out
              rw [HC.out, cells_snoc] at h3
              exact h3), by
              rw [← HU.out, HD.out, unq_one H34.out H92.out]⟩, HL3⟩
            case measure => simp [intOf]; omega
      · go_wp2
        exact bodyPost_ret (v := .tuple #[.string (str []), .string (str []), .bool false]) (by simp [results, Try.results37, go_sem, str]) rfl (by
          have hq := qt_none HR.out (by rw [← HU.out, List.drop_eq_nil_of_le (by rw [data_length]; omega), unq_nil])
          exact ⟨ret_qt hq.1 hq.2.1 hq.2.2, HL.out⟩)

end Go.Proofs.Ytiicfejaoilfcaa.Q
