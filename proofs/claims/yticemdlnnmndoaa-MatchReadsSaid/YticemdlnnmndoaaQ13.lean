/- Functions of the program as plain Lean functions, each with the proof that its call comes to just these answers: written by a program of this session (wip/tools/printg.py over the kit's print) for this claim. -/
import Derived.Test.YticemdlnnmndoaaQ0
import Derived.Test.YticemdlnnmndoaaQ10
import Derived.Test.YticemdlnnmndoaaQ11
import Derived.Test.YticemdlnnmndoaaQ12
import Derived.Test.YticemdlnnmndoaaQ18
namespace Go.Proofs.Yticemdlnnmndoaa.Q
open Go.RowKit Go.Proofs.YticemdlnnmndoaaW.PrintWords Go.Proofs.YticemdlnnmndoaaW.PrintLast Go.Proofs.YticemdlnnmndoaaW.PrintMore
attribute [local go_sem] Opn.str_leq Opn.str_gtr Opn.str_geq max2_int min2_int max_two min_two max_three min_three max_four min_four   -- for this text's walks alone
set_option linter.unusedVariables false
set_option linter.unusedSimpArgs false

/-! ### match_one: function 27 -/
def unq : List UInt8 → List UInt8 → Option (List UInt8 × List UInt8)
  | _, [] => none
  | acc, c :: l => if c = 34 then some (acc, l) else if c = 92 then (match l with | [] => none | d :: m => if d = 34 ∨ d = 92 then unq (acc ++ [d]) m else none) else unq (acc ++ [c]) l
def quotedL (l : List UInt8) : Option (List UInt8 × List UInt8) := match l with | [] => none | c :: m => if c = 34 then unq [] m else none
def str (l : List UInt8) : ByteArray := ⟨l.toArray⟩
theorem ret_qt {a b c d : ByteArray} {x y : Bool} (h1 : a = b) (h2 : c = d) (h3 : x = y) : Ending.returned (.tuple #[.string a, .string c, .bool x]) = .returned (.tuple #[.string b, .string d, .bool y]) := by rw [h1, h2, h3]
theorem extract_str (s : ByteArray) (k : Nat) : s.extract k s.size = str (s.data.toList.drop k) := by
  unfold str
  rw [Lib.extract_eq]
  congr 2
  rw [List.take_of_length_le (by rw [List.length_drop, data_length]; exact Nat.le_refl _)]
theorem prefix_eq (a p : ByteArray) : strings_HasPrefix.f a p = some (p.data.toList.isPrefixOf a.data.toList) := by
  unfold strings_HasPrefix.f stringslite_HasPrefix.f
  by_cases h : (a.size : Int) ≥ (p.size : Int)
  · rw [if_pos h, if_pos (by omega), if_pos (by omega)]
    simp only [Option.bind_some, Option.some.injEq]
    rw [ByteArray.toList_eq p, Lib.extract_toList, List.drop_zero, Nat.sub_zero, Int.toNat_natCast]
    have := Lib.hasPrefix_of_take a.data.toList p.data.toList
    rw [data_length, data_length, decide_eq_true (by omega), Bool.true_and] at this
    exact this
  · rw [if_neg h]
    simp only [Option.bind_some, Option.some.injEq]
    symm
    rw [Bool.eq_false_iff]
    intro hp
    have := (List.isPrefixOf_iff_prefix.1 hp).length_le
    rw [data_length, data_length] at this
    omega
theorem prefix_one (s : ByteArray) (c : UInt8) : (⟨#[c]⟩ : ByteArray).data.toList.isPrefixOf s.data.toList = (s.data.toList.head? == some c) := by
  cases s.data.toList with
  | nil => rfl
  | cons d l =>
    show (c == d && List.isPrefixOf [] l) = (some d == some c)
    rw [List.isPrefixOf, Bool.and_true]
    by_cases h : c = d
    · subst h
      simp
    · rw [beq_eq_false_iff_ne.2 h]
      symm
      rw [beq_eq_false_iff_ne]
      intro e
      exact h (Option.some.inj e).symm
theorem drop_at (s : ByteArray) (k : Nat) (h : k < s.size) : s.data.toList.drop k = (s[k]'h) :: s.data.toList.drop (k + 1) := by
  rw [List.drop_eq_getElem_cons (by rw [data_length]; exact h)]
  rfl
theorem u8_eq {c : UInt8} {n : UInt8} (h : ((c.toNat : Int) == (n.toNat : Int)) = true) : c = n := by
  have := beq_iff_eq.1 h
  exact UInt8.toNat_inj.1 (by omega)
theorem u8_ne {c : UInt8} {n : UInt8} (h : ((c.toNat : Int) == (n.toNat : Int)) = false) : c ≠ n := fun e => by rw [e] at h; simp at h
theorem qt_some {l : List UInt8} {v r : List UInt8} {r1 r2 : ByteArray} {r3 : Bool} (h : (match unq [] l with | none => some (str [], str [], false) | some (v, r) => some (str v, str r, true)) = some (r1, r2, r3)) (hu : unq [] l = some (v, r)) : str v = r1 ∧ str r = r2 ∧ true = r3 := by
  rw [hu] at h
  simpa using h
theorem qt_none {l : List UInt8} {r1 r2 : ByteArray} {r3 : Bool} (h : (match unq [] l with | none => some (str [], str [], false) | some (v, r) => some (str v, str r, true)) = some (r1, r2, r3)) (hu : unq [] l = none) : str [] = r1 ∧ str [] = r2 ∧ false = r3 := by
  rw [hu] at h
  simpa using h
theorem unq_cons (acc : List UInt8) (c : UInt8) (l : List UInt8) : unq acc (c :: l) = if c = 34 then some (acc, l) else if c = 92 then (match l with | [] => none | d :: m => if d = 34 ∨ d = 92 then unq (acc ++ [d]) m else none) else unq (acc ++ [c]) l := by
  rw [unq.eq_def]
theorem unq_nil (acc : List UInt8) : unq acc [] = none := by
  rw [unq.eq_def]
theorem unq_end {acc l : List UInt8} : unq acc (34 :: l) = some (acc, l) := by rw [unq_cons, if_pos rfl]
theorem unq_esc {acc l : List UInt8} {d : UInt8} (h : d = 34 ∨ d = 92) : unq acc (92 :: d :: l) = unq (acc ++ [d]) l := by
  rw [unq_cons, if_neg (by decide), if_pos rfl]
  simp only [if_pos h]
theorem unq_bad {acc l : List UInt8} {d : UInt8} (h : d ≠ 34) (h' : d ≠ 92) : unq acc (92 :: d :: l) = none := by
  rw [unq_cons, if_neg (by decide), if_pos rfl]
  simp only [if_neg (show ¬ (d = 34 ∨ d = 92) from fun e => e.elim h h')]
theorem unq_last {acc : List UInt8} : unq acc [92] = none := by
  rw [unq_cons, if_neg (by decide), if_pos rfl]
theorem unq_one {acc l : List UInt8} {c : UInt8} (h : c ≠ 34) (h' : c ≠ 92) : unq acc (c :: l) = unq (acc ++ [c]) l := by
  rw [unq_cons, if_neg h, if_neg h']
def inSet (c : UInt8) : Bool := c == 61 || (c == 33 || c == 94)
def outSet (c : UInt8) : Bool := !inSet c
def spanO (l : List UInt8) : Nat := (l.takeWhile outSet).length
theorem spanO_le (l : List UInt8) : spanO l ≤ l.length := (List.takeWhile_sublist _).length_le
theorem spanO_cons (c : UInt8) (l : List UInt8) : spanO (c :: l) = if inSet c = true then 0 else spanO l + 1 := by
  unfold spanO
  rw [List.takeWhile_cons]
  unfold outSet
  cases inSet c <;> simp
def cutO : List UInt8 → Option (Int × List UInt8)
  | [] => none
  | c :: r => if c = 61 then some (0, r) else match r with
    | [] => none
    | d :: r' => if c = 33 ∧ d = 61 then some (1, r') else if c = 94 ∧ d = 61 then some (2, r') else none
def oneL (s : ByteArray) : ByteArray × Int × ByteArray × ByteArray × Bool :=
  match cutO (s.data.toList.drop (spanO s.data.toList)) with
  | none => (str (s.data.toList.take (spanO s.data.toList)), 0, str [], str [], false)
  | some (q, r) => match quotedL r with
    | none => (str (s.data.toList.take (spanO s.data.toList)), q, str [], str [], false)
    | some (v, r') => (str (s.data.toList.take (spanO s.data.toList)), q, str v, str r', true)
def match_one.f (a0 : ByteArray) : Option (ByteArray × Int × ByteArray × ByteArray × Bool) := if a0.size ≤ 140737488355327 then some (oneL a0) else none
theorem idx_set (c : UInt8) : decide (Lib.indexByte [61, 33, 94] c < 0) = outSet c := by
  unfold outSet inSet
  by_cases h1 : c = 61
  · subst h1; rfl
  · by_cases h2 : c = 33
    · subst h2; rfl
    · by_cases h3 : c = 94
      · subst h3; rfl
      · have e1 : ((61 : UInt8) == c) = false := beq_eq_false_iff_ne.2 (fun e => h1 e.symm)
        have e2 : ((33 : UInt8) == c) = false := beq_eq_false_iff_ne.2 (fun e => h2 e.symm)
        have e3 : ((94 : UInt8) == c) = false := beq_eq_false_iff_ne.2 (fun e => h3 e.symm)
        simp [Lib.indexByte, e1, e2, e3, h1, h2, h3]
theorem idx_bt (s : ByteArray) (k : Nat) (h : k < s.size) : decide (Lib.indexByte (⟨#[61, 33, 94]⟩ : ByteArray).data.toList (bt s (k : Int)).toNat.toUInt8 < 0) = outSet (s[k]'h) := by
  rw [← bt_at s (k : Int) h]
  show decide (Lib.indexByte [61, 33, 94] ((s[k]'h).toNat : Int).toNat.toUInt8 < 0) = _
  rw [Int.toNat_natCast, show (s[k]'h).toNat.toUInt8 = s[k]'h by simp]
  exact idx_set _
/-- What is left behind the i-th sign. -/
def cutAt (l : List UInt8) (i : Nat) : Option (List UInt8) := match i with
  | 0 => (match l with | 61 :: r => some r | _ => none)
  | 1 => (match l with | 33 :: 61 :: r => some r | _ => none)
  | _ => (match l with | 94 :: 61 :: r => some r | _ => none)
theorem cutO_none {l : List UInt8} (h0 : cutAt l 0 = none) (h1 : cutAt l 1 = none) (h2 : cutAt l 2 = none) : cutO l = none := by
  unfold cutAt at h0 h1 h2
  unfold cutO
  cases l with
  | nil => rfl
  | cons c r =>
    by_cases a : c = 61
    · subst a; simp at h0
    · simp only [if_neg a]
      cases r with
      | nil => rfl
      | cons d r' =>
        by_cases e : c = 33 ∧ d = 61
        · obtain ⟨rfl, rfl⟩ := e; simp at h1
        · simp only [if_neg e]
          by_cases f : c = 94 ∧ d = 61
          · obtain ⟨rfl, rfl⟩ := f; simp at h2
          · simp only [if_neg f]
theorem cutO_some {l r : List UInt8} {i : Nat} (hi : i < 3) (h : cutAt l i = some r) : cutO l = some ((i : Int), r) := by
  unfold cutAt at h
  match i, hi with
  | 0, _ =>
    simp only at h
    split at h
    · simp only [Option.some.injEq] at h
      subst h
      rfl
    · cases h
  | 1, _ =>
    simp only at h
    split at h
    · simp only [Option.some.injEq] at h
      subst h
      rfl
    · cases h
  | 2, _ =>
    simp only at h
    split at h
    · simp only [Option.some.injEq] at h
      subst h
      rfl
    · cases h
theorem cut_eq (a p : ByteArray) (hp : p.size ≤ 9223372036854775807) : strings_CutPrefix.f a p = if p.data.toList.isPrefixOf a.data.toList = true then some (str (a.data.toList.drop p.size), true) else some (a, false) := by
  unfold strings_CutPrefix.f stringslite_CutPrefix.f
  have h := prefix_eq a p
  unfold strings_HasPrefix.f at h
  have h' : stringslite_HasPrefix.f a p = some (p.data.toList.isPrefixOf a.data.toList) := by
    cases hx : stringslite_HasPrefix.f a p with
    | none => rw [hx] at h; cases h
    | some b => rw [hx] at h; exact h
  rw [h', Option.bind_some]
  cases hb : p.data.toList.isPrefixOf a.data.toList with
  | true =>
    have hl := (List.isPrefixOf_iff_prefix.1 hb).length_le
    rw [data_length, data_length] at hl
    rw [if_pos rfl, if_pos rfl, if_pos (by omega), if_pos (by omega), Option.bind_some, Int.toNat_natCast, extract_str]
  | false => rfl
theorem extract_list (s : ByteArray) (k : Nat) : (s.extract k s.size).data.toList = s.data.toList.drop k := by
  rw [extract_str]
  rfl
theorem cut_sg (s : ByteArray) {i : Nat} (hi : i < 3) : strings_CutPrefix.f s (Ops.sgO i) = match cutAt s.data.toList i with | some r => some (str r, true) | none => some (s, false) := by
  rw [cut_eq s (Ops.sgO i) (by match i, hi with | 0, _ => decide | 1, _ => decide | 2, _ => decide)]
  unfold cutAt
  match i, hi with
  | 0, _ =>
    show (if ([61] : List UInt8).isPrefixOf s.data.toList = true then some (str (s.data.toList.drop 1), true) else some (s, false)) = _
    cases s.data.toList with
    | nil => rfl
    | cons c r =>
      by_cases a : c = 61
      · subst a; simp
      · have e : ((61 : UInt8) == c) = false := beq_eq_false_iff_ne.2 (fun e => a e.symm)
        simp [List.isPrefixOf, e]
        split
        · rename_i h
          exfalso
          split at h
          · rename_i h2; exact absurd (List.cons.inj h2).1 a
          · cases h
        · rfl
  | 1, _ =>
    show (if ([33, 61] : List UInt8).isPrefixOf s.data.toList = true then some (str (s.data.toList.drop 2), true) else some (s, false)) = _
    match s.data.toList with
    | [] => rfl
    | [c] => simp [List.isPrefixOf]
    | c :: d :: r =>
      by_cases a : c = 33 ∧ d = 61
      · obtain ⟨rfl, rfl⟩ := a; simp
      · have e : ([33, 61] : List UInt8).isPrefixOf (c :: d :: r) = false := by
          rw [Bool.eq_false_iff]
          intro h
          simp [List.isPrefixOf] at h
          exact a ⟨h.1.symm, h.2.symm⟩
        rw [e]
        simp only [Bool.false_eq_true, if_false]
        split
        · rename_i h
          exfalso
          split at h
          · rename_i h2; injection h2 with h1 h2; injection h2 with h2 h3; exact absurd ⟨h1, h2⟩ a
          · cases h
        · rfl
  | 2, _ =>
    show (if ([94, 61] : List UInt8).isPrefixOf s.data.toList = true then some (str (s.data.toList.drop 2), true) else some (s, false)) = _
    match s.data.toList with
    | [] => rfl
    | [c] => simp [List.isPrefixOf]
    | c :: d :: r =>
      by_cases a : c = 94 ∧ d = 61
      · obtain ⟨rfl, rfl⟩ := a; simp
      · have e : ([94, 61] : List UInt8).isPrefixOf (c :: d :: r) = false := by
          rw [Bool.eq_false_iff]
          intro h
          simp [List.isPrefixOf] at h
          exact a ⟨h.1.symm, h.2.symm⟩
        rw [e]
        simp only [Bool.false_eq_true, if_false]
        split
        · rename_i h
          exfalso
          split at h
          · rename_i h2; injection h2 with h1 h2; injection h2 with h2 h3; exact absurd ⟨h1, h2⟩ a
          · cases h
        · rfl
theorem cutAt_len {l r : List UInt8} {i : Nat} (h : cutAt l i = some r) : r.length ≤ l.length := by
  unfold cutAt at h
  split at h <;> split at h <;> first | (simp only [Option.some.injEq] at h; subst h; simp; done) | (simp only [Option.some.injEq] at h; subst h; simp; omega) | cases h
theorem ret_one {s r1 r3 r4 b1 b3 b4 : ByteArray} {r2 b2 : Int} {r5 b5 : Bool} (h : oneL s = (r1, r2, r3, r4, r5)) (h' : oneL s = (b1, b2, b3, b4, b5)) : Ending.returned (.tuple #[.agg #[.string b1, .int .u8 b2, .string b3], .string b4, .bool b5]) = .returned (.tuple #[.agg #[.string r1, .int .u8 r2, .string r3], .string r4, .bool r5]) := by
  rw [h] at h'
  cases h'
  rfl
theorem take_list (s : ByteArray) (n : Nat) : s.extract 0 n = str (s.data.toList.take n) := by
  rw [Lib.extract_eq, List.drop_zero, Nat.sub_zero]
  rfl
theorem one_none {s : ByteArray} {n : Nat} (hn : spanO s.data.toList = n) (h : cutO (s.data.toList.drop n) = none) : oneL s = (s.extract 0 n, 0, ⟨#[]⟩, ⟨#[]⟩, false) := by
  unfold oneL
  rw [hn, h, take_list]
  rfl
theorem one_bad {s : ByteArray} {n : Nat} {q : Int} {r : List UInt8} (hn : spanO s.data.toList = n) (h : cutO (s.data.toList.drop n) = some (q, r)) (hq : quotedL r = none) : oneL s = (s.extract 0 n, q, ⟨#[]⟩, ⟨#[]⟩, false) := by
  unfold oneL
  rw [hn, h, take_list]
  simp only [hq]
  rfl
theorem one_good {s : ByteArray} {n : Nat} {q : Int} {r v r' : List UInt8} (hn : spanO s.data.toList = n) (h : cutO (s.data.toList.drop n) = some (q, r)) (hq : quotedL r = some (v, r')) : oneL s = (s.extract 0 n, q, str v, str r', true) := by
  unfold oneL
  rw [hn, h, take_list]
  simp only [hq]
def leftN : Option Obj → Nat
  | some (.mapIter _ _ seen _) => (if 0 ∈ seen then 0 else 1) + ((if 1 ∈ seen then 0 else 1) + (if 2 ∈ seen then 0 else 1))
  | _ => 0
theorem left_less {b c1 c2 : Nat} {o o' : Option Obj} {seen : Array Nat} {i : Nat} (hi : i < 3) (hn : i ∉ seen) (h : o = some (.mapIter (some b) 3 seen c1)) (h' : o' = some (.mapIter (some b) 3 (seen.push i) c2)) : leftN o' < leftN o := by
  subst h h'
  unfold leftN
  simp only [Array.mem_push]
  match i, hi with
  | 0, _ => simp [hn]
  | 1, _ => simp [hn]
  | 2, _ => simp [hn]
set_option maxHeartbeats 1000000 in
theorem match_one.calls (a0 : ByteArray) (r1 : ByteArray) (r2 : Int) (r3 : ByteArray) (r4 : ByteArray) (r5 : Bool) (w : World) (h : match_one.f a0 = some (r1, r2, r3, r4, r5)) :
    Calls Try.prog 27 #[.string a0] w fun e w' => e = .returned (.tuple #[.agg #[.string r1, .int .u8 r2, .string r3], .string r4, .bool r5]) ∧ Below w.heap.size w w' := by
  unfold match_one.f at h
  by_cases hsz : a0.size ≤ 140737488355327
  case neg => rw [if_neg hsz] at h; cases h
  rw [if_pos hsz] at h
  have HR := Aside0.mk (Option.some.inj h)
  clear h
  obtain ⟨n, hn⟩ : ∃ n, n = spanO a0.data.toList := ⟨_, rfl⟩
  have hnl : n ≤ a0.size := by rw [hn]; have := spanO_le a0.data.toList; rwa [data_length] at this
  have HN := Aside0.mk hn.symm
  clear hn
  go_enter Try.func27, Try.ntmps27
  go_wp2
  go_loopw [5] (fun i wr => ∃ k : Nat, k ≤ a0.size ∧ i = .int .i64 k ∧ Aside0 (k + spanO (a0.data.toList.drop k) = n) ∧ Aside0 (Drawn0 (w.alloc (.cells #[.string ⟨#[]⟩, .int .u8 0, .string ⟨#[]⟩] 30 (0, 0))) wr)) (fun i _ => a0.size - (intOf i).toNat)
  case atStart => exact ⟨0, Nat.zero_le _, rfl, ⟨by rw [List.drop_zero, Nat.zero_add]; exact HN.out⟩, ⟨Drawn0.refl _⟩⟩
  case round =>
    obtain ⟨k, hk, rfl, HK, HD⟩ := hrel
    have hbt := bt_at a0 (k : Int)
    by_cases hlt : k < a0.size
    · have hb2 : ∀ h : k < a0.size, ((a0[k]'h).toNat : Int) = bt a0 (k : Int) := hbt
      have HI := Aside0.mk (idx_bt a0 k hlt)
      have HDA := Aside0.mk (drop_at a0 k hlt)
      clear hbt
      cases hp : outSet (a0[k]'hlt) with
      | true =>
        rw [hp] at HI
        have HP := Aside0.mk hp
        clear hp
        obtain ⟨iv, hiv⟩ : ∃ v, Lib.indexByte (⟨#[61, 33, 94]⟩ : ByteArray).data.toList (bt a0 (k : Int)).toNat.toUInt8 = v := ⟨_, rfl⟩
        have hid : decide (iv < 0) = true := by rw [← hiv]; exact HI.out
        have HIV := Aside0.mk hiv
        clear hiv
        go_wp2_with (first | (go_at_call 42; refine (Ops.idx_v _ _ iv _ HIV.out).mono ?_; rintro e w' ⟨rfl, hw⟩; obtain rfl := hw.symm) | go_in)
        go_roundw
        case rel => exact ⟨k + 1, by omega, by go_num, ⟨by rw [← HK.out, HDA.out, spanO_cons, if_neg (by have := HP.out; unfold outSet at this; simpa using this)]; omega⟩, HD⟩
        case measure => simp [intOf]; omega
      | false =>
        rw [hp] at HI
        have HP := Aside0.mk hp
        clear hp
        have hkn : k = n := by rw [← HK.out, HDA.out, spanO_cons, if_pos (by have := HP.out; unfold outSet at this; simpa using this)]; omega
        obtain ⟨iv, hiv⟩ : ∃ v, Lib.indexByte (⟨#[61, 33, 94]⟩ : ByteArray).data.toList (bt a0 (k : Int)).toNat.toUInt8 = v := ⟨_, rfl⟩
        have hid : decide (iv < 0) = false := by rw [← hiv]; exact HI.out
        have HIV := Aside0.mk hiv
        have Q2 := Aside0.mk (show wr.heap[w.heap.size]? = some (.cells #[.string ⟨#[]⟩, .int .u8 0, .string ⟨#[]⟩] 30 (0, 0)) by obtain ⟨nd, rfl⟩ := HD.out.out; exact blk_drewN (blk_new w _) nd)
        have HBW := Aside0.mk (show Below w.heap.size w wr by obtain ⟨nd, rfl⟩ := HD.out.out; exact pw_below_drewN (below_alloc (Below.refl _ _) _) nd)
        have HSZ := Aside0.mk (show wr.heap.size = w.heap.size + 1 by obtain ⟨nd, rfl⟩ := HD.out.out; simp)
        clear hiv
        obtain rfl : n = k := hkn.symm
        go_wp2_with (first
          | (go_at_call 42; refine (Ops.idx_v _ _ iv _ HIV.out).mono ?_; rintro e w' ⟨rfl, hw⟩; obtain rfl := hw.symm)
          | (go_at_call 28; refine (Ops.ops_calls _).mono ?_; rintro e w2 ⟨b, rfl, hbs, hbm, hb2⟩; have BK2 := Aside0.mk (blk_below (blk_alloc Q2.out _) hb2); have BK6 := Aside0.mk (blk_below (blk_new wr _) hb2); have HB := Aside0.mk ((below_alloc HBW.out _).trans (hb2.mono (below_size (below_alloc HBW.out _)))); have HM := Aside0.mk hbm; have HGT := Aside0.mk (show wr.heap.size < b from by have h9 := hbs; simp at h9; omega); clear hbs hbm hb2)
          | ((with_reducible refine gate_dst (N := 36) rfl ?_); refine Ops.ev_range rfl _ rfl b rfl HM.out ?_; intro ri hri W3 hW3 hb3; have HRI := Aside0.mk (show b < ri by rw [hri]; exact (Array.getElem?_eq_some_iff.1 HM.out).1); have n2 := Aside0.mk (blk_below BK2.out hb3); have n6 := Aside0.mk (blk_below BK6.out hb3); have nM := Aside0.mk (blk_below HM.out hb3); have nB := Aside0.mk (below_step HB.out hb3); have HIT := Aside0.mk hW3; clear BK2 BK6 HM HB hW3 hb3 hri; have BK2 := n2; have BK6 := n6; have HM := nM; have HB := nB; clear n2 n6 nM nB)
          | go_in)
        obtain ⟨g6, hg6⟩ : ∃ g, g = wr.heap.size := ⟨_, rfl⟩
        rw [← hg6] at BK6 HGT
        rw [← hg6]
        have HG6 := Aside0.mk (show w.heap.size < g6 by rw [hg6, HSZ.out]; omega)
        have G6L := Aside0.mk (Nat.le_of_lt HG6.out)
        clear hg6
        simp only [Act.put, List.setIfInBounds_toArray, List.set_cons_succ, List.set_cons_zero]
        go_loopw [7, 8] (fun v7 v8 wq => v7 = .string (a0.extract n a0.size) ∧ v8 = .bool false ∧ ∃ (seen : Array Nat) (c1 : Nat), 3 ≤ c1 ∧ Aside0 (wq.heap[ri]? = some (.mapIter (some b) 3 seen c1)) ∧ Aside0 (∀ i : Nat, i ∈ seen → i < 3 → cutAt (a0.data.toList.drop n) i = none) ∧ Aside0 (wq.heap[w.heap.size]? = some (.cells #[.string ⟨#[]⟩, .int .u8 0, .string ⟨#[]⟩] 30 (0, 0))) ∧ Aside0 (wq.heap[g6]? = some (.cells #[.string (a0.extract 0 n), .int .u8 0, .string ⟨#[]⟩] 30 (0, 0))) ∧ Aside0 (wq.heap[b]? = some (.map Ops.opsMap 3)) ∧ Aside0 (Below w.heap.size w wq)) (fun _ _ wq => leftN (wq.heap[ri]?))
        case atStart => exact ⟨rfl, rfl, #[], 3, Nat.le_refl _, HIT, ⟨fun i hi _ => by simp at hi⟩, BK2, BK6, HM, HB⟩
        case round =>
          clear HIT BK2 BK6 HM HB
          obtain ⟨rfl, rfl, seen, c1, hc1, HIT, HSEEN, BK2, BK6, HM, HB⟩ := hrel
          go_wp2_with (first | ((with_reducible refine gate_dst (N := 37) rfl ?_); refine Ops.ev_next rfl _ rfl ri b c1 seen rfl HIT.out HM.out hc1 (Nat.ne_of_lt HRI.out) ?h0 ?h1))
          case h0 =>
            intro hall
            have hcut : cutO (a0.data.toList.drop n) = none := cutO_none (HSEEN.out 0 (hall (Ops.opE 0) (by simp [Ops.opsMap])) (by omega)) (HSEEN.out 1 (hall (Ops.opE 1) (by simp [Ops.opsMap])) (by omega)) (HSEEN.out 2 (hall (Ops.opE 2) (by simp [Ops.opsMap])) (by omega))
            have HC := Aside0.mk hcut
            clear hall hcut
            have k60 : wr.cell? ⟨g6, 0, none⟩ = some (.string (a0.extract 0 n)) := (blk_cell BK6.out 0).trans rfl
            have k61 : wr.cell? ⟨g6, 1, none⟩ = some (.int .u8 0) := (blk_cell BK6.out 1).trans rfl
            have k62 : wr.cell? ⟨g6, 2, none⟩ = some (.string ⟨#[]⟩) := (blk_cell BK6.out 2).trans rfl
            have fk60 := blk_frozen BK6.out 0
            have fk61 := blk_frozen BK6.out 1
            have fk62 := blk_frozen BK6.out 2
            have hg62 : ¬ g6 = w.heap.size := by have := HG6.out; omega
            have hg26 : ¬ w.heap.size = g6 := by have := HG6.out; omega
            have k20 : wr.cell? ⟨w.heap.size, 0, none⟩ = some (.string ⟨#[]⟩) := (blk_cell BK2.out 0).trans rfl
            have k21 : wr.cell? ⟨w.heap.size, 1, none⟩ = some (.int .u8 0) := (blk_cell BK2.out 1).trans rfl
            have k22 : wr.cell? ⟨w.heap.size, 2, none⟩ = some (.string ⟨#[]⟩) := (blk_cell BK2.out 2).trans rfl
            have fk20 := blk_frozen BK2.out 0
            have fk21 := blk_frozen BK2.out 1
            have fk22 := blk_frozen BK2.out 2
            go_wp2
            refine bodyPost_ret (v := .tuple #[.agg #[.string (a0.extract 0 n), .int .u8 0, .string ⟨#[]⟩], .string ⟨#[]⟩, .bool false]) (by simp [results, Try.results27, go_sem, *]) rfl ⟨ret_one HR.out (one_none HN.out HC.out), ?_⟩
            exact (by repeat (first | (with_reducible first | exact HB.out | apply below_alloc | apply pw_below_drewN | apply below_drew1 | refine below_set ?_ (Nat.le_refl _) | refine below_set ?_ G6L.out) | exact HB.out))
          case h1 =>
            intro e he hns W5 hW5 hen hG
            obtain ⟨i, kf, hi3, hk, hv, hbn⟩ := Ops.opE_shape (e := e) (by first | exact he | simpa using he)
            rw [hk, hv] at hen ⊢
            rw [hbn] at hns hW5
            have HNS := Aside0.mk hns
            have HIT2 := Aside0.mk hW5
            have hs0 : w.heap.size < ri := by have := HG6.out; have := HGT.out; have := HRI.out; omega
            have n2 := Aside0.mk (blk_grown BK2.out hG (by intro e; injection e with e; omega))
            have n6 := Aside0.mk (blk_grown BK6.out hG (by intro e; injection e with e; have := HGT.out; have := HRI.out; omega))
            have nM := Aside0.mk (blk_grown HM.out hG (by intro e; injection e with e; have := HRI.out; omega))
            have nB := Aside0.mk (HB.out.grown hG (below_size HB.out) (by intro k hk; injection hk with hk; omega))
            have hri5 : ri < W5.heap.size := (Array.getElem?_eq_some_iff.1 hW5).1
            have HR5 := Aside0.mk hri5
            have HITO := HIT
            clear BK2 BK6 HM HB HIT hW5 hns hG he hk hv hbn hs0 hri5
            have BK2 := n2
            have BK6 := n6
            have HM := nM
            have HB := nB
            clear n2 n6 nM nB
            have HCP := Aside0.mk (cut_sg (a0.extract n a0.size) hi3)
            cases hcut : cutAt (a0.data.toList.drop n) i with
            | none =>
              have HCU := Aside0.mk hcut
              have HCP2 := Aside0.mk (show strings_CutPrefix.f (a0.extract n a0.size) (Ops.sgO i) = some (a0.extract n a0.size, false) by have h9 := HCP.out; rw [extract_list, hcut] at h9; exact h9)
              clear hcut HCP
              go_wp2_with (first | (go_at_call 26; with_reducible refine (strings_CutPrefix.calls _ _ _ _ _ HCP2.out).mono ?_; rintro e w' ⟨rfl, ⟨nd, rfl⟩⟩; (try first | exact ⟨rfl, _, World.drewN_drewN _ _ _⟩ | exact ⟨rfl, _, Eq.trans (World.drewN_drewN _ _ _) (congrArg (World.drewN _) (Nat.add_assoc _ _ _))⟩)) | go_in)
              go_roundw
              case rel => exact ⟨rfl, rfl, seen.push i, 3, Nat.le_refl _, ⟨blk_drewN (blk_alloc HIT2.out _) _⟩, ⟨fun j hj hj3 => by rcases Array.mem_push.1 hj with hj | hj; exact HSEEN.out j hj hj3; rw [hj]; exact HCU.out⟩, ⟨blk_drewN (blk_alloc BK2.out _) _⟩, ⟨blk_drewN (blk_alloc BK6.out _) _⟩, ⟨blk_drewN (blk_alloc HM.out _) _⟩, ⟨(by repeat (first | (with_reducible first | exact HB.out | apply below_alloc | apply pw_below_drewN | apply below_drew1 | refine below_set ?_ (Nat.le_refl _) | refine below_set ?_ G6L.out) | exact HB.out))⟩⟩
              case measure => exact left_less hi3 HNS.out HITO.out (blk_drewN (blk_alloc HIT2.out _) _)
            | some r =>
              have HCU := Aside0.mk hcut
              have HCP2 := Aside0.mk (show strings_CutPrefix.f (a0.extract n a0.size) (Ops.sgO i) = some (str r, true) by have h9 := HCP.out; rw [extract_list, hcut] at h9; exact h9)
              clear hcut HCP
              have HG6S := Aside0.mk (show g6 < W5.heap.size from (Array.getElem?_eq_some_iff.1 BK6.out).1)
              have HCO := Aside0.mk (cutO_some hi3 HCU.out)
              have k60 : ∀ o, (W5.alloc o).cell? ⟨g6, 0, none⟩ = some (.string (a0.extract 0 n)) := fun o => (blk_cell (blk_alloc BK6.out o) 0).trans rfl
              have k61 : ∀ o, (W5.alloc o).cell? ⟨g6, 1, none⟩ = some (.int .u8 0) := fun o => (blk_cell (blk_alloc BK6.out o) 1).trans rfl
              have k62 : ∀ o, (W5.alloc o).cell? ⟨g6, 2, none⟩ = some (.string ⟨#[]⟩) := fun o => (blk_cell (blk_alloc BK6.out o) 2).trans rfl
              have fk60 : ∀ o, (W5.alloc o).frozen? ⟨g6, 0, none⟩ = false := fun o => blk_frozen (blk_alloc BK6.out o) 0
              have fk61 : ∀ o, (W5.alloc o).frozen? ⟨g6, 1, none⟩ = false := fun o => blk_frozen (blk_alloc BK6.out o) 1
              have fk62 : ∀ o, (W5.alloc o).frozen? ⟨g6, 2, none⟩ = false := fun o => blk_frozen (blk_alloc BK6.out o) 2
              have k20 : ∀ o, (W5.alloc o).cell? ⟨w.heap.size, 0, none⟩ = some (.string ⟨#[]⟩) := fun o => (blk_cell (blk_alloc BK2.out o) 0).trans rfl
              have k21 : ∀ o, (W5.alloc o).cell? ⟨w.heap.size, 1, none⟩ = some (.int .u8 0) := fun o => (blk_cell (blk_alloc BK2.out o) 1).trans rfl
              have k22 : ∀ o, (W5.alloc o).cell? ⟨w.heap.size, 2, none⟩ = some (.string ⟨#[]⟩) := fun o => (blk_cell (blk_alloc BK2.out o) 2).trans rfl
              have fk20 : ∀ o, (W5.alloc o).frozen? ⟨w.heap.size, 0, none⟩ = false := fun o => blk_frozen (blk_alloc BK2.out o) 0
              have fk21 : ∀ o, (W5.alloc o).frozen? ⟨w.heap.size, 1, none⟩ = false := fun o => blk_frozen (blk_alloc BK2.out o) 1
              have fk22 : ∀ o, (W5.alloc o).frozen? ⟨w.heap.size, 2, none⟩ = false := fun o => blk_frozen (blk_alloc BK2.out o) 2
              have hg62 : ¬ g6 = w.heap.size := by have := HG6.out; omega
              have hg26 : ¬ w.heap.size = g6 := by have := HG6.out; omega
              have hg6s : ¬ g6 = W5.heap.size := by have := HG6S.out; omega
              have hg2s : ¬ w.heap.size = W5.heap.size := by have := HG6S.out; have := HG6.out; omega
              cases r with
              | nil =>
                have HQN := Aside0.mk (show quotedL [] = none from rfl)
                have HCP3 := Aside0.mk (show strings_CutPrefix.f (a0.extract n a0.size) (Ops.sgO i) = some (⟨#[]⟩, true) from HCP2.out)
                go_wp2_with (first | (go_at_call 26; with_reducible refine (strings_CutPrefix.calls _ _ _ _ _ HCP3.out).mono ?_; rintro e w' ⟨rfl, ⟨nd, rfl⟩⟩; (try first | exact ⟨rfl, _, World.drewN_drewN _ _ _⟩ | exact ⟨rfl, _, Eq.trans (World.drewN_drewN _ _ _) (congrArg (World.drewN _) (Nat.add_assoc _ _ _))⟩)) | go_in)
                refine bodyPost_ret (v := .tuple #[.agg #[.string (a0.extract 0 n), .int .u8 (i : Int), .string ⟨#[]⟩], .string ⟨#[]⟩, .bool false]) (by simp [results, Try.results27, go_sem, *]) rfl ⟨ret_one HR.out (one_bad HN.out HCO.out HQN.out), ?_⟩
                exact (by repeat (first | (with_reducible first | exact HB.out | apply below_alloc | apply pw_below_drewN | apply below_drew1 | refine below_set ?_ (Nat.le_refl _) | refine below_set ?_ G6L.out) | exact HB.out))
              | cons c m =>
                obtain ⟨rb, hrb⟩ : ∃ rb, rb = str (c :: m) := ⟨_, rfl⟩
                have HCP3 := Aside0.mk (show strings_CutPrefix.f (a0.extract n a0.size) (Ops.sgO i) = some (rb, true) by rw [hrb]; exact HCP2.out)
                have HRB := Aside0.mk (show rb.data.toList = c :: m by rw [hrb]; rfl)
                have hrz : rb.size = m.length + 1 := by rw [hrb]; rfl
                have hrl : rb.toList = c :: m := by rw [ByteArray.toList_eq]; exact HRB.out
                have he1 : (rb.toList == ([] : List UInt8)) = false := by rw [hrl]; rfl
                have he2 : rb.toList.isEmpty = false := by rw [hrl]; rfl
                have h0 : (0 : Nat) < rb.size := by omega
                have hbt : ∀ h : 0 < rb.size, ((rb[0]'h).toNat : Int) = bt rb 0 := bt_at rb 0
                have hrm := spanO_le (a0.data.toList)
                have hc0 : bt rb 0 = (c.toNat : Int) := by
                  have h9 := bt_list rb 0 (by rw [HRB.out]; simp)
                  rw [show ((0 : Nat) : Int) = 0 from rfl] at h9
                  rw [h9]
                  simp [HRB.out]
                have HRZ := Aside0.mk hrz
                clear hrz hrl hrb HCP2
                by_cases h34 : c = 34
                · have HQC := Aside0.mk h34
                  have hq34 : (bt rb 0 == 34) = true := by rw [hc0, h34]; rfl
                  have hq35 : (bt rb 0 != 34) = false := by rw [hc0, h34]; rfl
                  clear hc0
                  go_wp2_with (first | (go_at_call 26; with_reducible refine (strings_CutPrefix.calls _ _ _ _ _ HCP3.out).mono ?_; rintro e w' ⟨rfl, ⟨nd, rfl⟩⟩; (try first | exact ⟨rfl, _, World.drewN_drewN _ _ _⟩ | exact ⟨rfl, _, Eq.trans (World.drewN_drewN _ _ _) (congrArg (World.drewN _) (Nat.add_assoc _ _ _))⟩)) | go_in)
                  have Z2 := Aside0.mk (show ((((W5.alloc (Obj.cells #[Value.string (Ops.sgO i), Value.func (Fn.func kf) #[] #[]] 57 (0, 0))).drewN nd).setCell ⟨g6, 1, none⟩ (Value.int IntKind.u8 (i : Int)))).heap[w.heap.size]? = some (.cells #[.string ⟨#[]⟩, .int .u8 0, .string ⟨#[]⟩] 30 (0, 0)) from (Below.heap_setCell _ _ _ _ (by have := HG6.out; show w.heap.size ≠ g6; omega)).trans (blk_drewN (blk_alloc BK2.out _) nd))
                  have Z6 := Aside0.mk (show ((((W5.alloc (Obj.cells #[Value.string (Ops.sgO i), Value.func (Fn.func kf) #[] #[]] 57 (0, 0))).drewN nd).setCell ⟨g6, 1, none⟩ (Value.int IntKind.u8 (i : Int)))).heap[g6]? = some (.cells #[.string (a0.extract 0 n), .int .u8 (i : Int), .string ⟨#[]⟩] 30 (0, 0)) from blk_put (cs := #[.string (a0.extract 0 n), .int .u8 0, .string ⟨#[]⟩]) (blk_drewN (blk_alloc BK6.out _) nd) 1 _ rfl)
                  have ZB := Aside0.mk (show Below w.heap.size w ((((W5.alloc (Obj.cells #[Value.string (Ops.sgO i), Value.func (Fn.func kf) #[] #[]] 57 (0, 0))).drewN nd).setCell ⟨g6, 1, none⟩ (Value.int IntKind.u8 (i : Int)))) from (by repeat (first | (with_reducible first | exact HB.out | apply below_alloc | apply pw_below_drewN | apply below_drew1 | refine below_set ?_ (Nat.le_refl _) | refine below_set ?_ G6L.out) | exact HB.out)))
                  have ZS := Aside0.mk (show ((((W5.alloc (Obj.cells #[Value.string (Ops.sgO i), Value.func (Fn.func kf) #[] #[]] 57 (0, 0))).drewN nd).setCell ⟨g6, 1, none⟩ (Value.int IntKind.u8 (i : Int)))).heap.size = W5.heap.size + 1 by simp)
                  clear k60 k61 k62 k20 k21 k22 fk60 fk61 fk62 fk20 fk21 fk22 hg62 hg26 hg6s hg2s hq34 hq35 hbt he1 he2
                  generalize (((W5.alloc (Obj.cells #[Value.string (Ops.sgO i), Value.func (Fn.func kf) #[] #[]] 57 (0, 0))).drewN nd).setCell ⟨g6, 1, none⟩ (Value.int IntKind.u8 (i : Int))) = WB at Z2 Z6 ZB ZS ⊢
                  rw [← ZS.out]
                  have HQU := Aside0.mk (show quotedL (c :: m) = unq [] (rb.data.toList.drop 1) by unfold quotedL; rw [HRB.out]; simp only [HQC.out, if_true, List.drop_succ_cons, List.drop_zero])
                  have HB0 := Aside0.mk (.inl ⟨Nat.le_refl _, .slice none 0 0, heap_alloc_new WB _, World.ownsRow_nil _ _ _ _, by simp [Value.ownBlock]⟩ : Lib.IsBuilder 71 5 WB.heap.size WB.heap.size (Lib.byteCells []) (WB.alloc (Obj.cells #[Value.pointer none, Value.slice none 0 0] 71 (0, 0))))
                  have HL0 := Aside0.mk (below_alloc (Below.refl WB.heap.size WB) (Obj.cells #[Value.pointer none, Value.slice none 0 0] 71 (0, 0)))
                  have hrbz : rb.size ≤ 140737488355327 := by
                    have h1 : (a0.data.toList.drop n).length ≤ a0.size := by rw [List.length_drop, data_length]; omega
                    have h2 := cutAt_len HCU.out
                    have h3 := HRZ.out
                    rw [List.length_cons] at h2
                    omega
                  go_loopw [14] (fun v wr => ∃ k : Nat, 1 ≤ k ∧ k ≤ rb.size ∧ v = .int .i64 k ∧ Aside0 (∃ acc, acc.length + 1 ≤ k ∧ Lib.IsBuilder 71 5 WB.heap.size WB.heap.size (Lib.byteCells acc) wr ∧ unq acc (rb.data.toList.drop k) = unq [] (rb.data.toList.drop 1)) ∧ Aside0 (Below WB.heap.size WB wr)) (fun v _ => rb.size - (intOf v).toNat)
                  case atStart => exact ⟨1, Nat.le_refl _, h0, rfl, ⟨[], by simp, HB0.out, rfl⟩, HL0⟩
                  case round =>
                    obtain ⟨k, hk1, hk, rfl, HBX, HL⟩ := hrel
                    clear HB0 HL0 HB
                    obtain ⟨acc, hacc, hbld, hun⟩ := HBX.out
                    have HBD := Aside0.mk hbld
                    have HU := Aside0.mk hun
                    clear HBX hbld hun
                    by_cases hlt : k < rb.size
                    · have hbt : ∀ h : k < rb.size, ((rb[k]'h).toNat : Int) = bt rb (k : Int) := bt_at rb (k : Int)
                      have HC := Aside0.mk (hbt hlt).symm
                      have HD1 := Aside0.mk (drop_at rb k hlt)
                      cases h34 : (bt rb (k : Int) == 34) with
                      | true =>
                        have H34 := Aside0.mk (u8_eq (n := 34) (by rw [← HC.out]; exact h34))
                        have HQG := Aside0.mk (show quotedL (c :: m) = some (acc, rb.data.toList.drop (k + 1)) by rw [HQU.out, ← HU.out, HD1.out, H34.out, unq_end])
                        have hw1 : IntKind.i64.wrap ((k : Int) + 1) = (k : Int) + 1 := IntWalk.i64_in _ (by omega)
                        have hw2 : (0 : Int) ≤ (k : Int) + 1 := by omega
                        have hw3 : ((k : Int) + 1).toNat = k + 1 := by omega
                        have hw4 : k + 1 ≤ rb.size := by omega
                        go_wp2_with fail
                        refine (Bld.string WB.heap.size WB.heap.size acc _ (by exact HBD.out) (by exact below_size HL.out)).mono ?_
                        rintro e w4 ⟨rfl, hl4⟩
                        have HL4 := Aside0.mk (HL.out.trans hl4)
                        clear hl4
                        have b6_ := Aside0.mk ((HL4.out.block g6 (by have := ZS.out; have := HG6S.out; omega)).trans Z6.out)
                        have b2_ := Aside0.mk ((HL4.out.block w.heap.size (by have := ZS.out; have := HG6S.out; have := HG6.out; omega)).trans Z2.out)
                        have k60 : w4.cell? ⟨g6, 0, none⟩ = some (.string (a0.extract 0 n)) := (blk_cell b6_.out 0).trans rfl
                        have k61 : w4.cell? ⟨g6, 1, none⟩ = some (.int .u8 (i : Int)) := (blk_cell b6_.out 1).trans rfl
                        have k62 : w4.cell? ⟨g6, 2, none⟩ = some (.string ⟨#[]⟩) := (blk_cell b6_.out 2).trans rfl
                        have fk60 := blk_frozen b6_.out 0
                        have fk61 := blk_frozen b6_.out 1
                        have fk62 := blk_frozen b6_.out 2
                        have k20 : w4.cell? ⟨w.heap.size, 0, none⟩ = some (.string ⟨#[]⟩) := (blk_cell b2_.out 0).trans rfl
                        have k21 : w4.cell? ⟨w.heap.size, 1, none⟩ = some (.int .u8 0) := (blk_cell b2_.out 1).trans rfl
                        have k22 : w4.cell? ⟨w.heap.size, 2, none⟩ = some (.string ⟨#[]⟩) := (blk_cell b2_.out 2).trans rfl
                        have fk20 := blk_frozen b2_.out 0
                        have fk21 := blk_frozen b2_.out 1
                        have fk22 := blk_frozen b2_.out 2
                        have hg62 : ¬ g6 = w.heap.size := by have := HG6.out; omega
                        have hg26 : ¬ w.heap.size = g6 := by have := HG6.out; omega
                        go_wp2
                        try (go_region_with (fail))
                        all_goals try go_wp2
                        all_goals refine bodyPost_ret (v := .tuple #[.agg #[.string (a0.extract 0 n), .int .u8 (i : Int), .string (str acc)], .string (rb.extract (k + 1) rb.size), .bool true]) (by simp [results, Try.results27, go_sem, str, *]) rfl ⟨ret_one HR.out (by rw [one_good HN.out HCO.out HQG.out, extract_str]), ?_⟩
                        all_goals (have HB := Aside0.mk (ZB.out.trans (HL4.out.mono (below_size ZB.out))); exact (by repeat (first | (with_reducible first | exact HB.out | apply below_alloc | apply pw_below_drewN | apply below_drew1 | refine below_set ?_ (Nat.le_refl _) | refine below_set ?_ G6L.out) | exact HB.out)))
                      | false =>
                        have H34 := Aside0.mk (u8_ne (n := 34) (by rw [← HC.out]; exact h34))
                        cases h92 : (bt rb (k : Int) == 92) with
                        | true =>
                          have H92 := Aside0.mk (u8_eq (n := 92) (by rw [← HC.out]; exact h92))
                          by_cases hlt2 : k + 1 < rb.size
                          · have hbt2 : ∀ h : k + 1 < rb.size, ((rb[k + 1]'h).toNat : Int) = bt rb ((k : Int) + 1) := fun h => by have z := bt_at rb ((k : Int) + 1) (by omega); exact z
                            have HC2 := Aside0.mk (hbt2 hlt2).symm
                            have HD2 := Aside0.mk (drop_at rb (k + 1) hlt2)
                            cases h34' : (bt rb ((k : Int) + 1) == 34) with
                            | true =>
                              have H34' := Aside0.mk (u8_eq (n := 34) (by rw [← HC2.out]; exact h34'))
                              have hn34' : (bt rb ((k : Int) + 1) != 34) = false := by rw [bne, h34']; rfl
                              clear h34'
                              go_wp2_with fail
                              refine (Bld.writeByte WB.heap.size WB.heap.size _ _ _ HBD.out (by rw [cells_len]; omega) (below_size HL.out)).mono ?_
                              rintro e w3 ⟨rfl, hb3, hl3⟩
                              have HB3 := Aside0.mk hb3
                              have HL3 := Aside0.mk (HL.out.trans hl3)
                              clear hb3 hl3
                              go_wp2
                              go_roundw
                              case rel => exact ⟨k + 2, by omega, by omega, by go_num, ⟨acc ++ [rb[k + 1]'hlt2], by simp; omega, .inr (by
                                have h3 := HB3.out
                                rw [HC2.out, cells_snoc] at h3
                                exact h3), by
                                rw [← HU.out, HD1.out, H92.out, HD2.out, unq_esc (.inl H34'.out)]⟩, HL3⟩
                              case measure => simp [intOf]; omega
                            | false =>
                              have H34' := Aside0.mk (u8_ne (n := 34) (by rw [← HC2.out]; exact h34'))
                              have hn34' : (bt rb ((k : Int) + 1) != 34) = true := by rw [bne, h34']; rfl
                              clear h34'
                              cases h92' : (bt rb ((k : Int) + 1) == 92) with
                              | true =>
                                have H92' := Aside0.mk (u8_eq (n := 92) (by rw [← HC2.out]; exact h92'))
                                have hn92' : (bt rb ((k : Int) + 1) != 92) = false := by rw [bne, h92']; rfl
                                clear h92'
                                go_wp2_with fail
                                refine (Bld.writeByte WB.heap.size WB.heap.size _ _ _ HBD.out (by rw [cells_len]; omega) (below_size HL.out)).mono ?_
                                rintro e w3 ⟨rfl, hb3, hl3⟩
                                have HB3 := Aside0.mk hb3
                                have HL3 := Aside0.mk (HL.out.trans hl3)
                                clear hb3 hl3
                                go_wp2
                                go_roundw
                                case rel => exact ⟨k + 2, by omega, by omega, by go_num, ⟨acc ++ [rb[k + 1]'hlt2], by simp; omega, .inr (by
                                  have h3 := HB3.out
                                  rw [HC2.out, cells_snoc] at h3
                                  exact h3), by
                                  rw [← HU.out, HD1.out, H92.out, HD2.out, unq_esc (.inr H92'.out)]⟩, HL3⟩
                                case measure => simp [intOf]; omega
                              | false =>
                                have H92' := Aside0.mk (u8_ne (n := 92) (by rw [← HC2.out]; exact h92'))
                                have hn92' : (bt rb ((k : Int) + 1) != 92) = true := by rw [bne, h92']; rfl
                                clear h92'
                                have b6_ := Aside0.mk ((HL.out.block g6 (by have := ZS.out; have := HG6S.out; omega)).trans Z6.out)
                                have b2_ := Aside0.mk ((HL.out.block w.heap.size (by have := ZS.out; have := HG6S.out; have := HG6.out; omega)).trans Z2.out)
                                have k60 : wr.cell? ⟨g6, 0, none⟩ = some (.string (a0.extract 0 n)) := (blk_cell b6_.out 0).trans rfl
                                have k61 : wr.cell? ⟨g6, 1, none⟩ = some (.int .u8 (i : Int)) := (blk_cell b6_.out 1).trans rfl
                                have k62 : wr.cell? ⟨g6, 2, none⟩ = some (.string ⟨#[]⟩) := (blk_cell b6_.out 2).trans rfl
                                have fk60 := blk_frozen b6_.out 0
                                have fk61 := blk_frozen b6_.out 1
                                have fk62 := blk_frozen b6_.out 2
                                have k20 : wr.cell? ⟨w.heap.size, 0, none⟩ = some (.string ⟨#[]⟩) := (blk_cell b2_.out 0).trans rfl
                                have k21 : wr.cell? ⟨w.heap.size, 1, none⟩ = some (.int .u8 0) := (blk_cell b2_.out 1).trans rfl
                                have k22 : wr.cell? ⟨w.heap.size, 2, none⟩ = some (.string ⟨#[]⟩) := (blk_cell b2_.out 2).trans rfl
                                have fk20 := blk_frozen b2_.out 0
                                have fk21 := blk_frozen b2_.out 1
                                have fk22 := blk_frozen b2_.out 2
                                have hg62 : ¬ g6 = w.heap.size := by have := HG6.out; omega
                                have hg26 : ¬ w.heap.size = g6 := by have := HG6.out; omega
                                have HQN := Aside0.mk (show quotedL (c :: m) = none by rw [HQU.out]; exact (by rw [← HU.out, HD1.out, H92.out, HD2.out, unq_bad H34'.out H92'.out]))
                                go_wp2
                                refine bodyPost_ret (v := .tuple #[.agg #[.string (a0.extract 0 n), .int .u8 (i : Int), .string ⟨#[]⟩], .string ⟨#[]⟩, .bool false]) (by simp [results, Try.results27, go_sem, *]) rfl ⟨ret_one HR.out (one_bad HN.out HCO.out HQN.out), ?_⟩
                                have HB := Aside0.mk (ZB.out.trans (HL.out.mono (below_size ZB.out)))
                                exact (by repeat (first | (with_reducible first | exact HB.out | apply below_alloc | apply pw_below_drewN | apply below_drew1 | refine below_set ?_ (Nat.le_refl _) | refine below_set ?_ G6L.out) | exact HB.out))
                          · have hnil := Aside0.mk (List.drop_eq_nil_of_le (by rw [data_length]; omega) : rb.data.toList.drop (k + 1) = [])
                            have b6_ := Aside0.mk ((HL.out.block g6 (by have := ZS.out; have := HG6S.out; omega)).trans Z6.out)
                            have b2_ := Aside0.mk ((HL.out.block w.heap.size (by have := ZS.out; have := HG6S.out; have := HG6.out; omega)).trans Z2.out)
                            have k60 : wr.cell? ⟨g6, 0, none⟩ = some (.string (a0.extract 0 n)) := (blk_cell b6_.out 0).trans rfl
                            have k61 : wr.cell? ⟨g6, 1, none⟩ = some (.int .u8 (i : Int)) := (blk_cell b6_.out 1).trans rfl
                            have k62 : wr.cell? ⟨g6, 2, none⟩ = some (.string ⟨#[]⟩) := (blk_cell b6_.out 2).trans rfl
                            have fk60 := blk_frozen b6_.out 0
                            have fk61 := blk_frozen b6_.out 1
                            have fk62 := blk_frozen b6_.out 2
                            have k20 : wr.cell? ⟨w.heap.size, 0, none⟩ = some (.string ⟨#[]⟩) := (blk_cell b2_.out 0).trans rfl
                            have k21 : wr.cell? ⟨w.heap.size, 1, none⟩ = some (.int .u8 0) := (blk_cell b2_.out 1).trans rfl
                            have k22 : wr.cell? ⟨w.heap.size, 2, none⟩ = some (.string ⟨#[]⟩) := (blk_cell b2_.out 2).trans rfl
                            have fk20 := blk_frozen b2_.out 0
                            have fk21 := blk_frozen b2_.out 1
                            have fk22 := blk_frozen b2_.out 2
                            have hg62 : ¬ g6 = w.heap.size := by have := HG6.out; omega
                            have hg26 : ¬ w.heap.size = g6 := by have := HG6.out; omega
                            have HQN := Aside0.mk (show quotedL (c :: m) = none by rw [HQU.out]; exact (by rw [← HU.out, HD1.out, H92.out, hnil.out, unq_last]))
                            go_wp2
                            refine bodyPost_ret (v := .tuple #[.agg #[.string (a0.extract 0 n), .int .u8 (i : Int), .string ⟨#[]⟩], .string ⟨#[]⟩, .bool false]) (by simp [results, Try.results27, go_sem, *]) rfl ⟨ret_one HR.out (one_bad HN.out HCO.out HQN.out), ?_⟩
                            have HB := Aside0.mk (ZB.out.trans (HL.out.mono (below_size ZB.out)))
                            exact (by repeat (first | (with_reducible first | exact HB.out | apply below_alloc | apply pw_below_drewN | apply below_drew1 | refine below_set ?_ (Nat.le_refl _) | refine below_set ?_ G6L.out) | exact HB.out))
                        | false =>
                          have H92 := Aside0.mk (u8_ne (n := 92) (by rw [← HC.out]; exact h92))
                          go_wp2_with fail
                          refine (Bld.writeByte WB.heap.size WB.heap.size _ _ _ HBD.out (by rw [cells_len]; omega) (below_size HL.out)).mono ?_
                          rintro e w3 ⟨rfl, hb3, hl3⟩
                          have HB3 := Aside0.mk hb3
                          have HL3 := Aside0.mk (HL.out.trans hl3)
                          clear hb3 hl3
                          go_wp2
                          go_roundw
                          case rel => exact ⟨k + 1, by omega, by omega, by go_num, ⟨acc ++ [rb[k]'hlt], by simp; omega, .inr (by
                            have h3 := HB3.out
                            rw [HC.out, cells_snoc] at h3
                            exact h3), by
                            rw [← HU.out, HD1.out, unq_one H34.out H92.out]⟩, HL3⟩
                          case measure => simp [intOf]; omega
                    · skip
                      have b6_ := Aside0.mk ((HL.out.block g6 (by have := ZS.out; have := HG6S.out; omega)).trans Z6.out)
                      have b2_ := Aside0.mk ((HL.out.block w.heap.size (by have := ZS.out; have := HG6S.out; have := HG6.out; omega)).trans Z2.out)
                      have k60 : wr.cell? ⟨g6, 0, none⟩ = some (.string (a0.extract 0 n)) := (blk_cell b6_.out 0).trans rfl
                      have k61 : wr.cell? ⟨g6, 1, none⟩ = some (.int .u8 (i : Int)) := (blk_cell b6_.out 1).trans rfl
                      have k62 : wr.cell? ⟨g6, 2, none⟩ = some (.string ⟨#[]⟩) := (blk_cell b6_.out 2).trans rfl
                      have fk60 := blk_frozen b6_.out 0
                      have fk61 := blk_frozen b6_.out 1
                      have fk62 := blk_frozen b6_.out 2
                      have k20 : wr.cell? ⟨w.heap.size, 0, none⟩ = some (.string ⟨#[]⟩) := (blk_cell b2_.out 0).trans rfl
                      have k21 : wr.cell? ⟨w.heap.size, 1, none⟩ = some (.int .u8 0) := (blk_cell b2_.out 1).trans rfl
                      have k22 : wr.cell? ⟨w.heap.size, 2, none⟩ = some (.string ⟨#[]⟩) := (blk_cell b2_.out 2).trans rfl
                      have fk20 := blk_frozen b2_.out 0
                      have fk21 := blk_frozen b2_.out 1
                      have fk22 := blk_frozen b2_.out 2
                      have hg62 : ¬ g6 = w.heap.size := by have := HG6.out; omega
                      have hg26 : ¬ w.heap.size = g6 := by have := HG6.out; omega
                      have HQN := Aside0.mk (show quotedL (c :: m) = none by rw [HQU.out]; exact (by rw [← HU.out, List.drop_eq_nil_of_le (by rw [data_length]; omega), unq_nil]))
                      go_wp2
                      refine bodyPost_ret (v := .tuple #[.agg #[.string (a0.extract 0 n), .int .u8 (i : Int), .string ⟨#[]⟩], .string ⟨#[]⟩, .bool false]) (by simp [results, Try.results27, go_sem, *]) rfl ⟨ret_one HR.out (one_bad HN.out HCO.out HQN.out), ?_⟩
                      have HB := Aside0.mk (ZB.out.trans (HL.out.mono (below_size ZB.out)))
                      exact (by repeat (first | (with_reducible first | exact HB.out | apply below_alloc | apply pw_below_drewN | apply below_drew1 | refine below_set ?_ (Nat.le_refl _) | refine below_set ?_ G6L.out) | exact HB.out))
                · have HQN := Aside0.mk (show quotedL (c :: m) = none by unfold quotedL; simp only [if_neg h34])
                  have hq34 : (bt rb 0 == 34) = false := by rw [hc0, beq_eq_false_iff_ne]; exact fun e => h34 (UInt8.toNat_inj.1 (by have : (34 : UInt8).toNat = 34 := rfl; omega))
                  have hq35 : (bt rb 0 != 34) = true := by rw [bne, hq34]; rfl
                  clear hc0 h34
                  go_wp2_with (first | (go_at_call 26; with_reducible refine (strings_CutPrefix.calls _ _ _ _ _ HCP3.out).mono ?_; rintro e w' ⟨rfl, ⟨nd, rfl⟩⟩; (try first | exact ⟨rfl, _, World.drewN_drewN _ _ _⟩ | exact ⟨rfl, _, Eq.trans (World.drewN_drewN _ _ _) (congrArg (World.drewN _) (Nat.add_assoc _ _ _))⟩)) | go_in)
                  refine bodyPost_ret (v := .tuple #[.agg #[.string (a0.extract 0 n), .int .u8 (i : Int), .string ⟨#[]⟩], .string ⟨#[]⟩, .bool false]) (by simp [results, Try.results27, go_sem, *]) rfl ⟨ret_one HR.out (one_bad HN.out HCO.out HQN.out), ?_⟩
                  exact (by repeat (first | (with_reducible first | exact HB.out | apply below_alloc | apply pw_below_drewN | apply below_drew1 | refine below_set ?_ (Nat.le_refl _) | refine below_set ?_ G6L.out) | exact HB.out))
    · have hkn : k = n := by have := HK.out; rw [List.drop_eq_nil_of_le (by rw [data_length]; omega)] at this; exact this
      obtain ⟨iv, hiv⟩ : ∃ v, Lib.indexByte (⟨#[61, 33, 94]⟩ : ByteArray).data.toList (bt a0 (k : Int)).toNat.toUInt8 = v := ⟨_, rfl⟩
      have HIV := Aside0.mk hiv
      have Q2 := Aside0.mk (show wr.heap[w.heap.size]? = some (.cells #[.string ⟨#[]⟩, .int .u8 0, .string ⟨#[]⟩] 30 (0, 0)) by obtain ⟨nd, rfl⟩ := HD.out.out; exact blk_drewN (blk_new w _) nd)
      have HBW := Aside0.mk (show Below w.heap.size w wr by obtain ⟨nd, rfl⟩ := HD.out.out; exact pw_below_drewN (below_alloc (Below.refl _ _) _) nd)
      have HSZ := Aside0.mk (show wr.heap.size = w.heap.size + 1 by obtain ⟨nd, rfl⟩ := HD.out.out; simp)
      clear hiv
      obtain rfl : n = k := hkn.symm
      go_wp2_with (first
        | (go_at_call 42; refine (Ops.idx_v _ _ iv _ HIV.out).mono ?_; rintro e w' ⟨rfl, hw⟩; obtain rfl := hw.symm)
        | (go_at_call 28; refine (Ops.ops_calls _).mono ?_; rintro e w2 ⟨b, rfl, hbs, hbm, hb2⟩; have BK2 := Aside0.mk (blk_below (blk_alloc Q2.out _) hb2); have BK6 := Aside0.mk (blk_below (blk_new wr _) hb2); have HB := Aside0.mk ((below_alloc HBW.out _).trans (hb2.mono (below_size (below_alloc HBW.out _)))); have HM := Aside0.mk hbm; have HGT := Aside0.mk (show wr.heap.size < b from by have h9 := hbs; simp at h9; omega); clear hbs hbm hb2)
        | ((with_reducible refine gate_dst (N := 36) rfl ?_); refine Ops.ev_range rfl _ rfl b rfl HM.out ?_; intro ri hri W3 hW3 hb3; have HRI := Aside0.mk (show b < ri by rw [hri]; exact (Array.getElem?_eq_some_iff.1 HM.out).1); have n2 := Aside0.mk (blk_below BK2.out hb3); have n6 := Aside0.mk (blk_below BK6.out hb3); have nM := Aside0.mk (blk_below HM.out hb3); have nB := Aside0.mk (below_step HB.out hb3); have HIT := Aside0.mk hW3; clear BK2 BK6 HM HB hW3 hb3 hri; have BK2 := n2; have BK6 := n6; have HM := nM; have HB := nB; clear n2 n6 nM nB)
        | go_in)
      obtain ⟨g6, hg6⟩ : ∃ g, g = wr.heap.size := ⟨_, rfl⟩
      rw [← hg6] at BK6 HGT
      rw [← hg6]
      have HG6 := Aside0.mk (show w.heap.size < g6 by rw [hg6, HSZ.out]; omega)
      have G6L := Aside0.mk (Nat.le_of_lt HG6.out)
      clear hg6
      simp only [Act.put, List.setIfInBounds_toArray, List.set_cons_succ, List.set_cons_zero]
      go_loopw [7, 8] (fun v7 v8 wq => v7 = .string (a0.extract n a0.size) ∧ v8 = .bool false ∧ ∃ (seen : Array Nat) (c1 : Nat), 3 ≤ c1 ∧ Aside0 (wq.heap[ri]? = some (.mapIter (some b) 3 seen c1)) ∧ Aside0 (∀ i : Nat, i ∈ seen → i < 3 → cutAt (a0.data.toList.drop n) i = none) ∧ Aside0 (wq.heap[w.heap.size]? = some (.cells #[.string ⟨#[]⟩, .int .u8 0, .string ⟨#[]⟩] 30 (0, 0))) ∧ Aside0 (wq.heap[g6]? = some (.cells #[.string (a0.extract 0 n), .int .u8 0, .string ⟨#[]⟩] 30 (0, 0))) ∧ Aside0 (wq.heap[b]? = some (.map Ops.opsMap 3)) ∧ Aside0 (Below w.heap.size w wq)) (fun _ _ wq => leftN (wq.heap[ri]?))
      case atStart => exact ⟨rfl, rfl, #[], 3, Nat.le_refl _, HIT, ⟨fun i hi _ => by simp at hi⟩, BK2, BK6, HM, HB⟩
      case round =>
        clear HIT BK2 BK6 HM HB
        obtain ⟨rfl, rfl, seen, c1, hc1, HIT, HSEEN, BK2, BK6, HM, HB⟩ := hrel
        go_wp2_with (first | ((with_reducible refine gate_dst (N := 37) rfl ?_); refine Ops.ev_next rfl _ rfl ri b c1 seen rfl HIT.out HM.out hc1 (Nat.ne_of_lt HRI.out) ?h0 ?h1))
        case h0 =>
          intro hall
          have hcut : cutO (a0.data.toList.drop n) = none := cutO_none (HSEEN.out 0 (hall (Ops.opE 0) (by simp [Ops.opsMap])) (by omega)) (HSEEN.out 1 (hall (Ops.opE 1) (by simp [Ops.opsMap])) (by omega)) (HSEEN.out 2 (hall (Ops.opE 2) (by simp [Ops.opsMap])) (by omega))
          have HC := Aside0.mk hcut
          clear hall hcut
          have k60 : wr.cell? ⟨g6, 0, none⟩ = some (.string (a0.extract 0 n)) := (blk_cell BK6.out 0).trans rfl
          have k61 : wr.cell? ⟨g6, 1, none⟩ = some (.int .u8 0) := (blk_cell BK6.out 1).trans rfl
          have k62 : wr.cell? ⟨g6, 2, none⟩ = some (.string ⟨#[]⟩) := (blk_cell BK6.out 2).trans rfl
          have fk60 := blk_frozen BK6.out 0
          have fk61 := blk_frozen BK6.out 1
          have fk62 := blk_frozen BK6.out 2
          have hg62 : ¬ g6 = w.heap.size := by have := HG6.out; omega
          have hg26 : ¬ w.heap.size = g6 := by have := HG6.out; omega
          have k20 : wr.cell? ⟨w.heap.size, 0, none⟩ = some (.string ⟨#[]⟩) := (blk_cell BK2.out 0).trans rfl
          have k21 : wr.cell? ⟨w.heap.size, 1, none⟩ = some (.int .u8 0) := (blk_cell BK2.out 1).trans rfl
          have k22 : wr.cell? ⟨w.heap.size, 2, none⟩ = some (.string ⟨#[]⟩) := (blk_cell BK2.out 2).trans rfl
          have fk20 := blk_frozen BK2.out 0
          have fk21 := blk_frozen BK2.out 1
          have fk22 := blk_frozen BK2.out 2
          go_wp2
          refine bodyPost_ret (v := .tuple #[.agg #[.string (a0.extract 0 n), .int .u8 0, .string ⟨#[]⟩], .string ⟨#[]⟩, .bool false]) (by simp [results, Try.results27, go_sem, *]) rfl ⟨ret_one HR.out (one_none HN.out HC.out), ?_⟩
          exact (by repeat (first | (with_reducible first | exact HB.out | apply below_alloc | apply pw_below_drewN | apply below_drew1 | refine below_set ?_ (Nat.le_refl _) | refine below_set ?_ G6L.out) | exact HB.out))
        case h1 =>
          intro e he hns W5 hW5 hen hG
          obtain ⟨i, kf, hi3, hk, hv, hbn⟩ := Ops.opE_shape (e := e) (by first | exact he | simpa using he)
          rw [hk, hv] at hen ⊢
          rw [hbn] at hns hW5
          have HNS := Aside0.mk hns
          have HIT2 := Aside0.mk hW5
          have hs0 : w.heap.size < ri := by have := HG6.out; have := HGT.out; have := HRI.out; omega
          have n2 := Aside0.mk (blk_grown BK2.out hG (by intro e; injection e with e; omega))
          have n6 := Aside0.mk (blk_grown BK6.out hG (by intro e; injection e with e; have := HGT.out; have := HRI.out; omega))
          have nM := Aside0.mk (blk_grown HM.out hG (by intro e; injection e with e; have := HRI.out; omega))
          have nB := Aside0.mk (HB.out.grown hG (below_size HB.out) (by intro k hk; injection hk with hk; omega))
          have hri5 : ri < W5.heap.size := (Array.getElem?_eq_some_iff.1 hW5).1
          have HR5 := Aside0.mk hri5
          have HITO := HIT
          clear BK2 BK6 HM HB HIT hW5 hns hG he hk hv hbn hs0 hri5
          have BK2 := n2
          have BK6 := n6
          have HM := nM
          have HB := nB
          clear n2 n6 nM nB
          have HCP := Aside0.mk (cut_sg (a0.extract n a0.size) hi3)
          cases hcut : cutAt (a0.data.toList.drop n) i with
          | none =>
            have HCU := Aside0.mk hcut
            have HCP2 := Aside0.mk (show strings_CutPrefix.f (a0.extract n a0.size) (Ops.sgO i) = some (a0.extract n a0.size, false) by have h9 := HCP.out; rw [extract_list, hcut] at h9; exact h9)
            clear hcut HCP
            go_wp2_with (first | (go_at_call 26; with_reducible refine (strings_CutPrefix.calls _ _ _ _ _ HCP2.out).mono ?_; rintro e w' ⟨rfl, ⟨nd, rfl⟩⟩; (try first | exact ⟨rfl, _, World.drewN_drewN _ _ _⟩ | exact ⟨rfl, _, Eq.trans (World.drewN_drewN _ _ _) (congrArg (World.drewN _) (Nat.add_assoc _ _ _))⟩)) | go_in)
            go_roundw
            case rel => exact ⟨rfl, rfl, seen.push i, 3, Nat.le_refl _, ⟨blk_drewN (blk_alloc HIT2.out _) _⟩, ⟨fun j hj hj3 => by rcases Array.mem_push.1 hj with hj | hj; exact HSEEN.out j hj hj3; rw [hj]; exact HCU.out⟩, ⟨blk_drewN (blk_alloc BK2.out _) _⟩, ⟨blk_drewN (blk_alloc BK6.out _) _⟩, ⟨blk_drewN (blk_alloc HM.out _) _⟩, ⟨(by repeat (first | (with_reducible first | exact HB.out | apply below_alloc | apply pw_below_drewN | apply below_drew1 | refine below_set ?_ (Nat.le_refl _) | refine below_set ?_ G6L.out) | exact HB.out))⟩⟩
            case measure => exact left_less hi3 HNS.out HITO.out (blk_drewN (blk_alloc HIT2.out _) _)
          | some r =>
            have HCU := Aside0.mk hcut
            have HCP2 := Aside0.mk (show strings_CutPrefix.f (a0.extract n a0.size) (Ops.sgO i) = some (str r, true) by have h9 := HCP.out; rw [extract_list, hcut] at h9; exact h9)
            clear hcut HCP
            have HG6S := Aside0.mk (show g6 < W5.heap.size from (Array.getElem?_eq_some_iff.1 BK6.out).1)
            have HCO := Aside0.mk (cutO_some hi3 HCU.out)
            have k60 : ∀ o, (W5.alloc o).cell? ⟨g6, 0, none⟩ = some (.string (a0.extract 0 n)) := fun o => (blk_cell (blk_alloc BK6.out o) 0).trans rfl
            have k61 : ∀ o, (W5.alloc o).cell? ⟨g6, 1, none⟩ = some (.int .u8 0) := fun o => (blk_cell (blk_alloc BK6.out o) 1).trans rfl
            have k62 : ∀ o, (W5.alloc o).cell? ⟨g6, 2, none⟩ = some (.string ⟨#[]⟩) := fun o => (blk_cell (blk_alloc BK6.out o) 2).trans rfl
            have fk60 : ∀ o, (W5.alloc o).frozen? ⟨g6, 0, none⟩ = false := fun o => blk_frozen (blk_alloc BK6.out o) 0
            have fk61 : ∀ o, (W5.alloc o).frozen? ⟨g6, 1, none⟩ = false := fun o => blk_frozen (blk_alloc BK6.out o) 1
            have fk62 : ∀ o, (W5.alloc o).frozen? ⟨g6, 2, none⟩ = false := fun o => blk_frozen (blk_alloc BK6.out o) 2
            have k20 : ∀ o, (W5.alloc o).cell? ⟨w.heap.size, 0, none⟩ = some (.string ⟨#[]⟩) := fun o => (blk_cell (blk_alloc BK2.out o) 0).trans rfl
            have k21 : ∀ o, (W5.alloc o).cell? ⟨w.heap.size, 1, none⟩ = some (.int .u8 0) := fun o => (blk_cell (blk_alloc BK2.out o) 1).trans rfl
            have k22 : ∀ o, (W5.alloc o).cell? ⟨w.heap.size, 2, none⟩ = some (.string ⟨#[]⟩) := fun o => (blk_cell (blk_alloc BK2.out o) 2).trans rfl
            have fk20 : ∀ o, (W5.alloc o).frozen? ⟨w.heap.size, 0, none⟩ = false := fun o => blk_frozen (blk_alloc BK2.out o) 0
            have fk21 : ∀ o, (W5.alloc o).frozen? ⟨w.heap.size, 1, none⟩ = false := fun o => blk_frozen (blk_alloc BK2.out o) 1
            have fk22 : ∀ o, (W5.alloc o).frozen? ⟨w.heap.size, 2, none⟩ = false := fun o => blk_frozen (blk_alloc BK2.out o) 2
            have hg62 : ¬ g6 = w.heap.size := by have := HG6.out; omega
            have hg26 : ¬ w.heap.size = g6 := by have := HG6.out; omega
            have hg6s : ¬ g6 = W5.heap.size := by have := HG6S.out; omega
            have hg2s : ¬ w.heap.size = W5.heap.size := by have := HG6S.out; have := HG6.out; omega
            cases r with
            | nil =>
              have HQN := Aside0.mk (show quotedL [] = none from rfl)
              have HCP3 := Aside0.mk (show strings_CutPrefix.f (a0.extract n a0.size) (Ops.sgO i) = some (⟨#[]⟩, true) from HCP2.out)
              go_wp2_with (first | (go_at_call 26; with_reducible refine (strings_CutPrefix.calls _ _ _ _ _ HCP3.out).mono ?_; rintro e w' ⟨rfl, ⟨nd, rfl⟩⟩; (try first | exact ⟨rfl, _, World.drewN_drewN _ _ _⟩ | exact ⟨rfl, _, Eq.trans (World.drewN_drewN _ _ _) (congrArg (World.drewN _) (Nat.add_assoc _ _ _))⟩)) | go_in)
              refine bodyPost_ret (v := .tuple #[.agg #[.string (a0.extract 0 n), .int .u8 (i : Int), .string ⟨#[]⟩], .string ⟨#[]⟩, .bool false]) (by simp [results, Try.results27, go_sem, *]) rfl ⟨ret_one HR.out (one_bad HN.out HCO.out HQN.out), ?_⟩
              exact (by repeat (first | (with_reducible first | exact HB.out | apply below_alloc | apply pw_below_drewN | apply below_drew1 | refine below_set ?_ (Nat.le_refl _) | refine below_set ?_ G6L.out) | exact HB.out))
            | cons c m =>
              obtain ⟨rb, hrb⟩ : ∃ rb, rb = str (c :: m) := ⟨_, rfl⟩
              have HCP3 := Aside0.mk (show strings_CutPrefix.f (a0.extract n a0.size) (Ops.sgO i) = some (rb, true) by rw [hrb]; exact HCP2.out)
              have HRB := Aside0.mk (show rb.data.toList = c :: m by rw [hrb]; rfl)
              have hrz : rb.size = m.length + 1 := by rw [hrb]; rfl
              have hrl : rb.toList = c :: m := by rw [ByteArray.toList_eq]; exact HRB.out
              have he1 : (rb.toList == ([] : List UInt8)) = false := by rw [hrl]; rfl
              have he2 : rb.toList.isEmpty = false := by rw [hrl]; rfl
              have h0 : (0 : Nat) < rb.size := by omega
              have hbt : ∀ h : 0 < rb.size, ((rb[0]'h).toNat : Int) = bt rb 0 := bt_at rb 0
              have hrm := spanO_le (a0.data.toList)
              have hc0 : bt rb 0 = (c.toNat : Int) := by
                have h9 := bt_list rb 0 (by rw [HRB.out]; simp)
                rw [show ((0 : Nat) : Int) = 0 from rfl] at h9
                rw [h9]
                simp [HRB.out]
              have HRZ := Aside0.mk hrz
              clear hrz hrl hrb HCP2
              by_cases h34 : c = 34
              · have HQC := Aside0.mk h34
                have hq34 : (bt rb 0 == 34) = true := by rw [hc0, h34]; rfl
                have hq35 : (bt rb 0 != 34) = false := by rw [hc0, h34]; rfl
                clear hc0
                go_wp2_with (first | (go_at_call 26; with_reducible refine (strings_CutPrefix.calls _ _ _ _ _ HCP3.out).mono ?_; rintro e w' ⟨rfl, ⟨nd, rfl⟩⟩; (try first | exact ⟨rfl, _, World.drewN_drewN _ _ _⟩ | exact ⟨rfl, _, Eq.trans (World.drewN_drewN _ _ _) (congrArg (World.drewN _) (Nat.add_assoc _ _ _))⟩)) | go_in)
                have Z2 := Aside0.mk (show ((((W5.alloc (Obj.cells #[Value.string (Ops.sgO i), Value.func (Fn.func kf) #[] #[]] 57 (0, 0))).drewN nd).setCell ⟨g6, 1, none⟩ (Value.int IntKind.u8 (i : Int)))).heap[w.heap.size]? = some (.cells #[.string ⟨#[]⟩, .int .u8 0, .string ⟨#[]⟩] 30 (0, 0)) from (Below.heap_setCell _ _ _ _ (by have := HG6.out; show w.heap.size ≠ g6; omega)).trans (blk_drewN (blk_alloc BK2.out _) nd))
                have Z6 := Aside0.mk (show ((((W5.alloc (Obj.cells #[Value.string (Ops.sgO i), Value.func (Fn.func kf) #[] #[]] 57 (0, 0))).drewN nd).setCell ⟨g6, 1, none⟩ (Value.int IntKind.u8 (i : Int)))).heap[g6]? = some (.cells #[.string (a0.extract 0 n), .int .u8 (i : Int), .string ⟨#[]⟩] 30 (0, 0)) from blk_put (cs := #[.string (a0.extract 0 n), .int .u8 0, .string ⟨#[]⟩]) (blk_drewN (blk_alloc BK6.out _) nd) 1 _ rfl)
                have ZB := Aside0.mk (show Below w.heap.size w ((((W5.alloc (Obj.cells #[Value.string (Ops.sgO i), Value.func (Fn.func kf) #[] #[]] 57 (0, 0))).drewN nd).setCell ⟨g6, 1, none⟩ (Value.int IntKind.u8 (i : Int)))) from (by repeat (first | (with_reducible first | exact HB.out | apply below_alloc | apply pw_below_drewN | apply below_drew1 | refine below_set ?_ (Nat.le_refl _) | refine below_set ?_ G6L.out) | exact HB.out)))
                have ZS := Aside0.mk (show ((((W5.alloc (Obj.cells #[Value.string (Ops.sgO i), Value.func (Fn.func kf) #[] #[]] 57 (0, 0))).drewN nd).setCell ⟨g6, 1, none⟩ (Value.int IntKind.u8 (i : Int)))).heap.size = W5.heap.size + 1 by simp)
                clear k60 k61 k62 k20 k21 k22 fk60 fk61 fk62 fk20 fk21 fk22 hg62 hg26 hg6s hg2s hq34 hq35 hbt he1 he2
                generalize (((W5.alloc (Obj.cells #[Value.string (Ops.sgO i), Value.func (Fn.func kf) #[] #[]] 57 (0, 0))).drewN nd).setCell ⟨g6, 1, none⟩ (Value.int IntKind.u8 (i : Int))) = WB at Z2 Z6 ZB ZS ⊢
                rw [← ZS.out]
                have HQU := Aside0.mk (show quotedL (c :: m) = unq [] (rb.data.toList.drop 1) by unfold quotedL; rw [HRB.out]; simp only [HQC.out, if_true, List.drop_succ_cons, List.drop_zero])
                have HB0 := Aside0.mk (.inl ⟨Nat.le_refl _, .slice none 0 0, heap_alloc_new WB _, World.ownsRow_nil _ _ _ _, by simp [Value.ownBlock]⟩ : Lib.IsBuilder 71 5 WB.heap.size WB.heap.size (Lib.byteCells []) (WB.alloc (Obj.cells #[Value.pointer none, Value.slice none 0 0] 71 (0, 0))))
                have HL0 := Aside0.mk (below_alloc (Below.refl WB.heap.size WB) (Obj.cells #[Value.pointer none, Value.slice none 0 0] 71 (0, 0)))
                have hrbz : rb.size ≤ 140737488355327 := by
                  have h1 : (a0.data.toList.drop n).length ≤ a0.size := by rw [List.length_drop, data_length]; omega
                  have h2 := cutAt_len HCU.out
                  have h3 := HRZ.out
                  rw [List.length_cons] at h2
                  omega
                go_loopw [14] (fun v wr => ∃ k : Nat, 1 ≤ k ∧ k ≤ rb.size ∧ v = .int .i64 k ∧ Aside0 (∃ acc, acc.length + 1 ≤ k ∧ Lib.IsBuilder 71 5 WB.heap.size WB.heap.size (Lib.byteCells acc) wr ∧ unq acc (rb.data.toList.drop k) = unq [] (rb.data.toList.drop 1)) ∧ Aside0 (Below WB.heap.size WB wr)) (fun v _ => rb.size - (intOf v).toNat)
                case atStart => exact ⟨1, Nat.le_refl _, h0, rfl, ⟨[], by simp, HB0.out, rfl⟩, HL0⟩
                case round =>
                  obtain ⟨k, hk1, hk, rfl, HBX, HL⟩ := hrel
                  clear HB0 HL0 HB
                  obtain ⟨acc, hacc, hbld, hun⟩ := HBX.out
                  have HBD := Aside0.mk hbld
                  have HU := Aside0.mk hun
                  clear HBX hbld hun
                  by_cases hlt : k < rb.size
                  · have hbt : ∀ h : k < rb.size, ((rb[k]'h).toNat : Int) = bt rb (k : Int) := bt_at rb (k : Int)
                    have HC := Aside0.mk (hbt hlt).symm
                    have HD1 := Aside0.mk (drop_at rb k hlt)
                    cases h34 : (bt rb (k : Int) == 34) with
                    | true =>
                      have H34 := Aside0.mk (u8_eq (n := 34) (by rw [← HC.out]; exact h34))
                      have HQG := Aside0.mk (show quotedL (c :: m) = some (acc, rb.data.toList.drop (k + 1)) by rw [HQU.out, ← HU.out, HD1.out, H34.out, unq_end])
                      have hw1 : IntKind.i64.wrap ((k : Int) + 1) = (k : Int) + 1 := IntWalk.i64_in _ (by omega)
                      have hw2 : (0 : Int) ≤ (k : Int) + 1 := by omega
                      have hw3 : ((k : Int) + 1).toNat = k + 1 := by omega
                      have hw4 : k + 1 ≤ rb.size := by omega
                      go_wp2_with fail
                      refine (Bld.string WB.heap.size WB.heap.size acc _ (by exact HBD.out) (by exact below_size HL.out)).mono ?_
                      rintro e w4 ⟨rfl, hl4⟩
                      have HL4 := Aside0.mk (HL.out.trans hl4)
                      clear hl4
                      have b6_ := Aside0.mk ((HL4.out.block g6 (by have := ZS.out; have := HG6S.out; omega)).trans Z6.out)
                      have b2_ := Aside0.mk ((HL4.out.block w.heap.size (by have := ZS.out; have := HG6S.out; have := HG6.out; omega)).trans Z2.out)
                      have k60 : w4.cell? ⟨g6, 0, none⟩ = some (.string (a0.extract 0 n)) := (blk_cell b6_.out 0).trans rfl
                      have k61 : w4.cell? ⟨g6, 1, none⟩ = some (.int .u8 (i : Int)) := (blk_cell b6_.out 1).trans rfl
                      have k62 : w4.cell? ⟨g6, 2, none⟩ = some (.string ⟨#[]⟩) := (blk_cell b6_.out 2).trans rfl
                      have fk60 := blk_frozen b6_.out 0
                      have fk61 := blk_frozen b6_.out 1
                      have fk62 := blk_frozen b6_.out 2
                      have k20 : w4.cell? ⟨w.heap.size, 0, none⟩ = some (.string ⟨#[]⟩) := (blk_cell b2_.out 0).trans rfl
                      have k21 : w4.cell? ⟨w.heap.size, 1, none⟩ = some (.int .u8 0) := (blk_cell b2_.out 1).trans rfl
                      have k22 : w4.cell? ⟨w.heap.size, 2, none⟩ = some (.string ⟨#[]⟩) := (blk_cell b2_.out 2).trans rfl
                      have fk20 := blk_frozen b2_.out 0
                      have fk21 := blk_frozen b2_.out 1
                      have fk22 := blk_frozen b2_.out 2
                      have hg62 : ¬ g6 = w.heap.size := by have := HG6.out; omega
                      have hg26 : ¬ w.heap.size = g6 := by have := HG6.out; omega
                      go_wp2
                      try (go_region_with (fail))
                      all_goals try go_wp2
                      all_goals refine bodyPost_ret (v := .tuple #[.agg #[.string (a0.extract 0 n), .int .u8 (i : Int), .string (str acc)], .string (rb.extract (k + 1) rb.size), .bool true]) (by simp [results, Try.results27, go_sem, str, *]) rfl ⟨ret_one HR.out (by rw [one_good HN.out HCO.out HQG.out, extract_str]), ?_⟩
                      all_goals (have HB := Aside0.mk (ZB.out.trans (HL4.out.mono (below_size ZB.out))); exact (by repeat (first | (with_reducible first | exact HB.out | apply below_alloc | apply pw_below_drewN | apply below_drew1 | refine below_set ?_ (Nat.le_refl _) | refine below_set ?_ G6L.out) | exact HB.out)))
                    | false =>
                      have H34 := Aside0.mk (u8_ne (n := 34) (by rw [← HC.out]; exact h34))
                      cases h92 : (bt rb (k : Int) == 92) with
                      | true =>
                        have H92 := Aside0.mk (u8_eq (n := 92) (by rw [← HC.out]; exact h92))
                        by_cases hlt2 : k + 1 < rb.size
                        · have hbt2 : ∀ h : k + 1 < rb.size, ((rb[k + 1]'h).toNat : Int) = bt rb ((k : Int) + 1) := fun h => by have z := bt_at rb ((k : Int) + 1) (by omega); exact z
                          have HC2 := Aside0.mk (hbt2 hlt2).symm
                          have HD2 := Aside0.mk (drop_at rb (k + 1) hlt2)
                          cases h34' : (bt rb ((k : Int) + 1) == 34) with
                          | true =>
                            have H34' := Aside0.mk (u8_eq (n := 34) (by rw [← HC2.out]; exact h34'))
                            have hn34' : (bt rb ((k : Int) + 1) != 34) = false := by rw [bne, h34']; rfl
                            clear h34'
                            go_wp2_with fail
                            refine (Bld.writeByte WB.heap.size WB.heap.size _ _ _ HBD.out (by rw [cells_len]; omega) (below_size HL.out)).mono ?_
                            rintro e w3 ⟨rfl, hb3, hl3⟩
                            have HB3 := Aside0.mk hb3
                            have HL3 := Aside0.mk (HL.out.trans hl3)
                            clear hb3 hl3
                            go_wp2
                            go_roundw
                            case rel => exact ⟨k + 2, by omega, by omega, by go_num, ⟨acc ++ [rb[k + 1]'hlt2], by simp; omega, .inr (by
                              have h3 := HB3.out
                              rw [HC2.out, cells_snoc] at h3
                              exact h3), by
                              rw [← HU.out, HD1.out, H92.out, HD2.out, unq_esc (.inl H34'.out)]⟩, HL3⟩
                            case measure => simp [intOf]; omega
                          | false =>
                            have H34' := Aside0.mk (u8_ne (n := 34) (by rw [← HC2.out]; exact h34'))
                            have hn34' : (bt rb ((k : Int) + 1) != 34) = true := by rw [bne, h34']; rfl
                            clear h34'
                            cases h92' : (bt rb ((k : Int) + 1) == 92) with
                            | true =>
                              have H92' := Aside0.mk (u8_eq (n := 92) (by rw [← HC2.out]; exact h92'))
                              have hn92' : (bt rb ((k : Int) + 1) != 92) = false := by rw [bne, h92']; rfl
                              clear h92'
                              go_wp2_with fail
                              refine (Bld.writeByte WB.heap.size WB.heap.size _ _ _ HBD.out (by rw [cells_len]; omega) (below_size HL.out)).mono ?_
                              rintro e w3 ⟨rfl, hb3, hl3⟩
                              have HB3 := Aside0.mk hb3
                              have HL3 := Aside0.mk (HL.out.trans hl3)
                              clear hb3 hl3
                              go_wp2
                              go_roundw
                              case rel => exact ⟨k + 2, by omega, by omega, by go_num, ⟨acc ++ [rb[k + 1]'hlt2], by simp; omega, .inr (by
                                have h3 := HB3.out
                                rw [HC2.out, cells_snoc] at h3
                                exact h3), by
                                rw [← HU.out, HD1.out, H92.out, HD2.out, unq_esc (.inr H92'.out)]⟩, HL3⟩
                              case measure => simp [intOf]; omega
                            | false =>
                              have H92' := Aside0.mk (u8_ne (n := 92) (by rw [← HC2.out]; exact h92'))
                              have hn92' : (bt rb ((k : Int) + 1) != 92) = true := by rw [bne, h92']; rfl
                              clear h92'
                              have b6_ := Aside0.mk ((HL.out.block g6 (by have := ZS.out; have := HG6S.out; omega)).trans Z6.out)
                              have b2_ := Aside0.mk ((HL.out.block w.heap.size (by have := ZS.out; have := HG6S.out; have := HG6.out; omega)).trans Z2.out)
                              have k60 : wr.cell? ⟨g6, 0, none⟩ = some (.string (a0.extract 0 n)) := (blk_cell b6_.out 0).trans rfl
                              have k61 : wr.cell? ⟨g6, 1, none⟩ = some (.int .u8 (i : Int)) := (blk_cell b6_.out 1).trans rfl
                              have k62 : wr.cell? ⟨g6, 2, none⟩ = some (.string ⟨#[]⟩) := (blk_cell b6_.out 2).trans rfl
                              have fk60 := blk_frozen b6_.out 0
                              have fk61 := blk_frozen b6_.out 1
                              have fk62 := blk_frozen b6_.out 2
                              have k20 : wr.cell? ⟨w.heap.size, 0, none⟩ = some (.string ⟨#[]⟩) := (blk_cell b2_.out 0).trans rfl
                              have k21 : wr.cell? ⟨w.heap.size, 1, none⟩ = some (.int .u8 0) := (blk_cell b2_.out 1).trans rfl
                              have k22 : wr.cell? ⟨w.heap.size, 2, none⟩ = some (.string ⟨#[]⟩) := (blk_cell b2_.out 2).trans rfl
                              have fk20 := blk_frozen b2_.out 0
                              have fk21 := blk_frozen b2_.out 1
                              have fk22 := blk_frozen b2_.out 2
                              have hg62 : ¬ g6 = w.heap.size := by have := HG6.out; omega
                              have hg26 : ¬ w.heap.size = g6 := by have := HG6.out; omega
                              have HQN := Aside0.mk (show quotedL (c :: m) = none by rw [HQU.out]; exact (by rw [← HU.out, HD1.out, H92.out, HD2.out, unq_bad H34'.out H92'.out]))
                              go_wp2
                              refine bodyPost_ret (v := .tuple #[.agg #[.string (a0.extract 0 n), .int .u8 (i : Int), .string ⟨#[]⟩], .string ⟨#[]⟩, .bool false]) (by simp [results, Try.results27, go_sem, *]) rfl ⟨ret_one HR.out (one_bad HN.out HCO.out HQN.out), ?_⟩
                              have HB := Aside0.mk (ZB.out.trans (HL.out.mono (below_size ZB.out)))
                              exact (by repeat (first | (with_reducible first | exact HB.out | apply below_alloc | apply pw_below_drewN | apply below_drew1 | refine below_set ?_ (Nat.le_refl _) | refine below_set ?_ G6L.out) | exact HB.out))
                        · have hnil := Aside0.mk (List.drop_eq_nil_of_le (by rw [data_length]; omega) : rb.data.toList.drop (k + 1) = [])
                          have b6_ := Aside0.mk ((HL.out.block g6 (by have := ZS.out; have := HG6S.out; omega)).trans Z6.out)
                          have b2_ := Aside0.mk ((HL.out.block w.heap.size (by have := ZS.out; have := HG6S.out; have := HG6.out; omega)).trans Z2.out)
                          have k60 : wr.cell? ⟨g6, 0, none⟩ = some (.string (a0.extract 0 n)) := (blk_cell b6_.out 0).trans rfl
                          have k61 : wr.cell? ⟨g6, 1, none⟩ = some (.int .u8 (i : Int)) := (blk_cell b6_.out 1).trans rfl
                          have k62 : wr.cell? ⟨g6, 2, none⟩ = some (.string ⟨#[]⟩) := (blk_cell b6_.out 2).trans rfl
                          have fk60 := blk_frozen b6_.out 0
                          have fk61 := blk_frozen b6_.out 1
                          have fk62 := blk_frozen b6_.out 2
                          have k20 : wr.cell? ⟨w.heap.size, 0, none⟩ = some (.string ⟨#[]⟩) := (blk_cell b2_.out 0).trans rfl
                          have k21 : wr.cell? ⟨w.heap.size, 1, none⟩ = some (.int .u8 0) := (blk_cell b2_.out 1).trans rfl
                          have k22 : wr.cell? ⟨w.heap.size, 2, none⟩ = some (.string ⟨#[]⟩) := (blk_cell b2_.out 2).trans rfl
                          have fk20 := blk_frozen b2_.out 0
                          have fk21 := blk_frozen b2_.out 1
                          have fk22 := blk_frozen b2_.out 2
                          have hg62 : ¬ g6 = w.heap.size := by have := HG6.out; omega
                          have hg26 : ¬ w.heap.size = g6 := by have := HG6.out; omega
                          have HQN := Aside0.mk (show quotedL (c :: m) = none by rw [HQU.out]; exact (by rw [← HU.out, HD1.out, H92.out, hnil.out, unq_last]))
                          go_wp2
                          refine bodyPost_ret (v := .tuple #[.agg #[.string (a0.extract 0 n), .int .u8 (i : Int), .string ⟨#[]⟩], .string ⟨#[]⟩, .bool false]) (by simp [results, Try.results27, go_sem, *]) rfl ⟨ret_one HR.out (one_bad HN.out HCO.out HQN.out), ?_⟩
                          have HB := Aside0.mk (ZB.out.trans (HL.out.mono (below_size ZB.out)))
                          exact (by repeat (first | (with_reducible first | exact HB.out | apply below_alloc | apply pw_below_drewN | apply below_drew1 | refine below_set ?_ (Nat.le_refl _) | refine below_set ?_ G6L.out) | exact HB.out))
                      | false =>
                        have H92 := Aside0.mk (u8_ne (n := 92) (by rw [← HC.out]; exact h92))
                        go_wp2_with fail
                        refine (Bld.writeByte WB.heap.size WB.heap.size _ _ _ HBD.out (by rw [cells_len]; omega) (below_size HL.out)).mono ?_
                        rintro e w3 ⟨rfl, hb3, hl3⟩
                        have HB3 := Aside0.mk hb3
                        have HL3 := Aside0.mk (HL.out.trans hl3)
                        clear hb3 hl3
                        go_wp2
                        go_roundw
                        case rel => exact ⟨k + 1, by omega, by omega, by go_num, ⟨acc ++ [rb[k]'hlt], by simp; omega, .inr (by
                          have h3 := HB3.out
                          rw [HC.out, cells_snoc] at h3
                          exact h3), by
                          rw [← HU.out, HD1.out, unq_one H34.out H92.out]⟩, HL3⟩
                        case measure => simp [intOf]; omega
                  · skip
                    have b6_ := Aside0.mk ((HL.out.block g6 (by have := ZS.out; have := HG6S.out; omega)).trans Z6.out)
                    have b2_ := Aside0.mk ((HL.out.block w.heap.size (by have := ZS.out; have := HG6S.out; have := HG6.out; omega)).trans Z2.out)
                    have k60 : wr.cell? ⟨g6, 0, none⟩ = some (.string (a0.extract 0 n)) := (blk_cell b6_.out 0).trans rfl
                    have k61 : wr.cell? ⟨g6, 1, none⟩ = some (.int .u8 (i : Int)) := (blk_cell b6_.out 1).trans rfl
                    have k62 : wr.cell? ⟨g6, 2, none⟩ = some (.string ⟨#[]⟩) := (blk_cell b6_.out 2).trans rfl
                    have fk60 := blk_frozen b6_.out 0
                    have fk61 := blk_frozen b6_.out 1
                    have fk62 := blk_frozen b6_.out 2
                    have k20 : wr.cell? ⟨w.heap.size, 0, none⟩ = some (.string ⟨#[]⟩) := (blk_cell b2_.out 0).trans rfl
                    have k21 : wr.cell? ⟨w.heap.size, 1, none⟩ = some (.int .u8 0) := (blk_cell b2_.out 1).trans rfl
                    have k22 : wr.cell? ⟨w.heap.size, 2, none⟩ = some (.string ⟨#[]⟩) := (blk_cell b2_.out 2).trans rfl
                    have fk20 := blk_frozen b2_.out 0
                    have fk21 := blk_frozen b2_.out 1
                    have fk22 := blk_frozen b2_.out 2
                    have hg62 : ¬ g6 = w.heap.size := by have := HG6.out; omega
                    have hg26 : ¬ w.heap.size = g6 := by have := HG6.out; omega
                    have HQN := Aside0.mk (show quotedL (c :: m) = none by rw [HQU.out]; exact (by rw [← HU.out, List.drop_eq_nil_of_le (by rw [data_length]; omega), unq_nil]))
                    go_wp2
                    refine bodyPost_ret (v := .tuple #[.agg #[.string (a0.extract 0 n), .int .u8 (i : Int), .string ⟨#[]⟩], .string ⟨#[]⟩, .bool false]) (by simp [results, Try.results27, go_sem, *]) rfl ⟨ret_one HR.out (one_bad HN.out HCO.out HQN.out), ?_⟩
                    have HB := Aside0.mk (ZB.out.trans (HL.out.mono (below_size ZB.out)))
                    exact (by repeat (first | (with_reducible first | exact HB.out | apply below_alloc | apply pw_below_drewN | apply below_drew1 | refine below_set ?_ (Nat.le_refl _) | refine below_set ?_ G6L.out) | exact HB.out))
              · have HQN := Aside0.mk (show quotedL (c :: m) = none by unfold quotedL; simp only [if_neg h34])
                have hq34 : (bt rb 0 == 34) = false := by rw [hc0, beq_eq_false_iff_ne]; exact fun e => h34 (UInt8.toNat_inj.1 (by have : (34 : UInt8).toNat = 34 := rfl; omega))
                have hq35 : (bt rb 0 != 34) = true := by rw [bne, hq34]; rfl
                clear hc0 h34
                go_wp2_with (first | (go_at_call 26; with_reducible refine (strings_CutPrefix.calls _ _ _ _ _ HCP3.out).mono ?_; rintro e w' ⟨rfl, ⟨nd, rfl⟩⟩; (try first | exact ⟨rfl, _, World.drewN_drewN _ _ _⟩ | exact ⟨rfl, _, Eq.trans (World.drewN_drewN _ _ _) (congrArg (World.drewN _) (Nat.add_assoc _ _ _))⟩)) | go_in)
                refine bodyPost_ret (v := .tuple #[.agg #[.string (a0.extract 0 n), .int .u8 (i : Int), .string ⟨#[]⟩], .string ⟨#[]⟩, .bool false]) (by simp [results, Try.results27, go_sem, *]) rfl ⟨ret_one HR.out (one_bad HN.out HCO.out HQN.out), ?_⟩
                exact (by repeat (first | (with_reducible first | exact HB.out | apply below_alloc | apply pw_below_drewN | apply below_drew1 | refine below_set ?_ (Nat.le_refl _) | refine below_set ?_ G6L.out) | exact HB.out))

end Go.Proofs.Yticemdlnnmndoaa.Q
