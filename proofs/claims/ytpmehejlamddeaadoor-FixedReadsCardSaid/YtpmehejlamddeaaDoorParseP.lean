/- What Parse reads of a text: where the digits end, the point, what stands behind it. -/
import Derived.Test.YtpmehejlamddeaaDoorPrintP
import Derived.Test.YtpmehejlamddeaaDoorQ1
namespace Go.Proofs.YtpmehejlamddeaaDoor.Pure
open Go.RowKit Go.Proofs.YtpmehejlamddeaaDoorW.PrintWords Go.Proofs.YtpmehejlamddeaaDoorW.PrintLast Go.Proofs.YtpmehejlamddeaaDoorW.PrintMore Go.Proofs.YtpmehejlamddeaaDoor.Q
set_option linter.unusedVariables false
set_option linter.unusedSimpArgs false

/-- Digits, or digits, a point and one to three digits. -/
def numL (l : List UInt8) : Option (List UInt8 × List UInt8) :=
  match l.dropWhile isD with
  | [] => if l = [] then none else some (l, [])
  | c :: r => if c = 46 ∧ l.takeWhile isD ≠ [] ∧ r ≠ [] ∧ r.all isD = true ∧ r.length ≤ 3 then some (l.takeWhile isD, r) else none
theorem bt_list (s : ByteArray) (j : Nat) (h : j < s.data.toList.length) : bt s j = ((s.data.toList[j]'h).toNat : Int) := by
  have h2 : j < s.size := by rw [Array.length_toList] at h; exact h
  rw [← bt_at s (j : Int) (by simpa using h2)]
  simp
  rfl
theorem bt_get (s : ByteArray) (i : Nat) (h : i < s.data.toList.length) : bt s (i : Int) = ((s.data.toList[i]).toNat : Int) := bt_list s i h
theorem isD_bt (s : ByteArray) (i : Nat) (h : i < s.data.toList.length) : isD (s.data.toList[i]) = decide (48 ≤ bt s (i : Int) ∧ bt s (i : Int) ≤ 57) := by
  rw [bt_get s i h]
  unfold isD
  by_cases a : 48 ≤ (s.data.toList[i]).toNat ∧ (s.data.toList[i]).toNat ≤ 57
  · rw [decide_eq_true a, decide_eq_true ⟨by omega, by omega⟩]
  · rw [decide_eq_false a, decide_eq_false (by omega)]
theorem take_str (s : ByteArray) (n : Nat) : s.extract 0 n = str ((B s).take n) := by
  rw [Lib.extract_eq, List.drop_zero, Nat.sub_zero]
  rfl
theorem drop_str (s : ByteArray) (n : Nat) : s.extract n s.size = str ((B s).drop n) := by
  rw [Lib.extract_eq]
  show str (((B s).drop n).take (s.size - n)) = _
  rw [List.take_of_length_le (by rw [List.length_drop, data_length]; omega)]
theorem toList_nil (l : List UInt8) : (str l).toList = [] ↔ l = [] := by
  rw [ByteArray.toList_eq]
  exact Iff.rfl
/-- What is told of a text with its point at p. -/
def finR (s : ByteArray) (ok : Bool) (p : Nat) : ByteArray × ByteArray × Bool := (str ((B s).take p), str ((B s).drop (p + 1)), ok && decide ((B s).take p ≠ [] ∧ (B s).drop (p + 1) ≠ [] ∧ ((B s).drop (p + 1)).length ≤ 3))
theorem fin_l0 (s : ByteArray) (hs : s.size ≤ 1000000) (ok : Bool) (p : Nat) (hp : p < s.size) (x : Int) (hx : ¬ x < s.size) : Ev (fun k => fixed_cut.l0 k s ok (p : Int) (s.size : Int) x) (finR s ok p) := by
  have e : wrap64 ((p : Int) + 1) = ((p + 1 : Nat) : Int) := (w64 (x := (p : Int) + 1) (by omega) (by omega)).trans (by omega)
  refine Ev.step (fun k => by rw [fixed_cut.l0, if_neg hx, if_neg (by omega), if_pos (by omega), if_pos (by omega), e, if_pos (by omega), if_pos (by omega), Int.toNat_natCast, Int.toNat_natCast, take_str, drop_str]) ?_
  unfold finR
  cases ok with
  | false => exact ev_neg (by simp) (ev_some (by simp))
  | true =>
    refine ev_pos rfl ?_
    by_cases a : (B s).take p = []
    · exact ev_pos ((toList_nil _).2 a) (ev_some (by simp [a]))
    · refine ev_neg (fun q => a ((toList_nil _).1 q)) ?_
      by_cases b : (B s).drop (p + 1) = []
      · exact ev_pos ((toList_nil _).2 b) (ev_some (by rw [decide_eq_false (fun q => q.2.1 b)]; rfl))
      · refine ev_neg (fun q => b ((toList_nil _).1 q)) (ev_some ?_)
        rw [size_str]
        by_cases c : ((B s).drop (p + 1)).length ≤ 3
        · rw [decide_eq_true (p := _ ∧ _) ⟨a, b, c⟩, decide_eq_true (by omega)]; rfl
        · rw [decide_eq_false (fun q : _ ∧ _ => c q.2.2), decide_eq_false (by omega)]; rfl
theorem fin_j2 (s : ByteArray) (hs : s.size ≤ 1000000) (p : Nat) (hp : p < s.size) (x y : Int) : Ev (fun k => fixed_cut.j2 k s false (p : Int) x (s.size : Int) y false) (finR s false p) := by
  have e : wrap64 ((p : Int) + 1) = ((p + 1 : Nat) : Int) := (w64 (x := (p : Int) + 1) (by omega) (by omega)).trans (by omega)
  refine Ev.step (fun k => by rw [fixed_cut.j2, if_neg (by simp), if_neg (by omega), if_pos (by omega), if_pos (by omega), e, if_pos (by omega), if_pos (by omega), Int.toNat_natCast, Int.toNat_natCast, take_str, drop_str, if_neg (by simp)]) ?_
  exact ev_some (by unfold finR; simp)
theorem next_w {i n : Nat} (h : i < n) (hn : n ≤ 1000000) : wrap64 ((i : Int) + 1) = ((i + 1 : Nat) : Int) := (w64 (x := (i : Int) + 1) (by omega) (by omega)).trans (by omega)
/-- One round at a digit, at a point that is the first one, at anything else. -/
theorem l0_head (s : ByteArray) (hs : s.size ≤ 1000000) (ok : Bool) (p : Int) (i : Nat) (hi : i < s.size) (r : ByteArray × ByteArray × Bool)
    (h : Ev (fun k => fixed_cut.j1 k s ok p i s.size i (isD ((B s)[i]'(by rw [data_length]; exact hi)))) r) : Ev (fun k => fixed_cut.l0 k s ok p (s.size : Int) i) r := by
  have hl : i < s.data.toList.length := by rw [data_length]; exact hi
  rw [isD_bt s i hl] at h
  refine Ev.step (fun k => by rw [fixed_cut.l0, if_pos (by omega), if_pos (by omega), if_pos (by omega)]) ?_
  by_cases a : bt s (i : Int) ≥ 48
  · refine ev_pos a ?_
    by_cases b : bt s (i : Int) ≤ 57
    · rw [decide_eq_true b]
      rwa [decide_eq_true (p := _ ∧ _) ⟨a, b⟩] at h
    · rw [decide_eq_false b]
      rwa [decide_eq_false (fun q : _ ∧ _ => b q.2)] at h
  · refine ev_neg a ?_
    rwa [decide_eq_false (fun q : _ ∧ _ => a q.1)] at h
theorem j1_digit (s : ByteArray) (hs : s.size ≤ 1000000) (p : Int) (i : Nat) (hi : i < s.size) (r : ByteArray × ByteArray × Bool)
    (h : Ev (fun k => fixed_cut.l0 k s (decide (i + 1 = s.size)) p (s.size : Int) ((i + 1 : Nat) : Int)) r) : Ev (fun k => fixed_cut.j1 k s false p i s.size i true) r := by
  have e : wrap64 ((s.size : Int) - 1) = (s.size : Int) - 1 := w64 (by omega) (by omega)
  refine Ev.step (fun k => by rw [fixed_cut.j1, if_pos rfl, e, next_w hi hs]) ?_
  by_cases a : i + 1 = s.size
  · rw [decide_eq_true a] at h
    exact ev_pos (by omega) h
  · rw [decide_eq_false a] at h
    exact ev_neg (by omega) h
/-- Behind the point. -/
theorem cut_part (s : ByteArray) (hs : s.size ≤ 1000000) (p : Nat) (hp : p < s.size) : ∀ (d i : Nat), i ≤ s.size → s.size - i = d → p < i → Ev (fun k => fixed_cut.l0 k s (decide (i = s.size)) (p : Int) (s.size : Int) (i : Int)) (finR s (((B s).drop i).all isD) p) := by
  intro d
  induction d with
  | zero =>
    intro i hi hd hpi
    have : i = s.size := by omega
    subst this
    rw [decide_eq_true rfl, List.drop_eq_nil_of_le (by rw [data_length]; exact Nat.le_refl _)]
    exact fin_l0 s hs true p hp _ (by omega)
  | succ d ih =>
    intro i hi hd hpi
    have hlt : i < s.size := by omega
    have hl : i < (B s).length := by rw [data_length]; exact hlt
    rw [decide_eq_false (by omega), List.drop_eq_getElem_cons hl, List.all_cons]
    refine l0_head s hs false p i hlt _ ?_
    cases hc : isD ((B s)[i]) with
    | true =>
      rw [Bool.true_and]
      exact j1_digit s hs p i hlt _ (ih (i + 1) (by omega) (by omega) (by omega))
    | false =>
      rw [Bool.false_and]
      refine Ev.step (fun k => by rw [fixed_cut.j1, if_neg (by simp), if_pos (by omega), if_pos (by omega)]) ?_
      by_cases a : bt s (i : Int) = 46
      · refine ev_pos a ?_
        rw [decide_eq_false (by omega)]
        exact fin_j2 s hs p hp _ _
      · exact ev_neg a (fin_j2 s hs p hp _ _)
/-- What cutting tells, from a place up to which all are digits. -/
def scanR (s : ByteArray) : Nat → List UInt8 → ByteArray × ByteArray × Bool
  | i, [] => (s, ⟨#[]⟩, decide (0 < i))
  | i, c :: l => if isD c = true then scanR s (i + 1) l else if c = 46 then finR s (l.all isD) i else (s, ⟨#[]⟩, false)
theorem point_bt (s : ByteArray) (i : Nat) (h : i < (B s).length) : bt s (i : Int) = 46 ↔ (B s)[i] = 46 := by
  rw [bt_get s i h]
  constructor
  · intro q
    have q' : (((B s)[i]).toNat : Int) = 46 := q
    have : ((B s)[i]).toNat = (46 : UInt8).toNat := by
      have e : (46 : UInt8).toNat = 46 := rfl
      rw [e]
      omega
    exact UInt8.toNat_inj.1 this
  · intro q
    have e : (46 : UInt8).toNat = 46 := rfl
    rw [q, e]
    rfl
theorem cut_whole (s : ByteArray) (hs : s.size ≤ 1000000) : ∀ (d i : Nat), i ≤ s.size → s.size - i = d → Ev (fun k => fixed_cut.l0 k s (decide (i = s.size ∧ 0 < i)) (-1) (s.size : Int) (i : Int)) (scanR s i ((B s).drop i)) := by
  intro d
  induction d with
  | zero =>
    intro i hi hd
    have : i = s.size := by omega
    subst this
    rw [List.drop_eq_nil_of_le (by rw [data_length]; exact Nat.le_refl _), scanR]
    refine Ev.step (fun k => by rw [fixed_cut.l0, if_neg (by omega), if_pos (by omega)]) (ev_some ?_)
    simp
  | succ d ih =>
    intro i hi hd
    have hlt : i < s.size := by omega
    have hl : i < (B s).length := by rw [data_length]; exact hlt
    rw [decide_eq_false (fun q : _ ∧ _ => by omega), List.drop_eq_getElem_cons hl, scanR]
    refine l0_head s hs false (-1) i hlt _ ?_
    cases hc : isD ((B s)[i]) with
    | true =>
      rw [if_pos rfl]
      have := ih (i + 1) (by omega) (by omega)
      refine j1_digit s hs (-1) i hlt _ ?_
      have e : decide (i + 1 = s.size ∧ 0 < i + 1) = decide (i + 1 = s.size) := by simp
      rwa [e] at this
    | false =>
      rw [if_neg (by simp)]
      refine Ev.step (fun k => by rw [fixed_cut.j1, if_neg (by simp), if_pos (by omega), if_pos (by omega)]) ?_
      by_cases a : bt s (i : Int) = 46
      · rw [if_pos ((point_bt s i hl).1 a)]
        refine ev_pos a ?_
        have hw : wrap64 ((s.size : Int) - 1) = (s.size : Int) - 1 := w64 (by omega) (by omega)
        have hpart := cut_part s hs i hlt (s.size - (i + 1)) (i + 1) (by omega) rfl (by omega)
        refine Ev.step (fun k => by rw [fixed_cut.j2, if_pos (by simp), hw, next_w hlt hs]) ?_
        by_cases b : i + 1 = s.size
        · rw [decide_eq_true b] at hpart
          exact ev_pos (by omega) hpart
        · rw [decide_eq_false b] at hpart
          exact ev_neg (by omega) hpart
      · rw [if_neg (fun q => a ((point_bt s i hl).2 q))]
        refine ev_neg a ?_
        exact Ev.step (fun k => by rw [fixed_cut.j2, if_neg (by simp), if_pos (by omega)]) (Ev.now _)
theorem cut_scan (s : ByteArray) (hs : s.size ≤ 1000000) : Ev (fun k => fixed_cut.f k s) (scanR s 0 (B s)) := by
  have := cut_whole s hs s.size 0 (by omega) (by omega)
  simpa [fixed_cut.f] using this
/-- What cutting tells, by the text alone. -/
theorem scan_num (s : ByteArray) : ∀ (l pre : List UInt8), B s = pre ++ l → Digits pre →
    (match numL (B s) with | some (w, r) => scanR s pre.length l = (str w, str r, true) | none => (scanR s pre.length l).2.2 = false)
  | [], pre, h, hd => by
    rw [List.append_nil] at h
    have hdrop : (B s).dropWhile isD = [] := by rw [h, ← List.append_nil pre, List.dropWhile_append_of_pos hd]; rfl
    unfold numL
    rw [hdrop]
    by_cases e : B s = []
    · rw [if_pos e]
      have : pre = [] := by rw [← h]; exact e
      subst this
      rfl
    · rw [if_neg e]
      have : 0 < pre.length := List.length_pos_iff.2 (by rw [← h]; exact e)
      show (s, (⟨#[]⟩ : ByteArray), decide (0 < pre.length)) = _
      rw [decide_eq_true this, str_B]
      rfl
  | c :: l, pre, h, hd => by
    rw [scanR]
    by_cases hc : isD c = true
    · rw [if_pos hc]
      have ih := scan_num s l (pre ++ [c]) (by rw [h, List.append_assoc]; rfl) (fun x hx => by
        rcases List.mem_append.1 hx with hx | hx
        · exact hd x hx
        · rw [List.mem_singleton] at hx; subst hx; exact hc)
      rwa [List.length_append] at ih
    · rw [if_neg hc]
      have hdrop : (B s).dropWhile isD = c :: l := by rw [h, List.dropWhile_append_of_pos hd, List.dropWhile_cons, if_neg hc]
      have htake : (B s).takeWhile isD = pre := by rw [h, List.takeWhile_append_of_pos hd, List.takeWhile_cons, if_neg hc, List.append_nil]
      have h1 : (B s).take pre.length = pre := by rw [h, List.take_left]
      have h2 : (B s).drop (pre.length + 1) = l := by rw [h, ← List.drop_drop, List.drop_left]; rfl
      unfold numL
      rw [hdrop, htake]
      dsimp only
      by_cases e : c = 46
      · rw [if_pos e]
        unfold finR
        rw [h1, h2]
        by_cases q : l.all isD = true ∧ pre ≠ [] ∧ l ≠ [] ∧ l.length ≤ 3
        · rw [if_pos ⟨e, q.2.1, q.2.2.1, q.1, q.2.2.2⟩, q.1, decide_eq_true q.2]
          rfl
        · rw [if_neg (fun g => q ⟨g.2.2.2.1, g.2.1, g.2.2.1, g.2.2.2.2⟩)]
          show (l.all isD && decide _) = false
          cases ha : l.all isD with
          | false => rfl
          | true => rw [Bool.true_and]; exact decide_eq_false fun g => q ⟨ha, g⟩
      · rw [if_neg e, if_neg (fun g => e g.1)]
theorem take_digits : ∀ l : List UInt8, Digits (l.takeWhile isD)
  | [], c, hc => by simp at hc
  | x :: l, c, hc => by
    rw [List.takeWhile_cons] at hc
    split at hc
    · rename_i hx
      rcases List.mem_cons.1 hc with rfl | hc
      · exact hx
      · exact take_digits l c hc
    · simp at hc
theorem num_facts {l w r : List UInt8} (h : numL l = some (w, r)) : Digits w ∧ Digits r ∧ w ≠ [] ∧ r.length ≤ 3 ∧ w.length + r.length ≤ l.length := by
  unfold numL at h
  have hw : Digits (l.takeWhile isD) := take_digits l
  have hlen : (l.takeWhile isD).length + (l.dropWhile isD).length = l.length := by rw [← List.length_append, List.takeWhile_append_dropWhile]
  split at h
  · rename_i hd
    split at h
    · cases h
    · rename_i hne
      injection h with h
      injection h with h1 h2
      subst h1 h2
      have : l.takeWhile isD = l := by
        have := List.takeWhile_append_dropWhile (p := isD) (l := l)
        rwa [hd, List.append_nil] at this
      rw [this] at hw
      exact ⟨hw, fun c hc => by simp at hc, hne, by simp, by simp⟩
  · rename_i c r' hd
    split at h
    · rename_i hq
      injection h with h
      injection h with h1 h2
      subst h1 h2
      rw [hd, List.length_cons] at hlen
      exact ⟨hw, List.all_eq_true.1 hq.2.2.2.1, hq.2.1, hq.2.2.2.2, by omega⟩
    · cases h
/-- What is read of a text without its sign. -/
def restL (l : List UInt8) : Option Int := (numL l).map fun p => min 4611686018427387903 (valL 0 (p.1 ++ p.2 ++ List.replicate (3 - p.2.length) 48))
def parseL (l : List UInt8) : Int × Int :=
  match l with
  | 45 :: t => (match restL t with | some v => (-v, 0) | none => (0, 10))
  | l => (match restL l with | some v => (v, 0) | none => (0, 10))
theorem repeat_one (n : Nat) : Lib.repeatL [48] n = List.replicate n 48 := by
  induction n with
  | zero => rfl
  | succ n ih => rw [Lib.repeatL, ih, List.replicate_succ]; rfl
theorem repeat_f (n : Nat) (h : n ≤ 3) : strings_Repeat.f ⟨#[48]⟩ (3 - (n : Int)) = some (str (List.replicate (3 - n) 48)) := by
  unfold strings_Repeat.f
  have e : ((3 : Int) - n).toNat = 3 - n := by omega
  rw [if_pos ⟨by omega, by omega, by decide⟩, e]
  show some (str (Lib.repeatL [48] (3 - n))) = _
  rw [repeat_one]
theorem digits_nought (n : Nat) : Digits (List.replicate n 48) := fun c hc => by
  rw [(List.mem_replicate.1 hc).2]
  rfl
theorem digits_app {l m : List UInt8} (h : Digits l) (k : Digits m) : Digits (l ++ m) := fun c hc => (List.mem_append.1 hc).elim (h c) (k c)
theorem prefix_f (s : ByteArray) : strings_CutPrefix.f s ⟨#[45]⟩ = some (match B s with | 45 :: t => (str t, true) | _ => (s, false)) := by
  have hsz : (⟨#[45]⟩ : ByteArray).size = 1 := rfl
  unfold strings_CutPrefix.f stringslite_CutPrefix.f stringslite_HasPrefix.f
  rw [hsz]
  have hb : s.size = (B s).length := (data_length s).symm
  cases h : B s with
  | nil =>
    rw [h, List.length_nil] at hb
    rw [if_neg (by omega)]
    rfl
  | cons c t =>
    rw [h, List.length_cons] at hb
    have e0 : s.extract 0 ((1 : Nat) : Int).toNat = str [c] := by
      rw [show ((1 : Nat) : Int).toNat = 1 from rfl, take_str, h]
      rfl
    have e1 : s.extract ((1 : Nat) : Int).toNat s.size = str t := by
      rw [show ((1 : Nat) : Int).toNat = 1 from rfl, drop_str, h]
      rfl
    have e2 : ((⟨#[45]⟩ : ByteArray)).toList = [45] := by rw [ByteArray.toList_eq]
    have e3 : (str [c]).toList = [c] := by rw [ByteArray.toList_eq]; rfl
    rw [if_pos (by omega), if_pos (by omega), if_pos (by omega), e0, e1, e2, e3, Option.bind_some]
    by_cases q : c = 45
    · subst q
      rw [if_pos (by simp), if_pos (by omega), if_pos (by omega)]
      rfl
    · have : ([c] == [45]) = false := beq_eq_false_iff_ne.mpr (fun g => q (by injection g))
      rw [this, if_neg (by simp)]
      show some (s, false) = some (match c :: t with | 45 :: t => (str t, true) | _ => (s, false))
      split
      · rename_i g
        injection g with g
        exact absurd g q
      · rfl
/-- Cutting tells what numL tells. -/
theorem cut_ev (s : ByteArray) (hs : s.size ≤ 1000000) : ∃ x y ok, Ev (fun k => fixed_cut.f k s) (x, y, ok) ∧ (match numL (B s) with | some (w, r) => x = str w ∧ y = str r ∧ ok = true | none => ok = false) := by
  have h1 := cut_scan s hs
  have h2 := scan_num s (B s) [] rfl (fun c hc => by simp at hc)
  refine ⟨_, _, _, h1, ?_⟩
  cases h : numL (B s) with
  | none => rw [h] at h2; exact h2
  | some p =>
    obtain ⟨w, r⟩ := p
    rw [h] at h2
    have h2 : scanR s 0 (B s) = (str w, str r, true) := h2
    rw [h2]
    exact ⟨rfl, rfl, rfl⟩
theorem parse_rest (s : ByteArray) (hs : s.size ≤ 900000) (less : Bool) : Ev (fun k => (fixed_cut.f k s).bind fun p => if p.2.2 = true then (if p.1.size + p.2.1.size ≤ 1000000 then (strings_Repeat.f ⟨#[48]⟩ (3 - (p.2.1.size : Int))).bind fun z => (if z.size ≤ 1000000 then some ((if less = true then wrap64 (-(digL 0 ((p.1 ++ p.2.1) ++ z).data.toList)) else digL 0 ((p.1 ++ p.2.1) ++ z).data.toList : Int), (0 : Int)) else none) else none) else some (0, 10))
    (match restL (B s) with | some v => (if less = true then -v else v, 0) | none => (0, 10)) := by
  obtain ⟨x, y, ok, h1, h2⟩ := cut_ev s (by omega)
  refine Ev.bind h1 ?_
  unfold restL
  cases h : numL (B s) with
  | none =>
    rw [h] at h2
    have h2 : ok = false := h2
    subst h2
    exact ev_neg (by simp) (Ev.now _)
  | some p =>
    obtain ⟨w, r⟩ := p
    rw [h] at h2
    obtain ⟨rfl, rfl, rfl⟩ := h2
    obtain ⟨hw, hr, hne, h3, hl⟩ := num_facts h
    have hb : s.size = (B s).length := (data_length s).symm
    have hd := digits_app (digits_app hw hr) (digits_nought (3 - r.length))
    have hv := digL_val _ 0 hd (by omega) (by omega)
    have hge := valL_ge _ 0 hd (by omega)
    refine ev_pos rfl (ev_pos (by rw [size_str, size_str]; omega) ?_)
    rw [size_str, repeat_f _ h3]
    refine ev_bsome (ev_pos (by rw [size_str, List.length_replicate]; omega) (ev_some ?_))
    rw [str_app, str_app]
    show (if less = true then wrap64 (-(digL 0 (w ++ r ++ List.replicate (3 - r.length) 48))) else digL 0 (w ++ r ++ List.replicate (3 - r.length) 48), (0 : Int)) = _
    rw [hv]
    simp only [Option.map_some]
    generalize valL 0 (w ++ r ++ List.replicate (3 - r.length) 48) = v at *
    rw [w64 (by omega) (by omega)]
theorem parse_ev (s : ByteArray) (hs : s.size ≤ 900000) : Ev (fun k => fixed_Parse.f k s) (parseL (B s)) := by
  unfold fixed_Parse.f
  rw [prefix_f]
  refine ev_bsome ?_
  unfold parseL
  have hb : s.size = (B s).length := (data_length s).symm
  split
  · rename_i t h
    rw [h, List.length_cons] at hb
    have := parse_rest (str t) (by rw [size_str]; omega) true
    exact this
  · exact parse_rest s hs false
end Go.Proofs.YtpmehejlamddeaaDoor.Pure
