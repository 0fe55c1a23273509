/- A store of series as one thing; what it tells, in plain words: Add, Expire, Len. No law is proved here. -/
import Derived.Test.YtlhlaadnifkdhaaSerH
namespace Go.Proofs.Ytlhlaadnifkdhaa.Sr
open Go.RowKit Go.Proofs.YtlhlaadnifkdhaaW.PrintWords Go.Proofs.YtlhlaadnifkdhaaW.PrintLast Go.Proofs.YtlhlaadnifkdhaaW.PrintMore Go.Proofs.Ytlhlaadnifkdhaa.Q Go.Proofs.Ytlhlaadnifkdhaa.Own Go.Proofs.Ytlhlaadnifkdhaa.Nmd
set_option linter.unusedVariables false
set_option linter.unusedSimpArgs false

/-! Some things as one -/
theorem all_loc {w w' : World} : ∀ {Gs : List Th} {F : Nat → Prop}, All 0 w F Gs → (∀ k, F k → w'.heap[k]? = w.heap[k]?) → All 0 w' F Gs
  | [], _, _, _ => trivial
  | T :: Gs, F, ⟨G, h1, h2, h3⟩, hm => ⟨G, T.loc h1 fun k hk => hm k (h2 k hk).1, fun k hk => ⟨(h2 k hk).1, Nat.zero_le _, by
      have e := hm k (h2 k hk).1
      rw [Array.getElem?_eq_getElem (h2 k hk).2.2] at e
      exact (Array.getElem?_eq_some_iff.1 e).1⟩, all_loc h3 fun k hk => hm k hk.1⟩
theorem all_low {B : Nat} {w : World} : ∀ {Gs : List Th} {F : Nat → Prop}, All B w F Gs → All 0 w F Gs
  | [], _, _ => trivial
  | T :: Gs, F, ⟨G, h1, h2, h3⟩ => ⟨G, h1, fun k hk => ⟨(h2 k hk).1, Nat.zero_le _, (h2 k hk).2.2⟩, all_low h3⟩
theorem all_high {B : Nat} {w : World} : ∀ {Gs : List Th} {F : Nat → Prop}, All 0 w F Gs → (∀ k, F k → B ≤ k) → All B w F Gs
  | [], _, _, _ => trivial
  | T :: Gs, F, ⟨G, h1, h2, h3⟩, hb => ⟨G, h1, fun k hk => ⟨(h2 k hk).1, hb k (h2 k hk).1, (h2 k hk).2.2⟩, all_high h3 fun k hk => hb k hk.1⟩
theorem all_cut {B : Nat} {w : World} {Ts : List Th} : ∀ {Gs : List Th} {S : Nat → Prop}, All B w S (Gs ++ Ts) → ∃ F, All B w F Gs ∧ (∀ k, F k → S k ∧ B ≤ k ∧ k < w.heap.size) ∧ All B w (fun k => S k ∧ ¬ F k) Ts
  | [], S, h => ⟨fun _ => False, trivial, fun _ f => f.elim, h.grow fun k hk _ => ⟨hk, fun f => f⟩⟩
  | T :: Gs, S, ⟨F1, h1, h2, h3⟩ => by
    obtain ⟨F2, a, b, c⟩ := all_cut h3
    exact ⟨fun k => F1 k ∨ F2 k, ⟨F1, h1, fun k hk => ⟨.inl hk, (h2 k hk).2⟩, a.grow fun k hk _ => ⟨.inr hk, (b k hk).1.2⟩⟩, fun k hk => hk.elim (h2 k) (fun q => ⟨(b k q).1.1, (b k q).2⟩), c.grow fun k hk _ => ⟨hk.1.1, fun q => q.elim hk.1.2 hk.2⟩⟩
theorem all_join {B : Nat} {w : World} {Ts : List Th} : ∀ {Gs : List Th} {F S : Nat → Prop}, All B w F Gs → (∀ k, F k → S k) → All B w (fun k => S k ∧ ¬ F k) Ts → All B w S (Gs ++ Ts)
  | [], F, S, _, _, h => h.grow fun k hk _ => hk.1
  | T :: Gs, F, S, ⟨F1, h1, h2, h3⟩, hs, h => ⟨F1, h1, fun k hk => ⟨hs k (h2 k hk).1, (h2 k hk).2⟩, all_join h3 (fun k hk => ⟨hs k hk.1, hk.2⟩) (h.grow fun k hk _ => ⟨⟨hk.1, fun q => hk.2 (h2 k q).1⟩, fun q => hk.2 q.1⟩)⟩
def groupT (Gs : List Th) : Th where
  on w F := All 0 w F Gs
  loc := fun h hm => all_loc h hm
theorem has_group {B : Nat} {w : World} {Gs Ts : List Th} (h : Has B w (Gs ++ Ts)) : Has B w (groupT Gs :: Ts) := by
  obtain ⟨h0, h1⟩ := h
  obtain ⟨F, a, b, c⟩ := all_cut h1
  exact ⟨h0, F, all_low a, fun k hk => ⟨trivial, (b k hk).2⟩, c⟩
theorem has_ungroup {B : Nat} {w : World} {Gs Ts : List Th} (h : Has B w (groupT Gs :: Ts)) : Has B w (Gs ++ Ts) := by
  obtain ⟨h0, F, a, b, c⟩ := h
  exact ⟨h0, all_join (all_high a fun k hk => (b k hk).2.1) (fun k _ => trivial) c⟩

/-! What a store tells -/
abbrev PV := List LB × List SM
def keyT (ls : List LB) : List UInt8 := (textL ls).data.toList
def keyP (v : PV) : List UInt8 := keyT v.1
def view (s : SS) : PV := (s.ls, s.xs)
def viewL (L : List SS) : List PV := L.map view
def addV (V : List PV) (ls : List LB) (x : SM) : Int × List PV :=
  if Pure.mayB ls = false then (70, V) else match findF keyP V (keyT ls) with
    | some v => (pushE v.2 x, V.map fun v => if keyP v = keyT ls then (v.1, pushL v.2 x) else v)
    | none => if pushE [] x ≠ 0 then (pushE [] x, V) else if 8 ≤ V.length then (170, V) else (0, setF keyP V (ls, [x]))
def expV (V : List PV) (at_ : Int) : List PV := (V.map fun v => (v.1, expL v.2 at_)).filter fun v => !v.2.isEmpty
def expVN (V : List PV) (at_ : Int) : Nat := (V.map fun v => v.2.length - (expL v.2 at_).length).sum
section
variable {L : List SS}
theorem key_view (hn : ∀ s ∈ L, s.e.name = textL s.ls) {s : SS} (hs : s ∈ L) : keyP (view s) = keyS' s := by
  unfold keyP keyT keyS' keyE view
  rw [hn s hs]
theorem find_view : ∀ {L : List SS} (hn : ∀ s ∈ L, s.e.name = textL s.ls) (n : List UInt8), findF keyP (viewL L) n = (findF keyS' L n).map view
  | [], _, _ => rfl
  | y :: L, hn, n => by
    have ih := find_view (L := L) (fun s hs => hn s (List.mem_cons_of_mem _ hs)) n
    have hk := key_view hn (List.mem_cons_self ..)
    unfold viewL findF at ih ⊢
    rw [List.map_cons, List.find?_cons, List.find?_cons, hk]
    cases (keyS' y == n) with
    | true => rfl
    | false => exact ih
theorem cut_view : ∀ {L : List SS} (hn : ∀ s ∈ L, s.e.name = textL s.ls) (n : List UInt8), cutF keyP (viewL L) n = viewL (cutF keyS' L n)
  | [], _, _ => rfl
  | y :: L, hn, n => by
    have ih := cut_view (L := L) (fun s hs => hn s (List.mem_cons_of_mem _ hs)) n
    have hk := key_view hn (List.mem_cons_self ..)
    unfold viewL cutF at ih ⊢
    rw [List.map_cons, List.filter_cons, List.filter_cons, hk]
    cases (keyS' y != n) with
    | true => exact congrArg (view y :: ·) ih
    | false => exact ih
theorem ins_view : ∀ {L : List SS} (hn : ∀ s ∈ L, s.e.name = textL s.ls) {x : SS} (hx : x.e.name = textL x.ls), insF keyP (viewL L) (view x) = viewL (insF keyS' L x)
  | [], _, _, _ => rfl
  | y :: L, hn, x, hx => by
    have ih := ins_view (L := L) (fun s hs => hn s (List.mem_cons_of_mem _ hs)) hx
    have hk := key_view hn (List.mem_cons_self ..)
    have hkx : keyP (view x) = keyS' x := by unfold keyP keyT keyS' keyE view; rw [hx]
    unfold viewL at ih ⊢
    rw [List.map_cons]
    unfold insF
    rw [hk, hkx]
    split
    · rfl
    · rw [List.map_cons, ih]
theorem set_view (hn : ∀ s ∈ L, s.e.name = textL s.ls) {x : SS} (hx : x.e.name = textL x.ls) : setF keyP (viewL L) (view x) = viewL (setF keyS' L x) := by
  have hkx : keyP (view x) = keyS' x := by unfold keyP keyT keyS' keyE view; rw [hx]
  unfold setF
  rw [hkx, cut_view hn, ins_view (fun s hs => hn s (cut_mem.1 hs).1) hx]
theorem pushed_view (hn : ∀ s ∈ L, s.e.name = textL s.ls) (n : List UInt8) (x : SM) : (viewL L).map (fun v => if keyP v = n then ((v.1, pushL v.2 x) : PV) else v) = viewL (pushedS L n x) := by
  unfold viewL pushedS
  rw [List.map_map, List.map_map]
  refine List.map_congr_left fun s hs => ?_
  show (if keyP (view s) = n then ((s.ls, pushL s.xs x) : PV) else view s) = view (if keyS' s = n then ⟨s.e, s.ls, pushL s.xs x⟩ else s)
  rw [key_view hn hs]
  split <;> rfl
theorem addE_view (hn : ∀ s ∈ L, s.e.name = textL s.ls) (ls : List LB) (x : SM) : addE L ls x = (addV (viewL L) ls x).1 := by
  unfold addE addV
  by_cases hm : Pure.mayB ls = false
  · rw [if_pos hm, if_pos hm]
  · rw [if_neg hm, if_neg hm, find_view hn]
    show (match findF keyS' L (keyT ls) with | some s => _ | none => _) = _
    cases findF keyS' L (keyT ls) with
    | some s => rfl
    | none =>
      show (if _ then _ else _) = (if pushE [] x ≠ 0 then _ else _ : Int × List PV).1
      split
      · rfl
      · rw [show (viewL L).length = L.length from List.length_map ..]
        split <;> rfl
theorem addL_view (hn : ∀ s ∈ L, s.e.name = textL s.ls) (ls : List LB) (x : SM) (b : Nat) (hd : Option Addr × Nat × Nat) : viewL (addL L ls x b hd) = (addV (viewL L) ls x).2 := by
  have hE := addE_view hn ls x
  unfold addL
  unfold addV at hE ⊢
  by_cases hm : Pure.mayB ls = false
  · rw [if_pos hm, if_pos hm]
  · rw [if_neg hm] at hE
    rw [if_neg hm, if_neg hm]
    rw [find_view hn] at hE ⊢
    show viewL (match findF keyS' L (keyT ls) with | some s => _ | none => _) = _
    cases hq : findF keyS' L (keyT ls) with
    | some s => exact (pushed_view hn _ x).symm
    | none =>
      rw [hq] at hE
      have hE : addE L ls x = (if pushE [] x ≠ 0 then (pushE [] x, viewL L) else if 8 ≤ (viewL L).length then ((170 : Int), viewL L) else (0, setF keyP (viewL L) (ls, [x])) : Int × List PV).1 := hE
      show viewL (if addE L ls x = 0 then _ else L) = (if pushE [] x ≠ 0 then (pushE [] x, viewL L) else if 8 ≤ (viewL L).length then ((170 : Int), viewL L) else (0, setF keyP (viewL L) (ls, [x])) : Int × List PV).2
      rw [hE]
      by_cases h1 : pushE [] x ≠ 0
      · rw [if_pos h1, if_neg h1]
      · rw [if_neg h1]
        by_cases h2 : 8 ≤ (viewL L).length
        · rw [if_pos h2, if_neg (show ¬ (170 : Int) = 0 by decide)]
        · rw [if_neg h2, if_pos rfl]
          exact (set_view hn (x := ⟨⟨textL ls, b, hd⟩, ls, [x]⟩) rfl).symm
theorem exp_view (at_ : Int) : viewL (expS L at_) = expV (viewL L) at_ ∧ expN L at_ = expVN (viewL L) at_ := by
  constructor
  · unfold expS expV viewL
    rw [List.map_map, List.filter_map, List.filter_map, List.map_map]
    rfl
  · unfold expN expVN viewL
    rw [List.map_map]
    rfl
end
theorem push_len {xs : List SM} {x : SM} (h : xs.length ≤ 32) : (pushL xs x).length ≤ 32 := by
  unfold pushL
  split
  · rename_i h0
    unfold pushE at h0
    rw [List.length_append]
    split at h0
    · cases h0
    · split at h0
      · cases h0
      · split at h0
        · cases h0
        · show xs.length + 1 ≤ 32
          omega
  · exact h
theorem exp_len (xs : List SM) (at_ : Int) : (expL xs at_).length ≤ xs.length := (List.dropWhile_suffix _).length_le
theorem set_mem {L : List SS} {s t : SS} (h : t ∈ setF keyS' L s) : t = s ∨ t ∈ L := by
  rcases List.mem_cons.1 ((ins_perm _ s).mem_iff.1 h) with q | q
  · exact .inl q
  · exact .inr (cut_mem.1 q).1
theorem add_ok {L : List SS} (h : SerOk L) (ls : List LB) (x : SM) (b : Nat) (hd : Option Addr × Nat × Nat) : SerOk (addL L ls x b hd) := by
  unfold addL
  by_cases hm : Pure.mayB ls = false
  · rw [if_pos hm]
    exact h
  rw [if_neg hm]
  cases hf : findF keyS' L (textL ls).data.toList with
  | some s =>
    have key : ∀ t ∈ pushedS L (textL ls).data.toList x, ∃ s ∈ L, t.e = s.e ∧ t.ls = s.ls ∧ t.xs.length ≤ 32 := fun t ht => by
      obtain ⟨s, hs, rfl⟩ := List.mem_map.1 ht
      refine ⟨s, hs, ?_⟩
      split
      · exact ⟨rfl, rfl, push_len (h.full s hs)⟩
      · exact ⟨rfl, rfl, h.full s hs⟩
    refine ⟨fun t ht => ?_, fun t ht => ?_, by unfold pushedS; rw [List.length_map]; exact h.le, fun t ht => ?_⟩
    · obtain ⟨s, hs, -, e, -⟩ := key t ht
      rw [e]
      exact h.may s hs
    · obtain ⟨s, hs, e1, e2, -⟩ := key t ht
      rw [e1, e2]
      exact h.name s hs
    · obtain ⟨s, hs, -, -, e⟩ := key t ht
      exact e
  | none =>
    show SerOk (if addE L ls x = 0 then setF keyS' L ⟨⟨textL ls, b, hd⟩, ls, [x]⟩ else L)
    split
    · rename_i h0
      have h8 : L.length < 8 := by
        unfold addE at h0
        rw [if_neg hm, hf] at h0
        have h0 : (if pushE [] x ≠ 0 then pushE [] x else if 8 ≤ L.length then (170 : Int) else 0) = 0 := h0
        by_cases q : pushE [] x ≠ 0
        · rw [if_pos q] at h0
          exact absurd h0 q
        · rw [if_neg q] at h0
          by_cases q8 : 8 ≤ L.length
          · rw [if_pos q8] at h0
            cases h0
          · omega
      refine ⟨fun t ht => ?_, fun t ht => ?_, ?_, fun t ht => ?_⟩
      · rcases set_mem ht with rfl | q
        · simpa using hm
        · exact h.may t q
      · rcases set_mem ht with rfl | q
        · rfl
        · exact h.name t q
      · unfold setF
        rw [(ins_perm _ _).length_eq, List.length_cons]
        have : (cutF keyS' L (keyS' ⟨⟨textL ls, b, hd⟩, ls, [x]⟩)).length ≤ L.length := List.length_filter_le _ _
        omega
      · rcases set_mem ht with rfl | q
        · show 1 ≤ 32
          omega
        · exact h.full t q
    · exact h
theorem exp_ok {L : List SS} (h : SerOk L) (at_ : Int) : SerOk (expS L at_) := by
  have key : ∀ t ∈ expS L at_, ∃ s ∈ L, t.e = s.e ∧ t.ls = s.ls ∧ t.xs.length ≤ 32 := fun t ht => by
    obtain ⟨s, hs, rfl⟩ := List.mem_map.1 (List.mem_filter.1 ht).1
    exact ⟨s, hs, rfl, rfl, Nat.le_trans (exp_len _ _) (h.full s hs)⟩
  refine ⟨fun t ht => ?_, fun t ht => ?_, ?_, fun t ht => ?_⟩
  · obtain ⟨s, hs, -, e, -⟩ := key t ht
    rw [e]
    exact h.may s hs
  · obtain ⟨s, hs, e1, e2, -⟩ := key t ht
    rw [e1, e2]
    exact h.name s hs
  · unfold expS
    refine Nat.le_trans (List.length_filter_le _ _) ?_
    rw [List.length_map]
    exact h.le
  · obtain ⟨s, hs, -, -, e⟩ := key t ht
    exact e

/-! The store as one thing -/
def storeT (p : Nat) (V : List PV) : Th where
  on w F := ∃ L, viewL L = V ∧ SerOk L ∧ (groupT (mapT p (L.map fun s => s.e) :: tm L)).on w F
  loc := by
    rintro w w' F ⟨L, h1, h2, h3⟩ hm
    exact ⟨L, h1, h2, (groupT (mapT p (L.map fun s => s.e) :: tm L)).loc h3 hm⟩
theorem store_open {B : Nat} {w : World} {p : Nat} {V : List PV} {Ts : List Th} (h : Has B w (storeT p V :: Ts)) : ∃ L, viewL L = V ∧ SerOk L ∧ Has B w (mapT p (L.map fun s => s.e) :: (tm L ++ Ts)) := by
  obtain ⟨h0, F, ⟨L, h1, h2, h3⟩, h4⟩ := h
  have q := has_ungroup (Gs := mapT p (L.map fun s => s.e) :: tm L) (Ts := Ts) ⟨h0, F, h3, h4⟩
  exact ⟨L, h1, h2, q⟩
theorem store_shut {B : Nat} {w : World} {p : Nat} {L : List SS} {Ts : List Th} (h : Has B w (mapT p (L.map fun s => s.e) :: (tm L ++ Ts))) (hok : SerOk L) : Has B w (storeT p (viewL L) :: Ts) := by
  obtain ⟨h0, F, h3, h4⟩ := has_group (Gs := mapT p (L.map fun s => s.e) :: tm L) (Ts := Ts) h
  exact ⟨h0, F, ⟨L, rfl, hok, h3⟩, h4⟩
theorem ser_ok0 : SerOk [] := ⟨fun _ h => absurd h List.not_mem_nil, fun _ h => absurd h List.not_mem_nil, Nat.zero_le _, fun _ h => absurd h List.not_mem_nil⟩
section
variable {B : Nat} {w : World} {p : Nat} {V : List PV} {Ts : List Th}
theorem st_new (h : Has B w Ts) : Calls Try.prog 8 #[] w fun e w' => ∃ p, e = .returned (ptr p) ∧ Has B w' (storeT p [] :: Ts) ∧ Below B w w' := by
  refine (snew_calls h).mono ?_
  rintro e w' ⟨p, rfl, h1, h2⟩
  exact ⟨p, rfl, store_shut (L := []) h1 ser_ok0, h2⟩
theorem st_len (h : Has B w (storeT p V :: Ts)) : Calls Try.prog 11 #[ptr p] w fun e w' => e = .returned (.int .i64 (V.length : Int)) ∧ w = w' := by
  obtain ⟨L, rfl, hok, hA⟩ := store_open h
  refine (slen_calls hA (List.mem_cons_self ..)).mono ?_
  rintro e w' ⟨rfl, rfl⟩
  exact ⟨by unfold viewL; rw [List.length_map, List.length_map], rfl⟩
theorem st_add (h : Has B w (storeT p V :: Ts)) {A : Option Addr} {c : Nat} {ls : List LB} (x : SM) (hC : ∀ w', Has B w' Ts → Below B w w' → Kd.C kL w' A ls.length ls) (hc : ls.length ≤ c) (hl : ls.length ≤ 9223372036854775807) :
    Calls Try.prog 9 #[ptr p, .slice A ls.length c, .agg #[.int .i64 x.f0, .int .i64 x.f1]] w fun e w' => e = .returned (.int .i64 (addV V ls x).1) ∧ Has B w' (storeT p (addV V ls x).2 :: Ts) ∧ Below B w w' := by
  obtain ⟨L, rfl, hok, hA⟩ := store_open h
  refine (sadd_calls hA hok x hC hc hl).mono ?_
  rintro e w' ⟨rfl, b, hd, h1, h2⟩
  have h3 := store_shut h1 (add_ok hok ls x b hd)
  rw [addL_view hok.name] at h3
  exact ⟨by rw [addE_view hok.name], h3, h2⟩
theorem st_exp (h : Has B w (storeT p V :: Ts)) (at_ : Int) : Calls Try.prog 10 #[ptr p, .int .i64 at_] w fun e w' => e = .returned (.int .i64 (expVN V at_ : Int)) ∧ Has B w' (storeT p (expV V at_) :: Ts) ∧ Below B w w' := by
  obtain ⟨L, rfl, hok, hA⟩ := store_open h
  refine (sexp_calls hA hok at_).mono ?_
  rintro e w' ⟨rfl, h1, h2⟩
  have h3 := store_shut h1 (exp_ok hok at_)
  rw [(exp_view at_).1] at h3
  exact ⟨by rw [(exp_view at_).2], h3, h2⟩
end
end Go.Proofs.Ytlhlaadnifkdhaa.Sr
