/- A store of files: the names, rising: walked. No law is proved here. (with what is built on it) -/
import Derived.Test.YtibnakpefjjoiaaM1
import Derived.Test.YtibnakpefjjoiaaKeys
import Derived.Test.YtibnakpefjjoiaaQ11
namespace Go.Proofs.Ytibnakpefjjoiaa.Fs
open Go.RowKit Go.Shelf Go.Proofs.YtibnakpefjjoiaaW.PrintWords Go.Proofs.YtibnakpefjjoiaaW.PrintLast Go.Proofs.YtibnakpefjjoiaaW.PrintMore Go.Proofs.Ytibnakpefjjoiaa.Q Go.Proofs.Ytibnakpefjjoiaa.Own
set_option linter.unusedVariables false
set_option linter.unusedSimpArgs false
attribute [local go_sem ↓] Go.wp_at_zero Go.wp_at_succ

theorem rise_sorted {L : List SF} (h : Rise L) : (L.map nameL).Pairwise fun a b => a < b := by
  rw [List.pairwise_map]
  exact h
theorem names_sorted {w : World} {mb n : Nat} {D : DataW Value} {ok : Nat → Prop} {L : List SF} (hown : w.ownsMap Try.prog 9 RV mb n D) (hf : FilesAt w ok D L) (hr : Rise L) {ss : List (List UInt8)} (hp : ss.Perm (Go.strKeys D)) : ss.mergeSort (fun x y => decide (x ≤ y)) = L.map nameL := by
  have hperm : (L.map nameL).Perm (Go.strKeys D) := by
    obtain ⟨es, hD, hpw, _⟩ := hown.entries lawK
    obtain ⟨es', hD', hko⟩ := hown.keysOf
    obtain rfl : es = es' := by rw [hD] at hD'; simpa using hD'
    subst hD
    refine Go.perm_strKeys hpw (fun p hp => by obtain ⟨v, hv⟩ := hko p hp; obtain ⟨x, _, hx, _⟩ := Go.Maps.keyOf_str Try.underlying9 hv; exact ⟨x, hx⟩) ?_ (fun x => ?_)
    · exact (rise_sorted hr).imp fun {a b} q e => by rw [e] at q; exact List.lt_irrefl _ q
    · rw [hf.has]
      constructor
      · intro hx
        obtain ⟨y, hy, rfl⟩ := List.mem_map.1 hx
        rw [find_of (rise_unlike hr) hy]
        rfl
      · intro hx
        obtain ⟨y, hy⟩ := Option.isSome_iff_exists.1 hx
        obtain ⟨h1, h2⟩ := find_mem hy
        exact List.mem_map.2 ⟨y, h1, h2⟩
  have h1 : (ss.mergeSort (fun x y => decide (x ≤ y))).Perm (L.map nameL) := (List.mergeSort_perm ss _).trans (hp.trans hperm.symm)
  have tr : ∀ a b c : List UInt8, decide (a ≤ b) = true → decide (b ≤ c) = true → decide (a ≤ c) = true := fun a b c q1 q2 => by
    simp only [decide_eq_true_eq] at *
    exact List.le_trans q1 q2
  have tot : ∀ a b : List UInt8, (decide (a ≤ b) || decide (b ≤ a)) = true := fun a b => by
    simp only [Bool.or_eq_true, decide_eq_true_eq]
    exact List.le_total a b
  refine List.Perm.eq_of_pairwise (le := fun a b : List UInt8 => decide (a ≤ b) = true) (fun a b _ _ q1 q2 => ?_) (List.pairwise_mergeSort tr tot ss) ((rise_sorted hr).imp fun {a b} q => ?_) h1
  · simp only [decide_eq_true_eq] at q1 q2
    exact List.le_antisymm q1 q2
  · simp only [decide_eq_true_eq]
    exact List.le_of_lt q
def namesL (st : Stt) : List ByteArray := st.L.map fun x => x.f0
def NamesPost (w : World) (ns : List ByteArray) (e : Ending) (w' : World) : Prop := ∃ v, e = .returned v ∧ Kd.R Kd.string 9 w' w.heap.size (fun _ => True) v ns ∧ Below w.heap.size w w'
theorem encs_names (L : List SF) : (L.map nameL).map encStr = encs Value.string (L.map fun x => x.f0) := by
  unfold encs
  rw [List.map_map, List.map_map]
  exact List.map_congr_left fun x _ => rfl
set_option maxHeartbeats 1000000 in
set_option maxRecDepth 100000 in
theorem names_calls {B : Nat} {w : World} {p : Nat} {st : Stt} {Ts : List Th} (h : Has B w (stoT p st :: Ts)) (hg : OkS st) :
    Calls Try.prog 11 #[ptr p] w (NamesPost w (namesL st)) := by
  have HN := Aside0.mk (none_calls h)
  obtain ⟨F, ⟨hF, mb, D, h1, h2, h3, h4, h5, h6, h7⟩, hFb, put⟩ := h.head
  have c0 : w.cell? ⟨p, 0, none⟩ = some (.map (some mb)) := by rw [blk_cell h3]; rfl
  have hsz : Go.Maps.size D = st.L.length := h5.size
  have HK1 := Aside0.mk (callsIn_wide.1 ((Keys.maps_Keys (some mb) w)))
  have HK2 := Aside0.mk (callsIn_wide.1 ((Keys.sorted_keys mb st.L.length D RV w h4 (by unfold maxLen; have := hg.n; omega) (by have := hg.n; omega))))
  have HS := Aside0.mk (fun ss hp => names_sorted (ss := ss) h4 h5 h6 hp)
  clear h h3 h4 h5 h6 h7 put hFb hF
  go_enter Try.func11, Try.ntmps11
  go_wp2_with fail
  refine HN.out.mono ?_
  rintro e w1 ⟨rfl, rfl⟩
  go_wp2_with fail
  refine HK1.out.mono ?_
  rintro e w1 ⟨rfl, rfl⟩
  go_wp2_with fail
  refine HK2.out.mono ?_
  rintro e w2 ⟨v, ss, rfl, hp, hrow, -, hb⟩
  have hlen : ss.length = (namesL st).length := by
    have := congrArg List.length (HS.out ss hp)
    rw [List.length_mergeSort] at this
    unfold namesL
    simpa using this
  rw [HS.out ss hp, hlen, encs_names] at hrow
  have hR : Kd.R Kd.string 9 w2 w.heap.size (fun _ => True) v (namesL st) := Kd.R_lower (Kd.R_of_own hrow (fun _ _ => trivial)) (by simp)
  have HR := Aside0.mk hR
  have HB : Aside0 (Below w.heap.size w w2) := ⟨((Below.refl _ w).alloc (Nat.le_refl _) _).trans (hb.mono (by simp))⟩
  clear hrow hp hb hR hlen HS
  go_wp2_with fail
  go_ret
  exact ⟨v, rfl, HR.out, HB.out⟩
end Go.Proofs.Ytibnakpefjjoiaa.Fs
namespace Go.Proofs.Ytibnakpefjjoiaa.Fs
open Go.RowKit Go.Proofs.YtibnakpefjjoiaaW.PrintWords Go.Proofs.YtibnakpefjjoiaaW.PrintLast Go.Proofs.YtibnakpefjjoiaaW.PrintMore Go.Proofs.Ytibnakpefjjoiaa.Q Go.Proofs.Ytibnakpefjjoiaa.Own
set_option linter.unusedVariables false
set_option linter.unusedSimpArgs false

abbrev kR : Kd (List Int) := Kd.slice 5 kB
theorem at_R {w : World} {A : Option Addr} {n : Nat} {l : List (List Int)} (h : Kd.C kR w A n l) (i : Nat) (hi : i < l.length) : ∃ ad A1 c1, A = some ad ∧ w.cell? (ad.add i) = some (.slice A1 l[i].length c1) ∧ l[i].length ≤ c1 ∧ Kd.C kB w A1 l[i].length l[i] := by
  have hn := Kd.C_len h
  obtain ⟨ad, c, e, _, hK, hc⟩ := Kd.C_get h [] (i : Int) (by omega) (by omega)
  have hg : l.getD (i : Int).toNat [] = l[i] := by rw [Int.toNat_natCast, List.getD_eq_getElem?_getD, List.getElem?_eq_getElem hi]; rfl
  rw [hg] at hK
  obtain ⟨A1, c1, rfl, h1, h2⟩ := hK
  refine ⟨ad, A1, c1, e, ?_, h1, h2⟩
  have h0 := hc 0 _ rfl
  rw [Int.toNat_natCast] at h0
  have h3 : w.cell? (ad.add (i * 1 + 0)) = some (.slice A1 l[i].length c1) := h0
  rwa [Nat.mul_one, Nat.add_zero] at h3
def nA : ByteArray := ⟨#[97]⟩
def nB : ByteArray := ⟨#[98]⟩
/-- A store with one file, behind so many acts. -/
def oneS (s : ByteArray) (acts : Int) (xs : List Int) : Stt := ⟨-1, acts, [⟨s, xs, 0⟩]⟩
theorem ok_one (s : ByteArray) {acts : Int} {xs : List Int} (h0 : 0 ≤ acts) (h1 : acts < 1000000) (h2 : xs.length ≤ 100000000) : OkS (oneS s acts xs) := ⟨h0, h1, by show (-1 : Int) ≤ -1; omega, by show (-1 : Int) ≤ 9223372036854775807; omega, by show (1 : Nat) < 900000; omega, fun x hx => by
  obtain rfl : x = ⟨s, xs, 0⟩ := by simpa [oneS] using hx
  exact h2⟩
theorem ok_new : OkS ⟨-1, 0, []⟩ := ⟨by show (0 : Int) ≤ 0; omega, by show (0 : Int) < 1000000; omega, by show (-1 : Int) ≤ -1; omega, by show (-1 : Int) ≤ 9223372036854775807; omega, by show (0 : Nat) < 900000; omega, fun x hx => absurd hx List.not_mem_nil⟩
theorem find_one (s : ByteArray) (xs : List Int) (y : Int) : findF [(⟨s, xs, y⟩ : SF)] s.data.toList = some ⟨s, xs, y⟩ := by
  unfold findF nameL
  rw [List.find?_cons]
  simp
theorem cut_one (s : ByteArray) (xs : List Int) (y : Int) : cutF [(⟨s, xs, y⟩ : SF)] s.data.toList = [] := by
  unfold cutF nameL
  simp
theorem set_one (s : ByteArray) (xs zs : List Int) (y z : Int) : setF [(⟨s, xs, y⟩ : SF)] ⟨s, zs, z⟩ = [⟨s, zs, z⟩] := by
  unfold setF
  rw [show nameL ⟨s, zs, z⟩ = s.data.toList from rfl, cut_one]
  rfl
theorem append_new {ys : List Int} (hy : ys.length ≤ 1000000) : appendS ⟨-1, 0, []⟩ nA ys = (0, oneS nA 1 ys) := by
  unfold appendS
  rw [if_neg (by decide), if_neg (by decide), if_neg, if_neg (by decide)]
  · rfl
  · have e : longF ⟨-1, 0, []⟩ nA ys.length = decide (1048576 - (0 : Int) < (ys.length : Int)) := rfl
    rw [e, decide_eq_false (by omega)]
    decide
theorem append_one {k : Int} {xs ys : List Int} (hy : xs.length + ys.length ≤ 1000000) : appendS (oneS nA k xs) nA ys = (0, oneS nA (k + 1) (xs ++ ys)) := by
  have e1 : appendX (oneS nA k xs) nA = ⟨nA, xs, 0⟩ := by unfold appendX oneS; rw [find_one]; rfl
  have e2 : fullF (oneS nA k xs) nA = false := by unfold fullF oneS; rw [find_one]; rfl
  unfold appendS
  rw [if_neg (show ¬ (oneS nA k xs).left = 0 by show ¬ (-1 : Int) = 0; decide), if_neg (by decide), if_neg, if_neg (by rw [e2]; decide), e1]
  · show ((0 : Int), (⟨leftF (-1), k + 1, setF [(⟨nA, xs, 0⟩ : SF)] ⟨nA, xs ++ ys, 0⟩⟩ : Stt)) = _
    rw [set_one]
    rfl
  · unfold longF
    rw [e1, decide_eq_false (by dsimp only; omega)]
    decide
theorem trunc_one {k : Int} {xs : List Int} {n : Nat} (hn : n ≤ xs.length) : truncS (oneS nA k xs) nA (n : Int) = (0, oneS nA (k + 1) (xs.take n)) := by
  unfold truncS onF
  rw [if_neg (show ¬ (oneS nA k xs).left = 0 by show ¬ (-1 : Int) = 0; decide)]
  show (match findF [(⟨nA, xs, 0⟩ : SF)] nA.data.toList with | none => ((31 : Int), oneS nA k xs) | some x => if (n : Int) < 0 ∨ (x.f1.length : Int) < (n : Int) then (2, ⟨-1, k, withL [(⟨nA, xs, 0⟩ : SF)] nA x⟩) else (0, ⟨leftF (-1), k + 1, withL [(⟨nA, xs, 0⟩ : SF)] nA ⟨x.f0, x.f1.take (n : Int).toNat, minI x.f2 (n : Int)⟩⟩)) = _
  rw [find_one]
  dsimp only
  rw [if_neg (by omega), Int.toNat_natCast]
  unfold withL
  rw [find_one, if_pos (by rfl), set_one]
  have e : minI 0 (n : Int) = 0 := by unfold minI; rw [if_neg (by omega)]
  rw [e]
  rfl
theorem rename_one {k : Int} {xs : List Int} : renameS (oneS nA k xs) nA nB = (0, oneS nB (k + 1) xs) := by
  unfold renameS onF
  rw [if_neg (show ¬ (oneS nA k xs).left = 0 by show ¬ (-1 : Int) = 0; decide)]
  show (match findF [(⟨nA, xs, 0⟩ : SF)] nA.data.toList with | none => ((31 : Int), oneS nA k xs) | some x => if mayF nB = true then (0, ⟨leftF (-1), k + 1, withL (setF (cutF [(⟨nA, xs, 0⟩ : SF)] nA.data.toList) ⟨nB, x.f1, x.f2⟩) nA x⟩) else (2, ⟨-1, k, withL [(⟨nA, xs, 0⟩ : SF)] nA x⟩)) = _
  rw [find_one]
  dsimp only
  rw [if_pos (by decide), cut_one]
  have e : setF [] (⟨nB, xs, 0⟩ : SF) = [⟨nB, xs, 0⟩] := rfl
  have e2 : findF [(⟨nB, xs, 0⟩ : SF)] nA.data.toList = none := rfl
  rw [e]
  unfold withL
  rw [e2]
  rfl
theorem told_one (s : ByteArray) (k : Int) (xs : List Int) : toldE (oneS s k xs) s = 0 ∧ toldX (oneS s k xs) s = ⟨s, xs, 0⟩ := by
  unfold toldE toldX oneS
  rw [if_neg (by show ¬ (-1 : Int) = 0; decide), if_neg (by show ¬ (-1 : Int) = 0; decide), find_one]
  exact ⟨rfl, rfl⟩
theorem told_gone (k : Int) (xs : List Int) : toldE (oneS nB k xs) nA = 31 := rfl
theorem rise_one (s : ByteArray) (xs : List Int) (y : Int) : Rise [(⟨s, xs, y⟩ : SF)] := List.pairwise_singleton _ _
theorem wrap_mod (a : Int) (m : Nat) (h1 : 0 < m) (h2 : m ≤ 1000000) : ∃ j : Nat, j < m ∧ wrap64 ((IntKind.u64.wrap a).tmod (IntKind.u64.wrap (m : Int))) = (j : Int) := by
  obtain ⟨g1, g2⟩ := wrap_within .u64 a
  have g1' : 0 ≤ IntKind.u64.wrap a := g1
  have e : IntKind.u64.wrap (m : Int) = (m : Int) := by rw [IntKind.wrap_u64]; omega
  rw [e, Int.tmod_eq_emod_of_nonneg g1']
  generalize IntKind.u64.wrap a = b at *
  have m0 := Int.emod_nonneg b (show (m : Int) ≠ 0 by omega)
  have m1 := Int.emod_lt_of_pos b (show (0 : Int) < m by omega)
  refine ⟨(b % m).toNat, by omega, ?_⟩
  unfold wrap64
  omega
end Go.Proofs.Ytibnakpefjjoiaa.Fs
namespace Go.Proofs.Ytibnakpefjjoiaa.Fs
open Go.RowKit Go.Proofs.YtibnakpefjjoiaaW.PrintWords Go.Proofs.YtibnakpefjjoiaaW.PrintLast Go.Proofs.YtibnakpefjjoiaaW.PrintMore Go.Proofs.Ytibnakpefjjoiaa.Q Go.Proofs.Ytibnakpefjjoiaa.Own
set_option linter.unusedVariables false
set_option linter.unusedSimpArgs false

theorem row_grown {α : Type} {d : Kd α} {e : Nat} {B : Nat} {W w1 : World} {Ts : List Th} {ys : List α} {F : Nat → Prop} {v v1 : Value} (hFb : ∀ k, F k → B ≤ k ∧ k < W.heap.size)
    (put : ∀ (w' : World) (F' : Nat → Prop) (T' : Th), KeepF F W w' → T'.on w' F' → (∀ k, F' k → (F k ∨ W.heap.size ≤ k) ∧ k < w'.heap.size) → Has B w' (T' :: Ts) ∧ Below B W w')
    (hv : ∀ k, v.ownBlock = some k → F k) (hg : W.grownBy w1 v.ownBlock) (hr : d.R e w1 0 (fun k => F k ∨ W.heap.size ≤ k) v1 ys) : Has B w1 (rowT d e v1 ys :: Ts) ∧ Below B W w1 :=
  put w1 (fun k => (F k ∨ W.heap.size ≤ k) ∧ k < w1.heap.size) (rowT d e v1 ys) (KeepF.grown (KeepF.refl F W) hg fun k e => .inl (hv k e)) (Kd.R_mono (Kd.R_bound hr) fun k hk => ⟨hk.1, hk.2.2.1⟩) (fun k hk => hk)
/-- append(v, ys...) to a row of one's own. -/
theorem app_rows {P : Program} {ops : Array Oper} {rest : List Oper} {o : Oper} {a : Act} {Q : Exit → Act → World → Prop} {α : Type} (d : Kd α) {B : Nat} {W : World} {Ts : List Th} {e : TypeId} {v : Value} {xs ys : List α} (h : Has B W (rowT d e v xs :: Ts))
    (hgd : o.guard = none) (s x : Operand) (t : TypeId) (z : Value) (bytes : Nat) (ho : o.op = .call { callee := .builtin .append, args := #[s, x], argTypes := #[t, t] })
    (ht : P.underlying t = some (.slice e)) (hinfo : (P.info? e).map (fun i => (i.zero, i.size, i.bytes)) = some (some z, d.sz, bytes)) (hz : z.cells.size = d.sz) (hs0 : 0 < d.sz) (hb0 : 0 < bytes)
    (A : Option Addr) (c : Nat) (hs : a.eval s = v) (hx : a.eval x = .slice A ys.length c) (HC : d.C W A ys.length ys) (hKM : ∀ x cs, d.K W x cs → d.M W 0 (fun _ => False) x cs) (hl : (xs.length + ys.length) * bytes ≤ 140737488355328)
    (hK : ∀ v1 w1, Has B w1 (rowT d e v1 (xs ++ ys) :: Ts) → Below B W w1 → wpList P ops Q rest (a.put o.dst v1) w1) : wpList P ops Q (o :: rest) a W := by
  obtain ⟨F, hr, hFb, put⟩ := h.head
  have hr' : Kd.R d e W 0 F v xs := hr
  refine Kd.R_append_rows d (Rr := d.K W) (w0 := W) (W := W) 0 hgd s x t e z bytes ho ht hinfo hz hs0 hb0 v xs ys A ys.length c (fun k => F k ∨ W.heap.size ≤ k) (fun _ => False) hs hx (Kd.R_mono hr' fun k hk => .inl hk) HC hKM (fun _ f => f.elim) (fun k hk => .inr hk) (Below.refl _ _) (Nat.zero_le _) hl ?_
  intro v1 w1 hr1 _ hg _
  obtain ⟨q1, q2⟩ := row_grown hFb put hr'.1 hg hr1
  exact hK v1 w1 q1 q2
theorem wrap_nat {i : Nat} (h : i < 9223372036854775807) : wrap64 ((i : Int) + 1) = ((i + 1 : Nat) : Int) := by unfold wrap64; omega
/-- The store behind k pieces. -/
def pcS (l : List (List Int)) (k : Nat) : Stt := if k = 0 then ⟨-1, 0, []⟩ else oneS nA k (l.take k).flatten
theorem take_flat (l : List (List Int)) {k : Nat} (hk : k < l.length) : (l.take (k + 1)).flatten = (l.take k).flatten ++ l[k] := by
  rw [List.take_succ_eq_append_getElem hk, List.flatten_append]
  simp
theorem take_flat_le (l : List (List Int)) (k : Nat) : (l.take k).flatten.length ≤ l.flatten.length := by
  have h : l.flatten = (l.take k).flatten ++ (l.drop k).flatten := by rw [← List.flatten_append, List.take_append_drop]
  rw [h, List.length_append]
  omega
theorem pc_ok {l : List (List Int)} {k : Nat} (hk : k ≤ 50) (hl : l.flatten.length ≤ 20000) : OkS (pcS l k) := by
  unfold pcS
  split
  · exact ok_new
  · exact ok_one nA (by omega) (by omega) (by have := take_flat_le l k; omega)
theorem pc_rise (l : List (List Int)) (k : Nat) : Rise (pcS l k).L := by
  unfold pcS
  split
  · exact List.Pairwise.nil
  · exact rise_one _ _ _
theorem pc_next {l : List (List Int)} {k : Nat} (hk : k < l.length) (hl : l.flatten.length ≤ 20000) : appendS (pcS l k) nA l[k] = (0, pcS l (k + 1)) := by
  have h1 := take_flat_le l (k + 1)
  rw [take_flat l hk, List.length_append] at h1
  unfold pcS
  by_cases h : k = 0
  · subst h
    rw [if_pos rfl, if_neg (by omega), append_new (by omega), take_flat l hk]
    rfl
  · rw [if_neg h, if_neg (by omega), append_one (by omega), take_flat l hk]
    rfl
theorem u64_nz (n : Nat) (h : n ≤ 1000000) : (IntKind.u64.wrap (((n + 1 : Nat) : Int)) == 0) = false := by
  rw [IntKind.wrap_u64, beq_eq_false_iff_ne]
  omega
end Go.Proofs.Ytibnakpefjjoiaa.Fs
namespace Go.Proofs.Ytibnakpefjjoiaa.Fs
open Go.RowKit Go.Proofs.YtibnakpefjjoiaaW.PrintWords Go.Proofs.YtibnakpefjjoiaaW.PrintLast Go.Proofs.YtibnakpefjjoiaaW.PrintMore Go.Proofs.Ytibnakpefjjoiaa.Q Go.Proofs.Ytibnakpefjjoiaa.Own
set_option linter.unusedVariables false
set_option linter.unusedSimpArgs false

theorem wrap_id {i : Int} (h0 : -9223372036854775808 ≤ i) (h1 : i ≤ 9223372036854775807) : wrap64 i = i := by unfold wrap64; omega
/-- How many bytes more are left, behind those that were synced. -/
def moreI (keep : List Int) (n : Nat) (x : SF) : Int := if n < keep.length then minI (maxI (keep.getD n 0) 0) ((x.f1.length : Int) - x.f2) else 0
def crash1 (keep : List Int) (n : Nat) (x : SF) : SF := ⟨x.f0, x.f1.take (x.f2 + moreI keep n x).toNat, x.f2 + moreI keep n x⟩
def crashF (keep : List Int) : Nat → List SF → List SF
  | _, [] => []
  | n, x :: L => if x.f2 = (x.f1.length : Int) then x :: crashF keep n L else crash1 keep n x :: crashF keep (n + 1) L
def crashN : Nat → List SF → Nat
  | n, [] => n
  | n, x :: L => if x.f2 = (x.f1.length : Int) then crashN n L else crashN (n + 1) L
/-- A file is as files are. -/
def SafeF (x : SF) : Prop := 0 ≤ x.f2 ∧ x.f2 ≤ (x.f1.length : Int) ∧ x.f0.size ≤ 32
def SafeS (st : Stt) : Prop := ∀ x ∈ st.L, SafeF x
theorem more_le (keep : List Int) (n : Nat) {x : SF} (h : SafeF x) : 0 ≤ moreI keep n x ∧ x.f2 + moreI keep n x ≤ (x.f1.length : Int) := by
  obtain ⟨h1, h2, h3⟩ := h
  unfold moreI minI maxI
  split
  · split <;> split <;> omega
  · omega
theorem crash1_len (keep : List Int) (n : Nat) {x : SF} (h : SafeF x) : ((crash1 keep n x).f1.length : Int) = (crash1 keep n x).f2 := by
  have := more_le keep n h
  obtain ⟨h1, h2, h3⟩ := h
  unfold crash1
  dsimp only
  rw [List.length_take]
  omega
theorem crash1_safe (keep : List Int) (n : Nat) {x : SF} (h : SafeF x) : SafeF (crash1 keep n x) := by
  have h1 := crash1_len keep n h
  have h2 := more_le keep n h
  refine ⟨?_, by omega, h.2.2⟩
  show 0 ≤ x.f2 + moreI keep n x
  have := h.1
  omega
theorem crash_names (keep : List Int) : ∀ (n : Nat) (L : List SF), (crashF keep n L).map (fun x => x.f0) = L.map fun x => x.f0
  | _, [] => rfl
  | n, x :: L => by
    unfold crashF
    split
    · rw [List.map_cons, List.map_cons, crash_names keep n L]
    · rw [List.map_cons, List.map_cons, crash_names keep (n + 1) L]
      rfl
theorem crash_length (keep : List Int) (n : Nat) (L : List SF) : (crashF keep n L).length = L.length := by
  have := congrArg List.length (crash_names keep n L)
  simpa using this
theorem crash_snoc (keep : List Int) (x : SF) : ∀ (n : Nat) (A : List SF), crashF keep n (A ++ [x]) = crashF keep n A ++ (if x.f2 = (x.f1.length : Int) then [x] else [crash1 keep (crashN n A) x]) ∧ crashN n (A ++ [x]) = if x.f2 = (x.f1.length : Int) then crashN n A else crashN n A + 1
  | n, [] => by
    show crashF keep n [x] = _ ∧ crashN n [x] = _
    unfold crashF crashN
    split
    · exact ⟨rfl, rfl⟩
    · exact ⟨rfl, rfl⟩
  | n, y :: A => by
    obtain ⟨i1, i2⟩ := crash_snoc keep x n A
    obtain ⟨j1, j2⟩ := crash_snoc keep x (n + 1) A
    by_cases hy : y.f2 = (y.f1.length : Int)
    · refine ⟨?_, ?_⟩
      · show (if y.f2 = (y.f1.length : Int) then y :: crashF keep n (A ++ [x]) else _) = (if y.f2 = (y.f1.length : Int) then y :: crashF keep n A else _) ++ (if x.f2 = (x.f1.length : Int) then [x] else [crash1 keep (if y.f2 = (y.f1.length : Int) then crashN n A else _) x])
        rw [if_pos hy, if_pos hy, if_pos hy, i1]
        rfl
      · show (if y.f2 = (y.f1.length : Int) then crashN n (A ++ [x]) else _) = if x.f2 = (x.f1.length : Int) then (if y.f2 = (y.f1.length : Int) then crashN n A else _) else (if y.f2 = (y.f1.length : Int) then crashN n A else _) + 1
        rw [if_pos hy, if_pos hy, i2]
    · refine ⟨?_, ?_⟩
      · show (if y.f2 = (y.f1.length : Int) then _ else crash1 keep n y :: crashF keep (n + 1) (A ++ [x])) = (if y.f2 = (y.f1.length : Int) then _ else crash1 keep n y :: crashF keep (n + 1) A) ++ (if x.f2 = (x.f1.length : Int) then [x] else [crash1 keep (if y.f2 = (y.f1.length : Int) then _ else crashN (n + 1) A) x])
        rw [if_neg hy, if_neg hy, if_neg hy, j1]
        rfl
      · show (if y.f2 = (y.f1.length : Int) then _ else crashN (n + 1) (A ++ [x])) = if x.f2 = (x.f1.length : Int) then (if y.f2 = (y.f1.length : Int) then _ else crashN (n + 1) A) else (if y.f2 = (y.f1.length : Int) then _ else crashN (n + 1) A) + 1
        rw [if_neg hy, if_neg hy, j2]
theorem rise_names {L M : List SF} (h : Rise L) (e : M.map (fun x => x.f0) = L.map fun x => x.f0) : Rise M := by
  have key : ∀ K : List SF, Rise K ↔ (K.map fun x => x.f0).Pairwise fun a b : ByteArray => a.data.toList < b.data.toList := fun K => by rw [List.pairwise_map]; rfl
  rw [key, e, ← key]
  exact h
/-- A file is put in the place of one of its name. -/
theorem set_place {A R : List SF} {x y : SF} (h : Rise (A ++ x :: R)) (e : y.f0 = x.f0) : setF (A ++ x :: R) y = A ++ y :: R := by
  have hn : nameL y = nameL x := congrArg (fun s : ByteArray => s.data.toList) e
  have hc : cutF (A ++ x :: R) (nameL x) = A ++ R := by
    have hu := rise_unlike h
    unfold cutF
    rw [List.filter_append, List.filter_cons, if_neg (by simp), List.filter_eq_self.2, List.filter_eq_self.2]
    · intro z hz
      rw [bne_iff_ne]
      have := (List.pairwise_cons.1 (List.pairwise_append.1 hu).2.1).1 z hz
      exact fun q => this q.symm
    · intro z hz
      rw [bne_iff_ne]
      exact (List.pairwise_append.1 hu).2.2 z hz x (List.mem_cons_self ..)
  have hp : (setF (A ++ x :: R) y).Perm (A ++ y :: R) := by
    unfold setF
    rw [hn, hc]
    exact (ins_perm _ _).trans List.perm_middle.symm
  have h1 := set_rise h y
  have h2 : Rise (A ++ y :: R) := rise_names h (by rw [List.map_append, List.map_append, List.map_cons, List.map_cons, e])
  refine List.Perm.eq_of_pairwise (le := fun a b => nameL a < nameL b) (fun a b _ _ q1 q2 => absurd q2 (lt_asymm' q1)) h1 h2 hp
theorem find_place {A R : List SF} {x : SF} (h : Rise (A ++ x :: R)) : findF (A ++ x :: R) x.f0.data.toList = some x := find_of (rise_unlike h) (by simp)
/-- The files in the middle of a crash: the first i are as it leaves them. -/
def midF (keep : List Int) (L : List SF) (i : Nat) : List SF := crashF keep 0 (L.take i) ++ L.drop i
theorem mid_names (keep : List Int) (L : List SF) (i : Nat) : (midF keep L i).map (fun x => x.f0) = L.map fun x => x.f0 := by
  unfold midF
  rw [List.map_append, crash_names, ← List.map_append, List.take_append_drop]
theorem mid_rise (keep : List Int) {L : List SF} (h : Rise L) (i : Nat) : Rise (midF keep L i) := rise_names h (mid_names keep L i)
theorem mid_at (keep : List Int) (L : List SF) {i : Nat} (hi : i < L.length) : midF keep L i = crashF keep 0 (L.take i) ++ L[i] :: L.drop (i + 1) := by
  unfold midF
  rw [List.drop_eq_getElem_cons hi]
theorem mid_same (keep : List Int) (L : List SF) {i : Nat} (hi : i < L.length) (e : L[i].f2 = (L[i].f1.length : Int)) : midF keep L (i + 1) = midF keep L i ∧ crashN 0 (L.take (i + 1)) = crashN 0 (L.take i) := by
  obtain ⟨h1, h2⟩ := crash_snoc keep L[i] 0 (L.take i)
  rw [← List.take_succ_eq_append_getElem hi] at h1 h2
  rw [if_pos e] at h1 h2
  refine ⟨?_, h2⟩
  rw [mid_at keep L hi]
  unfold midF
  rw [h1, List.append_assoc]
  rfl
theorem mid_next (keep : List Int) {L : List SF} (h : Rise L) {i : Nat} (hi : i < L.length) (e : ¬ L[i].f2 = (L[i].f1.length : Int)) : midF keep L (i + 1) = setF (midF keep L i) (crash1 keep (crashN 0 (L.take i)) L[i]) ∧ crashN 0 (L.take (i + 1)) = crashN 0 (L.take i) + 1 := by
  obtain ⟨h1, h2⟩ := crash_snoc keep L[i] 0 (L.take i)
  rw [← List.take_succ_eq_append_getElem hi] at h1 h2
  rw [if_neg e] at h1 h2
  refine ⟨?_, h2⟩
  have hr := mid_rise keep h i
  rw [mid_at keep L hi] at hr ⊢
  rw [set_place (y := crash1 keep (crashN 0 (L.take i)) L[i]) hr rfl]
  unfold midF
  rw [h1, List.append_assoc]
  rfl
theorem mid_end (keep : List Int) (L : List SF) : midF keep L L.length = crashF keep 0 L := by
  unfold midF
  rw [List.take_length, List.drop_length, List.append_nil]
def crashS (st : Stt) (keep : List Int) : Stt := ⟨-1, st.acts, crashF keep 0 st.L⟩
theorem crash_mem {keep : List Int} : ∀ {n : Nat} {L : List SF} {y : SF}, y ∈ crashF keep n L → ∃ x ∈ L, (y = x ∧ x.f2 = (x.f1.length : Int)) ∨ ∃ m, y = crash1 keep m x
  | _, [], _, h => absurd h List.not_mem_nil
  | n, x :: L, y, h => by
    unfold crashF at h
    split at h
    · rename_i hx
      rcases List.mem_cons.1 h with rfl | h
      · exact ⟨y, List.mem_cons_self .., .inl ⟨rfl, hx⟩⟩
      · obtain ⟨z, hz, q⟩ := crash_mem h
        exact ⟨z, List.mem_cons_of_mem _ hz, q⟩
    · rcases List.mem_cons.1 h with rfl | h
      · exact ⟨x, List.mem_cons_self .., .inr ⟨n, rfl⟩⟩
      · obtain ⟨z, hz, q⟩ := crash_mem h
        exact ⟨z, List.mem_cons_of_mem _ hz, q⟩
theorem crash_safe {st : Stt} {keep : List Int} (h : SafeS st) : SafeS (crashS st keep) := by
  intro y hy
  obtain ⟨x, hx, ⟨rfl, _⟩ | ⟨m, rfl⟩⟩ := crash_mem (show y ∈ crashF keep 0 st.L from hy)
  · exact h _ hx
  · exact crash1_safe keep m (h x hx)
theorem mid_mem {keep : List Int} {L : List SF} {i : Nat} {y : SF} (h : y ∈ midF keep L i) : y ∈ L ∨ ∃ x ∈ L, ∃ m, y = crash1 keep m x := by
  rcases List.mem_append.1 h with h | h
  · obtain ⟨x, hx, ⟨rfl, _⟩ | ⟨m, rfl⟩⟩ := crash_mem h
    · exact .inl (List.mem_of_mem_take hx)
    · exact .inr ⟨x, List.mem_of_mem_take hx, m, rfl⟩
  · exact .inl (List.mem_of_mem_drop h)
theorem crash_ok {st : Stt} {keep : List Int} (h : OkS st) : OkS (crashS st keep) := ⟨h.a0, h.a1, by show (-1 : Int) ≤ -1; omega, by show (-1 : Int) ≤ 9223372036854775807; omega, by show (crashF keep 0 st.L).length < 900000; rw [crash_length]; exact h.n, fun y hy => by
  obtain ⟨x, hx, ⟨rfl, _⟩ | ⟨m, rfl⟩⟩ := crash_mem (show y ∈ crashF keep 0 st.L from hy)
  · exact h.few _ hx
  · refine Nat.le_trans ?_ (h.few x hx)
    show (x.f1.take _).length ≤ x.f1.length
    rw [List.length_take]
    omega⟩
theorem crash_rise {st : Stt} {keep : List Int} (h : Rise st.L) : Rise (crashS st keep).L := rise_names h (crash_names keep 0 st.L)
end Go.Proofs.Ytibnakpefjjoiaa.Fs
namespace Go.Proofs.Ytibnakpefjjoiaa.Fs
open Go.RowKit Go.Proofs.YtibnakpefjjoiaaW.PrintWords Go.Proofs.YtibnakpefjjoiaaW.PrintLast Go.Proofs.YtibnakpefjjoiaaW.PrintMore Go.Proofs.Ytibnakpefjjoiaa.Q Go.Proofs.Ytibnakpefjjoiaa.Own
set_option linter.unusedVariables false
set_option linter.unusedSimpArgs false
attribute [local go_sem ↓] Go.wp_at_zero Go.wp_at_succ
attribute [local go_sem] Opn.str_leq Opn.str_gtr Opn.str_geq max2_int min2_int max_two min_two max_three min_three max_four min_four

abbrev kI : Kd Int := Kd.int .i64
theorem at_I {w : World} {A : Option Addr} {n : Nat} {l : List Int} (h : Kd.C kI w A n l) (i : Nat) (hi : i < l.length) : ∃ ad, A = some ad ∧ w.cell? (ad.add i) = some (.int .i64 (l.getD i 0)) := by
  have hn := Kd.C_len h
  obtain ⟨ad, c, e, _, hK, hc⟩ := Kd.C_get h 0 (i : Int) (by omega) (by omega)
  rw [Int.toNat_natCast] at hK hc
  have hK' : c = [.int .i64 (l.getD i 0)] := hK
  have h0 := hc 0 (.int .i64 (l.getD i 0)) (by rw [hK']; rfl)
  have h3 : w.cell? (ad.add (i * 1 + 0)) = some (.int .i64 (l.getD i 0)) := h0
  rw [Nat.mul_one, Nat.add_zero] at h3
  exact ⟨ad, e, h3⟩
theorem at_S {w : World} {A : Option Addr} {n : Nat} {l : List ByteArray} (h : Kd.C Kd.string w A n l) (i : Nat) (hi : i < l.length) : ∃ ad, A = some ad ∧ w.cell? (ad.add i) = some (.string l[i]) := by
  have hn := Kd.C_len h
  obtain ⟨ad, c, e, _, hK, hc⟩ := Kd.C_get h l[i] (i : Int) (by omega) (by omega)
  rw [Int.toNat_natCast, List.getD_eq_getElem?_getD, List.getElem?_eq_getElem hi] at hK
  rw [Int.toNat_natCast] at hc
  have hK' : c = [.string l[i]] := hK
  have h0 := hc 0 (.string l[i]) (by rw [hK']; rfl)
  have h3 : w.cell? (ad.add (i * 1 + 0)) = some (.string l[i]) := h0
  rw [Nat.mul_one, Nat.add_zero] at h3
  exact ⟨ad, e, h3⟩
abbrev rowS (v : Value) (ns : List ByteArray) : Th := rowT Kd.string 9 v ns
theorem crashN_le : ∀ (n : Nat) (L : List SF), crashN n L ≤ n + L.length
  | n, [] => Nat.le_refl _
  | n, x :: L => by
    unfold crashN
    have h1 := crashN_le n L
    have h2 := crashN_le (n + 1) L
    rw [List.length_cons]
    split <;> omega
theorem crash_put {B : Nat} {w : World} {p b m c : Nat} {left acts x2 : Int} {x0 : ByteArray} {x1 : List Int} {A : Option Addr} {M : List SF} {Ts : List Th} (h : Has B w (storeT p left acts M (some ⟨b, ⟨x0, x1, x2⟩, A, c⟩) :: Ts)) {z : Int} (hz : z = (m : Int)) (hm : m ≤ x1.length) (hs : x0.size ≤ 32) (hM : M.length < 1000000) :
    w.frozen? ⟨b, 0, none⟩ = false ∧ (w.setCell ⟨b, 0, none⟩ (.slice A m c)).frozen? ⟨b, 1, none⟩ = false ∧ (w.setCell ⟨b, 0, none⟩ (.slice A m c)).cell? ⟨b, 0, none⟩ = some (.slice A m c) ∧ (w.setCell ⟨b, 0, none⟩ (.slice A m c)).cell? ⟨b, 1, none⟩ = some (.int .i64 x2) ∧
      ∃ mb w', ((w.setCell ⟨b, 0, none⟩ (.slice A m c)).setCell ⟨b, 1, none⟩ (.int .i64 z)).drew.cell? ⟨p, 0, none⟩ = some (.map (some mb)) ∧ ((w.setCell ⟨b, 0, none⟩ (.slice A m c)).setCell ⟨b, 1, none⟩ (.int .i64 z)).drew.cell? ⟨b, 0, none⟩ = some (.slice A m c) ∧ ((w.setCell ⟨b, 0, none⟩ (.slice A m c)).setCell ⟨b, 1, none⟩ (.int .i64 z)).drew.cell? ⟨b, 1, none⟩ = some (.int .i64 z) ∧
        (Instr.mapUpdate 60 (.map (some mb)) (.string x0) (.agg #[.slice A m c, .int .i64 z])).run Try.prog ((w.setCell ⟨b, 0, none⟩ (.slice A m c)).setCell ⟨b, 1, none⟩ (.int .i64 z)).drew = .ok () w' ∧
        Has B w' (storeT p left acts (setF M ⟨x0, x1.take m, z⟩) none :: Ts) ∧ Below B w w' := by
  subst hz
  have hmt : (x1.take m).length = m := by rw [List.length_take]; omega
  obtain ⟨-, hcut⟩ := open_set h
  obtain ⟨hA4, hB4⟩ := hcut m hm
  dsimp only at hA4
  obtain ⟨r0, r1, rf, -, -⟩ := open_cells hA4
  dsimp only at r0 r1
  rw [hmt] at r0
  obtain ⟨hset, -⟩ := open_set hA4
  obtain ⟨hA5, hB5⟩ := hset (m : Int)
  dsimp only at hA5
  obtain ⟨s0, s1, -, -, -⟩ := open_cells hA5
  dsimp only at s0 s1
  rw [hmt] at s0
  obtain ⟨mb3, w7, k0, hput, hA7, hB7⟩ := put_run hA5.drew (s := x0) (by omega) hM
  dsimp only at hput hA7
  unfold fv at hput
  dsimp only at hput
  rw [hmt] at hput
  exact ⟨(open_cells h).2.2.1 0, rf 1, r0, r1, mb3, w7, k0, s0, s1, hput, store_shut hA7, ((hB4.trans hB5).trans (below_drew (Below.refl _ _))).trans hB7⟩
theorem set_alloc (wr : World) (a b a' b' : Value) (t : TypeId) : ((wr.alloc (.cells #[a, b] t)).setCell ⟨wr.heap.size, 0, none⟩ a').setCell ⟨wr.heap.size, 1, none⟩ b' = wr.alloc (.cells #[a', b'] t) := by
  simp [go_sem]
theorem drew_alloc (w : World) (o : Obj) : (w.alloc o).drew = w.drew.alloc o := rfl
/-- The same at a file that was opened just now. -/
theorem crash_put2 {B : Nat} {wr : World} {p m c : Nat} {left acts x2 : Int} {x0 : ByteArray} {x1 : List Int} {A : Option Addr} {M : List SF} {Ts : List Th} (h : Has B (wr.alloc (.cells #[.slice A x1.length c, .int .i64 x2] 67)) (storeT p left acts M (some ⟨wr.heap.size, ⟨x0, x1, x2⟩, A, c⟩) :: Ts)) {z : Int} (hz : z = (m : Int)) (hm : m ≤ x1.length) (hs : x0.size ≤ 32) (hM : M.length < 1000000) :
    ∃ mb w', (wr.alloc (.cells #[.slice A m c, .int .i64 z] 67)).drew.cell? ⟨p, 0, none⟩ = some (.map (some mb)) ∧ (wr.alloc (.cells #[.slice A m c, .int .i64 z] 67)).drew.cell? ⟨wr.heap.size, 0, none⟩ = some (.slice A m c) ∧ (wr.alloc (.cells #[.slice A m c, .int .i64 z] 67)).drew.cell? ⟨wr.heap.size, 1, none⟩ = some (.int .i64 z) ∧
        (Instr.mapUpdate 60 (.map (some mb)) (.string x0) (.agg #[.slice A m c, .int .i64 z])).run Try.prog (wr.alloc (.cells #[.slice A m c, .int .i64 z] 67)).drew = .ok () w' ∧
        Has B w' (storeT p left acts (setF M ⟨x0, x1.take m, z⟩) none :: Ts) ∧ Below B (wr.alloc (.cells #[.slice A x1.length c, .int .i64 x2] 67)) w' := by
  obtain ⟨-, -, -, -, mb, w', h1, h2, h3, h4, h5, h6⟩ := crash_put h hz hm hs hM
  rw [set_alloc] at h1 h2 h3 h4
  exact ⟨mb, w', h1, h2, h3, h4, h5, h6⟩
set_option maxHeartbeats 8000000 in
set_option maxRecDepth 100000 in
theorem crash_calls {B : Nat} {w : World} {p : Nat} {st : Stt} {Ts : List Th} (h : Has B w (stoT p st :: Ts)) (hg : OkS st) (hr : Rise st.L) (hf : SafeS st) {Ak : Option Addr} {ck : Nat} {keep : List Int} (hK : ∀ w', Has B w' Ts → Below B w w' → Kd.C kI w' Ak keep.length keep) :
    Calls Try.prog 20 #[ptr p, .slice Ak keep.length ck] w fun e w' => e = .returned (.tuple #[]) ∧ Has B w' (stoT p (crashS st keep) :: Ts) ∧ Below B w w' := by
  have HN := Aside0.mk (none_calls h)
  have HNM := Aside0.mk (names_calls h hg)
  have HH := Aside0.mk h
  obtain ⟨left, acts, L⟩ := st
  have HR := Aside0.mk (show Rise L from hr)
  have HF := Aside0.mk (show ∀ x ∈ L, SafeF x from hf)
  have HN9 : Aside0 (L.length < 900000) := ⟨hg.n⟩
  have HFEW : Aside0 (∀ x ∈ L, x.f1.length ≤ 100000000) := ⟨hg.few⟩
  have HKK := Aside0.mk hK
  clear h hg hr hf hK
  go_enter Try.func20, Try.ntmps20
  go_wp2_with fail
  refine HN.out.mono ?_
  rintro e w1 ⟨rfl, rfl⟩
  go_wp2_with fail
  refine HNM.out.mono ?_
  rintro e w2 ⟨v, rfl, hrow, hb⟩
  obtain ⟨An, cn, rfl, -, -⟩ := Kd.R_reads hrow
  have HA2 : Aside0 (Has B w2 (storeT p left acts (midF keep L 0) none :: rowS (.slice An (namesL ⟨left, acts, L⟩).length cn) (namesL ⟨left, acts, L⟩) :: Ts)) := ⟨by
    have := (HH.out.row hb hrow).swap
    show Has B w2 (storeT p left acts (midF keep L 0) none :: _)
    exact this⟩
  have HB2 := Aside0.mk (hb.mono HH.out.size)
  have hnl : (namesL ⟨left, acts, L⟩).length = L.length := by unfold namesL; rw [List.length_map]
  clear hrow hb HNM HN HH
  generalize hns : namesL ⟨left, acts, L⟩ = ns at HA2 hnl
  have HNS := Aside0.mk hns
  rw [hnl] at HA2 ⊢
  clear hns
  go_wp2_with fail
  go_loopw [14, 4] (fun i m wr => ∃ k : Nat, i = .int .i64 k ∧ m = .int .i64 (crashN 0 (L.take k) : Nat) ∧ k ≤ L.length ∧ Aside0 (Has B wr (storeT p left acts (midF keep L k) none :: rowS (.slice An L.length cn) ns :: Ts)) ∧ Aside0 (Below B w wr)) (fun i _ _ => L.length - (intOf i).toNat)
  case atStart => exact ⟨0, rfl, rfl, by omega, HA2, HB2⟩
  case round =>
    clear HA2 HB2
    obtain ⟨k, rfl, rfl, hk, HA, HB⟩ := hrel
    by_cases hlt : k < L.length
    · have d1 : decide ((k : Int) < (L.length : Int)) = true := decide_eq_true (by omega)
      have d2 : decide (0 ≤ (k : Int)) = true := decide_eq_true (by omega)
      obtain ⟨_, _, ev, -, hCn⟩ := HA.out.reads (d := Kd.string) (e := 9) (v := .slice An L.length cn) (xs := ns) (by simp)
      obtain ⟨rfl, -, rfl⟩ : An = _ ∧ _ ∧ cn = _ := by injection ev with e1 e2 e3; exact ⟨e1, e2, e3⟩
      obtain ⟨adn, rfl, hcell⟩ := at_S hCn k (by omega)
      have hnk : ns[k]'(by omega) = (L[k]).f0 := by
        have := HNS.out
        subst this
        simp [namesL]
      rw [hnk] at hcell
      have hxs : SafeF L[k] := HF.out _ (List.getElem_mem hlt)
      have hxl : (L[k]).f1.length ≤ 100000000 := HFEW.out _ (List.getElem_mem hlt)
      have hfind : findF (midF keep L k) (L[k]).f0.data.toList = some L[k] := by
        have hm := mid_rise keep HR.out k
        rw [mid_at keep L hlt] at hm ⊢
        exact find_place hm
      have HSM := Aside0.mk (fun e => mid_same keep L hlt e)
      have HNX := Aside0.mk (fun e => mid_next keep HR.out hlt e)
      have hml : (midF keep L k).length < 1000000 := by
        have := congrArg List.length (mid_names keep L k)
        rw [List.length_map, List.length_map] at this
        have := HN9.out
        omega
      have hnk2 := crashN_le 0 (L.take k)
      rw [List.length_take] at hnk2
      have hnk3 : crashN 0 (L.take k) < 1000000 := by have := HN9.out; omega
      have HML := Aside0.mk hml
      generalize L[k] = x at hcell hfind hxs hxl HSM HNX
      obtain ⟨x0, x1, x2⟩ := x
      dsimp only at hcell hfind hxl HSM HNX
      have hx1 : 0 ≤ x2 := hxs.1
      have hx2 : x2 ≤ (x1.length : Int) := hxs.2.1
      have hx3 : x0.size ≤ 32 := hxs.2.2
      generalize midF keep L k = M at hfind HA HSM HNX HML
      generalize crashN 0 (L.take k) = cnt at HSM HNX hnk3
      obtain ⟨mb, A, c, c0, -, hrun, hA, hB⟩ := look_hit HA.out (s := x0) (by omega) hfind false
      have HA3 := Aside0.mk hA
      have HB3 := Aside0.mk (HB.out.trans hB)
      obtain ⟨b0, b1, -, hle, -⟩ := open_cells hA
      dsimp only at b0 b1 hle
      have EK : Aside0 (wrap64 ((k : Int) + 1) = ((k + 1 : Nat) : Int)) := ⟨by have := HN9.out; exact wrap_nat (by omega)⟩
      have EC : Aside0 (wrap64 ((cnt : Int) + 1) = ((cnt + 1 : Nat) : Int)) := ⟨wrap_nat (by omega)⟩
      have HXS := Aside0.mk hxs
      have HC0 := Aside0.mk b0
      have HC1 := Aside0.mk b1
      have HX3 := Aside0.mk hx3
      clear hA hB hml hnk2 hCn hfind hnk ev b0 b1 hxs hx3
      go_wp2_with fail
      · have hq : (x2 == (x1.length : Int)) = true := by assumption
        obtain ⟨hm1, hm2⟩ := HSM.out (beq_iff_eq.1 hq)
        rw [EK.out]
        refine ⟨⟨k + 1, rfl, by rw [hm2], by omega, ⟨by rw [hm1]; exact store_shut HA3.out⟩, HB3⟩, ?_⟩
        show L.length - (((k + 1 : Nat) : Int)).toNat < L.length - ((k : Int)).toNat
        omega
      · have hq : (x2 == (x1.length : Int)) = false := by assumption
        have hkl : cnt < keep.length := by assumption
        have hmi : moreI keep cnt ⟨x0, x1, x2⟩ = minI (maxI (keep.getD cnt 0) 0) ((x1.length : Int) - x2) := if_pos hkl
        obtain ⟨hm1, hm2⟩ := HNX.out (beq_eq_false_iff_ne.1 hq)
        have hmo : 0 ≤ moreI keep cnt ⟨x0, x1, x2⟩ ∧ x2 + moreI keep cnt ⟨x0, x1, x2⟩ ≤ (x1.length : Int) := more_le keep cnt HXS.out
        obtain ⟨z, hz⟩ : ∃ z : Int, x2 + moreI keep cnt ⟨x0, x1, x2⟩ = z := ⟨_, rfl⟩
        have hcr : crash1 keep cnt ⟨x0, x1, x2⟩ = ⟨x0, x1.take z.toNat, z⟩ := by unfold crash1; rw [hz]
        rw [hcr] at hm1
        have hwm : wrap64 (x2 + moreI keep cnt ⟨x0, x1, x2⟩) = z := by rw [hz]; exact wrap_id (by omega) (by omega)
        have hz0 : 0 ≤ z := by omega
        have hz1 : z ≤ (x1.length : Int) := by omega
        have HCK := HKK.out _ HA3.out.tail.tail HB3.out
        obtain ⟨adk, rfl, hkc⟩ := at_I HCK cnt hkl
        have b0 := HC0.out
        have b1 := HC1.out
        have d4 : decide ((cnt : Int) < (keep.length : Int)) = true := decide_eq_true (by omega)
        have d5 : decide (0 ≤ (cnt : Int)) = true := decide_eq_true (by omega)
        clear HCK hcr hmo hz
        generalize keep.getD cnt 0 = y at hkc hmi
        have hwl : wrap64 ((x1.length : Int) - x2) = (x1.length : Int) - x2 := wrap_id (by omega) (by omega)
        generalize hw3 : wr.alloc (.cells #[.slice A x1.length c, .int .i64 x2] 67) = w3 at hkc b0 b1 ⊢
        generalize hbb : wr.heap.size = b at b0 b1 ⊢
        have hkc2 : w3.drew.cell? (adk.add cnt) = some (.int .i64 y) := hkc
        refine start_ (n := 13) (S := fun w' => w'.cell? (adk.add cnt) = some (.int .i64 y) ∧ w'.cell? ⟨b, 0, none⟩ = some (.slice A x1.length c) ∧ w'.cell? ⟨b, 1, none⟩ = some (.int .i64 x2)) (ds := []) #[false, false, false, false, false, false, false, false, false, false, false, false, false] (by kernel_rfl) rfl rfl ⟨hkc2, b0, b1⟩ (fun hHeld => ?_)
        refine pure_ (i := 0) (N := some 34) (v := ?_) (a' := ?_) #[true, false, false, false, false, false, false, false, false, false, false, false, false] rfl rfl (by kernel_rfl) (fun _ _ _ h => h) (Or.inl ⟨by rfl, ?_⟩) ?_ ?_
        rotate_left
        · intro w'
          go_simp
          with_reducible rfl
        rotate_left
        · simp only [Act.put, List.setIfInBounds_toArray, List.set_cons_zero, List.set_cons_succ, i64_w, i32_w]
          rfl
        refine pure_ (i := 1) (N := some 35) (v := ?_) (a' := ?_) #[true, true, false, false, false, false, false, false, false, false, false, false, false] rfl rfl (by kernel_rfl) (fun _ _ _ h => h) (Or.inl ⟨by rfl, ?_⟩) ?_ ?_
        rotate_left
        · intro w'
          go_simp
          with_reducible rfl
        rotate_left
        · simp only [Act.put, List.setIfInBounds_toArray, List.set_cons_zero, List.set_cons_succ, i64_w, i32_w]
          rfl
        refine pure_ (i := 2) (N := some 36) (v := ?_) (a' := ?_) #[true, true, true, false, false, false, false, false, false, false, false, false, false] rfl rfl (by kernel_rfl) (fun _ _ _ h => h) (Or.inl ⟨by rfl, ?_⟩) ?_ ?_
        rotate_left
        · intro w'
          go_simp
          with_reducible rfl
        rotate_left
        · simp only [Act.put, List.setIfInBounds_toArray, List.set_cons_zero, List.set_cons_succ, i64_w, i32_w]
          rfl
        refine pure_ (i := 5) (N := some 39) (v := ?_) (a' := ?_) #[true, true, true, false, false, true, false, false, false, false, false, false, false] rfl rfl (by kernel_rfl) (fun _ _ _ h => h) (Or.inl ⟨by rfl, ?_⟩) ?_ ?_
        rotate_left
        · intro w'
          go_simp
          with_reducible rfl
        rotate_left
        · simp only [Act.put, List.setIfInBounds_toArray, List.set_cons_zero, List.set_cons_succ, i64_w, i32_w]
          rfl
        refine pure_ (i := 8) (N := some 42) (v := ?_) (a' := ?_) #[true, true, true, false, false, true, false, false, true, false, false, false, false] rfl rfl (by kernel_rfl) (fun _ _ _ h => h) (Or.inl ⟨by rfl, ?_⟩) ?_ ?_
        rotate_left
        · intro w'
          go_simp
          with_reducible rfl
        rotate_left
        · simp only [Act.put, List.setIfInBounds_toArray, List.set_cons_zero, List.set_cons_succ, i64_w, i32_w]
          rfl
        refine take_ (i := 3) (N := some 37) (v := ?_) (a' := ?_) #[true, true, true, true, false, true, false, false, true, false, false, false, false] rfl rfl (by kernel_rfl) (fun _ _ _ h => h) (Or.inl ⟨by rfl, ?_⟩) hHeld ?_ ?_
        rotate_left
        · rintro w' ⟨s0, s1, s2⟩
          go_simp
          with_reducible rfl
        rotate_left
        · simp only [Act.put, List.setIfInBounds_toArray, List.set_cons_zero, List.set_cons_succ, i64_w, i32_w]
          rfl
        refine pure_ (i := 4) (N := some 38) (v := ?_) (a' := ?_) #[true, true, true, true, true, true, false, false, true, false, false, false, false] rfl rfl (by kernel_rfl) (fun _ _ _ h => h) (Or.inl ⟨by rfl, ?_⟩) ?_ ?_
        rotate_left
        · intro w'
          go_simp
          with_reducible rfl
        rotate_left
        · simp only [Act.put, List.setIfInBounds_toArray, List.set_cons_zero, List.set_cons_succ, i64_w, i32_w]
          rfl
        refine take_ (i := 6) (N := some 40) (v := ?_) (a' := ?_) #[true, true, true, true, true, true, true, false, true, false, false, false, false] rfl rfl (by kernel_rfl) (fun _ _ _ h => h) (Or.inl ⟨by rfl, ?_⟩) hHeld ?_ ?_
        rotate_left
        · rintro w' ⟨s0, s1, s2⟩
          go_simp
          with_reducible rfl
        rotate_left
        · simp only [Act.put, List.setIfInBounds_toArray, List.set_cons_zero, List.set_cons_succ, i64_w, i32_w]
          rfl
        refine pure_ (i := 7) (N := some 41) (v := ?_) (a' := ?_) #[true, true, true, true, true, true, true, true, true, false, false, false, false] rfl rfl (by kernel_rfl) (fun _ _ _ h => h) (Or.inl ⟨by rfl, ?_⟩) ?_ ?_
        rotate_left
        · intro w'
          go_simp
          with_reducible rfl
        rotate_left
        · simp only [Act.put, List.setIfInBounds_toArray, List.set_cons_zero, List.set_cons_succ, i64_w, i32_w]
          rfl
        refine take_ (i := 9) (N := some 43) (v := ?_) (a' := ?_) #[true, true, true, true, true, true, true, true, true, true, false, false, false] rfl rfl (by kernel_rfl) (fun _ _ _ h => h) (Or.inl ⟨by rfl, ?_⟩) hHeld ?_ ?_
        rotate_left
        · rintro w' ⟨s0, s1, s2⟩
          go_simp
          with_reducible rfl
        rotate_left
        · simp only [Act.put, List.setIfInBounds_toArray, List.set_cons_zero, List.set_cons_succ, i64_w, i32_w]
          rfl
        refine pure_ (i := 10) (N := some 44) (v := ?_) (a' := ?_) #[true, true, true, true, true, true, true, true, true, true, true, false, false] rfl rfl (by kernel_rfl) (fun _ _ _ h => h) (Or.inl ⟨by rfl, ?_⟩) ?_ ?_
        rotate_left
        · intro w'
          go_simp
          with_reducible rfl
        rotate_left
        · simp only [Act.put, List.setIfInBounds_toArray, List.set_cons_zero, List.set_cons_succ, i64_w, i32_w]
          rfl
        refine pure_ (i := 11) (N := some 45) (v := ?_) (a' := ?_) #[true, true, true, true, true, true, true, true, true, true, true, true, false] rfl rfl (by kernel_rfl) (fun _ _ _ h => h) (Or.inl ⟨by rfl, ?_⟩) ?_ ?_
        rotate_left
        · intro w'
          go_simp
          with_reducible rfl
        rotate_left
        · simp only [Act.put, List.setIfInBounds_toArray, List.set_cons_zero, List.set_cons_succ, i64_w, i32_w]
          rfl
        refine pure_ (i := 12) (N := some 8) (v := ?_) (a' := ?_) #[true, true, true, true, true, true, true, true, true, true, true, true, true] rfl rfl (by kernel_rfl) (fun _ _ _ h => h) (Or.inl ⟨by rfl, ?_⟩) ?_ ?_
        rotate_left
        · intro w'
          go_simp
          with_reducible rfl
        rotate_left
        · simp only [Act.put, List.setIfInBounds_toArray, List.set_cons_zero, List.set_cons_succ, i64_w, i32_w]
          rfl
        refine done_ (by kernel_rfl) ?_

        have hmv : (if (x1.length : Int) - x2 < if y < 0 then 0 else y then (x1.length : Int) - x2 else if y < 0 then 0 else y) = moreI keep cnt ⟨x0, x1, x2⟩ := by rw [hmi]; rfl
        rw [hmv]
        generalize (if y < 0 then (0 : Int) else y) = my
        generalize moreI keep cnt ⟨x0, x1, x2⟩ = mr at hwm
        have HA4 : Aside0 (Has B (wr.drew.alloc (.cells #[.slice A x1.length c, .int .i64 x2] 67)) (storeT p left acts M (some ⟨wr.drew.heap.size, ⟨x0, x1, x2⟩, A, c⟩) :: rowS (.slice (some adn) L.length cn) ns :: Ts)) := ⟨HA3.out.drew⟩
        have HB4 : Aside0 (Below B w (wr.drew.alloc (.cells #[.slice A x1.length c, .int .i64 x2] 67))) := ⟨HB3.out.trans (below_drew (Below.refl _ _))⟩
        have hw4 : w3.drew = wr.drew.alloc (.cells #[.slice A x1.length c, .int .i64 x2] 67) := by rw [← hw3]; rfl
        have hb4 : b = wr.drew.heap.size := by rw [← hbb]; rfl
        rw [hw4, hb4]
        clear hw4 hb4 hmv hmi hkc hkc2 hwl b0 b1 hw3 hbb d4 d5 HC0 HC1 HA3 HB3 c0 hrun hcell HA HB HKK
        generalize wr.drew = wq at HA4 HB4 ⊢
        go_wp2_with fail
        have hmx : max z 0 = z := by omega
        rw [hmx]
        obtain ⟨mb3, w7, k0, s0, s1, hput, hA7, hB7⟩ := crash_put2 HA4.out (z := z) (m := z.toNat) (by omega) (by omega) HX3.out HML.out
        rw [← hm1] at hA7
        have HA7 := Aside0.mk hA7
        have HB7 := Aside0.mk (HB4.out.trans hB7)
        generalize z.toNat = m at k0 s0 s1 hput ⊢
        clear hA7 hB7 HA4 HB4 HML hm1 hkl hq HSM HNX hmx hwm hz0 hz1
        generalize wq.heap.size = b at k0 s0 s1 hput ⊢
        generalize (wq.alloc (.cells #[.slice A m c, .int .i64 z] 67)) = w5 at k0 s0 s1 hput ⊢
        refine start_ (n := 7) (S := fun w' => w'.cell? ⟨p, 0, none⟩ = some (.map (some mb3)) ∧ w'.cell? ⟨b, 0, none⟩ = some (.slice A m c) ∧ w'.cell? ⟨b, 1, none⟩ = some (.int .i64 z)) (ds := [6]) #[false, false, false, false, false, false, false] (by kernel_rfl) rfl rfl ⟨k0, s0, s1⟩ (fun hHeld => ?_)
        refine pure_ (i := 0) (N := some 58) (v := ?_) (a' := ?_) #[true, false, false, false, false, false, false] rfl rfl (by kernel_rfl) (fun _ _ _ h => h) (Or.inl ⟨by rfl, ?_⟩) ?_ ?_
        rotate_left
        · intro w'
          go_simp
          with_reducible rfl
        rotate_left
        · simp only [Act.put, List.setIfInBounds_toArray, List.set_cons_zero, List.set_cons_succ, i64_w, i32_w]
          rfl
        refine pure_ (i := 1) (N := some 59) (v := ?_) (a' := ?_) #[true, true, false, false, false, false, false] rfl rfl (by kernel_rfl) (fun _ _ _ h => h) (Or.inl ⟨by rfl, ?_⟩) ?_ ?_
        rotate_left
        · intro w'
          go_simp
          with_reducible rfl
        rotate_left
        · simp only [Act.put, List.setIfInBounds_toArray, List.set_cons_zero, List.set_cons_succ, i64_w, i32_w]
          rfl
        refine pure_ (i := 2) (N := some 60) (v := ?_) (a' := ?_) #[true, true, true, false, false, false, false] rfl rfl (by kernel_rfl) (fun _ _ _ h => h) (Or.inl ⟨by rfl, ?_⟩) ?_ ?_
        rotate_left
        · intro w'
          go_simp
          with_reducible rfl
        rotate_left
        · simp only [Act.put, List.setIfInBounds_toArray, List.set_cons_zero, List.set_cons_succ, i64_w, i32_w]
          rfl
        refine pure_ (i := 4) (N := some 62) (v := ?_) (a' := ?_) #[true, true, true, false, true, false, false] rfl rfl (by kernel_rfl) (fun _ _ _ h => h) (Or.inl ⟨by rfl, ?_⟩) ?_ ?_
        rotate_left
        · intro w'
          go_simp
          with_reducible rfl
        rotate_left
        · simp only [Act.put, List.setIfInBounds_toArray, List.set_cons_zero, List.set_cons_succ, i64_w, i32_w]
          rfl
        refine take_ (i := 3) (N := some 61) (v := ?_) (a' := ?_) #[true, true, true, true, true, false, false] rfl rfl (by kernel_rfl) (fun _ _ _ h => h) (Or.inl ⟨by rfl, ?_⟩) hHeld ?_ ?_
        rotate_left
        · rintro w' ⟨s0, s1, s2⟩
          go_simp
          with_reducible rfl
        rotate_left
        · simp only [Act.put, List.setIfInBounds_toArray, List.set_cons_zero, List.set_cons_succ, i64_w, i32_w]
          rfl
        refine take_ (i := 5) (N := some 63) (v := ?_) (a' := ?_) #[true, true, true, true, true, true, false] rfl rfl (by kernel_rfl) (fun _ _ _ h => h) (Or.inl ⟨by rfl, ?_⟩) hHeld ?_ ?_
        rotate_left
        · rintro w' ⟨s0, s1, s2⟩
          go_simp
          with_reducible rfl
        rotate_left
        · simp only [Act.put, List.setIfInBounds_toArray, List.set_cons_zero, List.set_cons_succ, i64_w, i32_w]
          rfl
        refine last_ (i := 6) (N := none) #[true, true, true, true, true, true, true] rfl rfl (by kernel_rfl) (by decide) (fun K hK => ?_)
        refine skip_ (w1 := ?_) (by rfl) rfl ?_ ?_
        rotate_left
        · go_simp
          rfl
        refine hK.out _ _ ?_
        clear hK K
        refine done_ (by kernel_rfl) ?_

        clear k0 s0 s1 hput
        go_wp2_with fail
        rw [EK.out]
        refine ⟨⟨k + 1, rfl, by rw [hm2]; rfl, by omega, HA7, HB7⟩, ?_⟩
        show L.length - (((k + 1 : Nat) : Int)).toNat < L.length - ((k : Int)).toNat
        omega
      · have hq : (x2 == (x1.length : Int)) = false := by assumption
        have hkl : ¬ cnt < keep.length := by assumption
        have hmi : moreI keep cnt ⟨x0, x1, x2⟩ = 0 := if_neg hkl
        obtain ⟨hm1, hm2⟩ := HNX.out (beq_eq_false_iff_ne.1 hq)
        have hcr : crash1 keep cnt ⟨x0, x1, x2⟩ = ⟨x0, x1.take x2.toNat, x2⟩ := by unfold crash1; rw [hmi, Int.add_zero]
        rw [hcr] at hm1
        have hmx : max x2 0 = x2 := by omega
        rw [hmx]
        obtain ⟨mb3, w7, k0, s0, s1, hput, hA7, hB7⟩ := crash_put2 HA3.out (z := x2) (m := x2.toNat) (by omega) (by omega) HX3.out HML.out
        rw [← hm1] at hA7
        have HA7 := Aside0.mk hA7
        have HB7 := Aside0.mk (HB3.out.trans hB7)
        generalize x2.toNat = m at k0 s0 s1 hput ⊢
        clear hA7 hB7 HA3 HB3 HA HB HKK HML hcr hm1 hmi hkl hq HSM HNX hmx c0 hrun hcell
        generalize wr.heap.size = b at k0 s0 s1 hput ⊢
        generalize (wr.alloc (.cells #[.slice A m c, .int .i64 x2] 67)) = w5 at k0 s0 s1 hput ⊢
        refine start_ (n := 7) (S := fun w' => w'.cell? ⟨p, 0, none⟩ = some (.map (some mb3)) ∧ w'.cell? ⟨b, 0, none⟩ = some (.slice A m c) ∧ w'.cell? ⟨b, 1, none⟩ = some (.int .i64 x2)) (ds := [6]) #[false, false, false, false, false, false, false] (by kernel_rfl) rfl rfl ⟨k0, s0, s1⟩ (fun hHeld => ?_)
        refine pure_ (i := 0) (N := some 58) (v := ?_) (a' := ?_) #[true, false, false, false, false, false, false] rfl rfl (by kernel_rfl) (fun _ _ _ h => h) (Or.inl ⟨by rfl, ?_⟩) ?_ ?_
        rotate_left
        · intro w'
          go_simp
          with_reducible rfl
        rotate_left
        · simp only [Act.put, List.setIfInBounds_toArray, List.set_cons_zero, List.set_cons_succ, i64_w, i32_w]
          rfl
        refine pure_ (i := 1) (N := some 59) (v := ?_) (a' := ?_) #[true, true, false, false, false, false, false] rfl rfl (by kernel_rfl) (fun _ _ _ h => h) (Or.inl ⟨by rfl, ?_⟩) ?_ ?_
        rotate_left
        · intro w'
          go_simp
          with_reducible rfl
        rotate_left
        · simp only [Act.put, List.setIfInBounds_toArray, List.set_cons_zero, List.set_cons_succ, i64_w, i32_w]
          rfl
        refine pure_ (i := 2) (N := some 60) (v := ?_) (a' := ?_) #[true, true, true, false, false, false, false] rfl rfl (by kernel_rfl) (fun _ _ _ h => h) (Or.inl ⟨by rfl, ?_⟩) ?_ ?_
        rotate_left
        · intro w'
          go_simp
          with_reducible rfl
        rotate_left
        · simp only [Act.put, List.setIfInBounds_toArray, List.set_cons_zero, List.set_cons_succ, i64_w, i32_w]
          rfl
        refine pure_ (i := 4) (N := some 62) (v := ?_) (a' := ?_) #[true, true, true, false, true, false, false] rfl rfl (by kernel_rfl) (fun _ _ _ h => h) (Or.inl ⟨by rfl, ?_⟩) ?_ ?_
        rotate_left
        · intro w'
          go_simp
          with_reducible rfl
        rotate_left
        · simp only [Act.put, List.setIfInBounds_toArray, List.set_cons_zero, List.set_cons_succ, i64_w, i32_w]
          rfl
        refine take_ (i := 3) (N := some 61) (v := ?_) (a' := ?_) #[true, true, true, true, true, false, false] rfl rfl (by kernel_rfl) (fun _ _ _ h => h) (Or.inl ⟨by rfl, ?_⟩) hHeld ?_ ?_
        rotate_left
        · rintro w' ⟨s0, s1, s2⟩
          go_simp
          with_reducible rfl
        rotate_left
        · simp only [Act.put, List.setIfInBounds_toArray, List.set_cons_zero, List.set_cons_succ, i64_w, i32_w]
          rfl
        refine take_ (i := 5) (N := some 63) (v := ?_) (a' := ?_) #[true, true, true, true, true, true, false] rfl rfl (by kernel_rfl) (fun _ _ _ h => h) (Or.inl ⟨by rfl, ?_⟩) hHeld ?_ ?_
        rotate_left
        · rintro w' ⟨s0, s1, s2⟩
          go_simp
          with_reducible rfl
        rotate_left
        · simp only [Act.put, List.setIfInBounds_toArray, List.set_cons_zero, List.set_cons_succ, i64_w, i32_w]
          rfl
        refine last_ (i := 6) (N := none) #[true, true, true, true, true, true, true] rfl rfl (by kernel_rfl) (by decide) (fun K hK => ?_)
        refine skip_ (w1 := ?_) (by rfl) rfl ?_ ?_
        rotate_left
        · go_simp
          rfl
        refine hK.out _ _ ?_
        clear hK K
        refine done_ (by kernel_rfl) ?_

        clear k0 s0 s1 hput
        go_wp2_with fail
        rw [EK.out]
        refine ⟨⟨k + 1, rfl, by rw [hm2]; rfl, by omega, HA7, HB7⟩, ?_⟩
        show L.length - (((k + 1 : Nat) : Int)).toNat < L.length - ((k : Int)).toNat
        omega
    · have d1 : decide ((k : Int) < (L.length : Int)) = false := decide_eq_false (by omega)
      obtain rfl : k = L.length := by omega
      obtain ⟨mb, c0, c1, c2, cf, -, -⟩ := store_cells HA.out
      obtain ⟨⟨hA, hB⟩, -⟩ := store_set HA.out (-1)
      have f1 := cf 1
      rw [mid_end] at hA
      have HA9 := Aside0.mk hA.swap.tail
      have HB9 := Aside0.mk (HB.out.trans hB)
      clear hA hB HA HB cf
      go_wp2_with fail
      go_end0
      exact ⟨rfl, HA9.out, HB9.out⟩
end Go.Proofs.Ytibnakpefjjoiaa.Fs
namespace Go.Proofs.Ytibnakpefjjoiaa.Fs
open Go.RowKit Go.Proofs.YtibnakpefjjoiaaW.PrintWords Go.Proofs.YtibnakpefjjoiaaW.PrintLast Go.Proofs.YtibnakpefjjoiaaW.PrintMore Go.Proofs.Ytibnakpefjjoiaa.Q Go.Proofs.Ytibnakpefjjoiaa.Own
set_option linter.unusedVariables false
set_option linter.unusedSimpArgs false

theorem set_mem {L : List SF} {x y : SF} (h : y ∈ setF L x) : y = x ∨ y ∈ L := by
  unfold setF at h
  rcases List.mem_cons.1 ((ins_perm _ _).mem_iff.1 h) with h | h
  · exact .inl h
  · exact .inr (cut_mem.1 h).1
theorem with_mem {L : List SF} {s : ByteArray} {x y : SF} (h : y ∈ withL L s x) : y = ⟨s, x.f1, x.f2⟩ ∨ y ∈ L := by
  unfold withL at h
  split at h
  · exact set_mem h
  · exact .inr h
theorem with_len2 {L : List SF} (hr : Rise L) (s : ByteArray) (x : SF) : (withL L s x).length = L.length := by
  unfold withL
  split
  · rename_i h
    rw [set_len hr, if_pos (show (findF L (nameL ⟨s, x.f1, x.f2⟩)).isSome = true from h)]
  · rfl
theorem with_rise {L : List SF} (hr : Rise L) (s : ByteArray) (x : SF) : Rise (withL L s x) := by
  unfold withL
  split
  · exact set_rise hr _
  · exact hr
/-- A store is as stores are, behind so many acts at most. -/
structure Fine (st : Stt) (k : Nat) : Prop where
  a0 : 0 ≤ st.acts
  a1 : st.acts ≤ k
  l0 : -1 ≤ st.left
  l1 : st.left ≤ 9223372036854775807
  n : st.L.length ≤ 64
  few : ∀ x ∈ st.L, x.f1.length ≤ 1048576
  rise : Rise st.L
  safe : SafeS st
theorem Fine.ok {st : Stt} {k : Nat} (h : Fine st k) (hk : k < 1000000) : OkS st := ⟨h.a0, by have := h.a1; omega, h.l0, h.l1, by have := h.n; omega, fun x hx => by have := h.few x hx; omega⟩
theorem Fine.more {st : Stt} {k m : Nat} (h : Fine st k) (hm : k ≤ m) : Fine st m := ⟨h.a0, by have := h.a1; omega, h.l0, h.l1, h.n, h.few, h.rise, h.safe⟩
theorem fine_new : Fine ⟨-1, 0, []⟩ 0 := ⟨by show (0 : Int) ≤ 0; omega, by show (0 : Int) ≤ _; omega, by show (-1 : Int) ≤ -1; omega, by show (-1 : Int) ≤ 9223372036854775807; omega, by show (0 : Nat) ≤ 64; omega, fun x hx => absurd hx List.not_mem_nil, List.Pairwise.nil, fun x hx => absurd hx List.not_mem_nil⟩
theorem left_ok {l : Int} (h0 : -1 ≤ l) (h1 : l ≤ 9223372036854775807) : -1 ≤ leftF l ∧ leftF l ≤ 9223372036854775807 := by
  unfold leftF
  split <;> omega
theorem may_32 {s : ByteArray} (h : ¬ mayF s = false) : s.size ≤ 32 := by
  have : mayF s = true := by cases hm : mayF s with
    | true => rfl
    | false => exact absurd hm h
  exact (of_decide_eq_true this).2
/-- A file of a store, put down again: another one in its place. -/
theorem Fine.put {st : Stt} {k : Nat} (h : Fine st k) {s : ByteArray} {x : SF} (hs : SafeF ⟨s, x.f1, x.f2⟩) (hx : x.f1.length ≤ 1048576) (l : Int) (hl : l = st.left ∨ l = leftF st.left) (a : Int) (ha : a = st.acts ∨ a = st.acts + 1) : Fine ⟨l, a, withL st.L s x⟩ (k + 1) := by
  have hq := left_ok h.l0 h.l1
  have q0 := h.a0
  have q1 := h.a1
  have q2 := h.l0
  have q3 := h.l1
  refine ⟨by show 0 ≤ a; omega, by show a ≤ ((k + 1 : Nat) : Int); omega, by show -1 ≤ l; omega, by show l ≤ _; omega, by show (withL _ _ _).length ≤ 64; rw [with_len2 h.rise]; exact h.n, fun y hy => ?_, with_rise h.rise s x, fun y hy => ?_⟩
  · rcases with_mem hy with rfl | hy
    · exact hx
    · exact h.few y hy
  · rcases with_mem hy with rfl | hy
    · exact hs
    · exact h.safe y hy
theorem find_safe {st : Stt} {k : Nat} (h : Fine st k) {s : ByteArray} {x : SF} (hx : findF st.L s.data.toList = some x) : SafeF x ∧ x.f1.length ≤ 1048576 ∧ x.f0 = s := by
  obtain ⟨h1, h2⟩ := find_mem hx
  exact ⟨h.safe x h1, h.few x h1, ByteArray.ext (Array.ext' (show x.f0.data.toList = s.data.toList from h2))⟩
theorem fine_on {st : Stt} {k : Nat} (h : Fine st k) (s : ByteArray) {do_ : SF → Int × Stt} (hd : ∀ x, findF st.L s.data.toList = some x → Fine (do_ x).2 (k + 1)) : Fine (onF st s do_).2 (k + 1) := by
  unfold onF
  split
  · exact h.more (by omega)
  · split
    · exact h.more (by omega)
    · rename_i x hx
      exact hd x hx
theorem fine_sync {st : Stt} {k : Nat} (h : Fine st k) (s : ByteArray) : Fine (syncS st s).2 (k + 1) := fine_on h s fun x hx => by
  obtain ⟨hs, hl, he⟩ := find_safe h hx
  refine h.put (s := s) (x := ⟨x.f0, x.f1, (x.f1.length : Int)⟩) ⟨?_, ?_, ?_⟩ hl _ (.inr rfl) _ (.inr rfl)
  · show (0 : Int) ≤ (x.f1.length : Int)
    omega
  · show (x.f1.length : Int) ≤ (x.f1.length : Int)
    omega
  · show s.size ≤ 32
    rw [← he]
    exact hs.2.2
theorem fine_trunc {st : Stt} {k : Nat} (h : Fine st k) (s : ByteArray) (n : Int) : Fine (truncS st s n).2 (k + 1) := fine_on h s fun x hx => by
  obtain ⟨hs, hl, he⟩ := find_safe h hx
  have h3 : s.size ≤ 32 := by rw [← he]; exact hs.2.2
  by_cases hn : n < 0 ∨ (x.f1.length : Int) < n
  · rw [if_pos hn]
    exact h.put (s := s) (x := x) ⟨hs.1, hs.2.1, h3⟩ hl _ (.inl rfl) _ (.inl rfl)
  · rw [if_neg hn]
    obtain ⟨s1, s2, _⟩ := hs
    refine h.put (s := s) (x := ⟨x.f0, x.f1.take n.toNat, minI x.f2 n⟩) ⟨?_, ?_, h3⟩ ?_ _ (.inr rfl) _ (.inr rfl)
    · show 0 ≤ minI x.f2 n
      unfold minI
      split <;> omega
    · show minI x.f2 n ≤ ((x.f1.take n.toNat).length : Int)
      rw [List.length_take]
      unfold minI
      split <;> omega
    · show (x.f1.take n.toNat).length ≤ 1048576
      rw [List.length_take]
      omega
theorem fine_rename {st : Stt} {k : Nat} (h : Fine st k) (s m : ByteArray) : Fine (renameS st s m).2 (k + 1) := fine_on h s fun x hx => by
  obtain ⟨hs, hl, he⟩ := find_safe h hx
  by_cases hm : mayF m = true
  · rw [if_pos hm]
    have hm3 : m.size ≤ 32 := (of_decide_eq_true hm).2
    have hx2 : SafeF ⟨m, x.f1, x.f2⟩ := ⟨hs.1, hs.2.1, hm3⟩
    have hr1 := cut_rise h.rise s.data.toList
    have hr2 := set_rise hr1 ⟨m, x.f1, x.f2⟩
    have hc := cut_len h.rise s.data.toList
    rw [hx, if_pos (show (some x).isSome = true from rfl)] at hc
    have hn := h.n
    have hF : Fine ⟨st.left, st.acts, setF (cutF st.L s.data.toList) ⟨m, x.f1, x.f2⟩⟩ k := by
      refine ⟨h.a0, h.a1, h.l0, h.l1, ?_, fun y hy => ?_, hr2, fun y hy => ?_⟩
      · show (setF _ _).length ≤ 64
        rw [set_len hr1]
        split <;> omega
      · rcases set_mem hy with rfl | hy
        · exact hl
        · exact h.few y (cut_mem.1 hy).1
      · rcases set_mem hy with rfl | hy
        · exact hx2
        · exact h.safe y (cut_mem.1 hy).1
    exact hF.put (s := s) (x := x) ⟨hs.1, hs.2.1, by show s.size ≤ 32; rw [← he]; exact hs.2.2⟩ hl _ (.inr rfl) _ (.inr rfl)
  · rw [if_neg hm]
    exact h.put (s := s) (x := x) ⟨hs.1, hs.2.1, by show s.size ≤ 32; rw [← he]; exact hs.2.2⟩ hl _ (.inl rfl) _ (.inl rfl)
theorem fine_remove {st : Stt} {k : Nat} (h : Fine st k) (s : ByteArray) : Fine (removeS st s).2 (k + 1) := fine_on h s fun x hx => by
  obtain ⟨hs, hl, he⟩ := find_safe h hx
  have hF : Fine ⟨st.left, st.acts, cutF st.L s.data.toList⟩ k := ⟨h.a0, h.a1, h.l0, h.l1, Nat.le_trans (cut_le _ _) h.n, fun y hy => h.few y (cut_mem.1 hy).1, cut_rise h.rise _, fun y hy => h.safe y (cut_mem.1 hy).1⟩
  exact hF.put (s := s) (x := x) ⟨hs.1, hs.2.1, by show s.size ≤ 32; rw [← he]; exact hs.2.2⟩ hl _ (.inr rfl) _ (.inr rfl)
theorem fine_append {st : Stt} {k : Nat} (h : Fine st k) (s : ByteArray) (ys : List Int) : Fine (appendS st s ys).2 (k + 1) := by
  unfold appendS
  split
  · exact h.more (by omega)
  split
  · exact h.more (by omega)
  rename_i hm
  split
  · exact h.more (by omega)
  rename_i hlg
  split
  · exact h.more (by omega)
  rename_i hfu
  have h3 : s.size ≤ 32 := may_32 hm
  have hq := left_ok h.l0 h.l1
  have q0 := h.a0
  have q1 := h.a1
  have hX : 0 ≤ (appendX st s).f2 ∧ (appendX st s).f2 ≤ ((appendX st s).f1.length : Int) ∧ (appendX st s).f1.length ≤ 1048576 := by
    unfold appendX
    cases hx : findF st.L s.data.toList with
    | none =>
      show (0 : Int) ≤ 0 ∧ (0 : Int) ≤ 0 ∧ (0 : Nat) ≤ 1048576
      omega
    | some x => exact ⟨(find_safe h hx).1.1, (find_safe h hx).1.2.1, (find_safe h hx).2.1⟩
  have hlg2 : ¬ 1048576 - ((appendX st s).f1.length : Int) < (ys.length : Int) := fun q => hlg (decide_eq_true q)
  have hn := h.n
  refine ⟨by show 0 ≤ st.acts + 1; omega, by show st.acts + 1 ≤ ((k + 1 : Nat) : Int); omega, hq.1, hq.2, ?_, fun y hy => ?_, set_rise h.rise _, fun y hy => ?_⟩
  · show (setF _ _).length ≤ 64
    rw [set_len h.rise]
    split
    · exact hn
    · rename_i hf
      have hf2 : (findF st.L s.data.toList).isSome = false := by
        cases q : (findF st.L s.data.toList).isSome with
        | false => rfl
        | true => exact absurd q hf
      unfold fullF at hfu
      rw [hf2] at hfu
      have : ¬ 64 ≤ st.L.length := fun q => hfu (by rw [decide_eq_true q]; rfl)
      omega
  · rcases set_mem hy with rfl | hy
    · show ((appendX st s).f1 ++ ys).length ≤ 1048576
      rw [List.length_append]
      omega
    · exact h.few y hy
  · rcases set_mem hy with rfl | hy
    · refine ⟨hX.1, ?_, h3⟩
      show (appendX st s).f2 ≤ (((appendX st s).f1 ++ ys).length : Int)
      rw [List.length_append]
      omega
    · exact h.safe y hy
theorem fine_power {st : Stt} {k : Nat} (h : Fine st k) {n : Int} (hn : n ≤ 9223372036854775807) : Fine ⟨maxI n (-1), st.acts, st.L⟩ k := ⟨h.a0, h.a1, by show -1 ≤ maxI n (-1); unfold maxI; split <;> omega, by show maxI n (-1) ≤ _; unfold maxI; split <;> omega, h.n, h.few, h.rise, h.safe⟩
theorem fine_crash {st : Stt} {k : Nat} (h : Fine st k) (keep : List Int) : Fine (crashS st keep) k := ⟨h.a0, h.a1, by show (-1 : Int) ≤ -1; omega, by show (-1 : Int) ≤ 9223372036854775807; omega, by show (crashF keep 0 st.L).length ≤ 64; rw [crash_length]; exact h.n, fun y hy => by
  obtain ⟨x, hx, ⟨rfl, _⟩ | ⟨m, rfl⟩⟩ := crash_mem (show y ∈ crashF keep 0 st.L from hy)
  · exact h.few _ hx
  · refine Nat.le_trans ?_ (h.few x hx)
    show (x.f1.take _).length ≤ x.f1.length
    rw [List.length_take]
    omega, crash_rise h.rise, crash_safe h.safe⟩
end Go.Proofs.Ytibnakpefjjoiaa.Fs
namespace Go.Proofs.Ytibnakpefjjoiaa.Fs
open Go.RowKit Go.Proofs.YtibnakpefjjoiaaW.PrintWords Go.Proofs.YtibnakpefjjoiaaW.PrintLast Go.Proofs.YtibnakpefjjoiaaW.PrintMore Go.Proofs.Ytibnakpefjjoiaa.Q Go.Proofs.Ytibnakpefjjoiaa.Own
set_option linter.unusedVariables false
set_option linter.unusedSimpArgs false

/-- A row that is written out. -/
theorem lit_rows {P : Program} {ops : Array Oper} {rest : List Oper} {o : Oper} {a : Act} {Q : Exit → Act → World → Prop} {α : Type} (d : Kd α) {B : Nat} {W : World} {Ts : List Th} (e : Nat) {N : Tmp} {xs : List α} (inner : List Value) (h : Has B W Ts)
    (hgd : o.guard = none) (hd : o.dst = some N) (hrun : (execOp a.eval o).run P W = .ok (.value (.slice (some ⟨W.heap.size, 0, none⟩) xs.length xs.length)) (W.alloc (.cells inner.toArray e)))
    (hrep : Reps (d.M W W.heap.size (fun _ => True)) d.sz xs inner) (hm : xs.length ≤ 9223372036854775807)
    (hK : ∀ v1 w1, Has B w1 (rowT d e v1 xs :: Ts) → Below B W w1 → wpList P ops Q rest (a.put o.dst v1) w1) : wpList P ops Q (o :: rest) a W := by
  refine Kd.R_lit d (w0 := W) W.heap.size e hgd hd (xs := xs) (inner := inner) (ok := fun _ => True) (okp := fun _ => True) hrun hrep (fun _ q => q) trivial (Below.refl _ _) (Nat.le_refl _) hm ?_
  intro v1 w1 hr hb _ _
  exact hK v1 w1 (h.row hb hr) (hb.mono h.size)
/-- A row that is made. -/
theorem make_rows {P : Program} {ops : Array Oper} {rest : List Oper} {o : Oper} {a : Act} {Q : Exit → Act → World → Prop} {α : Type} (d : Kd α) {B : Nat} {W : World} {Ts : List Th} (e : Nat) {N : Tmp} (h : Has B W Ts)
    (hgd : o.guard = none) (hd : o.dst = some N) (t : TypeId) (x y : Operand) (ho : o.op = .makeSlice t x y) (n : Int) (hx : a.eval x = .int .i64 n) (hy : a.eval y = .int .i64 n)
    (ht : P.underlying t = some (.slice e)) (z : Value) (bytes : Nat) (hinfo : (P.info? e).map (fun i => (i.zero, i.size, i.bytes)) = some (some z, d.sz, bytes)) (hz : z.cells.size = d.sz) (hs0 : 0 < d.sz) (hb0 : 0 < bytes)
    (z0 : α) (hzero : d.M W W.heap.size (fun _ => False) z0 z.cells.toList) (h0 : 0 ≤ n) (hl : n.toNat * bytes ≤ 281474976710656)
    (hK : ∀ v1 w1, Has B w1 (rowT d e v1 (List.replicate n.toNat z0) :: Ts) → Below B W w1 → wpList P ops Q rest (a.put o.dst v1) w1) : wpList P ops Q (o :: rest) a W := by
  refine Kd.R_make d (w0 := W) W.heap.size e hgd hd t x y ho n hx hy ht z bytes hinfo hz hs0 hb0 z0 (ok := fun _ => True) (okp := fun _ => False) hzero (fun _ q => q.elim) trivial h0 hl (Below.refl _ _) (Nat.le_refl _) ?_
  intro v1 w1 hr hb _ _
  exact hK v1 w1 (h.row hb hr) (hb.mono h.size)

theorem lit_B (w : World) (l : List Int) (hl : l.length ≤ 9223372036854775807) : Kd.C kB (w.alloc (.cells (encs (Value.int .u8) l).toArray 5)) (some ⟨w.heap.size, 0, none⟩) l.length l := by
  have h : Kd.R kB 5 (w.alloc (.cells (encs (Value.int .u8) l).toArray 5)) 0 (fun _ => True) (.slice (some ⟨w.heap.size, 0, none⟩) l.length l.length) l :=
    ⟨fun _ _ => trivial, OwnRow.lit (ps := l) w 0 (inner := encs (Value.int .u8) l) (Kd.reps_scalar l) (Nat.zero_le _) hl⟩
  exact (Kd.R_reads' h).2.2

/-- make([]byte, m): a row of noughts of one's own. -/
theorem make_run0 {B : Nat} {w : World} {Ts : List Th} (h : Has B w Ts) {m : Nat} (hm : m ≤ 1000000000) :
    ∃ v w', (Instr.makeSlice 23 (.int .i64 (m : Int)) (.int .i64 (m : Int))).run Try.prog w = .ok v w' ∧ Has B w' (rowT kB 5 v (List.replicate m 0) :: Ts) ∧ Below B w w' := by
  obtain ⟨i0, hi, hzz⟩ := Option.map_eq_some_iff.1 inf5
  simp only [Prod.mk.injEq] at hzz
  obtain ⟨hz0, hz1, hz2⟩ := hzz
  have hr := Go.run_make (P := Try.prog) w 23 5 i0 (.int .u8 0) Try.underlying23 hi hz0 .i64 .i64 (m : Int) (m : Int) (by omega) (by omega) (by rw [hz2]; omega) (by omega)
  simp only [Int.toNat_natCast] at hr
  rw [hz1] at hr
  have hrep : Reps (kB.M w w.heap.size (fun _ => True)) 1 (List.replicate m 0) (madeCells (Value.int .u8 0).cells (m * 1)).toList := Kd.reps_made (R := kB.M w w.heap.size (fun _ => True)) (z := .int .u8 0) (size := 1) (z0 := 0) rfl (by decide) rfl m
  have hb : Below w.heap.size w (w.alloc (.cells (madeCells (Value.int .u8 0).cells (m * 1)) 5)) := (Below.refl _ w).alloc (Nat.le_refl _) _
  refine ⟨_, _, hr, h.row hb ?_, hb.mono h.size⟩
  have hl := OwnRow.lit (ps := List.replicate m (0 : Int)) (e := 5) w w.heap.size (inner := (madeCells (Value.int .u8 0).cells (m * 1)).toList) hrep (Nat.le_refl _) (by rw [List.length_replicate]; omega)
  rw [List.length_replicate, Array.toArray_toList] at hl
  exact ⟨fun _ _ => trivial, hl⟩

/-! FilesEnds -/
def endL (xs : List Int) (safe : Nat) : List SF := if xs.length = 0 then [] else [⟨nA, xs, (safe : Int)⟩]
def endS (after done : Nat) (xs : List Int) (safe : Nat) : Stt := ⟨(after : Int) - done, done, endL xs safe⟩
theorem end_fine {after done : Nat} {xs : List Int} {safe : Nat} (h1 : done ≤ after) (h2 : after ≤ 40) (h3 : xs.length ≤ 100) (h4 : safe ≤ xs.length) : Fine (endS after done xs safe) 40 := by
  have hm : ∀ x ∈ endL xs safe, x = ⟨nA, xs, (safe : Int)⟩ := fun x hx => by
    unfold endL at hx
    split at hx
    · exact absurd hx List.not_mem_nil
    · exact List.mem_singleton.1 hx
  refine ⟨by show (0 : Int) ≤ (done : Int); omega, by show (done : Int) ≤ ((40 : Nat) : Int); omega, by show -1 ≤ (after : Int) - done; omega, by show (after : Int) - done ≤ _; omega, ?_, fun x hx => ?_, ?_, fun x hx => ?_⟩
  · show (endL xs safe).length ≤ 64
    unfold endL
    split
    · exact Nat.zero_le _
    · show 1 ≤ 64
      omega
  · rw [hm x hx]
    show xs.length ≤ 1048576
    omega
  · show Rise (endL xs safe)
    unfold endL
    split
    · exact List.Pairwise.nil
    · exact rise_one _ _ _
  · rw [hm x hx]
    exact ⟨by show (0 : Int) ≤ (safe : Int); omega, by show (safe : Int) ≤ (xs.length : Int); omega, by show (1 : Nat) ≤ 32; omega⟩
theorem end_app {after done : Nat} {xs : List Int} {safe : Nat} (h1 : done < after) (h3 : xs.length ≤ 100) (h4 : safe ≤ xs.length) (b : Int) : appendS (endS after done xs safe) nA [b] = (0, endS after (done + 1) (xs ++ [b]) safe) := by
  have hX : (appendX (endS after done xs safe) nA).f1 = xs ∧ (appendX (endS after done xs safe) nA).f2 = (safe : Int) := by
    unfold appendX endS endL
    dsimp only
    split
    · rename_i h
      have : xs = [] := List.length_eq_zero_iff.1 h
      subst this
      have : safe = 0 := by simpa using h4
      subst this
      exact ⟨rfl, rfl⟩
    · rw [find_one]
      exact ⟨rfl, rfl⟩
  have hl : longF (endS after done xs safe) nA [b].length = false := by
    unfold longF
    rw [hX.1]
    refine decide_eq_false ?_
    rw [List.length_singleton]
    omega
  have hf : fullF (endS after done xs safe) nA = false := by
    unfold fullF
    have : decide (64 ≤ (endS after done xs safe).L.length) = false := by
      refine decide_eq_false ?_
      show ¬ 64 ≤ (endL xs safe).length
      unfold endL
      split
      · show ¬ 64 ≤ 0
        omega
      · show ¬ 64 ≤ 1
        omega
    rw [this, Bool.and_false]
  have hset : setF (endL xs safe) ⟨nA, xs ++ [b], (safe : Int)⟩ = endL (xs ++ [b]) safe := by
    unfold endL
    rw [if_neg (show ¬ (xs ++ [b]).length = 0 by rw [List.length_append, List.length_singleton]; omega)]
    split
    · rfl
    · exact set_one nA xs (xs ++ [b]) safe safe
  unfold appendS
  rw [if_neg (show ¬ (endS after done xs safe).left = 0 by show ¬ (after : Int) - done = 0; omega), if_neg (show ¬ mayF nA = false by decide), if_neg (by rw [hl]; exact Bool.false_ne_true), if_neg (by rw [hf]; exact Bool.false_ne_true), hX.1, hX.2]
  show (_, (⟨leftF ((after : Int) - done), (done : Int) + 1, setF (endL xs safe) ⟨nA, xs ++ [b], (safe : Int)⟩⟩ : Stt)) = _
  rw [hset]
  unfold endS leftF
  rw [if_pos (show (after : Int) - done > 0 by omega)]
  congr 2
  omega
theorem end_app0 {after done : Nat} (h : done = after) (xs : List Int) (safe : Nat) (ys : List Int) : appendS (endS after done xs safe) nA ys = (30, endS after done xs safe) := by
  subst h
  unfold appendS
  rw [if_pos (show (endS done done xs safe).left = 0 by show (done : Int) - done = 0; omega)]
theorem end_sync {after done : Nat} {xs : List Int} {safe : Nat} (h1 : done < after) (h0 : ¬ xs.length = 0) : syncS (endS after done xs safe) nA = (0, endS after (done + 1) xs xs.length) := by
  have he : ∀ k, endL xs k = [⟨nA, xs, (k : Int)⟩] := fun k => by unfold endL; rw [if_neg h0]
  unfold syncS onF
  rw [if_neg (show ¬ (endS after done xs safe).left = 0 by show ¬ (after : Int) - done = 0; omega)]
  unfold endS
  dsimp only
  rw [he, find_one]
  dsimp only
  unfold withL leftF
  rw [find_one, if_pos (show (some _).isSome = true from rfl), set_one, if_pos (show (after : Int) - done > 0 by omega), he]
  congr 2
  omega
theorem end_sync0 {after done : Nat} (h : done = after) (xs : List Int) (safe : Nat) : syncS (endS after done xs safe) nA = (30, endS after done xs safe) := by
  subst h
  unfold syncS onF
  rw [if_pos (show (endS done done xs safe).left = 0 by show (done : Int) - done = 0; omega)]
theorem end_told {after done : Nat} (xs : List Int) (safe : Nat) (h1 : done ≤ after) : toldE (endS after done xs safe) nA = if done = after then 30 else if xs.length = 0 then 31 else 0 := by
  unfold toldE
  by_cases h : done = after
  · subst h
    rw [if_pos (show (endS done done xs safe).left = 0 by show (done : Int) - done = 0; omega), if_pos rfl]
  · rw [if_neg (show ¬ (endS after done xs safe).left = 0 by show ¬ (after : Int) - done = 0; omega), if_neg h]
    show (match findF (endL xs safe) nA.data.toList with | none => (31 : Int) | some _ => 0) = _
    unfold endL
    by_cases h0 : xs.length = 0
    · rw [if_pos h0, if_pos h0]
      rfl
    · rw [if_neg h0, if_neg h0, find_one]
def endC (done : Nat) (xs : List Int) (safe : Nat) : Stt := ⟨-1, done, if xs.length = 0 then [] else [⟨nA, xs.take safe, (safe : Int)⟩]⟩
theorem end_crash {after done : Nat} {xs : List Int} {safe : Nat} (h4 : safe ≤ xs.length) : crashS (endS after done xs safe) [] = endC done xs safe := by
  unfold crashS endS endC endL
  dsimp only
  split
  · rfl
  · rename_i h0
    unfold crashF
    dsimp only
    split
    · rename_i h
      have : safe = xs.length := by omega
      rw [this, List.take_length]
      rfl
    · unfold crash1 moreI
      dsimp only
      rw [if_neg (show ¬ 0 < ([] : List Int).length from Nat.lt_irrefl 0), Int.add_zero, Int.toNat_natCast]
      rfl
theorem end_last {done : Nat} {xs : List Int} {safe : Nat} : toldE (endC done xs safe) nA = (if xs.length = 0 then 31 else 0) ∧ (toldX (endC done xs safe) nA).f1 = if xs.length = 0 then [] else xs.take safe := by
  unfold toldE toldX endC
  dsimp only
  rw [if_neg (show ¬ (-1 : Int) = 0 by omega), if_neg (show ¬ (-1 : Int) = 0 by omega)]
  by_cases h0 : xs.length = 0
  · rw [if_pos h0, if_pos h0, if_pos h0]
    exact ⟨rfl, rfl⟩
  · rw [if_neg h0, if_neg h0, if_neg h0, find_one]
    exact ⟨rfl, rfl⟩

/-! FilesLong -/
def lngS (size acts : Nat) : Stt := if size = 0 then ⟨-1, 0, []⟩ else oneS nA acts (List.replicate size 0)
theorem lng_fine {size acts : Nat} (h1 : size ≤ 1048576) : Fine (lngS size acts) acts := by
  unfold lngS
  split
  · exact fine_new.more (by omega)
  · refine ⟨by show (0 : Int) ≤ (acts : Int); omega, by show (acts : Int) ≤ _; omega, by show (-1 : Int) ≤ -1; omega, by show (-1 : Int) ≤ 9223372036854775807; omega, by show (1 : Nat) ≤ 64; omega, fun x hx => ?_, rise_one _ _ _, fun x hx => ?_⟩
    · rw [List.mem_singleton.1 hx]
      show (List.replicate size (0 : Int)).length ≤ 1048576
      rw [List.length_replicate]
      exact h1
    · rw [List.mem_singleton.1 hx]
      exact ⟨by show (0 : Int) ≤ 0; omega, by show (0 : Int) ≤ _; omega, by show (1 : Nat) ≤ 32; omega⟩
theorem append_anew {ys : List Int} (hy : ys.length ≤ 1048576) : appendS ⟨-1, 0, []⟩ nA ys = (0, oneS nA 1 ys) := by
  unfold appendS
  rw [if_neg (by decide), if_neg (by decide), if_neg, if_neg (by decide)]
  · rfl
  · have e : longF ⟨-1, 0, []⟩ nA ys.length = decide (1048576 - (0 : Int) < (ys.length : Int)) := rfl
    rw [e, decide_eq_false (by omega)]
    decide
theorem append_more {k : Int} {xs ys : List Int} (hy : xs.length + ys.length ≤ 1048576) : appendS (oneS nA k xs) nA ys = (0, oneS nA (k + 1) (xs ++ ys)) := by
  have e1 : appendX (oneS nA k xs) nA = ⟨nA, xs, 0⟩ := by unfold appendX oneS; rw [find_one]; rfl
  have e2 : fullF (oneS nA k xs) nA = false := by unfold fullF oneS; rw [find_one]; rfl
  unfold appendS
  rw [if_neg (show ¬ (oneS nA k xs).left = 0 by show ¬ (-1 : Int) = 0; decide), if_neg (by decide), if_neg, if_neg (by rw [e2]; decide), e1]
  · show ((0 : Int), (⟨leftF (-1), k + 1, setF [(⟨nA, xs, 0⟩ : SF)] ⟨nA, xs ++ ys, 0⟩⟩ : Stt)) = _
    rw [set_one]
    rfl
  · unfold longF
    rw [e1, decide_eq_false (by dsimp only; omega)]
    decide
theorem lng_app {size acts n : Nat} (h0 : size = 0 → acts = 0) (h1 : size + n ≤ 1048576) (hn : 0 < n) : appendS (lngS size acts) nA (List.replicate n 0) = (0, lngS (size + n) (acts + 1)) := by
  unfold lngS
  rw [if_neg (show ¬ size + n = 0 by omega)]
  split
  · rename_i h
    rw [append_anew (by rw [List.length_replicate]; omega), h, h0 h, Nat.zero_add, Nat.zero_add]
    rfl
  · rw [append_more (by rw [List.length_replicate, List.length_replicate]; omega), List.replicate_append_replicate]
    rfl
theorem lng_full {size acts n : Nat} (h1 : size ≤ 1048576) (hn : n ≤ 1048576) (hs : 1048576 < size + n) : appendS (lngS size acts) nA (List.replicate n 0) = (3, lngS size acts) := by
  unfold lngS
  rw [if_neg (show ¬ size = 0 by omega)]
  have e1 : appendX (oneS nA acts (List.replicate size 0)) nA = ⟨nA, List.replicate size 0, 0⟩ := by unfold appendX oneS; rw [find_one]; rfl
  unfold appendS
  rw [if_neg (show ¬ (oneS nA acts (List.replicate size 0)).left = 0 by show ¬ (-1 : Int) = 0; decide), if_neg (by decide), if_pos]
  unfold longF
  rw [e1]
  refine decide_eq_true ?_
  show 1048576 - ((List.replicate size (0 : Int)).length : Int) < ((List.replicate n (0 : Int)).length : Int)
  rw [List.length_replicate, List.length_replicate]
  omega
/-- The name of the file number i. -/
def nmI (i : Nat) : ByteArray := ⟨#[98, UInt8.ofNat (97 + i % 26), UInt8.ofNat (97 + i / 26)]⟩
theorem nm_cat (k : Nat) : (⟨#[98]⟩ : ByteArray) ++ strOfNums [97 + (k : Int) % 26, 97 + (k : Int) / 26] = nmI k := by
  have h1 : (97 + (k : Int) % 26).toNat = 97 + k % 26 := by omega
  have h2 : (97 + (k : Int) / 26).toNat = 97 + k / 26 := by omega
  refine ByteArray.ext (Array.ext' ?_)
  simp [strOfNums, nmI, h1, h2]
theorem nm_ne {i j : Nat} (hi : i < 80) (hj : j < 80) (h : i ≠ j) : (nmI i).data.toList ≠ (nmI j).data.toList := by
  intro e
  have e' : [(98 : UInt8), UInt8.ofNat (97 + i % 26), UInt8.ofNat (97 + i / 26)] = [98, UInt8.ofNat (97 + j % 26), UInt8.ofNat (97 + j / 26)] := e
  injection e' with _ e1
  injection e1 with e2 e3
  injection e3 with e4 _
  have f2 := congrArg UInt8.toNat e2
  have f4 := congrArg UInt8.toNat e4
  rw [UInt8.toNat_ofNat', UInt8.toNat_ofNat'] at f2 f4
  omega
/-- A store in FilesLong's second loop: none of the later names is there. -/
structure LngS (st : Stt) (i there : Nat) : Prop where
  fine : Fine st (8 + i)
  left : st.left = -1
  len : st.L.length = there
  free : ∀ j, i ≤ j → j < 80 → findF st.L (nmI j).data.toList = none
theorem lng_start {size acts : Nat} (h1 : size ≤ 1048576) (h2 : acts ≤ 8) : LngS (lngS size acts) 0 (if size = 0 then 0 else 1) := by
  refine ⟨(lng_fine h1).more (by omega), ?_, ?_, fun j _ hj => ?_⟩
  · unfold lngS; split <;> rfl
  · unfold lngS; split <;> rfl
  · unfold lngS
    split
    · rfl
    · refine find_none.2 fun x hx => ?_
      rw [List.mem_singleton.1 hx]
      intro e
      have e' : [(97 : UInt8)] = [98, UInt8.ofNat (97 + j % 26), UInt8.ofNat (97 + j / 26)] := e
      injection e' with q _
      exact absurd q (by decide)
theorem lng_next {st : Stt} {i there : Nat} (h : LngS st i there) (hi : i < 80) : (appendS st (nmI i) []).1 = (if 64 ≤ there then 4 else 0) ∧ LngS (appendS st (nmI i) []).2 (i + 1) (if 64 ≤ there then there else there + 1) := by
  have hX : appendX st (nmI i) = zF := by unfold appendX; rw [h.free i (Nat.le_refl _) hi]; rfl
  have hl : longF st (nmI i) ([] : List Int).length = false := by
    unfold longF
    rw [hX]
    rfl
  have hf : fullF st (nmI i) = decide (64 ≤ there) := by
    unfold fullF
    rw [h.free i (Nat.le_refl _) hi, h.len]
    rfl
  have e0 : appendS st (nmI i) [] = if fullF st (nmI i) = true then (4, st) else (0, ⟨leftF st.left, st.acts + 1, setF st.L ⟨nmI i, (appendX st (nmI i)).f1 ++ [], (appendX st (nmI i)).f2⟩⟩) := by
    unfold appendS
    rw [if_neg (show ¬ st.left = 0 by rw [h.left]; omega), if_neg (show ¬ mayF (nmI i) = false by unfold mayF; rw [decide_eq_true (show 1 ≤ (nmI i).size ∧ (nmI i).size ≤ 32 from ⟨by show 1 ≤ 3; omega, by show 3 ≤ 32; omega⟩)]; exact fun q => Bool.noConfusion q), if_neg (show ¬ longF st (nmI i) ([] : List Int).length = true by rw [hl]; exact Bool.false_ne_true)]
  have hfi := (fine_append h.fine (nmI i) []).more (show 8 + i + 1 ≤ 8 + (i + 1) by omega)
  rw [e0] at hfi ⊢
  by_cases hq : 64 ≤ there
  · rw [if_pos (show fullF st (nmI i) = true by rw [hf]; exact decide_eq_true hq)] at hfi ⊢
    rw [if_pos hq, if_pos hq]
    exact ⟨rfl, hfi, h.left, h.len, fun j hj hj2 => h.free j (by omega) hj2⟩
  · rw [if_neg (show ¬ fullF st (nmI i) = true by rw [hf, decide_eq_false hq]; exact Bool.false_ne_true)] at hfi ⊢
    rw [if_neg hq, if_neg hq]
    refine ⟨rfl, hfi, ?_, ?_, fun j hj hj2 => ?_⟩
    · show leftF st.left = -1
      rw [h.left]
      rfl
    · show (setF st.L _).length = there + 1
      rw [set_len h.fine.rise, show nameL (⟨nmI i, (appendX st (nmI i)).f1 ++ [], (appendX st (nmI i)).f2⟩ : SF) = (nmI i).data.toList from rfl, h.free i (Nat.le_refl _) hi, if_neg (show ¬ (none : Option SF).isSome = true from Bool.false_ne_true), h.len]
    · show findF (setF st.L _) (nmI j).data.toList = none
      rw [find_set h.fine.rise, show nameL (⟨nmI i, (appendX st (nmI i)).f1 ++ [], (appendX st (nmI i)).f2⟩ : SF) = (nmI i).data.toList from rfl, if_neg (nm_ne hj2 hi (by omega)), h.free j (by omega) hj2]
end Go.Proofs.Ytibnakpefjjoiaa.Fs
namespace Go.Proofs.Ytibnakpefjjoiaa.Fs
open Go.RowKit Go.Proofs.YtibnakpefjjoiaaW.PrintWords Go.Proofs.YtibnakpefjjoiaaW.PrintLast Go.Proofs.YtibnakpefjjoiaaW.PrintMore Go.Proofs.Ytibnakpefjjoiaa.Q Go.Proofs.Ytibnakpefjjoiaa.Own
set_option linter.unusedVariables false
set_option linter.unusedSimpArgs false
attribute [local go_sem ↓] Go.wp_at_zero Go.wp_at_succ

theorem lit_I (w : World) (l : List Int) (hl : l.length ≤ 9223372036854775807) : Kd.C kI (w.alloc (.cells (encs (Value.int .i64) l).toArray 3)) (some ⟨w.heap.size, 0, none⟩) l.length l := by
  have h : Kd.R kI 3 (w.alloc (.cells (encs (Value.int .i64) l).toArray 3)) 0 (fun _ => True) (.slice (some ⟨w.heap.size, 0, none⟩) l.length l.length) l :=
    ⟨fun _ _ => trivial, OwnRow.lit (ps := l) w 0 (inner := encs (Value.int .i64) l) (Kd.reps_scalar l) (Nat.zero_le _) hl⟩
  exact (Kd.R_reads' h).2.2
theorem lit_rowI {B : Nat} {w : World} {Ts : List Th} (h : Has B w Ts) (l : List Int) (hl : l.length ≤ 9223372036854775807) : Has B (w.alloc (.cells (encs (Value.int .i64) l).toArray 3)) (rowT kI 3 (.slice (some ⟨w.heap.size, 0, none⟩) l.length l.length) l :: Ts) :=
  h.row ((Below.refl _ w).alloc (Nat.le_refl _) _) ⟨fun _ _ => trivial, OwnRow.lit (ps := l) w w.heap.size (inner := encs (Value.int .i64) l) (Kd.reps_scalar l) (Nat.le_refl _) hl⟩
def aw1 : Stt := ⟨-1, 1, [⟨nA, [1, 2, 3], 0⟩]⟩
def aw2 : Stt := ⟨-1, 2, [⟨nA, [1, 2, 3], 3⟩]⟩
def aw3 : Stt := ⟨-1, 3, [⟨nA, [1, 2, 3, 4, 5], 3⟩]⟩
def aw4 : Stt := ⟨-1, 4, [⟨nA, [1, 2, 3, 4, 5], 3⟩, ⟨nB, [6], 0⟩]⟩
def aw5 : Stt := ⟨-1, 4, [⟨nA, [1, 2, 3, 4], 4⟩, ⟨nB, [], 0⟩]⟩
theorem aw_1 : appendS ⟨-1, 0, []⟩ nA [1, 2, 3] = (0, aw1) := by rfl
theorem aw_2 : syncS aw1 nA = (0, aw2) := by rfl
theorem aw_3 : appendS aw2 nA [4, 5] = (0, aw3) := by rfl
theorem aw_4 : appendS aw3 nB [6] = (0, aw4) := by rfl
theorem aw_5 : crashS aw4 [1] = aw5 := by rfl
theorem aw_6 : toldE aw4 nA = 0 ∧ (toldX aw4 nA).f1.length = 5 ∧ toldE aw5 nA = 0 ∧ toldE aw5 nB = 0 ∧ (toldX aw5 nA).f1 = [1, 2, 3, 4] ∧ (toldX aw5 nB).f1 = [] := by decide
theorem fine1 : Fine aw1 1 := by have := fine_append fine_new nA [1, 2, 3]; rw [aw_1] at this; exact this
theorem fine2 : Fine aw2 2 := by have := fine_sync fine1 nA; rw [aw_2] at this; exact this
theorem fine3 : Fine aw3 3 := by have := fine_append fine2 nA [4, 5]; rw [aw_3] at this; exact this
theorem fine4 : Fine aw4 4 := by have := fine_append fine3 nB [6]; rw [aw_4] at this; exact this
theorem fine5 : Fine aw5 4 := by have := fine_crash fine4 [1]; rw [aw_5] at this; exact this
def TruePost (w : World) (e : Ending) (w' : World) : Prop := e = .returned (.bool true) ∧ Below w.heap.size w w'
set_option maxHeartbeats 8000000 in
set_option maxRecDepth 100000 in
theorem awake_calls (w : World) : Calls Try.prog 16 #[] w (TruePost w) := by
  go_enter Try.func16, Try.ntmps16
  go_wp2_with fail
  refine (new_calls (Has.nil w)).mono ?_
  rintro e w1 ⟨p, rfl, hA, hB⟩
  have HAP := Aside0.mk (append_calls (hA.alloc (.cells #[.int .u8 1, .int .u8 2, .int .u8 3] 5)) (fine_new.ok (by omega)) (s := nA) (by decide) (c2 := 3) (lit_B w1 [1, 2, 3] (by decide)) (by decide))
  rw [aw_1] at HAP
  have HB1 := Aside0.mk (hB.alloc hA.size (.cells #[.int .u8 1, .int .u8 2, .int .u8 3] 5))
  clear hA hB
  go_wp2_with fail
  refine HAP.out.mono ?_
  rintro e w2 ⟨rfl, hA, hB⟩
  have HSY := Aside0.mk (sync_calls hA (fine1.ok (by omega)) (s := nA) (by decide))
  rw [aw_2] at HSY
  have HB2 := Aside0.mk (HB1.out.trans hB)
  clear hA hB HAP HB1
  go_wp2_with fail
  refine HSY.out.mono ?_
  rintro e w3 ⟨rfl, hA, hB⟩
  have HAP := Aside0.mk (append_calls (hA.alloc (.cells #[.int .u8 4, .int .u8 5] 5)) (fine2.ok (by omega)) (s := nA) (by decide) (c2 := 2) (lit_B w3 [4, 5] (by decide)) (by decide))
  rw [aw_3] at HAP
  have HB3 := Aside0.mk ((HB2.out.trans hB).alloc hA.size (.cells #[.int .u8 4, .int .u8 5] 5))
  clear hA hB HSY HB2
  go_wp2_with fail
  refine HAP.out.mono ?_
  rintro e w4 ⟨rfl, hA, hB⟩
  have HAP2 := Aside0.mk (append_calls (hA.alloc (.cells #[.int .u8 6] 5)) (fine3.ok (by omega)) (s := nB) (by decide) (c2 := 1) (lit_B w4 [6] (by decide)) (by decide))
  rw [aw_4] at HAP2
  have HB4 := Aside0.mk ((HB3.out.trans hB).alloc hA.size (.cells #[.int .u8 6] 5))
  clear hA hB HAP HB3
  go_wp2_with fail
  refine HAP2.out.mono ?_
  rintro e w5 ⟨rfl, hA, hB⟩
  have HSZ := Aside0.mk (size_calls hA fine4.rise (fine4.ok (by omega)) (s := nA) (by decide))
  rw [aw_6.1, aw_6.2.1] at HSZ
  have HB5 := Aside0.mk (HB4.out.trans hB)
  clear hA hB HAP2 HB4
  go_wp2_with fail
  refine HSZ.out.mono ?_
  rintro e w6 ⟨rfl, hA, hB⟩
  have HCR := Aside0.mk (crash_calls (lit_rowI hA [1] (by decide)).swap (fine4.ok (by omega)) fine4.rise fine4.safe (keep := [1]) (ck := 1) (Ak := some ⟨w6.heap.size, 0, none⟩) (fun w' hA' _ => by
    obtain ⟨_, _, ev, -, hC⟩ := hA'.reads (d := kI) (e := 3) (v := .slice (some ⟨w6.heap.size, 0, none⟩) [1].length [1].length) (xs := [1]) (by simp)
    cases ev
    exact hC))
  rw [aw_5] at HCR
  have HB6 := Aside0.mk ((HB5.out.trans hB).alloc hA.size (.cells #[.int .i64 1] 3))
  clear hA hB HSZ HB5
  go_wp2_with fail
  refine HCR.out.mono ?_
  rintro e w7 ⟨rfl, hA, hB⟩
  have HRD := Aside0.mk (read_calls hA fine5.rise (fine5.ok (by omega)) (s := nA) (by decide))
  unfold ReadPost at HRD
  rw [aw_6.2.2.1, aw_6.2.2.2.2.1] at HRD
  have HB7 := Aside0.mk (HB6.out.trans hB)
  clear hA hB HCR HB6
  go_wp2_with fail
  refine HRD.out.mono ?_
  rintro e w8 ⟨v, rfl, hA, hB⟩
  obtain ⟨Av, cv, rfl, -, -⟩ := hA.reads (d := kB) (e := 5) (v := v) (xs := [1, 2, 3, 4]) (by simp)
  have HA8 := Aside0.mk hA
  have HRB := Aside0.mk (read_calls hA fine5.rise (fine5.ok (by omega)) (s := nB) (by decide))
  unfold ReadPost at HRB
  rw [aw_6.2.2.2.1, aw_6.2.2.2.2.2] at HRB
  have HB8 := Aside0.mk (HB7.out.trans hB)
  clear hA hB HRD HB7
  go_wp2_with fail
  refine HRB.out.mono ?_
  rintro e w9 ⟨vb, rfl, hA, hB⟩
  obtain ⟨Ab, cb, rfl, -, -⟩ := hA.reads (d := kB) (e := 5) (v := vb) (xs := []) (by simp)
  obtain ⟨_, _, ev, -, hCv⟩ := hA.reads (d := kB) (e := 5) (v := .slice Av [1, 2, 3, 4].length cv) (xs := [1, 2, 3, 4]) (by simp)
  cases ev
  have HB9 := Aside0.mk (HB8.out.trans hB)
  have g1 : (convert 23 9 (.slice Av 4 cv)).run Try.prog w9 = .ok (.string ⟨#[1, 2, 3, 4]⟩) w9 := Kd.C_string (P := Try.prog) (c := cv) Try.underlying23 Try.underlying5 Try.underlying9 hCv
  clear hA hB hCv HRB HB8 HA8
  go_wp2_with fail
  go_ret
  exact ⟨rfl, HB9.out⟩
end Go.Proofs.Ytibnakpefjjoiaa.Fs
namespace Go.Proofs.Ytibnakpefjjoiaa.Fs
open Go.RowKit Go.Proofs.YtibnakpefjjoiaaW.PrintWords Go.Proofs.YtibnakpefjjoiaaW.PrintLast Go.Proofs.YtibnakpefjjoiaaW.PrintMore Go.Proofs.Ytibnakpefjjoiaa.Q Go.Proofs.Ytibnakpefjjoiaa.Own
set_option linter.unusedVariables false
set_option linter.unusedSimpArgs false

abbrev SA := S46
abbrev kA : Kd SA := k46
def SmallA (x : SA) : Prop := x.f1.size ≤ 30000 ∧ x.f2.size ≤ 30000 ∧ x.f3.length ≤ 30000
theorem great_l0 (l : List SA) (hl : l.length ≤ 100) : ∀ (m i : Nat) (t : Int), i + m = l.length → ∃ r, tocsinlaw03_Great.l0 (m + 1) l t (i : Int) = some r ∧ (r = false → ∀ j (hj : j < l.length), i ≤ j → SmallA l[j])
  | 0, i, t, h => by
    unfold tocsinlaw03_Great.l0
    rw [if_neg (by omega)]
    exact ⟨_, rfl, fun _ j hj hij => by omega⟩
  | m + 1, i, t, h => by
    have hi : i < l.length := by omega
    unfold tocsinlaw03_Great.l0
    rw [if_pos (by omega), if_pos (by omega)]
    have e : rd_T46 l (i : Int) = l[i] := by
      unfold rd_T46
      rw [Int.toNat_natCast, List.getD_eq_getElem?_getD, List.getElem?_eq_getElem hi]
      rfl
    rw [e]
    by_cases h3 : ((l[i]).f3.length : Int) > 30000
    · rw [if_pos h3]
      exact ⟨true, rfl, fun q => by cases q⟩
    rw [if_neg h3]
    by_cases h1 : ((l[i]).f1.size : Int) > 30000
    · rw [if_pos h1]
      exact ⟨true, rfl, fun q => by cases q⟩
    rw [if_neg h1]
    by_cases h2 : ((l[i]).f2.size : Int) > 30000
    · rw [if_pos h2]
      exact ⟨true, rfl, fun q => by cases q⟩
    rw [if_neg h2, wrap_nat (show i < 9223372036854775807 by omega)]
    generalize wrap64 _ = t'
    obtain ⟨r, e1, e2⟩ := great_l0 l hl m (i + 1) t' (by omega)
    refine ⟨r, e1, fun q j hj hij => ?_⟩
    by_cases hji : j = i
    · subst hji
      exact ⟨by omega, by omega, by omega⟩
    · exact e2 q j hj (by omega)
theorem great_ev (l : List SA) : ∃ r, tocsinlaw03_Great.f (l.length + 1) l = some r ∧ (r = false → l.length ≤ 100 ∧ ∀ x ∈ l, SmallA x) := by
  unfold tocsinlaw03_Great.f
  by_cases h : (l.length : Int) > 100
  · rw [if_pos h]
    exact ⟨true, rfl, fun q => by cases q⟩
  · rw [if_neg h]
    obtain ⟨r, e1, e2⟩ := great_l0 l (by omega) l.length 0 0 (by omega)
    refine ⟨r, e1, fun q => ⟨by omega, fun x hx => ?_⟩⟩
    obtain ⟨i, hi, rfl⟩ := List.getElem_of_mem hx
    exact e2 q i hi (Nat.zero_le _)

/-- What an act makes of a store. -/
def actS (st : Stt) (x : SA) : Stt :=
  if x.f0.tmod 10 = 4 then (syncS st x.f1).2 else if x.f0.tmod 10 = 5 then (truncS st x.f1 x.f4).2 else if x.f0.tmod 10 = 6 then (renameS st x.f1 x.f2).2 else if x.f0.tmod 10 = 7 then (removeS st x.f1).2
  else if x.f0.tmod 10 = 8 ∨ x.f0.tmod 10 = 9 then st else (appendS st x.f1 x.f3).2
theorem fine_act {st : Stt} {k : Nat} (h : Fine st k) (x : SA) : Fine (actS st x) (k + 1) := by
  unfold actS
  split
  · exact fine_sync h _
  split
  · exact fine_trunc h _ _
  split
  · exact fine_rename h _ _
  split
  · exact fine_remove h _
  split
  · exact h.more (by omega)
  · exact fine_append h _ _
theorem on_left {st : Stt} (h : st.left = -1) (s : ByteArray) {do_ : SF → Int × Stt} (hd : ∀ x, (do_ x).2.left = -1) : (onF st s do_).2.left = -1 := by
  unfold onF
  split
  · exact h
  · split
    · exact h
    · exact hd _
theorem leftF_no {l : Int} (h : l = -1) : leftF l = -1 := by
  subst h
  rfl
theorem act_left {st : Stt} (h : st.left = -1) (x : SA) : (actS st x).left = -1 := by
  unfold actS
  split
  · exact on_left h _ fun _ => leftF_no h
  split
  · exact on_left h _ fun y => by split; exact h; exact leftF_no h
  split
  · exact on_left h _ fun y => by split; exact leftF_no h; exact h
  split
  · exact on_left h _ fun _ => leftF_no h
  split
  · exact h
  · unfold appendS
    split
    · exact h
    split
    · exact h
    split
    · exact h
    split
    · exact h
    · exact leftF_no h

/-- What a file is behind a crash. -/
structure CrF (a b : SF) : Prop where
  name : b.f0 = a.f0
  all : b.f2 = (b.f1.length : Int)
  safe : a.f2 ≤ (b.f1.length : Int)
  begins : b.f1 = a.f1.take b.f1.length
theorem crf_at (keep : List Int) : ∀ (n : Nat) (L : List SF) (hf : ∀ x ∈ L, SafeF x) (i : Nat) (h1 : i < L.length) (h2 : i < (crashF keep n L).length), CrF L[i] (crashF keep n L)[i]
  | n, [], _, i, h1, _ => absurd h1 (Nat.not_lt_zero _)
  | n, x :: L, hf, i, h1, h2 => by
    have hx := hf x (List.mem_cons_self ..)
    have hL := fun y hy => hf y (List.mem_cons_of_mem _ hy)
    by_cases hs : x.f2 = (x.f1.length : Int)
    · have e : crashF keep n (x :: L) = x :: crashF keep n L := by
        show (if x.f2 = (x.f1.length : Int) then _ else _) = _
        rw [if_pos hs]
      have key : ∀ (K : List SF) (h2 : i < K.length), K = x :: crashF keep n L → CrF ((x :: L)[i]) K[i] := by
        rintro K h2 rfl
        cases i with
        | zero => exact ⟨rfl, hs, by rw [List.getElem_cons_zero, List.getElem_cons_zero]; omega, by rw [List.getElem_cons_zero, List.getElem_cons_zero, List.take_length]⟩
        | succ i =>
          rw [List.getElem_cons_succ, List.getElem_cons_succ]
          exact crf_at keep n L hL i (by simpa using h1) (by simpa using h2)
      exact key _ h2 e
    · have e : crashF keep n (x :: L) = crash1 keep n x :: crashF keep (n + 1) L := by
        show (if x.f2 = (x.f1.length : Int) then _ else _) = _
        rw [if_neg hs]
      have key : ∀ (K : List SF) (h2 : i < K.length), K = crash1 keep n x :: crashF keep (n + 1) L → CrF ((x :: L)[i]) K[i] := by
        rintro K h2 rfl
        cases i with
        | zero =>
          rw [List.getElem_cons_zero, List.getElem_cons_zero]
          have hl := crash1_len keep n hx
          have hm := more_le keep n hx
          refine ⟨rfl, hl.symm, ?_, ?_⟩
          · rw [hl]
            show x.f2 ≤ x.f2 + moreI keep n x
            omega
          · show x.f1.take (x.f2 + moreI keep n x).toNat = x.f1.take (x.f1.take (x.f2 + moreI keep n x).toNat).length
            rw [List.length_take, Nat.min_eq_left]
            have := hx.1
            omega
        | succ i =>
          rw [List.getElem_cons_succ, List.getElem_cons_succ]
          exact crf_at keep (n + 1) L hL i (by simpa using h1) (by simpa using h2)
      exact key _ h2 e
theorem crash_same (keep : List Int) : ∀ (n : Nat) (L : List SF), (∀ x ∈ L, x.f2 = (x.f1.length : Int)) → crashF keep n L = L
  | _, [], _ => rfl
  | n, x :: L, h => by
    unfold crashF
    rw [if_pos (h x (List.mem_cons_self ..)), crash_same keep n L fun y hy => h y (List.mem_cons_of_mem _ hy)]
theorem crash_twice {st : Stt} (hf : SafeS st) (keep : List Int) : crashS (crashS st keep) keep = crashS st keep := by
  unfold crashS
  dsimp only
  rw [crash_same keep 0 (crashF keep 0 st.L)]
  intro y hy
  obtain ⟨i, hi, rfl⟩ := List.getElem_of_mem hy
  exact (crf_at keep 0 st.L hf i (by rw [crash_length] at hi; exact hi) hi).all
theorem told_at {st : Stt} (hl : st.left = -1) (hr : Rise st.L) {i : Nat} (hi : i < st.L.length) {s : ByteArray} (hs : s = (st.L[i]).f0) : toldE st s = 0 ∧ toldX st s = st.L[i] := by
  have hf : findF st.L s.data.toList = some st.L[i] := by
    subst hs
    exact find_of (rise_unlike hr) (List.getElem_mem hi)
  unfold toldE toldX
  rw [hf, if_neg (by rw [hl]; omega), if_neg (by rw [hl]; omega)]
  exact ⟨rfl, rfl⟩
/-! A row of rows, as a row of places: each row is a thing of its own. -/
abbrev Hd := Option Addr × Nat × Nat
abbrev kH : Kd Hd := Kd.scalar (fun h : Hd => .slice h.1 h.2.1 h.2.2) (fun _ => rfl)
theorem inf23 : (Try.prog.info? 23).map (fun i => (i.zero, i.size, i.bytes)) = some (some (.slice none 0 0), 1, 24) := by kernel_rfl
theorem inf3 : (Try.prog.info? 3).map (fun i => (i.zero, i.size, i.bytes)) = some (some (.int .i64 0), 1, 8) := by kernel_rfl
theorem lit_H (w : World) (h : Hd) : Kd.C kH (w.alloc (.cells #[.slice h.1 h.2.1 h.2.2] 23)) (some ⟨w.heap.size, 0, none⟩) [h].length [h] := by
  have hr : Kd.R kH 23 (w.alloc (.cells #[.slice h.1 h.2.1 h.2.2] 23)) 0 (fun _ => True) (.slice (some ⟨w.heap.size, 0, none⟩) [h].length [h].length) [h] :=
    ⟨fun _ _ => trivial, OwnRow.lit (ps := [h]) w 0 (inner := encs (fun h : Hd => .slice h.1 h.2.1 h.2.2) [h]) (Kd.reps_scalar [h]) (Nat.zero_le _) (show 1 ≤ 9223372036854775807 by omega)⟩
  exact (Kd.R_reads' hr).2.2
theorem at_H {w : World} {A : Option Addr} {n : Nat} {l : List Hd} (h : Kd.C kH w A n l) (i : Nat) {x : Hd} (hx : l[i]? = some x) : ∃ ad, A = some ad ∧ w.cell? (ad.add i) = some (.slice x.1 x.2.1 x.2.2) := by
  have hi : i < l.length := by
    rcases Nat.lt_or_ge i l.length with q | q
    · exact q
    · rw [List.getElem?_eq_none q] at hx
      cases hx
  have hn := Kd.C_len h
  obtain ⟨ad, c, e, _, hK, hc⟩ := Kd.C_get h x (i : Int) (by omega) (by omega)
  rw [Int.toNat_natCast, List.getD_eq_getElem?_getD, hx] at hK
  rw [Int.toNat_natCast] at hc
  have hK' : c = [.slice x.1 x.2.1 x.2.2] := hK
  have h0 := hc 0 (.slice x.1 x.2.1 x.2.2) (by rw [hK']; rfl)
  have h3 : w.cell? (ad.add (i * 1 + 0)) = some (.slice x.1 x.2.1 x.2.2) := h0
  rw [Nat.mul_one, Nat.add_zero] at h3
  exact ⟨ad, e, h3⟩
def WasOk (F : Nat → List Int) (hs : List Hd) (Rs : List Th) (n : Nat) : Prop := hs.length = n ∧ ∀ j, j < n → ∃ A c, hs[j]? = some (A, (F j).length, c) ∧ rowB (.slice A (F j).length c) (F j) ∈ Rs
theorem was_none (F : Nat → List Int) (Rs : List Th) : WasOk F [] Rs 0 := ⟨rfl, fun j h => absurd h (Nat.not_lt_zero _)⟩
theorem WasOk.push {F : Nat → List Int} {hs : List Hd} {Rs Rs' : List Th} {n : Nat} (h : WasOk F hs Rs n) (hR : ∀ T ∈ Rs, T ∈ Rs') {A : Option Addr} {c : Nat} (hm : rowB (.slice A (F n).length c) (F n) ∈ Rs') : WasOk F (hs ++ [(A, (F n).length, c)]) Rs' (n + 1) := by
  obtain ⟨h1, h2⟩ := h
  refine ⟨by rw [List.length_append, h1]; rfl, fun j hj => ?_⟩
  by_cases hjn : j = n
  · subst hjn
    exact ⟨A, c, by rw [List.getElem?_append_right (by omega), h1, Nat.sub_self]; rfl, hm⟩
  · obtain ⟨A', c', e, hm'⟩ := h2 j (by omega)
    exact ⟨A', c', by rw [List.getElem?_append_left (by omega)]; exact e, hR _ hm'⟩
theorem WasOk.more {F : Nat → List Int} {hs : List Hd} {Rs Rs' : List Th} {n : Nat} (h : WasOk F hs Rs n) (hR : ∀ T ∈ Rs, T ∈ Rs') : WasOk F hs Rs' n := ⟨h.1, fun j hj => by
  obtain ⟨A, c, e, hm⟩ := h.2 j hj
  exact ⟨A, c, e, hR _ hm⟩⟩
theorem WasOk.as {F F' : Nat → List Int} {hs : List Hd} {Rs : List Th} {n : Nat} (h : WasOk F hs Rs n) (e : ∀ j, j < n → F' j = F j) : WasOk F' hs Rs n := ⟨h.1, fun j hj => by
  obtain ⟨A, c, e1, hm⟩ := h.2 j hj
  rw [← e j hj] at e1 hm
  exact ⟨A, c, e1, hm⟩⟩
theorem WasOk.set {F F' : Nat → List Int} {hs : List Hd} {Rs : List Th} {n j : Nat} (h : WasOk F hs Rs n) (hj : j < n) (hF : ∀ i, i ≠ j → F' i = F i) {A : Option Addr} {c : Nat} (hm : rowB (.slice A (F' j).length c) (F' j) ∈ Rs) : WasOk F' (hs.set j (A, (F' j).length, c)) Rs n := by
  obtain ⟨h1, h2⟩ := h
  refine ⟨by rw [List.length_set, h1], fun i hi => ?_⟩
  by_cases hij : i = j
  · subst hij
    exact ⟨A, c, by rw [List.getElem?_set_self (by omega)], hm⟩
  · obtain ⟨A', c', e, hm'⟩ := h2 i hi
    rw [← hF i hij] at e hm'
    exact ⟨A', c', by rw [List.getElem?_set_ne (by omega)]; exact e, hm'⟩
/-- What a file holds, by its number. -/
def fB (L : List SF) (i : Nat) : List Int := ((L[i]?).getD zF).f1
theorem fB_at {L : List SF} {i : Nat} (h : i < L.length) : fB L i = (L[i]).f1 := by
  unfold fB
  rw [List.getElem?_eq_getElem h]
  rfl
def fS (L : List SF) : List Int := L.map fun x => x.f2
end Go.Proofs.Ytibnakpefjjoiaa.Fs
namespace Go.Proofs.Ytibnakpefjjoiaa.Fs
open Go.RowKit Go.Proofs.YtibnakpefjjoiaaW.PrintWords Go.Proofs.YtibnakpefjjoiaaW.PrintLast Go.Proofs.YtibnakpefjjoiaaW.PrintMore Go.Proofs.Ytibnakpefjjoiaa.Q Go.Proofs.Ytibnakpefjjoiaa.Own
set_option linter.unusedVariables false
set_option linter.unusedSimpArgs false
attribute [local go_sem ↓] Go.wp_at_zero Go.wp_at_succ

set_option maxHeartbeats 4000000 in
set_option maxRecDepth 100000 in
theorem begins_calls {w : World} {A0 A1 : Option Addr} {c0 c1 : Nat} {xs ys : List Int} (h0 : Kd.C kB w A0 xs.length xs) (hc0 : xs.length ≤ c0) (h1 : Kd.C kB w A1 ys.length ys) (hp : ys = xs.take ys.length) (hx : xs.length ≤ 100000000) :
    Calls Try.prog 24 #[.slice A0 xs.length c0, .slice A1 ys.length c1] w fun e w' => e = .returned (.bool true) ∧ w' = w.drew := by
  have hlen : ys.length ≤ xs.length := by
    have := congrArg List.length hp
    rw [List.length_take] at this
    omega
  have h2 : Kd.C kB w A0 ys.length ys := by
    have := Kd.C_take h0 hlen
    rw [← hp] at this
    exact this
  have g1 := Kd.C_string (P := Try.prog) (c := c0) Try.underlying23 Try.underlying5 Try.underlying9 (Kd.C_drew h2)
  have g2 := Kd.C_string (P := Try.prog) (c := c1) Try.underlying23 Try.underlying5 Try.underlying9 (Kd.C_drew h1)
  generalize strOfNums ys = sm at g1 g2
  have f2 : ys.length ≤ c0 := by omega
  have f3 : decide ((ys.length : Int) ≤ (xs.length : Int)) = true := decide_eq_true (by omega)
  clear h0 h1 h2 hp hc0
  generalize ys.length = m at *
  generalize xs.length = n at *
  have f1 : decide (0 ≤ (m : Int)) = true := decide_eq_true (by omega)
  go_enter Try.func24, Try.ntmps24
  go_wp2_with fail
  refine start_ (n := 16) (S := fun w' => (convert 23 9 (.slice A0 m c0)).run Try.prog w' = .ok (.string sm) w' ∧ (convert 23 9 (.slice A1 m c1)).run Try.prog w' = .ok (.string sm) w') (ds := []) #[false, false, false, false, false, false, false, false, false, false, false, false, false, false, false, false] (by kernel_rfl) rfl rfl ⟨g1, g2⟩ (fun hHeld => ?_)
  refine pure_ (i := 0) (N := some 5) (v := ?_) (a' := ?_) #[true, false, false, false, false, false, false, false, false, false, false, false, false, false, false, false] rfl rfl (by kernel_rfl) (fun _ _ _ h => h) (Or.inl ⟨by rfl, ?_⟩) ?_ ?_
  rotate_left
  · intro w'
    go_simp
    with_reducible rfl
  rotate_left
  · simp only [Act.put, List.setIfInBounds_toArray, List.set_cons_zero, List.set_cons_succ, i64_w, i32_w]
    rfl
  refine pure_ (i := 1) (N := some 6) (v := ?_) (a' := ?_) #[true, true, false, false, false, false, false, false, false, false, false, false, false, false, false, false] rfl rfl (by kernel_rfl) (fun _ _ _ h => h) (Or.inl ⟨by rfl, ?_⟩) ?_ ?_
  rotate_left
  · intro w'
    go_simp
    with_reducible rfl
  rotate_left
  · simp only [Act.put, List.setIfInBounds_toArray, List.set_cons_zero, List.set_cons_succ, i64_w, i32_w]
    rfl
  refine pure_ (i := 2) (N := some 7) (v := ?_) (a' := ?_) #[true, true, true, false, false, false, false, false, false, false, false, false, false, false, false, false] rfl rfl (by kernel_rfl) (fun _ _ _ h => h) (Or.inl ⟨by rfl, ?_⟩) ?_ ?_
  rotate_left
  · intro w'
    go_simp
    with_reducible rfl
  rotate_left
  · simp only [Act.put, List.setIfInBounds_toArray, List.set_cons_zero, List.set_cons_succ, i64_w, i32_w]
    rfl
  refine pure_ (i := 3) (N := some 8) (v := ?_) (a' := ?_) #[true, true, true, true, false, false, false, false, false, false, false, false, false, false, false, false] rfl rfl (by kernel_rfl) (fun _ _ _ h => h) (Or.inl ⟨by rfl, ?_⟩) ?_ ?_
  rotate_left
  · intro w'
    go_simp
    with_reducible rfl
  rotate_left
  · simp only [Act.put, List.setIfInBounds_toArray, List.set_cons_zero, List.set_cons_succ, i64_w, i32_w]
    rfl
  refine pure_ (i := 4) (N := some 9) (v := ?_) (a' := ?_) #[true, true, true, true, true, false, false, false, false, false, false, false, false, false, false, false] rfl rfl (by kernel_rfl) (fun _ _ _ h => h) (Or.inl ⟨by rfl, ?_⟩) ?_ ?_
  rotate_left
  · intro w'
    go_simp
    with_reducible rfl
  rotate_left
  · simp only [Act.put, List.setIfInBounds_toArray, List.set_cons_zero, List.set_cons_succ, i64_w, i32_w]
    rfl
  refine pure_ (i := 5) (N := some 10) (v := ?_) (a' := ?_) #[true, true, true, true, true, true, false, false, false, false, false, false, false, false, false, false] rfl rfl (by kernel_rfl) (fun _ _ _ h => h) (Or.inl ⟨by rfl, ?_⟩) ?_ ?_
  rotate_left
  · intro w'
    go_simp
    with_reducible rfl
  rotate_left
  · simp only [Act.put, List.setIfInBounds_toArray, List.set_cons_zero, List.set_cons_succ, i64_w, i32_w]
    rfl
  refine pure_ (i := 6) (N := some 11) (v := ?_) (a' := ?_) #[true, true, true, true, true, true, true, false, false, false, false, false, false, false, false, false] rfl rfl (by kernel_rfl) (fun _ _ _ h => h) (Or.inl ⟨by rfl, ?_⟩) ?_ ?_
  rotate_left
  · intro w'
    go_simp
    with_reducible rfl
  rotate_left
  · simp only [Act.put, List.setIfInBounds_toArray, List.set_cons_zero, List.set_cons_succ, i64_w, i32_w]
    rfl
  refine pure_ (i := 7) (N := some 12) (v := ?_) (a' := ?_) #[true, true, true, true, true, true, true, true, false, false, false, false, false, false, false, false] rfl rfl (by kernel_rfl) (fun _ _ _ h => h) (Or.inl ⟨by rfl, ?_⟩) ?_ ?_
  rotate_left
  · intro w'
    go_simp
    with_reducible rfl
  rotate_left
  · simp only [Act.put, List.setIfInBounds_toArray, List.set_cons_zero, List.set_cons_succ, i64_w, i32_w]
    rfl
  refine pure_ (i := 8) (N := some 13) (v := ?_) (a' := ?_) #[true, true, true, true, true, true, true, true, true, false, false, false, false, false, false, false] rfl rfl (by kernel_rfl) (fun _ _ _ h => h) (Or.inl ⟨by rfl, ?_⟩) ?_ ?_
  rotate_left
  · intro w'
    go_simp
    with_reducible rfl
  rotate_left
  · simp only [Act.put, List.setIfInBounds_toArray, List.set_cons_zero, List.set_cons_succ, i64_w, i32_w]
    rfl
  refine pure_ (i := 9) (N := some 14) (v := ?_) (a' := ?_) #[true, true, true, true, true, true, true, true, true, true, false, false, false, false, false, false] rfl rfl (by kernel_rfl) (fun _ _ _ h => h) (Or.inl ⟨by rfl, ?_⟩) ?_ ?_
  rotate_left
  · intro w'
    go_simp
    with_reducible rfl
  rotate_left
  · simp only [Act.put, List.setIfInBounds_toArray, List.set_cons_zero, List.set_cons_succ, i64_w, i32_w]
    rfl
  refine pure_ (i := 11) (N := some 16) (v := ?_) (a' := ?_) #[true, true, true, true, true, true, true, true, true, true, false, true, false, false, false, false] rfl rfl (by kernel_rfl) (fun _ _ _ h => h) (Or.inl ⟨by rfl, ?_⟩) ?_ ?_
  rotate_left
  · intro w'
    go_simp
    with_reducible rfl
  rotate_left
  · simp only [Act.put, List.setIfInBounds_toArray, List.set_cons_zero, List.set_cons_succ, i64_w, i32_w]
    rfl
  refine take_ (i := 10) (N := some 15) (v := ?_) (a' := ?_) #[true, true, true, true, true, true, true, true, true, true, true, true, false, false, false, false] rfl rfl (by kernel_rfl) (fun _ _ _ h => h) (Or.inl ⟨by rfl, ?_⟩) hHeld ?_ ?_
  rotate_left
  · rintro w' ⟨s0, s1⟩
    go_simp
    with_reducible rfl
  rotate_left
  · simp only [Act.put, List.setIfInBounds_toArray, List.set_cons_zero, List.set_cons_succ, i64_w, i32_w]
    rfl
  refine take_ (i := 12) (N := some 17) (v := ?_) (a' := ?_) #[true, true, true, true, true, true, true, true, true, true, true, true, true, false, false, false] rfl rfl (by kernel_rfl) (fun _ _ _ h => h) (Or.inl ⟨by rfl, ?_⟩) hHeld ?_ ?_
  rotate_left
  · rintro w' ⟨s0, s1⟩
    go_simp
    with_reducible rfl
  rotate_left
  · simp only [Act.put, List.setIfInBounds_toArray, List.set_cons_zero, List.set_cons_succ, i64_w, i32_w]
    rfl
  refine pure_ (i := 13) (N := some 18) (v := ?_) (a' := ?_) #[true, true, true, true, true, true, true, true, true, true, true, true, true, true, false, false] rfl rfl (by kernel_rfl) (fun _ _ _ h => h) (Or.inl ⟨by rfl, ?_⟩) ?_ ?_
  rotate_left
  · intro w'
    go_simp
    with_reducible rfl
  rotate_left
  · simp only [Act.put, List.setIfInBounds_toArray, List.set_cons_zero, List.set_cons_succ, i64_w, i32_w]
    rfl
  refine pure_ (i := 14) (N := some 19) (v := ?_) (a' := ?_) #[true, true, true, true, true, true, true, true, true, true, true, true, true, true, true, false] rfl rfl (by kernel_rfl) (fun _ _ _ h => h) (Or.inl ⟨by rfl, ?_⟩) ?_ ?_
  rotate_left
  · intro w'
    go_simp
    with_reducible rfl
  rotate_left
  · simp only [Act.put, List.setIfInBounds_toArray, List.set_cons_zero, List.set_cons_succ, i64_w, i32_w]
    rfl
  refine pure_ (i := 15) (N := some 4) (v := ?_) (a' := ?_) #[true, true, true, true, true, true, true, true, true, true, true, true, true, true, true, true] rfl rfl (by kernel_rfl) (fun _ _ _ h => h) (Or.inl ⟨by rfl, ?_⟩) ?_ ?_
  rotate_left
  · intro w'
    go_simp
    with_reducible rfl
  rotate_left
  · simp only [Act.put, List.setIfInBounds_toArray, List.set_cons_zero, List.set_cons_succ, i64_w, i32_w]
    rfl
  refine done_ (by kernel_rfl) ?_

  go_wp2_with fail
  go_ret
  exact ⟨rfl, rfl⟩
theorem frozen_row {α : Type} {d : Kd α} {e : Nat} {w : World} {base : Nat} {ok : Nat → Prop} {g n c : Nat} {xs : List α} (h : d.R e w base ok (.slice (some ⟨g, 0, none⟩) n c) xs) (j : Nat) : w.frozen? ⟨g, j, none⟩ = false := by
  obtain ⟨_, inner, ho, hr⟩ := h
  obtain ⟨cells, hc⟩ := own_typed ho g (by simp [Value.ownBlock])
  exact blk_frozen hc _
/-- A place in a row of places is written over. -/
theorem row_putH {B : Nat} {w : World} {Ts : List Th} {ad : Addr} {n c : Nat} {l : List Hd} (h : Has B w (rowT kH 23 (.slice (some ad) n c) l :: Ts)) (i : Nat) (hi : i < l.length) (x : Hd) :
    Has B (w.setCell (ad.add i) (.slice x.1 x.2.1 x.2.2)) (rowT kH 23 (.slice (some ad) n c) (l.set i x) :: Ts) ∧ Below B w (w.setCell (ad.add i) (.slice x.1 x.2.1 x.2.2)) ∧ w.frozen? (ad.add i) = false := by
  obtain ⟨F, hR, hFb, put⟩ := h.head
  have hR' : Kd.R kH 23 w 0 F (.slice (some ad) n c) l := hR
  obtain ⟨hn, hnc, hC⟩ := Kd.R_reads' hR'
  obtain ⟨g, rfl⟩ : ∃ g, ad = ⟨g, 0, none⟩ := by
    obtain ⟨_, inner, ho, _⟩ := hR'
    rcases ho.2 with ⟨_, h0⟩ | ⟨g, cap, cur, hv, _, _, _, _⟩
    · omega
    · injection hv with h1 _ _
      injection h1 with h1
      exact ⟨g, h1⟩
  rw [add_plain]
  obtain ⟨ad, e0, h2⟩ := at_H hC i (x := l[i]) (List.getElem?_eq_getElem hi)
  cases e0
  rw [add_plain] at h2
  have hg : F g := hR'.1 g rfl
  obtain ⟨s1, s2⟩ := Kd.R_seg (okp := fun _ => False) hR' (i : Int) (by omega) (by omega) (c := [.slice (l[i]).1 (l[i]).2.1 (l[i]).2.2]) (seg := [.slice x.1 x.2.1 x.2.2]) (j := 0) rfl
    (fun j q hq => by
      rw [Int.toNat_natCast]
      match j, hq with
      | 0, hq =>
        cases hq
        show w.cell? ⟨g, i * 1 + 0, none⟩ = _
        rw [Nat.mul_one, Nat.add_zero]
        exact h2
      | j + 1, hq => cases hq) (show 0 + 1 ≤ 1 by decide) (x' := x) rfl (fun _ f => f.elim)
  rw [Int.toNat_natCast] at s1 s2
  have ei : i * kH.sz + 0 = i := by show i * 1 + 0 = i; omega
  rw [ei] at s1 s2
  have s1' : Kd.R kH 23 (w.setCell ⟨g, i, none⟩ (.slice x.1 x.2.1 x.2.2)) 0 F (.slice (some ⟨g, 0, none⟩) n c) (l.set i x) := s1
  have s2' : w.grownBy (w.setCell ⟨g, i, none⟩ (.slice x.1 x.2.1 x.2.2)) (some g) := s2
  obtain ⟨p1, p2⟩ := put _ F (rowT kH 23 (.slice (some ⟨g, 0, none⟩) n c) (l.set i x)) ((KeepF.refl F w).grown s2' (fun k e => by injection e with e; subst e; exact .inl hg)) s1' (fun k hk => ⟨.inl hk, Nat.lt_of_lt_of_le (hFb k hk).2 s2'.size⟩)
  exact ⟨p1, p2, frozen_row hR' i⟩
theorem perm6 (a b c d e f : Th) (R : List Th) : (a :: b :: c :: d :: e :: f :: R).Perm (b :: d :: a :: e :: f :: c :: R) := by
  refine (List.Perm.swap b a _).trans (List.Perm.cons b ?_)
  refine ((List.perm_append_comm (l₁ := [a, c]) (l₂ := [d])).append_right (e :: f :: R)).trans ?_
  refine List.Perm.cons d (List.Perm.cons a ?_)
  exact (List.perm_append_comm (l₁ := [c]) (l₂ := [e, f])).append_right R
/-- The store at a turn's start. -/
def tS (st : Stt) (keep : List Int) (t : Nat) : Stt := if t = 0 then st else crashS st keep
theorem tS_crash {st : Stt} (hf : SafeS st) (keep : List Int) (t : Nat) : crashS (tS st keep t) keep = crashS st keep := by
  unfold tS
  split
  · rfl
  · exact crash_twice hf keep
theorem tS_fine {st : Stt} {k : Nat} (h : Fine st k) (keep : List Int) (t : Nat) : Fine (tS st keep t) k := by
  unfold tS
  split
  · exact h
  · exact fine_crash h keep
theorem tS_next (st : Stt) (keep : List Int) (t : Nat) : tS st keep (t + 1) = crashS st keep := by
  unfold tS
  rw [if_neg (by omega)]
theorem names_same (st : Stt) (keep : List Int) : namesL (crashS st keep) = namesL st := by
  unfold namesL
  exact crash_names keep 0 st.L
def mixF (L1 Lt : List SF) (j : Nat) (i : Nat) : List Int := if i < j then fB L1 i else fB Lt i
/-- What a turn meets at a file. -/
theorem turn_at {st : Stt} {keep : List Int} (hf : SafeS st) (t : Nat) {j : Nat} (hj : j < st.L.length) (hj1 : j < (crashS st keep).L.length) : ((crashS st keep).L[j]).f0 = (st.L[j]).f0 ∧ ((crashS st keep).L[j]).f2 = (((crashS st keep).L[j]).f1.length : Int) ∧ (st.L[j]).f2 ≤ (((crashS st keep).L[j]).f1.length : Int) ∧ ((crashS st keep).L[j]).f1 = (fB (tS st keep t).L j).take ((crashS st keep).L[j]).f1.length ∧ (t ≠ 0 → fB (tS st keep t).L j = ((crashS st keep).L[j]).f1) := by
  have h := crf_at keep 0 st.L hf j hj hj1
  refine ⟨h.name, h.all, h.safe, ?_, fun ht => ?_⟩
  · unfold tS
    split
    · rw [fB_at hj]
      exact h.begins
    · rw [fB_at hj1, List.take_length]
  · unfold tS
    rw [if_neg ht, fB_at hj1]
end Go.Proofs.Ytibnakpefjjoiaa.Fs
