/- Rows of one's own, made and written out; what FilesEnds and FilesLong come to, in plain words. No law is proved here. -/
import Derived.Test.YtibnakpefjjoiaaFileT
namespace Go.Proofs.Ytibnakpefjjoiaa.Fs
open Go.RowKit Go.Proofs.YtibnakpefjjoiaaW.PrintWords Go.Proofs.YtibnakpefjjoiaaW.PrintLast Go.Proofs.YtibnakpefjjoiaaW.PrintMore Go.Proofs.Ytibnakpefjjoiaa.Q Go.Proofs.Ytibnakpefjjoiaa.Own
set_option linter.unusedVariables false
set_option linter.unusedSimpArgs false

/-- A row that is written out. -/
theorem lit_rows {P : Program} {ops : Array Oper} {rest : List Oper} {o : Oper} {a : Act} {Q : Exit → Act → World → Prop} {α : Type} (d : Kd α) {B : Nat} {W : World} {Ts : List Th} (e : Nat) {N : Tmp} {xs : List α} (inner : List Value) (h : Has B W Ts)
    (hgd : o.guard = none) (hd : o.dst = some N) (hrun : (execOp a.eval o).run P W = .ok (.value (.slice (some ⟨W.heap.size, 0, none⟩) xs.length xs.length)) (W.alloc (.cells inner.toArray e)))
    (hrep : Reps (d.M W W.heap.size (fun _ => True)) d.sz xs inner) (hm : xs.length ≤ 9223372036854775807)
    (hK : ∀ v1 w1, Has B w1 (rowT d e v1 xs :: Ts) → Below B W w1 → wpList P ops Q rest (a.put o.dst v1) w1) : wpList P ops Q (o :: rest) a W := by
  refine Kd.R_lit d (w0 := W) W.heap.size e hgd hd (xs := xs) (inner := inner) (ok := fun _ => True) (okp := fun _ => True) hrun hrep (fun _ q => q) trivial (Below.refl _ _) (Nat.le_refl _) hm ?_
  intro v1 w1 hr hb _ _
  exact hK v1 w1 (h.row hb hr) (hb.mono h.size)
/-- A row that is made. -/
theorem make_rows {P : Program} {ops : Array Oper} {rest : List Oper} {o : Oper} {a : Act} {Q : Exit → Act → World → Prop} {α : Type} (d : Kd α) {B : Nat} {W : World} {Ts : List Th} (e : Nat) {N : Tmp} (h : Has B W Ts)
    (hgd : o.guard = none) (hd : o.dst = some N) (t : TypeId) (x y : Operand) (ho : o.op = .makeSlice t x y) (n : Int) (hx : a.eval x = .int .i64 n) (hy : a.eval y = .int .i64 n)
    (ht : P.underlying t = some (.slice e)) (z : Value) (bytes : Nat) (hinfo : (P.info? e).map (fun i => (i.zero, i.size, i.bytes)) = some (some z, d.sz, bytes)) (hz : z.cells.size = d.sz) (hs0 : 0 < d.sz) (hb0 : 0 < bytes)
    (z0 : α) (hzero : d.M W W.heap.size (fun _ => False) z0 z.cells.toList) (h0 : 0 ≤ n) (hl : n.toNat * bytes ≤ 281474976710656)
    (hK : ∀ v1 w1, Has B w1 (rowT d e v1 (List.replicate n.toNat z0) :: Ts) → Below B W w1 → wpList P ops Q rest (a.put o.dst v1) w1) : wpList P ops Q (o :: rest) a W := by
  refine Kd.R_make d (w0 := W) W.heap.size e hgd hd t x y ho n hx hy ht z bytes hinfo hz hs0 hb0 z0 (ok := fun _ => True) (okp := fun _ => False) hzero (fun _ q => q.elim) trivial h0 hl (Below.refl _ _) (Nat.le_refl _) ?_
  intro v1 w1 hr hb _ _
  exact hK v1 w1 (h.row hb hr) (hb.mono h.size)

theorem lit_B (w : World) (l : List Int) (hl : l.length ≤ 9223372036854775807) : Kd.C kB (w.alloc (.cells (encs (Value.int .u8) l).toArray 5)) (some ⟨w.heap.size, 0, none⟩) l.length l := by
  have h : Kd.R kB 5 (w.alloc (.cells (encs (Value.int .u8) l).toArray 5)) 0 (fun _ => True) (.slice (some ⟨w.heap.size, 0, none⟩) l.length l.length) l :=
    ⟨fun _ _ => trivial, OwnRow.lit (ps := l) w 0 (inner := encs (Value.int .u8) l) (Kd.reps_scalar l) (Nat.zero_le _) hl⟩
  exact (Kd.R_reads' h).2.2

/-- make([]byte, m): a row of noughts of one's own. -/
theorem make_run0 {B : Nat} {w : World} {Ts : List Th} (h : Has B w Ts) {m : Nat} (hm : m ≤ 1000000000) :
    ∃ v w', (Instr.makeSlice 23 (.int .i64 (m : Int)) (.int .i64 (m : Int))).run Try.prog w = .ok v w' ∧ Has B w' (rowT kB 5 v (List.replicate m 0) :: Ts) ∧ Below B w w' := by
  obtain ⟨i0, hi, hzz⟩ := Option.map_eq_some_iff.1 inf5
  simp only [Prod.mk.injEq] at hzz
  obtain ⟨hz0, hz1, hz2⟩ := hzz
  have hr := Go.run_make (P := Try.prog) w 23 5 i0 (.int .u8 0) Try.underlying23 hi hz0 .i64 .i64 (m : Int) (m : Int) (by omega) (by omega) (by rw [hz2]; omega) (by omega)
  simp only [Int.toNat_natCast] at hr
  rw [hz1] at hr
  have hrep : Reps (kB.M w w.heap.size (fun _ => True)) 1 (List.replicate m 0) (madeCells (Value.int .u8 0).cells (m * 1)).toList := Kd.reps_made (R := kB.M w w.heap.size (fun _ => True)) (z := .int .u8 0) (size := 1) (z0 := 0) rfl (by decide) rfl m
  have hb : Below w.heap.size w (w.alloc (.cells (madeCells (Value.int .u8 0).cells (m * 1)) 5)) := (Below.refl _ w).alloc (Nat.le_refl _) _
  refine ⟨_, _, hr, h.row hb ?_, hb.mono h.size⟩
  have hl := OwnRow.lit (ps := List.replicate m (0 : Int)) (e := 5) w w.heap.size (inner := (madeCells (Value.int .u8 0).cells (m * 1)).toList) hrep (Nat.le_refl _) (by rw [List.length_replicate]; omega)
  rw [List.length_replicate, Array.toArray_toList] at hl
  exact ⟨fun _ _ => trivial, hl⟩

/-! FilesEnds -/
def endL (xs : List Int) (safe : Nat) : List SF := if xs.length = 0 then [] else [⟨nA, xs, (safe : Int)⟩]
def endS (after done : Nat) (xs : List Int) (safe : Nat) : Stt := ⟨(after : Int) - done, done, endL xs safe⟩
theorem end_fine {after done : Nat} {xs : List Int} {safe : Nat} (h1 : done ≤ after) (h2 : after ≤ 40) (h3 : xs.length ≤ 100) (h4 : safe ≤ xs.length) : Fine (endS after done xs safe) 40 := by
  have hm : ∀ x ∈ endL xs safe, x = ⟨nA, xs, (safe : Int)⟩ := fun x hx => by
    unfold endL at hx
    split at hx
    · exact absurd hx List.not_mem_nil
    · exact List.mem_singleton.1 hx
  refine ⟨by show (0 : Int) ≤ (done : Int); omega, by show (done : Int) ≤ ((40 : Nat) : Int); omega, by show -1 ≤ (after : Int) - done; omega, by show (after : Int) - done ≤ _; omega, ?_, fun x hx => ?_, ?_, fun x hx => ?_⟩
  · show (endL xs safe).length ≤ 64
    unfold endL
    split
    · exact Nat.zero_le _
    · show 1 ≤ 64
      omega
  · rw [hm x hx]
    show xs.length ≤ 1048576
    omega
  · show Rise (endL xs safe)
    unfold endL
    split
    · exact List.Pairwise.nil
    · exact rise_one _ _ _
  · rw [hm x hx]
    exact ⟨by show (0 : Int) ≤ (safe : Int); omega, by show (safe : Int) ≤ (xs.length : Int); omega, by show (1 : Nat) ≤ 32; omega⟩
theorem end_app {after done : Nat} {xs : List Int} {safe : Nat} (h1 : done < after) (h3 : xs.length ≤ 100) (h4 : safe ≤ xs.length) (b : Int) : appendS (endS after done xs safe) nA [b] = (0, endS after (done + 1) (xs ++ [b]) safe) := by
  have hX : (appendX (endS after done xs safe) nA).f1 = xs ∧ (appendX (endS after done xs safe) nA).f2 = (safe : Int) := by
    unfold appendX endS endL
    dsimp only
    split
    · rename_i h
      have : xs = [] := List.length_eq_zero_iff.1 h
      subst this
      have : safe = 0 := by simpa using h4
      subst this
      exact ⟨rfl, rfl⟩
    · rw [find_one]
      exact ⟨rfl, rfl⟩
  have hl : longF (endS after done xs safe) nA [b].length = false := by
    unfold longF
    rw [hX.1]
    refine decide_eq_false ?_
    rw [List.length_singleton]
    omega
  have hf : fullF (endS after done xs safe) nA = false := by
    unfold fullF
    have : decide (64 ≤ (endS after done xs safe).L.length) = false := by
      refine decide_eq_false ?_
      show ¬ 64 ≤ (endL xs safe).length
      unfold endL
      split
      · show ¬ 64 ≤ 0
        omega
      · show ¬ 64 ≤ 1
        omega
    rw [this, Bool.and_false]
  have hset : setF (endL xs safe) ⟨nA, xs ++ [b], (safe : Int)⟩ = endL (xs ++ [b]) safe := by
    unfold endL
    rw [if_neg (show ¬ (xs ++ [b]).length = 0 by rw [List.length_append, List.length_singleton]; omega)]
    split
    · rfl
    · exact set_one nA xs (xs ++ [b]) safe safe
  unfold appendS
  rw [if_neg (show ¬ (endS after done xs safe).left = 0 by show ¬ (after : Int) - done = 0; omega), if_neg (show ¬ mayF nA = false by decide), if_neg (by rw [hl]; exact Bool.false_ne_true), if_neg (by rw [hf]; exact Bool.false_ne_true), hX.1, hX.2]
  show (_, (⟨leftF ((after : Int) - done), (done : Int) + 1, setF (endL xs safe) ⟨nA, xs ++ [b], (safe : Int)⟩⟩ : Stt)) = _
  rw [hset]
  unfold endS leftF
  rw [if_pos (show (after : Int) - done > 0 by omega)]
  congr 2
  omega
theorem end_app0 {after done : Nat} (h : done = after) (xs : List Int) (safe : Nat) (ys : List Int) : appendS (endS after done xs safe) nA ys = (30, endS after done xs safe) := by
  subst h
  unfold appendS
  rw [if_pos (show (endS done done xs safe).left = 0 by show (done : Int) - done = 0; omega)]
theorem end_sync {after done : Nat} {xs : List Int} {safe : Nat} (h1 : done < after) (h0 : ¬ xs.length = 0) : syncS (endS after done xs safe) nA = (0, endS after (done + 1) xs xs.length) := by
  have he : ∀ k, endL xs k = [⟨nA, xs, (k : Int)⟩] := fun k => by unfold endL; rw [if_neg h0]
  unfold syncS onF
  rw [if_neg (show ¬ (endS after done xs safe).left = 0 by show ¬ (after : Int) - done = 0; omega)]
  unfold endS
  dsimp only
  rw [he, find_one]
  dsimp only
  unfold withL leftF
  rw [find_one, if_pos (show (some _).isSome = true from rfl), set_one, if_pos (show (after : Int) - done > 0 by omega), he]
  congr 2
  omega
theorem end_sync0 {after done : Nat} (h : done = after) (xs : List Int) (safe : Nat) : syncS (endS after done xs safe) nA = (30, endS after done xs safe) := by
  subst h
  unfold syncS onF
  rw [if_pos (show (endS done done xs safe).left = 0 by show (done : Int) - done = 0; omega)]
theorem end_told {after done : Nat} (xs : List Int) (safe : Nat) (h1 : done ≤ after) : toldE (endS after done xs safe) nA = if done = after then 30 else if xs.length = 0 then 31 else 0 := by
  unfold toldE
  by_cases h : done = after
  · subst h
    rw [if_pos (show (endS done done xs safe).left = 0 by show (done : Int) - done = 0; omega), if_pos rfl]
  · rw [if_neg (show ¬ (endS after done xs safe).left = 0 by show ¬ (after : Int) - done = 0; omega), if_neg h]
    show (match findF (endL xs safe) nA.data.toList with | none => (31 : Int) | some _ => 0) = _
    unfold endL
    by_cases h0 : xs.length = 0
    · rw [if_pos h0, if_pos h0]
      rfl
    · rw [if_neg h0, if_neg h0, find_one]
def endC (done : Nat) (xs : List Int) (safe : Nat) : Stt := ⟨-1, done, if xs.length = 0 then [] else [⟨nA, xs.take safe, (safe : Int)⟩]⟩
theorem end_crash {after done : Nat} {xs : List Int} {safe : Nat} (h4 : safe ≤ xs.length) : crashS (endS after done xs safe) [] = endC done xs safe := by
  unfold crashS endS endC endL
  dsimp only
  split
  · rfl
  · rename_i h0
    unfold crashF
    dsimp only
    split
    · rename_i h
      have : safe = xs.length := by omega
      rw [this, List.take_length]
      rfl
    · unfold crash1 moreI
      dsimp only
      rw [if_neg (show ¬ 0 < ([] : List Int).length from Nat.lt_irrefl 0), Int.add_zero, Int.toNat_natCast]
      rfl
theorem end_last {done : Nat} {xs : List Int} {safe : Nat} : toldE (endC done xs safe) nA = (if xs.length = 0 then 31 else 0) ∧ (toldX (endC done xs safe) nA).f1 = if xs.length = 0 then [] else xs.take safe := by
  unfold toldE toldX endC
  dsimp only
  rw [if_neg (show ¬ (-1 : Int) = 0 by omega), if_neg (show ¬ (-1 : Int) = 0 by omega)]
  by_cases h0 : xs.length = 0
  · rw [if_pos h0, if_pos h0, if_pos h0]
    exact ⟨rfl, rfl⟩
  · rw [if_neg h0, if_neg h0, if_neg h0, find_one]
    exact ⟨rfl, rfl⟩

/-! FilesLong -/
def lngS (size acts : Nat) : Stt := if size = 0 then ⟨-1, 0, []⟩ else oneS nA acts (List.replicate size 0)
theorem lng_fine {size acts : Nat} (h1 : size ≤ 1048576) : Fine (lngS size acts) acts := by
  unfold lngS
  split
  · exact fine_new.more (by omega)
  · refine ⟨by show (0 : Int) ≤ (acts : Int); omega, by show (acts : Int) ≤ _; omega, by show (-1 : Int) ≤ -1; omega, by show (-1 : Int) ≤ 9223372036854775807; omega, by show (1 : Nat) ≤ 64; omega, fun x hx => ?_, rise_one _ _ _, fun x hx => ?_⟩
    · rw [List.mem_singleton.1 hx]
      show (List.replicate size (0 : Int)).length ≤ 1048576
      rw [List.length_replicate]
      exact h1
    · rw [List.mem_singleton.1 hx]
      exact ⟨by show (0 : Int) ≤ 0; omega, by show (0 : Int) ≤ _; omega, by show (1 : Nat) ≤ 32; omega⟩
theorem append_anew {ys : List Int} (hy : ys.length ≤ 1048576) : appendS ⟨-1, 0, []⟩ nA ys = (0, oneS nA 1 ys) := by
  unfold appendS
  rw [if_neg (by decide), if_neg (by decide), if_neg, if_neg (by decide)]
  · rfl
  · have e : longF ⟨-1, 0, []⟩ nA ys.length = decide (1048576 - (0 : Int) < (ys.length : Int)) := rfl
    rw [e, decide_eq_false (by omega)]
    decide
theorem append_more {k : Int} {xs ys : List Int} (hy : xs.length + ys.length ≤ 1048576) : appendS (oneS nA k xs) nA ys = (0, oneS nA (k + 1) (xs ++ ys)) := by
  have e1 : appendX (oneS nA k xs) nA = ⟨nA, xs, 0⟩ := by unfold appendX oneS; rw [find_one]; rfl
  have e2 : fullF (oneS nA k xs) nA = false := by unfold fullF oneS; rw [find_one]; rfl
  unfold appendS
  rw [if_neg (show ¬ (oneS nA k xs).left = 0 by show ¬ (-1 : Int) = 0; decide), if_neg (by decide), if_neg, if_neg (by rw [e2]; decide), e1]
  · show ((0 : Int), (⟨leftF (-1), k + 1, setF [(⟨nA, xs, 0⟩ : SF)] ⟨nA, xs ++ ys, 0⟩⟩ : Stt)) = _
    rw [set_one]
    rfl
  · unfold longF
    rw [e1, decide_eq_false (by dsimp only; omega)]
    decide
theorem lng_app {size acts n : Nat} (h0 : size = 0 → acts = 0) (h1 : size + n ≤ 1048576) (hn : 0 < n) : appendS (lngS size acts) nA (List.replicate n 0) = (0, lngS (size + n) (acts + 1)) := by
  unfold lngS
  rw [if_neg (show ¬ size + n = 0 by omega)]
  split
  · rename_i h
    rw [append_anew (by rw [List.length_replicate]; omega), h, h0 h, Nat.zero_add, Nat.zero_add]
    rfl
  · rw [append_more (by rw [List.length_replicate, List.length_replicate]; omega), List.replicate_append_replicate]
    rfl
theorem lng_full {size acts n : Nat} (h1 : size ≤ 1048576) (hn : n ≤ 1048576) (hs : 1048576 < size + n) : appendS (lngS size acts) nA (List.replicate n 0) = (3, lngS size acts) := by
  unfold lngS
  rw [if_neg (show ¬ size = 0 by omega)]
  have e1 : appendX (oneS nA acts (List.replicate size 0)) nA = ⟨nA, List.replicate size 0, 0⟩ := by unfold appendX oneS; rw [find_one]; rfl
  unfold appendS
  rw [if_neg (show ¬ (oneS nA acts (List.replicate size 0)).left = 0 by show ¬ (-1 : Int) = 0; decide), if_neg (by decide), if_pos]
  unfold longF
  rw [e1]
  refine decide_eq_true ?_
  show 1048576 - ((List.replicate size (0 : Int)).length : Int) < ((List.replicate n (0 : Int)).length : Int)
  rw [List.length_replicate, List.length_replicate]
  omega
/-- The name of the file number i. -/
def nmI (i : Nat) : ByteArray := ⟨#[98, UInt8.ofNat (97 + i % 26), UInt8.ofNat (97 + i / 26)]⟩
theorem nm_cat (k : Nat) : (⟨#[98]⟩ : ByteArray) ++ strOfNums [97 + (k : Int) % 26, 97 + (k : Int) / 26] = nmI k := by
  have h1 : (97 + (k : Int) % 26).toNat = 97 + k % 26 := by omega
  have h2 : (97 + (k : Int) / 26).toNat = 97 + k / 26 := by omega
  refine ByteArray.ext (Array.ext' ?_)
  simp [strOfNums, nmI, h1, h2]
theorem nm_ne {i j : Nat} (hi : i < 80) (hj : j < 80) (h : i ≠ j) : (nmI i).data.toList ≠ (nmI j).data.toList := by
  intro e
  have e' : [(98 : UInt8), UInt8.ofNat (97 + i % 26), UInt8.ofNat (97 + i / 26)] = [98, UInt8.ofNat (97 + j % 26), UInt8.ofNat (97 + j / 26)] := e
  injection e' with _ e1
  injection e1 with e2 e3
  injection e3 with e4 _
  have f2 := congrArg UInt8.toNat e2
  have f4 := congrArg UInt8.toNat e4
  rw [UInt8.toNat_ofNat', UInt8.toNat_ofNat'] at f2 f4
  omega
/-- A store in FilesLong's second loop: none of the later names is there. -/
structure LngS (st : Stt) (i there : Nat) : Prop where
  fine : Fine st (8 + i)
  left : st.left = -1
  len : st.L.length = there
  free : ∀ j, i ≤ j → j < 80 → findF st.L (nmI j).data.toList = none
theorem lng_start {size acts : Nat} (h1 : size ≤ 1048576) (h2 : acts ≤ 8) : LngS (lngS size acts) 0 (if size = 0 then 0 else 1) := by
  refine ⟨(lng_fine h1).more (by omega), ?_, ?_, fun j _ hj => ?_⟩
  · unfold lngS; split <;> rfl
  · unfold lngS; split <;> rfl
  · unfold lngS
    split
    · rfl
    · refine find_none.2 fun x hx => ?_
      rw [List.mem_singleton.1 hx]
      intro e
      have e' : [(97 : UInt8)] = [98, UInt8.ofNat (97 + j % 26), UInt8.ofNat (97 + j / 26)] := e
      injection e' with q _
      exact absurd q (by decide)
theorem lng_next {st : Stt} {i there : Nat} (h : LngS st i there) (hi : i < 80) : (appendS st (nmI i) []).1 = (if 64 ≤ there then 4 else 0) ∧ LngS (appendS st (nmI i) []).2 (i + 1) (if 64 ≤ there then there else there + 1) := by
  have hX : appendX st (nmI i) = zF := by unfold appendX; rw [h.free i (Nat.le_refl _) hi]; rfl
  have hl : longF st (nmI i) ([] : List Int).length = false := by
    unfold longF
    rw [hX]
    rfl
  have hf : fullF st (nmI i) = decide (64 ≤ there) := by
    unfold fullF
    rw [h.free i (Nat.le_refl _) hi, h.len]
    rfl
  have e0 : appendS st (nmI i) [] = if fullF st (nmI i) = true then (4, st) else (0, ⟨leftF st.left, st.acts + 1, setF st.L ⟨nmI i, (appendX st (nmI i)).f1 ++ [], (appendX st (nmI i)).f2⟩⟩) := by
    unfold appendS
    rw [if_neg (show ¬ st.left = 0 by rw [h.left]; omega), if_neg (show ¬ mayF (nmI i) = false by unfold mayF; rw [decide_eq_true (show 1 ≤ (nmI i).size ∧ (nmI i).size ≤ 32 from ⟨by show 1 ≤ 3; omega, by show 3 ≤ 32; omega⟩)]; exact fun q => Bool.noConfusion q), if_neg (show ¬ longF st (nmI i) ([] : List Int).length = true by rw [hl]; exact Bool.false_ne_true)]
  have hfi := (fine_append h.fine (nmI i) []).more (show 8 + i + 1 ≤ 8 + (i + 1) by omega)
  rw [e0] at hfi ⊢
  by_cases hq : 64 ≤ there
  · rw [if_pos (show fullF st (nmI i) = true by rw [hf]; exact decide_eq_true hq)] at hfi ⊢
    rw [if_pos hq, if_pos hq]
    exact ⟨rfl, hfi, h.left, h.len, fun j hj hj2 => h.free j (by omega) hj2⟩
  · rw [if_neg (show ¬ fullF st (nmI i) = true by rw [hf, decide_eq_false hq]; exact Bool.false_ne_true)] at hfi ⊢
    rw [if_neg hq, if_neg hq]
    refine ⟨rfl, hfi, ?_, ?_, fun j hj hj2 => ?_⟩
    · show leftF st.left = -1
      rw [h.left]
      rfl
    · show (setF st.L _).length = there + 1
      rw [set_len h.fine.rise, show nameL (⟨nmI i, (appendX st (nmI i)).f1 ++ [], (appendX st (nmI i)).f2⟩ : SF) = (nmI i).data.toList from rfl, h.free i (Nat.le_refl _) hi, if_neg (show ¬ (none : Option SF).isSome = true from Bool.false_ne_true), h.len]
    · show findF (setF st.L _) (nmI j).data.toList = none
      rw [find_set h.fine.rise, show nameL (⟨nmI i, (appendX st (nmI i)).f1 ++ [], (appendX st (nmI i)).f2⟩ : SF) = (nmI i).data.toList from rfl, if_neg (nm_ne hj2 hi (by omega)), h.free j (by omega) hj2]
end Go.Proofs.Ytibnakpefjjoiaa.Fs
