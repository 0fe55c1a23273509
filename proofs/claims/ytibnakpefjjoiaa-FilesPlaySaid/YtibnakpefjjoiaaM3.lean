/- The document's store of files, as things: a pair, a row of flat files, and their bytes: New, Dead, Find, refuse, act: walked. No law is proved here. (with what is built on it) -/
import Derived.Test.YtibnakpefjjoiaaM2
namespace Go.Proofs.Ytibnakpefjjoiaa.Fs
open Go.RowKit Go.Proofs.YtibnakpefjjoiaaW.PrintWords Go.Proofs.YtibnakpefjjoiaaW.PrintLast Go.Proofs.YtibnakpefjjoiaaW.PrintMore Go.Proofs.Ytibnakpefjjoiaa.Q Go.Proofs.Ytibnakpefjjoiaa.Own
set_option linter.unusedVariables false
set_option linter.unusedSimpArgs false
attribute [local go_sem ↓] Go.wp_at_zero Go.wp_at_succ

/-- A flat file: its name, the place of its bytes, how many are synced. -/
abbrev FH := ByteArray × Hd × Int
abbrev kF : Kd FH := Kd.pair Kd.string (Kd.pair kH kI)
abbrev cellsF (x : FH) : List Value := [.string x.1, .slice x.2.1.1 x.2.1.2.1 x.2.1.2.2, .int .i64 x.2.2]
theorem kF_open {w : World} {x : FH} {cs : List Value} (h : kF.K w x cs) : cs = cellsF x := by
  obtain ⟨_, _, rfl, rfl, ⟨_, _, rfl, rfl, rfl⟩⟩ := h
  rfl
theorem kF_mk (w : World) (x : FH) : kF.K w x (cellsF x) := ⟨[.string x.1], [.slice x.2.1.1 x.2.1.2.1 x.2.1.2.2, .int .i64 x.2.2], rfl, rfl, ⟨[.slice x.2.1.1 x.2.1.2.1 x.2.1.2.2], [.int .i64 x.2.2], rfl, rfl, rfl⟩⟩
theorem kF_KM {W : World} (x : FH) (cs : List Value) (h : kF.K W x cs) : kF.M W 0 (fun _ => False) x cs := by
  obtain ⟨c0, _, rfl, h0, ⟨c1, c2, rfl, h1, h2⟩⟩ := h
  exact ⟨c0, _, rfl, h0, ⟨c1, c2, rfl, h1, h2⟩⟩
theorem at_F {w : World} {A : Option Addr} {n : Nat} {l : List FH} (h : Kd.C kF w A n l) (i : Nat) {x : FH} (hx : l[i]? = some x) : ∃ ad, A = some ad ∧ w.cell? (ad.add (i * 3)) = some (.string x.1) ∧ w.cell? ⟨(ad.add (i * 3)).block, (ad.add (i * 3)).off + 1, none⟩ = some (.slice x.2.1.1 x.2.1.2.1 x.2.1.2.2) ∧ w.cell? ⟨(ad.add (i * 3)).block, (ad.add (i * 3)).off + 2, none⟩ = some (.int .i64 x.2.2) := by
  have hi : i < l.length := by
    rcases Nat.lt_or_ge i l.length with q | q
    · exact q
    · rw [List.getElem?_eq_none q] at hx
      cases hx
  have hn := Kd.C_len h
  obtain ⟨ad, c, e, _, hK, hc0⟩ := Kd.C_get h x (i : Int) (by omega) (by omega)
  rw [Int.toNat_natCast, List.getD_eq_getElem?_getD, hx] at hK
  rw [Int.toNat_natCast] at hc0
  have hc : ∀ j u, c[j]? = some u → w.cell? (ad.add (i * 3 + j)) = some u := hc0
  have hK' := kF_open hK
  subst hK'
  exact ⟨ad, e, hc 0 _ rfl, by rw [← add_field _ _ 1 (by omega)]; exact hc 1 _ rfl, by rw [← add_field _ _ 2 (by omega)]; exact hc 2 _ rfl⟩
abbrev refB (q : Nat) (v : Value) (left acts : Int) : Th := boxT q #[v, .int .i64 left, .int .i64 acts] 80
abbrev rowF (v : Value) (fs : List FH) : Th := rowT kF 56 v fs
/-- The flat files are these files, whose bytes lie among the things. -/
def FsOk (L : List SF) (fs : List FH) (Ts : List Th) : Prop := fs.length = L.length ∧ ∀ i (h : i < L.length), ∃ A c, fs[i]? = some ((L[i]).f0, (A, (L[i]).f1.length, c), (L[i]).f2) ∧ rowB (.slice A (L[i]).f1.length c) (L[i]).f1 ∈ Ts
theorem fs_none (Ts : List Th) : FsOk [] [] Ts := ⟨rfl, fun i h => absurd h (Nat.not_lt_zero _)⟩
theorem FsOk.more {L : List SF} {fs : List FH} {Ts Us : List Th} (h : FsOk L fs Ts) (hu : ∀ T ∈ Ts, T ∈ Us) : FsOk L fs Us := ⟨h.1, fun i hi => by
  obtain ⟨A, c, e, hm⟩ := h.2 i hi
  exact ⟨A, c, e, hu _ hm⟩⟩
theorem ref_cells {B : Nat} {w : World} {q : Nat} {v : Value} {left acts : Int} {Ts : List Th} (h : Has B w Ts) (hm : refB q v left acts ∈ Ts) : w.cell? ⟨q, 0, none⟩ = some v ∧ w.cell? ⟨q, 1, none⟩ = some (.int .i64 left) ∧ w.cell? ⟨q, 2, none⟩ = some (.int .i64 acts) ∧ ∀ i, w.frozen? ⟨q, i, none⟩ = false := by
  obtain ⟨h1, h2, _, _⟩ := h.box_cell hm
  exact ⟨h1 0, h1 1, h1 2, h2⟩
set_option maxHeartbeats 1000000 in
set_option maxRecDepth 100000 in
theorem rnew_calls {B : Nat} {w : World} {Ts : List Th} (h : Has B w Ts) :
    Calls Try.prog 25 #[] w fun e w' => ∃ q, e = .returned (ptr q) ∧ Has B w' (refB q (.slice none 0 0) (-1) 0 :: rowF (.slice none 0 0) [] :: Ts) ∧ Below B w w' := by
  have hA := (h.row (Below.refl _ _) (Kd.R_nil kF 56 _ _ _)).box #[.slice none 0 0, .int .i64 (-1), .int .i64 0] 80
  have HA := Aside0.mk hA
  have HB : Aside0 (Below B w (w.alloc (.cells #[.slice none 0 0, .int .i64 (-1), .int .i64 0] 80))) := ⟨(Below.refl B w).alloc h.size _⟩
  clear h hA
  go_enter Try.func25, Try.ntmps25
  go_wp2_with fail
  go_ret
  exact ⟨_, rfl, HA.out, HB.out⟩
set_option maxRecDepth 100000 in
theorem rdead_calls {B : Nat} {w : World} {q : Nat} {v : Value} {left acts : Int} {Ts : List Th} (h : Has B w Ts) (hm : refB q v left acts ∈ Ts) :
    Calls Try.prog 44 #[ptr q] w fun e w' => e = .returned (.bool (left == 0)) ∧ w = w' := by
  obtain ⟨c0, c1, c2, cf⟩ := ref_cells h hm
  clear h hm cf
  go_enter Try.func44, Try.ntmps44
  go_wp2_with fail
  go_ret
  exact ⟨rfl, rfl⟩
/-- The place of a name; below 0: there is none. -/
def findI (L : List SF) (n : List UInt8) : Option Nat := L.findIdx? fun x => nameL x == n
def findZ (L : List SF) (n : List UInt8) : Int := match findI L n with | none => -1 | some i => (i : Int)
theorem find_same (L : List SF) (n : List UInt8) : findF L n = (findI L n).bind fun i => L[i]? := by
  unfold findF findI
  induction L with
  | nil => rfl
  | cons x L ih =>
    rw [List.find?_cons, List.findIdx?_cons]
    cases hx : (nameL x == n) with
    | true => simp
    | false =>
      simp only [Bool.false_eq_true, if_false]
      rw [ih]
      cases hf : L.findIdx? fun x => nameL x == n with
      | none => rfl
      | some i => simp
theorem find_skip {L : List SF} {n : List UInt8} {k : Nat} (h : ∀ i (hi : i < L.length), i < k → nameL L[i] ≠ n) (hk : k < L.length) (e : nameL L[k] = n) : findI L n = some k := by
  unfold findI
  rw [List.findIdx?_eq_some_iff_getElem]
  refine ⟨hk, by simp [e], fun j hj => ?_⟩
  have := h j (by omega) hj
  simp [this]
theorem find_no {L : List SF} {n : List UInt8} (h : ∀ i (hi : i < L.length), nameL L[i] ≠ n) : findI L n = none := by
  unfold findI
  rw [List.findIdx?_eq_none_iff]
  intro x hx
  obtain ⟨i, hi, rfl⟩ := List.getElem_of_mem hx
  simp [h i hi]
theorem name_iff (x : SF) (s : ByteArray) : x.f0 = s ↔ nameL x = s.data.toList := ⟨fun e => by rw [← e]; rfl, fun e => ByteArray.ext (Array.ext' e)⟩
theorem str_ne {a b : ByteArray} (h : ¬ a = b) : (a.toList == b.toList) = false := by
  rw [ByteArray.toList_eq, ByteArray.toList_eq]
  exact beq_eq_false_iff_ne.2 fun e => h (ByteArray.ext (Array.ext' e))
set_option maxHeartbeats 2000000 in
set_option maxRecDepth 100000 in
theorem rfind_calls {B : Nat} {w : World} {q : Nat} {v : Value} {left acts : Int} {L : List SF} {fs : List FH} {Ts Us : List Th} (h : Has B w Ts) (hm : refB q v left acts ∈ Ts) (hr : rowF v fs ∈ Ts) (hf : FsOk L fs Us) (hL : L.length ≤ 1000) (s : ByteArray) :
    Calls Try.prog 53 #[ptr q, .string s] w fun e w' => e = .returned (.int .i64 (findZ L s.data.toList)) ∧ w = w' := by
  obtain ⟨c0, c1, c2, cf⟩ := ref_cells h hm
  obtain ⟨A, c, rfl, hc, hC⟩ := h.reads (d := kF) (e := 56) (v := v) (xs := fs) hr
  have HC := Aside0.mk hC
  have HF := Aside0.mk hf
  have hfl := hf.1
  rw [hfl] at c0
  clear h hm hr hf hC cf c1 c2 hc
  go_enter Try.func53, Try.ntmps53
  go_wp2_with fail
  go_loopw [5] (fun i wr => ∃ k : Nat, i = .int .i64 k ∧ k ≤ L.length ∧ Aside0 (∀ i (hi : i < L.length), i < k → nameL L[i] ≠ s.data.toList) ∧ Aside0 (w = wr)) (fun i _ => L.length - (intOf i).toNat)
  case atStart => exact ⟨0, rfl, by omega, ⟨fun i _ h => absurd h (Nat.not_lt_zero _)⟩, ⟨rfl⟩⟩
  case round =>
    obtain ⟨k, rfl, hk, HN, ⟨rfl⟩⟩ := hrel
    by_cases hlt : k < L.length
    · have d1 : decide ((k : Int) < (L.length : Int)) = true := decide_eq_true (by omega)
      have d2 : decide (0 ≤ (k : Int)) = true := decide_eq_true (by omega)
      have ek : wrap64 ((k : Int) + 1) = ((k + 1 : Nat) : Int) := wrap_nat (by omega)
      obtain ⟨A', c', hx, -⟩ := HF.out.2 k hlt
      obtain ⟨ad, rfl, q0, -, -⟩ := at_F HC.out k hx
      dsimp only at q0
      by_cases hs : (L[k]).f0 = s
      · have hz : findZ L s.data.toList = (k : Int) := by
          unfold findZ
          rw [find_skip HN.out hlt ((name_iff _ _).1 hs)]
        rw [hs] at q0
        clear hs hx
        go_wp2_with fail
        go_ret
        exact ⟨by rw [hz]; rfl, rfl⟩
      · have d3 : ((L[k]).f0.toList == s.toList) = false := str_ne hs
        have HN2 : Aside0 (∀ i (hi : i < L.length), i < k + 1 → nameL L[i] ≠ s.data.toList) := ⟨fun i hi hik => by
          by_cases hkk : i = k
          · subst hkk
            exact fun e => hs ((name_iff _ _).2 e)
          · exact HN.out i hi (by omega)⟩
        generalize (L[k]).f0 = s2 at q0 hs d3
        clear hx hs
        go_wp2_with fail
        go_roundw
        case rel => exact ⟨k + 1, by first | rfl | rw [ek], by omega, HN2, ⟨trivial⟩⟩
        case measure => first | (simp [intOf]; omega) | (rw [ek]; simp [intOf]; omega)
    · have d1 : decide ((k : Int) < (L.length : Int)) = false := decide_eq_false (by omega)
      have hz : findZ L s.data.toList = -1 := by
        unfold findZ
        rw [find_no fun i hi => HN.out i hi (by omega)]
      go_wp2_with fail
      go_ret
      exact ⟨by rw [hz]; rfl, rfl⟩
end Go.Proofs.Ytibnakpefjjoiaa.Fs
namespace Go.Proofs.Ytibnakpefjjoiaa.Fs
open Go.RowKit Go.Proofs.YtibnakpefjjoiaaW.PrintWords Go.Proofs.YtibnakpefjjoiaaW.PrintLast Go.Proofs.YtibnakpefjjoiaaW.PrintMore Go.Proofs.Ytibnakpefjjoiaa.Q Go.Proofs.Ytibnakpefjjoiaa.Own
set_option linter.unusedVariables false
set_option linter.unusedSimpArgs false
attribute [local go_sem ↓] Go.wp_at_zero Go.wp_at_succ

theorem find_z {L : List SF} {n : List UInt8} : (findZ L n < 0 ↔ findF L n = none) ∧ ∀ x, findF L n = some x → ∃ i : Nat, findZ L n = (i : Int) ∧ L[i]? = some x := by
  rw [find_same]
  unfold findZ
  cases h : findI L n with
  | none => exact ⟨⟨fun _ => rfl, fun _ => by show (-1 : Int) < 0; omega⟩, fun x hx => by cases hx⟩
  | some i =>
    have hi : i < L.length := by
      unfold findI at h
      obtain ⟨hi, _⟩ := List.findIdx?_eq_some_iff_getElem.1 h
      exact hi
    refine ⟨⟨fun q => ?_, fun q => ?_⟩, fun x hx => ⟨i, rfl, hx⟩⟩
    · exact absurd q (by show ¬ ((i : Int) < 0); omega)
    · rw [Option.bind_some, List.getElem?_eq_getElem hi] at q
      cases q
set_option maxHeartbeats 1000000 in
set_option maxRecDepth 100000 in
theorem rrefuse_calls {B : Nat} {w : World} {q : Nat} {v : Value} {st : Stt} {fs : List FH} {Ts Us : List Th} (h : Has B w Ts) (hm : refB q v st.left st.acts ∈ Ts) (hr : rowF v fs ∈ Ts) (hf : FsOk st.L fs Us) (hL : st.L.length ≤ 1000) (s : ByteArray) :
    Calls Try.prog 52 #[ptr q, .string s] w fun e w' => e = .returned (.int .i64 (toldE st s)) ∧ w = w' := by
  have HD := Aside0.mk (rdead_calls h hm)
  have HFI := Aside0.mk (rfind_calls h hm hr hf hL s)
  have HZ := Aside0.mk (find_z (L := st.L) (n := s.data.toList)).1
  clear h hm hr hf
  by_cases hl : st.left = 0
  · have e0 : toldE st s = 30 := by unfold toldE; rw [if_pos hl]
    rw [show (st.left == 0) = true from beq_iff_eq.2 hl] at HD
    rw [e0]
    clear hl e0
    go_enter Try.func52, Try.ntmps52
    go_wp2_with fail
    refine HD.out.mono ?_
    rintro e w1 ⟨rfl, rfl⟩
    go_wp2_with fail
    go_ret
    exact ⟨rfl, rfl⟩
  · rw [show (st.left == 0) = false from beq_eq_false_iff_ne.2 hl] at HD
    by_cases hn : findF st.L s.data.toList = none
    · have e0 : toldE st s = 31 := by unfold toldE; rw [if_neg hl, hn]
      have hz := HZ.out.2 hn
      rw [e0]
      clear hl e0 hn HZ
      generalize findZ st.L s.data.toList = z at HFI hz
      have d1 : decide (z < 0) = true := decide_eq_true hz
      go_enter Try.func52, Try.ntmps52
      go_wp2_with fail
      refine HD.out.mono ?_
      rintro e w1 ⟨rfl, rfl⟩
      go_wp2_with fail
      refine HFI.out.mono ?_
      rintro e w1 ⟨rfl, rfl⟩
      go_wp2_with fail
      go_ret
      exact ⟨rfl, rfl⟩
    · have e0 : toldE st s = 0 := by
        unfold toldE
        rw [if_neg hl]
        cases hx : findF st.L s.data.toList with
        | none => exact absurd hx hn
        | some x => rfl
      have hz : ¬ findZ st.L s.data.toList < 0 := fun q => hn (HZ.out.1 q)
      rw [e0]
      clear hl e0 hn HZ
      generalize findZ st.L s.data.toList = z at HFI hz
      have d1 : decide (z < 0) = false := decide_eq_false hz
      go_enter Try.func52, Try.ntmps52
      go_wp2_with fail
      refine HD.out.mono ?_
      rintro e w1 ⟨rfl, rfl⟩
      go_wp2_with fail
      refine HFI.out.mono ?_
      rintro e w1 ⟨rfl, rfl⟩
      go_wp2_with fail
      go_ret
      exact ⟨rfl, rfl⟩
theorem ref_set {B : Nat} {w : World} {q : Nat} {v : Value} {left acts : Int} {Ts : List Th} (h : Has B w (refB q v left acts :: Ts)) :
    (∀ v', Has B (w.setCell ⟨q, 0, none⟩ v') (refB q v' left acts :: Ts) ∧ Below B w (w.setCell ⟨q, 0, none⟩ v')) ∧ (∀ z : Int, Has B (w.setCell ⟨q, 1, none⟩ (.int .i64 z)) (refB q v z acts :: Ts) ∧ Below B w (w.setCell ⟨q, 1, none⟩ (.int .i64 z))) ∧ ∀ z : Int, Has B (w.setCell ⟨q, 2, none⟩ (.int .i64 z)) (refB q v left z :: Ts) ∧ Below B w (w.setCell ⟨q, 2, none⟩ (.int .i64 z)) := by
  refine ⟨fun v' => ?_, fun z => ?_, fun z => ?_⟩
  · exact h.box_set 0 v'
  · exact h.box_set 1 (.int .i64 z)
  · exact h.box_set 2 (.int .i64 z)
set_option maxHeartbeats 1000000 in
set_option maxRecDepth 100000 in
theorem ract_calls {B : Nat} {w : World} {q : Nat} {v : Value} {left acts : Int} {Ts : List Th} (h : Has B w (refB q v left acts :: Ts)) (h0 : 0 ≤ acts) (h1 : acts < 1000000) (h2 : -1 ≤ left) (h3 : left ≤ 9223372036854775807) :
    Calls Try.prog 59 #[ptr q] w fun e w' => e = .returned (.int .i64 0) ∧ Has B w' (refB q v (leftF left) (acts + 1) :: Ts) ∧ Below B w w' := by
  obtain ⟨c0, c1, c2, cf⟩ := ref_cells h (List.mem_cons_self ..)
  obtain ⟨hA1, hB1⟩ := (ref_set h).2.2 (acts + 1)
  obtain ⟨e0, e1, e2, ef⟩ := ref_cells hA1 (List.mem_cons_self ..)
  obtain ⟨hA2, hB2⟩ := (ref_set hA1).2.1 (left - 1)
  have HA1 := Aside0.mk hA1
  have HA2 := Aside0.mk hA2
  have HB1 := Aside0.mk hB1
  have HB2 := Aside0.mk (hB1.trans hB2)
  have f2 := cf 2
  have g1 := ef 1
  clear h hA1 hB1 hA2 hB2 cf ef
  by_cases hl : left > 0
  · have el : leftF left = left - 1 := by unfold leftF; rw [if_pos hl]
    have d1 : decide (left > 0) = true := decide_eq_true hl
    rw [el]
    clear el
    go_enter Try.func59, Try.ntmps59
    go_wp2_with fail
    go_ret
    exact ⟨rfl, HA2.out, HB2.out⟩
  · have el : leftF left = left := by unfold leftF; rw [if_neg hl]
    have d1 : decide (left > 0) = false := decide_eq_false hl
    have d2 : ¬ 0 < left := hl
    rw [el]
    clear el
    go_enter Try.func59, Try.ntmps59
    go_wp2_with fail
    go_ret
    exact ⟨rfl, HA1.out, HB1.out⟩
theorem inf56 : (Try.prog.info? 56).map (fun i => (i.zero, i.size, i.bytes)) = some (some (.agg #[.string ⟨#[]⟩, .slice none 0 0, .int .i64 0]), 3, 48) := by kernel_rfl
theorem lit_F (w : World) (x : FH) : Kd.C kF (w.alloc (.cells #[.string x.1, .slice x.2.1.1 x.2.1.2.1 x.2.1.2.2, .int .i64 x.2.2] 56)) (some ⟨w.heap.size, 0, none⟩) [x].length [x] := by
  have hr : Reps (kF.K (w.alloc (.cells #[.string x.1, .slice x.2.1.1 x.2.1.2.1 x.2.1.2.2, .int .i64 x.2.2] 56))) kF.sz [x] (cellsF x) := by
    have := Reps.snoc (Reps.none (kF.K (w.alloc (.cells #[.string x.1, .slice x.2.1.1 x.2.1.2.1 x.2.1.2.2, .int .i64 x.2.2] 56))) kF.sz) (kF_mk _ x) rfl
    simpa using this
  obtain ⟨A, c, e, _, h⟩ := OwnRow.reads (OwnRow.lit (e := 56) w 0 hr (Nat.zero_le _) (show 1 ≤ 9223372036854775807 by omega))
  injection e with e1 e2 e3
  subst e1
  exact h
end Go.Proofs.Ytibnakpefjjoiaa.Fs
namespace Go.Proofs.Ytibnakpefjjoiaa.Fs
open Go.RowKit Go.Proofs.YtibnakpefjjoiaaW.PrintWords Go.Proofs.YtibnakpefjjoiaaW.PrintLast Go.Proofs.YtibnakpefjjoiaaW.PrintMore Go.Proofs.Ytibnakpefjjoiaa.Q Go.Proofs.Ytibnakpefjjoiaa.Own
set_option linter.unusedVariables false
set_option linter.unusedSimpArgs false
attribute [local go_sem ↓] Go.wp_at_zero Go.wp_at_succ

theorem FsOk.push {L : List SF} {fs : List FH} {Ts : List Th} (h : FsOk L fs Ts) {x : SF} {A : Option Addr} {c : Nat} (hm : rowB (.slice A x.f1.length c) x.f1 ∈ Ts) : FsOk (L ++ [x]) (fs ++ [(x.f0, (A, x.f1.length, c), x.f2)]) Ts := by
  obtain ⟨h1, h2⟩ := h
  refine ⟨by rw [List.length_append, List.length_append, h1]; rfl, fun i hi => ?_⟩
  by_cases hil : i < L.length
  · rw [List.getElem_append_left hil]
    obtain ⟨A', c', e, hm'⟩ := h2 i hil
    exact ⟨A', c', by rw [List.getElem?_append_left (by omega)]; exact e, hm'⟩
  · have : i = L.length := by
      rw [List.length_append, List.length_singleton] at hi
      omega
    subst this
    have e : (L ++ [x])[L.length] = x := by simp
    rw [e]
    exact ⟨A, c, by rw [← h1, List.getElem?_append_right (Nat.le_refl _), Nat.sub_self]; rfl, hm⟩
theorem cut_take (L : List SF) (n : List UInt8) {k : Nat} (hk : k < L.length) : cutF (L.take (k + 1)) n = cutF (L.take k) n ++ (if nameL L[k] = n then [] else [L[k]]) := by
  unfold cutF
  rw [List.take_succ_eq_append_getElem hk, List.filter_append]
  congr 1
  by_cases h : nameL L[k] = n
  · rw [if_pos h, List.filter_cons, if_neg (by simp [h])]
    rfl
  · rw [if_neg h, List.filter_cons, if_pos (by simp [h])]
    rfl
/-- What the document's store is behind a call that tells nothing. -/
def RefPost (B : Nat) (w : World) (q : Nat) (left acts : Int) (L : List SF) (Ts Us : List Th) (r : Value) (e : Ending) (w' : World) : Prop := ∃ v fs, e = .returned r ∧ Has B w' (refB q v left acts :: rowF v fs :: Ts) ∧ FsOk L fs Us ∧ Below B w w'
set_option maxHeartbeats 4000000 in
set_option maxRecDepth 100000 in
theorem rcut_calls {B : Nat} {w : World} {q : Nat} {v : Value} {left acts : Int} {L : List SF} {fs : List FH} {Ts Us : List Th} (h : Has B w (refB q v left acts :: rowF v fs :: Ts)) (hf : FsOk L fs Us) (hL : L.length ≤ 1000) (s : ByteArray) :
    Calls Try.prog 60 #[ptr q, .string s] w (RefPost B w q left acts (cutF L s.data.toList) Ts Us (.tuple #[])) := by
  have hu56 := Try.underlying56
  have HF := Aside0.mk hf
  have hfl := hf.1
  obtain ⟨A, c, rfl, -, -⟩ := h.reads (d := kF) (e := 56) (v := v) (xs := fs) (by simp)
  have HA0 := Aside0.mk (h.row (Below.refl _ _) (Kd.R_nil kF 56 _ _ _))
  have HB0 : Aside0 (Below B w w) := ⟨Below.refl _ _⟩
  rw [hfl] at HA0
  clear h hf
  go_enter Try.func60, Try.ntmps60
  go_wp2_with fail
  go_loopw [5, 4] (fun i u wr => ∃ (k : Nat) (fs1 : List FH), i = .int .i64 k ∧ k ≤ L.length ∧ Aside0 (FsOk (cutF (L.take k) s.data.toList) fs1 Us) ∧ Aside0 (Has B wr (rowF u fs1 :: refB q (.slice A L.length c) left acts :: rowF (.slice A L.length c) fs :: Ts)) ∧ Aside0 (Below B w wr)) (fun i _ _ => L.length - (intOf i).toNat)
  case atStart => exact ⟨0, [], rfl, by omega, ⟨fs_none _⟩, HA0, HB0⟩
  case round =>
    clear HA0 HB0
    obtain ⟨k, fs1, rfl, hk, HF1, HA, HB⟩ := hrel
    obtain ⟨c0, -, -, -⟩ := ref_cells HA.out (q := q) (v := .slice A L.length c) (left := left) (acts := acts) (by simp)
    by_cases hlt : k < L.length
    · have d1 : decide ((k : Int) < (L.length : Int)) = true := decide_eq_true (by omega)
      have d2 : decide (0 ≤ (k : Int)) = true := decide_eq_true (by omega)
      have ek : wrap64 ((k : Int) + 1) = ((k + 1 : Nat) : Int) := wrap_nat (by omega)
      have hct := cut_take L s.data.toList hlt
      obtain ⟨A', c', hx, hmem⟩ := HF.out.2 k hlt
      obtain ⟨_, _, ev, -, hC⟩ := HA.out.reads (d := kF) (e := 56) (v := .slice A L.length c) (xs := fs) (by simp)
      obtain ⟨rfl, -, rfl⟩ : A = _ ∧ _ ∧ c = _ := by injection ev with e1 e2 e3; exact ⟨e1, e2, e3⟩
      obtain ⟨ad, rfl, q0, q1, q2⟩ := at_F hC k hx
      dsimp only at q0 q1 q2
      have hcl : (cutF (L.take k) s.data.toList).length ≤ k := Nat.le_trans (cut_le _ _) (by rw [List.length_take]; omega)
      have hl1 : fs1.length ≤ k := by rw [HF1.out.1]; exact hcl
      have hnm := name_iff L[k] s
      clear ev hC hx hcl
      generalize L[k] = x at q0 q1 q2 hct hmem hnm
      obtain ⟨x0, x1, x2⟩ := x
      dsimp only at q0 q1 q2 hmem hnm
      by_cases hs : x0 = s
      · rw [if_pos (hnm.1 hs), List.append_nil] at hct
        have HF2 : Aside0 (FsOk (cutF (L.take (k + 1)) s.data.toList) fs1 Us) := ⟨by rw [hct]; exact HF1.out⟩
        rw [hs] at q0
        clear hs hct hnm HF1 hmem
        go_wp2_with fail
        go_roundw
        case rel => exact ⟨k + 1, fs1, by first | rfl | rw [ek], by omega, HF2, HA, HB⟩
        case measure => first | (simp [intOf]; omega) | (rw [ek]; simp [intOf]; omega)
      · rw [if_neg (fun e => hs (hnm.2 e))] at hct
        have d3 : (x0.toList == s.toList) = false := str_ne hs
        have d4 : (x0.toList != s.toList) = true := by unfold bne; rw [d3]; rfl
        have HF2 : Aside0 (FsOk (cutF (L.take (k + 1)) s.data.toList) (fs1 ++ [(x0, (A', x1.length, c'), x2)]) Us) := ⟨by rw [hct]; exact HF1.out.push hmem⟩
        clear hs hct hnm HF1 hmem
        go_wp2_with (refine app_rows kF (HA.out.alloc (.cells #[.string x0, .slice A' x1.length c', .int .i64 x2] 56)) rfl _ _ 78 (.agg #[.string ⟨#[]⟩, .slice none 0 0, .int .i64 0]) 48 rfl Try.underlying78 inf56 rfl (by decide) (by decide) (some ⟨wr.heap.size, 0, none⟩) 1 rfl rfl (lit_F wr (x0, (A', x1.length, c'), x2)) kF_KM (by show (fs1.length + 1) * 48 ≤ 140737488355328; omega) ?_; rintro v7 w7 hA7 hB7; have HA7 := Aside0.mk hA7; have HB7 := Aside0.mk ((HB.out.alloc HA.out.size (.cells #[.string x0, .slice A' x1.length c', .int .i64 x2] 56)).trans hB7); clear hA7 hB7)
        go_roundw
        case rel => exact ⟨k + 1, _, by first | rfl | rw [ek], by omega, HF2, HA7, HB7⟩
        case measure => first | (simp [intOf]; omega) | (rw [ek]; simp [intOf]; omega)
    · have d1 : decide ((k : Int) < (L.length : Int)) = false := decide_eq_false (by omega)
      obtain rfl : k = L.length := by omega
      rw [List.take_length] at HF1
      have cf := (ref_cells HA.out (q := q) (v := .slice A L.length c) (left := left) (acts := acts) (by simp)).2.2.2 0
      obtain ⟨A4, c4, rfl, -, -⟩ := HA.out.reads (d := kF) (e := 56) (v := u4) (xs := fs1) (by simp)
      obtain ⟨hA, hB⟩ := (ref_set HA.out.swap).1 (.slice A4 fs1.length c4)
      have HA9 := Aside0.mk hA.third.tail
      have HB9 := Aside0.mk (HB.out.trans hB)
      clear hA hB HA HB
      go_wp2_with fail
      go_end0
      exact ⟨_, _, rfl, HA9.out, HF1.out, HB9.out⟩
end Go.Proofs.Ytibnakpefjjoiaa.Fs
namespace Go.Proofs.Ytibnakpefjjoiaa.Fs
open Go.RowKit Go.Proofs.YtibnakpefjjoiaaW.PrintWords Go.Proofs.YtibnakpefjjoiaaW.PrintLast Go.Proofs.YtibnakpefjjoiaaW.PrintMore Go.Proofs.Ytibnakpefjjoiaa.Q Go.Proofs.Ytibnakpefjjoiaa.Own
set_option linter.unusedVariables false
set_option linter.unusedSimpArgs false
attribute [local go_sem ↓] Go.wp_at_zero Go.wp_at_succ
attribute [local go_sem] Opn.str_leq Opn.str_gtr Opn.str_geq

/-- Where a file is put. -/
structure InsAt (L : List SF) (x : SF) (m : Nat) : Prop where
  le : m ≤ L.length
  len : (insF L x).length = L.length + 1
  low : ∀ i, i < m → (insF L x)[i]? = L[i]?
  here : (insF L x)[m]? = some x
  high : ∀ i, m ≤ i → (insF L x)[i + 1]? = L[i]?
  less : ∀ i (h : i < L.length), i < m → ¬ nameL x < nameL L[i]
  more : ∀ i (h : i < L.length), m ≤ i → nameL x < nameL L[i]
theorem ins_at : ∀ {L : List SF} (x : SF), Rise L → ∃ m, InsAt L x m
  | [], x, _ => ⟨0, Nat.le_refl _, rfl, fun i h => absurd h (Nat.not_lt_zero _), rfl, fun i _ => by show [x][i + 1]? = ([] : List SF)[i]?; simp, fun i h => absurd h (Nat.not_lt_zero _), fun i h => absurd h (Nat.not_lt_zero _)⟩
  | y :: L, x, hr => by
    obtain ⟨h1, h2⟩ := List.pairwise_cons.1 hr
    by_cases hy : nameL x < nameL y
    · have e : insF (y :: L) x = x :: y :: L := by
        show (if nameL x < nameL y then _ else _) = _
        rw [if_pos hy]
      refine ⟨0, Nat.zero_le _, by rw [e]; rfl, fun i h => absurd h (Nat.not_lt_zero _), by rw [e]; rfl, fun i _ => by rw [e]; rfl, fun i _ h => absurd h (Nat.not_lt_zero _), fun i hi _ => ?_⟩
      cases i with
      | zero => exact hy
      | succ i => exact List.lt_trans hy (h1 _ (List.getElem_mem _))
    · have e : insF (y :: L) x = y :: insF L x := by
        show (if nameL x < nameL y then _ else _) = _
        rw [if_neg hy]
      obtain ⟨m, g1, g2, g3, g4, g5, g6, g7⟩ := ins_at x h2
      refine ⟨m + 1, by rw [List.length_cons]; omega, by rw [e, List.length_cons, List.length_cons, g2], fun i hi => ?_, by rw [e]; exact g4, fun i hi => ?_, fun i hi him => ?_, fun i hi him => ?_⟩
      · rw [e]
        cases i with
        | zero => rfl
        | succ i => exact g3 i (by omega)
      · rw [e]
        cases i with
        | zero => omega
        | succ i => exact g5 i (by omega)
      · cases i with
        | zero => exact hy
        | succ i => exact g6 i (by simpa using hi) (by omega)
      · cases i with
        | zero => omega
        | succ i => exact g7 i (by simpa using hi) (by omega)
theorem take_push {α : Type} {K : List α} {j : Nat} {y : α} (h : K[j]? = some y) : K.take (j + 1) = K.take j ++ [y] := by
  obtain ⟨hj, e⟩ := List.getElem?_eq_some_iff.1 h
  rw [List.take_succ_eq_append_getElem hj, e]
/-- What is there of the new row at round k. -/
def putL (K : List SF) (m k : Nat) : List SF := if m < k then K.take (k + 1) else K.take k
theorem str_less (a b : ByteArray) : Op.bytesLess a.toList b.toList = decide (a.data.toList < b.data.toList) := by
  rw [ByteArray.toList_eq, ByteArray.toList_eq, bytesLess_eq]
theorem put_ref {B : Nat} {w : World} {q b : Nat} {v : Value} {left acts : Int} {fs gs : List FH} {u : Value} {cs : Array Value} {Ts : List Th} (h : Has B w (rowF u gs :: refB q v left acts :: rowF v fs :: boxT b cs 56 :: Ts)) {ad : Addr} {n c k : Nat} (hv : v = .slice (some ad) n c) {y : FH} (hy : fs[k]? = some y) :
    w.cell? ⟨q, 0, none⟩ = some v ∧ (∀ i, w.cell? ⟨b, i, none⟩ = cs[i]?) ∧ w.cell? (ad.add (k * 3)) = some (.string y.1) ∧ w.cell? ⟨(ad.add (k * 3)).block, (ad.add (k * 3)).off + 1, none⟩ = some (.slice y.2.1.1 y.2.1.2.1 y.2.1.2.2) ∧ w.cell? ⟨(ad.add (k * 3)).block, (ad.add (k * 3)).off + 2, none⟩ = some (.int .i64 y.2.2) := by
  obtain ⟨c0, -, -, -⟩ := ref_cells h (q := q) (v := v) (left := left) (acts := acts) (by simp)
  obtain ⟨bx, -, -, -⟩ := h.box_cell (b := b) (cs := cs) (t := 56) (by simp)
  obtain ⟨A, c', ev, -, hC⟩ := h.reads (d := kF) (e := 56) (v := v) (xs := fs) (by simp)
  obtain ⟨ad', e, q0, q1, q2⟩ := at_F hC k hy
  subst e
  rw [hv] at ev
  injection ev with e1 e2 e3
  injection e1 with e1
  subst e1
  exact ⟨c0, bx, q0, q1, q2⟩
set_option maxHeartbeats 8000000 in
set_option maxRecDepth 100000 in
theorem rput_calls {B : Nat} {w : World} {q : Nat} {v : Value} {left acts : Int} {L : List SF} {fs : List FH} {Ts Us : List Th} (h : Has B w (refB q v left acts :: rowF v fs :: Ts)) (hf : FsOk L fs Us) (hr : Rise L) (hL : L.length ≤ 1000) {x : SF} {A : Option Addr} {c : Nat} (hm : rowB (.slice A x.f1.length c) x.f1 ∈ Us) :
    Calls Try.prog 58 #[ptr q, .agg #[.string x.f0, .slice A x.f1.length c, .int .i64 x.f2]] w (RefPost B w q left acts (setF L x) Ts Us (.tuple #[])) := by
  have hu56 := Try.underlying56
  have hle := cut_le L (nameL x)
  have hset : setF L x = insF (cutF L (nameL x)) x := rfl
  obtain ⟨m, hins⟩ := ins_at x (cut_rise hr (nameL x))
  rw [hset]
  obtain ⟨x0, x1, x2⟩ := x
  dsimp only at hm ⊢
  have h1 := (h.box #[.string x0, .slice A x1.length c, .int .i64 x2] 56).back3
  have HCUT := Aside0.mk (rcut_calls h1 hf hL x0)
  have HB1 : Aside0 (Below B w (w.alloc (.cells #[.string x0, .slice A x1.length c, .int .i64 x2] 56))) := ⟨(Below.refl B w).alloc h.size _⟩
  rw [show x0.data.toList = nameL ⟨x0, x1, x2⟩ from rfl] at HCUT
  have HI := Aside0.mk hins
  have HXN : Aside0 (nameL ⟨x0, x1, x2⟩ = x0.data.toList) := ⟨rfl⟩
  have HM := Aside0.mk hm
  clear h h1 hf hr hins hset hm
  generalize hL1 : cutF L (nameL ⟨x0, x1, x2⟩) = L1 at HCUT HI hle ⊢
  generalize hI : insF L1 ⟨x0, x1, x2⟩ = I
  have HII := Aside0.mk hI
  clear hL1 hI
  generalize nameL ⟨x0, x1, x2⟩ = xn at HXN
  go_enter Try.func58, Try.ntmps58
  go_wp2_with fail
  refine HCUT.out.mono ?_
  rintro e w2 ⟨v1, fs1, rfl, hA, hf1, hB⟩
  obtain ⟨A1, c1, rfl, -, -⟩ := hA.reads (d := kF) (e := 56) (v := v1) (xs := fs1) (by simp)
  have HF1 := Aside0.mk hf1
  have hfl := hf1.1
  rw [hfl] at hA
  have HA2 := Aside0.mk (hA.row (Below.refl _ _) (Kd.R_nil kF 56 _ _ _))
  have HB2 := Aside0.mk (HB1.out.trans hB)
  clear hA hB hf1 HCUT HB1
  generalize w.heap.size = b at HA2 ⊢
  go_wp2_with fail
  go_loopw [6, 5, 4] (fun i d u wr => ∃ (k : Nat) (gs : List FH), i = .int .i64 k ∧ d = .bool (decide (m < k)) ∧ k ≤ L1.length ∧ Aside0 (FsOk (putL I m k) gs Us) ∧ Aside0 (Has B wr (rowF u gs :: refB q (.slice A1 L1.length c1) left acts :: rowF (.slice A1 L1.length c1) fs1 :: boxT b #[.string x0, .slice A x1.length c, .int .i64 x2] 56 :: Ts)) ∧ Aside0 (Below B w wr)) (fun i _ _ _ => L1.length - (intOf i).toNat)
  case atStart => exact ⟨0, [], rfl, by simp, by omega, ⟨by unfold putL; rw [if_neg (Nat.not_lt_zero _), List.take_zero]; exact fs_none _⟩, HA2, HB2⟩
  case round =>
    clear HA2 HB2
    obtain ⟨k, gs, rfl, rfl, hk, HG, HA, HB⟩ := hrel
    by_cases hlt : k < L1.length
    · have d1 : decide ((k : Int) < (L1.length : Int)) = true := decide_eq_true (by omega)
      have d2 : decide (0 ≤ (k : Int)) = true := decide_eq_true (by omega)
      have ek : wrap64 ((k : Int) + 1) = ((k + 1 : Nat) : Int) := wrap_nat (by omega)
      obtain ⟨A', c', hx, hmem⟩ := HF1.out.2 k hlt
      obtain ⟨_, _, ev, -, hC⟩ := HA.out.reads (d := kF) (e := 56) (v := .slice A1 L1.length c1) (xs := fs1) (by simp)
      obtain ⟨rfl, -, rfl⟩ : A1 = _ ∧ _ ∧ c1 = _ := by injection ev with e1 e2 e3; exact ⟨e1, e2, e3⟩
      obtain ⟨ad, rfl, -, -, -⟩ := at_F hC k hx
      have hgl : gs.length ≤ k + 1 := by
        rw [HG.out.1]
        unfold putL
        split
        · rw [List.length_take]; omega
        · rw [List.length_take]; omega
      have hyk : L1[k]? = some L1[k] := List.getElem?_eq_getElem hlt
      have hlow := fun h => HI.out.less k hlt h
      have hmore := fun h => HI.out.more k hlt h
      have HHI := HI.out.high k
      have HLO := HI.out.low k
      rw [HII.out, hyk] at HHI HLO
      clear ev hC hyk
      generalize L1[k] = y at hx hmem hlow hmore HHI HLO
      obtain ⟨y0, y1, y2⟩ := y
      dsimp only at hx hmem
      have HX := Aside0.mk hx
      obtain ⟨c0, bx, q0, q1, q2⟩ := put_ref HA.out rfl hx
      have b0 := bx 0
      have b1 := bx 1
      have b2 := bx 2
      simp only [List.getElem?_toArray, List.getElem?_cons_zero, List.getElem?_cons_succ] at b0 b1 b2
      dsimp only at q0 q1 q2
      clear bx hx
      by_cases hmk : m < k
      · have dmk : decide (m < k) = true := decide_eq_true hmk
        rw [dmk]
        have HG2 : Aside0 (FsOk (putL I m (k + 1)) (gs ++ [(y0, (A', y1.length, c'), y2)]) Us) := ⟨by
          have := HG.out.push (x := ⟨y0, y1, y2⟩) hmem
          unfold putL at this ⊢
          rw [if_pos hmk] at this
          rw [if_pos (by omega), take_push (HHI (by omega))]
          exact this⟩
        have dn : decide (m < k + 1) = true := decide_eq_true (by omega)
        clear hmem hlow hmore HHI HLO HG dmk
        go_wp2_with fail
        refine start_ (n := 15) (S := fun w' => w'.cell? ⟨q, 0, none⟩ = some (.slice (some ad) L1.length c1) ∧ w'.cell? (ad.add (k * 3)) = some (.string y0) ∧ w'.cell? ⟨b, 0, none⟩ = some (.string x0)) (ds := []) #[false, false, false, false, false, false, false, false, false, false, false, false, false, false, false] (by kernel_rfl) rfl rfl ⟨c0, q0, b0⟩ (fun hHeld => ?_)
        refine pure_ (i := 0) (N := some 20) (v := ?_) (a' := ?_) #[true, false, false, false, false, false, false, false, false, false, false, false, false, false, false] rfl rfl (by kernel_rfl) (fun _ _ _ h => h) (Or.inl ⟨by rfl, ?_⟩) ?_ ?_
        rotate_left
        · intro w'
          go_simp
          with_reducible rfl
        rotate_left
        · simp only [Act.put, List.setIfInBounds_toArray, List.set_cons_zero, List.set_cons_succ, i64_w, i32_w]
          rfl
        refine pure_ (i := 1) (N := some 21) (v := ?_) (a' := ?_) #[true, true, false, false, false, false, false, false, false, false, false, false, false, false, false] rfl rfl (by kernel_rfl) (fun _ _ _ h => h) (Or.inl ⟨by rfl, ?_⟩) ?_ ?_
        rotate_left
        · intro w'
          go_simp
          with_reducible rfl
        rotate_left
        · simp only [Act.put, List.setIfInBounds_toArray, List.set_cons_zero, List.set_cons_succ, i64_w, i32_w]
          rfl
        refine pure_ (i := 2) (N := some 22) (v := ?_) (a' := ?_) #[true, true, true, false, false, false, false, false, false, false, false, false, false, false, false] rfl rfl (by kernel_rfl) (fun _ _ _ h => h) (Or.inl ⟨by rfl, ?_⟩) ?_ ?_
        rotate_left
        · intro w'
          go_simp
          with_reducible rfl
        rotate_left
        · simp only [Act.put, List.setIfInBounds_toArray, List.set_cons_zero, List.set_cons_succ, i64_w, i32_w]
          rfl
        refine pure_ (i := 3) (N := some 23) (v := undef) (a' := ?_) #[true, true, true, true, false, false, false, false, false, false, false, false, false, false, false] rfl rfl (by kernel_rfl) (fun _ _ _ h => h) (Or.inr ⟨by rfl, rfl⟩) ?_ ?_
        rotate_left
        · simp only [Act.put, List.setIfInBounds_toArray, List.set_cons_zero, List.set_cons_succ, i64_w, i32_w]
          rfl
        refine pure_ (i := 4) (N := some 24) (v := undef) (a' := ?_) #[true, true, true, true, true, false, false, false, false, false, false, false, false, false, false] rfl rfl (by kernel_rfl) (fun _ _ _ h => h) (Or.inr ⟨by rfl, rfl⟩) ?_ ?_
        rotate_left
        · simp only [Act.put, List.setIfInBounds_toArray, List.set_cons_zero, List.set_cons_succ, i64_w, i32_w]
          rfl
        refine pure_ (i := 5) (N := some 25) (v := undef) (a' := ?_) #[true, true, true, true, true, true, false, false, false, false, false, false, false, false, false] rfl rfl (by kernel_rfl) (fun _ _ _ h => h) (Or.inr ⟨by rfl, rfl⟩) ?_ ?_
        rotate_left
        · simp only [Act.put, List.setIfInBounds_toArray, List.set_cons_zero, List.set_cons_succ, i64_w, i32_w]
          rfl
        refine pure_ (i := 6) (N := some 26) (v := undef) (a' := ?_) #[true, true, true, true, true, true, true, false, false, false, false, false, false, false, false] rfl rfl (by kernel_rfl) (fun _ _ _ h => h) (Or.inr ⟨by rfl, rfl⟩) ?_ ?_
        rotate_left
        · simp only [Act.put, List.setIfInBounds_toArray, List.set_cons_zero, List.set_cons_succ, i64_w, i32_w]
          rfl
        refine pure_ (i := 7) (N := some 27) (v := undef) (a' := ?_) #[true, true, true, true, true, true, true, true, false, false, false, false, false, false, false] rfl rfl (by kernel_rfl) (fun _ _ _ h => h) (Or.inr ⟨by rfl, rfl⟩) ?_ ?_
        rotate_left
        · simp only [Act.put, List.setIfInBounds_toArray, List.set_cons_zero, List.set_cons_succ, i64_w, i32_w]
          rfl
        refine pure_ (i := 8) (N := some 28) (v := undef) (a' := ?_) #[true, true, true, true, true, true, true, true, true, false, false, false, false, false, false] rfl rfl (by kernel_rfl) (fun _ _ _ h => h) (Or.inr ⟨by rfl, rfl⟩) ?_ ?_
        rotate_left
        · simp only [Act.put, List.setIfInBounds_toArray, List.set_cons_zero, List.set_cons_succ, i64_w, i32_w]
          rfl
        refine pure_ (i := 9) (N := some 29) (v := undef) (a' := ?_) #[true, true, true, true, true, true, true, true, true, true, false, false, false, false, false] rfl rfl (by kernel_rfl) (fun _ _ _ h => h) (Or.inr ⟨by rfl, rfl⟩) ?_ ?_
        rotate_left
        · simp only [Act.put, List.setIfInBounds_toArray, List.set_cons_zero, List.set_cons_succ, i64_w, i32_w]
          rfl
        refine pure_ (i := 10) (N := some 30) (v := undef) (a' := ?_) #[true, true, true, true, true, true, true, true, true, true, true, false, false, false, false] rfl rfl (by kernel_rfl) (fun _ _ _ h => h) (Or.inr ⟨by rfl, rfl⟩) ?_ ?_
        rotate_left
        · simp only [Act.put, List.setIfInBounds_toArray, List.set_cons_zero, List.set_cons_succ, i64_w, i32_w]
          rfl
        refine pure_ (i := 11) (N := some 31) (v := undef) (a' := ?_) #[true, true, true, true, true, true, true, true, true, true, true, true, false, false, false] rfl rfl (by kernel_rfl) (fun _ _ _ h => h) (Or.inr ⟨by rfl, rfl⟩) ?_ ?_
        rotate_left
        · simp only [Act.put, List.setIfInBounds_toArray, List.set_cons_zero, List.set_cons_succ, i64_w, i32_w]
          rfl
        refine pure_ (i := 12) (N := some 32) (v := undef) (a' := ?_) #[true, true, true, true, true, true, true, true, true, true, true, true, true, false, false] rfl rfl (by kernel_rfl) (fun _ _ _ h => h) (Or.inr ⟨by rfl, rfl⟩) ?_ ?_
        rotate_left
        · simp only [Act.put, List.setIfInBounds_toArray, List.set_cons_zero, List.set_cons_succ, i64_w, i32_w]
          rfl
        refine pure_ (i := 13) (N := some 33) (v := undef) (a' := ?_) #[true, true, true, true, true, true, true, true, true, true, true, true, true, true, false] rfl rfl (by kernel_rfl) (fun _ _ _ h => h) (Or.inr ⟨by rfl, rfl⟩) ?_ ?_
        rotate_left
        · simp only [Act.put, List.setIfInBounds_toArray, List.set_cons_zero, List.set_cons_succ, i64_w, i32_w]
          rfl
        refine pure_ (i := 14) (N := some 34) (v := ?_) (a' := ?_) #[true, true, true, true, true, true, true, true, true, true, true, true, true, true, true] rfl rfl (by kernel_rfl) (fun _ _ _ h => h) (Or.inl ⟨by rfl, ?_⟩) ?_ ?_
        rotate_left
        · intro w'
          go_simp
          with_reducible rfl
        rotate_left
        · simp only [Act.put, List.setIfInBounds_toArray, List.set_cons_zero, List.set_cons_succ, i64_w, i32_w]
          rfl
        refine done_ (by kernel_rfl) ?_

        have HA3 := Aside0.mk HA.out.drew
        have HB3 := Aside0.mk (HB.out.trans (below_drew (Below.refl _ _)))
        have c0' : wr.drew.cell? ⟨q, 0, none⟩ = some (.slice (some ad) L1.length c1) := c0
        have b0' : wr.drew.cell? ⟨b, 0, none⟩ = some (.string x0) := b0
        have b1' : wr.drew.cell? ⟨b, 1, none⟩ = some (.slice A x1.length c) := b1
        have b2' : wr.drew.cell? ⟨b, 2, none⟩ = some (.int .i64 x2) := b2
        have q0' : wr.drew.cell? (ad.add (k * 3)) = some (.string y0) := q0
        have q1' : wr.drew.cell? ⟨(ad.add (k * 3)).block, (ad.add (k * 3)).off + 1, none⟩ = some (.slice A' y1.length c') := q1
        have q2' : wr.drew.cell? ⟨(ad.add (k * 3)).block, (ad.add (k * 3)).off + 2, none⟩ = some (.int .i64 y2) := q2
        clear c0 b0 b1 b2 q0 q1 q2 HA HB
        generalize wr.drew = w3 at HA3 HB3 c0' b0' b1' b2' q0' q1' q2' ⊢
        go_wp2_with (refine app_rows kF (HA3.out.alloc (.cells #[.string y0, .slice A' y1.length c', .int .i64 y2] 56)) rfl _ _ 78 (.agg #[.string ⟨#[]⟩, .slice none 0 0, .int .i64 0]) 48 rfl Try.underlying78 inf56 rfl (by decide) (by decide) (some ⟨w3.heap.size, 0, none⟩) 1 rfl rfl (lit_F w3 (y0, (A', y1.length, c'), y2)) kF_KM (by show (gs.length + 1) * 48 ≤ 140737488355328; omega) ?_; rintro v7 w7 hA7 hB7; have HA7 := Aside0.mk hA7; have HB7 := Aside0.mk ((HB3.out.alloc HA3.out.size (.cells #[.string y0, .slice A' y1.length c', .int .i64 y2] 56)).trans hB7); clear hA7 hB7)
        go_roundw
        case rel => exact ⟨k + 1, _, by first | rfl | rw [ek], by rw [dn], by omega, HG2, HA7, HB7⟩
        case measure => first | (simp [intOf]; omega) | (rw [ek]; simp [intOf]; omega)
      · have dmk : decide (m < k) = false := decide_eq_false hmk
        rw [dmk]
        by_cases hkm : k = m
        · have hls : Op.bytesLess x0.toList y0.toList = true := by rw [str_less]; exact decide_eq_true (hmore (by omega))
          have HG1 : Aside0 (FsOk (putL I m (k + 1)) ((gs ++ [(x0, (A, x1.length, c), x2)]) ++ [(y0, (A', y1.length, c'), y2)]) Us) := ⟨by
            have h1 := HG.out.push (x := ⟨x0, x1, x2⟩) (A := A) (c := c) HM.out
            have h2 := h1.push (x := ⟨y0, y1, y2⟩) hmem
            have hh := HI.out.here
            rw [HII.out] at hh
            unfold putL at h2 ⊢
            rw [if_neg hmk] at h2
            rw [if_pos (by omega), take_push (HHI (by omega)), take_push (by rw [hkm]; exact hh)]
            exact h2⟩
          have dn : decide (m < k + 1) = true := decide_eq_true (by omega)
          clear hmem hlow hmore HHI HLO HG dmk hmk
          have hkm' := Aside0.mk hkm
          clear hkm
          go_wp2_with fail
          refine start_ (n := 15) (S := fun w' => w'.cell? ⟨q, 0, none⟩ = some (.slice (some ad) L1.length c1) ∧ w'.cell? (ad.add (k * 3)) = some (.string y0) ∧ w'.cell? ⟨b, 0, none⟩ = some (.string x0)) (ds := []) #[false, false, false, false, false, false, false, false, false, false, false, false, false, false, false] (by kernel_rfl) rfl rfl ⟨c0, q0, b0⟩ (fun hHeld => ?_)
          refine pure_ (i := 0) (N := some 20) (v := ?_) (a' := ?_) #[true, false, false, false, false, false, false, false, false, false, false, false, false, false, false] rfl rfl (by kernel_rfl) (fun _ _ _ h => h) (Or.inl ⟨by rfl, ?_⟩) ?_ ?_
          rotate_left
          · intro w'
            go_simp
            with_reducible rfl
          rotate_left
          · simp only [Act.put, List.setIfInBounds_toArray, List.set_cons_zero, List.set_cons_succ, i64_w, i32_w]
            rfl
          refine pure_ (i := 1) (N := some 21) (v := ?_) (a' := ?_) #[true, true, false, false, false, false, false, false, false, false, false, false, false, false, false] rfl rfl (by kernel_rfl) (fun _ _ _ h => h) (Or.inl ⟨by rfl, ?_⟩) ?_ ?_
          rotate_left
          · intro w'
            go_simp
            with_reducible rfl
          rotate_left
          · simp only [Act.put, List.setIfInBounds_toArray, List.set_cons_zero, List.set_cons_succ, i64_w, i32_w]
            rfl
          refine pure_ (i := 2) (N := some 22) (v := ?_) (a' := ?_) #[true, true, true, false, false, false, false, false, false, false, false, false, false, false, false] rfl rfl (by kernel_rfl) (fun _ _ _ h => h) (Or.inl ⟨by rfl, ?_⟩) ?_ ?_
          rotate_left
          · intro w'
            go_simp
            with_reducible rfl
          rotate_left
          · simp only [Act.put, List.setIfInBounds_toArray, List.set_cons_zero, List.set_cons_succ, i64_w, i32_w]
            rfl
          refine pure_ (i := 3) (N := some 23) (v := ?_) (a' := ?_) #[true, true, true, true, false, false, false, false, false, false, false, false, false, false, false] rfl rfl (by kernel_rfl) (fun _ _ _ h => h) (Or.inl ⟨by rfl, ?_⟩) ?_ ?_
          rotate_left
          · intro w'
            go_simp
            with_reducible rfl
          rotate_left
          · simp only [Act.put, List.setIfInBounds_toArray, List.set_cons_zero, List.set_cons_succ, i64_w, i32_w]
            rfl
          refine pure_ (i := 4) (N := some 24) (v := ?_) (a' := ?_) #[true, true, true, true, true, false, false, false, false, false, false, false, false, false, false] rfl rfl (by kernel_rfl) (fun _ _ _ h => h) (Or.inl ⟨by rfl, ?_⟩) ?_ ?_
          rotate_left
          · intro w'
            go_simp
            with_reducible rfl
          rotate_left
          · simp only [Act.put, List.setIfInBounds_toArray, List.set_cons_zero, List.set_cons_succ, i64_w, i32_w]
            rfl
          refine pure_ (i := 5) (N := some 25) (v := ?_) (a' := ?_) #[true, true, true, true, true, true, false, false, false, false, false, false, false, false, false] rfl rfl (by kernel_rfl) (fun _ _ _ h => h) (Or.inl ⟨by rfl, ?_⟩) ?_ ?_
          rotate_left
          · intro w'
            go_simp
            with_reducible rfl
          rotate_left
          · simp only [Act.put, List.setIfInBounds_toArray, List.set_cons_zero, List.set_cons_succ, i64_w, i32_w]
            rfl
          refine pure_ (i := 7) (N := some 27) (v := ?_) (a' := ?_) #[true, true, true, true, true, true, false, true, false, false, false, false, false, false, false] rfl rfl (by kernel_rfl) (fun _ _ _ h => h) (Or.inl ⟨by rfl, ?_⟩) ?_ ?_
          rotate_left
          · intro w'
            go_simp
            with_reducible rfl
          rotate_left
          · simp only [Act.put, List.setIfInBounds_toArray, List.set_cons_zero, List.set_cons_succ, i64_w, i32_w]
            rfl
          refine pure_ (i := 11) (N := some 31) (v := ?_) (a' := ?_) #[true, true, true, true, true, true, false, true, false, false, false, true, false, false, false] rfl rfl (by kernel_rfl) (fun _ _ _ h => h) (Or.inl ⟨by rfl, ?_⟩) ?_ ?_
          rotate_left
          · intro w'
            go_simp
            with_reducible rfl
          rotate_left
          · simp only [Act.put, List.setIfInBounds_toArray, List.set_cons_zero, List.set_cons_succ, i64_w, i32_w]
            rfl
          refine take_ (i := 6) (N := some 26) (v := ?_) (a' := ?_) #[true, true, true, true, true, true, true, true, false, false, false, true, false, false, false] rfl rfl (by kernel_rfl) (fun _ _ _ h => h) (Or.inl ⟨by rfl, ?_⟩) hHeld ?_ ?_
          rotate_left
          · rintro w' ⟨s0, s1, s2⟩
            go_simp
            with_reducible rfl
          rotate_left
          · simp only [Act.put, List.setIfInBounds_toArray, List.set_cons_zero, List.set_cons_succ, i64_w, i32_w]
            rfl
          refine pure_ (i := 8) (N := some 28) (v := ?_) (a' := ?_) #[true, true, true, true, true, true, true, true, true, false, false, true, false, false, false] rfl rfl (by kernel_rfl) (fun _ _ _ h => h) (Or.inl ⟨by rfl, ?_⟩) ?_ ?_
          rotate_left
          · intro w'
            go_simp
            with_reducible rfl
          rotate_left
          · simp only [Act.put, List.setIfInBounds_toArray, List.set_cons_zero, List.set_cons_succ, i64_w, i32_w]
            rfl
          refine pure_ (i := 9) (N := some 29) (v := ?_) (a' := ?_) #[true, true, true, true, true, true, true, true, true, true, false, true, false, false, false] rfl rfl (by kernel_rfl) (fun _ _ _ h => h) (Or.inl ⟨by rfl, ?_⟩) ?_ ?_
          rotate_left
          · intro w'
            go_simp
            with_reducible rfl
          rotate_left
          · simp only [Act.put, List.setIfInBounds_toArray, List.set_cons_zero, List.set_cons_succ, i64_w, i32_w]
            rfl
          refine take_ (i := 10) (N := some 30) (v := ?_) (a' := ?_) #[true, true, true, true, true, true, true, true, true, true, true, true, false, false, false] rfl rfl (by kernel_rfl) (fun _ _ _ h => h) (Or.inl ⟨by rfl, ?_⟩) hHeld ?_ ?_
          rotate_left
          · rintro w' ⟨s0, s1, s2⟩
            go_simp
            with_reducible rfl
          rotate_left
          · simp only [Act.put, List.setIfInBounds_toArray, List.set_cons_zero, List.set_cons_succ, i64_w, i32_w]
            rfl
          refine take_ (i := 12) (N := some 32) (v := ?_) (a' := ?_) #[true, true, true, true, true, true, true, true, true, true, true, true, true, false, false] rfl rfl (by kernel_rfl) (fun _ _ _ h => h) (Or.inl ⟨by rfl, ?_⟩) hHeld ?_ ?_
          rotate_left
          · rintro w' ⟨s0, s1, s2⟩
            go_simp
            with_reducible rfl
          rotate_left
          · simp only [Act.put, List.setIfInBounds_toArray, List.set_cons_zero, List.set_cons_succ, i64_w, i32_w]
            rfl
          refine pure_ (i := 13) (N := some 33) (v := ?_) (a' := ?_) #[true, true, true, true, true, true, true, true, true, true, true, true, true, true, false] rfl rfl (by kernel_rfl) (fun _ _ _ h => h) (Or.inl ⟨by rfl, ?_⟩) ?_ ?_
          rotate_left
          · intro w'
            go_simp
            with_reducible rfl
          rotate_left
          · simp only [Act.put, List.setIfInBounds_toArray, List.set_cons_zero, List.set_cons_succ, i64_w, i32_w]
            rfl
          refine pure_ (i := 14) (N := some 34) (v := ?_) (a' := ?_) #[true, true, true, true, true, true, true, true, true, true, true, true, true, true, true] rfl rfl (by kernel_rfl) (fun _ _ _ h => h) (Or.inl ⟨by rfl, ?_⟩) ?_ ?_
          rotate_left
          · intro w'
            go_simp
            with_reducible rfl
          rotate_left
          · simp only [Act.put, List.setIfInBounds_toArray, List.set_cons_zero, List.set_cons_succ, i64_w, i32_w]
            rfl
          refine done_ (by kernel_rfl) ?_

          have HA3 := Aside0.mk HA.out.drew
          have HB3 := Aside0.mk (HB.out.trans (below_drew (Below.refl _ _)))
          have c0' : wr.drew.cell? ⟨q, 0, none⟩ = some (.slice (some ad) L1.length c1) := c0
          have b0' : wr.drew.cell? ⟨b, 0, none⟩ = some (.string x0) := b0
          have b1' : wr.drew.cell? ⟨b, 1, none⟩ = some (.slice A x1.length c) := b1
          have b2' : wr.drew.cell? ⟨b, 2, none⟩ = some (.int .i64 x2) := b2
          have q0' : wr.drew.cell? (ad.add (k * 3)) = some (.string y0) := q0
          have q1' : wr.drew.cell? ⟨(ad.add (k * 3)).block, (ad.add (k * 3)).off + 1, none⟩ = some (.slice A' y1.length c') := q1
          have q2' : wr.drew.cell? ⟨(ad.add (k * 3)).block, (ad.add (k * 3)).off + 2, none⟩ = some (.int .i64 y2) := q2
          clear c0 b0 b1 b2 q0 q1 q2 HA HB
          generalize wr.drew = w3 at HA3 HB3 c0' b0' b1' b2' q0' q1' q2' ⊢
          go_wp2_with (first | (refine app_rows kF (HA3.out.alloc (.cells #[.string x0, .slice A x1.length c, .int .i64 x2] 56)) rfl _ _ 78 (.agg #[.string ⟨#[]⟩, .slice none 0 0, .int .i64 0]) 48 rfl Try.underlying78 inf56 rfl (by decide) (by decide) (some ⟨w3.heap.size, 0, none⟩) 1 rfl rfl (lit_F w3 (x0, (A, x1.length, c), x2)) kF_KM (by show (gs.length + 1) * 48 ≤ 140737488355328; omega) ?_; rintro v5 w5 hA7 hB7; have HA5 := Aside0.mk hA7; have HB5 := Aside0.mk ((HB3.out.alloc HA3.out.size (.cells #[.string x0, .slice A x1.length c, .int .i64 x2] 56)).trans hB7); clear hA7 hB7; obtain ⟨e0, -, e1, e2, e3⟩ := put_ref HA5.out rfl HX.out; dsimp only at e1 e2 e3; clear HA3 HB3) | (refine app_rows kF (HA5.out.alloc (.cells #[.string y0, .slice A' y1.length c', .int .i64 y2] 56)) rfl _ _ 78 (.agg #[.string ⟨#[]⟩, .slice none 0 0, .int .i64 0]) 48 rfl Try.underlying78 inf56 rfl (by decide) (by decide) (some ⟨w5.heap.size, 0, none⟩) 1 rfl rfl (lit_F w5 (y0, (A', y1.length, c'), y2)) kF_KM (by show ((gs ++ [_]).length + 1) * 48 ≤ 140737488355328; rw [List.length_append]; show (gs.length + 1 + 1) * 48 ≤ 140737488355328; omega) ?_; rintro v7 w7 hA7 hB7; have HA7 := Aside0.mk hA7; have HB7 := Aside0.mk ((HB5.out.alloc HA5.out.size (.cells #[.string y0, .slice A' y1.length c', .int .i64 y2] 56)).trans hB7); clear hA7 hB7))
          go_roundw
          case rel => exact ⟨k + 1, _, by first | rfl | rw [ek], by rw [dn], by omega, HG1, HA7, HB7⟩
          case measure => first | (simp [intOf]; omega) | (rw [ek]; simp [intOf]; omega)
        · have hls : Op.bytesLess x0.toList y0.toList = false := by rw [str_less]; exact decide_eq_false (hlow (by omega))
          have HG2 : Aside0 (FsOk (putL I m (k + 1)) (gs ++ [(y0, (A', y1.length, c'), y2)]) Us) := ⟨by
            have := HG.out.push (x := ⟨y0, y1, y2⟩) hmem
            unfold putL at this ⊢
            rw [if_neg hmk] at this
            rw [if_neg (by omega), take_push (HLO (by omega))]
            exact this⟩
          have dn : decide (m < k + 1) = false := decide_eq_false (by omega)
          clear hmem hlow hmore HHI HLO HG dmk hmk hkm
          go_wp2_with fail
          refine start_ (n := 15) (S := fun w' => w'.cell? ⟨q, 0, none⟩ = some (.slice (some ad) L1.length c1) ∧ w'.cell? (ad.add (k * 3)) = some (.string y0) ∧ w'.cell? ⟨b, 0, none⟩ = some (.string x0)) (ds := []) #[false, false, false, false, false, false, false, false, false, false, false, false, false, false, false] (by kernel_rfl) rfl rfl ⟨c0, q0, b0⟩ (fun hHeld => ?_)
          refine pure_ (i := 0) (N := some 20) (v := ?_) (a' := ?_) #[true, false, false, false, false, false, false, false, false, false, false, false, false, false, false] rfl rfl (by kernel_rfl) (fun _ _ _ h => h) (Or.inl ⟨by rfl, ?_⟩) ?_ ?_
          rotate_left
          · intro w'
            go_simp
            with_reducible rfl
          rotate_left
          · simp only [Act.put, List.setIfInBounds_toArray, List.set_cons_zero, List.set_cons_succ, i64_w, i32_w]
            rfl
          refine pure_ (i := 1) (N := some 21) (v := ?_) (a' := ?_) #[true, true, false, false, false, false, false, false, false, false, false, false, false, false, false] rfl rfl (by kernel_rfl) (fun _ _ _ h => h) (Or.inl ⟨by rfl, ?_⟩) ?_ ?_
          rotate_left
          · intro w'
            go_simp
            with_reducible rfl
          rotate_left
          · simp only [Act.put, List.setIfInBounds_toArray, List.set_cons_zero, List.set_cons_succ, i64_w, i32_w]
            rfl
          refine pure_ (i := 2) (N := some 22) (v := ?_) (a' := ?_) #[true, true, true, false, false, false, false, false, false, false, false, false, false, false, false] rfl rfl (by kernel_rfl) (fun _ _ _ h => h) (Or.inl ⟨by rfl, ?_⟩) ?_ ?_
          rotate_left
          · intro w'
            go_simp
            with_reducible rfl
          rotate_left
          · simp only [Act.put, List.setIfInBounds_toArray, List.set_cons_zero, List.set_cons_succ, i64_w, i32_w]
            rfl
          refine pure_ (i := 3) (N := some 23) (v := ?_) (a' := ?_) #[true, true, true, true, false, false, false, false, false, false, false, false, false, false, false] rfl rfl (by kernel_rfl) (fun _ _ _ h => h) (Or.inl ⟨by rfl, ?_⟩) ?_ ?_
          rotate_left
          · intro w'
            go_simp
            with_reducible rfl
          rotate_left
          · simp only [Act.put, List.setIfInBounds_toArray, List.set_cons_zero, List.set_cons_succ, i64_w, i32_w]
            rfl
          refine pure_ (i := 4) (N := some 24) (v := ?_) (a' := ?_) #[true, true, true, true, true, false, false, false, false, false, false, false, false, false, false] rfl rfl (by kernel_rfl) (fun _ _ _ h => h) (Or.inl ⟨by rfl, ?_⟩) ?_ ?_
          rotate_left
          · intro w'
            go_simp
            with_reducible rfl
          rotate_left
          · simp only [Act.put, List.setIfInBounds_toArray, List.set_cons_zero, List.set_cons_succ, i64_w, i32_w]
            rfl
          refine pure_ (i := 5) (N := some 25) (v := ?_) (a' := ?_) #[true, true, true, true, true, true, false, false, false, false, false, false, false, false, false] rfl rfl (by kernel_rfl) (fun _ _ _ h => h) (Or.inl ⟨by rfl, ?_⟩) ?_ ?_
          rotate_left
          · intro w'
            go_simp
            with_reducible rfl
          rotate_left
          · simp only [Act.put, List.setIfInBounds_toArray, List.set_cons_zero, List.set_cons_succ, i64_w, i32_w]
            rfl
          refine pure_ (i := 7) (N := some 27) (v := ?_) (a' := ?_) #[true, true, true, true, true, true, false, true, false, false, false, false, false, false, false] rfl rfl (by kernel_rfl) (fun _ _ _ h => h) (Or.inl ⟨by rfl, ?_⟩) ?_ ?_
          rotate_left
          · intro w'
            go_simp
            with_reducible rfl
          rotate_left
          · simp only [Act.put, List.setIfInBounds_toArray, List.set_cons_zero, List.set_cons_succ, i64_w, i32_w]
            rfl
          refine pure_ (i := 11) (N := some 31) (v := ?_) (a' := ?_) #[true, true, true, true, true, true, false, true, false, false, false, true, false, false, false] rfl rfl (by kernel_rfl) (fun _ _ _ h => h) (Or.inl ⟨by rfl, ?_⟩) ?_ ?_
          rotate_left
          · intro w'
            go_simp
            with_reducible rfl
          rotate_left
          · simp only [Act.put, List.setIfInBounds_toArray, List.set_cons_zero, List.set_cons_succ, i64_w, i32_w]
            rfl
          refine take_ (i := 6) (N := some 26) (v := ?_) (a' := ?_) #[true, true, true, true, true, true, true, true, false, false, false, true, false, false, false] rfl rfl (by kernel_rfl) (fun _ _ _ h => h) (Or.inl ⟨by rfl, ?_⟩) hHeld ?_ ?_
          rotate_left
          · rintro w' ⟨s0, s1, s2⟩
            go_simp
            with_reducible rfl
          rotate_left
          · simp only [Act.put, List.setIfInBounds_toArray, List.set_cons_zero, List.set_cons_succ, i64_w, i32_w]
            rfl
          refine pure_ (i := 8) (N := some 28) (v := ?_) (a' := ?_) #[true, true, true, true, true, true, true, true, true, false, false, true, false, false, false] rfl rfl (by kernel_rfl) (fun _ _ _ h => h) (Or.inl ⟨by rfl, ?_⟩) ?_ ?_
          rotate_left
          · intro w'
            go_simp
            with_reducible rfl
          rotate_left
          · simp only [Act.put, List.setIfInBounds_toArray, List.set_cons_zero, List.set_cons_succ, i64_w, i32_w]
            rfl
          refine pure_ (i := 9) (N := some 29) (v := ?_) (a' := ?_) #[true, true, true, true, true, true, true, true, true, true, false, true, false, false, false] rfl rfl (by kernel_rfl) (fun _ _ _ h => h) (Or.inl ⟨by rfl, ?_⟩) ?_ ?_
          rotate_left
          · intro w'
            go_simp
            with_reducible rfl
          rotate_left
          · simp only [Act.put, List.setIfInBounds_toArray, List.set_cons_zero, List.set_cons_succ, i64_w, i32_w]
            rfl
          refine take_ (i := 10) (N := some 30) (v := ?_) (a' := ?_) #[true, true, true, true, true, true, true, true, true, true, true, true, false, false, false] rfl rfl (by kernel_rfl) (fun _ _ _ h => h) (Or.inl ⟨by rfl, ?_⟩) hHeld ?_ ?_
          rotate_left
          · rintro w' ⟨s0, s1, s2⟩
            go_simp
            with_reducible rfl
          rotate_left
          · simp only [Act.put, List.setIfInBounds_toArray, List.set_cons_zero, List.set_cons_succ, i64_w, i32_w]
            rfl
          refine take_ (i := 12) (N := some 32) (v := ?_) (a' := ?_) #[true, true, true, true, true, true, true, true, true, true, true, true, true, false, false] rfl rfl (by kernel_rfl) (fun _ _ _ h => h) (Or.inl ⟨by rfl, ?_⟩) hHeld ?_ ?_
          rotate_left
          · rintro w' ⟨s0, s1, s2⟩
            go_simp
            with_reducible rfl
          rotate_left
          · simp only [Act.put, List.setIfInBounds_toArray, List.set_cons_zero, List.set_cons_succ, i64_w, i32_w]
            rfl
          refine pure_ (i := 13) (N := some 33) (v := ?_) (a' := ?_) #[true, true, true, true, true, true, true, true, true, true, true, true, true, true, false] rfl rfl (by kernel_rfl) (fun _ _ _ h => h) (Or.inl ⟨by rfl, ?_⟩) ?_ ?_
          rotate_left
          · intro w'
            go_simp
            with_reducible rfl
          rotate_left
          · simp only [Act.put, List.setIfInBounds_toArray, List.set_cons_zero, List.set_cons_succ, i64_w, i32_w]
            rfl
          refine pure_ (i := 14) (N := some 34) (v := ?_) (a' := ?_) #[true, true, true, true, true, true, true, true, true, true, true, true, true, true, true] rfl rfl (by kernel_rfl) (fun _ _ _ h => h) (Or.inl ⟨by rfl, ?_⟩) ?_ ?_
          rotate_left
          · intro w'
            go_simp
            with_reducible rfl
          rotate_left
          · simp only [Act.put, List.setIfInBounds_toArray, List.set_cons_zero, List.set_cons_succ, i64_w, i32_w]
            rfl
          refine done_ (by kernel_rfl) ?_

          have HA3 := Aside0.mk HA.out.drew
          have HB3 := Aside0.mk (HB.out.trans (below_drew (Below.refl _ _)))
          have c0' : wr.drew.cell? ⟨q, 0, none⟩ = some (.slice (some ad) L1.length c1) := c0
          have b0' : wr.drew.cell? ⟨b, 0, none⟩ = some (.string x0) := b0
          have b1' : wr.drew.cell? ⟨b, 1, none⟩ = some (.slice A x1.length c) := b1
          have b2' : wr.drew.cell? ⟨b, 2, none⟩ = some (.int .i64 x2) := b2
          have q0' : wr.drew.cell? (ad.add (k * 3)) = some (.string y0) := q0
          have q1' : wr.drew.cell? ⟨(ad.add (k * 3)).block, (ad.add (k * 3)).off + 1, none⟩ = some (.slice A' y1.length c') := q1
          have q2' : wr.drew.cell? ⟨(ad.add (k * 3)).block, (ad.add (k * 3)).off + 2, none⟩ = some (.int .i64 y2) := q2
          clear c0 b0 b1 b2 q0 q1 q2 HA HB
          generalize wr.drew = w3 at HA3 HB3 c0' b0' b1' b2' q0' q1' q2' ⊢
          go_wp2_with (refine app_rows kF (HA3.out.alloc (.cells #[.string y0, .slice A' y1.length c', .int .i64 y2] 56)) rfl _ _ 78 (.agg #[.string ⟨#[]⟩, .slice none 0 0, .int .i64 0]) 48 rfl Try.underlying78 inf56 rfl (by decide) (by decide) (some ⟨w3.heap.size, 0, none⟩) 1 rfl rfl (lit_F w3 (y0, (A', y1.length, c'), y2)) kF_KM (by show (gs.length + 1) * 48 ≤ 140737488355328; omega) ?_; rintro v7 w7 hA7 hB7; have HA7 := Aside0.mk hA7; have HB7 := Aside0.mk ((HB3.out.alloc HA3.out.size (.cells #[.string y0, .slice A' y1.length c', .int .i64 y2] 56)).trans hB7); clear hA7 hB7)
          go_roundw
          case rel => exact ⟨k + 1, _, by first | rfl | rw [ek], by rw [dn], by omega, HG2, HA7, HB7⟩
          case measure => first | (simp [intOf]; omega) | (rw [ek]; simp [intOf]; omega)
    · have d1 : decide ((k : Int) < (L1.length : Int)) = false := decide_eq_false (by omega)
      obtain rfl : k = L1.length := by omega
      have hgl : gs.length ≤ L1.length + 1 := by
        rw [HG.out.1]
        unfold putL
        split
        · rw [List.length_take]; omega
        · rw [List.length_take]; omega
      have hil : I.length = L1.length + 1 := by rw [← HII.out]; exact HI.out.len
      obtain ⟨A4, c4, rfl, -, -⟩ := HA.out.reads (d := kF) (e := 56) (v := u4) (xs := gs) (by simp)
      by_cases hmk : m < L1.length
      · have dmk : decide (m < L1.length) = true := decide_eq_true hmk
        rw [dmk]
        have HG2 : Aside0 (FsOk I gs Us) := ⟨by
          have := HG.out
          unfold putL at this
          rw [if_pos hmk, List.take_of_length_le (by omega)] at this
          exact this⟩
        have cf := (ref_cells HA.out (q := q) (v := .slice A1 L1.length c1) (left := left) (acts := acts) (by simp)).2.2.2 0
        have c0 := (ref_cells HA.out (q := q) (v := .slice A1 L1.length c1) (left := left) (acts := acts) (by simp)).1
        obtain ⟨hA, hB⟩ := (ref_set HA.out.swap).1 (.slice A4 gs.length c4)
        have HA9 := Aside0.mk hA.third.tail.third.tail
        have HB9 := Aside0.mk (HB.out.trans hB)
        clear hA hB HA HB HG dmk hil hgl
        go_wp2_with fail
        go_end0
        exact ⟨_, _, rfl, HA9.out, HG2.out, HB9.out⟩
      · have dmk : decide (m < L1.length) = false := decide_eq_false hmk
        have hme : m = L1.length := by have := HI.out.le; omega
        rw [dmk]
        have HG2 : Aside0 (FsOk I (gs ++ [(x0, (A, x1.length, c), x2)]) Us) := ⟨by
          have h1 := HG.out.push (x := ⟨x0, x1, x2⟩) (A := A) (c := c) HM.out
          have hh := HI.out.here
          rw [HII.out, hme] at hh
          unfold putL at h1
          rw [if_neg hmk, ← take_push hh, List.take_of_length_le (by omega)] at h1
          exact h1⟩
        obtain ⟨bx, -, -, -⟩ := HA.out.box_cell (b := b) (cs := #[.string x0, .slice A x1.length c, .int .i64 x2]) (t := 56) (by simp)
        have b0 := bx 0
        have b1 := bx 1
        have b2 := bx 2
        simp only [List.getElem?_toArray, List.getElem?_cons_zero, List.getElem?_cons_succ] at b0 b1 b2
        have c0 := (ref_cells HA.out (q := q) (v := .slice A1 L1.length c1) (left := left) (acts := acts) (by simp)).1
        clear bx HG dmk hil hmk hme
        go_wp2_with (refine app_rows kF (HA.out.alloc (.cells #[.string x0, .slice A x1.length c, .int .i64 x2] 56)) rfl _ _ 78 (.agg #[.string ⟨#[]⟩, .slice none 0 0, .int .i64 0]) 48 rfl Try.underlying78 inf56 rfl (by decide) (by decide) (some ⟨wr.heap.size, 0, none⟩) 1 rfl rfl (lit_F wr (x0, (A, x1.length, c), x2)) kF_KM (by show (gs.length + 1) * 48 ≤ 140737488355328; omega) ?_; rintro v5 w5 hA7 hB7; have HA5 := Aside0.mk hA7; have HB5 := Aside0.mk ((HB.out.alloc HA.out.size (.cells #[.string x0, .slice A x1.length c, .int .i64 x2] 56)).trans hB7); clear hA7 hB7; obtain ⟨A5, c5, rfl, -, -⟩ := HA5.out.reads (d := kF) (e := 56) (v := v5) (xs := gs ++ [(x0, (A, x1.length, c), x2)]) (by simp); have cf := (ref_cells HA5.out (q := q) (v := .slice A1 L1.length c1) (left := left) (acts := acts) (by simp)).2.2.2 0; have cg := (ref_cells HA5.out (q := q) (v := .slice A1 L1.length c1) (left := left) (acts := acts) (by simp)).1; obtain ⟨hA, hB⟩ := (ref_set HA5.out.swap).1 (.slice A5 (gs ++ [(x0, (A, x1.length, c), x2)]).length c5); have HA9 := Aside0.mk hA.third.tail.third.tail; have HB9 := Aside0.mk (HB5.out.trans hB); clear hA hB HA5 HB5 HA HB)
        go_end0
        have h9 := HA9.out
        have hb9 := HB9.out
        rw [List.length_append] at h9 hb9
        exact ⟨_, _, rfl, h9, HG2.out, hb9⟩
end Go.Proofs.Ytibnakpefjjoiaa.Fs
namespace Go.Proofs.Ytibnakpefjjoiaa.Fs
open Go.RowKit Go.Proofs.YtibnakpefjjoiaaW.PrintWords Go.Proofs.YtibnakpefjjoiaaW.PrintLast Go.Proofs.YtibnakpefjjoiaaW.PrintMore Go.Proofs.Ytibnakpefjjoiaa.Q Go.Proofs.Ytibnakpefjjoiaa.Own
set_option linter.unusedVariables false
set_option linter.unusedSimpArgs false
attribute [local go_sem ↓] Go.wp_at_zero Go.wp_at_succ

def GetPost (w : World) (x : SF) (r : Int) (Us : List Th) (e : Ending) (w' : World) : Prop := ∃ A c, e = .returned (.tuple #[.agg #[.string x.f0, .slice A x.f1.length c, .int .i64 x.f2], .int .i64 r]) ∧ (r = 0 → rowB (.slice A x.f1.length c) x.f1 ∈ Us) ∧ Below w.heap.size w w'
theorem told_no {st : Stt} {s : ByteArray} (h : ¬ toldE st s = 0) : toldX st s = zF := by
  unfold toldE at h
  unfold toldX
  by_cases hl : st.left = 0
  · rw [if_pos hl]
  · rw [if_neg hl] at h ⊢
    cases hx : findF st.L s.data.toList with
    | none => rfl
    | some x => rw [hx] at h; exact absurd rfl h
theorem told_yes {st : Stt} {s : ByteArray} (h : toldE st s = 0) : ∃ x, findF st.L s.data.toList = some x ∧ toldX st s = x := by
  unfold toldE at h
  unfold toldX
  by_cases hl : st.left = 0
  · rw [if_pos hl] at h
    omega
  · rw [if_neg hl] at h ⊢
    cases hx : findF st.L s.data.toList with
    | none => rw [hx] at h; exact absurd h (by decide)
    | some x => exact ⟨x, rfl, rfl⟩
theorem get_box (w : World) (x0 : ByteArray) (A : Option Addr) (n c : Nat) (x2 : Int) :
    ((((w.alloc (.cells #[.string ⟨#[]⟩, .slice none 0 0, .int .i64 0] 56)).setCell ⟨w.heap.size, 0, none⟩ (.string x0)).setCell ⟨w.heap.size, 1, none⟩ (.slice A n c)).setCell ⟨w.heap.size, 2, none⟩ (.int .i64 x2)).drew.cell? ⟨w.heap.size, 0, none⟩ = some (.string x0) ∧ ((((w.alloc (.cells #[.string ⟨#[]⟩, .slice none 0 0, .int .i64 0] 56)).setCell ⟨w.heap.size, 0, none⟩ (.string x0)).setCell ⟨w.heap.size, 1, none⟩ (.slice A n c)).setCell ⟨w.heap.size, 2, none⟩ (.int .i64 x2)).drew.cell? ⟨w.heap.size, 1, none⟩ = some (.slice A n c) ∧ ((((w.alloc (.cells #[.string ⟨#[]⟩, .slice none 0 0, .int .i64 0] 56)).setCell ⟨w.heap.size, 0, none⟩ (.string x0)).setCell ⟨w.heap.size, 1, none⟩ (.slice A n c)).setCell ⟨w.heap.size, 2, none⟩ (.int .i64 x2)).drew.cell? ⟨w.heap.size, 2, none⟩ = some (.int .i64 x2) ∧ Below w.heap.size w ((((w.alloc (.cells #[.string ⟨#[]⟩, .slice none 0 0, .int .i64 0] 56)).setCell ⟨w.heap.size, 0, none⟩ (.string x0)).setCell ⟨w.heap.size, 1, none⟩ (.slice A n c)).setCell ⟨w.heap.size, 2, none⟩ (.int .i64 x2)).drew := by
  have h0 := (Has.nil w).box #[.string ⟨#[]⟩, .slice none 0 0, .int .i64 0] 56
  obtain ⟨h1, b1⟩ := h0.box_set 0 (.string x0)
  obtain ⟨h2, b2⟩ := h1.box_set 1 (.slice A n c)
  obtain ⟨h3, b3⟩ := h2.box_set 2 (.int .i64 x2)
  have h4 : Has w.heap.size ((((w.alloc (.cells #[.string ⟨#[]⟩, .slice none 0 0, .int .i64 0] 56)).setCell ⟨w.heap.size, 0, none⟩ (.string x0)).setCell ⟨w.heap.size, 1, none⟩ (.slice A n c)).setCell ⟨w.heap.size, 2, none⟩ (.int .i64 x2)).drew [boxT w.heap.size #[.string x0, .slice A n c, .int .i64 x2] 56] := h3.drew
  obtain ⟨bz, -, -, -⟩ := h4.box_cell (b := w.heap.size) (cs := #[.string x0, .slice A n c, .int .i64 x2]) (t := 56) (by simp)
  exact ⟨bz 0, bz 1, bz 2, (((((Below.refl _ w).alloc (Nat.le_refl _) _).trans b1).trans b2).trans b3).trans (below_drew (Below.refl _ _))⟩
set_option maxHeartbeats 4000000 in
set_option maxRecDepth 100000 in
theorem rget_calls {B : Nat} {w : World} {q : Nat} {v : Value} {st : Stt} {fs : List FH} {Ts Us : List Th} (h : Has B w Ts) (hm : refB q v st.left st.acts ∈ Ts) (hr : rowF v fs ∈ Ts) (hf : FsOk st.L fs Us) (hL : st.L.length ≤ 1000) (s : ByteArray) :
    Calls Try.prog 28 #[ptr q, .string s] w (GetPost w (toldX st s) (toldE st s) Us) := by
  have hu56 := Try.underlying56
  have hA := h.box #[.string ⟨#[]⟩, .slice none 0 0, .int .i64 0] 56
  have hm := List.mem_cons_of_mem (boxT w.heap.size #[.string ⟨#[]⟩, .slice none 0 0, .int .i64 0] 56) hm
  have hr := List.mem_cons_of_mem (boxT w.heap.size #[.string ⟨#[]⟩, .slice none 0 0, .int .i64 0] 56) hr
  have HR := Aside0.mk (rrefuse_calls hA hm hr hf hL s)
  have HB : Aside0 (Below w.heap.size w (w.alloc (.cells #[.string ⟨#[]⟩, .slice none 0 0, .int .i64 0] 56))) := ⟨(Below.refl _ w).alloc (Nat.le_refl _) _⟩
  by_cases he : toldE st s = 0
  · obtain ⟨x, hx, ex⟩ := told_yes he
    obtain ⟨i, hz, hi⟩ := find_z.2 x hx
    have HFI := Aside0.mk (rfind_calls hA.drew hm hr hf hL s)
    rw [hz] at HFI
    obtain ⟨hil, hie⟩ := List.getElem?_eq_some_iff.1 hi
    obtain ⟨A', c', hfx, hmem⟩ := hf.2 i hil
    rw [hie] at hfx hmem
    obtain ⟨c0, -, -, -⟩ := ref_cells hA hm
    obtain ⟨bz, bf, -, -⟩ := hA.box_cell (b := w.heap.size) (cs := #[.string ⟨#[]⟩, .slice none 0 0, .int .i64 0]) (t := 56) (by simp)
    have z0 : (w.alloc (.cells #[.string ⟨#[]⟩, .slice none 0 0, .int .i64 0] 56)).cell? ⟨w.heap.size, 0, none⟩ = some (.string ⟨#[]⟩) := bz 0
    have z1 : (w.alloc (.cells #[.string ⟨#[]⟩, .slice none 0 0, .int .i64 0] 56)).cell? ⟨w.heap.size, 1, none⟩ = some (.slice none 0 0) := bz 1
    have z2 : (w.alloc (.cells #[.string ⟨#[]⟩, .slice none 0 0, .int .i64 0] 56)).cell? ⟨w.heap.size, 2, none⟩ = some (.int .i64 0) := bz 2
    have HZZ : Aside0 ((w.alloc (.cells #[.string ⟨#[]⟩, .slice none 0 0, .int .i64 0] 56)).cell? ⟨w.heap.size, 0, none⟩ = some (.string ⟨#[]⟩) ∧ (w.alloc (.cells #[.string ⟨#[]⟩, .slice none 0 0, .int .i64 0] 56)).cell? ⟨w.heap.size, 1, none⟩ = some (.slice none 0 0) ∧ (w.alloc (.cells #[.string ⟨#[]⟩, .slice none 0 0, .int .i64 0] 56)).cell? ⟨w.heap.size, 2, none⟩ = some (.int .i64 0) ∧ ∀ i, (w.alloc (.cells #[.string ⟨#[]⟩, .slice none 0 0, .int .i64 0] 56)).frozen? ⟨w.heap.size, i, none⟩ = false) := ⟨z0, z1, z2, bf⟩
    clear z0 z1 z2 bz bf
    obtain ⟨A, c, ev, -, hC⟩ := hA.reads (d := kF) (e := 56) (v := v) (xs := fs) hr
    obtain ⟨ad, rfl, q0, q1, q2⟩ := at_F hC i hfx
    rw [ev, hf.1] at c0
    have hn := hf.1
    rw [he, ex]
    rw [he] at HR
    have HMM := Aside0.mk hmem
    clear hx hz hi hie hfx hC ev hmem h hA hm hr hf he ex hn
    have d1 : decide (0 ≤ (i : Int)) = true := decide_eq_true (by omega)
    have d2 : decide ((i : Int) < (st.L.length : Int)) = true := decide_eq_true (by omega)
    generalize st.L.length = n at c0 d1 d2 hil hL
    obtain ⟨x0, x1, x2⟩ := x
    dsimp only at q0 q1 q2 HMM ⊢
    go_enter Try.func28, Try.ntmps28
    go_wp2_with fail
    refine HR.out.mono ?_
    rintro e w1 ⟨rfl, rfl⟩
    go_wp2_with fail
    obtain ⟨z0, z1, z2, bf⟩ := HZZ.out
    have zf := bf 0
    have zf1 := bf 1
    have zf2 := bf 2
    obtain ⟨g0, g1, g2, gB⟩ := get_box w x0 A' x1.length c' x2
    have HG := Aside0.mk (And.intro g0 (And.intro g1 (And.intro g2 gB)))
    clear g0 g1 g2 gB
    generalize hb : w.heap.size = b at z0 z1 z2 zf zf1 zf2 HG ⊢
    generalize hW : w.alloc (.cells #[.string ⟨#[]⟩, .slice none 0 0, .int .i64 0] 56) = W1 at c0 q0 q1 q2 z0 z1 z2 zf zf1 zf2 HFI HB HG ⊢
    clear HZZ bf HR
    refine start_ (n := 11) (S := fun w' => w'.cell? ⟨q, 0, none⟩ = some (.slice (some ad) n c) ∧ w'.cell? (ad.add (i * 3)) = some (.string x0) ∧ w'.cell? ⟨(ad.add (i * 3)).block, (ad.add (i * 3)).off + 1, none⟩ = some (.slice A' x1.length c') ∧ w'.cell? ⟨(ad.add (i * 3)).block, (ad.add (i * 3)).off + 2, none⟩ = some (.int .i64 x2) ∧ w'.cell? ⟨b, 0, none⟩ = some (.string ⟨#[]⟩) ∧ w'.cell? ⟨b, 1, none⟩ = some (.slice none 0 0) ∧ w'.cell? ⟨b, 2, none⟩ = some (.int .i64 0) ∧ w'.frozen? ⟨b, 0, none⟩ = false ∧ w'.frozen? ⟨b, 1, none⟩ = false ∧ w'.frozen? ⟨b, 2, none⟩ = false) (ds := [9]) #[false, false, false, false, false, false, false, false, false, false, false] (by kernel_rfl) rfl rfl ⟨c0, q0, q1, q2, z0, z1, z2, zf, zf1, zf2⟩ (fun hHeld => ?_)
    refine pure_ (i := 0) (N := some 14) (v := ?_) (a' := ?_) #[true, false, false, false, false, false, false, false, false, false, false] rfl rfl (by kernel_rfl) (fun _ _ _ h => h) (Or.inl ⟨by rfl, ?_⟩) ?_ ?_
    rotate_left
    · intro w'
      go_simp
      with_reducible rfl
    rotate_left
    · simp only [Act.put, List.setIfInBounds_toArray, List.set_cons_zero, List.set_cons_succ, i64_w, i32_w]
      rfl
    refine pure_ (i := 1) (N := some 15) (v := ?_) (a' := ?_) #[true, true, false, false, false, false, false, false, false, false, false] rfl rfl (by kernel_rfl) (fun _ _ _ h => h) (Or.inl ⟨by rfl, ?_⟩) ?_ ?_
    rotate_left
    · intro w'
      go_simp
      with_reducible rfl
    rotate_left
    · simp only [Act.put, List.setIfInBounds_toArray, List.set_cons_zero, List.set_cons_succ, i64_w, i32_w]
      rfl
    refine pure_ (i := 2) (N := some 16) (v := ?_) (a' := ?_) #[true, true, true, false, false, false, false, false, false, false, false] rfl rfl (by kernel_rfl) (fun _ _ _ h => h) (Or.inl ⟨by rfl, ?_⟩) ?_ ?_
    rotate_left
    · intro w'
      go_simp
      with_reducible rfl
    rotate_left
    · simp only [Act.put, List.setIfInBounds_toArray, List.set_cons_zero, List.set_cons_succ, i64_w, i32_w]
      rfl
    refine pure_ (i := 4) (N := some 18) (v := ?_) (a' := ?_) #[true, true, true, false, true, false, false, false, false, false, false] rfl rfl (by kernel_rfl) (fun _ _ _ h => h) (Or.inl ⟨by rfl, ?_⟩) ?_ ?_
    rotate_left
    · intro w'
      go_simp
      with_reducible rfl
    rotate_left
    · simp only [Act.put, List.setIfInBounds_toArray, List.set_cons_zero, List.set_cons_succ, i64_w, i32_w]
      rfl
    refine pure_ (i := 5) (N := some 19) (v := ?_) (a' := ?_) #[true, true, true, false, true, true, false, false, false, false, false] rfl rfl (by kernel_rfl) (fun _ _ _ h => h) (Or.inl ⟨by rfl, ?_⟩) ?_ ?_
    rotate_left
    · intro w'
      go_simp
      with_reducible rfl
    rotate_left
    · simp only [Act.put, List.setIfInBounds_toArray, List.set_cons_zero, List.set_cons_succ, i64_w, i32_w]
      rfl
    refine take_ (i := 3) (N := some 17) (v := ?_) (a' := ?_) #[true, true, true, true, true, true, false, false, false, false, false] rfl rfl (by kernel_rfl) (fun _ _ _ h => h) (Or.inl ⟨by rfl, ?_⟩) hHeld ?_ ?_
    rotate_left
    · rintro w' ⟨s0, s1, s2, s3, s4, s5, s6, s7, s8, s9⟩
      go_simp
      with_reducible rfl
    rotate_left
    · simp only [Act.put, List.setIfInBounds_toArray, List.set_cons_zero, List.set_cons_succ, i64_w, i32_w]
      rfl
    refine one_ (i := 6) (N := some 20) #[true, true, true, true, true, true, true, false, false, false, false] rfl rfl (by kernel_rfl) (by decide) (fun K hK => ?_)
    refine goes_ Try.func53 (by kernel_rfl) rfl #[ptr q, .string s] (by rfl) rfl rfl (by simp only [List.map_toArray, List.map_cons, List.map_nil]; rfl) ?_
    with_reducible refine (HFI.out).mono ?_
    rintro e w8 ⟨rfl, rfl⟩
    refine ⟨_, rfl, ?_⟩
    refine hK.out _ _ ⟨c0, q0, q1, q2, z0, z1, z2, zf, zf1, zf2⟩ (fun hHeld => ?_)
    clear hK K
    refine norm_ (a' := ?_) ?_ ?_
    rotate_left
    · show Act.put _ (some 20) _ = _
      simp only [Act.put, List.setIfInBounds_toArray, List.set_cons_zero, List.set_cons_succ, i64_w, i32_w]
      rfl
    refine pure_ (i := 7) (N := some 21) (v := ?_) (a' := ?_) #[true, true, true, true, true, true, true, true, false, false, false] rfl rfl (by kernel_rfl) (fun _ _ _ h => h) (Or.inl ⟨by rfl, ?_⟩) ?_ ?_
    rotate_left
    · intro w'
      go_simp
      with_reducible rfl
    rotate_left
    · simp only [Act.put, List.setIfInBounds_toArray, List.set_cons_zero, List.set_cons_succ, i64_w, i32_w]
      rfl
    refine take_ (i := 8) (N := some 22) (v := ?_) (a' := ?_) #[true, true, true, true, true, true, true, true, true, false, false] rfl rfl (by kernel_rfl) (fun _ _ _ h => h) (Or.inl ⟨by rfl, ?_⟩) hHeld ?_ ?_
    rotate_left
    · rintro w' ⟨s0, s1, s2, s3, s4, s5, s6, s7, s8, s9⟩
      go_simp
      with_reducible rfl
    rotate_left
    · simp only [Act.put, List.setIfInBounds_toArray, List.set_cons_zero, List.set_cons_succ, i64_w, i32_w]
      rfl
    refine last_ (i := 9) (N := none) #[true, true, true, true, true, true, true, true, true, true, false] rfl rfl (by kernel_rfl) (by decide) (fun K hK => ?_)
    refine skip_ (w1 := ?_) (by rfl) rfl ?_ ?_
    rotate_left
    · go_simp
      rfl
    refine hK.out _ _ ?_
    clear hK K
    refine pure_ (i := 10) (N := some 5) (v := ?_) (a' := ?_) #[true, true, true, true, true, true, true, true, true, true, true] rfl rfl (by kernel_rfl) (fun _ _ _ h => h) (Or.inl ⟨by rfl, ?_⟩) ?_ ?_
    rotate_left
    · intro w'
      go_simp
      with_reducible rfl
    rotate_left
    · simp only [Act.put, List.setIfInBounds_toArray, List.set_cons_zero, List.set_cons_succ, i64_w, i32_w]
      rfl
    refine done_ (by kernel_rfl) ?_

    obtain ⟨g0, g1, g2, gB⟩ := HG.out
    have HGB := Aside0.mk gB
    clear gB HG c0 q0 q1 q2 z0 z1 z2 zf zf1 zf2 HB
    go_wp2_with fail
    refine bodyPost_ret (v := .tuple #[.agg #[.string x0, .slice A' x1.length c', .int .i64 x2], .int .i64 0]) (by simp [results, Try.results28, go_sem, g0, g1, g2]) rfl ?_
    exact ⟨A', c', rfl, fun _ => HMM.out, by rw [hb]; exact HGB.out⟩
  · rw [told_no he]
    obtain ⟨r, hr'⟩ : ∃ r, toldE st s = r := ⟨_, rfl⟩
    rw [hr'] at HR he ⊢
    have d1 : (r != 0) = true := by unfold bne; rw [beq_eq_false_iff_ne.2 he]; rfl
    have d2 : (r == 0) = false := beq_eq_false_iff_ne.2 he
    have HE := Aside0.mk he
    clear h hA hm hr hf hr' he
    go_enter Try.func28, Try.ntmps28
    go_wp2_with fail
    refine HR.out.mono ?_
    rintro e w1 ⟨rfl, rfl⟩
    go_wp2_with fail
    refine bodyPost_ret (v := .tuple #[.agg #[.string ⟨#[]⟩, .slice none 0 0, .int .i64 0], .int .i64 r]) (by simp [results, Try.results28, go_sem]) rfl ?_
    exact ⟨none, 0, rfl, fun q => absurd q HE.out, HB.out⟩
end Go.Proofs.Ytibnakpefjjoiaa.Fs
namespace Go.Proofs.Ytibnakpefjjoiaa.Fs
open Go.RowKit Go.Proofs.YtibnakpefjjoiaaW.PrintWords Go.Proofs.YtibnakpefjjoiaaW.PrintLast Go.Proofs.YtibnakpefjjoiaaW.PrintMore Go.Proofs.Ytibnakpefjjoiaa.Q Go.Proofs.Ytibnakpefjjoiaa.Own
set_option linter.unusedVariables false
set_option linter.unusedSimpArgs false
attribute [local go_sem ↓] Go.wp_at_zero Go.wp_at_succ

/-- The document's store, as a thing among others. -/
def RefHas (B : Nat) (w : World) (q : Nat) (st : Stt) (Ts : List Th) : Prop := ∃ v fs, Has B w (refB q v st.left st.acts :: rowF v fs :: Ts) ∧ FsOk st.L fs Ts
def RMeth (B : Nat) (w : World) (q : Nat) (st : Stt) (r : Value) (Ts : List Th) (e : Ending) (w' : World) : Prop := ∃ Ns : List Th, e = .returned r ∧ RefHas B w' q st (Ns ++ Ts) ∧ Below B w w'
theorem on_no {st : Stt} {s : ByteArray} {do_ : SF → Int × Stt} (h : ¬ toldE st s = 0) : onF st s do_ = (toldE st s, st) := by
  unfold toldE at h ⊢
  unfold onF
  by_cases hl : st.left = 0
  · rw [if_pos hl, if_pos hl]
  · rw [if_neg hl] at h
    rw [if_neg hl, if_neg hl]
    cases hx : findF st.L s.data.toList with
    | none => rfl
    | some x => rw [hx] at h; exact absurd rfl h
theorem on_yes {st : Stt} {s : ByteArray} {do_ : SF → Int × Stt} (h : toldE st s = 0) : onF st s do_ = do_ (toldX st s) ∧ (findF st.L s.data.toList).isSome = true ∧ (toldX st s).f0 = s := by
  obtain ⟨x, hx, ex⟩ := told_yes h
  unfold toldE at h
  unfold onF
  by_cases hl : st.left = 0
  · rw [if_pos hl] at h
    omega
  · rw [if_neg hl, hx, ex]
    exact ⟨rfl, rfl, (name_iff x s).2 (find_mem hx).2⟩
theorem with_set {L : List SF} {s : ByteArray} (x : SF) (h : (findF L s.data.toList).isSome = true) : withL L s x = setF L ⟨s, x.f1, x.f2⟩ := by
  unfold withL
  rw [if_pos h]
set_option maxHeartbeats 4000000 in
set_option maxRecDepth 100000 in
theorem rsync_calls {B : Nat} {w : World} {q : Nat} {st : Stt} {Ts : List Th} {k : Nat} (h : RefHas B w q st Ts) (hg : Fine st k) (hk : k < 1000000) (s : ByteArray) :
    Calls Try.prog 45 #[ptr q, .string s] w (RMeth B w q (syncS st s).2 (.int .i64 (syncS st s).1) Ts) := by
  have hu56 := Try.underlying56
  obtain ⟨v, fs, hA, hf⟩ := h
  have hL : st.L.length ≤ 1000 := by have := hg.n; omega
  have HGT := Aside0.mk (rget_calls hA (q := q) (v := v) (by simp) (by simp) hf hL s)
  have HA := Aside0.mk hA
  have HF := Aside0.mk hf
  have HG := Aside0.mk hg
  by_cases he : toldE st s = 0
  · obtain ⟨e1, e2, e3⟩ := on_yes (do_ := fun x => (0, ⟨leftF st.left, st.acts + 1, withL st.L s ⟨x.f0, x.f1, (x.f1.length : Int)⟩⟩)) he
    have e4 : syncS st s = (0, ⟨leftF st.left, st.acts + 1, setF st.L ⟨(toldX st s).f0, (toldX st s).f1, ((toldX st s).f1.length : Int)⟩⟩) := by
      rw [show syncS st s = onF st s fun x => (0, ⟨leftF st.left, st.acts + 1, withL st.L s ⟨x.f0, x.f1, (x.f1.length : Int)⟩⟩) from rfl, e1]
      rw [with_set _ e2, e3]
    rw [e4]
    rw [he] at HGT
    try dsimp only
    clear e1 e2 e3 e4 he hA hf hg
    generalize toldX st s = x at HGT
    obtain ⟨x0, x1, x2⟩ := x
    dsimp only at HGT ⊢
    go_enter Try.func45, Try.ntmps45
    go_wp2_with fail
    refine HGT.out.mono ?_
    rintro e w2 ⟨A, c, rfl, hm, hb⟩
    have hm := hm rfl
    dsimp only at hm
    have HPT := Aside0.mk (rput_calls (x := ⟨x0, x1, (x1.length : Int)⟩) (A := A) (c := c) ((HA.out.below hb).alloc (.cells #[.string x0, .slice A x1.length c, .int .i64 (x1.length : Int)] 56)) HF.out HG.out.rise hL hm)
    have HB2 := Aside0.mk ((hb.mono HA.out.size).alloc (HA.out.below hb).size (.cells #[.string x0, .slice A x1.length c, .int .i64 (x1.length : Int)] 56))
    dsimp only at HPT
    clear hm hb HGT HA
    go_wp2_with fail
    refine HPT.out.mono ?_
    rintro e w3 ⟨v3, fs3, rfl, hA, hf3, hB⟩
    have HAC := Aside0.mk (ract_calls hA HG.out.a0 (by have := HG.out.a1; omega) HG.out.l0 HG.out.l1)
    have HF3 := Aside0.mk hf3
    have HB3 := Aside0.mk (HB2.out.trans hB)
    clear hA hf3 hB HPT HB2
    go_wp2_with fail
    refine HAC.out.mono ?_
    rintro e w4 ⟨rfl, hA, hB⟩
    have HA4 := Aside0.mk hA
    have HB4 := Aside0.mk (HB3.out.trans hB)
    clear hA hB HAC HB3
    go_wp2_with fail
    go_ret
    exact ⟨[], rfl, ⟨v3, fs3, HA4.out, HF3.out⟩, HB4.out⟩
  · have e4 : syncS st s = (toldE st s, st) := on_no he
    rw [e4]
    try dsimp only
    obtain ⟨r, hr'⟩ : ∃ r, toldE st s = r := ⟨_, rfl⟩
    rw [hr'] at HGT he ⊢
    rw [told_no (by rw [hr']; exact he)] at HGT
    have d1 : (r != 0) = true := by unfold bne; rw [beq_eq_false_iff_ne.2 he]; rfl
    have d2 : (r == 0) = false := beq_eq_false_iff_ne.2 he
    clear e4 hr' he hA hf hg
    go_enter Try.func45, Try.ntmps45
    go_wp2_with fail
    refine HGT.out.mono ?_
    rintro e w2 ⟨A, c, rfl, -, hb⟩
    have HA2 := Aside0.mk (HA.out.below hb)
    have HB2 := Aside0.mk (hb.mono HA.out.size)
    have HA3 := Aside0.mk ((HA.out.below hb).alloc (.cells #[.string zF.f0, .slice A zF.f1.length c, .int .i64 zF.f2] 56))
    have HB3 := Aside0.mk ((hb.mono HA.out.size).alloc (HA.out.below hb).size (.cells #[.string zF.f0, .slice A zF.f1.length c, .int .i64 zF.f2] 56))
    clear hb HGT HA
    go_wp2_with fail
    go_ret
    exact ⟨[], rfl, ⟨v, fs, HA3.out, HF.out⟩, HB3.out⟩
theorem remove_told {st : Stt} (hr : Rise st.L) {s : ByteArray} (h : toldE st s = 0) : removeS st s = (0, ⟨leftF st.left, st.acts + 1, cutF st.L s.data.toList⟩) := by
  obtain ⟨e1, -, -⟩ := on_yes (do_ := fun x => (0, ⟨leftF st.left, st.acts + 1, withL (cutF st.L s.data.toList) s x⟩)) h
  rw [show removeS st s = onF st s fun x => (0, ⟨leftF st.left, st.acts + 1, withL (cutF st.L s.data.toList) s x⟩) from rfl, e1]
  try dsimp only
  unfold withL
  rw [find_cut hr, if_pos rfl, if_neg (by simp)]
set_option maxHeartbeats 4000000 in
set_option maxRecDepth 100000 in
theorem rremove_calls {B : Nat} {w : World} {q : Nat} {st : Stt} {Ts : List Th} {k : Nat} (h : RefHas B w q st Ts) (hg : Fine st k) (hk : k < 1000000) (s : ByteArray) :
    Calls Try.prog 48 #[ptr q, .string s] w (RMeth B w q (removeS st s).2 (.int .i64 (removeS st s).1) Ts) := by
  obtain ⟨v, fs, hA, hf⟩ := h
  have hL : st.L.length ≤ 1000 := by have := hg.n; omega
  have HRF := Aside0.mk (rrefuse_calls hA (q := q) (v := v) (by simp) (by simp) hf hL s)
  have HCT := Aside0.mk (rcut_calls hA hf hL s)
  have HA := Aside0.mk hA
  have HF := Aside0.mk hf
  have HG := Aside0.mk hg
  by_cases he : toldE st s = 0
  · rw [remove_told hg.rise he]
    rw [he] at HRF
    try dsimp only
    clear he hA hf hg
    go_enter Try.func48, Try.ntmps48
    go_wp2_with fail
    refine HRF.out.mono ?_
    rintro e w2 ⟨rfl, rfl⟩
    go_wp2_with fail
    refine HCT.out.mono ?_
    rintro e w3 ⟨v3, fs3, rfl, hA, hf3, hB⟩
    have HAC := Aside0.mk (ract_calls hA HG.out.a0 (by have := HG.out.a1; omega) HG.out.l0 HG.out.l1)
    have HF3 := Aside0.mk hf3
    have HB3 := Aside0.mk hB
    clear hA hf3 hB HCT
    go_wp2_with fail
    refine HAC.out.mono ?_
    rintro e w4 ⟨rfl, hA, hB⟩
    have HA4 := Aside0.mk hA
    have HB4 := Aside0.mk (HB3.out.trans hB)
    clear hA hB HAC HB3
    go_wp2_with fail
    go_ret
    exact ⟨[], rfl, ⟨v3, fs3, HA4.out, HF3.out⟩, HB4.out⟩
  · have e4 : removeS st s = (toldE st s, st) := on_no he
    rw [e4]
    try dsimp only
    obtain ⟨r, hr'⟩ : ∃ r, toldE st s = r := ⟨_, rfl⟩
    rw [hr'] at HRF he ⊢
    have d1 : (r != 0) = true := by unfold bne; rw [beq_eq_false_iff_ne.2 he]; rfl
    have d2 : (r == 0) = false := beq_eq_false_iff_ne.2 he
    clear e4 hr' he hA hf hg HCT
    go_enter Try.func48, Try.ntmps48
    go_wp2_with fail
    refine HRF.out.mono ?_
    rintro e w2 ⟨rfl, rfl⟩
    go_wp2_with fail
    go_ret
    exact ⟨[], rfl, ⟨v, fs, HA.out, HF.out⟩, Below.refl _ _⟩
set_option maxHeartbeats 4000000 in
set_option maxRecDepth 100000 in
theorem rpower_calls {B : Nat} {w : World} {q : Nat} {st : Stt} {Ts : List Th} (h : RefHas B w q st Ts) (n : Int) :
    Calls Try.prog 49 #[ptr q, .int .i64 n] w (RMeth B w q ⟨maxI n (-1), st.acts, st.L⟩ (.tuple #[]) Ts) := by
  obtain ⟨v, fs, hA, hf⟩ := h
  have HF := Aside0.mk hf
  obtain ⟨c0, c1, c2, cf⟩ := ref_cells hA (List.mem_cons_self ..)
  obtain ⟨hA1, hB1⟩ := (ref_set hA).2.1 n
  obtain ⟨e0, e1, e2, ef⟩ := ref_cells hA1 (List.mem_cons_self ..)
  obtain ⟨hA2, hB2⟩ := (ref_set hA1).2.1 (-1)
  have HA1 := Aside0.mk hA1
  have HA2 := Aside0.mk hA2
  have HB1 := Aside0.mk hB1
  have HB2 := Aside0.mk (hB1.trans hB2)
  have f1 := cf 1
  have g1 := ef 1
  clear hA hA1 hB1 hA2 hB2 cf ef hf
  by_cases hn : n < 0
  · have em : maxI n (-1) = -1 := by unfold maxI; split <;> omega
    have d1 : decide (n < 0) = true := decide_eq_true hn
    rw [em]
    clear em
    go_enter Try.func49, Try.ntmps49
    go_wp2_with fail
    go_end0
    exact ⟨[], rfl, ⟨v, fs, HA2.out, HF.out⟩, HB2.out⟩
  · have em : maxI n (-1) = n := by unfold maxI; rw [if_neg (by omega)]
    have d1 : decide (n < 0) = false := decide_eq_false hn
    rw [em]
    clear em
    go_enter Try.func49, Try.ntmps49
    go_wp2_with fail
    go_end0
    exact ⟨[], rfl, ⟨v, fs, HA1.out, HF.out⟩, HB1.out⟩
end Go.Proofs.Ytibnakpefjjoiaa.Fs
namespace Go.Proofs.Ytibnakpefjjoiaa.Fs
open Go.RowKit Go.Proofs.YtibnakpefjjoiaaW.PrintWords Go.Proofs.YtibnakpefjjoiaaW.PrintLast Go.Proofs.YtibnakpefjjoiaaW.PrintMore Go.Proofs.Ytibnakpefjjoiaa.Q Go.Proofs.Ytibnakpefjjoiaa.Own
set_option linter.unusedVariables false
set_option linter.unusedSimpArgs false
attribute [local go_sem ↓] Go.wp_at_zero Go.wp_at_succ

theorem rename_told {st : Stt} (hr : Rise st.L) {s m : ByteArray} (h : toldE st s = 0) : renameS st s m = if mayF m = true then (0, ⟨leftF st.left, st.acts + 1, setF (cutF st.L s.data.toList) ⟨m, (toldX st s).f1, (toldX st s).f2⟩⟩) else (2, st) := by
  obtain ⟨e1, e2, e3⟩ := on_yes (do_ := fun x => if mayF m = true then (0, ⟨leftF st.left, st.acts + 1, withL (setF (cutF st.L s.data.toList) ⟨m, x.f1, x.f2⟩) s x⟩) else (2, ⟨st.left, st.acts, withL st.L s x⟩)) h
  rw [show renameS st s m = onF st s fun x => if mayF m = true then (0, ⟨leftF st.left, st.acts + 1, withL (setF (cutF st.L s.data.toList) ⟨m, x.f1, x.f2⟩) s x⟩) else (2, ⟨st.left, st.acts, withL st.L s x⟩) from rfl, e1]
  obtain ⟨x, hx, ex⟩ := told_yes h
  rw [ex] at e3 ⊢
  obtain ⟨x0, x1, x2⟩ := x
  dsimp only at e3 ⊢
  subst e3
  by_cases hm : mayF m = true
  · rw [if_pos hm, if_pos hm]
    have e : withL (setF (cutF st.L x0.data.toList) ⟨m, x1, x2⟩) x0 ⟨x0, x1, x2⟩ = setF (cutF st.L x0.data.toList) ⟨m, x1, x2⟩ := by
      by_cases hms : x0 = m
      · subst hms
        refine with_same (set_rise (cut_rise hr _) _) ?_
        rw [find_set (cut_rise hr _), if_pos (show x0.data.toList = nameL ⟨x0, x1, x2⟩ from rfl)]
      · unfold withL
        rw [find_set (cut_rise hr _), if_neg (show ¬ x0.data.toList = nameL ⟨m, x1, x2⟩ from fun q => hms (ByteArray.ext (Array.ext' q))), find_cut hr, if_pos rfl, if_neg (by simp)]
    rw [e]
  · rw [if_neg hm, if_neg hm, with_same hr hx]
set_option maxHeartbeats 4000000 in
set_option maxRecDepth 100000 in
theorem rrename_calls {B : Nat} {w : World} {q : Nat} {st : Stt} {Ts : List Th} {k : Nat} (h : RefHas B w q st Ts) (hg : Fine st k) (hk : k < 1000000) (s m : ByteArray) (hms : m.size ≤ 1000000) :
    Calls Try.prog 47 #[ptr q, .string s, .string m] w (RMeth B w q (renameS st s m).2 (.int .i64 (renameS st s m).1) Ts) := by
  have hu56 := Try.underlying56
  obtain ⟨v, fs, hA, hf⟩ := h
  have hL : st.L.length ≤ 1000 := by have := hg.n; omega
  have HGT := Aside0.mk (rget_calls hA (q := q) (v := v) (by simp) (by simp) hf hL s)
  have HA := Aside0.mk hA
  have HF := Aside0.mk hf
  have HG := Aside0.mk hg
  have hcl : (cutF st.L s.data.toList).length ≤ 1000 := Nat.le_trans (cut_le _ _) hL
  by_cases he : toldE st s = 0
  · rw [rename_told hg.rise he]
    rw [he] at HGT
    generalize toldX st s = x at HGT ⊢
    obtain ⟨x0, x1, x2⟩ := x
    dsimp only at HGT ⊢
    clear he hA hf hg
    by_cases hm : mayF m = true
    · rw [if_pos hm]
      obtain ⟨m1, m2⟩ := of_decide_eq_true hm
      have d1 : decide ((m.size : Int) < 1) = false := decide_eq_false (by omega)
      have d2 : decide ((m.size : Int) > 32) = false := decide_eq_false (by omega)
      have d3 : ¬ m.size < 1 := by omega
      have d4 : ¬ 32 < m.size := by omega
      have d5 : ¬ m.size = 0 := by omega
      clear hm m1 m2
      go_enter Try.func47, Try.ntmps47
      go_wp2_with fail
      refine HGT.out.mono ?_
      rintro e w2 ⟨A, c, rfl, hm, hb⟩
      have HM := Aside0.mk (hm rfl)
      have hA2 := ((HA.out.below hb).box #[.string x0, .slice A x1.length c, .int .i64 x2] 56).back3
      have HCT := Aside0.mk (rcut_calls hA2 HF.out hL s)
      have HB2 := Aside0.mk ((hb.mono HA.out.size).alloc (HA.out.below hb).size (.cells #[.string x0, .slice A x1.length c, .int .i64 x2] 56))
      clear hm hb HGT HA hA2
      go_wp2_with fail
      refine HCT.out.mono ?_
      rintro e w3 ⟨v3, fs3, rfl, hA, hf3, hB⟩
      have HB3 := Aside0.mk (HB2.out.trans hB)
      have HF3 := Aside0.mk hf3
      clear HCT HB2
      generalize w2.heap.size = b at hA ⊢
      obtain ⟨bx, bf, -, -⟩ := hA.box_cell (b := b) (cs := #[.string x0, .slice A x1.length c, .int .i64 x2]) (t := 56) (by simp)
      have z0 : w3.cell? ⟨b, 0, none⟩ = some (.string x0) := bx 0
      have zf := bf 0
      obtain ⟨hA4, hB4⟩ := hA.third.box_set 0 (.string m)
      have hA5 := hA4.back3
      obtain ⟨by_, -, -, -⟩ := hA5.box_cell (b := b) (cs := #[.string m, .slice A x1.length c, .int .i64 x2]) (t := 56) (by simp)
      have y0 : (w3.setCell ⟨b, 0, none⟩ (.string m)).cell? ⟨b, 0, none⟩ = some (.string m) := by_ 0
      have y1 : (w3.setCell ⟨b, 0, none⟩ (.string m)).cell? ⟨b, 1, none⟩ = some (.slice A x1.length c) := by_ 1
      have y2 : (w3.setCell ⟨b, 0, none⟩ (.string m)).cell? ⟨b, 2, none⟩ = some (.int .i64 x2) := by_ 2
      have HPT := Aside0.mk (rput_calls (x := ⟨m, x1, x2⟩) (A := A) (c := c) hA5 HF3.out (cut_rise HG.out.rise _) hcl HM.out)
      have HB5 := Aside0.mk (HB3.out.trans hB4)
      dsimp only at HPT
      clear hA hf3 hB hA4 hB4 hA5 bx bf by_ HB3
      go_wp2_with fail
      refine HPT.out.mono ?_
      rintro e w4 ⟨v4, fs4, rfl, hA, hf4, hB⟩
      have HAC := Aside0.mk (ract_calls hA HG.out.a0 (by have := HG.out.a1; omega) HG.out.l0 HG.out.l1)
      have HF4 := Aside0.mk hf4
      have HB6 := Aside0.mk (HB5.out.trans hB)
      clear hA hf4 hB HPT HB5 y0 y1 y2 z0 zf
      go_wp2_with fail
      refine HAC.out.mono ?_
      rintro e w5 ⟨rfl, hA, hB⟩
      have HA7 := Aside0.mk hA.third.tail
      have HB7 := Aside0.mk (HB6.out.trans hB)
      clear hA hB HAC HB6
      go_wp2_with fail
      go_ret
      exact ⟨[], rfl, ⟨v4, fs4, HA7.out, HF4.out⟩, HB7.out⟩
    · rw [if_neg hm]
      have hmm : m.size < 1 ∨ 32 < m.size := by
        have : ¬ (1 ≤ m.size ∧ m.size ≤ 32) := fun q => hm (decide_eq_true q)
        omega
      have HMM := Aside0.mk hmm
      clear hm hmm
      go_enter Try.func47, Try.ntmps47
      go_wp2_with fail
      refine HGT.out.mono ?_
      rintro e w2 ⟨A, c, rfl, -, hb⟩
      have HA3 := Aside0.mk ((HA.out.below hb).alloc (.cells #[.string x0, .slice A x1.length c, .int .i64 x2] 56))
      have HB3 := Aside0.mk ((hb.mono HA.out.size).alloc (HA.out.below hb).size (.cells #[.string x0, .slice A x1.length c, .int .i64 x2] 56))
      clear hb HGT HA
      by_cases h1 : m.size < 1
      · have d1 : decide ((m.size : Int) < 1) = true := decide_eq_true (by omega)
        have d5 : m.size = 0 := by omega
        go_wp2_with fail
        go_ret
        exact ⟨[], rfl, ⟨v, fs, HA3.out, HF.out⟩, HB3.out⟩
      · have d1 : decide ((m.size : Int) < 1) = false := decide_eq_false (by omega)
        have d2 : decide ((m.size : Int) > 32) = true := decide_eq_true (by have := HMM.out; omega)
        have d4 : 32 < m.size := by have := HMM.out; omega
        have d5 : ¬ m.size = 0 := by omega
        go_wp2_with fail
        go_ret
        exact ⟨[], rfl, ⟨v, fs, HA3.out, HF.out⟩, HB3.out⟩
  · have e4 : renameS st s m = (toldE st s, st) := on_no he
    rw [e4]
    try dsimp only
    obtain ⟨r, hr'⟩ : ∃ r, toldE st s = r := ⟨_, rfl⟩
    rw [hr'] at HGT he ⊢
    rw [told_no (by rw [hr']; exact he)] at HGT
    have d1 : (r != 0) = true := by unfold bne; rw [beq_eq_false_iff_ne.2 he]; rfl
    have d2 : (r == 0) = false := beq_eq_false_iff_ne.2 he
    clear e4 hr' he hA hf hg
    go_enter Try.func47, Try.ntmps47
    go_wp2_with fail
    refine HGT.out.mono ?_
    rintro e w2 ⟨A, c, rfl, -, hb⟩
    have HA3 := Aside0.mk ((HA.out.below hb).alloc (.cells #[.string zF.f0, .slice A zF.f1.length c, .int .i64 zF.f2] 56))
    have HB3 := Aside0.mk ((hb.mono HA.out.size).alloc (HA.out.below hb).size (.cells #[.string zF.f0, .slice A zF.f1.length c, .int .i64 zF.f2] 56))
    clear hb HGT HA
    go_wp2_with fail
    go_ret
    exact ⟨[], rfl, ⟨v, fs, HA3.out, HF.out⟩, HB3.out⟩
end Go.Proofs.Ytibnakpefjjoiaa.Fs
namespace Go.Proofs.Ytibnakpefjjoiaa.Fs
open Go.RowKit Go.Proofs.YtibnakpefjjoiaaW.PrintWords Go.Proofs.YtibnakpefjjoiaaW.PrintLast Go.Proofs.YtibnakpefjjoiaaW.PrintMore Go.Proofs.Ytibnakpefjjoiaa.Q Go.Proofs.Ytibnakpefjjoiaa.Own
set_option linter.unusedVariables false
set_option linter.unusedSimpArgs false
attribute [local go_sem ↓] Go.wp_at_zero Go.wp_at_succ

theorem trunc_told {st : Stt} (hr : Rise st.L) {s : ByteArray} {n : Int} (h : toldE st s = 0) : truncS st s n = if n < 0 ∨ ((toldX st s).f1.length : Int) < n then (2, st) else (0, ⟨leftF st.left, st.acts + 1, setF st.L ⟨(toldX st s).f0, (toldX st s).f1.take n.toNat, minI (toldX st s).f2 n⟩⟩) := by
  obtain ⟨e1, e2, e3⟩ := on_yes (do_ := fun x => if n < 0 ∨ (x.f1.length : Int) < n then (2, ⟨st.left, st.acts, withL st.L s x⟩) else (0, ⟨leftF st.left, st.acts + 1, withL st.L s ⟨x.f0, x.f1.take n.toNat, minI x.f2 n⟩⟩)) h
  rw [show truncS st s n = onF st s fun x => if n < 0 ∨ (x.f1.length : Int) < n then (2, ⟨st.left, st.acts, withL st.L s x⟩) else (0, ⟨leftF st.left, st.acts + 1, withL st.L s ⟨x.f0, x.f1.take n.toNat, minI x.f2 n⟩⟩) from rfl, e1]
  obtain ⟨x, hx, ex⟩ := told_yes h
  rw [ex] at e3 ⊢
  by_cases hn : n < 0 ∨ (x.f1.length : Int) < n
  · rw [if_pos hn, if_pos hn, with_same hr hx]
  · rw [if_neg hn, if_neg hn, with_set _ e2, e3]
theorem lit_rowB0 {B : Nat} {w : World} {Ts : List Th} (h : Has B w Ts) : Has B (w.alloc (.cells #[] 5)) (rowT kB 5 (.slice (some ⟨w.heap.size, 0, none⟩) 0 0) [] :: Ts) :=
  h.row ((Below.refl _ w).alloc (Nat.le_refl _) _) ⟨fun _ _ => trivial, OwnRow.lit (ps := ([] : List Int)) w w.heap.size (inner := []) (Reps.none _ _) (Nat.le_refl _) (Nat.zero_le _)⟩
set_option maxHeartbeats 4000000 in
set_option maxRecDepth 100000 in
theorem rtrunc_calls {B : Nat} {w : World} {q : Nat} {st : Stt} {Ts : List Th} {k : Nat} (h : RefHas B w q st Ts) (hg : Fine st k) (hk : k < 1000000) (s : ByteArray) (n : Int) :
    Calls Try.prog 46 #[ptr q, .string s, .int .i64 n] w (RMeth B w q (truncS st s n).2 (.int .i64 (truncS st s n).1) Ts) := by
  have hu56 := Try.underlying56
  obtain ⟨v, fs, hA, hf⟩ := h
  have hL : st.L.length ≤ 1000 := by have := hg.n; omega
  have HGT := Aside0.mk (rget_calls hA (q := q) (v := v) (by simp) (by simp) hf hL s)
  have HA := Aside0.mk hA
  have HF := Aside0.mk hf
  have HG := Aside0.mk hg
  by_cases he : toldE st s = 0
  · rw [trunc_told hg.rise he]
    rw [he] at HGT
    have hfew : (toldX st s).f1.length ≤ 1048576 := by
      obtain ⟨x, hx, ex⟩ := told_yes he
      rw [ex]
      exact hg.few x (find_mem hx).1
    generalize toldX st s = x at HGT hfew ⊢
    obtain ⟨x0, x1, x2⟩ := x
    dsimp only at HGT hfew ⊢
    clear he hA hf hg
    by_cases hn : n < 0 ∨ (x1.length : Int) < n
    · rw [if_pos hn]
      have HN := Aside0.mk hn
      clear hn
      go_enter Try.func46, Try.ntmps46
      go_wp2_with fail
      refine HGT.out.mono ?_
      rintro e w2 ⟨A, c, rfl, -, hb⟩
      have HA3 := Aside0.mk ((HA.out.below hb).alloc (.cells #[.string x0, .slice A x1.length c, .int .i64 x2] 56))
      have HB3 := Aside0.mk ((hb.mono HA.out.size).alloc (HA.out.below hb).size (.cells #[.string x0, .slice A x1.length c, .int .i64 x2] 56))
      clear hb HGT HA
      by_cases h1 : n < 0
      · have d1 : decide (n < 0) = true := decide_eq_true h1
        go_wp2_with fail
        go_ret
        exact ⟨[], rfl, ⟨v, fs, HA3.out, HF.out⟩, HB3.out⟩
      · have d1 : decide (n < 0) = false := decide_eq_false h1
        have h2 : (x1.length : Int) < n := by have := HN.out; omega
        have d2 : decide (n > (x1.length : Int)) = true := decide_eq_true (by omega)
        go_wp2_with fail
        go_ret
        exact ⟨[], rfl, ⟨v, fs, HA3.out, HF.out⟩, HB3.out⟩
    · rw [if_neg hn]
      obtain ⟨m, rfl⟩ : ∃ m : Nat, n = (m : Int) := ⟨n.toNat, by omega⟩
      rw [Int.toNat_natCast]
      have hml : m ≤ x1.length := by omega
      obtain ⟨ys, hys⟩ : ∃ ys, x1.take m = ys := ⟨_, rfl⟩
      have HYL : Aside0 (ys.length = m ∧ m ≤ 1048576) := ⟨by rw [← hys, List.length_take]; omega⟩
      have HYS := Aside0.mk hys
      rw [hys]
      have d1 : decide ((m : Int) < 0) = false := decide_eq_false (by omega)
      have d2 : decide ((m : Int) > (x1.length : Int)) = false := decide_eq_false (by omega)
      have d3 : ¬ x1.length < m := by omega
      have d4 : decide (0 ≤ (m : Int)) = true := decide_eq_true (by omega)
      clear hn hys
      go_enter Try.func46, Try.ntmps46
      go_wp2_with fail
      refine HGT.out.mono ?_
      rintro e w2 ⟨A, c, rfl, hm, hb⟩
      have hm := hm rfl
      dsimp only at hm
      obtain ⟨_, _, ev, hcc, hC⟩ := (HA.out.below hb).reads (d := kB) (e := 5) (v := .slice A x1.length c) (xs := x1) (by simp [hm])
      obtain ⟨rfl, -, rfl⟩ : A = _ ∧ _ ∧ c = _ := by injection ev with e1 e2 e3; exact ⟨e1, e2, e3⟩
      have hmc : m ≤ c := by omega
      have hA2 := (HA.out.below hb).box #[.string x0, .slice A x1.length c, .int .i64 x2] 56
      have HE := Aside0.mk (lit_rowB0 hA2)
      have HYC : Aside0 (Kd.C kB ((w2.alloc (.cells #[.string x0, .slice A x1.length c, .int .i64 x2] 56)).alloc (.cells #[] 5)) A ys.length ys) := ⟨by
        have := Kd.C_take hC hml
        rw [HYS.out] at this
        exact Kd.C_alloc (Kd.C_alloc this _) _⟩
      have HB3 := Aside0.mk (((hb.mono HA.out.size).alloc (HA.out.below hb).size (.cells #[.string x0, .slice A x1.length c, .int .i64 x2] 56)).alloc hA2.size (.cells #[] 5))
      clear ev hC hm hb HGT HA hA2 HYS
      rw [World.size_alloc] at HE
      generalize hbb : w2.heap.size = b at HE
      by_cases hx2 : (m : Int) < x2
      · have em : minI x2 (m : Int) = (m : Int) := by unfold minI; rw [if_pos hx2]
        have d5 : decide (x2 > (m : Int)) = true := decide_eq_true hx2
        have EM := Aside0.mk em
        clear em
        go_wp2_with (refine app_rows kB HE.out rfl _ _ 23 (.int .u8 0) 1 rfl Try.underlying23 inf5 rfl (by decide) (by decide) A c rfl (by rw [HYL.out.1]; rfl) HYC.out (fun x cs hx => mk_u8 hx) (by show (0 + ys.length) * 1 ≤ 140737488355328; have := HYL.out.1; have := HYL.out.2; omega) ?_; rintro v5 w5 hA5 hB5; have hA5' : Has B w5 (rowB v5 ys :: boxT b #[.string x0, .slice A x1.length c, .int .i64 x2] 56 :: refB q v st.left st.acts :: rowF v fs :: Ts) := hA5; obtain ⟨A5, c5, rfl, -, -⟩ := hA5'.reads (d := kB) (e := 5) (v := v5) (xs := ys) (by simp); obtain ⟨bx, bf, -, -⟩ := hA5'.box_cell (b := b) (cs := #[.string x0, .slice A x1.length c, .int .i64 x2]) (t := 56) (by simp); have y0 : w5.cell? ⟨b, 0, none⟩ = some (.string x0) := bx 0; have y1 : w5.cell? ⟨b, 1, none⟩ = some (.slice A x1.length c) := bx 1; have y2 : w5.cell? ⟨b, 2, none⟩ = some (.int .i64 x2) := bx 2; have zf1 := bf 1; have zf2 := bf 2; obtain ⟨hA6, hB6⟩ := hA5'.swap.box_set 1 (.slice A5 ys.length c5); obtain ⟨hA7, hB7⟩ := hA6.box_set 2 (.int .i64 (m : Int)); have HB7 := Aside0.mk (((HB3.out.trans hB5).trans hB6).trans hB7); have HPT := Aside0.mk (rput_calls (x := ⟨x0, ys, (m : Int)⟩) (A := A5) (c := c5) (Us := rowB (.slice A5 ys.length c5) ys :: Ts) (show Has B ((w5.setCell ⟨b, 1, none⟩ (.slice A5 ys.length c5)).setCell ⟨b, 2, none⟩ (.int .i64 (m : Int))) (refB q v st.left st.acts :: rowF v fs :: boxT b #[.string x0, .slice A5 ys.length c5, .int .i64 (m : Int)] 56 :: rowB (.slice A5 ys.length c5) ys :: Ts) from hA7.perm ((List.perm_append_comm (l₁ := [_, _]) (l₂ := [_, _])).append_right _)) (HF.out.more fun T hT => List.mem_cons_of_mem _ hT) HG.out.rise hL (List.mem_cons_self ..)); dsimp only at HPT; clear hA5 hA5' hB5 bx bf hA6 hB6 hA7 hB7 HB3 HE HYC)
        refine HPT.out.mono ?_
        rintro e w6 ⟨v4, fs4, rfl, hA, hf4, hB⟩
        have HAC := Aside0.mk (ract_calls hA HG.out.a0 (by have := HG.out.a1; omega) HG.out.l0 HG.out.l1)
        have HF4 := Aside0.mk hf4
        have HB8 := Aside0.mk (HB7.out.trans hB)
        clear hA hf4 hB HPT HB7 y0 y1 y2 zf1 zf2
        go_wp2_with fail
        refine HAC.out.mono ?_
        rintro e w7 ⟨rfl, hA, hB⟩
        have HA9 := Aside0.mk hA.third.tail
        have HB9 := Aside0.mk (HB8.out.trans hB)
        clear hA hB HAC HB8
        go_wp2_with fail
        go_ret
        exact ⟨[_], rfl, ⟨v4, fs4, HA9.out, by show FsOk (setF st.L ⟨x0, ys, minI x2 (m : Int)⟩) _ _; rw [EM.out]; exact HF4.out⟩, HB9.out⟩
      · have em : minI x2 (m : Int) = x2 := by unfold minI; rw [if_neg hx2]
        have d5 : decide (x2 > (m : Int)) = false := decide_eq_false hx2
        have EM := Aside0.mk em
        clear em
        go_wp2_with (refine app_rows kB HE.out rfl _ _ 23 (.int .u8 0) 1 rfl Try.underlying23 inf5 rfl (by decide) (by decide) A c rfl (by rw [HYL.out.1]; rfl) HYC.out (fun x cs hx => mk_u8 hx) (by show (0 + ys.length) * 1 ≤ 140737488355328; have := HYL.out.1; have := HYL.out.2; omega) ?_; rintro v5 w5 hA5 hB5; have hA5' : Has B w5 (rowB v5 ys :: boxT b #[.string x0, .slice A x1.length c, .int .i64 x2] 56 :: refB q v st.left st.acts :: rowF v fs :: Ts) := hA5; obtain ⟨A5, c5, rfl, -, -⟩ := hA5'.reads (d := kB) (e := 5) (v := v5) (xs := ys) (by simp); obtain ⟨bx, bf, -, -⟩ := hA5'.box_cell (b := b) (cs := #[.string x0, .slice A x1.length c, .int .i64 x2]) (t := 56) (by simp); have y0 : w5.cell? ⟨b, 0, none⟩ = some (.string x0) := bx 0; have y1 : w5.cell? ⟨b, 1, none⟩ = some (.slice A x1.length c) := bx 1; have y2 : w5.cell? ⟨b, 2, none⟩ = some (.int .i64 x2) := bx 2; have zf1 := bf 1; have zf2 := bf 2; obtain ⟨hA6, hB6⟩ := hA5'.swap.box_set 1 (.slice A5 ys.length c5); have hA7 := hA6; have HB7 := Aside0.mk ((HB3.out.trans hB5).trans hB6); have hB7 := hB6; have HPT := Aside0.mk (rput_calls (x := ⟨x0, ys, x2⟩) (A := A5) (c := c5) (Us := rowB (.slice A5 ys.length c5) ys :: Ts) (show Has B (w5.setCell ⟨b, 1, none⟩ (.slice A5 ys.length c5)) (refB q v st.left st.acts :: rowF v fs :: boxT b #[.string x0, .slice A5 ys.length c5, .int .i64 x2] 56 :: rowB (.slice A5 ys.length c5) ys :: Ts) from hA7.perm ((List.perm_append_comm (l₁ := [_, _]) (l₂ := [_, _])).append_right _)) (HF.out.more fun T hT => List.mem_cons_of_mem _ hT) HG.out.rise hL (List.mem_cons_self ..)); dsimp only at HPT; clear hA5 hA5' hB5 bx bf hA6 hB6 hA7 hB7 HB3 HE HYC)
        refine HPT.out.mono ?_
        rintro e w6 ⟨v4, fs4, rfl, hA, hf4, hB⟩
        have HAC := Aside0.mk (ract_calls hA HG.out.a0 (by have := HG.out.a1; omega) HG.out.l0 HG.out.l1)
        have HF4 := Aside0.mk hf4
        have HB8 := Aside0.mk (HB7.out.trans hB)
        clear hA hf4 hB HPT HB7 y0 y1 y2 zf1 zf2
        go_wp2_with fail
        refine HAC.out.mono ?_
        rintro e w7 ⟨rfl, hA, hB⟩
        have HA9 := Aside0.mk hA.third.tail
        have HB9 := Aside0.mk (HB8.out.trans hB)
        clear hA hB HAC HB8
        go_wp2_with fail
        go_ret
        exact ⟨[_], rfl, ⟨v4, fs4, HA9.out, by show FsOk (setF st.L ⟨x0, ys, minI x2 (m : Int)⟩) _ _; rw [EM.out]; exact HF4.out⟩, HB9.out⟩
  · have e4 : truncS st s n = (toldE st s, st) := on_no he
    rw [e4]
    try dsimp only
    obtain ⟨r, hr'⟩ : ∃ r, toldE st s = r := ⟨_, rfl⟩
    rw [hr'] at HGT he ⊢
    rw [told_no (by rw [hr']; exact he)] at HGT
    have d1 : (r != 0) = true := by unfold bne; rw [beq_eq_false_iff_ne.2 he]; rfl
    have d2 : (r == 0) = false := beq_eq_false_iff_ne.2 he
    clear e4 hr' he hA hf hg
    go_enter Try.func46, Try.ntmps46
    go_wp2_with fail
    refine HGT.out.mono ?_
    rintro e w2 ⟨A, c, rfl, -, hb⟩
    have HA3 := Aside0.mk ((HA.out.below hb).alloc (.cells #[.string zF.f0, .slice A zF.f1.length c, .int .i64 zF.f2] 56))
    have HB3 := Aside0.mk ((hb.mono HA.out.size).alloc (HA.out.below hb).size (.cells #[.string zF.f0, .slice A zF.f1.length c, .int .i64 zF.f2] 56))
    clear hb HGT HA
    go_wp2_with fail
    go_ret
    exact ⟨[], rfl, ⟨v, fs, HA3.out, HF.out⟩, HB3.out⟩
end Go.Proofs.Ytibnakpefjjoiaa.Fs
namespace Go.Proofs.Ytibnakpefjjoiaa.Fs
open Go.RowKit Go.Proofs.YtibnakpefjjoiaaW.PrintWords Go.Proofs.YtibnakpefjjoiaaW.PrintLast Go.Proofs.YtibnakpefjjoiaaW.PrintMore Go.Proofs.Ytibnakpefjjoiaa.Q Go.Proofs.Ytibnakpefjjoiaa.Own
set_option linter.unusedVariables false
set_option linter.unusedSimpArgs false
attribute [local go_sem ↓] Go.wp_at_zero Go.wp_at_succ

set_option maxHeartbeats 4000000 in
set_option maxRecDepth 100000 in
theorem rappend_calls {B : Nat} {w : World} {q : Nat} {st : Stt} {Ts : List Th} {k : Nat} (h : RefHas B w q st Ts) (hg : Fine st k) (hk : k < 1000000) {s : ByteArray} (hs : s.size ≤ 1000000) {A2 : Option Addr} {c2 : Nat} {ys : List Int} (hY : ∀ w', Below B w w' → Kd.C kB w' A2 ys.length ys) (hy : ys.length ≤ 10000000) :
    Calls Try.prog 51 #[ptr q, .string s, .slice A2 ys.length c2] w (RMeth B w q (appendS st s ys).2 (.int .i64 (appendS st s ys).1) Ts) := by
  have hu56 := Try.underlying56
  have HYC := Aside0.mk hY
  obtain ⟨v, fs, hA, hf⟩ := h
  have hL : st.L.length ≤ 1000 := by have := hg.n; omega
  have HD := Aside0.mk (rdead_calls hA (q := q) (v := v) (left := st.left) (acts := st.acts) (by simp))
  have HA := Aside0.mk hA
  have HF := Aside0.mk hf
  have HG := Aside0.mk hg
  unfold appendS
  by_cases hl : st.left = 0
  · rw [if_pos hl]
    rw [show (st.left == 0) = true from beq_iff_eq.2 hl] at HD
    clear hA hf hg hY hl
    go_enter Try.func51, Try.ntmps51
    go_wp2_with fail
    refine HD.out.mono ?_
    rintro e w1 ⟨rfl, rfl⟩
    go_wp2_with fail
    go_ret
    exact ⟨[], rfl, ⟨v, fs, HA.out, HF.out⟩, Below.refl _ _⟩
  rw [if_neg hl]
  rw [show (st.left == 0) = false from beq_eq_false_iff_ne.2 hl] at HD
  by_cases hm : mayF s = false
  · rw [if_pos hm]
    have hmm : s.size < 1 ∨ 32 < s.size := by
      have : ¬ (1 ≤ s.size ∧ s.size ≤ 32) := fun q => by
        unfold mayF at hm
        rw [decide_eq_true q] at hm
        cases hm
      omega
    have HMM := Aside0.mk hmm
    clear hA hf hg hY hl hm hmm
    go_enter Try.func51, Try.ntmps51
    go_wp2_with fail
    refine HD.out.mono ?_
    rintro e w1 ⟨rfl, rfl⟩
    by_cases h1 : s.size < 1
    · have d1 : decide ((s.size : Int) < 1) = true := decide_eq_true (by omega)
      have d5 : s.size = 0 := by omega
      go_wp2_with fail
      go_ret
      exact ⟨[], rfl, ⟨v, fs, HA.out, HF.out⟩, Below.refl _ _⟩
    · have d1 : decide ((s.size : Int) < 1) = false := decide_eq_false (by omega)
      have d2 : decide ((s.size : Int) > 32) = true := decide_eq_true (by have := HMM.out; omega)
      have d4 : 32 < s.size := by have := HMM.out; omega
      have d5 : ¬ s.size = 0 := by omega
      go_wp2_with fail
      go_ret
      exact ⟨[], rfl, ⟨v, fs, HA.out, HF.out⟩, Below.refl _ _⟩
  rw [if_neg hm]
  have hmm : 1 ≤ s.size ∧ s.size ≤ 32 := by
    cases hq : mayF s with
    | true => exact of_decide_eq_true hq
    | false => exact absurd hq hm
  obtain ⟨m1, m2⟩ := hmm
  have d1 : decide ((s.size : Int) < 1) = false := decide_eq_false (by omega)
  have d2 : decide ((s.size : Int) > 32) = false := decide_eq_false (by omega)
  have d3 : ¬ s.size < 1 := by omega
  have d4 : ¬ 32 < s.size := by omega
  have d5 : ¬ s.size = 0 := by omega
  have HFI := Aside0.mk (fun cs => rfind_calls (hA.alloc (.cells cs 56)) (q := q) (v := v) (left := st.left) (acts := st.acts) (by simp) (by simp) hf hL s)
  clear hm m1 m2 hl hY
  cases hx : findF st.L s.data.toList with
  | none =>
    have hz := find_z.1.2 hx
    have eX : appendX st s = zF := by unfold appendX; rw [hx]; rfl
    have hfull : fullF st s = decide (64 ≤ st.L.length) := by unfold fullF; rw [hx]; rfl
    have hlong : longF st s ys.length = decide (1048576 < ys.length) := by
      unfold longF
      rw [eX]
      exact decide_eq_decide.2 (by show (1048576 : Int) - 0 < (ys.length : Int) ↔ _; omega)
    rw [eX, hlong, hfull]
    have HX0 : Aside0 (Kd.C kB w none ([] : List Int).length []) := ⟨Kd.C_nil _ _⟩
    have HBD : Aside0 (([] : List Int).length + ys.length ≤ 20000000) := ⟨by rw [List.length_nil]; omega⟩
    generalize findZ st.L s.data.toList = z at HFI hz
    have e1 : decide (z ≥ 0) = false := decide_eq_false (by omega)
    have e2 : decide (z < 0) = true := decide_eq_true hz
    have e3 : ¬ 0 ≤ z := by omega
    obtain ⟨c0, -, -, -⟩ := ref_cells hA (q := q) (v := v) (left := st.left) (acts := st.acts) (by simp)
    obtain ⟨A, c, ev, -, hC⟩ := hA.reads (d := kF) (e := 56) (v := v) (xs := fs) (by simp)
    rw [ev, hf.1] at c0
    have c0 := fun o => cell_al o c0
    clear hx eX hfull hlong hA hf hg ev hC
    by_cases hlg : 1048576 < ys.length
    · rw [if_pos (decide_eq_true hlg)]
      have f1 : decide ((0 : Int) + (ys.length : Int) > 1048576) = true := decide_eq_true (by omega)
      have f2 : decide ((ys.length : Int) > 1048576) = true := decide_eq_true (by omega)
      go_enter Try.func51, Try.ntmps51
      go_wp2_with fail
      refine HD.out.mono ?_
      rintro e w1 ⟨rfl, rfl⟩
      go_wp2_with fail
      refine (HFI.out _).mono ?_
      rintro e w1 ⟨rfl, rfl⟩
      have HA3 := Aside0.mk (HA.out.alloc (.cells #[.string s, .slice none 0 0, .int .i64 0] 56))
      have HB3 := Aside0.mk ((Below.refl B w).alloc HA.out.size (.cells #[.string s, .slice none 0 0, .int .i64 0] 56))
      go_wp2_with fail
      go_ret
      exact ⟨[], rfl, ⟨v, fs, HA3.out, HF.out⟩, HB3.out⟩
    rw [if_neg (show ¬ decide (1048576 < ys.length) = true by rw [decide_eq_false hlg]; exact Bool.false_ne_true)]
    have f2 : decide ((ys.length : Int) > 1048576) = false := decide_eq_false (by omega)
    by_cases hfl : 64 ≤ st.L.length
    · rw [if_pos (decide_eq_true hfl)]
      have f3 : decide ((st.L.length : Int) ≥ 64) = true := decide_eq_true (by omega)
      go_enter Try.func51, Try.ntmps51
      go_wp2_with fail
      refine HD.out.mono ?_
      rintro e w1 ⟨rfl, rfl⟩
      go_wp2_with fail
      refine (HFI.out _).mono ?_
      rintro e w1 ⟨rfl, rfl⟩
      have HA3 := Aside0.mk (HA.out.alloc (.cells #[.string s, .slice none 0 0, .int .i64 0] 56))
      have HB3 := Aside0.mk ((Below.refl B w).alloc HA.out.size (.cells #[.string s, .slice none 0 0, .int .i64 0] 56))
      go_wp2_with fail
      go_ret
      exact ⟨[], rfl, ⟨v, fs, HA3.out, HF.out⟩, HB3.out⟩
    rw [if_neg (show ¬ decide (64 ≤ st.L.length) = true by rw [decide_eq_false hfl]; exact Bool.false_ne_true)]
    have f3 : decide ((st.L.length : Int) ≥ 64) = false := decide_eq_false (by omega)
    rw [show zF.f1 = ([] : List Int) from rfl, show zF.f2 = (0 : Int) from rfl]
    go_enter Try.func51, Try.ntmps51
    go_wp2_with fail
    refine HD.out.mono ?_
    rintro e w1 ⟨rfl, rfl⟩
    go_wp2_with fail
    refine (HFI.out _).mono ?_
    rintro e w1 ⟨rfl, rfl⟩
    have hE := HA.out.box #[.string s, .slice none 0 0, .int .i64 0] 56
    have HE := Aside0.mk (lit_rowB0 hE)
    have HXC : Aside0 (Kd.C kB ((w.alloc (.cells #[.string s, .slice none 0 0, .int .i64 0] 56)).alloc (.cells #[] 5)) none ([] : List Int).length []) := ⟨Kd.C_alloc (Kd.C_alloc HX0.out _) _⟩
    have HB3 := Aside0.mk (((Below.refl B w).alloc HA.out.size (.cells #[.string s, .slice none 0 0, .int .i64 0] 56)).alloc hE.size (.cells #[] 5))
    rw [World.size_alloc] at HE
    clear hE
    generalize hbb : w.heap.size = b at HE
    go_wp2_with (first | (refine app_rows kB HE.out rfl _ _ 23 (.int .u8 0) 1 rfl Try.underlying23 inf5 rfl (by decide) (by decide) none 0 rfl rfl HXC.out (fun x cs hx => mk_u8 hx) (by show (0 + ([] : List Int).length) * 1 ≤ 140737488355328; have := HBD.out; omega) ?_; rintro v4 w4 hA4 hB4; have hA4' : Has B w4 (rowB v4 [] :: boxT b #[.string s, .slice none 0 0, .int .i64 0] 56 :: refB q v st.left st.acts :: rowF v fs :: Ts) := hA4; have HA4 := Aside0.mk hA4'; have HB4 := Aside0.mk (HB3.out.trans hB4); clear hA4 hA4' hB4 HE HB3 HXC) | (refine app_rows kB HA4.out rfl _ _ 23 (.int .u8 0) 1 rfl Try.underlying23 inf5 rfl (by decide) (by decide) A2 c2 rfl rfl (HYC.out w4 HB4.out) (fun x cs hx => mk_u8 hx) (by have := HBD.out; omega) ?_; rintro v5 w5 hA5 hB5; obtain ⟨A5, c5, rfl, -, -⟩ := hA5.reads (d := kB) (e := 5) (v := v5) (xs := [] ++ ys) (by simp); obtain ⟨bx, bf, -, -⟩ := hA5.box_cell (b := b) (cs := #[.string s, .slice none 0 0, .int .i64 0]) (t := 56) (by simp); have y0 : w5.cell? ⟨b, 0, none⟩ = some (.string s) := bx 0; have y1 : w5.cell? ⟨b, 1, none⟩ = some (.slice none 0 0) := bx 1; have y2 : w5.cell? ⟨b, 2, none⟩ = some (.int .i64 0) := bx 2; have zf1 := bf 1; obtain ⟨hA6, hB6⟩ := hA5.swap.box_set 1 (.slice A5 ([] ++ ys).length c5); have HB7 := Aside0.mk ((HB4.out.trans hB5).trans hB6); have HPT := Aside0.mk (rput_calls (x := ⟨s, [] ++ ys, 0⟩) (A := A5) (c := c5) (Us := rowB (.slice A5 ([] ++ ys).length c5) ([] ++ ys) :: Ts) (show Has B (w5.setCell ⟨b, 1, none⟩ (.slice A5 ([] ++ ys).length c5)) (refB q v st.left st.acts :: rowF v fs :: boxT b #[.string s, .slice A5 ([] ++ ys).length c5, .int .i64 0] 56 :: rowB (.slice A5 ([] ++ ys).length c5) ([] ++ ys) :: Ts) from hA6.perm ((List.perm_append_comm (l₁ := [_, _]) (l₂ := [_, _])).append_right _)) (HF.out.more fun T hT => List.mem_cons_of_mem _ hT) HG.out.rise hL (List.mem_cons_self ..)); dsimp only at HPT; clear hA5 hB5 bx bf hA6 hB6 HB4 HA4))
    refine HPT.out.mono ?_
    rintro e w6 ⟨v4, fs4, rfl, hA, hf4, hB⟩
    have HAC := Aside0.mk (ract_calls hA HG.out.a0 (by have := HG.out.a1; omega) HG.out.l0 HG.out.l1)
    have HF4 := Aside0.mk hf4
    have HB8 := Aside0.mk (HB7.out.trans hB)
    clear hA hf4 hB HPT HB7 y0 y1 y2 zf1
    go_wp2_with fail
    refine HAC.out.mono ?_
    rintro e w7 ⟨rfl, hA, hB⟩
    have HA9 := Aside0.mk hA.third.tail
    have HB9 := Aside0.mk (HB8.out.trans hB)
    clear hA hB HAC HB8
    go_wp2_with fail
    go_ret
    exact ⟨[_], rfl, ⟨v4, fs4, HA9.out, HF4.out⟩, HB9.out⟩
  | some x =>
    obtain ⟨i, hz, hi⟩ := find_z.2 x hx
    rw [hz] at HFI
    obtain ⟨hil, hie⟩ := List.getElem?_eq_some_iff.1 hi
    obtain ⟨A', c', hfx, hmem⟩ := hf.2 i hil
    rw [hie] at hfx hmem
    have eX : appendX st s = x := by unfold appendX; rw [hx]; rfl
    have hfull : fullF st s = false := by unfold fullF; rw [hx]; rfl
    have hlong : longF st s ys.length = decide (1048576 < x.f1.length + ys.length) := by
      unfold longF
      rw [eX]
      exact decide_eq_decide.2 (by omega)
    have hfew : x.f1.length ≤ 1048576 := hg.few x (find_mem hx).1
    have hxs : x.f0 = s := (name_iff x s).2 (find_mem hx).2
    rw [eX, hlong, hfull]
    obtain ⟨c0, -, -, -⟩ := ref_cells hA (q := q) (v := v) (left := st.left) (acts := st.acts) (by simp)
    obtain ⟨A, c, ev, -, hC⟩ := hA.reads (d := kF) (e := 56) (v := v) (xs := fs) (by simp)
    obtain ⟨ad, rfl, q0, q1, q2⟩ := at_F hC i hfx
    rw [ev, hf.1] at c0
    obtain ⟨x0, x1, x2⟩ := x
    dsimp only at q0 q1 q2 hxs hmem hfew hlong ⊢
    subst hxs
    obtain ⟨_, _, ev2, hcc, hC2⟩ := hA.reads (d := kB) (e := 5) (v := .slice A' x1.length c') (xs := x1) (by simp [hmem])
    obtain ⟨rfl, -, rfl⟩ : A' = _ ∧ _ ∧ c' = _ := by injection ev2 with e1 e2 e3; exact ⟨e1, e2, e3⟩
    have HX0 := Aside0.mk hC2
    have HBD : Aside0 (x1.length + ys.length ≤ 20000000) := ⟨by omega⟩
    have c0 := fun o => cell_al o c0
    have q0 := fun o => cell_al o q0
    have q1 := fun o => cell_al o q1
    have q2 := fun o => cell_al o q2
    have e1 : decide ((i : Int) ≥ 0) = true := decide_eq_true (by omega)
    have e2 : decide ((i : Int) < 0) = false := decide_eq_false (by omega)
    have e4 : decide ((i : Int) < (st.L.length : Int)) = true := decide_eq_true (by omega)
    have e5 : decide (0 ≤ (i : Int)) = true := decide_eq_true (by omega)
    clear hx eX hfull hlong hA hf hg ev hC ev2 hC2 hz hi hie hfx hmem
    by_cases hlg : 1048576 < x1.length + ys.length
    · rw [if_pos (decide_eq_true hlg)]
      have f1 : decide ((x1.length : Int) + (ys.length : Int) > 1048576) = true := decide_eq_true (by omega)
      have f2 : 1048576 < (x1.length : Int) + (ys.length : Int) := by omega
      go_enter Try.func51, Try.ntmps51
      go_wp2_with fail
      refine HD.out.mono ?_
      rintro e w1 ⟨rfl, rfl⟩
      go_wp2_with fail
      refine (HFI.out _).mono ?_
      rintro e w1 ⟨rfl, rfl⟩
      have HA3 := Aside0.mk (HA.out.alloc (.cells #[.string x0, .slice A' x1.length c', .int .i64 x2] 56))
      have HB3 := Aside0.mk ((Below.refl B w).alloc HA.out.size (.cells #[.string x0, .slice A' x1.length c', .int .i64 x2] 56))
      go_wp2_with fail
      go_ret
      exact ⟨[], rfl, ⟨v, fs, HA3.out, HF.out⟩, HB3.out⟩
    rw [if_neg (show ¬ decide (1048576 < x1.length + ys.length) = true by rw [decide_eq_false hlg]; exact Bool.false_ne_true), if_neg (show ¬ false = true from Bool.false_ne_true)]
    have f1 : decide ((x1.length : Int) + (ys.length : Int) > 1048576) = false := decide_eq_false (by omega)
    have f2 : ¬ 1048576 < (x1.length : Int) + (ys.length : Int) := by omega
    go_enter Try.func51, Try.ntmps51
    go_wp2_with fail
    refine HD.out.mono ?_
    rintro e w1 ⟨rfl, rfl⟩
    go_wp2_with fail
    refine (HFI.out _).mono ?_
    rintro e w1 ⟨rfl, rfl⟩
    have hE := HA.out.box #[.string x0, .slice A' x1.length c', .int .i64 x2] 56
    have HE := Aside0.mk (lit_rowB0 hE)
    have HXC : Aside0 (Kd.C kB ((w.alloc (.cells #[.string x0, .slice A' x1.length c', .int .i64 x2] 56)).alloc (.cells #[] 5)) A' (x1 : List Int).length x1) := ⟨Kd.C_alloc (Kd.C_alloc HX0.out _) _⟩
    have HB3 := Aside0.mk (((Below.refl B w).alloc HA.out.size (.cells #[.string x0, .slice A' x1.length c', .int .i64 x2] 56)).alloc hE.size (.cells #[] 5))
    rw [World.size_alloc] at HE
    clear hE
    generalize hbb : w.heap.size = b at HE
    go_wp2_with (first | (refine app_rows kB HE.out rfl _ _ 23 (.int .u8 0) 1 rfl Try.underlying23 inf5 rfl (by decide) (by decide) A' c' rfl rfl HXC.out (fun x cs hx => mk_u8 hx) (by show (0 + (x1 : List Int).length) * 1 ≤ 140737488355328; have := HBD.out; omega) ?_; rintro v4 w4 hA4 hB4; have hA4' : Has B w4 (rowB v4 x1 :: boxT b #[.string x0, .slice A' x1.length c', .int .i64 x2] 56 :: refB q v st.left st.acts :: rowF v fs :: Ts) := hA4; have HA4 := Aside0.mk hA4'; have HB4 := Aside0.mk (HB3.out.trans hB4); clear hA4 hA4' hB4 HE HB3 HXC) | (refine app_rows kB HA4.out rfl _ _ 23 (.int .u8 0) 1 rfl Try.underlying23 inf5 rfl (by decide) (by decide) A2 c2 rfl rfl (HYC.out w4 HB4.out) (fun x cs hx => mk_u8 hx) (by have := HBD.out; omega) ?_; rintro v5 w5 hA5 hB5; obtain ⟨A5, c5, rfl, -, -⟩ := hA5.reads (d := kB) (e := 5) (v := v5) (xs := x1 ++ ys) (by simp); obtain ⟨bx, bf, -, -⟩ := hA5.box_cell (b := b) (cs := #[.string x0, .slice A' x1.length c', .int .i64 x2]) (t := 56) (by simp); have y0 : w5.cell? ⟨b, 0, none⟩ = some (.string x0) := bx 0; have y1 : w5.cell? ⟨b, 1, none⟩ = some (.slice A' x1.length c') := bx 1; have y2 : w5.cell? ⟨b, 2, none⟩ = some (.int .i64 x2) := bx 2; have zf1 := bf 1; obtain ⟨hA6, hB6⟩ := hA5.swap.box_set 1 (.slice A5 (x1 ++ ys).length c5); have HB7 := Aside0.mk ((HB4.out.trans hB5).trans hB6); have HPT := Aside0.mk (rput_calls (x := ⟨x0, x1 ++ ys, x2⟩) (A := A5) (c := c5) (Us := rowB (.slice A5 (x1 ++ ys).length c5) (x1 ++ ys) :: Ts) (show Has B (w5.setCell ⟨b, 1, none⟩ (.slice A5 (x1 ++ ys).length c5)) (refB q v st.left st.acts :: rowF v fs :: boxT b #[.string x0, .slice A5 (x1 ++ ys).length c5, .int .i64 x2] 56 :: rowB (.slice A5 (x1 ++ ys).length c5) (x1 ++ ys) :: Ts) from hA6.perm ((List.perm_append_comm (l₁ := [_, _]) (l₂ := [_, _])).append_right _)) (HF.out.more fun T hT => List.mem_cons_of_mem _ hT) HG.out.rise hL (List.mem_cons_self ..)); dsimp only at HPT; rw [List.length_append] at HPT HB7; clear hA5 hB5 bx bf hA6 hB6 HB4 HA4))
    refine HPT.out.mono ?_
    rintro e w6 ⟨v4, fs4, rfl, hA, hf4, hB⟩
    have HAC := Aside0.mk (ract_calls hA HG.out.a0 (by have := HG.out.a1; omega) HG.out.l0 HG.out.l1)
    have HF4 := Aside0.mk hf4
    have HB8 := Aside0.mk (HB7.out.trans hB)
    clear hA hf4 hB HPT HB7 y0 y1 y2 zf1
    go_wp2_with fail
    refine HAC.out.mono ?_
    rintro e w7 ⟨rfl, hA, hB⟩
    have HA9 := Aside0.mk hA.third.tail
    have HB9 := Aside0.mk (HB8.out.trans hB)
    clear hA hB HAC HB8
    go_wp2_with fail
    go_ret
    exact ⟨[_], rfl, ⟨v4, fs4, HA9.out, HF4.out⟩, HB9.out⟩
end Go.Proofs.Ytibnakpefjjoiaa.Fs
namespace Go.Proofs.Ytibnakpefjjoiaa.Fs
open Go.RowKit Go.Proofs.YtibnakpefjjoiaaW.PrintWords Go.Proofs.YtibnakpefjjoiaaW.PrintLast Go.Proofs.YtibnakpefjjoiaaW.PrintMore Go.Proofs.Ytibnakpefjjoiaa.Q Go.Proofs.Ytibnakpefjjoiaa.Own
set_option linter.unusedVariables false
set_option linter.unusedSimpArgs false

theorem kF_KM_any {W : World} {base : Nat} {ok : Nat → Prop} {x : FH} (cs : List Value) (h : kF.K W x cs) : kF.M W base ok x cs := by
  obtain ⟨c0, _, rfl, h0, ⟨c1, c2, rfl, h1, h2⟩⟩ := h
  exact ⟨c0, _, rfl, h0, ⟨c1, c2, rfl, h1, h2⟩⟩
/-- A flat file's bytes, and how many are synced, are written over. -/
theorem row_putF {B : Nat} {w : World} {Ts : List Th} {ad : Addr} {n c : Nat} {l : List FH} (h : Has B w (rowF (.slice (some ad) n c) l :: Ts)) (i : Nat) {x : FH} (hx : l[i]? = some x) :
    (∀ y : Hd, Has B (w.setCell ⟨(ad.add (i * 3)).block, (ad.add (i * 3)).off + 1, none⟩ (.slice y.1 y.2.1 y.2.2)) (rowF (.slice (some ad) n c) (l.set i (x.1, y, x.2.2)) :: Ts) ∧ Below B w (w.setCell ⟨(ad.add (i * 3)).block, (ad.add (i * 3)).off + 1, none⟩ (.slice y.1 y.2.1 y.2.2))) ∧
    (∀ z : Int, Has B (w.setCell ⟨(ad.add (i * 3)).block, (ad.add (i * 3)).off + 2, none⟩ (.int .i64 z)) (rowF (.slice (some ad) n c) (l.set i (x.1, x.2.1, z)) :: Ts) ∧ Below B w (w.setCell ⟨(ad.add (i * 3)).block, (ad.add (i * 3)).off + 2, none⟩ (.int .i64 z))) ∧
    ∀ j, w.frozen? ⟨(ad.add (i * 3)).block, j, none⟩ = false := by
  have hi : i < l.length := by
    rcases Nat.lt_or_ge i l.length with q | q
    · exact q
    · rw [List.getElem?_eq_none q] at hx
      cases hx
  obtain ⟨F, hR, hFb, put⟩ := h.head
  have hR' : Kd.R kF 56 w 0 F (.slice (some ad) n c) l := hR
  obtain ⟨hn, hnc, hC⟩ := Kd.R_reads' hR'
  obtain ⟨g, rfl⟩ : ∃ g, ad = ⟨g, 0, none⟩ := by
    obtain ⟨_, inner, ho, _⟩ := hR'
    rcases ho.2 with ⟨_, h0⟩ | ⟨g, cap, cur, hv, _, _, _, _⟩
    · omega
    · injection hv with h1 _ _
      injection h1 with h1
      exact ⟨g, h1⟩
  rw [add_plain]
  obtain ⟨ad, e0, h0, h1, h2⟩ := at_F hC i hx
  cases e0
  rw [add_plain] at h0 h1 h2
  have hg : F g := hR'.1 g rfl
  have hcc : ∀ j u, (cellsF x)[j]? = some u → w.cell? ⟨g, (i : Int).toNat * kF.sz + j, none⟩ = some u := fun j u hq => by
    rw [Int.toNat_natCast]
    show w.cell? ⟨g, i * 3 + j, none⟩ = some u
    match j, hq with
    | 0, hq => cases hq; exact h0
    | 1, hq => cases hq; exact h1
    | 2, hq => cases hq; exact h2
    | j + 3, hq => cases hq
  refine ⟨fun y => ?_, fun z => ?_, fun j => frozen_row hR' j⟩
  · obtain ⟨s1, s2⟩ := Kd.R_seg (okp := fun _ => False) hR' (i : Int) (by omega) (by omega) (c := cellsF x) (seg := [.slice y.1 y.2.1 y.2.2]) (j := 1) rfl hcc (show 1 + 1 ≤ 3 by decide) (x' := (x.1, y, x.2.2)) (kF_KM_any _ (kF_mk w (x.1, y, x.2.2))) (fun _ f => f.elim)
    rw [Int.toNat_natCast] at s1 s2
    have s2' : w.grownBy (w.setCell ⟨g, i * 3 + 1, none⟩ (.slice y.1 y.2.1 y.2.2)) (some g) := s2
    obtain ⟨p1, p2⟩ := put _ F (rowF (.slice (some ⟨g, 0, none⟩) n c) (l.set i (x.1, y, x.2.2))) ((KeepF.refl F w).grown s2' (fun k e => by injection e with e; subst e; exact .inl hg)) s1 (fun k hk => ⟨.inl hk, Nat.lt_of_lt_of_le (hFb k hk).2 s2'.size⟩)
    exact ⟨p1, p2⟩
  · obtain ⟨s1, s2⟩ := Kd.R_seg (okp := fun _ => False) hR' (i : Int) (by omega) (by omega) (c := cellsF x) (seg := [.int .i64 z]) (j := 2) rfl hcc (show 2 + 1 ≤ 3 by decide) (x' := (x.1, x.2.1, z)) (kF_KM_any _ (kF_mk w (x.1, x.2.1, z))) (fun _ f => f.elim)
    rw [Int.toNat_natCast] at s1 s2
    have s2' : w.grownBy (w.setCell ⟨g, i * 3 + 2, none⟩ (.int .i64 z)) (some g) := s2
    obtain ⟨p1, p2⟩ := put _ F (rowF (.slice (some ⟨g, 0, none⟩) n c) (l.set i (x.1, x.2.1, z))) ((KeepF.refl F w).grown s2' (fun k e => by injection e with e; subst e; exact .inl hg)) s1 (fun k hk => ⟨.inl hk, Nat.lt_of_lt_of_le (hFb k hk).2 s2'.size⟩)
    exact ⟨p1, p2⟩
theorem at_B {w : World} {A : Option Addr} {n : Nat} {l : List Int} (h : Kd.C kB w A n l) (i : Nat) (hi : i < l.length) : ∃ ad, A = some ad ∧ w.cell? (ad.add i) = some (.int .u8 (l.getD i 0)) := by
  have hn := Kd.C_len h
  obtain ⟨ad, c, e, _, hK, hc⟩ := Kd.C_get h 0 (i : Int) (by omega) (by omega)
  rw [Int.toNat_natCast] at hK hc
  have hK' : c = [.int .u8 (l.getD i 0)] := hK
  have h0 := hc 0 (.int .u8 (l.getD i 0)) (by rw [hK']; rfl)
  have h3 : w.cell? (ad.add (i * 1 + 0)) = some (.int .u8 (l.getD i 0)) := h0
  rw [Nat.mul_one, Nat.add_zero] at h3
  exact ⟨ad, e, h3⟩
/-- A byte of a row of one's own is written over. -/
theorem row_putB {B : Nat} {w : World} {Ts : List Th} {ad : Addr} {n c : Nat} {l : List Int} (h : Has B w (rowB (.slice (some ad) n c) l :: Ts)) (i : Nat) (hi : i < l.length) (z : Int) :
    Has B (w.setCell (ad.add i) (.int .u8 z)) (rowB (.slice (some ad) n c) (l.set i z) :: Ts) ∧ Below B w (w.setCell (ad.add i) (.int .u8 z)) ∧ w.frozen? (ad.add i) = false := by
  obtain ⟨F, hR, hFb, put⟩ := h.head
  have hR' : Kd.R kB 5 w 0 F (.slice (some ad) n c) l := hR
  obtain ⟨hn, hnc, hC⟩ := Kd.R_reads' hR'
  obtain ⟨g, rfl⟩ : ∃ g, ad = ⟨g, 0, none⟩ := by
    obtain ⟨_, inner, ho, _⟩ := hR'
    rcases ho.2 with ⟨_, h0⟩ | ⟨g, cap, cur, hv, _, _, _, _⟩
    · omega
    · injection hv with h1 _ _
      injection h1 with h1
      exact ⟨g, h1⟩
  rw [add_plain]
  obtain ⟨ad, e0, h2⟩ := at_B hC i hi
  cases e0
  rw [add_plain] at h2
  have hg : F g := hR'.1 g rfl
  obtain ⟨s1, s2⟩ := Kd.R_seg (okp := fun _ => False) hR' (i : Int) (by omega) (by omega) (c := [.int .u8 (l.getD i 0)]) (seg := [.int .u8 z]) (j := 0) rfl
    (fun j q hq => by
      rw [Int.toNat_natCast]
      match j, hq with
      | 0, hq =>
        cases hq
        show w.cell? ⟨g, i * 1 + 0, none⟩ = _
        rw [Nat.mul_one, Nat.add_zero]
        exact h2
      | j + 1, hq => cases hq) (show 0 + 1 ≤ 1 by decide) (x' := z) rfl (fun _ f => f.elim)
  rw [Int.toNat_natCast] at s1 s2
  have ei : i * kB.sz + 0 = i := by show i * 1 + 0 = i; omega
  rw [ei] at s1 s2
  have s1' : Kd.R kB 5 (w.setCell ⟨g, i, none⟩ (.int .u8 z)) 0 F (.slice (some ⟨g, 0, none⟩) n c) (l.set i z) := s1
  have s2' : w.grownBy (w.setCell ⟨g, i, none⟩ (.int .u8 z)) (some g) := s2
  obtain ⟨p1, p2⟩ := put _ F (rowB (.slice (some ⟨g, 0, none⟩) n c) (l.set i z)) ((KeepF.refl F w).grown s2' (fun k e => by injection e with e; subst e; exact .inl hg)) s1' (fun k hk => ⟨.inl hk, Nat.lt_of_lt_of_le (hFb k hk).2 s2'.size⟩)
  exact ⟨p1, p2, frozen_row hR' i⟩
theorem FsOk.set {L : List SF} {fs : List FH} {Ts : List Th} (h : FsOk L fs Ts) (i : Nat) {x : SF} {A : Option Addr} {c : Nat} (hm : rowB (.slice A x.f1.length c) x.f1 ∈ Ts) : FsOk (L.set i x) (fs.set i (x.f0, (A, x.f1.length, c), x.f2)) Ts := by
  obtain ⟨h1, h2⟩ := h
  refine ⟨by rw [List.length_set, List.length_set, h1], fun j hj => ?_⟩
  have hj' : j < L.length := by rw [List.length_set] at hj; exact hj
  by_cases hij : j = i
  · subst hij
    rw [List.getElem_set_self]
    exact ⟨A, c, by rw [List.getElem?_set_self (by omega)], hm⟩
  · rw [List.getElem_set_ne (by omega)]
    obtain ⟨A', c', e, hm'⟩ := h2 j hj'
    exact ⟨A', c', by rw [List.getElem?_set_ne (by omega)]; exact e, hm'⟩
theorem mid_set (keep : List Int) (L : List SF) {k : Nat} (hk : k < L.length) (e : ¬ L[k].f2 = (L[k].f1.length : Int)) : midF keep L (k + 1) = (midF keep L k).set k (crash1 keep (crashN 0 (L.take k)) L[k]) ∧ crashN 0 (L.take (k + 1)) = crashN 0 (L.take k) + 1 := by
  obtain ⟨h1, h2⟩ := crash_snoc keep L[k] 0 (L.take k)
  rw [← List.take_succ_eq_append_getElem hk] at h1 h2
  rw [if_neg e] at h1 h2
  refine ⟨?_, h2⟩
  have hlen : (crashF keep 0 (L.take k)).length = k := by rw [crash_length, List.length_take]; omega
  rw [mid_at keep L hk, List.set_append_right _ _ (by omega), hlen, Nat.sub_self]
  unfold midF
  rw [h1, List.append_assoc]
  rfl
theorem mid_here (keep : List Int) (L : List SF) {k : Nat} (hk : k < L.length) : (midF keep L k)[k]? = some L[k] := by
  have hlen : (crashF keep 0 (L.take k)).length = k := by rw [crash_length, List.length_take]; omega
  rw [mid_at keep L hk, List.getElem?_append_right (by omega), hlen, Nat.sub_self]
  rfl
theorem mid_length (keep : List Int) (L : List SF) (k : Nat) : (midF keep L k).length = L.length := by
  have := congrArg List.length (mid_names keep L k)
  rw [List.length_map, List.length_map] at this
  exact this
/-- How many bytes more are left, as the document reckons it. -/
theorem more_doc (keep : List Int) (n : Nat) {x : SF} (h : SafeF x) : moreI keep n x = if (if n < keep.length ∧ 0 < keep.getD n 0 then keep.getD n 0 else 0) > (x.f1.length : Int) - x.f2 then (x.f1.length : Int) - x.f2 else (if n < keep.length ∧ 0 < keep.getD n 0 then keep.getD n 0 else 0) := by
  obtain ⟨h1, h2, _⟩ := h
  unfold moreI minI maxI
  generalize keep.getD n 0 = z
  repeat' split
  all_goals omega
end Go.Proofs.Ytibnakpefjjoiaa.Fs
