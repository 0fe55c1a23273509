/- A store of files: cut, renamed, told: walked. No law is proved here. -/
import Derived.Test.YtibnakpefjjoiaaFileI
namespace Go.Proofs.Ytibnakpefjjoiaa.Fs
open Go.RowKit Go.Proofs.YtibnakpefjjoiaaW.PrintWords Go.Proofs.YtibnakpefjjoiaaW.PrintLast Go.Proofs.YtibnakpefjjoiaaW.PrintMore Go.Proofs.Ytibnakpefjjoiaa.Q Go.Proofs.Ytibnakpefjjoiaa.Own
set_option linter.unusedVariables false
set_option linter.unusedSimpArgs false
attribute [local go_sem ↓] Go.wp_at_zero Go.wp_at_succ

def truncS (st : Stt) (s : ByteArray) (n : Int) : Int × Stt := onF st s fun x => if n < 0 ∨ (x.f1.length : Int) < n then (2, ⟨st.left, st.acts, withL st.L s x⟩) else (0, ⟨leftF st.left, st.acts + 1, withL st.L s ⟨x.f0, x.f1.take n.toNat, minI x.f2 n⟩⟩)
set_option maxHeartbeats 2000000 in
set_option maxRecDepth 100000 in
theorem trunc_calls {B : Nat} {w : World} {p : Nat} {st : Stt} {Ts : List Th} (h : Has B w (stoT p st :: Ts)) (hg : OkS st) {s : ByteArray} (hs : s.size ≤ 9223372036854775807) (n : Int) :
    Calls Try.prog 12 #[ptr p, .string s, .int .i64 n] w (MethPost B w p (truncS st s n) Ts) := by
  have h0 : Has B (w.alloc (.cells #[ptr p] 24)) (stoT p st :: stT w.heap.size p :: Ts) := (h.box #[ptr p] 24).swap
  have h1 : Has B ((w.alloc (.cells #[ptr p] 24)).alloc (.cells #[.int .i64 n] 3)) (stoT p st :: nT (w.heap.size + 1) n :: stT w.heap.size p :: Ts) := by
    have := h0.box #[.int .i64 n] 3
    rw [World.size_alloc] at this
    exact this.swap
  have HB1 : Aside0 (Below B w ((w.alloc (.cells #[ptr p] 24)).alloc (.cells #[.int .i64 n] 3))) := ⟨((Below.refl B w).alloc h.size _).alloc h0.size _⟩
  have HW : Aside0 (Calls Try.prog 36 #[ptr p, .string s, .func (.func 37) #[] #[ptr (w.heap.size + 1), ptr w.heap.size]] ((w.alloc (.cells #[ptr p] 24)).alloc (.cells #[.int .i64 n] 3)) (MethPost B ((w.alloc (.cells #[ptr p] 24)).alloc (.cells #[.int .i64 n] 3)) p (truncS st s n) (nT (w.heap.size + 1) n :: stT w.heap.size p :: Ts))) := ⟨by
    unfold truncS onF
    by_cases hl : st.left = 0
    · rw [if_pos hl]
      exact with_refused h1 s hl _
    · rw [if_neg hl]
      cases hx : findF st.L s.data.toList with
      | none => exact with_missing h1 hs hx hl _
      | some x =>
        dsimp only
        by_cases hn : n < 0 ∨ (x.f1.length : Int) < n
        · rw [if_pos hn]
          exact with_trunc h1 hs hx hl (by have := hg.n; omega) (fun A c b w1 h => clo_trunc_bad n hn h)
        · rw [if_neg hn]
          have e : n = ((n.toNat : Nat) : Int) := by omega
          have hle : n.toNat ≤ x.f1.length := by omega
          have hk := fun (A : Option Addr) (c b : Nat) (w1 : World) (h : Has B w1 (storeT p st.left st.acts st.L (some ⟨b, x, A, c⟩) :: nT (w.heap.size + 1) ((n.toNat : Nat) : Int) :: stT w.heap.size p :: Ts)) => clo_trunc n.toNat hle h hg.a0 hg.a1 hg.l0 hg.l1
          rw [← e] at hk
          exact with_trunc h1 hs hx hl (by have := hg.n; omega) hk⟩
  have q1 : ((w.alloc (.cells #[ptr p] 24)).alloc (.cells #[.int .i64 n] 3)).cell? ⟨w.heap.size, 0, none⟩ = some (ptr p) := box_mem h1 (b := w.heap.size) (cs := #[ptr p]) (t := 24) (by simp) 0
  clear h h0 h1 hg hs
  generalize truncS st s n = r at HW ⊢
  go_enter Try.func12, Try.ntmps12
  go_wp2_with fail
  refine HW.out.mono ?_
  rintro e w2 ⟨rfl, hA, hB⟩
  have HA := Aside0.mk hA.swap.tail.swap.tail
  have HB := Aside0.mk (HB1.out.trans hB)
  clear hA hB HW
  go_wp2_with fail
  go_ret
  exact ⟨rfl, HA.out, HB.out⟩
def renameS (st : Stt) (s m : ByteArray) : Int × Stt := onF st s fun x => if mayF m = true then (0, ⟨leftF st.left, st.acts + 1, withL (setF (cutF st.L s.data.toList) ⟨m, x.f1, x.f2⟩) s x⟩) else (2, ⟨st.left, st.acts, withL st.L s x⟩)
theorem ins_len (L : List SF) (x : SF) : (insF L x).length = L.length + 1 := (ins_perm L x).length_eq
set_option maxHeartbeats 2000000 in
set_option maxRecDepth 100000 in
theorem rename_calls {B : Nat} {w : World} {p : Nat} {st : Stt} {Ts : List Th} (h : Has B w (stoT p st :: Ts)) (hg : OkS st) {s m : ByteArray} (hs : s.size ≤ 9223372036854775807) (hm : m.size ≤ 9223372036854775807) :
    Calls Try.prog 14 #[ptr p, .string s, .string m] w (MethPost B w p (renameS st s m) Ts) := by
  have h0 : Has B (w.alloc (.cells #[ptr p] 24)) (stoT p st :: stT w.heap.size p :: Ts) := (h.box #[ptr p] 24).swap
  have h1 : Has B ((w.alloc (.cells #[ptr p] 24)).alloc (.cells #[.string s] 9)) (stoT p st :: stT w.heap.size p :: nmT (w.heap.size + 1) s :: Ts) := by
    have := h0.box #[.string s] 9
    rw [World.size_alloc] at this
    exact this.swap.third.swap
  have h2 : Has B (((w.alloc (.cells #[ptr p] 24)).alloc (.cells #[.string s] 9)).alloc (.cells #[.string m] 9)) (stoT p st :: nmT (w.heap.size + 1 + 1) m :: stT w.heap.size p :: nmT (w.heap.size + 1) s :: Ts) := by
    have := h1.box #[.string m] 9
    rw [World.size_alloc, World.size_alloc] at this
    exact this.swap
  have HB1 : Aside0 (Below B w (((w.alloc (.cells #[ptr p] 24)).alloc (.cells #[.string s] 9)).alloc (.cells #[.string m] 9))) := ⟨(((Below.refl B w).alloc h.size _).alloc h0.size _).alloc h1.size _⟩
  have HW : Aside0 (Calls Try.prog 36 #[ptr p, .string s, .func (.func 40) #[] #[ptr (w.heap.size + 1 + 1), ptr w.heap.size, ptr (w.heap.size + 1)]] (((w.alloc (.cells #[ptr p] 24)).alloc (.cells #[.string s] 9)).alloc (.cells #[.string m] 9)) (MethPost B (((w.alloc (.cells #[ptr p] 24)).alloc (.cells #[.string s] 9)).alloc (.cells #[.string m] 9)) p (renameS st s m) (nmT (w.heap.size + 1 + 1) m :: stT w.heap.size p :: nmT (w.heap.size + 1) s :: Ts))) := ⟨by
    unfold renameS onF
    by_cases hl : st.left = 0
    · rw [if_pos hl]
      exact with_refused h2 s hl _
    · rw [if_neg hl]
      cases hx : findF st.L s.data.toList with
      | none => exact with_missing h2 hs hx hl _
      | some x =>
        dsimp only
        have hc := cut_le st.L s.data.toList
        cases hy : mayF m with
        | true =>
          rw [if_pos rfl]
          refine with_rename h2 hs hx hl ?_ (fun A c b w1 h => clo_rename hm hs h hg.a0 hg.a1 hg.l0 hg.l1 (by have := hg.n; omega) hy)
          unfold setF
          rw [ins_len]
          have := cut_le (cutF st.L s.data.toList) (nameL ⟨m, x.f1, x.f2⟩)
          have := hg.n
          omega
        | false =>
          rw [if_neg (by decide)]
          exact with_rename h2 hs hx hl (by have := hg.n; omega) (fun A c b w1 h => clo_rename_bad hm h hy)⟩
  have q1 : (((w.alloc (.cells #[ptr p] 24)).alloc (.cells #[.string s] 9)).alloc (.cells #[.string m] 9)).cell? ⟨w.heap.size, 0, none⟩ = some (ptr p) := box_mem h2 (b := w.heap.size) (cs := #[ptr p]) (t := 24) (by simp) 0
  have q2 : (((w.alloc (.cells #[ptr p] 24)).alloc (.cells #[.string s] 9)).alloc (.cells #[.string m] 9)).cell? ⟨w.heap.size + 1, 0, none⟩ = some (.string s) := box_mem h2 (b := w.heap.size + 1) (cs := #[.string s]) (t := 9) (by simp) 0
  clear h h0 h1 h2 hg hs
  generalize renameS st s m = r at HW ⊢
  go_enter Try.func14, Try.ntmps14
  go_wp2_with fail
  refine HW.out.mono ?_
  rintro e w2 ⟨rfl, hA, hB⟩
  have HA := Aside0.mk hA.swap.tail.swap.tail.swap.tail
  have HB := Aside0.mk (HB1.out.trans hB)
  clear hA hB HW
  go_wp2_with fail
  go_ret
  exact ⟨rfl, HA.out, HB.out⟩
/-- What is told of a file. -/
def toldE (st : Stt) (s : ByteArray) : Int := if st.left = 0 then 30 else match findF st.L s.data.toList with | none => 31 | some _ => 0
def toldX (st : Stt) (s : ByteArray) : SF := if st.left = 0 then zF else (findF st.L s.data.toList).getD zF
/-- A store that was told of is as it was. -/
theorem with_same {L : List SF} (hr : Rise L) {s : ByteArray} {x : SF} (hx : findF L s.data.toList = some x) : withL L s x = L := by
  obtain ⟨h1, h2⟩ := find_mem hx
  have hxs : x.f0 = s := by
    have : x.f0.data.toList = s.data.toList := h2
    exact ByteArray.ext (Array.ext' this)
  have e : (⟨s, x.f1, x.f2⟩ : SF) = x := by rw [← hxs]
  unfold withL
  rw [hx, if_pos (show (some x).isSome = true from rfl), e]
  have hp : (setF L x).Perm L := by
    refine (ins_perm _ x).trans ?_
    obtain ⟨l1, l2, rfl⟩ := List.append_of_mem h1
    have hu := rise_unlike hr
    have hc : cutF (l1 ++ x :: l2) (nameL x) = l1 ++ l2 := by
      unfold cutF
      rw [List.filter_append, List.filter_cons, if_neg (by simp), List.filter_eq_self.2 ?_, List.filter_eq_self.2 ?_]
      · intro y hy
        rw [bne_iff_ne]
        exact Ne.symm ((List.pairwise_cons.1 (List.pairwise_append.1 hu).2.1).1 y hy)
      · intro y hy
        rw [bne_iff_ne]
        exact (List.pairwise_append.1 hu).2.2 y hy x (List.mem_cons_self ..)
    rw [hc]
    exact List.perm_middle.symm
  exact List.Perm.eq_of_pairwise (le := fun a b : SF => nameL a < nameL b) (fun a b _ _ q1 q2 => absurd q2 (lt_asymm' q1)) (set_rise hr x) hr hp
set_option maxHeartbeats 2000000 in
set_option maxRecDepth 100000 in
theorem size_calls {B : Nat} {w : World} {p : Nat} {st : Stt} {Ts : List Th} (h : Has B w (stoT p st :: Ts)) (hr : Rise st.L) (hg : OkS st) {s : ByteArray} (hs : s.size ≤ 9223372036854775807) :
    Calls Try.prog 29 #[ptr p, .string s] w fun e w' => e = .returned (.tuple #[.int .i64 ((toldX st s).f1.length : Int), .int .i64 (toldE st s)]) ∧ Has B w' (stoT p st :: Ts) ∧ Below B w w' := by
  have h1 : Has B (w.alloc (.cells #[.int .i64 0] 3)) (stoT p st :: nT w.heap.size 0 :: Ts) := (h.box #[.int .i64 0] 3).swap
  have HB1 : Aside0 (Below B w (w.alloc (.cells #[.int .i64 0] 3))) := ⟨(Below.refl B w).alloc h.size _⟩
  have HW : Aside0 (Calls Try.prog 36 #[ptr p, .string s, .func (.func 54) #[] #[ptr w.heap.size]] (w.alloc (.cells #[.int .i64 0] 3)) (MethPost B (w.alloc (.cells #[.int .i64 0] 3)) p (toldE st s, st) (nT w.heap.size ((toldX st s).f1.length : Int) :: Ts))) := ⟨by
    unfold toldE toldX
    by_cases hl : st.left = 0
    · rw [if_pos hl, if_pos hl]
      exact with_refused h1 s hl _
    · rw [if_neg hl, if_neg hl]
      cases hx : findF st.L s.data.toList with
      | none => exact with_missing h1 hs hx hl _
      | some x =>
        have hw := with_size h1 hs hx hl (by have := hg.n; omega) (fun A c b w1 h => clo_size h)
        rw [with_same hr hx] at hw
        exact hw⟩
  clear h h1 hg hs hr
  generalize toldE st s = r at HW ⊢
  generalize ((toldX st s).f1.length : Int) = y at HW ⊢
  go_enter Try.func29, Try.ntmps29
  go_wp2_with fail
  refine HW.out.mono ?_
  rintro e w2 ⟨rfl, hA, hB⟩
  dsimp only at hA
  generalize w.heap.size = b1 at hA ⊢
  obtain ⟨qa, qf, -, -⟩ := Has.box_cell hA (b := b1) (cs := #[.int .i64 y]) (t := 3) (by simp)
  have q0 : w2.cell? ⟨b1, 0, none⟩ = some (.int .i64 y) := qa 0
  have f0 := qf 0
  obtain ⟨hA2, hB2⟩ := hA.swap.box_set 0 (.int .i64 y)
  obtain ⟨qb, -, -, -⟩ := Has.box_cell hA2 (b := b1) (cs := #[.int .i64 y]) (t := 3) (by simp)
  have q1 : (w2.setCell ⟨b1, 0, none⟩ (.int .i64 y)).cell? ⟨b1, 0, none⟩ = some (.int .i64 y) := qb 0
  have HA := Aside0.mk hA2.tail
  have HB := Aside0.mk ((HB1.out.trans hB).trans hB2)
  clear hA hB hA2 hB2 qa qb qf HW
  go_wp2_with fail
  refine bodyPost_ret (v := .tuple #[.int .i64 y, .int .i64 r]) (by simp [results, Try.results29, go_sem, q1]) rfl ?_
  exact ⟨rfl, HA.out, HB.out⟩
set_option maxHeartbeats 2000000 in
set_option maxRecDepth 100000 in
theorem synced_calls {B : Nat} {w : World} {p : Nat} {st : Stt} {Ts : List Th} (h : Has B w (stoT p st :: Ts)) (hr : Rise st.L) (hg : OkS st) {s : ByteArray} (hs : s.size ≤ 9223372036854775807) :
    Calls Try.prog 23 #[ptr p, .string s] w fun e w' => e = .returned (.tuple #[.int .i64 (toldX st s).f2, .int .i64 (toldE st s)]) ∧ Has B w' (stoT p st :: Ts) ∧ Below B w w' := by
  have h1 : Has B (w.alloc (.cells #[.int .i64 0] 3)) (stoT p st :: nT w.heap.size 0 :: Ts) := (h.box #[.int .i64 0] 3).swap
  have HB1 : Aside0 (Below B w (w.alloc (.cells #[.int .i64 0] 3))) := ⟨(Below.refl B w).alloc h.size _⟩
  have HW : Aside0 (Calls Try.prog 36 #[ptr p, .string s, .func (.func 43) #[] #[ptr w.heap.size]] (w.alloc (.cells #[.int .i64 0] 3)) (MethPost B (w.alloc (.cells #[.int .i64 0] 3)) p (toldE st s, st) (nT w.heap.size (toldX st s).f2 :: Ts))) := ⟨by
    unfold toldE toldX
    by_cases hl : st.left = 0
    · rw [if_pos hl, if_pos hl]
      exact with_refused h1 s hl _
    · rw [if_neg hl, if_neg hl]
      cases hx : findF st.L s.data.toList with
      | none => exact with_missing h1 hs hx hl _
      | some x =>
        have hw := with_synced h1 hs hx hl (by have := hg.n; omega) (fun A c b w1 h => clo_synced h)
        rw [with_same hr hx] at hw
        exact hw⟩
  clear h h1 hg hs hr
  generalize toldE st s = r at HW ⊢
  generalize (toldX st s).f2 = y at HW ⊢
  go_enter Try.func23, Try.ntmps23
  go_wp2_with fail
  refine HW.out.mono ?_
  rintro e w2 ⟨rfl, hA, hB⟩
  dsimp only at hA
  generalize w.heap.size = b1 at hA ⊢
  obtain ⟨qa, qf, -, -⟩ := Has.box_cell hA (b := b1) (cs := #[.int .i64 y]) (t := 3) (by simp)
  have q0 : w2.cell? ⟨b1, 0, none⟩ = some (.int .i64 y) := qa 0
  have f0 := qf 0
  obtain ⟨hA2, hB2⟩ := hA.swap.box_set 0 (.int .i64 y)
  obtain ⟨qb, -, -, -⟩ := Has.box_cell hA2 (b := b1) (cs := #[.int .i64 y]) (t := 3) (by simp)
  have q1 : (w2.setCell ⟨b1, 0, none⟩ (.int .i64 y)).cell? ⟨b1, 0, none⟩ = some (.int .i64 y) := qb 0
  have HA := Aside0.mk hA2.tail
  have HB := Aside0.mk ((HB1.out.trans hB).trans hB2)
  clear hA hB hA2 hB2 qa qb qf HW
  go_wp2_with fail
  refine bodyPost_ret (v := .tuple #[.int .i64 y, .int .i64 r]) (by simp [results, Try.results23, go_sem, q1]) rfl ?_
  exact ⟨rfl, HA.out, HB.out⟩
end Go.Proofs.Ytibnakpefjjoiaa.Fs
