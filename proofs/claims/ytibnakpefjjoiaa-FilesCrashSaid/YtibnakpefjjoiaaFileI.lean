/- A store of files: its methods, as they turn it: walked. No law is proved here. -/
import Derived.Test.YtibnakpefjjoiaaFileH
namespace Go.Proofs.Ytibnakpefjjoiaa.Fs
open Go.RowKit Go.Proofs.YtibnakpefjjoiaaW.PrintWords Go.Proofs.YtibnakpefjjoiaaW.PrintLast Go.Proofs.YtibnakpefjjoiaaW.PrintMore Go.Proofs.Ytibnakpefjjoiaa.Q Go.Proofs.Ytibnakpefjjoiaa.Own
set_option linter.unusedVariables false
set_option linter.unusedSimpArgs false
attribute [local go_sem ↓] Go.wp_at_zero Go.wp_at_succ

/-- What a store is. -/
structure Stt where
  left : Int
  acts : Int
  L : List SF
structure OkS (st : Stt) : Prop where
  a0 : 0 ≤ st.acts
  a1 : st.acts < 1000000
  l0 : -1 ≤ st.left
  l1 : st.left ≤ 9223372036854775807
  n : st.L.length < 900000
  few : ∀ x ∈ st.L, x.f1.length ≤ 100000000
abbrev stoT (p : Nat) (st : Stt) : Th := storeT p st.left st.acts st.L none
def MethPost (B : Nat) (w : World) (p : Nat) (r : Int × Stt) (Ts : List Th) (e : Ending) (w' : World) : Prop := e = .returned (.int .i64 r.1) ∧ Has B w' (stoT p r.2 :: Ts) ∧ Below B w w'
/-- Something is done with a file, if it is there. -/
def onF (st : Stt) (s : ByteArray) (do_ : SF → Int × Stt) : Int × Stt := if st.left = 0 then (30, st) else match findF st.L s.data.toList with | none => (31, st) | some x => do_ x
def syncS (st : Stt) (s : ByteArray) : Int × Stt := onF st s fun x => (0, ⟨leftF st.left, st.acts + 1, withL st.L s ⟨x.f0, x.f1, (x.f1.length : Int)⟩⟩)
theorem with_len {L : List SF} (h : Rise L) (s : ByteArray) (x : SF) : (withL L s x).length ≤ L.length + 1 := by
  unfold withL
  split
  · rw [set_len h]
    split <;> omega
  · omega
set_option maxHeartbeats 2000000 in
set_option maxRecDepth 100000 in
theorem sync_calls {B : Nat} {w : World} {p : Nat} {st : Stt} {Ts : List Th} (h : Has B w (stoT p st :: Ts)) (hg : OkS st) {s : ByteArray} (hs : s.size ≤ 9223372036854775807) :
    Calls Try.prog 18 #[ptr p, .string s] w (MethPost B w p (syncS st s) Ts) := by
  have h1 : Has B (w.alloc (.cells #[ptr p] 24)) (stoT p st :: stT w.heap.size p :: Ts) := (h.box #[ptr p] 24).swap
  have HB1 : Aside0 (Below B w (w.alloc (.cells #[ptr p] 24))) := ⟨(Below.refl B w).alloc h.size _⟩
  have HW : Aside0 (Calls Try.prog 36 #[ptr p, .string s, .func (.func 41) #[] #[ptr w.heap.size]] (w.alloc (.cells #[ptr p] 24)) (MethPost B (w.alloc (.cells #[ptr p] 24)) p (syncS st s) (stT w.heap.size p :: Ts))) := ⟨by
    unfold syncS onF
    by_cases hl : st.left = 0
    · rw [if_pos hl]
      exact with_refused h1 s hl _
    · rw [if_neg hl]
      cases hx : findF st.L s.data.toList with
      | none => exact with_missing h1 hs hx hl _
      | some x => exact with_sync h1 hs hx hl (by have := hg.n; omega) (fun A c b w1 h => clo_sync h hg.a0 hg.a1 hg.l0 hg.l1)⟩
  clear h h1 hg hs
  generalize syncS st s = r at HW ⊢
  go_enter Try.func18, Try.ntmps18
  go_wp2_with fail
  refine HW.out.mono ?_
  rintro e w2 ⟨rfl, hA, hB⟩
  have HA := Aside0.mk hA.swap.tail
  have HB := Aside0.mk (HB1.out.trans hB)
  clear hA hB HW
  go_wp2_with fail
  go_ret
  exact ⟨rfl, HA.out, HB.out⟩
def removeS (st : Stt) (s : ByteArray) : Int × Stt := onF st s fun x => (0, ⟨leftF st.left, st.acts + 1, withL (cutF st.L s.data.toList) s x⟩)
theorem cut_le (L : List SF) (n : List UInt8) : (cutF L n).length ≤ L.length := List.length_filter_le _ L
set_option maxHeartbeats 2000000 in
set_option maxRecDepth 100000 in
theorem remove_calls {B : Nat} {w : World} {p : Nat} {st : Stt} {Ts : List Th} (h : Has B w (stoT p st :: Ts)) (hg : OkS st) {s : ByteArray} (hs : s.size ≤ 9223372036854775807) :
    Calls Try.prog 22 #[ptr p, .string s] w (MethPost B w p (removeS st s) Ts) := by
  have h0 : Has B (w.alloc (.cells #[ptr p] 24)) (stoT p st :: stT w.heap.size p :: Ts) := (h.box #[ptr p] 24).swap
  have h1 : Has B ((w.alloc (.cells #[ptr p] 24)).alloc (.cells #[.string s] 9)) (stoT p st :: stT w.heap.size p :: nmT (w.heap.size + 1) s :: Ts) := by
    have := h0.box #[.string s] 9
    rw [World.size_alloc] at this
    exact this.swap.third.swap
  have HB1 : Aside0 (Below B w ((w.alloc (.cells #[ptr p] 24)).alloc (.cells #[.string s] 9))) := ⟨((Below.refl B w).alloc h.size _).alloc h0.size _⟩
  have HW : Aside0 (Calls Try.prog 36 #[ptr p, .string s, .func (.func 42) #[] #[ptr w.heap.size, ptr (w.heap.size + 1)]] ((w.alloc (.cells #[ptr p] 24)).alloc (.cells #[.string s] 9)) (MethPost B ((w.alloc (.cells #[ptr p] 24)).alloc (.cells #[.string s] 9)) p (removeS st s) (stT w.heap.size p :: nmT (w.heap.size + 1) s :: Ts))) := ⟨by
    unfold removeS onF
    by_cases hl : st.left = 0
    · rw [if_pos hl]
      exact with_refused h1 s hl _
    · rw [if_neg hl]
      cases hx : findF st.L s.data.toList with
      | none => exact with_missing h1 hs hx hl _
      | some x => exact with_remove h1 hs hx hl (by have := hg.n; have := cut_le st.L s.data.toList; omega) (fun A c b w1 h => clo_remove hs h hg.a0 hg.a1 hg.l0 hg.l1)⟩
  have q1 : ((w.alloc (.cells #[ptr p] 24)).alloc (.cells #[.string s] 9)).cell? ⟨w.heap.size, 0, none⟩ = some (ptr p) := box_mem h1 (b := w.heap.size) (cs := #[ptr p]) (t := 24) (by simp) 0
  clear h h0 h1 hg hs
  generalize removeS st s = r at HW ⊢
  go_enter Try.func22, Try.ntmps22
  go_wp2_with fail
  refine HW.out.mono ?_
  rintro e w2 ⟨rfl, hA, hB⟩
  have HA := Aside0.mk hA.swap.tail.swap.tail
  have HB := Aside0.mk (HB1.out.trans hB)
  clear hA hB HW
  go_wp2_with fail
  go_ret
  exact ⟨rfl, HA.out, HB.out⟩
end Go.Proofs.Ytibnakpefjjoiaa.Fs
