/- All tasks of a heap are told. No law is proved here. -/
import Derived.Test.YtpnoghnhlddjeaaHeapJ
import Derived.Test.YtpnoghnhlddjeaaLay
namespace Go.Proofs.Ytpnoghnhlddjeaa.Hp
open Go.RowKit Go.Shelf Go.Sort Go.Proofs.YtpnoghnhlddjeaaW.PrintWords Go.Proofs.Ytpnoghnhlddjeaa.Q Go.Proofs.Ytpnoghnhlddjeaa.Own
set_option linter.unusedVariables false
set_option linter.unusedSimpArgs false

theorem lt_ord (x y : S31) : ltOf ordT x y = decide (x.f1 < y.f1 ∨ (x.f1 = y.f1 ∧ x.f0 < y.f0)) := by
  unfold ltOf ordT
  by_cases h1 : x.f1 < y.f1
  · simp [h1]
  · by_cases h2 : x.f1 > y.f1
    · have h3 : ¬ x.f1 = y.f1 := by omega
      simp [h1, h2, h3]
    · have h3 : x.f1 = y.f1 := by omega
      by_cases h4 : x.f0 < y.f0
      · simp [h3, h4]
      · by_cases h5 : x.f0 > y.f0 <;> simp [h3, h4, h5]
theorem swo_ord : SWO (ltOf ordT) where
  irrefl x := by rw [lt_ord]; simp
  trans x y z h1 h2 := by rw [lt_ord] at *; simp only [decide_eq_true_eq] at *; omega
  ntrans x y z h1 h2 := by rw [lt_ord] at *; simp only [decide_eq_false_iff_not] at *; omega
theorem tot_ord (x y : S31) (h1 : ltOf ordT x y = false) (h2 : ltOf ordT y x = false) : x = y := by
  rw [lt_ord] at *
  simp only [decide_eq_false_iff_not] at *
  obtain ⟨x0, x1⟩ := x
  obtain ⟨y0, y1⟩ := y
  dsimp only at *
  have e0 : x0 = y0 := by omega
  have e1 : x1 = y1 := by omega
  rw [e0, e1]
def sortL (l : List S31) : List S31 := l.mergeSort fun x y => !(ltOf ordT) y x
theorem sort_eq {l s : List S31} (hp : l.Perm s) (hg : GoodS s) : sortL l = s := by
  have hd : (sortL l).Perm s := (List.mergeSort_perm _ _).trans hp
  refine rise_unique ?_ hg.rise hd
  have h1 : (sortL l).Pairwise fun a b => (!(ltOf ordT) b a) = true := by
    refine List.pairwise_mergeSort (fun a b c h1 h2 => ?_) (fun a b => ?_) l
    · simp only [Bool.not_eq_true', lt_ord, decide_eq_false_iff_not] at *
      omega
    · simp only [Bool.or_eq_true, Bool.not_eq_true', lt_ord, decide_eq_false_iff_not] at *
      omega
  have h2 : (sortL l).Pairwise fun a b => keyT a ≠ keyT b := (hd.pairwise_iff (R := fun a b : S31 => keyT a ≠ keyT b) (fun hab => Ne.symm hab)).2 (hg.rise.imp fun hab => by omega)
  refine (h1.and h2).imp_of_mem fun {a b} ha hb h => ?_
  have ga := hg.good a (hd.subset ha)
  have gb := hg.good b (hd.subset hb)
  have h3 : ¬ ordT b a < 0 := by simpa [ltOf] using h.1
  rw [ordT_neg gb ga] at h3
  have := h.2
  omega
theorem collect_calls (Bs : Nat) (A : Option Addr) (c : Nat) (zs : List S31) (w : World) (hBs : w.cell? ⟨Bs, 0, none⟩ = some (.slice A zs.length c)) (hC : Kd.C k31 w A zs.length zs) (hA : ∀ ad, A = some ad → 0 < zs.length → ad.block < w.heap.size) (hlen : zs.length ≤ 1000000) :
    Calls Try.prog 59 #[.func (.func 60) #[] #[.pointer (some ⟨Bs, 0, none⟩)]] w fun e W' => ∃ v, e = .returned v ∧ W'.ownsRow w.heap.size 31 2 v zs.length (flatT zs) ∧ Below w.heap.size w W' := by
  have HC := Aside0.mk (callsIn_wide.1 (appendSeq_in Bs A c zs w hBs hC hA hlen))
  clear hBs hC hA
  go_enter Try.func59, Try.ntmps59
  go_wp2_with (refine HC.out.mono ?_; rintro e w1 ⟨v, rfl, hv, hb⟩; have HV := Aside0.mk hv; have HB := Aside0.mk hb; clear hv hb)
  go_ret
  exact ⟨_, rfl, HV.out, HB.out⟩
theorem holds_own {w : World} {base g n cap : Nat} {l : List S31} (h : w.ownsRow base 31 2 (.slice (some ⟨g, 0, none⟩) n cap) n (flatT l)) : HoldsK cellsT 2 w g 0 l.toArray := by
  obtain ⟨h1, h2⟩ := h
  rcases h2 with ⟨hv, _⟩ | ⟨g', cap', cur, hv, hb, hh, hnc, hcm, hcs, ht⟩
  · cases hv
  injection hv with ha _ hc
  injection ha with ha
  injection ha with hg
  subst hg; subst hc
  intro j hj
  have hj' : j < (flatT l).length := by
    rw [← flatK_eq]
    simpa using hj
  have hc : cur[j]? = some (flatK cellsT 2 l.toArray)[j]! := by
    rw [getElem!_pos _ j hj, ← Array.getElem?_toList, ← List.getElem?_take_of_lt (show j < n * 2 by omega), ht, ← flatK_eq, Array.getElem?_toList, Array.getElem?_eq_getElem hj]
  refine ⟨?_, ?_⟩
  · rw [Nat.zero_add, cell_blk hh, hc]
    rfl
  · simp [World.frozen?, hh]
/-- A row of the call's own is handed back. -/
def RowPost (w : World) (s : List S31) (e : Ending) (w' : World) : Prop := ∃ v, e = .returned v ∧ Kd.R k31 31 w' w.heap.size (fun _ => True) v s ∧ Below w.heap.size w w'
theorem sort_calls {w : World} {base : Nat} {v : Value} {l : List S31} (h : w.ownsRow base 31 2 v l.length (flatT l)) (hl : l.length ≤ 1000000) :
    Calls Try.prog 31 #[v, .func (.func 48) #[] #[]] w fun e w' => e = .returned (.tuple #[]) ∧ w'.ownsRow base 31 2 v l.length (flatT (sortL l)) ∧ Below base w w' := by
  have h0 := h
  obtain ⟨h1, h2⟩ := h
  rcases h2 with ⟨hv, hn⟩ | ⟨g, cap, cur, hv, hb, hh, hnc, hcm, hcs, ht⟩
  · subst hv
    obtain rfl : l = [] := List.length_eq_zero_iff.1 hn
    refine (AnyF.slices_SortFunc_none Lay.sort33 none 0 (.func (.func 48) #[] #[]) w).mono ?_
    rintro e w' ⟨rfl, rfl⟩
    exact ⟨rfl, by simpa [sortL] using h0, Below.refl _ _⟩
  · subst hv
    have hg : g < w.heap.size := blk_lt hh
    have hS := AnyQ.slices_SortFunc_total Lay.sort33 2 Try.isAgg31 Try.sizeOf31 cellsT (fun _ => rfl) (fun x v hv => by simp [cellsT] at hv; rcases hv with rfl | rfl <;> rfl) ordT swo_ord 48 #[] g 0 cap l.toArray w (enters_of Try.func48 (by kernel_rfl) rfl) (fun m os dk _ x y => order_grows x y _) (holds_own h0) hg (by simp; omega) tot_ord
    refine hS.mono ?_
    rintro e w' ⟨rfl, n, os, rfl⟩
    have hd : (l.mergeSort fun x y => !(ltOf ordT) y x).length = l.length := List.length_mergeSort l
    obtain ⟨r1, r2⟩ := sort_row (m := n) (os := os) h0 rfl hd
    refine ⟨rfl, r1, r2.os, r2.tape, r2.output, r2.size, fun k hk => ?_⟩
    exact r2.block k (by omega) (fun e => by injection e with e; omega)
theorem sorted_calls (Bs : Nat) (A : Option Addr) (c : Nat) (zs : List S31) (w : World) (hBs : w.cell? ⟨Bs, 0, none⟩ = some (.slice A zs.length c)) (hC : Kd.C k31 w A zs.length zs) (hA : ∀ ad, A = some ad → 0 < zs.length → ad.block < w.heap.size) (hlen : zs.length ≤ 1000000) :
    Calls Try.prog 46 #[.func (.func 60) #[] #[.pointer (some ⟨Bs, 0, none⟩)], .func (.func 48) #[] #[]] w (RowPost w (sortL zs)) := by
  have HC := Aside0.mk (collect_calls Bs A c zs w hBs hC hA hlen)
  clear hBs hC hA
  go_enter Try.func46, Try.ntmps46
  go_wp2_with fail
  refine HC.out.mono ?_
  rintro e w1 ⟨v, rfl, hv, hb⟩
  have HB := Aside0.mk hb
  have HS := Aside0.mk (sort_calls hv hlen)
  clear hv hb HC
  go_wp2_with fail
  refine HS.out.mono ?_
  rintro e w2 ⟨rfl, hv, hb⟩
  have HV := Aside0.mk hv
  have HB2 := Aside0.mk hb
  clear hv hb HS
  go_wp2_with fail
  go_ret
  refine ⟨_, rfl, R_flat ?_ (fun _ _ => trivial), HB.out.trans HB2.out⟩
  rw [show (sortL zs).length = zs.length from List.length_mergeSort zs]
  exact HV.out
theorem valuesF_calls (A : Option Addr) (n c : Nat) (w : World) :
    Calls Try.prog 47 #[.slice A n c] w fun e w' => e = .returned (.func (.func 60) #[] #[.pointer (some ⟨w.heap.size, 0, none⟩)]) ∧ w' = w.alloc (.cells #[.slice A n c] 22) := by
  go_enter Try.func47, Try.ntmps47
  go_wp2_with fail
  go_ret
  exact ⟨rfl, rfl⟩
theorem all_calls {B : Nat} {w : World} {Ts : List Th} {p : Nat} {s : List S31} (h : Has B w (heapT p s :: Ts)) :
    Calls Try.prog 30 #[ptr p] w (RowPost w s) := by
  obtain ⟨l, h1, _, hp, hg⟩ := heap_row h
  have HN := Aside0.mk (none_calls h1)
  by_cases hl : l = []
  · obtain rfl : s = [] := by rw [hl] at hp; exact hp.symm.eq_nil
    rw [decide_eq_true hl] at HN
    clear h h1 hp hg hl
    go_enter Try.func30, Try.ntmps30
    go_wp2_with (refine HN.out.mono ?_; rintro e w1 ⟨rfl, rfl⟩)
    go_ret
    exact ⟨_, rfl, R_flat (own_nil _ _ _ _) (fun _ _ => trivial), Below.refl _ _⟩
  · rw [decide_eq_false hl] at HN
    obtain ⟨F, ⟨hF, v, hb, hr⟩, hFb, put⟩ := h1.head
    obtain ⟨A, c, rfl, hc, hC⟩ := Kd.R_reads hr
    have h0 : w.cell? ⟨p, 0, none⟩ = some (.slice A l.length c) := by rw [blk_cell hb]; rfl
    have hlt := (hFb p hF).2
    have HW := Aside0.mk (valuesF_calls A l.length c w)
    have hA : ∀ ad, A = some ad → 0 < l.length → ad.block < w.heap.size := fun ad e _ => (hFb _ (hr.1 ad.block (by rw [e]; rfl)).1).2
    have HS := Aside0.mk (sorted_calls w.heap.size A c l (w.alloc (.cells #[.slice A l.length c] 22)) (by simp) (Kd.C_below hC ((Below.refl _ w).alloc (Nat.le_refl _) _)) (fun ad e h0 => by have := hA ad e h0; simp; omega) (by rw [hp.length_eq]; exact hg.few))
    rw [sort_eq hp hg] at HS
    clear h h1 hp hg hb hr hC put hFb hA
    go_enter Try.func30, Try.ntmps30
    go_wp2_with fail
    refine HN.out.mono ?_
    rintro e w1 ⟨rfl, rfl⟩
    go_wp2_with fail
    refine HW.out.mono ?_
    rintro e w2 ⟨rfl, rfl⟩
    go_wp2_with fail
    refine HS.out.mono ?_
    rintro e w3 ⟨v3, rfl, hr3, hb3⟩
    have HR3 := Aside0.mk hr3
    have HB3 := Aside0.mk hb3
    clear hr3 hb3 HS HW HN
    go_wp2_with fail
    go_ret
    exact ⟨_, rfl, Kd.R_lower HR3.out (by simp), ((Below.refl _ _).alloc (Nat.le_refl _) _).trans (HB3.out.mono (by simp))⟩
end Go.Proofs.Ytpnoghnhlddjeaa.Hp
