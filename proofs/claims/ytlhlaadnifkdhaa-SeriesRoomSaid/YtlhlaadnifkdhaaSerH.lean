/- Expire: walked. No law is proved here. -/
import Derived.Test.YtlhlaadnifkdhaaSerG
namespace Go.Proofs.Ytlhlaadnifkdhaa.Sr
open Go.RowKit Go.Proofs.YtlhlaadnifkdhaaW.PrintWords Go.Proofs.YtlhlaadnifkdhaaW.PrintLast Go.Proofs.YtlhlaadnifkdhaaW.PrintMore Go.Proofs.Ytlhlaadnifkdhaa.Q Go.Proofs.Ytlhlaadnifkdhaa.Own Go.Proofs.Ytlhlaadnifkdhaa.Nmd
set_option linter.unusedVariables false
set_option linter.unusedSimpArgs false
attribute [local go_sem ↓] Go.wp_at_zero Go.wp_at_succ

theorem rlen_ring {B : Nat} {w : World} {b : Nat} {xs : List SM} {Ts : List Th} (h : Has B w (ringT b xs :: Ts)) : Calls Try.prog 32 #[ptr b] w fun e w' => e = .returned (.int .i64 (xs.length : Int)) ∧ w = w' := by
  obtain ⟨cs, f, hA, hr⟩ := ring_open h
  exact rlen_calls hA (List.mem_cons_self ..) hr
/-- What a store tells, behind an expiry. -/
def expS (L : List SS) (at_ : Int) : List SS := (L.map fun s => (⟨s.e, s.ls, expL s.xs at_⟩ : SS)).filter fun s => !s.xs.isEmpty
def expN (L : List SS) (at_ : Int) : Nat := (L.map fun s => s.xs.length - (expL s.xs at_).length).sum
def lfOf (left : Lit → Bool) (n : List UInt8) : Bool := left (.string n)
theorem all_start {L : List SS} {lf : List UInt8 → Bool} (h : ∀ s ∈ L, lf (keyS' s) = true) (at_ : Int) : nowL lf at_ L = L ∧ esL lf at_ L = L.map (fun s => s.e) ∧ goneL lf at_ L = 0 := by
  have e1 : nowL lf at_ L = L := by
    refine (List.map_congr_left fun s hs => ?_).trans (List.map_id _)
    unfold nowS
    rw [if_pos (h s hs)]
    rfl
  refine ⟨e1, ?_, ?_⟩
  · unfold esL
    rw [e1, List.filter_eq_self.2 fun s hs => by unfold stays; rw [h s hs]; rfl]
  · have : ∀ M : List SS, (∀ s ∈ M, lf (keyS' s) = true) → goneL lf at_ M = 0 := by
      intro M
      induction M with
      | nil => intro _; rfl
      | cons s M ih =>
        intro hM
        have := ih fun t ht => hM t (List.mem_cons_of_mem _ ht)
        unfold goneL at this ⊢
        rw [List.map_cons, List.sum_cons, this, if_pos (hM s (List.mem_cons_self ..))]
    exact this L h
theorem all_end {L : List SS} {lf : List UInt8 → Bool} (h : ∀ n, lf n = false) (at_ : Int) : nowL lf at_ L = L.map (fun s => (⟨s.e, s.ls, expL s.xs at_⟩ : SS)) ∧ esL lf at_ L = (expS L at_).map (fun s => s.e) ∧ goneL lf at_ L = expN L at_ := by
  have e1 : nowL lf at_ L = L.map (fun s => (⟨s.e, s.ls, expL s.xs at_⟩ : SS)) := by
    refine List.map_congr_left fun s hs => ?_
    unfold nowS
    rw [if_neg (by rw [h]; decide)]
  refine ⟨e1, ?_, ?_⟩
  · unfold esL expS
    rw [e1]
    congr 1
    refine List.filter_congr fun s _ => ?_
    unfold stays
    rw [h]
    rfl
  · unfold goneL expN
    congr 1
    exact List.map_congr_left fun s _ => if_neg (by rw [h]; decide)
theorem has_filter {B : Nat} {w : World} {L : List SS} {T : Th} {Ts : List Th} (q : SS → Bool) (h : Has B w (T :: (tm L ++ Ts))) : Has B w (T :: (tm (L.filter q) ++ Ts)) := by
  have p1 := tm_perm (List.filter_append_perm q L)
  have h1 := h.perm ((p1.symm.append_right Ts).cons T)
  rw [tm_app] at h1
  have h2 : Has B w ((tm (L.filter fun x => !q x)) ++ (T :: (tm (L.filter q) ++ Ts))) := h1.perm (by
    have a := (List.perm_append_comm (l₁ := tm (L.filter q)) (l₂ := tm (L.filter fun x => !q x))).append_right Ts
    have b := a.cons T
    rw [List.append_assoc (tm (L.filter fun x => !q x))] at b
    exact b.trans List.perm_middle.symm)
  exact has_drop h2
theorem keyS_inv {key : Value} {kl : Lit} (h : keyOf Try.prog 9 key = some kl) : ∃ x : ByteArray, key = .string x ∧ kl = .string x.data.toList ∧ x.size ≤ 9223372036854775807 := by
  have hk := Try.underlying9
  cases key <;> simp [keyOf, hk, mapKey] at h
  rename_i x
  by_cases q : x.size ≤ maxLen
  · simp [q] at h
    exact ⟨x, rfl, h.symm, q⟩
  · simp [q] at h
theorem lf_strike {left : Lit → Bool} {a : List UInt8} (n : List UInt8) : lfOf (fun z => left z && !z.sameKey (.string a)) n = (lfOf left n && n != a) := rfl
theorem es_has {L1 L2 : List SS} {s : SS} {lf : List UInt8 → Bool} {at_ : Int} (hu : (L1 ++ s :: L2).Pairwise fun a b => keyS' a ≠ keyS' b) (hs : lf (keyS' s) = true) : s.e ∈ esL lf at_ (L1 ++ s :: L2) := by
  obtain ⟨e1, -⟩ := now_cut (at_ := at_) (lf' := fun n => lf n && n != keyS' s) hu (fun n => rfl) hs
  unfold esL
  rw [e1]
  exact List.mem_map.2 ⟨s, List.mem_filter.2 ⟨by simp, by unfold stays; rw [hs]; rfl⟩, rfl⟩
set_option maxHeartbeats 4000000 in
set_option maxRecDepth 100000 in
theorem sexp_calls {B : Nat} {w : World} {p : Nat} {L : List SS} {Ts : List Th} (h : Has B w (mapT p (L.map fun s => s.e) :: (tm L ++ Ts))) (hok : SerOk L) (at_ : Int) :
    Calls Try.prog 10 #[ptr p, .int .i64 at_] w fun e w' => e = .returned (.int .i64 (expN L at_ : Int)) ∧ Has B w' (mapT p ((expS L at_).map fun s => s.e) :: (tm (expS L at_) ++ Ts)) ∧ Below B w w' := by
  have hu72 := Try.underlying72
  have hrise := rise_map.1 (map_rise h (List.mem_cons_self ..))
  have HU := Aside0.mk (rise_unlike hrise)
  have HN := Aside0.mk (snone_calls h (List.mem_cons_self ..))
  obtain ⟨mb, n, D, c0, hown, htell, hgo⟩ := loop_start h
  have HOK := Aside0.mk hok
  have HG := Aside0.mk hgo
  have HT := Aside0.mk htell
  clear h hok hgo htell hrise
  go_enter Try.func10, Try.ntmps10
  go_wp2_with fail
  refine HN.out.mono ?_
  rintro e w1 ⟨rfl, rfl⟩
  clear HN
  go_wp2_with (first
    | (at_range; refine wpList_range_own _ rfl _ 56 rfl 9 72 lawK Try.underlying56 RV mb n D rfl hown ?_; intro w0 hrg0 hg0 hs0)
    | go_in)
  go_frame
  go_loopw [5] (fun g wr => ∃ (left : Lit → Bool) (cnt : Nat), g = .int .i64 (goneL (lfOf left) at_ L : Int) ∧ Aside0 (∀ m, lfOf left m = true → ∃ s ∈ L, keyS' s = m) ∧ Aside0 (Has B wr (loopT p mb w.heap.size n (esL (lfOf left) at_ L) left cnt :: (tm (nowL (lfOf left) at_ L) ++ Ts)) ∧ Below B w wr)) (fun _ wr => wr.rangeLeft mb w.heap.size)
  case atStart =>
    have hl : ∀ s ∈ L, lfOf (Go.Maps.has D) (keyS' s) = true := fun s hs => by
      unfold lfOf
      rw [HT.out.has, find_map, find_of HU.out hs]
      rfl
    obtain ⟨e1, e2, e3⟩ := all_start hl at_
    refine ⟨Go.Maps.has D, Go.Maps.size D, by rw [e3]; rfl, ⟨fun m hm => ?_⟩, ⟨?_⟩⟩
    · unfold lfOf at hm
      rw [HT.out.has, find_map] at hm
      cases hf : findF keyS' L m with
      | none => rw [hf] at hm; cases hm
      | some s => exact ⟨s, find_mem hf⟩
    · rw [e1, e2]
      exact HG.out _ hrg0 hg0 hs0
  case round =>
    clear c0 hown HT HG hrg0 hg0 hs0 D
    obtain ⟨left, cnt, rfl, HL, HB⟩ := hrel
    obtain ⟨D1, hrg, ht1, hgo1⟩ := loop_step HB.out.1
    obtain ⟨-, -, hri⟩ := loop_cell HB.out.1 (List.mem_cons_self ..)
    go_wp2_with (first
      | (at_next; refine wpList_next_ranges _ rfl _ rfl 9 lawK RV Value.string (fun v => v) (fun key kl hk => (keyS_inv hk).imp fun x hx => hx.1) (fun v y hv => ⟨v, rfl⟩) mb w.heap.size n D1 left cnt rfl hrg ?_ ?_)
      | go_in)
    · intro h0 hl0
      go_wp2_with fail
      go_ret
      obtain ⟨e1, e2, e3⟩ := all_end (L := L) (lf := lfOf left) (fun m => hl0 _) at_
      have hE := loop_end HB.out.1
      rw [e1, e2] at hE
      exact ⟨by rw [← e3]; rfl, has_filter _ hE, HB.out.2⟩
    · intro x c kl y ps w1 cnt1 hk hlk hy hat hrg1 hlt hg1 hs1 hen
      obtain ⟨x', hx1, rfl, hxs⟩ := keyS_inv hk
      injection hx1 with hx1
      subst hx1
      obtain ⟨s, hs, hks⟩ := HL.out _ hlk
      obtain ⟨L1, L2, he⟩ := List.append_of_mem hs
      have hu := HU.out
      rw [he] at hu
      have hls : lfOf left (keyS' s) = true := by rw [hks]; exact hlk
      have hmem := es_has (at_ := at_) hu hls
      rw [← he] at hmem
      have hhit := ht1.hit _ _ (find_of (rise_unlike hri) hmem) (.held c)
      have hc : c = valE s.e := by
        have q := hat (.held c)
        rw [show keyE s.e = x.data.toList from hks, q] at hhit
        unfold RV at hy
        injection hy with hy
        rw [← (Prod.mk.inj hy).1] at hhit
        injection hhit
      subst hc
      have hlf : ∀ m, lfOf (fun z => left z && !z.sameKey (.string x.data.toList)) m = (lfOf left m && m != keyS' s) := fun m => by rw [hks]; rfl
      obtain ⟨e1, e2⟩ := now_cut (at_ := at_) hu hlf hls
      have eg := gone_cut (at_ := at_) hu hlf hls
      rw [← he] at e1 e2 eg
      have hle := gone_le (lfOf (fun z => left z && !z.sameKey (.string x.data.toList))) at_ HOK.out.full
      have hl8 := HOK.out.le
      have ew : wrap64 ((goneL (lfOf left) at_ L : Int) + ((s.xs.length - (expL s.xs at_).length : Nat) : Int)) = (goneL (lfOf (fun z => left z && !z.sameKey (.string x.data.toList))) at_ L : Int) := (w64 (by omega) (by omega)).trans (by omega)
      have EK : Aside0 (expL s.xs at_ ≠ [] → esL (lfOf (fun z => left z && !z.sameKey (.string x.data.toList))) at_ L = esL (lfOf left) at_ L) := ⟨fun q => by rw [he]; exact es_keep hu hlf hls q⟩
      have EC : Aside0 (expL s.xs at_ = [] → esL (lfOf (fun z => left z && !z.sameKey (.string x.data.toList))) at_ L = cutF keyE (esL (lfOf left) at_ L) x.data.toList) := ⟨fun q => by have z := es_cut (at_ := at_) hu hlf hls q; rw [← he, hks] at z; exact z⟩
      have HL2 : Aside0 (∀ m, lfOf (fun z => left z && !z.sameKey (.string x.data.toList)) m = true → ∃ s ∈ L, keyS' s = m) := ⟨fun m hm => HL.out m (by rw [hlf] at hm; exact (Bool.and_eq_true_iff.1 hm).1)⟩
      obtain ⟨hA1, hB1⟩ := hgo1 w1 _ cnt1 hrg1 hg1
      have hA2 := hA1.box #[ptr s.e.b, .slice s.e.hd.1 s.e.hd.2.1 s.e.hd.2.2] 72
      have HB2 : Aside0 (Below B w (w1.alloc (.cells #[ptr s.e.b, .slice s.e.hd.1 s.e.hd.2.1 s.e.hd.2.2] 72))) := ⟨(HB.out.2.trans hB1).trans ((Below.refl B w1).alloc hA1.size _)⟩
      rw [e1, tm_app, tm_cons, List.append_assoc] at hA2
      have HXP := Aside0.mk (rexp_calls (has_mid (As := _ :: _ :: tm (nowL (lfOf left) at_ L1)) hA2) at_)
      have E2 := Aside0.mk e2
      have HKX := Aside0.mk hk
      have HMS := Aside0.mk (show wr.rangeLeft mb w.heap.size = cnt from hrg.left_eq)
      generalize hbo : w1.heap.size = bo at HXP
      unfold valE at hen
      clear hA1 hB1 hA2 hrg1 hhit hy hat hmem hls hu he hs hks hlk hlf e1 e2 eg hle hl8 hri ht1 hrg hgo1 hk hs1 hg1
      go_wp2_with fail
      clear hbo hen
      refine HXP.out.mono ?_
      rintro e w3 ⟨rfl, hA3, hB3⟩
      have hA3 := has_back hA3
      have HB3 := Aside0.mk (HB2.out.trans hB3)
      obtain ⟨bc, -, -, -⟩ := hA3.box_cell (b := bo) (cs := #[ptr s.e.b, .slice s.e.hd.1 s.e.hd.2.1 s.e.hd.2.2]) (t := 72) (by simp)
      have o0 : w3.cell? ⟨bo, 0, none⟩ = some (ptr s.e.b) := bc 0
      have HLE := Aside0.mk (rlen_ring (has_mid (As := _ :: _ :: tm (nowL (lfOf left) at_ L1)) hA3))
      have HA3 : Aside0 (Has B w3 (loopT p mb w.heap.size n (esL (lfOf left) at_ L) (fun z => left z && !z.sameKey (.string x.data.toList)) cnt1 :: (tm (nowL (lfOf (fun z => left z && !z.sameKey (.string x.data.toList))) at_ L) ++ Ts))) := ⟨by
        rw [E2.out, tm_app, tm_cons, List.append_assoc]
        exact hA3.tail⟩
      clear hA3 hB3 HXP HB2 bc
      go_wp2_with fail
      refine HLE.out.mono ?_
      rintro e w4 ⟨rfl, rfl⟩
      clear HLE
      obtain ⟨cl, -, -⟩ := loop_cell HA3.out (List.mem_cons_self ..)
      generalize hlf : (fun z => left z && !z.sameKey (.string x.data.toList)) = left1 at ew EK EC HL2 HA3
      by_cases hz : expL s.xs at_ = []
      · have d1 : (((expL s.xs at_).length : Int) == 0) = true := by rw [hz]; rfl
        have d2 : ((expL s.xs at_).length : Int) = 0 := by rw [hz]; rfl
        have ec := EC.out hz
        have EC := Aside0.mk ec
        clear hz EK ec
        obtain ⟨D2, hrg2, hgo2⟩ := loop_del HA3.out x.data.toList
        go_wp2_with (first
          | (at_delete; refine wpList_delete_ranges _ rfl _ _ 56 9 rfl 72 lawK Try.underlying56 RV mb w.heap.size n D2 _ _ rfl hrg2 (.string x) (.string x.data.toList) rfl HKX.out ?_; intro w5 cnt5 hrg5 hle5 hturn; have HRG := Aside0.mk hrg5; clear hrg5; go_frame)
          | go_in)
        have hrg5 := HRG.out
        rw [show (fun z => left1 z && !z.sameKey (.string x.data.toList)) = left1 from by rw [← hlf]; exact Go.Maps.strike_twice left (.string x.data.toList)] at hrg5
        obtain ⟨hA5, hB5⟩ := hgo2 w5 left1 cnt5 hrg5 hturn
        rw [← EC.out] at hA5
        go_roundw
        case rel => exact ⟨left1, cnt5, rfl, HL2, ⟨hA5, HB3.out.trans hB5⟩⟩
        case measure =>
          rw [hrg5.left_eq, HMS.out]
          omega
      · have hp : (expL s.xs at_).length ≠ 0 := fun q => hz (List.eq_nil_of_length_eq_zero q)
        have d1 : (((expL s.xs at_).length : Int) == 0) = false := beq_eq_false_iff_ne.2 (by omega)
        have d2 : ¬ ((expL s.xs at_).length : Int) = 0 := by omega
        have ek := EK.out hz
        rw [← ek] at HA3
        clear hz EC ek
        go_wp2_with fail
        go_roundw
        case rel => exact ⟨left1, cnt1, by rw [← ew], HL2, ⟨HA3.out, HB3.out⟩⟩
        case measure =>
          obtain ⟨-, ⟨D2, hrg2⟩, -⟩ := loop_cell HA3.out (List.mem_cons_self ..)
          rw [hrg2.left_eq, HMS.out]
          omega
end Go.Proofs.Ytlhlaadnifkdhaa.Sr
