/- Finds, as things: a row of places, and the rows there. No law is proved here. (with what is built on it) -/
import Derived.Test.YtlhlaadnifkdhaaM2
import Derived.Test.YtlhlaadnifkdhaaM1
import Derived.Test.YtlhlaadnifkdhaaKeysS
import Derived.Test.YtlhlaadnifkdhaaQ25
import Derived.Test.YtlhlaadnifkdhaaQ7
import Derived.Test.YtlhlaadnifkdhaaQ26
import Derived.Test.YtlhlaadnifkdhaaQ27
import Derived.Test.YtlhlaadnifkdhaaQ29
import Derived.Sort.Walk0
namespace Go.Proofs.Ytlhlaadnifkdhaa.Sr
open Go.RowKit Go.Proofs.YtlhlaadnifkdhaaW.PrintWords Go.Proofs.YtlhlaadnifkdhaaW.PrintLast Go.Proofs.YtlhlaadnifkdhaaW.PrintMore Go.Proofs.Ytlhlaadnifkdhaa.Q Go.Proofs.Ytlhlaadnifkdhaa.Own Go.Proofs.Ytlhlaadnifkdhaa.Nmd
set_option linter.unusedVariables false
set_option linter.unusedSimpArgs false

abbrev Hd := Option Addr × Nat × Nat
abbrev vH (h : Hd) : Value := .slice h.1 h.2.1 h.2.2
abbrev kH : Kd Hd := Kd.scalar (fun h : Hd => .slice h.1 h.2.1 h.2.2) (fun _ => rfl)
abbrev FH := Hd × Hd
abbrev kF : Kd FH := Kd.pair kH kH
abbrev cellsF (x : FH) : List Value := [vH x.1, vH x.2]
theorem kF_open {w : World} {x : FH} {cs : List Value} (h : kF.K w x cs) : cs = cellsF x := by
  obtain ⟨_, _, rfl, rfl, rfl⟩ := h
  rfl
theorem kF_mk (w : World) (x : FH) : kF.K w x (cellsF x) := ⟨[vH x.1], [vH x.2], rfl, rfl, rfl⟩
theorem kF_KM {W : World} {base : Nat} {ok : Nat → Prop} (x : FH) (cs : List Value) (h : kF.K W x cs) : kF.M W base ok x cs := by
  obtain ⟨c0, c1, rfl, h0, h1⟩ := h
  exact ⟨c0, c1, rfl, h0, h1⟩
theorem infF : (Try.prog.info? 64).map (fun i => (i.zero, i.size, i.bytes)) = some (some (.agg #[.slice none 0 0, .slice none 0 0]), 2, 48) := by kernel_rfl
abbrev rowF (v : Value) (fs : List FH) : Th := rowT kF 64 v fs
theorem add_field (ad : Addr) (i j : Nat) (hj : 0 < j) : (⟨(ad.add i).block, (ad.add i).off + j, none⟩ : Addr) = ad.add (i + j) := by
  obtain ⟨b, o, p⟩ := ad
  have h1 : ¬ (i + j = 0) := by omega
  unfold Addr.add
  by_cases h : i = 0
  · subst h
    simp [h1]
    omega
  · simp [h, h1]
    omega
theorem at_F {w : World} {A : Option Addr} {n : Nat} {l : List FH} (h : Kd.C kF w A n l) (i : Nat) (hi : i < l.length) : ∃ ad, A = some ad ∧ w.cell? (ad.add (i * 2)) = some (vH (l[i]).1) ∧ w.cell? (ad.add (i * 2 + 1)) = some (vH (l[i]).2) := by
  have hn := Kd.C_len h
  obtain ⟨ad, c, e, _, hK, hc0⟩ := Kd.C_get h l[i] (i : Int) (by omega) (by omega)
  rw [Int.toNat_natCast, List.getD_eq_getElem?_getD, List.getElem?_eq_getElem hi] at hK
  rw [Int.toNat_natCast] at hc0
  have hc : ∀ j u, c[j]? = some u → w.cell? (ad.add (i * 2 + j)) = some u := hc0
  have hK' := kF_open hK
  subst hK'
  exact ⟨ad, e, hc 0 _ rfl, hc 1 _ rfl⟩
/-- A place that is written out. -/
theorem lit_F (w : World) (x : FH) : Kd.C kF (w.alloc (.cells #[vH x.1, vH x.2] 64)) (some ⟨w.heap.size, 0, none⟩) [x].length [x] := by
  have hr : Kd.R kF 64 (w.alloc (.cells #[vH x.1, vH x.2] 64)) 0 (fun _ => True) (.slice (some ⟨w.heap.size, 0, none⟩) [x].length [x].length) [x] :=
    ⟨fun _ _ => trivial, OwnRow.lit (ps := [x]) w 0 (inner := cellsF x) (show Reps _ 2 ([] ++ [x]) ([] ++ cellsF x) from Reps.snoc (Reps.none _ _) (kF_KM x _ (kF_mk _ x)) rfl) (Nat.zero_le _) (show 1 ≤ 9223372036854775807 by omega)⟩
  exact (Kd.R_reads' hr).2.2
/-- A find: where its labels lie, where its samples, and these. -/
structure FE where
  hl : Hd
  hs : Hd
  ls : List LB
  xs : List SM
def plF (x : FE) : FH := (x.hl, x.hs)
def viewF (x : FE) : PV := (x.ls, x.xs)
def tf (M : List FE) : List Th := M.flatMap fun x => [rowL (vH x.hl) x.ls, rowS (vH x.hs) x.xs]
theorem tf_app (L M : List FE) : tf (L ++ M) = tf L ++ tf M := List.flatMap_append
theorem tf_cons (s : FE) (L : List FE) : tf (s :: L) = rowL (vH s.hl) s.ls :: rowS (vH s.hs) s.xs :: tf L := rfl
theorem tf_snoc (M : List FE) (x : FE) : tf (M ++ [x]) = tf M ++ [rowL (vH x.hl) x.ls, rowS (vH x.hs) x.xs] := by rw [tf_app]; rfl
/-- Finds that were told. -/
def findsT (v : Value) (R : List PV) : Th where
  on w F := ∃ M, M.map viewF = R ∧ (groupT (rowF v (M.map plF) :: tf M)).on w F
  loc := by
    rintro w w' F ⟨M, h1, h2⟩ hm
    exact ⟨M, h1, (groupT (rowF v (M.map plF) :: tf M)).loc h2 hm⟩
theorem finds_open {B : Nat} {w : World} {v : Value} {R : List PV} {Ts : List Th} (h : Has B w (findsT v R :: Ts)) : ∃ M, M.map viewF = R ∧ Has B w (rowF v (M.map plF) :: (tf M ++ Ts)) := by
  obtain ⟨h0, F, ⟨M, h1, h3⟩, h4⟩ := h
  have q := has_ungroup (Gs := rowF v (M.map plF) :: tf M) (Ts := Ts) ⟨h0, F, h3, h4⟩
  exact ⟨M, h1, q⟩
theorem finds_shut {B : Nat} {w : World} {v : Value} {M : List FE} {Ts : List Th} (h : Has B w (rowF v (M.map plF) :: (tf M ++ Ts))) : Has B w (findsT v (M.map viewF) :: Ts) := by
  obtain ⟨h0, F, h3, h4⟩ := has_group (Gs := rowF v (M.map plF) :: tf M) (Ts := Ts) h
  exact ⟨h0, F, ⟨M, rfl, h3⟩, h4⟩
/-- What finds tell. -/
def findsV (V : List PV) (g : PV → List SM) : List PV := (V.map fun v => (v.1, g v)).filter fun v => !v.2.isEmpty
theorem finds_snoc1 {V : List PV} {g : PV → List SM} {v : PV} (h : g v ≠ []) : findsV (V ++ [v]) g = findsV V g ++ [(v.1, g v)] := by
  unfold findsV
  rw [List.map_append, List.filter_append, List.map_cons, List.filter_cons_of_pos (by cases q : g v with | nil => exact absurd q h | cons _ _ => simp)]
  rfl
theorem finds_snoc0 {V : List PV} {g : PV → List SM} {v : PV} (h : g v = []) : findsV (V ++ [v]) g = findsV V g := by
  unfold findsV
  rw [List.map_append, List.filter_append, List.map_cons, List.filter_cons_of_neg (by simp [h])]
  simp
theorem finds_len (V : List PV) (g : PV → List SM) : (findsV V g).length ≤ V.length := by
  unfold findsV
  refine Nat.le_trans (List.length_filter_le _ _) ?_
  rw [List.length_map]
  exact Nat.le_refl _
theorem at_N {w : World} {A : Option Addr} {n : Nat} {l : List ByteArray} (h : Kd.C Kd.string w A n l) (i : Nat) (hi : i < l.length) : ∃ ad, A = some ad ∧ w.cell? (ad.add i) = some (.string l[i]) := by
  have hn := Kd.C_len h
  obtain ⟨ad, c, e, _, hK, hc⟩ := Kd.C_get h l[i] (i : Int) (by omega) (by omega)
  rw [Int.toNat_natCast, List.getD_eq_getElem?_getD, List.getElem?_eq_getElem hi] at hK
  rw [Int.toNat_natCast] at hc
  have hK' : c = [.string l[i]] := hK
  have h0 := hc 0 (.string l[i]) (by rw [hK']; rfl)
  have h3 : w.cell? (ad.add (i * 1 + 0)) = some (.string l[i]) := h0
  rw [Nat.mul_one, Nat.add_zero] at h3
  exact ⟨ad, e, h3⟩
abbrev rowN (v : Value) (ns : List ByteArray) : Th := rowT Kd.string 9 v ns
theorem names_sorted {w : World} {mb n : Nat} {D : DataW Value} {L : List SE} (hown : w.ownsMap Try.prog 9 RV mb n D) (hf : Tells keyE valE D L) (hr : Rise keyE L) {ss : List (List UInt8)} (hp : ss.Perm (Go.strKeys D)) : ss.mergeSort (fun x y => decide (x ≤ y)) = L.map keyE := by
  have hrs : (L.map keyE).Pairwise fun a b => a < b := by rw [List.pairwise_map]; exact hr
  have hperm : (L.map keyE).Perm (Go.strKeys D) := by
    obtain ⟨es, hD, hpw, _⟩ := hown.entries lawK
    obtain ⟨es', hD', hko⟩ := hown.keysOf
    obtain rfl : es = es' := by rw [hD] at hD'; simpa using hD'
    subst hD
    refine Go.perm_strKeys hpw (fun p hp => by obtain ⟨v, hv⟩ := hko p hp; obtain ⟨x, _, hx, _⟩ := Go.Maps.keyOf_str Try.underlying9 hv; exact ⟨x, hx⟩) ?_ (fun x => ?_)
    · exact hrs.imp fun {a b} q e => by rw [e] at q; exact List.lt_irrefl _ q
    · rw [hf.has]
      constructor
      · intro hx
        obtain ⟨y, hy, rfl⟩ := List.mem_map.1 hx
        rw [find_of (rise_unlike hr) hy]
        rfl
      · intro hx
        obtain ⟨y, hy⟩ := Option.isSome_iff_exists.1 hx
        obtain ⟨h1, h2⟩ := find_mem hy
        exact List.mem_map.2 ⟨y, h1, h2⟩
  have h1 : (ss.mergeSort (fun x y => decide (x ≤ y))).Perm (L.map keyE) := (List.mergeSort_perm ss _).trans (hp.trans hperm.symm)
  have tr : ∀ a b c : List UInt8, decide (a ≤ b) = true → decide (b ≤ c) = true → decide (a ≤ c) = true := fun a b c q1 q2 => by
    simp only [decide_eq_true_eq] at *
    exact List.le_trans q1 q2
  have tot : ∀ a b : List UInt8, (decide (a ≤ b) || decide (b ≤ a)) = true := fun a b => by
    simp only [Bool.or_eq_true, decide_eq_true_eq]
    exact List.le_total a b
  refine List.Perm.eq_of_pairwise (le := fun a b : List UInt8 => decide (a ≤ b) = true) (fun a b _ _ q1 q2 => ?_) (List.pairwise_mergeSort tr tot ss) (hrs.imp fun {a b} q => ?_) h1
  · simp only [decide_eq_true_eq] at q1 q2
    exact List.le_antisymm q1 q2
  · simp only [decide_eq_true_eq]
    exact List.le_of_lt q
theorem encs_names (L : List SE) : (L.map keyE).map encStr = encs Value.string (L.map fun x => x.name) := by
  unfold encs
  rw [List.map_map, List.map_map]
  exact List.map_congr_left fun x _ => rfl
/-- The names of a store, as the calls of finds need them. -/
theorem store_names {B : Nat} {w : World} {p : Nat} {es : List SE} {Ts : List Th} (h : Has B w (mapT p es :: Ts)) (hn : es.length ≤ 1000) : ∃ mb, w.cell? ⟨p, 0, none⟩ = some (.map (some mb)) ∧
    Calls Try.prog 56 #[.map (some mb)] w (fun e w' => e = .returned (.func (.func 74) #[] #[ptr w.heap.size]) ∧ w' = w.alloc (.cells #[.map (some mb)] 56)) ∧
    Calls Try.prog 55 #[.func (.func 74) #[] #[ptr w.heap.size]] (w.alloc (.cells #[.map (some mb)] 56)) fun e w' => ∃ A c, e = .returned (.slice A es.length c) ∧ Has B w' (rowN (.slice A es.length c) (es.map fun x => x.name) :: mapT p es :: Ts) ∧ Below B w w' := by
  have hh := h
  obtain ⟨F, ⟨hF, mb, D, h1, h2, h3, h4, h5, h6⟩, hFb, -⟩ := h.head
  have hsz : Go.Maps.size D = es.length := h5.size
  have HK2 := callsIn_wide.1 (KeysS.sorted_keys mb es.length D RV w h4 (by unfold maxLen; omega) (by omega))
  refine ⟨mb, by rw [blk_cell h3]; rfl, callsIn_wide.1 (KeysS.maps_Keys (some mb) w), HK2.mono ?_⟩
  rintro e w2 ⟨v, ss, rfl, hp, hrow, -, hb⟩
  have hs := names_sorted h4 h5 h6 hp
  have hlen : ss.length = (es.map fun x => x.name).length := by
    have := congrArg List.length hs
    rw [List.length_mergeSort] at this
    simpa using this
  rw [hs, hlen, encs_names] at hrow
  have hR : Kd.R Kd.string 9 w2 w.heap.size (fun _ => True) v (es.map fun x => x.name) := Kd.R_lower (Kd.R_of_own hrow (fun _ _ => trivial)) (by simp)
  have hB : Below w.heap.size w w2 := ((Below.refl _ w).alloc (Nat.le_refl _) _).trans (hb.mono (by simp))
  have hA := hh.row hB hR
  obtain ⟨A, c, rfl, -, -⟩ := hA.reads (d := Kd.string) (e := 9) (v := v) (xs := es.map fun x => x.name) (List.mem_cons_self ..)
  rw [List.length_map] at hA
  exact ⟨A, c, by rw [List.length_map], hA, hB.mono hh.size⟩
end Go.Proofs.Ytlhlaadnifkdhaa.Sr
namespace Go.Proofs.Ytlhlaadnifkdhaa.Sr
open Go.RowKit Go.Proofs.YtlhlaadnifkdhaaW.PrintWords Go.Proofs.YtlhlaadnifkdhaaW.PrintLast Go.Proofs.YtlhlaadnifkdhaaW.PrintMore Go.Proofs.Ytlhlaadnifkdhaa.Q Go.Proofs.Ytlhlaadnifkdhaa.Own Go.Proofs.Ytlhlaadnifkdhaa.Nmd
set_option linter.unusedVariables false
set_option linter.unusedSimpArgs false
attribute [local go_sem ↓] Go.wp_at_zero Go.wp_at_succ

theorem RowPost.has {B : Nat} {w w' : World} {ys : List SM} {e : Ending} {Ts : List Th} (h : RowPost w ys e w') (hA : Has B w Ts) : ∃ A c, e = .returned (.slice A ys.length c) ∧ Has B w' (rowS (.slice A ys.length c) ys :: Ts) ∧ Below B w w' := by
  obtain ⟨v, rfl, h1, h2⟩ := h
  have h3 := hA.row h2 h1
  obtain ⟨A, c, rfl, -, -⟩ := h3.reads (d := kS) (e := 26) (v := v) (xs := ys) (List.mem_cons_self ..)
  exact ⟨A, c, rfl, h3, h2.mono hA.size⟩
/-- What finds asks of the closure. -/
def TellsOf (B : Nat) (Ts : List Th) (w : World) (F : Nat) (caps : Array Value) (g : PV → List SM) : Prop :=
  ∀ (W : World) (b : Nat) (A : Option Addr) (c : Nat) (v : PV), Has B W Ts → Below B w W → RingAt W b v.2 → Pure.mayB v.1 = true → (∀ W', Below W.heap.size W W' → Kd.C kL W' A v.1.length v.1) → v.1.length ≤ c →
    Calls Try.prog F (#[.agg #[ptr b, .slice A v.1.length c]] ++ caps) W (RowPost W (g v))
theorem tm_at {L : List SS} {k : Nat} (h : k < L.length) : ∃ As Bs, tm L = As ++ ringT (L[k]).e.b (L[k]).xs :: rowL (vH (L[k]).e.hd) (L[k]).ls :: Bs := by
  have e := List.take_append_drop k L
  rw [List.drop_eq_getElem_cons h] at e
  refine ⟨tm (L.take k), tm (L.drop (k + 1)), ?_⟩
  conv => lhs; rw [← e]
  rw [tm_app, tm_cons]
theorem tm_mem {L : List SS} {k : Nat} (h : k < L.length) : ringT (L[k]).e.b (L[k]).xs ∈ tm L ∧ rowL (vH (L[k]).e.hd) (L[k]).ls ∈ tm L := by
  obtain ⟨As, Bs, e⟩ := tm_at h
  rw [e]
  exact ⟨by simp, by simp⟩
theorem has_put2 {B : Nat} {w : World} {As Bs : List Th} {T U : Th} (h : Has B w (T :: U :: (As ++ Bs))) : Has B w (As ++ [T, U] ++ Bs) := by
  have h1 : Has B w (T :: (As ++ U :: Bs)) := h.perm (List.Perm.cons _ List.perm_middle.symm)
  have h2 := has_back (As := As) (Bs := U :: Bs) (T := T) h1
  simpa using h2
set_option maxHeartbeats 8000000 in
set_option maxRecDepth 100000 in
theorem finds_calls {B : Nat} {w : World} {p : Nat} {V : List PV} {Ts : List Th} (h : Has B w (storeT p V :: Ts)) {F : Nat} {caps : Array Value} {g : PV → List SM} (hF : TellsOf B Ts w F caps g) (hg : ∀ v, (g v).length ≤ v.2.length)
    (hen : ∀ (args : Array Value) (W : World), (callFunc F args).run Try.prog W = .ok (.enter F args) W) :
    Calls Try.prog 37 #[ptr p, .func (.func F) #[] caps] w fun e w' => ∃ A n c, e = .returned (.slice A n c) ∧ Has B w' (findsT (.slice A n c) (findsV V g) :: storeT p V :: Ts) ∧ Below B w w' := by
  obtain ⟨L, rfl, hok, hA⟩ := store_open h
  have HOK := Aside0.mk hok
  have hl8 := hok.le
  have HF := Aside0.mk hF
  have HG := Aside0.mk hg
  have HRI := Aside0.mk (map_rise hA (List.mem_cons_self ..))
  have HN := Aside0.mk (snone_calls hA (List.mem_cons_self ..))
  obtain ⟨mb, c0, hk1, hk2⟩ := store_names hA (by rw [List.length_map]; omega)
  rw [List.length_map] at hk2
  have HK1 := Aside0.mk hk1
  have HK2 := Aside0.mk hk2
  have HX := Aside0.mk (infF)
  clear h hok hA hk1 hk2 hF hg
  go_enter Try.func37, Try.ntmps37
  go_wp2_with fail
  refine HN.out.mono ?_
  rintro e w1 ⟨rfl, rfl⟩
  clear HN
  go_wp2_with fail
  refine HK1.out.mono ?_
  rintro e w1 ⟨rfl, rfl⟩
  clear HK1
  go_wp2_with fail
  refine HK2.out.mono ?_
  rintro e w2 ⟨A2, c2, rfl, hA2, hB2⟩
  have HA2 : Aside0 (Has B w2 (mapT p (L.map fun s => s.e) :: rowN (.slice A2 L.length c2) (L.map fun s => s.e.name) :: rowF (.slice none 0 0) [] :: (tm L ++ Ts))) := ⟨by
    have q := (row_nil kF hA2 64).third.perm (List.Perm.cons _ (List.Perm.swap _ _ _))
    rw [List.map_map] at q
    exact q⟩
  have HB2 := Aside0.mk hB2
  clear hA2 hB2 HK2 c0
  go_wp2_with fail
  go_loopw [19, 5] (fun i o wr => ∃ (k : Nat) (A5 : Option Addr) (c5 : Nat) (M : List FE), i = .int .i64 k ∧ k ≤ L.length ∧ o = .slice A5 M.length c5 ∧ M.length ≤ k ∧ Aside0 (M.map viewF = findsV (viewL (L.take k)) g) ∧ Aside0 (Has B wr (mapT p (L.map fun s => s.e) :: rowN (.slice A2 L.length c2) (L.map fun s => s.e.name) :: rowF (.slice A5 M.length c5) (M.map plF) :: (tm L ++ (tf M ++ Ts)))) ∧ Aside0 (Below B w wr)) (fun i _ _ => L.length - (intOf i).toNat)
  case atStart => exact ⟨0, none, 0, [], rfl, by omega, rfl, Nat.zero_le _, ⟨rfl⟩, HA2, HB2⟩
  case round =>
    clear HA2 HB2
    obtain ⟨k, A5, c5, M, rfl, hk, rfl, hMk, HM, HA, HB⟩ := hrel
    by_cases hlt : k < L.length
    · have d1 : decide ((k : Int) < (L.length : Int)) = true := decide_eq_true (by omega)
      have d2 : decide (0 ≤ (k : Int)) = true := decide_eq_true (by omega)
      have ek : wrap64 ((k : Int) + 1) = ((k + 1 : Nat) : Int) := (w64 (by omega) (by omega)).trans (by omega)
      obtain ⟨-, -, hCn⟩ := row_reads HA.out (d := Kd.string) (e := 9) (A := A2) (n := L.length) (c := c2) (xs := L.map fun s => s.e.name) (by simp)
      obtain ⟨adn, rfl, hcell⟩ := at_N hCn k (by rw [List.length_map]; exact hlt)
      rw [List.getElem_map] at hcell
      have hmay := HOK.out.may _ (List.getElem_mem hlt)
      have hfull := HOK.out.full _ (List.getElem_mem hlt)
      have hname := HOK.out.name _ (List.getElem_mem hlt)
      have hts := text_size hmay
      rw [← hname] at hts
      obtain ⟨mb, cmap, lk, -⟩ := map_look HA.out (List.mem_cons_self ..) (s := (L[k]).e.name) (by omega)
      obtain ⟨-, lk⟩ := lk (L[k]).e (find_of (rise_unlike HRI.out) (List.mem_map.2 ⟨L[k], List.getElem_mem hlt, rfl⟩))
      unfold valE at lk
      have hTK : viewL (L.take (k + 1)) = viewL (L.take k) ++ [((L[k]).ls, (L[k]).xs)] := by
        unfold viewL
        rw [List.take_succ_eq_append_getElem hlt, List.map_append]
        rfl
      have HTK := Aside0.mk hTK
      obtain ⟨hm1, hm2⟩ := tm_mem hlt
      have HMEM : Aside0 (ringT (L[k]).e.b (L[k]).xs ∈ tm L ∧ rowL (vH (L[k]).e.hd) (L[k]).ls ∈ tm L) := ⟨hm1, hm2⟩
      obtain ⟨hn3, hc3, -⟩ := row_reads HA.out (d := kL) (e := 31) (A := (L[k]).e.hd.1) (n := (L[k]).e.hd.2.1) (c := (L[k]).e.hd.2.2) (xs := (L[k]).ls) (by simp [hm2])
      rw [hn3] at lk
      have hA1 := (HA.out).box #[ptr (L[k]).e.b, .slice (L[k]).e.hd.1 (L[k]).ls.length (L[k]).e.hd.2.2] 72
      have HB1 : Aside0 (Below B w (wr.alloc (.cells #[ptr (L[k]).e.b, .slice (L[k]).e.hd.1 (L[k]).ls.length (L[k]).e.hd.2.2] 72))) := ⟨HB.out.alloc HA.out.size _⟩
      have hreadL : ∀ {W : World} {Us : List Th}, Has B W Us → rowL (vH (L[k]).e.hd) (L[k]).ls ∈ Us → Kd.C kL W (L[k]).e.hd.1 (L[k]).ls.length (L[k]).ls := fun hW hm => (row_reads hW hm).2.2
      have hdropTs : ∀ {W : World} {As : List Th}, Has B W (As ++ (tm L ++ (tf M ++ Ts))) → Has B W Ts := fun {W As} hW => has_drop (As := tf M) (has_drop (As := tm L) (has_drop (As := As) hW))
      have HOF := Aside0.mk (HF.out _ (L[k]).e.b (L[k]).e.hd.1 (L[k]).e.hd.2.2 ((L[k]).ls, (L[k]).xs) (hdropTs (As := [_, _, _, _]) hA1) HB1.out (ring_at_of hA1 (by show ringT (L[k]).e.b (L[k]).xs ∈ _; simp [hm1])).1 hmay (fun W' hW' => hreadL (hA1.below hW') (by simp [hm2])) hc3)
      have HC := Aside0.mk (fun (W : World) (Us : List Th) (hW : Has B W Us) (hm : rowL (vH (L[k]).e.hd) (L[k]).ls ∈ Us) => hreadL hW hm)
      have HA1 := Aside0.mk hA1
      have hlsl := (Pure.good_small hmay).1
      have HGL := Aside0.mk (HG.out ((L[k]).ls, (L[k]).xs))
      dsimp only at HOF HGL
      generalize hys : g ((L[k]).ls, (L[k]).xs) = ys at HOF HGL
      have HYS := Aside0.mk hys
      clear hTK hm1 hm2 hn3 hc3 hCn hname hts hmay hA1 hreadL HF HG HRI HOK HA HX hys hdropTs
      generalize hbo : wr.heap.size = bo at HA1
      go_wp2_with fail
      refine HOF.out.mono ?_
      intro e w3 hrp
      obtain ⟨As, cs, rfl, hA3, hB3⟩ := hrp.has HA1.out
      have HA3 := Aside0.mk hA3
      have HB3 := Aside0.mk (HB1.out.trans hB3)
      clear hrp hA3 hB3 HOF HA1 HB1 hbo lk cmap
      by_cases hz : ys = []
      · subst hz
        go_wp2_with fail
        go_roundw
        case rel => 
          refine ⟨k + 1, A5, c5, M, by first | rfl | rw [ek], by omega, rfl, by omega, ⟨by rw [HTK.out, finds_snoc0 HYS.out]; exact HM.out⟩, ⟨HA3.out.tail.tail⟩, HB3⟩
        case measure => first | (simp [intOf]; omega) | (rw [ek]; simp [intOf]; omega)
      · have hp : 0 < ys.length := List.length_pos_iff.2 hz
        have d3 : decide ((ys.length : Int) > 0) = true := decide_eq_true (by omega)
        have d3' : (0 : Int) < (ys.length : Int) := by omega
        have HZ := Aside0.mk hz
        clear hz
        obtain ⟨bc, -, -, -⟩ := HA3.out.box_cell (b := bo) (cs := #[ptr (L[k]).e.b, .slice (L[k]).e.hd.1 (L[k]).ls.length (L[k]).e.hd.2.2]) (t := 72) (by simp)
        have o1 : w3.cell? ⟨bo, 1, none⟩ = some (.slice (L[k]).e.hd.1 (L[k]).ls.length (L[k]).e.hd.2.2) := bc 1
        have HCL := Aside0.mk (clone_calls HA3.out (A := (L[k]).e.hd.1) (c := (L[k]).e.hd.2.2) (l := (L[k]).ls) (fun w' hb => HC.out w' _ (HA3.out.below hb) (by simp [HMEM.out.2])) (by omega))
        clear bc
        go_wp2_with fail
        refine HCL.out.mono ?_
        rintro e w4 ⟨v4, rfl, hA4, hB4⟩
        obtain ⟨A4, c4, rfl, -, -⟩ := hA4.reads (d := kL) (e := 31) (v := v4) (xs := (L[k]).ls) (List.mem_cons_self ..)
        have HB5 : Aside0 (Below B w (w4.alloc (.cells #[.slice A4 (L[k]).ls.length c4, .slice As ys.length cs] 64))) := ⟨(HB3.out.trans hB4).alloc hA4.size _⟩
        have HC5 : Aside0 (Kd.C kF (w4.alloc (.cells #[.slice A4 (L[k]).ls.length c4, .slice As ys.length cs] 64)) (some ⟨w4.heap.size, 0, none⟩) 1 [((A4, (L[k]).ls.length, c4), (As, ys.length, cs))]) := ⟨lit_F w4 ((A4, (L[k]).ls.length, c4), (As, ys.length, cs))⟩
        have HA5 := Aside0.mk (has_mid (As := [_, _, _, _, _]) (hA4.alloc (.cells #[.slice A4 (L[k]).ls.length c4, .slice As ys.length cs] 64)))
        clear hA4 hB4 HCL HA3 HB3 o1 HC
        go_wp2_with (refine rows_app kF HA5.out rfl _ _ 48 (.agg #[.slice none 0 0, .slice none 0 0]) 48 rfl Try.underlying48 infF rfl (by decide) (by decide) (some ⟨w4.heap.size, 0, none⟩) 1 rfl rfl HC5.out (fun x cs hx => kF_KM x cs hx) (by rw [List.length_map]; show (M.length + 1) * 48 ≤ 140737488355328; omega) ?_; rintro v6 w6 hA6 hB6; obtain ⟨A6, c6, rfl, -, -⟩ := hA6.reads (d := kF) (e := 64) (v := v6) (xs := M.map plF ++ [((A4, (L[k]).ls.length, c4), (As, ys.length, cs))]) (List.mem_cons_self ..); have HA6 := Aside0.mk hA6; have HB6 := Aside0.mk (HB5.out.trans hB6); clear hA6 hB6)
        have hl6 : (M.map plF ++ [(((A4, (L[k]).ls.length, c4), (As, ys.length, cs)) : FH)]).length = M.length + 1 := by rw [List.length_append, List.length_map]; rfl
        have hA7 := HA6.out
        rw [hl6] at hA7
        have hA8 := has_back (As := [_, _, _, _, _]) hA7
        have hA9 := (has_mid (As := [_, _]) hA8).tail
        have hA10 : Has B w6 ((mapT p (L.map fun s => s.e) :: rowN (.slice (some adn) L.length c2) (L.map fun s => s.e.name) :: rowF (.slice A6 (M.length + 1) c6) (M.map plF ++ [((A4, (L[k]).ls.length, c4), (As, ys.length, cs))]) :: (tm L ++ tf M)) ++ [rowL (.slice A4 (L[k]).ls.length c4) (L[k]).ls, rowS (.slice As ys.length cs) ys] ++ Ts) := has_put2 (As := mapT p (L.map fun s => s.e) :: rowN (.slice (some adn) L.length c2) (L.map fun s => s.e.name) :: rowF (.slice A6 (M.length + 1) c6) (M.map plF ++ [((A4, (L[k]).ls.length, c4), (As, ys.length, cs))]) :: (tm L ++ tf M)) (Bs := Ts) (by
          simpa [List.append_assoc] using hA9)
        have HA10 : Aside0 (Has B w6 (mapT p (L.map fun s => s.e) :: rowN (.slice (some adn) L.length c2) (L.map fun s => s.e.name) :: rowF (.slice A6 (M ++ [(⟨(A4, (L[k]).ls.length, c4), (As, ys.length, cs), (L[k]).ls, ys⟩ : FE)]).length c6) ((M ++ [(⟨(A4, (L[k]).ls.length, c4), (As, ys.length, cs), (L[k]).ls, ys⟩ : FE)]).map plF) :: (tm L ++ (tf (M ++ [(⟨(A4, (L[k]).ls.length, c4), (As, ys.length, cs), (L[k]).ls, ys⟩ : FE)]) ++ Ts)))) := ⟨by
          rw [tf_snoc, List.map_append, List.length_append]
          simpa [List.append_assoc, plF] using hA10⟩
        have HLN : Aside0 ((M ++ [(⟨(A4, (L[k]).ls.length, c4), (As, ys.length, cs), (L[k]).ls, ys⟩ : FE)]).length = M.length + 1) := ⟨by rw [List.length_append]; rfl⟩
        clear hA7 hA8 hA9 hA10 HA6
        go_wp2_with fail
        go_roundw
        case rel =>
          refine ⟨k + 1, A6, c6, M ++ [(⟨(A4, (L[k]).ls.length, c4), (As, ys.length, cs), (L[k]).ls, ys⟩ : FE)], by first | rfl | rw [ek], by omega, by rw [HLN.out], by rw [HLN.out]; omega, ⟨?_⟩, HA10, HB6⟩
          have hy := HYS.out
          rw [HTK.out, finds_snoc1 (by rw [hy]; exact HZ.out), List.map_append, HM.out, hy]
          rfl
        case measure => first | (simp [intOf]; omega) | (rw [ek]; simp [intOf]; omega)
    · obtain rfl : k = L.length := by omega
      have d1 : decide ((L.length : Int) < (L.length : Int)) = false := decide_eq_false (by omega)
      have HT : Aside0 (L.take L.length = L) := ⟨List.take_length⟩
      go_wp2_with fail
      go_ret
      have hM := HM.out
      rw [HT.out] at hM
      have pp := List.perm_append_comm_assoc (mapT p (L.map fun (s : SS) => s.e) :: tm L) (tf M) Ts
      simp only [List.cons_append] at pp
      have h2 : Has B wr (rowF (.slice A5 M.length c5) (M.map plF) :: (tf M ++ (mapT p (L.map fun s => s.e) :: (tm L ++ Ts)))) := HA.out.third.third.tail.perm (List.Perm.cons _ pp)
      have h3 := finds_shut h2
      rw [hM] at h3
      have h4 : Has B wr (mapT p (L.map fun s => s.e) :: (tm L ++ (findsT (.slice A5 M.length c5) (findsV (viewL L) g) :: Ts))) := h3.swap.perm (List.Perm.cons _ List.perm_middle.symm)
      exact ⟨A5, M.length, c5, rfl, (store_shut h4 HOK.out).swap, HB.out⟩
end Go.Proofs.Ytlhlaadnifkdhaa.Sr
namespace Go.Proofs.Ytlhlaadnifkdhaa.Sr
open Go.RowKit Go.Proofs.YtlhlaadnifkdhaaW.PrintWords Go.Proofs.YtlhlaadnifkdhaaW.PrintLast Go.Proofs.YtlhlaadnifkdhaaW.PrintMore Go.Proofs.Ytlhlaadnifkdhaa.Q Go.Proofs.Ytlhlaadnifkdhaa.Own Go.Proofs.Ytlhlaadnifkdhaa.Nmd
set_option linter.unusedVariables false
set_option linter.unusedSimpArgs false
attribute [local go_sem ↓] Go.wp_at_zero Go.wp_at_succ

theorem RowPost.lower {W W3 w' : World} {ys : List SM} {e : Ending} (hb : Below W.heap.size W W3) (h : RowPost W3 ys e w') : RowPost W ys e w' := by
  obtain ⟨v, rfl, h1, h2⟩ := h
  exact ⟨v, rfl, Kd.R_lower h1 hb.size, hb.trans (h2.mono hb.size)⟩
set_option maxRecDepth 100000 in
theorem tells_all {B : Nat} {Ts : List Th} {w : World} : TellsOf B Ts w 38 #[] (fun v => v.2) := by
  intro W b A c v hT hB hr hm hC hc
  have hu72 := Try.underlying72
  have hblt := hr.lt.1
  have HB2 : Below W.heap.size W (W.alloc (.cells #[ptr b, .slice A v.1.length c] 72)) := (Below.refl _ W).alloc (Nat.le_refl _) _
  have HB3 := Aside0.mk (HB2.alloc (by simp) (.cells #[ptr b] 70))
  have HAL := Aside0.mk (callsIn_wide.1 (all_calls b (W.alloc (.cells #[ptr b, .slice A v.1.length c] 72))))
  have HCO := Aside0.mk (collect_calls (w := (W.alloc (.cells #[ptr b, .slice A v.1.length c] 72)).alloc (.cells #[ptr b] 70)) (b := b) (bx := W.heap.size + 1) (xs := v.2) (by simp; omega) (by
    have := World.alloc_heap_new (W.alloc (.cells #[ptr b, .slice A v.1.length c] 72)) (.cells #[ptr b] 70)
    rw [World.size_alloc] at this
    exact this) (hr.keep (HB3.out.block b hblt)))
  rw [World.size_alloc] at HAL
  clear hT hB hr hm hC hc HB2
  show Calls Try.prog _ #[.agg #[ptr b, .slice A v.1.length c]] W _
  go_enter Try.func38, Try.ntmps38
  go_wp2_with fail
  refine HAL.out.mono ?_
  rintro e w1 ⟨rfl, rfl⟩
  go_wp2_with fail
  refine HCO.out.mono ?_
  intro e w2 hrp
  obtain ⟨v2, rfl, h1, h2⟩ := RowPost.lower HB3.out hrp
  have H12 : Aside0 (Kd.R kS 26 w2 W.heap.size (fun _ => True) v2 v.2 ∧ Below W.heap.size W w2) := ⟨h1, h2⟩
  clear hrp h1 h2 HCO HAL HB3
  go_wp2_with fail
  go_ret
  exact ⟨v2, rfl, H12.out.1, H12.out.2⟩
abbrev MT := S40
abbrev kM : Kd MT := k40
def selG (m : List MT) (from_ to_ : Int) (v : PV) : List SM := if doesL m v.1 = true then winL v.2 from_ to_ else []
theorem win_len (xs : List SM) (a b : Int) : (winL xs a b).length ≤ xs.length := List.length_filter_le _ _
theorem sel_len (m : List MT) (from_ to_ : Int) (v : PV) : (selG m from_ to_ v).length ≤ v.2.length := by
  unfold selG
  split
  · exact win_len _ _ _
  · exact Nat.zero_le _
set_option maxRecDepth 100000 in
set_option maxHeartbeats 2000000 in
theorem tells_sel {B : Nat} {Ts : List Th} {w : World} {b5 b6 b7 : Nat} {Am : Option Addr} {cm : Nat} {m : List MT} {from_ to_ : Int}
    (h5 : boxT b5 #[.slice Am m.length cm] 37 ∈ Ts) (h6 : boxT b6 #[.int .i64 from_] 3 ∈ Ts) (h7 : boxT b7 #[.int .i64 to_] 3 ∈ Ts)
    (hm : ∀ W, Has B W Ts → Below B w W → Kd.C kM W Am m.length m) (hcm : m.length ≤ cm) : TellsOf B Ts w 41 #[ptr b5, ptr b6, ptr b7] (selG m from_ to_) := by
  intro W b A c v hT hB hr hmay hC hc
  have hu72 := Try.underlying72
  have hblt := hr.lt.1
  have HT := Aside0.mk hT
  have HTB : Aside0 (∀ W', Below W.heap.size W W' → Has B W' Ts ∧ Below B w W') := ⟨fun W' hb => ⟨hT.below hb, hB.trans (hb.mono hT.size)⟩⟩
  have HB2 : Aside0 (Below W.heap.size W (W.alloc (.cells #[ptr b, .slice A v.1.length c] 72))) := ⟨(Below.refl _ W).alloc (Nat.le_refl _) _⟩
  have z5 : ∀ o, (W.alloc o).cell? ⟨b5, 0, none⟩ = some (.slice Am m.length cm) := fun o => c_al o ((hT.box_cell h5).1 0)
  have HDO := Aside0.mk (match_Does.calls Am cm m A c v.1 (doesL m v.1) _ (hm _ (HTB.out _ HB2.out).1 (HTB.out _ HB2.out).2) hcm (hC _ HB2.out) hc rfl)
  have HR := Aside0.mk hr
  have hrow : (W.alloc (.cells #[ptr b, .slice A v.1.length c] 72)).heap[W.heap.size]? = some (.cells #[ptr b, .slice A v.1.length c] 72 (0, 0)) := World.alloc_heap_new W _
  have HRW := Aside0.mk hrow
  have HM5 : Aside0 (boxT b6 #[.int .i64 from_] 3 ∈ Ts ∧ boxT b7 #[.int .i64 to_] 3 ∈ Ts) := ⟨h6, h7⟩
  clear hT hB hr hmay hC hc hm hcm hrow h5 h6 h7
  show Calls Try.prog _ #[.agg #[ptr b, .slice A v.1.length c], ptr b5, ptr b6, ptr b7] W _
  go_enter Try.func41, Try.ntmps41
  go_wp2_with fail
  refine HDO.out.mono ?_
  rintro e w2 ⟨rfl, hb2⟩
  have hB2 : Below W.heap.size W w2 := HB2.out.trans (hb2.mono (by simp))
  have HB3 := Aside0.mk hB2
  obtain ⟨hT2, -⟩ := HTB.out w2 hB2
  have y6 : w2.cell? ⟨b6, 0, none⟩ = some (.int .i64 from_) := (hT2.box_cell HM5.out.1).1 0
  have y7 : w2.cell? ⟨b7, 0, none⟩ = some (.int .i64 to_) := (hT2.box_cell HM5.out.2).1 0
  have y1 : w2.cell? ⟨W.heap.size, 0, none⟩ = some (ptr b) := by
    have hq : w2.heap[W.heap.size]? = some (.cells #[ptr b, .slice A v.1.length c] 72 (0, 0)) := (hb2.block _ (by simp)).trans HRW.out
    rw [blk_cell hq]
    rfl
  have HWI := Aside0.mk (window_calls (HR.out.keep (hB2.block b hblt)) from_ to_)
  clear hb2 hB2 hT2 HDO HB2 HT HTB HM5 HRW HR z5
  cases hd : doesL m v.1 with
  | false =>
    have HD := Aside0.mk hd
    clear hd
    go_wp2_with fail
    go_ret
    refine ⟨_, rfl, ?_, HB3.out⟩
    unfold selG
    rw [HD.out, if_neg (by decide)]
    exact Kd.R_nil kS 26 _ _ _
  | true =>
    have HD := Aside0.mk hd
    clear hd
    go_wp2_with fail
    refine HWI.out.mono ?_
    intro e w3 hrp
    obtain ⟨v2, rfl, h1, h2⟩ := RowPost.lower HB3.out hrp
    have H12 : Aside0 (Kd.R kS 26 w3 W.heap.size (fun _ => True) v2 (selG m from_ to_ v) ∧ Below W.heap.size W w3) := ⟨by unfold selG; rw [HD.out, if_pos rfl]; exact h1, h2⟩
    clear hrp h1 h2 HWI HB3
    go_wp2_with fail
    go_ret
    exact ⟨v2, rfl, H12.out.1, H12.out.2⟩
def allV (V : List PV) : List PV := findsV V fun v => v.2
def selV (V : List PV) (m : List MT) (from_ to_ : Int) : List PV := findsV V (selG m from_ to_)
theorem st_all {B : Nat} {w : World} {p : Nat} {V : List PV} {Ts : List Th} (h : Has B w (storeT p V :: Ts)) :
    Calls Try.prog 15 #[ptr p] w fun e w' => ∃ A n c, e = .returned (.slice A n c) ∧ Has B w' (findsT (.slice A n c) (allV V) :: storeT p V :: Ts) ∧ Below B w w' := by
  have HF := Aside0.mk (finds_calls h (F := 38) (caps := #[]) (g := fun v => v.2) tells_all (fun v => Nat.le_refl _) (enters_of Try.func38 (by kernel_rfl) rfl))
  clear h
  go_enter Try.func15, Try.ntmps15
  go_wp2_with fail
  refine HF.out.mono ?_
  rintro e w2 ⟨A, n, c, rfl, h1, h2⟩
  have H12 : Aside0 (_ ∧ _) := ⟨h1, h2⟩
  clear h1 h2 HF
  go_wp2_with fail
  go_ret
  exact ⟨A, n, c, rfl, H12.out.1, H12.out.2⟩
set_option maxRecDepth 100000 in
theorem st_sel {B : Nat} {w : World} {p : Nat} {V : List PV} {Ts : List Th} (h : Has B w (storeT p V :: Ts)) {Am : Option Addr} {cm : Nat} {m : List MT} (from_ to_ : Int)
    (hm : ∀ W, Has B W Ts → Below B w W → Kd.C kM W Am m.length m) (hcm : m.length ≤ cm) :
    Calls Try.prog 16 #[ptr p, .slice Am m.length cm, .int .i64 from_, .int .i64 to_] w fun e w' => ∃ A n c, e = .returned (.slice A n c) ∧ Has B w' (findsT (.slice A n c) (selV V m from_ to_) :: storeT p V :: Ts) ∧ Below B w w' := by
  have h1 := ((h.box #[.slice Am m.length cm] 37).box #[.int .i64 from_] 3).box #[.int .i64 to_] 3
  rw [World.size_alloc, World.size_alloc] at h1
  have hB1 : Below B w (((w.alloc (.cells #[.slice Am m.length cm] 37)).alloc (.cells #[.int .i64 from_] 3)).alloc (.cells #[.int .i64 to_] 3)) := (((Below.refl B w).alloc h.size _).alloc (by simp; have := h.size; omega) _).alloc (by simp; have := h.size; omega) _
  have HF := Aside0.mk (finds_calls (has_mid (As := [_, _, _]) h1) (F := 41) (caps := #[ptr w.heap.size, ptr (w.heap.size + 1), ptr (w.heap.size + 2)]) (g := selG m from_ to_)
    (tells_sel (by simp) (by simp) (by simp) (fun W hW hb => hm W (has_drop (As := [_, _, _]) hW) (hB1.trans hb)) hcm) (fun v => sel_len _ _ _ _) (enters_of Try.func41 (by kernel_rfl) rfl))
  have HB1 := Aside0.mk hB1
  clear h h1 hB1 hm hcm
  go_enter Try.func16, Try.ntmps16
  go_wp2_with fail
  refine HF.out.mono ?_
  rintro e w2 ⟨A, n, c, rfl, h1, h2⟩
  have H12 : Aside0 (_ ∧ _) := ⟨h1, HB1.out.trans h2⟩
  clear h1 h2 HF HB1
  go_wp2_with fail
  go_ret
  refine ⟨A, n, c, rfl, ?_, H12.out.2⟩
  have q := H12.out.1
  have q2 := (has_mid (As := [_, _]) q).tail
  have q3 := (has_mid (As := [_, _]) q2).tail
  exact (has_mid (As := [_, _]) q3).tail
end Go.Proofs.Ytlhlaadnifkdhaa.Sr
namespace Go.Proofs.Ytlhlaadnifkdhaa.Sr
open Go.RowKit Go.Proofs.YtlhlaadnifkdhaaW.PrintWords Go.Proofs.YtlhlaadnifkdhaaW.PrintLast Go.Proofs.YtlhlaadnifkdhaaW.PrintMore Go.Proofs.Ytlhlaadnifkdhaa.Q Go.Proofs.Ytlhlaadnifkdhaa.Own Go.Proofs.Ytlhlaadnifkdhaa.Nmd
set_option linter.unusedVariables false
set_option linter.unusedSimpArgs false
attribute [local go_sem ↓] Go.wp_at_zero Go.wp_at_succ

abbrev rowM (v : Value) (l : List MT) : Th := rowT kM 40 v l
theorem lit_M1 {B : Nat} {w : World} {Ts : List Th} (h : Has B w Ts) (x : MT) : Has B (w.alloc (.cells #[.string x.f0, .int .u8 x.f1, .string x.f2] 40)) (rowM (.slice (some ⟨w.heap.size, 0, none⟩) 1 1) [x] :: Ts) :=
  h.row ((Below.refl _ w).alloc (Nat.le_refl _) _) ⟨fun _ _ => trivial, OwnRow.lit (ps := [x]) w w.heap.size (inner := [.string x.f0, .int .u8 x.f1, .string x.f2]) (show Reps _ 3 ([] ++ [x]) ([] ++ [.string x.f0, .int .u8 x.f1, .string x.f2]) from Reps.snoc (Reps.none _ _) (k40_mkM _ _ _ x) rfl) (Nat.le_refl _) (show 1 ≤ 9223372036854775807 by omega)⟩
def aw1 : List LB := [⟨⟨#[97]⟩, ⟨#[49]⟩⟩]
def aw2 : List LB := [⟨⟨#[97]⟩, ⟨#[50]⟩⟩]
def awM : MT := ⟨⟨#[97]⟩, 1, ⟨#[49]⟩⟩
def awA : List PV := (addV [] aw1 ⟨5, 10⟩).2
def awB : List PV := (addV awA aw2 ⟨6, 20⟩).2
def awC : List PV := (addV awB aw1 ⟨7, 30⟩).2
def awD : List PV := (addV awC aw1 ⟨6, 0⟩).2
theorem aw_num : (addV [] aw1 ⟨5, 10⟩).1 = 0 ∧ (addV awA aw2 ⟨6, 20⟩).1 = 0 ∧ (addV awB aw1 ⟨7, 30⟩).1 = 0 ∧ (addV awC aw1 ⟨6, 0⟩).1 = 160 ∧ expVN awD 6 = 2 ∧ (expV awD 6).length = 1 := by decide +kernel
theorem aw_sel : selV awD [awM] 0 9 = [(aw2, [⟨6, 20⟩])] := by kernel_rfl
def TruePost (w : World) (e : Ending) (w' : World) : Prop := e = .returned (.bool true) ∧ Below w.heap.size w w'
set_option maxHeartbeats 8000000 in
set_option maxRecDepth 100000 in
theorem awake_calls (w : World) : Calls Try.prog 20 #[] w (TruePost w) := by
  have HO := Aside0.mk aw_num
  go_enter Try.func20, Try.ntmps20
  go_wp2_with fail
  refine (st_new (Has.nil w)).mono ?_
  rintro e w1 ⟨p, rfl, hA, hB⟩
  have hA1 := lit_L (lit_L hA aw1 (by show 1 ≤ 9223372036854775807; omega)) aw2 (by show 1 ≤ 9223372036854775807; omega)
  rw [World.size_alloc] at hA1
  have hB1 : Below w.heap.size w ((w1.alloc (.cells (aw1.flatMap cellsL).toArray 31)).alloc (.cells (aw2.flatMap cellsL).toArray 31)) := (hB.alloc hA.size _).alloc (by simp; have := hA.size; omega) _
  have rd : ∀ {W : World} {Ts : List Th} {A : Option Addr} {n c : Nat} {l : List LB}, Has w.heap.size W Ts → rowL (.slice A n c) l ∈ Ts → Kd.C kL W A l.length l := fun h hm => lit_readL h hm
  have HA := Aside0.mk (st_add (has_mid (As := [_, _]) hA1) (A := some ⟨w1.heap.size, 0, none⟩) (c := 1) (ls := aw1) ⟨5, 10⟩ (fun W hW _ => rd hW (List.mem_cons_of_mem _ (List.mem_cons_self ..))) (by show 1 ≤ 1; omega) (by show 1 ≤ 9223372036854775807; omega))
  rw [HO.out.1] at HA
  have HB1 := Aside0.mk hB1
  have RD := Aside0.mk @rd
  clear hA hB hA1 hB1 rd
  go_wp2_with fail
  refine HA.out.mono ?_
  rintro e w2 ⟨rfl, hA, hB⟩
  have hA : Has w.heap.size w2 [storeT p awA, rowL (.slice (some ⟨w1.heap.size + 1, 0, none⟩) 1 1) aw2, rowL (.slice (some ⟨w1.heap.size, 0, none⟩) 1 1) aw1] := hA
  have HB2 := Aside0.mk (HB1.out.trans hB)
  have HA := Aside0.mk (st_add hA (A := some ⟨w1.heap.size + 1, 0, none⟩) (c := 1) (ls := aw2) ⟨6, 20⟩ (fun W hW _ => RD.out hW (List.mem_cons_self ..)) (by show 1 ≤ 1; omega) (by show 1 ≤ 9223372036854775807; omega))
  rw [HO.out.2.1] at HA
  clear hA hB HB1
  go_wp2_with fail
  refine HA.out.mono ?_
  rintro e w3 ⟨rfl, hA, hB⟩
  have hA : Has w.heap.size w3 [storeT p awB, rowL (.slice (some ⟨w1.heap.size + 1, 0, none⟩) 1 1) aw2, rowL (.slice (some ⟨w1.heap.size, 0, none⟩) 1 1) aw1] := hA
  have HB3 := Aside0.mk (HB2.out.trans hB)
  have HA := Aside0.mk (st_add hA (A := some ⟨w1.heap.size, 0, none⟩) (c := 1) (ls := aw1) ⟨7, 30⟩ (fun W hW _ => RD.out hW (List.mem_cons_of_mem _ (List.mem_cons_self ..))) (by show 1 ≤ 1; omega) (by show 1 ≤ 9223372036854775807; omega))
  rw [HO.out.2.2.1] at HA
  clear hA hB HB2
  go_wp2_with fail
  refine HA.out.mono ?_
  rintro e w4 ⟨rfl, hA, hB⟩
  have hA : Has w.heap.size w4 [storeT p awC, rowL (.slice (some ⟨w1.heap.size + 1, 0, none⟩) 1 1) aw2, rowL (.slice (some ⟨w1.heap.size, 0, none⟩) 1 1) aw1] := hA
  have HB4 := Aside0.mk (HB3.out.trans hB)
  have HA := Aside0.mk (st_add hA (A := some ⟨w1.heap.size, 0, none⟩) (c := 1) (ls := aw1) ⟨6, 0⟩ (fun W hW _ => RD.out hW (List.mem_cons_of_mem _ (List.mem_cons_self ..))) (by show 1 ≤ 1; omega) (by show 1 ≤ 9223372036854775807; omega))
  rw [HO.out.2.2.2.1] at HA
  clear hA hB HB3
  go_wp2_with fail
  refine HA.out.mono ?_
  rintro e w5 ⟨rfl, hA, hB⟩
  have hA : Has w.heap.size w5 [storeT p awD, rowL (.slice (some ⟨w1.heap.size + 1, 0, none⟩) 1 1) aw2, rowL (.slice (some ⟨w1.heap.size, 0, none⟩) 1 1) aw1] := hA
  have HB5 : Aside0 (Below w.heap.size w (w5.alloc (.cells #[.string ⟨#[97]⟩, .int .u8 1, .string ⟨#[49]⟩] 40))) := ⟨(HB4.out.trans hB).alloc hA.size _⟩
  have HA := Aside0.mk (st_sel ((lit_M1 hA awM).swap) (Am := some ⟨w5.heap.size, 0, none⟩) (cm := 1) (m := [awM]) 0 9 (fun W hW _ => (row_reads hW (d := kM) (e := 40) (n := 1) (c := 1) (List.mem_cons_self ..)).2.2) (by show 1 ≤ 1; omega))
  rw [aw_sel] at HA
  clear hA hB HB4
  go_wp2_with fail
  refine HA.out.mono ?_
  rintro e w6 ⟨Af, nf, cf, rfl, hA, hB⟩
  have hA := has_only (has_pair hA.swap)
  have hA := (has_unpair hA)
  have HB6 := Aside0.mk (HB5.out.trans hB)
  have HA := Aside0.mk (st_exp hA 6)
  rw [HO.out.2.2.2.2.1] at HA
  clear hA hB HB5
  go_wp2_with fail
  refine HA.out.mono ?_
  rintro e w7 ⟨rfl, hA, hB⟩
  have HL := Aside0.mk (st_len hA)
  rw [HO.out.2.2.2.2.2] at HL
  have HB7 := Aside0.mk (HB6.out.trans hB)
  obtain ⟨M, hM, hA⟩ := finds_open hA.swap
  obtain ⟨x, rfl⟩ : ∃ x, M = [x] := List.length_eq_one_iff.1 (by have hl := congrArg List.length hM; rw [List.length_map] at hl; exact hl)
  obtain ⟨xl, xs, ls, ys⟩ := x
  injection hM with hM _
  injection hM with h1 h2
  dsimp only at h1 h2
  subst h1; subst h2
  obtain ⟨hn, -, hC⟩ := row_reads hA (d := kF) (e := 64) (A := Af) (n := nf) (c := cf) (xs := [(xl, xs)]) (List.mem_cons_self ..)
  obtain ⟨ad, rfl, c0, c1⟩ := at_F hC 0 (by show 0 < 1; omega)
  obtain ⟨gf, rfl⟩ := row_plain hA (List.mem_cons_self ..)
  obtain ⟨xA, xn, xc⟩ := xs
  obtain ⟨hxn, -, hxC⟩ := row_reads hA (d := kS) (e := 26) (A := xA) (n := xn) (c := xc) (xs := [⟨6, 20⟩]) (by simp [tf, vH])
  have hxn : xn = 1 := hxn
  have hnf : nf = 1 := hn
  subst hxn; subst hnf
  have y1 : w7.cell? ⟨gf, 1, none⟩ = some (.slice xA 1 xc) := c1
  obtain ⟨ad2, e2, s0, s1⟩ := at_T26 hxC 0 (by omega) (by show (0 : Int) < 1; omega)
  subst e2
  obtain ⟨g2, rfl⟩ := row_plain hA (d := kS) (e := 26) (ad := ad2) (n := 1) (c := xc) (xs := [⟨6, 20⟩]) (by simp [tf, vH])
  have y2 : w7.cell? ⟨g2, 1, none⟩ = some (.int .i64 20) := s1
  clear hA hB hC hxC c0 c1 s0 s1 HB6 HO RD HA hn hxn
  go_wp2_with fail
  refine HL.out.mono ?_
  rintro e w8 ⟨rfl, rfl⟩
  go_wp2_with fail
  go_ret
  exact ⟨rfl, HB7.out⟩
end Go.Proofs.Ytlhlaadnifkdhaa.Sr
namespace Go.Proofs.Ytlhlaadnifkdhaa.Sr
open Go.RowKit Go.Proofs.YtlhlaadnifkdhaaW.PrintWords Go.Proofs.YtlhlaadnifkdhaaW.PrintLast Go.Proofs.YtlhlaadnifkdhaaW.PrintMore Go.Proofs.Ytlhlaadnifkdhaa.Q Go.Proofs.Ytlhlaadnifkdhaa.Own Go.Proofs.Ytlhlaadnifkdhaa.Nmd Go.Proofs.Ytlhlaadnifkdhaa.Pure
set_option linter.unusedVariables false
set_option linter.unusedSimpArgs false

abbrev AT := S46
abbrev kA : Kd AT := k46
theorem great_l1 (l : List AT) (x4 : Int) (h0 : 0 ≤ x4) (h1 : x4 < l.length) (hl : ((rd_T46 l x4).f1).length ≤ 9223372036854775807) (hn : ∀ x3, ∃ r, Ev (fun k => tocsinlaw17_Great.l0 k l x3 (wrap64 (x4 + 1))) r) : ∀ (d : Nat) (x5 x3 : Int), 0 ≤ x5 → x5 ≤ ((rd_T46 l x4).f1).length → (((rd_T46 l x4).f1).length : Int) - x5 = d → ∃ r, Ev (fun k => tocsinlaw17_Great.l1 k l x3 x4 x5) r := by
  intro d
  induction d with
  | zero =>
    intro x5 x3 h2 h3 hd
    obtain ⟨r, hr⟩ := hn x3
    exact ⟨r, Ev.step (fun k => by rw [tocsinlaw17_Great.l1, if_pos h0, if_pos h1, if_neg (by omega)]) hr⟩
  | succ d ih =>
    intro x5 x3 h2 h3 hd
    by_cases c1 : (((rd_T31 ((rd_T46 l x4).f1) x5).f0).size : Int) > 20000
    · exact ⟨true, Ev.step (fun k => by rw [tocsinlaw17_Great.l1, if_pos h0, if_pos h1, if_pos (by omega), if_pos h2, if_pos c1]) (Ev.now _)⟩
    by_cases c2 : (((rd_T31 ((rd_T46 l x4).f1) x5).f1).size : Int) > 20000
    · exact ⟨true, Ev.step (fun k => by rw [tocsinlaw17_Great.l1, if_pos h0, if_pos h1, if_pos (by omega), if_pos h2, if_neg c1, if_pos c2]) (Ev.now _)⟩
    by_cases c3 : x3 > 20000
    · exact ⟨true, Ev.step (fun k => by rw [tocsinlaw17_Great.l1, if_pos h0, if_pos h1, if_pos (by omega), if_pos h2, if_neg c1, if_neg c2, if_pos c3]) (Ev.now _)⟩
    obtain ⟨r, hr⟩ := ih (x5 + 1) (wrap64 ((wrap64 ((wrap64 (x3 + 1)) + (((rd_T31 ((rd_T46 l x4).f1) x5).f0).size : Int))) + (((rd_T31 ((rd_T46 l x4).f1) x5).f1).size : Int))) (by omega) (by omega) (by omega)
    exact ⟨r, Ev.step (fun k => by rw [tocsinlaw17_Great.l1, if_pos h0, if_pos h1, if_pos (by omega), if_pos h2, if_neg c1, if_neg c2, if_neg c3, w64 (x := x5 + 1) (by omega) (by omega)]) hr⟩
theorem rd_memA {l : List AT} {x : Int} (h0 : 0 ≤ x) (h1 : x < l.length) : rd_T46 l x ∈ l := by
  have h2 : x.toNat < l.length := by omega
  unfold rd_T46
  rw [List.getD_eq_getElem?_getD, List.getElem?_eq_getElem h2]
  exact List.getElem_mem h2
theorem great_l0 (l : List AT) (hl : l.length ≤ 200) (hg : ∀ x ∈ l, x.f1.length ≤ 9223372036854775807) : ∀ (d : Nat) (x4 x3 : Int), 0 ≤ x4 → x4 ≤ l.length → (l.length : Int) - x4 = d → ∃ r, Ev (fun k => tocsinlaw17_Great.l0 k l x3 x4) r := by
  intro d
  induction d with
  | zero =>
    intro x4 x3 h0 h1 hd
    exact ⟨_, Ev.step (fun k => by rw [tocsinlaw17_Great.l0, if_neg (by omega)]) (Ev.now _)⟩
  | succ d ih =>
    intro x4 x3 h0 h1 hd
    have hx : x4 < l.length := by omega
    obtain ⟨r, hr⟩ := great_l1 l x4 h0 hx (hg _ (rd_memA h0 hx)) (fun x3' => by
      rw [w64 (by omega) (by omega)]
      exact ih (x4 + 1) x3' (by omega) (by omega) (by omega)) _ 0 x3 (by omega) (by omega) (Int.sub_zero _)
    exact ⟨r, Ev.step (fun k => by rw [tocsinlaw17_Great.l0, if_pos hx]) hr⟩
theorem great_ev (l : List AT) (hg : ∀ x ∈ l, x.f1.length ≤ 9223372036854775807) : ∃ r, Ev (fun k => tocsinlaw17_Great.f k l) r ∧ (r = false → l.length ≤ 200) := by
  by_cases h : (l.length : Int) > 200
  · exact ⟨true, ev_pos h (Ev.now _), fun q => by cases q⟩
  · obtain ⟨r, hr⟩ := great_l0 l (by omega) hg l.length 0 0 (by omega) (by omega) (by omega)
    exact ⟨r, ev_neg h hr, fun _ => by omega⟩
theorem great_c {w : World} {A : Option Addr} {c : Nat} {l : List AT} (hC : Kd.C kA w A l.length l) (hc : l.length ≤ c) (hg : ∀ x ∈ l, x.f1.length ≤ 9223372036854775807) :
    ∃ r, (r = false → l.length ≤ 200) ∧ Calls Try.prog 12 #[.slice A l.length c] w fun e w' => e = .returned (.bool r) ∧ Below w.heap.size w w' := by
  obtain ⟨r, hr, h2⟩ := great_ev l hg
  obtain ⟨k, hk⟩ := hr.rounds
  refine ⟨r, h2, (tocsinlaw17_Great.calls k A c l _ w hC hc hk).mono ?_⟩
  rintro e w' ⟨rfl, hb⟩
  exact ⟨rfl, hb⟩
/-! The same -/
theorem lb_eq {x y : LB} : ((x.f0.toList == y.f0.toList) && (x.f1.toList == y.f1.toList)) = true ↔ x = y := by
  rw [Bool.and_eq_true, beq_iff_eq, beq_iff_eq]
  exact ⟨fun h => ext31 h.1 h.2, fun h => by rw [h]; exact ⟨rfl, rfl⟩⟩
def sameLs : List LB → List LB → Bool
  | [], [] => true
  | x :: l, y :: m => ((x.f0.toList == y.f0.toList) && (x.f1.toList == y.f1.toList)) && sameLs l m
  | _, _ => false
theorem sameLs_iff : ∀ {l m : List LB}, sameLs l m = true ↔ l = m
  | [], [] => by simp [sameLs]
  | [], y :: m => by simp [sameLs]
  | x :: l, [] => by simp [sameLs]
  | x :: l, y :: m => by
    unfold sameLs
    rw [Bool.and_eq_true, lb_eq, sameLs_iff, List.cons.injEq]
theorem sameLs_ev (a b : List LB) (ha : a.length ≤ 9223372036854775807) (hab : a.length = b.length) : ∀ (d : Nat) (x : Int), 0 ≤ x → x ≤ a.length → (a.length : Int) - x = d → Ev (fun k => tocsinref17_SameLabels.l0 k a b x) (sameLs (a.drop x.toNat) (b.drop x.toNat)) := by
  intro d
  induction d with
  | zero =>
    intro x h0 h1 hd
    rw [List.drop_eq_nil_of_le (show a.length ≤ x.toNat by omega), List.drop_eq_nil_of_le (show b.length ≤ x.toNat by omega)]
    exact Ev.step (fun k => by rw [tocsinref17_SameLabels.l0, if_neg (by omega)]; rfl) (Ev.now _)
  | succ d ih =>
    intro x h0 h1 hd
    have hx : x < a.length := by omega
    have hy : x < b.length := by omega
    rw [rd_drop a x.toNat (by omega), rd_drop b x.toNat (by omega), Int.toNat_of_nonneg h0, sameLs]
    cases hq : ((rd_T31 a x).f0.toList == (rd_T31 b x).f0.toList) && ((rd_T31 a x).f1.toList == (rd_T31 b x).f1.toList) with
    | false =>
      exact Ev.step (fun k => by rw [tocsinref17_SameLabels.l0, if_pos hx, if_pos h0, if_pos hy, if_pos (by rw [← Bool.not_and, hq]; rfl)]; rfl) (Ev.now _)
    | true =>
      refine Ev.step (fun k => by rw [tocsinref17_SameLabels.l0, if_pos hx, if_pos h0, if_pos hy, if_neg (by rw [← Bool.not_and, hq]; decide), w64 (by omega) (by omega)]) ?_
      have := ih (x + 1) (by omega) (by omega) (by omega)
      rw [toNat_succ h0] at this
      rw [Bool.true_and]
      exact this
theorem same_labels (a b : List LB) (ha : a.length ≤ 9223372036854775807) : Ev (fun k => tocsinref17_SameLabels.f k a b) (sameLs a b) := by
  by_cases h : (a.length : Int) = b.length
  · exact ev_pos h (sameLs_ev a b ha (by omega) a.length 0 (by omega) (by omega) (by omega))
  · have e : sameLs a b = false := by
      rw [Bool.eq_false_iff]
      intro q
      rw [sameLs_iff.1 q] at h
      exact h rfl
    rw [e]
    exact ev_neg h (Ev.now _)
theorem samel_c {w : World} {A A' : Option Addr} {c c' : Nat} {a b : List LB} (hC : Kd.C kL w A a.length a) (hc : a.length ≤ c) (hC' : Kd.C kL w A' b.length b) (hc' : b.length ≤ c') :
    Calls Try.prog 21 #[.slice A a.length c, .slice A' b.length c'] w fun e w' => e = .returned (.bool (sameLs a b)) ∧ Below w.heap.size w w' := by
  obtain ⟨k, hk⟩ := (same_labels a b (Kd.C_max hC)).rounds
  refine (tocsinref17_SameLabels.calls k A c a A' c' b _ w hC hc hC' hc' hk).mono ?_
  rintro e w' ⟨rfl, hb⟩
  exact ⟨rfl, hb.below⟩
theorem sm_eq {x y : SM} : ((x.f0 == y.f0) && (x.f1 == y.f1)) = true ↔ x = y := by
  rw [Bool.and_eq_true, beq_iff_eq, beq_iff_eq]
  cases x; cases y
  simp
def sameSs : List SM → List SM → Bool
  | [], [] => true
  | x :: l, y :: m => ((x.f0 == y.f0) && (x.f1 == y.f1)) && sameSs l m
  | _, _ => false
theorem sameSs_iff : ∀ {l m : List SM}, sameSs l m = true ↔ l = m
  | [], [] => by simp [sameSs]
  | [], y :: m => by simp [sameSs]
  | x :: l, [] => by simp [sameSs]
  | x :: l, y :: m => by
    unfold sameSs
    rw [Bool.and_eq_true, sm_eq, sameSs_iff, List.cons.injEq]
theorem rd_dropS (l : List SM) (k : Nat) (h : k < l.length) : l.drop k = rd_T26 l (k : Int) :: l.drop (k + 1) := by
  rw [List.drop_eq_getElem_cons h]
  simp [rd_T26, List.getElem?_eq_getElem h]
theorem sameSs_ev (a b : List SM) (ha : a.length ≤ 9223372036854775807) (hab : a.length = b.length) : ∀ (d : Nat) (x : Int), 0 ≤ x → x ≤ a.length → (a.length : Int) - x = d → Ev (fun k => tocsinref16_Same.l0 k a b x) (sameSs (a.drop x.toNat) (b.drop x.toNat)) := by
  intro d
  induction d with
  | zero =>
    intro x h0 h1 hd
    rw [List.drop_eq_nil_of_le (show a.length ≤ x.toNat by omega), List.drop_eq_nil_of_le (show b.length ≤ x.toNat by omega)]
    exact Ev.step (fun k => by rw [tocsinref16_Same.l0, if_neg (by omega)]; rfl) (Ev.now _)
  | succ d ih =>
    intro x h0 h1 hd
    have hx : x < a.length := by omega
    have hy : x < b.length := by omega
    rw [rd_dropS a x.toNat (by omega), rd_dropS b x.toNat (by omega), Int.toNat_of_nonneg h0, sameSs]
    cases hq : ((rd_T26 a x).f0 == (rd_T26 b x).f0) && ((rd_T26 a x).f1 == (rd_T26 b x).f1) with
    | false =>
      exact Ev.step (fun k => by rw [tocsinref16_Same.l0, if_pos hx, if_pos h0, if_pos hy, if_pos (by rw [← Bool.not_and, hq]; rfl)]; rfl) (Ev.now _)
    | true =>
      refine Ev.step (fun k => by rw [tocsinref16_Same.l0, if_pos hx, if_pos h0, if_pos hy, if_neg (by rw [← Bool.not_and, hq]; decide), w64 (by omega) (by omega)]) ?_
      have := ih (x + 1) (by omega) (by omega) (by omega)
      rw [toNat_succ h0] at this
      rw [Bool.true_and]
      exact this
theorem same_samples (a b : List SM) (ha : a.length ≤ 9223372036854775807) : Ev (fun k => tocsinref16_Same.f k a b) (sameSs a b) := by
  by_cases h : (a.length : Int) = b.length
  · exact ev_pos h (sameSs_ev a b ha (by omega) a.length 0 (by omega) (by omega) (by omega))
  · have e : sameSs a b = false := by
      rw [Bool.eq_false_iff]
      intro q
      rw [sameSs_iff.1 q] at h
      exact h rfl
    rw [e]
    exact ev_neg h (Ev.now _)
theorem sames_c {w : World} {A A' : Option Addr} {c c' : Nat} {a b : List SM} (hC : Kd.C kS w A a.length a) (hc : a.length ≤ c) (hC' : Kd.C kS w A' b.length b) (hc' : b.length ≤ c') :
    Calls Try.prog 22 #[.slice A a.length c, .slice A' b.length c'] w fun e w' => e = .returned (.bool (sameSs a b)) ∧ Below w.heap.size w w' := by
  obtain ⟨k, hk⟩ := (same_samples a b (Kd.C_max hC)).rounds
  refine (tocsinref16_Same.calls k A c a A' c' b _ w hC hc hC' hc' hk).mono ?_
  rintro e w' ⟨rfl, hb⟩
  exact ⟨rfl, hb.below⟩
/-! Window -/
theorem win_ev (l : List SM) (hl : l.length ≤ 1000000) (a b : Int) : ∀ (d : Nat) (x : Int) (acc : List SM), 0 ≤ x → x ≤ l.length → (l.length : Int) - x = d → acc.length ≤ x → Ev (fun k => tocsinref16_Window.l0 k l a b acc x) (acc ++ winL (l.drop x.toNat) a b) := by
  intro d
  induction d with
  | zero =>
    intro x acc h0 h1 hd ha
    rw [List.drop_eq_nil_of_le (show l.length ≤ x.toNat by omega)]
    exact Ev.step (fun k => by rw [tocsinref16_Window.l0, if_neg (by omega)]) (by rw [show winL [] a b = [] from rfl, List.append_nil]; exact Ev.now _)
  | succ d ih =>
    intro x acc h0 h1 hd ha
    have hx : x < l.length := by omega
    rw [rd_dropS l x.toNat (by omega), Int.toNat_of_nonneg h0]
    have hi := fun acc' ha' => ih (x + 1) acc' (by omega) (by omega) (by omega) ha'
    rw [toNat_succ h0] at hi
    by_cases c1 : (rd_T26 l x).f0 > a
    · by_cases c2 : (rd_T26 l x).f0 ≤ b
      · have e : winL (rd_T26 l x :: l.drop (x.toNat + 1)) a b = rd_T26 l x :: winL (l.drop (x.toNat + 1)) a b := List.filter_cons_of_pos (by unfold inW; rw [decide_eq_true c1, decide_eq_true c2]; rfl)
        rw [e]
        refine Ev.step (fun k => by rw [tocsinref16_Window.l0, if_pos hx, if_pos h0, if_pos c1, if_pos c2, if_pos (by omega), w64 (by omega) (by omega)]) ?_
        have := hi (acc ++ [rd_T26 l x]) (by rw [List.length_append]; show ((acc.length + 1 : Nat) : Int) ≤ x + 1; omega)
        rw [List.append_assoc] at this
        exact this
      · have e : winL (rd_T26 l x :: l.drop (x.toNat + 1)) a b = winL (l.drop (x.toNat + 1)) a b := List.filter_cons_of_neg (by unfold inW; rw [decide_eq_false c2]; simp)
        rw [e]
        exact Ev.step (fun k => by rw [tocsinref16_Window.l0, if_pos hx, if_pos h0, if_pos c1, if_neg c2, w64 (by omega) (by omega)]) (hi acc (by omega))
    · have e : winL (rd_T26 l x :: l.drop (x.toNat + 1)) a b = winL (l.drop (x.toNat + 1)) a b := List.filter_cons_of_neg (by unfold inW; rw [show decide (a < (rd_T26 l x).f0) = false from decide_eq_false c1]; simp)
      rw [e]
      exact Ev.step (fun k => by rw [tocsinref16_Window.l0, if_pos hx, if_pos h0, if_neg c1, w64 (by omega) (by omega)]) (hi acc (by omega))
theorem window_ev (l : List SM) (hl : l.length ≤ 1000000) (a b : Int) : Ev (fun k => tocsinref16_Window.f k l a b) (winL l a b) := by
  have := win_ev l hl a b l.length 0 [] (by omega) (by omega) (by omega) (by show (0 : Int) ≤ 0; omega)
  exact this
theorem window_c {w : World} {A : Option Addr} {c : Nat} {l : List SM} (hC : Kd.C kS w A l.length l) (hc : l.length ≤ c) (hl : l.length ≤ 1000000) (a b : Int) :
    Calls Try.prog 24 #[.slice A l.length c, .int .i64 a, .int .i64 b] w (RowPost w (winL l a b)) := by
  obtain ⟨k, hk⟩ := (window_ev l hl a b).rounds
  refine (tocsinref16_Window.calls k A c l a b _ w hC hc hk).mono ?_
  rintro e w' ⟨v, h1, h2, h3⟩
  exact ⟨v, h1, h2, h3⟩
end Go.Proofs.Ytlhlaadnifkdhaa.Sr
namespace Go.Proofs.Ytlhlaadnifkdhaa.Sr
open Go.RowKit Go.Proofs.YtlhlaadnifkdhaaW.PrintWords Go.Proofs.YtlhlaadnifkdhaaW.PrintLast Go.Proofs.YtlhlaadnifkdhaaW.PrintMore Go.Proofs.Ytlhlaadnifkdhaa.Q Go.Proofs.Ytlhlaadnifkdhaa.Own Go.Proofs.Ytlhlaadnifkdhaa.Nmd
set_option linter.unusedVariables false
set_option linter.unusedSimpArgs false

def stepV (V : List PV) (a : AT) : List PV := if a.f0 = true then expV V a.f2.f0 else (addV V a.f1 a.f2).2
def runV (l : List AT) : List PV := l.foldl stepV []
theorem run_take (l : List AT) {k : Nat} (h : k < l.length) : runV (l.take (k + 1)) = stepV (runV (l.take k)) l[k] := by
  unfold runV
  rw [List.take_succ_eq_append_getElem h, List.foldl_append]
  rfl
theorem rd_act (l : List AT) {k : Nat} (h : k < l.length) : rd_T46 l (k : Int) = l[k] := by
  unfold rd_T46
  rw [Int.toNat_natCast, List.getD_eq_getElem?_getD, List.getElem?_eq_getElem h]
  rfl
theorem act_at {w : World} {A : Option Addr} {n : Nat} {l : List AT} (h : Kd.C kA w A n l) (k : Nat) (hk : k < l.length) : ∃ ad A1 c1, A = some ad ∧ w.cell? (ad.add (k * 4)) = some (.bool (l[k]).f0) ∧ w.cell? ⟨(ad.add (k * 4)).block, (ad.add (k * 4)).off + 1, none⟩ = some (.slice A1 (l[k]).f1.length c1) ∧ w.cell? ⟨(ad.add (k * 4)).block, (ad.add (k * 4)).off + 2, none⟩ = some (.int .i64 (l[k]).f2.f0) ∧ w.cell? ⟨(ad.add (k * 4)).block, (ad.add (k * 4)).off + 3, none⟩ = some (.int .i64 (l[k]).f2.f1) ∧ (l[k]).f1.length ≤ c1 ∧ Kd.C kL w A1 (l[k]).f1.length (l[k]).f1 := by
  have hn := Kd.C_len h
  have := at_T46 h (k : Int) (by omega) (by omega)
  rw [rd_act l hk, Int.toNat_natCast] at this
  exact this
theorem cell_bl {B : Nat} {w w' : World} {a : Addr} {v : Value} (hb : Below w.heap.size w w') (h : w.cell? a = some v) : w'.cell? a = some v := (hb.cell (World.block_lt_of_cell? w _ h)).trans h
theorem store_facts {B : Nat} {w : World} {p : Nat} {V : List PV} {Ts : List Th} (h : Has B w (storeT p V :: Ts)) : Rise keyP V ∧ (∀ v ∈ V, Pure.mayB v.1 = true) ∧ V.length ≤ 8 ∧ ∀ v ∈ V, v.2.length ≤ 32 := by
  obtain ⟨L, rfl, hok, hA⟩ := store_open h
  have hr := rise_map.1 (map_rise hA (List.mem_cons_self ..))
  refine ⟨?_, fun v hv => ?_, ?_, fun v hv => ?_⟩
  · unfold Rise viewL
    rw [List.pairwise_map]
    refine List.Pairwise.imp_of_mem (fun {a b} ha hb hab => ?_) hr
    rw [key_view hok.name ha, key_view hok.name hb]
    exact hab
  · obtain ⟨s, hs, rfl⟩ := List.mem_map.1 hv
    exact hok.may s hs
  · unfold viewL
    rw [List.length_map]
    exact hok.le
  · obtain ⟨s, hs, rfl⟩ := List.mem_map.1 hv
    exact hok.full s hs
theorem all_filter (V : List PV) : allV V = V.filter fun v => !v.2.isEmpty := by
  unfold allV findsV
  rw [List.filter_map, show ((fun v : PV => !v.2.isEmpty) ∘ fun v : PV => (v.1, v.2)) = fun v : PV => !v.2.isEmpty from rfl]
  exact List.map_id _
theorem all_sub (V : List PV) : (allV V).Sublist V := by
  rw [all_filter]
  exact List.filter_sublist
theorem sel_nil (m : List MT) (a b : Int) (l : List LB) : selG m a b (l, []) = [] := by
  unfold selG
  split <;> rfl
theorem sel_all (V : List PV) (m : List MT) (a b : Int) : selV V m a b = findsV (allV V) (selG m a b) := by
  unfold selV
  rw [all_filter]
  induction V with
  | nil => rfl
  | cons v V ih =>
    have e1 : findsV (v :: V) (selG m a b) = findsV [v] (selG m a b) ++ findsV V (selG m a b) := by
      unfold findsV
      rw [← List.filter_append, ← List.map_append]
      rfl
    obtain ⟨ls, xs⟩ := v
    cases xs with
    | nil =>
      rw [e1, List.filter_cons_of_neg (by simp), ← ih]
      have : findsV [((ls, []) : PV)] (selG m a b) = [] := by
        unfold findsV
        rw [List.map_cons, sel_nil]
        rfl
      rw [this]
      rfl
    | cons x xs =>
      rw [e1, List.filter_cons_of_pos (by simp), ih]
      unfold findsV
      rw [← List.filter_append, ← List.map_append]
      rfl
theorem finds_app (X Y : List PV) (g : PV → List SM) : findsV (X ++ Y) g = findsV X g ++ findsV Y g := by
  unfold findsV
  rw [List.map_append, List.filter_append]
theorem take_snocP (X : List PV) (k : Nat) (h : k < X.length) : X.take (k + 1) = X.take k ++ [X[k]] := List.take_succ_eq_append_getElem h
/-- The next that is selected. -/
theorem sel_next (X : List PV) (g : PV → List SM) {k : Nat} (h : k < X.length) (hg : g X[k] ≠ []) :
    ∃ hq : (findsV (X.take k) g).length < (findsV X g).length, (findsV X g)[(findsV (X.take k) g).length] = ((X[k]).1, g X[k]) ∧ (findsV (X.take (k + 1)) g).length = (findsV (X.take k) g).length + 1 := by
  have e1 := finds_snoc1 (V := X.take k) (v := X[k]) hg
  rw [← take_snocP X k h] at e1
  have e2 : findsV X g = findsV (X.take k) g ++ ((X[k]).1, g X[k]) :: findsV (X.drop (k + 1)) g := by
    conv => lhs; rw [← List.take_append_drop (k + 1) X]
    rw [finds_app, e1, List.append_assoc]
    rfl
  have hl : (findsV (X.take k) g).length < (findsV X g).length := by rw [e2, List.length_append, List.length_cons]; omega
  refine ⟨hl, ?_, by rw [e1, List.length_append]; rfl⟩
  simp only [e2]
  rw [List.getElem_append_right (Nat.le_refl _)]
  simp
theorem sel_skip (X : List PV) (g : PV → List SM) {k : Nat} (h : k < X.length) (hg : g X[k] = []) : findsV (X.take (k + 1)) g = findsV (X.take k) g := by
  rw [take_snocP X k h]
  exact finds_snoc0 hg
end Go.Proofs.Ytlhlaadnifkdhaa.Sr
namespace Go.Proofs.Ytlhlaadnifkdhaa.Sr
open Go.RowKit Go.Proofs.YtlhlaadnifkdhaaW.PrintWords Go.Proofs.YtlhlaadnifkdhaaW.PrintLast Go.Proofs.YtlhlaadnifkdhaaW.PrintMore Go.Proofs.Ytlhlaadnifkdhaa.Q Go.Proofs.Ytlhlaadnifkdhaa.Own Go.Proofs.Ytlhlaadnifkdhaa.Nmd
set_option linter.unusedVariables false
set_option linter.unusedSimpArgs false

structure FRead (w : World) (ad : Addr) (k : Nat) (x : FE) : Prop where
  c0 : w.cell? (ad.add (k * 2)) = some (.slice x.hl.1 x.ls.length x.hl.2.2)
  c1 : w.cell? ⟨(ad.add (k * 2)).block, (ad.add (k * 2)).off + 1, none⟩ = some (.slice x.hs.1 x.xs.length x.hs.2.2)
  le0 : x.ls.length ≤ x.hl.2.2
  le1 : x.xs.length ≤ x.hs.2.2
  C0 : Kd.C kL w x.hl.1 x.ls.length x.ls
  C1 : Kd.C kS w x.hs.1 x.xs.length x.xs
theorem tf_mem {M : List FE} {k : Nat} (h : k < M.length) : rowL (vH (M[k]).hl) (M[k]).ls ∈ tf M ∧ rowS (vH (M[k]).hs) (M[k]).xs ∈ tf M :=
  ⟨List.mem_flatMap.2 ⟨M[k], List.getElem_mem h, by simp⟩, List.mem_flatMap.2 ⟨M[k], List.getElem_mem h, by simp⟩⟩
theorem find_n {B : Nat} {w : World} {Ts : List Th} (h : Has B w Ts) {M : List FE} {A : Option Addr} {n c : Nat} (hrow : rowF (.slice A n c) (M.map plF) ∈ Ts) : n = M.length ∧ M.length ≤ c := by
  obtain ⟨e, hc, -⟩ := row_reads h hrow
  rw [List.length_map] at e hc
  exact ⟨e, hc⟩
theorem find_read {B : Nat} {w : World} {Ts : List Th} (h : Has B w Ts) {M : List FE} {A : Option Addr} {n c : Nat} (hrow : rowF (.slice A n c) (M.map plF) ∈ Ts) (htf : ∀ T ∈ tf M, T ∈ Ts) {k : Nat} (hk : k < M.length) :
    ∃ ad, A = some ad ∧ FRead w ad k M[k] := by
  obtain ⟨e, hc, hC⟩ := row_reads h hrow
  obtain ⟨ad, rfl, q0, q1⟩ := at_F hC k (by rw [List.length_map]; exact hk)
  rw [List.getElem_map] at q0 q1
  obtain ⟨m0, m1⟩ := tf_mem hk
  obtain ⟨r0, r1, r2⟩ := row_reads h (d := kL) (e := 31) (A := (M[k]).hl.1) (n := (M[k]).hl.2.1) (c := (M[k]).hl.2.2) (xs := (M[k]).ls) (htf _ m0)
  obtain ⟨s0, s1, s2⟩ := row_reads h (d := kS) (e := 26) (A := (M[k]).hs.1) (n := (M[k]).hs.2.1) (c := (M[k]).hs.2.2) (xs := (M[k]).xs) (htf _ m1)
  rw [← add_field _ _ 1 (by omega)] at q1
  have q0 : w.cell? (ad.add (k * 2)) = some (.slice (M[k]).hl.1 (M[k]).hl.2.1 (M[k]).hl.2.2) := q0
  have q1 : w.cell? ⟨(ad.add (k * 2)).block, (ad.add (k * 2)).off + 1, none⟩ = some (.slice (M[k]).hs.1 (M[k]).hs.2.1 (M[k]).hs.2.2) := q1
  rw [r0] at q0
  rw [s0] at q1
  exact ⟨ad, rfl, q0, q1, r1, s1, r2, s2⟩
theorem FRead.below {w w' : World} {ad : Addr} {k : Nat} {x : FE} (h : FRead w ad k x) (hb : Below w.heap.size w w') : FRead w' ad k x :=
  ⟨(hb.cell (World.block_lt_of_cell? w _ h.c0)).trans h.c0, (hb.cell (World.block_lt_of_cell? w _ h.c1)).trans h.c1, h.le0, h.le1, Kd.C_below h.C0 hb, Kd.C_below h.C1 hb⟩
theorem view_at {M : List FE} {X : List PV} (h : M.map viewF = X) {k : Nat} (hk : k < M.length) (hx : k < X.length) : X[k] = ((M[k]).ls, (M[k]).xs) := by
  subst h
  rw [List.getElem_map]
  rfl
theorem view_len {M : List FE} {X : List PV} (h : M.map viewF = X) : M.length = X.length := by
  rw [← h, List.length_map]
theorem reads_of {B : Nat} {w : World} {Ts : List Th} (h : Has B w Ts) {M : List FE} {A : Option Addr} {n c : Nat} {X : List PV} (hM : M.map viewF = X) (hrow : rowF (.slice A n c) (M.map plF) ∈ Ts) (htf : ∀ T ∈ tf M, T ∈ Ts) {k : Nat} (hk : k < X.length) :
    ∃ ad, A = some ad ∧ ∃ (A1 : Option Addr) (n1 c1 : Nat) (A2 : Option Addr) (n2 c2 : Nat), FRead w ad k ⟨(A1, n1, c1), (A2, n2, c2), (X[k]).1, (X[k]).2⟩ := by
  subst hM
  rw [List.length_map] at hk
  obtain ⟨ad, rfl, h1⟩ := find_read h hrow htf hk
  rw [List.getElem_map]
  exact ⟨ad, rfl, (M[k]).hl.1, (M[k]).hl.2.1, (M[k]).hl.2.2, (M[k]).hs.1, (M[k]).hs.2.1, (M[k]).hs.2.2, h1⟩
theorem rise_less {X : List PV} (h : Rise keyP X) {j k : Nat} (hj : j < k) (hk : k < X.length) : Op.bytesLess (textL (X[j]'(by omega)).1).toList (textL (X[k]).1).toList = true := by
  rw [Go.Proofs.bytesLess_eq, ByteArray.toList_eq, ByteArray.toList_eq]
  exact decide_eq_true ((List.pairwise_iff_getElem.1 h) j k (by omega) hk hj)
theorem mem_perm_tail {T : Th} {As Bs : List Th} (h : T ∈ Bs) : T ∈ As ++ Bs := List.mem_append_right _ h
end Go.Proofs.Ytlhlaadnifkdhaa.Sr
