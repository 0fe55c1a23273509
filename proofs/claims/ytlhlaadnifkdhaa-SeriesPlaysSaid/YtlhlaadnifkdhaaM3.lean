/- Finds, as things: a row of places, and the rows there. No law is proved here. (with what is built on it) -/
import Derived.Test.YtlhlaadnifkdhaaM2
import Derived.Test.YtlhlaadnifkdhaaM1
import Derived.Test.YtlhlaadnifkdhaaKeysS
import Derived.Test.YtlhlaadnifkdhaaQ25
import Derived.Test.YtlhlaadnifkdhaaQ7
import Derived.Test.YtlhlaadnifkdhaaM5
import Derived.Test.YtlhlaadnifkdhaaQ29
import Derived.Sort.Walk0
import Derived.Test.YtlhlaadnifkdhaaQ13
import Derived.Test.YtlhlaadnifkdhaaQ12
import Derived.Test.YtlhlaadnifkdhaaQ30
import Derived.Test.YtlhlaadnifkdhaaQ8
import Derived.Test.YtlhlaadnifkdhaaQ14
namespace Go.Proofs.Ytlhlaadnifkdhaa.Sr
open Go.RowKit Go.Proofs.YtlhlaadnifkdhaaW.PrintWords Go.Proofs.YtlhlaadnifkdhaaW.PrintLast Go.Proofs.YtlhlaadnifkdhaaW.PrintMore Go.Proofs.Ytlhlaadnifkdhaa.Q Go.Proofs.Ytlhlaadnifkdhaa.Own Go.Proofs.Ytlhlaadnifkdhaa.Nmd
set_option linter.unusedVariables false
set_option linter.unusedSimpArgs false

abbrev Hd := Option Addr × Nat × Nat
abbrev vH (h : Hd) : Value := .slice h.1 h.2.1 h.2.2
abbrev kH : Kd Hd := Kd.scalar (fun h : Hd => .slice h.1 h.2.1 h.2.2) (fun _ => rfl)
abbrev FH := Hd × Hd
abbrev kF : Kd FH := Kd.pair kH kH
abbrev cellsF (x : FH) : List Value := [vH x.1, vH x.2]
theorem kF_open {w : World} {x : FH} {cs : List Value} (h : kF.K w x cs) : cs = cellsF x := by
  obtain ⟨_, _, rfl, rfl, rfl⟩ := h
  rfl
theorem kF_mk (w : World) (x : FH) : kF.K w x (cellsF x) := ⟨[vH x.1], [vH x.2], rfl, rfl, rfl⟩
theorem kF_KM {W : World} {base : Nat} {ok : Nat → Prop} (x : FH) (cs : List Value) (h : kF.K W x cs) : kF.M W base ok x cs := by
  obtain ⟨c0, c1, rfl, h0, h1⟩ := h
  exact ⟨c0, c1, rfl, h0, h1⟩
theorem infF : (Try.prog.info? 64).map (fun i => (i.zero, i.size, i.bytes)) = some (some (.agg #[.slice none 0 0, .slice none 0 0]), 2, 48) := by kernel_rfl
abbrev rowF (v : Value) (fs : List FH) : Th := rowT kF 64 v fs
theorem add_field (ad : Addr) (i j : Nat) (hj : 0 < j) : (⟨(ad.add i).block, (ad.add i).off + j, none⟩ : Addr) = ad.add (i + j) := by
  obtain ⟨b, o, p⟩ := ad
  have h1 : ¬ (i + j = 0) := by omega
  unfold Addr.add
  by_cases h : i = 0
  · subst h
    simp [h1]
    omega
  · simp [h, h1]
    omega
theorem at_F {w : World} {A : Option Addr} {n : Nat} {l : List FH} (h : Kd.C kF w A n l) (i : Nat) (hi : i < l.length) : ∃ ad, A = some ad ∧ w.cell? (ad.add (i * 2)) = some (vH (l[i]).1) ∧ w.cell? (ad.add (i * 2 + 1)) = some (vH (l[i]).2) := by
  have hn := Kd.C_len h
  obtain ⟨ad, c, e, _, hK, hc0⟩ := Kd.C_get h l[i] (i : Int) (by omega) (by omega)
  rw [Int.toNat_natCast, List.getD_eq_getElem?_getD, List.getElem?_eq_getElem hi] at hK
  rw [Int.toNat_natCast] at hc0
  have hc : ∀ j u, c[j]? = some u → w.cell? (ad.add (i * 2 + j)) = some u := hc0
  have hK' := kF_open hK
  subst hK'
  exact ⟨ad, e, hc 0 _ rfl, hc 1 _ rfl⟩
/-- A place that is written out. -/
theorem lit_F (w : World) (x : FH) : Kd.C kF (w.alloc (.cells #[vH x.1, vH x.2] 64)) (some ⟨w.heap.size, 0, none⟩) [x].length [x] := by
  have hr : Kd.R kF 64 (w.alloc (.cells #[vH x.1, vH x.2] 64)) 0 (fun _ => True) (.slice (some ⟨w.heap.size, 0, none⟩) [x].length [x].length) [x] :=
    ⟨fun _ _ => trivial, OwnRow.lit (ps := [x]) w 0 (inner := cellsF x) (show Reps _ 2 ([] ++ [x]) ([] ++ cellsF x) from Reps.snoc (Reps.none _ _) (kF_KM x _ (kF_mk _ x)) rfl) (Nat.zero_le _) (show 1 ≤ 9223372036854775807 by omega)⟩
  exact (Kd.R_reads' hr).2.2
/-- A find: where its labels lie, where its samples, and these. -/
structure FE where
  hl : Hd
  hs : Hd
  ls : List LB
  xs : List SM
def plF (x : FE) : FH := (x.hl, x.hs)
def viewF (x : FE) : PV := (x.ls, x.xs)
def tf (M : List FE) : List Th := M.flatMap fun x => [rowL (vH x.hl) x.ls, rowS (vH x.hs) x.xs]
theorem tf_app (L M : List FE) : tf (L ++ M) = tf L ++ tf M := List.flatMap_append
theorem tf_cons (s : FE) (L : List FE) : tf (s :: L) = rowL (vH s.hl) s.ls :: rowS (vH s.hs) s.xs :: tf L := rfl
theorem tf_snoc (M : List FE) (x : FE) : tf (M ++ [x]) = tf M ++ [rowL (vH x.hl) x.ls, rowS (vH x.hs) x.xs] := by rw [tf_app]; rfl
/-- Finds that were told. -/
def findsT (v : Value) (R : List PV) : Th where
  on w F := ∃ M, M.map viewF = R ∧ (groupT (rowF v (M.map plF) :: tf M)).on w F
  loc := by
    rintro w w' F ⟨M, h1, h2⟩ hm
    exact ⟨M, h1, (groupT (rowF v (M.map plF) :: tf M)).loc h2 hm⟩
theorem finds_open {B : Nat} {w : World} {v : Value} {R : List PV} {Ts : List Th} (h : Has B w (findsT v R :: Ts)) : ∃ M, M.map viewF = R ∧ Has B w (rowF v (M.map plF) :: (tf M ++ Ts)) := by
  obtain ⟨h0, F, ⟨M, h1, h3⟩, h4⟩ := h
  have q := has_ungroup (Gs := rowF v (M.map plF) :: tf M) (Ts := Ts) ⟨h0, F, h3, h4⟩
  exact ⟨M, h1, q⟩
theorem finds_shut {B : Nat} {w : World} {v : Value} {M : List FE} {Ts : List Th} (h : Has B w (rowF v (M.map plF) :: (tf M ++ Ts))) : Has B w (findsT v (M.map viewF) :: Ts) := by
  obtain ⟨h0, F, h3, h4⟩ := has_group (Gs := rowF v (M.map plF) :: tf M) (Ts := Ts) h
  exact ⟨h0, F, ⟨M, rfl, h3⟩, h4⟩
/-- What finds tell. -/
def findsV (V : List PV) (g : PV → List SM) : List PV := (V.map fun v => (v.1, g v)).filter fun v => !v.2.isEmpty
theorem finds_snoc1 {V : List PV} {g : PV → List SM} {v : PV} (h : g v ≠ []) : findsV (V ++ [v]) g = findsV V g ++ [(v.1, g v)] := by
  unfold findsV
  rw [List.map_append, List.filter_append, List.map_cons, List.filter_cons_of_pos (by cases q : g v with | nil => exact absurd q h | cons _ _ => simp)]
  rfl
theorem finds_snoc0 {V : List PV} {g : PV → List SM} {v : PV} (h : g v = []) : findsV (V ++ [v]) g = findsV V g := by
  unfold findsV
  rw [List.map_append, List.filter_append, List.map_cons, List.filter_cons_of_neg (by simp [h])]
  simp
theorem finds_len (V : List PV) (g : PV → List SM) : (findsV V g).length ≤ V.length := by
  unfold findsV
  refine Nat.le_trans (List.length_filter_le _ _) ?_
  rw [List.length_map]
  exact Nat.le_refl _
theorem at_N {w : World} {A : Option Addr} {n : Nat} {l : List ByteArray} (h : Kd.C Kd.string w A n l) (i : Nat) (hi : i < l.length) : ∃ ad, A = some ad ∧ w.cell? (ad.add i) = some (.string l[i]) := by
  have hn := Kd.C_len h
  obtain ⟨ad, c, e, _, hK, hc⟩ := Kd.C_get h l[i] (i : Int) (by omega) (by omega)
  rw [Int.toNat_natCast, List.getD_eq_getElem?_getD, List.getElem?_eq_getElem hi] at hK
  rw [Int.toNat_natCast] at hc
  have hK' : c = [.string l[i]] := hK
  have h0 := hc 0 (.string l[i]) (by rw [hK']; rfl)
  have h3 : w.cell? (ad.add (i * 1 + 0)) = some (.string l[i]) := h0
  rw [Nat.mul_one, Nat.add_zero] at h3
  exact ⟨ad, e, h3⟩
abbrev rowN (v : Value) (ns : List ByteArray) : Th := rowT Kd.string 9 v ns
theorem names_sorted {w : World} {mb n : Nat} {D : DataW Value} {L : List SE} (hown : w.ownsMap Try.prog 9 RV mb n D) (hf : Tells keyE valE D L) (hr : Rise keyE L) {ss : List (List UInt8)} (hp : ss.Perm (Go.strKeys D)) : ss.mergeSort (fun x y => decide (x ≤ y)) = L.map keyE := by
  have hrs : (L.map keyE).Pairwise fun a b => a < b := by rw [List.pairwise_map]; exact hr
  have hperm : (L.map keyE).Perm (Go.strKeys D) := by
    obtain ⟨es, hD, hpw, _⟩ := hown.entries lawK
    obtain ⟨es', hD', hko⟩ := hown.keysOf
    obtain rfl : es = es' := by rw [hD] at hD'; simpa using hD'
    subst hD
    refine Go.perm_strKeys hpw (fun p hp => by obtain ⟨v, hv⟩ := hko p hp; obtain ⟨x, _, hx, _⟩ := Go.Maps.keyOf_str Try.underlying9 hv; exact ⟨x, hx⟩) ?_ (fun x => ?_)
    · exact hrs.imp fun {a b} q e => by rw [e] at q; exact List.lt_irrefl _ q
    · rw [hf.has]
      constructor
      · intro hx
        obtain ⟨y, hy, rfl⟩ := List.mem_map.1 hx
        rw [find_of (rise_unlike hr) hy]
        rfl
      · intro hx
        obtain ⟨y, hy⟩ := Option.isSome_iff_exists.1 hx
        obtain ⟨h1, h2⟩ := find_mem hy
        exact List.mem_map.2 ⟨y, h1, h2⟩
  have h1 : (ss.mergeSort (fun x y => decide (x ≤ y))).Perm (L.map keyE) := (List.mergeSort_perm ss _).trans (hp.trans hperm.symm)
  have tr : ∀ a b c : List UInt8, decide (a ≤ b) = true → decide (b ≤ c) = true → decide (a ≤ c) = true := fun a b c q1 q2 => by
    simp only [decide_eq_true_eq] at *
    exact List.le_trans q1 q2
  have tot : ∀ a b : List UInt8, (decide (a ≤ b) || decide (b ≤ a)) = true := fun a b => by
    simp only [Bool.or_eq_true, decide_eq_true_eq]
    exact List.le_total a b
  refine List.Perm.eq_of_pairwise (le := fun a b : List UInt8 => decide (a ≤ b) = true) (fun a b _ _ q1 q2 => ?_) (List.pairwise_mergeSort tr tot ss) (hrs.imp fun {a b} q => ?_) h1
  · simp only [decide_eq_true_eq] at q1 q2
    exact List.le_antisymm q1 q2
  · simp only [decide_eq_true_eq]
    exact List.le_of_lt q
theorem encs_names (L : List SE) : (L.map keyE).map encStr = encs Value.string (L.map fun x => x.name) := by
  unfold encs
  rw [List.map_map, List.map_map]
  exact List.map_congr_left fun x _ => rfl
/-- The names of a store, as the calls of finds need them. -/
theorem store_names {B : Nat} {w : World} {p : Nat} {es : List SE} {Ts : List Th} (h : Has B w (mapT p es :: Ts)) (hn : es.length ≤ 1000) : ∃ mb, w.cell? ⟨p, 0, none⟩ = some (.map (some mb)) ∧
    Calls Try.prog 56 #[.map (some mb)] w (fun e w' => e = .returned (.func (.func 74) #[] #[ptr w.heap.size]) ∧ w' = w.alloc (.cells #[.map (some mb)] 56)) ∧
    Calls Try.prog 55 #[.func (.func 74) #[] #[ptr w.heap.size]] (w.alloc (.cells #[.map (some mb)] 56)) fun e w' => ∃ A c, e = .returned (.slice A es.length c) ∧ Has B w' (rowN (.slice A es.length c) (es.map fun x => x.name) :: mapT p es :: Ts) ∧ Below B w w' := by
  have hh := h
  obtain ⟨F, ⟨hF, mb, D, h1, h2, h3, h4, h5, h6⟩, hFb, -⟩ := h.head
  have hsz : Go.Maps.size D = es.length := h5.size
  have HK2 := callsIn_wide.1 (KeysS.sorted_keys mb es.length D RV w h4 (by unfold maxLen; omega) (by omega))
  refine ⟨mb, by rw [blk_cell h3]; rfl, callsIn_wide.1 (KeysS.maps_Keys (some mb) w), HK2.mono ?_⟩
  rintro e w2 ⟨v, ss, rfl, hp, hrow, -, hb⟩
  have hs := names_sorted h4 h5 h6 hp
  have hlen : ss.length = (es.map fun x => x.name).length := by
    have := congrArg List.length hs
    rw [List.length_mergeSort] at this
    simpa using this
  rw [hs, hlen, encs_names] at hrow
  have hR : Kd.R Kd.string 9 w2 w.heap.size (fun _ => True) v (es.map fun x => x.name) := Kd.R_lower (Kd.R_of_own hrow (fun _ _ => trivial)) (by simp)
  have hB : Below w.heap.size w w2 := ((Below.refl _ w).alloc (Nat.le_refl _) _).trans (hb.mono (by simp))
  have hA := hh.row hB hR
  obtain ⟨A, c, rfl, -, -⟩ := hA.reads (d := Kd.string) (e := 9) (v := v) (xs := es.map fun x => x.name) (List.mem_cons_self ..)
  rw [List.length_map] at hA
  exact ⟨A, c, by rw [List.length_map], hA, hB.mono hh.size⟩
end Go.Proofs.Ytlhlaadnifkdhaa.Sr
namespace Go.Proofs.Ytlhlaadnifkdhaa.Sr
open Go.RowKit Go.Proofs.YtlhlaadnifkdhaaW.PrintWords Go.Proofs.YtlhlaadnifkdhaaW.PrintLast Go.Proofs.YtlhlaadnifkdhaaW.PrintMore Go.Proofs.Ytlhlaadnifkdhaa.Q Go.Proofs.Ytlhlaadnifkdhaa.Own Go.Proofs.Ytlhlaadnifkdhaa.Nmd
set_option linter.unusedVariables false
set_option linter.unusedSimpArgs false
attribute [local go_sem ↓] Go.wp_at_zero Go.wp_at_succ

theorem RowPost.has {B : Nat} {w w' : World} {ys : List SM} {e : Ending} {Ts : List Th} (h : RowPost w ys e w') (hA : Has B w Ts) : ∃ A c, e = .returned (.slice A ys.length c) ∧ Has B w' (rowS (.slice A ys.length c) ys :: Ts) ∧ Below B w w' := by
  obtain ⟨v, rfl, h1, h2⟩ := h
  have h3 := hA.row h2 h1
  obtain ⟨A, c, rfl, -, -⟩ := h3.reads (d := kS) (e := 26) (v := v) (xs := ys) (List.mem_cons_self ..)
  exact ⟨A, c, rfl, h3, h2.mono hA.size⟩
/-- What finds asks of the closure. -/
def TellsOf (B : Nat) (Ts : List Th) (w : World) (F : Nat) (caps : Array Value) (g : PV → List SM) : Prop :=
  ∀ (W : World) (b : Nat) (A : Option Addr) (c : Nat) (v : PV), Has B W Ts → Below B w W → RingAt W b v.2 → Pure.mayB v.1 = true → (∀ W', Below W.heap.size W W' → Kd.C kL W' A v.1.length v.1) → v.1.length ≤ c →
    Calls Try.prog F (#[.agg #[ptr b, .slice A v.1.length c]] ++ caps) W (RowPost W (g v))
theorem tm_at {L : List SS} {k : Nat} (h : k < L.length) : ∃ As Bs, tm L = As ++ ringT (L[k]).e.b (L[k]).xs :: rowL (vH (L[k]).e.hd) (L[k]).ls :: Bs := by
  have e := List.take_append_drop k L
  rw [List.drop_eq_getElem_cons h] at e
  refine ⟨tm (L.take k), tm (L.drop (k + 1)), ?_⟩
  conv => lhs; rw [← e]
  rw [tm_app, tm_cons]
theorem tm_mem {L : List SS} {k : Nat} (h : k < L.length) : ringT (L[k]).e.b (L[k]).xs ∈ tm L ∧ rowL (vH (L[k]).e.hd) (L[k]).ls ∈ tm L := by
  obtain ⟨As, Bs, e⟩ := tm_at h
  rw [e]
  exact ⟨by simp, by simp⟩
theorem has_put2 {B : Nat} {w : World} {As Bs : List Th} {T U : Th} (h : Has B w (T :: U :: (As ++ Bs))) : Has B w (As ++ [T, U] ++ Bs) := by
  have h1 : Has B w (T :: (As ++ U :: Bs)) := h.perm (List.Perm.cons _ List.perm_middle.symm)
  have h2 := has_back (As := As) (Bs := U :: Bs) (T := T) h1
  simpa using h2
set_option maxHeartbeats 8000000 in
set_option maxRecDepth 100000 in
theorem finds_calls {B : Nat} {w : World} {p : Nat} {V : List PV} {Ts : List Th} (h : Has B w (storeT p V :: Ts)) {F : Nat} {caps : Array Value} {g : PV → List SM} (hF : TellsOf B Ts w F caps g) (hg : ∀ v, (g v).length ≤ v.2.length)
    (hen : ∀ (args : Array Value) (W : World), (callFunc F args).run Try.prog W = .ok (.enter F args) W) :
    Calls Try.prog 37 #[ptr p, .func (.func F) #[] caps] w fun e w' => ∃ A n c, e = .returned (.slice A n c) ∧ Has B w' (findsT (.slice A n c) (findsV V g) :: storeT p V :: Ts) ∧ Below B w w' := by
  obtain ⟨L, rfl, hok, hA⟩ := store_open h
  have HOK := Aside0.mk hok
  have hl8 := hok.le
  have HF := Aside0.mk hF
  have HG := Aside0.mk hg
  have HRI := Aside0.mk (map_rise hA (List.mem_cons_self ..))
  have HN := Aside0.mk (snone_calls hA (List.mem_cons_self ..))
  obtain ⟨mb, c0, hk1, hk2⟩ := store_names hA (by rw [List.length_map]; omega)
  rw [List.length_map] at hk2
  have HK1 := Aside0.mk hk1
  have HK2 := Aside0.mk hk2
  have HX := Aside0.mk (infF)
  clear h hok hA hk1 hk2 hF hg
  go_enter Try.func37, Try.ntmps37
  go_wp2_with fail
  refine HN.out.mono ?_
  rintro e w1 ⟨rfl, rfl⟩
  clear HN
  go_wp2_with fail
  refine HK1.out.mono ?_
  rintro e w1 ⟨rfl, rfl⟩
  clear HK1
  go_wp2_with fail
  refine HK2.out.mono ?_
  rintro e w2 ⟨A2, c2, rfl, hA2, hB2⟩
  have HA2 : Aside0 (Has B w2 (mapT p (L.map fun s => s.e) :: rowN (.slice A2 L.length c2) (L.map fun s => s.e.name) :: rowF (.slice none 0 0) [] :: (tm L ++ Ts))) := ⟨by
    have q := (row_nil kF hA2 64).third.perm (List.Perm.cons _ (List.Perm.swap _ _ _))
    rw [List.map_map] at q
    exact q⟩
  have HB2 := Aside0.mk hB2
  clear hA2 hB2 HK2 c0
  go_wp2_with fail
  go_loopw [19, 5] (fun i o wr => ∃ (k : Nat) (A5 : Option Addr) (c5 : Nat) (M : List FE), i = .int .i64 k ∧ k ≤ L.length ∧ o = .slice A5 M.length c5 ∧ M.length ≤ k ∧ Aside0 (M.map viewF = findsV (viewL (L.take k)) g) ∧ Aside0 (Has B wr (mapT p (L.map fun s => s.e) :: rowN (.slice A2 L.length c2) (L.map fun s => s.e.name) :: rowF (.slice A5 M.length c5) (M.map plF) :: (tm L ++ (tf M ++ Ts)))) ∧ Aside0 (Below B w wr)) (fun i _ _ => L.length - (intOf i).toNat)
  case atStart => exact ⟨0, none, 0, [], rfl, by omega, rfl, Nat.zero_le _, ⟨rfl⟩, HA2, HB2⟩
  case round =>
    clear HA2 HB2
    obtain ⟨k, A5, c5, M, rfl, hk, rfl, hMk, HM, HA, HB⟩ := hrel
    by_cases hlt : k < L.length
    · have d1 : decide ((k : Int) < (L.length : Int)) = true := decide_eq_true (by omega)
      have d2 : decide (0 ≤ (k : Int)) = true := decide_eq_true (by omega)
      have ek : wrap64 ((k : Int) + 1) = ((k + 1 : Nat) : Int) := (w64 (by omega) (by omega)).trans (by omega)
      obtain ⟨-, -, hCn⟩ := row_reads HA.out (d := Kd.string) (e := 9) (A := A2) (n := L.length) (c := c2) (xs := L.map fun s => s.e.name) (by simp)
      obtain ⟨adn, rfl, hcell⟩ := at_N hCn k (by rw [List.length_map]; exact hlt)
      rw [List.getElem_map] at hcell
      have hmay := HOK.out.may _ (List.getElem_mem hlt)
      have hfull := HOK.out.full _ (List.getElem_mem hlt)
      have hname := HOK.out.name _ (List.getElem_mem hlt)
      have hts := text_size hmay
      rw [← hname] at hts
      obtain ⟨mb, cmap, lk, -⟩ := map_look HA.out (List.mem_cons_self ..) (s := (L[k]).e.name) (by omega)
      obtain ⟨-, lk⟩ := lk (L[k]).e (find_of (rise_unlike HRI.out) (List.mem_map.2 ⟨L[k], List.getElem_mem hlt, rfl⟩))
      unfold valE at lk
      have hTK : viewL (L.take (k + 1)) = viewL (L.take k) ++ [((L[k]).ls, (L[k]).xs)] := by
        unfold viewL
        rw [List.take_succ_eq_append_getElem hlt, List.map_append]
        rfl
      have HTK := Aside0.mk hTK
      obtain ⟨hm1, hm2⟩ := tm_mem hlt
      have HMEM : Aside0 (ringT (L[k]).e.b (L[k]).xs ∈ tm L ∧ rowL (vH (L[k]).e.hd) (L[k]).ls ∈ tm L) := ⟨hm1, hm2⟩
      obtain ⟨hn3, hc3, -⟩ := row_reads HA.out (d := kL) (e := 31) (A := (L[k]).e.hd.1) (n := (L[k]).e.hd.2.1) (c := (L[k]).e.hd.2.2) (xs := (L[k]).ls) (by simp [hm2])
      rw [hn3] at lk
      have hA1 := (HA.out).box #[ptr (L[k]).e.b, .slice (L[k]).e.hd.1 (L[k]).ls.length (L[k]).e.hd.2.2] 72
      have HB1 : Aside0 (Below B w (wr.alloc (.cells #[ptr (L[k]).e.b, .slice (L[k]).e.hd.1 (L[k]).ls.length (L[k]).e.hd.2.2] 72))) := ⟨HB.out.alloc HA.out.size _⟩
      have hreadL : ∀ {W : World} {Us : List Th}, Has B W Us → rowL (vH (L[k]).e.hd) (L[k]).ls ∈ Us → Kd.C kL W (L[k]).e.hd.1 (L[k]).ls.length (L[k]).ls := fun hW hm => (row_reads hW hm).2.2
      have hdropTs : ∀ {W : World} {As : List Th}, Has B W (As ++ (tm L ++ (tf M ++ Ts))) → Has B W Ts := fun {W As} hW => has_drop (As := tf M) (has_drop (As := tm L) (has_drop (As := As) hW))
      have HOF := Aside0.mk (HF.out _ (L[k]).e.b (L[k]).e.hd.1 (L[k]).e.hd.2.2 ((L[k]).ls, (L[k]).xs) (hdropTs (As := [_, _, _, _]) hA1) HB1.out (ring_at_of hA1 (by show ringT (L[k]).e.b (L[k]).xs ∈ _; simp [hm1])).1 hmay (fun W' hW' => hreadL (hA1.below hW') (by simp [hm2])) hc3)
      have HC := Aside0.mk (fun (W : World) (Us : List Th) (hW : Has B W Us) (hm : rowL (vH (L[k]).e.hd) (L[k]).ls ∈ Us) => hreadL hW hm)
      have HA1 := Aside0.mk hA1
      have hlsl := (Pure.good_small hmay).1
      have HGL := Aside0.mk (HG.out ((L[k]).ls, (L[k]).xs))
      dsimp only at HOF HGL
      generalize hys : g ((L[k]).ls, (L[k]).xs) = ys at HOF HGL
      have HYS := Aside0.mk hys
      clear hTK hm1 hm2 hn3 hc3 hCn hname hts hmay hA1 hreadL HF HG HRI HOK HA HX hys hdropTs
      generalize hbo : wr.heap.size = bo at HA1
      go_wp2_with fail
      refine HOF.out.mono ?_
      intro e w3 hrp
      obtain ⟨As, cs, rfl, hA3, hB3⟩ := hrp.has HA1.out
      have HA3 := Aside0.mk hA3
      have HB3 := Aside0.mk (HB1.out.trans hB3)
      clear hrp hA3 hB3 HOF HA1 HB1 hbo lk cmap
      by_cases hz : ys = []
      · subst hz
        go_wp2_with fail
        go_roundw
        case rel => 
          refine ⟨k + 1, A5, c5, M, by first | rfl | rw [ek], by omega, rfl, by omega, ⟨by rw [HTK.out, finds_snoc0 HYS.out]; exact HM.out⟩, ⟨HA3.out.tail.tail⟩, HB3⟩
        case measure => first | (simp [intOf]; omega) | (rw [ek]; simp [intOf]; omega)
      · have hp : 0 < ys.length := List.length_pos_iff.2 hz
        have d3 : decide ((ys.length : Int) > 0) = true := decide_eq_true (by omega)
        have d3' : (0 : Int) < (ys.length : Int) := by omega
        have HZ := Aside0.mk hz
        clear hz
        obtain ⟨bc, -, -, -⟩ := HA3.out.box_cell (b := bo) (cs := #[ptr (L[k]).e.b, .slice (L[k]).e.hd.1 (L[k]).ls.length (L[k]).e.hd.2.2]) (t := 72) (by simp)
        have o1 : w3.cell? ⟨bo, 1, none⟩ = some (.slice (L[k]).e.hd.1 (L[k]).ls.length (L[k]).e.hd.2.2) := bc 1
        have HCL := Aside0.mk (clone_calls HA3.out (A := (L[k]).e.hd.1) (c := (L[k]).e.hd.2.2) (l := (L[k]).ls) (fun w' hb => HC.out w' _ (HA3.out.below hb) (by simp [HMEM.out.2])) (by omega))
        clear bc
        go_wp2_with fail
        refine HCL.out.mono ?_
        rintro e w4 ⟨v4, rfl, hA4, hB4⟩
        obtain ⟨A4, c4, rfl, -, -⟩ := hA4.reads (d := kL) (e := 31) (v := v4) (xs := (L[k]).ls) (List.mem_cons_self ..)
        have HB5 : Aside0 (Below B w (w4.alloc (.cells #[.slice A4 (L[k]).ls.length c4, .slice As ys.length cs] 64))) := ⟨(HB3.out.trans hB4).alloc hA4.size _⟩
        have HC5 : Aside0 (Kd.C kF (w4.alloc (.cells #[.slice A4 (L[k]).ls.length c4, .slice As ys.length cs] 64)) (some ⟨w4.heap.size, 0, none⟩) 1 [((A4, (L[k]).ls.length, c4), (As, ys.length, cs))]) := ⟨lit_F w4 ((A4, (L[k]).ls.length, c4), (As, ys.length, cs))⟩
        have HA5 := Aside0.mk (has_mid (As := [_, _, _, _, _]) (hA4.alloc (.cells #[.slice A4 (L[k]).ls.length c4, .slice As ys.length cs] 64)))
        clear hA4 hB4 HCL HA3 HB3 o1 HC
        go_wp2_with (refine rows_app kF HA5.out rfl _ _ 48 (.agg #[.slice none 0 0, .slice none 0 0]) 48 rfl Try.underlying48 infF rfl (by decide) (by decide) (some ⟨w4.heap.size, 0, none⟩) 1 rfl rfl HC5.out (fun x cs hx => kF_KM x cs hx) (by rw [List.length_map]; show (M.length + 1) * 48 ≤ 140737488355328; omega) ?_; rintro v6 w6 hA6 hB6; obtain ⟨A6, c6, rfl, -, -⟩ := hA6.reads (d := kF) (e := 64) (v := v6) (xs := M.map plF ++ [((A4, (L[k]).ls.length, c4), (As, ys.length, cs))]) (List.mem_cons_self ..); have HA6 := Aside0.mk hA6; have HB6 := Aside0.mk (HB5.out.trans hB6); clear hA6 hB6)
        have hl6 : (M.map plF ++ [(((A4, (L[k]).ls.length, c4), (As, ys.length, cs)) : FH)]).length = M.length + 1 := by rw [List.length_append, List.length_map]; rfl
        have hA7 := HA6.out
        rw [hl6] at hA7
        have hA8 := has_back (As := [_, _, _, _, _]) hA7
        have hA9 := (has_mid (As := [_, _]) hA8).tail
        have hA10 : Has B w6 ((mapT p (L.map fun s => s.e) :: rowN (.slice (some adn) L.length c2) (L.map fun s => s.e.name) :: rowF (.slice A6 (M.length + 1) c6) (M.map plF ++ [((A4, (L[k]).ls.length, c4), (As, ys.length, cs))]) :: (tm L ++ tf M)) ++ [rowL (.slice A4 (L[k]).ls.length c4) (L[k]).ls, rowS (.slice As ys.length cs) ys] ++ Ts) := has_put2 (As := mapT p (L.map fun s => s.e) :: rowN (.slice (some adn) L.length c2) (L.map fun s => s.e.name) :: rowF (.slice A6 (M.length + 1) c6) (M.map plF ++ [((A4, (L[k]).ls.length, c4), (As, ys.length, cs))]) :: (tm L ++ tf M)) (Bs := Ts) (by
          simpa [List.append_assoc] using hA9)
        have HA10 : Aside0 (Has B w6 (mapT p (L.map fun s => s.e) :: rowN (.slice (some adn) L.length c2) (L.map fun s => s.e.name) :: rowF (.slice A6 (M ++ [(⟨(A4, (L[k]).ls.length, c4), (As, ys.length, cs), (L[k]).ls, ys⟩ : FE)]).length c6) ((M ++ [(⟨(A4, (L[k]).ls.length, c4), (As, ys.length, cs), (L[k]).ls, ys⟩ : FE)]).map plF) :: (tm L ++ (tf (M ++ [(⟨(A4, (L[k]).ls.length, c4), (As, ys.length, cs), (L[k]).ls, ys⟩ : FE)]) ++ Ts)))) := ⟨by
          rw [tf_snoc, List.map_append, List.length_append]
          simpa [List.append_assoc, plF] using hA10⟩
        have HLN : Aside0 ((M ++ [(⟨(A4, (L[k]).ls.length, c4), (As, ys.length, cs), (L[k]).ls, ys⟩ : FE)]).length = M.length + 1) := ⟨by rw [List.length_append]; rfl⟩
        clear hA7 hA8 hA9 hA10 HA6
        go_wp2_with fail
        go_roundw
        case rel =>
          refine ⟨k + 1, A6, c6, M ++ [(⟨(A4, (L[k]).ls.length, c4), (As, ys.length, cs), (L[k]).ls, ys⟩ : FE)], by first | rfl | rw [ek], by omega, by rw [HLN.out], by rw [HLN.out]; omega, ⟨?_⟩, HA10, HB6⟩
          have hy := HYS.out
          rw [HTK.out, finds_snoc1 (by rw [hy]; exact HZ.out), List.map_append, HM.out, hy]
          rfl
        case measure => first | (simp [intOf]; omega) | (rw [ek]; simp [intOf]; omega)
    · obtain rfl : k = L.length := by omega
      have d1 : decide ((L.length : Int) < (L.length : Int)) = false := decide_eq_false (by omega)
      have HT : Aside0 (L.take L.length = L) := ⟨List.take_length⟩
      go_wp2_with fail
      go_ret
      have hM := HM.out
      rw [HT.out] at hM
      have pp := List.perm_append_comm_assoc (mapT p (L.map fun (s : SS) => s.e) :: tm L) (tf M) Ts
      simp only [List.cons_append] at pp
      have h2 : Has B wr (rowF (.slice A5 M.length c5) (M.map plF) :: (tf M ++ (mapT p (L.map fun s => s.e) :: (tm L ++ Ts)))) := HA.out.third.third.tail.perm (List.Perm.cons _ pp)
      have h3 := finds_shut h2
      rw [hM] at h3
      have h4 : Has B wr (mapT p (L.map fun s => s.e) :: (tm L ++ (findsT (.slice A5 M.length c5) (findsV (viewL L) g) :: Ts))) := h3.swap.perm (List.Perm.cons _ List.perm_middle.symm)
      exact ⟨A5, M.length, c5, rfl, (store_shut h4 HOK.out).swap, HB.out⟩
end Go.Proofs.Ytlhlaadnifkdhaa.Sr
namespace Go.Proofs.Ytlhlaadnifkdhaa.Sr
open Go.RowKit Go.Proofs.YtlhlaadnifkdhaaW.PrintWords Go.Proofs.YtlhlaadnifkdhaaW.PrintLast Go.Proofs.YtlhlaadnifkdhaaW.PrintMore Go.Proofs.Ytlhlaadnifkdhaa.Q Go.Proofs.Ytlhlaadnifkdhaa.Own Go.Proofs.Ytlhlaadnifkdhaa.Nmd
set_option linter.unusedVariables false
set_option linter.unusedSimpArgs false
attribute [local go_sem ↓] Go.wp_at_zero Go.wp_at_succ

theorem RowPost.lower {W W3 w' : World} {ys : List SM} {e : Ending} (hb : Below W.heap.size W W3) (h : RowPost W3 ys e w') : RowPost W ys e w' := by
  obtain ⟨v, rfl, h1, h2⟩ := h
  exact ⟨v, rfl, Kd.R_lower h1 hb.size, hb.trans (h2.mono hb.size)⟩
set_option maxRecDepth 100000 in
theorem tells_all {B : Nat} {Ts : List Th} {w : World} : TellsOf B Ts w 38 #[] (fun v => v.2) := by
  intro W b A c v hT hB hr hm hC hc
  have hu72 := Try.underlying72
  have hblt := hr.lt.1
  have HB2 : Below W.heap.size W (W.alloc (.cells #[ptr b, .slice A v.1.length c] 72)) := (Below.refl _ W).alloc (Nat.le_refl _) _
  have HB3 := Aside0.mk (HB2.alloc (by simp) (.cells #[ptr b] 70))
  have HAL := Aside0.mk (callsIn_wide.1 (all_calls b (W.alloc (.cells #[ptr b, .slice A v.1.length c] 72))))
  have HCO := Aside0.mk (collect_calls (w := (W.alloc (.cells #[ptr b, .slice A v.1.length c] 72)).alloc (.cells #[ptr b] 70)) (b := b) (bx := W.heap.size + 1) (xs := v.2) (by simp; omega) (by
    have := World.alloc_heap_new (W.alloc (.cells #[ptr b, .slice A v.1.length c] 72)) (.cells #[ptr b] 70)
    rw [World.size_alloc] at this
    exact this) (hr.keep (HB3.out.block b hblt)))
  rw [World.size_alloc] at HAL
  clear hT hB hr hm hC hc HB2
  show Calls Try.prog _ #[.agg #[ptr b, .slice A v.1.length c]] W _
  go_enter Try.func38, Try.ntmps38
  go_wp2_with fail
  refine HAL.out.mono ?_
  rintro e w1 ⟨rfl, rfl⟩
  go_wp2_with fail
  refine HCO.out.mono ?_
  intro e w2 hrp
  obtain ⟨v2, rfl, h1, h2⟩ := RowPost.lower HB3.out hrp
  have H12 : Aside0 (Kd.R kS 26 w2 W.heap.size (fun _ => True) v2 v.2 ∧ Below W.heap.size W w2) := ⟨h1, h2⟩
  clear hrp h1 h2 HCO HAL HB3
  go_wp2_with fail
  go_ret
  exact ⟨v2, rfl, H12.out.1, H12.out.2⟩
abbrev MT := S40
abbrev kM : Kd MT := k40
def selG (m : List MT) (from_ to_ : Int) (v : PV) : List SM := if doesL m v.1 = true then winL v.2 from_ to_ else []
theorem win_len (xs : List SM) (a b : Int) : (winL xs a b).length ≤ xs.length := List.length_filter_le _ _
theorem sel_len (m : List MT) (from_ to_ : Int) (v : PV) : (selG m from_ to_ v).length ≤ v.2.length := by
  unfold selG
  split
  · exact win_len _ _ _
  · exact Nat.zero_le _
set_option maxRecDepth 100000 in
set_option maxHeartbeats 2000000 in
theorem tells_sel {B : Nat} {Ts : List Th} {w : World} {b5 b6 b7 : Nat} {Am : Option Addr} {cm : Nat} {m : List MT} {from_ to_ : Int}
    (h5 : boxT b5 #[.slice Am m.length cm] 37 ∈ Ts) (h6 : boxT b6 #[.int .i64 from_] 3 ∈ Ts) (h7 : boxT b7 #[.int .i64 to_] 3 ∈ Ts)
    (hm : ∀ W, Has B W Ts → Below B w W → Kd.C kM W Am m.length m) (hcm : m.length ≤ cm) : TellsOf B Ts w 41 #[ptr b5, ptr b6, ptr b7] (selG m from_ to_) := by
  intro W b A c v hT hB hr hmay hC hc
  have hu72 := Try.underlying72
  have hblt := hr.lt.1
  have HT := Aside0.mk hT
  have HTB : Aside0 (∀ W', Below W.heap.size W W' → Has B W' Ts ∧ Below B w W') := ⟨fun W' hb => ⟨hT.below hb, hB.trans (hb.mono hT.size)⟩⟩
  have HB2 : Aside0 (Below W.heap.size W (W.alloc (.cells #[ptr b, .slice A v.1.length c] 72))) := ⟨(Below.refl _ W).alloc (Nat.le_refl _) _⟩
  have z5 : ∀ o, (W.alloc o).cell? ⟨b5, 0, none⟩ = some (.slice Am m.length cm) := fun o => c_al o ((hT.box_cell h5).1 0)
  have HDO := Aside0.mk (match_Does.calls Am cm m A c v.1 (doesL m v.1) _ (hm _ (HTB.out _ HB2.out).1 (HTB.out _ HB2.out).2) hcm (hC _ HB2.out) hc rfl)
  have HR := Aside0.mk hr
  have hrow : (W.alloc (.cells #[ptr b, .slice A v.1.length c] 72)).heap[W.heap.size]? = some (.cells #[ptr b, .slice A v.1.length c] 72 (0, 0)) := World.alloc_heap_new W _
  have HRW := Aside0.mk hrow
  have HM5 : Aside0 (boxT b6 #[.int .i64 from_] 3 ∈ Ts ∧ boxT b7 #[.int .i64 to_] 3 ∈ Ts) := ⟨h6, h7⟩
  clear hT hB hr hmay hC hc hm hcm hrow h5 h6 h7
  show Calls Try.prog _ #[.agg #[ptr b, .slice A v.1.length c], ptr b5, ptr b6, ptr b7] W _
  go_enter Try.func41, Try.ntmps41
  go_wp2_with fail
  refine HDO.out.mono ?_
  rintro e w2 ⟨rfl, hb2⟩
  have hB2 : Below W.heap.size W w2 := HB2.out.trans (hb2.mono (by simp))
  have HB3 := Aside0.mk hB2
  obtain ⟨hT2, -⟩ := HTB.out w2 hB2
  have y6 : w2.cell? ⟨b6, 0, none⟩ = some (.int .i64 from_) := (hT2.box_cell HM5.out.1).1 0
  have y7 : w2.cell? ⟨b7, 0, none⟩ = some (.int .i64 to_) := (hT2.box_cell HM5.out.2).1 0
  have y1 : w2.cell? ⟨W.heap.size, 0, none⟩ = some (ptr b) := by
    have hq : w2.heap[W.heap.size]? = some (.cells #[ptr b, .slice A v.1.length c] 72 (0, 0)) := (hb2.block _ (by simp)).trans HRW.out
    rw [blk_cell hq]
    rfl
  have HWI := Aside0.mk (window_calls (HR.out.keep (hB2.block b hblt)) from_ to_)
  clear hb2 hB2 hT2 HDO HB2 HT HTB HM5 HRW HR z5
  cases hd : doesL m v.1 with
  | false =>
    have HD := Aside0.mk hd
    clear hd
    go_wp2_with fail
    go_ret
    refine ⟨_, rfl, ?_, HB3.out⟩
    unfold selG
    rw [HD.out, if_neg (by decide)]
    exact Kd.R_nil kS 26 _ _ _
  | true =>
    have HD := Aside0.mk hd
    clear hd
    go_wp2_with fail
    refine HWI.out.mono ?_
    intro e w3 hrp
    obtain ⟨v2, rfl, h1, h2⟩ := RowPost.lower HB3.out hrp
    have H12 : Aside0 (Kd.R kS 26 w3 W.heap.size (fun _ => True) v2 (selG m from_ to_ v) ∧ Below W.heap.size W w3) := ⟨by unfold selG; rw [HD.out, if_pos rfl]; exact h1, h2⟩
    clear hrp h1 h2 HWI HB3
    go_wp2_with fail
    go_ret
    exact ⟨v2, rfl, H12.out.1, H12.out.2⟩
def allV (V : List PV) : List PV := findsV V fun v => v.2
def selV (V : List PV) (m : List MT) (from_ to_ : Int) : List PV := findsV V (selG m from_ to_)
theorem st_all {B : Nat} {w : World} {p : Nat} {V : List PV} {Ts : List Th} (h : Has B w (storeT p V :: Ts)) :
    Calls Try.prog 15 #[ptr p] w fun e w' => ∃ A n c, e = .returned (.slice A n c) ∧ Has B w' (findsT (.slice A n c) (allV V) :: storeT p V :: Ts) ∧ Below B w w' := by
  have HF := Aside0.mk (finds_calls h (F := 38) (caps := #[]) (g := fun v => v.2) tells_all (fun v => Nat.le_refl _) (enters_of Try.func38 (by kernel_rfl) rfl))
  clear h
  go_enter Try.func15, Try.ntmps15
  go_wp2_with fail
  refine HF.out.mono ?_
  rintro e w2 ⟨A, n, c, rfl, h1, h2⟩
  have H12 : Aside0 (_ ∧ _) := ⟨h1, h2⟩
  clear h1 h2 HF
  go_wp2_with fail
  go_ret
  exact ⟨A, n, c, rfl, H12.out.1, H12.out.2⟩
set_option maxRecDepth 100000 in
theorem st_sel {B : Nat} {w : World} {p : Nat} {V : List PV} {Ts : List Th} (h : Has B w (storeT p V :: Ts)) {Am : Option Addr} {cm : Nat} {m : List MT} (from_ to_ : Int)
    (hm : ∀ W, Has B W Ts → Below B w W → Kd.C kM W Am m.length m) (hcm : m.length ≤ cm) :
    Calls Try.prog 16 #[ptr p, .slice Am m.length cm, .int .i64 from_, .int .i64 to_] w fun e w' => ∃ A n c, e = .returned (.slice A n c) ∧ Has B w' (findsT (.slice A n c) (selV V m from_ to_) :: storeT p V :: Ts) ∧ Below B w w' := by
  have h1 := ((h.box #[.slice Am m.length cm] 37).box #[.int .i64 from_] 3).box #[.int .i64 to_] 3
  rw [World.size_alloc, World.size_alloc] at h1
  have hB1 : Below B w (((w.alloc (.cells #[.slice Am m.length cm] 37)).alloc (.cells #[.int .i64 from_] 3)).alloc (.cells #[.int .i64 to_] 3)) := (((Below.refl B w).alloc h.size _).alloc (by simp; have := h.size; omega) _).alloc (by simp; have := h.size; omega) _
  have HF := Aside0.mk (finds_calls (has_mid (As := [_, _, _]) h1) (F := 41) (caps := #[ptr w.heap.size, ptr (w.heap.size + 1), ptr (w.heap.size + 2)]) (g := selG m from_ to_)
    (tells_sel (by simp) (by simp) (by simp) (fun W hW hb => hm W (has_drop (As := [_, _, _]) hW) (hB1.trans hb)) hcm) (fun v => sel_len _ _ _ _) (enters_of Try.func41 (by kernel_rfl) rfl))
  have HB1 := Aside0.mk hB1
  clear h h1 hB1 hm hcm
  go_enter Try.func16, Try.ntmps16
  go_wp2_with fail
  refine HF.out.mono ?_
  rintro e w2 ⟨A, n, c, rfl, h1, h2⟩
  have H12 : Aside0 (_ ∧ _) := ⟨h1, HB1.out.trans h2⟩
  clear h1 h2 HF HB1
  go_wp2_with fail
  go_ret
  refine ⟨A, n, c, rfl, ?_, H12.out.2⟩
  have q := H12.out.1
  have q2 := (has_mid (As := [_, _]) q).tail
  have q3 := (has_mid (As := [_, _]) q2).tail
  exact (has_mid (As := [_, _]) q3).tail
end Go.Proofs.Ytlhlaadnifkdhaa.Sr
namespace Go.Proofs.Ytlhlaadnifkdhaa.Sr
open Go.RowKit Go.Proofs.YtlhlaadnifkdhaaW.PrintWords Go.Proofs.YtlhlaadnifkdhaaW.PrintLast Go.Proofs.YtlhlaadnifkdhaaW.PrintMore Go.Proofs.Ytlhlaadnifkdhaa.Q Go.Proofs.Ytlhlaadnifkdhaa.Own Go.Proofs.Ytlhlaadnifkdhaa.Nmd
set_option linter.unusedVariables false
set_option linter.unusedSimpArgs false
attribute [local go_sem ↓] Go.wp_at_zero Go.wp_at_succ

abbrev rowM (v : Value) (l : List MT) : Th := rowT kM 40 v l
theorem lit_M1 {B : Nat} {w : World} {Ts : List Th} (h : Has B w Ts) (x : MT) : Has B (w.alloc (.cells #[.string x.f0, .int .u8 x.f1, .string x.f2] 40)) (rowM (.slice (some ⟨w.heap.size, 0, none⟩) 1 1) [x] :: Ts) :=
  h.row ((Below.refl _ w).alloc (Nat.le_refl _) _) ⟨fun _ _ => trivial, OwnRow.lit (ps := [x]) w w.heap.size (inner := [.string x.f0, .int .u8 x.f1, .string x.f2]) (show Reps _ 3 ([] ++ [x]) ([] ++ [.string x.f0, .int .u8 x.f1, .string x.f2]) from Reps.snoc (Reps.none _ _) (k40_mkM _ _ _ x) rfl) (Nat.le_refl _) (show 1 ≤ 9223372036854775807 by omega)⟩
def aw1 : List LB := [⟨⟨#[97]⟩, ⟨#[49]⟩⟩]
def aw2 : List LB := [⟨⟨#[97]⟩, ⟨#[50]⟩⟩]
def awM : MT := ⟨⟨#[97]⟩, 1, ⟨#[49]⟩⟩
def awA : List PV := (addV [] aw1 ⟨5, 10⟩).2
def awB : List PV := (addV awA aw2 ⟨6, 20⟩).2
def awC : List PV := (addV awB aw1 ⟨7, 30⟩).2
def awD : List PV := (addV awC aw1 ⟨6, 0⟩).2
theorem aw_num : (addV [] aw1 ⟨5, 10⟩).1 = 0 ∧ (addV awA aw2 ⟨6, 20⟩).1 = 0 ∧ (addV awB aw1 ⟨7, 30⟩).1 = 0 ∧ (addV awC aw1 ⟨6, 0⟩).1 = 160 ∧ expVN awD 6 = 2 ∧ (expV awD 6).length = 1 := by decide +kernel
theorem aw_sel : selV awD [awM] 0 9 = [(aw2, [⟨6, 20⟩])] := by kernel_rfl
def TruePost (w : World) (e : Ending) (w' : World) : Prop := e = .returned (.bool true) ∧ Below w.heap.size w w'
set_option maxHeartbeats 8000000 in
set_option maxRecDepth 100000 in
theorem awake_calls (w : World) : Calls Try.prog 20 #[] w (TruePost w) := by
  have HO := Aside0.mk aw_num
  go_enter Try.func20, Try.ntmps20
  go_wp2_with fail
  refine (st_new (Has.nil w)).mono ?_
  rintro e w1 ⟨p, rfl, hA, hB⟩
  have hA1 := lit_L (lit_L hA aw1 (by show 1 ≤ 9223372036854775807; omega)) aw2 (by show 1 ≤ 9223372036854775807; omega)
  rw [World.size_alloc] at hA1
  have hB1 : Below w.heap.size w ((w1.alloc (.cells (aw1.flatMap cellsL).toArray 31)).alloc (.cells (aw2.flatMap cellsL).toArray 31)) := (hB.alloc hA.size _).alloc (by simp; have := hA.size; omega) _
  have rd : ∀ {W : World} {Ts : List Th} {A : Option Addr} {n c : Nat} {l : List LB}, Has w.heap.size W Ts → rowL (.slice A n c) l ∈ Ts → Kd.C kL W A l.length l := fun h hm => lit_readL h hm
  have HA := Aside0.mk (st_add (has_mid (As := [_, _]) hA1) (A := some ⟨w1.heap.size, 0, none⟩) (c := 1) (ls := aw1) ⟨5, 10⟩ (fun W hW _ => rd hW (List.mem_cons_of_mem _ (List.mem_cons_self ..))) (by show 1 ≤ 1; omega) (by show 1 ≤ 9223372036854775807; omega))
  rw [HO.out.1] at HA
  have HB1 := Aside0.mk hB1
  have RD := Aside0.mk @rd
  clear hA hB hA1 hB1 rd
  go_wp2_with fail
  refine HA.out.mono ?_
  rintro e w2 ⟨rfl, hA, hB⟩
  have hA : Has w.heap.size w2 [storeT p awA, rowL (.slice (some ⟨w1.heap.size + 1, 0, none⟩) 1 1) aw2, rowL (.slice (some ⟨w1.heap.size, 0, none⟩) 1 1) aw1] := hA
  have HB2 := Aside0.mk (HB1.out.trans hB)
  have HA := Aside0.mk (st_add hA (A := some ⟨w1.heap.size + 1, 0, none⟩) (c := 1) (ls := aw2) ⟨6, 20⟩ (fun W hW _ => RD.out hW (List.mem_cons_self ..)) (by show 1 ≤ 1; omega) (by show 1 ≤ 9223372036854775807; omega))
  rw [HO.out.2.1] at HA
  clear hA hB HB1
  go_wp2_with fail
  refine HA.out.mono ?_
  rintro e w3 ⟨rfl, hA, hB⟩
  have hA : Has w.heap.size w3 [storeT p awB, rowL (.slice (some ⟨w1.heap.size + 1, 0, none⟩) 1 1) aw2, rowL (.slice (some ⟨w1.heap.size, 0, none⟩) 1 1) aw1] := hA
  have HB3 := Aside0.mk (HB2.out.trans hB)
  have HA := Aside0.mk (st_add hA (A := some ⟨w1.heap.size, 0, none⟩) (c := 1) (ls := aw1) ⟨7, 30⟩ (fun W hW _ => RD.out hW (List.mem_cons_of_mem _ (List.mem_cons_self ..))) (by show 1 ≤ 1; omega) (by show 1 ≤ 9223372036854775807; omega))
  rw [HO.out.2.2.1] at HA
  clear hA hB HB2
  go_wp2_with fail
  refine HA.out.mono ?_
  rintro e w4 ⟨rfl, hA, hB⟩
  have hA : Has w.heap.size w4 [storeT p awC, rowL (.slice (some ⟨w1.heap.size + 1, 0, none⟩) 1 1) aw2, rowL (.slice (some ⟨w1.heap.size, 0, none⟩) 1 1) aw1] := hA
  have HB4 := Aside0.mk (HB3.out.trans hB)
  have HA := Aside0.mk (st_add hA (A := some ⟨w1.heap.size, 0, none⟩) (c := 1) (ls := aw1) ⟨6, 0⟩ (fun W hW _ => RD.out hW (List.mem_cons_of_mem _ (List.mem_cons_self ..))) (by show 1 ≤ 1; omega) (by show 1 ≤ 9223372036854775807; omega))
  rw [HO.out.2.2.2.1] at HA
  clear hA hB HB3
  go_wp2_with fail
  refine HA.out.mono ?_
  rintro e w5 ⟨rfl, hA, hB⟩
  have hA : Has w.heap.size w5 [storeT p awD, rowL (.slice (some ⟨w1.heap.size + 1, 0, none⟩) 1 1) aw2, rowL (.slice (some ⟨w1.heap.size, 0, none⟩) 1 1) aw1] := hA
  have HB5 : Aside0 (Below w.heap.size w (w5.alloc (.cells #[.string ⟨#[97]⟩, .int .u8 1, .string ⟨#[49]⟩] 40))) := ⟨(HB4.out.trans hB).alloc hA.size _⟩
  have HA := Aside0.mk (st_sel ((lit_M1 hA awM).swap) (Am := some ⟨w5.heap.size, 0, none⟩) (cm := 1) (m := [awM]) 0 9 (fun W hW _ => (row_reads hW (d := kM) (e := 40) (n := 1) (c := 1) (List.mem_cons_self ..)).2.2) (by show 1 ≤ 1; omega))
  rw [aw_sel] at HA
  clear hA hB HB4
  go_wp2_with fail
  refine HA.out.mono ?_
  rintro e w6 ⟨Af, nf, cf, rfl, hA, hB⟩
  have hA := has_only (has_pair hA.swap)
  have hA := (has_unpair hA)
  have HB6 := Aside0.mk (HB5.out.trans hB)
  have HA := Aside0.mk (st_exp hA 6)
  rw [HO.out.2.2.2.2.1] at HA
  clear hA hB HB5
  go_wp2_with fail
  refine HA.out.mono ?_
  rintro e w7 ⟨rfl, hA, hB⟩
  have HL := Aside0.mk (st_len hA)
  rw [HO.out.2.2.2.2.2] at HL
  have HB7 := Aside0.mk (HB6.out.trans hB)
  obtain ⟨M, hM, hA⟩ := finds_open hA.swap
  obtain ⟨x, rfl⟩ : ∃ x, M = [x] := List.length_eq_one_iff.1 (by have hl := congrArg List.length hM; rw [List.length_map] at hl; exact hl)
  obtain ⟨xl, xs, ls, ys⟩ := x
  injection hM with hM _
  injection hM with h1 h2
  dsimp only at h1 h2
  subst h1; subst h2
  obtain ⟨hn, -, hC⟩ := row_reads hA (d := kF) (e := 64) (A := Af) (n := nf) (c := cf) (xs := [(xl, xs)]) (List.mem_cons_self ..)
  obtain ⟨ad, rfl, c0, c1⟩ := at_F hC 0 (by show 0 < 1; omega)
  obtain ⟨gf, rfl⟩ := row_plain hA (List.mem_cons_self ..)
  obtain ⟨xA, xn, xc⟩ := xs
  obtain ⟨hxn, -, hxC⟩ := row_reads hA (d := kS) (e := 26) (A := xA) (n := xn) (c := xc) (xs := [⟨6, 20⟩]) (by simp [tf, vH])
  have hxn : xn = 1 := hxn
  have hnf : nf = 1 := hn
  subst hxn; subst hnf
  have y1 : w7.cell? ⟨gf, 1, none⟩ = some (.slice xA 1 xc) := c1
  obtain ⟨ad2, e2, s0, s1⟩ := at_T26 hxC 0 (by omega) (by show (0 : Int) < 1; omega)
  subst e2
  obtain ⟨g2, rfl⟩ := row_plain hA (d := kS) (e := 26) (ad := ad2) (n := 1) (c := xc) (xs := [⟨6, 20⟩]) (by simp [tf, vH])
  have y2 : w7.cell? ⟨g2, 1, none⟩ = some (.int .i64 20) := s1
  clear hA hB hC hxC c0 c1 s0 s1 HB6 HO RD HA hn hxn
  go_wp2_with fail
  refine HL.out.mono ?_
  rintro e w8 ⟨rfl, rfl⟩
  go_wp2_with fail
  go_ret
  exact ⟨rfl, HB7.out⟩
end Go.Proofs.Ytlhlaadnifkdhaa.Sr
namespace Go.Proofs.Ytlhlaadnifkdhaa.Sr
open Go.RowKit Go.Proofs.YtlhlaadnifkdhaaW.PrintWords Go.Proofs.YtlhlaadnifkdhaaW.PrintLast Go.Proofs.YtlhlaadnifkdhaaW.PrintMore Go.Proofs.Ytlhlaadnifkdhaa.Q Go.Proofs.Ytlhlaadnifkdhaa.Own Go.Proofs.Ytlhlaadnifkdhaa.Nmd Go.Proofs.Ytlhlaadnifkdhaa.Pure
set_option linter.unusedVariables false
set_option linter.unusedSimpArgs false

abbrev AT := S46
abbrev kA : Kd AT := k46
theorem rd_memA {l : List AT} {x : Int} (h0 : 0 ≤ x) (h1 : x < l.length) : rd_T46 l x ∈ l := by
  have h2 : x.toNat < l.length := by omega
  unfold rd_T46
  rw [List.getD_eq_getElem?_getD, List.getElem?_eq_getElem h2]
  exact List.getElem_mem h2
/-! The same -/
theorem lb_eq {x y : LB} : ((x.f0.toList == y.f0.toList) && (x.f1.toList == y.f1.toList)) = true ↔ x = y := by
  rw [Bool.and_eq_true, beq_iff_eq, beq_iff_eq]
  exact ⟨fun h => ext31 h.1 h.2, fun h => by rw [h]; exact ⟨rfl, rfl⟩⟩
def sameLs : List LB → List LB → Bool
  | [], [] => true
  | x :: l, y :: m => ((x.f0.toList == y.f0.toList) && (x.f1.toList == y.f1.toList)) && sameLs l m
  | _, _ => false
theorem sameLs_iff : ∀ {l m : List LB}, sameLs l m = true ↔ l = m
  | [], [] => by simp [sameLs]
  | [], y :: m => by simp [sameLs]
  | x :: l, [] => by simp [sameLs]
  | x :: l, y :: m => by
    unfold sameLs
    rw [Bool.and_eq_true, lb_eq, sameLs_iff, List.cons.injEq]
theorem sameLs_ev (a b : List LB) (ha : a.length ≤ 9223372036854775807) (hab : a.length = b.length) : ∀ (d : Nat) (x : Int), 0 ≤ x → x ≤ a.length → (a.length : Int) - x = d → Ev (fun k => tocsinref17_SameLabels.l0 k a b x) (sameLs (a.drop x.toNat) (b.drop x.toNat)) := by
  intro d
  induction d with
  | zero =>
    intro x h0 h1 hd
    rw [List.drop_eq_nil_of_le (show a.length ≤ x.toNat by omega), List.drop_eq_nil_of_le (show b.length ≤ x.toNat by omega)]
    exact Ev.step (fun k => by rw [tocsinref17_SameLabels.l0, if_neg (by omega)]; rfl) (Ev.now _)
  | succ d ih =>
    intro x h0 h1 hd
    have hx : x < a.length := by omega
    have hy : x < b.length := by omega
    rw [rd_drop a x.toNat (by omega), rd_drop b x.toNat (by omega), Int.toNat_of_nonneg h0, sameLs]
    cases hq : ((rd_T31 a x).f0.toList == (rd_T31 b x).f0.toList) && ((rd_T31 a x).f1.toList == (rd_T31 b x).f1.toList) with
    | false =>
      exact Ev.step (fun k => by rw [tocsinref17_SameLabels.l0, if_pos hx, if_pos h0, if_pos hy, if_pos (by rw [← Bool.not_and, hq]; rfl)]; rfl) (Ev.now _)
    | true =>
      refine Ev.step (fun k => by rw [tocsinref17_SameLabels.l0, if_pos hx, if_pos h0, if_pos hy, if_neg (by rw [← Bool.not_and, hq]; decide), w64 (by omega) (by omega)]) ?_
      have := ih (x + 1) (by omega) (by omega) (by omega)
      rw [toNat_succ h0] at this
      rw [Bool.true_and]
      exact this
theorem same_labels (a b : List LB) (ha : a.length ≤ 9223372036854775807) : Ev (fun k => tocsinref17_SameLabels.f k a b) (sameLs a b) := by
  by_cases h : (a.length : Int) = b.length
  · exact ev_pos h (sameLs_ev a b ha (by omega) a.length 0 (by omega) (by omega) (by omega))
  · have e : sameLs a b = false := by
      rw [Bool.eq_false_iff]
      intro q
      rw [sameLs_iff.1 q] at h
      exact h rfl
    rw [e]
    exact ev_neg h (Ev.now _)
theorem sm_eq {x y : SM} : ((x.f0 == y.f0) && (x.f1 == y.f1)) = true ↔ x = y := by
  rw [Bool.and_eq_true, beq_iff_eq, beq_iff_eq]
  cases x; cases y
  simp
def sameSs : List SM → List SM → Bool
  | [], [] => true
  | x :: l, y :: m => ((x.f0 == y.f0) && (x.f1 == y.f1)) && sameSs l m
  | _, _ => false
theorem sameSs_iff : ∀ {l m : List SM}, sameSs l m = true ↔ l = m
  | [], [] => by simp [sameSs]
  | [], y :: m => by simp [sameSs]
  | x :: l, [] => by simp [sameSs]
  | x :: l, y :: m => by
    unfold sameSs
    rw [Bool.and_eq_true, sm_eq, sameSs_iff, List.cons.injEq]
theorem rd_dropS (l : List SM) (k : Nat) (h : k < l.length) : l.drop k = rd_T26 l (k : Int) :: l.drop (k + 1) := by
  rw [List.drop_eq_getElem_cons h]
  simp [rd_T26, List.getElem?_eq_getElem h]
theorem sameSs_ev (a b : List SM) (ha : a.length ≤ 9223372036854775807) (hab : a.length = b.length) : ∀ (d : Nat) (x : Int), 0 ≤ x → x ≤ a.length → (a.length : Int) - x = d → Ev (fun k => tocsinref16_Same.l0 k a b x) (sameSs (a.drop x.toNat) (b.drop x.toNat)) := by
  intro d
  induction d with
  | zero =>
    intro x h0 h1 hd
    rw [List.drop_eq_nil_of_le (show a.length ≤ x.toNat by omega), List.drop_eq_nil_of_le (show b.length ≤ x.toNat by omega)]
    exact Ev.step (fun k => by rw [tocsinref16_Same.l0, if_neg (by omega)]; rfl) (Ev.now _)
  | succ d ih =>
    intro x h0 h1 hd
    have hx : x < a.length := by omega
    have hy : x < b.length := by omega
    rw [rd_dropS a x.toNat (by omega), rd_dropS b x.toNat (by omega), Int.toNat_of_nonneg h0, sameSs]
    cases hq : ((rd_T26 a x).f0 == (rd_T26 b x).f0) && ((rd_T26 a x).f1 == (rd_T26 b x).f1) with
    | false =>
      exact Ev.step (fun k => by rw [tocsinref16_Same.l0, if_pos hx, if_pos h0, if_pos hy, if_pos (by rw [← Bool.not_and, hq]; rfl)]; rfl) (Ev.now _)
    | true =>
      refine Ev.step (fun k => by rw [tocsinref16_Same.l0, if_pos hx, if_pos h0, if_pos hy, if_neg (by rw [← Bool.not_and, hq]; decide), w64 (by omega) (by omega)]) ?_
      have := ih (x + 1) (by omega) (by omega) (by omega)
      rw [toNat_succ h0] at this
      rw [Bool.true_and]
      exact this
theorem same_samples (a b : List SM) (ha : a.length ≤ 9223372036854775807) : Ev (fun k => tocsinref16_Same.f k a b) (sameSs a b) := by
  by_cases h : (a.length : Int) = b.length
  · exact ev_pos h (sameSs_ev a b ha (by omega) a.length 0 (by omega) (by omega) (by omega))
  · have e : sameSs a b = false := by
      rw [Bool.eq_false_iff]
      intro q
      rw [sameSs_iff.1 q] at h
      exact h rfl
    rw [e]
    exact ev_neg h (Ev.now _)
/-! Window -/
theorem win_ev (l : List SM) (hl : l.length ≤ 1000000) (a b : Int) : ∀ (d : Nat) (x : Int) (acc : List SM), 0 ≤ x → x ≤ l.length → (l.length : Int) - x = d → acc.length ≤ x → Ev (fun k => tocsinref16_Window.l0 k l a b acc x) (acc ++ winL (l.drop x.toNat) a b) := by
  intro d
  induction d with
  | zero =>
    intro x acc h0 h1 hd ha
    rw [List.drop_eq_nil_of_le (show l.length ≤ x.toNat by omega)]
    exact Ev.step (fun k => by rw [tocsinref16_Window.l0, if_neg (by omega)]) (by rw [show winL [] a b = [] from rfl, List.append_nil]; exact Ev.now _)
  | succ d ih =>
    intro x acc h0 h1 hd ha
    have hx : x < l.length := by omega
    rw [rd_dropS l x.toNat (by omega), Int.toNat_of_nonneg h0]
    have hi := fun acc' ha' => ih (x + 1) acc' (by omega) (by omega) (by omega) ha'
    rw [toNat_succ h0] at hi
    by_cases c1 : (rd_T26 l x).f0 > a
    · by_cases c2 : (rd_T26 l x).f0 ≤ b
      · have e : winL (rd_T26 l x :: l.drop (x.toNat + 1)) a b = rd_T26 l x :: winL (l.drop (x.toNat + 1)) a b := List.filter_cons_of_pos (by unfold inW; rw [decide_eq_true c1, decide_eq_true c2]; rfl)
        rw [e]
        refine Ev.step (fun k => by rw [tocsinref16_Window.l0, if_pos hx, if_pos h0, if_pos c1, if_pos c2, if_pos (by omega), w64 (by omega) (by omega)]) ?_
        have := hi (acc ++ [rd_T26 l x]) (by rw [List.length_append]; show ((acc.length + 1 : Nat) : Int) ≤ x + 1; omega)
        rw [List.append_assoc] at this
        exact this
      · have e : winL (rd_T26 l x :: l.drop (x.toNat + 1)) a b = winL (l.drop (x.toNat + 1)) a b := List.filter_cons_of_neg (by unfold inW; rw [decide_eq_false c2]; simp)
        rw [e]
        exact Ev.step (fun k => by rw [tocsinref16_Window.l0, if_pos hx, if_pos h0, if_pos c1, if_neg c2, w64 (by omega) (by omega)]) (hi acc (by omega))
    · have e : winL (rd_T26 l x :: l.drop (x.toNat + 1)) a b = winL (l.drop (x.toNat + 1)) a b := List.filter_cons_of_neg (by unfold inW; rw [show decide (a < (rd_T26 l x).f0) = false from decide_eq_false c1]; simp)
      rw [e]
      exact Ev.step (fun k => by rw [tocsinref16_Window.l0, if_pos hx, if_pos h0, if_neg c1, w64 (by omega) (by omega)]) (hi acc (by omega))
theorem window_ev (l : List SM) (hl : l.length ≤ 1000000) (a b : Int) : Ev (fun k => tocsinref16_Window.f k l a b) (winL l a b) := by
  have := win_ev l hl a b l.length 0 [] (by omega) (by omega) (by omega) (by show (0 : Int) ≤ 0; omega)
  exact this
theorem window_c {w : World} {A : Option Addr} {c : Nat} {l : List SM} (hC : Kd.C kS w A l.length l) (hc : l.length ≤ c) (hl : l.length ≤ 1000000) (a b : Int) :
    Calls Try.prog 24 #[.slice A l.length c, .int .i64 a, .int .i64 b] w (RowPost w (winL l a b)) := by
  obtain ⟨k, hk⟩ := (window_ev l hl a b).rounds
  refine (tocsinref16_Window.calls k A c l a b _ w hC hc hk).mono ?_
  rintro e w' ⟨v, h1, h2, h3⟩
  exact ⟨v, h1, h2, h3⟩
end Go.Proofs.Ytlhlaadnifkdhaa.Sr
namespace Go.Proofs.Ytlhlaadnifkdhaa.Sr
open Go.RowKit Go.Proofs.YtlhlaadnifkdhaaW.PrintWords Go.Proofs.YtlhlaadnifkdhaaW.PrintLast Go.Proofs.YtlhlaadnifkdhaaW.PrintMore Go.Proofs.Ytlhlaadnifkdhaa.Q Go.Proofs.Ytlhlaadnifkdhaa.Own Go.Proofs.Ytlhlaadnifkdhaa.Nmd
set_option linter.unusedVariables false
set_option linter.unusedSimpArgs false

def stepV (V : List PV) (a : AT) : List PV := if a.f0 = true then expV V a.f2.f0 else (addV V a.f1 a.f2).2
def runV (l : List AT) : List PV := l.foldl stepV []
theorem run_take (l : List AT) {k : Nat} (h : k < l.length) : runV (l.take (k + 1)) = stepV (runV (l.take k)) l[k] := by
  unfold runV
  rw [List.take_succ_eq_append_getElem h, List.foldl_append]
  rfl
theorem rd_act (l : List AT) {k : Nat} (h : k < l.length) : rd_T46 l (k : Int) = l[k] := by
  unfold rd_T46
  rw [Int.toNat_natCast, List.getD_eq_getElem?_getD, List.getElem?_eq_getElem h]
  rfl
theorem act_at {w : World} {A : Option Addr} {n : Nat} {l : List AT} (h : Kd.C kA w A n l) (k : Nat) (hk : k < l.length) : ∃ ad A1 c1, A = some ad ∧ w.cell? (ad.add (k * 4)) = some (.bool (l[k]).f0) ∧ w.cell? ⟨(ad.add (k * 4)).block, (ad.add (k * 4)).off + 1, none⟩ = some (.slice A1 (l[k]).f1.length c1) ∧ w.cell? ⟨(ad.add (k * 4)).block, (ad.add (k * 4)).off + 2, none⟩ = some (.int .i64 (l[k]).f2.f0) ∧ w.cell? ⟨(ad.add (k * 4)).block, (ad.add (k * 4)).off + 3, none⟩ = some (.int .i64 (l[k]).f2.f1) ∧ (l[k]).f1.length ≤ c1 ∧ Kd.C kL w A1 (l[k]).f1.length (l[k]).f1 := by
  have hn := Kd.C_len h
  have := at_T46 h (k : Int) (by omega) (by omega)
  rw [rd_act l hk, Int.toNat_natCast] at this
  exact this
theorem cell_bl {B : Nat} {w w' : World} {a : Addr} {v : Value} (hb : Below w.heap.size w w') (h : w.cell? a = some v) : w'.cell? a = some v := (hb.cell (World.block_lt_of_cell? w _ h)).trans h
theorem store_facts {B : Nat} {w : World} {p : Nat} {V : List PV} {Ts : List Th} (h : Has B w (storeT p V :: Ts)) : Rise keyP V ∧ (∀ v ∈ V, Pure.mayB v.1 = true) ∧ V.length ≤ 8 ∧ ∀ v ∈ V, v.2.length ≤ 32 := by
  obtain ⟨L, rfl, hok, hA⟩ := store_open h
  have hr := rise_map.1 (map_rise hA (List.mem_cons_self ..))
  refine ⟨?_, fun v hv => ?_, ?_, fun v hv => ?_⟩
  · unfold Rise viewL
    rw [List.pairwise_map]
    refine List.Pairwise.imp_of_mem (fun {a b} ha hb hab => ?_) hr
    rw [key_view hok.name ha, key_view hok.name hb]
    exact hab
  · obtain ⟨s, hs, rfl⟩ := List.mem_map.1 hv
    exact hok.may s hs
  · unfold viewL
    rw [List.length_map]
    exact hok.le
  · obtain ⟨s, hs, rfl⟩ := List.mem_map.1 hv
    exact hok.full s hs
theorem all_filter (V : List PV) : allV V = V.filter fun v => !v.2.isEmpty := by
  unfold allV findsV
  rw [List.filter_map, show ((fun v : PV => !v.2.isEmpty) ∘ fun v : PV => (v.1, v.2)) = fun v : PV => !v.2.isEmpty from rfl]
  exact List.map_id _
theorem take_snocP (X : List PV) (k : Nat) (h : k < X.length) : X.take (k + 1) = X.take k ++ [X[k]] := List.take_succ_eq_append_getElem h
end Go.Proofs.Ytlhlaadnifkdhaa.Sr
namespace Go.Proofs.Ytlhlaadnifkdhaa.Sr
open Go.RowKit Go.Proofs.YtlhlaadnifkdhaaW.PrintWords Go.Proofs.YtlhlaadnifkdhaaW.PrintLast Go.Proofs.YtlhlaadnifkdhaaW.PrintMore Go.Proofs.Ytlhlaadnifkdhaa.Q Go.Proofs.Ytlhlaadnifkdhaa.Own Go.Proofs.Ytlhlaadnifkdhaa.Nmd
set_option linter.unusedVariables false
set_option linter.unusedSimpArgs false

structure FRead (w : World) (ad : Addr) (k : Nat) (x : FE) : Prop where
  c0 : w.cell? (ad.add (k * 2)) = some (.slice x.hl.1 x.ls.length x.hl.2.2)
  c1 : w.cell? ⟨(ad.add (k * 2)).block, (ad.add (k * 2)).off + 1, none⟩ = some (.slice x.hs.1 x.xs.length x.hs.2.2)
  le0 : x.ls.length ≤ x.hl.2.2
  le1 : x.xs.length ≤ x.hs.2.2
  C0 : Kd.C kL w x.hl.1 x.ls.length x.ls
  C1 : Kd.C kS w x.hs.1 x.xs.length x.xs
theorem tf_mem {M : List FE} {k : Nat} (h : k < M.length) : rowL (vH (M[k]).hl) (M[k]).ls ∈ tf M ∧ rowS (vH (M[k]).hs) (M[k]).xs ∈ tf M :=
  ⟨List.mem_flatMap.2 ⟨M[k], List.getElem_mem h, by simp⟩, List.mem_flatMap.2 ⟨M[k], List.getElem_mem h, by simp⟩⟩
theorem FRead.below {w w' : World} {ad : Addr} {k : Nat} {x : FE} (h : FRead w ad k x) (hb : Below w.heap.size w w') : FRead w' ad k x :=
  ⟨(hb.cell (World.block_lt_of_cell? w _ h.c0)).trans h.c0, (hb.cell (World.block_lt_of_cell? w _ h.c1)).trans h.c1, h.le0, h.le1, Kd.C_below h.C0 hb, Kd.C_below h.C1 hb⟩
theorem view_len {M : List FE} {X : List PV} (h : M.map viewF = X) : M.length = X.length := by
  rw [← h, List.length_map]
end Go.Proofs.Ytlhlaadnifkdhaa.Sr
namespace Go.Proofs.Ytlhlaadnifkdhaa.Sr
open Go.RowKit Go.Proofs.YtlhlaadnifkdhaaW.PrintWords Go.Proofs.YtlhlaadnifkdhaaW.PrintLast Go.Proofs.YtlhlaadnifkdhaaW.PrintMore Go.Proofs.Ytlhlaadnifkdhaa.Q Go.Proofs.Ytlhlaadnifkdhaa.Own Go.Proofs.Ytlhlaadnifkdhaa.Nmd Go.Proofs.Ytlhlaadnifkdhaa.Pure
set_option linter.unusedVariables false
set_option linter.unusedSimpArgs false

/-! Texts -/
/-! One series among all -/
def VMay (V : List PV) : Prop := Rise keyP V ∧ ∀ v ∈ V, mayB v.1 = true
theorem cut_noneP {V : List PV} {n : List UInt8} (h : findF keyP V n = none) : cutF keyP V n = V := by
  unfold cutF
  rw [List.filter_eq_self]
  intro a ha
  exact bne_iff_ne.2 (find_none.1 h a ha)
theorem add_err {V : List PV} (hr : Rise keyP V) {ls : List LB} {x : SM} (h : (addV V ls x).1 ≠ 0) : (addV V ls x).2 = V := by
  unfold addV at h ⊢
  by_cases hm : mayB ls = false
  · rw [if_pos hm]
  rw [if_neg hm] at h ⊢
  cases hf : findF keyP V (keyT ls) with
  | some v =>
    rw [hf] at h
    have h : pushE v.2 x ≠ 0 := h
    obtain ⟨hv, hk⟩ := find_mem hf
    show V.map (fun u => if keyP u = keyT ls then (u.1, pushL u.2 x) else u) = V
    refine (List.map_congr_left fun u hu => ?_).trans (List.map_id _)
    by_cases hku : keyP u = keyT ls
    · rw [if_pos hku]
      have e := find_of (rise_unlike hr) hu
      rw [hku, hf] at e
      injection e with e
      subst e
      unfold pushL
      rw [if_neg h]
      rfl
    · rw [if_neg hku]
      rfl
  | none =>
    rw [hf] at h
    show (if pushE [] x ≠ 0 then (pushE [] x, V) else if 8 ≤ V.length then ((170 : Int), V) else (0, setF keyP V (ls, [x])) : Int × List PV).2 = V
    have h : (if pushE [] x ≠ 0 then (pushE [] x, V) else if 8 ≤ V.length then ((170 : Int), V) else (0, setF keyP V (ls, [x])) : Int × List PV).1 ≠ 0 := h
    by_cases h1 : pushE [] x ≠ 0
    · rw [if_pos h1]
    · rw [if_neg h1] at h ⊢
      by_cases h2 : 8 ≤ V.length
      · rw [if_pos h2]
      · rw [if_neg h2] at h
        exact absurd rfl h
theorem add_may {V : List PV} {ls : List LB} {x : SM} (h : (addV V ls x).1 = 0) : mayB ls = true := by
  unfold addV at h
  by_cases hm : mayB ls = false
  · rw [if_pos hm] at h
    exact absurd h (show ¬ (70 : Int) = 0 by decide)
  · simpa using hm
theorem add_some {V : List PV} {ls : List LB} {x : SM} {v : PV} (hm : mayB ls = true) (hf : findF keyP V (keyT ls) = some v) : addV V ls x = (pushE v.2 x, V.map fun u => if keyP u = keyT ls then (u.1, pushL u.2 x) else u) := by
  unfold addV
  rw [if_neg (by rw [hm]; decide), hf]
theorem add_new {V : List PV} {ls : List LB} {x : SM} (hm : mayB ls = true) (hf : findF keyP V (keyT ls) = none) : addV V ls x = if pushE [] x ≠ 0 then (pushE [] x, V) else if 8 ≤ V.length then (170, V) else (0, setF keyP V (ls, [x])) := by
  unfold addV
  rw [if_neg (by rw [hm]; decide), hf]
theorem add_new0 {V : List PV} {ls : List LB} {x : SM} (hm : mayB ls = true) (hf : findF keyP V (keyT ls) = none) (h : (addV V ls x).1 = 0) : pushE [] x = 0 ∧ V.length < 8 ∧ addV V ls x = (0, setF keyP V (ls, [x])) := by
  rw [add_new hm hf] at h ⊢
  by_cases h1 : pushE [] x ≠ 0
  · rw [if_pos h1] at h
    exact absurd h h1
  · rw [if_neg h1] at h ⊢
    by_cases h2 : 8 ≤ V.length
    · rw [if_pos h2] at h
      exact absurd h (show ¬ (170 : Int) = 0 by decide)
    · rw [if_neg h2]
      exact ⟨by simpa using h1, by omega, rfl⟩
theorem VMay.add {V : List PV} (hV : VMay V) (ls : List LB) (x : SM) : VMay (addV V ls x).2 := by
  by_cases h0 : (addV V ls x).1 = 0
  · have hm := add_may h0
    cases hf : findF keyP V (keyT ls) with
    | some v =>
      rw [add_some hm hf]
      refine ⟨?_, fun u hu => ?_⟩
      · unfold Rise
        show (V.map _).Pairwise _
        rw [List.pairwise_map]
        refine hV.1.imp fun {a b} hab => ?_
        have e : ∀ u : PV, keyP (if keyP u = keyT ls then ((u.1, pushL u.2 x) : PV) else u) = keyP u := fun u => by split <;> rfl
        rw [e, e]
        exact hab
      · obtain ⟨u', hu', rfl⟩ := List.mem_map.1 hu
        have := hV.2 u' hu'
        split
        · exact this
        · exact this
    | none =>
      obtain ⟨h1, h2, h3⟩ := add_new0 hm hf h0
      rw [h3]
      refine ⟨set_rise hV.1 _, fun u hu => ?_⟩
      rcases List.mem_cons.1 ((ins_perm _ _).mem_iff.1 hu) with rfl | hu
      · exact hm
      · exact hV.2 u (cut_mem.1 hu).1
  · rw [add_err hV.1 h0]
    exact hV
theorem VMay.exp {V : List PV} (hV : VMay V) (a : Int) : VMay (expV V a) := by
  unfold expV
  refine ⟨?_, fun u hu => ?_⟩
  · refine List.Pairwise.filter _ ?_
    rw [List.pairwise_map]
    exact hV.1.imp fun {a b} hab => hab
  · obtain ⟨u', hu', rfl⟩ := List.mem_map.1 (List.mem_filter.1 hu).1
    exact hV.2 u' hu'
theorem may_run (l : List AT) : VMay (runV l) := by
  unfold runV
  have key : ∀ (l : List AT) (V : List PV), VMay V → VMay (l.foldl stepV V) := by
    intro l
    induction l with
    | nil => exact fun V h => h
    | cons a l ih =>
      intro V h
      refine ih _ ?_
      unfold stepV
      split
      · exact h.exp _
      · exact h.add _ _
  exact key l [] ⟨List.Pairwise.nil, fun v hv => absurd hv List.not_mem_nil⟩
/-! What was accepted -/
theorem run_snoc (l : List AT) (a : AT) : runV (l ++ [a]) = stepV (runV l) a := by
  unfold runV
  rw [List.foldl_append]
  rfl
theorem list_snoc {α : Type} {P : List α → Prop} (h0 : P []) (h1 : ∀ l a, P l → P (l ++ [a])) (l : List α) : P l := by
  have key : ∀ n (l : List α), l.length = n → P l := by
    intro n
    induction n with
    | zero =>
      intro l hl
      rw [List.length_eq_zero_iff.1 hl]
      exact h0
    | succ n ih =>
      intro l hl
      have hne : l ≠ [] := by rintro rfl; simp at hl
      rw [← List.dropLast_concat_getLast hne]
      exact h1 _ _ (ih _ (by rw [List.length_dropLast]; omega))
  exact key _ l rfl
def aloneS (q : List LB) (U : List PV) (a : AT) : List PV := if a.f0 = true then expV U a.f2.f0 else if sameLs a.f1 q = true then (addV U a.f1 a.f2).2 else U
def alone (q : List LB) (l : List AT) : List PV := l.foldl (aloneS q) []
end Go.Proofs.Ytlhlaadnifkdhaa.Sr
namespace Go.Proofs.Ytlhlaadnifkdhaa.Sr
open Go.RowKit Go.Proofs.YtlhlaadnifkdhaaW.PrintWords Go.Proofs.YtlhlaadnifkdhaaW.PrintLast Go.Proofs.YtlhlaadnifkdhaaW.PrintMore Go.Proofs.Ytlhlaadnifkdhaa.Q Go.Proofs.Ytlhlaadnifkdhaa.Own Go.Proofs.Ytlhlaadnifkdhaa.Nmd Go.Proofs.Ytlhlaadnifkdhaa.Pure
set_option linter.unusedVariables false
set_option linter.unusedSimpArgs false

def top64 : Int := 9223372036854775807
def VFin (V : List PV) : Prop := ∀ v ∈ V, v.2 ≠ [] ∧ ∀ y ∈ v.2, y.f0 ≤ top64
theorem push_ne {xs : List SM} {x : SM} (h : xs ≠ []) (hf : ∀ y ∈ xs, y.f0 ≤ top64) (hx : x.f0 ≤ top64) : pushL xs x ≠ [] ∧ ∀ y ∈ pushL xs x, y.f0 ≤ top64 := by
  unfold pushL
  split
  · refine ⟨by simp, fun y hy => ?_⟩
    rcases List.mem_append.1 hy with hy | hy
    · exact hf y hy
    · rw [List.mem_singleton.1 hy]
      exact hx
  · exact ⟨h, hf⟩
theorem VFin.add {V : List PV} (hV : VMay V) (h : VFin V) (ls : List LB) {x : SM} (hx : x.f0 ≤ top64) : VFin (addV V ls x).2 := by
  by_cases h0 : (addV V ls x).1 = 0
  · have hm := add_may h0
    cases hf : findF keyP V (keyT ls) with
    | some v =>
      rw [add_some hm hf]
      intro u hu
      obtain ⟨u', hu', rfl⟩ := List.mem_map.1 hu
      obtain ⟨a, b⟩ := h u' hu'
      show (if keyP u' = keyT ls then ((u'.1, pushL u'.2 x) : PV) else u').2 ≠ [] ∧ ∀ y ∈ (if keyP u' = keyT ls then ((u'.1, pushL u'.2 x) : PV) else u').2, y.f0 ≤ top64
      split
      · exact push_ne a b hx
      · exact ⟨a, b⟩
    | none =>
      obtain ⟨h1, h2, h3⟩ := add_new0 hm hf h0
      rw [h3]
      intro u hu
      rcases List.mem_cons.1 ((ins_perm _ _).mem_iff.1 hu) with rfl | hu
      · refine ⟨by simp, fun y hy => ?_⟩
        rw [List.mem_singleton.1 hy]
        exact hx
      · exact h u (cut_mem.1 hu).1
  · rw [add_err hV.1 h0]
    exact h
theorem VFin.exp {V : List PV} (h : VFin V) (a : Int) : VFin (expV V a) := by
  intro u hu
  obtain ⟨h1, h2⟩ := List.mem_filter.1 hu
  obtain ⟨u', hu', rfl⟩ := List.mem_map.1 h1
  refine ⟨by simpa using h2, fun y hy => ?_⟩
  have hy' : y ∈ expL u'.2 a := hy
  unfold expL at hy'
  exact (h u' hu').2 y ((List.dropWhile_suffix _).subset hy')
theorem fin_run {l : List AT} (hl : ∀ a ∈ l, a.f2.f0 ≤ top64) : VFin (runV l) := by
  have key : ∀ (l : List AT), (∀ a ∈ l, a.f2.f0 ≤ top64) → VFin (runV l) := fun l => by
    refine list_snoc (P := fun l => (∀ a ∈ l, a.f2.f0 ≤ top64) → VFin (runV l)) (fun _ v hv => absurd hv List.not_mem_nil) (fun l a ih hl => ?_) l
    have h1 := ih fun b hb => hl b (List.mem_append_left _ hb)
    have ha := hl a (List.mem_append_right _ (List.mem_singleton.2 rfl))
    rw [run_snoc]
    unfold stepV
    split
    · exact h1.exp _
    · exact h1.add (may_run l) _ ha
  exact key l hl
theorem all_fin {V : List PV} (h : VFin V) : allV V = V := by
  rw [all_filter, List.filter_eq_self]
  intro v hv
  have := (h v hv).1
  cases q : v.2 with
  | nil => exact absurd q this
  | cons _ _ => rfl
/-! Rows of acts, as places -/
abbrev AH := Bool × Hd × Int × Int
/-- The places tell these acts; the labels lie where they lay in W. -/
def AccOk (W : World) (acc : List AT) (hs : List AH) : Prop := hs.length = acc.length ∧ ∀ k (h : k < acc.length), ∃ A c, hs[k]? = some ((acc[k]).f0, (A, (acc[k]).f1.length, c), (acc[k]).f2.f0, (acc[k]).f2.f1) ∧ (acc[k]).f1.length ≤ c ∧ Kd.C kL W A (acc[k]).f1.length (acc[k]).f1
theorem AccOk.push {W : World} {acc : List AT} {hs : List AH} (h : AccOk W acc hs) {a : AT} {A : Option Addr} {c : Nat} (hc : a.f1.length ≤ c) (hC : Kd.C kL W A a.f1.length a.f1) : AccOk W (acc ++ [a]) (hs ++ [(a.f0, (A, a.f1.length, c), a.f2.f0, a.f2.f1)]) := by
  obtain ⟨h1, h2⟩ := h
  refine ⟨by rw [List.length_append, List.length_append, h1]; rfl, fun k hk => ?_⟩
  by_cases hka : k < acc.length
  · obtain ⟨A', c', e, e2, e3⟩ := h2 k hka
    rw [List.getElem_append_left hka, List.getElem?_append_left (by omega)]
    exact ⟨A', c', e, e2, e3⟩
  · have : k = acc.length := by
      rw [List.length_append] at hk
      simp at hk
      omega
    subst this
    rw [List.getElem_append_right (Nat.le_refl _), List.getElem?_append_right (by omega), h1]
    simp only [Nat.sub_self, List.getElem_cons_zero]
    exact ⟨A, c, rfl, hc, hC⟩
end Go.Proofs.Ytlhlaadnifkdhaa.Sr
namespace Go.Proofs.Ytlhlaadnifkdhaa.Pure
open Go.RowKit Go.Proofs.YtlhlaadnifkdhaaW.PrintWords Go.Proofs.YtlhlaadnifkdhaaW.PrintLast Go.Proofs.Ytlhlaadnifkdhaa.Q
set_option linter.unusedVariables false
set_option linter.unusedSimpArgs false
theorem ext_one {s : ByteArray} {x : Int} {c : UInt8} {t : List UInt8} (h0 : 0 ≤ x) (h : (B s).drop x.toNat = c :: t) : s.extract x.toNat (x + 1).toNat = str [c] := by
  rw [Lib.extract_eq, show (x + 1).toNat - x.toNat = 1 by omega]
  show str (((B s).drop x.toNat).take 1) = _
  rw [h]
  rfl
theorem toNat_ne {c d : UInt8} {z : Int} (h : c ≠ d) (hz : (d.toNat : Int) = z) : ¬ (c.toNat : Int) = z := fun e => h (UInt8.toNat_inj.1 (by omega))
theorem rq_ev (s : ByteArray) (hs : s.size ≤ 140737488351232) : ∀ (d : Nat) (x : Int) (acc : ByteArray), 0 ≤ x → x ≤ s.size → (s.size : Int) - x = d → (acc.size : Int) ≤ 2 * x + 1 →
    Ev (fun k => tocsinref07_Quote.l0 k s acc x) (str (B acc ++ ((B s).drop x.toNat).flatMap esc ++ [34])) := by
  intro d
  induction d with
  | zero =>
    intro x acc h0 h1 hd ha
    rw [drop_end s x (by omega)]
    refine Ev.step (fun k => by rw [tocsinref07_Quote.l0, if_neg (by omega), if_pos (by omega)]) (ev_some ?_)
    apply B_inj
    rw [B_app, B_str]
    simp
  | succ d ih =>
    intro x acc h0 h1 hd ha
    have hx : x < s.size := by omega
    obtain ⟨c, hc, hdr⟩ := drop_bt s x h0 hx
    have hone := ext_one (c := c) h0 hdr
    have hsz : (str [c]).size = 1 := rfl
    have h92z : (⟨#[92]⟩ : ByteArray).size = 1 := rfl
    have hrec1 := ih (x + 1) ((acc ++ ⟨#[92]⟩) ++ str [c]) (by omega) (by omega) (by omega) (by rw [size_app, size_app]; omega)
    have hrec2 := ih (x + 1) (acc ++ str [c]) (by omega) (by omega) (by omega) (by rw [size_app]; omega)
    refine Ev.step (fun k => by rw [tocsinref07_Quote.l0, if_pos hx, if_pos h0, hc, w64 (x := x + 1) (by omega) (by omega), hone]) ?_
    rw [show (B s).drop x.toNat = _ from hdr, List.flatMap_cons]
    have hesc : ∀ (_ : c = 34 ∨ c = 92), Ev (fun k => tocsinref07_Quote.l0 k s ((acc ++ ⟨#[92]⟩) ++ str [c]) (x + 1)) (str (B acc ++ (esc c ++ ((B s).drop (x + 1).toNat).flatMap esc) ++ [34])) := by
      intro h
      rw [show esc c = [92, c] by unfold esc; rw [if_pos h]]
      rw [B_app, B_app, B_str, show B (⟨#[92]⟩ : ByteArray) = [92] from rfl] at hrec1
      simpa using hrec1
    by_cases h34 : c = 34
    · refine ev_pos (by rw [h34]; rfl) (ev_pos (by omega) (ev_pos (by omega) (ev_pos (by omega) (ev_pos (by rw [size_app]; omega) ?_))))
      exact hesc (.inl h34)
    · refine ev_neg (toNat_ne (d := 34) (z := 34) h34 rfl) ?_
      by_cases h92 : c = 92
      · refine ev_pos (by rw [h92]; rfl) (ev_pos (by omega) (ev_pos (by omega) (ev_pos (by omega) (ev_pos (by rw [size_app]; omega) ?_))))
        exact hesc (.inr h92)
      · refine ev_neg (toNat_ne (d := 92) (z := 92) h92 rfl) (ev_pos (by omega) (ev_pos (by omega) (ev_pos (by omega) ?_)))
        rw [show esc c = [c] by unfold esc; rw [if_neg (fun e => e.elim h34 h92)]]
        rw [B_app, B_str] at hrec2
        simpa using hrec2
theorem refquote (s : ByteArray) (hs : s.size ≤ 140737488351232) : Ev (fun k => tocsinref07_Quote.f k s) (str (quoteL (B s))) := by
  unfold tocsinref07_Quote.f
  have := rq_ev s hs s.size 0 ⟨#[34]⟩ (by omega) (by omega) (by omega) (by have : (⟨#[34]⟩ : ByteArray).size = 1 := rfl; omega)
  rw [show B (⟨#[34]⟩ : ByteArray) = [34] from rfl] at this
  unfold quoteL
  simpa using this
def tailC (l : List S31) : List UInt8 := (l.map fun y => 44 :: item y).flatten
theorem rp_ev (l : List S31) (hl : Small l) : ∀ (d : Nat) (x : Int) (acc : ByteArray), 0 < x → x ≤ l.length → (l.length : Int) - x = d → (acc.size : Int) ≤ 1 + 15004 * x →
    Ev (fun k => tocsinref07_Print.l0 k l acc x) (str (B acc ++ tailC (l.drop x.toNat) ++ [125])) := by
  intro d
  have h100 := hl.1
  induction d with
  | zero =>
    intro x acc h0 h1 hd ha
    refine Ev.step (fun k => by rw [tocsinref07_Print.l0, if_neg (by omega), if_pos (by omega)]) (ev_some ?_)
    rw [List.drop_eq_nil_of_le (by omega)]
    apply B_inj
    rw [B_app, B_str]
    simp [tailC]
  | succ d ih =>
    intro x acc h0 h1 hd ha
    have hx : x < l.length := by omega
    have hs := hl.2 _ (rd_mem (by omega) hx)
    have s1 : (⟨#[44]⟩ : ByteArray).size = 1 := rfl
    have s2 : (⟨#[61]⟩ : ByteArray).size = 1 := rfl
    have hq : (quoteL (B (rd_T31 l x).f1)).length ≤ 2 * (B (rd_T31 l x).f1).length + 2 := quoteL_len _
    rw [data_length] at hq
    have s3 := size_str (quoteL (B (rd_T31 l x).f1))
    refine Ev.step (fun k => by rw [tocsinref07_Print.l0, if_pos hx, if_pos (by omega), if_pos (by omega), if_pos (by omega), if_pos (by rw [size_app]; omega), if_pos (by rw [size_app, size_app]; omega)]) ?_
    refine Ev.bind (refquote _ (by omega)) (ev_pos (by rw [size_app, size_app, size_app]; omega) ?_)
    rw [w64 (by omega) (by omega)]
    have := ih (x + 1) ((((acc ++ (⟨#[44]⟩ : ByteArray)) ++ ((rd_T31 l x).f0)) ++ (⟨#[61]⟩ : ByteArray)) ++ str (quoteL (B (rd_T31 l x).f1))) (by omega) (by omega) (by omega) (by rw [size_app, size_app, size_app, size_app]; omega)
    have he : B ((((acc ++ (⟨#[44]⟩ : ByteArray)) ++ ((rd_T31 l x).f0)) ++ (⟨#[61]⟩ : ByteArray)) ++ str (quoteL (B (rd_T31 l x).f1))) = B acc ++ 44 :: item (rd_T31 l x) := by
      rw [B_app, B_app, B_app, B_app, B_str, show B (⟨#[44]⟩ : ByteArray) = [44] from rfl, show B (⟨#[61]⟩ : ByteArray) = [61] from rfl]
      unfold item
      simp
    rw [he] at this
    have hd2 : l.drop x.toNat = rd_T31 l x :: l.drop (x + 1).toNat := by
      rw [rd_drop l x.toNat (by omega), Int.toNat_of_nonneg (by omega), toNat_succ (by omega)]
    rw [hd2]
    unfold tailC at this ⊢
    simpa using this
theorem refprint (l : List S31) (hl : Small l) : Ev (fun k => tocsinref07_Print.f k l) (str (printL l)) := by
  unfold tocsinref07_Print.f
  have h100 := hl.1
  have s0 : (⟨#[123]⟩ : ByteArray).size = 1 := rfl
  cases l with
  | nil =>
    refine Ev.step (fun k => by rw [tocsinref07_Print.l0, if_neg (by simp), if_pos (by omega)]) (ev_some ?_)
    apply B_inj
    rw [B_app, B_str]
    rfl
  | cons y l =>
    have hs := hl.2 y (by simp)
    have hy : rd_T31 (y :: l) 0 = y := rfl
    have s2 : (⟨#[61]⟩ : ByteArray).size = 1 := rfl
    have hq : (quoteL (B y.f1)).length ≤ 2 * (B y.f1).length + 2 := quoteL_len _
    rw [data_length] at hq
    have s3 := size_str (quoteL (B y.f1))
    have hlen : (y :: l).length = l.length + 1 := rfl
    refine Ev.step (fun k => by rw [tocsinref07_Print.l0, if_pos (by omega), if_neg (by omega), if_pos (by omega), hy, if_pos (by omega), if_pos (by rw [size_app]; omega)]) ?_
    refine Ev.bind (refquote _ (by omega)) (ev_pos (by rw [size_app, size_app]; omega) ?_)
    rw [w64 (by omega) (by omega)]
    have := rp_ev (y :: l) hl l.length (0 + 1) ((((⟨#[123]⟩ : ByteArray) ++ y.f0) ++ (⟨#[61]⟩ : ByteArray)) ++ str (quoteL (B y.f1))) (by omega) (by omega) (by omega) (by rw [size_app, size_app, size_app]; omega)
    have he : B ((((⟨#[123]⟩ : ByteArray) ++ y.f0) ++ (⟨#[61]⟩ : ByteArray)) ++ str (quoteL (B y.f1))) = 123 :: item y := by
      rw [B_app, B_app, B_app, B_str, show B (⟨#[123]⟩ : ByteArray) = [123] from rfl, show B (⟨#[61]⟩ : ByteArray) = [61] from rfl]
      unfold item
      simp
    rw [he] at this
    unfold printL
    rw [joinC_flat]
    unfold tailC at this
    simpa using this
theorem refvalue_ev (l : List S31) (n : ByteArray) (hl : l.length ≤ 9223372036854775807) : ∀ (d : Nat) (x : Int), 0 ≤ x → x ≤ l.length → (l.length : Int) - x = d → Ev (fun k => tocsinref07_Value.l0 k l n x) (valueL n (l.drop x.toNat)) := by
  intro d
  induction d with
  | zero =>
    intro x h0 h1 hd
    rw [List.drop_eq_nil_of_le (by omega), valueL]
    exact Ev.step (fun k => by rw [tocsinref07_Value.l0, if_neg (by omega)]) (Ev.now _)
  | succ d ih =>
    intro x h0 h1 hd
    have hx : x < l.length := by omega
    rw [rd_dropV l x.toNat (by omega), Int.toNat_of_nonneg h0, valueL]
    by_cases hn : (rd_T31 l x).f0.toList = n.toList
    · rw [if_pos hn]
      exact Ev.step (fun k => by rw [tocsinref07_Value.l0, if_pos hx, if_pos h0, if_pos hn]) (Ev.now _)
    · rw [if_neg hn]
      refine Ev.step (fun k => by rw [tocsinref07_Value.l0, if_pos hx, if_pos h0, if_neg hn, w64 (by omega) (by omega)]) ?_
      have := ih (x + 1) (by omega) (by omega) (by omega)
      rwa [toNat_succ h0] at this
theorem refvalue (l : List S31) (n : ByteArray) (hl : l.length ≤ 9223372036854775807) : Ev (fun k => tocsinref07_Value.f k l n) (valueL n l) := refvalue_ev l n hl l.length 0 (by omega) (by omega) (by omega)
theorem pre_neg {v w : ByteArray} (h : ¬ (v.size : Int) ≥ w.size) : pre v w = false := by
  unfold pre strings_HasPrefix.f stringslite_HasPrefix.f
  rw [if_neg h]
  rfl
theorem pre_pos {v w : ByteArray} (h : (v.size : Int) ≥ w.size) : pre v w = ((v.extract 0 ((w.size : Int) : Int).toNat).toList == w.toList) := by
  unfold pre strings_HasPrefix.f stringslite_HasPrefix.f
  rw [if_pos h, if_pos (by omega), if_pos h]
  rfl
theorem refdoes_ev (m : List S40) (l : List S31) (hm : m.length ≤ 9223372036854775807) (hl : l.length ≤ 9223372036854775807) : ∀ (d : Nat) (x : Int), 0 ≤ x → x ≤ m.length → (m.length : Int) - x = d →
    Ev (fun k => tocsinref08_Does.l0 k m l x) ((m.drop x.toNat).all (okD l)) := by
  intro d
  induction d with
  | zero =>
    intro x h0 h1 hd
    rw [List.drop_eq_nil_of_le (by omega)]
    exact Ev.step (fun k => by rw [tocsinref08_Does.l0, if_neg (by omega)]; rfl) (Ev.now _)
  | succ d ih =>
    intro x h0 h1 hd
    have hx : x < m.length := by omega
    have hn := ih (x + 1) (by omega) (by omega) (by omega)
    rw [all_dropD (p := okD l) h0 hx]
    refine Ev.step (fun k => by rw [tocsinref08_Does.l0, if_pos hx, if_pos h0]) ?_
    refine Ev.bind (refvalue l _ hl) ?_
    rw [w64 (by omega) (by omega)]
    generalize rd_T40 m x = y
    unfold okD asks Ops.lookB
    generalize valueL y.f0 l = v
    by_cases a : y.f1 = 0
    · refine ev_pos a ?_
      rw [if_pos a, show ((y.f1 == 0) || ((y.f1 == 1) || (y.f1 == 2))) = true by simp [a], Bool.true_and]
      by_cases e : v.toList = y.f2.toList
      · rw [show (v.toList == y.f2.toList) = true by simpa using e, Bool.true_and]
        exact ev_pos e hn
      · rw [show (v.toList == y.f2.toList) = false by simpa using e, Bool.false_and]
        exact ev_neg e (Ev.now _)
    · refine ev_neg a ?_
      rw [if_neg a]
      by_cases b : y.f1 = 1
      · refine ev_pos b ?_
        rw [if_pos b, show ((y.f1 == 0) || ((y.f1 == 1) || (y.f1 == 2))) = true by simp [b], Bool.true_and]
        by_cases e : v.toList = y.f2.toList
        · rw [show (v.toList != y.f2.toList) = false by simpa using e, Bool.false_and]
          exact ev_neg (fun h => h e) (Ev.now _)
        · rw [show (v.toList != y.f2.toList) = true by simpa using e, Bool.true_and]
          exact ev_pos e hn
      · refine ev_neg b ?_
        rw [if_neg b]
        by_cases c : y.f1 = 2
        · refine ev_pos c ?_
          rw [show ((y.f1 == 0) || ((y.f1 == 1) || (y.f1 == 2))) = true by simp [c], Bool.true_and]
          by_cases e : (v.size : Int) ≥ y.f2.size
          · refine ev_pos e (ev_pos (by omega) (ev_pos e ?_))
            rw [pre_pos e]
            by_cases f : (v.extract 0 ((y.f2.size : Int) : Int).toNat).toList = y.f2.toList
            · rw [show ((v.extract 0 ((y.f2.size : Int) : Int).toNat).toList == y.f2.toList) = true by rw [beq_iff_eq]; exact f, Bool.true_and]
              exact ev_pos f hn
            · rw [show ((v.extract 0 ((y.f2.size : Int) : Int).toNat).toList == y.f2.toList) = false by rw [beq_eq_false_iff_ne]; exact f, Bool.false_and]
              exact ev_neg f (Ev.now _)
          · refine ev_neg e ?_
            rw [pre_neg e]
            exact Ev.now _
        · rw [show ((y.f1 == 0) || ((y.f1 == 1) || (y.f1 == 2))) = false by simp [a, b, c]]
          exact ev_neg c (Ev.now _)

/-! The same -/
end Go.Proofs.Ytlhlaadnifkdhaa.Pure
namespace Go.Proofs.Ytlhlaadnifkdhaa.Sr
open Go.RowKit Go.Proofs.YtlhlaadnifkdhaaW.PrintWords Go.Proofs.YtlhlaadnifkdhaaW.PrintLast Go.Proofs.YtlhlaadnifkdhaaW.PrintMore Go.Proofs.Ytlhlaadnifkdhaa.Q Go.Proofs.Ytlhlaadnifkdhaa.Own Go.Proofs.Ytlhlaadnifkdhaa.Nmd Go.Proofs.Ytlhlaadnifkdhaa.Pure
set_option linter.unusedVariables false
set_option linter.unusedSimpArgs false

theorem rmay_c {w : World} {A : Option Addr} {c : Nat} {l : List LB} (hC : Kd.C kL w A l.length l) (hc : l.length ≤ c) (hg : ∀ y ∈ l, y.f0.size ≤ 9223372036854775807 ∧ y.f1.size ≤ 9223372036854775807) :
    Calls Try.prog 34 #[.slice A l.length c] w fun e w' => e = .returned (.bool (mayB l)) ∧ Below w.heap.size w w' := by
  obtain ⟨k, hk⟩ := (refmay l (Kd.C_max hC) hg).rounds
  refine (tocsinref07_May.calls k A c l _ w hC hc hk).mono ?_
  rintro e w' ⟨rfl, hb⟩
  exact ⟨rfl, hb⟩
theorem rprint_c {w : World} {A : Option Addr} {c : Nat} {l : List LB} (hC : Kd.C kL w A l.length l) (hc : l.length ≤ c) (hm : mayB l = true) :
    Calls Try.prog 35 #[.slice A l.length c] w fun e w' => e = .returned (.string (textL l)) ∧ Below w.heap.size w w' := by
  obtain ⟨k, hk⟩ := (refprint l (good_small hm)).rounds
  refine (tocsinref07_Print.calls k A c l _ w hC hc hk).mono ?_
  rintro e w' ⟨rfl, hb⟩
  exact ⟨rfl, hb.below⟩
theorem rdoes_c {w : World} {A A' : Option Addr} {c c' : Nat} {m : List MT} {l : List LB} (hM : Kd.C kM w A m.length m) (hc : m.length ≤ c) (hC : Kd.C kL w A' l.length l) (hc' : l.length ≤ c') :
    Calls Try.prog 43 #[.slice A m.length c, .slice A' l.length c'] w fun e w' => e = .returned (.bool (doesL m l)) ∧ Below w.heap.size w w' := by
  have h := refdoes_ev m l (Kd.C_max hM) (Kd.C_max hC) m.length 0 (by omega) (by omega) (by omega)
  obtain ⟨k, hk⟩ := h.rounds
  refine (tocsinref08_Does.calls k A c m A' c' l _ w hM hc hC hc' hk).mono ?_
  rintro e w' ⟨rfl, hb⟩
  exact ⟨rfl, hb.below⟩
/-! Expire: what is later -/
def laterL (xs : List SM) (a : Int) : List SM := xs.filter fun y => decide (a < y.f0)
theorem later_ev (l : List SM) (hl : l.length ≤ 1000000) (a : Int) : ∀ (d : Nat) (x : Int) (acc : List SM), 0 ≤ x → x ≤ l.length → (l.length : Int) - x = d → acc.length ≤ x → Ev (fun k => tocsinref16_Expire.l0 k l a acc x) (acc ++ laterL (l.drop x.toNat) a) := by
  intro d
  induction d with
  | zero =>
    intro x acc h0 h1 hd ha
    rw [List.drop_eq_nil_of_le (show l.length ≤ x.toNat by omega)]
    exact Ev.step (fun k => by rw [tocsinref16_Expire.l0, if_neg (by omega)]) (by rw [show laterL [] a = [] from rfl, List.append_nil]; exact Ev.now _)
  | succ d ih =>
    intro x acc h0 h1 hd ha
    have hx : x < l.length := by omega
    rw [rd_dropS l x.toNat (by omega), Int.toNat_of_nonneg h0]
    have hi := fun acc' ha' => ih (x + 1) acc' (by omega) (by omega) (by omega) ha'
    rw [toNat_succ h0] at hi
    by_cases c1 : (rd_T26 l x).f0 > a
    · have e : laterL (rd_T26 l x :: l.drop (x.toNat + 1)) a = rd_T26 l x :: laterL (l.drop (x.toNat + 1)) a := List.filter_cons_of_pos (decide_eq_true c1)
      rw [e]
      refine Ev.step (fun k => by rw [tocsinref16_Expire.l0, if_pos hx, if_pos h0, if_pos c1, if_pos (by omega), w64 (by omega) (by omega)]) ?_
      have := hi (acc ++ [rd_T26 l x]) (by rw [List.length_append]; show ((acc.length + 1 : Nat) : Int) ≤ x + 1; omega)
      rw [List.append_assoc] at this
      exact this
    · have e : laterL (rd_T26 l x :: l.drop (x.toNat + 1)) a = laterL (l.drop (x.toNat + 1)) a := List.filter_cons_of_neg (by rw [show decide (a < (rd_T26 l x).f0) = false from decide_eq_false c1]; decide)
      rw [e]
      exact Ev.step (fun k => by rw [tocsinref16_Expire.l0, if_pos hx, if_pos h0, if_neg c1, w64 (by omega) (by omega)]) (hi acc (by omega))
/-- Samples that do not go back. -/
def Sorted (xs : List SM) : Prop := xs.Pairwise fun x y => x.f0 ≤ y.f0
theorem later_exp : ∀ {xs : List SM} (a : Int), Sorted xs → laterL xs a = expL xs a
  | [], _, _ => rfl
  | x :: xs, a, h => by
    obtain ⟨h1, h2⟩ := List.pairwise_cons.1 h
    unfold laterL expL
    rw [List.dropWhile_cons]
    by_cases c : x.f0 ≤ a
    · rw [List.filter_cons_of_neg (by simpa using c), if_pos (by simpa using c)]
      exact later_exp a h2
    · rw [if_neg (by simpa using c), List.filter_eq_self]
      intro y hy
      rcases List.mem_cons.1 hy with rfl | hy
      · exact decide_eq_true (by omega)
      · have := h1 y hy
        exact decide_eq_true (by omega)
theorem rexpire_c {w : World} {A : Option Addr} {c : Nat} {l : List SM} (hC : Kd.C kS w A l.length l) (hc : l.length ≤ c) (hl : l.length ≤ 1000000) (hs : Sorted l) (a : Int) :
    Calls Try.prog 33 #[.slice A l.length c, .int .i64 a] w (RowPost w (expL l a)) := by
  have h := later_ev l hl a l.length 0 [] (by omega) (by omega) (by omega) (by show (0 : Int) ≤ 0; omega)
  rw [← later_exp a hs]
  obtain ⟨k, hk⟩ := h.rounds
  refine (tocsinref16_Expire.calls k A c l a _ w hC hc hk).mono ?_
  rintro e w' ⟨v, h1, h2, h3⟩
  exact ⟨v, h1, h2, h3⟩
/-! Push -/
theorem late_rd (l : List SM) (x : SM) (h : 0 < l.length) : lateB l x = decide (x.f0 < (rd_T26 l ((l.length : Int) - 1)).f0) := by
  unfold lateB rd_T26
  have e : ((l.length : Int) - 1).toNat = l.length - 1 := by omega
  rw [e, List.getLast?_eq_getElem?, List.getD_eq_getElem?_getD]
  rw [List.getElem?_eq_getElem (by omega)]
  rfl
theorem push_ev (l : List SM) (hl : l.length ≤ 32) (x : SM) : Ev (fun k => tocsinref16_Push.f k l x.f0 x.f1) (pushL l x, pushE l x) := by
  have hbad : ∀ b : Prop, (badX x) → Ev (fun k => tocsinref16_Push.j0 k l true x.f0 x.f1) (pushL l x, pushE l x) := fun _ hb => by
    have e : pushE l x = 2 := by unfold pushE; rw [if_pos hb]
    have e2 : pushL l x = l := by unfold pushL; rw [e, if_neg (by decide)]
    rw [e, e2]
    exact Ev.step (fun k => by rw [tocsinref16_Push.j0, if_pos rfl]) (Ev.now _)
  unfold tocsinref16_Push.f
  by_cases h1 : x.f0 < 0
  · exact ev_pos h1 (hbad True (.inl h1))
  refine ev_neg h1 ?_
  by_cases h2 : x.f1 < -4611686018427387903
  · exact ev_pos h2 (hbad True (.inr (.inl h2)))
  refine ev_neg h2 ?_
  by_cases h3 : x.f1 > 4611686018427387903
  · rw [decide_eq_true h3]
    exact hbad True (.inr (.inr h3))
  rw [decide_eq_false h3]
  have hnb : ¬ badX x := fun q => q.elim h1 (fun q => q.elim h2 h3)
  have hj1 : Ev (fun k => tocsinref16_Push.j1 k l (lateB l x) x.f0 x.f1) (pushL l x, pushE l x) := by
    cases hb : lateB l x with
    | true =>
      have e : pushE l x = 160 := by unfold pushE; rw [if_neg hnb, if_pos hb]
      have e2 : pushL l x = l := by unfold pushL; rw [e, if_neg (by decide)]
      rw [e, e2]
      exact Ev.step (fun k => by rw [tocsinref16_Push.j1, if_pos rfl]) (Ev.now _)
    | false =>
      by_cases h4 : (l.length : Int) ≥ 32
      · have e : pushE l x = 4 := by unfold pushE; rw [if_neg hnb, if_neg (by rw [hb]; decide), if_pos (by omega)]
        have e2 : pushL l x = l := by unfold pushL; rw [e, if_neg (by decide)]
        rw [e, e2]
        exact Ev.step (fun k => by rw [tocsinref16_Push.j1, if_neg (by decide), if_pos h4]) (Ev.now _)
      · have e : pushE l x = 0 := by unfold pushE; rw [if_neg hnb, if_neg (by rw [hb]; decide), if_neg (by omega)]
        have e2 : pushL l x = l ++ [x] := by unfold pushL; rw [e, if_pos rfl]
        rw [e, e2]
        refine Ev.step (fun k => by
          rw [tocsinref16_Push.j1, if_neg (by decide), if_neg h4]
          simp only [Option.bind_some]
          rw [if_pos (by show 0 + l.length < 8796093022208; omega)]
          simp only [Option.bind_some, List.nil_append]
          rw [if_pos (by show l.length + 1 < 8796093022208; omega)]) (Ev.now _)
  by_cases h5 : (l.length : Int) > 0
  · have hw : wrap64 ((l.length : Int) - 1) = (l.length : Int) - 1 := w64 (by omega) (by omega)
    rw [late_rd l x (by omega)] at hj1
    refine Ev.step (fun k => by rw [tocsinref16_Push.j0, if_neg (by decide), if_pos h5, hw, if_pos (by omega), if_pos (by omega)]) hj1
  · have hn : l = [] := List.eq_nil_of_length_eq_zero (by omega)
    have : lateB l x = false := by rw [hn]; rfl
    rw [this] at hj1
    exact Ev.step (fun k => by rw [tocsinref16_Push.j0, if_neg (by decide), if_neg h5]) hj1
theorem rpush_thing {B : Nat} {w : World} {u : Value} {l : List SM} {Ts : List Th} (h : Has B w (rowS u l :: Ts)) (hl : l.length ≤ 32) (x : SM) :
    Calls Try.prog 36 #[u, .agg #[.int .i64 x.f0, .int .i64 x.f1]] w fun e w' => ∃ A c, e = .returned (.tuple #[.slice A (pushL l x).length c, .int .i64 (pushE l x)]) ∧ Has B w' (rowS (.slice A (pushL l x).length c) (pushL l x) :: Ts) ∧ Below B w w' := by
  obtain ⟨F, hr, hFb, put⟩ := h.head
  have hr : Kd.R kS 26 w 0 F u l := hr
  obtain ⟨k, hk⟩ := (push_ev l hl x).rounds
  have hB0 : Below ({ w with heap := #[] } : World).heap.size { w with heap := #[] } w := ⟨rfl, rfl, rfl, Nat.zero_le _, fun k hk => absurd hk (Nat.not_lt_zero _)⟩
  refine (tocsinref16_Push.calls k F u l x.f0 x.f1 _ _ { w with heap := #[] } w hB0 hr hk).mono ?_
  rintro e w' ⟨v, rfl, hr', hb, hkp⟩
  have hr' : Kd.R kS 26 w' 0 (fun k_ => (F k_ ∨ w.heap.size ≤ k_)) v (pushL l x) := hr'
  obtain ⟨A, c, rfl, -, -⟩ := Kd.R_reads hr'
  have hKF : KeepF F w w' := ⟨hb.os, hb.tape, hb.output, hkp.1, fun k hk hn => hkp.2 k hk hn⟩
  obtain ⟨p1, p2⟩ := put w' (fun k => (F k ∨ w.heap.size ≤ k) ∧ k < w'.heap.size) (rowS (.slice A (pushL l x).length c) (pushL l x)) hKF (Kd.R_mono (Kd.R_bound hr') fun k hk => ⟨hk.1, hk.2.2.1⟩) (fun k hk => hk)
  exact ⟨A, c, rfl, p1, p2⟩
end Go.Proofs.Ytlhlaadnifkdhaa.Sr
namespace Go.Proofs.Ytlhlaadnifkdhaa.Sr
open Go.RowKit Go.Proofs.YtlhlaadnifkdhaaW.PrintWords Go.Proofs.YtlhlaadnifkdhaaW.PrintLast Go.Proofs.YtlhlaadnifkdhaaW.PrintMore Go.Proofs.Ytlhlaadnifkdhaa.Q Go.Proofs.Ytlhlaadnifkdhaa.Own Go.Proofs.Ytlhlaadnifkdhaa.Nmd
set_option linter.unusedVariables false
set_option linter.unusedSimpArgs false

theorem All.sub {B : Nat} {w : World} {Us Ts : List Th} (h : Us.Sublist Ts) : ∀ {S : Nat → Prop}, All B w S Ts → All B w S Us := by
  induction h with
  | slnil => exact fun h => h
  | cons T _ ih =>
    rintro S ⟨F, h1, h2, h3⟩
    exact (ih h3).grow fun k hk _ => hk.1
  | cons_cons T _ ih =>
    rintro S ⟨F, h1, h2, h3⟩
    exact ⟨F, h1, h2, ih h3⟩
theorem has_sub {B : Nat} {w : World} {Us Ts : List Th} (h : Has B w Ts) (hs : Us.Sublist Ts) : Has B w Us := ⟨h.size, All.sub hs h.all⟩
abbrev rowG (v : Value) (fs : List FH) : Th := rowT kF 78 v fs
theorem infG : (Try.prog.info? 78).map (fun i => (i.zero, i.size, i.bytes)) = some (some (.agg #[.slice none 0 0, .slice none 0 0]), 2, 48) := by kernel_rfl
theorem lit_G (w : World) (x : FH) : Kd.C kF (w.alloc (.cells #[vH x.1, vH x.2] 78)) (some ⟨w.heap.size, 0, none⟩) [x].length [x] := by
  have hr : Kd.R kF 78 (w.alloc (.cells #[vH x.1, vH x.2] 78)) 0 (fun _ => True) (.slice (some ⟨w.heap.size, 0, none⟩) [x].length [x].length) [x] :=
    ⟨fun _ _ => trivial, OwnRow.lit (ps := [x]) w 0 (inner := cellsF x) (show Reps _ 2 ([] ++ [x]) ([] ++ cellsF x) from Reps.snoc (Reps.none _ _) (kF_KM x _ (kF_mk _ x)) rfl) (Nat.zero_le _) (show 1 ≤ 9223372036854775807 by omega)⟩
  exact (Kd.R_reads' hr).2.2
abbrev boxQ (q : Nat) (v : Value) : Th := boxT q #[v] 44
/-- The document's store. -/
def refT (q : Nat) (V : List PV) : Th where
  on w F := ∃ A c M, M.map viewF = V ∧ (groupT (boxQ q (.slice A M.length c) :: rowG (.slice A M.length c) (M.map plF) :: tf M)).on w F
  loc := by
    rintro w w' F ⟨A, c, M, h1, h2⟩ hm
    exact ⟨A, c, M, h1, (groupT (boxQ q (.slice A M.length c) :: rowG (.slice A M.length c) (M.map plF) :: tf M)).loc h2 hm⟩
theorem ref_open {B : Nat} {w : World} {q : Nat} {V : List PV} {Ts : List Th} (h : Has B w (refT q V :: Ts)) : ∃ A c M, M.map viewF = V ∧ Has B w (boxQ q (.slice A M.length c) :: rowG (.slice A M.length c) (M.map plF) :: (tf M ++ Ts)) := by
  obtain ⟨h0, F, ⟨A, c, M, h1, h3⟩, h4⟩ := h
  have q := has_ungroup (Gs := boxQ q (.slice A M.length c) :: rowG (.slice A M.length c) (M.map plF) :: tf M) (Ts := Ts) ⟨h0, F, h3, h4⟩
  exact ⟨A, c, M, h1, q⟩
theorem ref_shut {B : Nat} {w : World} {q : Nat} {A : Option Addr} {c : Nat} {M : List FE} {Ts : List Th} (h : Has B w (boxQ q (.slice A M.length c) :: rowG (.slice A M.length c) (M.map plF) :: (tf M ++ Ts))) : Has B w (refT q (M.map viewF) :: Ts) := by
  obtain ⟨h0, F, h3, h4⟩ := has_group (Gs := boxQ q (.slice A M.length c) :: rowG (.slice A M.length c) (M.map plF) :: tf M) (Ts := Ts) h
  exact ⟨h0, F, ⟨A, c, M, rfl, h3⟩, h4⟩
theorem ref_new {B : Nat} {w : World} {Ts : List Th} (h : Has B w Ts) : Has B (w.alloc (.cells #[.slice none 0 0] 44)) (refT w.heap.size [] :: Ts) :=
  ref_shut (A := none) (c := 0) (M := []) ((row_nil kF h 78).box #[.slice none 0 0] 44)
theorem findG_read {B : Nat} {w : World} {Ts : List Th} (h : Has B w Ts) {M : List FE} {A : Option Addr} {n c : Nat} (hrow : rowG (.slice A n c) (M.map plF) ∈ Ts) (htf : ∀ T ∈ tf M, T ∈ Ts) {k : Nat} (hk : k < M.length) :
    ∃ ad, A = some ad ∧ FRead w ad k M[k] := by
  obtain ⟨e, hc, hC⟩ := row_reads h hrow
  obtain ⟨ad, rfl, q0, q1⟩ := at_F hC k (by rw [List.length_map]; exact hk)
  rw [List.getElem_map] at q0 q1
  obtain ⟨m0, m1⟩ := tf_mem hk
  obtain ⟨r0, r1, r2⟩ := row_reads h (d := kL) (e := 31) (A := (M[k]).hl.1) (n := (M[k]).hl.2.1) (c := (M[k]).hl.2.2) (xs := (M[k]).ls) (htf _ m0)
  obtain ⟨s0, s1, s2⟩ := row_reads h (d := kS) (e := 26) (A := (M[k]).hs.1) (n := (M[k]).hs.2.1) (c := (M[k]).hs.2.2) (xs := (M[k]).xs) (htf _ m1)
  rw [← add_field _ _ 1 (by omega)] at q1
  have q0 : w.cell? (ad.add (k * 2)) = some (.slice (M[k]).hl.1 (M[k]).hl.2.1 (M[k]).hl.2.2) := q0
  have q1 : w.cell? ⟨(ad.add (k * 2)).block, (ad.add (k * 2)).off + 1, none⟩ = some (.slice (M[k]).hs.1 (M[k]).hs.2.1 (M[k]).hs.2.2) := q1
  rw [r0] at q0
  rw [s0] at q1
  exact ⟨ad, rfl, q0, q1, r1, s1, r2, s2⟩
/-! Labels' rows and samples' rows, each by themselves -/
def labT (M : List FE) : List Th := M.map fun x => rowL (vH x.hl) x.ls
def samT (M : List FE) : List Th := M.map fun x => rowS (vH x.hs) x.xs
theorem tf_perm : ∀ M : List FE, (tf M).Perm (labT M ++ samT M)
  | [] => List.Perm.refl _
  | x :: M => by
    rw [tf_cons]
    show (_ :: _ :: tf M).Perm (rowL (vH x.hl) x.ls :: (labT M ++ rowS (vH x.hs) x.xs :: samT M))
    exact List.Perm.cons _ (((tf_perm M).cons _).trans List.perm_middle.symm)
theorem lab_sub (M : List FE) : (labT M).Sublist (tf M) := by
  induction M with
  | nil => exact List.Sublist.refl _
  | cons x M ih =>
    rw [tf_cons]
    exact List.Sublist.cons_cons _ (List.Sublist.cons _ ih)
/-- The labels' rows of a store and the samples' rows that were made: what is kept. -/
theorem has_kept {B : Nat} {w : World} {M N : List FE} {As Ts : List Th} (h : Has B w (As ++ (tf M ++ (samT N ++ Ts)))) (hs : (labT N).Sublist (labT M)) : Has B w (As ++ (tf N ++ Ts)) := by
  have h1 : Has B w (As ++ (labT N ++ (samT N ++ Ts))) := has_sub h ((List.Sublist.refl As).append ((hs.trans (lab_sub M)).append (List.Sublist.refl _)))
  rw [← List.append_assoc (labT N)] at h1
  exact h1.perm (((tf_perm N).symm.append_right Ts).append_left As)
theorem sam_snoc (N : List FE) (x : FE) : samT (N ++ [x]) = samT N ++ [rowS (vH x.hs) x.xs] := List.map_append
theorem lab_snoc (N : List FE) (x : FE) : labT (N ++ [x]) = labT N ++ [rowL (vH x.hl) x.ls] := List.map_append
theorem lab_take {M N : List FE} {k : Nat} (h : (labT N).Sublist (labT (M.take k))) (hk : k < M.length) : (labT N).Sublist (labT (M.take (k + 1))) ∧ ∀ x : FE, x.hl = (M[k]).hl → x.ls = (M[k]).ls → (labT (N ++ [x])).Sublist (labT (M.take (k + 1))) := by
  have e : labT (M.take (k + 1)) = labT (M.take k) ++ [rowL (vH (M[k]).hl) (M[k]).ls] := by
    rw [List.take_succ_eq_append_getElem hk, lab_snoc]
  rw [e]
  refine ⟨h.trans (List.sublist_append_left _ _), fun x h1 h2 => ?_⟩
  rw [lab_snoc, h1, h2]
  exact h.append (List.Sublist.refl _)
/-! Finds as the law's rows -/
abbrev F64 := S64
abbrev F78 := S78
abbrev k64' : Kd F64 := k64
abbrev k78' : Kd F78 := k78
def to64 (v : PV) : F64 := ⟨v.1, v.2⟩
def to78 (v : PV) : F78 := ⟨v.1, v.2⟩
theorem reads_64 {w : World} {A : Option Addr} {n : Nat} {M : List FE} (h : Kd.C kF w A n (M.map plF)) (hM : ∀ x ∈ M, x.hl.2.1 = x.ls.length ∧ x.ls.length ≤ x.hl.2.2 ∧ Kd.C kL w x.hl.1 x.ls.length x.ls ∧ x.hs.2.1 = x.xs.length ∧ x.xs.length ≤ x.hs.2.2 ∧ Kd.C kS w x.hs.1 x.xs.length x.xs) : Kd.C k64' w A n ((M.map viewF).map to64) := by
  obtain ⟨h1, h2, h3⟩ := h
  refine ⟨by rw [← h1, List.length_map, List.length_map, List.length_map], h2, fun hn => ?_⟩
  obtain ⟨ad, e, hc⟩ := h3 hn
  refine ⟨ad, e, fun j p hj => ?_⟩
  rw [List.map_map, List.getElem?_map] at hj
  obtain ⟨x, hx, rfl⟩ := Option.map_eq_some_iff.1 hj
  obtain ⟨c, hcl, hK, hcell⟩ := hc j (plF x) (by rw [List.getElem?_map, hx]; rfl)
  obtain ⟨a1, a2, a3, a4, a5, a6⟩ := hM x (List.mem_of_getElem? hx)
  have hK' := kF_open hK
  subst hK'
  refine ⟨_, hcl, ?_, hcell⟩
  have := k64_mk w (to64 (viewF x)) (A0 := x.hl.1) (c0 := x.hl.2.2) a2 a3 (A1 := x.hs.1) (c1 := x.hs.2.2) a5 a6
  show Kd.K k64' w _ [.slice x.hl.1 x.hl.2.1 x.hl.2.2, .slice x.hs.1 x.hs.2.1 x.hs.2.2]
  rw [a1, a4]
  exact this
theorem reads_78 {w : World} {A : Option Addr} {n : Nat} {M : List FE} (h : Kd.C kF w A n (M.map plF)) (hM : ∀ x ∈ M, x.hl.2.1 = x.ls.length ∧ x.ls.length ≤ x.hl.2.2 ∧ Kd.C kL w x.hl.1 x.ls.length x.ls ∧ x.hs.2.1 = x.xs.length ∧ x.xs.length ≤ x.hs.2.2 ∧ Kd.C kS w x.hs.1 x.xs.length x.xs) : Kd.C k78' w A n ((M.map viewF).map to78) := by
  obtain ⟨h1, h2, h3⟩ := h
  refine ⟨by rw [← h1, List.length_map, List.length_map, List.length_map], h2, fun hn => ?_⟩
  obtain ⟨ad, e, hc⟩ := h3 hn
  refine ⟨ad, e, fun j p hj => ?_⟩
  rw [List.map_map, List.getElem?_map] at hj
  obtain ⟨x, hx, rfl⟩ := Option.map_eq_some_iff.1 hj
  obtain ⟨c, hcl, hK, hcell⟩ := hc j (plF x) (by rw [List.getElem?_map, hx]; rfl)
  obtain ⟨a1, a2, a3, a4, a5, a6⟩ := hM x (List.mem_of_getElem? hx)
  have hK' := kF_open hK
  subst hK'
  refine ⟨_, hcl, ?_, hcell⟩
  have := k78_mk w (to78 (viewF x)) (A0 := x.hl.1) (c0 := x.hl.2.2) a2 a3 (A1 := x.hs.1) (c1 := x.hs.2.2) a5 a6
  show Kd.K k78' w _ [.slice x.hl.1 x.hl.2.1 x.hl.2.2, .slice x.hs.1 x.hs.2.1 x.hs.2.2]
  rw [a1, a4]
  exact this
theorem rows_ok {B : Nat} {w : World} {Ts : List Th} (h : Has B w Ts) {x : FE} (h0 : rowL (vH x.hl) x.ls ∈ Ts) (h1 : rowS (vH x.hs) x.xs ∈ Ts) : x.hl.2.1 = x.ls.length ∧ x.ls.length ≤ x.hl.2.2 ∧ Kd.C kL w x.hl.1 x.ls.length x.ls ∧ x.hs.2.1 = x.xs.length ∧ x.xs.length ≤ x.hs.2.2 ∧ Kd.C kS w x.hs.1 x.xs.length x.xs := by
  obtain ⟨r0, r1, r2⟩ := row_reads h (d := kL) (e := 31) (A := x.hl.1) (n := x.hl.2.1) (c := x.hl.2.2) (xs := x.ls) h0
  obtain ⟨s0, s1, s2⟩ := row_reads h (d := kS) (e := 26) (A := x.hs.1) (n := x.hs.2.1) (c := x.hs.2.2) (xs := x.xs) h1
  exact ⟨r0, r1, r2, s0, s1, s2⟩
/-- What was told, as the law's function reads it. -/
theorem finds_64 {B : Nat} {w : World} {A : Option Addr} {n c : Nat} {R : List PV} {Ts : List Th} (h : Has B w (findsT (.slice A n c) R :: Ts)) : n = R.length ∧ n ≤ c ∧ Kd.C k64' w A R.length (R.map to64) := by
  obtain ⟨M, rfl, hA⟩ := finds_open h
  obtain ⟨e, hc, hC⟩ := row_reads hA (List.mem_cons_self ..)
  rw [List.length_map] at e hc
  refine ⟨by rw [e, List.length_map], by omega, ?_⟩
  rw [List.length_map] at hC
  rw [List.length_map]
  exact reads_64 hC fun x hx => by
    obtain ⟨k, hk, rfl⟩ := List.getElem_of_mem hx
    obtain ⟨m0, m1⟩ := tf_mem hk
    exact rows_ok hA (List.mem_cons_of_mem _ (List.mem_append_left _ m0)) (List.mem_cons_of_mem _ (List.mem_append_left _ m1))
theorem ref_78 {B : Nat} {w : World} {q : Nat} {V : List PV} {Ts : List Th} (h : Has B w (refT q V :: Ts)) : ∃ A c, w.cell? ⟨q, 0, none⟩ = some (.slice A V.length c) ∧ V.length ≤ c ∧ Kd.C k78' w A V.length (V.map to78) := by
  obtain ⟨A, c, M, rfl, hA⟩ := ref_open h
  obtain ⟨e, hc, hC⟩ := row_reads hA (d := kF) (e := 78) (A := A) (n := M.length) (c := c) (xs := M.map plF) (by simp)
  rw [List.length_map] at e hc hC
  obtain ⟨bc, -, -, -⟩ := hA.box_cell (b := q) (cs := #[.slice A M.length c]) (t := 44) (by simp)
  refine ⟨A, c, by rw [List.length_map]; exact bc 0, by rw [List.length_map]; exact hc, ?_⟩
  rw [List.length_map]
  exact reads_78 hC fun x hx => by
    obtain ⟨k, hk, rfl⟩ := List.getElem_of_mem hx
    obtain ⟨m0, m1⟩ := tf_mem hk
    exact rows_ok hA (List.mem_cons_of_mem _ (List.mem_cons_of_mem _ (List.mem_append_left _ m0))) (List.mem_cons_of_mem _ (List.mem_cons_of_mem _ (List.mem_append_left _ m1)))
end Go.Proofs.Ytlhlaadnifkdhaa.Sr
namespace Go.Proofs.Ytlhlaadnifkdhaa.Sr
open Go.RowKit Go.Proofs.YtlhlaadnifkdhaaW.PrintWords Go.Proofs.YtlhlaadnifkdhaaW.PrintLast Go.Proofs.YtlhlaadnifkdhaaW.PrintMore Go.Proofs.Ytlhlaadnifkdhaa.Q Go.Proofs.Ytlhlaadnifkdhaa.Own Go.Proofs.Ytlhlaadnifkdhaa.Nmd
set_option linter.unusedVariables false
set_option linter.unusedSimpArgs false
attribute [local go_sem ↓] Go.wp_at_zero Go.wp_at_succ

/-- A store's series are as a store keeps them. -/
def VSrt (V : List PV) : Prop := ∀ v ∈ V, Sorted v.2 ∧ v.2.length ≤ 32
theorem exp_finds (V : List PV) (a : Int) : expV V a = findsV V fun v => expL v.2 a := rfl
theorem expn_take (V : List PV) (a : Int) {k : Nat} (h : k < V.length) : expVN (V.take (k + 1)) a = expVN (V.take k) a + ((V[k]).2.length - (expL (V[k]).2 a).length) := by
  unfold expVN
  rw [take_snocP V k h, List.map_append, List.sum_append]
  simp
theorem expn_le {V : List PV} (h : ∀ v ∈ V, v.2.length ≤ 32) (a : Int) : expVN V a ≤ 32 * V.length := by
  unfold expVN
  induction V with
  | nil => simp
  | cons v V ih =>
    have h1 := h v (List.mem_cons_self ..)
    have h2 := ih fun u hu => h u (List.mem_cons_of_mem _ hu)
    rw [List.map_cons, List.sum_cons, List.length_cons]
    omega
theorem kept_read {B : Nat} {w : World} {A : Option Addr} {n c : Nat} {M : List FE} {Ts : List Th} (h : Has B w Ts) (hr : rowG (.slice A n c) (M.map plF) ∈ Ts) (ht : ∀ T ∈ tf M, T ∈ Ts) {k : Nat} (hk : k < M.length) :
    ∃ ad, A = some ad ∧ ∃ (ls : List LB) (xs : List SM) (A1 : Option Addr) (c1 : Nat) (A2 : Option Addr) (c2 : Nat), M[k] = ⟨(A1, ls.length, c1), (A2, xs.length, c2), ls, xs⟩ ∧ FRead w ad k ⟨(A1, ls.length, c1), (A2, xs.length, c2), ls, xs⟩ := by
  obtain ⟨ad, e, h1⟩ := findG_read h hr ht hk
  obtain ⟨m0, m1⟩ := tf_mem hk
  obtain ⟨r0, -, -⟩ := row_reads h (d := kL) (e := 31) (A := (M[k]).hl.1) (n := (M[k]).hl.2.1) (c := (M[k]).hl.2.2) (xs := (M[k]).ls) (ht _ m0)
  obtain ⟨s0, -, -⟩ := row_reads h (d := kS) (e := 26) (A := (M[k]).hs.1) (n := (M[k]).hs.2.1) (c := (M[k]).hs.2.2) (xs := (M[k]).xs) (ht _ m1)
  generalize M[k] = x at h1 r0 s0
  obtain ⟨⟨A1, n1, c1⟩, ⟨A2, n2, c2⟩, ls, xs⟩ := x
  dsimp only at r0 s0
  subst r0; subst s0
  exact ⟨ad, e, ls, xs, A1, c1, A2, c2, rfl, h1⟩
theorem kept_cell {B : Nat} {w : World} {q : Nat} {v : Value} {Ts : List Th} (h : Has B w Ts) (hm : boxQ q v ∈ Ts) : w.cell? ⟨q, 0, none⟩ = some v := by
  obtain ⟨bc, -, -, -⟩ := h.box_cell (b := q) (cs := #[v]) (t := 44) hm
  exact bc 0
set_option maxHeartbeats 8000000 in
set_option maxRecDepth 100000 in
theorem rexp_store {B : Nat} {w : World} {q : Nat} {V : List PV} {Ts : List Th} (h : Has B w (refT q V :: Ts)) (hv : VSrt V) (hl : V.length ≤ 8) (a : Int) :
    Calls Try.prog 13 #[ptr q, .int .i64 a] w fun e w' => e = .returned (.int .i64 (expVN V a : Int)) ∧ Has B w' (refT q (expV V a) :: Ts) ∧ Below B w w' := by
  obtain ⟨A, c, M, rfl, hA⟩ := ref_open h
  rw [List.length_map] at hl
  have HV := Aside0.mk hv
  have HA0 : Aside0 (Has B w (boxQ q (.slice A M.length c) :: rowG (.slice A M.length c) (M.map plF) :: rowG (.slice none ([] : List FE).length 0) (([] : List FE).map plF) :: (tf M ++ (samT [] ++ Ts)))) := ⟨has_back (As := [_, _]) (row_nil kF hA 78)⟩
  have HB0 : Aside0 (Below B w w) := ⟨Below.refl _ _⟩
  clear h hv hA
  go_enter Try.func13, Try.ntmps13
  go_wp2_with fail
  go_loopw [7, 5, 6] (fun i g o wr => ∃ (k : Nat) (A5 : Option Addr) (c5 : Nat) (N : List FE), i = .int .i64 k ∧ g = .int .i64 (expVN ((M.map viewF).take k) a : Nat) ∧ o = .slice A5 N.length c5 ∧ k ≤ M.length ∧ N.length ≤ k ∧ Aside0 (N.map viewF = expV ((M.map viewF).take k) a) ∧ Aside0 ((labT N).Sublist (labT (M.take k))) ∧ Aside0 (Has B wr (boxQ q (.slice A M.length c) :: rowG (.slice A M.length c) (M.map plF) :: rowG (.slice A5 N.length c5) (N.map plF) :: (tf M ++ (samT N ++ Ts)))) ∧ Aside0 (Below B w wr)) (fun i _ _ _ => M.length - (intOf i).toNat)
  case atStart => exact ⟨0, none, 0, [], rfl, rfl, rfl, by omega, Nat.zero_le _, ⟨rfl⟩, ⟨List.Sublist.refl _⟩, HA0, HB0⟩
  case round =>
    clear HA0 HB0
    obtain ⟨k, A5, c5, N, rfl, rfl, rfl, hk, hNk, HN, HS, HA, HB⟩ := hrel
    have c0 := kept_cell HA.out (List.mem_cons_self ..)
    by_cases hlt : k < M.length
    · have d1 : decide ((k : Int) < (M.length : Int)) = true := decide_eq_true (by omega)
      have d2 : decide (0 ≤ (k : Int)) = true := decide_eq_true (by omega)
      have ek : wrap64 ((k : Int) + 1) = ((k + 1 : Nat) : Int) := (w64 (x := (k : Int) + 1) (by omega) (by omega)).trans (by omega)
      have hltV : k < (M.map viewF).length := by rw [List.length_map]; exact hlt
      have hgt := expn_take (M.map viewF) a hltV
      have hTK := take_snocP (M.map viewF) k hltV
      obtain ⟨hsrt, h32⟩ := HV.out _ (List.getElem_mem hltV)
      have hgl := expn_le (V := (M.map viewF).take k) (fun v hv => (HV.out v (List.mem_of_mem_take hv)).2) a
      rw [List.length_take] at hgl
      rw [List.getElem_map] at hgt hTK hsrt h32
      have hls := lab_take HS.out hlt
      obtain ⟨ad, rfl, ls, xs, A1q, c1q, A2q, c2q, hMk, hFR⟩ := kept_read HA.out (A := A) (n := M.length) (c := c) (M := M) (by simp) (fun T hT => by simp [hT]) hlt
      rw [hMk] at hgt hTK hsrt h32 hls
      dsimp only [viewF] at hgt hTK hsrt h32 hls
      have HTK := Aside0.mk hTK
      have HLS := Aside0.mk hls
      have HFR := Aside0.mk hFR
      have b1 := hFR.c1
      dsimp only at b1
      have HEX := Aside0.mk (rexpire_c (hFR.C1) hFR.le1 (by show xs.length ≤ 1000000; omega) hsrt a)
      dsimp only at HEX
      have hle := exp_len xs a
      obtain ⟨ys, hys⟩ : ∃ ys, expL xs a = ys := ⟨_, rfl⟩
      rw [hys] at HEX hgt hle
      have HYS := Aside0.mk hys
      generalize expVN ((M.map viewF).take k) a = gn at hgl hgt ⊢
      have HGT := Aside0.mk hgt
      obtain ⟨g1, hg1⟩ : ∃ g1, gn + xs.length = g1 := ⟨_, rfl⟩
      obtain ⟨g2, hg2⟩ : ∃ g2, gn + (xs.length - ys.length) = g2 := ⟨_, rfl⟩
      have HE : Aside0 (wrap64 ((gn : Int) + (xs.length : Int)) = (g1 : Int)) := ⟨(w64 (by omega) (by omega)).trans (by omega)⟩
      have HE2 : Aside0 (wrap64 ((g1 : Int) - (ys.length : Int)) = (g2 : Int)) := ⟨(w64 (by omega) (by omega)).trans (by omega)⟩
      rw [hg2] at HGT
      clear hg1 hg2 hgl hle
      clear hgt hTK hls hFR hMk hys hsrt
      go_wp2_with fail
      refine HEX.out.mono ?_
      intro e w3 hrp
      have hbw : Below wr.heap.size wr w3 := by obtain ⟨_, _, _, hb⟩ := hrp; exact hb
      obtain ⟨An, cn, rfl, hA3, hB3⟩ := hrp.has HA.out
      have HB3 := Aside0.mk (HB.out.trans hB3)
      have c0 := kept_cell (q := q) (v := .slice (some ad) M.length c) hA3 (by simp)
      have HFR3 := Aside0.mk (HFR.out.below hbw)
      have b0 := HFR3.out.c0
      have b1 := HFR3.out.c1
      dsimp only at b0 b1
      have HA3 := Aside0.mk hA3
      clear hrp hbw hA3 hB3 HEX HA HB HFR
      by_cases hz : ys = []
      · have d3 : decide ((ys.length : Int) > 0) = false := by rw [hz]; rfl
        have d3' : ¬ (0 : Int) < (ys.length : Int) := by rw [hz]; decide
        have d3n : ¬ 0 < ys.length := by rw [hz]; decide
        have HZ := Aside0.mk hz
        have HA4 := Aside0.mk HA3.out.tail
        have HN2 : Aside0 (N.map viewF = expV ((M.map viewF).take (k + 1)) a) := ⟨by rw [HTK.out, exp_finds, finds_snoc0 (HYS.out.trans HZ.out)]; exact HN.out⟩
        clear hz
        have e1 := HE.out
        have e2 := HE2.out
        go_wp2_with fail
        clear e1 e2
        go_roundw
        case rel => exact ⟨k + 1, A5, c5, N, by first | rfl | rw [ek], by rw [HGT.out]; first | rfl | rw [HE2.out] | rw [HE.out, HE2.out], rfl, by omega, by omega, HN2, ⟨HLS.out.1⟩, HA4, HB3⟩
        case measure => first | (simp [intOf]; omega) | (rw [ek]; simp [intOf]; omega)
      · have hp : 0 < ys.length := List.length_pos_iff.2 hz
        have d3 : decide ((ys.length : Int) > 0) = true := decide_eq_true (by omega)
        have d3' : (0 : Int) < (ys.length : Int) := by omega
        have HN2 : Aside0 ((N ++ [(⟨(A1q, ls.length, c1q), (An, ys.length, cn), ls, ys⟩ : FE)]).map viewF = expV ((M.map viewF).take (k + 1)) a) := ⟨by rw [HTK.out, exp_finds, finds_snoc1 (by rw [HYS.out]; exact hz), HYS.out, List.map_append, HN.out]; rfl⟩
        have HB5 : Aside0 (Below B w (w3.alloc (.cells #[.slice A1q ls.length c1q, .slice An ys.length cn] 78))) := ⟨HB3.out.alloc HA3.out.size _⟩
        have HC5 : Aside0 (Kd.C kF (w3.alloc (.cells #[.slice A1q ls.length c1q, .slice An ys.length cn] 78)) (some ⟨w3.heap.size, 0, none⟩) 1 [((A1q, ls.length, c1q), (An, ys.length, cn))]) := ⟨lit_G w3 ((A1q, ls.length, c1q), (An, ys.length, cn))⟩
        have HA5 := Aside0.mk (has_mid (As := [_, _, _]) (HA3.out.alloc (.cells #[.slice A1q ls.length c1q, .slice An ys.length cn] 78)))
        have HL2 : Aside0 ((labT (N ++ [(⟨(A1q, ls.length, c1q), (An, ys.length, cn), ls, ys⟩ : FE)])).Sublist (labT (M.take (k + 1)))) := ⟨HLS.out.2 _ rfl rfl⟩
        have e1 := HE.out
        have e2 := HE2.out
        clear HA3 hz
        go_wp2_with (clear e1 e2; refine rows_app kF HA5.out rfl _ _ 42 (.agg #[.slice none 0 0, .slice none 0 0]) 48 rfl Try.underlying42 infG rfl (by decide) (by decide) (some ⟨w3.heap.size, 0, none⟩) 1 rfl rfl HC5.out (fun x cs hx => kF_KM x cs hx) (by rw [List.length_map]; show (N.length + 1) * 48 ≤ 140737488355328; omega) ?_; rintro v6 w6 hA6 hB6; obtain ⟨A6, c6, rfl, -, -⟩ := hA6.reads (d := kF) (e := 78) (v := v6) (xs := N.map plF ++ [((A1q, ls.length, c1q), (An, ys.length, cn))]) (List.mem_cons_self ..); have HA6 := Aside0.mk hA6; have HB6 := Aside0.mk (HB5.out.trans hB6); clear hA6 hB6)
        have hl6 : (N.map plF ++ [(((A1q, ls.length, c1q), (An, ys.length, cn)) : FH)]).length = N.length + 1 := by rw [List.length_append, List.length_map]; rfl
        have hA7 := HA6.out
        rw [hl6] at hA7
        have hA8 := has_back (As := [_, _, _]) hA7
        have hA9 : Has B w6 ((boxQ q (.slice (some ad) M.length c) :: rowG (.slice (some ad) M.length c) (M.map plF) :: rowG (.slice A6 (N.length + 1) c6) (N.map plF ++ [((A1q, ls.length, c1q), (An, ys.length, cn))]) :: (tf M ++ samT N)) ++ rowS (.slice An ys.length cn) ys :: Ts) := has_back (As := boxQ q (.slice (some ad) M.length c) :: rowG (.slice (some ad) M.length c) (M.map plF) :: rowG (.slice A6 (N.length + 1) c6) (N.map plF ++ [((A1q, ls.length, c1q), (An, ys.length, cn))]) :: (tf M ++ samT N)) (Bs := Ts) (by simpa [List.append_assoc] using hA8)
        have HA10 : Aside0 (Has B w6 (boxQ q (.slice (some ad) M.length c) :: rowG (.slice (some ad) M.length c) (M.map plF) :: rowG (.slice A6 (N ++ [(⟨(A1q, ls.length, c1q), (An, ys.length, cn), ls, ys⟩ : FE)]).length c6) ((N ++ [(⟨(A1q, ls.length, c1q), (An, ys.length, cn), ls, ys⟩ : FE)]).map plF) :: (tf M ++ (samT (N ++ [(⟨(A1q, ls.length, c1q), (An, ys.length, cn), ls, ys⟩ : FE)]) ++ Ts)))) := ⟨by
          rw [sam_snoc, List.map_append, List.length_append]
          simpa [List.append_assoc, plF] using hA9⟩
        have HLN : Aside0 ((N ++ [(⟨(A1q, ls.length, c1q), (An, ys.length, cn), ls, ys⟩ : FE)]).length = N.length + 1) := ⟨by rw [List.length_append]; rfl⟩
        clear hA7 hA8 hA9 HA6
        go_wp2_with fail
        go_roundw
        case rel => exact ⟨k + 1, A6, c6, N ++ [(⟨(A1q, ls.length, c1q), (An, ys.length, cn), ls, ys⟩ : FE)], by first | rfl | rw [ek], by rw [HGT.out]; first | rfl | rw [HE2.out] | rw [HE.out, HE2.out], by rw [HLN.out], by omega, by rw [HLN.out]; omega, HN2, HL2, HA10, HB6⟩
        case measure => first | (simp [intOf]; omega) | (rw [ek]; simp [intOf]; omega)
    · obtain rfl : k = M.length := by omega
      have d1 : decide ((M.length : Int) < (M.length : Int)) = false := decide_eq_false (by omega)
      have htl : (M.map viewF).take M.length = M.map viewF := by rw [← List.length_map (f := viewF)]; exact List.take_length
      rw [htl] at HN ⊢
      rw [List.take_length] at HS
      obtain ⟨hA2, hB2⟩ := HA.out.box_set 0 (.slice A5 N.length c5)
      have hA3 : Has B (wr.setCell ⟨q, 0, none⟩ (.slice A5 N.length c5)) (boxQ q (.slice A5 N.length c5) :: rowG (.slice A M.length c) (M.map plF) :: rowG (.slice A5 N.length c5) (N.map plF) :: (tf M ++ (samT N ++ Ts))) := hA2
      have hA4 : Has B (wr.setCell ⟨q, 0, none⟩ (.slice A5 N.length c5)) ([boxQ q (.slice A5 N.length c5), rowG (.slice A5 N.length c5) (N.map plF)] ++ (tf M ++ (samT N ++ Ts))) := hA3.swap.tail
      have hA5 := ref_shut (has_kept hA4 HS.out)
      rw [HN.out] at hA5
      have HA5 := Aside0.mk hA5
      have HB5 := Aside0.mk (HB.out.trans hB2)
      obtain ⟨-, bf, -, -⟩ := HA.out.box_cell (b := q) (cs := #[.slice A M.length c]) (t := 44) (by simp)
      have f0 := bf 0
      clear hA2 hB2 hA3 hA4 hA5 bf htl
      go_wp2_with fail
      go_ret
      exact ⟨rfl, HA5.out, HB5.out⟩
end Go.Proofs.Ytlhlaadnifkdhaa.Sr
namespace Go.Proofs.Ytlhlaadnifkdhaa.Sr
open Go.RowKit Go.Proofs.YtlhlaadnifkdhaaW.PrintWords Go.Proofs.YtlhlaadnifkdhaaW.PrintLast Go.Proofs.YtlhlaadnifkdhaaW.PrintMore Go.Proofs.Ytlhlaadnifkdhaa.Q Go.Proofs.Ytlhlaadnifkdhaa.Own Go.Proofs.Ytlhlaadnifkdhaa.Nmd
set_option linter.unusedVariables false
set_option linter.unusedSimpArgs false
attribute [local go_sem ↓] Go.wp_at_zero Go.wp_at_succ

set_option maxHeartbeats 8000000 in
set_option maxRecDepth 100000 in
theorem rsel_store {B : Nat} {w : World} {q : Nat} {V : List PV} {Ts : List Th} (h : Has B w (refT q V :: Ts)) (hv : ∀ v ∈ V, v.2.length ≤ 32) (hl : V.length ≤ 8) {Am : Option Addr} {cm : Nat} {m : List MT} (a a2 : Int) (hm : ∀ W, Has B W Ts → Below B w W → Kd.C kM W Am m.length m) (hcm : m.length ≤ cm) :
    Calls Try.prog 18 #[ptr q, .slice Am m.length cm, .int .i64 a, .int .i64 a2] w fun e w' => ∃ A c, e = .returned (.slice A (selV V m a a2).length c) ∧ (selV V m a a2).length ≤ c ∧ Kd.C k78' w' A (selV V m a a2).length ((selV V m a a2).map to78) ∧ Has B w' (refT q V :: Ts) ∧ Below B w w' := by
  obtain ⟨A, c, M, rfl, hA⟩ := ref_open h
  rw [List.length_map] at hl
  have HV := Aside0.mk hv
  have HM := Aside0.mk hm
  have HCM := Aside0.mk hcm
  have HA0 : Aside0 (Has B w (boxQ q (.slice A M.length c) :: rowG (.slice A M.length c) (M.map plF) :: rowG (.slice none ([] : List FE).length 0) (([] : List FE).map plF) :: (tf M ++ (samT [] ++ Ts)))) := ⟨has_back (As := [_, _]) (row_nil kF hA 78)⟩
  have HB0 : Aside0 (Below B w w) := ⟨Below.refl _ _⟩
  clear h hv hA hm hcm
  go_enter Try.func18, Try.ntmps18
  go_wp2_with fail
  go_loopw [10, 9] (fun i o wr => ∃ (k : Nat) (A5 : Option Addr) (c5 : Nat) (N : List FE), i = .int .i64 k ∧ o = .slice A5 N.length c5 ∧ k ≤ M.length ∧ N.length ≤ k ∧ Aside0 (N.map viewF = findsV ((M.map viewF).take k) (selG m a a2)) ∧ Aside0 ((labT N).Sublist (labT (M.take k))) ∧ Aside0 (Has B wr (boxQ q (.slice A M.length c) :: rowG (.slice A M.length c) (M.map plF) :: rowG (.slice A5 N.length c5) (N.map plF) :: (tf M ++ (samT N ++ Ts)))) ∧ Aside0 (Below B w wr)) (fun i _ _ => M.length - (intOf i).toNat)
  case atStart => exact ⟨0, none, 0, [], rfl, rfl, by omega, Nat.zero_le _, ⟨rfl⟩, ⟨List.Sublist.refl _⟩, HA0, HB0⟩
  case round =>
    clear HA0 HB0
    obtain ⟨k, A5, c5, N, rfl, rfl, hk, hNk, HN, HS, HA, HB⟩ := hrel
    have c0 := kept_cell HA.out (List.mem_cons_self ..)
    by_cases hlt : k < M.length
    · have d1 : decide ((k : Int) < (M.length : Int)) = true := decide_eq_true (by omega)
      have d2 : decide (0 ≤ (k : Int)) = true := decide_eq_true (by omega)
      have ek : wrap64 ((k : Int) + 1) = ((k + 1 : Nat) : Int) := (w64 (x := (k : Int) + 1) (by omega) (by omega)).trans (by omega)
      have hltV : k < (M.map viewF).length := by rw [List.length_map]; exact hlt
      have hTK := take_snocP (M.map viewF) k hltV
      have h32 := HV.out _ (List.getElem_mem hltV)
      rw [List.getElem_map] at hTK h32
      have hls := lab_take HS.out hlt
      obtain ⟨ad, rfl, ls, xs, A1q, c1q, A2q, c2q, hMk, hFR⟩ := kept_read HA.out (A := A) (n := M.length) (c := c) (M := M) (by simp) (fun T hT => by simp [hT]) hlt
      rw [hMk] at hTK h32 hls
      dsimp only [viewF] at hTK h32 hls
      have HTK := Aside0.mk hTK
      have HLS := Aside0.mk hls
      have HFR := Aside0.mk hFR
      have b1 := hFR.c1
      dsimp only at b1
      have HEX := Aside0.mk (window_c (hFR.C1) hFR.le1 (by show xs.length ≤ 1000000; omega) a a2)
      dsimp only at HEX
      obtain ⟨ys, hys⟩ : ∃ ys, winL xs a a2 = ys := ⟨_, rfl⟩
      rw [hys] at HEX
      have HYS := Aside0.mk hys
      clear hTK hls hFR hMk hys
      go_wp2_with fail
      refine HEX.out.mono ?_
      intro e w3 hrp
      have hbw : Below wr.heap.size wr w3 := by obtain ⟨_, _, _, hb⟩ := hrp; exact hb
      obtain ⟨An, cn, rfl, hA3, hB3⟩ := hrp.has HA.out
      have HB3 := Aside0.mk (HB.out.trans hB3)
      have c0 := kept_cell (q := q) (v := .slice (some ad) M.length c) hA3 (by simp)
      have HFR3 := Aside0.mk (HFR.out.below hbw)
      have b0 := HFR3.out.c0
      have b1 := HFR3.out.c1
      dsimp only at b0 b1
      have HA3 := Aside0.mk hA3
      clear hrp hbw hA3 hB3 HEX HA HB HFR
      by_cases hz : ys = []
      · have d3 : decide ((ys.length : Int) > 0) = false := by rw [hz]; rfl
        have d3' : ¬ (0 : Int) < (ys.length : Int) := by rw [hz]; decide
        have d3n : ¬ 0 < ys.length := by rw [hz]; decide
        have HZ := Aside0.mk hz
        have HA4 := Aside0.mk HA3.out.tail
        have HN2 : Aside0 (N.map viewF = findsV ((M.map viewF).take (k + 1)) (selG m a a2)) := ⟨by rw [HTK.out, finds_snoc0 (by unfold selG; split; exact HYS.out.trans HZ.out; rfl)]; exact HN.out⟩
        clear hz
        go_wp2_with fail
        go_roundw
        case rel => exact ⟨k + 1, A5, c5, N, by first | rfl | rw [ek], rfl, by omega, by omega, HN2, ⟨HLS.out.1⟩, HA4, HB3⟩
        case measure => first | (simp [intOf]; omega) | (rw [ek]; simp [intOf]; omega)
      · have hp : 0 < ys.length := List.length_pos_iff.2 hz
        have d3 : decide ((ys.length : Int) > 0) = true := decide_eq_true (by omega)
        have d3' : (0 : Int) < (ys.length : Int) := by omega
        have HZ := Aside0.mk hz
        clear hz
        have HDO := Aside0.mk (rdoes_c (HM.out w3 (has_drop (As := samT N) (has_drop (As := tf M) HA3.out.tail.tail.tail.tail)) HB3.out) HCM.out HFR3.out.C0 HFR3.out.le0)
        dsimp only at HDO
        go_wp2_with fail
        refine HDO.out.mono ?_
        rintro e w4 ⟨rfl, hb4⟩
        have c0 := kept_cell (q := q) (v := .slice (some ad) M.length c) (HA3.out.below hb4) (by simp)
        have b0 := (HFR3.out.below hb4).c0
        dsimp only at b0
        have HA4 := Aside0.mk (HA3.out.below hb4)
        have HB4 := Aside0.mk (HB3.out.trans (hb4.mono HA3.out.size))
        clear hb4 HDO HA3 HB3 HFR3 b1
        cases hd : doesL m ls with
        | false =>
          have HA5 := Aside0.mk HA4.out.tail
          have HN2 : Aside0 (N.map viewF = findsV ((M.map viewF).take (k + 1)) (selG m a a2)) := ⟨by rw [HTK.out, finds_snoc0 (by unfold selG; rw [hd]; rfl)]; exact HN.out⟩
          clear hd HA4
          go_wp2_with fail
          go_roundw
          case rel => exact ⟨k + 1, A5, c5, N, by first | rfl | rw [ek], rfl, by omega, by omega, HN2, ⟨HLS.out.1⟩, HA5, HB4⟩
          case measure => first | (simp [intOf]; omega) | (rw [ek]; simp [intOf]; omega)
        | true =>
          have HD := Aside0.mk hd
          clear hd
          have HN2 : Aside0 ((N ++ [(⟨(A1q, ls.length, c1q), (An, ys.length, cn), ls, ys⟩ : FE)]).map viewF = findsV ((M.map viewF).take (k + 1)) (selG m a a2)) := ⟨by
            have hsg : selG m a a2 (ls, xs) = ys := by unfold selG; rw [HD.out, if_pos rfl]; exact HYS.out
            rw [HTK.out, finds_snoc1 (by rw [hsg]; exact HZ.out), hsg, List.map_append, HN.out]
            rfl⟩
          have HB5 : Aside0 (Below B w (w4.alloc (.cells #[.slice A1q ls.length c1q, .slice An ys.length cn] 78))) := ⟨HB4.out.alloc HA4.out.size _⟩
          have HC5 : Aside0 (Kd.C kF (w4.alloc (.cells #[.slice A1q ls.length c1q, .slice An ys.length cn] 78)) (some ⟨w4.heap.size, 0, none⟩) 1 [((A1q, ls.length, c1q), (An, ys.length, cn))]) := ⟨lit_G w4 ((A1q, ls.length, c1q), (An, ys.length, cn))⟩
          have HA5 := Aside0.mk (has_mid (As := [_, _, _]) (HA4.out.alloc (.cells #[.slice A1q ls.length c1q, .slice An ys.length cn] 78)))
          have HL2 : Aside0 ((labT (N ++ [(⟨(A1q, ls.length, c1q), (An, ys.length, cn), ls, ys⟩ : FE)])).Sublist (labT (M.take (k + 1)))) := ⟨HLS.out.2 _ rfl rfl⟩
          clear HA4
          go_wp2_with (refine rows_app kF HA5.out rfl _ _ 42 (.agg #[.slice none 0 0, .slice none 0 0]) 48 rfl Try.underlying42 infG rfl (by decide) (by decide) (some ⟨w4.heap.size, 0, none⟩) 1 rfl rfl HC5.out (fun x cs hx => kF_KM x cs hx) (by rw [List.length_map]; show (N.length + 1) * 48 ≤ 140737488355328; omega) ?_; rintro v6 w6 hA6 hB6; obtain ⟨A6, c6, rfl, -, -⟩ := hA6.reads (d := kF) (e := 78) (v := v6) (xs := N.map plF ++ [((A1q, ls.length, c1q), (An, ys.length, cn))]) (List.mem_cons_self ..); have HA6 := Aside0.mk hA6; have HB6 := Aside0.mk (HB5.out.trans hB6); clear hA6 hB6)
          have hl6 : (N.map plF ++ [(((A1q, ls.length, c1q), (An, ys.length, cn)) : FH)]).length = N.length + 1 := by rw [List.length_append, List.length_map]; rfl
          have hA7 := HA6.out
          rw [hl6] at hA7
          have hA8 := has_back (As := [_, _, _]) hA7
          have hA9 : Has B w6 ((boxQ q (.slice (some ad) M.length c) :: rowG (.slice (some ad) M.length c) (M.map plF) :: rowG (.slice A6 (N.length + 1) c6) (N.map plF ++ [((A1q, ls.length, c1q), (An, ys.length, cn))]) :: (tf M ++ samT N)) ++ rowS (.slice An ys.length cn) ys :: Ts) := has_back (As := boxQ q (.slice (some ad) M.length c) :: rowG (.slice (some ad) M.length c) (M.map plF) :: rowG (.slice A6 (N.length + 1) c6) (N.map plF ++ [((A1q, ls.length, c1q), (An, ys.length, cn))]) :: (tf M ++ samT N)) (Bs := Ts) (by simpa [List.append_assoc] using hA8)
          have HA10 : Aside0 (Has B w6 (boxQ q (.slice (some ad) M.length c) :: rowG (.slice (some ad) M.length c) (M.map plF) :: rowG (.slice A6 (N ++ [(⟨(A1q, ls.length, c1q), (An, ys.length, cn), ls, ys⟩ : FE)]).length c6) ((N ++ [(⟨(A1q, ls.length, c1q), (An, ys.length, cn), ls, ys⟩ : FE)]).map plF) :: (tf M ++ (samT (N ++ [(⟨(A1q, ls.length, c1q), (An, ys.length, cn), ls, ys⟩ : FE)]) ++ Ts)))) := ⟨by
            rw [sam_snoc, List.map_append, List.length_append]
            simpa [List.append_assoc, plF] using hA9⟩
          have HLN : Aside0 ((N ++ [(⟨(A1q, ls.length, c1q), (An, ys.length, cn), ls, ys⟩ : FE)]).length = N.length + 1) := ⟨by rw [List.length_append]; rfl⟩
          clear hA7 hA8 hA9 HA6
          go_wp2_with fail
          go_roundw
          case rel => exact ⟨k + 1, A6, c6, N ++ [(⟨(A1q, ls.length, c1q), (An, ys.length, cn), ls, ys⟩ : FE)], by first | rfl | rw [ek], by rw [HLN.out], by omega, by rw [HLN.out]; omega, HN2, HL2, HA10, HB6⟩
          case measure => first | (simp [intOf]; omega) | (rw [ek]; simp [intOf]; omega)
    · obtain rfl : k = M.length := by omega
      have d1 : decide ((M.length : Int) < (M.length : Int)) = false := decide_eq_false (by omega)
      have htl : (M.map viewF).take M.length = M.map viewF := by rw [← List.length_map (f := viewF)]; exact List.take_length
      rw [htl] at HN
      rw [List.take_length] at HS
      obtain ⟨en, hcn, hC⟩ := row_reads HA.out (d := kF) (e := 78) (A := A5) (n := N.length) (c := c5) (xs := N.map plF) (by simp)
      rw [List.length_map] at hcn hC
      have hK := reads_78 hC fun x hx => by
        obtain ⟨j, hj, rfl⟩ := List.getElem_of_mem hx
        have hl0 : rowL (vH (N[j]).hl) (N[j]).ls ∈ labT N := List.mem_map.2 ⟨N[j], List.getElem_mem hj, rfl⟩
        have hs0 : rowS (vH (N[j]).hs) (N[j]).xs ∈ samT N := List.mem_map.2 ⟨N[j], List.getElem_mem hj, rfl⟩
        have hl1 := (lab_sub M).subset (HS.out.subset hl0)
        exact rows_ok HA.out (by simp [hl1]) (by simp [hs0])
      rw [HN.out] at hK
      have hl5 : N.length = (selV (M.map viewF) m a a2).length := by
        have := congrArg List.length HN.out
        rw [List.length_map] at this
        exact this
      have hX : N.length ≤ c5 ∧ Kd.C k78' wr A5 N.length ((selV (M.map viewF) m a a2).map to78) := ⟨hcn, hK⟩
      have HX := Aside0.mk hX
      have HL5 := Aside0.mk hl5
      have hA2 : Has B wr ([boxQ q (.slice A M.length c), rowG (.slice A M.length c) (M.map plF)] ++ (tf M ++ Ts)) := has_sub HA.out ((List.Sublist.refl [boxQ q (.slice A M.length c), rowG (.slice A M.length c) (M.map plF)]).append (List.Sublist.cons _ ((List.Sublist.refl (tf M)).append (List.sublist_append_right (samT N) Ts))))
      have HA5 := Aside0.mk (ref_shut hA2)
      clear hA2 hX hl5 hK hC hcn en htl
      go_wp2_with fail
      go_ret
      refine ⟨A5, c5, by rw [← HL5.out]; rfl, ?_, ?_, HA5.out, HB.out⟩
      · rw [← HL5.out]
        exact HX.out.1
      · rw [← HL5.out]
        exact HX.out.2
end Go.Proofs.Ytlhlaadnifkdhaa.Sr
namespace Go.Proofs.Ytlhlaadnifkdhaa.Sr
open Go.RowKit Go.Proofs.YtlhlaadnifkdhaaW.PrintWords Go.Proofs.YtlhlaadnifkdhaaW.PrintLast Go.Proofs.YtlhlaadnifkdhaaW.PrintMore Go.Proofs.Ytlhlaadnifkdhaa.Q Go.Proofs.Ytlhlaadnifkdhaa.Own Go.Proofs.Ytlhlaadnifkdhaa.Nmd
set_option linter.unusedVariables false
set_option linter.unusedSimpArgs false
attribute [local go_sem ↓] Go.wp_at_zero Go.wp_at_succ

def keyFE (x : FE) : List UInt8 := keyT x.ls
theorem insFE_map (f : FE) : ∀ M : List FE, (insF keyFE M f).map viewF = insF keyP (M.map viewF) (viewF f)
  | [] => rfl
  | y :: M => by
    rw [List.map_cons]
    unfold insF
    by_cases h : keyFE f < keyFE y
    · rw [if_pos h, if_pos (show keyP (viewF f) < keyP (viewF y) from h)]
      rfl
    · rw [if_neg h, if_neg (show ¬ keyP (viewF f) < keyP (viewF y) from h), List.map_cons, insFE_map f M]
theorem insFE_snoc1 (f y : FE) : ∀ {M : List FE}, (∃ z ∈ M, keyFE f < keyFE z) → insF keyFE (M ++ [y]) f = insF keyFE M f ++ [y]
  | [], h => by
    obtain ⟨z, hz, _⟩ := h
    exact absurd hz List.not_mem_nil
  | x :: M, h => by
    rw [List.cons_append]
    unfold insF
    by_cases hx : keyFE f < keyFE x
    · rw [if_pos hx, if_pos hx]
      rfl
    · rw [if_neg hx, if_neg hx, insFE_snoc1 f y (M := M)]
      · rfl
      · obtain ⟨z, hz, hk⟩ := h
        rcases List.mem_cons.1 hz with rfl | hz
        · exact absurd hk hx
        · exact ⟨z, hz, hk⟩
theorem insFE_none (f : FE) : ∀ {M : List FE}, (∀ z ∈ M, ¬ keyFE f < keyFE z) → ∀ N, insF keyFE (M ++ N) f = M ++ insF keyFE N f
  | [], _, N => rfl
  | x :: M, h, N => by
    rw [List.cons_append]
    conv => lhs; unfold insF
    rw [if_neg (h x (List.mem_cons_self ..)), insFE_none f (fun z hz => h z (List.mem_cons_of_mem _ hz)) N]
    rfl
theorem tf_permM {M N : List FE} (h : M.Perm N) : (tf M).Perm (tf N) := h.flatMap_right _
theorem map_set {V : List PV} (hr : Rise keyP V) {n : List UInt8} {x : SM} {k : Nat} (hk : k < V.length) (hn : keyP V[k] = n) : V.map (fun u => if keyP u = n then ((u.1, pushL u.2 x) : PV) else u) = V.set k ((V[k]).1, pushL (V[k]).2 x) := by
  have hu := rise_unlike hr
  refine List.ext_getElem (by rw [List.length_map, List.length_set]) fun i h1 h2 => ?_
  rw [List.length_map] at h1
  rw [List.getElem_map, List.getElem_set]
  by_cases hik : k = i
  · subst hik
    rw [if_pos hn, if_pos rfl]
  · rw [if_neg hik, if_neg]
    intro hi
    rcases Nat.lt_or_ge i k with q | q
    · exact (List.pairwise_iff_getElem.1 hu) i k h1 hk q (hi.trans hn.symm)
    · exact (List.pairwise_iff_getElem.1 hu) k i hk h1 (by omega) (hn.trans hi.symm)
theorem set_mid {α : Type} (M1 M2 : List α) (x y : α) : (M1 ++ x :: M2).set M1.length y = M1 ++ y :: M2 := by
  rw [List.set_append_right _ _ (Nat.le_refl _), Nat.sub_self]
  rfl
theorem split_at {α : Type} (M : List α) {k : Nat} (h : k < M.length) : ∃ M1 M2, M = M1 ++ M[k] :: M2 ∧ M1.length = k := ⟨M.take k, M.drop (k + 1), by rw [← List.drop_eq_getElem_cons h, List.take_append_drop], by rw [List.length_take]; omega⟩
theorem find_firstP {V : List PV} (hr : Rise keyP V) {n : List UInt8} {k : Nat} (hk : k < V.length) (hn : keyP V[k] = n) : findF keyP V n = some V[k] := by
  subst hn
  exact find_of (rise_unlike hr) (List.getElem_mem hk)
def InsAt (dn : Bool) (N P : List FE) (f : FE) : Prop := (dn = true → N = insF keyFE P f ∧ ∃ z ∈ P, keyFE f < keyFE z) ∧ (dn = false → N = P ∧ ∀ z ∈ P, ¬ keyFE f < keyFE z)
theorem radd_end {B : Nat} {w : World} {q : Nat} {A9 : Option Addr} {c9 : Nat} {M N : List FE} {f : FE} {A : Option Addr} {c bo : Nat} {A7 A5 : Option Addr} {c7 c5 : Nat} {ls : List LB} {x : SM} {cs : Array Value} {Ts : List Th}
    (h : Has B w (boxT q ((#[.slice A M.length c] : Array Value).setIfInBounds 0 (.slice A9 N.length c9)) 44 :: rowG (.slice A M.length c) (M.map plF) :: rowG (.slice A9 N.length c9) (N.map plF) :: boxT bo cs 78 :: (rowL (.slice A7 ls.length c7) ls :: rowS (.slice A5 1 c5) [x] :: (tf M ++ Ts))))
    (hf : f = ⟨(A7, ls.length, c7), (A5, 1, c5), ls, [x]⟩) (hN : N = insF keyFE M f) : Has B w (refT q (insF keyP (M.map viewF) (ls, [x])) :: Ts) := by
  have h : Has B w (boxQ q (.slice A9 N.length c9) :: rowG (.slice A M.length c) (M.map plF) :: rowG (.slice A9 N.length c9) (N.map plF) :: boxT bo cs 78 :: (rowL (.slice A7 ls.length c7) ls :: rowS (.slice A5 1 c5) [x] :: (tf M ++ Ts))) := h
  have h1 := h.swap.tail
  have h2 := (has_mid (As := [_, _]) h1).tail
  have hp : (tf (f :: M)).Perm (tf N) := tf_permM (by rw [hN]; exact (ins_perm M f).symm)
  have h3 : Has B w (boxQ q (.slice A9 N.length c9) :: rowG (.slice A9 N.length c9) (N.map plF) :: (tf N ++ Ts)) := by
    refine h2.perm (List.Perm.cons _ (List.Perm.cons _ ?_))
    have := hp.append_right Ts
    rw [tf_cons, hf] at this
    exact this
  have h4 := ref_shut h3
  rw [hN, insFE_map, hf] at h4
  exact h4
abbrev boxX (b : Nat) (x : SM) : Th := boxT b #[.int .i64 x.f0, .int .i64 x.f1] 26
set_option maxHeartbeats 16000000 in
set_option maxRecDepth 100000 in
theorem radd_store {B : Nat} {w : World} {q : Nat} {V : List PV} {Ts : List Th} (h : Has B w (refT q V :: Ts)) (hV : VMay V) (h32 : ∀ v ∈ V, v.2.length ≤ 32) (hl : V.length ≤ 8) {A0 : Option Addr} {c0 : Nat} {ls : List LB} (x : SM)
    (hC : ∀ w', Has B w' Ts → Below B w w' → Kd.C kL w' A0 ls.length ls) (hc : ls.length ≤ c0) (hg : ∀ y ∈ ls, y.f0.size ≤ 9223372036854775807 ∧ y.f1.size ≤ 9223372036854775807) :
    Calls Try.prog 14 #[ptr q, .slice A0 ls.length c0, .agg #[.int .i64 x.f0, .int .i64 x.f1]] w fun e w' => e = .returned (.int .i64 (addV V ls x).1) ∧ Has B w' (refT q (addV V ls x).2 :: Ts) ∧ Below B w w' := by
  obtain ⟨x0, x1⟩ := x
  have hu26 := Try.underlying26
  obtain ⟨A, c, M, rfl, hA⟩ := ref_open h
  rw [List.length_map] at hl
  have HA1 : Aside0 (Has B (w.alloc (.cells #[.int .i64 x0, .int .i64 x1] 26)) (boxQ q (.slice A M.length c) :: rowG (.slice A M.length c) (M.map plF) :: boxX w.heap.size ⟨x0, x1⟩ :: (tf M ++ Ts))) := ⟨has_back (As := [_, _]) (hA.box #[.int .i64 x0, .int .i64 x1] 26)⟩
  have HB1 : Aside0 (Below B w (w.alloc (.cells #[.int .i64 x0, .int .i64 x1] 26))) := ⟨(Below.refl B w).alloc h.size _⟩
  have HCL := Aside0.mk hC
  have HVM := Aside0.mk hV
  have H32 := Aside0.mk h32
  have HCC := Aside0.mk hc
  have HM := Aside0.mk (rmay_c (HCL.out _ (has_drop (As := tf M) HA1.out.tail.tail.tail) HB1.out) hc hg)
  clear h hC hV h32 hc hg hA
  dsimp only
  generalize hbx : w.heap.size = bx at HA1
  go_enter Try.func14, Try.ntmps14
  go_wp2_with fail
  generalize w.alloc (.cells #[.int .i64 x0, .int .i64 x1] 26) = w1 at HA1 HB1 HM ⊢
  clear hbx
  refine HM.out.mono ?_
  rintro e w2 ⟨rfl, hb2⟩
  have HA2 := Aside0.mk (HA1.out.below hb2)
  have HB2 := Aside0.mk (HB1.out.trans (hb2.mono HA1.out.size))
  clear HA1 HB1 HM hb2
  cases hmay : Pure.mayB ls with
  | false =>
    have HMY := Aside0.mk hmay
    clear hmay
    go_wp2_with fail
    go_ret
    have e : addV (M.map viewF) ls ⟨x0, x1⟩ = (70, M.map viewF) := by unfold addV; rw [if_pos HMY.out]
    rw [e]
    exact ⟨rfl, ref_shut (has_mid (As := [_, _]) HA2.out).tail, HB2.out⟩
  | true =>
    have HMY := Aside0.mk hmay
    have HP := Aside0.mk (rprint_c (HCL.out _ (has_drop (As := tf M) HA2.out.tail.tail.tail) HB2.out) HCC.out hmay)
    clear hmay
    go_wp2_with fail
    refine HP.out.mono ?_
    rintro e w3 ⟨rfl, hb3⟩
    have HA3 := Aside0.mk (HA2.out.below hb3)
    have HB3 := Aside0.mk (HB2.out.trans (hb3.mono HA2.out.size))
    clear HA2 HB2 HP hb3
    obtain ⟨nm, hnm⟩ : ∃ nm, textL ls = nm := ⟨_, rfl⟩
    have HNM := Aside0.mk hnm
    rw [hnm]
    clear hnm
    go_wp2_with fail
    go_loopw [8] (fun i wr => ∃ k : Nat, i = .int .i64 k ∧ k ≤ M.length ∧ Aside0 (∀ j (h : j < M.length), j < k → textL (M[j]).ls ≠ nm) ∧ Aside0 (Has B wr (boxQ q (.slice A M.length c) :: rowG (.slice A M.length c) (M.map plF) :: boxX bx ⟨x0, x1⟩ :: (tf M ++ Ts))) ∧ Aside0 (Below B w wr)) (fun i _ => M.length - (intOf i).toNat)
    case atStart => exact ⟨0, rfl, by omega, ⟨fun j _ h => absurd h (Nat.not_lt_zero _)⟩, HA3, HB3⟩
    case round =>
      clear HA3 HB3
      obtain ⟨k, rfl, hk, HNO, HA, HB⟩ := hrel
      have c0' := kept_cell HA.out (List.mem_cons_self ..)
      by_cases hlt : k < M.length
      · have d1 : decide ((k : Int) < (M.length : Int)) = true := decide_eq_true (by omega)
        have d1' : (k : Int) < (M.length : Int) := by omega
        have d2 : decide (0 ≤ (k : Int)) = true := decide_eq_true (by omega)
        have ek : wrap64 ((k : Int) + 1) = ((k + 1 : Nat) : Int) := (w64 (x := (k : Int) + 1) (by omega) (by omega)).trans (by omega)
        have hltV : k < (M.map viewF).length := by rw [List.length_map]; exact hlt
        obtain ⟨ad, rfl, l2, xs, A1q, c1q, A2q, c2q, hMk, hFR⟩ := kept_read HA.out (A := A) (n := M.length) (c := c) (M := M) (by simp) (fun T hT => by simp [hT]) hlt
        have hvk : (M.map viewF)[k] = (l2, xs) := by rw [List.getElem_map, hMk]; rfl
        have hm2 := HVM.out.2 _ (List.getElem_mem hltV)
        have hx32 := H32.out _ (List.getElem_mem hltV)
        rw [hvk] at hm2 hx32
        have HFR := Aside0.mk hFR
        have HVK := Aside0.mk hvk
        have HP2 := Aside0.mk (rprint_c hFR.C0 hFR.le0 hm2)
        have b0 := hFR.c0
        dsimp only at HP2 b0
        have HNE : Aside0 (¬ textL l2 = nm → ∀ j (h : j < M.length), j < k + 1 → textL (M[j]).ls ≠ nm) := ⟨fun hne j hj hjk => by
          by_cases hjk2 : j = k
          · subst hjk2
            rw [hMk]
            exact hne
          · exact HNO.out j hj (by omega)⟩
        obtain ⟨M1, M2, hM12, hM1⟩ := split_at M hlt
        rw [hMk] at hM12
        have HM12 : Aside0 (M = M1 ++ ⟨(A1q, l2.length, c1q), (A2q, xs.length, c2q), l2, xs⟩ :: M2 ∧ M1.length = k) := ⟨hM12, hM1⟩
        clear hFR hMk hM12 hM1 hm2 hvk
        go_wp2_with fail
        refine HP2.out.mono ?_
        rintro e w4 ⟨rfl, hb4⟩
        have HA4 := Aside0.mk (HA.out.below hb4)
        have HB4 := Aside0.mk (HB.out.trans (hb4.mono HA.out.size))
        have HFR4 := Aside0.mk (HFR.out.below hb4)
        clear hb4 HP2 HA HB HFR b0 c0'
        have c0' := kept_cell HA4.out (List.mem_cons_self ..)
        have b1 := HFR4.out.c1
        dsimp only at b1
        by_cases hs : textL l2 = nm
        · have HNO2 := Aside0.mk hs
          rw [hs]
          have HTF : Aside0 (tf M = tf M1 ++ (rowL (.slice A1q l2.length c1q) l2 :: rowS (.slice A2q xs.length c2q) xs :: tf M2)) := ⟨(congrArg tf HM12.out.1).trans (by rw [tf_app, tf_cons])⟩
          have hA5 : Has B w4.drew ((boxQ q (.slice (some ad) M.length c) :: rowG (.slice (some ad) M.length c) (M.map plF) :: boxX bx ⟨x0, x1⟩ :: (tf M1 ++ [rowL (.slice A1q l2.length c1q) l2])) ++ rowS (.slice A2q xs.length c2q) xs :: (tf M2 ++ Ts)) := by
            have this := HA4.out.drew
            rw [HTF.out] at this
            simpa [List.append_assoc] using this
          have HPU := Aside0.mk (rpush_thing (has_mid hA5) hx32 ⟨x0, x1⟩)
          obtain ⟨bc, -, -, -⟩ := HA4.out.box_cell (b := bx) (cs := #[.int .i64 x0, .int .i64 x1]) (t := 26) (by simp)
          have x0c : w4.cell? ⟨bx, 0, none⟩ = some (.int .i64 x0) := bc 0
          have x1c : w4.cell? ⟨bx, 1, none⟩ = some (.int .i64 x1) := bc 1
          dsimp only at HPU
          have HAD : Aside0 (addV (M.map viewF) ls ⟨x0, x1⟩ = (pushE xs ⟨x0, x1⟩, (M.map viewF).set k (l2, pushL xs ⟨x0, x1⟩))) := ⟨by
            have hkn : keyP (M.map viewF)[k] = keyT ls := by
              unfold keyP keyT
              rw [HVK.out, HNO2.out, HNM.out]
            rw [add_some HMY.out (find_firstP HVM.out.1 hltV hkn), map_set HVM.out.1 hltV hkn, HVK.out]⟩
          clear hA5 bc hs HNE HNO HCL H32 HFR4
          go_wp2_with fail
          refine start_ (n := 15) (S := fun w' => w'.cell? ⟨q, 0, none⟩ = some (.slice (some ad) M.length c) ∧ w'.cell? ⟨(ad.add (k * 2)).block, (ad.add (k * 2)).off + 1, none⟩ = some (.slice A2q xs.length c2q) ∧ w'.cell? ⟨bx, 0, none⟩ = some (.int .i64 x0) ∧ w'.cell? ⟨bx, 1, none⟩ = some (.int .i64 x1)) (ds := [9]) #[false, false, false, false, false, false, false, false, false, false, false, false, false, false, false] (by kernel_rfl) rfl rfl ⟨c0', b1, x0c, x1c⟩ (fun hHeld => ?_)
          refine pure_ (i := 0) (N := some 43) (v := ?_) (a' := ?_) #[true, false, false, false, false, false, false, false, false, false, false, false, false, false, false] rfl rfl (by kernel_rfl) (fun _ _ _ h => h) (Or.inl ⟨by rfl, ?_⟩) ?_ ?_
          rotate_left
          · intro w'
            go_simp
            with_reducible rfl
          rotate_left
          · simp only [Act.put, List.setIfInBounds_toArray, List.set_cons_zero, List.set_cons_succ, i64_w, i32_w]
            rfl
          refine pure_ (i := 1) (N := some 44) (v := ?_) (a' := ?_) #[true, true, false, false, false, false, false, false, false, false, false, false, false, false, false] rfl rfl (by kernel_rfl) (fun _ _ _ h => h) (Or.inl ⟨by rfl, ?_⟩) ?_ ?_
          rotate_left
          · intro w'
            go_simp
            with_reducible rfl
          rotate_left
          · simp only [Act.put, List.setIfInBounds_toArray, List.set_cons_zero, List.set_cons_succ, i64_w, i32_w]
            rfl
          refine pure_ (i := 2) (N := some 45) (v := ?_) (a' := ?_) #[true, true, true, false, false, false, false, false, false, false, false, false, false, false, false] rfl rfl (by kernel_rfl) (fun _ _ _ h => h) (Or.inl ⟨by rfl, ?_⟩) ?_ ?_
          rotate_left
          · intro w'
            go_simp
            with_reducible rfl
          rotate_left
          · simp only [Act.put, List.setIfInBounds_toArray, List.set_cons_zero, List.set_cons_succ, i64_w, i32_w]
            rfl
          refine pure_ (i := 4) (N := some 47) (v := ?_) (a' := ?_) #[true, true, true, false, true, false, false, false, false, false, false, false, false, false, false] rfl rfl (by kernel_rfl) (fun _ _ _ h => h) (Or.inl ⟨by rfl, ?_⟩) ?_ ?_
          rotate_left
          · intro w'
            go_simp
            with_reducible rfl
          rotate_left
          · simp only [Act.put, List.setIfInBounds_toArray, List.set_cons_zero, List.set_cons_succ, i64_w, i32_w]
            rfl
          refine take_ (i := 3) (N := some 46) (v := ?_) (a' := ?_) #[true, true, true, true, true, false, false, false, false, false, false, false, false, false, false] rfl rfl (by kernel_rfl) (fun _ _ _ h => h) (Or.inl ⟨by rfl, ?_⟩) hHeld ?_ ?_
          rotate_left
          · rintro w' ⟨s0, s1, s2, s3⟩
            go_simp
            with_reducible rfl
          rotate_left
          · simp only [Act.put, List.setIfInBounds_toArray, List.set_cons_zero, List.set_cons_succ, i64_w, i32_w]
            rfl
          refine pure_ (i := 5) (N := some 48) (v := ?_) (a' := ?_) #[true, true, true, true, true, true, false, false, false, false, false, false, false, false, false] rfl rfl (by kernel_rfl) (fun _ _ _ h => h) (Or.inl ⟨by rfl, ?_⟩) ?_ ?_
          rotate_left
          · intro w'
            go_simp
            with_reducible rfl
          rotate_left
          · simp only [Act.put, List.setIfInBounds_toArray, List.set_cons_zero, List.set_cons_succ, i64_w, i32_w]
            rfl
          refine pure_ (i := 6) (N := some 49) (v := ?_) (a' := ?_) #[true, true, true, true, true, true, true, false, false, false, false, false, false, false, false] rfl rfl (by kernel_rfl) (fun _ _ _ h => h) (Or.inl ⟨by rfl, ?_⟩) ?_ ?_
          rotate_left
          · intro w'
            go_simp
            with_reducible rfl
          rotate_left
          · simp only [Act.put, List.setIfInBounds_toArray, List.set_cons_zero, List.set_cons_succ, i64_w, i32_w]
            rfl
          refine take_ (i := 7) (N := some 50) (v := ?_) (a' := ?_) #[true, true, true, true, true, true, true, true, false, false, false, false, false, false, false] rfl rfl (by kernel_rfl) (fun _ _ _ h => h) (Or.inl ⟨by rfl, ?_⟩) hHeld ?_ ?_
          rotate_left
          · rintro w' ⟨s0, s1, s2, s3⟩
            go_simp
            with_reducible rfl
          rotate_left
          · simp only [Act.put, List.setIfInBounds_toArray, List.set_cons_zero, List.set_cons_succ, i64_w, i32_w]
            rfl
          refine take_ (i := 8) (N := some 51) (v := ?_) (a' := ?_) #[true, true, true, true, true, true, true, true, true, false, false, false, false, false, false] rfl rfl (by kernel_rfl) (fun _ _ _ h => h) (Or.inl ⟨by rfl, ?_⟩) hHeld ?_ ?_
          rotate_left
          · rintro w' ⟨s0, s1, s2, s3⟩
            go_simp
            with_reducible rfl
          rotate_left
          · simp only [Act.put, List.setIfInBounds_toArray, List.set_cons_zero, List.set_cons_succ, i64_w, i32_w]
            rfl
          refine last_ (i := 9) (N := some 52) #[true, true, true, true, true, true, true, true, true, true, false, false, false, false, false] rfl rfl (by kernel_rfl) (by decide) (fun K hK => ?_)
          refine goes_ Try.func36 (by kernel_rfl) rfl #[.slice A2q xs.length c2q, .agg #[.int .i64 x0, .int .i64 x1]] (by rfl) rfl rfl (by simp only [List.map_toArray, List.map_cons, List.map_nil]; rfl) ?_
          with_reducible refine (HPU.out).mono ?_
          rintro e w5 ⟨A5, c5, rfl, hA5, hB5⟩
          refine ⟨_, rfl, ?_⟩
          have HA5 := Aside0.mk hA5
          have HB5 := Aside0.mk hB5
          clear hA5 hB5
          refine hK.out _ _ ?_
          clear hK K
          refine norm_ (a' := ?_) ?_ ?_
          rotate_left
          · show Act.put _ (some 52) _ = _
            simp only [Act.put, List.setIfInBounds_toArray, List.set_cons_zero, List.set_cons_succ, i64_w, i32_w]
            rfl
          refine pure_ (i := 10) (N := some 42) (v := ?_) (a' := ?_) #[true, true, true, true, true, true, true, true, true, true, true, false, false, false, false] rfl rfl (by kernel_rfl) (fun _ _ _ h => h) (Or.inl ⟨by rfl, ?_⟩) ?_ ?_
          rotate_left
          · intro w'
            go_simp
            with_reducible rfl
          rotate_left
          · simp only [Act.put, List.setIfInBounds_toArray, List.set_cons_zero, List.set_cons_succ, i64_w, i32_w]
            rfl
          refine pure_ (i := 11) (N := some 53) (v := ?_) (a' := ?_) #[true, true, true, true, true, true, true, true, true, true, true, true, false, false, false] rfl rfl (by kernel_rfl) (fun _ _ _ h => h) (Or.inl ⟨by rfl, ?_⟩) ?_ ?_
          rotate_left
          · intro w'
            go_simp
            with_reducible rfl
          rotate_left
          · simp only [Act.put, List.setIfInBounds_toArray, List.set_cons_zero, List.set_cons_succ, i64_w, i32_w]
            rfl
          refine pure_ (i := 12) (N := some 54) (v := ?_) (a' := ?_) #[true, true, true, true, true, true, true, true, true, true, true, true, true, false, false] rfl rfl (by kernel_rfl) (fun _ _ _ h => h) (Or.inl ⟨by rfl, ?_⟩) ?_ ?_
          rotate_left
          · intro w'
            go_simp
            with_reducible rfl
          rotate_left
          · simp only [Act.put, List.setIfInBounds_toArray, List.set_cons_zero, List.set_cons_succ, i64_w, i32_w]
            rfl
          refine pure_ (i := 13) (N := some 9) (v := ?_) (a' := ?_) #[true, true, true, true, true, true, true, true, true, true, true, true, true, true, false] rfl rfl (by kernel_rfl) (fun _ _ _ h => h) (Or.inl ⟨by rfl, ?_⟩) ?_ ?_
          rotate_left
          · intro w'
            go_simp
            with_reducible rfl
          rotate_left
          · simp only [Act.put, List.setIfInBounds_toArray, List.set_cons_zero, List.set_cons_succ, i64_w, i32_w]
            rfl
          refine pure_ (i := 14) (N := some 10) (v := ?_) (a' := ?_) #[true, true, true, true, true, true, true, true, true, true, true, true, true, true, true] rfl rfl (by kernel_rfl) (fun _ _ _ h => h) (Or.inl ⟨by rfl, ?_⟩) ?_ ?_
          rotate_left
          · intro w'
            go_simp
            with_reducible rfl
          rotate_left
          · simp only [Act.put, List.setIfInBounds_toArray, List.set_cons_zero, List.set_cons_succ, i64_w, i32_w]
            rfl
          refine done_ (by kernel_rfl) ?_

          obtain ⟨ys, hys⟩ : ∃ ys, pushL xs ⟨x0, x1⟩ = ys := ⟨_, rfl⟩
          obtain ⟨ey, hey⟩ : ∃ ey, pushE xs ⟨x0, x1⟩ = ey := ⟨_, rfl⟩
          rw [hys, hey] at HAD
          rw [hys] at HA5
          rw [hys, hey]
          clear hys hey
          have hA6 := has_back (As := boxQ q (.slice (some ad) M.length c) :: rowG (.slice (some ad) M.length c) (M.map plF) :: boxX bx ⟨x0, x1⟩ :: (tf M1 ++ [rowL (.slice A1q l2.length c1q) l2])) HA5.out
          have hkM : k < (M.map plF).length := by rw [List.length_map]; exact hlt
          have hpk : (M.map plF)[k] = ((A1q, l2.length, c1q), (A2q, xs.length, c2q)) := by
            have h1 : (M.map plF)[k]? = some ((A1q, l2.length, c1q), (A2q, xs.length, c2q)) := by
              conv => lhs; rw [HM12.out.1]
              rw [List.map_append, List.map_cons, List.getElem?_append_right (by rw [List.length_map, HM12.out.2]; exact Nat.le_refl _), List.length_map, HM12.out.2, Nat.sub_self]
              rfl
            rw [List.getElem?_eq_getElem hkM] at h1
            injection h1
          obtain ⟨hA7, hB7, hf7⟩ := row_field (As := [boxQ q (.slice (some ad) M.length c)]) (Bs := boxX bx ⟨x0, x1⟩ :: (tf M1 ++ [rowL (.slice A1q l2.length c1q) l2]) ++ rowS (.slice A5 ys.length c5) ys :: (tf M2 ++ Ts)) (d := kF) (e := 78) (l := M.map plF) (by simpa [List.append_assoc] using hA6) k hkM (cs := cellsF ((A1q, l2.length, c1q), (A2q, xs.length, c2q))) (fun cs' hcs => by rw [hpk] at hcs; exact kF_open hcs) (j := 1) (by omega) (by show 2 ≤ 2; omega) (u := .slice A5 ys.length c5) (x' := ((A1q, l2.length, c1q), (A5, ys.length, c5))) (show kF.M _ _ _ _ (cellsF ((A1q, l2.length, c1q), (A5, ys.length, c5))) from kF_KM _ _ (kF_mk w5 _))
          have hA7 : Has B (w5.setCell ⟨(ad.add (k * 2)).block, (ad.add (k * 2)).off + 1, none⟩ (.slice A5 ys.length c5)) ([boxQ q (.slice (some ad) M.length c)] ++ rowG (.slice (some ad) M.length c) ((M.map plF).set k ((A1q, l2.length, c1q), (A5, ys.length, c5))) :: (boxX bx ⟨x0, x1⟩ :: (tf M1 ++ [rowL (.slice A1q l2.length c1q) l2]) ++ rowS (.slice A5 ys.length c5) ys :: (tf M2 ++ Ts))) := hA7
          have hB7 : Below B w5 (w5.setCell ⟨(ad.add (k * 2)).block, (ad.add (k * 2)).off + 1, none⟩ (.slice A5 ys.length c5)) := hB7
          have c0'' := kept_cell (q := q) (v := .slice (some ad) M.length c) hA6 (by simp)
          obtain ⟨ad3, ead3, hq0, hq1⟩ := at_F (row_reads hA6 (d := kF) (e := 78) (A := some ad) (n := M.length) (c := c) (xs := M.map plF) (by simp)).2.2 k hkM
          injection ead3 with ead3
          subst ead3
          rw [← add_field _ _ 1 (by omega), hpk] at hq1
          have hfz : w5.frozen? ⟨(ad.add (k * 2)).block, (ad.add (k * 2)).off + 1, none⟩ = false := hf7 _
          have hA8 : Has B (w5.setCell ⟨(ad.add (k * 2)).block, (ad.add (k * 2)).off + 1, none⟩ (.slice A5 ys.length c5)) (boxQ q (.slice (some ad) M.length c) :: rowG (.slice (some ad) M.length c) ((M.map plF).set k ((A1q, l2.length, c1q), (A5, ys.length, c5))) :: boxX bx ⟨x0, x1⟩ :: (tf M1 ++ (rowL (.slice A1q l2.length c1q) l2 :: rowS (.slice A5 ys.length c5) ys :: tf M2) ++ Ts)) := by simpa [List.append_assoc] using hA7
          have hA9 := (has_mid (As := [_, _]) hA8).tail
          have eM : (M.map plF).set k ((A1q, l2.length, c1q), (A5, ys.length, c5)) = (M1 ++ ⟨(A1q, l2.length, c1q), (A5, ys.length, c5), l2, ys⟩ :: M2).map plF := by
            have e1 : M.map plF = M1.map plF ++ ((A1q, l2.length, c1q), (A2q, xs.length, c2q)) :: M2.map plF := by
              conv => lhs; rw [HM12.out.1]
              rw [List.map_append, List.map_cons]
              rfl
            rw [e1, ← HM12.out.2, ← List.length_map (f := plF), set_mid, List.map_append, List.map_cons]
            rfl
          have eV : (M.map viewF).set k (l2, ys) = (M1 ++ ⟨(A1q, l2.length, c1q), (A5, ys.length, c5), l2, ys⟩ :: M2).map viewF := by
            have e1 : M.map viewF = M1.map viewF ++ (l2, xs) :: M2.map viewF := by
              conv => lhs; rw [HM12.out.1]
              rw [List.map_append, List.map_cons]
              rfl
            rw [e1, ← HM12.out.2, ← List.length_map (f := viewF), set_mid, List.map_append, List.map_cons]
            rfl
          have eL : M.length = (M1 ++ (⟨(A1q, l2.length, c1q), (A5, ys.length, c5), l2, ys⟩ : FE) :: M2).length := by
            have := congrArg List.length HM12.out.1
            rw [this, List.length_append, List.length_append]
            rfl
          have hA10 : Has B (w5.setCell ⟨(ad.add (k * 2)).block, (ad.add (k * 2)).off + 1, none⟩ (.slice A5 ys.length c5)) (refT q ((M1 ++ ⟨(A1q, l2.length, c1q), (A5, ys.length, c5), l2, ys⟩ :: M2).map viewF) :: Ts) := ref_shut (A := some ad) (c := c) (by
            rw [← eL, ← eM, tf_app, tf_cons]
            exact hA9)
          rw [← eV] at hA10
          have HA10 := Aside0.mk hA10
          have HB10 := Aside0.mk ((bl_drew HB4.out).trans (HB5.out.trans hB7))
          clear hA6 hkM hpk hA7 hB7 hf7 hA8 hA9 hA10 eM eV eL hq0 c0' b1 x0c x1c HA4 HA5 HB4 HB5 HPU
          go_wp2_with fail
          go_ret
          rw [HAD.out]
          exact ⟨rfl, HA10.out, HB10.out⟩
        · have d3 : ((textL l2).toList == nm.toList) = false := by
            rw [ByteArray.toList_eq, ByteArray.toList_eq]
            exact beq_eq_false_iff_ne.2 fun e => hs (ByteArray.ext (Array.ext' e))
          have HN2 := Aside0.mk (HNE.out hs)
          generalize textL l2 = t2 at d3
          clear hs HNE b1
          go_wp2_with fail
          go_roundw
          case rel => exact ⟨k + 1, by first | rfl | rw [ek], by omega, HN2, HA4, HB4⟩
          case measure => first | (simp [intOf]; omega) | (rw [ek]; simp [intOf]; omega)
      · obtain rfl : k = M.length := by omega
        have d1 : decide ((M.length : Int) < (M.length : Int)) = false := decide_eq_false (by omega)
        have HNF : Aside0 (findF keyP (M.map viewF) (keyT ls) = none) := ⟨find_none.2 fun v hv e => by
          obtain ⟨y, hy, rfl⟩ := List.mem_map.1 hv
          obtain ⟨j, hj, rfl⟩ := List.getElem_of_mem hy
          refine HNO.out j hj hj ?_
          rw [← HNM.out]
          exact ByteArray.ext (Array.ext' e)⟩
        obtain ⟨bc, -, -, -⟩ := HA.out.box_cell (b := bx) (cs := #[.int .i64 x0, .int .i64 x1]) (t := 26) (by simp)
        have x0c : wr.cell? ⟨bx, 0, none⟩ = some (.int .i64 x0) := bc 0
        have x1c : wr.cell? ⟨bx, 1, none⟩ = some (.int .i64 x1) := bc 1
        have HPU := Aside0.mk (rpush_thing (row_nil kS HA.out 26) (Nat.zero_le _) ⟨x0, x1⟩)
        dsimp only at HPU
        clear bc HNO hlt H32
        go_wp2_with fail
        refine HPU.out.mono ?_
        rintro e w5 ⟨A5, c5, rfl, hA5, hB5⟩
        have HA5 := Aside0.mk hA5
        have HB5 := Aside0.mk (HB.out.trans hB5)
        clear hA5 hB5 HPU HA HB x0c x1c c0'
        by_cases hpe : pushE [] ⟨x0, x1⟩ = 0
        · have hpl : pushL [] ⟨x0, x1⟩ = [⟨x0, x1⟩] := by unfold pushL; rw [if_pos hpe]; rfl
          rw [hpl] at HA5
          rw [hpl, hpe]
          have HPE := Aside0.mk hpe
          clear hpe hpl
          have c0' := kept_cell (q := q) (v := .slice A M.length c) HA5.out (by simp)
          by_cases h8 : 8 ≤ M.length
          · have d8 : decide ((M.length : Int) ≥ 8) = true := decide_eq_true (by omega)
            have HAD : Aside0 (addV (M.map viewF) ls ⟨x0, x1⟩ = (170, M.map viewF)) := ⟨by
              rw [add_new HMY.out HNF.out, if_neg (fun q => q HPE.out), if_pos (by rw [List.length_map]; exact h8)]⟩
            go_wp2_with fail
            go_ret
            rw [HAD.out]
            exact ⟨rfl, ref_shut (has_mid (As := [_, _]) HA5.out.tail).tail, HB5.out⟩
          · have d8 : decide ((M.length : Int) ≥ 8) = false := decide_eq_false (by omega)
            have d8' : ¬ (8 : Int) ≤ (M.length : Int) := by omega
            have HAD : Aside0 (addV (M.map viewF) ls ⟨x0, x1⟩ = (0, insF keyP (M.map viewF) (ls, [⟨x0, x1⟩]))) := ⟨by
              rw [add_new HMY.out HNF.out, if_neg (fun q => q HPE.out), if_neg (by rw [List.length_map]; exact h8)]
              unfold setF
              rw [show keyP (ls, [(⟨x0, x1⟩ : SM)]) = keyT ls from rfl, cut_noneP HNF.out]⟩
            have HA6 := Aside0.mk (lit_0 kL HA5.out 31)
            have HB6 : Aside0 (Below B w (w5.alloc (.cells #[] 31))) := ⟨HB5.out.alloc HA5.out.size _⟩
            have HC6 := Aside0.mk (HCL.out (w5.alloc (.cells #[] 31)) (has_drop (As := tf M) HA6.out.tail.tail.tail.tail.tail) HB6.out)
            have hlsl := (Pure.good_small HMY.out).1
            clear HA5 HB5 HNF HCL HPE
            go_wp2_with (refine rows_app kL HA6.out rfl _ _ 32 (.agg #[.string ⟨#[]⟩, .string ⟨#[]⟩]) 32 rfl Try.underlying32 infL rfl (by decide) (by decide) A0 c0 rfl rfl HC6.out (fun x cs hx => kL_KM x cs hx) (by show (0 + ls.length) * 32 ≤ 140737488355328; omega) ?_; rintro v7 w7 hA7 hB7; have hA7 : Has B w7 (rowL v7 ls :: _) := hA7; obtain ⟨A7, c7, rfl, -, -⟩ := hA7.reads (d := kL) (e := 31) (v := v7) (xs := ls) (List.mem_cons_self ..); have HA7 := Aside0.mk hA7; have HB7 := Aside0.mk (HB6.out.trans hB7); clear hA7 hB7 HA6 HB6 HC6)
            obtain ⟨f, hf⟩ : ∃ f : FE, f = (⟨(A7, ls.length, c7), (A5, 1, c5), ls, [⟨x0, x1⟩]⟩ : FE) := ⟨_, rfl⟩
            have hA8 := HA7.out.box #[.slice A7 ls.length c7, .slice A5 1 c5] 78
            have hA9 : Has B (w7.alloc (.cells #[.slice A7 ls.length c7, .slice A5 1 c5] 78)) (boxQ q (.slice A M.length c) :: rowG (.slice A M.length c) (M.map plF) :: boxT w7.heap.size #[.slice A7 ls.length c7, .slice A5 1 c5] 78 :: (rowL (.slice A7 ls.length c7) ls :: rowS (.slice A5 1 c5) [⟨x0, x1⟩] :: (tf M ++ Ts))) := by
              have h1 := has_mid (As := [_, _, _, _, _]) hA8
              have h2 := h1.tail
              have h3 := has_mid (As := [_, _, _]) h2
              have h4 := has_mid (As := [_, _, _, _]) h3
              exact h4.swap
            have HAx := Aside0.mk (has_back (As := [_, _]) (row_nil kF hA9 78))
            have HBx : Aside0 (Below B w (w7.alloc (.cells #[.slice A7 ls.length c7, .slice A5 1 c5] 78))) := ⟨HB7.out.alloc HA7.out.size _⟩
            generalize hbo : w7.heap.size = bo at HAx
            clear hA8 hA9 HA7 HB7 c0' d1 d8
            try rw [hbo]
            generalize w7.alloc (.cells #[.slice A7 ls.length c7, .slice A5 1 c5] 78) = w8 at HAx HBx ⊢
            clear hbo
            have HF := Aside0.mk hf
            go_loopw [16, 14, 15] (fun i o d wr => ∃ (k : Nat) (A9 : Option Addr) (c9 : Nat) (N : List FE) (dn : Bool), i = .int .i64 k ∧ o = .slice A9 N.length c9 ∧ d = .bool dn ∧ k ≤ M.length ∧ N.length ≤ k + 1 ∧ Aside0 (InsAt dn N (M.take k) f) ∧ Aside0 (Has B wr (boxQ q (.slice A M.length c) :: rowG (.slice A M.length c) (M.map plF) :: rowG (.slice A9 N.length c9) (N.map plF) :: boxT bo #[.slice A7 ls.length c7, .slice A5 1 c5] 78 :: (rowL (.slice A7 ls.length c7) ls :: rowS (.slice A5 1 c5) [⟨x0, x1⟩] :: (tf M ++ Ts)))) ∧ Aside0 (Below B w wr)) (fun i _ _ _ => M.length - (intOf i).toNat)
            case atStart => exact ⟨0, none, 0, [], false, rfl, rfl, rfl, by omega, Nat.zero_le _, ⟨⟨fun h => Bool.noConfusion h, fun _ => ⟨rfl, fun z hz => absurd hz List.not_mem_nil⟩⟩⟩, HAx, HBx⟩
            case round =>
              clear HAx HBx hf
              obtain ⟨k, A9, c9, N, dn, rfl, rfl, rfl, hk2, hN, HD, HA, HB⟩ := hrel
              have c0' := kept_cell (q := q) (v := .slice A M.length c) HA.out (by simp)
              by_cases hlt : k < M.length
              · have d1 : decide ((k : Int) < (M.length : Int)) = true := decide_eq_true (by omega)
                have d1' : (k : Int) < (M.length : Int) := by omega
                have d2 : decide (0 ≤ (k : Int)) = true := decide_eq_true (by omega)
                have ek : wrap64 ((k : Int) + 1) = ((k + 1 : Nat) : Int) := (w64 (x := (k : Int) + 1) (by omega) (by omega)).trans (by omega)
                have hltV : k < (M.map viewF).length := by rw [List.length_map]; exact hlt
                obtain ⟨ad, rfl, l2, xs, A1q, c1q, A2q, c2q, hMk, hFR⟩ := kept_read HA.out (A := A) (n := M.length) (c := c) (M := M) (by simp) (fun T hT => by simp [hT]) hlt
                have hTK : M.take (k + 1) = M.take k ++ [M[k]] := List.take_succ_eq_append_getElem hlt
                have hvk : (M.map viewF)[k] = (l2, xs) := by rw [List.getElem_map, hMk]; rfl
                have hm2 := HVM.out.2 _ (List.getElem_mem hltV)
                rw [hvk] at hm2
                rw [hMk] at hTK
                have HTK := Aside0.mk hTK
                have HFR := Aside0.mk hFR
                have HMK := Aside0.mk hMk
                have HP2 := Aside0.mk (rprint_c hFR.C0 hFR.le0 hm2)
                have b0 := hFR.c0
                have b1 := hFR.c1
                dsimp only at HP2 b0 b1
                clear hFR hm2 hvk hMk hTK
                cases dn with
                | true =>
                  have hd := HD.out.1 rfl
                  have HD2 : Aside0 (InsAt true (N ++ [(⟨(A1q, l2.length, c1q), (A2q, xs.length, c2q), l2, xs⟩ : FE)]) (M.take (k + 1)) f) := ⟨fun _ => by
                    rw [HTK.out, insFE_snoc1 _ _ hd.2, ← hd.1]
                    obtain ⟨z, hz, hzk⟩ := hd.2
                    exact ⟨rfl, z, List.mem_append_left _ hz, hzk⟩, fun h => Bool.noConfusion h⟩
                  have HBa1 : Aside0 (Below B w (wr.alloc (.cells #[.slice A1q l2.length c1q, .slice A2q xs.length c2q] 78))) := ⟨HB.out.alloc HA.out.size _⟩
                  have HCa1 : Aside0 (Kd.C kF (wr.alloc (.cells #[.slice A1q l2.length c1q, .slice A2q xs.length c2q] 78)) (some ⟨wr.heap.size, 0, none⟩) 1 [((A1q, l2.length, c1q), (A2q, xs.length, c2q))]) := ⟨lit_G wr ((A1q, l2.length, c1q), (A2q, xs.length, c2q))⟩
                  have HAa1 := Aside0.mk (has_mid (As := [_, _]) (HA.out.alloc (.cells #[.slice A1q l2.length c1q, .slice A2q xs.length c2q] 78)))
                  clear hd HP2 HA HB
                  go_wp2_with (refine rows_app kF HAa1.out rfl _ _ 42 (.agg #[.slice none 0 0, .slice none 0 0]) 48 rfl Try.underlying42 infG rfl (by decide) (by decide) (some ⟨wr.heap.size, 0, none⟩) 1 rfl rfl HCa1.out (fun x cs hx => kF_KM x cs hx) (by rw [List.length_map]; show (_ + 1) * 48 ≤ 140737488355328; omega) ?_; rintro va1 wa1 hAa hBa; obtain ⟨Aa1, ca1, rfl, -, -⟩ := hAa.reads (d := kF) (e := 78) (v := va1) (xs := N.map plF ++ [((A1q, l2.length, c1q), (A2q, xs.length, c2q))]) (List.mem_cons_self ..); have HAb1 := Aside0.mk (has_back (As := [_, _]) hAa); have HBb1 := Aside0.mk (HBa1.out.trans hBa); clear hAa hBa)
                  have HAc1 : Aside0 (Has B wa1 (boxQ q (.slice (some ad) M.length c) :: rowG (.slice (some ad) M.length c) (M.map plF) :: rowG (.slice Aa1 (N ++ [(⟨(A1q, l2.length, c1q), (A2q, xs.length, c2q), l2, xs⟩ : FE)]).length ca1) ((N ++ [(⟨(A1q, l2.length, c1q), (A2q, xs.length, c2q), l2, xs⟩ : FE)]).map plF) :: boxT bo #[.slice A7 ls.length c7, .slice A5 1 c5] 78 :: (rowL (.slice A7 ls.length c7) ls :: rowS (.slice A5 1 c5) [⟨x0, x1⟩] :: (tf M ++ Ts)))) := ⟨by
                    have h1 := HAb1.out
                    rw [show (N.map plF ++ [((A1q, l2.length, c1q), (A2q, xs.length, c2q))]).length = (N ++ [(⟨(A1q, l2.length, c1q), (A2q, xs.length, c2q), l2, xs⟩ : FE)]).length from by rw [List.length_append, List.length_append, List.length_map]; rfl] at h1
                    rw [List.map_append]
                    exact h1⟩
                  clear HAb1 HAa1 HBa1 HCa1
                  have HLa1 : Aside0 ((N ++ [(⟨(A1q, l2.length, c1q), (A2q, xs.length, c2q), l2, xs⟩ : FE)]).length = N.length + 1) := ⟨by rw [List.length_append]; rfl⟩
                  go_roundw
                  case rel => exact ⟨k + 1, Aa1, ca1, N ++ [(⟨(A1q, l2.length, c1q), (A2q, xs.length, c2q), l2, xs⟩ : FE)], true, by first | rfl | rw [ek], by first | rfl | (simp only [List.length_append, List.length_map, List.length_cons, List.length_nil]) | rw [HLa1.out], rfl, by omega, by first | (rw [HLa1.out]; omega) | (simp only [List.length_append, List.length_cons, List.length_nil]; omega), HD2, HAc1, HBb1⟩
                  case measure => first | (simp [intOf]; omega) | (rw [ek]; simp [intOf]; omega)
                | false =>
                  have HDD := Aside0.mk (HD.out.2 rfl)
                  go_wp2_with fail
                  refine HP2.out.mono ?_
                  rintro e wp ⟨rfl, hbp⟩
                  have HAp := Aside0.mk (HA.out.below hbp)
                  have HBp := Aside0.mk (HB.out.trans (hbp.mono HA.out.size))
                  have c0' := kept_cell (q := q) (v := .slice (some ad) M.length c) HAp.out (by simp)
                  have b0 := (HFR.out.below hbp).c0
                  have b1 := (HFR.out.below hbp).c1
                  dsimp only at b0 b1
                  clear hbp HP2 HA HB HFR
                  have hkey : Op.bytesLess nm.toList (textL l2).toList = decide (keyFE f < keyFE (⟨(A1q, l2.length, c1q), (A2q, xs.length, c2q), l2, xs⟩ : FE)) := by
                    rw [Go.Proofs.bytesLess_eq, ByteArray.toList_eq, ByteArray.toList_eq, ← HNM.out, HF.out]
                    rfl
                  have hd := HDD.out
                  by_cases hb : keyFE f < keyFE (⟨(A1q, l2.length, c1q), (A2q, xs.length, c2q), l2, xs⟩ : FE)
                  · rw [decide_eq_true hb] at hkey
                    generalize textL l2 = t2 at hkey
                    have hgt : ∀ w : World, (binOp .gtr 9 (.string t2) (.string nm)).run Try.prog w = .ok (.bool true) w := fun w => by rw [Go.Proofs.Ytlhlaadnifkdhaa.Opn.str_gtr, hkey]; rfl
                    have HD2 : Aside0 (InsAt true ((N ++ [f]) ++ [(⟨(A1q, l2.length, c1q), (A2q, xs.length, c2q), l2, xs⟩ : FE)]) (M.take (k + 1)) f) := ⟨fun _ => by
                      rw [HTK.out, insFE_none f hd.2, ← hd.1, List.append_assoc]
                      refine ⟨?_, _, List.mem_append_right _ (List.mem_singleton.2 rfl), hb⟩
                      unfold insF
                      rw [if_pos hb]
                      rfl, fun h => Bool.noConfusion h⟩
                    obtain ⟨bc, -, -, -⟩ := HAp.out.box_cell (b := bo) (cs := #[.slice A7 ls.length c7, .slice A5 1 c5]) (t := 78) (by simp)
                    have f0 : wp.cell? ⟨bo, 0, none⟩ = some (.slice A7 ls.length c7) := bc 0
                    have f1 : wp.cell? ⟨bo, 1, none⟩ = some (.slice A5 1 c5) := bc 1
                    have HBa2 : Aside0 (Below B w (wp.alloc (.cells #[.slice A7 ls.length c7, .slice A5 1 c5] 78))) := ⟨HBp.out.alloc HAp.out.size _⟩
                    have HCa2 : Aside0 (Kd.C kF (wp.alloc (.cells #[.slice A7 ls.length c7, .slice A5 1 c5] 78)) (some ⟨wp.heap.size, 0, none⟩) 1 [((A7, ls.length, c7), (A5, 1, c5))]) := ⟨lit_G wp ((A7, ls.length, c7), (A5, 1, c5))⟩
                    have HAa2 := Aside0.mk (has_mid (As := [_, _]) (HAp.out.alloc (.cells #[.slice A7 ls.length c7, .slice A5 1 c5] 78)))
                    have HKR : Aside0 (∀ w', Has B w' (boxQ q (.slice (some ad) M.length c) :: rowG (.slice (some ad) M.length c) (M.map plF) :: (tf M ++ Ts)) → w'.cell? ⟨q, 0, none⟩ = some (.slice (some ad) M.length c) ∧ w'.cell? (ad.add (k * 2)) = some (.slice A1q l2.length c1q) ∧ w'.cell? ⟨(ad.add (k * 2)).block, (ad.add (k * 2)).off + 1, none⟩ = some (.slice A2q xs.length c2q)) := ⟨fun w' hw => by
                      obtain ⟨ad3, e3, ls3, xs3, A13, c13, A23, c23, hM3, hF3⟩ := kept_read hw (A := some ad) (n := M.length) (c := c) (M := M) (by simp) (fun T hT => by simp [hT]) hlt
                      injection e3 with e3
                      subst e3
                      rw [HMK.out] at hM3
                      injection hM3 with m1 m2 m3 m4
                      injection m1 with m1 m1'
                      injection m1' with _ m1'
                      injection m2 with m2 m2'
                      injection m2' with _ m2'
                      subst m1; subst m1'; subst m2; subst m2'; subst m3; subst m4
                      exact ⟨kept_cell hw (List.mem_cons_self ..), hF3.c0, hF3.c1⟩⟩
                    have HNL : Aside0 (N.length = (M.take k).length) := ⟨congrArg List.length hd.1⟩
                    clear hd hb hkey bc HAp HBp
                    go_wp2_with (first | (refine rows_app kF HAa3.out rfl _ _ 42 (.agg #[.slice none 0 0, .slice none 0 0]) 48 rfl Try.underlying42 infG rfl (by decide) (by decide) (some ⟨wa2.heap.size, 0, none⟩) 1 rfl rfl HCa3.out (fun x cs hx => kF_KM x cs hx) (by rw [List.length_append, List.length_map]; show (N.length + 1 + 1) * 48 ≤ 140737488355328; omega) ?_; rintro va3 wa3 hAa hBa; obtain ⟨Aa3, ca3, rfl, -, -⟩ := hAa.reads (d := kF) (e := 78) (v := va3) (xs := (N.map plF ++ [((A7, ls.length, c7), (A5, 1, c5))]) ++ [((A1q, l2.length, c1q), (A2q, xs.length, c2q))]) (List.mem_cons_self ..); have HAb3 := Aside0.mk (has_back (As := [_, _]) hAa); have HBb3 := Aside0.mk (HBa3.out.trans hBa); clear hAa hBa) | (refine rows_app kF HAa2.out rfl _ _ 42 (.agg #[.slice none 0 0, .slice none 0 0]) 48 rfl Try.underlying42 infG rfl (by decide) (by decide) (some ⟨wp.heap.size, 0, none⟩) 1 rfl rfl HCa2.out (fun x cs hx => kF_KM x cs hx) (by rw [List.length_map]; show (_ + 1) * 48 ≤ 140737488355328; omega) ?_; rintro va2 wa2 hAa hBa; obtain ⟨Aa2, ca2, rfl, -, -⟩ := hAa.reads (d := kF) (e := 78) (v := va2) (xs := N.map plF ++ [((A7, ls.length, c7), (A5, 1, c5))]) (List.mem_cons_self ..); have HAb2 := Aside0.mk (has_back (As := [_, _]) hAa); have HBb2 := Aside0.mk (HBa2.out.trans hBa); clear hAa hBa; have HAc2 : Aside0 (Has B wa2 (boxQ q (.slice (some ad) M.length c) :: rowG (.slice (some ad) M.length c) (M.map plF) :: rowG (.slice Aa2 (N.length + 1) ca2) (N.map plF ++ [((A7, ls.length, c7), (A5, 1, c5))]) :: boxT bo #[.slice A7 ls.length c7, .slice A5 1 c5] 78 :: (rowL (.slice A7 ls.length c7) ls :: rowS (.slice A5 1 c5) [⟨x0, x1⟩] :: (tf M ++ Ts)))) := ⟨by have h1 := HAb2.out; rw [show (N.map plF ++ [(((A7, ls.length, c7), (A5, 1, c5)) : FH)]).length = N.length + 1 from by rw [List.length_append, List.length_map]; rfl] at h1; exact h1⟩; have hkr := HKR.out wa2 (has_sub HAc2.out (List.Sublist.cons_cons _ (List.Sublist.cons_cons _ (List.Sublist.cons _ (List.Sublist.cons _ (List.Sublist.cons _ (List.Sublist.cons _ (List.Sublist.refl _)))))))); obtain ⟨c0k, b0k, b1k⟩ := hkr; have HBa3 : Aside0 (Below B w (wa2.alloc (.cells #[.slice A1q l2.length c1q, .slice A2q xs.length c2q] 78))) := ⟨HBb2.out.alloc HAc2.out.size _⟩; have HCa3 : Aside0 (Kd.C kF (wa2.alloc (.cells #[.slice A1q l2.length c1q, .slice A2q xs.length c2q] 78)) (some ⟨wa2.heap.size, 0, none⟩) 1 [((A1q, l2.length, c1q), (A2q, xs.length, c2q))]) := ⟨lit_G wa2 ((A1q, l2.length, c1q), (A2q, xs.length, c2q))⟩; have HAa3 := Aside0.mk (has_mid (As := [_, _]) (HAc2.out.alloc (.cells #[.slice A1q l2.length c1q, .slice A2q xs.length c2q] 78))); clear HAb2 HAa2 HCa2 HAc2))
                    have HAc3 : Aside0 (Has B wa3 (boxQ q (.slice (some ad) M.length c) :: rowG (.slice (some ad) M.length c) (M.map plF) :: rowG (.slice Aa3 ((N ++ [f]) ++ [(⟨(A1q, l2.length, c1q), (A2q, xs.length, c2q), l2, xs⟩ : FE)]).length ca3) (((N ++ [f]) ++ [(⟨(A1q, l2.length, c1q), (A2q, xs.length, c2q), l2, xs⟩ : FE)]).map plF) :: boxT bo #[.slice A7 ls.length c7, .slice A5 1 c5] 78 :: (rowL (.slice A7 ls.length c7) ls :: rowS (.slice A5 1 c5) [⟨x0, x1⟩] :: (tf M ++ Ts)))) := ⟨by
                      have h1 := HAb3.out
                      rw [show ((N.map plF ++ [(((A7, ls.length, c7), (A5, 1, c5)) : FH)]) ++ [((A1q, l2.length, c1q), (A2q, xs.length, c2q))]).length = ((N ++ [f]) ++ [(⟨(A1q, l2.length, c1q), (A2q, xs.length, c2q), l2, xs⟩ : FE)]).length from by simp] at h1
                      rw [show ((N ++ [f]) ++ [(⟨(A1q, l2.length, c1q), (A2q, xs.length, c2q), l2, xs⟩ : FE)]).map plF = (N.map plF ++ [(((A7, ls.length, c7), (A5, 1, c5)) : FH)]) ++ [((A1q, l2.length, c1q), (A2q, xs.length, c2q))] from by rw [List.map_append, List.map_append, HF.out]; rfl]
                      exact h1⟩
                    have HLb : Aside0 (((N ++ [f]) ++ [(⟨(A1q, l2.length, c1q), (A2q, xs.length, c2q), l2, xs⟩ : FE)]).length = N.length + 1 + 1) := ⟨by simp⟩
                    clear HAb3 HAa3 HBa3 HCa3 HKR
                    go_roundw
                    case rel => exact ⟨k + 1, Aa3, ca3, (N ++ [f]) ++ [(⟨(A1q, l2.length, c1q), (A2q, xs.length, c2q), l2, xs⟩ : FE)], true, by first | rfl | rw [ek], by first | rfl | (simp only [List.length_append, List.length_map, List.length_cons, List.length_nil]) | rw [HLb.out], rfl, by omega, by rw [HLb.out, HNL.out, List.length_take]; omega, HD2, HAc3, HBb3⟩
                    case measure => first | (simp [intOf]; omega) | (rw [ek]; simp [intOf]; omega)
                  · rw [decide_eq_false hb] at hkey
                    generalize textL l2 = t2 at hkey
                    have hgt : ∀ w : World, (binOp .gtr 9 (.string t2) (.string nm)).run Try.prog w = .ok (.bool false) w := fun w => by rw [Go.Proofs.Ytlhlaadnifkdhaa.Opn.str_gtr, hkey]; rfl
                    have HD2 : Aside0 (InsAt false (N ++ [(⟨(A1q, l2.length, c1q), (A2q, xs.length, c2q), l2, xs⟩ : FE)]) (M.take (k + 1)) f) := ⟨fun h => Bool.noConfusion h, fun _ => by
                      rw [HTK.out, ← hd.1]
                      refine ⟨rfl, fun z hz => ?_⟩
                      rcases List.mem_append.1 hz with hz | hz
                      · rw [hd.1] at hz
                        exact hd.2 z hz
                      · rw [List.mem_singleton.1 hz]
                        exact hb⟩
                    have HBa4 : Aside0 (Below B w (wp.alloc (.cells #[.slice A1q l2.length c1q, .slice A2q xs.length c2q] 78))) := ⟨HBp.out.alloc HAp.out.size _⟩
                    have HCa4 : Aside0 (Kd.C kF (wp.alloc (.cells #[.slice A1q l2.length c1q, .slice A2q xs.length c2q] 78)) (some ⟨wp.heap.size, 0, none⟩) 1 [((A1q, l2.length, c1q), (A2q, xs.length, c2q))]) := ⟨lit_G wp ((A1q, l2.length, c1q), (A2q, xs.length, c2q))⟩
                    have HAa4 := Aside0.mk (has_mid (As := [_, _]) (HAp.out.alloc (.cells #[.slice A1q l2.length c1q, .slice A2q xs.length c2q] 78)))
                    clear hd hb hkey HAp HBp
                    go_wp2_with (refine rows_app kF HAa4.out rfl _ _ 42 (.agg #[.slice none 0 0, .slice none 0 0]) 48 rfl Try.underlying42 infG rfl (by decide) (by decide) (some ⟨wp.heap.size, 0, none⟩) 1 rfl rfl HCa4.out (fun x cs hx => kF_KM x cs hx) (by rw [List.length_map]; show (_ + 1) * 48 ≤ 140737488355328; omega) ?_; rintro va4 wa4 hAa hBa; obtain ⟨Aa4, ca4, rfl, -, -⟩ := hAa.reads (d := kF) (e := 78) (v := va4) (xs := N.map plF ++ [((A1q, l2.length, c1q), (A2q, xs.length, c2q))]) (List.mem_cons_self ..); have HAb4 := Aside0.mk (has_back (As := [_, _]) hAa); have HBb4 := Aside0.mk (HBa4.out.trans hBa); clear hAa hBa)
                    have HAc4 : Aside0 (Has B wa4 (boxQ q (.slice (some ad) M.length c) :: rowG (.slice (some ad) M.length c) (M.map plF) :: rowG (.slice Aa4 (N ++ [(⟨(A1q, l2.length, c1q), (A2q, xs.length, c2q), l2, xs⟩ : FE)]).length ca4) ((N ++ [(⟨(A1q, l2.length, c1q), (A2q, xs.length, c2q), l2, xs⟩ : FE)]).map plF) :: boxT bo #[.slice A7 ls.length c7, .slice A5 1 c5] 78 :: (rowL (.slice A7 ls.length c7) ls :: rowS (.slice A5 1 c5) [⟨x0, x1⟩] :: (tf M ++ Ts)))) := ⟨by
                      have h1 := HAb4.out
                      rw [show (N.map plF ++ [((A1q, l2.length, c1q), (A2q, xs.length, c2q))]).length = (N ++ [(⟨(A1q, l2.length, c1q), (A2q, xs.length, c2q), l2, xs⟩ : FE)]).length from by rw [List.length_append, List.length_append, List.length_map]; rfl] at h1
                      rw [List.map_append]
                      exact h1⟩
                    clear HAb4 HAa4 HBa4 HCa4
                    have HLa4 : Aside0 ((N ++ [(⟨(A1q, l2.length, c1q), (A2q, xs.length, c2q), l2, xs⟩ : FE)]).length = N.length + 1) := ⟨by rw [List.length_append]; rfl⟩
                    go_roundw
                    case rel => exact ⟨k + 1, Aa4, ca4, N ++ [(⟨(A1q, l2.length, c1q), (A2q, xs.length, c2q), l2, xs⟩ : FE)], false, by first | rfl | rw [ek], by first | rfl | (simp only [List.length_append, List.length_map, List.length_cons, List.length_nil]) | rw [HLa4.out], rfl, by omega, by first | (rw [HLa4.out]; omega) | (simp only [List.length_append, List.length_cons, List.length_nil]; omega), HD2, HAc4, HBb4⟩
                    case measure => first | (simp [intOf]; omega) | (rw [ek]; simp [intOf]; omega)
              · obtain rfl : k = M.length := by omega
                have d1 : decide ((M.length : Int) < (M.length : Int)) = false := decide_eq_false (by omega)
                rw [List.take_length] at HD
                cases dn with
                | true =>
                  have hd := HD.out.1 rfl
                  have HN := Aside0.mk hd.1
                  obtain ⟨hA2, hB2⟩ := HA.out.box_set 0 (.slice A9 N.length c9)
                  obtain ⟨-, bf, -, -⟩ := HA.out.box_cell (b := q) (cs := #[.slice A M.length c]) (t := 44) (by simp)
                  have f0 := bf 0
                  have HA3 := Aside0.mk (radd_end (A9 := A9) (c9 := c9) (N := N) hA2 HF.out HN.out)
                  have HB3 := Aside0.mk (HB.out.trans hB2)
                  clear hd hA2 hB2 bf HA HB
                  go_wp2_with fail
                  go_ret
                  rw [HAD.out]
                  exact ⟨rfl, HA3.out, HB3.out⟩
                | false =>
                  have hd := HD.out.2 rfl
                  have HN : Aside0 (N ++ [f] = insF keyFE M f) := ⟨by have e := insFE_none f hd.2 []; rw [List.append_nil] at e; rw [e, hd.1]; rfl⟩
                  obtain ⟨bc, -, -, -⟩ := HA.out.box_cell (b := bo) (cs := #[.slice A7 ls.length c7, .slice A5 1 c5]) (t := 78) (by simp)
                  have f0 : wr.cell? ⟨bo, 0, none⟩ = some (.slice A7 ls.length c7) := bc 0
                  have f1 : wr.cell? ⟨bo, 1, none⟩ = some (.slice A5 1 c5) := bc 1
                  have HBa10 : Aside0 (Below B w (wr.alloc (.cells #[.slice A7 ls.length c7, .slice A5 1 c5] 78))) := ⟨HB.out.alloc HA.out.size _⟩
                  have HCa10 : Aside0 (Kd.C kF (wr.alloc (.cells #[.slice A7 ls.length c7, .slice A5 1 c5] 78)) (some ⟨wr.heap.size, 0, none⟩) 1 [((A7, ls.length, c7), (A5, 1, c5))]) := ⟨lit_G wr ((A7, ls.length, c7), (A5, 1, c5))⟩
                  have HAa10 := Aside0.mk (has_mid (As := [_, _]) (HA.out.alloc (.cells #[.slice A7 ls.length c7, .slice A5 1 c5] 78)))
                  clear hd bc HA HB
                  go_wp2_with (first | (refine rows_app kF HAa10.out rfl _ _ 42 (.agg #[.slice none 0 0, .slice none 0 0]) 48 rfl Try.underlying42 infG rfl (by decide) (by decide) (some ⟨wr.heap.size, 0, none⟩) 1 rfl rfl HCa10.out (fun x cs hx => kF_KM x cs hx) (by rw [List.length_map]; show (_ + 1) * 48 ≤ 140737488355328; omega) ?_; rintro va10 wa10 hAa hBa; obtain ⟨Aa10, ca10, rfl, -, -⟩ := hAa.reads (d := kF) (e := 78) (v := va10) (xs := N.map plF ++ [((A7, ls.length, c7), (A5, 1, c5))]) (List.mem_cons_self ..); have HAb10 := Aside0.mk (has_back (As := [_, _]) hAa); have HBb10 := Aside0.mk (HBa10.out.trans hBa); clear hAa hBa; obtain ⟨-, bf, -, -⟩ := HAb10.out.box_cell (b := q) (cs := #[.slice A M.length c]) (t := 44) (by simp); have f3 := bf 0; have c3 := kept_cell (q := q) (v := .slice A M.length c) HAb10.out (by simp); clear bf) | fail)
                  have hE := HAb10.out
                  rw [show (N.map plF ++ [(((A7, ls.length, c7), (A5, 1, c5)) : FH)]).length = (N ++ [f]).length from by rw [List.length_append, List.length_append, List.length_map]; rfl, show N.map plF ++ [(((A7, ls.length, c7), (A5, 1, c5)) : FH)] = (N ++ [f]).map plF from by rw [List.map_append, HF.out]; rfl] at hE
                  obtain ⟨hA2, hB2⟩ := hE.box_set 0 (.slice Aa10 (N ++ [f]).length ca10)
                  have HA3 := Aside0.mk (radd_end (A9 := Aa10) (c9 := ca10) (N := N ++ [f]) hA2 HF.out HN.out)
                  have HB3 := Aside0.mk (HBb10.out.trans hB2)
                  have hLf : (N ++ [f]).length = N.length + 1 := by rw [List.length_append]; rfl
                  rw [hLf] at HA3 HB3
                  clear hE hA2 hB2
                  go_ret
                  rw [HAD.out]
                  exact ⟨rfl, HA3.out, HB3.out⟩
        · have d3 : (pushE [] ⟨x0, x1⟩ != 0) = true := bne_iff_ne.2 hpe
          have HAD : Aside0 (addV (M.map viewF) ls ⟨x0, x1⟩ = (pushE [] ⟨x0, x1⟩, M.map viewF)) := ⟨by rw [add_new HMY.out HNF.out, if_pos hpe]⟩
          clear hpe
          go_wp2_with fail
          go_ret
          rw [HAD.out]
          exact ⟨rfl, ref_shut (has_mid (As := [_, _]) HA5.out.tail).tail, HB5.out⟩
end Go.Proofs.Ytlhlaadnifkdhaa.Sr
namespace Go.Proofs.Ytlhlaadnifkdhaa.Sr
open Go.RowKit Go.Proofs.YtlhlaadnifkdhaaW.PrintWords Go.Proofs.YtlhlaadnifkdhaaW.PrintLast Go.Proofs.YtlhlaadnifkdhaaW.PrintMore Go.Proofs.Ytlhlaadnifkdhaa.Q Go.Proofs.Ytlhlaadnifkdhaa.Own Go.Proofs.Ytlhlaadnifkdhaa.Nmd
set_option linter.unusedVariables false
set_option linter.unusedSimpArgs false
attribute [local go_sem ↓] Go.wp_at_zero Go.wp_at_succ

/-- An element of two cells is written over. -/
theorem row_put2 {α : Type} {d : Kd α} {e B : Nat} {w : World} {As Bs : List Th} {A : Option Addr} {n c : Nat} {l : List α} (hd2 : d.sz = 2) (h : Has B w (As ++ rowT d e (.slice A n c) l :: Bs)) (i : Nat) (hi : i < l.length) {x' : α} {u0 u1 : Value} (hM : d.M w 0 (fun _ => False) x' [u0, u1]) :
    ∃ g, A = some ⟨g, 0, none⟩ ∧ (∃ v0, w.cell? ⟨g, i * 2, none⟩ = some v0) ∧ (∃ v1, w.cell? ⟨g, i * 2 + 1, none⟩ = some v1) ∧ (w.frozen? ⟨g, i * 2, none⟩ = false) ∧ (w.frozen? ⟨g, i * 2 + 1, none⟩ = false) ∧
    Has B ((w.setCell ⟨g, i * 2, none⟩ u0).setCell ⟨g, i * 2 + 1, none⟩ u1) (As ++ rowT d e (.slice A n c) (l.set i x') :: Bs) ∧ Below B w ((w.setCell ⟨g, i * 2, none⟩ u0).setCell ⟨g, i * 2 + 1, none⟩ u1) := by
  have h' := has_mid h
  obtain ⟨hn, -, hC⟩ := row_reads h' (List.mem_cons_self ..)
  obtain ⟨ad, cs, e0, hcl, hK0, hc0⟩ := Kd.C_get hC l[i] (i : Int) (by omega) (by omega)
  subst e0
  obtain ⟨g, rfl⟩ := row_plain h' (List.mem_cons_self ..)
  obtain ⟨F, hR, hFb, put⟩ := h'.head
  have hR' : Kd.R d e w 0 F (.slice (some ⟨g, 0, none⟩) n c) l := hR
  have hg : F g := hR'.1 g rfl
  rw [Int.toNat_natCast, hd2] at hc0
  rw [hd2] at hcl
  refine ⟨_, rfl, ?_⟩
  replace hc0 : ∀ j u, cs[j]? = some u → w.cell? ⟨g, i * 2 + j, none⟩ = some u := fun j u hq => by have := hc0 j u hq; rwa [add_plain] at this
  have hcs : ∃ v0 v1, cs = [v0, v1] := by
    match cs, hcl with
    | [v0, v1], _ => exact ⟨v0, v1, rfl⟩
  obtain ⟨v0, v1, rfl⟩ := hcs
  obtain ⟨s1, s2⟩ := Kd.R_seg (okp := fun _ => False) (seg := [u0, u1]) (j := 0) hR' (i : Int) (by omega) (by omega) (c := [v0, v1]) (by rw [hd2]; rfl) (fun j q hq => by rw [Int.toNat_natCast, hd2]; exact hc0 j q hq) (by rw [hd2]; exact Nat.le_refl 2) (x' := x') hM (fun _ f => f.elim)
  rw [Int.toNat_natCast, hd2] at s1 s2
  have s1' : Kd.R d e ((w.setCell ⟨g, i * 2, none⟩ u0).setCell ⟨g, i * 2 + 1, none⟩ u1) 0 F (.slice (some ⟨g, 0, none⟩) n c) (l.set i x') := s1
  have s2' : w.grownBy ((w.setCell ⟨g, i * 2, none⟩ u0).setCell ⟨g, i * 2 + 1, none⟩ u1) (some g) := s2
  obtain ⟨p1, p2⟩ := put _ F (rowT d e (.slice (some ⟨g, 0, none⟩) n c) (l.set i x')) ((KeepF.refl F w).grown s2' (fun k e => by injection e with e; subst e; exact .inl hg)) s1' (fun k hk => ⟨.inl hk, Nat.lt_of_lt_of_le (hFb k hk).2 s2'.size⟩)
  exact ⟨⟨v0, hc0 0 v0 rfl⟩, ⟨v1, hc0 1 v1 rfl⟩, fr_row hR' _, fr_row hR' _, has_back p1, p2⟩
theorem spoil_read {B : Nat} {w : World} {A : Option Addr} {n c : Nat} {P : List FH} {Ts : List Th} (h : Has B w (rowF (.slice A n c) P :: Ts)) {k : Nat} (hk : k < P.length) : ∃ ad, A = some ad ∧ w.cell? (ad.add (k * 2)) = some (vH (P[k]).1) ∧ w.cell? ⟨(ad.add (k * 2)).block, (ad.add (k * 2)).off + 1, none⟩ = some (vH (P[k]).2) := by
  obtain ⟨e, hc, hC⟩ := row_reads h (List.mem_cons_self ..)
  obtain ⟨ad, rfl, q0, q1⟩ := at_F hC k hk
  rw [← add_field _ _ 1 (by omega)] at q1
  exact ⟨ad, rfl, q0, q1⟩
theorem spoil_len {B : Nat} {w : World} {A : Option Addr} {n c : Nat} {P : List FH} {Ts : List Th} (h : Has B w (rowF (.slice A n c) P :: Ts)) : n = P.length := (row_reads h (List.mem_cons_self ..)).1
def SpOk (B : Nat) (w : World) (v : Value) (P : List FH) (Ts : List Th) : Prop := ∃ M : List FE, M.map plF = P ∧ Has B w (rowF v P :: (tf M ++ Ts))
theorem plF_at {M : List FE} {P : List FH} (h : M.map plF = P) {k : Nat} (hk : k < P.length) : ∃ hm : k < M.length, P[k] = ((M[k]).hl, (M[k]).hs) := by
  subst h
  exact ⟨by rw [List.length_map] at hk; exact hk, by rw [List.getElem_map]; rfl⟩
theorem spoilL {B : Nat} {w : World} {v : Value} {P : List FH} {Ts : List Th} (h : SpOk B w v P Ts) {k : Nat} (hk : k < P.length) {A1 : Option Addr} {n1 c1 : Nat} (hp : (P[k]).1 = (A1, n1, c1)) {j : Nat} (hj : j < n1) (y : LB) :
    ∃ g, A1 = some ⟨g, 0, none⟩ ∧ (∃ v0, w.cell? ⟨g, j * 2, none⟩ = some v0) ∧ (∃ v1, w.cell? ⟨g, j * 2 + 1, none⟩ = some v1) ∧ (w.frozen? ⟨g, j * 2, none⟩ = false) ∧ (w.frozen? ⟨g, j * 2 + 1, none⟩ = false) ∧
    SpOk B ((w.setCell ⟨g, j * 2, none⟩ (.string y.f0)).setCell ⟨g, j * 2 + 1, none⟩ (.string y.f1)) v P Ts ∧ Below B w ((w.setCell ⟨g, j * 2, none⟩ (.string y.f0)).setCell ⟨g, j * 2 + 1, none⟩ (.string y.f1)) := by
  obtain ⟨M, hM, hA⟩ := h
  obtain ⟨hkm, hpk⟩ := plF_at hM hk
  rw [hpk] at hp
  have hp : (M[k]).hl = (A1, n1, c1) := hp
  obtain ⟨M1, M2, e, hl1⟩ := split_at M hkm
  generalize M[k] = x at hp e
  obtain ⟨hl, hs, ls, xs⟩ := x
  dsimp only at hp
  subst hp
  subst e
  rw [tf_app, tf_cons] at hA
  have hA1 : Has B w ((rowF v P :: tf M1) ++ rowL (.slice A1 n1 c1) ls :: (rowS (vH hs) xs :: tf M2 ++ Ts)) := by simpa [List.append_assoc] using hA
  have hn : n1 = ls.length := (row_reads (has_mid hA1) (List.mem_cons_self ..)).1
  obtain ⟨g, rfl, c0, c1', f0, f1, hA2, hB2⟩ := row_put2 (d := kL) rfl hA1 j (by omega) (x' := y) (u0 := .string y.f0) (u1 := .string y.f1) (k31_mkM _ _ _ y)
  refine ⟨g, rfl, c0, c1', f0, f1, ⟨M1 ++ ⟨(some ⟨g, 0, none⟩, n1, c1), hs, ls.set j y, xs⟩ :: M2, ?_, ?_⟩, hB2⟩
  · rw [← hM, List.map_append, List.map_append, List.map_cons, List.map_cons]
    rfl
  · rw [tf_app, tf_cons]
    simpa [List.append_assoc] using hA2
theorem spoilS {B : Nat} {w : World} {v : Value} {P : List FH} {Ts : List Th} (h : SpOk B w v P Ts) {k : Nat} (hk : k < P.length) {A1 : Option Addr} {n1 c1 : Nat} (hp : (P[k]).2 = (A1, n1, c1)) {j : Nat} (hj : j < n1) (y : SM) :
    ∃ g, A1 = some ⟨g, 0, none⟩ ∧ (∃ v0, w.cell? ⟨g, j * 2, none⟩ = some v0) ∧ (∃ v1, w.cell? ⟨g, j * 2 + 1, none⟩ = some v1) ∧ (w.frozen? ⟨g, j * 2, none⟩ = false) ∧ (w.frozen? ⟨g, j * 2 + 1, none⟩ = false) ∧
    SpOk B ((w.setCell ⟨g, j * 2, none⟩ (.int .i64 y.f0)).setCell ⟨g, j * 2 + 1, none⟩ (.int .i64 y.f1)) v P Ts ∧ Below B w ((w.setCell ⟨g, j * 2, none⟩ (.int .i64 y.f0)).setCell ⟨g, j * 2 + 1, none⟩ (.int .i64 y.f1)) := by
  obtain ⟨M, hM, hA⟩ := h
  obtain ⟨hkm, hpk⟩ := plF_at hM hk
  rw [hpk] at hp
  have hp : (M[k]).hs = (A1, n1, c1) := hp
  obtain ⟨M1, M2, e, hl1⟩ := split_at M hkm
  generalize M[k] = x at hp e
  obtain ⟨hl, hs, ls, xs⟩ := x
  dsimp only at hp
  subst hp
  subst e
  rw [tf_app, tf_cons] at hA
  have hA1 : Has B w ((rowF v P :: tf M1 ++ [rowL (vH hl) ls]) ++ rowS (.slice A1 n1 c1) xs :: (tf M2 ++ Ts)) := by simpa [List.append_assoc] using hA
  have hn : n1 = xs.length := (row_reads (has_mid hA1) (List.mem_cons_self ..)).1
  obtain ⟨g, rfl, c0, c1', f0, f1, hA2, hB2⟩ := row_put2 (d := kS) rfl hA1 j (by omega) (x' := y) (u0 := .int .i64 y.f0) (u1 := .int .i64 y.f1) (k26_mkM _ _ _ y)
  refine ⟨g, rfl, c0, c1', f0, f1, ⟨M1 ++ ⟨hl, (some ⟨g, 0, none⟩, n1, c1), ls, xs.set j y⟩ :: M2, ?_, ?_⟩, hB2⟩
  · rw [← hM, List.map_append, List.map_append, List.map_cons, List.map_cons]
    rfl
  · rw [tf_app, tf_cons]
    simpa [List.append_assoc] using hA2
set_option maxHeartbeats 4000000 in
set_option maxRecDepth 100000 in
theorem spoil_c {B : Nat} {w : World} {A : Option Addr} {n c : Nat} {R : List PV} {Ts : List Th} (h : Has B w (findsT (.slice A n c) R :: Ts)) (hn8 : R.length ≤ 8) :
    Calls Try.prog 19 #[.slice A n c] w fun e w' => e = .returned (.tuple #[]) ∧ Has B w' Ts ∧ Below B w w' := by
  obtain ⟨M, hM, hA⟩ := finds_open h
  have hlen : M.length = R.length := view_len hM
  obtain ⟨P, hP⟩ : ∃ P, M.map plF = P := ⟨_, rfl⟩
  have hPl : P.length ≤ 8 := by rw [← hP, List.length_map]; omega
  rw [hP] at hA
  obtain rfl := spoil_len hA
  have HA0 : Aside0 (SpOk B w (.slice A P.length c) P Ts) := ⟨M, hP, hA⟩
  have HB0 : Aside0 (Below B w w) := ⟨Below.refl _ _⟩
  clear h hM hA hP hlen hn8
  have hu26 := Try.underlying26
  have hu31 := Try.underlying31
  go_enter Try.func19, Try.ntmps19
  go_wp2_with fail
  go_loopw [2] (fun i wr => ∃ k : Nat, i = .int .i64 k ∧ k ≤ P.length ∧ Aside0 (SpOk B wr (.slice A P.length c) P Ts) ∧ Aside0 (Below B w wr)) (fun i _ => P.length - (intOf i).toNat)
  case atStart => exact ⟨0, rfl, by omega, HA0, HB0⟩
  case round =>
    clear HA0 HB0
    obtain ⟨k, rfl, hk, HA, HB⟩ := hrel
    by_cases hlt : k < P.length
    · have d1 : decide ((k : Int) < (P.length : Int)) = true := decide_eq_true (by omega)
      have d2 : decide (0 ≤ (k : Int)) = true := decide_eq_true (by omega)
      have d1' : (k : Int) < (P.length : Int) := by omega
      obtain ⟨⟨A1, n1, c1⟩, ⟨A2, n2, c2⟩, hpk⟩ : ∃ a b : Hd, P[k] = (a, b) := ⟨_, _, rfl⟩
      have HPK := Aside0.mk hpk
      have RD : Aside0 (∀ wr, SpOk B wr (.slice A P.length c) P Ts → ∃ ad, A = some ad ∧ wr.cell? (ad.add (k * 2)) = some (.slice A1 n1 c1) ∧ wr.cell? ⟨(ad.add (k * 2)).block, (ad.add (k * 2)).off + 1, none⟩ = some (.slice A2 n2 c2)) := ⟨fun wr ⟨M, _, h⟩ => by
        have := spoil_read h hlt
        rw [hpk] at this
        exact this⟩
      have HLT := Aside0.mk hlt
      have NN : n1 ≤ 9223372036854775807 ∧ n2 ≤ 9223372036854775807 := by
        obtain ⟨M, hM, h⟩ := HA.out
        obtain ⟨hkm, hpk'⟩ := plF_at hM hlt
        rw [hpk] at hpk'
        injection hpk' with e1 e2
        obtain ⟨m0, m1⟩ := tf_mem hkm
        rw [← e1] at m0
        rw [← e2] at m1
        obtain ⟨r0, -, r1⟩ := row_reads h (d := kL) (e := 31) (A := A1) (n := n1) (c := c1) (xs := (M[k]).ls) (List.mem_cons_of_mem _ (List.mem_append_left _ m0))
        obtain ⟨s0, -, s1⟩ := row_reads h (d := kS) (e := 26) (A := A2) (n := n2) (c := c2) (xs := (M[k]).xs) (List.mem_cons_of_mem _ (List.mem_append_left _ m1))
        exact ⟨r0 ▸ Kd.C_max r1, s0 ▸ Kd.C_max s1⟩
      obtain ⟨hn1, hn2⟩ := NN
      clear hpk
      go_wp2_with fail
      go_loopw [3] (fun i wr => ∃ j : Nat, i = .int .i64 j ∧ j ≤ n1 ∧ Aside0 (SpOk B wr (.slice A P.length c) P Ts) ∧ Aside0 (Below B w wr)) (fun i _ => n1 - (intOf i).toNat)
      case atStart => exact ⟨0, rfl, by omega, HA, HB⟩
      case round =>
        clear HA HB
        obtain ⟨j, rfl, hj, HA, HB⟩ := hrel
        obtain ⟨ad, rfl, q0, q1⟩ := RD.out _ HA.out
        by_cases hlj : j < n1
        · have e1 : decide ((j : Int) < (n1 : Int)) = true := decide_eq_true (by omega)
          have e1' : (j : Int) < (n1 : Int) := by omega
          have e2 : decide (0 ≤ (j : Int)) = true := decide_eq_true (by omega)
          have ej : wrap64 ((j : Int) + 1) = ((j + 1 : Nat) : Int) := (w64 (x := (j : Int) + 1) (by omega) (by omega)).trans (by omega)
          obtain ⟨g1, rfl, ⟨v0, c0⟩, ⟨v1, c1'⟩, f0, f1, hA2, hB2⟩ := spoilL HA.out hlt (A1 := A1) (n1 := n1) (c1 := c1) (by rw [HPK.out]) hlj ⟨⟨#[115, 112, 111, 105, 108, 116]⟩, ⟨#[]⟩⟩
          have HA2 := Aside0.mk hA2
          have HB2 := Aside0.mk (HB.out.trans hB2)
          clear hA2 hB2 HA HB
          go_wp2_with fail
          go_roundw
          case rel => exact ⟨j + 1, by first | rfl | rw [ej], by omega, HA2, HB2⟩
          case measure => first | (simp [intOf]; omega) | (rw [ej]; simp [intOf]; omega)
        · obtain rfl : j = n1 := by omega
          have e1 : decide ((j : Int) < (j : Int)) = false := decide_eq_false (by omega)
          clear hlj
          go_wp2_with fail
          go_loopw [4] (fun i wr => ∃ j : Nat, i = .int .i64 j ∧ j ≤ n2 ∧ Aside0 (SpOk B wr (.slice (some ad) P.length c) P Ts) ∧ Aside0 (Below B w wr)) (fun i _ => n2 - (intOf i).toNat)
          case atStart => exact ⟨0, rfl, by omega, HA, HB⟩
          case round =>
            clear HA HB q0 q1
            obtain ⟨j2, rfl, hj2, HA, HB⟩ := hrel
            obtain ⟨ad', ead, q0, q1⟩ := RD.out _ HA.out
            cases ead
            by_cases hlj : j2 < n2
            · have e2 : decide ((j2 : Int) < (n2 : Int)) = true := decide_eq_true (by omega)
              have e2' : (j2 : Int) < (n2 : Int) := by omega
              have e3 : decide (0 ≤ (j2 : Int)) = true := decide_eq_true (by omega)
              have ej : wrap64 ((j2 : Int) + 1) = ((j2 + 1 : Nat) : Int) := (w64 (x := (j2 : Int) + 1) (by omega) (by omega)).trans (by omega)
              obtain ⟨g1, rfl, ⟨v0, c0⟩, ⟨v1, c1'⟩, f0, f1, hA2, hB2⟩ := spoilS HA.out hlt (A1 := A2) (n1 := n2) (c1 := c2) (by rw [HPK.out]) hlj ⟨-1, 0⟩
              have HA2 := Aside0.mk hA2
              have HB2 := Aside0.mk (HB.out.trans hB2)
              clear hA2 hB2 HA HB
              go_wp2_with fail
              go_roundw
              case rel => exact ⟨j2 + 1, by first | rfl | rw [ej], by omega, HA2, HB2⟩
              case measure => first | (simp [intOf]; omega) | (rw [ej]; simp [intOf]; omega)
            · obtain rfl : j2 = n2 := by omega
              have e2 : decide ((j2 : Int) < (j2 : Int)) = false := decide_eq_false (by omega)
              have ek : wrap64 ((k : Int) + 1) = ((k + 1 : Nat) : Int) := (w64 (x := (k : Int) + 1) (by omega) (by omega)).trans (by omega)
              clear hlj
              go_wp2_with fail
              go_roundw
              case rel => exact ⟨k + 1, by first | rfl | rw [ek], by omega, HA, HB⟩
              case measure => first | (simp [intOf]; omega) | (rw [ek]; simp [intOf]; omega)
    · obtain rfl : k = P.length := by omega
      have d1 : decide ((P.length : Int) < (P.length : Int)) = false := decide_eq_false (by omega)
      clear hlt
      go_wp2_with fail
      go_end0
      obtain ⟨M, -, hA⟩ := HA.out
      exact ⟨rfl, has_drop (As := _ :: tf M) hA, HB.out⟩
end Go.Proofs.Ytlhlaadnifkdhaa.Sr
namespace Go.Proofs.Ytlhlaadnifkdhaa.Sr
open Go.RowKit Go.Proofs.YtlhlaadnifkdhaaW.PrintWords Go.Proofs.YtlhlaadnifkdhaaW.PrintLast Go.Proofs.YtlhlaadnifkdhaaW.PrintMore Go.Proofs.Ytlhlaadnifkdhaa.Q Go.Proofs.Ytlhlaadnifkdhaa.Own Go.Proofs.Ytlhlaadnifkdhaa.Nmd Go.Proofs.Ytlhlaadnifkdhaa.Pure
set_option linter.unusedVariables false
set_option linter.unusedSimpArgs false

theorem srt_last {xs : List SM} (h : Sorted xs) {z : SM} (hz : xs.getLast? = some z) : ∀ y ∈ xs, y.f0 ≤ z.f0 := by
  obtain ⟨ys, rfl⟩ := List.getLast?_eq_some_iff.1 hz
  obtain ⟨_, _, h3⟩ := List.pairwise_append.1 h
  intro y hy
  rcases List.mem_append.1 hy with hy | hy
  · exact h3 y hy z (List.mem_singleton.2 rfl)
  · rw [List.mem_singleton.1 hy]
    exact Int.le_refl _
theorem srt_push {xs : List SM} {x : SM} (h : Sorted xs) : Sorted (pushL xs x) := by
  unfold pushL
  split
  · rename_i h0
    have hlate : lateB xs x ≠ true := by
      unfold pushE at h0
      split at h0
      · cases h0
      · split at h0
        · cases h0
        · assumption
    refine List.pairwise_append.2 ⟨h, List.pairwise_singleton _ _, fun y hy z hz => ?_⟩
    rw [List.mem_singleton.1 hz]
    cases hl : xs.getLast? with
    | none =>
      rw [List.getLast?_eq_none_iff.1 hl] at hy
      exact absurd hy List.not_mem_nil
    | some l =>
      unfold lateB at hlate
      rw [hl] at hlate
      have h1 := srt_last h hl y hy
      have h2 : ¬ x.f0 < l.f0 := by simpa using hlate
      omega
  · exact h
theorem VSrt.add {V : List PV} (hV : VMay V) (h : VSrt V) (ls : List LB) (x : SM) : VSrt (addV V ls x).2 := by
  by_cases h0 : (addV V ls x).1 = 0
  · have hm := add_may h0
    cases hf : findF keyP V (keyT ls) with
    | some v =>
      rw [add_some hm hf]
      intro u hu
      obtain ⟨u', hu', rfl⟩ := List.mem_map.1 hu
      obtain ⟨a, b⟩ := h u' hu'
      show Sorted (if keyP u' = keyT ls then ((u'.1, pushL u'.2 x) : PV) else u').2 ∧ (if keyP u' = keyT ls then ((u'.1, pushL u'.2 x) : PV) else u').2.length ≤ 32
      split
      · exact ⟨srt_push a, push_len b⟩
      · exact ⟨a, b⟩
    | none =>
      obtain ⟨h1, h2, h3⟩ := add_new0 hm hf h0
      rw [h3]
      intro u hu
      rcases List.mem_cons.1 ((ins_perm _ _).mem_iff.1 hu) with rfl | hu
      · exact ⟨List.pairwise_singleton _ _, by show 1 ≤ 32; omega⟩
      · exact h u (cut_mem.1 hu).1
  · rw [add_err hV.1 h0]
    exact h
theorem VSrt.exp {V : List PV} (h : VSrt V) (a : Int) : VSrt (expV V a) := by
  intro u hu
  obtain ⟨h1, h2⟩ := List.mem_filter.1 hu
  obtain ⟨u', hu', rfl⟩ := List.mem_map.1 h1
  obtain ⟨a1, a2⟩ := h u' hu'
  exact ⟨List.Pairwise.sublist (List.dropWhile_suffix _).sublist a1, Nat.le_trans (exp_len _ _) a2⟩
theorem srt_run (l : List AT) : VSrt (runV l) := by
  refine list_snoc (P := fun l => VSrt (runV l)) (fun v hv => absurd hv List.not_mem_nil) (fun l a ih => ?_) l
  rw [run_snoc]
  unfold stepV
  split
  · exact ih.exp _
  · exact ih.add (may_run l) _ _
/-! same -/
theorem rd_64 (R : List PV) {k : Nat} (h : k < R.length) : rd_T64 (R.map to64) (k : Int) = to64 R[k] := by
  unfold rd_T64
  rw [Int.toNat_natCast, List.getD_eq_getElem?_getD, List.getElem?_map, List.getElem?_eq_getElem h]
  rfl
theorem rd_78 (R : List PV) {k : Nat} (h : k < R.length) : rd_T78 (R.map to78) (k : Int) = to78 R[k] := by
  unfold rd_T78
  rw [Int.toNat_natCast, List.getD_eq_getElem?_getD, List.getElem?_map, List.getElem?_eq_getElem h]
  rfl
def VMax (R : List PV) : Prop := ∀ v ∈ R, v.1.length ≤ 9223372036854775807 ∧ v.2.length ≤ 9223372036854775807
theorem finds_max {B : Nat} {w : World} {v : Value} {R : List PV} {Ts : List Th} (h : Has B w (findsT v R :: Ts)) : VMax R := by
  obtain ⟨M, rfl, hA⟩ := finds_open h
  intro u hu
  obtain ⟨x, hx, rfl⟩ := List.mem_map.1 hu
  obtain ⟨k, hk, rfl⟩ := List.getElem_of_mem hx
  obtain ⟨m0, m1⟩ := tf_mem hk
  obtain ⟨r0, -, r1⟩ := row_reads hA (d := kL) (e := 31) (A := (M[k]).hl.1) (n := (M[k]).hl.2.1) (c := (M[k]).hl.2.2) (xs := (M[k]).ls) (List.mem_cons_of_mem _ (List.mem_append_left _ m0))
  obtain ⟨s0, -, s1⟩ := row_reads hA (d := kS) (e := 26) (A := (M[k]).hs.1) (n := (M[k]).hs.2.1) (c := (M[k]).hs.2.2) (xs := (M[k]).xs) (List.mem_cons_of_mem _ (List.mem_append_left _ m1))
  exact ⟨Kd.C_max r1, Kd.C_max s1⟩
theorem same_l0 (R : List PV) (hx : VMax R) (hl : R.length ≤ 8) : ∀ (d : Nat) (k : Nat), k ≤ R.length → R.length - k = d → Ev (fun n => tocsinlaw17_same.l0 n (R.map to64) (R.map to78) (k : Int)) true := by
  intro d
  induction d with
  | zero =>
    intro k h1 hd
    exact Ev.step (fun n => by rw [tocsinlaw17_same.l0, if_neg (by rw [List.length_map]; omega)]) (Ev.now _)
  | succ d ih =>
    intro k h1 hd
    have hk : k < R.length := by omega
    obtain ⟨m1, m2⟩ := hx _ (List.getElem_mem hk)
    refine Ev.step (fun n => by rw [tocsinlaw17_same.l0, if_pos (by rw [List.length_map]; omega), if_pos (by omega), if_pos (by rw [List.length_map]; omega), rd_64 R hk, rd_78 R hk]) ?_
    have e1 := same_labels (R[k]).1 (R[k]).1 m1
    rw [show sameLs (R[k]).1 (R[k]).1 = true from sameLs_iff.2 rfl] at e1
    have e2 := same_samples (R[k]).2 (R[k]).2 m2
    rw [show sameSs (R[k]).2 (R[k]).2 = true from sameSs_iff.2 rfl] at e2
    refine Ev.bind e1 (ev_pos rfl (Ev.bind e2 (ev_pos rfl ?_)))
    have := ih (k + 1) (by omega) (by omega)
    rw [w64 (by omega) (by omega)]
    exact this
theorem same_c {w : World} {A A' : Option Addr} {c c' : Nat} {R : List PV} (h0 : Kd.C k64' w A R.length (R.map to64)) (hc : R.length ≤ c) (h1 : Kd.C k78' w A' R.length (R.map to78)) (hc' : R.length ≤ c') (hx : VMax R) (hl : R.length ≤ 8) :
    Calls Try.prog 17 #[.slice A R.length c, .slice A' R.length c'] w fun e w' => e = .returned (.bool true) ∧ Below w.heap.size w w' := by
  have hev : Ev (fun n => tocsinlaw17_same.f n (R.map to64) (R.map to78)) true := by
    unfold tocsinlaw17_same.f
    exact ev_pos (by rw [List.length_map, List.length_map]) (same_l0 R hx hl R.length 0 (by omega) (by omega))
  obtain ⟨k, hk⟩ := hev.rounds
  have := tocsinlaw17_same.calls k A c (R.map to64) A' c' (R.map to78) true w (by rw [List.length_map]; exact h0) (by rw [List.length_map]; exact hc) (by rw [List.length_map]; exact h1) (by rw [List.length_map]; exact hc') hk
  rw [List.length_map, List.length_map] at this
  refine this.mono ?_
  rintro e w' ⟨rfl, hb⟩
  exact ⟨rfl, hb.below⟩
end Go.Proofs.Ytlhlaadnifkdhaa.Sr
