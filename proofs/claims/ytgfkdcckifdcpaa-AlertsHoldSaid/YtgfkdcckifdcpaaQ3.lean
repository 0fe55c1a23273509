/- Functions of the program as plain Lean functions, each with the proof that its call comes to just these answers: written by a program of this session (wip/tools/printg.py over the kit's print) for this claim. -/
import Derived.Test.YtgfkdcckifdcpaaQ0
namespace Go.Proofs.Ytgfkdcckifdcpaa.Q
open Go.RowKit Go.Proofs.YtgfkdcckifdcpaaW.PrintWords Go.Proofs.YtgfkdcckifdcpaaW.PrintLast Go.Proofs.YtgfkdcckifdcpaaW.PrintMore
attribute [local go_sem] Opn.str_leq Opn.str_gtr Opn.str_geq max2_int min2_int max_two min_two max_three min_three max_four min_four   -- for this text's walks alone
set_option linter.unusedVariables false
set_option linter.unusedSimpArgs false

/-! ### alerts_Step: function 11 -/
/-! The map of all keys -/
structure KE where
  rule : Int
  key : ByteArray
  state : Int
  since : Int
  told : Int
  had : Bool
  holds : Bool
def KE.zero : KE := ⟨0, ⟨#[]⟩, 0, 0, 0, false, false⟩
def KE.val (k : KE) : Value := .agg #[.int .u32 k.rule, .string k.key, .int .u8 k.state, .int .i64 k.since, .int .i64 k.told, .bool k.had, .bool k.holds]
def RV (v : Value) : Option (DataW Value × List MemPlace) := some (.held v, [])
theorem lawK : Go.Maps.Keyed Try.prog 9 := Go.Maps.string_keyed Try.underlying9
theorem zeroK (w : World) : (zeroValue 51).run Try.prog w = .ok KE.zero.val w := by kernel_rfl
def TiedF (D : DataW Value) (f : List UInt8 → Option KE) : Prop :=
  Go.Maps.IsMap D ∧ ∀ n, (∀ z, D.atKey (.string n) z = (match f n with | none => z | some k => .held k.val)) ∧ Go.Maps.has D (.string n) = (f n).isSome
def updF (f : List UInt8 → Option KE) (n : List UInt8) (k : KE) : List UInt8 → Option KE := fun m => if m = n then some k else f m
theorem tied_start : TiedF (.map []) (fun _ => none) := ⟨Go.Maps.isMap_empty, fun n => ⟨fun z => rfl, rfl⟩⟩
theorem tied_put {D : DataW Value} {f : List UInt8 → Option KE} (h : TiedF D f) (n : List UInt8) (k : KE) : TiedF (D.put (.string n) (.held k.val)) (updF f n k) := by
  refine ⟨h.1.put _ _, fun m => ?_⟩
  unfold updF
  by_cases e : m = n
  · subst e
    rw [if_pos rfl]
    exact ⟨fun z => Go.Maps.atKey_put_same h.1 (by trivial) _ _, Go.Maps.has_put_same h.1 (by trivial) _⟩
  · rw [if_neg e]
    have hne : (Lit.string m) ≠ .string n := fun q => e (by injection q)
    exact ⟨fun z => (Go.Maps.atKey_put_other hne _ _).trans ((h.2 m).1 z), (Go.Maps.has_put_other hne _).trans (h.2 m).2⟩
/-- A look-up in a map whose elements are kept as they stand. -/
theorem wpList_lookup_held {P : Program} (w : World) {ops : Array Oper} {rest : List Oper} {o : Oper} {a : Act} {Q : Exit → Act → World → Prop}
    (hg : o.guard = none) (m x : Operand) (t : TypeId) (hop : o.op = Op.lookup t m x false)
    (k e : TypeId) (K : Go.Maps.Keyed P k) (ht : P.underlying t = some (.map k e)) (z : Value) (hz : (zeroValue e).run P w = .ok z w) (b n : Nat) (D : DataW Value)
    (hm : a.eval m = .map (some b)) (hown : w.ownsMap P k RV b n D) (key : Value) (kl : Lit) (hx : a.eval x = key) (hkey : keyOf P k key = some kl) (v : Value) (hv : D.atKey kl (.held z) = .held v)
    (hK : wpList P ops Q rest (a.put o.dst v) w) :
    wpList P ops Q (o :: rest) a w := by
  refine wpList_plain hg fun K' hK' => ?_
  obtain ⟨v', ps, hrun, hR⟩ := hown.lookup K ht hz (zd := .held z) (zp := []) rfl hkey
  rw [hv] at hR
  have hvv : v' = v := by
    unfold RV at hR
    injection hR with hR
    injection hR with hR
    injection hR
  subst hvv
  unfold Oper.wp
  simp [execOp, hop, hm, hx, hrun, Result.andThen]
  exact hK' _ _ hK
def stepF (rule : Int) (f : List UInt8 → Option KE) (x : S36) : List UInt8 → Option KE :=
  if x.f0 = rule ∧ ((f x.f1.data.toList).getD KE.zero).had = false then updF f x.f1.data.toList ⟨x.f0, x.f1, x.f2, x.f3, x.f4, true, false⟩ else f
def stepN (f : List UInt8 → Option KE) (s : ByteArray) : List UInt8 → Option KE :=
  updF f s.data.toList { (f s.data.toList).getD KE.zero with holds := true }
def knownF (l : List S36) (rule : Int) (keys : List ByteArray) : List UInt8 → Option KE := keys.foldl stepN (l.foldl (stepF rule) (fun _ => none))
theorem tied_at {D : DataW Value} {f : List UInt8 → Option KE} (h : TiedF D f) (n : List UInt8) : D.atKey (.string n) (.held KE.zero.val) = .held ((f n).getD KE.zero).val := by
  rw [(h.2 n).1]
  cases f n <;> rfl
theorem keyS {s : ByteArray} (hs : s.size ≤ 9223372036854775807) : keyOf Try.prog 9 (.string s) = some (.string s.data.toList) := Go.WideMaps.keyOf_string_mk Try.underlying9 (by unfold maxLen; exact hs)
theorem take_fold36 (f : (List UInt8 → Option KE) → S36 → (List UInt8 → Option KE)) (z : List UInt8 → Option KE) (l : List S36) (k : Nat) (h : k < l.length) : (l.take (k + 1)).foldl f z = f ((l.take k).foldl f z) (rd_T36 l (k : Int)) := by
  rw [List.take_succ_eq_append_getElem h, List.foldl_append]
  simp [rd_T36, List.getElem?_eq_getElem h]
theorem take_foldS (f : (List UInt8 → Option KE) → ByteArray → (List UInt8 → Option KE)) (z : List UInt8 → Option KE) (l : List ByteArray) (k : Nat) (h : k < l.length) : (l.take (k + 1)).foldl f z = f ((l.take k).foldl f z) (rdOf ByteArray.empty l (k : Int)) := by
  rw [List.take_succ_eq_append_getElem h, List.foldl_append]
  simp [rdOf, List.getElem?_eq_getElem h]
theorem stepF_eq (rule : Int) (f : List UInt8 → Option KE) (y : S36) (g : KE) (hg : g = (f y.f1.data.toList).getD KE.zero) : stepF rule f y = if y.f0 = rule ∧ g.had = false then updF f y.f1.data.toList ⟨y.f0, y.f1, y.f2, y.f3, y.f4, true, false⟩ else f := by
  unfold stepF
  rw [hg]
theorem stepN_eq (f : List UInt8 → Option KE) (y : ByteArray) (g : KE) (hg : g = (f y.data.toList).getD KE.zero) : stepN f y = updF f y.data.toList { g with holds := true } := by
  unfold stepN
  rw [hg]
def KnownPost (l0 : List S36) (rule : Int) (l5 : List ByteArray) (w : World) (e : Ending) (w' : World) : Prop :=
  ∃ (n : Nat) (D : DataW Value), e = .returned (.map (some w.heap.size)) ∧ w'.ownsMap Try.prog 9 RV w.heap.size n D ∧ n ≤ l0.length + l5.length ∧ TiedF D (knownF l0 rule l5) ∧ Below w.heap.size w w'
theorem fold36_int (f : (List UInt8 → Option KE) → S36 → (List UInt8 → Option KE)) (z : List UInt8 → Option KE) (l : List S36) (x : Int) (h0 : 0 ≤ x) (h : x < l.length) : (l.take (x + 1).toNat).foldl f z = f ((l.take x.toNat).foldl f z) (rd_T36 l x) := by
  rw [show (x + 1).toNat = x.toNat + 1 by omega, take_fold36 f z l x.toNat (by omega), Int.toNat_of_nonneg h0]
theorem foldS_int (f : (List UInt8 → Option KE) → ByteArray → (List UInt8 → Option KE)) (z : List UInt8 → Option KE) (l : List ByteArray) (x : Int) (h0 : 0 ≤ x) (h : x < l.length) : (l.take (x + 1).toNat).foldl f z = f ((l.take x.toNat).foldl f z) (rdOf ByteArray.empty l x) := by
  rw [show (x + 1).toNat = x.toNat + 1 by omega, take_foldS f z l x.toNat (by omega), Int.toNat_of_nonneg h0]
theorem rdS_mem {l : List ByteArray} {x : Int} (h0 : 0 ≤ x) (h1 : x < l.length) : rdOf ByteArray.empty l x ∈ l := by
  have h2 : x.toNat < l.length := by omega
  unfold rdOf
  rw [List.getD_eq_getElem?_getD, List.getElem?_eq_getElem h2]
  exact List.getElem_mem h2
theorem rd36_mem {l : List S36} {x : Int} (h0 : 0 ≤ x) (h1 : x < l.length) : rd_T36 l x ∈ l := by
  have h2 : x.toNat < l.length := by omega
  unfold rd_T36
  rw [List.getD_eq_getElem?_getD, List.getElem?_eq_getElem h2]
  exact List.getElem_mem h2
set_option maxHeartbeats 4000000 in
set_option maxRecDepth 100000 in
theorem known_calls (A0 : Option Addr) (c0 : Nat) (l0 : List S36) (rule : Int) (A5 : Option Addr) (c5 : Nat) (l5 : List ByteArray) (w : World) (hr0 : Kd.C k36 w A0 l0.length l0) (hc0 : l0.length ≤ c0) (hr5 : Kd.C Kd.string w A5 l5.length l5) (hc5 : l5.length ≤ c5)
    (hb : l0.length + l5.length ≤ 1000000) (hs0 : ∀ x ∈ l0, x.f1.size ≤ 9223372036854775807) (hs5 : ∀ s ∈ l5, s.size ≤ 9223372036854775807) :
    Calls Try.prog 18 #[.slice A0 l0.length c0, .int .u32 rule, .slice A5 l5.length c5] w (KnownPost l0 rule l5 w) := by
  have HR0 := Aside0.mk hr0
  have HR5 := Aside0.mk hr5
  have HS0 := Aside0.mk hs0
  have HS5 := Aside0.mk hs5
  clear hr0 hr5 hs0 hs5
  have hmm := @run_makeMap Try.prog
  go_enter Try.func18, Try.ntmps18
  go_wp2
  clear hmm
  have HM0 := Aside0.mk (World.ownsMap_made (H := Value) w Try.prog 9 RV)
  have HB0 := Aside0.mk ((Below.refl w.heap.size w).alloc (Nat.le_refl _) (.map #[] 0))
  go_loopw [17] (fun i wr => ∃ (x : Int) (D : DataW Value), 0 ≤ x ∧ x ≤ l0.length ∧ i = .int .i64 x ∧ Aside0 (wr.ownsMap Try.prog 9 RV w.heap.size x.toNat D) ∧ Aside0 (TiedF D ((l0.take x.toNat).foldl (stepF rule) (fun _ => none))) ∧ Aside0 (Below w.heap.size w wr)) (fun i _ => l0.length - (intOf i).toNat)
  case atStart => exact ⟨0, _, by omega, by omega, rfl, HM0, ⟨tied_start⟩, HB0⟩
  case round =>
    clear HM0 HB0
    obtain ⟨x, D, hx0, hx1, rfl, HO, HT, HB⟩ := hrel
    by_cases hlt : x < l0.length
    · obtain ⟨ad, e0, hc00, hc01, hc02, hc03, hc04⟩ := at_T36 HR0.out x hx0 hlt
      cases e0
      replace hc00 := (HB.out.cell (World.block_lt_of_cell? w _ hc00)).trans hc00
      replace hc01 := (HB.out.cell (World.block_lt_of_cell? w _ hc01)).trans hc01
      replace hc02 := (HB.out.cell (World.block_lt_of_cell? w _ hc02)).trans hc02
      replace hc03 := (HB.out.cell (World.block_lt_of_cell? w _ hc03)).trans hc03
      replace hc04 := (HB.out.cell (World.block_lt_of_cell? w _ hc04)).trans hc04
      have d0 : decide (0 ≤ x) = true := decide_eq_true hx0
      have d1 : decide (x < (l0.length : Int)) = true := decide_eq_true hlt
      have HSZ := Aside0.mk (HS0.out _ (rd36_mem hx0 hlt))
      have HST := Aside0.mk (fold36_int (stepF rule) (fun _ => none) l0 x hx0 hlt)
      obtain ⟨y, hy⟩ : ∃ y, y = rd_T36 l0 x := ⟨_, rfl⟩
      rw [← hy] at hc00 hc01 hc02 hc03 hc04 HSZ HST
      clear hy
      obtain ⟨g, hg⟩ : ∃ g, g = (((l0.take x.toNat).foldl (stepF rule) (fun _ => none)) y.f1.data.toList).getD KE.zero := ⟨_, rfl⟩
      have hv := tied_at HT.out y.f1.data.toList
      rw [← hg] at hv
      have hstep : stepF rule ((l0.take x.toNat).foldl (stepF rule) (fun _ => none)) y = if y.f0 = rule ∧ g.had = false then updF ((l0.take x.toNat).foldl (stepF rule) (fun _ => none)) y.f1.data.toList ⟨y.f0, y.f1, y.f2, y.f3, y.f4, true, false⟩ else ((l0.take x.toNat).foldl (stepF rule) (fun _ => none)) := stepF_eq rule _ y g hg
      obtain ⟨g0, g1, g2, g3, g4, g5, g6⟩ := g
      have HV : Aside0 (D.atKey (.string y.f1.data.toList) (.held KE.zero.val) = .held (.agg #[.int .u32 g0, .string g1, .int .u8 g2, .int .i64 g3, .int .i64 g4, .bool g5, .bool g6])) := ⟨hv⟩
      have HSTEP := Aside0.mk hstep
      clear hv hstep hg
      have htn : (x + 1).toNat = x.toNat + 1 := by omega
      have HTN := Aside0.mk htn
      clear htn
      have stay : (¬ (y.f0 = rule ∧ g5 = false)) → TiedF D ((l0.take (x + 1).toNat).foldl (stepF rule) (fun _ => none)) := by
        intro hn
        rw [HST.out, HSTEP.out, if_neg hn]
        exact HT.out
      have turn : (y.f0 = rule ∧ g5 = false) → TiedF (D.put (.string y.f1.data.toList) (.held (KE.val ⟨y.f0, y.f1, y.f2, y.f3, y.f4, true, false⟩))) ((l0.take (x + 1).toNat).foldl (stepF rule) (fun _ => none)) := by
        intro hn
        rw [HST.out, HSTEP.out, if_pos hn]
        exact tied_put HT.out _ _
      have STAY := Aside0.mk stay
      have TURN := Aside0.mk turn
      clear stay turn
      by_cases hr : y.f0 = rule
      · have b0 : (y.f0 == rule) = true := beq_iff_eq.2 hr
        have HR := Aside0.mk hr
        clear hr
        cases g5 with
        | true =>
          go_wp2_with (first | (at_lookup; refine wpList_lookup_held _ rfl _ _ 48 rfl 9 51 lawK Try.underlying48 KE.zero.val (zeroK _) w.heap.size x.toNat D rfl (HO.out.alloc _) _ _ rfl (keyS HSZ.out) _ HV.out ?_) | go_in)
          go_roundw
          case rel => exact ⟨x + 1, D, by omega, by omega, by go_num, ⟨by rw [HTN.out]; exact (((HO.out.alloc _).alloc _).mono (by omega))⟩, ⟨STAY.out (by simp)⟩, ⟨(HB.out.alloc HB.out.size _).alloc (by have := HB.out.size; simp; omega) _⟩⟩
          case measure => simp [intOf]; omega
        | false =>
          go_wp2_with (first | (at_lookup; refine wpList_lookup_held _ rfl _ _ 48 rfl 9 51 lawK Try.underlying48 KE.zero.val (zeroK _) w.heap.size x.toNat D rfl (HO.out.alloc _) _ _ rfl (keyS HSZ.out) _ HV.out ?_) | (at_mapUpdate; refine wpList_mapUpdate_own _ rfl _ _ _ 48 rfl 9 51 lawK Try.underlying48 RV w.heap.size x.toNat D rfl ((HO.out.alloc _).alloc _) (by unfold maxLen; omega) _ _ _ rfl rfl (keyS HSZ.out) (.held (KE.val ⟨y.f0, y.f1, y.f2, y.f3, y.f4, true, false⟩)) [] rfl ?_; intro w1 hown1 hgrow1) | go_in)
          go_roundw
          case rel => exact ⟨x + 1, _, by omega, by omega, by go_num, ⟨by rw [HTN.out]; exact hown1⟩, ⟨TURN.out ⟨HR.out, rfl⟩⟩, ⟨((HB.out.alloc HB.out.size _).alloc (by have := HB.out.size; simp; omega) _).grown hgrow1 (by have := HB.out.size; simp; omega) (fun j hj => by cases hj; exact Nat.le_refl _)⟩⟩
          case measure => simp [intOf]; omega
      · have b0 : (y.f0 == rule) = false := beq_eq_false_iff_ne.2 hr
        have HR := Aside0.mk hr
        clear hr
        go_wp2_with (first | (at_lookup; refine wpList_lookup_held _ rfl _ _ 48 rfl 9 51 lawK Try.underlying48 KE.zero.val (zeroK _) w.heap.size x.toNat D rfl (HO.out.alloc _) _ _ rfl (keyS HSZ.out) _ HV.out ?_) | go_in)
        go_roundw
        case rel => exact ⟨x + 1, D, by omega, by omega, by go_num, ⟨by rw [HTN.out]; exact (((HO.out.alloc _).alloc _).mono (by omega))⟩, ⟨STAY.out (fun h => HR.out h.1)⟩, ⟨(HB.out.alloc HB.out.size _).alloc (by have := HB.out.size; simp; omega) _⟩⟩
        case measure => simp [intOf]; omega
    · obtain rfl : x = l0.length := by omega
      have HT0 := HT.out
      rw [Int.toNat_natCast, List.take_of_length_le (Nat.le_refl _)] at HT0
      have HT1 := Aside0.mk HT0
      have HO1 := Aside0.mk HO.out
      clear HT HT0 HO
      obtain ⟨w2, hw2⟩ : ∃ w2, w2 = wr := ⟨_, rfl⟩
      obtain rfl := hw2
      obtain ⟨F1, hF1⟩ : ∃ F1, F1 = l0.foldl (stepF rule) (fun _ => none) := ⟨_, rfl⟩
      have HF1 := Aside0.mk hF1
      have HT2 : Aside0 (TiedF D F1) := ⟨by rw [hF1]; exact HT1.out⟩
      have HB2 := Aside0.mk HB.out
      clear hF1 HT1 HB HR0 HS0
      go_wp2
      go_loopw [42] (fun i wr => ∃ (z : Int) (D : DataW Value), 0 ≤ z ∧ z ≤ l5.length ∧ i = .int .i64 z ∧ Aside0 (wr.ownsMap Try.prog 9 RV w.heap.size (l0.length + z.toNat) D) ∧ Aside0 (TiedF D ((l5.take z.toNat).foldl stepN F1)) ∧ Aside0 (Below w.heap.size w wr)) (fun i _ => l5.length - (intOf i).toNat)
      case atStart => exact ⟨0, _, by omega, by omega, rfl, ⟨by simpa using HO1.out⟩, HT2, HB2⟩
      case round =>
        clear HT2 HB2 HO1
        obtain ⟨z, D, hz0, hz1, rfl, HO, HT, HB⟩ := hrel
        by_cases hlt5 : z < l5.length
        · obtain ⟨ad, e0, hc00⟩ := Kd.at_string HR5.out z hz0 hlt5
          cases e0
          replace hc00 := (HB.out.cell (World.block_lt_of_cell? w _ hc00)).trans hc00
          have d0 : decide (0 ≤ z) = true := decide_eq_true hz0
          have d1 : decide (z < (l5.length : Int)) = true := decide_eq_true hlt5
          have HSZ := Aside0.mk (HS5.out _ (rdS_mem hz0 hlt5))
          have HST := Aside0.mk (foldS_int stepN F1 l5 z hz0 hlt5)
          obtain ⟨y, hy⟩ : ∃ y, y = rdOf ByteArray.empty l5 z := ⟨_, rfl⟩
          rw [← hy] at hc00 HSZ HST
          clear hy
          obtain ⟨g, hg⟩ : ∃ g, g = (((l5.take z.toNat).foldl stepN F1) y.data.toList).getD KE.zero := ⟨_, rfl⟩
          have hv := tied_at HT.out y.data.toList
          rw [← hg] at hv
          have hstep := stepN_eq ((l5.take z.toNat).foldl stepN F1) y g hg
          obtain ⟨g0, g1, g2, g3, g4, g5, g6⟩ := g
          have HV : Aside0 (D.atKey (.string y.data.toList) (.held KE.zero.val) = .held (.agg #[.int .u32 g0, .string g1, .int .u8 g2, .int .i64 g3, .int .i64 g4, .bool g5, .bool g6])) := ⟨hv⟩
          have HSTEP := Aside0.mk hstep
          clear hv hstep hg
          have htn : (z + 1).toNat = z.toNat + 1 := by omega
          have HTN := Aside0.mk htn
          clear htn
          have turn : TiedF (D.put (.string y.data.toList) (.held (KE.val ⟨g0, g1, g2, g3, g4, g5, true⟩))) ((l5.take (z + 1).toNat).foldl stepN F1) := by
            rw [HST.out, HSTEP.out]
            exact tied_put HT.out _ _
          have TURN := Aside0.mk turn
          clear turn
          go_wp2_with (first | (at_lookup; refine wpList_lookup_held _ rfl _ _ 48 rfl 9 51 lawK Try.underlying48 KE.zero.val (zeroK _) w.heap.size (l0.length + z.toNat) D rfl HO.out _ _ rfl (keyS HSZ.out) _ HV.out ?_) | (at_mapUpdate; refine wpList_mapUpdate_own _ rfl _ _ _ 48 rfl 9 51 lawK Try.underlying48 RV w.heap.size (l0.length + z.toNat) D rfl (HO.out.alloc _) (by unfold maxLen; omega) _ _ _ rfl rfl (keyS HSZ.out) (.held (KE.val ⟨g0, g1, g2, g3, g4, g5, true⟩)) [] rfl ?_; intro w1 hown1 hgrow1) | go_in)
          go_roundw
          case rel => exact ⟨z + 1, _, by omega, by omega, by go_num, ⟨by rw [HTN.out]; exact hown1⟩, TURN, ⟨(HB.out.alloc HB.out.size _).grown hgrow1 (by have := HB.out.size; simp; omega) (fun j hj => by cases hj; exact Nat.le_refl _)⟩⟩
          case measure => simp [intOf]; omega
        · obtain rfl : z = l5.length := by omega
          have HT0 := HT.out
          rw [Int.toNat_natCast, List.take_of_length_le (Nat.le_refl _)] at HT0
          have HT1 := Aside0.mk HT0
          have HO1 := Aside0.mk HO.out
          clear HT HT0 HO
          go_wp2
          go_ret
          exact ⟨_, _, rfl, HO1.out, by omega, by unfold knownF; rw [← HF1.out]; exact HT1.out, HB.out⟩
/-! The keys, one behind the other -/
theorem wpListIn_lookup_held {F : Fence} {nF : Nat} {P : Program} (w : World) {ops : Array Oper} {rest : List Oper} {o : Oper} {a : Act} {Q : Exit → Act → World → Prop}
    (hg : o.guard = none) (m x : Operand) (t : TypeId) (hop : o.op = Op.lookup t m x false)
    (k e : TypeId) (K : Go.Maps.Keyed P k) (ht : P.underlying t = some (.map k e)) (z : Value) (hz : (zeroValue e).run P w = .ok z w) (b n : Nat) (D : DataW Value)
    (hm : a.eval m = .map (some b)) (hown : w.ownsMap P k RV b n D) (key : Value) (kl : Lit) (hx : a.eval x = key) (hkey : keyOf P k key = some kl) (v : Value) (hv : D.atKey kl (.held z) = .held v)
    (hK : wpListIn F nF P ops Q rest (a.put o.dst v) w) :
    wpListIn F nF P ops Q (o :: rest) a w := by
  refine wpListIn_plain hg fun K' hK' => ?_
  obtain ⟨v', ps, hrun, hR⟩ := hown.lookup K ht hz (zd := .held z) (zp := []) rfl hkey
  rw [hv] at hR
  have hvv : v' = v := by
    unfold RV at hR
    injection hR with hR
    injection hR with hR
    injection hR
  subst hvv
  unfold Oper.wpIn
  refine ⟨by simp [Oper.about, hop], ?_⟩
  rw [Oper.semAt_plain F _ _ (by rw [hop]; intro c hc'; cases hc')]
  simp [execOp, hop, hm, hx, hrun, Result.andThen]
  exact hK' _ _ hK
def KpS (n₀ : Nat) (W W' : World) : Prop :=
  Below n₀ W W' ∧ KeepsWalks W W' ∧ ∀ (b : Nat) (cells : Array Value) (t : TypeId), (t = 9 ∨ t = 48) → W.heap[b]? = some (.cells cells t (0, 0)) → W'.heap[b]? = some (.cells cells t (0, 0))
theorem kpS_t {n₀ : Nat} {A B C : World} (h : KpS n₀ A B) (k : KpS n₀ B C) : KpS n₀ A C := ⟨h.1.trans k.1, h.2.1.trans k.2.1, fun b cs t ht hc => k.2.2 b cs t ht (h.2.2 b cs t ht hc)⟩
theorem kpS_b {n₀ : Nat} {w : World} (hn : n₀ ≤ w.heap.size) (W : World) (l : Nat) (o o' : Obj) (hl : w.heap.size ≤ l) (h : W.heap[l]? = some o) (hc : o.isCells = false) (hw : o.isWalk = false) : KpS n₀ W (W.putObj l o') := by
  refine ⟨belowK_b hn W l o o' hl h hc hw, KeepsWalks.putObj _ h hw, fun b cs t _ hb => ?_⟩
  have hne : b ≠ l := by
    rintro rfl
    rw [h] at hb
    injection hb with hb
    subst hb
    cases hc
  exact (World.putObj_heap_other hne).trans hb
abbrev PK := ByteArray × KE
def encK (p : PK) : Array Value := #[.string p.1, p.2.val]
def pairsOf (f : List UInt8 → Option KE) (names : List (List UInt8)) : List PK := names.map fun n => ((⟨n.toArray⟩ : ByteArray), (f n).getD KE.zero)
theorem pairs_take (f : List UInt8 → Option KE) (names : List (List UInt8)) (x : Int) (h0 : 0 ≤ x) (h : x < names.length) : (pairsOf f names).take (x + 1).toNat = (pairsOf f names).take x.toNat ++ [((⟨(names.getD x.toNat []).toArray⟩ : ByteArray), (f (names.getD x.toNat [])).getD KE.zero)] := by
  have hn : x.toNat < names.length := by omega
  rw [show (x + 1).toNat = x.toNat + 1 by omega]
  unfold pairsOf
  rw [← List.map_take, ← List.map_take, List.take_succ_eq_append_getElem hn, List.map_append, List.getD_eq_getElem?_getD, List.getElem?_eq_getElem hn]
  rfl
theorem grown_of_below {W W' : World} (h : Below W.heap.size W W') : W.grownBy W' none := ⟨h.os, h.tape, h.output, h.size, fun k hk _ => h.block k hk⟩
theorem ownsMap_block {w w' : World} {b n : Nat} {D : DataW Value} (h : w.ownsMap Try.prog 9 RV b n D) (hb : w'.heap[b]? = w.heap[b]?) : w'.ownsMap Try.prog 9 RV b n D := by
  obtain ⟨es, clock, h1, h2⟩ := h
  exact ⟨es, clock, hb.trans h1, h2⟩
theorem ownsMap_walks {w w' : World} {b n : Nat} {D : DataW Value} (h : w.ownsMap Try.prog 9 RV b n D) (hb : KeepsWalks w w') : w'.ownsMap Try.prog 9 RV b n D := by
  obtain ⟨es, clock, h1, h2⟩ := h
  exact ⟨es, clock, hb.same b _ h1 rfl, h2⟩
theorem cell_of_block {w : World} {b : Nat} {cs : Array Value} {t : TypeId} (h : w.heap[b]? = some (.cells cs t (0, 0))) (i : Nat) : w.cell? ⟨b, i, none⟩ = cs[i]? := by
  simp [World.cell?, h]
theorem row_at {w : World} {base : Nat} {v : Value} {names : List (List UInt8)} (h : w.ownsRow base 9 1 v names.length (names.map encStr)) :
    (names = [] ∧ v = .slice none 0 0) ∨ ∃ g cap cur, v = .slice (some ⟨g, 0, none⟩) names.length cap ∧ w.heap[g]? = some (.cells cur 9 (0, 0)) ∧ ∀ k, k < names.length → cur[k]? = some (.string ⟨(names.getD k []).toArray⟩) := by
  obtain ⟨h1, h2⟩ := h
  rcases h2 with ⟨hv, h0⟩ | ⟨g, cap, cur, hv, _, hh, _, _, _, ht⟩
  · exact .inl ⟨List.length_eq_zero_iff.1 h0, hv⟩
  · refine .inr ⟨g, cap, cur, hv, hh, fun k hk => ?_⟩
    rw [Nat.mul_one] at ht
    have h3 : (cur.toList.take names.length)[k]? = (names.map encStr)[k]? := by rw [ht]
    rw [List.getElem?_take_of_lt hk, List.getElem?_map, List.getElem?_eq_getElem hk, Array.getElem?_toList] at h3
    rw [h3]
    simp [encStr, List.getElem?_eq_getElem hk]
set_option maxRecDepth 100000 in
set_option maxHeartbeats 2000000 in
theorem rising_stops (n₀ Bn B nn : Nat) (D : DataW Value) (f : List UInt8 → Option KE) (w : World) (hn₀ : n₀ ≤ w.heap.size) (hBn : w.heap[Bn]? = some (.cells #[.map (some B)] 48 (0, 0))) (hown : w.ownsMap Try.prog 9 RV B nn D) (hT : TiedF D f) (hnn : nn ≤ 1000000) (hsz : ∀ n ∈ Go.strKeys D, n.length ≤ 9223372036854775807) :
    SeqStopsK Fence.wide 6 Try.prog 19 #[.pointer (some ⟨Bn, 0, none⟩)] encK (KpS n₀) (fun ys => ys = pairsOf f ((Go.strKeys D).mergeSort Go.leB)) (fun pre => pre <+: pairsOf f ((Go.strKeys D).mergeSort Go.leB)) (pairsOf f ((Go.strKeys D).mergeSort Go.leB)).length w := fun l J Jx W hW hJ hJx hY h0 => by
  have hownW : W.ownsMap Try.prog 9 RV B nn D := ownsMap_block hown (hW.block B hown.lt)
  have hBnW : W.heap[Bn]? = some (.cells #[.map (some B)] 48 (0, 0)) := (hW.block Bn (Array.getElem?_eq_some_iff.1 hBn).1).trans hBn
  have hcell : W.cell? ⟨Bn, 0, none⟩ = some (.map (some B)) := by rw [cell_of_block hBnW]; rfl
  have hsize := hownW.size_le
  obtain ⟨names, hn⟩ : ∃ names, names = (Go.strKeys D).mergeSort Go.leB := ⟨_, rfl⟩
  rw [← hn] at hY ⊢
  have HN := Aside0.mk hn
  clear hn
  have HY := Aside0.mk hY
  have HSZ := Aside0.mk hsz
  have HT := Aside0.mk hT
  have HJ := Aside0.mk hJ
  have HO := Aside0.mk hownW
  have HBN := Aside0.mk hBnW
  have H0 := Aside0.mk h0
  clear hY hsz hT hJ hJx hownW hBnW hW hBn hown h0
  refine callsIn_of_wp Try.func19 rfl trivial ?_ rfl
  simp only [Try.ntmps19, List.size_toArray, List.length_cons, List.length_nil, Nat.reduceAdd, Nat.reduceSub, Array.replicate_succ, Array.replicate_zero, List.push_toArray, List.append_toArray, List.nil_append, List.cons_append]
  gi_wp2_with fail
  refine ⟨trivial, ?_⟩
  refine (Keys.maps_Keys _ _).mono ?_
  rintro e w' ⟨rfl, rfl⟩
  gi_wp2_with fail
  refine ⟨trivial, ?_⟩
  refine (Keys.sorted_keys B nn D RV W HO.out (by unfold maxLen; omega) (by omega)).mono ?_
  rintro e w' ⟨v, ss, rfl, hS, hrow, hnil, hb⟩
  have HJ0 : Aside0 (J [] w') := ⟨HJ.out _ _ _ none (HJ.out _ _ _ none H0.out (World.grownBy_alloc W _ none) (fun r e => by cases e)) (grown_of_below hb) (fun r e => by cases e)⟩
  have hnames : ss.mergeSort (fun x y => decide (x ≤ y)) = names := by rw [HN.out]; exact Go.mergeSort_of_perm hS
  have hlen : ss.length = names.length := by rw [← hnames, List.length_mergeSort]
  rw [hnames, hlen] at hrow
  have hmem : ∀ n ∈ names, n.length ≤ 9223372036854775807 := fun n h => HSZ.out n (by rw [HN.out] at h; exact List.mem_mergeSort.1 h)
  have hsz2 : names.length ≤ 1000000 := by
    have e1 : names.length = (Go.strKeys D).length := by rw [HN.out, List.length_mergeSort]
    have e2 : (Go.strKeys D).length = Maps.size D := by
      obtain ⟨es, rfl⟩ := HT.out.1
      exact List.length_map _
    omega
  have HB : Aside0 (Below W.heap.size W w') := ⟨((Below.refl _ W).alloc (Nat.le_refl _) _).trans (hb.mono (by simp))⟩
  have HMEM := Aside0.mk hmem
  clear hS hnames hlen HN HSZ HJ H0 hb hnil hmem
  rcases row_at hrow with ⟨h0, hv⟩ | ⟨g, cap, cur, hv, hh, hat⟩
  · subst hv
    subst h0
    clear hrow
    gi_wp2
    gi_loopw [9] (fun i wr => i = .int .i64 0 ∧ Aside0 (J [] wr)) (fun _ _ => 0)
    case atStart => exact ⟨rfl, HJ0⟩
    case round =>
      obtain ⟨rfl, HJ1⟩ := hrel
      gi_wp2
      go_end0
      exact ⟨⟨_, rfl⟩, .inl ⟨[], rfl, HJ1.out⟩⟩
  · subst hv
    have HH := Aside0.mk hh
    have HAT := Aside0.mk hat
    clear hh hat hrow
    gi_wp2
    have HBN1 : Aside0 (w'.heap[Bn]? = some (.cells #[.map (some B)] 48 (0, 0))) := ⟨(HB.out.block Bn (Array.getElem?_eq_some_iff.1 HBN.out).1).trans HBN.out⟩
    have HO1 : Aside0 (w'.ownsMap Try.prog 9 RV B nn D) := ⟨ownsMap_block HO.out (HB.out.block B HO.out.lt)⟩
    clear HBN HO HB hcell
    gi_loopw [9] (fun i wr => ∃ x : Int, 0 ≤ x ∧ x ≤ names.length ∧ i = .int .i64 x ∧ Aside0 (J ((pairsOf f names).take x.toNat) wr) ∧ Aside0 (wr.heap[g]? = some (.cells cur 9 (0, 0))) ∧ Aside0 (wr.heap[Bn]? = some (.cells #[.map (some B)] 48 (0, 0))) ∧ Aside0 (wr.ownsMap Try.prog 9 RV B nn D)) (fun i _ => names.length - (intOf i).toNat)
    case atStart => exact ⟨0, by omega, by omega, rfl, HJ0, HH, HBN1, HO1⟩
    case round =>
      clear HJ0 HH HBN1 HO1
      obtain ⟨x, hx0, hx1, rfl, HJ, HH, HBN, HO⟩ := hrel
      by_cases hlt : x < names.length
      · have hcell : wr.cell? ⟨Bn, 0, none⟩ = some (.map (some B)) := by rw [cell_of_block HBN.out]; rfl
        obtain ⟨nm, hnm⟩ : ∃ nm, nm = names.getD x.toNat [] := ⟨_, rfl⟩
        have hname : wr.cell? ⟨g, x.toNat, none⟩ = some (.string ⟨nm.toArray⟩) := by rw [cell_of_block HH.out, HAT.out x.toNat (by omega), hnm]
        have hmem : nm ∈ names := by
          rw [hnm, List.getD_eq_getElem?_getD, List.getElem?_eq_getElem (show x.toNat < names.length by omega)]
          exact List.getElem_mem _
        have HSZ : Aside0 ((⟨nm.toArray⟩ : ByteArray).size ≤ 9223372036854775807) := ⟨by have := HMEM.out nm hmem; simpa [ByteArray.size] using this⟩
        have d0 : decide (0 ≤ x) = true := decide_eq_true hx0
        have d1 : decide (x < (names.length : Int)) = true := decide_eq_true hlt
        have htk := pairs_take f names x hx0 hlt
        rw [← hnm] at htk
        obtain ⟨q, hq⟩ : ∃ q, q = (f nm).getD KE.zero := ⟨_, rfl⟩
        have hv := tied_at HT.out nm
        rw [← hq] at hv htk
        obtain ⟨g0, g1, g2, g3, g4, g5, g6⟩ := q
        have HV : Aside0 (D.atKey (.string (⟨nm.toArray⟩ : ByteArray).data.toList) (.held KE.zero.val) = .held (.agg #[.int .u32 g0, .string g1, .int .u8 g2, .int .i64 g3, .int .i64 g4, .bool g5, .bool g6])) := ⟨hv⟩
        have HTK := Aside0.mk htk
        have hlen : ((pairsOf f names).take x.toNat).length < (pairsOf f names).length := by
          rw [List.length_take]
          unfold pairsOf
          rw [List.length_map]
          omega
        obtain ⟨fn, tmps, assign, body, hy, hR⟩ := HY.out _ ((⟨nm.toArray⟩ : ByteArray), (⟨g0, g1, g2, g3, g4, g5, g6⟩ : KE)) wr HJ.out hlen
        dsimp only [encK, KE.val] at hy
        clear hv hq htk hlen hnm hmem
        gi_wp2_with (gi_at_lookup; refine wpListIn_lookup_held _ rfl _ _ 48 rfl 9 51 lawK Try.underlying48 KE.zero.val (zeroK _) B nn D rfl HO.out _ _ rfl (keyS HSZ.out) _ HV.out ?_)
        refine hR.mono ?_
        rintro e W3 (⟨rfl, hJ3, hk3⟩ | ⟨rfl, hJx3⟩)
        · have HJ3 := Aside0.mk hJ3
          have HK3 := Aside0.mk hk3
          clear hJ3 hk3 hR hy
          gi_wp2
          go_roundw
          case rel => exact ⟨x + 1, by omega, by omega, by go_num, ⟨by rw [HTK.out]; exact HJ3.out⟩, ⟨HK3.out.2.2 _ _ _ (.inl rfl) HH.out⟩, ⟨HK3.out.2.2 _ _ _ (.inr rfl) HBN.out⟩, ⟨ownsMap_walks HO.out HK3.out.2.1⟩⟩
          case measure => simp [intOf]; omega
        · have HJx3 := Aside0.mk hJx3
          clear hJx3 hR hy
          gi_wp2
          refine bodyPost_ret (results_none rfl _ _ _) rfl ?_
          exact ⟨⟨_, rfl⟩, .inr ⟨_, by rw [← HTK.out]; exact List.take_prefix _ _, HJx3.out⟩⟩
      · obtain rfl : x = names.length := by omega
        have hfin : (pairsOf f names).take ((names.length : Int)).toNat = pairsOf f names := List.take_of_length_le (by unfold pairsOf; rw [List.length_map]; omega)
        have HF := Aside0.mk hfin
        clear hfin
        gi_wp2
        go_end0
        exact ⟨⟨_, rfl⟩, .inl (by have := HJ.out; rwa [HF.out] at this)⟩
/-! Step itself -/
def cellsA (x : S36) : List Value := [.int .u32 x.f0, .string x.f1, .int .u8 x.f2, .int .i64 x.f3, .int .i64 x.f4]
def bodyF (rule fm rp at_ : Int) (x : PK) : Option S36 :=
  if x.2.holds = true then some ⟨rule, x.1, if wrap64 (at_ - (if x.2.had = true ∧ x.2.state ≠ 0 then x.2.since else at_)) ≥ fm then 2 else 1, if x.2.had = true ∧ x.2.state ≠ 0 then x.2.since else at_, if x.2.had = true then x.2.told else -1⟩
  else if 0 ≤ (if x.2.had = true then x.2.told else -1) ∧ wrap64 (at_ - (if x.2.had = true then x.2.told else -1)) < rp then some ⟨rule, x.1, 0, 0, if x.2.had = true then x.2.told else -1⟩ else none
def outF (rule fm rp at_ : Int) (pre : List PK) : List S36 := pre.filterMap (bodyF rule fm rp at_)
theorem outF_some {rule fm rp at_ : Int} {pre : List PK} {x : PK} {y : S36} (h : bodyF rule fm rp at_ x = some y) : outF rule fm rp at_ (pre ++ [x]) = outF rule fm rp at_ pre ++ [y] := by
  unfold outF
  rw [List.filterMap_append, List.filterMap_cons, h]
  rfl
theorem outF_none {rule fm rp at_ : Int} {pre : List PK} {x : PK} (h : bodyF rule fm rp at_ x = none) : outF rule fm rp at_ (pre ++ [x]) = outF rule fm rp at_ pre := by
  unfold outF
  rw [List.filterMap_append, List.filterMap_cons, h, List.filterMap_nil, List.append_nil]
theorem outF_len (rule fm rp at_ : Int) (pre : List PK) : (outF rule fm rp at_ pre).length ≤ pre.length := List.length_filterMap_le _ _
/-- What holds between two rounds: the four numbers in their boxes, the slice that is made, in its own, and nothing that lay ahead of the call has turned. -/
def StepI (w : World) (rule fm rp at_ : Int) (pre : List PK) (W : World) : Prop :=
  ((Boxed W w.heap.size 22 (.int .u32 rule) ∧ Boxed W (w.heap.size + 1) 3 (.int .i64 fm)) ∧ (Boxed W (w.heap.size + 2) 3 (.int .i64 rp) ∧ Boxed W (w.heap.size + 3) 3 (.int .i64 at_))) ∧
    (∃ v, Boxed W (w.heap.size + 4) 26 v ∧ W.ownsRow w.heap.size 36 5 v (outF rule fm rp at_ pre).length ((outF rule fm rp at_ pre).flatMap cellsA) ∧ True) ∧ Below w.heap.size w W
theorem stepI_own (w : World) (rule fm rp at_ : Int) (B : Nat) (hB : w.heap.size ≤ B) : OwnFrom B (StepI w rule fm rp at_) :=
  OwnFrom.and (OwnFrom.and (OwnFrom.and (Own.from (boxed_own _ _ _) _) (Own.from (boxed_own _ _ _) _)) (OwnFrom.and (Own.from (boxed_own _ _ _) _) (Own.from (boxed_own _ _ _) _)))
    (OwnFrom.and (Own.from (holdsRow_own w.heap.size (w.heap.size + 4) 26 36 5 (fun pre => (outF rule fm rp at_ pre).length) (fun pre => (outF rule fm rp at_ pre).flatMap cellsA) (fun _ _ => True)) _) (ownFrom_below (Nat.le_refl _) hB))
theorem kpS_refl (n₀ : Nat) (W : World) : KpS n₀ W W := ⟨Below.refl _ _, KeepsWalks.refl _, fun _ _ _ _ h => h⟩
theorem kpS_grown {n₀ : Nat} {W W' : World} {row : Option Nat} (hn : n₀ ≤ W.heap.size) (hg : W.grownBy W' row) (hr : ∀ j, row = some j → n₀ ≤ j ∧ ∃ cs t, W.heap[j]? = some (.cells cs t (0, 0)) ∧ t ≠ 9 ∧ t ≠ 48) : KpS n₀ W W' := by
  refine ⟨(Below.refl _ _).grown hg hn (fun j hj => (hr j hj).1), KeepsWalks.of_grownBy hg (fun j o hj ho => ?_), fun b cs t ht hb => ?_⟩
  · obtain ⟨-, cs, t, hc, -⟩ := hr j hj
    rw [hc] at ho
    injection ho with ho
    subst ho
    rfl
  · have hlt : b < W.heap.size := (Array.getElem?_eq_some_iff.1 hb).1
    refine (hg.block b hlt ?_).trans hb
    intro hj
    obtain ⟨-, cs', t', hc, h9, h48⟩ := hr b hj.symm
    rw [hc] at hb
    injection hb with hb
    injection hb with _ hb
    subst hb
    rcases ht with h | h
    · exact h9 h
    · exact h48 h
theorem kpS_alloc {n₀ : Nat} {W : World} (hn : n₀ ≤ W.heap.size) (o : Obj) : KpS n₀ W (W.alloc o) := kpS_grown (row := none) hn (World.grownBy_alloc W o none) (fun j h => by cases h)
theorem flat_snoc (l : List S36) (y : S36) : (l ++ [y]).flatMap cellsA = l.flatMap cellsA ++ cellsA y := by simp
theorem row_typed {W : World} {base e size : Nat} {v : Value} {k : Nat} {xs : List Value} (h : W.ownsRow base e size v k xs) : ∀ j, v.ownBlock = some j → base ≤ j ∧ ∃ cs, W.heap[j]? = some (.cells cs e (0, 0)) := by
  intro j hj
  rcases h.2 with ⟨rfl, _⟩ | ⟨g, cap, cur, rfl, hb, hg, _⟩
  · simp [Value.ownBlock] at hj
  · have : g = j := by simpa [Value.ownBlock] using hj
    subst this
    exact ⟨hb, cur, hg⟩
/-- A round that keeps an alert: its ends. -/
theorem step_end {w W w1 : World} {rule fm rp at_ : Int} {pre : List PK} {x : PK} {y : S36} {v v' : Value} {o1 tmp : Obj} {B0 : Nat} (hI : StepI w rule fm rp at_ pre W) (hy : bodyF rule fm rp at_ x = some y)
    (hv : Boxed W (w.heap.size + 4) 26 v) (hrow : W.ownsRow w.heap.size 36 5 v (outF rule fm rp at_ pre).length ((outF rule fm rp at_ pre).flatMap cellsA))
    (hown' : w1.ownsRow w.heap.size 36 5 v' ((outF rule fm rp at_ pre).length + 1) ((outF rule fm rp at_ pre).flatMap cellsA ++ cellsA y)) (hgrow : ((W.alloc o1).alloc tmp).grownBy w1 v.ownBlock) :
    Boxed w1 (w.heap.size + 4) 26 v ∧ (KeepsFrom B0 W (w1.setCell ⟨w.heap.size + 4, 0, none⟩ v') ∧ KpS w.heap.size W (w1.setCell ⟨w.heap.size + 4, 0, none⟩ v') ∧ StepI w rule fm rp at_ (pre ++ [x]) (w1.setCell ⟨w.heap.size + 4, 0, none⟩ v')) := by
  obtain ⟨⟨⟨b0, b1⟩, b2, b3⟩, -, hB⟩ := hI
  have hsz := hB.size
  obtain ⟨hv1, hv2, hr2, hk2, hb2⟩ := (hv.alloc o1).appended (by decide) (hrow.alloc o1) (by simp; omega) (by omega) hown' hgrow
  have hb3 : Below w.heap.size W (w1.setCell ⟨w.heap.size + 4, 0, none⟩ v') := ((Below.refl _ W).alloc hsz o1).trans hb2
  have far : ∀ (b : Nat) (t : TypeId) (u : Value), b ≠ w.heap.size + 4 → t ≠ 36 → Boxed W b t u → Boxed (w1.setCell ⟨w.heap.size + 4, 0, none⟩ v') b t u := by
    intro b t u hb ht hx
    refine Boxed.other (Boxed.kept ((hx.alloc o1).alloc tmp) hgrow ?_) hb _
    exact Boxed.not_row ((hx.alloc o1).alloc tmp) ht ((hrow.alloc o1).alloc tmp)
  have hkp : KpS w.heap.size W (w1.setCell ⟨w.heap.size + 4, 0, none⟩ v') := by
    refine kpS_t (kpS_alloc hsz o1) (kpS_t (kpS_alloc (by simp; omega) tmp) (kpS_t (kpS_grown (by simp; omega) hgrow (fun j hj => ?_)) (kpS_grown (row := some (w.heap.size + 4)) ?_ (grownBy_setCell' w1 _ v') (fun j hj => ?_))))
    · obtain ⟨h1, cs, h2⟩ := row_typed ((hrow.alloc o1).alloc tmp) j hj
      exact ⟨h1, cs, 36, h2, by decide, by decide⟩
    · have := hv1.lt; omega
    · cases hj
      exact ⟨by omega, _, 26, hv1, by decide, by decide⟩
  refine ⟨hv1, ((KeepsOthers.alloc W o1).trans hk2).from _, hkp, ⟨⟨far _ _ _ (by omega) (by decide) b0, far _ _ _ (by omega) (by decide) b1⟩, far _ _ _ (by omega) (by decide) b2, far _ _ _ (by omega) (by decide) b3⟩, ⟨v', hv2, ?_, trivial⟩, hB.trans hb3⟩
  rw [outF_some hy, flat_snoc, List.length_append, List.length_singleton]
  exact hr2
theorem step_skip {w W : World} {rule fm rp at_ : Int} {pre : List PK} {x : PK} (o1 : Obj) {B0 : Nat} (hI : StepI w rule fm rp at_ pre W) (hy : bodyF rule fm rp at_ x = none) :
    KeepsFrom B0 W (W.alloc o1) ∧ KpS w.heap.size W (W.alloc o1) ∧ StepI w rule fm rp at_ (pre ++ [x]) (W.alloc o1) := by
  have hsz := hI.2.2.size
  obtain ⟨⟨⟨b0, b1⟩, b2, b3⟩, ⟨v, hv, hrow, -⟩, hB⟩ := hI
  refine ⟨(KeepsOthers.alloc W o1).from _, kpS_alloc hsz o1, ⟨⟨b0.alloc _, b1.alloc _⟩, b2.alloc _, b3.alloc _⟩, ⟨v, hv.alloc _, ?_, trivial⟩, hB.alloc hsz _⟩
  rw [outF_none hy]
  exact hrow.alloc _
/-! What the walk comes to, in plain words -/
def bytesLe (x y : List UInt8) : Bool := decide (x ≤ y)
def findA (l : List S36) (rule : Int) (n : List UInt8) : Option S36 := l.find? fun x => decide (x.f0 = rule) && decide (x.f1.data.toList = n)
def hasK (l : List ByteArray) (n : List UInt8) : Bool := l.any fun s => decide (s.data.toList = n)
def baseA (l : List S36) (rule : Int) (keys : List ByteArray) : List (List UInt8) := ((l.filter fun x => decide (x.f0 = rule)).map fun x => x.f1.data.toList) ++ keys.map fun s => s.data.toList
def dedupA : List (List UInt8) → List (List UInt8)
  | [] => []
  | x :: l => if x ∈ dedupA l then dedupA l else x :: dedupA l
theorem mem_dedupA : ∀ (l : List (List UInt8)) (y : List UInt8), y ∈ dedupA l ↔ y ∈ l
  | [], y => by simp [dedupA]
  | x :: l, y => by
    have ih := mem_dedupA l
    unfold dedupA
    by_cases h : x ∈ dedupA l
    · rw [if_pos h, ih y, List.mem_cons]
      constructor
      · exact .inr
      · rintro (rfl | h2)
        · exact (ih y).1 h
        · exact h2
    · rw [if_neg h, List.mem_cons, List.mem_cons, ih y]
theorem nodup_dedupA : ∀ l : List (List UInt8), (dedupA l).Nodup
  | [] => List.nodup_nil
  | x :: l => by
    unfold dedupA
    by_cases h : x ∈ dedupA l
    · rw [if_pos h]; exact nodup_dedupA l
    · rw [if_neg h]; exact List.nodup_cons.2 ⟨h, nodup_dedupA l⟩
def insA (x : List UInt8) : List (List UInt8) → List (List UInt8)
  | [] => [x]
  | y :: l => if Go.leB x y = true then x :: y :: l else y :: insA x l
def sortA : List (List UInt8) → List (List UInt8)
  | [] => []
  | x :: l => insA x (sortA l)
theorem leB_tr (a b c : List UInt8) (h1 : Go.leB a b = true) (h2 : Go.leB b c = true) : Go.leB a c = true := by
  simp only [Go.leB, decide_eq_true_eq] at *
  exact List.le_trans h1 h2
theorem leB_to (a b : List UInt8) : (Go.leB a b || Go.leB b a) = true := by
  simp only [Go.leB, Bool.or_eq_true, decide_eq_true_eq]
  exact List.le_total a b
theorem leB_anti {a b : List UInt8} (h1 : Go.leB a b = true) (h2 : Go.leB b a = true) : a = b := by
  simp only [Go.leB, decide_eq_true_eq] at h1 h2
  exact List.le_antisymm h1 h2
theorem insA_perm (x : List UInt8) : ∀ l, (insA x l).Perm (x :: l)
  | [] => List.Perm.refl _
  | y :: l => by
    unfold insA
    split
    · exact List.Perm.refl _
    · exact ((insA_perm x l).cons y).trans (List.Perm.swap x y l)
theorem sortA_perm : ∀ l, (sortA l).Perm l
  | [] => List.Perm.refl _
  | x :: l => (insA_perm x (sortA l)).trans ((sortA_perm l).cons x)
theorem insA_sorted (x : List UInt8) : ∀ l, l.Pairwise (fun a b => Go.leB a b = true) → (insA x l).Pairwise (fun a b => Go.leB a b = true)
  | [], _ => List.pairwise_singleton _ _
  | y :: l, h => by
    unfold insA
    by_cases hxy : Go.leB x y = true
    · rw [if_pos hxy]
      refine List.pairwise_cons.2 ⟨fun z hz => ?_, h⟩
      rcases List.mem_cons.1 hz with rfl | hz
      · exact hxy
      · exact leB_tr _ _ _ hxy ((List.pairwise_cons.1 h).1 z hz)
    · rw [if_neg hxy]
      have hyx : Go.leB y x = true := by
        have := leB_to x y
        rw [Bool.or_eq_true] at this
        exact this.resolve_left hxy
      refine List.pairwise_cons.2 ⟨fun z hz => ?_, insA_sorted x l (List.pairwise_cons.1 h).2⟩
      rcases List.mem_cons.1 ((insA_perm x l).mem_iff.1 hz) with rfl | hz
      · exact hyx
      · exact (List.pairwise_cons.1 h).1 z hz
theorem sortA_sorted : ∀ l, (sortA l).Pairwise (fun a b => Go.leB a b = true)
  | [] => List.Pairwise.nil
  | x :: l => insA_sorted x _ (sortA_sorted l)
theorem sortA_eq (l : List (List UInt8)) : l.mergeSort Go.leB = sortA l :=
  List.Perm.eq_of_pairwise (le := fun a b => Go.leB a b = true) (fun _ _ _ _ h1 h2 => leB_anti h1 h2) (List.pairwise_mergeSort leB_tr leB_to l) (sortA_sorted l) ((List.mergeSort_perm l Go.leB).trans (sortA_perm l).symm)
def namesA (l : List S36) (rule : Int) (keys : List ByteArray) : List (List UInt8) := sortA (dedupA (baseA l rule keys))
def alertOf (l : List S36) (rule fm rp at_ : Int) (keys : List ByteArray) (n : List UInt8) : Option S36 :=
  if hasK keys n = true then
    some ⟨rule, ⟨n.toArray⟩, if fm ≤ wrap64 (at_ - (match findA l rule n with | none => at_ | some x => if x.f2 = 0 then at_ else x.f3)) then 2 else 1, (match findA l rule n with | none => at_ | some x => if x.f2 = 0 then at_ else x.f3), (match findA l rule n with | none => -1 | some x => x.f4)⟩
  else match findA l rule n with
    | none => none
    | some x => if 0 ≤ x.f4 ∧ wrap64 (at_ - x.f4) < rp then some ⟨rule, ⟨n.toArray⟩, 0, 0, x.f4⟩ else none
def stepL (l : List S36) (rule fm rp at_ : Int) (keys : List ByteArray) : List S36 := (namesA l rule keys).filterMap (alertOf l rule fm rp at_ keys)
def oldK (x : S36) : KE := ⟨x.f0, x.f1, x.f2, x.f3, x.f4, true, false⟩
theorem old_fold (rule : Int) : ∀ (l : List S36) (f : List UInt8 → Option KE), (∀ n k, f n = some k → k.had = true) → ∀ n, (l.foldl (stepF rule) f) n = match f n with | some k => some k | none => (findA l rule n).map oldK
  | [], f, _, n => by
    show f n = _
    cases f n <;> rfl
  | x :: l, f, hf, n => by
    rw [List.foldl_cons]
    have hfind : findA (x :: l) rule n = if x.f0 = rule ∧ x.f1.data.toList = n then some x else findA l rule n := by
      unfold findA
      rw [List.find?_cons]
      by_cases h : x.f0 = rule ∧ x.f1.data.toList = n
      · rw [if_pos h]; simp [h.1, h.2]
      · rw [if_neg h]
        have : (decide (x.f0 = rule) && decide (x.f1.data.toList = n)) = false := by
          rw [Bool.eq_false_iff]; intro e; simp only [Bool.and_eq_true, decide_eq_true_eq] at e; exact h e
        rw [this]
    rw [hfind]
    cases hx : f x.f1.data.toList with
    | some k =>
      have hs : stepF rule f x = f := by
        unfold stepF
        rw [if_neg (by rw [hx]; simp [hf _ k hx])]
      rw [hs, old_fold rule l f hf n]
      by_cases hn : x.f1.data.toList = n
      · rw [← hn, hx]
      · rw [if_neg (fun h => hn h.2)]
    | none =>
      by_cases hr : x.f0 = rule
      · have hs : stepF rule f x = updF f x.f1.data.toList (oldK x) := by
          unfold stepF
          rw [if_pos ⟨hr, by rw [hx]; rfl⟩]
          rfl
        rw [hs, old_fold rule l _ (fun m k hk => ?_) n]
        · unfold updF
          by_cases hn : n = x.f1.data.toList
          · rw [if_pos hn, if_pos ⟨hr, hn.symm⟩, hn, hx]
            rfl
          · rw [if_neg hn, if_neg (fun h => hn h.2.symm)]
        · unfold updF at hk
          by_cases hm : m = x.f1.data.toList
          · rw [if_pos hm] at hk
            cases hk
            rfl
          · rw [if_neg hm] at hk
            exact hf m k hk
      · have hs : stepF rule f x = f := by
          unfold stepF
          rw [if_neg (fun h => hr h.1)]
        rw [hs, old_fold rule l f hf n, if_neg (fun h => hr h.1)]
theorem new_fold : ∀ (keys : List ByteArray) (f : List UInt8 → Option KE) (n : List UInt8), (keys.foldl stepN f) n = if hasK keys n = true then some { (f n).getD KE.zero with holds := true } else f n
  | [], f, n => by rw [if_neg (by simp [hasK])]; rfl
  | s :: keys, f, n => by
    rw [List.foldl_cons, new_fold keys _ n]
    have hk : hasK (s :: keys) n = (decide (s.data.toList = n) || hasK keys n) := rfl
    rw [hk]
    unfold stepN updF
    by_cases hn : n = s.data.toList
    · subst hn
      simp only [if_true, decide_true, Bool.true_or, Option.getD_some]
      split <;> rfl
    · have hn2 : ¬ s.data.toList = n := fun e => hn e.symm
      simp only [if_neg hn, decide_eq_false hn2, Bool.false_or]
theorem known_eq (l : List S36) (rule : Int) (keys : List ByteArray) (n : List UInt8) : knownF l rule keys n = if hasK keys n = true then some { ((findA l rule n).map oldK).getD KE.zero with holds := true } else (findA l rule n).map oldK := by
  unfold knownF
  rw [new_fold, old_fold rule l (fun _ => none) (fun _ _ h => by cases h) n]
theorem body_eq (l : List S36) (rule fm rp at_ : Int) (keys : List ByteArray) (n : List UInt8) : bodyF rule fm rp at_ ((⟨n.toArray⟩ : ByteArray), (knownF l rule keys n).getD KE.zero) = alertOf l rule fm rp at_ keys n := by
  rw [known_eq]
  unfold alertOf bodyF
  cases hk : hasK keys n with
  | true =>
    cases hf : findA l rule n with
    | none => simp [KE.zero]
    | some x => by_cases h2 : x.f2 = 0 <;> simp [oldK, h2]
  | false =>
    cases hf : findA l rule n with
    | none => simp [KE.zero]
    | some x => simp [oldK]
theorem out_eq (l : List S36) (rule fm rp at_ : Int) (keys : List ByteArray) : outF rule fm rp at_ (pairsOf (knownF l rule keys) (namesA l rule keys)) = stepL l rule fm rp at_ keys := by
  unfold outF pairsOf stepL
  rw [List.filterMap_map]
  congr 1
  funext n
  exact body_eq l rule fm rp at_ keys n
theorem base_mem (l : List S36) (rule : Int) (keys : List ByteArray) (n : List UInt8) : n ∈ baseA l rule keys ↔ (knownF l rule keys n).isSome = true := by
  rw [known_eq]
  unfold baseA
  rw [List.mem_append]
  have h1 : (n ∈ keys.map fun s => s.data.toList) ↔ hasK keys n = true := by
    unfold hasK
    rw [List.any_eq_true]
    simp
  have h2 : (n ∈ (l.filter fun x => decide (x.f0 = rule)).map fun x => x.f1.data.toList) ↔ (findA l rule n).isSome = true := by
    unfold findA
    rw [List.find?_isSome]
    simp
    constructor
    · rintro ⟨x, ⟨a, b⟩, c⟩
      exact ⟨x, a, b, c⟩
    · rintro ⟨x, a, b, c⟩
      exact ⟨x, ⟨a, b⟩, c⟩
  rw [h1, h2]
  cases hk : hasK keys n with
  | true => simp
  | false => simp
theorem names_eq {W : World} {B nn : Nat} {D : DataW Value} (l : List S36) (rule : Int) (keys : List ByteArray) (hown : W.ownsMap Try.prog 9 RV B nn D) (hT : TiedF D (knownF l rule keys)) : (Go.strKeys D).mergeSort Go.leB = namesA l rule keys := by
  unfold namesA
  rw [← sortA_eq]
  refine Go.mergeSort_of_perm (List.Perm.symm ?_)
  obtain ⟨es, rfl, hp, -⟩ := hown.entries lawK
  obtain ⟨es', he, hk⟩ := hown.keysOf
  cases he
  refine Go.perm_strKeys hp (fun p hp' => ?_) (nodup_dedupA _) (fun x => ?_)
  · obtain ⟨v, hv⟩ := hk p hp'
    obtain ⟨x, -, hx, -⟩ := Maps.keyOf_str Try.underlying9 hv
    exact ⟨x, hx⟩
  · rw [mem_dedupA, base_mem, (hT.2 x).2]
theorem reps_alerts (w : World) (base : Nat) (ok : Nat → Prop) (l : List S36) : Reps (k36.M w base ok) 5 l (l.flatMap cellsA) := by
  have h : ∀ (n : Nat) (l : List S36), l.length = n → Reps (k36.M w base ok) 5 l (l.flatMap cellsA) := by
    intro n
    induction n with
    | zero =>
      intro l hl
      rw [List.length_eq_zero_iff.1 hl]
      exact Reps.none _ _
    | succ n ih =>
      intro l hl
      have hne : l ≠ [] := by rintro rfl; simp at hl
      have he := List.dropLast_concat_getLast hne
      rw [← he, flat_snoc]
      exact Reps.snoc (ih _ (by rw [List.length_dropLast]; omega)) (k36_mkM w base ok _) rfl
  exact h _ l rfl
theorem alerts_R {w : World} {base : Nat} {v : Value} {l : List S36} (h : w.ownsRow base 36 5 v l.length (l.flatMap cellsA)) : Kd.R k36 36 w base (fun _ => True) v l :=
  ⟨fun _ _ => trivial, l.flatMap cellsA, h, reps_alerts w base _ l⟩
attribute [local go_sem] Oper.semAt_some
def StepPost (l0 : List S36) (rule fm rp at_ : Int) (l5 : List ByteArray) (w : World) (e : Ending) (w' : World) : Prop :=
  ∃ v : Value, e = .returned v ∧ Kd.R k36 36 w' w.heap.size (fun _ => True) v (stepL l0 rule fm rp at_ l5) ∧ Below w.heap.size w w'
theorem infoA36 : (Try.prog.info? 36).map (fun i => (i.zero, i.size, i.bytes)) = some (some (.agg #[.int .u32 0, .string ⟨#[]⟩, .int .u8 0, .int .i64 0, .int .i64 0]), 5, 48) := by kernel_rfl
theorem rising_in (mb : Option Nat) (W : World) : CallsIn Fence.wide 6 Try.prog 17 #[.map mb] W fun e w' => e = .returned (.func (.func 19) #[] #[.pointer (some ⟨W.heap.size, 0, none⟩)]) ∧ w' = W.alloc (.cells #[.map mb] 48) := by
  refine callsIn_of_wp Try.func17 rfl trivial ?_ rfl
  simp only [Try.ntmps17, List.size_toArray, List.length_cons, List.length_nil, Nat.reduceAdd, Nat.reduceSub, Array.replicate_succ, Array.replicate_zero, List.push_toArray, List.append_toArray, List.nil_append, List.cons_append]
  gi_wp2
  go_ret
  exact ⟨rfl, rfl⟩
theorem cells_new1 (W : World) (o1 : Obj) (cs : List Value) (t : TypeId) : ∀ j u, cs[j]? = some u → ((W.alloc o1).alloc (.cells cs.toArray t)).cell? ((⟨W.heap.size + 1, 0, none⟩ : Addr).add j) = some u := by
  intro j u h
  have h1 : ((W.alloc o1).alloc (.cells cs.toArray t)).heap[W.heap.size + 1]? = some (.cells cs.toArray t (0, 0)) := by
    have := World.alloc_heap_new (W.alloc o1) (.cells cs.toArray t)
    rwa [World.size_alloc] at this
  have h2 : ((⟨W.heap.size + 1, 0, none⟩ : Addr).add j) = ⟨W.heap.size + 1, j, none⟩ := by simp [Addr.add]; intro e; exact e.symm
  rw [h2, cell_of_block h1]
  simpa using h
theorem cell_alloc_old {W : World} {a : Addr} {v : Value} (o : Obj) (h : W.cell? a = some v) : (W.alloc o).cell? a = some v := (((Below.refl W.heap.size W).alloc (Nat.le_refl _) o).cell (World.block_lt_of_cell? _ _ h)).trans h
theorem cells_own {β : Type} (B : Nat) (cs : β → Array Value) (t : TypeId) : Own (fun s W => W.heap[B]? = some (.cells (cs s) t (0, 0))) := by
  intro s X Y row hs hg hrow
  refine (hg.block B (Array.getElem?_eq_some_iff.1 hs).1 (fun e => ?_)).trans hs
  obtain ⟨o, ho, hc⟩ := hrow B e.symm
  rw [hs] at ho
  cases ho
  cases hc
theorem keys_short {W : World} {B n : Nat} {D : DataW Value} (h : W.ownsMap Try.prog 9 RV B n D) : ∀ m ∈ Go.strKeys D, m.length ≤ 9223372036854775807 := by
  obtain ⟨es, rfl, hk⟩ := h.keysOf
  intro m hm
  obtain ⟨p, hp, rfl⟩ := List.mem_map.1 hm
  obtain ⟨v, hv⟩ := hk p hp
  obtain ⟨x, -, hx, hl⟩ := Maps.keyOf_str Try.underlying9 hv
  rw [hx]
  exact hl
theorem wz_ (a : Int) : wrap64 (a - a) = 0 := by rw [Int.sub_self]; unfold wrap64; omega
theorem bodyF_old (rule fm rp at_ : Int) (nm : ByteArray) (g0 : Int) (g1 : ByteArray) (g2 g3 g4 : Int) (hs : ¬ g2 = 0) : bodyF rule fm rp at_ (nm, ⟨g0, g1, g2, g3, g4, true, true⟩) = some ⟨rule, nm, if fm ≤ wrap64 (at_ - g3) then 2 else 1, g3, g4⟩ := by simp [bodyF, hs]
theorem bodyF_quiet (rule fm rp at_ : Int) (nm : ByteArray) (g0 : Int) (g1 : ByteArray) (g2 g3 g4 : Int) (hs : g2 = 0) : bodyF rule fm rp at_ (nm, ⟨g0, g1, g2, g3, g4, true, true⟩) = some ⟨rule, nm, if fm ≤ 0 then 2 else 1, at_, g4⟩ := by
  unfold bodyF
  simp only [if_true, hs, ne_eq, not_true_eq_false, and_false, if_false, wz_, ge_iff_le]
theorem bodyF_new (rule fm rp at_ : Int) (nm : ByteArray) (g0 : Int) (g1 : ByteArray) (g2 g3 g4 : Int) : bodyF rule fm rp at_ (nm, ⟨g0, g1, g2, g3, g4, false, true⟩) = some ⟨rule, nm, if fm ≤ 0 then 2 else 1, at_, -1⟩ := by
  unfold bodyF
  simp only [if_true, Bool.false_eq_true, false_and, if_false, wz_, ge_iff_le]
set_option maxRecDepth 100000 in
set_option maxHeartbeats 4000000 in
theorem step_calls (A0 : Option Addr) (c0 : Nat) (l0 : List S36) (rule fm rp at_ : Int) (A5 : Option Addr) (c5 : Nat) (l5 : List ByteArray) (w : World) (hr0 : Kd.C k36 w A0 l0.length l0) (hc0 : l0.length ≤ c0) (hr5 : Kd.C Kd.string w A5 l5.length l5) (hc5 : l5.length ≤ c5)
    (hb : l0.length + l5.length ≤ 1000000) (hs0 : ∀ x ∈ l0, x.f1.size ≤ 9223372036854775807) (hs5 : ∀ s ∈ l5, s.size ≤ 9223372036854775807) :
    Calls Try.prog 11 #[.slice A0 l0.length c0, .int .u32 rule, .int .i64 fm, .int .i64 rp, .int .i64 at_, .slice A5 l5.length c5] w (StepPost l0 rule fm rp at_ l5 w) := by
  have HR0 := Aside0.mk hr0
  have HR5 := Aside0.mk hr5
  have HS0 := Aside0.mk hs0
  have HS5 := Aside0.mk hs5
  clear hr0 hr5 hs0 hs5
  obtain ⟨i0, hi, hz0, hz1, hz2⟩ := info_parts infoA36
  refine (callsIn_wide (n := 7)).1 ?_
  refine callsIn_of_wp_marks Try.func11 rfl trivial ?_ rfl
  simp only [Try.ntmps11, List.size_toArray, List.length_cons, List.length_nil, Nat.reduceAdd, Nat.reduceSub, Array.replicate_succ, Array.replicate_zero, List.push_toArray, List.append_toArray, List.nil_append, List.cons_append]
  gi_wp2_with fail
  refine ⟨trivial, ?_⟩
  obtain ⟨w1, hw1⟩ : ∃ w1, w1 = ((((w.alloc (.cells #[.int .u32 rule] 22)).alloc (.cells #[.int .i64 fm] 3)).alloc (.cells #[.int .i64 rp] 3)).alloc (.cells #[.int .i64 at_] 3)).alloc (.cells #[.slice none 0 0] 26) := ⟨_, rfl⟩
  rw [← hw1]
  have hz5 : w1.heap.size = w.heap.size + 5 := by rw [hw1]; simp
  have hB1 : Below w.heap.size w w1 := by
    rw [hw1]
    exact (((((Below.refl _ w).alloc (Nat.le_refl _) _).alloc (by simp) _).alloc (by simp; omega) _).alloc (by simp; omega) _).alloc (by simp; omega) _
  have bx0 : Boxed w1 w.heap.size 22 (.int .u32 rule) := by rw [hw1]; exact ((((Boxed.new w 22 _).alloc _).alloc _).alloc _).alloc _
  have bx1 : Boxed w1 (w.heap.size + 1) 3 (.int .i64 fm) := by
    have := (((Boxed.new (w.alloc (.cells #[.int .u32 rule] 22)) 3 (.int .i64 fm)).alloc (.cells #[.int .i64 rp] 3)).alloc (.cells #[.int .i64 at_] 3)).alloc (.cells #[.slice none 0 0] 26)
    rw [hw1]; simpa using this
  have bx2 : Boxed w1 (w.heap.size + 2) 3 (.int .i64 rp) := by
    have := ((Boxed.new ((w.alloc (.cells #[.int .u32 rule] 22)).alloc (.cells #[.int .i64 fm] 3)) 3 (.int .i64 rp)).alloc (.cells #[.int .i64 at_] 3)).alloc (.cells #[.slice none 0 0] 26)
    rw [hw1]; simpa using this
  have bx3 : Boxed w1 (w.heap.size + 3) 3 (.int .i64 at_) := by
    have := (Boxed.new (((w.alloc (.cells #[.int .u32 rule] 22)).alloc (.cells #[.int .i64 fm] 3)).alloc (.cells #[.int .i64 rp] 3)) 3 (.int .i64 at_)).alloc (.cells #[.slice none 0 0] 26)
    rw [hw1]; simpa using this
  have bx4 : Boxed w1 (w.heap.size + 4) 26 (.slice none 0 0) := by
    have := Boxed.new ((((w.alloc (.cells #[.int .u32 rule] 22)).alloc (.cells #[.int .i64 fm] 3)).alloc (.cells #[.int .i64 rp] 3)).alloc (.cells #[.int .i64 at_] 3)) 26 (.slice none 0 0)
    rw [hw1]; simpa using this
  clear hw1
  refine (callsIn_wide.2 (known_calls A0 c0 l0 rule A5 c5 l5 w1 (Kd.C_below HR0.out hB1) hc0 (Kd.C_below HR5.out hB1) hc5 hb HS0.out HS5.out)).mono ?_
  rintro e w2 ⟨nn, D, rfl, hown, hnn, hT, hB2⟩
  rw [hz5] at hown hB2 ⊢
  have hlt2 := hown.lt
  gi_wp2_with fail
  refine ⟨trivial, ?_⟩
  refine (rising_in _ _).mono ?_
  rintro e w3 ⟨rfl, rfl⟩
  gi_wp2_with fail
  have hBn : (w2.alloc (.cells #[.map (some (w.heap.size + 5))] 48)).heap[w2.heap.size]? = some (.cells #[.map (some (w.heap.size + 5))] 48 (0, 0)) := World.alloc_heap_new w2 _
  have hown3 := hown.alloc (.cells #[.map (some (w.heap.size + 5))] 48)
  have hB3 : Below (w.heap.size + 5) w1 (w2.alloc (.cells #[.map (some (w.heap.size + 5))] 48)) := hB2.alloc (by have := hB2.size; omega) _
  have keepB : ∀ {b t : Nat} {u : Value}, Boxed w1 b t u → b < w.heap.size + 5 → Boxed (w2.alloc (.cells #[.map (some (w.heap.size + 5))] 48)) b t u := fun hx hb => (hB3.block _ hb).trans hx
  have hBw : Below w.heap.size w (w2.alloc (.cells #[.map (some (w.heap.size + 5))] 48)) := hB1.trans (hB3.mono (by omega))
  have hI0 : StepI w rule fm rp at_ [] (w2.alloc (.cells #[.map (some (w.heap.size + 5))] 48)) := ⟨⟨⟨keepB bx0 (by omega), keepB bx1 (by omega)⟩, keepB bx2 (by omega), keepB bx3 (by omega)⟩, ⟨_, keepB bx4 (by omega), World.ownsRow_nil _ _ _ _, trivial⟩, hBw⟩
  have hsize3 : (w2.alloc (.cells #[.map (some (w.heap.size + 5))] 48)).heap.size = w2.heap.size + 1 := by simp
  have hplen : (pairsOf (knownF l0 rule l5) ((Go.strKeys D).mergeSort Go.leB)).length ≤ 1000000 := by
    have e1 : (pairsOf (knownF l0 rule l5) ((Go.strKeys D).mergeSort Go.leB)).length = (Go.strKeys D).length := by unfold pairsOf; rw [List.length_map, List.length_mergeSort]
    have e2 : (Go.strKeys D).length = Maps.size D := by
      obtain ⟨es, rfl⟩ := hT.1
      exact List.length_map _
    have := hown.size_le
    omega
  obtain ⟨W0, hW0⟩ : ∃ W0, W0 = w2.alloc (.cells #[.map (some (w.heap.size + 5))] 48) := ⟨_, rfl⟩
  rw [← hW0] at hBn hown3 hB3 hBw hI0 hsize3 ⊢
  clear hW0 keepB hB2 hB3 bx0 bx1 bx2 bx3 bx4 hown
  have HNM := Aside0.mk (names_eq l0 rule l5 hown3 hT)
  have HPL := Aside0.mk hplen
  have HI0 := Aside0.mk hI0
  have hBs := hBw.size
  clear hplen hI0 HR0 HR5 HS0 HS5
  refine wpIn_rangeFunc_ownH (F := Fence.wide) (n := 7) rfl (by decide) (gf := 19) (lb := #[.pointer (some ⟨w2.heap.size, 0, none⟩)]) rfl trivial (enters_of Try.func19 (by kernel_rfl) rfl)
    (rising_stops w.heap.size w2.heap.size (w.heap.size + 5) nn D (knownF l0 rule l5) W0 hBs hBn hown3 hT (by omega) (keys_short hown3)) (fun h k => kpS_t h k) (kpS_b hBs) (Below.refl _ _) (fun _ => rfl)
    (StepI w rule fm rp at_) (fun _ _ _ => False) (stepI_own w rule fm rp at_ _ hBs) (fun _ _ _ _ _ hs _ _ => hs) HI0.out
    (fun x a' W => ∃ Bx, w.heap.size + 4 < Bx ∧ W.heap[Bx]? = some (.cells #[.int .u32 x.2.rule, .string x.2.key, .int .u8 x.2.state, .int .i64 x.2.since, .int .i64 x.2.told, .bool x.2.had, .bool x.2.holds] 51 (0, 0)) ∧ a' = { tmps := #[.slice A0 l0.length c0, .int .u32 rule, .int .i64 fm, .int .i64 rp, .int .i64 at_, .slice A5 l5.length c5, undef, .pointer (some ⟨w.heap.size, 0, none⟩), .pointer (some ⟨w.heap.size + 1, 0, none⟩), .pointer (some ⟨w.heap.size + 2, 0, none⟩), .pointer (some ⟨w.heap.size + 3, 0, none⟩), undef, .slice none 0 0, .pointer (some ⟨w.heap.size + 4, 0, none⟩), .string x.1, .pointer (some ⟨Bx, 0, none⟩), undef, .slice A0 l0.length c0, .int .u32 rule, .slice A5 l5.length c5, .map (some (w.heap.size + 5)), .func (.func 19) #[] #[.pointer (some ⟨w2.heap.size, 0, none⟩)], .string x.1, x.2.val, undef, undef, undef, undef, undef, undef, undef, undef, undef, undef, undef, undef, undef, undef, undef, undef, undef, undef, undef, undef, undef, undef, undef, undef, undef, undef, undef, undef, undef, undef, undef, undef, undef, undef, undef, undef, undef, undef, undef, undef, undef, undef, undef, undef, undef, undef, undef, undef, undef, undef, undef, undef], defers := [] })
    (fun x a' _ X Y row hs hg hr => by obtain ⟨Bx, h1, h2, h3⟩ := hs; exact ⟨Bx, h1, cells_own Bx (fun (_ : Unit) => _) 51 () X Y row h2 hg (fun r e => (hr r e).2), h3⟩)
    ?assign ?body ?done ?stop
  case assign =>
    rintro l pre ⟨nm, ⟨g0, g1, g2, g3, g4, g5, g6⟩⟩ W K hI hK
    have hsz := hI.2.2.size
    dsimp only [encK, KE.val]
    gi_wp2
    refine hK _ _ ((KeepsOthers.alloc _ _).from _) (kpS_alloc hsz _) ?_ ⟨W.heap.size, ?_, World.alloc_heap_new W _, rfl⟩
    · obtain ⟨⟨⟨b0, b1⟩, b2, b3⟩, ⟨v, hv, hrow, -⟩, hB⟩ := hI
      exact ⟨⟨⟨b0.alloc _, b1.alloc _⟩, b2.alloc _, b3.alloc _⟩, ⟨v, hv.alloc _, hrow.alloc _, trivial⟩, hB.alloc hsz _⟩
    · obtain ⟨-, ⟨v, hv, -⟩, -⟩ := hI
      exact hv.lt
  case body =>
    rintro l pre ⟨nm, ⟨g0, g1, g2, g3, g4, g5, g6⟩⟩ a' W hl ⟨r, hr⟩ hI ⟨Bx, hBx, bX, rfl⟩ hlt
    have HI := Aside0.mk hI
    obtain ⟨⟨⟨b0, b1⟩, b2, b3⟩, ⟨v, hv, hrow, -⟩, hB⟩ := hI
    have HV := Aside0.mk hv
    have HROW := Aside0.mk hrow
    have hpl := outF_len rule fm rp at_ pre
    have hpl2 : pre.length < 1000000 := Nat.lt_of_lt_of_le hlt HPL.out
    have hBs2 := hB.size
    have cc0 := b0.cell
    have cc1 := b1.cell
    have cc2 := b2.cell
    have cc3 := b3.cell
    have ccv := hv.cell
    have x2 : W.cell? ⟨Bx, 2, none⟩ = some (.int .u8 g2) := (cell_of_block bX 2).trans rfl
    have x3 : W.cell? ⟨Bx, 3, none⟩ = some (.int .i64 g3) := (cell_of_block bX 3).trans rfl
    have x4 : W.cell? ⟨Bx, 4, none⟩ = some (.int .i64 g4) := (cell_of_block bX 4).trans rfl
    have x5 : W.cell? ⟨Bx, 5, none⟩ = some (.bool g5) := (cell_of_block bX 5).trans rfl
    have x6 : W.cell? ⟨Bx, 6, none⟩ = some (.bool g6) := (cell_of_block bX 6).trans rfl
    have y0 := fun o => cell_alloc_old o cc0
    have y1 := fun o => cell_alloc_old o cc1
    have y2 := fun o => cell_alloc_old o cc2
    have y3 := fun o => cell_alloc_old o cc3
    have yv := fun o => cell_alloc_old o ccv
    have z2 := fun o => cell_alloc_old o x2
    have z3 := fun o => cell_alloc_old o x3
    have z4 := fun o => cell_alloc_old o x4
    have z5 := fun o => cell_alloc_old o x5
    have z6 := fun o => cell_alloc_old o x6
    clear hlt hv hrow hB b0 b1 b2 b3 bX hr hT hown3 hBn hBw
    have wz : wrap64 (at_ - at_) = 0 := by rw [Int.sub_self]; unfold wrap64; omega
    have wz0 : wrap64 0 = 0 := by unfold wrap64; omega
    cases g6 with
    | true =>
      cases g5 with
      | true =>
        by_cases hs : g2 = 0
        · have s0 : (g2 != 0) = false := by simp [hs]
          have s1 : (g2 == 0) = true := by simp [hs]
          by_cases hf : fm ≤ 0
          · skip
            have q0 : decide (fm ≤ 0) = true := decide_eq_true hf
            have HY : Aside0 (bodyF rule fm rp at_ (nm, ⟨g0, g1, g2, g3, g4, true, true⟩) = some ⟨rule, nm, 2, at_, g4⟩) := ⟨by rw [bodyF_quiet _ _ _ _ _ _ _ _ _ _ hs, if_pos hf]⟩
            clear hf hs
            gi_wp2_with (gi_at_builtin; refine wpListIn_append_own _ rfl _ _ 26 rfl w.heap.size 36 i0 (.agg #[.int .u32 0, .string ⟨#[]⟩, .int .u8 0, .int .i64 0, .int .i64 0]) 5 48 Try.underlying26 hi hz0 hz1 hz2 rfl (by decide) _ _ _ rfl ((HROW.out.alloc _).alloc _) ⟨W.heap.size + 1, 0, none⟩ 1 1 [.int .u32 rule, .string nm, .int .u8 2, .int .i64 at_, .int .i64 g4] rfl rfl (cells_new1 _ _ _ _) (by simp [Value.oneCell']) (by unfold maxLen; omega) (by omega) (by simp; omega) ?_; intro v' w1 hown' hgrow _; obtain ⟨g', cap', rfl⟩ := ownsRow_succ hown'; have hfin := step_end (x := (nm, ⟨g0, g1, g2, g3, g4, true, true⟩)) (y := (⟨rule, nm, 2, at_, g4⟩ : S36)) HI.out HY.out HV.out HROW.out hown' hgrow (B0 := W0.heap.size); have hc1 := hfin.1.cell; have hf1 := hfin.1.frozen; have HFIN := Aside0.mk hfin.2; clear hfin hown' hgrow)
            exact HFIN.out
          · skip
            have q0 : decide (fm ≤ 0) = false := decide_eq_false hf
            have HY : Aside0 (bodyF rule fm rp at_ (nm, ⟨g0, g1, g2, g3, g4, true, true⟩) = some ⟨rule, nm, 1, at_, g4⟩) := ⟨by rw [bodyF_quiet _ _ _ _ _ _ _ _ _ _ hs, if_neg hf]⟩
            clear hf hs
            gi_wp2_with (gi_at_builtin; refine wpListIn_append_own _ rfl _ _ 26 rfl w.heap.size 36 i0 (.agg #[.int .u32 0, .string ⟨#[]⟩, .int .u8 0, .int .i64 0, .int .i64 0]) 5 48 Try.underlying26 hi hz0 hz1 hz2 rfl (by decide) _ _ _ rfl ((HROW.out.alloc _).alloc _) ⟨W.heap.size + 1, 0, none⟩ 1 1 [.int .u32 rule, .string nm, .int .u8 1, .int .i64 at_, .int .i64 g4] rfl rfl (cells_new1 _ _ _ _) (by simp [Value.oneCell']) (by unfold maxLen; omega) (by omega) (by simp; omega) ?_; intro v' w1 hown' hgrow _; obtain ⟨g', cap', rfl⟩ := ownsRow_succ hown'; have hfin := step_end (x := (nm, ⟨g0, g1, g2, g3, g4, true, true⟩)) (y := (⟨rule, nm, 1, at_, g4⟩ : S36)) HI.out HY.out HV.out HROW.out hown' hgrow (B0 := W0.heap.size); have hc1 := hfin.1.cell; have hf1 := hfin.1.frozen; have HFIN := Aside0.mk hfin.2; clear hfin hown' hgrow)
            exact HFIN.out
        · have s0 : (g2 != 0) = true := by simp [hs]
          have s1 : (g2 == 0) = false := by simp [hs]
          by_cases hf : fm ≤ wrap64 (at_ - g3)
          · skip
            have q0 : decide (fm ≤ wrap64 (at_ - g3)) = true := decide_eq_true hf
            have HY : Aside0 (bodyF rule fm rp at_ (nm, ⟨g0, g1, g2, g3, g4, true, true⟩) = some ⟨rule, nm, 2, g3, g4⟩) := ⟨by rw [bodyF_old _ _ _ _ _ _ _ _ _ _ hs, if_pos hf]⟩
            clear hf hs
            gi_wp2_with (gi_at_builtin; refine wpListIn_append_own _ rfl _ _ 26 rfl w.heap.size 36 i0 (.agg #[.int .u32 0, .string ⟨#[]⟩, .int .u8 0, .int .i64 0, .int .i64 0]) 5 48 Try.underlying26 hi hz0 hz1 hz2 rfl (by decide) _ _ _ rfl ((HROW.out.alloc _).alloc _) ⟨W.heap.size + 1, 0, none⟩ 1 1 [.int .u32 rule, .string nm, .int .u8 2, .int .i64 g3, .int .i64 g4] rfl rfl (cells_new1 _ _ _ _) (by simp [Value.oneCell']) (by unfold maxLen; omega) (by omega) (by simp; omega) ?_; intro v' w1 hown' hgrow _; obtain ⟨g', cap', rfl⟩ := ownsRow_succ hown'; have hfin := step_end (x := (nm, ⟨g0, g1, g2, g3, g4, true, true⟩)) (y := (⟨rule, nm, 2, g3, g4⟩ : S36)) HI.out HY.out HV.out HROW.out hown' hgrow (B0 := W0.heap.size); have hc1 := hfin.1.cell; have hf1 := hfin.1.frozen; have HFIN := Aside0.mk hfin.2; clear hfin hown' hgrow)
            exact HFIN.out
          · skip
            have q0 : decide (fm ≤ wrap64 (at_ - g3)) = false := decide_eq_false hf
            have HY : Aside0 (bodyF rule fm rp at_ (nm, ⟨g0, g1, g2, g3, g4, true, true⟩) = some ⟨rule, nm, 1, g3, g4⟩) := ⟨by rw [bodyF_old _ _ _ _ _ _ _ _ _ _ hs, if_neg hf]⟩
            clear hf hs
            gi_wp2_with (gi_at_builtin; refine wpListIn_append_own _ rfl _ _ 26 rfl w.heap.size 36 i0 (.agg #[.int .u32 0, .string ⟨#[]⟩, .int .u8 0, .int .i64 0, .int .i64 0]) 5 48 Try.underlying26 hi hz0 hz1 hz2 rfl (by decide) _ _ _ rfl ((HROW.out.alloc _).alloc _) ⟨W.heap.size + 1, 0, none⟩ 1 1 [.int .u32 rule, .string nm, .int .u8 1, .int .i64 g3, .int .i64 g4] rfl rfl (cells_new1 _ _ _ _) (by simp [Value.oneCell']) (by unfold maxLen; omega) (by omega) (by simp; omega) ?_; intro v' w1 hown' hgrow _; obtain ⟨g', cap', rfl⟩ := ownsRow_succ hown'; have hfin := step_end (x := (nm, ⟨g0, g1, g2, g3, g4, true, true⟩)) (y := (⟨rule, nm, 1, g3, g4⟩ : S36)) HI.out HY.out HV.out HROW.out hown' hgrow (B0 := W0.heap.size); have hc1 := hfin.1.cell; have hf1 := hfin.1.frozen; have HFIN := Aside0.mk hfin.2; clear hfin hown' hgrow)
            exact HFIN.out
      | false =>
        by_cases hf : fm ≤ 0
        · skip
          have q0 : decide (fm ≤ 0) = true := decide_eq_true hf
          have HY : Aside0 (bodyF rule fm rp at_ (nm, ⟨g0, g1, g2, g3, g4, false, true⟩) = some ⟨rule, nm, 2, at_, -1⟩) := ⟨by rw [bodyF_new _ _ _ _ _ _ _ _ _ _, if_pos hf]⟩
          clear hf
          gi_wp2_with (gi_at_builtin; refine wpListIn_append_own _ rfl _ _ 26 rfl w.heap.size 36 i0 (.agg #[.int .u32 0, .string ⟨#[]⟩, .int .u8 0, .int .i64 0, .int .i64 0]) 5 48 Try.underlying26 hi hz0 hz1 hz2 rfl (by decide) _ _ _ rfl ((HROW.out.alloc _).alloc _) ⟨W.heap.size + 1, 0, none⟩ 1 1 [.int .u32 rule, .string nm, .int .u8 2, .int .i64 at_, .int .i64 (-1)] rfl rfl (cells_new1 _ _ _ _) (by simp [Value.oneCell']) (by unfold maxLen; omega) (by omega) (by simp; omega) ?_; intro v' w1 hown' hgrow _; obtain ⟨g', cap', rfl⟩ := ownsRow_succ hown'; have hfin := step_end (x := (nm, ⟨g0, g1, g2, g3, g4, false, true⟩)) (y := (⟨rule, nm, 2, at_, -1⟩ : S36)) HI.out HY.out HV.out HROW.out hown' hgrow (B0 := W0.heap.size); have hc1 := hfin.1.cell; have hf1 := hfin.1.frozen; have HFIN := Aside0.mk hfin.2; clear hfin hown' hgrow)
          exact HFIN.out
        · skip
          have q0 : decide (fm ≤ 0) = false := decide_eq_false hf
          have HY : Aside0 (bodyF rule fm rp at_ (nm, ⟨g0, g1, g2, g3, g4, false, true⟩) = some ⟨rule, nm, 1, at_, -1⟩) := ⟨by rw [bodyF_new _ _ _ _ _ _ _ _ _ _, if_neg hf]⟩
          clear hf
          gi_wp2_with (gi_at_builtin; refine wpListIn_append_own _ rfl _ _ 26 rfl w.heap.size 36 i0 (.agg #[.int .u32 0, .string ⟨#[]⟩, .int .u8 0, .int .i64 0, .int .i64 0]) 5 48 Try.underlying26 hi hz0 hz1 hz2 rfl (by decide) _ _ _ rfl ((HROW.out.alloc _).alloc _) ⟨W.heap.size + 1, 0, none⟩ 1 1 [.int .u32 rule, .string nm, .int .u8 1, .int .i64 at_, .int .i64 (-1)] rfl rfl (cells_new1 _ _ _ _) (by simp [Value.oneCell']) (by unfold maxLen; omega) (by omega) (by simp; omega) ?_; intro v' w1 hown' hgrow _; obtain ⟨g', cap', rfl⟩ := ownsRow_succ hown'; have hfin := step_end (x := (nm, ⟨g0, g1, g2, g3, g4, false, true⟩)) (y := (⟨rule, nm, 1, at_, -1⟩ : S36)) HI.out HY.out HV.out HROW.out hown' hgrow (B0 := W0.heap.size); have hc1 := hfin.1.cell; have hf1 := hfin.1.frozen; have HFIN := Aside0.mk hfin.2; clear hfin hown' hgrow)
          exact HFIN.out
    | false =>
      cases g5 with
      | true =>
        by_cases ht : 0 ≤ g4
        · have t0 : decide (0 ≤ g4) = true := decide_eq_true ht
          by_cases hf : wrap64 (at_ - g4) < rp
          · have q0 : decide (wrap64 (at_ - g4) < rp) = true := decide_eq_true hf
            have HY : Aside0 (bodyF rule fm rp at_ (nm, ⟨g0, g1, g2, g3, g4, true, false⟩) = some ⟨rule, nm, 0, 0, g4⟩) := ⟨by simp [bodyF, ht, hf]⟩
            clear hf ht
            gi_wp2_with (gi_at_builtin; refine wpListIn_append_own _ rfl _ _ 26 rfl w.heap.size 36 i0 (.agg #[.int .u32 0, .string ⟨#[]⟩, .int .u8 0, .int .i64 0, .int .i64 0]) 5 48 Try.underlying26 hi hz0 hz1 hz2 rfl (by decide) _ _ _ rfl ((HROW.out.alloc _).alloc _) ⟨W.heap.size + 1, 0, none⟩ 1 1 [.int .u32 rule, .string nm, .int .u8 0, .int .i64 0, .int .i64 g4] rfl rfl (cells_new1 _ _ _ _) (by simp [Value.oneCell']) (by unfold maxLen; omega) (by omega) (by simp; omega) ?_; intro v' w1 hown' hgrow _; obtain ⟨g', cap', rfl⟩ := ownsRow_succ hown'; have hfin := step_end (x := (nm, ⟨g0, g1, g2, g3, g4, true, false⟩)) (y := (⟨rule, nm, 0, 0, g4⟩ : S36)) HI.out HY.out HV.out HROW.out hown' hgrow (B0 := W0.heap.size); have hc1 := hfin.1.cell; have hf1 := hfin.1.frozen; have HFIN := Aside0.mk hfin.2; clear hfin hown' hgrow)
            exact HFIN.out
          · have q0 : decide (wrap64 (at_ - g4) < rp) = false := decide_eq_false hf
            have HY : Aside0 (bodyF rule fm rp at_ (nm, ⟨g0, g1, g2, g3, g4, true, false⟩) = none) := ⟨by simp [bodyF, ht]; omega⟩
            clear hf ht
            gi_wp2
            exact step_skip _ HI.out HY.out
        · have t0 : decide (0 ≤ g4) = false := decide_eq_false ht
          have HY : Aside0 (bodyF rule fm rp at_ (nm, ⟨g0, g1, g2, g3, g4, true, false⟩) = none) := ⟨by simp [bodyF, ht]⟩
          clear ht
          gi_wp2
          exact step_skip _ HI.out HY.out
      | false =>
        have HY : Aside0 (bodyF rule fm rp at_ (nm, ⟨g0, g1, g2, g3, g4, false, false⟩) = none) := ⟨by simp [bodyF]⟩
        gi_wp2
        exact step_skip _ HI.out HY.out
  case done =>
    rintro Dd ys W hD rfl hI hK
    obtain ⟨-, ⟨v, hv, hrow, -⟩, hB⟩ := hI
    rw [HNM.out, out_eq] at hrow
    have hcell := hv.cell
    gi_wp2
    refine ⟨by simp, .inl ⟨_, _, rfl, run_takeDeferred hK, ?_⟩⟩
    exact ⟨_, results_tmp rfl _ _ _, v, rfl, alerts_R (ownsRow_putObj hrow _ hK rfl), hB.trans (belowK_b (w := w) (Nat.le_refl _) W Dd _ _ (by omega) hK rfl rfl)⟩
  case stop =>
    rintro Dd c pre W _ _ h _
    exact h.elim
def alerts_Step.f (l0 : List S36) (a1 a2 a3 a4 : Int) (l5 : List ByteArray) : Option (List S36) :=
  if l0.length + l5.length ≤ 1000000 ∧ (l0.all fun x => decide (x.f1.size ≤ 9223372036854775807)) = true ∧ (l5.all fun s => decide (s.size ≤ 9223372036854775807)) = true then some (stepL l0 a1 a2 a3 a4 l5) else none
theorem alerts_Step.calls (A0 : Option Addr) (c0 : Nat) (l0 : List (S36)) (a1 : Int) (a2 : Int) (a3 : Int) (a4 : Int) (A5 : Option Addr) (c5 : Nat) (l5 : List (ByteArray)) (r : List (S36)) (w : World) (hr0 : Kd.C k36 w A0 l0.length l0) (hc0 : l0.length ≤ c0) (hr5 : Kd.C Kd.string w A5 l5.length l5) (hc5 : l5.length ≤ c5) (h : alerts_Step.f l0 a1 a2 a3 a4 l5 = some r) :
    Calls Try.prog 11 #[.slice A0 l0.length c0, .int .u32 a1, .int .i64 a2, .int .i64 a3, .int .i64 a4, .slice A5 l5.length c5] w fun e w' => ∃ v0_ : Value, e = .returned (v0_) ∧ Kd.R k36 36 w' w.heap.size (fun _ => True) v0_ r ∧ Below w.heap.size w w' := by
  unfold alerts_Step.f at h
  by_cases hc : l0.length + l5.length ≤ 1000000 ∧ (l0.all fun x => decide (x.f1.size ≤ 9223372036854775807)) = true ∧ (l5.all fun s => decide (s.size ≤ 9223372036854775807)) = true
  · rw [if_pos hc] at h
    cases h
    exact step_calls A0 c0 l0 a1 a2 a3 a4 A5 c5 l5 w hr0 hc0 hr5 hc5 hc.1 (fun x hx => of_decide_eq_true (List.all_eq_true.1 hc.2.1 x hx)) (fun s hs => of_decide_eq_true (List.all_eq_true.1 hc.2.2 s hs))
  · rw [if_neg hc] at h
    cases h

end Go.Proofs.Ytgfkdcckifdcpaa.Q
