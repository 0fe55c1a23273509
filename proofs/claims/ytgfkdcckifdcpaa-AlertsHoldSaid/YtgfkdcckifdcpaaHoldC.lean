/- What AlertsHold calls, over things; its rows. No law is proved here. -/
import Derived.Test.YtgfkdcckifdcpaaHoldP
import Derived.Test.YtgfkdcckifdcpaaRws
import Derived.Test.YtgfkdcckifdcpaaWLast
import Derived.Test.YtgfkdcckifdcpaaWMore
import Derived.Deep.RegionHeld3
import Derived.Deep.DrawnRows
import Derived.BigRegion
import Derived.BigQuiet
import Derived.Scope
namespace Go.Proofs.Ytgfkdcckifdcpaa.Hold
open Go.RowKit Go.Proofs.YtgfkdcckifdcpaaW.PrintWords Go.Proofs.YtgfkdcckifdcpaaW.PrintLast Go.Proofs.YtgfkdcckifdcpaaW.PrintMore Go.Proofs.Ytgfkdcckifdcpaa.Q Go.Proofs.Ytgfkdcckifdcpaa.Own Go.Proofs.Ytgfkdcckifdcpaa.Pure
set_option linter.unusedVariables false
set_option linter.unusedSimpArgs false

abbrev SA := S36
abbrev kA : Kd SA := k36
abbrev kI : Kd Int := Kd.int .i64
abbrev kBl : Kd Bool := Kd.bool
abbrev kS : Kd ByteArray := Kd.string
abbrev rowA (v : Value) (l : List SA) : Th := rowT kA 36 v l
abbrev rowI (v : Value) (l : List Int) : Th := rowT kI 3 v l
abbrev rowBl (v : Value) (l : List Bool) : Th := rowT kBl 4 v l
abbrev rowS (v : Value) (l : List ByteArray) : Th := rowT kS 9 v l
theorem infI : (Try.prog.info? 3).map (fun i => (i.zero, i.size, i.bytes)) = some (some (.int .i64 0), 1, 8) := by kernel_rfl
theorem infB : (Try.prog.info? 4).map (fun i => (i.zero, i.size, i.bytes)) = some (some (.bool false), 1, 1) := by kernel_rfl
theorem awake_c (w : World) : Calls Try.prog 8 #[] w fun e w' => e = .returned (.bool true) ∧ Below w.heap.size w w' := tocsinlaw22_awake.calls 60 true w awake_at
theorem small_c (x : Int) (w : World) : Calls Try.prog 9 #[.int .i64 x] w fun e w' => e = .returned (.bool (smallB x)) ∧ Drawn0 w w' := tocsinlaw22_small.calls x _ w (small_f x)
theorem names_c {B : Nat} {w : World} {Ts : List Th} (h : Has B w Ts) (a : Int) : Calls Try.prog 10 #[.int .i64 a] w fun e w' => ∃ v r, e = .returned v ∧ InSix r ∧ Has B w' (rowS v r :: Ts) ∧ Below B w w' := by
  obtain ⟨r, hr, hin⟩ := names_ev a
  obtain ⟨k, hk⟩ := hr.rounds
  refine (tocsinlaw22_names.calls k a r w hk).mono ?_
  rintro e w' ⟨v, rfl, hR, hb⟩
  exact ⟨v, r, rfl, hin, h.row hb hR, hb.mono h.size⟩
theorem six_c {B : Nat} {w : World} {Ts : List Th} (h : Has B w Ts) : Calls Try.prog 10 #[.int .i64 63] w fun e w' => ∃ v, e = .returned v ∧ Has B w' (rowS v six :: Ts) ∧ Below B w w' := by
  obtain ⟨k, hk⟩ := names_all.rounds
  refine (tocsinlaw22_names.calls k 63 six w hk).mono ?_
  rintro e w' ⟨v, rfl, hR, hb⟩
  exact ⟨v, rfl, h.row hb hR, hb.mono h.size⟩
theorem has_c {B : Nat} {w : World} {Ts : List Th} (h : Has B w Ts) {A : Option Addr} {n c : Nat} {l : List ByteArray} (hm : rowS (.slice A n c) l ∈ Ts) (hl : l.length ≤ 1000000) (s : ByteArray) : Calls Try.prog 12 #[.slice A n c, .string s] w fun e w' => e = .returned (.bool (hasK l s.data.toList)) ∧ Drawn0 w w' := by
  obtain ⟨rfl, hc, hC⟩ := row_reads h hm
  obtain ⟨k, hk⟩ := (has_ev l s hl).rounds
  exact tocsinref22_Has.calls k A c l s _ w hC hc hk
theorem step_c {B : Nat} {w : World} {Ts : List Th} (h : Has B w Ts) {A0 A5 : Option Addr} {n0 c0 n5 c5 : Nat} {l0 : List SA} {l5 : List ByteArray} (h0 : rowA (.slice A0 n0 c0) l0 ∈ Ts) (h5 : rowS (.slice A5 n5 c5) l5 ∈ Ts) (rule fm rp at_ : Int) (hl : l0.length ≤ 1000) (hk : l5.length ≤ 1000) (hgl : ∀ y ∈ l0, y.f1.size ≤ 9223372036854775807) (hgk : ∀ y ∈ l5, y.size ≤ 9223372036854775807) :
    Calls Try.prog 11 #[.slice A0 n0 c0, .int .u32 rule, .int .i64 fm, .int .i64 rp, .int .i64 at_, .slice A5 n5 c5] w fun e w' => ∃ v, e = .returned v ∧ Has B w' (rowA v (stepL l0 rule fm rp at_ l5) :: Ts) ∧ Below B w w' := by
  obtain ⟨rfl, hc0, hC0⟩ := row_reads h h0
  obtain ⟨rfl, hc5, hC5⟩ := row_reads h h5
  refine (alerts_Step.calls A0 c0 l0 rule fm rp at_ A5 c5 l5 _ w hC0 hc0 hC5 hc5 (step_f l0 rule fm rp at_ l5 hl hk hgl hgk)).mono ?_
  rintro e w' ⟨v, rfl, hR, hb⟩
  exact ⟨v, rfl, h.row hb hR, hb.mono h.size⟩
/-! The law's rows -/
/-- The alerts, since when, when told, which held, the instants, the names. -/
def hold6 (vn : Value) (l : List SA) (sa : Addr) (cs : Nat) (S : List Int) (ta : Addr) (ct : Nat) (T : List Int) (ha : Addr) (ch : Nat) (H : List Bool) (vx : Value) (X : List Int) (aa : Addr) (ca : Nat) : List Th :=
  [rowA vn l, rowI (.slice (some sa) 6 cs) S, rowI (.slice (some ta) 6 ct) T, rowBl (.slice (some ha) 6 ch) H, rowI vx X, rowS (.slice (some aa) 6 ca) six]
section
variable {B : Nat} {w : World} {vn vx : Value} {l : List SA} {sa ta ha aa : Addr} {cs ct ch ca : Nat} {S T X : List Int} {H : List Bool} {Rs : List Th}
theorem rd_get (l : List Int) {k : Nat} (hk : k < l.length) : l[k] = rd l (k : Int) := by
  unfold rd
  rw [Int.toNat_natCast, List.getD_eq_getElem?_getD, List.getElem?_eq_getElem hk]
  rfl
theorem rdB_get (l : List Bool) {k : Nat} (hk : k < l.length) : l[k] = rdOf false l (k : Int) := by
  unfold rdOf
  rw [Int.toNat_natCast, List.getD_eq_getElem?_getD, List.getElem?_eq_getElem hk]
  rfl
theorem six_get {k : Nat} (hk : k < six.length) : six[k] = sx k := by
  unfold sx
  rw [List.getD_eq_getElem?_getD, List.getElem?_eq_getElem hk]
  rfl
theorem hold_cells (h : Has B w (hold6 vn l sa cs S ta ct T ha ch H vx X aa ca ++ Rs)) {k : Nat} (hk : k < 6) (hS : S.length = 6) (hT : T.length = 6) (hH : H.length = 6) :
    w.cell? (aa.add k) = some (.string (sx k)) ∧ w.cell? (sa.add k) = some (.int .i64 (rd S (k : Int))) ∧ w.cell? (ta.add k) = some (.int .i64 (rd T (k : Int))) ∧ w.cell? (ha.add k) = some (.bool (rdOf false H (k : Int))) := by
  have hs6 : six.length = 6 := rfl
  obtain ⟨-, -, h1⟩ := row_reads h (d := kS) (e := 9) (A := some aa) (n := 6) (c := ca) (xs := six) (by simp [hold6])
  obtain ⟨-, -, h2⟩ := row_reads h (d := kI) (e := 3) (A := some sa) (n := 6) (c := cs) (xs := S) (by simp [hold6])
  obtain ⟨-, -, h3⟩ := row_reads h (d := kI) (e := 3) (A := some ta) (n := 6) (c := ct) (xs := T) (by simp [hold6])
  obtain ⟨-, -, h4⟩ := row_reads h (d := kBl) (e := 4) (A := some ha) (n := 6) (c := ch) (xs := H) (by simp [hold6])
  have q1 := at_1 h1 k (by omega)
  have q2 := at_1 h2 k (by omega)
  have q3 := at_1 h3 k (by omega)
  have q4 := at_1 h4 k (by omega)
  rw [six_get] at q1
  rw [rd_get S (by omega)] at q2
  rw [rd_get T (by omega)] at q3
  rw [rdB_get H (by omega)] at q4
  exact ⟨q1, q2, q3, q4⟩
theorem put_since (h : Has B w (hold6 vn l sa cs S ta ct T ha ch H vx X aa ca ++ Rs)) {k : Nat} (hk : k < S.length) (z : Int) :
    Has B (w.setCell (sa.add k) (.int .i64 z)) (hold6 vn l sa cs (S.set k z) ta ct T ha ch H vx X aa ca ++ Rs) ∧ Below B w (w.setCell (sa.add k) (.int .i64 z)) ∧ w.frozen? (sa.add k) = false := by
  obtain ⟨p1, p2, p3⟩ := row_put1 (As := [rowA vn l]) (Bs := [rowI (.slice (some ta) 6 ct) T, rowBl (.slice (some ha) 6 ch) H, rowI vx X, rowS (.slice (some aa) 6 ca) six] ++ Rs) h k hk z
  exact ⟨p1, p2, p3 k⟩
theorem put_told (h : Has B w (hold6 vn l sa cs S ta ct T ha ch H vx X aa ca ++ Rs)) {k : Nat} (hk : k < T.length) (z : Int) :
    Has B (w.setCell (ta.add k) (.int .i64 z)) (hold6 vn l sa cs S ta ct (T.set k z) ha ch H vx X aa ca ++ Rs) ∧ Below B w (w.setCell (ta.add k) (.int .i64 z)) ∧ w.frozen? (ta.add k) = false := by
  obtain ⟨p1, p2, p3⟩ := row_put1 (As := [rowA vn l, rowI (.slice (some sa) 6 cs) S]) (Bs := [rowBl (.slice (some ha) 6 ch) H, rowI vx X, rowS (.slice (some aa) 6 ca) six] ++ Rs) h k hk z
  exact ⟨p1, p2, p3 k⟩
theorem put_held (h : Has B w (hold6 vn l sa cs S ta ct T ha ch H vx X aa ca ++ Rs)) {k : Nat} (hk : k < H.length) (z : Bool) :
    Has B (w.setCell (ha.add k) (.bool z)) (hold6 vn l sa cs S ta ct T ha ch (H.set k z) vx X aa ca ++ Rs) ∧ Below B w (w.setCell (ha.add k) (.bool z)) ∧ w.frozen? (ha.add k) = false := by
  obtain ⟨p1, p2, p3⟩ := row_put1 (As := [rowA vn l, rowI (.slice (some sa) 6 cs) S, rowI (.slice (some ta) 6 ct) T]) (Bs := [rowI vx X, rowS (.slice (some aa) 6 ca) six] ++ Rs) h k hk z
  exact ⟨p1, p2, p3 k⟩
theorem put_time {ax : Addr} {n cx : Nat} (h : Has B w (hold6 vn l sa cs S ta ct T ha ch H (.slice (some ax) n cx) X aa ca ++ Rs)) {k : Nat} (hk : k < X.length) (z : Int) :
    Has B (w.setCell (ax.add k) (.int .i64 z)) (hold6 vn l sa cs S ta ct T ha ch H (.slice (some ax) n cx) (X.set k z) aa ca ++ Rs) ∧ Below B w (w.setCell (ax.add k) (.int .i64 z)) ∧ w.frozen? (ax.add k) = false ∧ ∃ v, w.cell? (ax.add k) = some v := by
  obtain ⟨p1, p2, p3⟩ := row_put1 (As := [rowA vn l, rowI (.slice (some sa) 6 cs) S, rowI (.slice (some ta) 6 ct) T, rowBl (.slice (some ha) 6 ch) H]) (Bs := [rowS (.slice (some aa) 6 ca) six] ++ Rs) h k hk z
  obtain ⟨-, -, h2⟩ := row_reads h (d := kI) (e := 3) (A := some ax) (n := n) (c := cx) (xs := X) (by simp [hold6])
  exact ⟨p1, p2, p3 k, _, at_1 h2 k hk⟩
/-- An alert in the midst: its cells; when it was told is written over. -/
theorem now_cells {an : Addr} {n cn : Nat} {L R : List SA} {y : SA} (h : Has B w (hold6 (.slice (some an) n cn) (L ++ y :: R) sa cs S ta ct T ha ch H vx X aa ca ++ Rs)) :
    w.cell? (an.add (L.length * 5)) = some (.int .u32 y.f0) ∧ w.cell? ⟨(an.add (L.length * 5)).block, (an.add (L.length * 5)).off + 1, none⟩ = some (.string y.f1) ∧ w.cell? ⟨(an.add (L.length * 5)).block, (an.add (L.length * 5)).off + 2, none⟩ = some (.int .u8 y.f2) ∧ w.cell? ⟨(an.add (L.length * 5)).block, (an.add (L.length * 5)).off + 3, none⟩ = some (.int .i64 y.f3) ∧ w.cell? ⟨(an.add (L.length * 5)).block, (an.add (L.length * 5)).off + 4, none⟩ = some (.int .i64 y.f4) := by
  obtain ⟨hn, -, hC⟩ := row_reads h (d := kA) (e := 36) (A := some an) (n := n) (c := cn) (xs := L ++ y :: R) (by simp [hold6])
  obtain ⟨ad, e, h0, h1, h2, h3, h4⟩ := at_T36 hC (L.length : Int) (by omega) (by rw [List.length_append, List.length_cons]; omega)
  cases e
  rw [rd_mid, Int.toNat_natCast] at h0 h1 h2 h3 h4
  exact ⟨h0, h1, h2, h3, h4⟩
theorem put_now {an : Addr} {n cn : Nat} {L R : List SA} {y : SA} (h : Has B w (hold6 (.slice (some an) n cn) (L ++ y :: R) sa cs S ta ct T ha ch H vx X aa ca ++ Rs)) (z : Int) :
    Has B (w.setCell ⟨(an.add (L.length * 5)).block, (an.add (L.length * 5)).off + 4, none⟩ (.int .i64 z)) (hold6 (.slice (some an) n cn) (L ++ ⟨y.f0, y.f1, y.f2, y.f3, z⟩ :: R) sa cs S ta ct T ha ch H vx X aa ca ++ Rs) ∧ Below B w (w.setCell ⟨(an.add (L.length * 5)).block, (an.add (L.length * 5)).off + 4, none⟩ (.int .i64 z)) ∧ w.frozen? ⟨(an.add (L.length * 5)).block, (an.add (L.length * 5)).off + 4, none⟩ = false := by
  have hg : (L ++ y :: R)[L.length]'(by rw [List.length_append, List.length_cons]; omega) = y := by rw [List.getElem_append_right (Nat.le_refl _)]; simp
  obtain ⟨p1, p2, p3⟩ := row_field (d := kA) (As := []) (Bs := [rowI (.slice (some sa) 6 cs) S, rowI (.slice (some ta) 6 ct) T, rowBl (.slice (some ha) 6 ch) H, rowI vx X, rowS (.slice (some aa) 6 ca) six] ++ Rs) h L.length (by rw [List.length_append, List.length_cons]; omega) (cs := [.int .u32 y.f0, .string y.f1, .int .u8 y.f2, .int .i64 y.f3, .int .i64 y.f4]) (fun cs' hK => by rw [hg] at hK; exact k36_open hK) (j := 4) (u := .int .i64 z) (x' := ⟨y.f0, y.f1, y.f2, y.f3, z⟩) (by decide) (by decide) (k36_mkM _ _ _ _)
  rw [set_mid] at p1
  exact ⟨p1, p2, p3 _⟩
end
end Go.Proofs.Ytgfkdcckifdcpaa.Hold
