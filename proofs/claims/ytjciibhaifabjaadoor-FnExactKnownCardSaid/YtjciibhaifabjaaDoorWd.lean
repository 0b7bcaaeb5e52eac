/- Worlds: definitions, a dictionary, a state. Contracts of szWorld, toWorld, eqWorld. -/
import Derived.Test.YtjciibhaifabjaaDoorEy
import Derived.Test.YtjciibhaifabjaaDoorT
import Derived.Test.YtjciibhaifabjaaDoorZ
import Derived.Test.YtjciibhaifabjaaDoorPu
set_option linter.unusedVariables false
set_option linter.unusedSimpArgs false
namespace Go.Proofs.YtjciibhaifabjaaDoor
open Go.RowKit

structure LW where
  defs : List DDef
  dict : List LEntry
  st : LSt
  opn : Bool
  yel : Bool
/-- A world that is read. -/
def WK (w : World) (x : LW) (v : Value) : Prop :=
  ∃ A a B b D0 d0 D1 d1 D3 d3 D4 d4 D5 d5 D6 d6 D7 d7, v = .agg #[.slice A x.defs.length a, .slice B x.dict.length b, .slice D0 x.st.data.length d0, .slice D1 x.st.ret.length d1, .int .i32 x.st.a, .slice D3 x.st.mem.length d3, .slice D4 x.st.cells.length d4, .slice D5 x.st.vars.length d5, .slice D6 x.st.out.length d6, .slice D7 x.st.inp.length d7, .int .i64 x.st.fault, .int .i64 x.st.fuel, .bool x.opn, .bool x.yel] ∧ Rd w A (x.defs.flatMap DDef.enc) ∧ DefsR w x.defs ∧ Rd w B (x.dict.flatMap LEntry.enc) ∧ EntR x.dict ∧ StK w x.st (.agg #[.slice D0 x.st.data.length d0, .slice D1 x.st.ret.length d1, .int .i32 x.st.a, .slice D3 x.st.mem.length d3, .slice D4 x.st.cells.length d4, .slice D5 x.st.vars.length d5, .slice D6 x.st.out.length d6, .slice D7 x.st.inp.length d7, .int .i64 x.st.fault, .int .i64 x.st.fuel])
/-- .. and of the call's own, from lo on. -/
def WO (w : World) (lo : Nat) (x : LW) (v : Value) : Prop :=
  ∃ gA gB D0 d0 D1 d1 D3 d3 D4 d4 D5 d5 D6 d6 D7 d7, v = .agg #[.slice (some ⟨gA, 0, none⟩) x.defs.length x.defs.length, .slice (some ⟨gB, 0, none⟩) x.dict.length x.dict.length, .slice D0 x.st.data.length d0, .slice D1 x.st.ret.length d1, .int .i32 x.st.a, .slice D3 x.st.mem.length d3, .slice D4 x.st.cells.length d4, .slice D5 x.st.vars.length d5, .slice D6 x.st.out.length d6, .slice D7 x.st.inp.length d7, .int .i64 x.st.fault, .int .i64 x.st.fuel, .bool x.opn, .bool x.yel] ∧ Row w 106 2 (some ⟨gA, 0, none⟩) x.defs.length x.defs.length (x.defs.flatMap DDef.enc) (some gA) ∧ (∀ y ∈ x.defs, y.O w 133 (gA + 1)) ∧
    Row w 99 3 (some ⟨gB, 0, none⟩) x.dict.length x.dict.length (x.dict.flatMap LEntry.enc) (some gB) ∧ StO w lo x.st (.agg #[.slice D0 x.st.data.length d0, .slice D1 x.st.ret.length d1, .int .i32 x.st.a, .slice D3 x.st.mem.length d3, .slice D4 x.st.cells.length d4, .slice D5 x.st.vars.length d5, .slice D6 x.st.out.length d6, .slice D7 x.st.inp.length d7, .int .i64 x.st.fault, .int .i64 x.st.fuel]) ∧ lo ≤ gA ∧ lo ≤ gB ∧ gA < gB ∧ (∀ y ∈ x.defs, ∀ g, y.A = some ⟨g, 0, none⟩ → g < gB) ∧ (x.defs.map DDef.A).Nodup ∧ StO w (gB + 1) x.st (.agg #[.slice D0 x.st.data.length d0, .slice D1 x.st.ret.length d1, .int .i32 x.st.a, .slice D3 x.st.mem.length d3, .slice D4 x.st.cells.length d4, .slice D5 x.st.vars.length d5, .slice D6 x.st.out.length d6, .slice D7 x.st.inp.length d7, .int .i64 x.st.fault, .int .i64 x.st.fuel])
structure LW.small (x : LW) : Prop where
  defs : x.defs.length ≤ 140737488355328
  dict : x.dict.length ≤ 140737488355328
  st : x.st.small 140737488355328
/-- What szWorld has seen. -/
structure LW.low (x : LW) : Prop where
  defs : x.defs.length + szDs x.defs ≤ 1048576
  dict : x.dict.length + szEs x.dict ≤ 1048576
  st : x.st.small 1048576
theorem DDef.O.far {w : World} {T : TypeId} {lo : Nat} {z : DDef} (h : z.O w T lo) {p : Addr} (hp : p.block < lo) (u : Value) : z.O (w.setCell p u) T lo := by
  obtain ⟨g, h1, h2, h3⟩ := h
  exact ⟨g, h1, h2.far (fun e => by injection e with e; omega) u, h3⟩
theorem WK.form {w : World} {x : LW} {v : Value} (h : WK w x v) : ∃ A a B b D0 d0 D1 d1 D3 d3 D4 d4 D5 d5 D6 d6 D7 d7, v = .agg #[.slice A x.defs.length a, .slice B x.dict.length b, .slice D0 x.st.data.length d0, .slice D1 x.st.ret.length d1, .int .i32 x.st.a, .slice D3 x.st.mem.length d3, .slice D4 x.st.cells.length d4, .slice D5 x.st.vars.length d5, .slice D6 x.st.out.length d6, .slice D7 x.st.inp.length d7, .int .i64 x.st.fault, .int .i64 x.st.fuel, .bool x.opn, .bool x.yel] := by
  obtain ⟨A, a, B, b, D0, d0, D1, d1, D3, d3, D4, d4, D5, d5, D6, d6, D7, d7, rfl, -⟩ := h
  exact ⟨A, a, B, b, D0, d0, D1, d1, D3, d3, D4, d4, D5, d5, D6, d6, D7, d7, rfl⟩
theorem WK.mono {w w1 : World} {x : LW} {v : Value} (h : WK w x v) (hm : Mono w w1) : WK w1 x v := by
  obtain ⟨A, a, B, b, D0, d0, D1, d1, D3, d3, D4, d4, D5, d5, D6, d6, D7, d7, rfl, h1, h2, h3, h4, h5⟩ := h
  exact ⟨A, a, B, b, D0, d0, D1, d1, D3, d3, D4, d4, D5, d5, D6, d6, D7, d7, rfl, h1.mono hm, h2.mono hm, h3.mono hm, h4, h5.mono hm⟩
theorem WK.keepB {w0 w1 : World} {x : LW} {v : Value} (h : WK w0 x v) (hb : Below w0.heap.size w0 w1) : WK w1 x v := h.mono (below_mono hb)
/-- A copy is read as what it is a copy of. -/
theorem WO.k {w0 w : World} {lo : Nat} {x : LW} {ys : List DDef} {v : Value} (h : WO w lo { x with defs := ys } v) (hd : DefsR w0 x.defs) (hv : ys.map DDef.val = x.defs.map DDef.val) (he : EntR x.dict) : WK w { x with defs := ys } v := by
  obtain ⟨gA, gB, D0, d0, D1, d1, D3, d3, D4, d4, D5, d5, D6, d6, D7, d7, rfl, h1, h2, h3, h4, -⟩ := h
  exact ⟨_, _, _, _, D0, d0, D1, d1, D3, d3, D4, d4, D5, d5, D6, d6, D7, d7, rfl, h1.rd, hd.copy hv h2, h3.rd, he, h4.k⟩
set_option maxRecDepth 100000 in
set_option maxHeartbeats 1000000 in
theorem szWorld_calls (x : LW) (v : Value) (w : World) (hv : WK w x v) (hs : x.small) :
    Calls Tryd.prog 19 #[v, .int .i64 1048576] w fun e w' => (∃ r, e = .returned (.int .i64 r) ∧ (r = -1 ∨ (0 ≤ r ∧ x.low))) ∧ Below w.heap.size w w' := by
  obtain ⟨A, a, B, b, D0, d0, D1, d1, D3, d3, D4, d4, D5, d5, D6, d6, D7, d7, rfl, h1, h2, h3, h4, h5⟩ := hv
  have H1 := Lib.hid h1
  have H2 := Lib.hid h2
  have H3 := Lib.hid h3
  have H4 := Lib.hid h4
  have H5 := Lib.hid h5
  have HS := Lib.hid hs
  have KA := Lib.hid (blk_new w (.cells #[.slice A x.defs.length a, .slice B x.dict.length b, .slice D0 x.st.data.length d0, .slice D1 x.st.ret.length d1, .int .i32 x.st.a, .slice D3 x.st.mem.length d3, .slice D4 x.st.cells.length d4, .slice D5 x.st.vars.length d5, .slice D6 x.st.out.length d6, .slice D7 x.st.inp.length d7, .int .i64 x.st.fault, .int .i64 x.st.fuel, .bool x.opn, .bool x.yel] 51))
  have HB := Lib.hid (bl_alloc (Below.refl _ w) (.cells #[.slice A x.defs.length a, .slice B x.dict.length b, .slice D0 x.st.data.length d0, .slice D1 x.st.ret.length d1, .int .i32 x.st.a, .slice D3 x.st.mem.length d3, .slice D4 x.st.cells.length d4, .slice D5 x.st.vars.length d5, .slice D6 x.st.out.length d6, .slice D7 x.st.inp.length d7, .int .i64 x.st.fault, .int .i64 x.st.fuel, .bool x.opn, .bool x.yel] 51))
  clear h1 h2 h3 h4 h5 hs
  go_enter Tryd.func19, Tryd.ntmps19
  go_wp2_with fail
  refine (szDefS_calls A a x.defs 1048576 _ (H1.out.keepB HB.out) (H2.out.call HB.out) (by omega) (by omega) HS.out.defs).mono ?_
  rintro e w1 ⟨rfl, hb⟩
  replace KA := Lib.hid (blk_call KA.out hb)
  replace HB := Lib.hid (bl_call HB.out hb)
  clear hb
  by_cases g1 : ((x.defs.length + szDs x.defs : Nat) : Int) ≤ 1048576
  case neg =>
    rw [szR_no g1]
    go_wp2
    go_ret
    exact ⟨⟨_, rfl, .inl rfl⟩, HB.out⟩
  rw [szR_yes g1]
  have hn1 : ¬ ((1048576 : Int) - ((x.defs.length + szDs x.defs : Nat) : Int) < 0) := by omega
  have q1 : (0 : Int) ≤ 1048576 - ((x.defs.length + szDs x.defs : Nat) : Int) := by omega
  have q2 : (1048576 : Int) - ((x.defs.length + szDs x.defs : Nat) : Int) ≤ 1048576 := by omega
  have G1 := Lib.hid (show x.defs.length + szDs x.defs ≤ 1048576 by omega)
  clear g1
  generalize (1048576 : Int) - ((x.defs.length + szDs x.defs : Nat) : Int) = l1 at hn1 q1 q2 ⊢
  have cKA := blk_cell KA.out
  have fKA := blk_frozen KA.out
  have zKA := blk_lt KA.out
  go_wp2_with fail
  refine (szEntryS_calls B b x.dict l1 _ (H3.out.keepB HB.out) H4.out q1 q2 HS.out.dict).mono ?_
  rintro e w2 ⟨rfl, hb⟩
  clear cKA fKA zKA
  replace KA := Lib.hid (blk_call KA.out hb)
  replace HB := Lib.hid (bl_call HB.out hb)
  clear hb
  by_cases g2 : ((x.dict.length + szEs x.dict : Nat) : Int) ≤ l1
  case neg =>
    rw [szR_no g2]
    go_wp2
    go_ret
    exact ⟨⟨_, rfl, .inl rfl⟩, HB.out⟩
  rw [szR_yes g2]
  have hn2 : ¬ (l1 - ((x.dict.length + szEs x.dict : Nat) : Int) < 0) := by omega
  have q3 : (0 : Int) ≤ l1 - ((x.dict.length + szEs x.dict : Nat) : Int) := by omega
  have q4 : l1 - ((x.dict.length + szEs x.dict : Nat) : Int) ≤ 1048576 := by omega
  have G2 := Lib.hid (show x.dict.length + szEs x.dict ≤ 1048576 by omega)
  clear g2
  generalize l1 - ((x.dict.length + szEs x.dict : Nat) : Int) = l2 at hn2 q3 q4 ⊢
  clear hn1 q1 q2
  have cKA := blk_cell KA.out
  have fKA := blk_frozen KA.out
  have zKA := blk_lt KA.out
  go_wp2_with fail
  refine (szSt_calls x.st _ l2 _ (H5.out.keepB HB.out) q3 q4 HS.out.st).mono ?_
  rintro e w3 ⟨⟨r, rfl, hr⟩, hb⟩
  clear cKA fKA zKA
  replace KA := Lib.hid (blk_call KA.out hb)
  replace HB := Lib.hid (bl_call HB.out hb)
  clear hb
  rcases hr with ⟨rfl, -⟩ | ⟨rfl, hl⟩
  · go_wp2
    go_ret
    exact ⟨⟨_, rfl, .inl rfl⟩, HB.out⟩
  · have hn3 : ¬ (l2 - x.st.bulk < 0) := by omega
    have hr0 : 0 ≤ l2 - x.st.bulk := by omega
    have G3 := Lib.hid (LSt.small_of_bulk (s := x.st) (n := 1048576) (by omega))
    clear hl
    generalize l2 - x.st.bulk = l3 at hn3 hr0 ⊢
    go_wp2
    go_ret
    exact ⟨⟨_, rfl, .inr ⟨hr0, G1.out, G2.out, G3.out⟩⟩, HB.out⟩
set_option maxRecDepth 100000 in
set_option maxHeartbeats 2000000 in
theorem toWorld_calls (x : LW) (v : Value) (w : World) (hv : WK w x v) (hs : x.low) :
    Calls Tryd.prog 21 #[v] w fun e w' => ∃ v' ys, e = .returned v' ∧ ys.map DDef.val = x.defs.map DDef.val ∧ WO w' w.heap.size { x with defs := ys } v' ∧ Below w.heap.size w w' := by
  obtain ⟨A, a, B, b, D0, d0, D1, d1, D3, d3, D4, d4, D5, d5, D6, d6, D7, d7, rfl, h1, h2, h3, h4, h5⟩ := hv
  have H1 := Lib.hid h1
  have H2 := Lib.hid h2
  have H3 := Lib.hid h3
  have H5 := Lib.hid h5
  have HS := Lib.hid hs
  have HB := Lib.hid (bl_alloc (bl_alloc (bl_alloc (Below.refl _ w) (.cells #[.slice A x.defs.length a, .slice B x.dict.length b, .slice D0 x.st.data.length d0, .slice D1 x.st.ret.length d1, .int .i32 x.st.a, .slice D3 x.st.mem.length d3, .slice D4 x.st.cells.length d4, .slice D5 x.st.vars.length d5, .slice D6 x.st.out.length d6, .slice D7 x.st.inp.length d7, .int .i64 x.st.fault, .int .i64 x.st.fuel, .bool x.opn, .bool x.yel] 51)) (.cells #[.slice none 0 0, .slice none 0 0, .slice none 0 0, .slice none 0 0, .int .i32 0, .slice none 0 0, .slice none 0 0, .slice none 0 0, .slice none 0 0, .slice none 0 0, .int .i64 0, .int .i64 0, .bool false, .bool false] 57)) (.cells #[.slice none 0 0, .slice none 0 0, .slice none 0 0, .slice none 0 0, .int .i32 0, .slice none 0 0, .slice none 0 0, .slice none 0 0, .slice none 0 0, .slice none 0 0, .int .i64 0, .int .i64 0, .bool false, .bool false] 57))
  have HK := Bx.three w #[.slice A x.defs.length a, .slice B x.dict.length b, .slice D0 x.st.data.length d0, .slice D1 x.st.ret.length d1, .int .i32 x.st.a, .slice D3 x.st.mem.length d3, .slice D4 x.st.cells.length d4, .slice D5 x.st.vars.length d5, .slice D6 x.st.out.length d6, .slice D7 x.st.inp.length d7, .int .i64 x.st.fault, .int .i64 x.st.fuel, .bool x.opn, .bool x.yel] #[.slice none 0 0, .slice none 0 0, .slice none 0 0, .slice none 0 0, .int .i32 0, .slice none 0 0, .slice none 0 0, .slice none 0 0, .slice none 0 0, .slice none 0 0, .int .i64 0, .int .i64 0, .bool false, .bool false] #[.slice none 0 0, .slice none 0 0, .slice none 0 0, .slice none 0 0, .int .i32 0, .slice none 0 0, .slice none 0 0, .slice none 0 0, .slice none 0 0, .slice none 0 0, .int .i64 0, .int .i64 0, .bool false, .bool false] 51 57 57
  obtain ⟨k0, k1, k2, -⟩ := HK
  have K0 := Lib.hid k0
  have K1 := Lib.hid k1
  have K2 := Lib.hid k2
  clear h1 h2 h3 h4 h5 hs k0 k1 k2
  have hb0 : ∀ z ∈ x.defs, z.body.length ≤ 1048576 := fun z hz => (defsS_of (by have := HS.out.defs; omega) z hz).2
  have HL := Lib.hid hb0
  clear hb0
  go_enter Tryd.func21, Tryd.ntmps21
  go_wp2_with fail
  refine (toDefS_calls A a x.defs _ (H1.out.keepB HB.out) (H2.out.call HB.out) (by have := HS.out.defs; omega) HL.out).mono ?_
  rintro e w1 ⟨gA, ys, rfl, hval, R, hO, lo, hb, hnd⟩
  replace K0 := Lib.hid (blk_call K0.out hb)
  replace K1 := Lib.hid (blk_call K1.out hb)
  replace K2 := Lib.hid (blk_call K2.out hb)
  replace HB := Lib.hid (bl_call HB.out hb)
  simp at lo
  have RA := Lib.hid R
  have OA := Lib.hid hO
  have HND := Lib.hid hnd
  have zG1 := R.lt _ rfl
  have ZB := Lib.hid (show ∀ y ∈ ys, ∀ g, y.A = some ⟨g, 0, none⟩ → g < w1.heap.size from fun y hy g e => by
    obtain ⟨g', h1, h2, -⟩ := hO y hy
    have h3 := h2.lt _ rfl
    rw [h1] at e
    injection e with e
    injection e with e
    omega)
  clear hb R hO hnd
  have cK0 := blk_cell K0.out
  have fK0 := blk_frozen K0.out
  have zK0 := blk_lt K0.out
  have cK1 := blk_cell K1.out
  have fK1 := blk_frozen K1.out
  have zK1 := blk_lt K1.out
  have cK2 := blk_cell K2.out
  have fK2 := blk_frozen K2.out
  have zK2 := blk_lt K2.out
  go_wp2_with fail
  have u1 : Hid ((w1.setCell ⟨w.heap.size + 1 + 1, 0, none⟩ (.slice (some ⟨gA, 0, none⟩) x.defs.length x.defs.length)).heap[w.heap.size + 1 + 1]? = some (.cells #[.slice (some ⟨gA, 0, none⟩) x.defs.length x.defs.length, .slice none 0 0, .slice none 0 0, .slice none 0 0, .int .i32 0, .slice none 0 0, .slice none 0 0, .slice none 0 0, .slice none 0 0, .slice none 0 0, .int .i64 0, .int .i64 0, .bool false, .bool false] 57 (0, 0))) := Lib.hid (blk_set K2.out 0 _)
  have u0 := Lib.hid (blk_far K0.out (p := ⟨w.heap.size + 1 + 1, 0, none⟩) (by simp only; omega) (.slice (some ⟨gA, 0, none⟩) x.defs.length x.defs.length))
  have u2 := Lib.hid (blk_far K1.out (p := ⟨w.heap.size + 1 + 1, 0, none⟩) (by simp only; omega) (.slice (some ⟨gA, 0, none⟩) x.defs.length x.defs.length))
  replace HB := Lib.hid (bl_set2 HB.out (.slice (some ⟨gA, 0, none⟩) x.defs.length x.defs.length) (j := 0))
  replace RA := Lib.hid (RA.out.far (p := ⟨w.heap.size + 1 + 1, 0, none⟩) (fun e => by injection e with e; simp only at e; omega) (.slice (some ⟨gA, 0, none⟩) x.defs.length x.defs.length))
  replace OA := Lib.hid (fun y hy => (OA.out y hy).far (p := ⟨w.heap.size + 1 + 1, 0, none⟩) (by simp only; omega) (.slice (some ⟨gA, 0, none⟩) x.defs.length x.defs.length))
  clear cK0 fK0 zK0 cK1 fK1 zK1 cK2 fK2 zK2
  clear K0 K1 K2
  refine (toEntryS_calls B b x.dict _ (H3.out.keepB HB.out) (by have := HS.out.dict; omega)).mono ?_
  rintro e w2 ⟨gB, rfl, R, loB, hb⟩
  have K0 := Lib.hid (blk_call u0.out hb)
  have K1 := Lib.hid (blk_call u2.out hb)
  have K2 := Lib.hid (blk_call u1.out hb)
  replace HB := Lib.hid (bl_call HB.out hb)
  replace RA := Lib.hid (RA.out.call hb)
  replace OA := Lib.hid (fun y hy => (OA.out y hy).call hb)
  have RB := Lib.hid R
  have zG2 := R.lt _ rfl
  have zA := hb.size
  simp at loB zA
  have zK := blk_lt u1.out
  simp at zK
  clear hb R u0 u1 u2
  have cK0 := blk_cell K0.out
  have fK0 := blk_frozen K0.out
  have zK0 := blk_lt K0.out
  have cK1 := blk_cell K1.out
  have fK1 := blk_frozen K1.out
  have zK1 := blk_lt K1.out
  have cK2 := blk_cell K2.out
  have fK2 := blk_frozen K2.out
  have zK2 := blk_lt K2.out
  go_wp2_with fail
  have u1 : Hid ((w2.setCell ⟨w.heap.size + 1 + 1, 1, none⟩ (.slice (some ⟨gB, 0, none⟩) x.dict.length x.dict.length)).heap[w.heap.size + 1 + 1]? = some (.cells #[.slice (some ⟨gA, 0, none⟩) x.defs.length x.defs.length, .slice (some ⟨gB, 0, none⟩) x.dict.length x.dict.length, .slice none 0 0, .slice none 0 0, .int .i32 0, .slice none 0 0, .slice none 0 0, .slice none 0 0, .slice none 0 0, .slice none 0 0, .int .i64 0, .int .i64 0, .bool false, .bool false] 57 (0, 0))) := Lib.hid (blk_set K2.out 1 _)
  have u0 := Lib.hid (blk_far K0.out (p := ⟨w.heap.size + 1 + 1, 1, none⟩) (by simp only; omega) (.slice (some ⟨gB, 0, none⟩) x.dict.length x.dict.length))
  have u2 := Lib.hid (blk_far K1.out (p := ⟨w.heap.size + 1 + 1, 1, none⟩) (by simp only; omega) (.slice (some ⟨gB, 0, none⟩) x.dict.length x.dict.length))
  replace HB := Lib.hid (bl_set2 HB.out (.slice (some ⟨gB, 0, none⟩) x.dict.length x.dict.length) (j := 1))
  replace RA := Lib.hid (RA.out.far (p := ⟨w.heap.size + 1 + 1, 1, none⟩) (fun e => by injection e with e; simp only at e; omega) (.slice (some ⟨gB, 0, none⟩) x.dict.length x.dict.length))
  replace OA := Lib.hid (fun y hy => (OA.out y hy).far (p := ⟨w.heap.size + 1 + 1, 1, none⟩) (by simp only; omega) (.slice (some ⟨gB, 0, none⟩) x.dict.length x.dict.length))
  replace RB := Lib.hid (RB.out.far (p := ⟨w.heap.size + 1 + 1, 1, none⟩) (fun e => by injection e with e; simp only at e; omega) (.slice (some ⟨gB, 0, none⟩) x.dict.length x.dict.length))
  clear cK0 fK0 zK0 cK1 fK1 zK1 cK2 fK2 zK2
  clear K0 K1 K2
  refine (toSt_calls x.st _ _ (H5.out.keepB HB.out) HS.out.st).mono ?_
  rintro e w3 ⟨v3, rfl, O, hb⟩
  have K0 := Lib.hid (blk_call u0.out hb)
  have K1 := Lib.hid (blk_call u2.out hb)
  have K2 := Lib.hid (blk_call u1.out hb)
  replace HB := Lib.hid (bl_call HB.out hb)
  replace RA := Lib.hid (RA.out.call hb)
  replace OA := Lib.hid (fun y hy => (OA.out y hy).call hb)
  replace RB := Lib.hid (RB.out.call hb)
  obtain ⟨E0, e0, E1, e1, E3, e3, E4, e4, E5, e5, E6, e6, E7, e7, rfl⟩ := O.k.form
  have zB := hb.size
  simp at zB
  have HO := Lib.hid (O.low (lo' := w2.heap.size) (by simp))
  clear hb O u0 u1 u2
  have cK0 := blk_cell K0.out
  have fK0 := blk_frozen K0.out
  have zK0 := blk_lt K0.out
  have cK1 := blk_cell K1.out
  have fK1 := blk_frozen K1.out
  have zK1 := blk_lt K1.out
  have cK2 := blk_cell K2.out
  have fK2 := blk_frozen K2.out
  have zK2 := blk_lt K2.out
  go_wp2_with fail
  have hlen : ys.length = x.defs.length := val_len hval
  have nA : some gA ≠ some (w.heap.size + 1 + 1) := fun e => by injection e with e; omega
  have mA : some gA ≠ some (w.heap.size + 1) := fun e => by injection e with e; omega
  have nB : some gB ≠ some (w.heap.size + 1 + 1) := fun e => by injection e with e; omega
  have mB : some gB ≠ some (w.heap.size + 1) := fun e => by injection e with e; omega
  refine bodyPost_ret (v := .agg #[.slice (some ⟨gA, 0, none⟩) x.defs.length x.defs.length, .slice (some ⟨gB, 0, none⟩) x.dict.length x.dict.length, .slice E0 x.st.data.length e0, .slice E1 x.st.ret.length e1, .int .i32 x.st.a, .slice E3 x.st.mem.length e3, .slice E4 x.st.cells.length e4, .slice E5 x.st.vars.length e5, .slice E6 x.st.out.length e6, .slice E7 x.st.inp.length e7, .int .i64 x.st.fault, .int .i64 x.st.fuel, .bool x.opn, .bool x.yel]) (by simp [results, Tryd.results21, go_sem, cK1, zK1]) rfl ⟨_, ys, rfl, hval, ⟨gA, gB, E0, e0, E1, e1, E3, e3, E4, e4, E5, e5, E6, e6, E7, e7, ?_, ?_, ?_, ?_, ?_, by omega, by omega, by omega, (fun y hy g e => Nat.lt_of_lt_of_le (ZB.out y hy g e) (by omega)), HND.out, ?_⟩, ?_⟩
  · show Value.agg #[.slice (some ⟨gA, 0, none⟩) x.defs.length x.defs.length, .slice (some ⟨gB, 0, none⟩) x.dict.length x.dict.length, .slice E0 x.st.data.length e0, .slice E1 x.st.ret.length e1, .int .i32 x.st.a, .slice E3 x.st.mem.length e3, .slice E4 x.st.cells.length e4, .slice E5 x.st.vars.length e5, .slice E6 x.st.out.length e6, .slice E7 x.st.inp.length e7, .int .i64 x.st.fault, .int .i64 x.st.fuel, .bool x.opn, .bool x.yel] = .agg #[.slice (some ⟨gA, 0, none⟩) ys.length ys.length, .slice (some ⟨gB, 0, none⟩) x.dict.length x.dict.length, .slice E0 x.st.data.length e0, .slice E1 x.st.ret.length e1, .int .i32 x.st.a, .slice E3 x.st.mem.length e3, .slice E4 x.st.cells.length e4, .slice E5 x.st.vars.length e5, .slice E6 x.st.out.length e6, .slice E7 x.st.inp.length e7, .int .i64 x.st.fault, .int .i64 x.st.fuel, .bool x.opn, .bool x.yel]
    rw [hlen]
  · show Row _ 106 2 (some ⟨gA, 0, none⟩) ys.length ys.length (ys.flatMap DDef.enc) (some gA)
    rw [hlen]
    with_reducible repeat (first | refine Row.far ?_ nA _ | refine Row.far ?_ mA _ | exact RA.out)
  · intro y hy
    have l2 : w.heap.size + 1 + 1 < gA + 1 := by omega
    have l1 : w.heap.size + 1 < gA + 1 := by omega
    with_reducible repeat (first | refine DDef.O.far ?_ l2 _ | refine DDef.O.far ?_ l1 _ | exact OA.out y hy)
  · with_reducible repeat (first | refine Row.far ?_ nB _ | refine Row.far ?_ mB _ | exact RB.out)
  · refine StO.low (lo := w2.heap.size) ?_ (by omega)
    have l2 : w.heap.size + 1 + 1 < w2.heap.size := by omega
    have l1 : w.heap.size + 1 < w2.heap.size := by omega
    with_reducible repeat (first | refine StO.far ?_ l2 _ | refine StO.far ?_ l1 _ | exact HO.out)
  · refine StO.low (lo := w2.heap.size) ?_ (by omega)
    have l2 : w.heap.size + 1 + 1 < w2.heap.size := by omega
    have l1 : w.heap.size + 1 < w2.heap.size := by omega
    with_reducible repeat (first | refine StO.far ?_ l2 _ | refine StO.far ?_ l1 _ | exact HO.out)
  · with_reducible repeat (first | apply bl_set2 | apply bl_set1 | exact HB.out)
set_option maxRecDepth 100000 in
set_option maxHeartbeats 2000000 in
theorem eqWorld_calls (x : LW) (ys : List DDef) (v v' : Value) (w : World) (hv : WK w { x with defs := ys } v) (hv' : WK w x v') (hval : ys.map DDef.val = x.defs.map DDef.val) (hs : x.small) :
    Calls Tryd.prog 23 #[v, v'] w fun e w' => e = .returned (.bool true) ∧ Below w.heap.size w w' := by
  obtain ⟨A, a, B, b, D0, d0, D1, d1, D3, d3, D4, d4, D5, d5, D6, d6, D7, d7, rfl, h1, h2, h3, h4, h5⟩ := hv
  obtain ⟨A', a', B', b', E0, e0, E1, e1, E3, e3, E4, e4, E5, e5, E6, e6, E7, e7, rfl, i1, i2, i3, i4, i5⟩ := hv'
  have hlen : ys.length = x.defs.length := val_len hval
  have H1 := Lib.hid h1
  have H2 := Lib.hid h2
  have H3 := Lib.hid h3
  have H5 := Lib.hid h5
  have I1 := Lib.hid i1
  have I2 := Lib.hid i2
  have I3 := Lib.hid i3
  have I5 := Lib.hid i5
  have HS := Lib.hid hs
  have HVAL := Lib.hid hval
  clear h1 h2 h3 h4 h5 i1 i2 i3 i4 i5 hs hval
  simp only [hlen]
  have KA := Lib.hid (blk_alloc (blk_new w (.cells #[.slice A x.defs.length a, .slice B x.dict.length b, .slice D0 x.st.data.length d0, .slice D1 x.st.ret.length d1, .int .i32 x.st.a, .slice D3 x.st.mem.length d3, .slice D4 x.st.cells.length d4, .slice D5 x.st.vars.length d5, .slice D6 x.st.out.length d6, .slice D7 x.st.inp.length d7, .int .i64 x.st.fault, .int .i64 x.st.fuel, .bool x.opn, .bool x.yel] 57)) (.cells #[.slice A' x.defs.length a', .slice B' x.dict.length b', .slice E0 x.st.data.length e0, .slice E1 x.st.ret.length e1, .int .i32 x.st.a, .slice E3 x.st.mem.length e3, .slice E4 x.st.cells.length e4, .slice E5 x.st.vars.length e5, .slice E6 x.st.out.length e6, .slice E7 x.st.inp.length e7, .int .i64 x.st.fault, .int .i64 x.st.fuel, .bool x.opn, .bool x.yel] 57))
  have KB := Lib.hid ((Bx.two w #[.slice A x.defs.length a, .slice B x.dict.length b, .slice D0 x.st.data.length d0, .slice D1 x.st.ret.length d1, .int .i32 x.st.a, .slice D3 x.st.mem.length d3, .slice D4 x.st.cells.length d4, .slice D5 x.st.vars.length d5, .slice D6 x.st.out.length d6, .slice D7 x.st.inp.length d7, .int .i64 x.st.fault, .int .i64 x.st.fuel, .bool x.opn, .bool x.yel] #[.slice A' x.defs.length a', .slice B' x.dict.length b', .slice E0 x.st.data.length e0, .slice E1 x.st.ret.length e1, .int .i32 x.st.a, .slice E3 x.st.mem.length e3, .slice E4 x.st.cells.length e4, .slice E5 x.st.vars.length e5, .slice E6 x.st.out.length e6, .slice E7 x.st.inp.length e7, .int .i64 x.st.fault, .int .i64 x.st.fuel, .bool x.opn, .bool x.yel] 57 57).2.1)
  have HB := Lib.hid (bl_alloc (bl_alloc (Below.refl _ w) (.cells #[.slice A x.defs.length a, .slice B x.dict.length b, .slice D0 x.st.data.length d0, .slice D1 x.st.ret.length d1, .int .i32 x.st.a, .slice D3 x.st.mem.length d3, .slice D4 x.st.cells.length d4, .slice D5 x.st.vars.length d5, .slice D6 x.st.out.length d6, .slice D7 x.st.inp.length d7, .int .i64 x.st.fault, .int .i64 x.st.fuel, .bool x.opn, .bool x.yel] 57)) (.cells #[.slice A' x.defs.length a', .slice B' x.dict.length b', .slice E0 x.st.data.length e0, .slice E1 x.st.ret.length e1, .int .i32 x.st.a, .slice E3 x.st.mem.length e3, .slice E4 x.st.cells.length e4, .slice E5 x.st.vars.length e5, .slice E6 x.st.out.length e6, .slice E7 x.st.inp.length e7, .int .i64 x.st.fault, .int .i64 x.st.fuel, .bool x.opn, .bool x.yel] 57))
  go_enter Tryd.func23, Tryd.ntmps23
  go_wp2_with fail
  refine (eqDefS_calls A A' a a' ys x.defs _ (H1.out.keepB HB.out) (I1.out.keepB HB.out) (H2.out.call HB.out) (I2.out.call HB.out) HVAL.out HS.out.defs).mono ?_
  rintro e w1 ⟨rfl, hb⟩
  replace KA := Lib.hid (blk_call KA.out hb)
  replace KB := Lib.hid (blk_call KB.out hb)
  replace HB := Lib.hid (bl_call HB.out hb)
  clear hb
  have cKA := blk_cell KA.out
  have fKA := blk_frozen KA.out
  have zKA := blk_lt KA.out
  have cKB := blk_cell KB.out
  have fKB := blk_frozen KB.out
  have zKB := blk_lt KB.out
  go_wp2_with fail
  refine (eqEntryS_calls B B' b b' x.dict _ (H3.out.keepB HB.out) (I3.out.keepB HB.out) HS.out.dict).mono ?_
  rintro e w2 ⟨rfl, hb⟩
  clear cKA fKA zKA cKB fKB zKB
  replace KA := Lib.hid (blk_call KA.out hb)
  replace KB := Lib.hid (blk_call KB.out hb)
  replace HB := Lib.hid (bl_call HB.out hb)
  clear hb
  have cKA := blk_cell KA.out
  have fKA := blk_frozen KA.out
  have zKA := blk_lt KA.out
  have cKB := blk_cell KB.out
  have fKB := blk_frozen KB.out
  have zKB := blk_lt KB.out
  go_wp2_with fail
  refine (eqSt_calls x.st _ _ _ (H5.out.keepB HB.out) (I5.out.keepB HB.out) HS.out.st).mono ?_
  rintro e w3 ⟨rfl, hb⟩
  clear cKA fKA zKA cKB fKB zKB
  replace KA := Lib.hid (blk_call KA.out hb)
  replace KB := Lib.hid (blk_call KB.out hb)
  replace HB := Lib.hid (bl_call HB.out hb)
  clear hb
  have cKA := blk_cell KA.out
  have fKA := blk_frozen KA.out
  have zKA := blk_lt KA.out
  have cKB := blk_cell KB.out
  have fKB := blk_frozen KB.out
  have zKB := blk_lt KB.out
  go_wp2_with fail
  go_ret
  exact ⟨rfl, HB.out⟩
end Go.Proofs.YtjciibhaifabjaaDoor
