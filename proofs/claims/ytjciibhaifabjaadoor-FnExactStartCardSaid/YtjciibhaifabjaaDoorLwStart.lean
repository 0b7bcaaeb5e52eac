/- The law FnExactStart, walked. -/
import Derived.Test.YtjciibhaifabjaaDoorMb
import Derived.Deep.RegionWith
import Derived.Deep.Cut
import Derived.Deep.CutRange
import Derived.Outline
set_option linter.unusedVariables false
set_option linter.unusedSimpArgs false
namespace Go.Proofs.YtjciibhaifabjaaDoor
open Go.RowKit

theorem set12Y {w : World} {m : Nat} {t : TypeId} (h : w.heap[m]? = some (.cells #[.slice none 0 0, .slice none 0 0, .int .i32 0, .slice none 0 0, .slice none 0 0, .slice none 0 0, .slice none 0 0, .slice none 0 0, .int .i64 0, .int .i64 0, .int .i64 0, .bool false] t (0, 0))) (a0 a1 a2 a3 a4 a5 a6 a7 a8 a9 a10 a11 : Value) : ((((((((((((w.setCell ⟨m, 0, none⟩ a0).setCell ⟨m, 1, none⟩ a1).setCell ⟨m, 2, none⟩ a2).setCell ⟨m, 3, none⟩ a3).setCell ⟨m, 4, none⟩ a4).setCell ⟨m, 5, none⟩ a5).setCell ⟨m, 6, none⟩ a6).setCell ⟨m, 7, none⟩ a7).setCell ⟨m, 8, none⟩ a8).setCell ⟨m, 9, none⟩ a9).setCell ⟨m, 10, none⟩ a10).setCell ⟨m, 11, none⟩ a11).heap[m]? = some (.cells #[a0, a1, a2, a3, a4, a5, a6, a7, a8, a9, a10, a11] t (0, 0)) := by
  have := (blk_set (blk_set (blk_set (blk_set (blk_set (blk_set (blk_set (blk_set (blk_set (blk_set (blk_set (blk_set h 0 a0) 1 a1) 2 a2) 3 a3) 4 a4) 5 a5) 6 a6) 7 a7) 8 a8) 9 a9) 10 a10) 11 a11)
  simpa using this
theorem set12O {w : World} {lo m : Nat} {s : LSt} {v : Value} (h : StO w lo s v) (hn : m < lo) (a0 a1 a2 a3 a4 a5 a6 a7 a8 a9 a10 a11 : Value) : StO ((((((((((((w.setCell ⟨m, 0, none⟩ a0).setCell ⟨m, 1, none⟩ a1).setCell ⟨m, 2, none⟩ a2).setCell ⟨m, 3, none⟩ a3).setCell ⟨m, 4, none⟩ a4).setCell ⟨m, 5, none⟩ a5).setCell ⟨m, 6, none⟩ a6).setCell ⟨m, 7, none⟩ a7).setCell ⟨m, 8, none⟩ a8).setCell ⟨m, 9, none⟩ a9).setCell ⟨m, 10, none⟩ a10).setCell ⟨m, 11, none⟩ a11) lo s v :=
  ((((((((((((h.far (p := ⟨m, 0, none⟩) hn a0).far (p := ⟨m, 1, none⟩) hn a1).far (p := ⟨m, 2, none⟩) hn a2).far (p := ⟨m, 3, none⟩) hn a3).far (p := ⟨m, 4, none⟩) hn a4).far (p := ⟨m, 5, none⟩) hn a5).far (p := ⟨m, 6, none⟩) hn a6).far (p := ⟨m, 7, none⟩) hn a7).far (p := ⟨m, 8, none⟩) hn a8).far (p := ⟨m, 9, none⟩) hn a9).far (p := ⟨m, 10, none⟩) hn a10).far (p := ⟨m, 11, none⟩) hn a11)
theorem set12B {B m : Nat} {w W : World} (h : Below B w W) (hn : B ≤ m) (a0 a1 a2 a3 a4 a5 a6 a7 a8 a9 a10 a11 : Value) : Below B w ((((((((((((W.setCell ⟨m, 0, none⟩ a0).setCell ⟨m, 1, none⟩ a1).setCell ⟨m, 2, none⟩ a2).setCell ⟨m, 3, none⟩ a3).setCell ⟨m, 4, none⟩ a4).setCell ⟨m, 5, none⟩ a5).setCell ⟨m, 6, none⟩ a6).setCell ⟨m, 7, none⟩ a7).setCell ⟨m, 8, none⟩ a8).setCell ⟨m, 9, none⟩ a9).setCell ⟨m, 10, none⟩ a10).setCell ⟨m, 11, none⟩ a11) :=
  ((((((((((((h.setCell (p := ⟨m, 0, none⟩) hn a0).setCell (p := ⟨m, 1, none⟩) hn a1).setCell (p := ⟨m, 2, none⟩) hn a2).setCell (p := ⟨m, 3, none⟩) hn a3).setCell (p := ⟨m, 4, none⟩) hn a4).setCell (p := ⟨m, 5, none⟩) hn a5).setCell (p := ⟨m, 6, none⟩) hn a6).setCell (p := ⟨m, 7, none⟩) hn a7).setCell (p := ⟨m, 8, none⟩) hn a8).setCell (p := ⟨m, 9, none⟩) hn a9).setCell (p := ⟨m, 10, none⟩) hn a10).setCell (p := ⟨m, 11, none⟩) hn a11)
theorem st12Y {w : World} {g : Nat} {o : Obj} (h : w.heap[g]? = some o) : w.drew.heap[g]? = some o := h
theorem stoDrew {w : World} {lo : Nat} {s : LSt} {v : Value} (h : StO w lo s v) : StO w.drew lo s v := h.keep fun _ _ _ => rfl
theorem st12N {w : World} {o : Obj} {m : Nat} (hm : w.heap.size = m) : (w.alloc o).heap[m]? = some o := hm ▸ blk_new w o
theorem st12ND {w : World} {o : Obj} : (w.drew.alloc o).heap[w.heap.size]? = some o := blk_new w.drew o
theorem MO.low {w : World} {lo lo' : Nat} {s : LSt} {a : Int} {dn : Bool} {v : Value} (h : MO w lo s a dn v) (hl : lo' ≤ lo) : MO w lo' s a dn v := by
  obtain ⟨D0, d0, D1, d1, D3, d3, D4, d4, D5, d5, D6, d6, D7, d7, rfl, k⟩ := h
  exact ⟨D0, d0, D1, d1, D3, d3, D4, d4, D5, d5, D6, d6, D7, d7, rfl, k.low hl⟩
theorem MO.name {w W : World} {s : LSt} {a : Int} {dn : Bool} {v : Value} (h : MO w W.heap.size s a dn v) : ∃ Lo, MO w Lo s a dn v ∧ Lo = W.heap.size := ⟨_, h, rfl⟩
theorem startS_small {xs : List LIns} {a : Int} {s : LSt} : (startS xs a s).small 140737488355328 := by
  cases hg : goOk xs a s
  · rw [(start_no hg).1]
    unfold LSt.small zeroSt
    simp
  · rw [(start_yes hg).1]
    have h := goOk_small hg
    unfold backSt
    split
    · exact LSt.small_mono h (by omega)
    · unfold LSt.small at *
      simp
      omega
set_option maxRecDepth 100000 in
set_option maxHeartbeats 16000000 in
theorem lawStart_calls (A0 : Option Addr) (c0 : Nat) (xs : List LIns) (a1 : Int) (s : LSt) (v : Value) (w : World) (hA : Asc w) (hr : Rd w A0 (xs.flatMap LIns.enc)) (hn : xs.length ≤ 140737488355328) (hv : StK w s v) (hs : s.small 140737488355328) :
    Calls Tryd.prog 3 #[.slice A0 xs.length c0, .int .i64 a1, v] w fun e w' => e = .returned (.bool true) ∧ Below w.heap.size w w' := by
  obtain ⟨Z0, z0, Z1, z1, Z3, z3, Z4, z4, Z5, z5, Z6, z6, Z7, z7, rfl⟩ := hv.form
  have HV := Lib.hid hv
  have HXS := Lib.hid hr
  have HA := Lib.hid hA
  have hsm2 := Lib.hid hs
  have KA := Lib.hid (blk_new w (.cells #[.slice Z0 s.data.length z0, .slice Z1 s.ret.length z1, .int .i32 s.a, .slice Z3 s.mem.length z3, .slice Z4 s.cells.length z4, .slice Z5 s.vars.length z5, .slice Z6 s.out.length z6, .slice Z7 s.inp.length z7, .int .i64 s.fault, .int .i64 s.fuel] 29))
  have HB := Lib.hid (bl_alloc (Below.refl _ w) (.cells #[.slice Z0 s.data.length z0, .slice Z1 s.ret.length z1, .int .i32 s.a, .slice Z3 s.mem.length z3, .slice Z4 s.cells.length z4, .slice Z5 s.vars.length z5, .slice Z6 s.out.length z6, .slice Z7 s.inp.length z7, .int .i64 s.fault, .int .i64 s.fuel] 29))
  clear hv hr hs hA
  by_cases hx1 : 1048576 < xs.length
  · go_enter Tryd.func3, Tryd.ntmps3
    go_wp2_with (go_at_call 6; refine (szInsS_no A0 xs.length c0 1048576 _ (by omega) (by omega) (by omega)).mono ?_; rintro e w1 ⟨rfl, rfl⟩)
    go_ret
    exact ⟨rfl, HB.out⟩
  have hx := Lib.hid (show xs.length ≤ 1048576 by omega)
  have hn0 : ¬ ((1048576 : Int) - xs.length < 0) := by omega
  go_enter Tryd.func3, Tryd.ntmps3
  go_wp2_with fail
  refine (szInsS_ok A0 xs.length c0 1048576 _ (by omega) (by omega)).mono ?_
  rintro e w1 ⟨rfl, rfl⟩
  go_wp2_with fail
  refine (szSt_calls s _ _ _ (HV.out.keepB HB.out) (by omega) (by omega) hsm2.out).mono ?_
  rintro e w2 ⟨⟨r, rfl, hr⟩, hb⟩
  replace KA := Lib.hid (blk_call KA.out hb)
  replace HB := Lib.hid (bl_call HB.out hb)
  clear hb
  rcases hr with ⟨rfl, -⟩ | ⟨rfl, hl⟩
  · go_wp2
    go_ret
    exact ⟨rfl, HB.out⟩
  · have hsm := Lib.hid (LSt.small_of_bulk (s := s) (n := 1048576) (by omega))
    have hfs := Lib.hid (startS_small (xs := xs) (a := a1) (s := s))
    have hn1 : ¬ ((1048576 : Int) - xs.length - s.bulk < 0) := by omega
    have cKA := blk_cell KA.out
    have fKA := blk_frozen KA.out
    have zKA := blk_lt KA.out
    have hw2 := HB.out.size
    clear hl
    go_upto_region 8 with fail
    go_cut [8] from 26 to 31 (fun tv wx => ∃ (Y : Nat) (D0 : Option Addr) (d0 : Nat) (D1 : Option Addr) (d1 : Nat) (D3 : Option Addr) (d3 : Nat) (D4 : Option Addr) (d4 : Nat) (D5 : Option Addr) (d5 : Nat) (D6 : Option Addr) (d6 : Nat) (D7 : Option Addr) (d7 : Nat), tv = .pointer (some ⟨Y, 0, none⟩) ∧ Hid (wx.heap[Y]? = some (.cells #[.slice D0 (startS xs a1 s).data.length d0, .slice D1 (startS xs a1 s).ret.length d1, .int .i32 (startS xs a1 s).a, .slice D3 (startS xs a1 s).mem.length d3, .slice D4 (startS xs a1 s).cells.length d4, .slice D5 (startS xs a1 s).vars.length d5, .slice D6 (startS xs a1 s).out.length d6, .slice D7 (startS xs a1 s).inp.length d7, .int .i64 (startS xs a1 s).fault, .int .i64 (startS xs a1 s).fuel, .int .i64 (startA xs a1 s), .bool false] 36 (0, 0))) ∧ Hid (StI wx w2.heap.size wx.heap.size (startS xs a1 s) (.agg #[.slice D0 (startS xs a1 s).data.length d0, .slice D1 (startS xs a1 s).ret.length d1, .int .i32 (startS xs a1 s).a, .slice D3 (startS xs a1 s).mem.length d3, .slice D4 (startS xs a1 s).cells.length d4, .slice D5 (startS xs a1 s).vars.length d5, .slice D6 (startS xs a1 s).out.length d6, .slice D7 (startS xs a1 s).inp.length d7, .int .i64 (startS xs a1 s).fault, .int .i64 (startS xs a1 s).fuel])) ∧ w2.heap.size ≤ Y ∧ Hid (Below w2.heap.size w2 wx))
    case first =>
      go_region_with (first
        | (go_at_call 9; (with_reducible refine (toInsS_calls A0 c0 xs _ ?_ hx.out).mono ?_); exact HXS.out.keepB (by with_reducible repeat (first | exact HB.out | apply bl_alloc | apply bl_drew | apply bl_drewN)); rintro e wa ⟨ga, rfl, Ra, loa, hba⟩; have HRa := Lib.hid Ra; have HBa := Lib.hid (show Below w2.heap.size w2 wa from bl_call (by with_reducible repeat (first | exact Below.refl _ _ | apply bl_alloc | apply bl_drew | apply bl_drewN)) hba); have HXa := Lib.hid hba; have sa := hba.size; (try simp at sa); have KAa : Hid (wa.heap[w.heap.size]? = some (.cells #[.slice Z0 s.data.length z0, .slice Z1 s.ret.length z1, .int .i32 s.a, .slice Z3 s.mem.length z3, .slice Z4 s.cells.length z4, .slice Z5 s.vars.length z5, .slice Z6 s.out.length z6, .slice Z7 s.inp.length z7, .int .i64 s.fault, .int .i64 s.fuel] 29 (0, 0))) := Lib.hid (blk_call (by with_reducible first | exact KA.out | (refine blk_alloc ?_ _; exact KA.out) | (refine st12Y ?_; exact KA.out) | (refine st12Y ?_; refine blk_alloc ?_ _; exact KA.out) | (refine blk_alloc ?_ _; refine st12Y ?_; exact KA.out) | (refine st12Y ?_; refine blk_alloc ?_ _; refine st12Y ?_; exact KA.out)) hba); have cKAa := blk_cell KAa.out; have fKAa := blk_frozen KAa.out; have zKAa := blk_lt KAa.out; (try (have za : w2.heap.size < wa.heap.size := (by have h := hba.size; first | omega | (simp at h; omega)))); (try (have KYw1 : Hid (wa.heap[w2.heap.size]? = some (.cells #[.slice none 0 0, .slice none 0 0, .int .i32 0, .slice none 0 0, .slice none 0 0, .slice none 0 0, .slice none 0 0, .slice none 0 0, .int .i64 0, .int .i64 0, .int .i64 0, .bool false] 36 (0, 0))) := Lib.hid (blk_call (by with_reducible first | (first | exact blk_new _ _ | exact st12ND) | (refine blk_alloc ?_ _; (first | exact blk_new _ _ | exact st12ND)) | (refine st12Y ?_; (first | exact blk_new _ _ | exact st12ND)) | (refine st12Y ?_; refine blk_alloc ?_ _; (first | exact blk_new _ _ | exact st12ND)) | (refine blk_alloc ?_ _; refine st12Y ?_; (first | exact blk_new _ _ | exact st12ND)) | (refine st12Y ?_; refine blk_alloc ?_ _; refine st12Y ?_; (first | exact blk_new _ _ | exact st12ND))) hba))); clear Ra loa hba)
        | (go_at_call 10; (with_reducible refine (toSt_calls s _ _ ?_ hsm.out).mono ?_); exact HV.out.keepB (bl_call HB.out (by with_reducible repeat (first | exact HBa.out | apply bl_alloc | apply bl_drew | apply bl_drewN))); rintro e wb ⟨vb, rfl, Ob, hbb⟩; have hob := Ob.k; obtain ⟨J0, j0, J1, j1, J3, j3, J4, j4, J5, j5, J6, j6, J7, j7, rfl⟩ := hob.form; have HOb := Lib.hid hob; have HBb := Lib.hid (show Below w2.heap.size w2 wb from bl_call (by with_reducible repeat (first | exact HBa.out | apply bl_alloc | apply bl_drew | apply bl_drewN)) hbb); have HXb := Lib.hid hbb; have HRb := Lib.hid ((show Rd _ (some ⟨ga, 0, none⟩) (xs.flatMap LIns.enc) from HRa.out.rd.keepB (by with_reducible repeat (first | exact Below.refl _ _ | apply bl_alloc | apply bl_drew | apply bl_drewN))).call hbb); have sb := hbb.size; (try simp at sb); (try (have zb : w2.heap.size < wb.heap.size := (by have h := hbb.size; first | omega | (simp at h; omega)))); (try (have zab : wa.heap.size < wb.heap.size := (by have h := hbb.size; first | omega | (simp at h; omega)))); (try (have KYw2 : Hid (wb.heap[w2.heap.size]? = some (.cells #[.slice none 0 0, .slice none 0 0, .int .i32 0, .slice none 0 0, .slice none 0 0, .slice none 0 0, .slice none 0 0, .slice none 0 0, .int .i64 0, .int .i64 0, .int .i64 0, .bool false] 36 (0, 0))) := Lib.hid (blk_call (by with_reducible first | exact KYw1.out | (refine blk_alloc ?_ _; exact KYw1.out) | (refine st12Y ?_; exact KYw1.out) | (refine st12Y ?_; refine blk_alloc ?_ _; exact KYw1.out) | (refine blk_alloc ?_ _; refine st12Y ?_; exact KYw1.out) | (refine st12Y ?_; refine blk_alloc ?_ _; refine st12Y ?_; exact KYw1.out)) hbb))); (try (have KYa2 : Hid (wb.heap[wa.heap.size]? = some (.cells #[.slice none 0 0, .slice none 0 0, .int .i32 0, .slice none 0 0, .slice none 0 0, .slice none 0 0, .slice none 0 0, .slice none 0 0, .int .i64 0, .int .i64 0, .int .i64 0, .bool false] 36 (0, 0))) := Lib.hid (blk_call (by with_reducible first | (first | exact blk_new _ _ | exact st12ND) | (refine blk_alloc ?_ _; (first | exact blk_new _ _ | exact st12ND)) | (refine st12Y ?_; (first | exact blk_new _ _ | exact st12ND)) | (refine st12Y ?_; refine blk_alloc ?_ _; (first | exact blk_new _ _ | exact st12ND)) | (refine blk_alloc ?_ _; refine st12Y ?_; (first | exact blk_new _ _ | exact st12ND)) | (refine st12Y ?_; refine blk_alloc ?_ _; refine st12Y ?_; (first | exact blk_new _ _ | exact st12ND))) hbb))); clear Ob hob hbb cKAa fKAa zKAa)
        | (go_at_call 8; (with_reducible refine (specStart_calls (some ⟨ga, 0, none⟩) xs.length xs a1 s _ _ ?_ ?_ ?_ ?_).mono ?_); exact HRb.out.keepB (by with_reducible repeat (first | exact Below.refl _ _ | apply bl_alloc | apply bl_drew | apply bl_drewN)); omega; exact HOb.out.keepB (by with_reducible repeat (first | exact Below.refl _ _ | apply bl_alloc | apply bl_drew | apply bl_drewN)); exact hsm2.out; rintro e wc ⟨vc, rfl, Oc, hbc⟩; obtain ⟨Lo, Oc, hLo⟩ := Oc.name; (try simp at hLo); obtain ⟨D0, d0, D1, d1, D3, d3, D4, d4, D5, d5, D6, d6, D7, d7, rfl, OD⟩ := Oc; have HOc := Lib.hid OD; have HBc := Lib.hid (show Below w2.heap.size w2 wc from bl_call (by with_reducible repeat (first | exact HBb.out | apply bl_alloc | apply bl_drew | apply bl_drewN)) hbc); have HXc := Lib.hid hbc; have sc := hbc.size; (try simp at sc); (try (have zc : w2.heap.size < wc.heap.size := (by have h := hbc.size; first | omega | (simp at h; omega)))); (try (have zac : wa.heap.size < wc.heap.size := (by have h := hbc.size; first | omega | (simp at h; omega)))); (try (have zbc : wb.heap.size < wc.heap.size := (by have h := hbc.size; first | omega | (simp at h; omega)))); (try (have KYw3 : Hid (wc.heap[w2.heap.size]? = some (.cells #[.slice none 0 0, .slice none 0 0, .int .i32 0, .slice none 0 0, .slice none 0 0, .slice none 0 0, .slice none 0 0, .slice none 0 0, .int .i64 0, .int .i64 0, .int .i64 0, .bool false] 36 (0, 0))) := Lib.hid (blk_call (by with_reducible first | exact KYw2.out | (refine blk_alloc ?_ _; exact KYw2.out) | (refine st12Y ?_; exact KYw2.out) | (refine st12Y ?_; refine blk_alloc ?_ _; exact KYw2.out) | (refine blk_alloc ?_ _; refine st12Y ?_; exact KYw2.out) | (refine st12Y ?_; refine blk_alloc ?_ _; refine st12Y ?_; exact KYw2.out)) hbc))); (try (have KYa3 : Hid (wc.heap[wa.heap.size]? = some (.cells #[.slice none 0 0, .slice none 0 0, .int .i32 0, .slice none 0 0, .slice none 0 0, .slice none 0 0, .slice none 0 0, .slice none 0 0, .int .i64 0, .int .i64 0, .int .i64 0, .bool false] 36 (0, 0))) := Lib.hid (blk_call (by with_reducible first | exact KYa2.out | (refine blk_alloc ?_ _; exact KYa2.out) | (refine st12Y ?_; exact KYa2.out) | (refine st12Y ?_; refine blk_alloc ?_ _; exact KYa2.out) | (refine blk_alloc ?_ _; refine st12Y ?_; exact KYa2.out) | (refine st12Y ?_; refine blk_alloc ?_ _; refine st12Y ?_; exact KYa2.out)) hbc))); (try (have KYb3 : Hid (wc.heap[wb.heap.size]? = some (.cells #[.slice none 0 0, .slice none 0 0, .int .i32 0, .slice none 0 0, .slice none 0 0, .slice none 0 0, .slice none 0 0, .slice none 0 0, .int .i64 0, .int .i64 0, .int .i64 0, .bool false] 36 (0, 0))) := Lib.hid (blk_call (by with_reducible first | (first | exact blk_new _ _ | exact st12ND) | (refine blk_alloc ?_ _; (first | exact blk_new _ _ | exact st12ND)) | (refine st12Y ?_; (first | exact blk_new _ _ | exact st12ND)) | (refine st12Y ?_; refine blk_alloc ?_ _; (first | exact blk_new _ _ | exact st12ND)) | (refine blk_alloc ?_ _; refine st12Y ?_; (first | exact blk_new _ _ | exact st12ND)) | (refine st12Y ?_; refine blk_alloc ?_ _; refine st12Y ?_; (first | exact blk_new _ _ | exact st12ND))) hbc))); (try (have cKYw3 := blk_cell KYw3.out; have fKYw3 := blk_frozen KYw3.out; have zKYw3 := blk_lt KYw3.out)); (try (have cKYa3 := blk_cell KYa3.out; have fKYa3 := blk_frozen KYa3.out; have zKYa3 := blk_lt KYa3.out)); (try (have cKYb3 := blk_cell KYb3.out; have fKYb3 := blk_frozen KYb3.out; have zKYb3 := blk_lt KYb3.out)); clear OD hbc))
      all_goals
        go_wp2_with fail
        go_meet
        refine ⟨_, D0, d0, D1, d1, D3, d3, D4, d4, D5, d5, D6, d6, D7, d7, rfl, Lib.hid ?_, Lib.hid (StO.i (StO.low (lo := Lo) ?_ (by omega))), by first | omega | (simp; omega), Lib.hid ?_⟩
        · with_reducible repeat (first | refine set12Y ?_ _ _ _ _ _ _ _ _ _ _ _ _ | exact st12N (by first | omega | (simp; done) | (simp; omega)) | refine blk_alloc ?_ _ | refine st12Y ?_ | refine blk_call ?_ HXc.out | refine blk_call ?_ HXb.out | refine blk_call ?_ HXa.out)
        · have HO' := HOc.out
          with_reducible repeat (first | refine set12O ?_ (by omega) _ _ _ _ _ _ _ _ _ _ _ _ | refine StO.alloc ?_ _ | refine stoDrew ?_ | exact HO')
        · with_reducible repeat (first | refine set12B ?_ (by omega) _ _ _ _ _ _ _ _ _ _ _ _ | apply bl_alloc | apply bl_drew | exact HBc.out)
    case rest =>
      obtain ⟨Y, E0, e0, E1, e1, E3, e3, E4, e4, E5, e5, E6, e6, E7, e7, rfl, KW, HW0, hY, HX8⟩ := hcut
      clear cKA fKA zKA
      replace KA := Lib.hid (blk_call KA.out HX8.out)
      replace HB := Lib.hid (bl_call HB.out HX8.out)
      have hs8 := HX8.out.size
      have HW : Hid (MI wc w2.heap.size wc.heap.size (startS xs a1 s) (startA xs a1 s) false (.agg #[.slice E0 (startS xs a1 s).data.length e0, .slice E1 (startS xs a1 s).ret.length e1, .int .i32 (startS xs a1 s).a, .slice E3 (startS xs a1 s).mem.length e3, .slice E4 (startS xs a1 s).cells.length e4, .slice E5 (startS xs a1 s).vars.length e5, .slice E6 (startS xs a1 s).out.length e6, .slice E7 (startS xs a1 s).inp.length e7, .int .i64 (startS xs a1 s).fault, .int .i64 (startS xs a1 s).fuel, .int .i64 (startA xs a1 s), .bool false])) := Lib.hid ⟨E0, e0, E1, e1, E3, e3, E4, e4, E5, e5, E6, e6, E7, e7, rfl, HW0.out⟩
      clear HX8 HW0
      have hYlt := blk_lt KW.out
      obtain ⟨hiW, hhi⟩ : ∃ n, n = wc.heap.size := ⟨_, rfl⟩
      rw [← hhi] at HW
      have hhi2 : hiW ≤ wc.heap.size := by omega
      have cKA := blk_cell KA.out
      have fKA := blk_frozen KA.out
      have zKA := blk_lt KA.out
      have cKW := blk_cell KW.out
      have fKW := blk_frozen KW.out
      have zKW := blk_lt KW.out
      go_wp2_with fail
      refine (toInsS_calls A0 c0 xs _ (HXS.out.keepB HB.out) hx.out).mono ?_
      rintro e w101 ⟨gx, rfl, R, lox, hb⟩
      clear cKA fKA zKA cKW fKW zKW
      replace KA := Lib.hid (blk_call KA.out hb)
      replace KW := Lib.hid (blk_call KW.out hb)
      replace HW := Lib.hid (HW.out.call hb)
      replace HB := Lib.hid (bl_call HB.out hb)
      have hs101 := hb.size
      (try simp at hs101)
      have TX := Lib.hid R
      have zx := R.lt _ rfl
      clear R
      clear hb
      have cKA := blk_cell KA.out
      have fKA := blk_frozen KA.out
      have zKA := blk_lt KA.out
      have cKW := blk_cell KW.out
      have fKW := blk_frozen KW.out
      have zKW := blk_lt KW.out
      go_wp2_with fail
      refine (toSt_calls s _ _ (HV.out.keepB HB.out) hsm.out).mono ?_
      rintro e w102 ⟨v10, rfl, O, hb⟩
      clear cKA fKA zKA cKW fKW zKW
      replace KA := Lib.hid (blk_call KA.out hb)
      replace KW := Lib.hid (blk_call KW.out hb)
      replace HW := Lib.hid (HW.out.call hb)
      replace TX := Lib.hid (TX.out.call hb)
      replace HB := Lib.hid (bl_call HB.out hb)
      have hs102 := hb.size
      (try simp at hs102)
      obtain ⟨P0, p0, P1, p1, P3, p3, P4, p4, P5, p5, P6, p6, P7, p7, rfl⟩ := O.k.form
      have HX := Lib.hid O.i
      clear O
      clear hb
      have cKA := blk_cell KA.out
      have fKA := blk_frozen KA.out
      have zKA := blk_lt KA.out
      have cKW := blk_cell KW.out
      have fKW := blk_frozen KW.out
      have zKW := blk_lt KW.out
      clear cKA fKA zKA cKW fKW zKW
      have cKA := blk_cell KA.out
      have fKA := blk_frozen KA.out
      have zKA := blk_lt KA.out
      have cKW := blk_cell KW.out
      have fKW := blk_frozen KW.out
      have zKW := blk_lt KW.out
      replace KA := Lib.hid (blk_alloc KA.out (.cells #[.slice P0 s.data.length p0, .slice P1 s.ret.length p1, .int .i32 s.a, .slice P3 s.mem.length p3, .slice P4 s.cells.length p4, .slice P5 s.vars.length p5, .slice P6 s.out.length p6, .slice P7 s.inp.length p7, .int .i64 s.fault, .int .i64 s.fuel] 34))
      replace KW := Lib.hid (blk_alloc KW.out (.cells #[.slice P0 s.data.length p0, .slice P1 s.ret.length p1, .int .i32 s.a, .slice P3 s.mem.length p3, .slice P4 s.cells.length p4, .slice P5 s.vars.length p5, .slice P6 s.out.length p6, .slice P7 s.inp.length p7, .int .i64 s.fault, .int .i64 s.fuel] 34))
      have KX := Lib.hid (blk_new w102 (.cells #[.slice P0 s.data.length p0, .slice P1 s.ret.length p1, .int .i32 s.a, .slice P3 s.mem.length p3, .slice P4 s.cells.length p4, .slice P5 s.vars.length p5, .slice P6 s.out.length p6, .slice P7 s.inp.length p7, .int .i64 s.fault, .int .i64 s.fuel] 34))
      replace HW := Lib.hid (HW.out.call (bl_alloc (Below.refl _ _) (.cells #[.slice P0 s.data.length p0, .slice P1 s.ret.length p1, .int .i32 s.a, .slice P3 s.mem.length p3, .slice P4 s.cells.length p4, .slice P5 s.vars.length p5, .slice P6 s.out.length p6, .slice P7 s.inp.length p7, .int .i64 s.fault, .int .i64 s.fuel] 34)))
      replace TX := Lib.hid (TX.out.call (bl_alloc (Below.refl _ _) (.cells #[.slice P0 s.data.length p0, .slice P1 s.ret.length p1, .int .i32 s.a, .slice P3 s.mem.length p3, .slice P4 s.cells.length p4, .slice P5 s.vars.length p5, .slice P6 s.out.length p6, .slice P7 s.inp.length p7, .int .i64 s.fault, .int .i64 s.fuel] 34)))
      replace HX := Lib.hid (HX.out.call (bl_alloc (Below.refl _ _) (.cells #[.slice P0 s.data.length p0, .slice P1 s.ret.length p1, .int .i32 s.a, .slice P3 s.mem.length p3, .slice P4 s.cells.length p4, .slice P5 s.vars.length p5, .slice P6 s.out.length p6, .slice P7 s.inp.length p7, .int .i64 s.fault, .int .i64 s.fuel] 34)))
      replace HB := Lib.hid (bl_alloc HB.out (.cells #[.slice P0 s.data.length p0, .slice P1 s.ret.length p1, .int .i32 s.a, .slice P3 s.mem.length p3, .slice P4 s.cells.length p4, .slice P5 s.vars.length p5, .slice P6 s.out.length p6, .slice P7 s.inp.length p7, .int .i64 s.fault, .int .i64 s.fuel] 34))
      go_wp2_with fail
      refine (Start_calls (some ⟨gx, 0, none⟩) xs.length xs a1 s _ _ (HA.out.call HB.out) TX.out.rd (by omega) HX.out.o.k hsm2.out).mono ?_
      rintro e w103 ⟨v11, rfl, O, hb⟩
      clear cKA fKA zKA cKW fKW zKW
      replace KA := Lib.hid (blk_call KA.out hb)
      replace KW := Lib.hid (blk_call KW.out hb)
      replace KX := Lib.hid (blk_call KX.out hb)
      replace HW := Lib.hid (HW.out.call hb)
      replace TX := Lib.hid (TX.out.call hb)
      replace HX := Lib.hid (HX.out.call hb)
      replace HB := Lib.hid (bl_call HB.out hb)
      have hs103 := hb.size
      (try simp at hs103)
      obtain ⟨Q0, q0, Q1, q1, Q3, q3, Q4, q4, Q5, q5, Q6, q6, Q7, q7, rfl⟩ := O.k.form
      have HG := Lib.hid (O.low (lo' := w102.heap.size + 1) (by simp)).i
      clear O
      clear hb
      have cKA := blk_cell KA.out
      have fKA := blk_frozen KA.out
      have zKA := blk_lt KA.out
      have cKW := blk_cell KW.out
      have fKW := blk_frozen KW.out
      have zKW := blk_lt KW.out
      have cKX := blk_cell KX.out
      have fKX := blk_frozen KX.out
      have zKX := blk_lt KX.out
      clear cKA fKA zKA cKW fKW zKW cKX fKX zKX
      have cKA := blk_cell KA.out
      have fKA := blk_frozen KA.out
      have zKA := blk_lt KA.out
      have cKW := blk_cell KW.out
      have fKW := blk_frozen KW.out
      have zKW := blk_lt KW.out
      have cKX := blk_cell KX.out
      have fKX := blk_frozen KX.out
      have zKX := blk_lt KX.out
      replace KA := Lib.hid (blk_alloc KA.out (.cells #[.slice Q0 (startS xs a1 s).data.length q0, .slice Q1 (startS xs a1 s).ret.length q1, .int .i32 (startS xs a1 s).a, .slice Q3 (startS xs a1 s).mem.length q3, .slice Q4 (startS xs a1 s).cells.length q4, .slice Q5 (startS xs a1 s).vars.length q5, .slice Q6 (startS xs a1 s).out.length q6, .slice Q7 (startS xs a1 s).inp.length q7, .int .i64 (startS xs a1 s).fault, .int .i64 (startS xs a1 s).fuel, .int .i64 (startA xs a1 s), .bool false] 36))
      replace KW := Lib.hid (blk_alloc KW.out (.cells #[.slice Q0 (startS xs a1 s).data.length q0, .slice Q1 (startS xs a1 s).ret.length q1, .int .i32 (startS xs a1 s).a, .slice Q3 (startS xs a1 s).mem.length q3, .slice Q4 (startS xs a1 s).cells.length q4, .slice Q5 (startS xs a1 s).vars.length q5, .slice Q6 (startS xs a1 s).out.length q6, .slice Q7 (startS xs a1 s).inp.length q7, .int .i64 (startS xs a1 s).fault, .int .i64 (startS xs a1 s).fuel, .int .i64 (startA xs a1 s), .bool false] 36))
      replace KX := Lib.hid (blk_alloc KX.out (.cells #[.slice Q0 (startS xs a1 s).data.length q0, .slice Q1 (startS xs a1 s).ret.length q1, .int .i32 (startS xs a1 s).a, .slice Q3 (startS xs a1 s).mem.length q3, .slice Q4 (startS xs a1 s).cells.length q4, .slice Q5 (startS xs a1 s).vars.length q5, .slice Q6 (startS xs a1 s).out.length q6, .slice Q7 (startS xs a1 s).inp.length q7, .int .i64 (startS xs a1 s).fault, .int .i64 (startS xs a1 s).fuel, .int .i64 (startA xs a1 s), .bool false] 36))
      have KG := Lib.hid (blk_new w103 (.cells #[.slice Q0 (startS xs a1 s).data.length q0, .slice Q1 (startS xs a1 s).ret.length q1, .int .i32 (startS xs a1 s).a, .slice Q3 (startS xs a1 s).mem.length q3, .slice Q4 (startS xs a1 s).cells.length q4, .slice Q5 (startS xs a1 s).vars.length q5, .slice Q6 (startS xs a1 s).out.length q6, .slice Q7 (startS xs a1 s).inp.length q7, .int .i64 (startS xs a1 s).fault, .int .i64 (startS xs a1 s).fuel, .int .i64 (startA xs a1 s), .bool false] 36))
      replace HW := Lib.hid (HW.out.call (bl_alloc (Below.refl _ _) (.cells #[.slice Q0 (startS xs a1 s).data.length q0, .slice Q1 (startS xs a1 s).ret.length q1, .int .i32 (startS xs a1 s).a, .slice Q3 (startS xs a1 s).mem.length q3, .slice Q4 (startS xs a1 s).cells.length q4, .slice Q5 (startS xs a1 s).vars.length q5, .slice Q6 (startS xs a1 s).out.length q6, .slice Q7 (startS xs a1 s).inp.length q7, .int .i64 (startS xs a1 s).fault, .int .i64 (startS xs a1 s).fuel, .int .i64 (startA xs a1 s), .bool false] 36)))
      replace TX := Lib.hid (TX.out.call (bl_alloc (Below.refl _ _) (.cells #[.slice Q0 (startS xs a1 s).data.length q0, .slice Q1 (startS xs a1 s).ret.length q1, .int .i32 (startS xs a1 s).a, .slice Q3 (startS xs a1 s).mem.length q3, .slice Q4 (startS xs a1 s).cells.length q4, .slice Q5 (startS xs a1 s).vars.length q5, .slice Q6 (startS xs a1 s).out.length q6, .slice Q7 (startS xs a1 s).inp.length q7, .int .i64 (startS xs a1 s).fault, .int .i64 (startS xs a1 s).fuel, .int .i64 (startA xs a1 s), .bool false] 36)))
      replace HX := Lib.hid (HX.out.call (bl_alloc (Below.refl _ _) (.cells #[.slice Q0 (startS xs a1 s).data.length q0, .slice Q1 (startS xs a1 s).ret.length q1, .int .i32 (startS xs a1 s).a, .slice Q3 (startS xs a1 s).mem.length q3, .slice Q4 (startS xs a1 s).cells.length q4, .slice Q5 (startS xs a1 s).vars.length q5, .slice Q6 (startS xs a1 s).out.length q6, .slice Q7 (startS xs a1 s).inp.length q7, .int .i64 (startS xs a1 s).fault, .int .i64 (startS xs a1 s).fuel, .int .i64 (startA xs a1 s), .bool false] 36)))
      replace HG := Lib.hid (HG.out.call (bl_alloc (Below.refl _ _) (.cells #[.slice Q0 (startS xs a1 s).data.length q0, .slice Q1 (startS xs a1 s).ret.length q1, .int .i32 (startS xs a1 s).a, .slice Q3 (startS xs a1 s).mem.length q3, .slice Q4 (startS xs a1 s).cells.length q4, .slice Q5 (startS xs a1 s).vars.length q5, .slice Q6 (startS xs a1 s).out.length q6, .slice Q7 (startS xs a1 s).inp.length q7, .int .i64 (startS xs a1 s).fault, .int .i64 (startS xs a1 s).fuel, .int .i64 (startA xs a1 s), .bool false] 36)))
      replace HB := Lib.hid (bl_alloc HB.out (.cells #[.slice Q0 (startS xs a1 s).data.length q0, .slice Q1 (startS xs a1 s).ret.length q1, .int .i32 (startS xs a1 s).a, .slice Q3 (startS xs a1 s).mem.length q3, .slice Q4 (startS xs a1 s).cells.length q4, .slice Q5 (startS xs a1 s).vars.length q5, .slice Q6 (startS xs a1 s).out.length q6, .slice Q7 (startS xs a1 s).inp.length q7, .int .i64 (startS xs a1 s).fault, .int .i64 (startS xs a1 s).fuel, .int .i64 (startA xs a1 s), .bool false] 36))
      go_wp2_with fail
      refine (eqMach_calls (startS xs a1 s) (startA xs a1 s) false _ _ _ HG.out.o.k HW.out.o.k hfs.out).mono ?_
      rintro e w104 ⟨rfl, hb⟩
      clear cKA fKA zKA cKW fKW zKW cKX fKX zKX
      replace KA := Lib.hid (blk_call KA.out hb)
      replace KW := Lib.hid (blk_call KW.out hb)
      replace KX := Lib.hid (blk_call KX.out hb)
      replace KG := Lib.hid (blk_call KG.out hb)
      replace HW := Lib.hid (HW.out.call hb)
      replace TX := Lib.hid (TX.out.call hb)
      replace HX := Lib.hid (HX.out.call hb)
      replace HG := Lib.hid (HG.out.call hb)
      replace HB := Lib.hid (bl_call HB.out hb)
      have hs104 := hb.size
      (try simp at hs104)
      clear hb
      have cKA := blk_cell KA.out
      have fKA := blk_frozen KA.out
      have zKA := blk_lt KA.out
      have cKW := blk_cell KW.out
      have fKW := blk_frozen KW.out
      have zKW := blk_lt KW.out
      have cKX := blk_cell KX.out
      have fKX := blk_frozen KX.out
      have zKX := blk_lt KX.out
      have cKG := blk_cell KG.out
      have fKG := blk_frozen KG.out
      have zKG := blk_lt KG.out
      go_wp2_with fail
      refine (toInsS_calls A0 c0 xs _ (HXS.out.keepB HB.out) hx.out).mono ?_
      rintro e w105 ⟨gz, rfl, R, -, hb⟩
      clear cKA fKA zKA cKW fKW zKW cKX fKX zKX cKG fKG zKG
      replace KA := Lib.hid (blk_call KA.out hb)
      replace KW := Lib.hid (blk_call KW.out hb)
      replace KX := Lib.hid (blk_call KX.out hb)
      replace KG := Lib.hid (blk_call KG.out hb)
      replace HW := Lib.hid (HW.out.call hb)
      replace TX := Lib.hid (TX.out.call hb)
      replace HX := Lib.hid (HX.out.call hb)
      replace HG := Lib.hid (HG.out.call hb)
      replace HB := Lib.hid (bl_call HB.out hb)
      have hs105 := hb.size
      (try simp at hs105)
      have K8 := Lib.hid R
      clear R
      clear hb
      have cKA := blk_cell KA.out
      have fKA := blk_frozen KA.out
      have zKA := blk_lt KA.out
      have cKW := blk_cell KW.out
      have fKW := blk_frozen KW.out
      have zKW := blk_lt KW.out
      have cKX := blk_cell KX.out
      have fKX := blk_frozen KX.out
      have zKX := blk_lt KX.out
      have cKG := blk_cell KG.out
      have fKG := blk_frozen KG.out
      have zKG := blk_lt KG.out
      go_wp2_with fail
      refine (eqInsS_calls _ _ _ _ xs _ TX.out.rd K8.out.rd (by omega)).mono ?_
      rintro e w106 ⟨rfl, hb⟩
      clear cKA fKA zKA cKW fKW zKW cKX fKX zKX cKG fKG zKG
      replace KA := Lib.hid (blk_call KA.out hb)
      replace KW := Lib.hid (blk_call KW.out hb)
      replace KX := Lib.hid (blk_call KX.out hb)
      replace KG := Lib.hid (blk_call KG.out hb)
      replace HW := Lib.hid (HW.out.call hb)
      replace TX := Lib.hid (TX.out.call hb)
      replace HX := Lib.hid (HX.out.call hb)
      replace HG := Lib.hid (HG.out.call hb)
      replace K8 := Lib.hid (K8.out.call hb)
      replace HB := Lib.hid (bl_call HB.out hb)
      have hs106 := hb.size
      (try simp at hs106)
      clear K8
      clear hb
      have cKA := blk_cell KA.out
      have fKA := blk_frozen KA.out
      have zKA := blk_lt KA.out
      have cKW := blk_cell KW.out
      have fKW := blk_frozen KW.out
      have zKW := blk_lt KW.out
      have cKX := blk_cell KX.out
      have fKX := blk_frozen KX.out
      have zKX := blk_lt KX.out
      have cKG := blk_cell KG.out
      have fKG := blk_frozen KG.out
      have zKG := blk_lt KG.out
      go_upto_region 16 with fail
      go_cut [53] from 49 to 52 (fun rv wx => rv = .bool false ∧ Hid (Below w106.heap.size w106 wx))
      case first =>
        go_region_with (first
          | (go_at_call 10; refine (toSt_calls s _ _ (HV.out.keepB ?_) hsm.out).mono ?_; exact (by with_reducible repeat (first | exact HB.out | apply bl_drew | apply bl_drewN)); rintro e wr ⟨v8, rfl, O8, hb8⟩; have HX8 := Lib.hid (show Below w106.heap.size w106 wr from bl_call (by with_reducible repeat (first | exact Below.refl _ _ | apply bl_drew | apply bl_drewN)) hb8); obtain ⟨R0, r0, R1, r1, R3, r3, R4, r4, R5, r5, R6, r6, R7, r7, rfl⟩ := O8.k.form; have K8 := Lib.hid O8.k; have cX8 := blk_cell (blk_call KX.out HX8.out); have fX8 := blk_frozen (blk_call KX.out HX8.out); have zX8 := blk_lt (blk_call KX.out HX8.out); clear O8 hb8)
          | (go_at_call 14; refine (eqSt_calls s _ _ _ (HX.out.o.k.keepB HX8.out) K8.out hsm2.out).mono ?_; rintro e ws ⟨rfl, hb9⟩; have HX9 := Lib.hid (bl_call HX8.out hb9); clear hb9))
        all_goals
          go_wp2_with fail
          go_meet
          exact ⟨rfl, HX9⟩
      case rest =>
        obtain ⟨rfl, HX9⟩ := hcut
        clear cKA fKA zKA cKW fKW zKW cKX fKX zKX cKG fKG zKG
        replace KA := Lib.hid (blk_call KA.out HX9.out)
        replace KW := Lib.hid (blk_call KW.out HX9.out)
        replace KX := Lib.hid (blk_call KX.out HX9.out)
        replace KG := Lib.hid (blk_call KG.out HX9.out)
        replace HW := Lib.hid (HW.out.call HX9.out)
        replace TX := Lib.hid (TX.out.call HX9.out)
        replace HX := Lib.hid (HX.out.call HX9.out)
        replace HG := Lib.hid (HG.out.call HX9.out)
        replace HB := Lib.hid (bl_call HB.out HX9.out)
        have hsr := HX9.out.size
        clear HX9
        have cKA := blk_cell KA.out
        have fKA := blk_frozen KA.out
        have zKA := blk_lt KA.out
        have cKW := blk_cell KW.out
        have fKW := blk_frozen KW.out
        have zKW := blk_lt KW.out
        have cKX := blk_cell KX.out
        have fKX := blk_frozen KX.out
        have zKX := blk_lt KX.out
        have cKG := blk_cell KG.out
        have fKG := blk_frozen KG.out
        have zKG := blk_lt KG.out
        have zgx := TX.out.lt _ rfl
        go_wp2_with fail
        refine (markInsS_calls _ _ xs _ 1 _ TX.out (by omega) (by omega) (by omega)).mono ?_
        rintro e w107 ⟨rfl, -, hg⟩
        clear cKA fKA zKA cKW fKW zKW cKX fKX zKX cKG fKG zKG
        have hf := Fr.grown (Fr.refl gx (gx + 1) _) hg (fun g e => by injection e with e; omega)
        replace KA := Lib.hid ((hf.block _ (blk_lt KA.out) (by omega)).trans KA.out)
        replace KW := Lib.hid ((hf.block _ (blk_lt KW.out) (by omega)).trans KW.out)
        replace KX := Lib.hid ((hf.block _ (blk_lt KX.out) (by omega)).trans KX.out)
        replace KG := Lib.hid ((hf.block _ (blk_lt KG.out) (by omega)).trans KG.out)
        replace HW := Lib.hid (HW.out.frame hf (by omega))
        replace HX := Lib.hid (HX.out.frame hf (by omega))
        replace HG := Lib.hid (HG.out.frame hf (by omega))
        replace HB := Lib.hid (HB.out.trans (hf.below (by omega) HB.out.size))
        have hs107 := hf.size
        clear hg
        clear hf TX
        have cKA := blk_cell KA.out
        have fKA := blk_frozen KA.out
        have zKA := blk_lt KA.out
        have cKW := blk_cell KW.out
        have fKW := blk_frozen KW.out
        have zKW := blk_lt KW.out
        have cKX := blk_cell KX.out
        have fKX := blk_frozen KX.out
        have zKX := blk_lt KX.out
        have cKG := blk_cell KG.out
        have fKG := blk_frozen KG.out
        have zKG := blk_lt KG.out
        go_wp2_with fail
        refine (markSt_calls (1 + 2 * xs.length) s _ _ _ _ HX.out hsm2.out (by omega) (by omega) (by omega) (by omega)).mono ?_
        rintro e w108 ⟨rfl, M, hf⟩
        clear cKA fKA zKA cKW fKW zKW cKX fKX zKX cKG fKG zKG
        replace KA := Lib.hid ((hf.block _ (blk_lt KA.out) (by omega)).trans KA.out)
        replace KW := Lib.hid ((hf.block _ (blk_lt KW.out) (by omega)).trans KW.out)
        replace KG := Lib.hid ((hf.block _ (blk_lt KG.out) (by omega)).trans KG.out)
        replace HW := Lib.hid (HW.out.frame hf (by omega))
        replace HG := Lib.hid (HG.out.frame hf (by omega))
        replace HB := Lib.hid (HB.out.trans (hf.below (by omega) HB.out.size))
        have hs108 := hf.size
        have hnn : ¬ (mkStN (1 + 2 * (xs.length : Int)) s < 0) := by unfold mkStN; omega
        clear M
        clear hf HX KX
        have cKA := blk_cell KA.out
        have fKA := blk_frozen KA.out
        have zKA := blk_lt KA.out
        have cKW := blk_cell KW.out
        have fKW := blk_frozen KW.out
        have zKW := blk_lt KW.out
        have cKG := blk_cell KG.out
        have fKG := blk_frozen KG.out
        have zKG := blk_lt KG.out
        go_wp2_with fail
        refine (eqMach_calls (startS xs a1 s) (startA xs a1 s) false _ _ _ HG.out.o.k HW.out.o.k hfs.out).mono ?_
        rintro e w109 ⟨rfl, hb⟩
        clear cKA fKA zKA cKW fKW zKW cKG fKG zKG
        replace KA := Lib.hid (blk_call KA.out hb)
        replace KW := Lib.hid (blk_call KW.out hb)
        replace KG := Lib.hid (blk_call KG.out hb)
        replace HW := Lib.hid (HW.out.call hb)
        replace HG := Lib.hid (HG.out.call hb)
        replace HB := Lib.hid (bl_call HB.out hb)
        have hs109 := hb.size
        (try simp at hs109)
        clear hb
        have cKA := blk_cell KA.out
        have fKA := blk_frozen KA.out
        have zKA := blk_lt KA.out
        have cKW := blk_cell KW.out
        have fKW := blk_frozen KW.out
        have zKW := blk_lt KW.out
        have cKG := blk_cell KG.out
        have fKG := blk_frozen KG.out
        have zKG := blk_lt KG.out
        go_wp2_with fail
        refine (markMach_calls 1 (startS xs a1 s) (startA xs a1 s) false _ _ _ _ HG.out hfs.out (by omega) (by omega) (by omega) (by omega)).mono ?_
        rintro e w110 ⟨rfl, M, hf⟩
        clear cKA fKA zKA cKW fKW zKW cKG fKG zKG
        replace KA := Lib.hid ((hf.block _ (blk_lt KA.out) (by omega)).trans KA.out)
        replace KW := Lib.hid ((hf.block _ (blk_lt KW.out) (by omega)).trans KW.out)
        replace KG := Lib.hid ((hf.block _ (blk_lt KG.out) (by omega)).trans KG.out)
        replace HW := Lib.hid (HW.out.frame hf (by omega))
        replace HB := Lib.hid (HB.out.trans (hf.below (by omega) HB.out.size))
        have hs110 := hf.size
        have HM := Lib.hid M
        have hnf : ¬ (mkStN 1 (startS xs a1 s) < 0) := by unfold mkStN; omega
        clear M
        clear hf HG
        have cKA := blk_cell KA.out
        have fKA := blk_frozen KA.out
        have zKA := blk_lt KA.out
        have cKW := blk_cell KW.out
        have fKW := blk_frozen KW.out
        have zKW := blk_lt KW.out
        have cKG := blk_cell KG.out
        have fKG := blk_frozen KG.out
        have zKG := blk_lt KG.out
        go_wp2_with fail
        refine (heldMach_calls 1 (startS xs a1 s) (startA xs a1 s) false _ _ HM.out.o.k hfs.out (by omega) (by omega)).mono ?_
        rintro e w111 ⟨rfl, hb⟩
        clear cKA fKA zKA cKW fKW zKW cKG fKG zKG
        replace KA := Lib.hid (blk_call KA.out hb)
        replace KW := Lib.hid (blk_call KW.out hb)
        replace KG := Lib.hid (blk_call KG.out hb)
        replace HW := Lib.hid (HW.out.call hb)
        replace HM := Lib.hid (HM.out.call hb)
        replace HB := Lib.hid (bl_call HB.out hb)
        have hs111 := hb.size
        (try simp at hs111)
        clear hb
        have cKA := blk_cell KA.out
        have fKA := blk_frozen KA.out
        have zKA := blk_lt KA.out
        have cKW := blk_cell KW.out
        have fKW := blk_frozen KW.out
        have zKW := blk_lt KW.out
        have cKG := blk_cell KG.out
        have fKG := blk_frozen KG.out
        have zKG := blk_lt KG.out
        go_upto_region 31 with fail
        go_cut [15] from 79 to 84 (fun tv wx => ∃ (Y : Nat) (D0 : Option Addr) (d0 : Nat) (D1 : Option Addr) (d1 : Nat) (D3 : Option Addr) (d3 : Nat) (D4 : Option Addr) (d4 : Nat) (D5 : Option Addr) (d5 : Nat) (D6 : Option Addr) (d6 : Nat) (D7 : Option Addr) (d7 : Nat), tv = .pointer (some ⟨Y, 0, none⟩) ∧ Hid (wx.heap[Y]? = some (.cells #[.slice D0 (startS xs a1 s).data.length d0, .slice D1 (startS xs a1 s).ret.length d1, .int .i32 (startS xs a1 s).a, .slice D3 (startS xs a1 s).mem.length d3, .slice D4 (startS xs a1 s).cells.length d4, .slice D5 (startS xs a1 s).vars.length d5, .slice D6 (startS xs a1 s).out.length d6, .slice D7 (startS xs a1 s).inp.length d7, .int .i64 (startS xs a1 s).fault, .int .i64 (startS xs a1 s).fuel, .int .i64 (startA xs a1 s), .bool false] 36 (0, 0))) ∧ Hid (StI wx w111.heap.size wx.heap.size (startS xs a1 s) (.agg #[.slice D0 (startS xs a1 s).data.length d0, .slice D1 (startS xs a1 s).ret.length d1, .int .i32 (startS xs a1 s).a, .slice D3 (startS xs a1 s).mem.length d3, .slice D4 (startS xs a1 s).cells.length d4, .slice D5 (startS xs a1 s).vars.length d5, .slice D6 (startS xs a1 s).out.length d6, .slice D7 (startS xs a1 s).inp.length d7, .int .i64 (startS xs a1 s).fault, .int .i64 (startS xs a1 s).fuel])) ∧ w111.heap.size ≤ Y ∧ Hid (Below w111.heap.size w111 wx))
        case first =>
          clear cKW fKW zKW cKG fKG zKG KW KG HW HM
          go_region_with (first
            | (go_at_call 9; (with_reducible refine (toInsS_calls A0 c0 xs _ ?_ hx.out).mono ?_); exact HXS.out.keepB (by with_reducible repeat (first | exact HB.out | apply bl_alloc | apply bl_drew | apply bl_drewN)); rintro e wa ⟨ga, rfl, Ra, loa, hba⟩; have HRa := Lib.hid Ra; have HBa := Lib.hid (show Below w111.heap.size w111 wa from bl_call (by with_reducible repeat (first | exact Below.refl _ _ | apply bl_alloc | apply bl_drew | apply bl_drewN)) hba); have HXa := Lib.hid hba; have sa := hba.size; (try simp at sa); have KAa : Hid (wa.heap[w.heap.size]? = some (.cells #[.slice Z0 s.data.length z0, .slice Z1 s.ret.length z1, .int .i32 s.a, .slice Z3 s.mem.length z3, .slice Z4 s.cells.length z4, .slice Z5 s.vars.length z5, .slice Z6 s.out.length z6, .slice Z7 s.inp.length z7, .int .i64 s.fault, .int .i64 s.fuel] 29 (0, 0))) := Lib.hid (blk_call (by with_reducible first | exact KA.out | (refine blk_alloc ?_ _; exact KA.out) | (refine st12Y ?_; exact KA.out) | (refine st12Y ?_; refine blk_alloc ?_ _; exact KA.out) | (refine blk_alloc ?_ _; refine st12Y ?_; exact KA.out) | (refine st12Y ?_; refine blk_alloc ?_ _; refine st12Y ?_; exact KA.out)) hba); have cKAa := blk_cell KAa.out; have fKAa := blk_frozen KAa.out; have zKAa := blk_lt KAa.out; (try (have za : w111.heap.size < wa.heap.size := (by have h := hba.size; first | omega | (simp at h; omega)))); (try (have KYw1 : Hid (wa.heap[w111.heap.size]? = some (.cells #[.slice none 0 0, .slice none 0 0, .int .i32 0, .slice none 0 0, .slice none 0 0, .slice none 0 0, .slice none 0 0, .slice none 0 0, .int .i64 0, .int .i64 0, .int .i64 0, .bool false] 36 (0, 0))) := Lib.hid (blk_call (by with_reducible first | (first | exact blk_new _ _ | exact st12ND) | (refine blk_alloc ?_ _; (first | exact blk_new _ _ | exact st12ND)) | (refine st12Y ?_; (first | exact blk_new _ _ | exact st12ND)) | (refine st12Y ?_; refine blk_alloc ?_ _; (first | exact blk_new _ _ | exact st12ND)) | (refine blk_alloc ?_ _; refine st12Y ?_; (first | exact blk_new _ _ | exact st12ND)) | (refine st12Y ?_; refine blk_alloc ?_ _; refine st12Y ?_; (first | exact blk_new _ _ | exact st12ND))) hba))); clear Ra loa hba)
            | (go_at_call 10; (with_reducible refine (toSt_calls s _ _ ?_ hsm.out).mono ?_); exact HV.out.keepB (bl_call HB.out (by with_reducible repeat (first | exact HBa.out | apply bl_alloc | apply bl_drew | apply bl_drewN))); rintro e wb ⟨vb, rfl, Ob, hbb⟩; have hob := Ob.k; obtain ⟨J0, j0, J1, j1, J3, j3, J4, j4, J5, j5, J6, j6, J7, j7, rfl⟩ := hob.form; have HOb := Lib.hid hob; have HBb := Lib.hid (show Below w111.heap.size w111 wb from bl_call (by with_reducible repeat (first | exact HBa.out | apply bl_alloc | apply bl_drew | apply bl_drewN)) hbb); have HXb := Lib.hid hbb; have HRb := Lib.hid ((show Rd _ (some ⟨ga, 0, none⟩) (xs.flatMap LIns.enc) from HRa.out.rd.keepB (by with_reducible repeat (first | exact Below.refl _ _ | apply bl_alloc | apply bl_drew | apply bl_drewN))).call hbb); have sb := hbb.size; (try simp at sb); (try (have zb : w111.heap.size < wb.heap.size := (by have h := hbb.size; first | omega | (simp at h; omega)))); (try (have zab : wa.heap.size < wb.heap.size := (by have h := hbb.size; first | omega | (simp at h; omega)))); (try (have KYw2 : Hid (wb.heap[w111.heap.size]? = some (.cells #[.slice none 0 0, .slice none 0 0, .int .i32 0, .slice none 0 0, .slice none 0 0, .slice none 0 0, .slice none 0 0, .slice none 0 0, .int .i64 0, .int .i64 0, .int .i64 0, .bool false] 36 (0, 0))) := Lib.hid (blk_call (by with_reducible first | exact KYw1.out | (refine blk_alloc ?_ _; exact KYw1.out) | (refine st12Y ?_; exact KYw1.out) | (refine st12Y ?_; refine blk_alloc ?_ _; exact KYw1.out) | (refine blk_alloc ?_ _; refine st12Y ?_; exact KYw1.out) | (refine st12Y ?_; refine blk_alloc ?_ _; refine st12Y ?_; exact KYw1.out)) hbb))); (try (have KYa2 : Hid (wb.heap[wa.heap.size]? = some (.cells #[.slice none 0 0, .slice none 0 0, .int .i32 0, .slice none 0 0, .slice none 0 0, .slice none 0 0, .slice none 0 0, .slice none 0 0, .int .i64 0, .int .i64 0, .int .i64 0, .bool false] 36 (0, 0))) := Lib.hid (blk_call (by with_reducible first | (first | exact blk_new _ _ | exact st12ND) | (refine blk_alloc ?_ _; (first | exact blk_new _ _ | exact st12ND)) | (refine st12Y ?_; (first | exact blk_new _ _ | exact st12ND)) | (refine st12Y ?_; refine blk_alloc ?_ _; (first | exact blk_new _ _ | exact st12ND)) | (refine blk_alloc ?_ _; refine st12Y ?_; (first | exact blk_new _ _ | exact st12ND)) | (refine st12Y ?_; refine blk_alloc ?_ _; refine st12Y ?_; (first | exact blk_new _ _ | exact st12ND))) hbb))); clear Ob hob hbb cKAa fKAa zKAa)
            | (go_at_call 11; (with_reducible refine (Start_calls (some ⟨ga, 0, none⟩) xs.length xs a1 s _ _ ?_ ?_ ?_ ?_ ?_).mono ?_); exact HA.out.call (bl_call HB.out (by with_reducible repeat (first | exact HBb.out | apply bl_alloc | apply bl_drew | apply bl_drewN))); exact HRb.out.keepB (by with_reducible repeat (first | exact Below.refl _ _ | apply bl_alloc | apply bl_drew | apply bl_drewN)); omega; exact HOb.out.keepB (by with_reducible repeat (first | exact Below.refl _ _ | apply bl_alloc | apply bl_drew | apply bl_drewN)); exact hsm2.out; rintro e wc ⟨vc, rfl, Oc, hbc⟩; obtain ⟨Lo, Oc, hLo⟩ := Oc.name; (try simp at hLo); obtain ⟨D0, d0, D1, d1, D3, d3, D4, d4, D5, d5, D6, d6, D7, d7, rfl, OD⟩ := Oc; have HOc := Lib.hid OD; have HBc := Lib.hid (show Below w111.heap.size w111 wc from bl_call (by with_reducible repeat (first | exact HBb.out | apply bl_alloc | apply bl_drew | apply bl_drewN)) hbc); have HXc := Lib.hid hbc; have sc := hbc.size; (try simp at sc); (try (have zc : w111.heap.size < wc.heap.size := (by have h := hbc.size; first | omega | (simp at h; omega)))); (try (have zac : wa.heap.size < wc.heap.size := (by have h := hbc.size; first | omega | (simp at h; omega)))); (try (have zbc : wb.heap.size < wc.heap.size := (by have h := hbc.size; first | omega | (simp at h; omega)))); (try (have KYw3 : Hid (wc.heap[w111.heap.size]? = some (.cells #[.slice none 0 0, .slice none 0 0, .int .i32 0, .slice none 0 0, .slice none 0 0, .slice none 0 0, .slice none 0 0, .slice none 0 0, .int .i64 0, .int .i64 0, .int .i64 0, .bool false] 36 (0, 0))) := Lib.hid (blk_call (by with_reducible first | exact KYw2.out | (refine blk_alloc ?_ _; exact KYw2.out) | (refine st12Y ?_; exact KYw2.out) | (refine st12Y ?_; refine blk_alloc ?_ _; exact KYw2.out) | (refine blk_alloc ?_ _; refine st12Y ?_; exact KYw2.out) | (refine st12Y ?_; refine blk_alloc ?_ _; refine st12Y ?_; exact KYw2.out)) hbc))); (try (have KYa3 : Hid (wc.heap[wa.heap.size]? = some (.cells #[.slice none 0 0, .slice none 0 0, .int .i32 0, .slice none 0 0, .slice none 0 0, .slice none 0 0, .slice none 0 0, .slice none 0 0, .int .i64 0, .int .i64 0, .int .i64 0, .bool false] 36 (0, 0))) := Lib.hid (blk_call (by with_reducible first | exact KYa2.out | (refine blk_alloc ?_ _; exact KYa2.out) | (refine st12Y ?_; exact KYa2.out) | (refine st12Y ?_; refine blk_alloc ?_ _; exact KYa2.out) | (refine blk_alloc ?_ _; refine st12Y ?_; exact KYa2.out) | (refine st12Y ?_; refine blk_alloc ?_ _; refine st12Y ?_; exact KYa2.out)) hbc))); (try (have KYb3 : Hid (wc.heap[wb.heap.size]? = some (.cells #[.slice none 0 0, .slice none 0 0, .int .i32 0, .slice none 0 0, .slice none 0 0, .slice none 0 0, .slice none 0 0, .slice none 0 0, .int .i64 0, .int .i64 0, .int .i64 0, .bool false] 36 (0, 0))) := Lib.hid (blk_call (by with_reducible first | (first | exact blk_new _ _ | exact st12ND) | (refine blk_alloc ?_ _; (first | exact blk_new _ _ | exact st12ND)) | (refine st12Y ?_; (first | exact blk_new _ _ | exact st12ND)) | (refine st12Y ?_; refine blk_alloc ?_ _; (first | exact blk_new _ _ | exact st12ND)) | (refine blk_alloc ?_ _; refine st12Y ?_; (first | exact blk_new _ _ | exact st12ND)) | (refine st12Y ?_; refine blk_alloc ?_ _; refine st12Y ?_; (first | exact blk_new _ _ | exact st12ND))) hbc))); (try (have cKYw3 := blk_cell KYw3.out; have fKYw3 := blk_frozen KYw3.out; have zKYw3 := blk_lt KYw3.out)); (try (have cKYa3 := blk_cell KYa3.out; have fKYa3 := blk_frozen KYa3.out; have zKYa3 := blk_lt KYa3.out)); (try (have cKYb3 := blk_cell KYb3.out; have fKYb3 := blk_frozen KYb3.out; have zKYb3 := blk_lt KYb3.out)); clear OD hbc))
          all_goals
            go_wp2_with fail
            go_meet
            refine ⟨_, D0, d0, D1, d1, D3, d3, D4, d4, D5, d5, D6, d6, D7, d7, rfl, Lib.hid ?_, Lib.hid (StO.i (StO.low (lo := Lo) ?_ (by omega))), by first | omega | (simp; omega), Lib.hid ?_⟩
            · with_reducible repeat (first | refine set12Y ?_ _ _ _ _ _ _ _ _ _ _ _ _ | exact st12N (by first | omega | (simp; done) | (simp; omega)) | refine blk_alloc ?_ _ | refine st12Y ?_ | refine blk_call ?_ HXc.out | refine blk_call ?_ HXb.out | refine blk_call ?_ HXa.out)
            · have HO' := HOc.out
              with_reducible repeat (first | refine set12O ?_ (by omega) _ _ _ _ _ _ _ _ _ _ _ _ | refine StO.alloc ?_ _ | refine stoDrew ?_ | exact HO')
            · with_reducible repeat (first | refine set12B ?_ (by omega) _ _ _ _ _ _ _ _ _ _ _ _ | apply bl_alloc | apply bl_drew | exact HBc.out)
        case rest =>
          obtain ⟨Y2, U0, u0, U1, u1, U3, u3, U4, u4, U5, u5, U6, u6, U7, u7, rfl, KH, HH0, hY2, HX8⟩ := hcut
          clear cKA fKA zKA cKW fKW zKW cKG fKG zKG
          replace KA := Lib.hid (blk_call KA.out HX8.out)
          replace KW := Lib.hid (blk_call KW.out HX8.out)
          replace KG := Lib.hid (blk_call KG.out HX8.out)
          replace HW := Lib.hid (HW.out.call HX8.out)
          replace HM := Lib.hid (HM.out.call HX8.out)
          replace HB := Lib.hid (bl_call HB.out HX8.out)
          have HH := Lib.hid (show MK _ (startS xs a1 s) (startA xs a1 s) false (.agg #[.slice U0 (startS xs a1 s).data.length u0, .slice U1 (startS xs a1 s).ret.length u1, .int .i32 (startS xs a1 s).a, .slice U3 (startS xs a1 s).mem.length u3, .slice U4 (startS xs a1 s).cells.length u4, .slice U5 (startS xs a1 s).vars.length u5, .slice U6 (startS xs a1 s).out.length u6, .slice U7 (startS xs a1 s).inp.length u7, .int .i64 (startS xs a1 s).fault, .int .i64 (startS xs a1 s).fuel, .int .i64 (startA xs a1 s), .bool false]) from ⟨U0, u0, U1, u1, U3, u3, U4, u4, U5, u5, U6, u6, U7, u7, rfl, HH0.out.o.k⟩)
          clear HX8 HH0
          have cKA := blk_cell KA.out
          have fKA := blk_frozen KA.out
          have zKA := blk_lt KA.out
          have cKW := blk_cell KW.out
          have fKW := blk_frozen KW.out
          have zKW := blk_lt KW.out
          have cKG := blk_cell KG.out
          have fKG := blk_frozen KG.out
          have zKG := blk_lt KG.out
          have cKH := blk_cell KH.out
          have fKH := blk_frozen KH.out
          have zKH := blk_lt KH.out
          go_wp2_with fail
          refine (eqMach_calls (startS xs a1 s) (startA xs a1 s) false _ _ _ HH.out HW.out.o.k hfs.out).mono ?_
          rintro e w201 ⟨rfl, hb⟩
          clear cKA fKA zKA cKW fKW zKW cKG fKG zKG cKH fKH zKH
          replace KA := Lib.hid (blk_call KA.out hb)
          replace KW := Lib.hid (blk_call KW.out hb)
          replace KG := Lib.hid (blk_call KG.out hb)
          replace KH := Lib.hid (blk_call KH.out hb)
          replace HW := Lib.hid (HW.out.call hb)
          replace HM := Lib.hid (HM.out.call hb)
          replace HB := Lib.hid (bl_call HB.out hb)
          have hs201 := hb.size
          (try simp at hs201)
          clear HH
          clear hb
          have cKA := blk_cell KA.out
          have fKA := blk_frozen KA.out
          have zKA := blk_lt KA.out
          have cKW := blk_cell KW.out
          have fKW := blk_frozen KW.out
          have zKW := blk_lt KW.out
          have cKG := blk_cell KG.out
          have fKG := blk_frozen KG.out
          have zKG := blk_lt KG.out
          have cKH := blk_cell KH.out
          have fKH := blk_frozen KH.out
          have zKH := blk_lt KH.out
          go_wp2_with fail
          refine (heldMach_calls 1 (startS xs a1 s) (startA xs a1 s) false _ _ HM.out.o.k hfs.out (by omega) (by omega)).mono ?_
          rintro e w202 ⟨rfl, hb⟩
          clear cKA fKA zKA cKW fKW zKW cKG fKG zKG cKH fKH zKH
          replace KA := Lib.hid (blk_call KA.out hb)
          replace KW := Lib.hid (blk_call KW.out hb)
          replace KG := Lib.hid (blk_call KG.out hb)
          replace KH := Lib.hid (blk_call KH.out hb)
          replace HW := Lib.hid (HW.out.call hb)
          replace HM := Lib.hid (HM.out.call hb)
          replace HB := Lib.hid (bl_call HB.out hb)
          have hs202 := hb.size
          (try simp at hs202)
          clear hb
          have cKA := blk_cell KA.out
          have fKA := blk_frozen KA.out
          have zKA := blk_lt KA.out
          have cKW := blk_cell KW.out
          have fKW := blk_frozen KW.out
          have zKW := blk_lt KW.out
          have cKG := blk_cell KG.out
          have fKG := blk_frozen KG.out
          have zKG := blk_lt KG.out
          have cKH := blk_cell KH.out
          have fKH := blk_frozen KH.out
          have zKH := blk_lt KH.out
          go_wp2_with fail
          go_ret
          exact ⟨rfl, HB.out⟩
end Go.Proofs.YtjciibhaifabjaaDoor
