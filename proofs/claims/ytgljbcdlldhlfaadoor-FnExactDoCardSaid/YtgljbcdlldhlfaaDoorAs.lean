/- append of a text behind a row of bytes. -/
import Derived.Test.YtgljbcdlldhlfaaDoorR
import Derived.Lib.AppendStr
set_option linter.unusedVariables false
set_option linter.unusedSimpArgs false
namespace Go.Proofs.YtgljbcdlldhlfaaDoor
open Go.RowKit Go.Lib

section
variable {P : Program} {w : World}
theorem Row.grew (w : World) (e : TypeId) (cs : List Value) (s : ByteArray) (n old : Nat) (hl : cs.length = n) (ho : old < n + s.size) (h63 : n + s.size ≤ maxLen) :
    Row (w.drew.alloc (.cells (cs.toArray ++ (strCells s).toArray ++ Builtin.zeroCells (Value.int .u8 0).cells (grownCap w (n + s.size) old e - (n + s.size))) e)) e 1 (some ⟨w.heap.size, 0, none⟩) (n + s.size) (grownCap w (n + s.size) old e) (cs ++ strCells s) (some w.heap.size) := by
  have hge := grownCap_ge w (n + s.size) old e
  have hlen : (cs ++ strCells s).length = n + s.size := by rw [List.length_append, hl, strCells_length]
  refine ⟨by rw [hlen, Nat.mul_one], .inr ⟨_, _, rfl, rfl, blk_new w.drew _, hge, grownCap_le_maxLen w _ old e h63, ?_, ?_⟩⟩
  · have hz1 : (Value.int IntKind.u8 0).cells.size = 1 := rfl
    simp only [Array.size_append, List.size_toArray, size_zeroCells, hz1, hl, strCells_length]
    omega
  · simp only [Array.toList_append, Nat.mul_one]
    exact List.take_left' hlen
theorem grewBy (w : World) (o : Obj) (row : Option Nat) : w.grownBy (w.drew.alloc o) row := ⟨rfl, rfl, rfl, by simp, fun k hk _ => Below.heap_alloc w.drew o k hk⟩
theorem run_append_row_string (t u ty e : TypeId) (i : TypeInfo) (ht : P.underlying t = some (.slice e)) (hu : P.underlying u = some .string) (hi : P.info? e = some i) (hz : i.zero = some (.int .u8 0)) (hsize : i.size = 1) (hby : i.bytes = 1)
    {A : Option Addr} {n c : Nat} {cs : List Value} {b : Option Nat} (h : Row w e 1 A n c cs b) (s : ByteArray) (h63 : n + s.size ≤ maxLen) (hbytes : n + s.size ≤ 140737488355328) :
    ∃ B d w' b', (Builtin.append_ #[t, u] ty #[.slice A n c, .string s]).run P w = .ok (.slice B (n + s.size) d) w' ∧ Row w' e 1 B (n + s.size) d (cs ++ strCells s) b' ∧ w.grownBy w' b ∧ (b' = b ∨ ∃ g, b' = some g ∧ w.heap.size ≤ g) := by
  have hl : cs.length = n := by simpa using h.1
  have hsm : ((n + s.size : Nat) : Int) ≤ 9223372036854775807 := by simp only [maxLen] at h63; omega
  rcases h.2 with ⟨rfl, rfl, rfl⟩ | ⟨g, cur, rfl, rfl, hg, hn, hm, hs, htk⟩
  · obtain rfl : cs = [] := List.eq_nil_of_length_eq_zero hl
    by_cases hz0 : s.size = 0
    · have hn : strCells s = [] := List.eq_nil_of_length_eq_zero (by rw [strCells_length]; exact hz0)
      refine ⟨A, 0, w, none, ?_, by rw [hn, hz0]; exact Row.nil w e 1 A, grownBy_refl w _, .inl rfl⟩
      have hf := run_firstCells_string (P := P) w 1 s
      rw [hz0] at hf
      cases A <;> simp [Builtin.append_, run_underlying ht, run_underlying hu, sizeOf, typeInfo, hi, hsize, Builtin.lenOf, hz0, hf, hn, storeCells]
    · cases A with
      | none =>
        have hr := run_append_nil_string (P := P) w t u ty e i (.int .u8 0) ht hu hi hz s (by omega) (by omega) (by rw [hby]; omega)
        have hgr := Row.grew w e [] s 0 0 rfl (by omega) h63
        simp only [Nat.zero_add, List.nil_append, Array.empty_append] at hgr ⊢
        have e1 : (s.data.map fun b => Value.int .u8 b.toNat) = (strCells s).toArray := by
          apply Array.ext'
          simp [strCells]
        rw [e1] at hr
        exact ⟨_, _, _, _, hr, hgr, grewBy w _ _, .inr ⟨_, rfl, Nat.le_refl _⟩⟩
      | some a0 =>
        have hr := run_append_grow_string (P := P) w t u ty e i (.int .u8 0) ht hu hi hz a0 0 0 [] (by simp) (fun j v hv => by simp at hv) s (by omega) hsm (by rw [hby]; exact growslice_fits (by omega) (by omega))
        exact ⟨_, _, _, _, hr, Row.grew w e [] s 0 0 rfl (by omega) h63, grewBy w _ _, .inr ⟨_, rfl, Nat.le_refl _⟩⟩
  · by_cases hroom : n + s.size ≤ c
    · have hcs' : cur.size = c := by simpa using hs
      have hr := run_append_room_string (P := P) w t u ty e i ht hu hi hsize g n c cur hg s hroom (by omega)
      refine ⟨_, _, _, _, hr, ⟨by rw [List.length_append, hl, strCells_length, Nat.mul_one], .inr ⟨g, _, rfl, rfl, setRow_heap w g cur _ e _ hg, hroom, hm, ?_, ?_⟩⟩, ⟨rfl, rfl, rfl, by simp, fun k _ hk => setRow_other w g k _ (fun e => hk (by rw [e]))⟩, .inl rfl⟩
      · simp only [List.size_toArray, List.length_append, List.length_take, List.length_drop, Array.length_toList, strCells_length]
        omega
      · have ht' : cur.toList.take n = cs := by simpa using htk
        rw [ht', Nat.mul_one]
        exact List.take_left' (by rw [List.length_append, hl, strCells_length])
    · have hr := run_append_grow_string (P := P) w t u ty e i (.int .u8 0) ht hu hi hz ⟨g, 0, none⟩ n c cs (by rw [hsize]; omega) (fun j v hv => by
        have := h.rd.some_ j v hv
        exact this) s (by omega) hsm (by rw [hby]; exact growslice_fits (by omega) (by omega))
      exact ⟨_, _, _, _, hr, Row.grew w e cs s n c hl (by omega) h63, grewBy w _ _, .inr ⟨_, rfl, Nat.le_refl _⟩⟩
/-- append(s, text...): behind 'at_builtin'. -/
theorem wp_append_string {ops : Array Oper} {rest : List Oper} {o : Oper} {a : Act} {Q : Exit → Act → World → Prop} (hgd : o.guard = none) (sl x : Operand) (t u : TypeId) (ho : o.op = .call { callee := .builtin .append, args := #[sl, x], argTypes := #[t, u] })
    (e : TypeId) (ht : P.underlying t = some (.slice e)) (hu : P.underlying u = some .string) (hinfo : (P.info? e).map (fun i => (i.zero, i.size, i.bytes)) = some (some (.int .u8 0), 1, 1))
    {A : Option Addr} {n c : Nat} {cs : List Value} {b : Option Nat} (hs : a.eval sl = .slice A n c) (h : Row w e 1 A n c cs b) (s : ByteArray) (hx : a.eval x = .string s) (h63 : n + s.size ≤ maxLen) (hbytes : n + s.size ≤ 140737488355328)
    (hk : ∀ B d w' b', Row w' e 1 B (n + s.size) d (cs ++ strCells s) b' → w.grownBy w' b → (b' = b ∨ ∃ g, b' = some g ∧ w.heap.size ≤ g) → wpList P ops Q rest (a.put o.dst (.slice B (n + s.size) d)) w') :
    wpList P ops Q (o :: rest) a w := by
  obtain ⟨i, hi, hz, hz1, hz2⟩ := info_parts hinfo
  refine wpList_plain hgd fun K hK => ?_
  obtain ⟨B, d, w', b', hrun, hrow, hg, hb⟩ := run_append_row_string (P := P) (w := w) t u o.type e i ht hu hi hz hz1 hz2 h s h63 hbytes
  unfold Oper.wp execOp
  simp only [ho, resolve, invoke, builtin, Sem.run_bind, Sem.run_pure, Result.andThen_ok, List.map_toArray, List.map_cons, List.map_nil, hs, hx]
  erw [hrun]
  exact hK _ _ (hk B d w' b' hrow hg hb)
end
end Go.Proofs.YtgljbcdlldhlfaaDoor
