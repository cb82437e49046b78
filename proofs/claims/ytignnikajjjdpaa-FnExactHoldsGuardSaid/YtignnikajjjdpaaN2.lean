/- Names are sorted: spec.SortNames. -/
import Derived.Test.YtignnikajjjdpaaN1
import Derived.Test.YtignnikajjjdpaaK2
namespace Go.Proofs.Ytignnikajjjdpaa.AM
open Go Go.Proofs
set_option linter.unusedVariables false
set_option linter.unusedSimpArgs false
set_option maxRecDepth 100000
attribute [local go_sem] List.map_cons List.map_nil List.all_cons List.all_nil Bool.and_self Option.map_some List.getElem?_toArray Option.bind_some gye_b gye_t gsk_b gsk_t gb1 gb2 gb3 gb4 bne_self_eq_false beq_self_eq_true w_guard w_nil stepV_some step_some step_some' w_move w_assign w_pick w_binOp w_unOp w_load w_fieldAddr w_indexAddr w_len w_box w_alloc w_store w_field w_extract w_nilCheck w_convert w_buildSlice w_build ev_buildL fillL_nil fillL_cons bs0 bs1 ev_conv ev_bin ev_un ev_pick ev_load ev_fieldAddr ev_indexAddr ev_len ev_field ev_extract ev_nilCheck fr_tmp fr_int fr_bool fr_str fr_nil fr_func put_some put_none bin_lss bin_leq bin_gtr bin_geq bin_eql bin_neq bin_add bin_sub bin_mul bin_seql bin_sneq un_not pick_ ext_ loadA_p cellAt_l cellAt_h okPtr_l okPtr_h fadA_p allocA_l storeA_l cells_agg cells_int cells_str cells_sl cells_bool flat_i flat_s flat_b flat_sl flat_nil loc_agg loc_int loc_str loc_sl loc_bool loc_fn loc_ptr okv_agg okv_int okv_str okv_sl okv_bool cellsFrom splice upd_eval argEnv_zero argEnv_succ ne_eq Nat.add_one_ne_zero not_false_eq_true List.not_mem_nil and_self decide_true List.getElem?_cons_zero List.getElem?_cons_succ List.size_toArray List.length_cons List.length_nil List.take_succ_cons List.take_zero List.drop_succ_cons List.drop_zero List.cons_append List.nil_append List.drop_nil Bool.not_true Bool.not_false Bool.false_eq_true Nat.zero_add Nat.add_zero wrap_in List.toList_toArray List.mem_cons or_self or_false false_or
attribute [local go_sem] ag22 ag24 ag26 ag29 ag3 ag31 ag33 ag9 bu31 by31 by9 el22 el29 el46 of24_0 of24_1 of24_2 of24_3 of26_0 of26_1 of26_2 of31_0 of31_1 of31_2 of31_3 of33_0 of33_1 of33_2 ro31_1 ro9_0 ro9_1 sz22 sz24 sz26 sz29 sz3 sz31 sz33 sz9 ze31 ze33 ze9
-- AUTO

theorem insB_drop {e : ByteArray} {acc : List ByteArray} {j : Nat} (hj : j < acc.length) : insB e (acc.drop j) = if Op.bytesLess acc[j].toList e.toList = true then acc[j] :: insB e (acc.drop (j + 1)) else if acc[j].toList = e.toList then acc.drop j else e :: acc.drop j := by
  rw [List.drop_eq_getElem_cons hj]; rfl
/-- Parts of a row. -/
theorem row_upto {α : Type} {E : α → List Value → Prop} {sz : Nat} {st : St} {xs : List α} {i o c : Nat} (h : Row E (sz + 1) st xs (.slice (some ⟨i, o, none⟩) xs.length c)) {P : Program} {t e : TypeId} (hu : P.underlying t = some (.slice e)) (hs : szA P e = some (sz + 1)) {k : Nat} (hk : k ≤ xs.length) :
    ∃ s', sliceA P t (.slice (some ⟨i, o, none⟩) xs.length c) none (some (.int .i64 k)) = some s' ∧ Row E (sz + 1) st (xs.take k) s' := by
  have he : elemA P t = some e := by unfold elemA; rw [hu]
  refine ⟨.slice (some ⟨i, o + 0 * (sz + 1), none⟩) (k - 0) (k - 0), ?_, ?_⟩
  · unfold sliceA
    simp only [he, hs, Int.toNat_natCast]
    rw [if_pos (by omega)]; rfl
  · rcases h with ⟨h0, rfl⟩ | ⟨i', o', c', he', h⟩
    · refine .inr ⟨i, o + 0 * (sz + 1), k - 0, by simp at hk; simp [hk], fun j x hx => by simp at hx⟩
    · cases he'
      refine .inr ⟨i, o + 0 * (sz + 1), k - 0, by simp; omega, fun j x hx => ?_⟩
      rw [List.getElem?_take] at hx
      split at hx
      · rw [Nat.zero_mul, Nat.add_zero]; exact h j x hx
      · cases hx
theorem row_from {α : Type} {E : α → List Value → Prop} {sz : Nat} {st : St} {xs : List α} {i o c : Nat} (h : Row E (sz + 1) st xs (.slice (some ⟨i, o, none⟩) xs.length c)) {P : Program} {t e : TypeId} (hu : P.underlying t = some (.slice e)) (hs : szA P e = some (sz + 1)) {k : Nat} (hk : k ≤ xs.length) :
    ∃ s', sliceA P t (.slice (some ⟨i, o, none⟩) xs.length c) (some (.int .i64 k)) none = some s' ∧ Row E (sz + 1) st (xs.drop k) s' := by
  have he : elemA P t = some e := by unfold elemA; rw [hu]
  refine ⟨.slice (some ⟨i, o + k * (sz + 1), none⟩) (xs.length - k) (xs.length - k), ?_, ?_⟩
  · unfold sliceA
    simp only [he, hs, Int.toNat_natCast]
    rw [if_pos (by omega)]
  · rcases h with ⟨h0, rfl⟩ | ⟨i', o', c', he', h⟩
    · exact .inr ⟨i, o + k * (sz + 1), _, by simp; rfl, fun j x hx => by simp at hx⟩
    · cases he'
      refine .inr ⟨i, o + k * (sz + 1), xs.length - k, by simp, fun j x hx => ?_⟩
      rw [List.getElem?_drop] at hx
      obtain ⟨cs, h1, h2, h3⟩ := h (k + j) x hx
      exact ⟨cs, h1, h2, by rwa [show o + k * (sz + 1) + j * (sz + 1) = o + (k + j) * (sz + 1) by rw [Nat.add_mul]; omega]⟩
/-- A string is put behind a row of one's own. -/
theorem OwnS.step {n0 : Nat} {st st2 : St} {xs : List ByteArray} {s : Value} {L : List Nat} {x : ByteArray} (h : Sl st xs s L) (hf : Fresh n0 L) (hn0 : n0 ≤ st.length) (hext : Ext st st2) (hbd : xs.length + 1 ≤ 274877906944) :
    ∃ s' st' L', appendA Try.prog 46 46 s (.slice (some ⟨st2.length, 0, none⟩) 1 1) (st2 ++ [⟨[.string x], 9, 0⟩]) = some (s', st') ∧ Sl st' (xs ++ [x]) s' L' ∧ Fresh n0 L' ∧ Grow st s st' s' :=
  Sl.push (α := ByteArray) Try.underlying46 Try.underlying46 sz9 rfl by9 ze9 rfl h hf hn0 hext ⟨rfl, rfl⟩ (.nil _) (by omega) (by omega)
theorem OwnS.join {n0 : Nat} {st st2 : St} {xs ys : List ByteArray} {s y : Value} {L : List Nat} (h : Sl st xs s L) (hf : Fresh n0 L) (hn0 : n0 ≤ st.length) (hext : Ext st st2) (hy : Rw st2 ys y) (hbd : xs.length + ys.length ≤ 274877906944) :
    ∃ s' st' L', appendA Try.prog 46 46 s y st2 = some (s', st') ∧ Sl st' (xs ++ ys) s' L' ∧ Fresh n0 L' ∧ Grow st2 s st' s' :=
  Sl.appRow (α := ByteArray) Try.underlying46 Try.underlying46 sz9 rfl by9 ze9 rfl h hf hn0 hext hy (by omega) (by omega)
theorem OwnS.fresh {st : St} {ys : List ByteArray} {y : Value} (hy : Rw st ys y) (hbd : ys.length ≤ 274877906944) :
    ∃ s' st' L', appendA Try.prog 46 46 (.slice (some ⟨st.length, 0, none⟩) 0 0) y (st ++ [⟨[], 9, 0⟩]) = some (s', st') ∧ Sl st' ys s' L' ∧ Fresh st.length L' ∧ Ext st st' ∧ st.length + 1 ≤ st'.length :=
  Sl.freshRow (α := ByteArray) Try.underlying46 Try.underlying46 sz9 rfl by9 ze9 rfl hy (by omega) (by omega)

theorem SliceO.topSome {α : Type} {E : α → List Value → List Nat → Prop} {e : TypeId} {st : St} {xs : List α} {s : Value} {L : List Nat} {n : Nat} (h : SliceO E e st xs s L) (hf : Fresh n L) (h0 : xs ≠ []) : ∃ m, n ≤ m ∧ topId s = some m := by
  rcases h with ⟨rfl, h, _⟩ | ⟨i, c, cs, K, rfl, _, _, rfl⟩
  · exact absurd h h0
  · exact ⟨i, hf.2 i (by simp), rfl⟩
/-- What R9, R10 and R11 do: a string is set into a row. -/
theorem OwnS.insert {n0 br cr : Nat} {st : St} {acc : List ByteArray} {L : List Nat} {x : ByteArray} (h : Sl st acc (.slice (some ⟨br, 0, none⟩) acc.length cr) L) (hn0 : n0 ≤ st.length) {j : Nat} (hj : j ≤ acc.length) (hbd : acc.length ≤ 1073741824) :
    ∃ u1 u2 v1 v2 v3 s2 s3 s4 L4, sliceA Try.prog 46 (.slice (some ⟨br, 0, none⟩) acc.length cr) none (some (.int .i64 j)) = some u1 ∧
      appendA Try.prog 46 46 (.slice (some ⟨st.length, 0, none⟩) 0 0) u1 (st ++ [⟨[], 9, 0⟩]) = some (v1, s2) ∧
      appendA Try.prog 46 46 v1 (.slice (some ⟨s2.length, 0, none⟩) 1 1) (s2 ++ [⟨[.string x], 9, 0⟩]) = some (v2, s3) ∧
      sliceA Try.prog 46 (.slice (some ⟨br, 0, none⟩) acc.length cr) (some (.int .i64 j)) none = some u2 ∧
      appendA Try.prog 46 46 v2 u2 s3 = some (v3, s4) ∧ Sl s4 (acc.take j ++ x :: acc.drop j) v3 L4 ∧ Fresh n0 L4 ∧ Ext st s2 ∧ Ext st s4 ∧ (∃ m, n0 ≤ m ∧ topId v3 = some m) ∧
      isLoc u1 = false ∧ isLoc u2 = false ∧ isLoc v1 = false ∧ isLoc v2 = false ∧ isLoc v3 = false := by
  have hr := h.row
  obtain ⟨u1, a1, a2⟩ := row_upto (sz := 0) (α := ByteArray) hr Try.underlying46 sz9 hj
  obtain ⟨u2, b1, b2⟩ := row_from (sz := 0) (α := ByteArray) hr Try.underlying46 sz9 hj
  obtain ⟨v1, s2, L2, c1, c2, c3, c4, c5⟩ := OwnS.fresh (st := st) (ys := acc.take j) a2 (by simp; omega)
  have t1 := c2.top c3
  obtain ⟨v2, s3, L3, d1, d2, d3, d4⟩ := OwnS.step (x := x) c2 c3 c4.length (Ext.refl s2) (by simp; omega)
  have x3 : Ext st s3 := d4.away.ext_of c4 t1
  have t2 := d2.top d3
  have hl3 := d4.away.1
  obtain ⟨v3, s4, L4, e1, e2, e3, e4⟩ := OwnS.join (ys := acc.drop j) d2 d3 (by have := x3.length; exact this) (Ext.refl s3) (Rw.ext b2 x3) (by simp; omega)
  have x4 : Ext st s4 := e4.away.ext_of x3 t2
  have e2' : Sl s4 (acc.take j ++ x :: acc.drop j) v3 L4 := by rw [List.append_cons]; exact e2
  have e3' : Fresh n0 L4 := ⟨e3.1, fun i hi => Nat.le_trans hn0 (e3.2 i hi)⟩
  exact ⟨u1, u2, v1, v2, v3, s2, s3, s4, L4, a1, c1, d1, b1, e1, e2', e3', c4, x4, e2'.topSome e3' (by simp), a2.notLoc.1, b2.notLoc.1, c2.loc, d2.loc, e2.loc⟩
theorem insB_nil {e : ByteArray} : insB e [] = [e] := rfl
end Go.Proofs.Ytignnikajjjdpaa.AM
