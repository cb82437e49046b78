/- My texts for the law, laid together (part 5): C32 A20 C33 E4 LB LC C34. -/
import Derived.Test.YtoeibmfdafilcaaG4
namespace Go.Proofs.Ytoeibmfdafilcaa.AM
open Go
attribute [local go_sem] List.map_cons List.map_nil List.all_cons List.all_nil Bool.and_self Option.map_some List.getElem?_toArray Option.bind_some gye_b gye_t gsk_b gsk_t gb1 gb2 gb3 gb4 bne_self_eq_false beq_self_eq_true w_guard w_nil stepV_some step_some step_some' w_move w_assign w_pick w_binOp w_unOp w_load w_fieldAddr w_indexAddr w_len w_max w_index ev_max max_int ev_index w_box w_alloc w_store w_field w_extract w_nilCheck w_convert w_buildSlice w_build ev_buildL fillL_nil fillL_cons bs0 bs1 ev_conv ev_bin ev_un ev_pick ev_load ev_fieldAddr ev_indexAddr ev_len ev_field ev_extract ev_nilCheck fr_tmp fr_int fr_bool fr_str fr_nil fr_func put_some put_none bin_lss bin_leq bin_gtr bin_geq bin_eql bin_neq bin_add bin_sub bin_mul bin_seql bin_sneq un_not pick_ ext_ loadA_p cellAt_l cellAt_h okPtr_l okPtr_h fadA_p allocA_l storeA_l cells_agg cells_int cells_str cells_sl cells_bool flat_i flat_s flat_b flat_sl flat_nil loc_agg loc_int loc_str loc_sl loc_bool loc_fn loc_ptr okv_agg okv_int okv_str okv_sl okv_bool cellsFrom splice upd_eval argEnv_zero argEnv_succ ne_eq Nat.add_one_ne_zero not_false_eq_true List.not_mem_nil and_self decide_true List.getElem?_cons_zero List.getElem?_cons_succ List.size_toArray List.length_cons List.length_nil List.take_succ_cons List.take_zero List.drop_succ_cons List.drop_zero List.cons_append List.nil_append List.drop_nil Bool.not_true Bool.not_false Bool.false_eq_true Nat.zero_add Nat.add_zero wrap_in List.toList_toArray List.mem_cons or_self or_false false_or
attribute [local go_sem] ag22 ag24 ag26 ag29 ag3 ag31 ag49 ag54 ag9 ag91 bu31 bu41 bu49 bu54 by31 by49 by54 by9 el22 el26 el29 el45 el50 el68 of24_0 of24_1 of24_2 of24_3 of31_0 of31_1 of31_2 of31_3 of41_0 of41_1 of41_2 of49_0 of49_1 of54_0 of54_1 ro31_0 ro31_1 ro49_1 ro5_1 ro54_0 ro54_1 ro9_0 ro9_1 sz22 sz24 sz26 sz29 sz3 sz31 sz49 sz5 sz54 sz9 sz91 ze3 ze31 ze49 ze54 ze9 ze91
section
/- The reference's unification: spec.l8Step. -/
open Go Go.Proofs
set_option linter.unusedVariables false
set_option linter.unusedSimpArgs false
set_option maxRecDepth 100000
-- AUTO

/-- Terms of another store, in a row of one's own. -/
abbrev SlTX (s st : St) (ts : List T) (v : Value) (L : List Nat) : Prop := SliceO (fun t cs Lx => Enc s t cs ∧ Lx = []) 31 st ts v L
theorem catT {s st : St} {xs ys : List T} {v y : Value} (hx : Row (Enc s) 4 st xs v) (hy : Row (Enc s) 4 st ys y) (hb : xs.length + ys.length ≤ 1073741824) :
    ∃ v1 st1 v2 st2 L, appendA Try.prog 29 29 (.slice (some ⟨st.length, 0, none⟩) 0 0) v (st ++ [⟨[], 31, 0⟩]) = some (v1, st1) ∧ appendA Try.prog 29 29 v1 y st1 = some (v2, st2) ∧ Ext st st1 ∧ Ext st st2 ∧ isLoc v1 = false ∧ SlTX s st2 (xs ++ ys) v2 L ∧ Fresh st.length L := by
  obtain ⟨c1, hn1, hr1⟩ := newsA_row (P := Try.prog) (u := 29) (Row.mono hx (Ext.app st [⟨[], 31, 0⟩]) fun _ _ _ h => h) Try.underlying29
  obtain ⟨v1, st1, L1, h1, h2, h3, h4, h5⟩ := SliceO.fresh (E := fun (_ : St) p cs Lx => Enc s p cs ∧ Lx = []) (fun _ _ _ _ _ _ h => h) (fun _ _ _ _ h => by rw [h.2]; simp) (sz := 3) (fun _ _ _ _ h => h.1.len) (ys := xs) (u := 29) Try.underlying29 sz31 by31 ze31 rfl hn1 hr1 (by omega) (by omega)
  obtain ⟨c2, hn2, hr2⟩ := newsA_row (P := Try.prog) (u := 29) (Row.mono hy h4 fun _ _ _ h => h) Try.underlying29
  obtain ⟨v2, st2, L2, g1, g2, g3, g4⟩ := SliceO.app (E := fun (_ : St) p cs Lx => Enc s p cs ∧ Lx = []) (fun _ _ _ _ _ _ h => h) (fun _ _ _ _ h => by rw [h.2]; simp) (sz := 3) (fun _ _ _ _ h => h.1.len) (ys := ys) (u := 29) Try.underlying29 sz31 by31 ze31 rfl h2 h3 h4.length (Ext.refl st1) hn2 hr2 ⟨by simp, by simp⟩ (by omega) (by omega)
  exact ⟨v1, st1, v2, st2, L2, h1, g1, h4, g4.away.ext_of h4 (h2.top h3), h2.loc, g2, g3⟩
theorem SlTX.rowBl {s st : St} {ts : List T} {v : Value} {L : List Nat} {q n : Nat} (h : SlTX s st ts v L) (hf : Fresh n L) (hq : q < n) : Row (Enc s) 4 (bl q st) ts v := by
  refine row_bl (SliceO.row (fun x cx Lx h => h.1.len) (fun x _ cx Lx h => h.1) h) fun e => ?_
  rcases h.top hf with h | ⟨m, hm, h⟩ <;> rw [h] at e
  · cases e
  · cases e; omega
theorem Row.ofBl {q : Nat} {st : St} {xs : List T} {v : Value} (h : Row (Enc (bl q st)) 4 (bl q st) xs v) : Row (Enc st) 4 st xs v := h.ci ci_bl fun x _ cs he => Enc.ci ci_bl _ _ he
theorem Row.toBl {q : Nat} {a b : St} {xs : List T} {v : Value} (h : Row (Enc (bl q a)) 4 (bl q a) xs v) (ha : Away (some q) a b) : Row (Enc (bl q b)) 4 (bl q b) xs v := h.mono (bl_away ha) fun _ _ _ he => Enc.ext (bl_away ha) _ _ he
set_option maxHeartbeats 2000000 in
theorem l8Step_ok (q : Nat) (a b : T) (bs : List Bnd) (rest : List (T × T)) (st : St) (hz : ZSt q st bs ((a, b) :: rest)) (hbb : bs.length ≤ 1073741824) (hlb : ∀ x ∈ bs, Lim 1073741824 x.tm) (hla : Lim 1073741824 a) (hlb2 : Lim 1073741824 b)
    (hca : (a.sub bs).count ≤ 536870912) (hcb : (b.sub bs).count ≤ 536870912) (hrn : rest.length ≤ 536870912) :
    CallS Try.prog 14 [.pointer (some ⟨q, 0, none⟩)] st fun r st2 => Away (some q) st st2 ∧ match stepU bs (a.sub bs) (b.sub bs) with
      | none => r = .bool false
      | some (bs', more) => r = .bool true ∧ ZSt q st2 bs' (more ++ rest) := by
  obtain ⟨vl, vr, vs, hq, hrl, hrr, hrs⟩ := hz
  simp only [List.map_cons] at hrl hrr
  have hql : q < st.length := (List.getElem?_eq_some_iff.1 hq).1
  have hn1 : (a :: rest.map Prod.fst).length = rest.length + 1 := by simp
  have hn2 : (b :: rest.map Prod.snd).length = rest.length + 1 := by simp
  obtain ⟨i1, o1, c1, ca, hvl, hcl1, hE1, hcs1⟩ := row_at hrl.ofBl (j := 0) (x := a) rfl
  obtain ⟨i2, o2, c2, cb, hvr, hcl2, hE2, hcs2⟩ := row_at hrr.ofBl (j := 0) (x := b) rfl
  rw [hn1] at hvl
  rw [hn2] at hvr
  subst hvl
  subst hvr
  obtain ⟨v1, hv1, fv1, hw1⟩ := row_drop (P := Try.prog) (t := 29) hrl Try.underlying29 sz31 (k := 1) (by simp) (by simp)
  obtain ⟨v2, hv2, fv2, hw2⟩ := row_drop (P := Try.prog) (t := 29) hrr Try.underlying29 sz31 (k := 1) (by simp) (by simp)
  rw [List.drop_one, List.tail_cons] at hw1 hw2
  have hv1' : sliceA Try.prog 29 (.slice (some ⟨i1, o1, none⟩) (rest.length + 1) c1) (some (.int .i64 1)) none = some v1 := hv1
  have hv2' : sliceA Try.prog 29 (.slice (some ⟨i2, o2, none⟩) (rest.length + 1) c2) (some (.int .i64 1)) none = some v2 := hv2
  obtain ⟨k1, n1, m1, as1, he1⟩ := T.eta a
  obtain ⟨k2, n2, m2, as2, he2⟩ := T.eta b
  have hE1' := hE1
  have hE2' := hE2
  rw [he1] at hE1'
  rw [he2] at hE2'
  obtain ⟨s1, rfl, hr1⟩ := hE1'.open
  obtain ⟨s2, rfl, hr2⟩ := hE2'.open
  refine CallS_of_W [] 113 Try.func14 rfl rfl rfl rfl (by simp) ?_
  have p1 := hr1.notLoc.1
  have p2 := hr1.notLoc.2
  have p3 := hr2.notLoc.1
  have p4 := hr2.notLoc.2
  have p5 := hrs.notLoc.1
  have y1 := hw1.notLoc.1
  have y2 := hw2.notLoc.1
  have y3 := hw1.notLoc.2
  have y4 := hw2.notLoc.2
  have y5 := Row.cells1 hw1
  have y6 := Row.cells1 hw2
  have hi0 : (0 ≤ (0 : Int) ∧ (0 : Int) < ((rest.length + 1 : Nat) : Int)) = True := eq_true ⟨by omega, by omega⟩
  have z0 : (0 : Int).toNat = 0 := rfl
  have q0 := z_cell0 hq
  have q2 := z_cell2 hq
  have hRs : Rw st bs vs := rwB_ci ci_bl hrs
  have wa0 : cell st i1 (o1 + 0 * 4) = some (.int .i64 k1) := hcs1 0 _ rfl
  have wa1 : cell st i1 (o1 + 0 * 4 + 1) = some (.int .i64 n1) := hcs1 1 _ rfl
  have wa2 : cell st i1 (o1 + 0 * 4 + 1 + 1) = some (.string m1) := hcs1 2 _ rfl
  have wa3 : cell st i1 (o1 + 0 * 4 + 1 + 1 + 1) = some s1 := hcs1 3 _ rfl
  repeat (first | ((first | refine W_reg rfl fun G K hG hK => ?_ | refine W_end rfl fun G K hG hK => ?_); simp (disch := omega) only [go_sem, ↓reduceIte, Nat.reduceEqDiff, Nat.reduceAdd, Nat.reduceLeDiff, hG, p1, p2, p3, p4, p5]; refine hK _ _ ?_; clear hK K hG G) | refine W_seqS ?_ | refine W_seqC ?_ | refine W_seqB ?_ | refine W_block ?_ | refine W_skip ?_ | (refine W_condT ?hc ?_; (case hc => (simp (disch := omega) only [go_sem, ↓reduceIte, Nat.reduceEqDiff, Nat.reduceAdd, Nat.reduceLeDiff, p1, p2, p3, p4, p5]; done))) | (refine W_condF ?hc ?_; (case hc => (simp (disch := omega) only [go_sem, ↓reduceIte, Nat.reduceEqDiff, Nat.reduceAdd, Nat.reduceLeDiff, p1, p2, p3, p4, p5]; done))) | refine thenI ?_ | refine thenE ?_ | refine thenR ?_ | refine inBI ?_ | refine inBR ?_ | refine inBS ?_ | refine inBN (by decide) ?_)
  (repeat (first | refine W_seqS ?_ | refine W_seqC ?_ | refine W_seqB ?_ | refine W_block ?_)); refine W_regD mixed [3] [(0,false),(1,false),(2,false),(3,false),(4,false),(5,false),(6,false),(7,false),(8,false),(9,false),(11,false),(10,true),(12,false)] rfl (by decide +kernel) fun G K hG hK => ?_; simp only [pickOps, List.filterMap_cons, List.filterMap_nil, List.getElem?_cons_zero, List.getElem?_cons_succ, Option.map_some]; simp (disch := omega) only [go_sem, ↓reduceIte, Nat.reduceEqDiff, Nat.reduceAdd, Nat.reduceLeDiff, hG, p1, p2, p3, p4, p5, nc_h, okPtr_h, cellAt_h, q0, q2, hi0, idxA, z0, wa0, wa1, wa2, wa3]
  refine w_call (specSub_ok bs vs hbb hlb a st _ hla hE1 hRs) (by simp (disch := omega) only [go_sem, ↓reduceIte, Nat.reduceEqDiff, p1, p2, p3, p4, p5]) ?hl ?_
  case hl => first | rfl | (simp only [go_sem, List.all_cons, List.all_nil, Bool.not_false, Bool.and_self, p1, p2, p3, p4, p5]; done)
  rintro r_ sa ⟨x1, ds, L1, rfl, ho1, hf1⟩; refine ⟨fun e => x1, ?_⟩
  obtain ⟨kx, nx, mx, zx, rfl, a1, a2, a3⟩ := ho1.args_cells
  simp (disch := omega) only [go_sem, ↓reduceIte, Nat.reduceEqDiff, Nat.reduceAdd, Nat.reduceLeDiff, hG, p1, p2, p3, p4, p5, a1, a2, a3]; refine hK _ _ ?_; clear hK K hG G; repeat (first | refine thenI ?_ | refine thenE ?_ | refine thenR ?_ | refine inBI ?_ | refine inBR ?_ | refine inBS ?_ | refine inBN (by decide) ?_)
  have hqa : sa[q]? = some ⟨[.slice (some ⟨i1, o1, none⟩) (rest.length + 1) c1, .slice (some ⟨i2, o2, none⟩) (rest.length + 1) c2, vs], 41, 0⟩ := x1 _ _ hq
  have r1 := z_cell1 hqa
  have r2 := z_cell2 hqa
  have hcs2' := hcs2.ext x1
  have wb0 : cell sa i2 (o2 + 0 * 4) = some (.int .i64 k2) := hcs2' 0 _ rfl
  have wb1 : cell sa i2 (o2 + 0 * 4 + 1) = some (.int .i64 n2) := hcs2' 1 _ rfl
  have wb2 : cell sa i2 (o2 + 0 * 4 + 1 + 1) = some (.string m2) := hcs2' 2 _ rfl
  have wb3 : cell sa i2 (o2 + 0 * 4 + 1 + 1 + 1) = some s2 := hcs2' 3 _ rfl
  (repeat (first | refine W_seqS ?_ | refine W_seqC ?_ | refine W_seqB ?_ | refine W_block ?_)); refine W_regD mixed [4] [(0,false),(1,false),(2,false),(3,false),(4,false),(5,false),(6,false),(7,false),(8,false),(9,false),(11,false),(10,true),(12,false)] rfl (by decide +kernel) fun G K hG hK => ?_; simp only [pickOps, List.filterMap_cons, List.filterMap_nil, List.getElem?_cons_zero, List.getElem?_cons_succ, Option.map_some]; simp (disch := omega) only [go_sem, ↓reduceIte, Nat.reduceEqDiff, Nat.reduceAdd, Nat.reduceLeDiff, hG, p1, p2, p3, p4, p5, a1, a2, a3, nc_h, okPtr_h, cellAt_h, r1, r2, hi0, idxA, z0, wb0, wb1, wb2, wb3]
  refine w_call (specSub_ok bs vs hbb hlb b sa _ hlb2 (Enc.ext x1 _ _ hE2) (hRs.ext x1)) (by simp (disch := omega) only [go_sem, ↓reduceIte, Nat.reduceEqDiff, p1, p2, p3, p4, p5, a1, a2, a3]) ?hl ?_
  case hl => first | rfl | (simp only [go_sem, List.all_cons, List.all_nil, Bool.not_false, Bool.and_self, p1, p2, p3, p4, p5, a1, a2, a3]; done)
  rintro r_ sb ⟨x2, es, L2, rfl, ho2, hf2⟩; refine ⟨fun e => x2, ?_⟩
  obtain ⟨ky, ny, my, zy, rfl, b1, b2, b3⟩ := ho2.args_cells
  simp (disch := omega) only [go_sem, ↓reduceIte, Nat.reduceEqDiff, Nat.reduceAdd, Nat.reduceLeDiff, hG, p1, p2, p3, p4, p5, a1, a2, a3, b1, b2, b3]; refine hK _ _ ?_; clear hK K hG G; repeat (first | refine thenI ?_ | refine thenE ?_ | refine thenR ?_ | refine inBI ?_ | refine inBR ?_ | refine inBS ?_ | refine inBN (by decide) ?_)
  have hqb : sb[q]? = some ⟨[.slice (some ⟨i1, o1, none⟩) (rest.length + 1) c1, .slice (some ⟨i2, o2, none⟩) (rest.length + 1) c2, vs], 41, 0⟩ := x2 _ _ hqa
  have u0 := z_cell0 hqb
  have u1 := z_set0 hqb y3 y5
  have hqc := set_at (b' := ⟨[v1, .slice (some ⟨i2, o2, none⟩) (rest.length + 1) c2, vs], 41, 0⟩) hqb
  have u2 := z_cell1 hqc
  have u3 := z_set1 hqc y4 y6
  (repeat (first | refine W_seqS ?_ | refine W_seqC ?_ | refine W_seqB ?_ | refine W_block ?_)); refine W_reg rfl fun G K hG hK => ?_; simp (disch := omega) only [go_sem, ↓reduceIte, Nat.reduceEqDiff, Nat.reduceAdd, Nat.reduceLeDiff, hG, p1, p2, p3, p4, p5, a1, a2, a3, b1, b2, b3, nc_h, okPtr_h, cellAt_h, w_slice, ev_slice, u0, hv1', u1, y1, flat_i, Bool.false_and, Option.all_some, Option.map_some, Option.all_none, Option.map_none]
  refine hK _ _ ?_; clear hK K hG G; repeat (first | refine thenI ?_ | refine thenE ?_ | refine thenR ?_ | refine inBI ?_ | refine inBR ?_ | refine inBS ?_ | refine inBN (by decide) ?_)
  (repeat (first | refine W_seqS ?_ | refine W_seqC ?_ | refine W_seqB ?_ | refine W_block ?_)); refine W_reg rfl fun G K hG hK => ?_; simp (disch := omega) only [go_sem, ↓reduceIte, Nat.reduceEqDiff, Nat.reduceAdd, Nat.reduceLeDiff, hG, p1, p2, p3, p4, p5, a1, a2, a3, b1, b2, b3, nc_h, okPtr_h, cellAt_h, w_slice, ev_slice, u2, hv2', u3, y2, flat_i, Bool.false_and, Option.all_some, Option.map_some, Option.all_none, Option.map_none]
  refine hK _ _ ?_; clear hK K hG G; repeat (first | refine thenI ?_ | refine thenE ?_ | refine thenR ?_ | refine inBI ?_ | refine inBR ?_ | refine inBS ?_ | refine inBN (by decide) ?_)
  obtain ⟨sc, hsc⟩ : ∃ sc, sc = (sb.set q ⟨[v1, .slice (some ⟨i2, o2, none⟩) (rest.length + 1) c2, vs], 41, 0⟩).set q ⟨[v1, v2, vs], 41, 0⟩ := ⟨_, rfl⟩
  rw [← hsc]
  have hx2 := x1.trans x2
  have aw : Away (some q) st sc := by rw [hsc]; exact ((Away.of_ext (k := some q) hx2).trans set_away (.inl rfl)).trans set_away (.inl rfl)
  have hbl : bl q sc = bl q sb := by rw [hsc, bl_set, bl_set]
  have hqsc : sc[q]? = some ⟨[v1, v2, vs], 41, 0⟩ := by rw [hsc]; exact set_at hqc
  have hla1 := x1.length
  have hlsc := aw.1
  have hXb : Enc (bl q sc) (a.sub bs) [.int .i64 kx, .int .i64 nx, .string mx, zx] := by rw [hbl]; exact (own_bl (own_ext (α := T) ho1 x2) hf1 hql).enc
  have hYb : Enc (bl q sc) (b.sub bs) [.int .i64 ky, .int .i64 ny, .string my, zy] := by rw [hbl]; exact (own_bl (α := T) ho2 hf2 (by omega)).enc
  have hw1' := hw1.toBl aw
  have hw2' := hw2.toBl aw
  have hrs' : Rw (bl q sc) bs vs := hrs.ext (bl_away aw)
  have hz2 : ZSt q sc bs rest := ⟨v1, v2, vs, hqsc, hw1', hw2', hrs'⟩
  have hXe := Enc.ci ci_bl _ _ hXb
  have hYe := Enc.ci ci_bl _ _ hYb
  obtain ⟨X, hXX⟩ : ∃ X, X = a.sub bs := ⟨_, rfl⟩
  obtain ⟨Y, hYY⟩ : ∃ Y, Y = b.sub bs := ⟨_, rfl⟩
  have hlX : Lim 1073741824 X := by rw [hXX]; exact Lim.of_count _ (by omega)
  have hlY : Lim 1073741824 Y := by rw [hYY]; exact Lim.of_count _ (by omega)
  rw [← hXX] at hXe hXb hca
  rw [← hYY] at hYe hYb hcb
  rw [← hXX, ← hYY]
  obtain ⟨kX, nX, mX, xs, hXm⟩ := T.eta X
  obtain ⟨kY, nY, mY, ys, hYm⟩ := T.eta Y
  have hXo := hXb
  rw [hXm] at hXo
  obtain ⟨w1, hwe1, hrX⟩ := hXo.open
  simp only [List.cons.injEq, Value.int.injEq, Value.string.injEq, and_true, true_and] at hwe1
  obtain ⟨rfl, rfl, rfl, rfl⟩ := hwe1
  have hYo := hYb
  rw [hYm] at hYo
  obtain ⟨w2, hwe2, hrY⟩ := hYo.open
  simp only [List.cons.injEq, Value.int.injEq, Value.string.injEq, and_true, true_and] at hwe2
  obtain ⟨rfl, rfl, rfl, rfl⟩ := hwe2
  have hub : xs.length ≤ 536870912 := by
    have := T.countL_len xs
    rw [hXm] at hca
    simp only [T.count] at hca
    omega
  have hub2 : ys.length ≤ 536870912 := by
    have := T.countL_len ys
    rw [hYm] at hcb
    simp only [T.count] at hcb
    omega
  have hlX2 : lenE Try.prog 29 zx = some (.int .i64 xs.length) := row_len hrX Try.underlying29
  have hlY2 : lenE Try.prog 29 zy = some (.int .i64 ys.length) := row_len hrY Try.underlying29
  have hst0 : stepU bs X Y = if T.eqv X Y = true then some (bs, []) else if kx = 1 then bindU bs mx Y else if ky = 1 then bindU bs my X else if kx = 2 ∧ ky = 2 ∧ mx = my ∧ xs.length = ys.length then some (bs, xs.zip ys) else none := by rw [hXm, hYm]; rfl
  repeat (first | ((first | refine W_reg rfl fun G K hG hK => ?_ | refine W_end rfl fun G K hG hK => ?_); simp (disch := omega) only [go_sem, ↓reduceIte, Nat.reduceEqDiff, Nat.reduceAdd, Nat.reduceLeDiff, hG, p1, p2, p3, p4, p5, a1, a2, a3, b1, b2, b3, hlX2, hlY2]; refine hK _ _ ?_; clear hK K hG G) | refine W_seqS ?_ | refine W_seqC ?_ | refine W_seqB ?_ | refine W_block ?_ | refine W_skip ?_ | (refine W_condT ?hc ?_; (case hc => (simp (disch := omega) only [go_sem, ↓reduceIte, Nat.reduceEqDiff, Nat.reduceAdd, Nat.reduceLeDiff, p1, p2, p3, p4, p5, a1, a2, a3, b1, b2, b3, hlX2, hlY2]; done))) | (refine W_condF ?hc ?_; (case hc => (simp (disch := omega) only [go_sem, ↓reduceIte, Nat.reduceEqDiff, Nat.reduceAdd, Nat.reduceLeDiff, p1, p2, p3, p4, p5, a1, a2, a3, b1, b2, b3, hlX2, hlY2]; done))) | refine thenI ?_ | refine thenE ?_ | refine thenR ?_ | refine inBI ?_ | refine inBR ?_ | refine inBS ?_ | refine inBN (by decide) ?_)
  (repeat (first | refine W_seqS ?_ | refine W_seqC ?_ | refine W_seqB ?_ | refine W_block ?_)); refine W_reg rfl fun G K hG hK => ?_; simp (disch := omega) only [go_sem, ↓reduceIte, Nat.reduceEqDiff, Nat.reduceAdd, Nat.reduceLeDiff, hG, p1, p2, p3, p4, p5, a1, a2, a3, b1, b2, b3, hlX2, hlY2]
  refine w_call (specEq_ok X Y sc _ _ hlX hlY hXe hYe) (by simp (disch := omega) only [go_sem, ↓reduceIte, Nat.reduceEqDiff, p1, p2, p3, p4, p5, a1, a2, a3, b1, b2, b3, hlX2, hlY2]) ?hl ?_
  case hl => first | rfl | (simp only [go_sem, List.all_cons, List.all_nil, Bool.not_false, Bool.and_self, p1, p2, p3, p4, p5, a1, a2, a3, b1, b2, b3, hlX2, hlY2]; done)
  rintro r_ sc ⟨rfl, rfl⟩; refine ⟨fun e => (by cases e), ?_⟩
  simp (disch := omega) only [go_sem, ↓reduceIte, Nat.reduceEqDiff, Nat.reduceAdd, Nat.reduceLeDiff, hG, p1, p2, p3, p4, p5, a1, a2, a3, b1, b2, b3, hlX2, hlY2]; refine hK _ _ ?_; clear hK K hG G; repeat (first | refine thenI ?_ | refine thenE ?_ | refine thenR ?_ | refine inBI ?_ | refine inBR ?_ | refine inBS ?_ | refine inBN (by decide) ?_)
  cases heq : T.eqv X Y with
  | true =>
    repeat (first | ((first | refine W_reg rfl fun G K hG hK => ?_ | refine W_end rfl fun G K hG hK => ?_); simp (disch := omega) only [go_sem, ↓reduceIte, Nat.reduceEqDiff, Nat.reduceAdd, Nat.reduceLeDiff, hG, p1, p2, p3, p4, p5, a1, a2, a3, b1, b2, b3, hlX2, hlY2]; refine hK _ _ ?_; clear hK K hG G) | refine W_seqS ?_ | refine W_seqC ?_ | refine W_seqB ?_ | refine W_block ?_ | refine W_skip ?_ | (refine W_condT ?hc ?_; (case hc => (simp (disch := omega) only [go_sem, ↓reduceIte, Nat.reduceEqDiff, Nat.reduceAdd, Nat.reduceLeDiff, p1, p2, p3, p4, p5, a1, a2, a3, b1, b2, b3, hlX2, hlY2]; done))) | (refine W_condF ?hc ?_; (case hc => (simp (disch := omega) only [go_sem, ↓reduceIte, Nat.reduceEqDiff, Nat.reduceAdd, Nat.reduceLeDiff, p1, p2, p3, p4, p5, a1, a2, a3, b1, b2, b3, hlX2, hlY2]; done))) | refine thenI ?_ | refine thenE ?_ | refine thenR ?_ | refine inBI ?_ | refine inBR ?_ | refine inBS ?_ | refine inBN (by decide) ?_)
    refine W_ret ?_; try (repeat (first | refine thenI ?_ | refine thenE ?_ | refine thenR ?_ | refine inBI ?_ | refine inBR ?_ | refine inBS ?_ | refine inBN (by decide) ?_))
    refine fin1 (.inl rfl) (by (simp (disch := omega) only [go_sem, ↓reduceIte, Nat.reduceEqDiff, Nat.reduceAdd, Nat.reduceLeDiff, p1, p2, p3, p4, p5, a1, a2, a3, b1, b2, b3, hlX2, hlY2]); try rfl) rfl ⟨aw, ?_⟩
    rw [hst0, if_pos heq]
    exact ⟨rfl, hz2⟩
  | false =>
  rw [heq] at hst0
  simp only [Bool.false_eq_true, if_false] at hst0
  by_cases hk : kx = 1
  · have d1 : (kx == 1) = true := by simpa using hk
    rw [if_pos hk] at hst0
    repeat (first | ((first | refine W_reg rfl fun G K hG hK => ?_ | refine W_end rfl fun G K hG hK => ?_); simp (disch := omega) only [go_sem, ↓reduceIte, Nat.reduceEqDiff, Nat.reduceAdd, Nat.reduceLeDiff, hG, p1, p2, p3, p4, p5, a1, a2, a3, b1, b2, b3, hlX2, hlY2, d1]; refine hK _ _ ?_; clear hK K hG G) | refine W_seqS ?_ | refine W_seqC ?_ | refine W_seqB ?_ | refine W_block ?_ | refine W_skip ?_ | (refine W_condT ?hc ?_; (case hc => (simp (disch := omega) only [go_sem, ↓reduceIte, Nat.reduceEqDiff, Nat.reduceAdd, Nat.reduceLeDiff, p1, p2, p3, p4, p5, a1, a2, a3, b1, b2, b3, hlX2, hlY2, d1]; done))) | (refine W_condF ?hc ?_; (case hc => (simp (disch := omega) only [go_sem, ↓reduceIte, Nat.reduceEqDiff, Nat.reduceAdd, Nat.reduceLeDiff, p1, p2, p3, p4, p5, a1, a2, a3, b1, b2, b3, hlX2, hlY2, d1]; done))) | refine thenI ?_ | refine thenE ?_ | refine thenR ?_ | refine inBI ?_ | refine inBR ?_ | refine inBS ?_ | refine inBN (by decide) ?_)
    (repeat (first | refine W_seqS ?_ | refine W_seqC ?_ | refine W_seqB ?_ | refine W_block ?_)); refine W_reg rfl fun G K hG hK => ?_; simp (disch := omega) only [go_sem, ↓reduceIte, Nat.reduceEqDiff, Nat.reduceAdd, Nat.reduceLeDiff, hG, p1, p2, p3, p4, p5, a1, a2, a3, b1, b2, b3, hlX2, hlY2]
    refine w_call (l8Bind_ok q mx Y sc _ bs rest hz2 hYb hlY (by omega) hbb hlb) (by simp (disch := omega) only [go_sem, ↓reduceIte, Nat.reduceEqDiff, p1, p2, p3, p4, p5, a1, a2, a3, b1, b2, b3, hlX2, hlY2]) ?hl ?_
    case hl => first | rfl | (simp only [go_sem, List.all_cons, List.all_nil, Bool.not_false, Bool.and_self, p1, p2, p3, p4, p5, a1, a2, a3, b1, b2, b3, hlX2, hlY2]; done)
    rintro r_ sd ⟨aw2, hcase⟩; refine ⟨fun e => (by cases e), ?_⟩
    rcases hcase with ⟨hin, rfl⟩ | ⟨hout, rfl, hz3⟩
    · simp (disch := omega) only [go_sem, ↓reduceIte, Nat.reduceEqDiff, Nat.reduceAdd, Nat.reduceLeDiff, hG, p1, p2, p3, p4, p5, a1, a2, a3, b1, b2, b3, hlX2, hlY2]; refine hK _ _ ?_; clear hK K hG G; repeat (first | refine thenI ?_ | refine thenE ?_ | refine thenR ?_ | refine inBI ?_ | refine inBR ?_ | refine inBS ?_ | refine inBN (by decide) ?_)
      repeat (first | ((first | refine W_reg rfl fun G K hG hK => ?_ | refine W_end rfl fun G K hG hK => ?_); simp (disch := omega) only [go_sem, ↓reduceIte, Nat.reduceEqDiff, Nat.reduceAdd, Nat.reduceLeDiff, hG, p1, p2, p3, p4, p5, a1, a2, a3, b1, b2, b3, hlX2, hlY2]; refine hK _ _ ?_; clear hK K hG G) | refine W_seqS ?_ | refine W_seqC ?_ | refine W_seqB ?_ | refine W_block ?_ | refine W_skip ?_ | (refine W_condT ?hc ?_; (case hc => (simp (disch := omega) only [go_sem, ↓reduceIte, Nat.reduceEqDiff, Nat.reduceAdd, Nat.reduceLeDiff, p1, p2, p3, p4, p5, a1, a2, a3, b1, b2, b3, hlX2, hlY2]; done))) | (refine W_condF ?hc ?_; (case hc => (simp (disch := omega) only [go_sem, ↓reduceIte, Nat.reduceEqDiff, Nat.reduceAdd, Nat.reduceLeDiff, p1, p2, p3, p4, p5, a1, a2, a3, b1, b2, b3, hlX2, hlY2]; done))) | refine thenI ?_ | refine thenE ?_ | refine thenR ?_ | refine inBI ?_ | refine inBR ?_ | refine inBS ?_ | refine inBN (by decide) ?_)
      refine W_ret ?_; try (repeat (first | refine thenI ?_ | refine thenE ?_ | refine thenR ?_ | refine inBI ?_ | refine inBR ?_ | refine inBS ?_ | refine inBN (by decide) ?_))
      refine fin1 (.inl rfl) (by (simp (disch := omega) only [go_sem, ↓reduceIte, Nat.reduceEqDiff, Nat.reduceAdd, Nat.reduceLeDiff, p1, p2, p3, p4, p5, a1, a2, a3, b1, b2, b3, hlX2, hlY2]); try rfl) rfl ⟨aw.trans aw2 (.inl rfl), ?_⟩
      rw [hst0]
      unfold bindU
      rw [if_pos hin]
    · simp (disch := omega) only [go_sem, ↓reduceIte, Nat.reduceEqDiff, Nat.reduceAdd, Nat.reduceLeDiff, hG, p1, p2, p3, p4, p5, a1, a2, a3, b1, b2, b3, hlX2, hlY2]; refine hK _ _ ?_; clear hK K hG G; repeat (first | refine thenI ?_ | refine thenE ?_ | refine thenR ?_ | refine inBI ?_ | refine inBR ?_ | refine inBS ?_ | refine inBN (by decide) ?_)
      repeat (first | ((first | refine W_reg rfl fun G K hG hK => ?_ | refine W_end rfl fun G K hG hK => ?_); simp (disch := omega) only [go_sem, ↓reduceIte, Nat.reduceEqDiff, Nat.reduceAdd, Nat.reduceLeDiff, hG, p1, p2, p3, p4, p5, a1, a2, a3, b1, b2, b3, hlX2, hlY2]; refine hK _ _ ?_; clear hK K hG G) | refine W_seqS ?_ | refine W_seqC ?_ | refine W_seqB ?_ | refine W_block ?_ | refine W_skip ?_ | (refine W_condT ?hc ?_; (case hc => (simp (disch := omega) only [go_sem, ↓reduceIte, Nat.reduceEqDiff, Nat.reduceAdd, Nat.reduceLeDiff, p1, p2, p3, p4, p5, a1, a2, a3, b1, b2, b3, hlX2, hlY2]; done))) | (refine W_condF ?hc ?_; (case hc => (simp (disch := omega) only [go_sem, ↓reduceIte, Nat.reduceEqDiff, Nat.reduceAdd, Nat.reduceLeDiff, p1, p2, p3, p4, p5, a1, a2, a3, b1, b2, b3, hlX2, hlY2]; done))) | refine thenI ?_ | refine thenE ?_ | refine thenR ?_ | refine inBI ?_ | refine inBR ?_ | refine inBS ?_ | refine inBN (by decide) ?_)
      refine W_ret ?_; try (repeat (first | refine thenI ?_ | refine thenE ?_ | refine thenR ?_ | refine inBI ?_ | refine inBR ?_ | refine inBS ?_ | refine inBN (by decide) ?_))
      refine fin1 (.inl rfl) (by (simp (disch := omega) only [go_sem, ↓reduceIte, Nat.reduceEqDiff, Nat.reduceAdd, Nat.reduceLeDiff, p1, p2, p3, p4, p5, a1, a2, a3, b1, b2, b3, hlX2, hlY2]); try rfl) rfl ⟨aw.trans aw2 (.inl rfl), ?_⟩
      rw [hst0]
      unfold bindU
      rw [if_neg hout]
      exact ⟨rfl, hz3⟩
  have d1 : (kx == 1) = false := by simpa using hk
  rw [if_neg hk] at hst0
  by_cases hk2 : ky = 1
  · have d2 : (ky == 1) = true := by simpa using hk2
    rw [if_pos hk2] at hst0
    repeat (first | ((first | refine W_reg rfl fun G K hG hK => ?_ | refine W_end rfl fun G K hG hK => ?_); simp (disch := omega) only [go_sem, ↓reduceIte, Nat.reduceEqDiff, Nat.reduceAdd, Nat.reduceLeDiff, hG, p1, p2, p3, p4, p5, a1, a2, a3, b1, b2, b3, hlX2, hlY2, d1, d2]; refine hK _ _ ?_; clear hK K hG G) | refine W_seqS ?_ | refine W_seqC ?_ | refine W_seqB ?_ | refine W_block ?_ | refine W_skip ?_ | (refine W_condT ?hc ?_; (case hc => (simp (disch := omega) only [go_sem, ↓reduceIte, Nat.reduceEqDiff, Nat.reduceAdd, Nat.reduceLeDiff, p1, p2, p3, p4, p5, a1, a2, a3, b1, b2, b3, hlX2, hlY2, d1, d2]; done))) | (refine W_condF ?hc ?_; (case hc => (simp (disch := omega) only [go_sem, ↓reduceIte, Nat.reduceEqDiff, Nat.reduceAdd, Nat.reduceLeDiff, p1, p2, p3, p4, p5, a1, a2, a3, b1, b2, b3, hlX2, hlY2, d1, d2]; done))) | refine thenI ?_ | refine thenE ?_ | refine thenR ?_ | refine inBI ?_ | refine inBR ?_ | refine inBS ?_ | refine inBN (by decide) ?_)
    (repeat (first | refine W_seqS ?_ | refine W_seqC ?_ | refine W_seqB ?_ | refine W_block ?_)); refine W_reg rfl fun G K hG hK => ?_; simp (disch := omega) only [go_sem, ↓reduceIte, Nat.reduceEqDiff, Nat.reduceAdd, Nat.reduceLeDiff, hG, p1, p2, p3, p4, p5, a1, a2, a3, b1, b2, b3, hlX2, hlY2]
    refine w_call (l8Bind_ok q my X sc _ bs rest hz2 hXb hlX (by omega) hbb hlb) (by simp (disch := omega) only [go_sem, ↓reduceIte, Nat.reduceEqDiff, p1, p2, p3, p4, p5, a1, a2, a3, b1, b2, b3, hlX2, hlY2]) ?hl ?_
    case hl => first | rfl | (simp only [go_sem, List.all_cons, List.all_nil, Bool.not_false, Bool.and_self, p1, p2, p3, p4, p5, a1, a2, a3, b1, b2, b3, hlX2, hlY2]; done)
    rintro r_ sd ⟨aw2, hcase⟩; refine ⟨fun e => (by cases e), ?_⟩
    rcases hcase with ⟨hin, rfl⟩ | ⟨hout, rfl, hz3⟩
    · simp (disch := omega) only [go_sem, ↓reduceIte, Nat.reduceEqDiff, Nat.reduceAdd, Nat.reduceLeDiff, hG, p1, p2, p3, p4, p5, a1, a2, a3, b1, b2, b3, hlX2, hlY2]; refine hK _ _ ?_; clear hK K hG G; repeat (first | refine thenI ?_ | refine thenE ?_ | refine thenR ?_ | refine inBI ?_ | refine inBR ?_ | refine inBS ?_ | refine inBN (by decide) ?_)
      repeat (first | ((first | refine W_reg rfl fun G K hG hK => ?_ | refine W_end rfl fun G K hG hK => ?_); simp (disch := omega) only [go_sem, ↓reduceIte, Nat.reduceEqDiff, Nat.reduceAdd, Nat.reduceLeDiff, hG, p1, p2, p3, p4, p5, a1, a2, a3, b1, b2, b3, hlX2, hlY2]; refine hK _ _ ?_; clear hK K hG G) | refine W_seqS ?_ | refine W_seqC ?_ | refine W_seqB ?_ | refine W_block ?_ | refine W_skip ?_ | (refine W_condT ?hc ?_; (case hc => (simp (disch := omega) only [go_sem, ↓reduceIte, Nat.reduceEqDiff, Nat.reduceAdd, Nat.reduceLeDiff, p1, p2, p3, p4, p5, a1, a2, a3, b1, b2, b3, hlX2, hlY2]; done))) | (refine W_condF ?hc ?_; (case hc => (simp (disch := omega) only [go_sem, ↓reduceIte, Nat.reduceEqDiff, Nat.reduceAdd, Nat.reduceLeDiff, p1, p2, p3, p4, p5, a1, a2, a3, b1, b2, b3, hlX2, hlY2]; done))) | refine thenI ?_ | refine thenE ?_ | refine thenR ?_ | refine inBI ?_ | refine inBR ?_ | refine inBS ?_ | refine inBN (by decide) ?_)
      refine W_ret ?_; try (repeat (first | refine thenI ?_ | refine thenE ?_ | refine thenR ?_ | refine inBI ?_ | refine inBR ?_ | refine inBS ?_ | refine inBN (by decide) ?_))
      refine fin1 (.inl rfl) (by (simp (disch := omega) only [go_sem, ↓reduceIte, Nat.reduceEqDiff, Nat.reduceAdd, Nat.reduceLeDiff, p1, p2, p3, p4, p5, a1, a2, a3, b1, b2, b3, hlX2, hlY2]); try rfl) rfl ⟨aw.trans aw2 (.inl rfl), ?_⟩
      rw [hst0]
      unfold bindU
      rw [if_pos hin]
    · simp (disch := omega) only [go_sem, ↓reduceIte, Nat.reduceEqDiff, Nat.reduceAdd, Nat.reduceLeDiff, hG, p1, p2, p3, p4, p5, a1, a2, a3, b1, b2, b3, hlX2, hlY2]; refine hK _ _ ?_; clear hK K hG G; repeat (first | refine thenI ?_ | refine thenE ?_ | refine thenR ?_ | refine inBI ?_ | refine inBR ?_ | refine inBS ?_ | refine inBN (by decide) ?_)
      repeat (first | ((first | refine W_reg rfl fun G K hG hK => ?_ | refine W_end rfl fun G K hG hK => ?_); simp (disch := omega) only [go_sem, ↓reduceIte, Nat.reduceEqDiff, Nat.reduceAdd, Nat.reduceLeDiff, hG, p1, p2, p3, p4, p5, a1, a2, a3, b1, b2, b3, hlX2, hlY2]; refine hK _ _ ?_; clear hK K hG G) | refine W_seqS ?_ | refine W_seqC ?_ | refine W_seqB ?_ | refine W_block ?_ | refine W_skip ?_ | (refine W_condT ?hc ?_; (case hc => (simp (disch := omega) only [go_sem, ↓reduceIte, Nat.reduceEqDiff, Nat.reduceAdd, Nat.reduceLeDiff, p1, p2, p3, p4, p5, a1, a2, a3, b1, b2, b3, hlX2, hlY2]; done))) | (refine W_condF ?hc ?_; (case hc => (simp (disch := omega) only [go_sem, ↓reduceIte, Nat.reduceEqDiff, Nat.reduceAdd, Nat.reduceLeDiff, p1, p2, p3, p4, p5, a1, a2, a3, b1, b2, b3, hlX2, hlY2]; done))) | refine thenI ?_ | refine thenE ?_ | refine thenR ?_ | refine inBI ?_ | refine inBR ?_ | refine inBS ?_ | refine inBN (by decide) ?_)
      refine W_ret ?_; try (repeat (first | refine thenI ?_ | refine thenE ?_ | refine thenR ?_ | refine inBI ?_ | refine inBR ?_ | refine inBS ?_ | refine inBN (by decide) ?_))
      refine fin1 (.inl rfl) (by (simp (disch := omega) only [go_sem, ↓reduceIte, Nat.reduceEqDiff, Nat.reduceAdd, Nat.reduceLeDiff, p1, p2, p3, p4, p5, a1, a2, a3, b1, b2, b3, hlX2, hlY2]); try rfl) rfl ⟨aw.trans aw2 (.inl rfl), ?_⟩
      rw [hst0]
      unfold bindU
      rw [if_neg hout]
      exact ⟨rfl, hz3⟩
  have d2 : (ky == 1) = false := by simpa using hk2
  rw [if_neg hk2] at hst0
  by_cases hall : kx = 2 ∧ ky = 2 ∧ mx = my ∧ xs.length = ys.length
  case neg =>
    rw [if_neg hall] at hst0
    by_cases h2 : kx = 2
    case neg =>
      have e2 : (kx != 2) = true := by simpa using h2
      repeat (first | ((first | refine W_reg rfl fun G K hG hK => ?_ | refine W_end rfl fun G K hG hK => ?_); simp (disch := omega) only [go_sem, ↓reduceIte, Nat.reduceEqDiff, Nat.reduceAdd, Nat.reduceLeDiff, hG, p1, p2, p3, p4, p5, a1, a2, a3, b1, b2, b3, hlX2, hlY2, d1, d2, e2]; refine hK _ _ ?_; clear hK K hG G) | refine W_seqS ?_ | refine W_seqC ?_ | refine W_seqB ?_ | refine W_block ?_ | refine W_skip ?_ | (refine W_condT ?hc ?_; (case hc => (simp (disch := omega) only [go_sem, ↓reduceIte, Nat.reduceEqDiff, Nat.reduceAdd, Nat.reduceLeDiff, p1, p2, p3, p4, p5, a1, a2, a3, b1, b2, b3, hlX2, hlY2, d1, d2, e2]; done))) | (refine W_condF ?hc ?_; (case hc => (simp (disch := omega) only [go_sem, ↓reduceIte, Nat.reduceEqDiff, Nat.reduceAdd, Nat.reduceLeDiff, p1, p2, p3, p4, p5, a1, a2, a3, b1, b2, b3, hlX2, hlY2, d1, d2, e2]; done))) | refine thenI ?_ | refine thenE ?_ | refine thenR ?_ | refine inBI ?_ | refine inBR ?_ | refine inBS ?_ | refine inBN (by decide) ?_)
      refine W_ret ?_; try (repeat (first | refine thenI ?_ | refine thenE ?_ | refine thenR ?_ | refine inBI ?_ | refine inBR ?_ | refine inBS ?_ | refine inBN (by decide) ?_))
      refine fin1 (.inl rfl) (by (simp (disch := omega) only [go_sem, ↓reduceIte, Nat.reduceEqDiff, Nat.reduceAdd, Nat.reduceLeDiff, p1, p2, p3, p4, p5, a1, a2, a3, b1, b2, b3, hlX2, hlY2]); try rfl) rfl ⟨aw, by rw [hst0]⟩
    have e2 : (kx != 2) = false := by simpa using h2
    by_cases h3 : ky = 2
    case neg =>
      have e3 : (ky != 2) = true := by simpa using h3
      repeat (first | ((first | refine W_reg rfl fun G K hG hK => ?_ | refine W_end rfl fun G K hG hK => ?_); simp (disch := omega) only [go_sem, ↓reduceIte, Nat.reduceEqDiff, Nat.reduceAdd, Nat.reduceLeDiff, hG, p1, p2, p3, p4, p5, a1, a2, a3, b1, b2, b3, hlX2, hlY2, d1, d2, e2, e3]; refine hK _ _ ?_; clear hK K hG G) | refine W_seqS ?_ | refine W_seqC ?_ | refine W_seqB ?_ | refine W_block ?_ | refine W_skip ?_ | (refine W_condT ?hc ?_; (case hc => (simp (disch := omega) only [go_sem, ↓reduceIte, Nat.reduceEqDiff, Nat.reduceAdd, Nat.reduceLeDiff, p1, p2, p3, p4, p5, a1, a2, a3, b1, b2, b3, hlX2, hlY2, d1, d2, e2, e3]; done))) | (refine W_condF ?hc ?_; (case hc => (simp (disch := omega) only [go_sem, ↓reduceIte, Nat.reduceEqDiff, Nat.reduceAdd, Nat.reduceLeDiff, p1, p2, p3, p4, p5, a1, a2, a3, b1, b2, b3, hlX2, hlY2, d1, d2, e2, e3]; done))) | refine thenI ?_ | refine thenE ?_ | refine thenR ?_ | refine inBI ?_ | refine inBR ?_ | refine inBS ?_ | refine inBN (by decide) ?_)
      refine W_ret ?_; try (repeat (first | refine thenI ?_ | refine thenE ?_ | refine thenR ?_ | refine inBI ?_ | refine inBR ?_ | refine inBS ?_ | refine inBN (by decide) ?_))
      refine fin1 (.inl rfl) (by (simp (disch := omega) only [go_sem, ↓reduceIte, Nat.reduceEqDiff, Nat.reduceAdd, Nat.reduceLeDiff, p1, p2, p3, p4, p5, a1, a2, a3, b1, b2, b3, hlX2, hlY2]); try rfl) rfl ⟨aw, by rw [hst0]⟩
    have e3 : (ky != 2) = false := by simpa using h3
    by_cases h4 : mx = my
    case neg =>
      have e4 : (mx.toList == my.toList) = false := by
        apply Bool.eq_false_iff.2
        intro e
        exact h4 (ba_toList e)
      repeat (first | ((first | refine W_reg rfl fun G K hG hK => ?_ | refine W_end rfl fun G K hG hK => ?_); simp (disch := omega) only [go_sem, ↓reduceIte, Nat.reduceEqDiff, Nat.reduceAdd, Nat.reduceLeDiff, hG, p1, p2, p3, p4, p5, a1, a2, a3, b1, b2, b3, hlX2, hlY2, d1, d2, e2, e3, e4]; refine hK _ _ ?_; clear hK K hG G) | refine W_seqS ?_ | refine W_seqC ?_ | refine W_seqB ?_ | refine W_block ?_ | refine W_skip ?_ | (refine W_condT ?hc ?_; (case hc => (simp (disch := omega) only [go_sem, ↓reduceIte, Nat.reduceEqDiff, Nat.reduceAdd, Nat.reduceLeDiff, p1, p2, p3, p4, p5, a1, a2, a3, b1, b2, b3, hlX2, hlY2, d1, d2, e2, e3, e4]; done))) | (refine W_condF ?hc ?_; (case hc => (simp (disch := omega) only [go_sem, ↓reduceIte, Nat.reduceEqDiff, Nat.reduceAdd, Nat.reduceLeDiff, p1, p2, p3, p4, p5, a1, a2, a3, b1, b2, b3, hlX2, hlY2, d1, d2, e2, e3, e4]; done))) | refine thenI ?_ | refine thenE ?_ | refine thenR ?_ | refine inBI ?_ | refine inBR ?_ | refine inBS ?_ | refine inBN (by decide) ?_)
      refine W_ret ?_; try (repeat (first | refine thenI ?_ | refine thenE ?_ | refine thenR ?_ | refine inBI ?_ | refine inBR ?_ | refine inBS ?_ | refine inBN (by decide) ?_))
      refine fin1 (.inl rfl) (by (simp (disch := omega) only [go_sem, ↓reduceIte, Nat.reduceEqDiff, Nat.reduceAdd, Nat.reduceLeDiff, p1, p2, p3, p4, p5, a1, a2, a3, b1, b2, b3, hlX2, hlY2]); try rfl) rfl ⟨aw, by rw [hst0]⟩
    have e4 : (mx.toList == my.toList) = true := by rw [h4]; exact beq_self_eq_true _
    have h5 : ¬ xs.length = ys.length := fun e => hall ⟨h2, h3, h4, e⟩
    have e5 : ((xs.length : Int) != (ys.length : Int)) = true := by simp; omega
    repeat (first | ((first | refine W_reg rfl fun G K hG hK => ?_ | refine W_end rfl fun G K hG hK => ?_); simp (disch := omega) only [go_sem, ↓reduceIte, Nat.reduceEqDiff, Nat.reduceAdd, Nat.reduceLeDiff, hG, p1, p2, p3, p4, p5, a1, a2, a3, b1, b2, b3, hlX2, hlY2, d1, d2, e2, e3, e4, e5]; refine hK _ _ ?_; clear hK K hG G) | refine W_seqS ?_ | refine W_seqC ?_ | refine W_seqB ?_ | refine W_block ?_ | refine W_skip ?_ | (refine W_condT ?hc ?_; (case hc => (simp (disch := omega) only [go_sem, ↓reduceIte, Nat.reduceEqDiff, Nat.reduceAdd, Nat.reduceLeDiff, p1, p2, p3, p4, p5, a1, a2, a3, b1, b2, b3, hlX2, hlY2, d1, d2, e2, e3, e4, e5]; done))) | (refine W_condF ?hc ?_; (case hc => (simp (disch := omega) only [go_sem, ↓reduceIte, Nat.reduceEqDiff, Nat.reduceAdd, Nat.reduceLeDiff, p1, p2, p3, p4, p5, a1, a2, a3, b1, b2, b3, hlX2, hlY2, d1, d2, e2, e3, e4, e5]; done))) | refine thenI ?_ | refine thenE ?_ | refine thenR ?_ | refine inBI ?_ | refine inBR ?_ | refine inBS ?_ | refine inBN (by decide) ?_)
    refine W_ret ?_; try (repeat (first | refine thenI ?_ | refine thenE ?_ | refine thenR ?_ | refine inBI ?_ | refine inBR ?_ | refine inBS ?_ | refine inBN (by decide) ?_))
    refine fin1 (.inl rfl) (by (simp (disch := omega) only [go_sem, ↓reduceIte, Nat.reduceEqDiff, Nat.reduceAdd, Nat.reduceLeDiff, p1, p2, p3, p4, p5, a1, a2, a3, b1, b2, b3, hlX2, hlY2]); try rfl) rfl ⟨aw, by rw [hst0]⟩
  rw [if_pos hall] at hst0
  obtain ⟨h2, h3, h4, h5⟩ := hall
  have e2 : (kx != 2) = false := by simpa using h2
  have e3 : (ky != 2) = false := by simpa using h3
  have e4 : (mx.toList == my.toList) = true := by rw [h4]; exact beq_self_eq_true _
  have e5 : ((xs.length : Int) != (ys.length : Int)) = false := by simp; omega
  repeat (first | ((first | refine W_reg rfl fun G K hG hK => ?_ | refine W_end rfl fun G K hG hK => ?_); simp (disch := omega) only [go_sem, ↓reduceIte, Nat.reduceEqDiff, Nat.reduceAdd, Nat.reduceLeDiff, hG, p1, p2, p3, p4, p5, a1, a2, a3, b1, b2, b3, hlX2, hlY2, d1, d2, e2, e3, e4, e5]; refine hK _ _ ?_; clear hK K hG G) | refine W_seqS ?_ | refine W_seqC ?_ | refine W_seqB ?_ | refine W_block ?_ | refine W_skip ?_ | (refine W_condT ?hc ?_; (case hc => (simp (disch := omega) only [go_sem, ↓reduceIte, Nat.reduceEqDiff, Nat.reduceAdd, Nat.reduceLeDiff, p1, p2, p3, p4, p5, a1, a2, a3, b1, b2, b3, hlX2, hlY2, d1, d2, e2, e3, e4, e5]; done))) | (refine W_condF ?hc ?_; (case hc => (simp (disch := omega) only [go_sem, ↓reduceIte, Nat.reduceEqDiff, Nat.reduceAdd, Nat.reduceLeDiff, p1, p2, p3, p4, p5, a1, a2, a3, b1, b2, b3, hlX2, hlY2, d1, d2, e2, e3, e4, e5]; done))) | refine thenI ?_ | refine thenE ?_ | refine thenR ?_ | refine inBI ?_ | refine inBR ?_ | refine inBS ?_ | refine inBN (by decide) ?_)
  have hrX1 : Row (Enc (bl q sc)) 4 sc xs zx := Row.ci hrX ci_bl fun _ _ _ h => h
  have hwl1 : Row (Enc (bl q sc)) 4 sc (rest.map Prod.fst) v1 := Row.ci hw1' ci_bl fun _ _ _ h => h
  obtain ⟨t1, st1, t2, st2, L5, hap1, hap2, x5, x6, k5, hs5, hf5⟩ := catT hrX1 hwl1 (by rw [List.length_map]; omega)
  have g0 := z_cell0 hqsc
  have hq5 := x5 _ _ hqsc
  have g1 := z_cell0 hq5
  have hq6 := x6 _ _ hqsc
  have g2 := z_set0 hq6 hs5.okv hs5.cells
  have k6 := hs5.loc
  refine W_seq ?_
  refine W_to (fun fr st' => (st' = st2.set q ⟨[t2, v2, vs], 41, 0⟩) ∧ (fr.env 0 = .pointer (some ⟨q, 0, none⟩)) ∧ (fr.env 3 = .pointer (some ⟨3, 0, some 1⟩)) ∧ (fr.env 4 = .pointer (some ⟨4, 0, some 1⟩)) ∧ (fr.loc 3 = (1, [.int .i64 kx, .int .i64 nx, .string mx, zx])) ∧ (fr.loc 4 = (1, [.int .i64 ky, .int .i64 ny, .string my, zy]))) ?_ ?_
  · refine W_endL mixed [3] [] [1, 4, 6, 7, 8] [[(0, false), (2, false), (3, false), (5, false), (1, false), (4, false), (6, false), (7, false), (8, false), (9, false), (10, false), (11, false), (12, false)], [(0, false), (2, false), (3, false), (5, false), (6, false), (1, false), (4, false), (7, false), (8, false), (9, false), (10, false), (11, false), (12, false)], [(0, false), (2, false), (3, false), (5, false), (6, false), (7, false), (1, false), (4, false), (8, false), (9, false), (10, false), (11, false), (12, false)], [(0, false), (2, false), (3, false), (5, false), (6, false), (7, false), (8, false), (1, false), (4, false), (9, false), (10, false), (11, false), (12, false)]] rfl (by decide +kernel) (by intro t ht; simp only [List.mem_cons, List.not_mem_nil, or_false] at ht; (rcases ht with rfl) <;> (first | rfl | (simp only [p1, p2, p3, p4, p5, a1, a2, a3, b1, b2, b3, hlX2, hlY2]; done) | (simp only [p1, p2, p3, p4, p5, a1, a2, a3, b1, b2, b3, hlX2, hlY2]; rfl))) fun G K hG hK => (fm_cons ?_ (fm_cons ?_ (fm_cons ?_ (fm_cons ?_ fm_nil))))
    · simp only [pickOps, List.filterMap_cons, List.filterMap_nil, List.getElem?_cons_zero, List.getElem?_cons_succ, Option.map_some]; simp (disch := omega) only [go_sem, ↓reduceIte, Nat.reduceEqDiff, Nat.reduceAdd, Nat.reduceLeDiff, hG, p1, p2, p3, p4, p5, a1, a2, a3, b1, b2, b3, hlX2, hlY2, nc_h, okPtr_h, cellAt_h, w_append, hap1, hap2, g0, g1, g2, k5, k6, y1]
      refine hK _ _ ?_; clear hK K hG G; repeat (first | refine thenI ?_ | refine thenE ?_ | refine thenR ?_ | refine inBI ?_ | refine inBR ?_ | refine inBS ?_ | refine inBN (by decide) ?_)
      exact ⟨rfl, (by (simp (disch := omega) only [go_sem, ↓reduceIte, Nat.reduceEqDiff, Nat.reduceAdd, Nat.reduceLeDiff, p1, p2, p3, p4, p5, a1, a2, a3, b1, b2, b3, hlX2, hlY2]); try rfl), (by (simp (disch := omega) only [go_sem, ↓reduceIte, Nat.reduceEqDiff, Nat.reduceAdd, Nat.reduceLeDiff, p1, p2, p3, p4, p5, a1, a2, a3, b1, b2, b3, hlX2, hlY2]); try rfl), (by (simp (disch := omega) only [go_sem, ↓reduceIte, Nat.reduceEqDiff, Nat.reduceAdd, Nat.reduceLeDiff, p1, p2, p3, p4, p5, a1, a2, a3, b1, b2, b3, hlX2, hlY2]); try rfl), (by (simp (disch := omega) only [go_sem, ↓reduceIte, Nat.reduceEqDiff, Nat.reduceAdd, Nat.reduceLeDiff, p1, p2, p3, p4, p5, a1, a2, a3, b1, b2, b3, hlX2, hlY2]); try rfl), (by (simp (disch := omega) only [go_sem, ↓reduceIte, Nat.reduceEqDiff, Nat.reduceAdd, Nat.reduceLeDiff, p1, p2, p3, p4, p5, a1, a2, a3, b1, b2, b3, hlX2, hlY2]); try rfl)⟩
    · simp only [pickOps, List.filterMap_cons, List.filterMap_nil, List.getElem?_cons_zero, List.getElem?_cons_succ, Option.map_some]; simp (disch := omega) only [go_sem, ↓reduceIte, Nat.reduceEqDiff, Nat.reduceAdd, Nat.reduceLeDiff, hG, p1, p2, p3, p4, p5, a1, a2, a3, b1, b2, b3, hlX2, hlY2, nc_h, okPtr_h, cellAt_h, w_append, hap1, hap2, g0, g1, g2, k5, k6, y1]
      refine hK _ _ ?_; clear hK K hG G; repeat (first | refine thenI ?_ | refine thenE ?_ | refine thenR ?_ | refine inBI ?_ | refine inBR ?_ | refine inBS ?_ | refine inBN (by decide) ?_)
      exact ⟨rfl, (by (simp (disch := omega) only [go_sem, ↓reduceIte, Nat.reduceEqDiff, Nat.reduceAdd, Nat.reduceLeDiff, p1, p2, p3, p4, p5, a1, a2, a3, b1, b2, b3, hlX2, hlY2]); try rfl), (by (simp (disch := omega) only [go_sem, ↓reduceIte, Nat.reduceEqDiff, Nat.reduceAdd, Nat.reduceLeDiff, p1, p2, p3, p4, p5, a1, a2, a3, b1, b2, b3, hlX2, hlY2]); try rfl), (by (simp (disch := omega) only [go_sem, ↓reduceIte, Nat.reduceEqDiff, Nat.reduceAdd, Nat.reduceLeDiff, p1, p2, p3, p4, p5, a1, a2, a3, b1, b2, b3, hlX2, hlY2]); try rfl), (by (simp (disch := omega) only [go_sem, ↓reduceIte, Nat.reduceEqDiff, Nat.reduceAdd, Nat.reduceLeDiff, p1, p2, p3, p4, p5, a1, a2, a3, b1, b2, b3, hlX2, hlY2]); try rfl), (by (simp (disch := omega) only [go_sem, ↓reduceIte, Nat.reduceEqDiff, Nat.reduceAdd, Nat.reduceLeDiff, p1, p2, p3, p4, p5, a1, a2, a3, b1, b2, b3, hlX2, hlY2]); try rfl)⟩
    · simp only [pickOps, List.filterMap_cons, List.filterMap_nil, List.getElem?_cons_zero, List.getElem?_cons_succ, Option.map_some]; simp (disch := omega) only [go_sem, ↓reduceIte, Nat.reduceEqDiff, Nat.reduceAdd, Nat.reduceLeDiff, hG, p1, p2, p3, p4, p5, a1, a2, a3, b1, b2, b3, hlX2, hlY2, nc_h, okPtr_h, cellAt_h, w_append, hap1, hap2, g0, g1, g2, k5, k6, y1]
      refine hK _ _ ?_; clear hK K hG G; repeat (first | refine thenI ?_ | refine thenE ?_ | refine thenR ?_ | refine inBI ?_ | refine inBR ?_ | refine inBS ?_ | refine inBN (by decide) ?_)
      exact ⟨rfl, (by (simp (disch := omega) only [go_sem, ↓reduceIte, Nat.reduceEqDiff, Nat.reduceAdd, Nat.reduceLeDiff, p1, p2, p3, p4, p5, a1, a2, a3, b1, b2, b3, hlX2, hlY2]); try rfl), (by (simp (disch := omega) only [go_sem, ↓reduceIte, Nat.reduceEqDiff, Nat.reduceAdd, Nat.reduceLeDiff, p1, p2, p3, p4, p5, a1, a2, a3, b1, b2, b3, hlX2, hlY2]); try rfl), (by (simp (disch := omega) only [go_sem, ↓reduceIte, Nat.reduceEqDiff, Nat.reduceAdd, Nat.reduceLeDiff, p1, p2, p3, p4, p5, a1, a2, a3, b1, b2, b3, hlX2, hlY2]); try rfl), (by (simp (disch := omega) only [go_sem, ↓reduceIte, Nat.reduceEqDiff, Nat.reduceAdd, Nat.reduceLeDiff, p1, p2, p3, p4, p5, a1, a2, a3, b1, b2, b3, hlX2, hlY2]); try rfl), (by (simp (disch := omega) only [go_sem, ↓reduceIte, Nat.reduceEqDiff, Nat.reduceAdd, Nat.reduceLeDiff, p1, p2, p3, p4, p5, a1, a2, a3, b1, b2, b3, hlX2, hlY2]); try rfl)⟩
    · simp only [pickOps, List.filterMap_cons, List.filterMap_nil, List.getElem?_cons_zero, List.getElem?_cons_succ, Option.map_some]; simp (disch := omega) only [go_sem, ↓reduceIte, Nat.reduceEqDiff, Nat.reduceAdd, Nat.reduceLeDiff, hG, p1, p2, p3, p4, p5, a1, a2, a3, b1, b2, b3, hlX2, hlY2, nc_h, okPtr_h, cellAt_h, w_append, hap1, hap2, g0, g1, g2, k5, k6, y1]
      refine hK _ _ ?_; clear hK K hG G; repeat (first | refine thenI ?_ | refine thenE ?_ | refine thenR ?_ | refine inBI ?_ | refine inBR ?_ | refine inBS ?_ | refine inBN (by decide) ?_)
      exact ⟨rfl, (by (simp (disch := omega) only [go_sem, ↓reduceIte, Nat.reduceEqDiff, Nat.reduceAdd, Nat.reduceLeDiff, p1, p2, p3, p4, p5, a1, a2, a3, b1, b2, b3, hlX2, hlY2]); try rfl), (by (simp (disch := omega) only [go_sem, ↓reduceIte, Nat.reduceEqDiff, Nat.reduceAdd, Nat.reduceLeDiff, p1, p2, p3, p4, p5, a1, a2, a3, b1, b2, b3, hlX2, hlY2]); try rfl), (by (simp (disch := omega) only [go_sem, ↓reduceIte, Nat.reduceEqDiff, Nat.reduceAdd, Nat.reduceLeDiff, p1, p2, p3, p4, p5, a1, a2, a3, b1, b2, b3, hlX2, hlY2]); try rfl), (by (simp (disch := omega) only [go_sem, ↓reduceIte, Nat.reduceEqDiff, Nat.reduceAdd, Nat.reduceLeDiff, p1, p2, p3, p4, p5, a1, a2, a3, b1, b2, b3, hlX2, hlY2]); try rfl), (by (simp (disch := omega) only [go_sem, ↓reduceIte, Nat.reduceEqDiff, Nat.reduceAdd, Nat.reduceLeDiff, p1, p2, p3, p4, p5, a1, a2, a3, b1, b2, b3, hlX2, hlY2]); try rfl)⟩
  rintro ⟨env, loc⟩ st' ⟨hst, e0, e3, e4, l3, l4⟩
  simp only at e0 e3 e4 l3 l4
  obtain ⟨sd, rfl⟩ : ∃ sd, sd = st' := ⟨_, rfl⟩
  have hq7 := set_at (b' := ⟨[t2, v2, vs], 41, 0⟩) hq6
  have aw3 : Away (some q) sc (st2.set q ⟨[t2, v2, vs], 41, 0⟩) := (Away.of_ext (k := some q) x6).trans set_away (.inl rfl)
  have hbl2 : bl q (st2.set q ⟨[t2, v2, vs], 41, 0⟩) = bl q st2 := bl_set
  rw [← hst] at hq7 aw3 hbl2
  clear hst
  have hrY1 : Row (Enc (bl q sc)) 4 sd ys zy := Row.ci (Row.mono hrY (bl_away aw3) fun _ _ _ h => h) ci_bl fun _ _ _ h => h
  have hwr1 : Row (Enc (bl q sc)) 4 sd (rest.map Prod.snd) v2 := Row.ci (Row.mono hw2' (bl_away aw3) fun _ _ _ h => h) ci_bl fun _ _ _ h => h
  obtain ⟨t3, st3, t4, st4, L6, hap3, hap4, x7, x8, k7, hs6, hf6⟩ := catT hrY1 hwr1 (by rw [List.length_map]; omega)
  have g3 := z_cell1 hq7
  have hq8 := x7 _ _ hq7
  have g4 := z_cell1 hq8
  have hq9 := x8 _ _ hq7
  have g5 := z_set1 hq9 hs6.okv hs6.cells
  have k8 := hs6.loc
  refine W_seq ?_
  refine W_to (fun fr st' => (st' = st4.set q ⟨[t2, t4, vs], 41, 0⟩) ∧ (fr.env 0 = .pointer (some ⟨q, 0, none⟩))) ?_ ?_
  · refine W_endL mixed [4] [] [1, 4, 6, 7, 8] [[(0, false), (2, false), (3, false), (5, false), (1, false), (4, false), (6, false), (7, false), (8, false), (9, false), (10, false), (11, false), (12, false)], [(0, false), (2, false), (3, false), (5, false), (6, false), (1, false), (4, false), (7, false), (8, false), (9, false), (10, false), (11, false), (12, false)], [(0, false), (2, false), (3, false), (5, false), (6, false), (7, false), (1, false), (4, false), (8, false), (9, false), (10, false), (11, false), (12, false)], [(0, false), (2, false), (3, false), (5, false), (6, false), (7, false), (8, false), (1, false), (4, false), (9, false), (10, false), (11, false), (12, false)]] rfl (by decide +kernel) (by intro t ht; simp only [List.mem_cons, List.not_mem_nil, or_false] at ht; (rcases ht with rfl) <;> (first | rfl | (simp only [p1, p2, p3, p4, p5, a1, a2, a3, b1, b2, b3, hlX2, hlY2, e0, e3, e4, l3, l4]; done) | (simp only [p1, p2, p3, p4, p5, a1, a2, a3, b1, b2, b3, hlX2, hlY2, e0, e3, e4, l3, l4]; rfl))) fun G K hG hK => (fm_cons ?_ (fm_cons ?_ (fm_cons ?_ (fm_cons ?_ fm_nil))))
    · simp only [pickOps, List.filterMap_cons, List.filterMap_nil, List.getElem?_cons_zero, List.getElem?_cons_succ, Option.map_some]; simp (disch := omega) only [go_sem, ↓reduceIte, Nat.reduceEqDiff, Nat.reduceAdd, Nat.reduceLeDiff, hG, p1, p2, p3, p4, p5, a1, a2, a3, b1, b2, b3, hlX2, hlY2, e0, e3, e4, l3, l4, nc_h, okPtr_h, cellAt_h, w_append, hap3, hap4, g3, g4, g5, k7, k8, y2]
      refine hK _ _ ?_; clear hK K hG G; repeat (first | refine thenI ?_ | refine thenE ?_ | refine thenR ?_ | refine inBI ?_ | refine inBR ?_ | refine inBS ?_ | refine inBN (by decide) ?_)
      exact ⟨rfl, (by (simp (disch := omega) only [go_sem, ↓reduceIte, Nat.reduceEqDiff, Nat.reduceAdd, Nat.reduceLeDiff, p1, p2, p3, p4, p5, a1, a2, a3, b1, b2, b3, hlX2, hlY2, e0, e3, e4, l3, l4]); try rfl)⟩
    · simp only [pickOps, List.filterMap_cons, List.filterMap_nil, List.getElem?_cons_zero, List.getElem?_cons_succ, Option.map_some]; simp (disch := omega) only [go_sem, ↓reduceIte, Nat.reduceEqDiff, Nat.reduceAdd, Nat.reduceLeDiff, hG, p1, p2, p3, p4, p5, a1, a2, a3, b1, b2, b3, hlX2, hlY2, e0, e3, e4, l3, l4, nc_h, okPtr_h, cellAt_h, w_append, hap3, hap4, g3, g4, g5, k7, k8, y2]
      refine hK _ _ ?_; clear hK K hG G; repeat (first | refine thenI ?_ | refine thenE ?_ | refine thenR ?_ | refine inBI ?_ | refine inBR ?_ | refine inBS ?_ | refine inBN (by decide) ?_)
      exact ⟨rfl, (by (simp (disch := omega) only [go_sem, ↓reduceIte, Nat.reduceEqDiff, Nat.reduceAdd, Nat.reduceLeDiff, p1, p2, p3, p4, p5, a1, a2, a3, b1, b2, b3, hlX2, hlY2, e0, e3, e4, l3, l4]); try rfl)⟩
    · simp only [pickOps, List.filterMap_cons, List.filterMap_nil, List.getElem?_cons_zero, List.getElem?_cons_succ, Option.map_some]; simp (disch := omega) only [go_sem, ↓reduceIte, Nat.reduceEqDiff, Nat.reduceAdd, Nat.reduceLeDiff, hG, p1, p2, p3, p4, p5, a1, a2, a3, b1, b2, b3, hlX2, hlY2, e0, e3, e4, l3, l4, nc_h, okPtr_h, cellAt_h, w_append, hap3, hap4, g3, g4, g5, k7, k8, y2]
      refine hK _ _ ?_; clear hK K hG G; repeat (first | refine thenI ?_ | refine thenE ?_ | refine thenR ?_ | refine inBI ?_ | refine inBR ?_ | refine inBS ?_ | refine inBN (by decide) ?_)
      exact ⟨rfl, (by (simp (disch := omega) only [go_sem, ↓reduceIte, Nat.reduceEqDiff, Nat.reduceAdd, Nat.reduceLeDiff, p1, p2, p3, p4, p5, a1, a2, a3, b1, b2, b3, hlX2, hlY2, e0, e3, e4, l3, l4]); try rfl)⟩
    · simp only [pickOps, List.filterMap_cons, List.filterMap_nil, List.getElem?_cons_zero, List.getElem?_cons_succ, Option.map_some]; simp (disch := omega) only [go_sem, ↓reduceIte, Nat.reduceEqDiff, Nat.reduceAdd, Nat.reduceLeDiff, hG, p1, p2, p3, p4, p5, a1, a2, a3, b1, b2, b3, hlX2, hlY2, e0, e3, e4, l3, l4, nc_h, okPtr_h, cellAt_h, w_append, hap3, hap4, g3, g4, g5, k7, k8, y2]
      refine hK _ _ ?_; clear hK K hG G; repeat (first | refine thenI ?_ | refine thenE ?_ | refine thenR ?_ | refine inBI ?_ | refine inBR ?_ | refine inBS ?_ | refine inBN (by decide) ?_)
      exact ⟨rfl, (by (simp (disch := omega) only [go_sem, ↓reduceIte, Nat.reduceEqDiff, Nat.reduceAdd, Nat.reduceLeDiff, p1, p2, p3, p4, p5, a1, a2, a3, b1, b2, b3, hlX2, hlY2, e0, e3, e4, l3, l4]); try rfl)⟩
  clear e0 e3 e4 l3 l4
  rintro ⟨env, loc⟩ st' ⟨hst, e0⟩
  simp only at e0
  have hqe := set_at (b' := ⟨[t2, t4, vs], 41, 0⟩) hq9
  have aw4 : Away (some q) sd (st4.set q ⟨[t2, t4, vs], 41, 0⟩) := (Away.of_ext (k := some q) x8).trans set_away (.inl rfl)
  have hbl4 : bl q (st4.set q ⟨[t2, t4, vs], 41, 0⟩) = bl q st4 := bl_set
  rw [← hst] at hqe aw4 hbl4
  clear hst
  repeat (first | ((first | refine W_reg rfl fun G K hG hK => ?_ | refine W_end rfl fun G K hG hK => ?_); simp (disch := omega) only [go_sem, ↓reduceIte, Nat.reduceEqDiff, Nat.reduceAdd, Nat.reduceLeDiff, hG, p1, p2, p3, p4, p5, a1, a2, a3, b1, b2, b3, hlX2, hlY2, e0]; refine hK _ _ ?_; clear hK K hG G) | refine W_seqS ?_ | refine W_seqC ?_ | refine W_seqB ?_ | refine W_block ?_ | refine W_skip ?_ | (refine W_condT ?hc ?_; (case hc => (simp (disch := omega) only [go_sem, ↓reduceIte, Nat.reduceEqDiff, Nat.reduceAdd, Nat.reduceLeDiff, p1, p2, p3, p4, p5, a1, a2, a3, b1, b2, b3, hlX2, hlY2, e0]; done))) | (refine W_condF ?hc ?_; (case hc => (simp (disch := omega) only [go_sem, ↓reduceIte, Nat.reduceEqDiff, Nat.reduceAdd, Nat.reduceLeDiff, p1, p2, p3, p4, p5, a1, a2, a3, b1, b2, b3, hlX2, hlY2, e0]; done))) | refine thenI ?_ | refine thenE ?_ | refine thenR ?_ | refine inBI ?_ | refine inBR ?_ | refine inBS ?_ | refine inBN (by decide) ?_)
  have aw5 := aw3.trans aw4 (.inl rfl)
  refine W_ret ?_; try (repeat (first | refine thenI ?_ | refine thenE ?_ | refine thenR ?_ | refine inBI ?_ | refine inBR ?_ | refine inBS ?_ | refine inBN (by decide) ?_))
  refine fin1 (.inl rfl) (by (simp (disch := omega) only [go_sem, ↓reduceIte, Nat.reduceEqDiff, Nat.reduceAdd, Nat.reduceLeDiff, p1, p2, p3, p4, p5, a1, a2, a3, b1, b2, b3, hlX2, hlY2, e0]); try rfl) rfl ⟨aw.trans aw5 (.inl rfl), ?_⟩
  rw [hst0]
  refine ⟨rfl, t2, t4, vs, hqe, ?_, ?_, hrs'.ext (bl_away aw5)⟩
  · have h1 := hs5.rowBl hf5 (q := q) (by omega)
    rw [← hbl2] at h1
    rw [List.map_append, List.map_fst_zip (by omega)]
    exact h1.mono (bl_away aw4) fun _ _ _ he => Enc.ext (bl_away aw5) _ _ he
  · have h1 := hs6.rowBl hf6 (q := q) (by have := aw3.1; omega)
    rw [← hbl4] at h1
    rw [List.map_append, List.map_snd_zip (by omega)]
    exact h1.mono (Ext.refl _) fun _ _ _ he => Enc.ext (bl_away aw5) _ _ he

end

end Go.Proofs.Ytoeibmfdafilcaa.AM
/- Regions that draw their order: reads of one block change places with appends of another kind. -/
namespace Go.Proofs.Ytoeibmfdafilcaa.AM
open Go
set_option linter.unusedVariables false
set_option linter.unusedSimpArgs false

/-- Every call of the order is flagged. -/
def flB (l : List Oper) (π : List (Nat × Bool)) : Bool := π.all fun p => match l[p.1]? with
  | some o => (callOf o.op).isNone || p.2
  | none => true
theorem flB_spec {l : List Oper} {π : List (Nat × Bool)} (h : flB l π = true) {p : Nat × Bool} (hp : p ∈ π) {o : Oper} (ho : l[p.1]? = some o) : callOf o.op = none ∨ p.2 = true := by
  have := List.all_eq_true.1 h p hp
  rw [ho] at this
  simpa using this
section
variable {P : Program} {A H : List Tmp} {G : Nat → Option Tmp}
theorem wpAny_soundQ {I : Fr → St → Prop} {SP : List (Nat × Nat)} {n : Nat} {B : Base} {l : List Oper} {E : List Nat} (hKeep : ∀ o ∈ l, ∀ x, (callOf o.op = none ∨ x = true) → Keeps P A H G I (o, x)) (hSP : ∀ p q a x, (p, q) ∈ SP → l[p]? = some a → l[q]? = some x → ∀ fp fq, SwI P A H G I (a, fp) (x, fq)) (ctab : tabOk l (ancT l) = true) (ccall : ∀ i o, l[i]? = some o → i ∉ E → callOf o.op = none) (hd : ∀ o ∈ l, ∀ t, o.dst = some t → t < n)
    (hG : ∀ j, G j = (l.toArray[j]?).bind (·.dst)) {K : Fr → St → Prop} {Q : Exit → Act → World → Prop}
    (hQ : ∀ fr' st' M' L' a' w', K fr' st' → Rel P B M' L' n fr' st' a' w' → Q .normal a' w') :
    ∀ (fuel k : Nat) (act : List (List (Nat × Bool))) (done : List Nat) (listed : Array Bool) (fr : Fr) (st : St) (M : List ME) (L : Nat → Nat) (a : Act) (w : World), (∀ π ∈ act, chk1 l π = true ∧ inEL SP A H l E π = true) → (∀ π ∈ act, flB l π = true) → gameL SP A H l E k act done = true → (∀ e ∈ E, e ∈ done ↔ listed.getD e false = true) →
      listed.size = l.length → (∀ π ∈ act, (rem π listed).length = fuel) → (∀ i, i < l.length → listed.getD i false = true → ∀ d ∈ deps l i, listed.getD d false = true) →
      Rel P B M L n fr st a w → I fr st → (∀ π ∈ act, WOps P A H G (pickOps l (rem π listed)) K fr st) → wpAny P .any l.toArray Q fuel listed a w := by
  intro fuel
  induction fuel with
  | zero =>
    intro k act done listed fr st M L a w hchk hfl hgame hdone hsz hlen hcl R hI h
    obtain ⟨π, hπ⟩ : ∃ π, π ∈ act := by
      cases act with
      | nil => cases k <;> simp [gameL] at hgame
      | cons π _ => exact ⟨π, by simp⟩
    have hc := (hchk π hπ).1
    unfold chk1 at hc
    simp only [Bool.and_eq_true] at hc
    obtain ⟨⟨⟨c1, c2⟩, c3⟩, c5⟩ := hc
    have cover : ∀ i, i < l.length → ∃ p ∈ π, p.1 = i := by
      intro i hi
      have := List.all_eq_true.1 c2 i (by simpa using hi)
      simpa using this
    have hrem : rem π listed = [] := List.eq_nil_of_length_eq_zero (hlen π hπ)
    refine ⟨?_, ?_⟩
    · apply List.eq_nil_iff_forall_not_mem.2
      intro i hi
      obtain ⟨h1, h2, h3⟩ := mem_ready.1 hi
      obtain ⟨p, hp, rfl⟩ := cover i h1
      have : p ∈ rem π listed := mem_rem.2 ⟨hp, h2⟩
      rw [hrem] at this
      cases this
    · have := h π hπ
      rw [hrem] at this
      exact hQ _ _ _ _ _ _ this R
  | succ fuel ih =>
    intro k act done listed fr st M L a w hchk hfl hgame hdone hsz hlen hcl R hI h
    refine ⟨fun hr => ?_, fun i hi => ?_⟩
    · -- something is ready
      exfalso
      obtain ⟨π, hπ⟩ : ∃ π, π ∈ act := by
        cases act with
        | nil => cases k <;> simp [gameL] at hgame
        | cons π _ => exact ⟨π, by simp⟩
      have hc := (hchk π hπ).1
      unfold chk1 at hc
      simp only [Bool.and_eq_true] at hc
      obtain ⟨⟨⟨c1, c2⟩, c3⟩, c5⟩ := hc
      have inl : ∀ p ∈ π, p.1 < l.length := fun p hp => by have := List.all_eq_true.1 c3 p hp; simpa using this
      have hlen := hlen π hπ
      have hex := rem_split (π := π) (listed := listed) (by intro e; rw [e] at hlen; cases hlen)
      obtain ⟨X, q, Y, e, h1, h2⟩ := hex
      have hq : q.1 < l.length := inl q (by rw [e]; simp)
      have : q.1 ∈ Region.ready .any l.toArray listed := by
        refine mem_ready.2 ⟨hq, h2, fun d hd => ?_⟩
        rcases topoOk_spec c5 X q Y e d hd with hd | ⟨p, hp, rfl⟩
        · cases hd
        · have h3 := h1 p hp
          have hp' : p.1 < listed.size := by rw [hsz]; exact inl p (by rw [e]; simp [hp])
          rw [getD_lt hp' false true]; exact h3
      rw [hr] at this
      cases this
    · obtain ⟨h1, h2, h3⟩ := mem_ready.1 hi
      obtain ⟨o, ho⟩ : ∃ o, l[i]? = some o := ⟨_, List.getElem?_eq_getElem h1⟩
      have hq' : i < listed.size := by rw [hsz]; exact h1
      -- the orders that go on, and the gameL that goes on
      obtain ⟨k', act', done', hact, hgame', hone, hdone', hkeep⟩ : ∃ k' act' done', (∀ π ∈ act', π ∈ act) ∧ gameL SP A H l E k' act' done' = true ∧ (callOf o.op = none ∨ ∃ π, act' = [π]) ∧ (∀ e ∈ E, e ∈ done' ↔ (e = i ∨ listed.getD e false = true)) ∧ ∀ π ∈ act', ∀ p, (p, i) ∈ exmL SP A H l (ancT l) π → listed.getD p false = true := by
        by_cases hE : i ∈ E
        · have hnd : i ∉ done := fun hh => by
            have := (hdone i hE).1 hh
            rw [getD_lt hq' false true] at this
            rw [h2] at this; cases this
          cases k with
          | zero =>
            exfalso
            simp only [gameL, Bool.and_eq_true] at hgame
            have := List.all_eq_true.1 hgame.2 i hE
            exact hnd (by simpa using this)
          | succ k =>
            simp only [gameL, Bool.and_eq_true] at hgame
            have h4 := List.all_eq_true.1 hgame.2 i hE
            simp only [Bool.or_eq_true, Bool.not_eq_true'] at h4
            have h5 : gameL SP A H l E k (goOn l i (act.filter (keepOL SP A H l done i))) (i :: done) = true := by
              rcases h4 with (h4 | h4) | h4
              · exact absurd (by simpa using h4) hnd
              · exfalso
                have h6 : (((ancT l).getD i []).filter E.contains).all (done.contains ·) = true := by
                  refine List.all_eq_true.2 fun d hdm => ?_
                  obtain ⟨hd1, hd2⟩ := List.mem_filter.1 hdm
                  have hl2 := tab_closed ctab (fun j => listed.getD j false = true) hcl i h1 h3 d hd1
                  have := (hdone d (by simpa using hd2)).2 hl2
                  simpa using this
                rw [h6] at h4
                cases h4
              · exact h4
            refine ⟨k, _, _, fun π hπ => (List.mem_filter.1 (goOn_sub π hπ)).1, h5, ?_, fun e he => ?_, fun π hπ p hp => ?_⟩
            · cases hcl2 : callOf o.op with
              | none => exact .inl rfl
              | some c =>
                refine .inr ?_
                have hgo : goOn l i (act.filter (keepOL SP A H l done i)) = (act.filter (keepOL SP A H l done i)).take 1 := by unfold goOn; rw [ho]; simp [hcl2]
                rw [hgo]
                rw [hgo] at h5
                cases hf : act.filter (keepOL SP A H l done i) with
                | nil => rw [hf] at h5; cases k <;> simp [gameL] at h5
                | cons π _ => exact ⟨π, rfl⟩
            · rw [List.mem_cons, hdone e he]
            · have hπ := goOn_sub π hπ
              have h6 := (List.mem_filter.1 hπ).2
              unfold keepOL at h6
              have h7 := List.all_eq_true.1 h6 _ hp
              simp only [bne_self_eq_false, Bool.false_or] at h7
              have hpE : p ∈ E := by
                have := (hchk π (List.mem_filter.1 hπ).1).2
                unfold inEL at this
                have := List.all_eq_true.1 this _ hp
                simp only [Bool.and_eq_true] at this
                simpa using this.1
              exact (hdone p hpE).1 (by simpa using h7)
        · refine ⟨k, act, done, fun _ h => h, hgame, .inl (ccall i o ho hE), fun e he => ⟨fun hh => .inr ((hdone e he).1 hh), fun hh => ?_⟩, fun π hπ p hp => ?_⟩
          · rcases hh with rfl | hh
            · exact absurd he hE
            · exact (hdone e he).2 hh
          · exfalso
            have := (hchk π hπ).2
            unfold inEL at this
            have := List.all_eq_true.1 this _ hp
            simp only [Bool.and_eq_true] at this
            exact hE (by simpa using this.2)
      have hgetD : ∀ (j : Nat) (b : Bool), j < listed.size → (listed.setIfInBounds i true).getD j b = if j = i then true else listed.getD j b := by
        intro j b hj
        simp only [Array.getD_eq_getD_getElem?, Array.getElem?_setIfInBounds]
        by_cases e : j = i
        · subst e; simp [hj]
        · simp [e, Ne.symm e]
      -- one step, for each order
      have hall : ∀ π ∈ act', ∃ x R', rem π (listed.setIfInBounds i true) = R' ∧ R'.length = fuel ∧ (callOf o.op = none ∨ x = true) ∧ WOps P A H G ((o, x) :: pickOps l R') K fr st := by
        intro π hπ'
        have hπ := hact π hπ'
        have hc := (hchk π hπ).1
        unfold chk1 at hc
        simp only [Bool.and_eq_true] at hc
        obtain ⟨⟨⟨c1, c2⟩, c3⟩, c5⟩ := hc
        have cover : ∀ i, i < l.length → ∃ p ∈ π, p.1 = i := by
          intro i hi
          have := List.all_eq_true.1 c2 i (by simpa using hi)
          simpa using this
        have inl : ∀ p ∈ π, p.1 < l.length := fun p hp => by have := List.all_eq_true.1 c3 p hp; simpa using this
        have hlen := hlen π hπ
        have h := h π hπ
        have hex : ∃ X q Y, rem π listed = X ++ q :: Y ∧ q.1 = i ∧ ∃ X' Y', π = X' ++ q :: Y' ∧ (∀ p ∈ X, p ∈ X') := by
          obtain ⟨q, hq, rfl⟩ := cover i h1
          obtain ⟨X', Y', e⟩ := List.append_of_mem hq
          refine ⟨rem X' listed, q, rem Y' listed, ?_, rfl, X', Y', e, fun p hp => (List.mem_filter.1 hp).1⟩
          rw [e]
          unfold rem
          rw [List.filter_append, List.filter_cons, h2]
          rfl
        obtain ⟨X, q, Y, e, rfl, X', Y', e', hX⟩ := hex
        have hop' := hopI (P := P) (A := A) (H := H) (G := G) (I := I) (K := K) (x := (o, q.2)) (rest := pickOps l Y) (pickOps l X) (fun ax hax => by
          obtain ⟨p, hp, hpo, hpx⟩ := mem_pickOps hax
          have hno : listed.getD p.1 false ≠ true := fun hl2 => by
            have hmem : p ∈ rem π listed := by rw [e]; simp [hp]
            have := (mem_rem.1 hmem).2
            have hp' : p.1 < listed.size := by rw [hsz]; exact (List.getElem?_eq_some_iff.1 hpo).1
            rw [getD_lt hp' true false] at this
            exact absurd (hl2.symm.trans this) (by simp)
          have hsw : swapOkL SP A H l p q = true := by
            rcases exm_specL (SP := SP) (A := A) (H := H) (l := l) (T := ancT l) X' q Y' e' p (hX p hp) with ht | hs | hx
            · exact absurd (tab_closed ctab (fun i => listed.getD i false = true) hcl q.1 h1 h3 p.1 ht) hno
            · exact hs
            · exact absurd (hkeep π hπ' p.1 hx) hno
          obtain ⟨a1, a2⟩ := ax
          simp only at hpx hpo
          refine ⟨?_, hKeep a1 (List.mem_of_getElem? hpo) a2 (hpx ▸ flB_spec (hfl π hπ) (mem_rem.1 (show p ∈ rem π listed by rw [e]; simp [hp])).1 hpo)⟩
          unfold swapOkL at hsw
          rcases Bool.or_eq_true_iff.1 hsw with hs | hs
          · have := swapOk_spec hpo ho hs
            rw [hpx] at this
            exact fun R K fr st _ h => hop (ops := l.toArray) (x := (o, q.2)) (rest := R) hG [(a1, a2)] (fun c hc => by rw [List.mem_singleton.1 hc]; exact this) fr st h
          · exact hSP p.1 q.1 a1 o (by simpa using hs) hpo ho a2 q.2) fr st hI (by rw [e, pickOps_app, pickOps_cons ho] at h; exact h)
        have hrem' : ∀ Z : List (Nat × Bool), (∀ p ∈ Z, p.1 < l.length) → rem Z (listed.setIfInBounds q.1 true) = (rem Z listed).filter fun p => p.1 != q.1 := by
          intro Z hZ
          unfold rem
          rw [List.filter_filter]
          apply List.filter_congr
          intro p hp
          rw [hgetD p.1 true (by rw [hsz]; exact hZ p hp)]
          by_cases e : p.1 = q.1
          · simp [e]
          · simp [e]
        have hnd : (π.map (·.1)).Nodup := nodupB_spec c1.2
        have hXY : rem π (listed.setIfInBounds q.1 true) = X ++ Y := by
          rw [hrem' π inl, e]
          have hnd2 : ((X ++ q :: Y).map (·.1)).Nodup := by
            rw [← e]
            exact hnd.sublist (List.Sublist.map _ List.filter_sublist)
          rw [List.map_append, List.map_cons] at hnd2
          have hni := List.nodup_append.1 hnd2
          rw [List.filter_append, List.filter_cons]
          simp only [bne_self_eq_false, Bool.false_eq_true, if_false]
          congr 1
          · apply List.filter_eq_self.2
            intro p hp
            have : p.1 ≠ q.1 := fun e => hni.2.2 p.1 (List.mem_map.2 ⟨p, hp, rfl⟩) q.1 (by simp) e
            simpa using this
          · apply List.filter_eq_self.2
            intro p hp
            have : p.1 ≠ q.1 := fun e => (List.nodup_cons.1 hni.2.1).1 (e ▸ List.mem_map.2 ⟨p, hp, rfl⟩)
            simpa using this
        refine ⟨q.2, X ++ Y, hXY, ?_, flB_spec (hfl π hπ) (by rw [e']; simp) ho, by rw [pickOps_app]; exact hop'⟩
        rw [e] at hlen
        simp only [List.length_append, List.length_cons] at hlen ⊢
        omega
      obtain ⟨π0, hπ0⟩ : ∃ π, π ∈ act' := by
        cases act' with
        | nil => cases k' <;> simp [gameL] at hgame'
        | cons π _ => exact ⟨π, by simp⟩
      have hone2 : ∃ x, (callOf o.op = none ∨ x = true) ∧ WOps P A H G [(o, x)] (fun fr st => ∀ π ∈ act', WOps P A H G (pickOps l (rem π (listed.setIfInBounds i true))) K fr st) fr st := by
        rcases hone with hn | ⟨π, rfl⟩
        · refine ⟨false, .inl hn, WOps_conj hn ⟨π0, hπ0⟩ fun π hπ => ?_⟩
          obtain ⟨x, R', h4, _, _, h5⟩ := hall π hπ
          exact ⟨x, by rw [h4]; exact WOps_head h5⟩
        · obtain ⟨x, R', h4, _, hfx, h5⟩ := hall π (by simp)
          refine ⟨x, hfx, (WOps_head h5).mono fun fr st hq π' hπ' => ?_⟩
          obtain rfl := List.mem_singleton.1 hπ'
          rw [h4]; exact hq
      obtain ⟨x, hfx, hw1⟩ := hone2
      have hw2 := hKeep o (List.mem_of_getElem? ho) x hfx [] _ fr st hI hw1
      have hstep := step_sound (Q := Q) R hG (hd o (List.mem_of_getElem? ho)) hw2 (K' := wpAny P .any l.toArray Q fuel (listed.setIfInBounds i true)) fun fr' st' M' L' a' w' h' R' => by
        obtain ⟨hI', h'⟩ := h'
        rw [w_nil] at h'
        refine ih k' act' done' (listed.setIfInBounds i true) fr' st' M' L' a' w' (fun π hπ => hchk π (hact π hπ)) (fun π hπ => hfl π (hact π hπ)) hgame' (fun e he => ?_) (by simpa using hsz) (fun π hπ => ?_) ?_ R' hI' h'
        · rw [hdone' e he]
          by_cases hel : e < listed.size
          · rw [hgetD e false hel]
            by_cases ee : e = i
            · simp [ee]
            · simp [ee]
          · have h6 : e ≠ i := by omega
            simp [h6, Array.getD, hel]
        · obtain ⟨x, R', h4, h5, _, _⟩ := hall π hπ
          rw [h4]; exact h5
        · intro j hj hjl d hdj
          have hdl : d < listed.size ∨ listed.size ≤ d := by omega
          have base : listed.getD d false = true := by
            rw [hgetD j false (by rw [hsz]; exact hj)] at hjl
            split at hjl
            · rename_i ej; subst ej; exact h3 d hdj
            · exact hcl j hj hjl d hdj
          rcases hdl with hdl | hdl
          · rw [hgetD d false hdl]
            by_cases ed : d = i
            · rw [if_pos ed]
            · rw [if_neg ed]; exact base
          · simp [Array.getD, Nat.not_lt.2 hdl] at base
      unfold wpOp
      have ho' : l.toArray[i]? = some o := by simpa using ho
      rw [ho']
      simp only
      split at hstep
      · rename_i hw; rw [if_pos hw]; exact .inl hstep
      · rename_i hw; rw [if_neg hw]; exact hstep

/-- A region that draws its order, walked in several orders. -/
theorem W_regionQ {I : Fr → St → Prop} {n id : Nat} {Q : Ex → Fr → St → Prop} {fr : Fr} {st : St} (hm : P.follows .mixedOrders = true) {l : List Oper} (SP : List (Nat × Nat)) (A : List Tmp) (E : List Nat) (PS : List (List (Nat × Bool))) (hd : dstsLt n l = true) (hc : chkML SP A H l E PS = true) (hfl : ∀ π ∈ PS, flB l π = true) (hI : I fr st)
    (hKeep : ∀ G, (∀ j, G j = (l[j]?).bind (·.dst)) → ∀ o ∈ l, ∀ x, (callOf o.op = none ∨ x = true) → Keeps P A H G I (o, x)) (hSP : ∀ G, (∀ j, G j = (l[j]?).bind (·.dst)) → ∀ p q a x, (p, q) ∈ SP → l[p]? = some a → l[q]? = some x → ∀ fp fq, SwI P A H G I (a, fp) (x, fq))
    (h : ∀ G : Nat → Option Tmp, (∀ j, G j = (l[j]?).bind (·.dst)) → ∀ π ∈ PS, WOps P A H G (pickOps l π) (Q .normal) fr st) : W P H n (.region id l.toArray true) Q fr st := by
  intro B M L a w R
  refine wp_region_any hm ?_
  unfold chkML at hc
  simp only [Bool.and_eq_true] at hc
  obtain ⟨⟨⟨h1, h2⟩, h3⟩, h4⟩ := hc
  have hchk : ∀ π ∈ PS, chk1 l π = true ∧ inEL SP A H l E π = true := fun π hπ => by have := List.all_eq_true.1 h3 π hπ; simpa using this
  have hrem : ∀ π ∈ PS, rem π (Array.replicate l.length false) = π ∧ π.length = l.length := by
    intro π hπ
    have hc1 := (hchk π hπ).1
    unfold chk1 at hc1
    simp only [Bool.and_eq_true] at hc1
    refine ⟨List.filter_eq_self.2 fun p hp => ?_, by simpa using hc1.1.1.1.1⟩
    have := List.all_eq_true.1 hc1.1.2 p hp
    have hp' : p.1 < l.length := by simpa using this
    simp [Array.getD, hp']
  refine wpAny_soundQ (I := I) (SP := SP) (G := fun j => (l[j]?).bind (·.dst)) (E := E) (hKeep _ fun _ => rfl) (hSP _ fun _ => rfl) h1 (fun i o ho hE => ?_) (dstsLt_of hd) (fun j => by simp) (Q := fun e a' w' => ∃ x fr' st' M' L', e = Ex.to x ∧ Q x fr' st' ∧ Rel P B M' L' n fr' st' a' w')
    (fun fr' st' M' L' a' w' hK R' => ⟨.normal, fr', st', M', L', rfl, hK, R'⟩) l.toArray.size E.length PS [] (Array.replicate l.toArray.size false) fr st M L a _ hchk hfl h4 (fun e he => ?_) (by simp) (fun π hπ => ?_) ?_ R.drewAt hI (fun π hπ => ?_)
  · have := List.all_eq_true.1 h2 i (by simpa using (List.getElem?_eq_some_iff.1 ho).1)
    simp only [ho, Option.bind_some, Bool.or_eq_true, Bool.not_eq_true'] at this
    rcases this with h | h
    · exact absurd (by simpa using h) hE
    · simpa using h
  · constructor
    · intro hh; cases hh
    · intro hh
      have : (Array.replicate l.toArray.size false).getD e false = false := by
        simp only [Array.getD_eq_getD_getElem?, Array.getElem?_replicate]
        split <;> rfl
      rw [this] at hh; cases hh
  · simp only [List.size_toArray]; rw [(hrem π hπ).1, (hrem π hπ).2]
  · intro i hi hli
    simp [Array.getD, hi] at hli
  · simp only [List.size_toArray]; rw [(hrem π hπ).1]; exact h _ (fun _ => rfl) π hπ

/-! Reads of one block. -/
/-- No pointer into the store, or one to this block. -/
def qv (q : Nat) : Value → Bool
  | .pointer (some ⟨b, _, none⟩) => b == q
  | _ => true
/-- These slots point to the block q alone, and its kind is not one that is appended to. -/
def InvQ (q : Nat) (ty : TypeId) (Ls : List Tmp) (fr : Fr) (st : St) : Prop := (∀ t ∈ Ls, qv q (fr.env t) = true) ∧ ∃ b, st[q]? = some b ∧ b.ty = ty
def inLs (Ls : List Tmp) : Operand → Bool
  | .tmp t => Ls.contains t
  | _ => false
/-- What yields a pointer to the same block. -/
def alias (Ls : List Tmp) : Op → Bool
  | .move x => inLs Ls x
  | .nilCheck x => inLs Ls x
  | .fieldAddr _ x _ => inLs Ls x
  | _ => false
def dstQ (Ls : List Tmp) (o : Oper) : Bool := match o.dst with
  | some d => !Ls.contains d || alias Ls o.op
  | none => true
def kindQ (o : Op) : Bool := isPure o || isRd o || isApp o || (callOf o).isSome
theorem inLs_spec {q : Nat} {ty : TypeId} {Ls : List Tmp} {fr : Fr} {st : St} (hI : InvQ q ty Ls fr st) {x : Operand} (h : inLs Ls x = true) : qv q (fr.ev x) = true := by
  unfold inLs at h
  split at h
  · exact hI.1 _ (by simpa using h)
  · cases h
theorem alias_spec {q : Nat} {ty : TypeId} {Ls : List Tmp} {fr : Fr} {st : St} (hI : InvQ q ty Ls fr st) {o : Op} (h : alias Ls o = true) {v : Value} (hv : evalVal P A o fr.ev fr.loc st = some v) : qv q v = true := by
  unfold alias at h
  split at h
  · rename_i x
    have : some (fr.ev x) = some v := hv
    cases this
    exact inLs_spec hI h
  · rename_i x
    have h1 := inLs_spec hI h
    have hv' : (match fr.ev x with
      | .pointer (some ⟨b, o, sp⟩) => if okPtr A fr.loc b sp then some (fr.ev x) else none
      | _ => none) = some v := hv
    split at hv'
    · split at hv'
      · cases hv'; exact h1
      · cases hv'
    · cases hv'
  · rename_i ty x f
    have h1 := inLs_spec hI h
    have hv' : (match fr.ev x with
      | .pointer (some ⟨b, o, sp⟩) => (match offA P ty f with
        | some d => if okPtr A fr.loc b sp then some (Value.pointer (some ⟨b, o + d, sp⟩)) else none
        | none => none)
      | _ => none) = some v := hv
    split at hv'
    · rename_i b o' sp he
      rw [he] at h1
      split at hv'
      · split at hv'
        · cases hv'
          cases sp with
          | none => exact h1
          | some _ => rfl
        · cases hv'
      · cases hv'
    · cases hv'
  · cases h
theorem InvQ.put {q : Nat} {ty : TypeId} {Ls : List Tmp} {fr : Fr} {st st' : St} (h : InvQ q ty Ls fr st) (hst : ∃ b, st'[q]? = some b ∧ b.ty = ty) {d : Option Tmp} {v : Value} (hd : ∀ t, d = some t → t ∉ Ls ∨ qv q v = true) (l : Nat → Nat × List Value) : InvQ q ty Ls ⟨AM.put fr.env d v, l⟩ st' := ⟨fun t ht => by
  cases d with
  | none => exact h.1 t ht
  | some d =>
    show qv q (upd fr.env d v t) = true
    by_cases e : t = d
    · subst e
      rw [upd_same]
      exact (hd _ rfl).resolve_left fun h => h ht
    · rw [upd_ne _ _ _ _ e]
      exact h.1 t ht, hst⟩
theorem appendA_ty {t u : TypeId} {s x v : Value} {st st' : St} (h : appendA P t u s x st = some (v, st')) {q : Nat} {b : Blk} (hb : st[q]? = some b) : ∃ b', st'[q]? = some b' ∧ b'.ty = b.ty ∧ (elemA P t ≠ some b.ty → b' = b) := by
  have hl : q < st.length := (List.getElem?_eq_some_iff.1 hb).1
  unfold appendA at h
  split at h
  · cases h
  rename_i e he
  split at h
  · split at h
    · cases h
    · split at h
      · split at h
        · split at h
          · cases h; exact ⟨b, hb, rfl, fun _ => rfl⟩
          · split at h
            · cases h; exact ⟨b, by rw [List.getElem?_append_left hl]; exact hb, rfl, fun _ => rfl⟩
            · cases h
        · rename_i bb len c
          split at h
          · cases h; exact ⟨b, hb, rfl, fun _ => rfl⟩
          · split at h
            · rename_i blk hblk
              split at h
              · rename_i hc
                cases h
                by_cases hq : q = bb
                · subst hq
                  have : blk = b := by rw [hb] at hblk; cases hblk; rfl
                  subst this
                  refine ⟨{ blk with stat := 2 }, by rw [List.getElem?_append_left (by simpa using hl)]; exact List.getElem?_set_self hl, rfl, fun hne => ?_⟩
                  exact absurd (by rw [he, hc.2.1]) hne
                · exact ⟨b, by rw [List.getElem?_append_left (by simpa using hl), List.getElem?_set_ne (Ne.symm hq)]; exact hb, rfl, fun _ => rfl⟩
              · cases h
            · cases h
        · cases h
      · cases h
  · cases h
/-- The row's type of an append. -/
def appTy : Op → Option TypeId
  | .call { callee := .builtin .append, argTypes := ts, .. } => ts[0]?
  | _ => none
theorem app_step {o : Oper} (h : isApp o.op = true) {fr : Fr} {st : St} {v : Value} {l : Nat → Nat × List Value} {s : St} (hs : stepVal P A H o fr st = some (v, l, s)) : ∃ t u x y, appTy o.op = some t ∧ appendA P t u x y st = some (v, s) := by
  unfold isApp at h
  split at h
  · rename_i c1 c2 hop
    unfold stepVal at hs
    rw [hop] at hs
    have e : ∀ ρ loc st, evalVal P A (.call { callee := .builtin .append, args := c1, argTypes := c2 }) ρ loc st = none := fun _ _ _ => rfl
    rw [e] at hs
    simp only at hs
    unfold evalEff at hs
    rw [hop] at hs
    simp only at hs
    split at hs
    · rename_i t u x y h1 h2 h3 h4
      simp only [Option.map_eq_some_iff] at hs
      obtain ⟨r, hr, hr2⟩ := hs
      cases hr2
      exact ⟨t, u, _, _, by rw [hop]; exact h1, hr⟩
    · cases hs
  · cases h
theorem keepsQ {q : Nat} {ty : TypeId} {Ls : List Tmp} {o : Oper} (hd : dstQ Ls o = true) (hk : kindQ o.op = true) {x : Bool} (hx : callOf o.op = none ∨ x = true) : Keeps P A H G (InvQ q ty Ls) (o, x) := by
  intro R K fr st hI h
  obtain ⟨b, hb, hbt⟩ := hI.2
  have hdst : ∀ v, (alias Ls o.op = true → qv q v = true) → ∀ t, o.dst = some t → t ∉ Ls ∨ qv q v = true := fun v hv t ht => by
    unfold dstQ at hd
    rw [ht] at hd
    simp only [Bool.or_eq_true, Bool.not_eq_true'] at hd
    rcases hd with hd | hd
    · exact .inl (by simpa using hd)
    · exact .inr (hv hd)
  unfold WOps at h ⊢
  split at h
  · exact h.elim
  · exact ⟨hI.put ⟨b, hb, hbt⟩ (hdst _ fun _ => rfl) _, h⟩
  · split at h
    · rename_i f args hc
      obtain ⟨g, h1, h2, h3⟩ := h
      have hxt : x = true := hx.resolve_left (by rw [hc]; simp)
      have hna : alias Ls o.op ≠ true := by
        intro ha
        unfold alias at ha
        split at ha
        · rename_i e; rw [e] at hc; cases hc
        · rename_i e; rw [e] at hc; cases hc
        · rename_i e; rw [e] at hc; cases hc
        · cases ha
      exact ⟨g, h1, h2, h3.mono fun r st' ⟨q1, q2⟩ => ⟨q1, hI.put ⟨b, q1 hxt _ _ hb, hbt⟩ (hdst _ fun ha => absurd ha hna) _, q2⟩⟩
    · rename_i hcn
      split at h
      · rename_i v l s hs
        refine ⟨?_, h⟩
        by_cases hr : isPure o.op = true ∨ isRd o.op = true
        · obtain ⟨q1, q2, q3⟩ := stepVal_pure hr hs
          rw [q3]
          exact hI.put ⟨b, hb, hbt⟩ (hdst _ fun ha => alias_spec hI ha q1) _
        · have happ : isApp o.op = true := by
            unfold kindQ at hk
            simp only [Bool.or_eq_true] at hk
            rcases hk with (hk | hk) | hk
            · exact absurd hk hr
            · exact hk
            · rw [hcn] at hk; cases hk
          obtain ⟨t, u, y, z, _, ha⟩ := app_step happ hs
          obtain ⟨b', hb', hbt', _⟩ := appendA_ty ha hb
          refine hI.put ⟨b', hb', hbt'.trans hbt⟩ (hdst _ fun ha => ?_) _
          exfalso
          unfold isApp at happ
          split at happ
          · rename_i e; rw [e] at ha; cases ha
          · cases happ
      · exact h.elim
/-- Reads of these slots' block, and addresses. -/
def rdQ (Ls : List Tmp) : Op → Bool
  | .load _ (.tmp t) => Ls.contains t
  | .fieldAddr .. => true
  | .nilCheck _ => true
  | _ => false
theorem loadA_q {t : TypeId} {q : Nat} {p : Value} (h : qv q p = true) (loc : Nat → Nat × List Value) {st st' : St} (he : st'[q]? = st[q]?) : loadA P A t p loc st' = loadA P A t p loc st := by
  cases p with
  | pointer a =>
    cases a with
    | none => rfl
    | some ad =>
      obtain ⟨b, o, w⟩ := ad
      cases w with
      | none =>
        have : b = q := by simpa [qv] using h
        subst this
        have hc : ∀ j, cell st' b j = cell st b j := fun j => by unfold cell; rw [he]
        have hf : (cellAt A loc st' b none) = (cellAt A loc st b none) := funext fun j => hc j
        rw [loadA_p, loadA_p, hf]
      | some w => rw [loadA_p, loadA_p]; rfl
  | _ => rfl
theorem swQ {q : Nat} {ty : TypeId} {ops : Array Oper} {Ls : List Tmp} {a x : Oper} (hld : rdQ Ls a.op = true) (hga : a.guard.isNone = true) (hgx : x.guard.isNone = true) (hx : isApp x.op = true) (hty : ∀ t, appTy x.op = some t → elemA P t ≠ some ty) (hap : a.apart ops x = true) (fa fx : Bool) : SwI P A H G (InvQ q ty Ls) (a, fa) (x, fx) := by
  intro R K fr st hI h
  obtain ⟨env, loc⟩ := fr
  obtain ⟨b, hb, hbt⟩ := hI.2
  have sp := Oper.apart_spec hap
  have hrd : isPure a.op = true ∨ isRd a.op = true := .inr (by
    unfold rdQ at hld
    split at hld
    · rename_i e; rw [e]; rfl
    · rename_i e; rw [e]; rfl
    · rename_i e; rw [e]; rfl
    · cases hld)
  have hcn : callOf a.op = none := by
    unfold rdQ at hld
    split at hld
    · rename_i e; rw [e]; rfl
    · rename_i e; rw [e]; rfl
    · rename_i e; rw [e]; rfl
    · cases hld
  have hcx : callOf x.op = none := by
    unfold isApp at hx
    split at hx
    · rename_i e; rw [e]; rfl
    · cases hx
  have hev : ∀ (s' : St), s'[q]? = st[q]? → evalVal P A a.op (Fr.ev ⟨env, loc⟩) loc s' = evalVal P A a.op (Fr.ev ⟨env, loc⟩) loc st := by
    intro s' hs'
    unfold rdQ at hld
    split at hld
    · rename_i ty t e
      rw [e]
      exact loadA_q (hI.1 t (by simpa using hld)) loc hs'
    · rename_i e; rw [e]; rfl
    · rename_i e; rw [e]; rfl
    · cases hld
  have hxa : ∀ (v : Value) (l l' : Nat → Nat × List Value) (y : Operand), y ∈ x.op.operands → Fr.ev ⟨put env a.dst v, l⟩ y = Fr.ev ⟨env, l'⟩ y := fun v l l' y hy => ev_put fun d hd e => by
    subst e; exact sp.1 d hd (mem_looks hy)
  rw [WOps_cons hga, hcn] at h
  simp only at h
  split at h
  rotate_left
  · exact h.elim
  rename_i va l s hs
  obtain ⟨q1, q2, q3⟩ := stepVal_pure hrd hs
  replace q2 := q2.symm; replace q3 := q3.symm
  subst q2; subst q3
  simp only at h q1
  rw [WOps_cons hgx] at h ⊢
  rw [hcx] at h ⊢
  simp only at h ⊢
  split at h
  · rename_i v l s' hs'
    have e := stepVal_congr (P := P) (A := A) (H := H) (o := x) (fr := ⟨put env a.dst va, loc⟩) (fr' := ⟨env, loc⟩) (st := st) rfl fun y hy => (hxa va _ _ y hy).symm
    rw [e, hs']
    have hl := app_loc hx hs'
    simp only at hl
    subst hl
    obtain ⟨t, u, y, z, ht, ha⟩ := app_step hx hs'
    obtain ⟨b', hb', _, hsame⟩ := appendA_ty ha hb
    have hbb := hsame (by rw [hbt]; exact hty t ht)
    subst hbb
    simp only
    rw [WOps_cons hga, hcn]
    simp only
    have e2 : evalVal P A a.op (Fr.ev ⟨put env x.dst v, l⟩) l s' = some va := by
      rw [evalVal_apart hap]
      exact (hev s' (hb'.trans hb.symm)).trans q1
    rw [stepVal_of e2]
    rw [put_comm _ _ _ sp.2.1] at h
    exact h
  · exact h.elim
end
def okQ (P : Program) (ty : TypeId) (Ls : List Tmp) (l : List Oper) (p q : Nat) : Bool := match l[p]?, l[q]? with
  | some a, some x => (rdQ Ls a.op && (a.guard.isNone && x.guard.isNone)) && ((isApp x.op && (match appTy x.op with | some t => !(elemA P t == some ty) | none => true)) && a.apart l.toArray x)
  | _, _ => false
def spQ (P : Program) (ty : TypeId) (Ls : List Tmp) (l : List Oper) : List (Nat × Nat) := (List.range l.length).flatMap fun p => ((List.range l.length).filter fun q => okQ P ty Ls l p q).map fun q => (p, q)
theorem spQ_mem {P : Program} {ty : TypeId} {Ls : List Tmp} {l : List Oper} {p q : Nat} (h : (p, q) ∈ spQ P ty Ls l) : okQ P ty Ls l p q = true := by
  unfold spQ at h
  obtain ⟨p', _, h2⟩ := List.mem_flatMap.1 h
  obtain ⟨q', h3, h4⟩ := List.mem_map.1 h2
  cases h4
  exact (List.mem_filter.1 h3).2
def chkQ (P : Program) (ty : TypeId) (Ls A H : List Tmp) (l : List Oper) (E : List Nat) (π : List (Nat × Bool)) : Bool :=
  (l.all (dstQ Ls) && l.all (fun o => kindQ o.op)) && (flB l π && chkML (spQ P ty Ls l) A H l E [π])
/-- A region at a block's end, walked in one order; the slots Ls point to the block q of the kind ty; every call keeps the store. -/
theorem W_endQ {P : Program} {H : List Tmp} {n : Nat} {Q : Ex → Fr → St → Prop} {fr : Fr} {st : St} {id : Nat} {l : List Oper} (hm : P.follows .mixedOrders = true) (q : Nat) (ty : TypeId) (Ls A : List Tmp) (E : List Nat) (π : List (Nat × Bool)) (hd : dstsLt n l = true) (hc : chkQ P ty Ls A H l E π = true) (hI : ∀ t ∈ Ls, qv q (fr.env t) = true) {b : Blk} (hb : st[q]? = some b) (hbt : b.ty = ty)
    (h : ∀ (G : Nat → Option Tmp) (K : Fr → St → Prop), (∀ j, G j = (l[j]?).bind (·.dst)) → (∀ fr st, Q .normal fr st → K fr st) → WOps P A H G (pickOps l π) K fr st) : W P H n (.region id l.toArray true) Q fr st := by
  unfold chkQ at hc
  simp only [Bool.and_eq_true] at hc
  obtain ⟨⟨h1, h2⟩, h3, h4⟩ := hc
  refine W_regionQ (I := InvQ q ty Ls) hm _ A E [π] hd h4 (fun π' hπ => by rw [List.mem_singleton.1 hπ]; exact h3) ⟨hI, b, hb, hbt⟩ (fun G hG o ho x hx => keepsQ (List.all_eq_true.1 h1 o ho) (List.all_eq_true.1 h2 o ho) hx) (fun G hG p q a x hpq ha hx fp fq => ?_) fun G hG π' hπ => by rw [List.mem_singleton.1 hπ]; exact h G _ hG fun _ _ h => h
  have := spQ_mem hpq
  unfold okQ at this
  rw [ha, hx] at this
  simp only [Bool.and_eq_true] at this
  obtain ⟨⟨g1, g2, g3⟩, ⟨g4, g5⟩, g6⟩ := this
  refine swQ g1 g2 g3 g4 (fun t ht e => ?_) g6 fp fq
  rw [ht] at g5
  have g7 : (!(elemA P t == some ty)) = true := g5
  rw [e] at g7
  simp at g7
end Go.Proofs.Ytoeibmfdafilcaa.AM


namespace Go.Proofs.Ytoeibmfdafilcaa.AM
open Go
attribute [local go_sem] List.map_cons List.map_nil List.all_cons List.all_nil Bool.and_self Option.map_some List.getElem?_toArray Option.bind_some gye_b gye_t gsk_b gsk_t gb1 gb2 gb3 gb4 bne_self_eq_false beq_self_eq_true w_guard w_nil stepV_some step_some step_some' w_move w_assign w_pick w_binOp w_unOp w_load w_fieldAddr w_indexAddr w_len w_max w_index ev_max max_int ev_index w_box w_alloc w_store w_field w_extract w_nilCheck w_convert w_buildSlice w_build ev_buildL fillL_nil fillL_cons bs0 bs1 ev_conv ev_bin ev_un ev_pick ev_load ev_fieldAddr ev_indexAddr ev_len ev_field ev_extract ev_nilCheck fr_tmp fr_int fr_bool fr_str fr_nil fr_func put_some put_none bin_lss bin_leq bin_gtr bin_geq bin_eql bin_neq bin_add bin_sub bin_mul bin_seql bin_sneq un_not pick_ ext_ loadA_p cellAt_l cellAt_h okPtr_l okPtr_h fadA_p allocA_l storeA_l cells_agg cells_int cells_str cells_sl cells_bool flat_i flat_s flat_b flat_sl flat_nil loc_agg loc_int loc_str loc_sl loc_bool loc_fn loc_ptr okv_agg okv_int okv_str okv_sl okv_bool cellsFrom splice upd_eval argEnv_zero argEnv_succ ne_eq Nat.add_one_ne_zero not_false_eq_true List.not_mem_nil and_self decide_true List.getElem?_cons_zero List.getElem?_cons_succ List.size_toArray List.length_cons List.length_nil List.take_succ_cons List.take_zero List.drop_succ_cons List.drop_zero List.cons_append List.nil_append List.drop_nil Bool.not_true Bool.not_false Bool.false_eq_true Nat.zero_add Nat.add_zero wrap_in List.toList_toArray List.mem_cons or_self or_false false_or
attribute [local go_sem] ag22 ag24 ag26 ag29 ag3 ag31 ag49 ag54 ag9 ag91 bu31 bu41 bu49 bu54 by31 by49 by54 by9 el22 el26 el29 el45 el50 el68 of24_0 of24_1 of24_2 of24_3 of31_0 of31_1 of31_2 of31_3 of41_0 of41_1 of41_2 of49_0 of49_1 of54_0 of54_1 ro31_0 ro31_1 ro49_1 ro5_1 ro54_0 ro54_1 ro9_0 ro9_1 sz22 sz24 sz26 sz29 sz3 sz31 sz49 sz5 sz54 sz9 sz91 ze3 ze31 ze49 ze54 ze9 ze91
section
/- spec.UnifyTerms. -/
open Go Go.Proofs
set_option linter.unusedVariables false
set_option linter.unusedSimpArgs false
set_option maxRecDepth 100000
-- AUTO

theorem rowT_one (st sx : St) (q o : Nat) (t : T) (cs : List Value) (h : Enc st t cs) (hc : ∀ k v, cs[k]? = some v → cell sx q k = some v) : Row (Enc st) 4 sx [t] (.slice (some ⟨q, 0, none⟩) 1 1) := by
  refine .inr ⟨q, 0, 1, rfl, fun j x hx => ?_⟩
  have hj : j = 0 := by have := (List.getElem?_eq_some_iff.1 hx).1; simp at this; omega
  subst hj
  obtain rfl : t = x := by simpa using hx
  refine ⟨cs, h.len, h, fun k v hv => ?_⟩
  rw [show 0 + 0 * 4 + k = k by omega]
  exact hc k v hv
theorem zst0 (st : St) (a b : T) (ca cb : List Value) (hEa : Enc st a ca) (hEb : Enc st b cb) : ZSt (st.length + 2) (st ++ [(⟨ca, 31, 0⟩ : Blk)] ++ [(⟨cb, 31, 0⟩ : Blk)] ++ [(⟨[.slice (some ⟨st.length, 0, none⟩) 1 1, .slice (some ⟨st.length + 1, 0, none⟩) 1 1, .slice none 0 0], 41, 0⟩ : Blk)]) [] [(a, b)] := by
  have hl : (st ++ [(⟨ca, 31, 0⟩ : Blk)] ++ [(⟨cb, 31, 0⟩ : Blk)]).length = st.length + 2 := by simp
  refine ⟨.slice (some ⟨st.length, 0, none⟩) 1 1, .slice (some ⟨st.length + 1, 0, none⟩) 1 1, .slice none 0 0, by rw [← hl]; simp, ?_, ?_, .inl ⟨.inl rfl, rfl⟩⟩
  all_goals generalize hsx : st ++ [(⟨ca, 31, 0⟩ : Blk)] ++ [(⟨cb, 31, 0⟩ : Blk)] ++ [(⟨[.slice (some ⟨st.length, 0, none⟩) 1 1, .slice (some ⟨st.length + 1, 0, none⟩) 1 1, .slice none 0 0], 41, 0⟩ : Blk)] = sx
  all_goals
    have hx : Ext st (bl (st.length + 2) sx) := Ext.of_get fun i hi => by
      rw [bl_get (by omega), ← hsx, List.append_assoc, List.append_assoc, List.getElem?_append_left hi]
  · exact rowT_one _ _ _ 0 a ca (Enc.ext hx _ _ hEa) fun k v hv => by
      have h0 : sx[st.length]? = some (⟨ca, 31, 0⟩ : Blk) := by rw [← hsx]; simp
      unfold cell
      rw [bl_get (by omega), h0]
      exact hv
  · exact rowT_one _ _ _ 0 b cb (Enc.ext hx _ _ hEb) fun k v hv => by
      have h0 : sx[st.length + 1]? = some (⟨cb, 31, 0⟩ : Blk) := by rw [← hsx]; simp
      unfold cell
      rw [bl_get (by omega), h0]
      exact hv
set_option maxHeartbeats 2000000 in
theorem specUnify_ok (a b : T) (N : Nat) (res : Option (List Bnd)) (hu0 : uni N [] [(a, b)] = some res) (st : St) (ca cb : List Value) (hla : Lim 1073741824 a) (hlb : Lim 1073741824 b) (hBa : a.wt ≤ 1048576) (hBb : b.wt ≤ 1048576) (hEa : Enc st a ca) (hEb : Enc st b cb) :
    CallS Try.prog 5 [.agg ca.toArray, .agg cb.toArray] st fun r st2 => Ext st st2 ∧ ∃ s L, r = .tuple #[s, .bool res.isSome] ∧ Sl st2 (uresB a b res) s L ∧ Fresh st.length L := by
  obtain ⟨k1, n1, m1, as1, he1⟩ := T.eta a
  obtain ⟨k2, n2, m2, as2, he2⟩ := T.eta b
  have hE1' := hEa
  have hE2' := hEb
  rw [he1] at hE1'
  rw [he2] at hE2'
  obtain ⟨s1, rfl, hr1⟩ := hE1'.open
  obtain ⟨s2, rfl, hr2⟩ := hE2'.open
  refine CallS_of_W [12] 40 Try.func5 rfl rfl rfl rfl (by simp) ?_
  have p1 := hr1.notLoc.1
  have p2 := hr1.notLoc.2
  have p3 := hr2.notLoc.1
  have p4 := hr2.notLoc.2
  have hca := T.count_wt a
  have hcb := T.count_wt b
  have hva := T.vars_len a
  have hvb := T.vars_len b
  have hz0 := zst0 st a b _ _ hEa hEb
  have hx0 : Ext st (st ++ [(⟨[.int .i64 k1, .int .i64 n1, .string m1, s1], 31, 0⟩ : Blk)] ++ [(⟨[.int .i64 k2, .int .i64 n2, .string m2, s2], 31, 0⟩ : Blk)] ++ [(⟨[.slice (some ⟨st.length, 0, none⟩) 1 1, .slice (some ⟨st.length + 1, 0, none⟩) 1 1, .slice none 0 0], 41, 0⟩ : Blk)]) := ((Ext.app _ _).trans (Ext.app _ _)).trans (Ext.app _ _)
  have hA : (st ++ [(⟨[.int .i64 k1, .int .i64 n1, .string m1, s1], 31, 0⟩ : Blk)]).length = st.length + 1 := by simp
  have hB : (st ++ [(⟨[.int .i64 k1, .int .i64 n1, .string m1, s1], 31, 0⟩ : Blk)] ++ [(⟨[.int .i64 k2, .int .i64 n2, .string m2, s2], 31, 0⟩ : Blk)]).length = st.length + 2 := by simp
  repeat (first | ((first | refine W_reg rfl fun G K hG hK => ?_ | refine W_end rfl fun G K hG hK => ?_); simp (disch := omega) only [go_sem, ↓reduceIte, Nat.reduceEqDiff, Nat.reduceAdd, Nat.reduceLeDiff, hG, p1, p2, p3, p4, hA, hB]; refine hK _ _ ?_; clear hK K hG G) | refine W_seqS ?_ | refine W_seqC ?_ | refine W_seqB ?_ | refine W_block ?_ | refine W_skip ?_ | (refine W_condT ?hc ?_; (case hc => (simp (disch := omega) only [go_sem, ↓reduceIte, Nat.reduceEqDiff, Nat.reduceAdd, Nat.reduceLeDiff, p1, p2, p3, p4, hA, hB]; done))) | (refine W_condF ?hc ?_; (case hc => (simp (disch := omega) only [go_sem, ↓reduceIte, Nat.reduceEqDiff, Nat.reduceAdd, Nat.reduceLeDiff, p1, p2, p3, p4, hA, hB]; done))) | refine thenI ?_ | refine thenE ?_ | refine thenR ?_ | refine inBI ?_ | refine inBR ?_ | refine inBS ?_ | refine inBN (by decide) ?_)
  refine W_loop (fun d fr st' => ∃ (j : Nat) (bs : List Bnd) (rest : List (T × T)), d = N - j ∧ j ≤ N ∧ (Ext st st') ∧ (UInv (T.vars a ++ T.vars b) a b bs rest) ∧ (uni (N - j) bs rest = some res) ∧ (ZSt (st.length + 2) st' bs rest) ∧ ((∀ p ∈ rest, Lim 1073741824 p.1 ∧ Lim 1073741824 p.2)) ∧ (fr.env 2 = .pointer (some ⟨2, 0, some 1⟩)) ∧ (fr.env 3 = .pointer (some ⟨3, 0, some 1⟩)) ∧ (fr.env 6 = .pointer (some ⟨st.length + 2, 0, none⟩)) ∧ (fr.env 30 = undef) ∧ (fr.env 31 = undef) ∧ (fr.env 32 = undef) ∧ (fr.loc 2 = (1, [.int .i64 k1, .int .i64 n1, .string m1, s1])) ∧ (fr.loc 3 = (1, [.int .i64 k2, .int .i64 n2, .string m2, s2]))) (N) ?_ ?_
  · exact ⟨0, [], [(a, b)], by omega, by omega, hx0, UInv.start a b, hu0, hz0, (fun p hp => by cases List.mem_singleton.1 hp; exact ⟨hla, hlb⟩), (by (simp (disch := omega) only [go_sem, ↓reduceIte, Nat.reduceEqDiff, Nat.reduceAdd, Nat.reduceLeDiff, p1, p2, p3, p4, hA, hB]); try rfl), (by (simp (disch := omega) only [go_sem, ↓reduceIte, Nat.reduceEqDiff, Nat.reduceAdd, Nat.reduceLeDiff, p1, p2, p3, p4, hA, hB]); try rfl), (by (simp (disch := omega) only [go_sem, ↓reduceIte, Nat.reduceEqDiff, Nat.reduceAdd, Nat.reduceLeDiff, p1, p2, p3, p4, hA, hB]); try rfl), (by (simp (disch := omega) only [go_sem, ↓reduceIte, Nat.reduceEqDiff, Nat.reduceAdd, Nat.reduceLeDiff, p1, p2, p3, p4, hA, hB]); try rfl), (by (simp (disch := omega) only [go_sem, ↓reduceIte, Nat.reduceEqDiff, Nat.reduceAdd, Nat.reduceLeDiff, p1, p2, p3, p4, hA, hB]); try rfl), (by (simp (disch := omega) only [go_sem, ↓reduceIte, Nat.reduceEqDiff, Nat.reduceAdd, Nat.reduceLeDiff, p1, p2, p3, p4, hA, hB]); try rfl), (by (simp (disch := omega) only [go_sem, ↓reduceIte, Nat.reduceEqDiff, Nat.reduceAdd, Nat.reduceLeDiff, p1, p2, p3, p4, hA, hB]); try rfl), (by (simp (disch := omega) only [go_sem, ↓reduceIte, Nat.reduceEqDiff, Nat.reduceAdd, Nat.reduceLeDiff, p1, p2, p3, p4, hA, hB]); try rfl)⟩
  rintro d ⟨env, loc⟩ st' ⟨j, bs, rest, hd, hj, hext, hI, hu, hz, hlr, e2, e3, e6, e30, e31, e32, l2, l3⟩
  simp only at e2 e3 e6 e30 e31 e32 l2 l3
  have hz' := hz
  obtain ⟨vl, vr, vs, hq, hrl, hrr, hrs⟩ := hz'
  have y1 := hrl.notLoc.1
  have y2 := hrs.notLoc.1
  have hlen : lenE Try.prog 29 vl = some (.int .i64 rest.length) := by have := row_len (P := Try.prog) hrl Try.underlying29; rwa [List.length_map] at this
  have q0 := z_cell0 hq
  have q2 := z_cell2 hq
  have hbl := hI.len
  rw [List.length_append] at hbl
  have hsm := hI.small
  have hlbs : ∀ x ∈ bs, Lim 1073741824 x.tm := fun x hx => Lim.of_count _ (Nat.le_trans (hI.c400 x hx) (by omega))
  have hR : Rw st' bs vs := rwB_ci ci_bl hrs
  by_cases hre : rest = []
  · subst hre
    rw [uni_nil] at hu
    cases hu
    have c1 : decide (((([] : List (T × T)).length : Nat) : Int) > 0) = false := by decide
    have c2 : decide (((0 : Nat) : Int) > 0) = false := by decide
    (repeat (first | refine W_seqS ?_ | refine W_seqC ?_ | refine W_seqB ?_ | refine W_block ?_)); refine W_reg rfl fun G K hG hK => ?_; simp (disch := omega) only [go_sem, ↓reduceIte, Nat.reduceEqDiff, Nat.reduceAdd, Nat.reduceLeDiff, hG, p1, p2, p3, p4, hA, hB, e2, e3, e6, e30, e31, e32, l2, l3, y1, y2, hlen, nc_h, okPtr_h, cellAt_h, q0, c1, c2]
    refine hK _ _ ?_; clear hK K hG G; repeat (first | refine thenI ?_ | refine thenE ?_ | refine thenR ?_ | refine inBI ?_ | refine inBR ?_ | refine inBS ?_ | refine inBN (by decide) ?_)
    repeat (first | ((first | refine W_reg rfl fun G K hG hK => ?_ | refine W_end rfl fun G K hG hK => ?_); simp (disch := omega) only [go_sem, ↓reduceIte, Nat.reduceEqDiff, Nat.reduceAdd, Nat.reduceLeDiff, hG, p1, p2, p3, p4, hA, hB, e2, e3, e6, e30, e31, e32, l2, l3, y1, y2, hlen, c1, c2]; refine hK _ _ ?_; clear hK K hG G) | refine W_seqS ?_ | refine W_seqC ?_ | refine W_seqB ?_ | refine W_block ?_ | refine W_skip ?_ | (refine W_condT ?hc ?_; (case hc => (simp (disch := omega) only [go_sem, ↓reduceIte, Nat.reduceEqDiff, Nat.reduceAdd, Nat.reduceLeDiff, p1, p2, p3, p4, hA, hB, e2, e3, e6, e30, e31, e32, l2, l3, y1, y2, hlen, c1, c2]; done))) | (refine W_condF ?hc ?_; (case hc => (simp (disch := omega) only [go_sem, ↓reduceIte, Nat.reduceEqDiff, Nat.reduceAdd, Nat.reduceLeDiff, p1, p2, p3, p4, hA, hB, e2, e3, e6, e30, e31, e32, l2, l3, y1, y2, hlen, c1, c2]; done))) | refine thenI ?_ | refine thenE ?_ | refine thenR ?_ | refine inBI ?_ | refine inBR ?_ | refine inBS ?_ | refine inBN (by decide) ?_)
    refine W_exit ?_; repeat (first | refine thenI ?_ | refine thenE ?_ | refine thenR ?_ | refine inBI ?_ | refine inBR ?_ | refine inBS ?_ | refine inBN (by decide) ?_)
    repeat (first | ((first | refine W_reg rfl fun G K hG hK => ?_ | refine W_end rfl fun G K hG hK => ?_); simp (disch := omega) only [go_sem, ↓reduceIte, Nat.reduceEqDiff, Nat.reduceAdd, Nat.reduceLeDiff, hG, p1, p2, p3, p4, hA, hB, e2, e3, e6, e30, e31, e32, l2, l3, y1, y2, hlen]; refine hK _ _ ?_; clear hK K hG G) | refine W_seqS ?_ | refine W_seqC ?_ | refine W_seqB ?_ | refine W_block ?_ | refine W_skip ?_ | (refine W_condT ?hc ?_; (case hc => (simp (disch := omega) only [go_sem, ↓reduceIte, Nat.reduceEqDiff, Nat.reduceAdd, Nat.reduceLeDiff, p1, p2, p3, p4, hA, hB, e2, e3, e6, e30, e31, e32, l2, l3, y1, y2, hlen]; done))) | (refine W_condF ?hc ?_; (case hc => (simp (disch := omega) only [go_sem, ↓reduceIte, Nat.reduceEqDiff, Nat.reduceAdd, Nat.reduceLeDiff, p1, p2, p3, p4, hA, hB, e2, e3, e6, e30, e31, e32, l2, l3, y1, y2, hlen]; done))) | refine thenI ?_ | refine thenE ?_ | refine thenR ?_ | refine inBI ?_ | refine inBR ?_ | refine inBS ?_ | refine inBN (by decide) ?_)
    refine W_seq ?_
    obtain ⟨sm, rfl⟩ : ∃ sm, sm = st' := ⟨_, rfl⟩
    refine W_to (fun fr st' => ∃ (r : Value) (L : List Nat), (Ext st st') ∧ (Sl st' (restr bs (namesB (namesB (T.vars a) ++ namesB (T.vars b)))) r L) ∧ (Fresh st.length L) ∧ (fr.env 4 = r) ∧ (fr.env 5 = .bool true)) ?_ ?_
    · refine W_endQ mixed (st.length + 2) 41 [6, 30, 31, 32] [] [5, 7, 9] [(0, false), (1, false), (2, false), (3, false), (4, false), (6, false), (5, true), (7, true), (8, false), (9, true), (10, false), (11, false)] rfl (by decide +kernel) ?_ hq rfl fun G K hG hK => ?_
      · intro t ht
        simp only [List.mem_cons, List.not_mem_nil, or_false] at ht
        rcases ht with rfl | rfl | rfl | rfl
        all_goals simp (disch := omega) only [go_sem, ↓reduceIte, Nat.reduceEqDiff, e6, e30, e31, e32, qv, beq_self_eq_true]
        all_goals rfl
      simp only [pickOps, List.filterMap_cons, List.filterMap_nil, List.getElem?_cons_zero, List.getElem?_cons_succ, Option.map_some]; simp (disch := omega) only [go_sem, ↓reduceIte, Nat.reduceEqDiff, Nat.reduceAdd, Nat.reduceLeDiff, hG, p1, p2, p3, p4, hA, hB, e2, e3, e6, e30, e31, e32, l2, l3, y1, y2, hlen, nc_h, okPtr_h, cellAt_h, q2]
      refine w_call (specVarsOfC_ok a sm _ hla (by omega) (Enc.ext hext _ _ hEa)) (by simp (disch := omega) only [go_sem, ↓reduceIte, Nat.reduceEqDiff, p1, p2, p3, p4, hA, hB, e2, e3, e6, e30, e31, e32, l2, l3, y1, y2, hlen]) ?hl ?_
      case hl => first | rfl | (simp only [go_sem, List.all_cons, List.all_nil, Bool.not_false, Bool.and_self, p1, p2, p3, p4, hA, hB, e2, e3, e6, e30, e31, e32, l2, l3, y1, y2, hlen]; done)
      rintro r1 sa ⟨x1, L1, hs1, hf1⟩; refine ⟨fun e => x1, ?_⟩
      have j1 := hs1.loc
      simp (disch := omega) only [go_sem, ↓reduceIte, Nat.reduceEqDiff, Nat.reduceAdd, Nat.reduceLeDiff, p1, p2, p3, p4, hA, hB, e2, e3, e6, e30, e31, e32, l2, l3, y1, y2, hlen, j1]
      refine w_call (specVarsOfC_ok b sa _ hlb (by omega) (Enc.ext (hext.trans x1) _ _ hEb)) (by simp (disch := omega) only [go_sem, ↓reduceIte, Nat.reduceEqDiff, p1, p2, p3, p4, hA, hB, e2, e3, e6, e30, e31, e32, l2, l3, y1, y2, hlen, j1]) ?hl ?_
      case hl => first | rfl | (simp only [go_sem, List.all_cons, List.all_nil, Bool.not_false, Bool.and_self, p1, p2, p3, p4, hA, hB, e2, e3, e6, e30, e31, e32, l2, l3, y1, y2, hlen, j1]; done)
      rintro r2 sb ⟨x2, L2, hs2, hf2⟩; refine ⟨fun e => x2, ?_⟩
      have j2 := hs2.loc
      have hn1 := names_length (T.vars a)
      have hn2 := names_length (T.vars b)
      obtain ⟨r3, sc, L3, hap, hs3, hf3, hg⟩ := OwnS.join hs1 (hf1.mono (Nat.le_refl _)) x1.length x2 hs2.row (by omega)
      have j3 := hs3.loc
      have x3 : Ext sm sc := hg.away.ext_of (x1.trans x2) (hs1.top hf1)
      have q3 := z_cell2 (x3 _ _ hq)
      simp (disch := omega) only [go_sem, ↓reduceIte, Nat.reduceEqDiff, Nat.reduceAdd, Nat.reduceLeDiff, p1, p2, p3, p4, hA, hB, e2, e3, e6, e30, e31, e32, l2, l3, y1, y2, hlen, j1, j2, w_append, hap, j3, nc_h, okPtr_h, cellAt_h, q3]
      refine w_call (specRestr_ok bs (namesB (T.vars a) ++ namesB (T.vars b)) sc vs r3 (by omega) hlbs (by rw [List.length_append]; omega) (hR.ext x3) hs3.row) (by simp (disch := omega) only [go_sem, ↓reduceIte, Nat.reduceEqDiff, p1, p2, p3, p4, hA, hB, e2, e3, e6, e30, e31, e32, l2, l3, y1, y2, hlen, j3]) ?hl ?_
      case hl => first | rfl | (simp only [go_sem, List.all_cons, List.all_nil, Bool.not_false, Bool.and_self, p1, p2, p3, p4, hA, hB, e2, e3, e6, e30, e31, e32, l2, l3, y1, y2, hlen, j3]; done)
      rintro r4 sd ⟨x4, L4, hs4, hf4⟩; refine ⟨fun e => x4, ?_⟩
      have j4 := hs4.loc
      have hl3 := x3.length
      have hle := hext.length
      simp (disch := omega) only [go_sem, ↓reduceIte, Nat.reduceEqDiff, Nat.reduceAdd, Nat.reduceLeDiff, hG, p1, p2, p3, p4, hA, hB, e2, e3, e6, e30, e31, e32, l2, l3, y1, y2, hlen, j4]; refine hK _ _ ?_; clear hK K hG G; repeat (first | refine thenI ?_ | refine thenE ?_ | refine thenR ?_ | refine inBI ?_ | refine inBR ?_ | refine inBS ?_ | refine inBN (by decide) ?_)
      exact ⟨r4, L4, (hext.trans x3).trans x4, hs4, hf4.mono (by omega), (by (simp (disch := omega) only [go_sem, ↓reduceIte, Nat.reduceEqDiff, Nat.reduceAdd, Nat.reduceLeDiff, p1, p2, p3, p4, hA, hB, e2, e3, e6, e30, e31, e32, l2, l3, y1, y2, hlen]); try rfl), (by (simp (disch := omega) only [go_sem, ↓reduceIte, Nat.reduceEqDiff, Nat.reduceAdd, Nat.reduceLeDiff, p1, p2, p3, p4, hA, hB, e2, e3, e6, e30, e31, e32, l2, l3, y1, y2, hlen]); try rfl)⟩
    clear e2 e3 e6 e30 e31 e32 l2 l3
    rintro ⟨env, loc⟩ st' ⟨r, L, hx, hs, hf, e4, e5⟩
    simp only at e4 e5
    have ol := hs.loc
    repeat (first | ((first | refine W_reg rfl fun G K hG hK => ?_ | refine W_end rfl fun G K hG hK => ?_); simp (disch := omega) only [go_sem, ↓reduceIte, Nat.reduceEqDiff, Nat.reduceAdd, Nat.reduceLeDiff, hG, p1, p2, p3, p4, hA, hB, y1, y2, hlen, e4, e5]; refine hK _ _ ?_; clear hK K hG G) | refine W_seqS ?_ | refine W_seqC ?_ | refine W_seqB ?_ | refine W_block ?_ | refine W_skip ?_ | (refine W_condT ?hc ?_; (case hc => (simp (disch := omega) only [go_sem, ↓reduceIte, Nat.reduceEqDiff, Nat.reduceAdd, Nat.reduceLeDiff, p1, p2, p3, p4, hA, hB, y1, y2, hlen, e4, e5]; done))) | (refine W_condF ?hc ?_; (case hc => (simp (disch := omega) only [go_sem, ↓reduceIte, Nat.reduceEqDiff, Nat.reduceAdd, Nat.reduceLeDiff, p1, p2, p3, p4, hA, hB, y1, y2, hlen, e4, e5]; done))) | refine thenI ?_ | refine thenE ?_ | refine thenR ?_ | refine inBI ?_ | refine inBR ?_ | refine inBS ?_ | refine inBN (by decide) ?_)
    refine W_ret ?_; try (repeat (first | refine thenI ?_ | refine thenE ?_ | refine thenR ?_ | refine inBI ?_ | refine inBR ?_ | refine inBS ?_ | refine inBN (by decide) ?_))
    refine fin2 (.inl rfl) (by (simp (disch := omega) only [go_sem, ↓reduceIte, Nat.reduceEqDiff, Nat.reduceAdd, Nat.reduceLeDiff, p1, p2, p3, p4, hA, hB, y1, y2, hlen, e4, e5, ol]); try rfl) ol (by (simp (disch := omega) only [go_sem, ↓reduceIte, Nat.reduceEqDiff, Nat.reduceAdd, Nat.reduceLeDiff, p1, p2, p3, p4, hA, hB, y1, y2, hlen, e4, e5]); try rfl) rfl ⟨hx, r, L, rfl, hs, hf⟩
  · obtain ⟨p, rest', rfl⟩ : ∃ p rest', rest = p :: rest' := by
      cases rest with
      | nil => exact absurd rfl hre
      | cons p q => exact ⟨p, q, rfl⟩
    obtain ⟨M, hM⟩ : ∃ M, N - j = M + 1 := by
      cases hNj : N - j with
      | zero => rw [hNj] at hu; cases hu
      | succ M => exact ⟨M, rfl⟩
    rw [hM] at hu
    have hul : uni (M + 1) bs (p :: rest') = match stepU bs (p.1.sub bs) (p.2.sub bs) with
      | none => some none
      | some (bs', more) => if bigB bs' = true then some none else uni M bs' (more ++ rest') := rfl
    rw [hul] at hu
    obtain ⟨hs1, hs2⟩ := hsm
    obtain ⟨hp1, hp2⟩ := hs2 p (by simp)
    obtain ⟨hq1, hq2⟩ := hlr p (by simp)
    have c1 : decide ((((p :: rest').length : Nat) : Int) > 0) = true := decide_eq_true (by simp only [List.length_cons]; omega)
    have c1' : decide (((rest'.length + 1 : Nat) : Int) > 0) = true := decide_eq_true (by omega)
    simp only [List.length_cons] at hs1
    (repeat (first | refine W_seqS ?_ | refine W_seqC ?_ | refine W_seqB ?_ | refine W_block ?_)); refine W_reg rfl fun G K hG hK => ?_; simp (disch := omega) only [go_sem, ↓reduceIte, Nat.reduceEqDiff, Nat.reduceAdd, Nat.reduceLeDiff, hG, p1, p2, p3, p4, hA, hB, y1, y2, hlen, e2, e3, e6, e30, e31, e32, l2, l3, nc_h, okPtr_h, cellAt_h, q0, c1, c1']
    refine hK _ _ ?_; clear hK K hG G; repeat (first | refine thenI ?_ | refine thenE ?_ | refine thenR ?_ | refine inBI ?_ | refine inBR ?_ | refine inBS ?_ | refine inBN (by decide) ?_)
    repeat (first | ((first | refine W_reg rfl fun G K hG hK => ?_ | refine W_end rfl fun G K hG hK => ?_); simp (disch := omega) only [go_sem, ↓reduceIte, Nat.reduceEqDiff, Nat.reduceAdd, Nat.reduceLeDiff, hG, p1, p2, p3, p4, hA, hB, y1, y2, hlen, e2, e3, e6, e30, e31, e32, l2, l3, c1, c1']; refine hK _ _ ?_; clear hK K hG G) | refine W_seqS ?_ | refine W_seqC ?_ | refine W_seqB ?_ | refine W_block ?_ | refine W_skip ?_ | (refine W_condT ?hc ?_; (case hc => (simp (disch := omega) only [go_sem, ↓reduceIte, Nat.reduceEqDiff, Nat.reduceAdd, Nat.reduceLeDiff, p1, p2, p3, p4, hA, hB, y1, y2, hlen, e2, e3, e6, e30, e31, e32, l2, l3, c1, c1']; done))) | (refine W_condF ?hc ?_; (case hc => (simp (disch := omega) only [go_sem, ↓reduceIte, Nat.reduceEqDiff, Nat.reduceAdd, Nat.reduceLeDiff, p1, p2, p3, p4, hA, hB, y1, y2, hlen, e2, e3, e6, e30, e31, e32, l2, l3, c1, c1']; done))) | refine thenI ?_ | refine thenE ?_ | refine thenR ?_ | refine inBI ?_ | refine inBR ?_ | refine inBS ?_ | refine inBN (by decide) ?_)
    (repeat (first | refine W_seqS ?_ | refine W_seqC ?_ | refine W_seqB ?_ | refine W_block ?_)); refine W_reg rfl fun G K hG hK => ?_; simp (disch := omega) only [go_sem, ↓reduceIte, Nat.reduceEqDiff, Nat.reduceAdd, Nat.reduceLeDiff, hG, p1, p2, p3, p4, hA, hB, y1, y2, hlen, e2, e3, e6, e30, e31, e32, l2, l3]
    refine w_call (l8Step_ok (st.length + 2) p.1 p.2 bs rest' st' hz (by omega) hlbs hq1 hq2 (by omega) (by omega) (by omega)) (by simp (disch := omega) only [go_sem, ↓reduceIte, Nat.reduceEqDiff, p1, p2, p3, p4, hA, hB, y1, y2, hlen, e2, e3, e6, e30, e31, e32, l2, l3]) ?hl ?_
    case hl => first | rfl | (simp only [go_sem, List.all_cons, List.all_nil, Bool.not_false, Bool.and_self, p1, p2, p3, p4, hA, hB, y1, y2, hlen, e2, e3, e6, e30, e31, e32, l2, l3]; done)
    rintro r_ sa ⟨aw, htr⟩; refine ⟨fun e => (by cases e), ?_⟩
    have xa : Ext st sa := aw.ext_of hext (.inr ⟨_, by omega, rfl⟩)
    cases hst : stepU bs (p.1.sub bs) (p.2.sub bs) with
    | none =>
      rw [hst] at htr hu
      simp only at htr hu
      subst htr
      cases hu
      simp (disch := omega) only [go_sem, ↓reduceIte, Nat.reduceEqDiff, Nat.reduceAdd, Nat.reduceLeDiff, hG, p1, p2, p3, p4, hA, hB, y1, y2, hlen, e2, e3, e6, e30, e31, e32, l2, l3]; refine hK _ _ ?_; clear hK K hG G; repeat (first | refine thenI ?_ | refine thenE ?_ | refine thenR ?_ | refine inBI ?_ | refine inBR ?_ | refine inBS ?_ | refine inBN (by decide) ?_)
      repeat (first | ((first | refine W_reg rfl fun G K hG hK => ?_ | refine W_end rfl fun G K hG hK => ?_); simp (disch := omega) only [go_sem, ↓reduceIte, Nat.reduceEqDiff, Nat.reduceAdd, Nat.reduceLeDiff, hG, p1, p2, p3, p4, hA, hB, y1, y2, hlen, e2, e3, e6, e30, e31, e32, l2, l3]; refine hK _ _ ?_; clear hK K hG G) | refine W_seqS ?_ | refine W_seqC ?_ | refine W_seqB ?_ | refine W_block ?_ | refine W_skip ?_ | (refine W_condT ?hc ?_; (case hc => (simp (disch := omega) only [go_sem, ↓reduceIte, Nat.reduceEqDiff, Nat.reduceAdd, Nat.reduceLeDiff, p1, p2, p3, p4, hA, hB, y1, y2, hlen, e2, e3, e6, e30, e31, e32, l2, l3]; done))) | (refine W_condF ?hc ?_; (case hc => (simp (disch := omega) only [go_sem, ↓reduceIte, Nat.reduceEqDiff, Nat.reduceAdd, Nat.reduceLeDiff, p1, p2, p3, p4, hA, hB, y1, y2, hlen, e2, e3, e6, e30, e31, e32, l2, l3]; done))) | refine thenI ?_ | refine thenE ?_ | refine thenR ?_ | refine inBI ?_ | refine inBR ?_ | refine inBS ?_ | refine inBN (by decide) ?_)
      refine W_ret ?_; try (repeat (first | refine thenI ?_ | refine thenE ?_ | refine thenR ?_ | refine inBI ?_ | refine inBR ?_ | refine inBS ?_ | refine inBN (by decide) ?_))
      refine fin2 (.inl rfl) (by (simp (disch := omega) only [go_sem, ↓reduceIte, Nat.reduceEqDiff, Nat.reduceAdd, Nat.reduceLeDiff, p1, p2, p3, p4, hA, hB, y1, y2, hlen, e2, e3, e6, e30, e31, e32, l2, l3]); try rfl) rfl (by (simp (disch := omega) only [go_sem, ↓reduceIte, Nat.reduceEqDiff, Nat.reduceAdd, Nat.reduceLeDiff, p1, p2, p3, p4, hA, hB, y1, y2, hlen, e2, e3, e6, e30, e31, e32, l2, l3]); try rfl) rfl ⟨xa.trans (Ext.app _ _), _, [sa.length], rfl, Sl.empty sa, ⟨by simp, by simpa using xa.length⟩⟩
    | some w =>
    obtain ⟨bs', more⟩ := w
    rw [hst] at htr hu
    simp only at htr hu
    obtain ⟨rfl, hz2⟩ := htr
    have hz3 := hz2
    obtain ⟨vl2, vr2, vs2, hqq, hrl2, hrr2, hrs2⟩ := hz3
    have u2 := z_cell2 hqq
    have y3 := hrs2.notLoc.1
    have hR2 : Rw sa bs' vs2 := rwB_ci ci_bl hrs2
    have hbs' := stepU_bs hst hI.c400 (C := 419430800) (by omega) (by omega) hlbs (Lim.of_count _ (by omega)) (Lim.of_count _ (by omega))
    have hbl' := stepU_len hst
    simp (disch := omega) only [go_sem, ↓reduceIte, Nat.reduceEqDiff, Nat.reduceAdd, Nat.reduceLeDiff, p1, p2, p3, p4, hA, hB, y1, y2, hlen, e2, e3, e6, e30, e31, e32, l2, l3, hG, nc_h, okPtr_h, cellAt_h, u2, y3]
    refine w_call (l8Large_ok bs' sa vs2 (by omega) (fun x hx => (hbs' x hx).2) hR2) (by simp (disch := omega) only [go_sem, ↓reduceIte, Nat.reduceEqDiff, p1, p2, p3, p4, hA, hB, y1, y2, hlen, e2, e3, e6, e30, e31, e32, l2, l3, y3]) ?hl ?_
    case hl => first | rfl | (simp only [go_sem, List.all_cons, List.all_nil, Bool.not_false, Bool.and_self, p1, p2, p3, p4, hA, hB, y1, y2, hlen, e2, e3, e6, e30, e31, e32, l2, l3, y3]; done)
    rintro r_ sa ⟨rfl, rfl⟩; refine ⟨fun e => (by cases e), ?_⟩
    cases hbig : bigB bs' with
    | true =>
      rw [if_pos hbig] at hu
      cases hu
      simp (disch := omega) only [go_sem, ↓reduceIte, Nat.reduceEqDiff, Nat.reduceAdd, Nat.reduceLeDiff, hG, p1, p2, p3, p4, hA, hB, y1, y2, hlen, e2, e3, e6, e30, e31, e32, l2, l3]; refine hK _ _ ?_; clear hK K hG G; repeat (first | refine thenI ?_ | refine thenE ?_ | refine thenR ?_ | refine inBI ?_ | refine inBR ?_ | refine inBS ?_ | refine inBN (by decide) ?_)
      repeat (first | ((first | refine W_reg rfl fun G K hG hK => ?_ | refine W_end rfl fun G K hG hK => ?_); simp (disch := omega) only [go_sem, ↓reduceIte, Nat.reduceEqDiff, Nat.reduceAdd, Nat.reduceLeDiff, hG, p1, p2, p3, p4, hA, hB, y1, y2, hlen, e2, e3, e6, e30, e31, e32, l2, l3]; refine hK _ _ ?_; clear hK K hG G) | refine W_seqS ?_ | refine W_seqC ?_ | refine W_seqB ?_ | refine W_block ?_ | refine W_skip ?_ | (refine W_condT ?hc ?_; (case hc => (simp (disch := omega) only [go_sem, ↓reduceIte, Nat.reduceEqDiff, Nat.reduceAdd, Nat.reduceLeDiff, p1, p2, p3, p4, hA, hB, y1, y2, hlen, e2, e3, e6, e30, e31, e32, l2, l3]; done))) | (refine W_condF ?hc ?_; (case hc => (simp (disch := omega) only [go_sem, ↓reduceIte, Nat.reduceEqDiff, Nat.reduceAdd, Nat.reduceLeDiff, p1, p2, p3, p4, hA, hB, y1, y2, hlen, e2, e3, e6, e30, e31, e32, l2, l3]; done))) | refine thenI ?_ | refine thenE ?_ | refine thenR ?_ | refine inBI ?_ | refine inBR ?_ | refine inBS ?_ | refine inBN (by decide) ?_)
      refine W_ret ?_; try (repeat (first | refine thenI ?_ | refine thenE ?_ | refine thenR ?_ | refine inBI ?_ | refine inBR ?_ | refine inBS ?_ | refine inBN (by decide) ?_))
      refine fin2 (.inl rfl) (by (simp (disch := omega) only [go_sem, ↓reduceIte, Nat.reduceEqDiff, Nat.reduceAdd, Nat.reduceLeDiff, p1, p2, p3, p4, hA, hB, y1, y2, hlen, e2, e3, e6, e30, e31, e32, l2, l3]); try rfl) rfl (by (simp (disch := omega) only [go_sem, ↓reduceIte, Nat.reduceEqDiff, Nat.reduceAdd, Nat.reduceLeDiff, p1, p2, p3, p4, hA, hB, y1, y2, hlen, e2, e3, e6, e30, e31, e32, l2, l3]); try rfl) rfl ⟨xa.trans (Ext.app _ _), _, [sa.length], rfl, Sl.empty sa, ⟨by simp, by simpa using xa.length⟩⟩
    | false =>
      rw [if_neg (by rw [hbig]; simp)] at hu
      obtain ⟨hI', _⟩ := hI.step hst hbig
      have hlr2 : ∀ p ∈ more ++ rest', Lim 1073741824 p.1 ∧ Lim 1073741824 p.2 := fun p' hp' => by
        rcases List.mem_append.1 hp' with hp' | hp'
        · exact stepU_more hst (Lim.of_count _ (by omega)) (Lim.of_count _ (by omega)) p' hp'
        · exact hlr p' (by simp [hp'])
      have hNM : N - (j + 1) = M := by omega
      simp (disch := omega) only [go_sem, ↓reduceIte, Nat.reduceEqDiff, Nat.reduceAdd, Nat.reduceLeDiff, hG, p1, p2, p3, p4, hA, hB, y1, y2, hlen, e2, e3, e6, e30, e31, e32, l2, l3]; refine hK _ _ ?_; clear hK K hG G; repeat (first | refine thenI ?_ | refine thenE ?_ | refine thenR ?_ | refine inBI ?_ | refine inBR ?_ | refine inBS ?_ | refine inBN (by decide) ?_)
      repeat (first | ((first | refine W_reg rfl fun G K hG hK => ?_ | refine W_end rfl fun G K hG hK => ?_); simp (disch := omega) only [go_sem, ↓reduceIte, Nat.reduceEqDiff, Nat.reduceAdd, Nat.reduceLeDiff, hG, p1, p2, p3, p4, hA, hB, y1, y2, hlen, e2, e3, e6, e30, e31, e32, l2, l3]; refine hK _ _ ?_; clear hK K hG G) | refine W_seqS ?_ | refine W_seqC ?_ | refine W_seqB ?_ | refine W_block ?_ | refine W_skip ?_ | (refine W_condT ?hc ?_; (case hc => (simp (disch := omega) only [go_sem, ↓reduceIte, Nat.reduceEqDiff, Nat.reduceAdd, Nat.reduceLeDiff, p1, p2, p3, p4, hA, hB, y1, y2, hlen, e2, e3, e6, e30, e31, e32, l2, l3]; done))) | (refine W_condF ?hc ?_; (case hc => (simp (disch := omega) only [go_sem, ↓reduceIte, Nat.reduceEqDiff, Nat.reduceAdd, Nat.reduceLeDiff, p1, p2, p3, p4, hA, hB, y1, y2, hlen, e2, e3, e6, e30, e31, e32, l2, l3]; done))) | refine thenI ?_ | refine thenE ?_ | refine thenR ?_ | refine inBI ?_ | refine inBR ?_ | refine inBS ?_ | refine inBN (by decide) ?_)
      refine ⟨N - (j + 1), by omega, j + 1, bs', more ++ rest', rfl, by omega, xa, hI', by rw [hNM]; exact hu, hz2, hlr2, (by (simp (disch := omega) only [go_sem, ↓reduceIte, Nat.reduceEqDiff, Nat.reduceAdd, Nat.reduceLeDiff, p1, p2, p3, p4, hA, hB, y1, y2, hlen, e2, e3, e6, e30, e31, e32, l2, l3]); try rfl), (by (simp (disch := omega) only [go_sem, ↓reduceIte, Nat.reduceEqDiff, Nat.reduceAdd, Nat.reduceLeDiff, p1, p2, p3, p4, hA, hB, y1, y2, hlen, e2, e3, e6, e30, e31, e32, l2, l3]); try rfl), (by (simp (disch := omega) only [go_sem, ↓reduceIte, Nat.reduceEqDiff, Nat.reduceAdd, Nat.reduceLeDiff, p1, p2, p3, p4, hA, hB, y1, y2, hlen, e2, e3, e6, e30, e31, e32, l2, l3]); try rfl), (by (simp (disch := omega) only [go_sem, ↓reduceIte, Nat.reduceEqDiff, Nat.reduceAdd, Nat.reduceLeDiff, p1, p2, p3, p4, hA, hB, y1, y2, hlen, e2, e3, e6, e30, e31, e32, l2, l3]); try rfl), (by (simp (disch := omega) only [go_sem, ↓reduceIte, Nat.reduceEqDiff, Nat.reduceAdd, Nat.reduceLeDiff, p1, p2, p3, p4, hA, hB, y1, y2, hlen, e2, e3, e6, e30, e31, e32, l2, l3]); try rfl), (by (simp (disch := omega) only [go_sem, ↓reduceIte, Nat.reduceEqDiff, Nat.reduceAdd, Nat.reduceLeDiff, p1, p2, p3, p4, hA, hB, y1, y2, hlen, e2, e3, e6, e30, e31, e32, l2, l3]); try rfl), (by (simp (disch := omega) only [go_sem, ↓reduceIte, Nat.reduceEqDiff, Nat.reduceAdd, Nat.reduceLeDiff, p1, p2, p3, p4, hA, hB, y1, y2, hlen, e2, e3, e6, e30, e31, e32, l2, l3]); try rfl), (by (simp (disch := omega) only [go_sem, ↓reduceIte, Nat.reduceEqDiff, Nat.reduceAdd, Nat.reduceLeDiff, p1, p2, p3, p4, hA, hB, y1, y2, hlen, e2, e3, e6, e30, e31, e32, l2, l3]); try rfl)⟩

end

end Go.Proofs.Ytoeibmfdafilcaa.AM
/- Arguments: rows of bindings. -/
namespace Go.Proofs.Ytoeibmfdafilcaa.AM
open Go Go.Proofs
set_option linter.unusedVariables false
end Go.Proofs.Ytoeibmfdafilcaa.AM


/- What the laws of bindings share. -/
namespace Go.Proofs.Ytoeibmfdafilcaa.AM
open Go Go.Proofs
set_option linter.unusedVariables false
set_option linter.unusedSimpArgs false

theorem limB_le {xs : List Bnd} (h : ∀ b ∈ xs, Lim 1073741824 b.tm) : ∀ b ∈ xs, Lim 4611686018427387904 b.tm := fun b hb => Lim.le (by omega) _ (h b hb)
end Go.Proofs.Ytoeibmfdafilcaa.AM


/- Lemmas of the laws RestrictSubst, MatchTerm, VarsOfTerm. -/
namespace Go.Proofs.Ytoeibmfdafilcaa.AM
open Go Go.Proofs
set_option linter.unusedVariables false
set_option linter.unusedSimpArgs false
set_option maxRecDepth 100000

theorem size_of_toList {a b : ByteArray} (h : a.toList = b.toList) : a.size = b.size := by
  rw [Lib.toList_data, Lib.toList_data] at h
  have : a = b := ByteArray.ext (Array.ext' h)
  rw [this]
theorem findB_nm {nm : ByteArray} {t : T} : ∀ {bs : List Bnd}, findB nm bs = some t → ∃ b ∈ bs, b.tm = t ∧ b.nm.size = nm.size := by
  intro bs
  induction bs with
  | nil => intro h; cases h
  | cons b bs ih =>
    intro h
    simp only [findB] at h
    split at h
    · cases h
      rename_i hq
      exact ⟨b, by simp, rfl, size_of_toList (by simpa using hq)⟩
    · obtain ⟨c, h1, h2⟩ := ih h
      exact ⟨c, by simp [h1], h2⟩
theorem restr_mem {bs : List Bnd} {ns : List ByteArray} {x : Bnd} (h : x ∈ restr bs ns) : findB x.nm bs = some x.tm := by
  unfold restr at h
  obtain ⟨n, hn, h2⟩ := List.mem_filterMap.1 h
  cases hf : findB n bs with
  | none => rw [hf] at h2; cases h2
  | some t => rw [hf] at h2; cases h2; exact hf
theorem Lim.restr {B : Nat} {bs : List Bnd} {ns : List ByteArray} (h : ∀ b ∈ bs, Lim B b.tm) : ∀ b ∈ AM.restr bs ns, Lim B b.tm := fun x hx => by
  obtain ⟨b, h1, h2, _⟩ := findB_nm (restr_mem hx)
  rw [← h2]; exact h b h1
end Go.Proofs.Ytoeibmfdafilcaa.AM


/- What the unification yields is small. -/
namespace Go.Proofs.Ytoeibmfdafilcaa.AM
open Go Go.Proofs
set_option linter.unusedVariables false
set_option linter.unusedSimpArgs false
set_option maxRecDepth 100000

theorem T.mkL_count (ts : List T) (k : Nat) (ih : ∀ t ∈ ts, ∀ k, (t.mk1 k).2 ≤ k + 3 * t.count) : (T.mkL ts k).2 ≤ k + 3 * T.countL ts := by
  induction ts generalizing k with
  | nil => simp [T.mkL]
  | cons t ts iht =>
    have h1 := ih t (by simp) k
    have h2 := iht (t.mk1 k).2 fun x hx => ih x (by simp [hx])
    simp only [T.mkL, T.countL]
    omega
theorem T.mk1_count : ∀ (t : T) (k : Nat), (t.mk1 k).2 ≤ k + 3 * t.count := by
  refine T.ind fun k0 n nm args ih k => ?_
  have h := T.mkL_count args (k + 3) ih
  simp only [T.mk1, T.count]
  omega
theorem mkB_count (xs : List Bnd) (k C : Nat) (h : ∀ b ∈ xs, b.tm.count ≤ C) : (mkL xs k).2 ≤ k + xs.length * (1 + 3 * C) := by
  induction xs generalizing k with
  | nil => simp [mkL]
  | cons x xs ih =>
    have h1 := T.mk1_count x.tm (k + 1)
    have h2 := ih (Marks.mk1 x k).2 fun b hb => h b (by simp [hb])
    have h3 : (Marks.mk1 x k).2 = (x.tm.mk1 (k + 1)).2 := rfl
    have h4 := h x (by simp)
    have h5 : (mkL (x :: xs) k).2 = (mkL xs (Marks.mk1 x k).2).2 := rfl
    rw [h5, List.length_cons, Nat.add_mul]
    omega
theorem uni_inv {V : List ByteArray} {a0 b0 : T} {bs' : List Bnd} : ∀ (n : Nat) (bs : List Bnd) (rest : List (T × T)), UInv V a0 b0 bs rest → uni n bs rest = some (some bs') → UInv V a0 b0 bs' [] := by
  intro n
  induction n with
  | zero =>
    intro bs rest h hu
    cases rest with
    | nil => rw [uni_nil] at hu; cases hu; exact h
    | cons p rest => cases hu
  | succ n ih =>
    intro bs rest h hu
    cases rest with
    | nil => rw [uni_nil] at hu; cases hu; exact h
    | cons p rest =>
      obtain ⟨a, b⟩ := p
      cases hst : stepU bs (a.sub bs) (b.sub bs) with
      | none => simp only [uni, hst] at hu; cases hu
      | some q =>
        obtain ⟨bs1, more⟩ := q
        cases hb : bigB bs1 with
        | true => simp only [uni, hst, hb, if_true] at hu; cases hu
        | false =>
          simp only [uni, hst, hb] at hu
          exact ih bs1 (more ++ rest) (h.step hst hb).1 hu
theorem ures_ok (a b : T) (n : Nat) (res : Option (List Bnd)) (hu : uni n [] [(a, b)] = some res) : (∀ x ∈ uresB a b res, x.tm.count ≤ 400) ∧ (uresB a b res).length ≤ (T.vars a).length + (T.vars b).length := by
  cases res with
  | none => exact ⟨fun x hx => (by cases hx), by simp [uresB]⟩
  | some bs =>
    have hI := uni_inv n [] [(a, b)] (UInv.start a b) hu
    refine ⟨fun x hx => ?_, ?_⟩
    · obtain ⟨c, h1, h2, _⟩ := findB_nm (restr_mem hx)
      rw [← h2]; exact hI.c400 c h1
    · have h1 := restr_len bs (namesB (namesB (T.vars a) ++ namesB (T.vars b)))
      have h2 := names_length (namesB (T.vars a) ++ namesB (T.vars b))
      have h3 := names_length (T.vars a)
      have h4 := names_length (T.vars b)
      rw [List.length_append] at h2
      show (restr bs _).length ≤ _
      omega
end Go.Proofs.Ytoeibmfdafilcaa.AM

