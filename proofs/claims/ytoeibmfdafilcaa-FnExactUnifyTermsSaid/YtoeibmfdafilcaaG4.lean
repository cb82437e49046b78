/- My texts for the law, laid together (part 4): C28 C18 S1 C3 O3 A19 C4 Q5 Q6 PL1 O1 O2 O4 C29 C30 C31. -/
import Derived.Test.YtoeibmfdafilcaaG3
import Derived.Lib.Strings
import Derived.Test.YtoeibmfdafilcaaA18
import Derived.Sort.Walk0
namespace Go.Proofs.Ytoeibmfdafilcaa.AM
open Go
attribute [local go_sem] List.map_cons List.map_nil List.all_cons List.all_nil Bool.and_self Option.map_some List.getElem?_toArray Option.bind_some gye_b gye_t gsk_b gsk_t gb1 gb2 gb3 gb4 bne_self_eq_false beq_self_eq_true w_guard w_nil stepV_some step_some step_some' w_move w_assign w_pick w_binOp w_unOp w_load w_fieldAddr w_indexAddr w_len w_max w_index ev_max max_int ev_index w_box w_alloc w_store w_field w_extract w_nilCheck w_convert w_buildSlice w_build ev_buildL fillL_nil fillL_cons bs0 bs1 ev_conv ev_bin ev_un ev_pick ev_load ev_fieldAddr ev_indexAddr ev_len ev_field ev_extract ev_nilCheck fr_tmp fr_int fr_bool fr_str fr_nil fr_func put_some put_none bin_lss bin_leq bin_gtr bin_geq bin_eql bin_neq bin_add bin_sub bin_mul bin_seql bin_sneq un_not pick_ ext_ loadA_p cellAt_l cellAt_h okPtr_l okPtr_h fadA_p allocA_l storeA_l cells_agg cells_int cells_str cells_sl cells_bool flat_i flat_s flat_b flat_sl flat_nil loc_agg loc_int loc_str loc_sl loc_bool loc_fn loc_ptr okv_agg okv_int okv_str okv_sl okv_bool cellsFrom splice upd_eval argEnv_zero argEnv_succ ne_eq Nat.add_one_ne_zero not_false_eq_true List.not_mem_nil and_self decide_true List.getElem?_cons_zero List.getElem?_cons_succ List.size_toArray List.length_cons List.length_nil List.take_succ_cons List.take_zero List.drop_succ_cons List.drop_zero List.cons_append List.nil_append List.drop_nil Bool.not_true Bool.not_false Bool.false_eq_true Nat.zero_add Nat.add_zero wrap_in List.toList_toArray List.mem_cons or_self or_false false_or
attribute [local go_sem] ag22 ag24 ag26 ag29 ag3 ag31 ag49 ag54 ag9 ag91 bu31 bu41 bu49 bu54 by31 by49 by54 by9 el22 el26 el29 el45 el50 el68 of24_0 of24_1 of24_2 of24_3 of31_0 of31_1 of31_2 of31_3 of41_0 of41_1 of41_2 of49_0 of49_1 of54_0 of54_1 ro31_0 ro31_1 ro49_1 ro5_1 ro54_0 ro54_1 ro9_0 ro9_1 sz22 sz24 sz26 sz29 sz3 sz31 sz49 sz5 sz54 sz9 sz91 ze3 ze31 ze49 ze54 ze9 ze91
section
/- One equation is treated: impl.treat. -/
open Go Go.Proofs
set_option linter.unusedVariables false
set_option linter.unusedSimpArgs false
set_option maxRecDepth 100000
-- AUTO

theorem fin3 {P : Program} {st : St} {F : Value → St → Prop} {env : Nat → Value} {loc : Nat → Nat × List Value} {t u w : Tmp} {x : Ex} (hx : x = .ret ∨ x = .normal) {v v' v'' : Value} (hv : env t = v) (hl : isLoc v = false) (hv' : env u = v') (hl' : isLoc v' = false) (hv'' : env w = v'') (hl'' : isLoc v'' = false) (hq : F (.tuple #[v, v', v'']) st) : Fin P [.tmp t, .tmp u, .tmp w] F x ⟨env, loc⟩ st := by
  have : ∃ r, resA P [.tmp t, .tmp u, .tmp w] ⟨env, loc⟩ st = some r ∧ F r st := ⟨.tuple #[v, v', v''], by simp [resA, resL, resV, hv, hv', hv'', hl, hl', hl''], hq⟩
  rcases hx with rfl | rfl <;> exact this
/-- Two terms, in a store. -/
def E2 (s : St) (p : T × T) (cs : List Value) : Prop := ∃ c1 c2, cs = c1 ++ c2 ∧ Enc s p.1 c1 ∧ Enc s p.2 c2
theorem Enc.len {s : St} {t : T} {cs : List Value} (h : Enc s t cs) : cs.length = 4 := by
  cases t
  obtain ⟨z, rfl, _⟩ := h.open
  rfl
theorem E2.len {s : St} {p : T × T} {cs : List Value} (h : E2 s p cs) : cs.length = 8 := by
  obtain ⟨c1, c2, rfl, h1, h2⟩ := h
  rw [List.length_append, h1.len, h2.len]
theorem E2.ext {s s' : St} (hx : Ext s s') {p : T × T} {cs : List Value} (h : E2 s p cs) : E2 s' p cs := by
  obtain ⟨c1, c2, rfl, h1, h2⟩ := h
  exact ⟨c1, c2, rfl, Enc.ext hx _ _ h1, Enc.ext hx _ _ h2⟩
/-- Equations whose terms stand in a store, in a row of one's own. -/
abbrev SlP (s st : St) (ps : List (T × T)) (v : Value) (L : List Nat) : Prop := SliceO (fun p cs Lx => E2 s p cs ∧ Lx = []) 49 st ps v L
theorem SlP.mono {s s' st : St} (hx : Ext s s') {ps : List (T × T)} {v : Value} {L : List Nat} (h : SlP s st ps v L) : SlP s' st ps v L := by
  rcases h with h | ⟨i, c, cs, K, h1, h2, h3, h4⟩
  · exact .inl h
  · exact .inr ⟨i, c, cs, K, h1, h2, h3.mono fun p _ cx Lx _ he => ⟨he.1.ext hx, he.2⟩, h4⟩
theorem SlP.row {s st : St} {ps : List (T × T)} {v : Value} {L : List Nat} (h : SlP s st ps v L) : Row (E2 s) 8 st ps v := SliceO.row (fun x cx Lx h => h.1.len) (fun x _ cx Lx h => h.1) h
theorem SlP.push {s st : St} {n0 : Nat} {ps : List (T × T)} {v : Value} {L : List Nat} {p : T × T} {cx : List Value} (h : SlP s st ps v L) (hf : Fresh n0 L) (hn : n0 ≤ st.length) (hx : E2 s p cx) (hb : ps.length + 1 ≤ 274877906944) :
    ∃ v' st' L', appendA Try.prog 50 50 v (.slice (some ⟨st.length, 0, none⟩) 1 1) (st ++ [⟨cx, 49, 0⟩]) = some (v', st') ∧ SlP s st' (ps ++ [p]) v' L' ∧ Fresh n0 L' ∧ Grow st v st' v' := by
  obtain ⟨v', st', L', h1, h2, h3, h4⟩ := SliceO.app (E := fun (_ : St) p cs Lx => E2 s p cs ∧ Lx = []) (fun _ _ _ _ _ _ h => h) (fun _ _ _ _ h => by rw [h.2]; simp) (sz := 7) (fun _ _ _ _ h => h.1.len) (ys := [p]) (u := 50) Try.underlying50 sz49 by49 ze49 rfl h hf hn (Ext.app _ [⟨cx, 49, 0⟩]) (newsA_1 Try.underlying50 hx.len) (RowO.one ⟨hx, rfl⟩) ⟨by simp, by simp⟩ (by simp only [List.length_cons, List.length_nil]; omega) (by simp only [List.length_cons, List.length_nil]; omega)
  exact ⟨v', st', L', h1, h2, h3, (Grow.of_ext (Ext.app _ _) v).trans h4⟩
theorem SlP.app {s st : St} {n0 : Nat} {ps qs : List (T × T)} {v y : Value} {L : List Nat} (h : SlP s st ps v L) (hf : Fresh n0 L) (hn : n0 ≤ st.length) (hy : Row (E2 s) 8 st qs y) (hb : ps.length + qs.length ≤ 274877906944) :
    ∃ v' st' L', appendA Try.prog 50 50 v y st = some (v', st') ∧ SlP s st' (ps ++ qs) v' L' ∧ Fresh n0 L' ∧ Grow st v st' v' := by
  obtain ⟨cy, hnw, hro⟩ := newsA_row (P := Try.prog) (u := 50) hy Try.underlying50
  exact SliceO.app (E := fun (_ : St) p cs Lx => E2 s p cs ∧ Lx = []) (fun _ _ _ _ _ _ h => h) (fun _ _ _ _ h => by rw [h.2]; simp) (sz := 7) (fun _ _ _ _ h => h.1.len) Try.underlying50 sz49 by49 ze49 rfl h hf hn (Ext.refl st) hnw hro ⟨by simp, by simp⟩ (by omega) (by omega)
/-- What impl.treat answers. -/
def TrQ (bs : List Bnd) (X Y : T) (st : St) (r : Value) (st2 : St) : Prop := Ext st st2 ∧ match stepU bs X Y with
  | some (bs', more) => ∃ sl se L s1, r = .tuple #[sl, se, .bool true] ∧ Rw s1 bs' sl ∧ Ext st s1 ∧ Ext s1 st2 ∧ SlP s1 st2 more se L ∧ Fresh s1.length L
  | none => r = .tuple #[.slice none 0 0, .slice none 0 0, .bool false]
theorem row_one (st : St) (b : Bnd) (cs : List Value) (h : EncB (st ++ [(⟨cs, 54, 0⟩ : Blk)]) b cs) : Rw (st ++ [(⟨cs, 54, 0⟩ : Blk)]) [b] (.slice (some ⟨st.length, 0, none⟩) 1 1) := by
  refine .inr ⟨st.length, 0, 1, rfl, fun j x hx => ?_⟩
  have hj : j = 0 := by have := (List.getElem?_eq_some_iff.1 hx).1; simp at this; omega
  subst hj
  obtain rfl : b = x := by simpa using hx
  refine ⟨cs, Kind.enc_len _ _ _ h, h, fun k v hv => ?_⟩
  rw [show 0 + 0 * Kind.sz Bnd + k = k by omega]
  simp [cell, hv]
set_option maxHeartbeats 2000000 in
theorem treat_ok (bs : List Bnd) (a b : T) (st : St) (cs : List Value) (sl : Value) (hbb : bs.length ≤ 1073741824) (hlb : ∀ x ∈ bs, Lim 1073741824 x.tm) (hla : Lim 1073741824 a) (hlb2 : Lim 1073741824 b)
    (hca : (a.sub bs).count ≤ 1073741824) (hcb : (b.sub bs).count ≤ 1073741824) (hE : E2 st (a, b) cs) (hR : Rw st bs sl) :
    CallS Try.prog 19 [.agg cs.toArray, sl] st (TrQ bs (a.sub bs) (b.sub bs) st) := by
  obtain ⟨c1, c2, rfl, hE1, hE2⟩ := hE
  simp only at hE1 hE2
  obtain ⟨k1, n1, m1, as1, he1⟩ := T.eta a
  obtain ⟨k2, n2, m2, as2, he2⟩ := T.eta b
  have hE1' := hE1
  have hE2' := hE2
  rw [he1] at hE1'
  rw [he2] at hE2'
  obtain ⟨s1, rfl, hr1⟩ := hE1'.open
  obtain ⟨s2, rfl, hr2⟩ := hE2'.open
  refine CallS_of_W [] 95 Try.func19 rfl rfl rfl rfl (by simp) ?_
  have p1 := hr1.notLoc.1
  have p2 := hr1.notLoc.2
  have p3 := hr2.notLoc.1
  have p4 := hr2.notLoc.2
  have p5 := hR.notLoc.1
  repeat (first | ((first | refine W_reg rfl fun G K hG hK => ?_ | refine W_end rfl fun G K hG hK => ?_); simp (disch := omega) only [go_sem, ↓reduceIte, Nat.reduceEqDiff, Nat.reduceAdd, Nat.reduceLeDiff, hG, p1, p2, p3, p4, p5]; refine hK _ _ ?_; clear hK K hG G) | refine W_seqS ?_ | refine W_seqC ?_ | refine W_seqB ?_ | refine W_block ?_ | refine W_skip ?_ | (refine W_condT ?hc ?_; (case hc => (simp (disch := omega) only [go_sem, ↓reduceIte, Nat.reduceEqDiff, Nat.reduceAdd, Nat.reduceLeDiff, p1, p2, p3, p4, p5]; done))) | (refine W_condF ?hc ?_; (case hc => (simp (disch := omega) only [go_sem, ↓reduceIte, Nat.reduceEqDiff, Nat.reduceAdd, Nat.reduceLeDiff, p1, p2, p3, p4, p5]; done))) | refine thenI ?_ | refine thenE ?_ | refine thenR ?_ | refine inBI ?_ | refine inBR ?_ | refine inBS ?_ | refine inBN (by decide) ?_)
  (repeat (first | refine W_seqS ?_ | refine W_seqC ?_ | refine W_seqB ?_ | refine W_block ?_)); refine W_regD mixed [7, 8] [(0,false),(1,false),(2,false),(4,false),(5,false),(6,false),(8,false),(9,false),(3,true),(7,true),(10,false),(11,false)] rfl (by decide +kernel) fun G K hG hK => ?_; simp only [pickOps, List.filterMap_cons, List.filterMap_nil, List.getElem?_cons_zero, List.getElem?_cons_succ, Option.map_some]; simp (disch := omega) only [go_sem, ↓reduceIte, Nat.reduceEqDiff, Nat.reduceAdd, Nat.reduceLeDiff, hG, p1, p2, p3, p4, p5]
  refine w_call (implSub_ok bs sl hbb hlb a st _ hla hE1 hR) (by simp (disch := omega) only [go_sem, ↓reduceIte, Nat.reduceEqDiff, p1, p2, p3, p4, p5]) ?hl ?_
  case hl => first | rfl | (simp only [go_sem, List.all_cons, List.all_nil, Bool.not_false, Bool.and_self, p1, p2, p3, p4, p5]; done)
  rintro r_ sa ⟨x1, ds, L1, rfl, ho1, hf1⟩; refine ⟨fun e => x1, ?_⟩
  obtain ⟨kx, nx, mx, zx, rfl, a1, a2, a3⟩ := ho1.args_cells
  simp (disch := omega) only [go_sem, ↓reduceIte, Nat.reduceEqDiff, Nat.reduceAdd, Nat.reduceLeDiff, p1, p2, p3, p4, p5, a1, a2, a3]
  refine w_call (implSub_ok bs sl hbb hlb b sa _ hlb2 (Enc.ext x1 _ _ hE2) (hR.ext x1)) (by simp (disch := omega) only [go_sem, ↓reduceIte, Nat.reduceEqDiff, p1, p2, p3, p4, p5, a1, a2, a3]) ?hl ?_
  case hl => first | rfl | (simp only [go_sem, List.all_cons, List.all_nil, Bool.not_false, Bool.and_self, p1, p2, p3, p4, p5, a1, a2, a3]; done)
  rintro r_ sb ⟨x2, es, L2, rfl, ho2, hf2⟩; refine ⟨fun e => x2, ?_⟩
  obtain ⟨ky, ny, my, zy, rfl, b1, b2, b3⟩ := ho2.args_cells
  simp (disch := omega) only [go_sem, ↓reduceIte, Nat.reduceEqDiff, Nat.reduceAdd, Nat.reduceLeDiff, hG, p1, p2, p3, p4, p5, a1, a2, a3, b1, b2, b3]; refine hK _ _ ?_; clear hK K hG G; repeat (first | refine thenI ?_ | refine thenE ?_ | refine thenR ?_ | refine inBI ?_ | refine inBR ?_ | refine inBS ?_ | refine inBN (by decide) ?_)
  have hX := (own_ext (α := T) ho1 x2)
  have hXe : Enc sb (a.sub bs) [.int .i64 kx, .int .i64 nx, .string mx, zx] := hX.enc
  have hYe : Enc sb (b.sub bs) [.int .i64 ky, .int .i64 ny, .string my, zy] := ho2.enc
  have hx2 := x1.trans x2
  obtain ⟨X, hXX⟩ : ∃ X, X = a.sub bs := ⟨_, rfl⟩
  obtain ⟨Y, hYY⟩ : ∃ Y, Y = b.sub bs := ⟨_, rfl⟩
  have hlX : Lim 1073741824 X := by rw [hXX]; exact Lim.of_count _ hca
  have hlY : Lim 1073741824 Y := by rw [hYY]; exact Lim.of_count _ hcb
  rw [← hXX] at hXe hca
  rw [← hYY] at hYe hcb
  rw [← hXX, ← hYY]
  obtain ⟨kX, nX, mX, xs, hXm⟩ := T.eta X
  obtain ⟨kY, nY, mY, ys, hYm⟩ := T.eta Y
  have g1 : kX = kx ∧ nX = nx ∧ mX = mx := by
    have := hXe
    rw [hXm] at this
    obtain ⟨_, h, _⟩ := this.open
    simp only [List.cons.injEq, Value.int.injEq, Value.string.injEq, true_and] at h
    exact ⟨h.1.symm, h.2.1.symm, h.2.2.1.symm⟩
  have g2 : kY = ky ∧ nY = ny ∧ mY = my := by
    have := hYe
    rw [hYm] at this
    obtain ⟨_, h, _⟩ := this.open
    simp only [List.cons.injEq, Value.int.injEq, Value.string.injEq, true_and] at h
    exact ⟨h.1.symm, h.2.1.symm, h.2.2.1.symm⟩
  obtain ⟨rfl, rfl, rfl⟩ := g1
  obtain ⟨rfl, rfl, rfl⟩ := g2
  (repeat (first | refine W_seqS ?_ | refine W_seqC ?_ | refine W_seqB ?_ | refine W_block ?_)); refine W_reg rfl fun G K hG hK => ?_; simp (disch := omega) only [go_sem, ↓reduceIte, Nat.reduceEqDiff, Nat.reduceAdd, Nat.reduceLeDiff, hG, p1, p2, p3, p4, p5, a1, a2, a3, b1, b2, b3]
  refine w_call (implEq_ok X Y sb _ _ hlX hlY hXe hYe) (by simp (disch := omega) only [go_sem, ↓reduceIte, Nat.reduceEqDiff, p1, p2, p3, p4, p5, a1, a2, a3, b1, b2, b3]) ?hl ?_
  case hl => first | rfl | (simp only [go_sem, List.all_cons, List.all_nil, Bool.not_false, Bool.and_self, p1, p2, p3, p4, p5, a1, a2, a3, b1, b2, b3]; done)
  rintro r_ sb ⟨rfl, rfl⟩; refine ⟨fun e => (by cases e), ?_⟩
  simp (disch := omega) only [go_sem, ↓reduceIte, Nat.reduceEqDiff, Nat.reduceAdd, Nat.reduceLeDiff, hG, p1, p2, p3, p4, p5, a1, a2, a3, b1, b2, b3]; refine hK _ _ ?_; clear hK K hG G; repeat (first | refine thenI ?_ | refine thenE ?_ | refine thenR ?_ | refine inBI ?_ | refine inBR ?_ | refine inBS ?_ | refine inBN (by decide) ?_)
  have hst0 : stepU bs X Y = if T.eqv X Y = true then some (bs, []) else if kX = 1 then bindU bs mX Y else if kY = 1 then bindU bs mY X else if kX = 2 ∧ kY = 2 ∧ mX = mY ∧ xs.length = ys.length then some (bs, xs.zip ys) else none := by rw [hXm, hYm]; rfl
  cases heq : T.eqv X Y with
  | true =>
    repeat (first | ((first | refine W_reg rfl fun G K hG hK => ?_ | refine W_end rfl fun G K hG hK => ?_); simp (disch := omega) only [go_sem, ↓reduceIte, Nat.reduceEqDiff, Nat.reduceAdd, Nat.reduceLeDiff, hG, p1, p2, p3, p4, p5, a1, a2, a3, b1, b2, b3]; refine hK _ _ ?_; clear hK K hG G) | refine W_seqS ?_ | refine W_seqC ?_ | refine W_seqB ?_ | refine W_block ?_ | refine W_skip ?_ | (refine W_condT ?hc ?_; (case hc => (simp (disch := omega) only [go_sem, ↓reduceIte, Nat.reduceEqDiff, Nat.reduceAdd, Nat.reduceLeDiff, p1, p2, p3, p4, p5, a1, a2, a3, b1, b2, b3]; done))) | (refine W_condF ?hc ?_; (case hc => (simp (disch := omega) only [go_sem, ↓reduceIte, Nat.reduceEqDiff, Nat.reduceAdd, Nat.reduceLeDiff, p1, p2, p3, p4, p5, a1, a2, a3, b1, b2, b3]; done))) | refine thenI ?_ | refine thenE ?_ | refine thenR ?_ | refine inBI ?_ | refine inBR ?_ | refine inBS ?_ | refine inBN (by decide) ?_)
    refine W_ret ?_; try (repeat (first | refine thenI ?_ | refine thenE ?_ | refine thenR ?_ | refine inBI ?_ | refine inBR ?_ | refine inBS ?_ | refine inBN (by decide) ?_))
    refine fin3 (.inl rfl) (by (simp (disch := omega) only [go_sem, ↓reduceIte, Nat.reduceEqDiff, Nat.reduceAdd, Nat.reduceLeDiff, p1, p2, p3, p4, p5, a1, a2, a3, b1, b2, b3, p5]); try rfl) p5 (by (simp (disch := omega) only [go_sem, ↓reduceIte, Nat.reduceEqDiff, Nat.reduceAdd, Nat.reduceLeDiff, p1, p2, p3, p4, p5, a1, a2, a3, b1, b2, b3]); try rfl) rfl (by (simp (disch := omega) only [go_sem, ↓reduceIte, Nat.reduceEqDiff, Nat.reduceAdd, Nat.reduceLeDiff, p1, p2, p3, p4, p5, a1, a2, a3, b1, b2, b3]); try rfl) rfl ⟨hx2, ?_⟩
    rw [hst0, if_pos heq]
    exact ⟨sl, _, [], sb, rfl, hR.ext hx2, hx2, Ext.refl _, .inl ⟨rfl, rfl, rfl⟩, .nil _⟩
  | false =>
  rw [heq] at hst0
  simp only [Bool.false_eq_true, if_false] at hst0
  repeat (first | ((first | refine W_reg rfl fun G K hG hK => ?_ | refine W_end rfl fun G K hG hK => ?_); simp (disch := omega) only [go_sem, ↓reduceIte, Nat.reduceEqDiff, Nat.reduceAdd, Nat.reduceLeDiff, hG, p1, p2, p3, p4, p5, a1, a2, a3, b1, b2, b3]; refine hK _ _ ?_; clear hK K hG G) | refine W_seqS ?_ | refine W_seqC ?_ | refine W_seqB ?_ | refine W_block ?_ | refine W_skip ?_ | (refine W_condT ?hc ?_; (case hc => (simp (disch := omega) only [go_sem, ↓reduceIte, Nat.reduceEqDiff, Nat.reduceAdd, Nat.reduceLeDiff, p1, p2, p3, p4, p5, a1, a2, a3, b1, b2, b3]; done))) | (refine W_condF ?hc ?_; (case hc => (simp (disch := omega) only [go_sem, ↓reduceIte, Nat.reduceEqDiff, Nat.reduceAdd, Nat.reduceLeDiff, p1, p2, p3, p4, p5, a1, a2, a3, b1, b2, b3]; done))) | refine thenI ?_ | refine thenE ?_ | refine thenR ?_ | refine inBI ?_ | refine inBR ?_ | refine inBS ?_ | refine inBN (by decide) ?_)
  refine W_to (fun fr st' => ∃ (X' Y' : T) (k n : Int) (nm : ByteArray) (us : List T) (z : Value) (k' n' : Int) (nm' : ByteArray) (vs : List T) (z' : Value), (sb = st') ∧ (X' = .mk k n nm us) ∧ (Y' = .mk k' n' nm' vs) ∧ (Enc sb X' [.int .i64 k, .int .i64 n, .string nm, z]) ∧ (Enc sb Y' [.int .i64 k', .int .i64 n', .string nm', z']) ∧ (Lim 1073741824 Y') ∧ (Y'.count ≤ 1073741824) ∧ (Lim 1073741824 X') ∧ (stepU bs X Y = (if k = 1 then bindU bs nm Y' else if k = 2 ∧ k' = 2 ∧ nm = nm' ∧ us.length = vs.length then some (bs, us.zip vs) else none)) ∧ (okv z = true) ∧ (isLoc z = false) ∧ (vc z = #[z]) ∧ (okv z' = true) ∧ (isLoc z' = false) ∧ (vc z' = #[z']) ∧ (fr.env 1 = sl) ∧ (fr.env 7 = .pointer (some ⟨7, 0, some 1⟩)) ∧ (fr.env 8 = .pointer (some ⟨8, 0, some 1⟩)) ∧ (fr.loc 7 = (1, [.int .i64 k, .int .i64 n, .string nm, z])) ∧ (fr.loc 8 = (1, [.int .i64 k', .int .i64 n', .string nm', z'])) ∧ ((fr.loc 9).1 = 0)) ?_ ?_
  · by_cases hk : kX = 1
    · have d1 : (kX != 1) = false := by simpa using hk
      repeat (first | ((first | refine W_reg rfl fun G K hG hK => ?_ | refine W_end rfl fun G K hG hK => ?_); simp (disch := omega) only [go_sem, ↓reduceIte, Nat.reduceEqDiff, Nat.reduceAdd, Nat.reduceLeDiff, hG, p1, p2, p3, p4, p5, a1, a2, a3, b1, b2, b3, d1]; refine hK _ _ ?_; clear hK K hG G) | refine W_seqS ?_ | refine W_seqC ?_ | refine W_seqB ?_ | refine W_block ?_ | refine W_skip ?_ | (refine W_condT ?hc ?_; (case hc => (simp (disch := omega) only [go_sem, ↓reduceIte, Nat.reduceEqDiff, Nat.reduceAdd, Nat.reduceLeDiff, p1, p2, p3, p4, p5, a1, a2, a3, b1, b2, b3, d1]; done))) | (refine W_condF ?hc ?_; (case hc => (simp (disch := omega) only [go_sem, ↓reduceIte, Nat.reduceEqDiff, Nat.reduceAdd, Nat.reduceLeDiff, p1, p2, p3, p4, p5, a1, a2, a3, b1, b2, b3, d1]; done))) | refine thenI ?_ | refine thenE ?_ | refine thenR ?_ | refine inBI ?_ | refine inBR ?_ | refine inBS ?_ | refine inBN (by decide) ?_)
      exact ⟨X, Y, kX, nX, mX, xs, zx, kY, nY, mY, ys, zy, rfl, hXm, hYm, hXe, hYe, hlY, hcb, hlX, (by rw [hst0, if_pos hk, if_pos hk]), a1, a2, a3, b1, b2, b3, (by (simp (disch := omega) only [go_sem, ↓reduceIte, Nat.reduceEqDiff, Nat.reduceAdd, Nat.reduceLeDiff, p1, p2, p3, p4, p5, a1, a2, a3, b1, b2, b3]); try rfl), (by (simp (disch := omega) only [go_sem, ↓reduceIte, Nat.reduceEqDiff, Nat.reduceAdd, Nat.reduceLeDiff, p1, p2, p3, p4, p5, a1, a2, a3, b1, b2, b3]); try rfl), (by (simp (disch := omega) only [go_sem, ↓reduceIte, Nat.reduceEqDiff, Nat.reduceAdd, Nat.reduceLeDiff, p1, p2, p3, p4, p5, a1, a2, a3, b1, b2, b3]); try rfl), (by (simp (disch := omega) only [go_sem, ↓reduceIte, Nat.reduceEqDiff, Nat.reduceAdd, Nat.reduceLeDiff, p1, p2, p3, p4, p5, a1, a2, a3, b1, b2, b3]); try rfl), (by (simp (disch := omega) only [go_sem, ↓reduceIte, Nat.reduceEqDiff, Nat.reduceAdd, Nat.reduceLeDiff, p1, p2, p3, p4, p5, a1, a2, a3, b1, b2, b3]); try rfl), (by (simp (disch := omega) only [go_sem, ↓reduceIte, Nat.reduceEqDiff, Nat.reduceAdd, Nat.reduceLeDiff, p1, p2, p3, p4, p5, a1, a2, a3, b1, b2, b3]); try rfl)⟩
    · have d1 : (kX != 1) = true := by simpa using hk
      by_cases hk2 : kY = 1
      · have d2 : (kY == 1) = true := by simpa using hk2
        repeat (first | ((first | refine W_reg rfl fun G K hG hK => ?_ | refine W_end rfl fun G K hG hK => ?_); simp (disch := omega) only [go_sem, ↓reduceIte, Nat.reduceEqDiff, Nat.reduceAdd, Nat.reduceLeDiff, hG, p1, p2, p3, p4, p5, a1, a2, a3, b1, b2, b3, d1, d2]; refine hK _ _ ?_; clear hK K hG G) | refine W_seqS ?_ | refine W_seqC ?_ | refine W_seqB ?_ | refine W_block ?_ | refine W_skip ?_ | (refine W_condT ?hc ?_; (case hc => (simp (disch := omega) only [go_sem, ↓reduceIte, Nat.reduceEqDiff, Nat.reduceAdd, Nat.reduceLeDiff, p1, p2, p3, p4, p5, a1, a2, a3, b1, b2, b3, d1, d2]; done))) | (refine W_condF ?hc ?_; (case hc => (simp (disch := omega) only [go_sem, ↓reduceIte, Nat.reduceEqDiff, Nat.reduceAdd, Nat.reduceLeDiff, p1, p2, p3, p4, p5, a1, a2, a3, b1, b2, b3, d1, d2]; done))) | refine thenI ?_ | refine thenE ?_ | refine thenR ?_ | refine inBI ?_ | refine inBR ?_ | refine inBS ?_ | refine inBN (by decide) ?_)
        exact ⟨Y, X, kY, nY, mY, ys, zy, kX, nX, mX, xs, zx, rfl, hYm, hXm, hYe, hXe, hlX, hca, hlY, (by rw [hst0, if_neg hk, if_pos hk2, if_pos hk2]), b1, b2, b3, a1, a2, a3, (by (simp (disch := omega) only [go_sem, ↓reduceIte, Nat.reduceEqDiff, Nat.reduceAdd, Nat.reduceLeDiff, p1, p2, p3, p4, p5, a1, a2, a3, b1, b2, b3]); try rfl), (by (simp (disch := omega) only [go_sem, ↓reduceIte, Nat.reduceEqDiff, Nat.reduceAdd, Nat.reduceLeDiff, p1, p2, p3, p4, p5, a1, a2, a3, b1, b2, b3]); try rfl), (by (simp (disch := omega) only [go_sem, ↓reduceIte, Nat.reduceEqDiff, Nat.reduceAdd, Nat.reduceLeDiff, p1, p2, p3, p4, p5, a1, a2, a3, b1, b2, b3]); try rfl), (by (simp (disch := omega) only [go_sem, ↓reduceIte, Nat.reduceEqDiff, Nat.reduceAdd, Nat.reduceLeDiff, p1, p2, p3, p4, p5, a1, a2, a3, b1, b2, b3]); try rfl), (by (simp (disch := omega) only [go_sem, ↓reduceIte, Nat.reduceEqDiff, Nat.reduceAdd, Nat.reduceLeDiff, p1, p2, p3, p4, p5, a1, a2, a3, b1, b2, b3]); try rfl), (by (simp (disch := omega) only [go_sem, ↓reduceIte, Nat.reduceEqDiff, Nat.reduceAdd, Nat.reduceLeDiff, p1, p2, p3, p4, p5, a1, a2, a3, b1, b2, b3]); try rfl)⟩
      · have d2 : (kY == 1) = false := by simpa using hk2
        repeat (first | ((first | refine W_reg rfl fun G K hG hK => ?_ | refine W_end rfl fun G K hG hK => ?_); simp (disch := omega) only [go_sem, ↓reduceIte, Nat.reduceEqDiff, Nat.reduceAdd, Nat.reduceLeDiff, hG, p1, p2, p3, p4, p5, a1, a2, a3, b1, b2, b3, d1, d2]; refine hK _ _ ?_; clear hK K hG G) | refine W_seqS ?_ | refine W_seqC ?_ | refine W_seqB ?_ | refine W_block ?_ | refine W_skip ?_ | (refine W_condT ?hc ?_; (case hc => (simp (disch := omega) only [go_sem, ↓reduceIte, Nat.reduceEqDiff, Nat.reduceAdd, Nat.reduceLeDiff, p1, p2, p3, p4, p5, a1, a2, a3, b1, b2, b3, d1, d2]; done))) | (refine W_condF ?hc ?_; (case hc => (simp (disch := omega) only [go_sem, ↓reduceIte, Nat.reduceEqDiff, Nat.reduceAdd, Nat.reduceLeDiff, p1, p2, p3, p4, p5, a1, a2, a3, b1, b2, b3, d1, d2]; done))) | refine thenI ?_ | refine thenE ?_ | refine thenR ?_ | refine inBI ?_ | refine inBR ?_ | refine inBS ?_ | refine inBN (by decide) ?_)
        exact ⟨X, Y, kX, nX, mX, xs, zx, kY, nY, mY, ys, zy, rfl, hXm, hYm, hXe, hYe, hlY, hcb, hlX, (by rw [hst0, if_neg hk, if_neg hk2, if_neg hk]), a1, a2, a3, b1, b2, b3, (by (simp (disch := omega) only [go_sem, ↓reduceIte, Nat.reduceEqDiff, Nat.reduceAdd, Nat.reduceLeDiff, p1, p2, p3, p4, p5, a1, a2, a3, b1, b2, b3]); try rfl), (by (simp (disch := omega) only [go_sem, ↓reduceIte, Nat.reduceEqDiff, Nat.reduceAdd, Nat.reduceLeDiff, p1, p2, p3, p4, p5, a1, a2, a3, b1, b2, b3]); try rfl), (by (simp (disch := omega) only [go_sem, ↓reduceIte, Nat.reduceEqDiff, Nat.reduceAdd, Nat.reduceLeDiff, p1, p2, p3, p4, p5, a1, a2, a3, b1, b2, b3]); try rfl), (by (simp (disch := omega) only [go_sem, ↓reduceIte, Nat.reduceEqDiff, Nat.reduceAdd, Nat.reduceLeDiff, p1, p2, p3, p4, p5, a1, a2, a3, b1, b2, b3]); try rfl), (by (simp (disch := omega) only [go_sem, ↓reduceIte, Nat.reduceEqDiff, Nat.reduceAdd, Nat.reduceLeDiff, p1, p2, p3, p4, p5, a1, a2, a3, b1, b2, b3]); try rfl), (by (simp (disch := omega) only [go_sem, ↓reduceIte, Nat.reduceEqDiff, Nat.reduceAdd, Nat.reduceLeDiff, p1, p2, p3, p4, p5, a1, a2, a3, b1, b2, b3]); try rfl)⟩
  rintro ⟨env, loc⟩ st' ⟨X', Y', k, n, nm, us, z, k', n', nm', vs, z', hst, hX1, hY1, hXe1, hYe1, hlY1, hcY1, hlX1, hres, o1, o2, o3, o4, o5, o6, e1, e7, e8, l7, l8, l9⟩
  simp only at e1 e7 e8 l7 l8 l9
  subst hst
  clear hst0 heq
  have hRb := hR.ext hx2
  by_cases hk : k = 1
  · have d1 : (k == 1) = true := by simpa using hk
    rw [if_pos hk] at hres
    repeat (first | ((first | refine W_reg rfl fun G K hG hK => ?_ | refine W_end rfl fun G K hG hK => ?_); simp (disch := omega) only [go_sem, ↓reduceIte, Nat.reduceEqDiff, Nat.reduceAdd, Nat.reduceLeDiff, hG, p1, p2, p3, p4, p5, a1, a2, a3, b1, b2, b3, e1, e7, e8, l7, l8, l9, o1, o2, o3, o4, o5, o6, d1]; refine hK _ _ ?_; clear hK K hG G) | refine W_seqS ?_ | refine W_seqC ?_ | refine W_seqB ?_ | refine W_block ?_ | refine W_skip ?_ | (refine W_condT ?hc ?_; (case hc => (simp (disch := omega) only [go_sem, ↓reduceIte, Nat.reduceEqDiff, Nat.reduceAdd, Nat.reduceLeDiff, p1, p2, p3, p4, p5, a1, a2, a3, b1, b2, b3, e1, e7, e8, l7, l8, l9, o1, o2, o3, o4, o5, o6, d1]; done))) | (refine W_condF ?hc ?_; (case hc => (simp (disch := omega) only [go_sem, ↓reduceIte, Nat.reduceEqDiff, Nat.reduceAdd, Nat.reduceLeDiff, p1, p2, p3, p4, p5, a1, a2, a3, b1, b2, b3, e1, e7, e8, l7, l8, l9, o1, o2, o3, o4, o5, o6, d1]; done))) | refine thenI ?_ | refine thenE ?_ | refine thenR ?_ | refine inBI ?_ | refine inBR ?_ | refine inBS ?_ | refine inBN (by decide) ?_)
    (repeat (first | refine W_seqS ?_ | refine W_seqC ?_ | refine W_seqB ?_ | refine W_block ?_)); refine W_regD mixed [] [(0,false),(2,false),(3,false),(1,true),(4,true)] rfl (by decide +kernel) fun G K hG hK => ?_; simp only [pickOps, List.filterMap_cons, List.filterMap_nil, List.getElem?_cons_zero, List.getElem?_cons_succ, Option.map_some]; simp (disch := omega) only [go_sem, ↓reduceIte, Nat.reduceEqDiff, Nat.reduceAdd, Nat.reduceLeDiff, hG, p1, p2, p3, p4, p5, a1, a2, a3, b1, b2, b3, e1, e7, e8, l7, l8, l9, o1, o2, o3, o4, o5, o6]
    refine w_call (implVarsC_ok Y' sb _ hlY1 hcY1 hYe1) (by simp (disch := omega) only [go_sem, ↓reduceIte, Nat.reduceEqDiff, p1, p2, p3, p4, p5, a1, a2, a3, b1, b2, b3, e1, e7, e8, l7, l8, l9, o1, o2, o3, o4, o5, o6]) ?hl ?_
    case hl => first | rfl | (simp only [go_sem, List.all_cons, List.all_nil, Bool.not_false, Bool.and_self, p1, p2, p3, p4, p5, a1, a2, a3, b1, b2, b3, e1, e7, e8, l7, l8, l9, o1, o2, o3, o4, o5, o6]; done)
    rintro rv sc ⟨x3, L3, hs3, hf3⟩; refine ⟨fun e => x3, ?_⟩
    have j1 := hs3.loc
    have hvl := T.vars_lenC Y'
    simp (disch := omega) only [go_sem, ↓reduceIte, Nat.reduceEqDiff, Nat.reduceAdd, Nat.reduceLeDiff, p1, p2, p3, p4, p5, a1, a2, a3, b1, b2, b3, e1, e7, e8, l7, l8, l9, o1, o2, o3, o4, o5, o6, j1]
    refine w_call (contains_ok (T.vars Y') nm sc rv (by omega) hs3.row) (by simp (disch := omega) only [go_sem, ↓reduceIte, Nat.reduceEqDiff, p1, p2, p3, p4, p5, a1, a2, a3, b1, b2, b3, e1, e7, e8, l7, l8, l9, o1, o2, o3, o4, o5, o6, j1]) ?hl ?_
    case hl => first | rfl | (simp only [go_sem, List.all_cons, List.all_nil, Bool.not_false, Bool.and_self, p1, p2, p3, p4, p5, a1, a2, a3, b1, b2, b3, e1, e7, e8, l7, l8, l9, o1, o2, o3, o4, o5, o6, j1]; done)
    rintro r_ sc ⟨⟨bb, rfl, hbb2⟩, rfl⟩; refine ⟨fun e => Ext.refl _, ?_⟩
    cases bb with
    | true =>
      have hno : stepU bs X Y = none := by rw [hres]; unfold bindU; rw [if_pos (hbb2.1 rfl)]
      simp (disch := omega) only [go_sem, ↓reduceIte, Nat.reduceEqDiff, Nat.reduceAdd, Nat.reduceLeDiff, hG, p1, p2, p3, p4, p5, a1, a2, a3, b1, b2, b3, e1, e7, e8, l7, l8, l9, o1, o2, o3, o4, o5, o6]; refine hK _ _ ?_; clear hK K hG G; repeat (first | refine thenI ?_ | refine thenE ?_ | refine thenR ?_ | refine inBI ?_ | refine inBR ?_ | refine inBS ?_ | refine inBN (by decide) ?_)
      repeat (first | ((first | refine W_reg rfl fun G K hG hK => ?_ | refine W_end rfl fun G K hG hK => ?_); simp (disch := omega) only [go_sem, ↓reduceIte, Nat.reduceEqDiff, Nat.reduceAdd, Nat.reduceLeDiff, hG, p1, p2, p3, p4, p5, a1, a2, a3, b1, b2, b3, e1, e7, e8, l7, l8, l9, o1, o2, o3, o4, o5, o6]; refine hK _ _ ?_; clear hK K hG G) | refine W_seqS ?_ | refine W_seqC ?_ | refine W_seqB ?_ | refine W_block ?_ | refine W_skip ?_ | (refine W_condT ?hc ?_; (case hc => (simp (disch := omega) only [go_sem, ↓reduceIte, Nat.reduceEqDiff, Nat.reduceAdd, Nat.reduceLeDiff, p1, p2, p3, p4, p5, a1, a2, a3, b1, b2, b3, e1, e7, e8, l7, l8, l9, o1, o2, o3, o4, o5, o6]; done))) | (refine W_condF ?hc ?_; (case hc => (simp (disch := omega) only [go_sem, ↓reduceIte, Nat.reduceEqDiff, Nat.reduceAdd, Nat.reduceLeDiff, p1, p2, p3, p4, p5, a1, a2, a3, b1, b2, b3, e1, e7, e8, l7, l8, l9, o1, o2, o3, o4, o5, o6]; done))) | refine thenI ?_ | refine thenE ?_ | refine thenR ?_ | refine inBI ?_ | refine inBR ?_ | refine inBS ?_ | refine inBN (by decide) ?_)
      refine W_ret ?_; try (repeat (first | refine thenI ?_ | refine thenE ?_ | refine thenR ?_ | refine inBI ?_ | refine inBR ?_ | refine inBS ?_ | refine inBN (by decide) ?_))
      refine fin3 (.inl rfl) (by (simp (disch := omega) only [go_sem, ↓reduceIte, Nat.reduceEqDiff, Nat.reduceAdd, Nat.reduceLeDiff, p1, p2, p3, p4, p5, a1, a2, a3, b1, b2, b3, e1, e7, e8, l7, l8, l9, o1, o2, o3, o4, o5, o6]); try rfl) rfl (by (simp (disch := omega) only [go_sem, ↓reduceIte, Nat.reduceEqDiff, Nat.reduceAdd, Nat.reduceLeDiff, p1, p2, p3, p4, p5, a1, a2, a3, b1, b2, b3, e1, e7, e8, l7, l8, l9, o1, o2, o3, o4, o5, o6]); try rfl) rfl (by (simp (disch := omega) only [go_sem, ↓reduceIte, Nat.reduceEqDiff, Nat.reduceAdd, Nat.reduceLeDiff, p1, p2, p3, p4, p5, a1, a2, a3, b1, b2, b3, e1, e7, e8, l7, l8, l9, o1, o2, o3, o4, o5, o6]); try rfl) rfl ⟨hx2.trans x3, by rw [hno]⟩
    | false =>
      have hyes : stepU bs X Y = some (comp bs [⟨nm, Y'⟩], []) := by rw [hres]; unfold bindU; rw [if_neg (fun h => by have := hbb2.2 h; cases this)]
      simp (disch := omega) only [go_sem, ↓reduceIte, Nat.reduceEqDiff, Nat.reduceAdd, Nat.reduceLeDiff, hG, p1, p2, p3, p4, p5, a1, a2, a3, b1, b2, b3, e1, e7, e8, l7, l8, l9, o1, o2, o3, o4, o5, o6]; refine hK _ _ ?_; clear hK K hG G; repeat (first | refine thenI ?_ | refine thenE ?_ | refine thenR ?_ | refine inBI ?_ | refine inBR ?_ | refine inBS ?_ | refine inBN (by decide) ?_)
      repeat (first | ((first | refine W_reg rfl fun G K hG hK => ?_ | refine W_end rfl fun G K hG hK => ?_); simp (disch := omega) only [go_sem, ↓reduceIte, Nat.reduceEqDiff, Nat.reduceAdd, Nat.reduceLeDiff, hG, p1, p2, p3, p4, p5, a1, a2, a3, b1, b2, b3, e1, e7, e8, l7, l8, l9, o1, o2, o3, o4, o5, o6]; refine hK _ _ ?_; clear hK K hG G) | refine W_seqS ?_ | refine W_seqC ?_ | refine W_seqB ?_ | refine W_block ?_ | refine W_skip ?_ | (refine W_condT ?hc ?_; (case hc => (simp (disch := omega) only [go_sem, ↓reduceIte, Nat.reduceEqDiff, Nat.reduceAdd, Nat.reduceLeDiff, p1, p2, p3, p4, p5, a1, a2, a3, b1, b2, b3, e1, e7, e8, l7, l8, l9, o1, o2, o3, o4, o5, o6]; done))) | (refine W_condF ?hc ?_; (case hc => (simp (disch := omega) only [go_sem, ↓reduceIte, Nat.reduceEqDiff, Nat.reduceAdd, Nat.reduceLeDiff, p1, p2, p3, p4, p5, a1, a2, a3, b1, b2, b3, e1, e7, e8, l7, l8, l9, o1, o2, o3, o4, o5, o6]; done))) | refine thenI ?_ | refine thenE ?_ | refine thenR ?_ | refine inBI ?_ | refine inBR ?_ | refine inBS ?_ | refine inBN (by decide) ?_)
      (repeat (first | refine W_seqS ?_ | refine W_seqC ?_ | refine W_seqB ?_ | refine W_block ?_)); refine W_reg rfl fun G K hG hK => ?_; simp (disch := omega) only [go_sem, ↓reduceIte, Nat.reduceEqDiff, Nat.reduceAdd, Nat.reduceLeDiff, hG, p1, p2, p3, p4, p5, a1, a2, a3, b1, b2, b3, e1, e7, e8, l7, l8, l9, o1, o2, o3, o4, o5, o6]
      refine w_call (implComp_ok bs [⟨nm, Y'⟩] _ sl _ hbb (by simp) hlb (fun x hx => by cases List.mem_singleton.1 hx; exact hlY1) ((hRb.ext x3).ext (Ext.app _ _)) (row_one sc ⟨nm, Y'⟩ [.string nm, .int .i64 k', .int .i64 n', .string nm', z'] ⟨_, rfl, Enc.ext (x3.trans (Ext.app _ _)) _ _ hYe1⟩)) (by simp (disch := omega) only [go_sem, ↓reduceIte, Nat.reduceEqDiff, p1, p2, p3, p4, p5, a1, a2, a3, b1, b2, b3, e1, e7, e8, l7, l8, l9, o1, o2, o3, o4, o5, o6]) ?hl ?_
      case hl => first | rfl | (simp only [go_sem, List.all_cons, List.all_nil, Bool.not_false, Bool.and_self, p1, p2, p3, p4, p5, a1, a2, a3, b1, b2, b3, e1, e7, e8, l7, l8, l9, o1, o2, o3, o4, o5, o6]; done)
      rintro rw sd ⟨x4, L4, hs4, hf4⟩; refine ⟨fun e => (by cases e), ?_⟩
      have j2 := hs4.loc
      simp (disch := omega) only [go_sem, ↓reduceIte, Nat.reduceEqDiff, Nat.reduceAdd, Nat.reduceLeDiff, hG, p1, p2, p3, p4, p5, a1, a2, a3, b1, b2, b3, e1, e7, e8, l7, l8, l9, o1, o2, o3, o4, o5, o6, j2]; refine hK _ _ ?_; clear hK K hG G; repeat (first | refine thenI ?_ | refine thenE ?_ | refine thenR ?_ | refine inBI ?_ | refine inBR ?_ | refine inBS ?_ | refine inBN (by decide) ?_)
      refine W_ret ?_; try (repeat (first | refine thenI ?_ | refine thenE ?_ | refine thenR ?_ | refine inBI ?_ | refine inBR ?_ | refine inBS ?_ | refine inBN (by decide) ?_))
      refine fin3 (.inl rfl) (by (simp (disch := omega) only [go_sem, ↓reduceIte, Nat.reduceEqDiff, Nat.reduceAdd, Nat.reduceLeDiff, p1, p2, p3, p4, p5, a1, a2, a3, b1, b2, b3, e1, e7, e8, l7, l8, l9, o1, o2, o3, o4, o5, o6, j2]); try rfl) j2 (by (simp (disch := omega) only [go_sem, ↓reduceIte, Nat.reduceEqDiff, Nat.reduceAdd, Nat.reduceLeDiff, p1, p2, p3, p4, p5, a1, a2, a3, b1, b2, b3, e1, e7, e8, l7, l8, l9, o1, o2, o3, o4, o5, o6]); try rfl) rfl (by (simp (disch := omega) only [go_sem, ↓reduceIte, Nat.reduceEqDiff, Nat.reduceAdd, Nat.reduceLeDiff, p1, p2, p3, p4, p5, a1, a2, a3, b1, b2, b3, e1, e7, e8, l7, l8, l9, o1, o2, o3, o4, o5, o6]); try rfl) rfl ⟨(hx2.trans x3).trans ((Ext.app _ _).trans x4), ?_⟩
      rw [hyes]
      exact ⟨_, _, [], sd, rfl, hs4.row, (hx2.trans x3).trans ((Ext.app _ _).trans x4), Ext.refl _, .inl ⟨rfl, rfl, rfl⟩, .nil _⟩
  have d1 : (k == 1) = false := by simpa using hk
  rw [if_neg hk] at hres
  have hXo := hXe1
  rw [hX1] at hXo
  obtain ⟨w1, hw1, hrX⟩ := hXo.open
  simp only [List.cons.injEq, and_true, true_and] at hw1
  subst hw1
  have hYo := hYe1
  rw [hY1] at hYo
  obtain ⟨w2, hw2, hrY⟩ := hYo.open
  simp only [List.cons.injEq, and_true, true_and] at hw2
  subst hw2
  have hlX2 : lenE Try.prog 29 z = some (.int .i64 us.length) := row_len hrX Try.underlying29
  have hlY2 : lenE Try.prog 29 z' = some (.int .i64 vs.length) := row_len hrY Try.underlying29
  by_cases hall : k = 2 ∧ k' = 2 ∧ nm = nm' ∧ us.length = vs.length
  case neg =>
    rw [if_neg hall] at hres
    by_cases h2 : k = 2
    case neg =>
      have e2 : (k != 2) = true := by simpa using h2
      repeat (first | ((first | refine W_reg rfl fun G K hG hK => ?_ | refine W_end rfl fun G K hG hK => ?_); simp (disch := omega) only [go_sem, ↓reduceIte, Nat.reduceEqDiff, Nat.reduceAdd, Nat.reduceLeDiff, hG, p1, p2, p3, p4, p5, a1, a2, a3, b1, b2, b3, e1, e7, e8, l7, l8, l9, o1, o2, o3, o4, o5, o6, hlX2, hlY2, d1, e2]; refine hK _ _ ?_; clear hK K hG G) | refine W_seqS ?_ | refine W_seqC ?_ | refine W_seqB ?_ | refine W_block ?_ | refine W_skip ?_ | (refine W_condT ?hc ?_; (case hc => (simp (disch := omega) only [go_sem, ↓reduceIte, Nat.reduceEqDiff, Nat.reduceAdd, Nat.reduceLeDiff, p1, p2, p3, p4, p5, a1, a2, a3, b1, b2, b3, e1, e7, e8, l7, l8, l9, o1, o2, o3, o4, o5, o6, hlX2, hlY2, d1, e2]; done))) | (refine W_condF ?hc ?_; (case hc => (simp (disch := omega) only [go_sem, ↓reduceIte, Nat.reduceEqDiff, Nat.reduceAdd, Nat.reduceLeDiff, p1, p2, p3, p4, p5, a1, a2, a3, b1, b2, b3, e1, e7, e8, l7, l8, l9, o1, o2, o3, o4, o5, o6, hlX2, hlY2, d1, e2]; done))) | refine thenI ?_ | refine thenE ?_ | refine thenR ?_ | refine inBI ?_ | refine inBR ?_ | refine inBS ?_ | refine inBN (by decide) ?_)
      refine W_ret ?_; try (repeat (first | refine thenI ?_ | refine thenE ?_ | refine thenR ?_ | refine inBI ?_ | refine inBR ?_ | refine inBS ?_ | refine inBN (by decide) ?_))
      refine fin3 (.inl rfl) (by (simp (disch := omega) only [go_sem, ↓reduceIte, Nat.reduceEqDiff, Nat.reduceAdd, Nat.reduceLeDiff, p1, p2, p3, p4, p5, a1, a2, a3, b1, b2, b3, e1, e7, e8, l7, l8, l9, o1, o2, o3, o4, o5, o6, hlX2, hlY2]); try rfl) rfl (by (simp (disch := omega) only [go_sem, ↓reduceIte, Nat.reduceEqDiff, Nat.reduceAdd, Nat.reduceLeDiff, p1, p2, p3, p4, p5, a1, a2, a3, b1, b2, b3, e1, e7, e8, l7, l8, l9, o1, o2, o3, o4, o5, o6, hlX2, hlY2]); try rfl) rfl (by (simp (disch := omega) only [go_sem, ↓reduceIte, Nat.reduceEqDiff, Nat.reduceAdd, Nat.reduceLeDiff, p1, p2, p3, p4, p5, a1, a2, a3, b1, b2, b3, e1, e7, e8, l7, l8, l9, o1, o2, o3, o4, o5, o6, hlX2, hlY2]); try rfl) rfl ⟨hx2, by rw [hres]⟩
    have e2 : (k != 2) = false := by simpa using h2
    by_cases h3 : k' = 2
    case neg =>
      have e3 : (k' != 2) = true := by simpa using h3
      repeat (first | ((first | refine W_reg rfl fun G K hG hK => ?_ | refine W_end rfl fun G K hG hK => ?_); simp (disch := omega) only [go_sem, ↓reduceIte, Nat.reduceEqDiff, Nat.reduceAdd, Nat.reduceLeDiff, hG, p1, p2, p3, p4, p5, a1, a2, a3, b1, b2, b3, e1, e7, e8, l7, l8, l9, o1, o2, o3, o4, o5, o6, hlX2, hlY2, d1, e2, e3]; refine hK _ _ ?_; clear hK K hG G) | refine W_seqS ?_ | refine W_seqC ?_ | refine W_seqB ?_ | refine W_block ?_ | refine W_skip ?_ | (refine W_condT ?hc ?_; (case hc => (simp (disch := omega) only [go_sem, ↓reduceIte, Nat.reduceEqDiff, Nat.reduceAdd, Nat.reduceLeDiff, p1, p2, p3, p4, p5, a1, a2, a3, b1, b2, b3, e1, e7, e8, l7, l8, l9, o1, o2, o3, o4, o5, o6, hlX2, hlY2, d1, e2, e3]; done))) | (refine W_condF ?hc ?_; (case hc => (simp (disch := omega) only [go_sem, ↓reduceIte, Nat.reduceEqDiff, Nat.reduceAdd, Nat.reduceLeDiff, p1, p2, p3, p4, p5, a1, a2, a3, b1, b2, b3, e1, e7, e8, l7, l8, l9, o1, o2, o3, o4, o5, o6, hlX2, hlY2, d1, e2, e3]; done))) | refine thenI ?_ | refine thenE ?_ | refine thenR ?_ | refine inBI ?_ | refine inBR ?_ | refine inBS ?_ | refine inBN (by decide) ?_)
      refine W_ret ?_; try (repeat (first | refine thenI ?_ | refine thenE ?_ | refine thenR ?_ | refine inBI ?_ | refine inBR ?_ | refine inBS ?_ | refine inBN (by decide) ?_))
      refine fin3 (.inl rfl) (by (simp (disch := omega) only [go_sem, ↓reduceIte, Nat.reduceEqDiff, Nat.reduceAdd, Nat.reduceLeDiff, p1, p2, p3, p4, p5, a1, a2, a3, b1, b2, b3, e1, e7, e8, l7, l8, l9, o1, o2, o3, o4, o5, o6, hlX2, hlY2]); try rfl) rfl (by (simp (disch := omega) only [go_sem, ↓reduceIte, Nat.reduceEqDiff, Nat.reduceAdd, Nat.reduceLeDiff, p1, p2, p3, p4, p5, a1, a2, a3, b1, b2, b3, e1, e7, e8, l7, l8, l9, o1, o2, o3, o4, o5, o6, hlX2, hlY2]); try rfl) rfl (by (simp (disch := omega) only [go_sem, ↓reduceIte, Nat.reduceEqDiff, Nat.reduceAdd, Nat.reduceLeDiff, p1, p2, p3, p4, p5, a1, a2, a3, b1, b2, b3, e1, e7, e8, l7, l8, l9, o1, o2, o3, o4, o5, o6, hlX2, hlY2]); try rfl) rfl ⟨hx2, by rw [hres]⟩
    have e3 : (k' != 2) = false := by simpa using h3
    by_cases h4 : nm = nm'
    case neg =>
      have e4 : (nm.toList == nm'.toList) = false := by
        apply Bool.eq_false_iff.2
        intro e
        exact h4 (ba_toList e)
      repeat (first | ((first | refine W_reg rfl fun G K hG hK => ?_ | refine W_end rfl fun G K hG hK => ?_); simp (disch := omega) only [go_sem, ↓reduceIte, Nat.reduceEqDiff, Nat.reduceAdd, Nat.reduceLeDiff, hG, p1, p2, p3, p4, p5, a1, a2, a3, b1, b2, b3, e1, e7, e8, l7, l8, l9, o1, o2, o3, o4, o5, o6, hlX2, hlY2, d1, e2, e3, e4]; refine hK _ _ ?_; clear hK K hG G) | refine W_seqS ?_ | refine W_seqC ?_ | refine W_seqB ?_ | refine W_block ?_ | refine W_skip ?_ | (refine W_condT ?hc ?_; (case hc => (simp (disch := omega) only [go_sem, ↓reduceIte, Nat.reduceEqDiff, Nat.reduceAdd, Nat.reduceLeDiff, p1, p2, p3, p4, p5, a1, a2, a3, b1, b2, b3, e1, e7, e8, l7, l8, l9, o1, o2, o3, o4, o5, o6, hlX2, hlY2, d1, e2, e3, e4]; done))) | (refine W_condF ?hc ?_; (case hc => (simp (disch := omega) only [go_sem, ↓reduceIte, Nat.reduceEqDiff, Nat.reduceAdd, Nat.reduceLeDiff, p1, p2, p3, p4, p5, a1, a2, a3, b1, b2, b3, e1, e7, e8, l7, l8, l9, o1, o2, o3, o4, o5, o6, hlX2, hlY2, d1, e2, e3, e4]; done))) | refine thenI ?_ | refine thenE ?_ | refine thenR ?_ | refine inBI ?_ | refine inBR ?_ | refine inBS ?_ | refine inBN (by decide) ?_)
      refine W_ret ?_; try (repeat (first | refine thenI ?_ | refine thenE ?_ | refine thenR ?_ | refine inBI ?_ | refine inBR ?_ | refine inBS ?_ | refine inBN (by decide) ?_))
      refine fin3 (.inl rfl) (by (simp (disch := omega) only [go_sem, ↓reduceIte, Nat.reduceEqDiff, Nat.reduceAdd, Nat.reduceLeDiff, p1, p2, p3, p4, p5, a1, a2, a3, b1, b2, b3, e1, e7, e8, l7, l8, l9, o1, o2, o3, o4, o5, o6, hlX2, hlY2]); try rfl) rfl (by (simp (disch := omega) only [go_sem, ↓reduceIte, Nat.reduceEqDiff, Nat.reduceAdd, Nat.reduceLeDiff, p1, p2, p3, p4, p5, a1, a2, a3, b1, b2, b3, e1, e7, e8, l7, l8, l9, o1, o2, o3, o4, o5, o6, hlX2, hlY2]); try rfl) rfl (by (simp (disch := omega) only [go_sem, ↓reduceIte, Nat.reduceEqDiff, Nat.reduceAdd, Nat.reduceLeDiff, p1, p2, p3, p4, p5, a1, a2, a3, b1, b2, b3, e1, e7, e8, l7, l8, l9, o1, o2, o3, o4, o5, o6, hlX2, hlY2]); try rfl) rfl ⟨hx2, by rw [hres]⟩
    have e4 : (nm.toList == nm'.toList) = true := by rw [h4]; exact beq_self_eq_true _
    have h5 : ¬ us.length = vs.length := fun e => hall ⟨h2, h3, h4, e⟩
    have e5 : ((us.length : Int) != (vs.length : Int)) = true := by simp; omega
    repeat (first | ((first | refine W_reg rfl fun G K hG hK => ?_ | refine W_end rfl fun G K hG hK => ?_); simp (disch := omega) only [go_sem, ↓reduceIte, Nat.reduceEqDiff, Nat.reduceAdd, Nat.reduceLeDiff, hG, p1, p2, p3, p4, p5, a1, a2, a3, b1, b2, b3, e1, e7, e8, l7, l8, l9, o1, o2, o3, o4, o5, o6, hlX2, hlY2, d1, e2, e3, e4, e5]; refine hK _ _ ?_; clear hK K hG G) | refine W_seqS ?_ | refine W_seqC ?_ | refine W_seqB ?_ | refine W_block ?_ | refine W_skip ?_ | (refine W_condT ?hc ?_; (case hc => (simp (disch := omega) only [go_sem, ↓reduceIte, Nat.reduceEqDiff, Nat.reduceAdd, Nat.reduceLeDiff, p1, p2, p3, p4, p5, a1, a2, a3, b1, b2, b3, e1, e7, e8, l7, l8, l9, o1, o2, o3, o4, o5, o6, hlX2, hlY2, d1, e2, e3, e4, e5]; done))) | (refine W_condF ?hc ?_; (case hc => (simp (disch := omega) only [go_sem, ↓reduceIte, Nat.reduceEqDiff, Nat.reduceAdd, Nat.reduceLeDiff, p1, p2, p3, p4, p5, a1, a2, a3, b1, b2, b3, e1, e7, e8, l7, l8, l9, o1, o2, o3, o4, o5, o6, hlX2, hlY2, d1, e2, e3, e4, e5]; done))) | refine thenI ?_ | refine thenE ?_ | refine thenR ?_ | refine inBI ?_ | refine inBR ?_ | refine inBS ?_ | refine inBN (by decide) ?_)
    refine W_ret ?_; try (repeat (first | refine thenI ?_ | refine thenE ?_ | refine thenR ?_ | refine inBI ?_ | refine inBR ?_ | refine inBS ?_ | refine inBN (by decide) ?_))
    refine fin3 (.inl rfl) (by (simp (disch := omega) only [go_sem, ↓reduceIte, Nat.reduceEqDiff, Nat.reduceAdd, Nat.reduceLeDiff, p1, p2, p3, p4, p5, a1, a2, a3, b1, b2, b3, e1, e7, e8, l7, l8, l9, o1, o2, o3, o4, o5, o6, hlX2, hlY2]); try rfl) rfl (by (simp (disch := omega) only [go_sem, ↓reduceIte, Nat.reduceEqDiff, Nat.reduceAdd, Nat.reduceLeDiff, p1, p2, p3, p4, p5, a1, a2, a3, b1, b2, b3, e1, e7, e8, l7, l8, l9, o1, o2, o3, o4, o5, o6, hlX2, hlY2]); try rfl) rfl (by (simp (disch := omega) only [go_sem, ↓reduceIte, Nat.reduceEqDiff, Nat.reduceAdd, Nat.reduceLeDiff, p1, p2, p3, p4, p5, a1, a2, a3, b1, b2, b3, e1, e7, e8, l7, l8, l9, o1, o2, o3, o4, o5, o6, hlX2, hlY2]); try rfl) rfl ⟨hx2, by rw [hres]⟩
  rw [if_pos hall] at hres
  obtain ⟨h2, h3, h4, h5⟩ := hall
  have e2 : (k != 2) = false := by simpa using h2
  have e3 : (k' != 2) = false := by simpa using h3
  have e4 : (nm.toList == nm'.toList) = true := by rw [h4]; exact beq_self_eq_true _
  have e5 : ((us.length : Int) != (vs.length : Int)) = false := by simp; omega
  have hub : us.length ≤ 1073741824 := by rw [hX1] at hlX1; exact hlX1.args.1
  repeat (first | ((first | refine W_reg rfl fun G K hG hK => ?_ | refine W_end rfl fun G K hG hK => ?_); simp (disch := omega) only [go_sem, ↓reduceIte, Nat.reduceEqDiff, Nat.reduceAdd, Nat.reduceLeDiff, hG, p1, p2, p3, p4, p5, a1, a2, a3, b1, b2, b3, e1, e7, e8, l7, l8, l9, o1, o2, o3, o4, o5, o6, hlX2, hlY2, d1, e2, e3, e4, e5]; refine hK _ _ ?_; clear hK K hG G) | refine W_seqS ?_ | refine W_seqC ?_ | refine W_seqB ?_ | refine W_block ?_ | refine W_skip ?_ | (refine W_condT ?hc ?_; (case hc => (simp (disch := omega) only [go_sem, ↓reduceIte, Nat.reduceEqDiff, Nat.reduceAdd, Nat.reduceLeDiff, p1, p2, p3, p4, p5, a1, a2, a3, b1, b2, b3, e1, e7, e8, l7, l8, l9, o1, o2, o3, o4, o5, o6, hlX2, hlY2, d1, e2, e3, e4, e5]; done))) | (refine W_condF ?hc ?_; (case hc => (simp (disch := omega) only [go_sem, ↓reduceIte, Nat.reduceEqDiff, Nat.reduceAdd, Nat.reduceLeDiff, p1, p2, p3, p4, p5, a1, a2, a3, b1, b2, b3, e1, e7, e8, l7, l8, l9, o1, o2, o3, o4, o5, o6, hlX2, hlY2, d1, e2, e3, e4, e5]; done))) | refine thenI ?_ | refine thenE ?_ | refine thenR ?_ | refine inBI ?_ | refine inBR ?_ | refine inBS ?_ | refine inBN (by decide) ?_)
  have hzl : (us.zip vs).length = us.length := by rw [List.length_zip, h5, Nat.min_self]
  refine W_loop (fun d fr st' => ∃ (j : Nat) (r : Value) (L : List Nat), d = us.length - j ∧ j ≤ us.length ∧ (Ext sb st') ∧ (SlP sb st' ((us.zip vs).take j) r L) ∧ (Fresh sb.length L) ∧ (fr.env 1 = sl) ∧ (fr.env 7 = .pointer (some ⟨7, 0, some 1⟩)) ∧ (fr.env 8 = .pointer (some ⟨8, 0, some 1⟩)) ∧ (fr.env 9 = r) ∧ (fr.env 74 = .int .i64 us.length) ∧ (fr.env 75 = .int .i64 j) ∧ (fr.loc 7 = (1, [.int .i64 k, .int .i64 n, .string nm, z])) ∧ (fr.loc 8 = (1, [.int .i64 k', .int .i64 n', .string nm', z']))) (us.length) ?_ ?_
  · exact ⟨0, _, _, by omega, by omega, Ext.refl _, .inl ⟨rfl, by simp, rfl⟩, .nil _, (by (simp (disch := omega) only [go_sem, ↓reduceIte, Nat.reduceEqDiff, Nat.reduceAdd, Nat.reduceLeDiff, p1, p2, p3, p4, p5, a1, a2, a3, b1, b2, b3, e1, e7, e8, l7, l8, l9, o1, o2, o3, o4, o5, o6, hlX2, hlY2]); try rfl), (by (simp (disch := omega) only [go_sem, ↓reduceIte, Nat.reduceEqDiff, Nat.reduceAdd, Nat.reduceLeDiff, p1, p2, p3, p4, p5, a1, a2, a3, b1, b2, b3, e1, e7, e8, l7, l8, l9, o1, o2, o3, o4, o5, o6, hlX2, hlY2]); try rfl), (by (simp (disch := omega) only [go_sem, ↓reduceIte, Nat.reduceEqDiff, Nat.reduceAdd, Nat.reduceLeDiff, p1, p2, p3, p4, p5, a1, a2, a3, b1, b2, b3, e1, e7, e8, l7, l8, l9, o1, o2, o3, o4, o5, o6, hlX2, hlY2]); try rfl), (by (simp (disch := omega) only [go_sem, ↓reduceIte, Nat.reduceEqDiff, Nat.reduceAdd, Nat.reduceLeDiff, p1, p2, p3, p4, p5, a1, a2, a3, b1, b2, b3, e1, e7, e8, l7, l8, l9, o1, o2, o3, o4, o5, o6, hlX2, hlY2]); try rfl), (by (simp (disch := omega) only [go_sem, ↓reduceIte, Nat.reduceEqDiff, Nat.reduceAdd, Nat.reduceLeDiff, p1, p2, p3, p4, p5, a1, a2, a3, b1, b2, b3, e1, e7, e8, l7, l8, l9, o1, o2, o3, o4, o5, o6, hlX2, hlY2]); try rfl), (by (simp (disch := omega) only [go_sem, ↓reduceIte, Nat.reduceEqDiff, Nat.reduceAdd, Nat.reduceLeDiff, p1, p2, p3, p4, p5, a1, a2, a3, b1, b2, b3, e1, e7, e8, l7, l8, l9, o1, o2, o3, o4, o5, o6, hlX2, hlY2]); try rfl), (by (simp (disch := omega) only [go_sem, ↓reduceIte, Nat.reduceEqDiff, Nat.reduceAdd, Nat.reduceLeDiff, p1, p2, p3, p4, p5, a1, a2, a3, b1, b2, b3, e1, e7, e8, l7, l8, l9, o1, o2, o3, o4, o5, o6, hlX2, hlY2]); try rfl), (by (simp (disch := omega) only [go_sem, ↓reduceIte, Nat.reduceEqDiff, Nat.reduceAdd, Nat.reduceLeDiff, p1, p2, p3, p4, p5, a1, a2, a3, b1, b2, b3, e1, e7, e8, l7, l8, l9, o1, o2, o3, o4, o5, o6, hlX2, hlY2]); try rfl)⟩
  clear e1 e7 e8 l7 l8 l9
  rintro d ⟨env, loc⟩ st' ⟨j, r, L, hd, hj, hext, hown, hfr, e1, e7, e8, e9, e74, e75, l7, l8⟩
  simp only at e1 e7 e8 e9 e74 e75 l7 l8
  have ol := hown.loc
  by_cases hlt : j < us.length
  · have c1 : decide ((j : Int) < (us.length : Int)) = true := by simpa using hlt
    have hi := idxOk hlt
    have hx : us[j]? = some us[j] := List.getElem?_eq_getElem hlt
    have htk : us.take (j + 1) = us.take j ++ [us[j]] := List.take_succ_eq_append_getElem hlt
    have hlt2 : j < vs.length := by omega
    have hy : vs[j]? = some vs[j] := List.getElem?_eq_getElem hlt2
    obtain ⟨i1, u1, c1', cs1, rfl, hcl1, hEx, hcs1⟩ := row_at hrX hx
    obtain ⟨i2, u2, c2', cs2, rfl, hcl2, hEy, hcs2⟩ := row_at hrY hy
    have hld1 := fun loc => load_row (A := []) (loc := loc) ag31 sz31 hcl1 (hcs1.ext hext)
    have hld2 := fun loc => load_row (A := []) (loc := loc) ag31 sz31 hcl2 (hcs2.ext hext)
    have hi2 := idxOk hlt2
    obtain ⟨v0, v1, v2, v3, rfl⟩ : ∃ v0 v1 v2 v3, cs1 = [v0, v1, v2, v3] := by
      match cs1, hcl1 with
      | [v0, v1, v2, v3], _ => exact ⟨v0, v1, v2, v3, rfl⟩
    obtain ⟨y0, y1, y2, y3, rfl⟩ : ∃ v0 v1 v2 v3, cs2 = [v0, v1, v2, v3] := by
      match cs2, hcl2 with
      | [v0, v1, v2, v3], _ => exact ⟨v0, v1, v2, v3, rfl⟩
    have hzj : (us.zip vs).take (j + 1) = (us.zip vs).take j ++ [(us[j], vs[j])] := by
      rw [List.take_succ_eq_append_getElem (by rw [hzl]; exact hlt), List.getElem_zip]
    have hst := hext.length
    obtain ⟨r', se, L', hap, hown', hfr', hg⟩ := hown.push (p := (us[j], vs[j])) (cx := [v0, v1, v2, v3, y0, y1, y2, y3]) hfr hst ⟨[v0, v1, v2, v3], [y0, y1, y2, y3], rfl, hEx, hEy⟩ (by rw [List.length_take, hzl]; omega)
    have ol' := hown'.loc
    repeat (first | ((first | refine W_reg rfl fun G K hG hK => ?_ | refine W_end rfl fun G K hG hK => ?_); simp (disch := omega) only [go_sem, ↓reduceIte, Nat.reduceEqDiff, Nat.reduceAdd, Nat.reduceLeDiff, hG, p1, p2, p3, p4, p5, a1, a2, a3, b1, b2, b3, o1, o2, o3, o4, o5, o6, hlX2, hlY2, e1, e7, e8, e9, e74, e75, l7, l8, c1, hi, idxA, Int.toNat_natCast]; refine hK _ _ ?_; clear hK K hG G) | refine W_seqS ?_ | refine W_seqC ?_ | refine W_seqB ?_ | refine W_block ?_ | refine W_skip ?_ | (refine W_condT ?hc ?_; (case hc => (simp (disch := omega) only [go_sem, ↓reduceIte, Nat.reduceEqDiff, Nat.reduceAdd, Nat.reduceLeDiff, p1, p2, p3, p4, p5, a1, a2, a3, b1, b2, b3, o1, o2, o3, o4, o5, o6, hlX2, hlY2, e1, e7, e8, e9, e74, e75, l7, l8, c1, hi, idxA, Int.toNat_natCast]; done))) | (refine W_condF ?hc ?_; (case hc => (simp (disch := omega) only [go_sem, ↓reduceIte, Nat.reduceEqDiff, Nat.reduceAdd, Nat.reduceLeDiff, p1, p2, p3, p4, p5, a1, a2, a3, b1, b2, b3, o1, o2, o3, o4, o5, o6, hlX2, hlY2, e1, e7, e8, e9, e74, e75, l7, l8, c1, hi, idxA, Int.toNat_natCast]; done))) | refine thenI ?_ | refine thenE ?_ | refine thenR ?_ | refine inBI ?_ | refine inBR ?_ | refine inBS ?_ | refine inBN (by decide) ?_)
    refine W_endD mixed [] [(0,false),(1,false),(2,false),(3,false),(4,false),(5,false),(6,false),(7,false),(8,false),(9,false),(10,false),(11,false),(12,false),(13,false),(14,false)] rfl (by decide +kernel) fun G K hG hK => ?_; simp only [pickOps, List.filterMap_cons, List.filterMap_nil, List.getElem?_cons_zero, List.getElem?_cons_succ, Option.map_some]; simp (disch := omega) only [go_sem, ↓reduceIte, Nat.reduceEqDiff, Nat.reduceAdd, Nat.reduceLeDiff, hG, p1, p2, p3, p4, p5, a1, a2, a3, b1, b2, b3, o1, o2, o3, o4, o5, o6, hlX2, hlY2, e1, e7, e8, e9, e74, e75, l7, l8, c1, hi, idxA, Int.toNat_natCast, hld1, hld2, hi2, ol, w_append, hap, ol']
    refine hK _ _ ?_; clear hK K hG G; repeat (first | refine thenI ?_ | refine thenE ?_ | refine thenR ?_ | refine inBI ?_ | refine inBR ?_ | refine inBS ?_ | refine inBN (by decide) ?_)
    repeat (first | ((first | refine W_reg rfl fun G K hG hK => ?_ | refine W_end rfl fun G K hG hK => ?_); simp (disch := omega) only [go_sem, ↓reduceIte, Nat.reduceEqDiff, Nat.reduceAdd, Nat.reduceLeDiff, hG, p1, p2, p3, p4, p5, a1, a2, a3, b1, b2, b3, o1, o2, o3, o4, o5, o6, hlX2, hlY2, e1, e7, e8, e9, e74, e75, l7, l8, c1, hi, idxA, Int.toNat_natCast]; refine hK _ _ ?_; clear hK K hG G) | refine W_seqS ?_ | refine W_seqC ?_ | refine W_seqB ?_ | refine W_block ?_ | refine W_skip ?_ | (refine W_condT ?hc ?_; (case hc => (simp (disch := omega) only [go_sem, ↓reduceIte, Nat.reduceEqDiff, Nat.reduceAdd, Nat.reduceLeDiff, p1, p2, p3, p4, p5, a1, a2, a3, b1, b2, b3, o1, o2, o3, o4, o5, o6, hlX2, hlY2, e1, e7, e8, e9, e74, e75, l7, l8, c1, hi, idxA, Int.toNat_natCast]; done))) | (refine W_condF ?hc ?_; (case hc => (simp (disch := omega) only [go_sem, ↓reduceIte, Nat.reduceEqDiff, Nat.reduceAdd, Nat.reduceLeDiff, p1, p2, p3, p4, p5, a1, a2, a3, b1, b2, b3, o1, o2, o3, o4, o5, o6, hlX2, hlY2, e1, e7, e8, e9, e74, e75, l7, l8, c1, hi, idxA, Int.toNat_natCast]; done))) | refine thenI ?_ | refine thenE ?_ | refine thenR ?_ | refine inBI ?_ | refine inBR ?_ | refine inBS ?_ | refine inBN (by decide) ?_)
    refine ⟨us.length - (j + 1), by omega, j + 1, r', L', rfl, by omega, hg.away.ext_of hext (hown.top hfr), by rw [hzj]; exact hown', hfr', (by (simp (disch := omega) only [go_sem, ↓reduceIte, Nat.reduceEqDiff, Nat.reduceAdd, Nat.reduceLeDiff, p1, p2, p3, p4, p5, a1, a2, a3, b1, b2, b3, o1, o2, o3, o4, o5, o6, hlX2, hlY2, e1, e7, e8, e9, e74, e75, l7, l8, c1, hi, idxA, Int.toNat_natCast]); try rfl), (by (simp (disch := omega) only [go_sem, ↓reduceIte, Nat.reduceEqDiff, Nat.reduceAdd, Nat.reduceLeDiff, p1, p2, p3, p4, p5, a1, a2, a3, b1, b2, b3, o1, o2, o3, o4, o5, o6, hlX2, hlY2, e1, e7, e8, e9, e74, e75, l7, l8, c1, hi, idxA, Int.toNat_natCast]); try rfl), (by (simp (disch := omega) only [go_sem, ↓reduceIte, Nat.reduceEqDiff, Nat.reduceAdd, Nat.reduceLeDiff, p1, p2, p3, p4, p5, a1, a2, a3, b1, b2, b3, o1, o2, o3, o4, o5, o6, hlX2, hlY2, e1, e7, e8, e9, e74, e75, l7, l8, c1, hi, idxA, Int.toNat_natCast]); try rfl), (by (simp (disch := omega) only [go_sem, ↓reduceIte, Nat.reduceEqDiff, Nat.reduceAdd, Nat.reduceLeDiff, p1, p2, p3, p4, p5, a1, a2, a3, b1, b2, b3, o1, o2, o3, o4, o5, o6, hlX2, hlY2, e1, e7, e8, e9, e74, e75, l7, l8, c1, hi, idxA, Int.toNat_natCast]); try rfl), (by (simp (disch := omega) only [go_sem, ↓reduceIte, Nat.reduceEqDiff, Nat.reduceAdd, Nat.reduceLeDiff, p1, p2, p3, p4, p5, a1, a2, a3, b1, b2, b3, o1, o2, o3, o4, o5, o6, hlX2, hlY2, e1, e7, e8, e9, e74, e75, l7, l8, c1, hi, idxA, Int.toNat_natCast]); try rfl), (by (simp (disch := omega) only [go_sem, ↓reduceIte, Nat.reduceEqDiff, Nat.reduceAdd, Nat.reduceLeDiff, p1, p2, p3, p4, p5, a1, a2, a3, b1, b2, b3, o1, o2, o3, o4, o5, o6, hlX2, hlY2, e1, e7, e8, e9, e74, e75, l7, l8, c1, hi, idxA, Int.toNat_natCast]); try rfl), (by (simp (disch := omega) only [go_sem, ↓reduceIte, Nat.reduceEqDiff, Nat.reduceAdd, Nat.reduceLeDiff, p1, p2, p3, p4, p5, a1, a2, a3, b1, b2, b3, o1, o2, o3, o4, o5, o6, hlX2, hlY2, e1, e7, e8, e9, e74, e75, l7, l8, c1, hi, idxA, Int.toNat_natCast]); try rfl), (by (simp (disch := omega) only [go_sem, ↓reduceIte, Nat.reduceEqDiff, Nat.reduceAdd, Nat.reduceLeDiff, p1, p2, p3, p4, p5, a1, a2, a3, b1, b2, b3, o1, o2, o3, o4, o5, o6, hlX2, hlY2, e1, e7, e8, e9, e74, e75, l7, l8, c1, hi, idxA, Int.toNat_natCast]); try rfl)⟩
  · have c1 : decide ((j : Int) < (us.length : Int)) = false := by simpa using hlt
    have hjn : j = us.length := by omega
    subst hjn
    have hzt : (us.zip vs).take us.length = us.zip vs := by rw [← hzl, List.take_length]
    rw [hzt] at hown
    repeat (first | ((first | refine W_reg rfl fun G K hG hK => ?_ | refine W_end rfl fun G K hG hK => ?_); simp (disch := omega) only [go_sem, ↓reduceIte, Nat.reduceEqDiff, Nat.reduceAdd, Nat.reduceLeDiff, hG, p1, p2, p3, p4, p5, a1, a2, a3, b1, b2, b3, o1, o2, o3, o4, o5, o6, hlX2, hlY2, e1, e7, e8, e9, e74, e75, l7, l8, c1]; refine hK _ _ ?_; clear hK K hG G) | refine W_seqS ?_ | refine W_seqC ?_ | refine W_seqB ?_ | refine W_block ?_ | refine W_skip ?_ | (refine W_condT ?hc ?_; (case hc => (simp (disch := omega) only [go_sem, ↓reduceIte, Nat.reduceEqDiff, Nat.reduceAdd, Nat.reduceLeDiff, p1, p2, p3, p4, p5, a1, a2, a3, b1, b2, b3, o1, o2, o3, o4, o5, o6, hlX2, hlY2, e1, e7, e8, e9, e74, e75, l7, l8, c1]; done))) | (refine W_condF ?hc ?_; (case hc => (simp (disch := omega) only [go_sem, ↓reduceIte, Nat.reduceEqDiff, Nat.reduceAdd, Nat.reduceLeDiff, p1, p2, p3, p4, p5, a1, a2, a3, b1, b2, b3, o1, o2, o3, o4, o5, o6, hlX2, hlY2, e1, e7, e8, e9, e74, e75, l7, l8, c1]; done))) | refine thenI ?_ | refine thenE ?_ | refine thenR ?_ | refine inBI ?_ | refine inBR ?_ | refine inBS ?_ | refine inBN (by decide) ?_)
    refine W_exit ?_; repeat (first | refine thenI ?_ | refine thenE ?_ | refine thenR ?_ | refine inBI ?_ | refine inBR ?_ | refine inBS ?_ | refine inBN (by decide) ?_)
    repeat (first | ((first | refine W_reg rfl fun G K hG hK => ?_ | refine W_end rfl fun G K hG hK => ?_); simp (disch := omega) only [go_sem, ↓reduceIte, Nat.reduceEqDiff, Nat.reduceAdd, Nat.reduceLeDiff, hG, p1, p2, p3, p4, p5, a1, a2, a3, b1, b2, b3, o1, o2, o3, o4, o5, o6, hlX2, hlY2, e1, e7, e8, e9, e74, e75, l7, l8, c1, ol]; refine hK _ _ ?_; clear hK K hG G) | refine W_seqS ?_ | refine W_seqC ?_ | refine W_seqB ?_ | refine W_block ?_ | refine W_skip ?_ | (refine W_condT ?hc ?_; (case hc => (simp (disch := omega) only [go_sem, ↓reduceIte, Nat.reduceEqDiff, Nat.reduceAdd, Nat.reduceLeDiff, p1, p2, p3, p4, p5, a1, a2, a3, b1, b2, b3, o1, o2, o3, o4, o5, o6, hlX2, hlY2, e1, e7, e8, e9, e74, e75, l7, l8, c1, ol]; done))) | (refine W_condF ?hc ?_; (case hc => (simp (disch := omega) only [go_sem, ↓reduceIte, Nat.reduceEqDiff, Nat.reduceAdd, Nat.reduceLeDiff, p1, p2, p3, p4, p5, a1, a2, a3, b1, b2, b3, o1, o2, o3, o4, o5, o6, hlX2, hlY2, e1, e7, e8, e9, e74, e75, l7, l8, c1, ol]; done))) | refine thenI ?_ | refine thenE ?_ | refine thenR ?_ | refine inBI ?_ | refine inBR ?_ | refine inBS ?_ | refine inBN (by decide) ?_)
    refine W_ret ?_; try (repeat (first | refine thenI ?_ | refine thenE ?_ | refine thenR ?_ | refine inBI ?_ | refine inBR ?_ | refine inBS ?_ | refine inBN (by decide) ?_))
    refine fin3 (.inl rfl) (by (simp (disch := omega) only [go_sem, ↓reduceIte, Nat.reduceEqDiff, Nat.reduceAdd, Nat.reduceLeDiff, p1, p2, p3, p4, p5, a1, a2, a3, b1, b2, b3, o1, o2, o3, o4, o5, o6, hlX2, hlY2, e1, e7, e8, e9, e74, e75, l7, l8, c1]); try rfl) p5 (by (simp (disch := omega) only [go_sem, ↓reduceIte, Nat.reduceEqDiff, Nat.reduceAdd, Nat.reduceLeDiff, p1, p2, p3, p4, p5, a1, a2, a3, b1, b2, b3, o1, o2, o3, o4, o5, o6, hlX2, hlY2, e1, e7, e8, e9, e74, e75, l7, l8, c1, ol]); try rfl) ol (by (simp (disch := omega) only [go_sem, ↓reduceIte, Nat.reduceEqDiff, Nat.reduceAdd, Nat.reduceLeDiff, p1, p2, p3, p4, p5, a1, a2, a3, b1, b2, b3, o1, o2, o3, o4, o5, o6, hlX2, hlY2, e1, e7, e8, e9, e74, e75, l7, l8, c1]); try rfl) rfl ⟨hx2.trans hext, ?_⟩
    rw [hres]
    exact ⟨sl, r, L, sb, rfl, hRb, hx2, hext, hown, hfr⟩

end

section
/- impl.namesIn, impl.VarsOfTerm, impl.RestrictSubst, impl.MatchTerm. -/
open Go Go.Proofs
set_option linter.unusedVariables false
set_option linter.unusedSimpArgs false
set_option maxRecDepth 100000
-- AUTO

theorem implVarsOf_ok (t : T) (st : St) (cs : List Value) (hlm : Lim 1073741824 t) (hB : t.wt + 1 ≤ 1073741824) (hE : Enc st t cs) :
    CallS Try.prog 22 [.agg cs.toArray] st fun r st2 => Ext st st2 ∧ ∃ L, Sl st2 (namesB (T.vars t)) r L ∧ Fresh st.length L := by
  obtain ⟨k, n, nm, args, hte⟩ := T.eta t
  obtain ⟨s1, rfl, hr⟩ := (hte ▸ hE).open
  refine CallS_of_W [] 6 Try.func22 rfl rfl rfl rfl (by simp) ?_
  have q1 := hr.notLoc.1
  have q2 := hr.notLoc.2
  have hvl := T.vars_len t
  repeat (first | ((first | refine W_reg rfl fun G K hG hK => ?_ | refine W_end rfl fun G K hG hK => ?_); simp (disch := omega) only [go_sem, ↓reduceIte, Nat.reduceEqDiff, Nat.reduceAdd, Nat.reduceLeDiff, hG, q1, q2]; refine hK _ _ ?_; clear hK K hG G) | refine W_seqS ?_ | refine W_seqC ?_ | refine W_seqB ?_ | refine W_block ?_ | refine W_skip ?_ | (refine W_condT ?hc ?_; (case hc => (simp (disch := omega) only [go_sem, ↓reduceIte, Nat.reduceEqDiff, Nat.reduceAdd, Nat.reduceLeDiff, q1, q2]; done))) | (refine W_condF ?hc ?_; (case hc => (simp (disch := omega) only [go_sem, ↓reduceIte, Nat.reduceEqDiff, Nat.reduceAdd, Nat.reduceLeDiff, q1, q2]; done))) | refine thenI ?_ | refine thenE ?_ | refine thenR ?_ | refine inBI ?_ | refine inBR ?_ | refine inBS ?_ | refine inBN (by decide) ?_)
  (repeat (first | refine W_seqS ?_ | refine W_seqC ?_ | refine W_seqB ?_ | refine W_block ?_)); refine W_reg rfl fun G K hG hK => ?_; simp (disch := omega) only [go_sem, ↓reduceIte, Nat.reduceEqDiff, Nat.reduceAdd, Nat.reduceLeDiff, hG, q1, q2]
  refine w_call (implVars_ok t st _ hlm hB hE) (by simp (disch := omega) only [go_sem, ↓reduceIte, Nat.reduceEqDiff, q1, q2]) ?hl ?_
  case hl => first | rfl | (simp only [go_sem, List.all_cons, List.all_nil, Bool.not_false, Bool.and_self, q1, q2]; done)
  rintro r_ sa ⟨x1, L1, hs1, hf1⟩; refine ⟨fun e => (by cases e), ?_⟩
  have o1 := hs1.loc
  simp (disch := omega) only [go_sem, ↓reduceIte, Nat.reduceEqDiff, Nat.reduceAdd, Nat.reduceLeDiff, q1, q2, o1]
  refine w_call (implSort_ok (T.vars t) sa _ (by omega) hs1.row) (by simp (disch := omega) only [go_sem, ↓reduceIte, Nat.reduceEqDiff, q1, q2, o1]) ?hl ?_
  case hl => first | rfl | (simp only [go_sem, List.all_cons, List.all_nil, Bool.not_false, Bool.and_self, q1, q2, o1]; done)
  rintro r_ sb ⟨x2, L2, hs2, hf2⟩; refine ⟨fun e => (by cases e), ?_⟩
  have o2 := hs2.loc
  simp (disch := omega) only [go_sem, ↓reduceIte, Nat.reduceEqDiff, Nat.reduceAdd, Nat.reduceLeDiff, hG, q1, q2, o2]; refine hK _ _ ?_; clear hK K hG G; repeat (first | refine thenI ?_ | refine thenE ?_ | refine thenR ?_ | refine inBI ?_ | refine inBR ?_ | refine inBS ?_ | refine inBN (by decide) ?_)
  have hl1 := x1.length
  refine W_ret ?_; try (repeat (first | refine thenI ?_ | refine thenE ?_ | refine thenR ?_ | refine inBI ?_ | refine inBR ?_ | refine inBS ?_ | refine inBN (by decide) ?_))
  refine fin1 (.inl rfl) (by (simp (disch := omega) only [go_sem, ↓reduceIte, Nat.reduceEqDiff, Nat.reduceAdd, Nat.reduceLeDiff, q1, q2]); try rfl) o2 ⟨x1.trans x2, L2, hs2, hf2.1, fun i hi => Nat.le_trans hl1 (hf2.2 i hi)⟩

theorem implRestr_ok (bs : List Bnd) (ns : List ByteArray) (st : St) (sb sn : Value) (hbb : bs.length ≤ 4611686018427387904) (hl : ∀ b ∈ bs, Lim 1073741824 b.tm) (hbn : ns.length ≤ 1073741824) (hrb : Rw st bs sb) (hrn : Rw st ns sn) :
    CallS Try.prog 21 [sb, sn] st fun r st2 => Ext st st2 ∧ ∃ L, Sl st2 (restr bs (namesB ns)) r L ∧ Fresh st.length L := by
  refine CallS_of_W [] 32 Try.func21 rfl rfl rfl rfl (by simp) ?_
  have q1 := hrb.notLoc.1
  have q2 := hrn.notLoc.1
  repeat (first | ((first | refine W_reg rfl fun G K hG hK => ?_ | refine W_end rfl fun G K hG hK => ?_); simp (disch := omega) only [go_sem, ↓reduceIte, Nat.reduceEqDiff, Nat.reduceAdd, Nat.reduceLeDiff, hG, q1, q2]; refine hK _ _ ?_; clear hK K hG G) | refine W_seqS ?_ | refine W_seqC ?_ | refine W_seqB ?_ | refine W_block ?_ | refine W_skip ?_ | (refine W_condT ?hc ?_; (case hc => (simp (disch := omega) only [go_sem, ↓reduceIte, Nat.reduceEqDiff, Nat.reduceAdd, Nat.reduceLeDiff, q1, q2]; done))) | (refine W_condF ?hc ?_; (case hc => (simp (disch := omega) only [go_sem, ↓reduceIte, Nat.reduceEqDiff, Nat.reduceAdd, Nat.reduceLeDiff, q1, q2]; done))) | refine thenI ?_ | refine thenE ?_ | refine thenR ?_ | refine inBI ?_ | refine inBR ?_ | refine inBS ?_ | refine inBN (by decide) ?_)
  (repeat (first | refine W_seqS ?_ | refine W_seqC ?_ | refine W_seqB ?_ | refine W_block ?_)); refine W_reg rfl fun G K hG hK => ?_; simp (disch := omega) only [go_sem, ↓reduceIte, Nat.reduceEqDiff, Nat.reduceAdd, Nat.reduceLeDiff, hG, q1, q2]
  refine w_call (implSort_ok ns st sn hbn hrn) (by simp (disch := omega) only [go_sem, ↓reduceIte, Nat.reduceEqDiff, q1, q2]) ?hl ?_
  case hl => first | rfl | (simp only [go_sem, List.all_cons, List.all_nil, Bool.not_false, Bool.and_self, q1, q2]; done)
  rintro r_ sa ⟨x1, L1, hs1, hf1⟩; refine ⟨fun e => (by cases e), ?_⟩
  have hro := hs1.row
  have hnl := names_length ns
  have o1 := hs1.loc
  have hlen : lenE Try.prog 45 r_ = some (.int .i64 (namesB ns).length) := row_len hro Try.underlying45
  obtain ⟨ms, hms⟩ : ∃ ms, ms = namesB ns := ⟨_, rfl⟩
  rw [← hms] at hro hnl hlen
  have hl1 := x1.length
  simp (disch := omega) only [go_sem, ↓reduceIte, Nat.reduceEqDiff, Nat.reduceAdd, Nat.reduceLeDiff, hG, q1, q2, o1, hlen]; refine hK _ _ ?_; clear hK K hG G; repeat (first | refine thenI ?_ | refine thenE ?_ | refine thenR ?_ | refine inBI ?_ | refine inBR ?_ | refine inBS ?_ | refine inBN (by decide) ?_)
  repeat (first | ((first | refine W_reg rfl fun G K hG hK => ?_ | refine W_end rfl fun G K hG hK => ?_); simp (disch := omega) only [go_sem, ↓reduceIte, Nat.reduceEqDiff, Nat.reduceAdd, Nat.reduceLeDiff, hG, q1, q2, o1, hlen]; refine hK _ _ ?_; clear hK K hG G) | refine W_seqS ?_ | refine W_seqC ?_ | refine W_seqB ?_ | refine W_block ?_ | refine W_skip ?_ | (refine W_condT ?hc ?_; (case hc => (simp (disch := omega) only [go_sem, ↓reduceIte, Nat.reduceEqDiff, Nat.reduceAdd, Nat.reduceLeDiff, q1, q2, o1, hlen]; done))) | (refine W_condF ?hc ?_; (case hc => (simp (disch := omega) only [go_sem, ↓reduceIte, Nat.reduceEqDiff, Nat.reduceAdd, Nat.reduceLeDiff, q1, q2, o1, hlen]; done))) | refine thenI ?_ | refine thenE ?_ | refine thenR ?_ | refine inBI ?_ | refine inBR ?_ | refine inBS ?_ | refine inBN (by decide) ?_)
  refine W_loop (fun d fr st' => ∃ (j : Nat) (r : Value) (L : List Nat), d = ms.length - j ∧ j ≤ ms.length ∧ (Ext sa st') ∧ (Sl st' (restr bs (ms.take j)) r L) ∧ (Fresh sa.length L) ∧ (fr.env 0 = sb) ∧ (fr.env 5 = r) ∧ (fr.env 11 = r_) ∧ (fr.env 12 = .int .i64 ms.length) ∧ (fr.env 13 = .int .i64 j)) (ms.length) ?_ ?_
  · exact ⟨0, _, _, by omega, by omega, Ext.refl _, Sl.nil _, .nil _, (by (simp (disch := omega) only [go_sem, ↓reduceIte, Nat.reduceEqDiff, Nat.reduceAdd, Nat.reduceLeDiff, q1, q2, o1, hlen]); try rfl), (by (simp (disch := omega) only [go_sem, ↓reduceIte, Nat.reduceEqDiff, Nat.reduceAdd, Nat.reduceLeDiff, q1, q2, o1, hlen]); try rfl), (by (simp (disch := omega) only [go_sem, ↓reduceIte, Nat.reduceEqDiff, Nat.reduceAdd, Nat.reduceLeDiff, q1, q2, o1, hlen]); try rfl), (by (simp (disch := omega) only [go_sem, ↓reduceIte, Nat.reduceEqDiff, Nat.reduceAdd, Nat.reduceLeDiff, q1, q2, o1, hlen]); try rfl), (by (simp (disch := omega) only [go_sem, ↓reduceIte, Nat.reduceEqDiff, Nat.reduceAdd, Nat.reduceLeDiff, q1, q2, o1, hlen]); try rfl)⟩
  rintro d ⟨env, loc⟩ st' ⟨j, r, L, hd, hj, hext, hown, hfr, e0, e5, e11, e12, e13⟩
  simp only at e0 e5 e11 e12 e13
  by_cases hlt : j < ms.length
  · have c1 : decide ((j : Int) < (ms.length : Int)) = true := by simpa using hlt
    have hi := idxOk hlt
    have hx : ms[j]? = some ms[j] := List.getElem?_eq_getElem hlt
    have htk : ms.take (j + 1) = ms.take j ++ [ms[j]] := List.take_succ_eq_append_getElem hlt
    obtain ⟨i, o, c, rfl, hce⟩ := row_atS hro hx
    have hce := cell_ext hext hce
    have ol := hown.loc
    have hl0 := hext.length
    have hrl := restr_len bs (ms.take j)
    rw [List.length_take] at hrl
    repeat (first | ((first | refine W_reg rfl fun G K hG hK => ?_ | refine W_end rfl fun G K hG hK => ?_); simp (disch := omega) only [go_sem, ↓reduceIte, Nat.reduceEqDiff, Nat.reduceAdd, Nat.reduceLeDiff, hG, q1, q2, o1, hlen, e0, e5, e11, e12, e13, c1, hi, idxA, Int.toNat_natCast, ol, hce]; refine hK _ _ ?_; clear hK K hG G) | refine W_seqS ?_ | refine W_seqC ?_ | refine W_seqB ?_ | refine W_block ?_ | refine W_skip ?_ | (refine W_condT ?hc ?_; (case hc => (simp (disch := omega) only [go_sem, ↓reduceIte, Nat.reduceEqDiff, Nat.reduceAdd, Nat.reduceLeDiff, q1, q2, o1, hlen, e0, e5, e11, e12, e13, c1, hi, idxA, Int.toNat_natCast, ol, hce]; done))) | (refine W_condF ?hc ?_; (case hc => (simp (disch := omega) only [go_sem, ↓reduceIte, Nat.reduceEqDiff, Nat.reduceAdd, Nat.reduceLeDiff, q1, q2, o1, hlen, e0, e5, e11, e12, e13, c1, hi, idxA, Int.toNat_natCast, ol, hce]; done))) | refine thenI ?_ | refine thenE ?_ | refine thenR ?_ | refine inBI ?_ | refine inBR ?_ | refine inBS ?_ | refine inBN (by decide) ?_)
    (repeat (first | refine W_seqS ?_ | refine W_seqC ?_ | refine W_seqB ?_ | refine W_block ?_)); refine W_reg rfl fun G K hG hK => ?_; simp (disch := omega) only [go_sem, ↓reduceIte, Nat.reduceEqDiff, Nat.reduceAdd, Nat.reduceLeDiff, hG, q1, q2, o1, hlen, e0, e5, e11, e12, e13, c1, hi, idxA, Int.toNat_natCast, ol]
    refine w_call (implFind_ok bs ms[j] st' sb hbb hl (hrb.ext (x1.trans hext))) (by simp (disch := omega) only [go_sem, ↓reduceIte, Nat.reduceEqDiff, q1, q2, o1, hlen, e0, e5, e11, e12, e13, c1, hi, idxA, Int.toNat_natCast, ol]) ?hl ?_
    case hl => first | rfl | (simp only [go_sem, List.all_cons, List.all_nil, Bool.not_false, Bool.and_self, q1, q2, o1, hlen, e0, e5, e11, e12, e13, c1, hi, idxA, Int.toNat_natCast, ol]; done)
    rintro r_ sc ⟨x2, ds, Lx, rfl, hox, hfx⟩; refine ⟨fun e => (by cases e), ?_⟩
    obtain ⟨k1, n1, m1, s1, rfl, a1, a2, a3⟩ := hox.args_cells
    simp (disch := omega) only [go_sem, ↓reduceIte, Nat.reduceEqDiff, Nat.reduceAdd, Nat.reduceLeDiff, hG, q1, q2, o1, hlen, e0, e5, e11, e12, e13, c1, hi, idxA, Int.toNat_natCast, ol, a1, a2, a3]; refine hK _ _ ?_; clear hK K hG G; repeat (first | refine thenI ?_ | refine thenE ?_ | refine thenR ?_ | refine inBI ?_ | refine inBR ?_ | refine inBS ?_ | refine inBN (by decide) ?_)
    have hl2 := x2.length
    cases hq : (findB ms[j] bs).isSome with
    | false =>
      repeat (first | ((first | refine W_reg rfl fun G K hG hK => ?_ | refine W_end rfl fun G K hG hK => ?_); simp (disch := omega) only [go_sem, ↓reduceIte, Nat.reduceEqDiff, Nat.reduceAdd, Nat.reduceLeDiff, hG, q1, q2, o1, hlen, e0, e5, e11, e12, e13, c1, hi, idxA, Int.toNat_natCast, ol, a1, a2, a3]; refine hK _ _ ?_; clear hK K hG G) | refine W_seqS ?_ | refine W_seqC ?_ | refine W_seqB ?_ | refine W_block ?_ | refine W_skip ?_ | (refine W_condT ?hc ?_; (case hc => (simp (disch := omega) only [go_sem, ↓reduceIte, Nat.reduceEqDiff, Nat.reduceAdd, Nat.reduceLeDiff, q1, q2, o1, hlen, e0, e5, e11, e12, e13, c1, hi, idxA, Int.toNat_natCast, ol, a1, a2, a3]; done))) | (refine W_condF ?hc ?_; (case hc => (simp (disch := omega) only [go_sem, ↓reduceIte, Nat.reduceEqDiff, Nat.reduceAdd, Nat.reduceLeDiff, q1, q2, o1, hlen, e0, e5, e11, e12, e13, c1, hi, idxA, Int.toNat_natCast, ol, a1, a2, a3]; done))) | refine thenI ?_ | refine thenE ?_ | refine thenR ?_ | refine inBI ?_ | refine inBR ?_ | refine inBS ?_ | refine inBN (by decide) ?_)
      refine ⟨ms.length - (j + 1), by omega, j + 1, r, L, rfl, by omega, hext.trans x2, by rw [htk, restr_none hq]; exact hown.ext x2, hfr, (by (simp (disch := omega) only [go_sem, ↓reduceIte, Nat.reduceEqDiff, Nat.reduceAdd, Nat.reduceLeDiff, q1, q2, o1, hlen, e0, e5, e11, e12, e13, c1, hi, idxA, Int.toNat_natCast, ol, a1, a2, a3]); try rfl), (by (simp (disch := omega) only [go_sem, ↓reduceIte, Nat.reduceEqDiff, Nat.reduceAdd, Nat.reduceLeDiff, q1, q2, o1, hlen, e0, e5, e11, e12, e13, c1, hi, idxA, Int.toNat_natCast, ol, a1, a2, a3]); try rfl), (by (simp (disch := omega) only [go_sem, ↓reduceIte, Nat.reduceEqDiff, Nat.reduceAdd, Nat.reduceLeDiff, q1, q2, o1, hlen, e0, e5, e11, e12, e13, c1, hi, idxA, Int.toNat_natCast, ol, a1, a2, a3]); try rfl), (by (simp (disch := omega) only [go_sem, ↓reduceIte, Nat.reduceEqDiff, Nat.reduceAdd, Nat.reduceLeDiff, q1, q2, o1, hlen, e0, e5, e11, e12, e13, c1, hi, idxA, Int.toNat_natCast, ol, a1, a2, a3]); try rfl), (by (simp (disch := omega) only [go_sem, ↓reduceIte, Nat.reduceEqDiff, Nat.reduceAdd, Nat.reduceLeDiff, q1, q2, o1, hlen, e0, e5, e11, e12, e13, c1, hi, idxA, Int.toNat_natCast, ol, a1, a2, a3]); try rfl)⟩
    | true =>
      obtain ⟨r', sd, L', hap, hown', hfr', hg⟩ := OwnB.step (x := ⟨ms[j], findD ms[j] bs⟩) hown hfr (by omega) x2 ⟨_, rfl, hox⟩ hfx (by omega)
      have ol' := hown'.loc
      repeat (first | ((first | refine W_reg rfl fun G K hG hK => ?_ | refine W_end rfl fun G K hG hK => ?_); simp (disch := omega) only [go_sem, ↓reduceIte, Nat.reduceEqDiff, Nat.reduceAdd, Nat.reduceLeDiff, hG, q1, q2, o1, hlen, e0, e5, e11, e12, e13, c1, hi, idxA, Int.toNat_natCast, ol, a1, a2, a3]; refine hK _ _ ?_; clear hK K hG G) | refine W_seqS ?_ | refine W_seqC ?_ | refine W_seqB ?_ | refine W_block ?_ | refine W_skip ?_ | (refine W_condT ?hc ?_; (case hc => (simp (disch := omega) only [go_sem, ↓reduceIte, Nat.reduceEqDiff, Nat.reduceAdd, Nat.reduceLeDiff, q1, q2, o1, hlen, e0, e5, e11, e12, e13, c1, hi, idxA, Int.toNat_natCast, ol, a1, a2, a3]; done))) | (refine W_condF ?hc ?_; (case hc => (simp (disch := omega) only [go_sem, ↓reduceIte, Nat.reduceEqDiff, Nat.reduceAdd, Nat.reduceLeDiff, q1, q2, o1, hlen, e0, e5, e11, e12, e13, c1, hi, idxA, Int.toNat_natCast, ol, a1, a2, a3]; done))) | refine thenI ?_ | refine thenE ?_ | refine thenR ?_ | refine inBI ?_ | refine inBR ?_ | refine inBS ?_ | refine inBN (by decide) ?_)
      refine W_end rfl fun G K hG hK => ?_; simp (disch := omega) only [go_sem, ↓reduceIte, Nat.reduceEqDiff, Nat.reduceAdd, Nat.reduceLeDiff, hG, q1, q2, o1, hlen, e0, e5, e11, e12, e13, c1, hi, idxA, Int.toNat_natCast, ol, a1, a2, a3, w_append, hap, ol']
      refine hK _ _ ?_; clear hK K hG G; repeat (first | refine thenI ?_ | refine thenE ?_ | refine thenR ?_ | refine inBI ?_ | refine inBR ?_ | refine inBS ?_ | refine inBN (by decide) ?_)
      repeat (first | ((first | refine W_reg rfl fun G K hG hK => ?_ | refine W_end rfl fun G K hG hK => ?_); simp (disch := omega) only [go_sem, ↓reduceIte, Nat.reduceEqDiff, Nat.reduceAdd, Nat.reduceLeDiff, hG, q1, q2, o1, hlen, e0, e5, e11, e12, e13, c1, hi, idxA, Int.toNat_natCast, ol, a1, a2, a3]; refine hK _ _ ?_; clear hK K hG G) | refine W_seqS ?_ | refine W_seqC ?_ | refine W_seqB ?_ | refine W_block ?_ | refine W_skip ?_ | (refine W_condT ?hc ?_; (case hc => (simp (disch := omega) only [go_sem, ↓reduceIte, Nat.reduceEqDiff, Nat.reduceAdd, Nat.reduceLeDiff, q1, q2, o1, hlen, e0, e5, e11, e12, e13, c1, hi, idxA, Int.toNat_natCast, ol, a1, a2, a3]; done))) | (refine W_condF ?hc ?_; (case hc => (simp (disch := omega) only [go_sem, ↓reduceIte, Nat.reduceEqDiff, Nat.reduceAdd, Nat.reduceLeDiff, q1, q2, o1, hlen, e0, e5, e11, e12, e13, c1, hi, idxA, Int.toNat_natCast, ol, a1, a2, a3]; done))) | refine thenI ?_ | refine thenE ?_ | refine thenR ?_ | refine inBI ?_ | refine inBR ?_ | refine inBS ?_ | refine inBN (by decide) ?_)
      refine ⟨ms.length - (j + 1), by omega, j + 1, r', L', rfl, by omega, hg.away.ext_of hext (hown.top hfr), by rw [htk, restr_some hq]; exact hown', hfr', (by (simp (disch := omega) only [go_sem, ↓reduceIte, Nat.reduceEqDiff, Nat.reduceAdd, Nat.reduceLeDiff, q1, q2, o1, hlen, e0, e5, e11, e12, e13, c1, hi, idxA, Int.toNat_natCast, ol, a1, a2, a3]); try rfl), (by (simp (disch := omega) only [go_sem, ↓reduceIte, Nat.reduceEqDiff, Nat.reduceAdd, Nat.reduceLeDiff, q1, q2, o1, hlen, e0, e5, e11, e12, e13, c1, hi, idxA, Int.toNat_natCast, ol, a1, a2, a3]); try rfl), (by (simp (disch := omega) only [go_sem, ↓reduceIte, Nat.reduceEqDiff, Nat.reduceAdd, Nat.reduceLeDiff, q1, q2, o1, hlen, e0, e5, e11, e12, e13, c1, hi, idxA, Int.toNat_natCast, ol, a1, a2, a3]); try rfl), (by (simp (disch := omega) only [go_sem, ↓reduceIte, Nat.reduceEqDiff, Nat.reduceAdd, Nat.reduceLeDiff, q1, q2, o1, hlen, e0, e5, e11, e12, e13, c1, hi, idxA, Int.toNat_natCast, ol, a1, a2, a3]); try rfl), (by (simp (disch := omega) only [go_sem, ↓reduceIte, Nat.reduceEqDiff, Nat.reduceAdd, Nat.reduceLeDiff, q1, q2, o1, hlen, e0, e5, e11, e12, e13, c1, hi, idxA, Int.toNat_natCast, ol, a1, a2, a3]); try rfl)⟩
  · have c1 : decide ((j : Int) < (ms.length : Int)) = false := by simpa using hlt
    have hjn : j = ms.length := by omega
    subst hjn
    rw [List.take_length] at hown
    have ol := hown.loc
    repeat (first | ((first | refine W_reg rfl fun G K hG hK => ?_ | refine W_end rfl fun G K hG hK => ?_); simp (disch := omega) only [go_sem, ↓reduceIte, Nat.reduceEqDiff, Nat.reduceAdd, Nat.reduceLeDiff, hG, q1, q2, o1, hlen, e0, e5, e11, e12, e13, c1]; refine hK _ _ ?_; clear hK K hG G) | refine W_seqS ?_ | refine W_seqC ?_ | refine W_seqB ?_ | refine W_block ?_ | refine W_skip ?_ | (refine W_condT ?hc ?_; (case hc => (simp (disch := omega) only [go_sem, ↓reduceIte, Nat.reduceEqDiff, Nat.reduceAdd, Nat.reduceLeDiff, q1, q2, o1, hlen, e0, e5, e11, e12, e13, c1]; done))) | (refine W_condF ?hc ?_; (case hc => (simp (disch := omega) only [go_sem, ↓reduceIte, Nat.reduceEqDiff, Nat.reduceAdd, Nat.reduceLeDiff, q1, q2, o1, hlen, e0, e5, e11, e12, e13, c1]; done))) | refine thenI ?_ | refine thenE ?_ | refine thenR ?_ | refine inBI ?_ | refine inBR ?_ | refine inBS ?_ | refine inBN (by decide) ?_)
    refine W_exit ?_; repeat (first | refine thenI ?_ | refine thenE ?_ | refine thenR ?_ | refine inBI ?_ | refine inBR ?_ | refine inBS ?_ | refine inBN (by decide) ?_)
    repeat (first | ((first | refine W_reg rfl fun G K hG hK => ?_ | refine W_end rfl fun G K hG hK => ?_); simp (disch := omega) only [go_sem, ↓reduceIte, Nat.reduceEqDiff, Nat.reduceAdd, Nat.reduceLeDiff, hG, q1, q2, o1, hlen, e0, e5, e11, e12, e13, c1]; refine hK _ _ ?_; clear hK K hG G) | refine W_seqS ?_ | refine W_seqC ?_ | refine W_seqB ?_ | refine W_block ?_ | refine W_skip ?_ | (refine W_condT ?hc ?_; (case hc => (simp (disch := omega) only [go_sem, ↓reduceIte, Nat.reduceEqDiff, Nat.reduceAdd, Nat.reduceLeDiff, q1, q2, o1, hlen, e0, e5, e11, e12, e13, c1]; done))) | (refine W_condF ?hc ?_; (case hc => (simp (disch := omega) only [go_sem, ↓reduceIte, Nat.reduceEqDiff, Nat.reduceAdd, Nat.reduceLeDiff, q1, q2, o1, hlen, e0, e5, e11, e12, e13, c1]; done))) | refine thenI ?_ | refine thenE ?_ | refine thenR ?_ | refine inBI ?_ | refine inBR ?_ | refine inBS ?_ | refine inBN (by decide) ?_)
    refine W_ret ?_; try (repeat (first | refine thenI ?_ | refine thenE ?_ | refine thenR ?_ | refine inBI ?_ | refine inBR ?_ | refine inBS ?_ | refine inBN (by decide) ?_))
    refine fin1 (.inl rfl) (by (simp (disch := omega) only [go_sem, ↓reduceIte, Nat.reduceEqDiff, Nat.reduceAdd, Nat.reduceLeDiff, q1, q2, o1, hlen, e0, e5, e11, e12, e13, c1]); try rfl) ol ⟨x1.trans hext, L, by rw [← hms]; exact hown, hfr.1, fun i hi => Nat.le_trans hl1 (hfr.2 i hi)⟩


end

end Go.Proofs.Ytoeibmfdafilcaa.AM
/- Strings: a byte, a part. -/
namespace Go.Proofs.Ytoeibmfdafilcaa.AM
open Go Go.Proofs
set_option linter.unusedVariables false
set_option linter.unusedSimpArgs false

section
variable {P : Program} {t : TypeId} {s : ByteArray}
end
end Go.Proofs.Ytoeibmfdafilcaa.AM


namespace Go.Proofs.Ytoeibmfdafilcaa.AM
open Go
attribute [local go_sem] List.map_cons List.map_nil List.all_cons List.all_nil Bool.and_self Option.map_some List.getElem?_toArray Option.bind_some gye_b gye_t gsk_b gsk_t gb1 gb2 gb3 gb4 bne_self_eq_false beq_self_eq_true w_guard w_nil stepV_some step_some step_some' w_move w_assign w_pick w_binOp w_unOp w_load w_fieldAddr w_indexAddr w_len w_max w_index ev_max max_int ev_index w_box w_alloc w_store w_field w_extract w_nilCheck w_convert w_buildSlice w_build ev_buildL fillL_nil fillL_cons bs0 bs1 ev_conv ev_bin ev_un ev_pick ev_load ev_fieldAddr ev_indexAddr ev_len ev_field ev_extract ev_nilCheck fr_tmp fr_int fr_bool fr_str fr_nil fr_func put_some put_none bin_lss bin_leq bin_gtr bin_geq bin_eql bin_neq bin_add bin_sub bin_mul bin_seql bin_sneq un_not pick_ ext_ loadA_p cellAt_l cellAt_h okPtr_l okPtr_h fadA_p allocA_l storeA_l cells_agg cells_int cells_str cells_sl cells_bool flat_i flat_s flat_b flat_sl flat_nil loc_agg loc_int loc_str loc_sl loc_bool loc_fn loc_ptr okv_agg okv_int okv_str okv_sl okv_bool cellsFrom splice upd_eval argEnv_zero argEnv_succ ne_eq Nat.add_one_ne_zero not_false_eq_true List.not_mem_nil and_self decide_true List.getElem?_cons_zero List.getElem?_cons_succ List.size_toArray List.length_cons List.length_nil List.take_succ_cons List.take_zero List.drop_succ_cons List.drop_zero List.cons_append List.nil_append List.drop_nil Bool.not_true Bool.not_false Bool.false_eq_true Nat.zero_add Nat.add_zero wrap_in List.toList_toArray List.mem_cons or_self or_false false_or
attribute [local go_sem] ag22 ag24 ag26 ag29 ag3 ag31 ag49 ag54 ag9 ag91 bu31 bu41 bu49 bu54 by31 by49 by54 by9 el22 el26 el29 el45 el50 el68 of24_0 of24_1 of24_2 of24_3 of31_0 of31_1 of31_2 of31_3 of41_0 of41_1 of41_2 of49_0 of49_1 of54_0 of54_1 ro31_0 ro31_1 ro49_1 ro5_1 ro54_0 ro54_1 ro9_0 ro9_1 sz22 sz24 sz26 sz29 sz3 sz31 sz49 sz5 sz54 sz9 sz91 ze3 ze31 ze49 ze54 ze9 ze91
section
/- Words: spec.l1In, the built-in operators, the tests for words, their operations. -/
open Go Go.Proofs
set_option linter.unusedVariables false
set_option linter.unusedSimpArgs false
set_option maxRecDepth 100000


end

section
/- Names: impl.isNamed, IsName, IsVarName; spec.l2Lower, l2Digit, l2Rest, IsName, IsVarName. -/
open Go Go.Proofs
set_option linter.unusedVariables false
set_option linter.unusedSimpArgs false
set_option maxRecDepth 100000
-- AUTO


end

end Go.Proofs.Ytoeibmfdafilcaa.AM
/- Regions that draw their order, walked in several orders; some pairs change places by what is known where they stand. -/
namespace Go.Proofs.Ytoeibmfdafilcaa.AM
open Go
set_option linter.unusedVariables false
set_option linter.unusedSimpArgs false

/-- What is known goes on over an operation. -/
def Keeps (P : Program) (A H : List Tmp) (G : Nat → Option Tmp) (I : Fr → St → Prop) (a : Oper × Bool) : Prop := ∀ (R : List (Oper × Bool)) (K : Fr → St → Prop) (fr : Fr) (st : St), I fr st → WOps P A H G (a :: R) K fr st → WOps P A H G [a] (fun fr st => I fr st ∧ WOps P A H G R K fr st) fr st
/-- Two operations change places, by what is known. -/
def SwI (P : Program) (A H : List Tmp) (G : Nat → Option Tmp) (I : Fr → St → Prop) (a x : Oper × Bool) : Prop := ∀ (R : List (Oper × Bool)) (K : Fr → St → Prop) (fr : Fr) (st : St), I fr st → WOps P A H G (a :: x :: R) K fr st → WOps P A H G (x :: a :: R) K fr st
theorem WOps_unhead {P : Program} {A H : List Tmp} {G : Nat → Option Tmp} {ox : Oper × Bool} {R : List (Oper × Bool)} {K : Fr → St → Prop} {fr : Fr} {st : St} (h : WOps P A H G [ox] (fun fr st => WOps P A H G R K fr st) fr st) : WOps P A H G (ox :: R) K fr st := by
  obtain ⟨o, x⟩ := ox
  unfold WOps at h ⊢
  exact h
theorem hopI {P : Program} {A H : List Tmp} {G : Nat → Option Tmp} {I : Fr → St → Prop} {x : Oper × Bool} {rest : List (Oper × Bool)} {K : Fr → St → Prop} : ∀ (As : List (Oper × Bool)), (∀ a ∈ As, SwI P A H G I a x ∧ Keeps P A H G I a) → ∀ fr st, I fr st → WOps P A H G (As ++ x :: rest) K fr st → WOps P A H G (x :: (As ++ rest)) K fr st := by
  intro As
  induction As with
  | nil => intro _ fr st _ h; exact h
  | cons a As ih =>
    intro hs fr st hI h
    refine (hs a (by simp)).1 _ _ _ _ hI (WOps_unhead ?_)
    exact ((hs a (by simp)).2 _ _ _ _ hI h).mono fun fr st ⟨h1, h2⟩ => ih (fun b hb => hs b (by simp [hb])) fr st h1 h2
def swapOkL (SP : List (Nat × Nat)) (A H : List Tmp) (l : List Oper) (p q : Nat × Bool) : Bool := swapOk A H l p q || SP.contains (p.1, q.1)
/-- Pairs of operations whose order counts. -/
def exmL (SP : List (Nat × Nat)) (A H : List Tmp) (l : List Oper) (T : List (List Nat)) : List (Nat × Bool) → List (Nat × Nat)
  | [] => []
  | p :: rest => ((rest.filter fun q => !((T.getD q.1 []).contains p.1 || swapOkL SP A H l p q)).map fun q => (p.1, q.1)) ++ exmL SP A H l T rest
def keepOL (SP : List (Nat × Nat)) (A H : List Tmp) (l : List Oper) (done : List Nat) (x : Nat) (π : List (Nat × Bool)) : Bool := (exmL SP A H l (ancT l) π).all fun pq => pq.2 != x || done.contains pq.1
/-- Whatever is drawn, one of the orders goes with it. -/
def gameL (SP : List (Nat × Nat)) (A H : List Tmp) (l : List Oper) (E : List Nat) : Nat → List (List (Nat × Bool)) → List Nat → Bool
  | 0, act, done => !act.isEmpty && E.all fun e => done.contains e
  | k + 1, act, done => !act.isEmpty && E.all fun e => done.contains e || !(((ancT l).getD e []).filter E.contains).all (done.contains ·) || gameL SP A H l E k (goOn l e (act.filter (keepOL SP A H l done e))) (e :: done)
def inEL (SP : List (Nat × Nat)) (A H : List Tmp) (l : List Oper) (E : List Nat) (π : List (Nat × Bool)) : Bool := (exmL SP A H l (ancT l) π).all fun pq => E.contains pq.1 && E.contains pq.2
def chkML (SP : List (Nat × Nat)) (A H : List Tmp) (l : List Oper) (E : List Nat) (PS : List (List (Nat × Bool))) : Bool :=
  tabOk l (ancT l) && (List.range l.length).all (fun i => E.contains i || !((l[i]?).bind fun o => callOf o.op).isSome) && PS.all (fun π => chk1 l π && inEL SP A H l E π) && gameL SP A H l E E.length PS []

theorem exm_specL {SP : List (Nat × Nat)} {A H : List Tmp} {l : List Oper} {T : List (List Nat)} : ∀ {π : List (Nat × Bool)} (X : List (Nat × Bool)) (q : Nat × Bool) (Y : List (Nat × Bool)), π = X ++ q :: Y → ∀ p ∈ X, p.1 ∈ T.getD q.1 [] ∨ swapOkL SP A H l p q = true ∨ (p.1, q.1) ∈ exmL SP A H l T π := by
  intro π
  induction π with
  | nil => intro X q Y e; cases X <;> cases e
  | cons r π ih =>
    intro X q Y e p hp
    cases X with
    | nil => cases hp
    | cons r' X =>
      injection e with e1 e2
      subst e1
      cases hp with
      | head =>
        cases hb : ((T.getD q.1 []).contains r.1 || swapOkL SP A H l r q) with
        | true =>
          rcases Bool.or_eq_true_iff.1 hb with h | h
          · exact .inl (by simpa using h)
          · exact .inr (.inl h)
        | false =>
          refine .inr (.inr ?_)
          simp only [exmL]
          refine List.mem_append_left _ (List.mem_map.2 ⟨q, List.mem_filter.2 ⟨by rw [e2]; simp, by rw [hb]; rfl⟩, rfl⟩)
      | tail _ hp =>
        rcases ih X q Y e2 p hp with h | h | h
        · exact .inl h
        · exact .inr (.inl h)
        · exact .inr (.inr (by simp only [exmL]; exact List.mem_append_right _ h))

section
variable {P : Program} {A H : List Tmp} {G : Nat → Option Tmp}
theorem wpAny_soundML {I : Fr → St → Prop} {SP : List (Nat × Nat)} {n : Nat} {B : Base} {l : List Oper} {E : List Nat} (hKeep : ∀ o ∈ l, ∀ x, Keeps P A H G I (o, x)) (hSP : ∀ p q a x, (p, q) ∈ SP → l[p]? = some a → l[q]? = some x → ∀ fp fq, SwI P A H G I (a, fp) (x, fq)) (ctab : tabOk l (ancT l) = true) (ccall : ∀ i o, l[i]? = some o → i ∉ E → callOf o.op = none) (hd : ∀ o ∈ l, ∀ t, o.dst = some t → t < n)
    (hG : ∀ j, G j = (l.toArray[j]?).bind (·.dst)) {K : Fr → St → Prop} {Q : Exit → Act → World → Prop}
    (hQ : ∀ fr' st' M' L' a' w', K fr' st' → Rel P B M' L' n fr' st' a' w' → Q .normal a' w') :
    ∀ (fuel k : Nat) (act : List (List (Nat × Bool))) (done : List Nat) (listed : Array Bool) (fr : Fr) (st : St) (M : List ME) (L : Nat → Nat) (a : Act) (w : World), (∀ π ∈ act, chk1 l π = true ∧ inEL SP A H l E π = true) → gameL SP A H l E k act done = true → (∀ e ∈ E, e ∈ done ↔ listed.getD e false = true) →
      listed.size = l.length → (∀ π ∈ act, (rem π listed).length = fuel) → (∀ i, i < l.length → listed.getD i false = true → ∀ d ∈ deps l i, listed.getD d false = true) →
      Rel P B M L n fr st a w → I fr st → (∀ π ∈ act, WOps P A H G (pickOps l (rem π listed)) K fr st) → wpAny P .any l.toArray Q fuel listed a w := by
  intro fuel
  induction fuel with
  | zero =>
    intro k act done listed fr st M L a w hchk hgame hdone hsz hlen hcl R hI h
    obtain ⟨π, hπ⟩ : ∃ π, π ∈ act := by
      cases act with
      | nil => cases k <;> simp [gameL] at hgame
      | cons π _ => exact ⟨π, by simp⟩
    have hc := (hchk π hπ).1
    unfold chk1 at hc
    simp only [Bool.and_eq_true] at hc
    obtain ⟨⟨⟨c1, c2⟩, c3⟩, c5⟩ := hc
    have cover : ∀ i, i < l.length → ∃ p ∈ π, p.1 = i := by
      intro i hi
      have := List.all_eq_true.1 c2 i (by simpa using hi)
      simpa using this
    have hrem : rem π listed = [] := List.eq_nil_of_length_eq_zero (hlen π hπ)
    refine ⟨?_, ?_⟩
    · apply List.eq_nil_iff_forall_not_mem.2
      intro i hi
      obtain ⟨h1, h2, h3⟩ := mem_ready.1 hi
      obtain ⟨p, hp, rfl⟩ := cover i h1
      have : p ∈ rem π listed := mem_rem.2 ⟨hp, h2⟩
      rw [hrem] at this
      cases this
    · have := h π hπ
      rw [hrem] at this
      exact hQ _ _ _ _ _ _ this R
  | succ fuel ih =>
    intro k act done listed fr st M L a w hchk hgame hdone hsz hlen hcl R hI h
    refine ⟨fun hr => ?_, fun i hi => ?_⟩
    · -- something is ready
      exfalso
      obtain ⟨π, hπ⟩ : ∃ π, π ∈ act := by
        cases act with
        | nil => cases k <;> simp [gameL] at hgame
        | cons π _ => exact ⟨π, by simp⟩
      have hc := (hchk π hπ).1
      unfold chk1 at hc
      simp only [Bool.and_eq_true] at hc
      obtain ⟨⟨⟨c1, c2⟩, c3⟩, c5⟩ := hc
      have inl : ∀ p ∈ π, p.1 < l.length := fun p hp => by have := List.all_eq_true.1 c3 p hp; simpa using this
      have hlen := hlen π hπ
      have hex := rem_split (π := π) (listed := listed) (by intro e; rw [e] at hlen; cases hlen)
      obtain ⟨X, q, Y, e, h1, h2⟩ := hex
      have hq : q.1 < l.length := inl q (by rw [e]; simp)
      have : q.1 ∈ Region.ready .any l.toArray listed := by
        refine mem_ready.2 ⟨hq, h2, fun d hd => ?_⟩
        rcases topoOk_spec c5 X q Y e d hd with hd | ⟨p, hp, rfl⟩
        · cases hd
        · have h3 := h1 p hp
          have hp' : p.1 < listed.size := by rw [hsz]; exact inl p (by rw [e]; simp [hp])
          rw [getD_lt hp' false true]; exact h3
      rw [hr] at this
      cases this
    · obtain ⟨h1, h2, h3⟩ := mem_ready.1 hi
      obtain ⟨o, ho⟩ : ∃ o, l[i]? = some o := ⟨_, List.getElem?_eq_getElem h1⟩
      have hq' : i < listed.size := by rw [hsz]; exact h1
      -- the orders that go on, and the gameL that goes on
      obtain ⟨k', act', done', hact, hgame', hone, hdone', hkeep⟩ : ∃ k' act' done', (∀ π ∈ act', π ∈ act) ∧ gameL SP A H l E k' act' done' = true ∧ (callOf o.op = none ∨ ∃ π, act' = [π]) ∧ (∀ e ∈ E, e ∈ done' ↔ (e = i ∨ listed.getD e false = true)) ∧ ∀ π ∈ act', ∀ p, (p, i) ∈ exmL SP A H l (ancT l) π → listed.getD p false = true := by
        by_cases hE : i ∈ E
        · have hnd : i ∉ done := fun hh => by
            have := (hdone i hE).1 hh
            rw [getD_lt hq' false true] at this
            rw [h2] at this; cases this
          cases k with
          | zero =>
            exfalso
            simp only [gameL, Bool.and_eq_true] at hgame
            have := List.all_eq_true.1 hgame.2 i hE
            exact hnd (by simpa using this)
          | succ k =>
            simp only [gameL, Bool.and_eq_true] at hgame
            have h4 := List.all_eq_true.1 hgame.2 i hE
            simp only [Bool.or_eq_true, Bool.not_eq_true'] at h4
            have h5 : gameL SP A H l E k (goOn l i (act.filter (keepOL SP A H l done i))) (i :: done) = true := by
              rcases h4 with (h4 | h4) | h4
              · exact absurd (by simpa using h4) hnd
              · exfalso
                have h6 : (((ancT l).getD i []).filter E.contains).all (done.contains ·) = true := by
                  refine List.all_eq_true.2 fun d hdm => ?_
                  obtain ⟨hd1, hd2⟩ := List.mem_filter.1 hdm
                  have hl2 := tab_closed ctab (fun j => listed.getD j false = true) hcl i h1 h3 d hd1
                  have := (hdone d (by simpa using hd2)).2 hl2
                  simpa using this
                rw [h6] at h4
                cases h4
              · exact h4
            refine ⟨k, _, _, fun π hπ => (List.mem_filter.1 (goOn_sub π hπ)).1, h5, ?_, fun e he => ?_, fun π hπ p hp => ?_⟩
            · cases hcl2 : callOf o.op with
              | none => exact .inl rfl
              | some c =>
                refine .inr ?_
                have hgo : goOn l i (act.filter (keepOL SP A H l done i)) = (act.filter (keepOL SP A H l done i)).take 1 := by unfold goOn; rw [ho]; simp [hcl2]
                rw [hgo]
                rw [hgo] at h5
                cases hf : act.filter (keepOL SP A H l done i) with
                | nil => rw [hf] at h5; cases k <;> simp [gameL] at h5
                | cons π _ => exact ⟨π, rfl⟩
            · rw [List.mem_cons, hdone e he]
            · have hπ := goOn_sub π hπ
              have h6 := (List.mem_filter.1 hπ).2
              unfold keepOL at h6
              have h7 := List.all_eq_true.1 h6 _ hp
              simp only [bne_self_eq_false, Bool.false_or] at h7
              have hpE : p ∈ E := by
                have := (hchk π (List.mem_filter.1 hπ).1).2
                unfold inEL at this
                have := List.all_eq_true.1 this _ hp
                simp only [Bool.and_eq_true] at this
                simpa using this.1
              exact (hdone p hpE).1 (by simpa using h7)
        · refine ⟨k, act, done, fun _ h => h, hgame, .inl (ccall i o ho hE), fun e he => ⟨fun hh => .inr ((hdone e he).1 hh), fun hh => ?_⟩, fun π hπ p hp => ?_⟩
          · rcases hh with rfl | hh
            · exact absurd he hE
            · exact (hdone e he).2 hh
          · exfalso
            have := (hchk π hπ).2
            unfold inEL at this
            have := List.all_eq_true.1 this _ hp
            simp only [Bool.and_eq_true] at this
            exact hE (by simpa using this.2)
      have hgetD : ∀ (j : Nat) (b : Bool), j < listed.size → (listed.setIfInBounds i true).getD j b = if j = i then true else listed.getD j b := by
        intro j b hj
        simp only [Array.getD_eq_getD_getElem?, Array.getElem?_setIfInBounds]
        by_cases e : j = i
        · subst e; simp [hj]
        · simp [e, Ne.symm e]
      -- one step, for each order
      have hall : ∀ π ∈ act', ∃ x R', rem π (listed.setIfInBounds i true) = R' ∧ R'.length = fuel ∧ WOps P A H G ((o, x) :: pickOps l R') K fr st := by
        intro π hπ'
        have hπ := hact π hπ'
        have hc := (hchk π hπ).1
        unfold chk1 at hc
        simp only [Bool.and_eq_true] at hc
        obtain ⟨⟨⟨c1, c2⟩, c3⟩, c5⟩ := hc
        have cover : ∀ i, i < l.length → ∃ p ∈ π, p.1 = i := by
          intro i hi
          have := List.all_eq_true.1 c2 i (by simpa using hi)
          simpa using this
        have inl : ∀ p ∈ π, p.1 < l.length := fun p hp => by have := List.all_eq_true.1 c3 p hp; simpa using this
        have hlen := hlen π hπ
        have h := h π hπ
        have hex : ∃ X q Y, rem π listed = X ++ q :: Y ∧ q.1 = i ∧ ∃ X' Y', π = X' ++ q :: Y' ∧ (∀ p ∈ X, p ∈ X') := by
          obtain ⟨q, hq, rfl⟩ := cover i h1
          obtain ⟨X', Y', e⟩ := List.append_of_mem hq
          refine ⟨rem X' listed, q, rem Y' listed, ?_, rfl, X', Y', e, fun p hp => (List.mem_filter.1 hp).1⟩
          rw [e]
          unfold rem
          rw [List.filter_append, List.filter_cons, h2]
          rfl
        obtain ⟨X, q, Y, e, rfl, X', Y', e', hX⟩ := hex
        have hop' := hopI (P := P) (A := A) (H := H) (G := G) (I := I) (K := K) (x := (o, q.2)) (rest := pickOps l Y) (pickOps l X) (fun ax hax => by
          obtain ⟨p, hp, hpo, hpx⟩ := mem_pickOps hax
          have hno : listed.getD p.1 false ≠ true := fun hl2 => by
            have hmem : p ∈ rem π listed := by rw [e]; simp [hp]
            have := (mem_rem.1 hmem).2
            have hp' : p.1 < listed.size := by rw [hsz]; exact (List.getElem?_eq_some_iff.1 hpo).1
            rw [getD_lt hp' true false] at this
            exact absurd (hl2.symm.trans this) (by simp)
          have hsw : swapOkL SP A H l p q = true := by
            rcases exm_specL (SP := SP) (A := A) (H := H) (l := l) (T := ancT l) X' q Y' e' p (hX p hp) with ht | hs | hx
            · exact absurd (tab_closed ctab (fun i => listed.getD i false = true) hcl q.1 h1 h3 p.1 ht) hno
            · exact hs
            · exact absurd (hkeep π hπ' p.1 hx) hno
          obtain ⟨a1, a2⟩ := ax
          simp only at hpx hpo
          refine ⟨?_, hKeep a1 (List.mem_of_getElem? hpo) a2⟩
          unfold swapOkL at hsw
          rcases Bool.or_eq_true_iff.1 hsw with hs | hs
          · have := swapOk_spec hpo ho hs
            rw [hpx] at this
            exact fun R K fr st _ h => hop (ops := l.toArray) (x := (o, q.2)) (rest := R) hG [(a1, a2)] (fun c hc => by rw [List.mem_singleton.1 hc]; exact this) fr st h
          · exact hSP p.1 q.1 a1 o (by simpa using hs) hpo ho a2 q.2) fr st hI (by rw [e, pickOps_app, pickOps_cons ho] at h; exact h)
        have hrem' : ∀ Z : List (Nat × Bool), (∀ p ∈ Z, p.1 < l.length) → rem Z (listed.setIfInBounds q.1 true) = (rem Z listed).filter fun p => p.1 != q.1 := by
          intro Z hZ
          unfold rem
          rw [List.filter_filter]
          apply List.filter_congr
          intro p hp
          rw [hgetD p.1 true (by rw [hsz]; exact hZ p hp)]
          by_cases e : p.1 = q.1
          · simp [e]
          · simp [e]
        have hnd : (π.map (·.1)).Nodup := nodupB_spec c1.2
        have hXY : rem π (listed.setIfInBounds q.1 true) = X ++ Y := by
          rw [hrem' π inl, e]
          have hnd2 : ((X ++ q :: Y).map (·.1)).Nodup := by
            rw [← e]
            exact hnd.sublist (List.Sublist.map _ List.filter_sublist)
          rw [List.map_append, List.map_cons] at hnd2
          have hni := List.nodup_append.1 hnd2
          rw [List.filter_append, List.filter_cons]
          simp only [bne_self_eq_false, Bool.false_eq_true, if_false]
          congr 1
          · apply List.filter_eq_self.2
            intro p hp
            have : p.1 ≠ q.1 := fun e => hni.2.2 p.1 (List.mem_map.2 ⟨p, hp, rfl⟩) q.1 (by simp) e
            simpa using this
          · apply List.filter_eq_self.2
            intro p hp
            have : p.1 ≠ q.1 := fun e => (List.nodup_cons.1 hni.2.1).1 (e ▸ List.mem_map.2 ⟨p, hp, rfl⟩)
            simpa using this
        refine ⟨q.2, X ++ Y, hXY, ?_, by rw [pickOps_app]; exact hop'⟩
        rw [e] at hlen
        simp only [List.length_append, List.length_cons] at hlen ⊢
        omega
      obtain ⟨π0, hπ0⟩ : ∃ π, π ∈ act' := by
        cases act' with
        | nil => cases k' <;> simp [gameL] at hgame'
        | cons π _ => exact ⟨π, by simp⟩
      have hone2 : ∃ x, WOps P A H G [(o, x)] (fun fr st => ∀ π ∈ act', WOps P A H G (pickOps l (rem π (listed.setIfInBounds i true))) K fr st) fr st := by
        rcases hone with hn | ⟨π, rfl⟩
        · refine ⟨false, WOps_conj hn ⟨π0, hπ0⟩ fun π hπ => ?_⟩
          obtain ⟨x, R', h4, _, h5⟩ := hall π hπ
          exact ⟨x, by rw [h4]; exact WOps_head h5⟩
        · obtain ⟨x, R', h4, _, h5⟩ := hall π (by simp)
          refine ⟨x, (WOps_head h5).mono fun fr st hq π' hπ' => ?_⟩
          obtain rfl := List.mem_singleton.1 hπ'
          rw [h4]; exact hq
      obtain ⟨x, hw1⟩ := hone2
      have hw2 := hKeep o (List.mem_of_getElem? ho) x [] _ fr st hI hw1
      have hstep := step_sound (Q := Q) R hG (hd o (List.mem_of_getElem? ho)) hw2 (K' := wpAny P .any l.toArray Q fuel (listed.setIfInBounds i true)) fun fr' st' M' L' a' w' h' R' => by
        obtain ⟨hI', h'⟩ := h'
        rw [w_nil] at h'
        refine ih k' act' done' (listed.setIfInBounds i true) fr' st' M' L' a' w' (fun π hπ => hchk π (hact π hπ)) hgame' (fun e he => ?_) (by simpa using hsz) (fun π hπ => ?_) ?_ R' hI' h'
        · rw [hdone' e he]
          by_cases hel : e < listed.size
          · rw [hgetD e false hel]
            by_cases ee : e = i
            · simp [ee]
            · simp [ee]
          · have h6 : e ≠ i := by omega
            simp [h6, Array.getD, hel]
        · obtain ⟨x, R', h4, h5, _⟩ := hall π hπ
          rw [h4]; exact h5
        · intro j hj hjl d hdj
          have hdl : d < listed.size ∨ listed.size ≤ d := by omega
          have base : listed.getD d false = true := by
            rw [hgetD j false (by rw [hsz]; exact hj)] at hjl
            split at hjl
            · rename_i ej; subst ej; exact h3 d hdj
            · exact hcl j hj hjl d hdj
          rcases hdl with hdl | hdl
          · rw [hgetD d false hdl]
            by_cases ed : d = i
            · rw [if_pos ed]
            · rw [if_neg ed]; exact base
          · simp [Array.getD, Nat.not_lt.2 hdl] at base
      unfold wpOp
      have ho' : l.toArray[i]? = some o := by simpa using ho
      rw [ho']
      simp only
      split at hstep
      · rename_i hw; rw [if_pos hw]; exact .inl hstep
      · rename_i hw; rw [if_neg hw]; exact hstep

/-- A region that draws its order, walked in several orders. -/
theorem W_regionML {I : Fr → St → Prop} {n id : Nat} {Q : Ex → Fr → St → Prop} {fr : Fr} {st : St} (hm : P.follows .mixedOrders = true) {l : List Oper} (SP : List (Nat × Nat)) (A : List Tmp) (E : List Nat) (PS : List (List (Nat × Bool))) (hd : dstsLt n l = true) (hc : chkML SP A H l E PS = true) (hI : I fr st)
    (hKeep : ∀ G, (∀ j, G j = (l[j]?).bind (·.dst)) → ∀ o ∈ l, ∀ x, Keeps P A H G I (o, x)) (hSP : ∀ G, (∀ j, G j = (l[j]?).bind (·.dst)) → ∀ p q a x, (p, q) ∈ SP → l[p]? = some a → l[q]? = some x → ∀ fp fq, SwI P A H G I (a, fp) (x, fq))
    (h : ∀ G : Nat → Option Tmp, (∀ j, G j = (l[j]?).bind (·.dst)) → ∀ π ∈ PS, WOps P A H G (pickOps l π) (Q .normal) fr st) : W P H n (.region id l.toArray true) Q fr st := by
  intro B M L a w R
  refine wp_region_any hm ?_
  unfold chkML at hc
  simp only [Bool.and_eq_true] at hc
  obtain ⟨⟨⟨h1, h2⟩, h3⟩, h4⟩ := hc
  have hchk : ∀ π ∈ PS, chk1 l π = true ∧ inEL SP A H l E π = true := fun π hπ => by have := List.all_eq_true.1 h3 π hπ; simpa using this
  have hrem : ∀ π ∈ PS, rem π (Array.replicate l.length false) = π ∧ π.length = l.length := by
    intro π hπ
    have hc1 := (hchk π hπ).1
    unfold chk1 at hc1
    simp only [Bool.and_eq_true] at hc1
    refine ⟨List.filter_eq_self.2 fun p hp => ?_, by simpa using hc1.1.1.1.1⟩
    have := List.all_eq_true.1 hc1.1.2 p hp
    have hp' : p.1 < l.length := by simpa using this
    simp [Array.getD, hp']
  refine wpAny_soundML (I := I) (SP := SP) (G := fun j => (l[j]?).bind (·.dst)) (E := E) (hKeep _ fun _ => rfl) (hSP _ fun _ => rfl) h1 (fun i o ho hE => ?_) (dstsLt_of hd) (fun j => by simp) (Q := fun e a' w' => ∃ x fr' st' M' L', e = Ex.to x ∧ Q x fr' st' ∧ Rel P B M' L' n fr' st' a' w')
    (fun fr' st' M' L' a' w' hK R' => ⟨.normal, fr', st', M', L', rfl, hK, R'⟩) l.toArray.size E.length PS [] (Array.replicate l.toArray.size false) fr st M L a _ hchk h4 (fun e he => ?_) (by simp) (fun π hπ => ?_) ?_ R.drewAt hI (fun π hπ => ?_)
  · have := List.all_eq_true.1 h2 i (by simpa using (List.getElem?_eq_some_iff.1 ho).1)
    simp only [ho, Option.bind_some, Bool.or_eq_true, Bool.not_eq_true'] at this
    rcases this with h | h
    · exact absurd (by simpa using h) hE
    · simpa using h
  · constructor
    · intro hh; cases hh
    · intro hh
      have : (Array.replicate l.toArray.size false).getD e false = false := by
        simp only [Array.getD_eq_getD_getElem?, Array.getElem?_replicate]
        split <;> rfl
      rw [this] at hh; cases hh
  · simp only [List.size_toArray]; rw [(hrem π hπ).1, (hrem π hπ).2]
  · intro i hi hli
    simp [Array.getD, hi] at hli
  · simp only [List.size_toArray]; rw [(hrem π hπ).1]; exact h _ (fun _ => rfl) π hπ

end

section
variable {P : Program} {A H : List Tmp} {G : Nat → Option Tmp}
/-! Loads of local boxes. -/
/-- No pointer into the store. -/
def nonH : Value → Bool
  | .pointer (some ⟨_, _, none⟩) => false
  | _ => true
def ldL (Ls : List Tmp) : Op → Bool
  | .load _ (.tmp t) => Ls.contains t
  | .fieldAddr _ (.tmp t) _ => Ls.contains t
  | _ => false
def faL (Ls : List Tmp) : Op → Bool
  | .fieldAddr _ (.tmp t) _ => Ls.contains t
  | _ => false
def isApp : Op → Bool
  | .call { callee := .builtin .append, .. } => true
  | _ => false
/-- These slots point to local boxes. -/
def InvL (Ls : List Tmp) (fr : Fr) (_ : St) : Prop := ∀ t ∈ Ls, nonH (fr.env t) = true
def okL (Ls : List Tmp) (l : List Oper) (p q : Nat) : Bool := match l[p]?, l[q]? with
  | some a, some x => (ldL Ls a.op && (a.guard.isNone && x.guard.isNone)) && ((((callOf x.op).isSome || isApp x.op)) && a.apart l.toArray x)
  | _, _ => false
def spL (Ls : List Tmp) (l : List Oper) : List (Nat × Nat) := (List.range l.length).flatMap fun p => ((List.range l.length).filter fun q => okL Ls l p q).map fun q => (p, q)
def dstL (Ls : List Tmp) (o : Oper) : Bool := match o.dst with
  | some d => !Ls.contains d || (faL Ls o.op && o.guard.isNone)
  | none => true
def chkLL (Ls A H : List Tmp) (l : List Oper) (E : List Nat) (PS : List (List (Nat × Bool))) : Bool :=
  l.all (dstL Ls) && chkML (spL Ls l) A H l E PS
theorem spL_mem {Ls : List Tmp} {l : List Oper} {p q : Nat} (h : (p, q) ∈ spL Ls l) : okL Ls l p q = true := by
  unfold spL at h
  obtain ⟨p', _, h2⟩ := List.mem_flatMap.1 h
  obtain ⟨q', h3, h4⟩ := List.mem_map.1 h2
  cases h4
  exact (List.mem_filter.1 h3).2
theorem InvL.put {Ls : List Tmp} {fr : Fr} {st st' : St} (h : InvL Ls fr st) {d : Option Tmp} {v : Value} (hd : ∀ t, d = some t → t ∉ Ls ∨ nonH v = true) (l : Nat → Nat × List Value) : InvL Ls ⟨AM.put fr.env d v, l⟩ st' := fun t ht => by
  cases d with
  | none => exact h t ht
  | some d =>
    show nonH (upd fr.env d v t) = true
    by_cases e : t = d
    · subst e
      rw [upd_same]
      exact (hd _ rfl).resolve_left fun h => h ht
    · rw [upd_ne _ _ _ _ e]
      exact h t ht
theorem keepsL {Ls : List Tmp} {o : Oper} (hd : dstL Ls o = true) (x : Bool) : Keeps P A H G (InvL Ls) (o, x) := by
  intro R K fr st hI h
  by_cases hn : ∀ t, o.dst = some t → t ∉ Ls
  · have hput : ∀ v (l : Nat → Nat × List Value) s, InvL Ls ⟨AM.put fr.env o.dst v, l⟩ s := fun v l s => hI.put (fun t ht => .inl (hn t ht)) l
    unfold WOps at h ⊢
    split at h
    · exact h.elim
    · exact ⟨hput _ _ _, h⟩
    · split at h
      · obtain ⟨g, h1, h2, h3⟩ := h
        exact ⟨g, h1, h2, h3.mono fun r st' ⟨q1, q2⟩ => ⟨q1, hput _ _ _, q2⟩⟩
      · split at h
        · exact ⟨hput _ _ _, h⟩
        · exact h.elim
  · have hex : ∃ d, o.dst = some d ∧ d ∈ Ls := Classical.byContradiction fun h2 => hn fun t ht hL => h2 ⟨t, ht, hL⟩
    obtain ⟨d, hdd, hdL⟩ := hex
    unfold dstL at hd
    rw [hdd] at hd
    simp only [Bool.or_eq_true, Bool.and_eq_true, Bool.not_eq_true'] at hd
    have hfa : faL Ls o.op = true ∧ o.guard.isNone = true := by
      rcases hd with hd | hd
      · have : Ls.contains d = true := by simpa using hdL
        rw [this] at hd; cases hd
      · exact hd
    obtain ⟨hf, hg⟩ := hfa
    unfold faL at hf
    split at hf
    · rename_i ty t f hop
      have htL : t ∈ Ls := by simpa using hf
      have hcn : callOf o.op = none := by rw [hop]; rfl
      have ht := hI t htL
      rw [WOps_cons hg, hcn] at h ⊢
      simp only at h ⊢
      split at h
      · rename_i v l s hs
        obtain ⟨q1, q2, q3⟩ := stepVal_pure (.inr (by rw [hop]; rfl)) hs
        replace q2 := q2.symm; replace q3 := q3.symm
        subst q2; subst q3
        refine ⟨hI.put (fun t' _ => .inr ?_) _, h⟩
        rw [hop] at q1
        have q1' : (match fr.env t with
          | .pointer (some ⟨b, o, sp⟩) => (match offA P ty f with
            | some d => if okPtr A fr.loc b sp then some (Value.pointer (some ⟨b, o + d, sp⟩)) else none
            | none => none)
          | _ => none) = some v := q1
        split at q1'
        · rename_i b o' sp he
          rw [he] at ht
          split at q1'
          · split at q1'
            · cases q1'
              cases sp with
              | none => cases ht
              | some _ => rfl
            · cases q1'
          · cases q1'
        · cases q1'
      · exact h.elim
    · cases hf
theorem loadA_loc {t : TypeId} {p : Value} (h : nonH p = true) (loc : Nat → Nat × List Value) (st st' : St) : loadA P A t p loc st' = loadA P A t p loc st := by
  cases p with
  | pointer a =>
    cases a with
    | none => rfl
    | some ad =>
      obtain ⟨b, o, w⟩ := ad
      cases w with
      | none => cases h
      | some w => rw [loadA_p, loadA_p]; rfl
  | _ => rfl
theorem app_loc {o : Oper} (h : isApp o.op = true) {fr : Fr} {st : St} {v : Value} {l : Nat → Nat × List Value} {s : St} (hs : stepVal P A H o fr st = some (v, l, s)) : l = fr.loc := by
  unfold isApp at h
  split at h
  · rename_i c1 c2 hop
    unfold stepVal at hs
    rw [hop] at hs
    have e : ∀ ρ loc st, evalVal P A (.call { callee := .builtin .append, args := c1, argTypes := c2 }) ρ loc st = none := fun _ _ _ => rfl
    rw [e] at hs
    simp only at hs
    unfold evalEff at hs
    rw [hop] at hs
    simp only at hs
    split at hs
    · simp only [Option.map_eq_some_iff] at hs
      obtain ⟨r, _, hr⟩ := hs
      cases hr; rfl
    · cases hs
  · cases h
theorem swL {ops : Array Oper} {Ls : List Tmp} {a x : Oper} (hld : ldL Ls a.op = true) (hga : a.guard.isNone = true) (hgx : x.guard.isNone = true) (hx : (callOf x.op).isSome = true ∨ isApp x.op = true) (hap : a.apart ops x = true) (fa fx : Bool) : SwI P A H G (InvL Ls) (a, fa) (x, fx) := by
  intro R K fr st hI h
  obtain ⟨env, loc⟩ := fr
  have sp := Oper.apart_spec hap
  have hrd : isPure a.op = true ∨ isRd a.op = true := .inr (by
    unfold ldL at hld
    split at hld
    · rename_i e; rw [e]; rfl
    · rename_i e; rw [e]; rfl
    · cases hld)
  have hcn : callOf a.op = none := by
    unfold ldL at hld
    split at hld
    · rename_i e; rw [e]; rfl
    · rename_i e; rw [e]; rfl
    · cases hld
  have hev : ∀ (l : Nat → Nat × List Value) (s s' : St), evalVal P A a.op (Fr.ev ⟨env, loc⟩) l s' = evalVal P A a.op (Fr.ev ⟨env, loc⟩) l s := by
    intro l s s'
    unfold ldL at hld
    split at hld
    · rename_i ty t e
      rw [e]
      exact loadA_loc (hI t (by simpa using hld)) l s s'
    · rename_i e; rw [e]; rfl
    · cases hld
  have hxa : ∀ (v : Value) (l l' : Nat → Nat × List Value) (y : Operand), y ∈ x.op.operands → Fr.ev ⟨put env a.dst v, l⟩ y = Fr.ev ⟨env, l'⟩ y := fun v l l' y hy => ev_put fun d hd e => by
    subst e; exact sp.1 d hd (mem_looks hy)
  rw [WOps_cons hga, hcn] at h
  simp only at h
  split at h
  rotate_left
  · exact h.elim
  rename_i va l s hs
  obtain ⟨q1, q2, q3⟩ := stepVal_pure hrd hs
  replace q2 := q2.symm; replace q3 := q3.symm
  subst q2; subst q3
  simp only at h q1
  have back : ∀ (v : Value) (s' : St), WOps P A H G R K ⟨put (put env a.dst va) x.dst v, loc⟩ s' → WOps P A H G ((a, fa) :: R) K ⟨put env x.dst v, loc⟩ s' := by
    intro v s' hh
    rw [WOps_cons hga, hcn]
    simp only
    have e : evalVal P A a.op (Fr.ev ⟨put env x.dst v, loc⟩) loc s' = some va := by
      rw [evalVal_apart hap]
      exact (hev loc _ _).trans q1
    rw [stepVal_of e]
    rw [put_comm _ _ _ sp.2.1] at hh
    exact hh
  rw [WOps_cons hgx] at h ⊢
  cases hc : callOf x.op with
  | some fa' =>
    obtain ⟨f, args⟩ := fa'
    rw [hc] at h
    simp only at h ⊢
    obtain ⟨o1, o2⟩ := callOf_operands hc
    obtain ⟨g, h1, h2, h3⟩ := h
    refine ⟨g, ?_, ?_, ?_⟩
    · rw [← hxa va loc loc f o2]; exact h1
    · rw [← Array.all_toList] at h2 ⊢
      rw [List.all_eq_true] at h2 ⊢
      intro y hy
      have := h2 y hy
      rw [hxa va loc loc y (o1 y (by simpa using hy))] at this
      exact this
    · have e3 : args.toList.map (Fr.ev ⟨put env a.dst va, loc⟩) = args.toList.map (Fr.ev ⟨env, loc⟩) := List.map_congr_left fun y hy => hxa va loc loc y (o1 y (by simpa using hy))
      rw [e3] at h3
      exact h3.mono fun r st' ⟨p1, p2⟩ => ⟨p1, back r st' p2⟩
  | none =>
    rw [hc] at h
    simp only at h ⊢
    have hxapp : isApp x.op = true := by
      rcases hx with hx | hx
      · rw [hc] at hx; cases hx
      · exact hx
    split at h
    · rename_i v l s' hs'
      have e := stepVal_congr (P := P) (A := A) (H := H) (o := x) (fr := ⟨put env a.dst va, loc⟩) (fr' := ⟨env, loc⟩) (st := st) rfl fun y hy => (hxa va _ _ y hy).symm
      rw [e, hs']
      have := app_loc hxapp hs'
      simp only at this
      subst this
      exact back v s' h
    · exact h.elim
end
theorem W_endL {P : Program} {H : List Tmp} {n : Nat} {Q : Ex → Fr → St → Prop} {fr : Fr} {st : St} {id : Nat} {l : List Oper} (hm : P.follows .mixedOrders = true) (Ls A : List Tmp) (E : List Nat) (PS : List (List (Nat × Bool))) (hd : dstsLt n l = true) (hc : chkLL Ls A H l E PS = true) (hI : ∀ t ∈ Ls, nonH (fr.env t) = true)
    (h : ∀ (G : Nat → Option Tmp) (K : Fr → St → Prop), (∀ j, G j = (l[j]?).bind (·.dst)) → (∀ fr st, Q .normal fr st → K fr st) → ∀ π ∈ PS, WOps P A H G (pickOps l π) K fr st) : W P H n (.region id l.toArray true) Q fr st := by
  unfold chkLL at hc
  obtain ⟨h1, h2⟩ := Bool.and_eq_true_iff.1 hc
  refine W_regionML (I := InvL Ls) hm _ A E PS hd h2 hI (fun G hG o ho x => keepsL (List.all_eq_true.1 h1 o ho) x) (fun G hG p q a x hpq ha hx fp fq => ?_) fun G hG => h G _ hG fun _ _ h => h
  have := spL_mem hpq
  unfold okL at this
  rw [ha, hx] at this
  simp only [Bool.and_eq_true, Bool.or_eq_true] at this
  obtain ⟨⟨g1, g2, g3⟩, g4, g5⟩ := this
  exact swL g1 g2 g3 g4 g5 fp fq
theorem fm_nil {α : Type} {P : α → Prop} : ∀ x ∈ ([] : List α), P x := fun x hx => by cases hx
theorem fm_cons {α : Type} {P : α → Prop} {a : α} {l : List α} (h1 : P a) (h2 : ∀ x ∈ l, P x) : ∀ x ∈ a :: l, P x := fun x hx => by
  rcases List.mem_cons.1 hx with rfl | hx
  · exact h1
  · exact h2 x hx
end Go.Proofs.Ytoeibmfdafilcaa.AM


namespace Go.Proofs.Ytoeibmfdafilcaa.AM
open Go
attribute [local go_sem] List.map_cons List.map_nil List.all_cons List.all_nil Bool.and_self Option.map_some List.getElem?_toArray Option.bind_some gye_b gye_t gsk_b gsk_t gb1 gb2 gb3 gb4 bne_self_eq_false beq_self_eq_true w_guard w_nil stepV_some step_some step_some' w_move w_assign w_pick w_binOp w_unOp w_load w_fieldAddr w_indexAddr w_len w_max w_index ev_max max_int ev_index w_box w_alloc w_store w_field w_extract w_nilCheck w_convert w_buildSlice w_build ev_buildL fillL_nil fillL_cons bs0 bs1 ev_conv ev_bin ev_un ev_pick ev_load ev_fieldAddr ev_indexAddr ev_len ev_field ev_extract ev_nilCheck fr_tmp fr_int fr_bool fr_str fr_nil fr_func put_some put_none bin_lss bin_leq bin_gtr bin_geq bin_eql bin_neq bin_add bin_sub bin_mul bin_seql bin_sneq un_not pick_ ext_ loadA_p cellAt_l cellAt_h okPtr_l okPtr_h fadA_p allocA_l storeA_l cells_agg cells_int cells_str cells_sl cells_bool flat_i flat_s flat_b flat_sl flat_nil loc_agg loc_int loc_str loc_sl loc_bool loc_fn loc_ptr okv_agg okv_int okv_str okv_sl okv_bool cellsFrom splice upd_eval argEnv_zero argEnv_succ ne_eq Nat.add_one_ne_zero not_false_eq_true List.not_mem_nil and_self decide_true List.getElem?_cons_zero List.getElem?_cons_succ List.size_toArray List.length_cons List.length_nil List.take_succ_cons List.take_zero List.drop_succ_cons List.drop_zero List.cons_append List.nil_append List.drop_nil Bool.not_true Bool.not_false Bool.false_eq_true Nat.zero_add Nat.add_zero wrap_in List.toList_toArray List.mem_cons or_self or_false false_or
attribute [local go_sem] ag22 ag24 ag26 ag29 ag3 ag31 ag49 ag54 ag9 ag91 bu31 bu41 bu49 bu54 by31 by49 by54 by9 el22 el26 el29 el45 el50 el68 of24_0 of24_1 of24_2 of24_3 of31_0 of31_1 of31_2 of31_3 of41_0 of41_1 of41_2 of49_0 of49_1 of54_0 of54_1 ro31_0 ro31_1 ro49_1 ro5_1 ro54_0 ro54_1 ro9_0 ro9_1 sz22 sz24 sz26 sz29 sz3 sz31 sz49 sz5 sz54 sz9 sz91 ze3 ze31 ze49 ze54 ze9 ze91
section
/- ReduceWords. -/
open Go Go.Proofs
set_option linter.unusedVariables false
set_option linter.unusedSimpArgs false
set_option maxRecDepth 100000


end

section
/- Terms drawn: spec.l3Draw. -/
open Go Go.Proofs
set_option linter.unusedVariables false
set_option linter.unusedSimpArgs false
set_option maxRecDepth 100000
-- AUTO

theorem Fresh.one {n k : Nat} (h : n ≤ k) : Fresh n [k] := ⟨by simp, fun i hi => by cases List.mem_singleton.1 hi; exact h⟩
theorem Fresh.cons {n k : Nat} {L : List Nat} (h : Fresh n L) (hlt : ∀ i ∈ L, i < k) (hk : n ≤ k) : Fresh n (k :: L) := ⟨List.nodup_cons.2 ⟨fun hm => by have := hlt k hm; omega, h.1⟩, fun i hi => by
  rcases List.mem_cons.1 hi with rfl | hi
  · exact hk
  · exact h.2 i hi⟩
theorem Fresh.app {n m : Nat} {L K : List Nat} (h : Fresh n L) (g : Fresh m K) (hlt : ∀ i ∈ L, i < m) (hn : n ≤ m) : Fresh n (L ++ K) := ⟨List.nodup_append.2 ⟨h.1, g.1, fun a ha b hb e => by
  subst e
  have h1 := hlt a ha
  have h2 := g.2 a hb
  omega⟩, fun i hi => by
  rcases List.mem_append.1 hi with hi | hi
  · exact h.2 i hi
  · have := g.2 i hi; omega⟩

end

section
/- Terms drawn, turned a little: spec.l3Bent. -/
open Go Go.Proofs
set_option linter.unusedVariables false
set_option linter.unusedSimpArgs false
set_option maxRecDepth 100000
-- AUTO

theorem Plain.args {k n : Int} {nm : ByteArray} {args : List T} (h : Plain (.mk k n nm args)) : ∀ a ∈ args, Plain a := by cases h; assumption

end

end Go.Proofs.Ytoeibmfdafilcaa.AM
/- Terms are totally ordered: the comparison, in plain Lean. -/
namespace Go.Proofs.Ytoeibmfdafilcaa.AM
open Go Go.Proofs
set_option linter.unusedVariables false
set_option linter.unusedSimpArgs false

def ci (a b : Int) : Int := if a < b then -1 else if a > b then 1 else 0
end Go.Proofs.Ytoeibmfdafilcaa.AM


namespace Go.Proofs.Ytoeibmfdafilcaa.AM
open Go
attribute [local go_sem] List.map_cons List.map_nil List.all_cons List.all_nil Bool.and_self Option.map_some List.getElem?_toArray Option.bind_some gye_b gye_t gsk_b gsk_t gb1 gb2 gb3 gb4 bne_self_eq_false beq_self_eq_true w_guard w_nil stepV_some step_some step_some' w_move w_assign w_pick w_binOp w_unOp w_load w_fieldAddr w_indexAddr w_len w_max w_index ev_max max_int ev_index w_box w_alloc w_store w_field w_extract w_nilCheck w_convert w_buildSlice w_build ev_buildL fillL_nil fillL_cons bs0 bs1 ev_conv ev_bin ev_un ev_pick ev_load ev_fieldAddr ev_indexAddr ev_len ev_field ev_extract ev_nilCheck fr_tmp fr_int fr_bool fr_str fr_nil fr_func put_some put_none bin_lss bin_leq bin_gtr bin_geq bin_eql bin_neq bin_add bin_sub bin_mul bin_seql bin_sneq un_not pick_ ext_ loadA_p cellAt_l cellAt_h okPtr_l okPtr_h fadA_p allocA_l storeA_l cells_agg cells_int cells_str cells_sl cells_bool flat_i flat_s flat_b flat_sl flat_nil loc_agg loc_int loc_str loc_sl loc_bool loc_fn loc_ptr okv_agg okv_int okv_str okv_sl okv_bool cellsFrom splice upd_eval argEnv_zero argEnv_succ ne_eq Nat.add_one_ne_zero not_false_eq_true List.not_mem_nil and_self decide_true List.getElem?_cons_zero List.getElem?_cons_succ List.size_toArray List.length_cons List.length_nil List.take_succ_cons List.take_zero List.drop_succ_cons List.drop_zero List.cons_append List.nil_append List.drop_nil Bool.not_true Bool.not_false Bool.false_eq_true Nat.zero_add Nat.add_zero wrap_in List.toList_toArray List.mem_cons or_self or_false false_or
attribute [local go_sem] ag22 ag24 ag26 ag29 ag3 ag31 ag49 ag54 ag9 ag91 bu31 bu41 bu49 bu54 by31 by49 by54 by9 el22 el26 el29 el45 el50 el68 of24_0 of24_1 of24_2 of24_3 of31_0 of31_1 of31_2 of31_3 of41_0 of41_1 of41_2 of49_0 of49_1 of54_0 of54_1 ro31_0 ro31_1 ro49_1 ro5_1 ro54_0 ro54_1 ro9_0 ro9_1 sz22 sz24 sz26 sz29 sz3 sz31 sz49 sz5 sz54 sz9 sz91 ze3 ze31 ze49 ze54 ze9 ze91
section
/- Terms are compared: cmp.Compare, cmp.Or, impl.CompareTerms, spec.l3Ints, l3Texts, spec.CompareTerms. -/
open Go Go.Proofs
set_option linter.unusedVariables false
set_option linter.unusedSimpArgs false
set_option maxRecDepth 100000
-- AUTO


end

section
/- Two terms drawn: spec.l3Two, DrawCompareTerms, DrawIsGround; the law FnOrder. -/
open Go Go.Proofs
set_option linter.unusedVariables false
set_option linter.unusedSimpArgs false
set_option maxRecDepth 100000
-- AUTO

theorem Enc.args_cells {st : St} {t : T} {cs : List Value} (h : Enc st t cs) : ∃ k n nm s, cs = [.int .i64 k, .int .i64 n, .string nm, s] ∧ isLoc s = false ∧ okv s = true ∧ vc s = #[s] := by
  obtain ⟨k, n, nm, args⟩ := t
  obtain ⟨s, rfl, hr⟩ := h.open
  exact ⟨k, n, nm, s, rfl, hr.notLoc.1, hr.notLoc.2, Row.cells1 hr⟩
theorem RowY.of_ext {st st' : St} {xs : List Byt} {s : Value} (h : RowY st xs s) (hx : Ext st st') : RowY st' xs s := h.ext hx

end

section
/- Counts and depths of terms; validity: impl and spec. -/
open Go Go.Proofs
set_option linter.unusedVariables false
set_option linter.unusedSimpArgs false
set_option maxRecDepth 100000
-- AUTO

theorem count_take {xs : List T} {j : Nat} (h : j < xs.length) : T.countL (xs.take (j + 1)) = T.countL (xs.take j) + xs[j].count := by
  rw [List.take_succ_eq_append_getElem h, T.countL_app]; simp [T.countL]
theorem count_le {xs : List T} (j : Nat) : T.countL (xs.take j) ≤ T.countL xs := by
  have := T.countL_app (xs.take j) (xs.drop j)
  rw [List.take_append_drop] at this; omega
theorem implCount_ok : ∀ (t : T) (st : St) (cs : List Value), Lim 1073741824 t → t.count ≤ 4611686018427387904 → Enc st t cs →
    CallS Try.prog 20 [.agg cs.toArray] st fun r st' => r = .int .i64 (t.count : Nat) ∧ st' = st := by
  refine T.ind fun k n nm xs ih st cs hl hc hE => ?_
  obtain ⟨s, rfl, hr⟩ := hE.open
  have hxl := hl.args.1
  have hcm : (T.mk k n nm xs).count = 1 + T.countL xs := by simp only [T.count]
  refine CallS_of_W [] 19 Try.func20 rfl rfl rfl rfl (by simp) ?_
  have q1 := hr.notLoc.1
  have q2 := hr.notLoc.2
  have q3 := Row.cells1 hr
  have hlen : lenE Try.prog 29 s = some (.int .i64 xs.length) := row_len hr Try.underlying29
  repeat (first | ((first | refine W_reg rfl fun G K hG hK => ?_ | refine W_end rfl fun G K hG hK => ?_); simp (disch := omega) only [go_sem, ↓reduceIte, Nat.reduceEqDiff, Nat.reduceAdd, Nat.reduceLeDiff, hG, q1, q2, q3, hlen]; refine hK _ _ ?_; clear hK K hG G) | refine W_seqS ?_ | refine W_seqC ?_ | refine W_seqB ?_ | refine W_block ?_ | refine W_skip ?_ | (refine W_condT ?hc ?_; (case hc => (simp (disch := omega) only [go_sem, ↓reduceIte, Nat.reduceEqDiff, Nat.reduceAdd, Nat.reduceLeDiff, q1, q2, q3, hlen]; done))) | (refine W_condF ?hc ?_; (case hc => (simp (disch := omega) only [go_sem, ↓reduceIte, Nat.reduceEqDiff, Nat.reduceAdd, Nat.reduceLeDiff, q1, q2, q3, hlen]; done))) | refine thenI ?_ | refine thenE ?_ | refine thenR ?_ | refine inBI ?_ | refine inBR ?_ | refine inBS ?_ | refine inBN (by decide) ?_)
  refine W_loop (fun d fr st' => ∃ (j : Nat) , d = xs.length - j ∧ j ≤ xs.length ∧ (st' = st) ∧ (fr.env 3 = .int .i64 ((1 + T.countL (xs.take j) : Nat) : Int)) ∧ (fr.env 7 = s) ∧ (fr.env 8 = .int .i64 xs.length) ∧ (fr.env 9 = .int .i64 j)) (xs.length) ?_ ?_
  · exact ⟨0, by omega, by omega, rfl, (by (simp (disch := omega) only [go_sem, ↓reduceIte, Nat.reduceEqDiff, Nat.reduceAdd, Nat.reduceLeDiff, q1, q2, q3, hlen]); try rfl), (by (simp (disch := omega) only [go_sem, ↓reduceIte, Nat.reduceEqDiff, Nat.reduceAdd, Nat.reduceLeDiff, q1, q2, q3, hlen]); try rfl), (by (simp (disch := omega) only [go_sem, ↓reduceIte, Nat.reduceEqDiff, Nat.reduceAdd, Nat.reduceLeDiff, q1, q2, q3, hlen]); try rfl), (by (simp (disch := omega) only [go_sem, ↓reduceIte, Nat.reduceEqDiff, Nat.reduceAdd, Nat.reduceLeDiff, q1, q2, q3, hlen]); try rfl)⟩
  rintro d ⟨env, loc⟩ st' ⟨j, hd, hj, hst, e3, e7, e8, e9⟩
  simp only at e3 e7 e8 e9
  subst hst
  have hle := count_le (xs := xs) j
  by_cases hlt : j < xs.length
  · have c1 : decide ((j : Int) < (xs.length : Int)) = true := by simpa using hlt
    have hi := idxOk hlt
    have hx : xs[j]? = some xs[j] := List.getElem?_eq_getElem hlt
    have htk : xs.take (j + 1) = xs.take j ++ [xs[j]] := List.take_succ_eq_append_getElem hlt
    obtain ⟨i, o, c, es, rfl, hcl, hE1, hcs⟩ := row_at hr hx
    have hld := fun loc => load_row (A := []) (loc := loc) ag31 sz31 hcl hcs
    obtain ⟨k1, n1, m1, s1, rfl, a1, a2, a3⟩ := hE1.args_cells
    have htake := count_take hlt
    have hle1 := count_le (xs := xs) (j + 1)
    repeat (first | ((first | refine W_reg rfl fun G K hG hK => ?_ | refine W_end rfl fun G K hG hK => ?_); simp (disch := omega) only [go_sem, ↓reduceIte, Nat.reduceEqDiff, Nat.reduceAdd, Nat.reduceLeDiff, hG, q1, q2, q3, hlen, e3, e7, e8, e9, c1, hi, idxA, Int.toNat_natCast, hld, a1, a2, a3]; refine hK _ _ ?_; clear hK K hG G) | refine W_seqS ?_ | refine W_seqC ?_ | refine W_seqB ?_ | refine W_block ?_ | refine W_skip ?_ | (refine W_condT ?hc ?_; (case hc => (simp (disch := omega) only [go_sem, ↓reduceIte, Nat.reduceEqDiff, Nat.reduceAdd, Nat.reduceLeDiff, q1, q2, q3, hlen, e3, e7, e8, e9, c1, hi, idxA, Int.toNat_natCast, hld, a1, a2, a3]; done))) | (refine W_condF ?hc ?_; (case hc => (simp (disch := omega) only [go_sem, ↓reduceIte, Nat.reduceEqDiff, Nat.reduceAdd, Nat.reduceLeDiff, q1, q2, q3, hlen, e3, e7, e8, e9, c1, hi, idxA, Int.toNat_natCast, hld, a1, a2, a3]; done))) | refine thenI ?_ | refine thenE ?_ | refine thenR ?_ | refine inBI ?_ | refine inBR ?_ | refine inBS ?_ | refine inBN (by decide) ?_)
    refine W_end rfl fun G K hG hK => ?_; simp (disch := omega) only [go_sem, ↓reduceIte, Nat.reduceEqDiff, Nat.reduceAdd, Nat.reduceLeDiff, hG, q1, q2, q3, hlen, e3, e7, e8, e9, c1, hi, idxA, Int.toNat_natCast, a1, a2, a3]
    refine w_call (ih xs[j] (List.getElem_mem hlt) st' _ (hl.args.2 _ (List.getElem_mem hlt)) (by omega) hE1) (by simp (disch := omega) only [go_sem, ↓reduceIte, Nat.reduceEqDiff, q1, q2, q3, hlen, e3, e7, e8, e9, c1, hi, idxA, Int.toNat_natCast, a1, a2, a3]) ?hl ?_
    case hl => first | rfl | (simp only [go_sem, List.all_cons, List.all_nil, Bool.not_false, Bool.and_self, q1, q2, q3, hlen, e3, e7, e8, e9, c1, hi, idxA, Int.toNat_natCast, a1, a2, a3]; done)
    rintro r_ st' ⟨rfl, rfl⟩; refine ⟨fun e => (by cases e), ?_⟩
    have hadd : ((1 + T.countL (xs.take j) : Nat) : Int) + ((xs[j].count : Nat) : Int) = ((1 + T.countL (xs.take (j + 1)) : Nat) : Int) := by omega
    simp (disch := omega) only [go_sem, ↓reduceIte, Nat.reduceEqDiff, Nat.reduceAdd, Nat.reduceLeDiff, hG, q1, q2, q3, hlen, e3, e7, e8, e9, c1, hi, idxA, Int.toNat_natCast, hadd]; refine hK _ _ ?_; clear hK K hG G; repeat (first | refine thenI ?_ | refine thenE ?_ | refine thenR ?_ | refine inBI ?_ | refine inBR ?_ | refine inBS ?_ | refine inBN (by decide) ?_)
    repeat (first | ((first | refine W_reg rfl fun G K hG hK => ?_ | refine W_end rfl fun G K hG hK => ?_); simp (disch := omega) only [go_sem, ↓reduceIte, Nat.reduceEqDiff, Nat.reduceAdd, Nat.reduceLeDiff, hG, q1, q2, q3, hlen, e3, e7, e8, e9, c1, hi, idxA, Int.toNat_natCast]; refine hK _ _ ?_; clear hK K hG G) | refine W_seqS ?_ | refine W_seqC ?_ | refine W_seqB ?_ | refine W_block ?_ | refine W_skip ?_ | (refine W_condT ?hc ?_; (case hc => (simp (disch := omega) only [go_sem, ↓reduceIte, Nat.reduceEqDiff, Nat.reduceAdd, Nat.reduceLeDiff, q1, q2, q3, hlen, e3, e7, e8, e9, c1, hi, idxA, Int.toNat_natCast]; done))) | (refine W_condF ?hc ?_; (case hc => (simp (disch := omega) only [go_sem, ↓reduceIte, Nat.reduceEqDiff, Nat.reduceAdd, Nat.reduceLeDiff, q1, q2, q3, hlen, e3, e7, e8, e9, c1, hi, idxA, Int.toNat_natCast]; done))) | refine thenI ?_ | refine thenE ?_ | refine thenR ?_ | refine inBI ?_ | refine inBR ?_ | refine inBS ?_ | refine inBN (by decide) ?_)
    refine ⟨xs.length - (j + 1), by omega, j + 1, rfl, by omega, rfl, (by (simp (disch := omega) only [go_sem, ↓reduceIte, Nat.reduceEqDiff, Nat.reduceAdd, Nat.reduceLeDiff, q1, q2, q3, hlen, e3, e7, e8, e9, c1, hi, idxA, Int.toNat_natCast]); try rfl), (by (simp (disch := omega) only [go_sem, ↓reduceIte, Nat.reduceEqDiff, Nat.reduceAdd, Nat.reduceLeDiff, q1, q2, q3, hlen, e3, e7, e8, e9, c1, hi, idxA, Int.toNat_natCast]); try rfl), (by (simp (disch := omega) only [go_sem, ↓reduceIte, Nat.reduceEqDiff, Nat.reduceAdd, Nat.reduceLeDiff, q1, q2, q3, hlen, e3, e7, e8, e9, c1, hi, idxA, Int.toNat_natCast]); try rfl), (by (simp (disch := omega) only [go_sem, ↓reduceIte, Nat.reduceEqDiff, Nat.reduceAdd, Nat.reduceLeDiff, q1, q2, q3, hlen, e3, e7, e8, e9, c1, hi, idxA, Int.toNat_natCast]); try rfl)⟩
  · have c1 : decide ((j : Int) < (xs.length : Int)) = false := by simpa using hlt
    have hjn : j = xs.length := by omega
    subst hjn
    repeat (first | ((first | refine W_reg rfl fun G K hG hK => ?_ | refine W_end rfl fun G K hG hK => ?_); simp (disch := omega) only [go_sem, ↓reduceIte, Nat.reduceEqDiff, Nat.reduceAdd, Nat.reduceLeDiff, hG, q1, q2, q3, hlen, e3, e7, e8, e9, c1]; refine hK _ _ ?_; clear hK K hG G) | refine W_seqS ?_ | refine W_seqC ?_ | refine W_seqB ?_ | refine W_block ?_ | refine W_skip ?_ | (refine W_condT ?hc ?_; (case hc => (simp (disch := omega) only [go_sem, ↓reduceIte, Nat.reduceEqDiff, Nat.reduceAdd, Nat.reduceLeDiff, q1, q2, q3, hlen, e3, e7, e8, e9, c1]; done))) | (refine W_condF ?hc ?_; (case hc => (simp (disch := omega) only [go_sem, ↓reduceIte, Nat.reduceEqDiff, Nat.reduceAdd, Nat.reduceLeDiff, q1, q2, q3, hlen, e3, e7, e8, e9, c1]; done))) | refine thenI ?_ | refine thenE ?_ | refine thenR ?_ | refine inBI ?_ | refine inBR ?_ | refine inBS ?_ | refine inBN (by decide) ?_)
    refine W_exit ?_; repeat (first | refine thenI ?_ | refine thenE ?_ | refine thenR ?_ | refine inBI ?_ | refine inBR ?_ | refine inBS ?_ | refine inBN (by decide) ?_)
    repeat (first | ((first | refine W_reg rfl fun G K hG hK => ?_ | refine W_end rfl fun G K hG hK => ?_); simp (disch := omega) only [go_sem, ↓reduceIte, Nat.reduceEqDiff, Nat.reduceAdd, Nat.reduceLeDiff, hG, q1, q2, q3, hlen, e3, e7, e8, e9, c1]; refine hK _ _ ?_; clear hK K hG G) | refine W_seqS ?_ | refine W_seqC ?_ | refine W_seqB ?_ | refine W_block ?_ | refine W_skip ?_ | (refine W_condT ?hc ?_; (case hc => (simp (disch := omega) only [go_sem, ↓reduceIte, Nat.reduceEqDiff, Nat.reduceAdd, Nat.reduceLeDiff, q1, q2, q3, hlen, e3, e7, e8, e9, c1]; done))) | (refine W_condF ?hc ?_; (case hc => (simp (disch := omega) only [go_sem, ↓reduceIte, Nat.reduceEqDiff, Nat.reduceAdd, Nat.reduceLeDiff, q1, q2, q3, hlen, e3, e7, e8, e9, c1]; done))) | refine thenI ?_ | refine thenE ?_ | refine thenR ?_ | refine inBI ?_ | refine inBR ?_ | refine inBS ?_ | refine inBN (by decide) ?_)
    refine W_ret ?_; try (repeat (first | refine thenI ?_ | refine thenE ?_ | refine thenR ?_ | refine inBI ?_ | refine inBR ?_ | refine inBS ?_ | refine inBN (by decide) ?_))
    refine fin1 (.inl rfl) (by (simp (disch := omega) only [go_sem, ↓reduceIte, Nat.reduceEqDiff, Nat.reduceAdd, Nat.reduceLeDiff, q1, q2, q3, hlen, e3, e7, e8, e9, c1]); try rfl) rfl ⟨by rw [hcm, List.take_length], rfl⟩

end

section
/- impl.UnifyTerms. -/
open Go Go.Proofs
set_option linter.unusedVariables false
set_option linter.unusedSimpArgs false
set_option maxRecDepth 100000
-- AUTO

/-- What the unification yields. -/
def uresB (a b : T) : Option (List Bnd) → List Bnd
  | some bs => restr bs (namesB (namesB (T.vars a) ++ namesB (T.vars b)))
  | none => []
theorem stepU_more {B : Nat} {bs bs' : List Bnd} {X Y : T} {more : List (T × T)} (h : stepU bs X Y = some (bs', more)) (hX : Lim B X) (hY : Lim B Y) : ∀ p ∈ more, Lim B p.1 ∧ Lim B p.2 := by
  obtain ⟨k, n, nm, xs⟩ := X
  obtain ⟨k', n', nm', ys⟩ := Y
  simp only [stepU] at h
  split at h
  · cases h; intro p hp; cases hp
  split at h
  · unfold bindU at h
    split at h
    · cases h
    · cases h; intro p hp; cases hp
  split at h
  · unfold bindU at h
    split at h
    · cases h
    · cases h; intro p hp; cases hp
  split at h
  · cases h
    intro p hp
    obtain ⟨h1, h2⟩ := List.of_mem_zip (a := p.1) (b := p.2) hp
    exact ⟨hX.args.2 _ h1, hY.args.2 _ h2⟩
  · cases h
theorem comp1_ok {B C : Nat} {bs : List Bnd} {nm : ByteArray} {y : T} (h4 : ∀ b ∈ bs, b.tm.count ≤ 400) (hy : y.count ≤ C) (hC : 1 ≤ C) (hl : ∀ b ∈ bs, Lim B b.tm) (hly : Lim B y) : ∀ b ∈ comp bs [⟨nm, y⟩], b.tm.count ≤ C * 400 ∧ Lim B b.tm := by
  intro b hb
  refine ⟨?_, Lim.comp hl (fun x hx => by cases List.mem_singleton.1 hx; exact hly) b hb⟩
  unfold comp compA compB at hb
  rcases List.mem_append.1 hb with hb | hb
  · obtain ⟨c, hc, rfl⟩ := List.mem_map.1 hb
    have h1 := T.count_sub (B := C) (bs := [⟨nm, y⟩]) (fun x hx => by cases List.mem_singleton.1 hx; exact hy) hC c.tm
    exact Nat.le_trans h1 (Nat.mul_le_mul_left _ (h4 c hc))
  · have := (List.mem_filter.1 hb).1
    cases List.mem_singleton.1 this
    show y.count ≤ _
    omega
theorem stepU_bs {B C : Nat} {bs bs' : List Bnd} {X Y : T} {more : List (T × T)} (h : stepU bs X Y = some (bs', more)) (h4 : ∀ b ∈ bs, b.tm.count ≤ 400) (hx : X.count ≤ C) (hy : Y.count ≤ C) (hl : ∀ b ∈ bs, Lim B b.tm) (hX : Lim B X) (hY : Lim B Y) : ∀ b ∈ bs', b.tm.count ≤ C * 400 ∧ Lim B b.tm := by
  have hC : 1 ≤ C := Nat.le_trans (T.count_pos X) hx
  obtain ⟨k, n, nm, xs⟩ := X
  obtain ⟨k', n', nm', ys⟩ := Y
  have hold : ∀ b ∈ bs, b.tm.count ≤ C * 400 ∧ Lim B b.tm := fun b hb => ⟨Nat.le_trans (h4 b hb) (by omega), hl b hb⟩
  simp only [stepU] at h
  split at h
  · cases h; exact hold
  split at h
  · unfold bindU at h
    split at h
    · cases h
    · cases h; exact comp1_ok h4 hy hC hl hY
  split at h
  · unfold bindU at h
    split at h
    · cases h
    · cases h; exact comp1_ok h4 hx hC hl hX
  split at h
  · cases h; exact hold
  · cases h
theorem stepU_len {bs bs' : List Bnd} {X Y : T} {more : List (T × T)} (h : stepU bs X Y = some (bs', more)) : bs'.length ≤ bs.length + 1 := by
  obtain ⟨k, n, nm, xs⟩ := X
  obtain ⟨k', n', nm', ys⟩ := Y
  have hc : ∀ nm y, (comp bs [⟨nm, y⟩]).length ≤ bs.length + 1 := fun nm y => by have := comp_len bs [⟨nm, y⟩]; simpa using this
  simp only [stepU] at h
  split at h
  · cases h; omega
  split at h
  · unfold bindU at h
    split at h
    · cases h
    · cases h; exact hc _ _
  split at h
  · unfold bindU at h
    split at h
    · cases h
    · cases h; exact hc _ _
  split at h
  · cases h; omega
  · cases h
theorem uni_nil {n : Nat} {bs : List Bnd} : uni n bs [] = some (some bs) := by cases n <;> rfl
theorem e2_open {s : St} {p : T × T} {cs : List Value} (h : E2 s p cs) : ∃ k n m z k' n' m' z', cs = [.int .i64 k, .int .i64 n, .string m, z, .int .i64 k', .int .i64 n', .string m', z'] ∧ isLoc z = false ∧ okv z = true ∧ isLoc z' = false ∧ okv z' = true := by
  obtain ⟨⟨k, n, m, xs⟩, ⟨k', n', m', ys⟩⟩ := p
  obtain ⟨c1, c2, rfl, h1, h2⟩ := h
  obtain ⟨z, rfl, r1⟩ := Enc.open h1
  obtain ⟨z', rfl, r2⟩ := Enc.open h2
  exact ⟨_, _, _, _, _, _, _, _, rfl, r1.notLoc.1, r1.notLoc.2, r2.notLoc.1, r2.notLoc.2⟩
theorem rowP_one (st : St) (p : T × T) (cs : List Value) (h : E2 (st ++ [(⟨cs, 49, 0⟩ : Blk)]) p cs) : Row (E2 (st ++ [(⟨cs, 49, 0⟩ : Blk)])) 8 (st ++ [(⟨cs, 49, 0⟩ : Blk)]) [p] (.slice (some ⟨st.length, 0, none⟩) 1 1) := by
  refine .inr ⟨st.length, 0, 1, rfl, fun j x hx => ?_⟩
  have hj : j = 0 := by have := (List.getElem?_eq_some_iff.1 hx).1; simp at this; omega
  subst hj
  obtain rfl : p = x := by simpa using hx
  refine ⟨cs, h.len, h, fun k v hv => ?_⟩
  rw [show 0 + 0 * 8 + k = k by omega]
  simp [cell, hv]
set_option maxHeartbeats 2000000 in
theorem implUnify_ok (a b : T) (N : Nat) (res : Option (List Bnd)) (hu0 : uni N [] [(a, b)] = some res) (st : St) (ca cb : List Value) (hla : Lim 1073741824 a) (hlb : Lim 1073741824 b) (hBa : a.wt ≤ 1048576) (hBb : b.wt ≤ 1048576) (hEa : Enc st a ca) (hEb : Enc st b cb) :
    CallS Try.prog 7 [.agg ca.toArray, .agg cb.toArray] st fun r st2 => Ext st st2 ∧ ∃ s L, r = .tuple #[s, .bool res.isSome] ∧ Sl st2 (uresB a b res) s L ∧ Fresh st.length L := by
  obtain ⟨k1, n1, m1, as1, he1⟩ := T.eta a
  obtain ⟨k2, n2, m2, as2, he2⟩ := T.eta b
  have hE1' := hEa
  have hE2' := hEb
  rw [he1] at hE1'
  rw [he2] at hE2'
  obtain ⟨s1, rfl, hr1⟩ := hE1'.open
  obtain ⟨s2, rfl, hr2⟩ := hE2'.open
  refine CallS_of_W [] 54 Try.func7 rfl rfl rfl rfl (by simp) ?_
  have p1 := hr1.notLoc.1
  have p2 := hr1.notLoc.2
  have p3 := hr2.notLoc.1
  have p4 := hr2.notLoc.2
  have hca := T.count_wt a
  have hcb := T.count_wt b
  have hva := T.vars_len a
  have hvb := T.vars_len b
  repeat (first | ((first | refine W_reg rfl fun G K hG hK => ?_ | refine W_end rfl fun G K hG hK => ?_); simp (disch := omega) only [go_sem, ↓reduceIte, Nat.reduceEqDiff, Nat.reduceAdd, Nat.reduceLeDiff, hG, p1, p2, p3, p4]; refine hK _ _ ?_; clear hK K hG G) | refine W_seqS ?_ | refine W_seqC ?_ | refine W_seqB ?_ | refine W_block ?_ | refine W_skip ?_ | (refine W_condT ?hc ?_; (case hc => (simp (disch := omega) only [go_sem, ↓reduceIte, Nat.reduceEqDiff, Nat.reduceAdd, Nat.reduceLeDiff, p1, p2, p3, p4]; done))) | (refine W_condF ?hc ?_; (case hc => (simp (disch := omega) only [go_sem, ↓reduceIte, Nat.reduceEqDiff, Nat.reduceAdd, Nat.reduceLeDiff, p1, p2, p3, p4]; done))) | refine thenI ?_ | refine thenE ?_ | refine thenR ?_ | refine inBI ?_ | refine inBR ?_ | refine inBS ?_ | refine inBN (by decide) ?_)
  have hrow0 : Row (E2 (st ++ [(⟨[.int .i64 k1, .int .i64 n1, .string m1, s1, .int .i64 k2, .int .i64 n2, .string m2, s2], 49, 0⟩ : Blk)])) 8 (st ++ [(⟨[.int .i64 k1, .int .i64 n1, .string m1, s1, .int .i64 k2, .int .i64 n2, .string m2, s2], 49, 0⟩ : Blk)]) [(a, b)] (.slice (some ⟨st.length, 0, none⟩) 1 1) := by
    exact rowP_one st (a, b) _ ⟨[.int .i64 k1, .int .i64 n1, .string m1, s1], [.int .i64 k2, .int .i64 n2, .string m2, s2], rfl, Enc.ext (Ext.app _ _) _ _ hEa, Enc.ext (Ext.app _ _) _ _ hEb⟩
  refine W_loop (fun d fr st' => ∃ (j : Nat) (bs : List Bnd) (rest : List (T × T)) (sl sr : Value), d = N - j ∧ j ≤ N ∧ (Ext st st') ∧ (UInv (T.vars a ++ T.vars b) a b bs rest) ∧ (uni (N - j) bs rest = some res) ∧ (Rw st' bs sl) ∧ (Row (E2 st') 8 st' rest sr) ∧ ((∀ p ∈ rest, Lim 1073741824 p.1 ∧ Lim 1073741824 p.2)) ∧ (fr.env 2 = .pointer (some ⟨2, 0, some 1⟩)) ∧ (fr.env 3 = .pointer (some ⟨3, 0, some 1⟩)) ∧ (fr.env 6 = sl) ∧ (fr.env 7 = sr) ∧ (fr.loc 2 = (1, [.int .i64 k1, .int .i64 n1, .string m1, s1])) ∧ (fr.loc 3 = (1, [.int .i64 k2, .int .i64 n2, .string m2, s2]))) (N) ?_ ?_
  · exact ⟨0, [], [(a, b)], _, _, by omega, by omega, Ext.app _ _, UInv.start a b, hu0, .inl ⟨.inl rfl, rfl⟩, hrow0, (fun p hp => by cases List.mem_singleton.1 hp; exact ⟨hla, hlb⟩), (by (simp (disch := omega) only [go_sem, ↓reduceIte, Nat.reduceEqDiff, Nat.reduceAdd, Nat.reduceLeDiff, p1, p2, p3, p4]); try rfl), (by (simp (disch := omega) only [go_sem, ↓reduceIte, Nat.reduceEqDiff, Nat.reduceAdd, Nat.reduceLeDiff, p1, p2, p3, p4]); try rfl), (by (simp (disch := omega) only [go_sem, ↓reduceIte, Nat.reduceEqDiff, Nat.reduceAdd, Nat.reduceLeDiff, p1, p2, p3, p4]); try rfl), (by (simp (disch := omega) only [go_sem, ↓reduceIte, Nat.reduceEqDiff, Nat.reduceAdd, Nat.reduceLeDiff, p1, p2, p3, p4]); try rfl), (by (simp (disch := omega) only [go_sem, ↓reduceIte, Nat.reduceEqDiff, Nat.reduceAdd, Nat.reduceLeDiff, p1, p2, p3, p4]); try rfl), (by (simp (disch := omega) only [go_sem, ↓reduceIte, Nat.reduceEqDiff, Nat.reduceAdd, Nat.reduceLeDiff, p1, p2, p3, p4]); try rfl)⟩
  rintro d ⟨env, loc⟩ st' ⟨j, bs, rest, sl, sr, hd, hj, hext, hI, hu, hR, hrow, hlr, e2, e3, e6, e7, l2, l3⟩
  simp only at e2 e3 e6 e7 l2 l3
  have y1 := hR.notLoc.1
  have y2 := hrow.notLoc.1
  have hlen : lenE Try.prog 50 sr = some (.int .i64 rest.length) := row_len hrow Try.underlying50
  have hbl := hI.len
  rw [List.length_append] at hbl
  have hsm := hI.small
  have hlbs : ∀ x ∈ bs, Lim 1073741824 x.tm := fun x hx => Lim.of_count _ (Nat.le_trans (hI.c400 x hx) (by omega))
  by_cases hre : rest = []
  · subst hre
    rw [uni_nil] at hu
    cases hu
    have c1 : decide (((([] : List (T × T)).length : Nat) : Int) > 0) = false := by decide
    have c2 : decide (((0 : Nat) : Int) > 0) = false := by decide
    repeat (first | ((first | refine W_reg rfl fun G K hG hK => ?_ | refine W_end rfl fun G K hG hK => ?_); simp (disch := omega) only [go_sem, ↓reduceIte, Nat.reduceEqDiff, Nat.reduceAdd, Nat.reduceLeDiff, hG, p1, p2, p3, p4, e2, e3, e6, e7, l2, l3, y1, y2, hlen, c1, c2]; refine hK _ _ ?_; clear hK K hG G) | refine W_seqS ?_ | refine W_seqC ?_ | refine W_seqB ?_ | refine W_block ?_ | refine W_skip ?_ | (refine W_condT ?hc ?_; (case hc => (simp (disch := omega) only [go_sem, ↓reduceIte, Nat.reduceEqDiff, Nat.reduceAdd, Nat.reduceLeDiff, p1, p2, p3, p4, e2, e3, e6, e7, l2, l3, y1, y2, hlen, c1, c2]; done))) | (refine W_condF ?hc ?_; (case hc => (simp (disch := omega) only [go_sem, ↓reduceIte, Nat.reduceEqDiff, Nat.reduceAdd, Nat.reduceLeDiff, p1, p2, p3, p4, e2, e3, e6, e7, l2, l3, y1, y2, hlen, c1, c2]; done))) | refine thenI ?_ | refine thenE ?_ | refine thenR ?_ | refine inBI ?_ | refine inBR ?_ | refine inBS ?_ | refine inBN (by decide) ?_)
    refine W_exit ?_; repeat (first | refine thenI ?_ | refine thenE ?_ | refine thenR ?_ | refine inBI ?_ | refine inBR ?_ | refine inBS ?_ | refine inBN (by decide) ?_)
    repeat (first | ((first | refine W_reg rfl fun G K hG hK => ?_ | refine W_end rfl fun G K hG hK => ?_); simp (disch := omega) only [go_sem, ↓reduceIte, Nat.reduceEqDiff, Nat.reduceAdd, Nat.reduceLeDiff, hG, p1, p2, p3, p4, e2, e3, e6, e7, l2, l3, y1, y2, hlen]; refine hK _ _ ?_; clear hK K hG G) | refine W_seqS ?_ | refine W_seqC ?_ | refine W_seqB ?_ | refine W_block ?_ | refine W_skip ?_ | (refine W_condT ?hc ?_; (case hc => (simp (disch := omega) only [go_sem, ↓reduceIte, Nat.reduceEqDiff, Nat.reduceAdd, Nat.reduceLeDiff, p1, p2, p3, p4, e2, e3, e6, e7, l2, l3, y1, y2, hlen]; done))) | (refine W_condF ?hc ?_; (case hc => (simp (disch := omega) only [go_sem, ↓reduceIte, Nat.reduceEqDiff, Nat.reduceAdd, Nat.reduceLeDiff, p1, p2, p3, p4, e2, e3, e6, e7, l2, l3, y1, y2, hlen]; done))) | refine thenI ?_ | refine thenE ?_ | refine thenR ?_ | refine inBI ?_ | refine inBR ?_ | refine inBS ?_ | refine inBN (by decide) ?_)
    (repeat (first | refine W_seqS ?_ | refine W_seqC ?_ | refine W_seqB ?_ | refine W_block ?_)); refine W_regD mixed [] [(0,false),(1,false),(3,false),(2,true),(4,true),(5,false),(6,true),(7,false),(8,false)] rfl (by decide +kernel) fun G K hG hK => ?_; simp only [pickOps, List.filterMap_cons, List.filterMap_nil, List.getElem?_cons_zero, List.getElem?_cons_succ, Option.map_some]; simp (disch := omega) only [go_sem, ↓reduceIte, Nat.reduceEqDiff, Nat.reduceAdd, Nat.reduceLeDiff, hG, p1, p2, p3, p4, e2, e3, e6, e7, l2, l3, y1, y2, hlen]
    refine w_call (implVarsOf_ok a st' _ hla (by omega) (Enc.ext hext _ _ hEa)) (by simp (disch := omega) only [go_sem, ↓reduceIte, Nat.reduceEqDiff, p1, p2, p3, p4, e2, e3, e6, e7, l2, l3, y1, y2, hlen]) ?hl ?_
    case hl => first | rfl | (simp only [go_sem, List.all_cons, List.all_nil, Bool.not_false, Bool.and_self, p1, p2, p3, p4, e2, e3, e6, e7, l2, l3, y1, y2, hlen]; done)
    rintro r1 sa ⟨x1, L1, hs1, hf1⟩; refine ⟨fun e => x1, ?_⟩
    have j1 := hs1.loc
    simp (disch := omega) only [go_sem, ↓reduceIte, Nat.reduceEqDiff, Nat.reduceAdd, Nat.reduceLeDiff, p1, p2, p3, p4, e2, e3, e6, e7, l2, l3, y1, y2, hlen, j1]
    refine w_call (implVarsOf_ok b sa _ hlb (by omega) (Enc.ext (hext.trans x1) _ _ hEb)) (by simp (disch := omega) only [go_sem, ↓reduceIte, Nat.reduceEqDiff, p1, p2, p3, p4, e2, e3, e6, e7, l2, l3, y1, y2, hlen, j1]) ?hl ?_
    case hl => first | rfl | (simp only [go_sem, List.all_cons, List.all_nil, Bool.not_false, Bool.and_self, p1, p2, p3, p4, e2, e3, e6, e7, l2, l3, y1, y2, hlen, j1]; done)
    rintro r2 sb ⟨x2, L2, hs2, hf2⟩; refine ⟨fun e => x2, ?_⟩
    have j2 := hs2.loc
    have hn1 := names_length (T.vars a)
    have hn2 := names_length (T.vars b)
    obtain ⟨r3, sc, L3, hap, hs3, hf3, hg⟩ := OwnS.join hs1 (hf1.mono (Nat.le_refl _)) x1.length x2 hs2.row (by omega)
    have j3 := hs3.loc
    have x3 : Ext st' sc := hg.away.ext_of (x1.trans x2) (hs1.top hf1)
    simp (disch := omega) only [go_sem, ↓reduceIte, Nat.reduceEqDiff, Nat.reduceAdd, Nat.reduceLeDiff, p1, p2, p3, p4, e2, e3, e6, e7, l2, l3, y1, y2, hlen, j1, j2, w_append, hap, j3]
    refine w_call (implRestr_ok bs (namesB (T.vars a) ++ namesB (T.vars b)) sc sl r3 (by omega) hlbs (by rw [List.length_append]; omega) (hR.ext x3) hs3.row) (by simp (disch := omega) only [go_sem, ↓reduceIte, Nat.reduceEqDiff, p1, p2, p3, p4, e2, e3, e6, e7, l2, l3, y1, y2, hlen, j3]) ?hl ?_
    case hl => first | rfl | (simp only [go_sem, List.all_cons, List.all_nil, Bool.not_false, Bool.and_self, p1, p2, p3, p4, e2, e3, e6, e7, l2, l3, y1, y2, hlen, j3]; done)
    rintro r4 sd ⟨x4, L4, hs4, hf4⟩; refine ⟨fun e => x4, ?_⟩
    have j4 := hs4.loc
    have hl3 := x3.length
    have hle := hext.length
    simp (disch := omega) only [go_sem, ↓reduceIte, Nat.reduceEqDiff, Nat.reduceAdd, Nat.reduceLeDiff, hG, p1, p2, p3, p4, e2, e3, e6, e7, l2, l3, y1, y2, hlen, j4]; refine hK _ _ ?_; clear hK K hG G; repeat (first | refine thenI ?_ | refine thenE ?_ | refine thenR ?_ | refine inBI ?_ | refine inBR ?_ | refine inBS ?_ | refine inBN (by decide) ?_)
    refine W_ret ?_; try (repeat (first | refine thenI ?_ | refine thenE ?_ | refine thenR ?_ | refine inBI ?_ | refine inBR ?_ | refine inBS ?_ | refine inBN (by decide) ?_))
    refine fin2 (.inl rfl) (by (simp (disch := omega) only [go_sem, ↓reduceIte, Nat.reduceEqDiff, Nat.reduceAdd, Nat.reduceLeDiff, p1, p2, p3, p4, e2, e3, e6, e7, l2, l3, y1, y2, hlen]); try rfl) j4 (by (simp (disch := omega) only [go_sem, ↓reduceIte, Nat.reduceEqDiff, Nat.reduceAdd, Nat.reduceLeDiff, p1, p2, p3, p4, e2, e3, e6, e7, l2, l3, y1, y2, hlen]); try rfl) rfl ⟨(hext.trans x3).trans x4, r4, L4, rfl, hs4, hf4.mono (by omega)⟩
  · obtain ⟨p, rest', rfl⟩ : ∃ p rest', rest = p :: rest' := by
      cases rest with
      | nil => exact absurd rfl hre
      | cons p q => exact ⟨p, q, rfl⟩
    obtain ⟨M, hM⟩ : ∃ M, N - j = M + 1 := by
      cases hNj : N - j with
      | zero => rw [hNj] at hu; cases hu
      | succ M => exact ⟨M, rfl⟩
    rw [hM] at hu
    have hul : uni (M + 1) bs (p :: rest') = match stepU bs (p.1.sub bs) (p.2.sub bs) with
      | none => some none
      | some (bs', more) => if bigB bs' = true then some none else uni M bs' (more ++ rest') := rfl
    rw [hul] at hu
    obtain ⟨hs1, hs2⟩ := hsm
    obtain ⟨hp1, hp2⟩ := hs2 p (by simp)
    obtain ⟨hq1, hq2⟩ := hlr p (by simp)
    have c1 : decide ((((p :: rest').length : Nat) : Int) > 0) = true := decide_eq_true (by simp only [List.length_cons]; omega)
    have c1' : decide (((rest'.length + 1 : Nat) : Int) > 0) = true := decide_eq_true (by omega)
    obtain ⟨i0, o, c, cs, rfl, hcl, hE, hcs⟩ := row_at hrow (j := 0) (x := p) rfl
    have hld := fun loc => load_row (A := []) (loc := loc) ag49 sz49 hcl hcs
    obtain ⟨ka, na, ma, za, kb, nb, mb, zb, rfl, w1, w2, w3, w4⟩ := e2_open hE
    have hi0 : (0 ≤ (0 : Int) ∧ (0 : Int) < ((p :: rest').length : Int)) = True := eq_true ⟨by omega, by simp only [List.length_cons]; omega⟩
    have hi0' : (0 ≤ (0 : Int) ∧ (0 : Int) < ((rest'.length + 1 : Nat) : Int)) = True := eq_true ⟨by omega, by omega⟩
    have z0 : (0 : Int).toNat = 0 := rfl
    repeat (first | ((first | refine W_reg rfl fun G K hG hK => ?_ | refine W_end rfl fun G K hG hK => ?_); simp (disch := omega) only [go_sem, ↓reduceIte, Nat.reduceEqDiff, Nat.reduceAdd, Nat.reduceLeDiff, hG, p1, p2, p3, p4, e2, e3, e6, e7, l2, l3, y1, y2, hlen, w1, w2, w3, w4, c1, c1']; refine hK _ _ ?_; clear hK K hG G) | refine W_seqS ?_ | refine W_seqC ?_ | refine W_seqB ?_ | refine W_block ?_ | refine W_skip ?_ | (refine W_condT ?hc ?_; (case hc => (simp (disch := omega) only [go_sem, ↓reduceIte, Nat.reduceEqDiff, Nat.reduceAdd, Nat.reduceLeDiff, p1, p2, p3, p4, e2, e3, e6, e7, l2, l3, y1, y2, hlen, w1, w2, w3, w4, c1, c1']; done))) | (refine W_condF ?hc ?_; (case hc => (simp (disch := omega) only [go_sem, ↓reduceIte, Nat.reduceEqDiff, Nat.reduceAdd, Nat.reduceLeDiff, p1, p2, p3, p4, e2, e3, e6, e7, l2, l3, y1, y2, hlen, w1, w2, w3, w4, c1, c1']; done))) | refine thenI ?_ | refine thenE ?_ | refine thenR ?_ | refine inBI ?_ | refine inBR ?_ | refine inBS ?_ | refine inBN (by decide) ?_)
    (repeat (first | refine W_seqS ?_ | refine W_seqC ?_ | refine W_seqB ?_ | refine W_block ?_)); refine W_reg rfl fun G K hG hK => ?_; simp (disch := omega) only [go_sem, ↓reduceIte, Nat.reduceEqDiff, Nat.reduceAdd, Nat.reduceLeDiff, hG, p1, p2, p3, p4, e2, e3, e6, e7, l2, l3, y1, y2, hlen, w1, w2, w3, w4, hi0, hi0', idxA, z0, hld]
    refine w_call (treat_ok bs p.1 p.2 st' _ sl (by omega) hlbs hq1 hq2 (by omega) (by omega) hE hR) (by simp (disch := omega) only [go_sem, ↓reduceIte, Nat.reduceEqDiff, p1, p2, p3, p4, e2, e3, e6, e7, l2, l3, y1, y2, hlen, w1, w2, w3, w4]) ?hl ?_
    case hl => first | rfl | (simp only [go_sem, List.all_cons, List.all_nil, Bool.not_false, Bool.and_self, p1, p2, p3, p4, e2, e3, e6, e7, l2, l3, y1, y2, hlen, w1, w2, w3, w4]; done)
    rintro r_ sa ⟨x1, htr⟩; refine ⟨fun e => (by cases e), ?_⟩
    cases hst : stepU bs (p.1.sub bs) (p.2.sub bs) with
    | none =>
      rw [hst] at htr hu
      simp only at htr hu
      subst htr
      cases hu
      simp (disch := omega) only [go_sem, ↓reduceIte, Nat.reduceEqDiff, Nat.reduceAdd, Nat.reduceLeDiff, hG, p1, p2, p3, p4, e2, e3, e6, e7, l2, l3, y1, y2, hlen, w1, w2, w3, w4]; refine hK _ _ ?_; clear hK K hG G; repeat (first | refine thenI ?_ | refine thenE ?_ | refine thenR ?_ | refine inBI ?_ | refine inBR ?_ | refine inBS ?_ | refine inBN (by decide) ?_)
      repeat (first | ((first | refine W_reg rfl fun G K hG hK => ?_ | refine W_end rfl fun G K hG hK => ?_); simp (disch := omega) only [go_sem, ↓reduceIte, Nat.reduceEqDiff, Nat.reduceAdd, Nat.reduceLeDiff, hG, p1, p2, p3, p4, e2, e3, e6, e7, l2, l3, y1, y2, hlen, w1, w2, w3, w4]; refine hK _ _ ?_; clear hK K hG G) | refine W_seqS ?_ | refine W_seqC ?_ | refine W_seqB ?_ | refine W_block ?_ | refine W_skip ?_ | (refine W_condT ?hc ?_; (case hc => (simp (disch := omega) only [go_sem, ↓reduceIte, Nat.reduceEqDiff, Nat.reduceAdd, Nat.reduceLeDiff, p1, p2, p3, p4, e2, e3, e6, e7, l2, l3, y1, y2, hlen, w1, w2, w3, w4]; done))) | (refine W_condF ?hc ?_; (case hc => (simp (disch := omega) only [go_sem, ↓reduceIte, Nat.reduceEqDiff, Nat.reduceAdd, Nat.reduceLeDiff, p1, p2, p3, p4, e2, e3, e6, e7, l2, l3, y1, y2, hlen, w1, w2, w3, w4]; done))) | refine thenI ?_ | refine thenE ?_ | refine thenR ?_ | refine inBI ?_ | refine inBR ?_ | refine inBS ?_ | refine inBN (by decide) ?_)
      refine W_ret ?_; try (repeat (first | refine thenI ?_ | refine thenE ?_ | refine thenR ?_ | refine inBI ?_ | refine inBR ?_ | refine inBS ?_ | refine inBN (by decide) ?_))
      refine fin2 (.inl rfl) (by (simp (disch := omega) only [go_sem, ↓reduceIte, Nat.reduceEqDiff, Nat.reduceAdd, Nat.reduceLeDiff, p1, p2, p3, p4, e2, e3, e6, e7, l2, l3, y1, y2, hlen, w1, w2, w3, w4]); try rfl) rfl (by (simp (disch := omega) only [go_sem, ↓reduceIte, Nat.reduceEqDiff, Nat.reduceAdd, Nat.reduceLeDiff, p1, p2, p3, p4, e2, e3, e6, e7, l2, l3, y1, y2, hlen, w1, w2, w3, w4]); try rfl) rfl ⟨hext.trans x1, _, [], rfl, Sl.nil _, .nil _⟩
    | some q =>
    obtain ⟨bs', more⟩ := q
    rw [hst] at htr hu
    simp only at htr hu
    obtain ⟨sl', se, L, sx1, rfl, hRx, xa1, xa2, hse, hfe⟩ := htr
    have hR' := hRx.ext xa2
    have y3 := hR'.notLoc.1
    have y4 := hse.loc
    have hlen' : lenE Try.prog 26 sl' = some (.int .i64 bs'.length) := row_len hR' Try.underlying26
    have hbs' := stepU_bs hst hI.c400 (C := 419430800) (by omega) (by omega) hlbs (Lim.of_count _ (by omega)) (Lim.of_count _ (by omega))
    have hbl' := stepU_len hst
    simp (disch := omega) only [go_sem, ↓reduceIte, Nat.reduceEqDiff, Nat.reduceAdd, Nat.reduceLeDiff, hG, p1, p2, p3, p4, e2, e3, e6, e7, l2, l3, y1, y2, hlen, w1, w2, w3, w4, y3, y4]; refine hK _ _ ?_; clear hK K hG G; repeat (first | refine thenI ?_ | refine thenE ?_ | refine thenR ?_ | refine inBI ?_ | refine inBR ?_ | refine inBS ?_ | refine inBN (by decide) ?_)
    repeat (first | ((first | refine W_reg rfl fun G K hG hK => ?_ | refine W_end rfl fun G K hG hK => ?_); simp (disch := omega) only [go_sem, ↓reduceIte, Nat.reduceEqDiff, Nat.reduceAdd, Nat.reduceLeDiff, hG, p1, p2, p3, p4, e2, e3, e6, e7, l2, l3, y1, y2, hlen, w1, w2, w3, w4, y3, y4, hlen']; refine hK _ _ ?_; clear hK K hG G) | refine W_seqS ?_ | refine W_seqC ?_ | refine W_seqB ?_ | refine W_block ?_ | refine W_skip ?_ | (refine W_condT ?hc ?_; (case hc => (simp (disch := omega) only [go_sem, ↓reduceIte, Nat.reduceEqDiff, Nat.reduceAdd, Nat.reduceLeDiff, p1, p2, p3, p4, e2, e3, e6, e7, l2, l3, y1, y2, hlen, w1, w2, w3, w4, y3, y4, hlen']; done))) | (refine W_condF ?hc ?_; (case hc => (simp (disch := omega) only [go_sem, ↓reduceIte, Nat.reduceEqDiff, Nat.reduceAdd, Nat.reduceLeDiff, p1, p2, p3, p4, e2, e3, e6, e7, l2, l3, y1, y2, hlen, w1, w2, w3, w4, y3, y4, hlen']; done))) | refine thenI ?_ | refine thenE ?_ | refine thenR ?_ | refine inBI ?_ | refine inBR ?_ | refine inBS ?_ | refine inBN (by decide) ?_)
    refine W_loop (fun d fr st' => ∃ (i : Nat) , d = bs'.length - i ∧ i ≤ bs'.length ∧ (sa = st') ∧ ((∀ x ∈ bs'.take i, ¬ 400 < x.tm.count)) ∧ (fr.env 2 = .pointer (some ⟨2, 0, some 1⟩)) ∧ (fr.env 3 = .pointer (some ⟨3, 0, some 1⟩)) ∧ (fr.env 7 = .slice (some ⟨i0, o, none⟩) (p :: rest').length c) ∧ (fr.env 8 = sl') ∧ (fr.env 9 = se) ∧ (fr.env 31 = sl') ∧ (fr.env 32 = .int .i64 bs'.length) ∧ (fr.env 33 = .int .i64 i) ∧ (fr.loc 2 = (1, [.int .i64 k1, .int .i64 n1, .string m1, s1])) ∧ (fr.loc 3 = (1, [.int .i64 k2, .int .i64 n2, .string m2, s2]))) (bs'.length) ?_ ?_
    · exact ⟨0, by omega, by omega, rfl, by simp, (by (simp (disch := omega) only [go_sem, ↓reduceIte, Nat.reduceEqDiff, Nat.reduceAdd, Nat.reduceLeDiff, p1, p2, p3, p4, e2, e3, e6, e7, l2, l3, y1, y2, hlen, w1, w2, w3, w4, y3, y4, hlen']); try rfl), (by (simp (disch := omega) only [go_sem, ↓reduceIte, Nat.reduceEqDiff, Nat.reduceAdd, Nat.reduceLeDiff, p1, p2, p3, p4, e2, e3, e6, e7, l2, l3, y1, y2, hlen, w1, w2, w3, w4, y3, y4, hlen']); try rfl), (by (simp (disch := omega) only [go_sem, ↓reduceIte, Nat.reduceEqDiff, Nat.reduceAdd, Nat.reduceLeDiff, p1, p2, p3, p4, e2, e3, e6, e7, l2, l3, y1, y2, hlen, w1, w2, w3, w4, y3, y4, hlen']); try rfl), (by (simp (disch := omega) only [go_sem, ↓reduceIte, Nat.reduceEqDiff, Nat.reduceAdd, Nat.reduceLeDiff, p1, p2, p3, p4, e2, e3, e6, e7, l2, l3, y1, y2, hlen, w1, w2, w3, w4, y3, y4, hlen']); try rfl), (by (simp (disch := omega) only [go_sem, ↓reduceIte, Nat.reduceEqDiff, Nat.reduceAdd, Nat.reduceLeDiff, p1, p2, p3, p4, e2, e3, e6, e7, l2, l3, y1, y2, hlen, w1, w2, w3, w4, y3, y4, hlen']); try rfl), (by (simp (disch := omega) only [go_sem, ↓reduceIte, Nat.reduceEqDiff, Nat.reduceAdd, Nat.reduceLeDiff, p1, p2, p3, p4, e2, e3, e6, e7, l2, l3, y1, y2, hlen, w1, w2, w3, w4, y3, y4, hlen']); try rfl), (by (simp (disch := omega) only [go_sem, ↓reduceIte, Nat.reduceEqDiff, Nat.reduceAdd, Nat.reduceLeDiff, p1, p2, p3, p4, e2, e3, e6, e7, l2, l3, y1, y2, hlen, w1, w2, w3, w4, y3, y4, hlen']); try rfl), (by (simp (disch := omega) only [go_sem, ↓reduceIte, Nat.reduceEqDiff, Nat.reduceAdd, Nat.reduceLeDiff, p1, p2, p3, p4, e2, e3, e6, e7, l2, l3, y1, y2, hlen, w1, w2, w3, w4, y3, y4, hlen']); try rfl), (by (simp (disch := omega) only [go_sem, ↓reduceIte, Nat.reduceEqDiff, Nat.reduceAdd, Nat.reduceLeDiff, p1, p2, p3, p4, e2, e3, e6, e7, l2, l3, y1, y2, hlen, w1, w2, w3, w4, y3, y4, hlen']); try rfl), (by (simp (disch := omega) only [go_sem, ↓reduceIte, Nat.reduceEqDiff, Nat.reduceAdd, Nat.reduceLeDiff, p1, p2, p3, p4, e2, e3, e6, e7, l2, l3, y1, y2, hlen, w1, w2, w3, w4, y3, y4, hlen']); try rfl)⟩
    clear e2 e3 e6 e7 l2 l3
    rintro d ⟨env, loc⟩ st' ⟨i, hd_i, hj_i, hex, hnb, e2, e3, e7, e8, e9, e31, e32, e33, l2, l3⟩
    simp only at e2 e3 e7 e8 e9 e31 e32 e33 l2 l3
    subst hex
    by_cases hlt_i : i < bs'.length
    · have c1_i : decide ((i : Int) < (bs'.length : Int)) = true := by simpa using hlt_i
      have hi_i := idxOk hlt_i
      have hx_i : bs'[i]? = some bs'[i] := List.getElem?_eq_getElem hlt_i
      have htk_i : bs'.take (i + 1) = bs'.take i ++ [bs'[i]] := List.take_succ_eq_append_getElem hlt_i
      obtain ⟨hcc, hll⟩ := hbs' _ (List.getElem_mem hlt_i)
      obtain ⟨ii, oo, ccp, kk, mm, mmn, args, sx, rfl, htm, hrx, hcs5⟩ := row_atB hR' hx_i
      have hld5 := fun loc => load_row (A := []) (loc := loc) ag54 sz54 rfl hcs5
      have nx := hrx.notLoc.1
      have nx2 := hrx.notLoc.2
      have hE5 := Enc.close kk mm mmn hrx
      rw [← htm] at hE5
      repeat (first | ((first | refine W_reg rfl fun G K hG hK => ?_ | refine W_end rfl fun G K hG hK => ?_); simp (disch := omega) only [go_sem, ↓reduceIte, Nat.reduceEqDiff, Nat.reduceAdd, Nat.reduceLeDiff, hG, p1, p2, p3, p4, y1, y2, hlen, w1, w2, w3, w4, y3, y4, hlen', e2, e3, e7, e8, e9, e31, e32, e33, l2, l3, c1_i, hi_i, idxA, Int.toNat_natCast, hld5, nx, nx2]; refine hK _ _ ?_; clear hK K hG G) | refine W_seqS ?_ | refine W_seqC ?_ | refine W_seqB ?_ | refine W_block ?_ | refine W_skip ?_ | (refine W_condT ?hc ?_; (case hc => (simp (disch := omega) only [go_sem, ↓reduceIte, Nat.reduceEqDiff, Nat.reduceAdd, Nat.reduceLeDiff, p1, p2, p3, p4, y1, y2, hlen, w1, w2, w3, w4, y3, y4, hlen', e2, e3, e7, e8, e9, e31, e32, e33, l2, l3, c1_i, hi_i, idxA, Int.toNat_natCast, hld5, nx, nx2]; done))) | (refine W_condF ?hc ?_; (case hc => (simp (disch := omega) only [go_sem, ↓reduceIte, Nat.reduceEqDiff, Nat.reduceAdd, Nat.reduceLeDiff, p1, p2, p3, p4, y1, y2, hlen, w1, w2, w3, w4, y3, y4, hlen', e2, e3, e7, e8, e9, e31, e32, e33, l2, l3, c1_i, hi_i, idxA, Int.toNat_natCast, hld5, nx, nx2]; done))) | refine thenI ?_ | refine thenE ?_ | refine thenR ?_ | refine inBI ?_ | refine inBR ?_ | refine inBS ?_ | refine inBN (by decide) ?_)
      (repeat (first | refine W_seqS ?_ | refine W_seqC ?_ | refine W_seqB ?_ | refine W_block ?_)); refine W_reg rfl fun G K hG hK => ?_; simp (disch := omega) only [go_sem, ↓reduceIte, Nat.reduceEqDiff, Nat.reduceAdd, Nat.reduceLeDiff, hG, p1, p2, p3, p4, y1, y2, hlen, w1, w2, w3, w4, y3, y4, hlen', e2, e3, e7, e8, e9, e31, e32, e33, l2, l3, c1_i, hi_i, idxA, Int.toNat_natCast, nx, nx2]
      refine w_call (implCount_ok bs'[i].tm sa _ hll (by omega) hE5) (by simp (disch := omega) only [go_sem, ↓reduceIte, Nat.reduceEqDiff, p1, p2, p3, p4, y1, y2, hlen, w1, w2, w3, w4, y3, y4, hlen', e2, e3, e7, e8, e9, e31, e32, e33, l2, l3, c1_i, hi_i, idxA, Int.toNat_natCast, nx, nx2]) ?hl ?_
      case hl => first | rfl | (simp only [go_sem, List.all_cons, List.all_nil, Bool.not_false, Bool.and_self, p1, p2, p3, p4, y1, y2, hlen, w1, w2, w3, w4, y3, y4, hlen', e2, e3, e7, e8, e9, e31, e32, e33, l2, l3, c1_i, hi_i, idxA, Int.toNat_natCast, nx, nx2]; done)
      rintro r_ sa ⟨rfl, rfl⟩; refine ⟨fun e => (by cases e), ?_⟩
      by_cases h4 : 400 < bs'[i].tm.count
      · have c4 : decide (((bs'[i].tm.count : Nat) : Int) > 400) = true := decide_eq_true (by omega)
        have hbig : bigB bs' = true := List.any_eq_true.2 ⟨_, List.getElem_mem hlt_i, decide_eq_true h4⟩
        rw [if_pos hbig] at hu
        cases hu
        simp (disch := omega) only [go_sem, ↓reduceIte, Nat.reduceEqDiff, Nat.reduceAdd, Nat.reduceLeDiff, hG, p1, p2, p3, p4, y1, y2, hlen, w1, w2, w3, w4, y3, y4, hlen', e2, e3, e7, e8, e9, e31, e32, e33, l2, l3, c1_i, hi_i, idxA, Int.toNat_natCast, c4]; refine hK _ _ ?_; clear hK K hG G; repeat (first | refine thenI ?_ | refine thenE ?_ | refine thenR ?_ | refine inBI ?_ | refine inBR ?_ | refine inBS ?_ | refine inBN (by decide) ?_)
        repeat (first | ((first | refine W_reg rfl fun G K hG hK => ?_ | refine W_end rfl fun G K hG hK => ?_); simp (disch := omega) only [go_sem, ↓reduceIte, Nat.reduceEqDiff, Nat.reduceAdd, Nat.reduceLeDiff, hG, p1, p2, p3, p4, y1, y2, hlen, w1, w2, w3, w4, y3, y4, hlen', e2, e3, e7, e8, e9, e31, e32, e33, l2, l3, c1_i, hi_i, idxA, Int.toNat_natCast]; refine hK _ _ ?_; clear hK K hG G) | refine W_seqS ?_ | refine W_seqC ?_ | refine W_seqB ?_ | refine W_block ?_ | refine W_skip ?_ | (refine W_condT ?hc ?_; (case hc => (simp (disch := omega) only [go_sem, ↓reduceIte, Nat.reduceEqDiff, Nat.reduceAdd, Nat.reduceLeDiff, p1, p2, p3, p4, y1, y2, hlen, w1, w2, w3, w4, y3, y4, hlen', e2, e3, e7, e8, e9, e31, e32, e33, l2, l3, c1_i, hi_i, idxA, Int.toNat_natCast]; done))) | (refine W_condF ?hc ?_; (case hc => (simp (disch := omega) only [go_sem, ↓reduceIte, Nat.reduceEqDiff, Nat.reduceAdd, Nat.reduceLeDiff, p1, p2, p3, p4, y1, y2, hlen, w1, w2, w3, w4, y3, y4, hlen', e2, e3, e7, e8, e9, e31, e32, e33, l2, l3, c1_i, hi_i, idxA, Int.toNat_natCast]; done))) | refine thenI ?_ | refine thenE ?_ | refine thenR ?_ | refine inBI ?_ | refine inBR ?_ | refine inBS ?_ | refine inBN (by decide) ?_)
        refine W_ret ?_; try (repeat (first | refine thenI ?_ | refine thenE ?_ | refine thenR ?_ | refine inBI ?_ | refine inBR ?_ | refine inBS ?_ | refine inBN (by decide) ?_))
        refine fin2 (.inl rfl) (by (simp (disch := omega) only [go_sem, ↓reduceIte, Nat.reduceEqDiff, Nat.reduceAdd, Nat.reduceLeDiff, p1, p2, p3, p4, y1, y2, hlen, w1, w2, w3, w4, y3, y4, hlen', e2, e3, e7, e8, e9, e31, e32, e33, l2, l3, c1_i, hi_i, idxA, Int.toNat_natCast]); try rfl) rfl (by (simp (disch := omega) only [go_sem, ↓reduceIte, Nat.reduceEqDiff, Nat.reduceAdd, Nat.reduceLeDiff, p1, p2, p3, p4, y1, y2, hlen, w1, w2, w3, w4, y3, y4, hlen', e2, e3, e7, e8, e9, e31, e32, e33, l2, l3, c1_i, hi_i, idxA, Int.toNat_natCast]); try rfl) rfl ⟨hext.trans x1, _, [], rfl, Sl.nil _, .nil _⟩
      · have c4 : decide (((bs'[i].tm.count : Nat) : Int) > 400) = false := decide_eq_false (by omega)
        have hnb2 : ∀ x ∈ bs'.take (i + 1), ¬ 400 < x.tm.count := fun x hx => by
          rw [htk_i] at hx
          rcases List.mem_append.1 hx with hx | hx
          · exact hnb x hx
          · cases List.mem_singleton.1 hx; exact h4
        simp (disch := omega) only [go_sem, ↓reduceIte, Nat.reduceEqDiff, Nat.reduceAdd, Nat.reduceLeDiff, hG, p1, p2, p3, p4, y1, y2, hlen, w1, w2, w3, w4, y3, y4, hlen', e2, e3, e7, e8, e9, e31, e32, e33, l2, l3, c1_i, hi_i, idxA, Int.toNat_natCast, c4]; refine hK _ _ ?_; clear hK K hG G; repeat (first | refine thenI ?_ | refine thenE ?_ | refine thenR ?_ | refine inBI ?_ | refine inBR ?_ | refine inBS ?_ | refine inBN (by decide) ?_)
        repeat (first | ((first | refine W_reg rfl fun G K hG hK => ?_ | refine W_end rfl fun G K hG hK => ?_); simp (disch := omega) only [go_sem, ↓reduceIte, Nat.reduceEqDiff, Nat.reduceAdd, Nat.reduceLeDiff, hG, p1, p2, p3, p4, y1, y2, hlen, w1, w2, w3, w4, y3, y4, hlen', e2, e3, e7, e8, e9, e31, e32, e33, l2, l3, c1_i, hi_i, idxA, Int.toNat_natCast]; refine hK _ _ ?_; clear hK K hG G) | refine W_seqS ?_ | refine W_seqC ?_ | refine W_seqB ?_ | refine W_block ?_ | refine W_skip ?_ | (refine W_condT ?hc ?_; (case hc => (simp (disch := omega) only [go_sem, ↓reduceIte, Nat.reduceEqDiff, Nat.reduceAdd, Nat.reduceLeDiff, p1, p2, p3, p4, y1, y2, hlen, w1, w2, w3, w4, y3, y4, hlen', e2, e3, e7, e8, e9, e31, e32, e33, l2, l3, c1_i, hi_i, idxA, Int.toNat_natCast]; done))) | (refine W_condF ?hc ?_; (case hc => (simp (disch := omega) only [go_sem, ↓reduceIte, Nat.reduceEqDiff, Nat.reduceAdd, Nat.reduceLeDiff, p1, p2, p3, p4, y1, y2, hlen, w1, w2, w3, w4, y3, y4, hlen', e2, e3, e7, e8, e9, e31, e32, e33, l2, l3, c1_i, hi_i, idxA, Int.toNat_natCast]; done))) | refine thenI ?_ | refine thenE ?_ | refine thenR ?_ | refine inBI ?_ | refine inBR ?_ | refine inBS ?_ | refine inBN (by decide) ?_)
        refine ⟨bs'.length - (i + 1), by omega, i + 1, rfl, by omega, rfl, hnb2, (by (simp (disch := omega) only [go_sem, ↓reduceIte, Nat.reduceEqDiff, Nat.reduceAdd, Nat.reduceLeDiff, p1, p2, p3, p4, y1, y2, hlen, w1, w2, w3, w4, y3, y4, hlen', e2, e3, e7, e8, e9, e31, e32, e33, l2, l3, c1_i, hi_i, idxA, Int.toNat_natCast]); try rfl), (by (simp (disch := omega) only [go_sem, ↓reduceIte, Nat.reduceEqDiff, Nat.reduceAdd, Nat.reduceLeDiff, p1, p2, p3, p4, y1, y2, hlen, w1, w2, w3, w4, y3, y4, hlen', e2, e3, e7, e8, e9, e31, e32, e33, l2, l3, c1_i, hi_i, idxA, Int.toNat_natCast]); try rfl), (by (simp (disch := omega) only [go_sem, ↓reduceIte, Nat.reduceEqDiff, Nat.reduceAdd, Nat.reduceLeDiff, p1, p2, p3, p4, y1, y2, hlen, w1, w2, w3, w4, y3, y4, hlen', e2, e3, e7, e8, e9, e31, e32, e33, l2, l3, c1_i, hi_i, idxA, Int.toNat_natCast]); try rfl), (by (simp (disch := omega) only [go_sem, ↓reduceIte, Nat.reduceEqDiff, Nat.reduceAdd, Nat.reduceLeDiff, p1, p2, p3, p4, y1, y2, hlen, w1, w2, w3, w4, y3, y4, hlen', e2, e3, e7, e8, e9, e31, e32, e33, l2, l3, c1_i, hi_i, idxA, Int.toNat_natCast]); try rfl), (by (simp (disch := omega) only [go_sem, ↓reduceIte, Nat.reduceEqDiff, Nat.reduceAdd, Nat.reduceLeDiff, p1, p2, p3, p4, y1, y2, hlen, w1, w2, w3, w4, y3, y4, hlen', e2, e3, e7, e8, e9, e31, e32, e33, l2, l3, c1_i, hi_i, idxA, Int.toNat_natCast]); try rfl), (by (simp (disch := omega) only [go_sem, ↓reduceIte, Nat.reduceEqDiff, Nat.reduceAdd, Nat.reduceLeDiff, p1, p2, p3, p4, y1, y2, hlen, w1, w2, w3, w4, y3, y4, hlen', e2, e3, e7, e8, e9, e31, e32, e33, l2, l3, c1_i, hi_i, idxA, Int.toNat_natCast]); try rfl), (by (simp (disch := omega) only [go_sem, ↓reduceIte, Nat.reduceEqDiff, Nat.reduceAdd, Nat.reduceLeDiff, p1, p2, p3, p4, y1, y2, hlen, w1, w2, w3, w4, y3, y4, hlen', e2, e3, e7, e8, e9, e31, e32, e33, l2, l3, c1_i, hi_i, idxA, Int.toNat_natCast]); try rfl), (by (simp (disch := omega) only [go_sem, ↓reduceIte, Nat.reduceEqDiff, Nat.reduceAdd, Nat.reduceLeDiff, p1, p2, p3, p4, y1, y2, hlen, w1, w2, w3, w4, y3, y4, hlen', e2, e3, e7, e8, e9, e31, e32, e33, l2, l3, c1_i, hi_i, idxA, Int.toNat_natCast]); try rfl), (by (simp (disch := omega) only [go_sem, ↓reduceIte, Nat.reduceEqDiff, Nat.reduceAdd, Nat.reduceLeDiff, p1, p2, p3, p4, y1, y2, hlen, w1, w2, w3, w4, y3, y4, hlen', e2, e3, e7, e8, e9, e31, e32, e33, l2, l3, c1_i, hi_i, idxA, Int.toNat_natCast]); try rfl), (by (simp (disch := omega) only [go_sem, ↓reduceIte, Nat.reduceEqDiff, Nat.reduceAdd, Nat.reduceLeDiff, p1, p2, p3, p4, y1, y2, hlen, w1, w2, w3, w4, y3, y4, hlen', e2, e3, e7, e8, e9, e31, e32, e33, l2, l3, c1_i, hi_i, idxA, Int.toNat_natCast]); try rfl)⟩
    · have c1_i : decide ((i : Int) < (bs'.length : Int)) = false := by simpa using hlt_i
      have hjn_i : i = bs'.length := by omega
      subst hjn_i
      rw [List.take_length] at hnb
      have hbig : bigB bs' = false := List.any_eq_false.2 fun x hx => by simpa using hnb x hx
      rw [if_neg (by rw [hbig]; simp)] at hu
      obtain ⟨hI', _⟩ := hI.step hst hbig
      have hsm' := hI'.small.1
      rw [List.length_append] at hsm'
      have hrow2 : Row (E2 sx1) 8 sa (p :: rest') (.slice (some ⟨i0, o, none⟩) (p :: rest').length c) := hrow.mono x1 fun _ _ _ h => h.ext xa1
      obtain ⟨s9, hs9, hf9, hr9⟩ := row_drop (P := Try.prog) (t := 50) hrow2 Try.underlying50 sz49 (k := 1) (by simp) (by simp)
      have hs9' : sliceA Try.prog 50 (.slice (some ⟨i0, o, none⟩) (rest'.length + 1) c) (some (.int .i64 1)) none = some s9 := hs9
      rw [List.drop_one, List.tail_cons] at hr9
      have y9 := hr9.notLoc.1
      obtain ⟨v', sb, L', hap, hsp, hfp, hg⟩ := hse.app hfe xa2.length hr9 (by omega)
      have y5 := hsp.loc
      have x9 : Ext sx1 sb := hg.away.ext_of xa2 (hse.top hfe)
      have x8 : Ext st' sb := xa1.trans x9
      have hRn : Rw sb bs' sl' := hRx.ext x9
      have hlr2 : ∀ p ∈ more ++ rest', Lim 1073741824 p.1 ∧ Lim 1073741824 p.2 := fun p' hp' => by
        rcases List.mem_append.1 hp' with hp' | hp'
        · exact stepU_more hst (Lim.of_count _ (by omega)) (Lim.of_count _ (by omega)) p' hp'
        · exact hlr p' (by simp [hp'])
      have hNM : N - (j + 1) = M := by omega
      repeat (first | ((first | refine W_reg rfl fun G K hG hK => ?_ | refine W_end rfl fun G K hG hK => ?_); simp (disch := omega) only [go_sem, ↓reduceIte, Nat.reduceEqDiff, Nat.reduceAdd, Nat.reduceLeDiff, hG, p1, p2, p3, p4, y1, y2, hlen, w1, w2, w3, w4, y3, y4, hlen', e2, e3, e7, e8, e9, e31, e32, e33, l2, l3, c1_i]; refine hK _ _ ?_; clear hK K hG G) | refine W_seqS ?_ | refine W_seqC ?_ | refine W_seqB ?_ | refine W_block ?_ | refine W_skip ?_ | (refine W_condT ?hc ?_; (case hc => (simp (disch := omega) only [go_sem, ↓reduceIte, Nat.reduceEqDiff, Nat.reduceAdd, Nat.reduceLeDiff, p1, p2, p3, p4, y1, y2, hlen, w1, w2, w3, w4, y3, y4, hlen', e2, e3, e7, e8, e9, e31, e32, e33, l2, l3, c1_i]; done))) | (refine W_condF ?hc ?_; (case hc => (simp (disch := omega) only [go_sem, ↓reduceIte, Nat.reduceEqDiff, Nat.reduceAdd, Nat.reduceLeDiff, p1, p2, p3, p4, y1, y2, hlen, w1, w2, w3, w4, y3, y4, hlen', e2, e3, e7, e8, e9, e31, e32, e33, l2, l3, c1_i]; done))) | refine thenI ?_ | refine thenE ?_ | refine thenR ?_ | refine inBI ?_ | refine inBR ?_ | refine inBS ?_ | refine inBN (by decide) ?_)
      refine W_exit ?_; repeat (first | refine thenI ?_ | refine thenE ?_ | refine thenR ?_ | refine inBI ?_ | refine inBR ?_ | refine inBS ?_ | refine inBN (by decide) ?_)
      refine W_end rfl fun G K hG hK => ?_; simp (disch := omega) only [go_sem, ↓reduceIte, Nat.reduceEqDiff, Nat.reduceAdd, Nat.reduceLeDiff, hG, p1, p2, p3, p4, y1, y2, hlen, w1, w2, w3, w4, y3, y4, hlen', e2, e3, e7, e8, e9, e31, e32, e33, l2, l3, c1_i, w_slice, ev_slice, hs9', hf9, w_append, hap, y5, y9, flat_i, Bool.false_and, Option.all_some, Option.map_some, Option.all_none, Option.map_none]
      refine hK _ _ ?_; clear hK K hG G; repeat (first | refine thenI ?_ | refine thenE ?_ | refine thenR ?_ | refine inBI ?_ | refine inBR ?_ | refine inBS ?_ | refine inBN (by decide) ?_)
      refine ⟨N - (j + 1), by omega, j + 1, bs', more ++ rest', sl', v', rfl, by omega, hext.trans x8, hI', by rw [hNM]; exact hu, hRn, hsp.row.mono (Ext.refl _) (fun _ _ _ h => h.ext x9), hlr2, (by (simp (disch := omega) only [go_sem, ↓reduceIte, Nat.reduceEqDiff, Nat.reduceAdd, Nat.reduceLeDiff, p1, p2, p3, p4, y1, y2, hlen, w1, w2, w3, w4, y3, y4, hlen', e2, e3, e7, e8, e9, e31, e32, e33, l2, l3, c1_i]); try rfl), (by (simp (disch := omega) only [go_sem, ↓reduceIte, Nat.reduceEqDiff, Nat.reduceAdd, Nat.reduceLeDiff, p1, p2, p3, p4, y1, y2, hlen, w1, w2, w3, w4, y3, y4, hlen', e2, e3, e7, e8, e9, e31, e32, e33, l2, l3, c1_i]); try rfl), (by (simp (disch := omega) only [go_sem, ↓reduceIte, Nat.reduceEqDiff, Nat.reduceAdd, Nat.reduceLeDiff, p1, p2, p3, p4, y1, y2, hlen, w1, w2, w3, w4, y3, y4, hlen', e2, e3, e7, e8, e9, e31, e32, e33, l2, l3, c1_i]); try rfl), (by (simp (disch := omega) only [go_sem, ↓reduceIte, Nat.reduceEqDiff, Nat.reduceAdd, Nat.reduceLeDiff, p1, p2, p3, p4, y1, y2, hlen, w1, w2, w3, w4, y3, y4, hlen', e2, e3, e7, e8, e9, e31, e32, e33, l2, l3, c1_i]); try rfl), (by (simp (disch := omega) only [go_sem, ↓reduceIte, Nat.reduceEqDiff, Nat.reduceAdd, Nat.reduceLeDiff, p1, p2, p3, p4, y1, y2, hlen, w1, w2, w3, w4, y3, y4, hlen', e2, e3, e7, e8, e9, e31, e32, e33, l2, l3, c1_i]); try rfl), (by (simp (disch := omega) only [go_sem, ↓reduceIte, Nat.reduceEqDiff, Nat.reduceAdd, Nat.reduceLeDiff, p1, p2, p3, p4, y1, y2, hlen, w1, w2, w3, w4, y3, y4, hlen', e2, e3, e7, e8, e9, e31, e32, e33, l2, l3, c1_i]); try rfl)⟩

end

section
/- The reference's unification: spec.l8Left, l8Large, l8Bind. -/
open Go Go.Proofs
set_option linter.unusedVariables false
set_option linter.unusedSimpArgs false
set_option maxRecDepth 100000
-- AUTO

def leftW (left : Int) (c : Nat) : Int := if (c : Int) ≤ left then left - c else -1
theorem l8Left_ok : ∀ (t : T) (left : Int) (st : St) (cs : List Value), 0 ≤ left → left ≤ 4611686018427387904 → Lim 1073741824 t → Enc st t cs →
    CallS Try.prog 31 [.agg cs.toArray, .int .i64 left] st fun r st' => r = .int .i64 (leftW left t.count) ∧ st' = st := by
  refine T.ind fun k n nm xs ih left st cs h0 hbig hl hE => ?_
  obtain ⟨s, rfl, hr⟩ := hE.open
  have hxl := hl.args.1
  have hcm : (T.mk k n nm xs).count = 1 + T.countL xs := by simp only [T.count]
  refine CallS_of_W [] 27 Try.func31 rfl rfl rfl rfl (by simp) ?_
  have q1 := hr.notLoc.1
  have q2 := hr.notLoc.2
  have q3 := Row.cells1 hr
  have hlen : lenE Try.prog 29 s = some (.int .i64 xs.length) := row_len hr Try.underlying29
  repeat (first | ((first | refine W_reg rfl fun G K hG hK => ?_ | refine W_end rfl fun G K hG hK => ?_); simp (disch := omega) only [go_sem, ↓reduceIte, Nat.reduceEqDiff, Nat.reduceAdd, Nat.reduceLeDiff, hG, q1, q2, q3, hlen]; refine hK _ _ ?_; clear hK K hG G) | refine W_seqS ?_ | refine W_seqC ?_ | refine W_seqB ?_ | refine W_block ?_ | refine W_skip ?_ | (refine W_condT ?hc ?_; (case hc => (simp (disch := omega) only [go_sem, ↓reduceIte, Nat.reduceEqDiff, Nat.reduceAdd, Nat.reduceLeDiff, q1, q2, q3, hlen]; done))) | (refine W_condF ?hc ?_; (case hc => (simp (disch := omega) only [go_sem, ↓reduceIte, Nat.reduceEqDiff, Nat.reduceAdd, Nat.reduceLeDiff, q1, q2, q3, hlen]; done))) | refine thenI ?_ | refine thenE ?_ | refine thenR ?_ | refine inBI ?_ | refine inBR ?_ | refine inBS ?_ | refine inBN (by decide) ?_)
  refine W_loop (fun d fr st' => ∃ (j : Nat) (v : Int), d = xs.length - j ∧ j ≤ xs.length ∧ (st' = st) ∧ (v = leftW left (1 + T.countL (xs.take j))) ∧ (fr.env 1 = .int .i64 v) ∧ (fr.env 2 = .pointer (some ⟨2, 0, some 1⟩)) ∧ (fr.env 5 = .int .i64 j) ∧ (fr.loc 2 = (1, [.int .i64 k, .int .i64 n, .string nm, s]))) (xs.length) ?_ ?_
  · exact ⟨0, left - 1, by omega, by omega, rfl, by simp only [List.take_zero, T.countL, leftW]; split <;> omega, (by (simp (disch := omega) only [go_sem, ↓reduceIte, Nat.reduceEqDiff, Nat.reduceAdd, Nat.reduceLeDiff, q1, q2, q3, hlen]); try rfl), (by (simp (disch := omega) only [go_sem, ↓reduceIte, Nat.reduceEqDiff, Nat.reduceAdd, Nat.reduceLeDiff, q1, q2, q3, hlen]); try rfl), (by (simp (disch := omega) only [go_sem, ↓reduceIte, Nat.reduceEqDiff, Nat.reduceAdd, Nat.reduceLeDiff, q1, q2, q3, hlen]); try rfl), (by (simp (disch := omega) only [go_sem, ↓reduceIte, Nat.reduceEqDiff, Nat.reduceAdd, Nat.reduceLeDiff, q1, q2, q3, hlen]); try rfl)⟩
  rintro d ⟨env, loc⟩ st' ⟨j, v, hd, hj, hst, hv, e1, e2, e5, l2⟩
  simp only at e1 e2 e5 l2
  subst hst
  have hle := count_le (xs := xs) j
  have hvb : -1 ≤ v ∧ v ≤ left := by rw [hv]; unfold leftW; split <;> omega
  by_cases hlt : j < xs.length
  · have c1 : decide ((j : Int) < (xs.length : Int)) = true := by simpa using hlt
    have hi := idxOk hlt
    have hx : xs[j]? = some xs[j] := List.getElem?_eq_getElem hlt
    have htk : xs.take (j + 1) = xs.take j ++ [xs[j]] := List.take_succ_eq_append_getElem hlt
    by_cases hv0 : v ≥ 0
    · have c2 : decide (v ≥ 0) = true := by simpa using hv0
      obtain ⟨i, o, c, es, rfl, hcl, hE1, hcs⟩ := row_at hr hx
      have hld := fun loc => load_row (A := []) (loc := loc) ag31 sz31 hcl hcs
      have htake := count_take hlt
      have hv1 : v = left - (1 + T.countL (xs.take j) : Nat) ∧ ((1 + T.countL (xs.take j) : Nat) : Int) ≤ left := by
        rw [hv] at hv0 ⊢
        unfold leftW at hv0 ⊢
        split
        · rename_i h; exact ⟨rfl, h⟩
        · rename_i h; rw [if_neg h] at hv0; omega
      repeat (first | ((first | refine W_reg rfl fun G K hG hK => ?_ | refine W_end rfl fun G K hG hK => ?_); simp (disch := omega) only [go_sem, ↓reduceIte, Nat.reduceEqDiff, Nat.reduceAdd, Nat.reduceLeDiff, hG, q1, q2, q3, hlen, e1, e2, e5, l2, c1, hi, idxA, Int.toNat_natCast, c2]; refine hK _ _ ?_; clear hK K hG G) | refine W_seqS ?_ | refine W_seqC ?_ | refine W_seqB ?_ | refine W_block ?_ | refine W_skip ?_ | (refine W_condT ?hc ?_; (case hc => (simp (disch := omega) only [go_sem, ↓reduceIte, Nat.reduceEqDiff, Nat.reduceAdd, Nat.reduceLeDiff, q1, q2, q3, hlen, e1, e2, e5, l2, c1, hi, idxA, Int.toNat_natCast, c2]; done))) | (refine W_condF ?hc ?_; (case hc => (simp (disch := omega) only [go_sem, ↓reduceIte, Nat.reduceEqDiff, Nat.reduceAdd, Nat.reduceLeDiff, q1, q2, q3, hlen, e1, e2, e5, l2, c1, hi, idxA, Int.toNat_natCast, c2]; done))) | refine thenI ?_ | refine thenE ?_ | refine thenR ?_ | refine inBI ?_ | refine inBR ?_ | refine inBS ?_ | refine inBN (by decide) ?_)
      refine W_end rfl fun G K hG hK => ?_; simp (disch := omega) only [go_sem, ↓reduceIte, Nat.reduceEqDiff, Nat.reduceAdd, Nat.reduceLeDiff, hG, q1, q2, q3, hlen, e1, e2, e5, l2, c1, hi, idxA, Int.toNat_natCast, hld]
      refine w_call (ih xs[j] (List.getElem_mem hlt) v st' es hv0 (by omega) (hl.args.2 _ (List.getElem_mem hlt)) hE1) (by simp (disch := omega) only [go_sem, ↓reduceIte, Nat.reduceEqDiff, q1, q2, q3, hlen, e1, e2, e5, l2, c1, hi, idxA, Int.toNat_natCast]) ?hl ?_
      case hl => first | rfl | (simp only [go_sem, List.all_cons, List.all_nil, Bool.not_false, Bool.and_self, q1, q2, q3, hlen, e1, e2, e5, l2, c1, hi, idxA, Int.toNat_natCast]; done)
      rintro r_ st' ⟨rfl, rfl⟩; refine ⟨fun e => (by cases e), ?_⟩
      simp (disch := omega) only [go_sem, ↓reduceIte, Nat.reduceEqDiff, Nat.reduceAdd, Nat.reduceLeDiff, hG, q1, q2, q3, hlen, e1, e2, e5, l2, c1, hi, idxA, Int.toNat_natCast]; refine hK _ _ ?_; clear hK K hG G; repeat (first | refine thenI ?_ | refine thenE ?_ | refine thenR ?_ | refine inBI ?_ | refine inBR ?_ | refine inBS ?_ | refine inBN (by decide) ?_)
      repeat (first | ((first | refine W_reg rfl fun G K hG hK => ?_ | refine W_end rfl fun G K hG hK => ?_); simp (disch := omega) only [go_sem, ↓reduceIte, Nat.reduceEqDiff, Nat.reduceAdd, Nat.reduceLeDiff, hG, q1, q2, q3, hlen, e1, e2, e5, l2, c1, hi, idxA, Int.toNat_natCast]; refine hK _ _ ?_; clear hK K hG G) | refine W_seqS ?_ | refine W_seqC ?_ | refine W_seqB ?_ | refine W_block ?_ | refine W_skip ?_ | (refine W_condT ?hc ?_; (case hc => (simp (disch := omega) only [go_sem, ↓reduceIte, Nat.reduceEqDiff, Nat.reduceAdd, Nat.reduceLeDiff, q1, q2, q3, hlen, e1, e2, e5, l2, c1, hi, idxA, Int.toNat_natCast]; done))) | (refine W_condF ?hc ?_; (case hc => (simp (disch := omega) only [go_sem, ↓reduceIte, Nat.reduceEqDiff, Nat.reduceAdd, Nat.reduceLeDiff, q1, q2, q3, hlen, e1, e2, e5, l2, c1, hi, idxA, Int.toNat_natCast]; done))) | refine thenI ?_ | refine thenE ?_ | refine thenR ?_ | refine inBI ?_ | refine inBR ?_ | refine inBS ?_ | refine inBN (by decide) ?_)
      refine ⟨xs.length - (j + 1), by omega, j + 1, leftW v xs[j].count, rfl, by omega, rfl, by unfold leftW; rw [htake, hv1.1]; split <;> split <;> omega, (by (simp (disch := omega) only [go_sem, ↓reduceIte, Nat.reduceEqDiff, Nat.reduceAdd, Nat.reduceLeDiff, q1, q2, q3, hlen, e1, e2, e5, l2, c1, hi, idxA, Int.toNat_natCast]); try rfl), (by (simp (disch := omega) only [go_sem, ↓reduceIte, Nat.reduceEqDiff, Nat.reduceAdd, Nat.reduceLeDiff, q1, q2, q3, hlen, e1, e2, e5, l2, c1, hi, idxA, Int.toNat_natCast]); try rfl), (by (simp (disch := omega) only [go_sem, ↓reduceIte, Nat.reduceEqDiff, Nat.reduceAdd, Nat.reduceLeDiff, q1, q2, q3, hlen, e1, e2, e5, l2, c1, hi, idxA, Int.toNat_natCast]); try rfl), (by (simp (disch := omega) only [go_sem, ↓reduceIte, Nat.reduceEqDiff, Nat.reduceAdd, Nat.reduceLeDiff, q1, q2, q3, hlen, e1, e2, e5, l2, c1, hi, idxA, Int.toNat_natCast]); try rfl)⟩
    · have c2 : decide (v ≥ 0) = false := by simpa using hv0
      repeat (first | ((first | refine W_reg rfl fun G K hG hK => ?_ | refine W_end rfl fun G K hG hK => ?_); simp (disch := omega) only [go_sem, ↓reduceIte, Nat.reduceEqDiff, Nat.reduceAdd, Nat.reduceLeDiff, hG, q1, q2, q3, hlen, e1, e2, e5, l2, c1, hi, idxA, Int.toNat_natCast, c2]; refine hK _ _ ?_; clear hK K hG G) | refine W_seqS ?_ | refine W_seqC ?_ | refine W_seqB ?_ | refine W_block ?_ | refine W_skip ?_ | (refine W_condT ?hc ?_; (case hc => (simp (disch := omega) only [go_sem, ↓reduceIte, Nat.reduceEqDiff, Nat.reduceAdd, Nat.reduceLeDiff, q1, q2, q3, hlen, e1, e2, e5, l2, c1, hi, idxA, Int.toNat_natCast, c2]; done))) | (refine W_condF ?hc ?_; (case hc => (simp (disch := omega) only [go_sem, ↓reduceIte, Nat.reduceEqDiff, Nat.reduceAdd, Nat.reduceLeDiff, q1, q2, q3, hlen, e1, e2, e5, l2, c1, hi, idxA, Int.toNat_natCast, c2]; done))) | refine thenI ?_ | refine thenE ?_ | refine thenR ?_ | refine inBI ?_ | refine inBR ?_ | refine inBS ?_ | refine inBN (by decide) ?_)
      refine W_exit ?_; repeat (first | refine thenI ?_ | refine thenE ?_ | refine thenR ?_ | refine inBI ?_ | refine inBR ?_ | refine inBS ?_ | refine inBN (by decide) ?_)
      repeat (first | ((first | refine W_reg rfl fun G K hG hK => ?_ | refine W_end rfl fun G K hG hK => ?_); simp (disch := omega) only [go_sem, ↓reduceIte, Nat.reduceEqDiff, Nat.reduceAdd, Nat.reduceLeDiff, hG, q1, q2, q3, hlen, e1, e2, e5, l2, c1, hi, idxA, Int.toNat_natCast]; refine hK _ _ ?_; clear hK K hG G) | refine W_seqS ?_ | refine W_seqC ?_ | refine W_seqB ?_ | refine W_block ?_ | refine W_skip ?_ | (refine W_condT ?hc ?_; (case hc => (simp (disch := omega) only [go_sem, ↓reduceIte, Nat.reduceEqDiff, Nat.reduceAdd, Nat.reduceLeDiff, q1, q2, q3, hlen, e1, e2, e5, l2, c1, hi, idxA, Int.toNat_natCast]; done))) | (refine W_condF ?hc ?_; (case hc => (simp (disch := omega) only [go_sem, ↓reduceIte, Nat.reduceEqDiff, Nat.reduceAdd, Nat.reduceLeDiff, q1, q2, q3, hlen, e1, e2, e5, l2, c1, hi, idxA, Int.toNat_natCast]; done))) | refine thenI ?_ | refine thenE ?_ | refine thenR ?_ | refine inBI ?_ | refine inBR ?_ | refine inBS ?_ | refine inBN (by decide) ?_)
      refine W_ret ?_; try (repeat (first | refine thenI ?_ | refine thenE ?_ | refine thenR ?_ | refine inBI ?_ | refine inBR ?_ | refine inBS ?_ | refine inBN (by decide) ?_))
      refine fin1 (.inl rfl) (by (simp (disch := omega) only [go_sem, ↓reduceIte, Nat.reduceEqDiff, Nat.reduceAdd, Nat.reduceLeDiff, q1, q2, q3, hlen, e1, e2, e5, l2, c1, hi, idxA, Int.toNat_natCast]); try rfl) rfl ⟨?_, rfl⟩
      rw [hcm]
      have : v = -1 := by omega
      rw [this] at hv ⊢
      congr 1
      unfold leftW at hv ⊢
      split at hv
      · omega
      · rw [if_neg (by omega)]
  · have c1 : decide ((j : Int) < (xs.length : Int)) = false := by simpa using hlt
    have hjn : j = xs.length := by omega
    subst hjn
    repeat (first | ((first | refine W_reg rfl fun G K hG hK => ?_ | refine W_end rfl fun G K hG hK => ?_); simp (disch := omega) only [go_sem, ↓reduceIte, Nat.reduceEqDiff, Nat.reduceAdd, Nat.reduceLeDiff, hG, q1, q2, q3, hlen, e1, e2, e5, l2, c1]; refine hK _ _ ?_; clear hK K hG G) | refine W_seqS ?_ | refine W_seqC ?_ | refine W_seqB ?_ | refine W_block ?_ | refine W_skip ?_ | (refine W_condT ?hc ?_; (case hc => (simp (disch := omega) only [go_sem, ↓reduceIte, Nat.reduceEqDiff, Nat.reduceAdd, Nat.reduceLeDiff, q1, q2, q3, hlen, e1, e2, e5, l2, c1]; done))) | (refine W_condF ?hc ?_; (case hc => (simp (disch := omega) only [go_sem, ↓reduceIte, Nat.reduceEqDiff, Nat.reduceAdd, Nat.reduceLeDiff, q1, q2, q3, hlen, e1, e2, e5, l2, c1]; done))) | refine thenI ?_ | refine thenE ?_ | refine thenR ?_ | refine inBI ?_ | refine inBR ?_ | refine inBS ?_ | refine inBN (by decide) ?_)
    refine W_exit ?_; repeat (first | refine thenI ?_ | refine thenE ?_ | refine thenR ?_ | refine inBI ?_ | refine inBR ?_ | refine inBS ?_ | refine inBN (by decide) ?_)
    repeat (first | ((first | refine W_reg rfl fun G K hG hK => ?_ | refine W_end rfl fun G K hG hK => ?_); simp (disch := omega) only [go_sem, ↓reduceIte, Nat.reduceEqDiff, Nat.reduceAdd, Nat.reduceLeDiff, hG, q1, q2, q3, hlen, e1, e2, e5, l2, c1]; refine hK _ _ ?_; clear hK K hG G) | refine W_seqS ?_ | refine W_seqC ?_ | refine W_seqB ?_ | refine W_block ?_ | refine W_skip ?_ | (refine W_condT ?hc ?_; (case hc => (simp (disch := omega) only [go_sem, ↓reduceIte, Nat.reduceEqDiff, Nat.reduceAdd, Nat.reduceLeDiff, q1, q2, q3, hlen, e1, e2, e5, l2, c1]; done))) | (refine W_condF ?hc ?_; (case hc => (simp (disch := omega) only [go_sem, ↓reduceIte, Nat.reduceEqDiff, Nat.reduceAdd, Nat.reduceLeDiff, q1, q2, q3, hlen, e1, e2, e5, l2, c1]; done))) | refine thenI ?_ | refine thenE ?_ | refine thenR ?_ | refine inBI ?_ | refine inBR ?_ | refine inBS ?_ | refine inBN (by decide) ?_)
    refine W_ret ?_; try (repeat (first | refine thenI ?_ | refine thenE ?_ | refine thenR ?_ | refine inBI ?_ | refine inBR ?_ | refine inBS ?_ | refine inBN (by decide) ?_))
    refine fin1 (.inl rfl) (by (simp (disch := omega) only [go_sem, ↓reduceIte, Nat.reduceEqDiff, Nat.reduceAdd, Nat.reduceLeDiff, q1, q2, q3, hlen, e1, e2, e5, l2, c1]); try rfl) rfl ⟨by rw [hcm, hv, List.take_length], rfl⟩
theorem l8Large_ok (bs : List Bnd) (st : St) (s : Value) (hbb : bs.length ≤ 1073741824) (hl : ∀ b ∈ bs, Lim 1073741824 b.tm) (hR : Rw st bs s) :
    CallS Try.prog 15 [s] st fun r st2 => r = .bool (bigB bs) ∧ st2 = st := by
  refine CallS_of_W [] 17 Try.func15 rfl rfl rfl rfl (by simp) ?_
  have q1 := hR.notLoc.1
  have hlen : lenE Try.prog 26 s = some (.int .i64 bs.length) := row_len hR Try.underlying26
  repeat (first | ((first | refine W_reg rfl fun G K hG hK => ?_ | refine W_end rfl fun G K hG hK => ?_); simp (disch := omega) only [go_sem, ↓reduceIte, Nat.reduceEqDiff, Nat.reduceAdd, Nat.reduceLeDiff, hG, q1, hlen]; refine hK _ _ ?_; clear hK K hG G) | refine W_seqS ?_ | refine W_seqC ?_ | refine W_seqB ?_ | refine W_block ?_ | refine W_skip ?_ | (refine W_condT ?hc ?_; (case hc => (simp (disch := omega) only [go_sem, ↓reduceIte, Nat.reduceEqDiff, Nat.reduceAdd, Nat.reduceLeDiff, q1, hlen]; done))) | (refine W_condF ?hc ?_; (case hc => (simp (disch := omega) only [go_sem, ↓reduceIte, Nat.reduceEqDiff, Nat.reduceAdd, Nat.reduceLeDiff, q1, hlen]; done))) | refine thenI ?_ | refine thenE ?_ | refine thenR ?_ | refine inBI ?_ | refine inBR ?_ | refine inBS ?_ | refine inBN (by decide) ?_)
  refine W_loop (fun d fr st' => ∃ (j : Nat) , d = bs.length - j ∧ j ≤ bs.length ∧ (st = st') ∧ ((∀ x ∈ bs.take j, ¬ 400 < x.tm.count)) ∧ (fr.env 0 = s) ∧ (fr.env 3 = .int .i64 j)) (bs.length) ?_ ?_
  · exact ⟨0, by omega, by omega, rfl, by simp, (by (simp (disch := omega) only [go_sem, ↓reduceIte, Nat.reduceEqDiff, Nat.reduceAdd, Nat.reduceLeDiff, q1, hlen]); try rfl), (by (simp (disch := omega) only [go_sem, ↓reduceIte, Nat.reduceEqDiff, Nat.reduceAdd, Nat.reduceLeDiff, q1, hlen]); try rfl)⟩
  rintro d ⟨env, loc⟩ st' ⟨j, hd, hj, hst, hnb, e0, e3⟩
  simp only at e0 e3
  subst hst
  by_cases hlt : j < bs.length
  · have c1 : decide ((j : Int) < (bs.length : Int)) = true := by simpa using hlt
    have hi := idxOk hlt
    have hx : bs[j]? = some bs[j] := List.getElem?_eq_getElem hlt
    have htk : bs.take (j + 1) = bs.take j ++ [bs[j]] := List.take_succ_eq_append_getElem hlt
    obtain ⟨i, o, c, k, m, mm, args, sx, rfl, htm, hrx, hcs⟩ := row_atB hR hx
    have hld := fun loc => load_row (A := []) (loc := loc) (o := o + j * 5 + 1) (cs := [.int .i64 k, .int .i64 m, .string mm, sx]) (st := st) (i := i) ag31 sz31 rfl (fun q v hv => by
      have := hcs (q + 1) v (by simpa using hv)
      rwa [show o + j * 5 + (q + 1) = o + j * 5 + 1 + q by omega] at this)
    have nx := hrx.notLoc.1
    have nx2 := hrx.notLoc.2
    have hE := Enc.close k m mm hrx
    rw [← htm] at hE
    repeat (first | ((first | refine W_reg rfl fun G K hG hK => ?_ | refine W_end rfl fun G K hG hK => ?_); simp (disch := omega) only [go_sem, ↓reduceIte, Nat.reduceEqDiff, Nat.reduceAdd, Nat.reduceLeDiff, hG, q1, hlen, e0, e3, c1, hi, idxA, Int.toNat_natCast]; refine hK _ _ ?_; clear hK K hG G) | refine W_seqS ?_ | refine W_seqC ?_ | refine W_seqB ?_ | refine W_block ?_ | refine W_skip ?_ | (refine W_condT ?hc ?_; (case hc => (simp (disch := omega) only [go_sem, ↓reduceIte, Nat.reduceEqDiff, Nat.reduceAdd, Nat.reduceLeDiff, q1, hlen, e0, e3, c1, hi, idxA, Int.toNat_natCast]; done))) | (refine W_condF ?hc ?_; (case hc => (simp (disch := omega) only [go_sem, ↓reduceIte, Nat.reduceEqDiff, Nat.reduceAdd, Nat.reduceLeDiff, q1, hlen, e0, e3, c1, hi, idxA, Int.toNat_natCast]; done))) | refine thenI ?_ | refine thenE ?_ | refine thenR ?_ | refine inBI ?_ | refine inBR ?_ | refine inBS ?_ | refine inBN (by decide) ?_)
    (repeat (first | refine W_seqS ?_ | refine W_seqC ?_ | refine W_seqB ?_ | refine W_block ?_)); refine W_reg rfl fun G K hG hK => ?_; simp (disch := omega) only [go_sem, ↓reduceIte, Nat.reduceEqDiff, Nat.reduceAdd, Nat.reduceLeDiff, hG, q1, hlen, e0, e3, c1, hi, idxA, Int.toNat_natCast, hld, nx, nx2]
    refine w_call (l8Left_ok bs[j].tm 400 st _ (by omega) (by omega) (hl _ (List.getElem_mem hlt)) hE) (by simp (disch := omega) only [go_sem, ↓reduceIte, Nat.reduceEqDiff, q1, hlen, e0, e3, c1, hi, idxA, Int.toNat_natCast, nx, nx2]) ?hl ?_
    case hl => first | rfl | (simp only [go_sem, List.all_cons, List.all_nil, Bool.not_false, Bool.and_self, q1, hlen, e0, e3, c1, hi, idxA, Int.toNat_natCast, nx, nx2]; done)
    rintro r_ st ⟨rfl, rfl⟩; refine ⟨fun e => (by cases e), ?_⟩
    by_cases h4 : 400 < bs[j].tm.count
    · have c4 : decide (leftW 400 bs[j].tm.count < 0) = true := by unfold leftW; rw [if_neg (by omega)]; rfl
      simp (disch := omega) only [go_sem, ↓reduceIte, Nat.reduceEqDiff, Nat.reduceAdd, Nat.reduceLeDiff, hG, q1, hlen, e0, e3, c1, hi, idxA, Int.toNat_natCast, c4]; refine hK _ _ ?_; clear hK K hG G; repeat (first | refine thenI ?_ | refine thenE ?_ | refine thenR ?_ | refine inBI ?_ | refine inBR ?_ | refine inBS ?_ | refine inBN (by decide) ?_)
      repeat (first | ((first | refine W_reg rfl fun G K hG hK => ?_ | refine W_end rfl fun G K hG hK => ?_); simp (disch := omega) only [go_sem, ↓reduceIte, Nat.reduceEqDiff, Nat.reduceAdd, Nat.reduceLeDiff, hG, q1, hlen, e0, e3, c1, hi, idxA, Int.toNat_natCast]; refine hK _ _ ?_; clear hK K hG G) | refine W_seqS ?_ | refine W_seqC ?_ | refine W_seqB ?_ | refine W_block ?_ | refine W_skip ?_ | (refine W_condT ?hc ?_; (case hc => (simp (disch := omega) only [go_sem, ↓reduceIte, Nat.reduceEqDiff, Nat.reduceAdd, Nat.reduceLeDiff, q1, hlen, e0, e3, c1, hi, idxA, Int.toNat_natCast]; done))) | (refine W_condF ?hc ?_; (case hc => (simp (disch := omega) only [go_sem, ↓reduceIte, Nat.reduceEqDiff, Nat.reduceAdd, Nat.reduceLeDiff, q1, hlen, e0, e3, c1, hi, idxA, Int.toNat_natCast]; done))) | refine thenI ?_ | refine thenE ?_ | refine thenR ?_ | refine inBI ?_ | refine inBR ?_ | refine inBS ?_ | refine inBN (by decide) ?_)
      refine W_ret ?_; try (repeat (first | refine thenI ?_ | refine thenE ?_ | refine thenR ?_ | refine inBI ?_ | refine inBR ?_ | refine inBS ?_ | refine inBN (by decide) ?_))
      refine fin1 (.inl rfl) (by (simp (disch := omega) only [go_sem, ↓reduceIte, Nat.reduceEqDiff, Nat.reduceAdd, Nat.reduceLeDiff, q1, hlen, e0, e3, c1, hi, idxA, Int.toNat_natCast]); try rfl) rfl ⟨?_, rfl⟩
      have hbig : bigB bs = true := List.any_eq_true.2 ⟨_, List.getElem_mem hlt, decide_eq_true h4⟩
      rw [hbig]
    · have c4 : decide (leftW 400 bs[j].tm.count < 0) = false := by unfold leftW; rw [if_pos (by omega)]; exact decide_eq_false (by omega)
      have hnb2 : ∀ x ∈ bs.take (j + 1), ¬ 400 < x.tm.count := fun x hx => by
        rw [htk] at hx
        rcases List.mem_append.1 hx with hx | hx
        · exact hnb x hx
        · cases List.mem_singleton.1 hx; exact h4
      simp (disch := omega) only [go_sem, ↓reduceIte, Nat.reduceEqDiff, Nat.reduceAdd, Nat.reduceLeDiff, hG, q1, hlen, e0, e3, c1, hi, idxA, Int.toNat_natCast, c4]; refine hK _ _ ?_; clear hK K hG G; repeat (first | refine thenI ?_ | refine thenE ?_ | refine thenR ?_ | refine inBI ?_ | refine inBR ?_ | refine inBS ?_ | refine inBN (by decide) ?_)
      repeat (first | ((first | refine W_reg rfl fun G K hG hK => ?_ | refine W_end rfl fun G K hG hK => ?_); simp (disch := omega) only [go_sem, ↓reduceIte, Nat.reduceEqDiff, Nat.reduceAdd, Nat.reduceLeDiff, hG, q1, hlen, e0, e3, c1, hi, idxA, Int.toNat_natCast]; refine hK _ _ ?_; clear hK K hG G) | refine W_seqS ?_ | refine W_seqC ?_ | refine W_seqB ?_ | refine W_block ?_ | refine W_skip ?_ | (refine W_condT ?hc ?_; (case hc => (simp (disch := omega) only [go_sem, ↓reduceIte, Nat.reduceEqDiff, Nat.reduceAdd, Nat.reduceLeDiff, q1, hlen, e0, e3, c1, hi, idxA, Int.toNat_natCast]; done))) | (refine W_condF ?hc ?_; (case hc => (simp (disch := omega) only [go_sem, ↓reduceIte, Nat.reduceEqDiff, Nat.reduceAdd, Nat.reduceLeDiff, q1, hlen, e0, e3, c1, hi, idxA, Int.toNat_natCast]; done))) | refine thenI ?_ | refine thenE ?_ | refine thenR ?_ | refine inBI ?_ | refine inBR ?_ | refine inBS ?_ | refine inBN (by decide) ?_)
      refine ⟨bs.length - (j + 1), by omega, j + 1, rfl, by omega, rfl, hnb2, (by (simp (disch := omega) only [go_sem, ↓reduceIte, Nat.reduceEqDiff, Nat.reduceAdd, Nat.reduceLeDiff, q1, hlen, e0, e3, c1, hi, idxA, Int.toNat_natCast]); try rfl), (by (simp (disch := omega) only [go_sem, ↓reduceIte, Nat.reduceEqDiff, Nat.reduceAdd, Nat.reduceLeDiff, q1, hlen, e0, e3, c1, hi, idxA, Int.toNat_natCast]); try rfl)⟩
  · have c1 : decide ((j : Int) < (bs.length : Int)) = false := by simpa using hlt
    have hjn : j = bs.length := by omega
    subst hjn
    rw [List.take_length] at hnb
    have hbig : bigB bs = false := List.any_eq_false.2 fun x hx => by simpa using hnb x hx
    repeat (first | ((first | refine W_reg rfl fun G K hG hK => ?_ | refine W_end rfl fun G K hG hK => ?_); simp (disch := omega) only [go_sem, ↓reduceIte, Nat.reduceEqDiff, Nat.reduceAdd, Nat.reduceLeDiff, hG, q1, hlen, e0, e3, c1]; refine hK _ _ ?_; clear hK K hG G) | refine W_seqS ?_ | refine W_seqC ?_ | refine W_seqB ?_ | refine W_block ?_ | refine W_skip ?_ | (refine W_condT ?hc ?_; (case hc => (simp (disch := omega) only [go_sem, ↓reduceIte, Nat.reduceEqDiff, Nat.reduceAdd, Nat.reduceLeDiff, q1, hlen, e0, e3, c1]; done))) | (refine W_condF ?hc ?_; (case hc => (simp (disch := omega) only [go_sem, ↓reduceIte, Nat.reduceEqDiff, Nat.reduceAdd, Nat.reduceLeDiff, q1, hlen, e0, e3, c1]; done))) | refine thenI ?_ | refine thenE ?_ | refine thenR ?_ | refine inBI ?_ | refine inBR ?_ | refine inBS ?_ | refine inBN (by decide) ?_)
    refine W_exit ?_; repeat (first | refine thenI ?_ | refine thenE ?_ | refine thenR ?_ | refine inBI ?_ | refine inBR ?_ | refine inBS ?_ | refine inBN (by decide) ?_)
    repeat (first | ((first | refine W_reg rfl fun G K hG hK => ?_ | refine W_end rfl fun G K hG hK => ?_); simp (disch := omega) only [go_sem, ↓reduceIte, Nat.reduceEqDiff, Nat.reduceAdd, Nat.reduceLeDiff, hG, q1, hlen, e0, e3, c1]; refine hK _ _ ?_; clear hK K hG G) | refine W_seqS ?_ | refine W_seqC ?_ | refine W_seqB ?_ | refine W_block ?_ | refine W_skip ?_ | (refine W_condT ?hc ?_; (case hc => (simp (disch := omega) only [go_sem, ↓reduceIte, Nat.reduceEqDiff, Nat.reduceAdd, Nat.reduceLeDiff, q1, hlen, e0, e3, c1]; done))) | (refine W_condF ?hc ?_; (case hc => (simp (disch := omega) only [go_sem, ↓reduceIte, Nat.reduceEqDiff, Nat.reduceAdd, Nat.reduceLeDiff, q1, hlen, e0, e3, c1]; done))) | refine thenI ?_ | refine thenE ?_ | refine thenR ?_ | refine inBI ?_ | refine inBR ?_ | refine inBS ?_ | refine inBN (by decide) ?_)
    refine W_ret ?_; try (repeat (first | refine thenI ?_ | refine thenE ?_ | refine thenR ?_ | refine inBI ?_ | refine inBR ?_ | refine inBS ?_ | refine inBN (by decide) ?_))
    refine fin1 (.inl rfl) (by (simp (disch := omega) only [go_sem, ↓reduceIte, Nat.reduceEqDiff, Nat.reduceAdd, Nat.reduceLeDiff, q1, hlen, e0, e3, c1]); try rfl) rfl ⟨by rw [hbig], rfl⟩
/-! A store without the open equations' block. -/
def bl (q : Nat) (st : St) : St := st.set q ⟨[], 0, 2⟩
theorem bl_get {q i : Nat} {st : St} (h : i ≠ q) : (bl q st)[i]? = st[i]? := List.getElem?_set_ne (Ne.symm h)
theorem bl_len {q : Nat} {st : St} : (bl q st).length = st.length := by simp [bl]
theorem bl_cell {q : Nat} {st : St} {i j : Nat} {v : Value} (h : cell (bl q st) i j = some v) : cell st i j = some v := by
  by_cases hq : i = q
  · subst hq
    unfold cell bl at h
    by_cases hl : i < st.length
    · rw [List.getElem?_set_self hl] at h
      simp at h
    · rw [List.getElem?_eq_none (by rw [List.length_set]; omega)] at h
      cases h
  · unfold cell at h ⊢
    rw [bl_get hq] at h
    exact h
theorem bl_away {q : Nat} {a b : St} (h : Away (some q) a b) : Ext (bl q a) (bl q b) := Ext.of_get fun i hi => by
  rw [bl_len] at hi
  by_cases hq : i = q
  · subst hq
    unfold bl
    rw [List.getElem?_set_self hi, List.getElem?_set_self (Nat.lt_of_lt_of_le hi h.1)]
  · rw [bl_get hq, bl_get hq, h.2 i hi (fun e => hq (Option.some.inj e).symm)]
theorem bl_set {q : Nat} {a : St} {x : Blk} : bl q (a.set q x) = bl q a := by unfold bl; rw [List.set_set]
/-- What can be read in one store can be read in another. -/
def CI (s s' : St) : Prop := ∀ (i j : Nat) v, cell s i j = some v → cell s' i j = some v
theorem Row.ci {α : Type} {E E' : α → List Value → Prop} {sz : Nat} {s s' : St} {xs : List α} {v : Value} (h : Row E sz s xs v) (hc : CI s s') (hE : ∀ x ∈ xs, ∀ cs, E x cs → E' x cs) : Row E' sz s' xs v := by
  rcases h with h | ⟨i, o, c, rfl, h⟩
  · exact .inl h
  · refine .inr ⟨i, o, c, rfl, fun j x hx => ?_⟩
    obtain ⟨cs, h1, h2, h3⟩ := h j x hx
    exact ⟨cs, h1, hE x (List.mem_of_getElem? hx) cs h2, fun q w hw => hc _ _ _ (h3 q w hw)⟩
theorem Enc.ci {s s' : St} (hc : CI s s') : ∀ (t : T) (cs : List Value), Enc s t cs → Enc s' t cs := by
  refine T.ind fun k n nm args ih cs h => ?_
  obtain ⟨z, rfl, hr⟩ := h.open
  exact Enc.close k n nm (hr.ci hc fun x hx cs he => ih x hx cs he)
theorem ci_bl {q : Nat} {st : St} : CI (bl q st) st := fun _ _ _ h => bl_cell h
theorem rwB_ci {s s' : St} (hc : CI s s') {bs : List Bnd} {v : Value} (h : Rw s bs v) : Rw s' bs v := Row.ci h hc fun x _ cs he => by
  obtain ⟨c, h1, h2⟩ := he
  exact ⟨c, h1, Enc.ci hc _ _ h2⟩
theorem own_bl {α : Type} [Kind α] {q n0 : Nat} {st : St} {x : α} {cs : List Value} {L : List Nat} (h : Kind.own st x cs L) (hf : Fresh n0 L) (hq : q < n0) : Kind.own (bl q st) x cs L :=
  Kind.own_frame st (bl q st) x cs L (fun i hi => bl_get (fun e => by have := hf.2 i hi; omega)) h
theorem sl_bl {α : Type} [Kind α] {q n0 : Nat} {st : St} {xs : List α} {v : Value} {L : List Nat} (h : Sl st xs v L) (hf : Fresh n0 L) (hq : q < n0) : Sl (bl q st) xs v L :=
  h.frame fun i hi => bl_get (fun e => by have := hf.2 i hi; omega)
theorem row_bl {α : Type} {E : α → List Value → Prop} {sz q : Nat} {st : St} {xs : List α} {v : Value} (h : Row E sz st xs v) (hq : topId v ≠ some q) : Row E sz (bl q st) xs v := by
  rcases h with h | ⟨i, o, c, rfl, h⟩
  · exact .inl h
  · refine .inr ⟨i, o, c, rfl, fun j x hx => ?_⟩
    obtain ⟨cs, h1, h2, h3⟩ := h j x hx
    refine ⟨cs, h1, h2, fun k w hw => ?_⟩
    have h4 := h3 k w hw
    unfold cell at h4 ⊢
    rw [bl_get (fun e => hq (by rw [← e]; rfl))]
    exact h4
/-- The open equations, and the substitution so far. -/
def ZSt (q : Nat) (st : St) (bs : List Bnd) (rest : List (T × T)) : Prop := ∃ vl vr vs, st[q]? = some ⟨[vl, vr, vs], 41, 0⟩ ∧ Row (Enc (bl q st)) 4 (bl q st) (rest.map Prod.fst) vl ∧ Row (Enc (bl q st)) 4 (bl q st) (rest.map Prod.snd) vr ∧ Rw (bl q st) bs vs
theorem z_cell0 {st : St} {q : Nat} {a b c : Value} {t : TypeId} (h : st[q]? = some ⟨[a, b, c], t, 0⟩) : cell st q 0 = some a := by simp [cell, h]
theorem z_cell1 {st : St} {q : Nat} {a b c : Value} {t : TypeId} (h : st[q]? = some ⟨[a, b, c], t, 0⟩) : cell st q 1 = some b := by simp [cell, h]
theorem z_cell2 {st : St} {q : Nat} {a b c : Value} {t : TypeId} (h : st[q]? = some ⟨[a, b, c], t, 0⟩) : cell st q 2 = some c := by simp [cell, h]
theorem z_set0 {st : St} {q : Nat} {a b c v : Value} {t : TypeId} (h : st[q]? = some ⟨[a, b, c], t, 0⟩) (hv : okv v = true) (hc : vc v = #[v]) (loc : Nat → Nat × List Value) : storeA Try.prog 29 (.pointer (some ⟨q, 0, none⟩)) v loc st = some (loc, st.set q ⟨[v, b, c], t, 0⟩) := by
  unfold storeA
  have hc' : v.cells = #[v] := hc
  simp [hv, sz29, h, hc', hc, AM.splice]
theorem z_set1 {st : St} {q : Nat} {a b c v : Value} {t : TypeId} (h : st[q]? = some ⟨[a, b, c], t, 0⟩) (hv : okv v = true) (hc : vc v = #[v]) (loc : Nat → Nat × List Value) : storeA Try.prog 29 (.pointer (some ⟨q, 1, none⟩)) v loc st = some (loc, st.set q ⟨[a, v, c], t, 0⟩) := by
  unfold storeA
  have hc' : v.cells = #[v] := hc
  simp [hv, sz29, h, hc', hc, AM.splice]
theorem z_set2 {st : St} {q : Nat} {a b c v : Value} {t : TypeId} (h : st[q]? = some ⟨[a, b, c], t, 0⟩) (hv : okv v = true) (hc : vc v = #[v]) (loc : Nat → Nat × List Value) : storeA Try.prog 26 (.pointer (some ⟨q, 2, none⟩)) v loc st = some (loc, st.set q ⟨[a, b, v], t, 0⟩) := by
  unfold storeA
  have hc' : v.cells = #[v] := hc
  simp [hv, sz26, h, hc', hc, AM.splice]

end

section
/- The reference's unification: spec.IndexOf, l8Bind. -/
open Go Go.Proofs
set_option linter.unusedVariables false
set_option linter.unusedSimpArgs false
set_option maxRecDepth 100000
-- AUTO

theorem mem_namesB {l : List ByteArray} {nm : ByteArray} : nm ∈ namesB l ↔ nm ∈ l := by
  have key : ∀ m : List ByteArray, nm.data.toList ∈ chs m ↔ nm ∈ m := fun m => by
    unfold chs
    rw [List.mem_map]
    constructor
    · rintro ⟨x, hx, he⟩
      have : x = nm := ByteArray.ext (Array.ext' he)
      exact this ▸ hx
    · intro h; exact ⟨nm, h, rfl⟩
  rw [← key, ← key, names_mem]
theorem specIndex_ok (xs : List ByteArray) (w : ByteArray) (st : St) (s : Value) (hbig : xs.length ≤ 1073741824) (hr : Rw st xs s) :
    CallS Try.prog 42 [s, .string w] st fun r st2 => (∃ k : Int, r = .int .i64 k ∧ ((w ∈ xs ∧ 0 ≤ k) ∨ (w ∉ xs ∧ k = -1))) ∧ st2 = st := by
  refine CallS_of_W [] 19 Try.func42 rfl rfl rfl rfl (by simp) ?_
  have q1 := hr.notLoc.1
  have hlen : lenE Try.prog 45 s = some (.int .i64 xs.length) := row_len hr Try.underlying45
  repeat (first | ((first | refine W_reg rfl fun G K hG hK => ?_ | refine W_end rfl fun G K hG hK => ?_); simp (disch := omega) only [go_sem, ↓reduceIte, Nat.reduceEqDiff, Nat.reduceAdd, Nat.reduceLeDiff, hG, q1, hlen]; refine hK _ _ ?_; clear hK K hG G) | refine W_seqS ?_ | refine W_seqC ?_ | refine W_seqB ?_ | refine W_block ?_ | refine W_skip ?_ | (refine W_condT ?hc ?_; (case hc => (simp (disch := omega) only [go_sem, ↓reduceIte, Nat.reduceEqDiff, Nat.reduceAdd, Nat.reduceLeDiff, q1, hlen]; done))) | (refine W_condF ?hc ?_; (case hc => (simp (disch := omega) only [go_sem, ↓reduceIte, Nat.reduceEqDiff, Nat.reduceAdd, Nat.reduceLeDiff, q1, hlen]; done))) | refine thenI ?_ | refine thenE ?_ | refine thenR ?_ | refine inBI ?_ | refine inBR ?_ | refine inBS ?_ | refine inBN (by decide) ?_)
  refine W_loop (fun d fr st' => ∃ (j : Nat) , d = xs.length - j ∧ j ≤ xs.length ∧ (st = st') ∧ ((∀ x ∈ xs.take j, x ≠ w)) ∧ (fr.env 0 = s) ∧ (fr.env 1 = .string w) ∧ (fr.env 5 = .int .i64 j)) (xs.length) ?_ ?_
  · exact ⟨0, by omega, by omega, rfl, by simp, (by (simp (disch := omega) only [go_sem, ↓reduceIte, Nat.reduceEqDiff, Nat.reduceAdd, Nat.reduceLeDiff, q1, hlen]); try rfl), (by (simp (disch := omega) only [go_sem, ↓reduceIte, Nat.reduceEqDiff, Nat.reduceAdd, Nat.reduceLeDiff, q1, hlen]); try rfl), (by (simp (disch := omega) only [go_sem, ↓reduceIte, Nat.reduceEqDiff, Nat.reduceAdd, Nat.reduceLeDiff, q1, hlen]); try rfl)⟩
  rintro d ⟨env, loc⟩ st' ⟨j, hd, hj, hst, hno, e0, e1, e5⟩
  simp only at e0 e1 e5
  subst hst
  by_cases hlt : j < xs.length
  · have c1 : decide ((j : Int) < (xs.length : Int)) = true := by simpa using hlt
    have hi := idxOk hlt
    have hx : xs[j]? = some xs[j] := List.getElem?_eq_getElem hlt
    have htk : xs.take (j + 1) = xs.take j ++ [xs[j]] := List.take_succ_eq_append_getElem hlt
    obtain ⟨i, o, c, rfl, hce⟩ := row_atS hr hx
    cases hq : (xs[j].toList == w.toList) with
    | true =>
      have hw : xs[j] = w := by
        have h : xs[j].toList = w.toList := by simpa using hq
        rw [Lib.toList_data, Lib.toList_data] at h
        exact ByteArray.ext (Array.ext' h)
      repeat (first | ((first | refine W_reg rfl fun G K hG hK => ?_ | refine W_end rfl fun G K hG hK => ?_); simp (disch := omega) only [go_sem, ↓reduceIte, Nat.reduceEqDiff, Nat.reduceAdd, Nat.reduceLeDiff, hG, q1, hlen, e0, e1, e5, c1, hi, idxA, Int.toNat_natCast, hce, hq]; refine hK _ _ ?_; clear hK K hG G) | refine W_seqS ?_ | refine W_seqC ?_ | refine W_seqB ?_ | refine W_block ?_ | refine W_skip ?_ | (refine W_condT ?hc ?_; (case hc => (simp (disch := omega) only [go_sem, ↓reduceIte, Nat.reduceEqDiff, Nat.reduceAdd, Nat.reduceLeDiff, q1, hlen, e0, e1, e5, c1, hi, idxA, Int.toNat_natCast, hce, hq]; done))) | (refine W_condF ?hc ?_; (case hc => (simp (disch := omega) only [go_sem, ↓reduceIte, Nat.reduceEqDiff, Nat.reduceAdd, Nat.reduceLeDiff, q1, hlen, e0, e1, e5, c1, hi, idxA, Int.toNat_natCast, hce, hq]; done))) | refine thenI ?_ | refine thenE ?_ | refine thenR ?_ | refine inBI ?_ | refine inBR ?_ | refine inBS ?_ | refine inBN (by decide) ?_)
      refine W_ret ?_; try (repeat (first | refine thenI ?_ | refine thenE ?_ | refine thenR ?_ | refine inBI ?_ | refine inBR ?_ | refine inBS ?_ | refine inBN (by decide) ?_))
      refine fin1 (.inl rfl) (by (simp (disch := omega) only [go_sem, ↓reduceIte, Nat.reduceEqDiff, Nat.reduceAdd, Nat.reduceLeDiff, q1, hlen, e0, e1, e5, c1, hi, idxA, Int.toNat_natCast]); try rfl) rfl ⟨⟨_, rfl, .inl ⟨hw ▸ List.getElem_mem hlt, by omega⟩⟩, rfl⟩
    | false =>
      have hw : xs[j] ≠ w := fun e => by rw [e] at hq; simp at hq
      have hno' : ∀ x ∈ xs.take (j + 1), x ≠ w := by
        rw [htk]
        intro x hx
        rcases List.mem_append.1 hx with h | h
        · exact hno x h
        · rw [List.mem_singleton.1 h]; exact hw
      repeat (first | ((first | refine W_reg rfl fun G K hG hK => ?_ | refine W_end rfl fun G K hG hK => ?_); simp (disch := omega) only [go_sem, ↓reduceIte, Nat.reduceEqDiff, Nat.reduceAdd, Nat.reduceLeDiff, hG, q1, hlen, e0, e1, e5, c1, hi, idxA, Int.toNat_natCast, hce, hq]; refine hK _ _ ?_; clear hK K hG G) | refine W_seqS ?_ | refine W_seqC ?_ | refine W_seqB ?_ | refine W_block ?_ | refine W_skip ?_ | (refine W_condT ?hc ?_; (case hc => (simp (disch := omega) only [go_sem, ↓reduceIte, Nat.reduceEqDiff, Nat.reduceAdd, Nat.reduceLeDiff, q1, hlen, e0, e1, e5, c1, hi, idxA, Int.toNat_natCast, hce, hq]; done))) | (refine W_condF ?hc ?_; (case hc => (simp (disch := omega) only [go_sem, ↓reduceIte, Nat.reduceEqDiff, Nat.reduceAdd, Nat.reduceLeDiff, q1, hlen, e0, e1, e5, c1, hi, idxA, Int.toNat_natCast, hce, hq]; done))) | refine thenI ?_ | refine thenE ?_ | refine thenR ?_ | refine inBI ?_ | refine inBR ?_ | refine inBS ?_ | refine inBN (by decide) ?_)
      refine ⟨xs.length - (j + 1), by omega, j + 1, rfl, by omega, rfl, hno', (by (simp (disch := omega) only [go_sem, ↓reduceIte, Nat.reduceEqDiff, Nat.reduceAdd, Nat.reduceLeDiff, q1, hlen, e0, e1, e5, c1, hi, idxA, Int.toNat_natCast]); try rfl), (by (simp (disch := omega) only [go_sem, ↓reduceIte, Nat.reduceEqDiff, Nat.reduceAdd, Nat.reduceLeDiff, q1, hlen, e0, e1, e5, c1, hi, idxA, Int.toNat_natCast]); try rfl), (by (simp (disch := omega) only [go_sem, ↓reduceIte, Nat.reduceEqDiff, Nat.reduceAdd, Nat.reduceLeDiff, q1, hlen, e0, e1, e5, c1, hi, idxA, Int.toNat_natCast]); try rfl)⟩
  · have c1 : decide ((j : Int) < (xs.length : Int)) = false := by simpa using hlt
    have hjn : j = xs.length := by omega
    subst hjn
    rw [List.take_length] at hno
    repeat (first | ((first | refine W_reg rfl fun G K hG hK => ?_ | refine W_end rfl fun G K hG hK => ?_); simp (disch := omega) only [go_sem, ↓reduceIte, Nat.reduceEqDiff, Nat.reduceAdd, Nat.reduceLeDiff, hG, q1, hlen, e0, e1, e5, c1]; refine hK _ _ ?_; clear hK K hG G) | refine W_seqS ?_ | refine W_seqC ?_ | refine W_seqB ?_ | refine W_block ?_ | refine W_skip ?_ | (refine W_condT ?hc ?_; (case hc => (simp (disch := omega) only [go_sem, ↓reduceIte, Nat.reduceEqDiff, Nat.reduceAdd, Nat.reduceLeDiff, q1, hlen, e0, e1, e5, c1]; done))) | (refine W_condF ?hc ?_; (case hc => (simp (disch := omega) only [go_sem, ↓reduceIte, Nat.reduceEqDiff, Nat.reduceAdd, Nat.reduceLeDiff, q1, hlen, e0, e1, e5, c1]; done))) | refine thenI ?_ | refine thenE ?_ | refine thenR ?_ | refine inBI ?_ | refine inBR ?_ | refine inBS ?_ | refine inBN (by decide) ?_)
    refine W_exit ?_; repeat (first | refine thenI ?_ | refine thenE ?_ | refine thenR ?_ | refine inBI ?_ | refine inBR ?_ | refine inBS ?_ | refine inBN (by decide) ?_)
    repeat (first | ((first | refine W_reg rfl fun G K hG hK => ?_ | refine W_end rfl fun G K hG hK => ?_); simp (disch := omega) only [go_sem, ↓reduceIte, Nat.reduceEqDiff, Nat.reduceAdd, Nat.reduceLeDiff, hG, q1, hlen, e0, e1, e5, c1]; refine hK _ _ ?_; clear hK K hG G) | refine W_seqS ?_ | refine W_seqC ?_ | refine W_seqB ?_ | refine W_block ?_ | refine W_skip ?_ | (refine W_condT ?hc ?_; (case hc => (simp (disch := omega) only [go_sem, ↓reduceIte, Nat.reduceEqDiff, Nat.reduceAdd, Nat.reduceLeDiff, q1, hlen, e0, e1, e5, c1]; done))) | (refine W_condF ?hc ?_; (case hc => (simp (disch := omega) only [go_sem, ↓reduceIte, Nat.reduceEqDiff, Nat.reduceAdd, Nat.reduceLeDiff, q1, hlen, e0, e1, e5, c1]; done))) | refine thenI ?_ | refine thenE ?_ | refine thenR ?_ | refine inBI ?_ | refine inBR ?_ | refine inBS ?_ | refine inBN (by decide) ?_)
    refine W_ret ?_; try (repeat (first | refine thenI ?_ | refine thenE ?_ | refine thenR ?_ | refine inBI ?_ | refine inBR ?_ | refine inBS ?_ | refine inBN (by decide) ?_))
    refine fin1 (.inl rfl) (by (simp (disch := omega) only [go_sem, ↓reduceIte, Nat.reduceEqDiff, Nat.reduceAdd, Nat.reduceLeDiff, q1, hlen, e0, e1, e5, c1]); try rfl) rfl ⟨⟨_, rfl, .inr ⟨fun h => hno w h rfl, rfl⟩⟩, rfl⟩
theorem l8Bind_ok (q : Nat) (nm : ByteArray) (y : T) (st : St) (cs : List Value) (bs : List Bnd) (rest : List (T × T)) (hz : ZSt q st bs rest) (hE0 : Enc (bl q st) y cs) (hly : Lim 1073741824 y) (hcy : y.count ≤ 1073741824) (hbb : bs.length ≤ 1073741824) (hlb : ∀ x ∈ bs, Lim 1073741824 x.tm) :
    CallS Try.prog 30 [.pointer (some ⟨q, 0, none⟩), .string nm, .agg cs.toArray] st fun r st2 => Away (some q) st st2 ∧ ((nm ∈ T.vars y ∧ r = .bool false) ∨ (nm ∉ T.vars y ∧ r = .bool true ∧ ZSt q st2 (comp bs [⟨nm, y⟩]) rest)) := by
  obtain ⟨vl, vr, vs, hq, hrl, hrr, hrs⟩ := hz
  have hE := Enc.ci (ci_bl (q := q)) _ _ hE0
  obtain ⟨k, n, m, as1, hye⟩ := T.eta y
  have hE' := hE
  rw [hye] at hE'
  obtain ⟨s1, rfl, hr1⟩ := hE'.open
  refine CallS_of_W [] 24 Try.func30 rfl rfl rfl rfl (by simp) ?_
  have p1 := hr1.notLoc.1
  have p2 := hr1.notLoc.2
  have p3 := hrs.notLoc.1
  have hql : q < st.length := (List.getElem?_eq_some_iff.1 hq).1
  repeat (first | ((first | refine W_reg rfl fun G K hG hK => ?_ | refine W_end rfl fun G K hG hK => ?_); simp (disch := omega) only [go_sem, ↓reduceIte, Nat.reduceEqDiff, Nat.reduceAdd, Nat.reduceLeDiff, hG, p1, p2, p3]; refine hK _ _ ?_; clear hK K hG G) | refine W_seqS ?_ | refine W_seqC ?_ | refine W_seqB ?_ | refine W_block ?_ | refine W_skip ?_ | (refine W_condT ?hc ?_; (case hc => (simp (disch := omega) only [go_sem, ↓reduceIte, Nat.reduceEqDiff, Nat.reduceAdd, Nat.reduceLeDiff, p1, p2, p3]; done))) | (refine W_condF ?hc ?_; (case hc => (simp (disch := omega) only [go_sem, ↓reduceIte, Nat.reduceEqDiff, Nat.reduceAdd, Nat.reduceLeDiff, p1, p2, p3]; done))) | refine thenI ?_ | refine thenE ?_ | refine thenR ?_ | refine inBI ?_ | refine inBR ?_ | refine inBS ?_ | refine inBN (by decide) ?_)
  (repeat (first | refine W_seqS ?_ | refine W_seqC ?_ | refine W_seqB ?_ | refine W_block ?_)); refine W_reg rfl fun G K hG hK => ?_; simp (disch := omega) only [go_sem, ↓reduceIte, Nat.reduceEqDiff, Nat.reduceAdd, Nat.reduceLeDiff, hG, p1, p2, p3]
  refine w_call (specVarsOfC_ok y st _ hly hcy hE) (by simp (disch := omega) only [go_sem, ↓reduceIte, Nat.reduceEqDiff, p1, p2, p3]) ?hl ?_
  case hl => first | rfl | (simp only [go_sem, List.all_cons, List.all_nil, Bool.not_false, Bool.and_self, p1, p2, p3]; done)
  rintro rv sa ⟨x1, L1, hs1, hf1⟩; refine ⟨fun e => (by cases e), ?_⟩
  have j1 := hs1.loc
  have hvl := T.vars_lenC y
  have hnl := names_length (T.vars y)
  simp (disch := omega) only [go_sem, ↓reduceIte, Nat.reduceEqDiff, Nat.reduceAdd, Nat.reduceLeDiff, p1, p2, p3, j1]
  refine w_call (specIndex_ok (namesB (T.vars y)) nm sa rv (by omega) hs1.row) (by simp (disch := omega) only [go_sem, ↓reduceIte, Nat.reduceEqDiff, p1, p2, p3, j1]) ?hl ?_
  case hl => first | rfl | (simp only [go_sem, List.all_cons, List.all_nil, Bool.not_false, Bool.and_self, p1, p2, p3, j1]; done)
  rintro r_ sa ⟨⟨kk, rfl, hk⟩, rfl⟩; refine ⟨fun e => (by cases e), ?_⟩
  rw [mem_namesB] at hk
  rcases hk with ⟨hin, hk0⟩ | ⟨hout, rfl⟩
  · have c1 : decide (kk ≥ 0) = true := decide_eq_true hk0
    simp (disch := omega) only [go_sem, ↓reduceIte, Nat.reduceEqDiff, Nat.reduceAdd, Nat.reduceLeDiff, hG, p1, p2, p3, c1]; refine hK _ _ ?_; clear hK K hG G; repeat (first | refine thenI ?_ | refine thenE ?_ | refine thenR ?_ | refine inBI ?_ | refine inBR ?_ | refine inBS ?_ | refine inBN (by decide) ?_)
    repeat (first | ((first | refine W_reg rfl fun G K hG hK => ?_ | refine W_end rfl fun G K hG hK => ?_); simp (disch := omega) only [go_sem, ↓reduceIte, Nat.reduceEqDiff, Nat.reduceAdd, Nat.reduceLeDiff, hG, p1, p2, p3]; refine hK _ _ ?_; clear hK K hG G) | refine W_seqS ?_ | refine W_seqC ?_ | refine W_seqB ?_ | refine W_block ?_ | refine W_skip ?_ | (refine W_condT ?hc ?_; (case hc => (simp (disch := omega) only [go_sem, ↓reduceIte, Nat.reduceEqDiff, Nat.reduceAdd, Nat.reduceLeDiff, p1, p2, p3]; done))) | (refine W_condF ?hc ?_; (case hc => (simp (disch := omega) only [go_sem, ↓reduceIte, Nat.reduceEqDiff, Nat.reduceAdd, Nat.reduceLeDiff, p1, p2, p3]; done))) | refine thenI ?_ | refine thenE ?_ | refine thenR ?_ | refine inBI ?_ | refine inBR ?_ | refine inBS ?_ | refine inBN (by decide) ?_)
    refine W_ret ?_; try (repeat (first | refine thenI ?_ | refine thenE ?_ | refine thenR ?_ | refine inBI ?_ | refine inBR ?_ | refine inBS ?_ | refine inBN (by decide) ?_))
    refine fin1 (.inl rfl) (by (simp (disch := omega) only [go_sem, ↓reduceIte, Nat.reduceEqDiff, Nat.reduceAdd, Nat.reduceLeDiff, p1, p2, p3]); try rfl) rfl ⟨Away.of_ext x1, .inl ⟨hin, rfl⟩⟩
  · have c1 : decide ((-1 : Int) ≥ 0) = false := by decide
    simp (disch := omega) only [go_sem, ↓reduceIte, Nat.reduceEqDiff, Nat.reduceAdd, Nat.reduceLeDiff, hG, p1, p2, p3, c1]; refine hK _ _ ?_; clear hK K hG G; repeat (first | refine thenI ?_ | refine thenE ?_ | refine thenR ?_ | refine inBI ?_ | refine inBR ?_ | refine inBS ?_ | refine inBN (by decide) ?_)
    repeat (first | ((first | refine W_reg rfl fun G K hG hK => ?_ | refine W_end rfl fun G K hG hK => ?_); simp (disch := omega) only [go_sem, ↓reduceIte, Nat.reduceEqDiff, Nat.reduceAdd, Nat.reduceLeDiff, hG, p1, p2, p3]; refine hK _ _ ?_; clear hK K hG G) | refine W_seqS ?_ | refine W_seqC ?_ | refine W_seqB ?_ | refine W_block ?_ | refine W_skip ?_ | (refine W_condT ?hc ?_; (case hc => (simp (disch := omega) only [go_sem, ↓reduceIte, Nat.reduceEqDiff, Nat.reduceAdd, Nat.reduceLeDiff, p1, p2, p3]; done))) | (refine W_condF ?hc ?_; (case hc => (simp (disch := omega) only [go_sem, ↓reduceIte, Nat.reduceEqDiff, Nat.reduceAdd, Nat.reduceLeDiff, p1, p2, p3]; done))) | refine thenI ?_ | refine thenE ?_ | refine thenR ?_ | refine inBI ?_ | refine inBR ?_ | refine inBS ?_ | refine inBN (by decide) ?_)
    have hq2 : sa[q]? = some ⟨[vl, vr, vs], 41, 0⟩ := x1 _ _ hq
    have r2 := z_cell2 hq2
    have hRs : Rw sa bs vs := (rwB_ci (ci_bl (q := q)) hrs).ext x1
    (repeat (first | refine W_seqS ?_ | refine W_seqC ?_ | refine W_seqB ?_ | refine W_block ?_)); refine W_regD mixed [] [(0,false),(1,false),(2,false),(3,false),(4,false),(5,false),(6,false),(7,false),(8,false),(9,false),(10,false),(11,false),(12,false)] rfl (by decide +kernel) fun G K hG hK => ?_; simp only [pickOps, List.filterMap_cons, List.filterMap_nil, List.getElem?_cons_zero, List.getElem?_cons_succ, Option.map_some]; simp (disch := omega) only [go_sem, ↓reduceIte, Nat.reduceEqDiff, Nat.reduceAdd, Nat.reduceLeDiff, hG, p1, p2, p3, nc_h, okPtr_h, cellAt_h, r2]
    refine w_call (specComp_ok bs [⟨nm, y⟩] _ vs _ hbb (by simp) hlb (fun x hx => by cases List.mem_singleton.1 hx; exact hly) (hRs.ext (Ext.app _ _)) (row_one sa ⟨nm, y⟩ [.string nm, .int .i64 k, .int .i64 n, .string m, s1] ⟨_, rfl, Enc.ext (x1.trans (Ext.app _ _)) _ _ hE⟩)) (by simp (disch := omega) only [go_sem, ↓reduceIte, Nat.reduceEqDiff, p1, p2, p3]) ?hl ?_
    case hl => first | rfl | (simp only [go_sem, List.all_cons, List.all_nil, Bool.not_false, Bool.and_self, p1, p2, p3]; done)
    rintro rw sd ⟨x4, L4, hs4, hf4⟩; refine ⟨fun e => (by cases e), ?_⟩
    have j2 := hs4.loc
    have j3 := hs4.okv
    have j4 := hs4.cells
    have x5 : Ext sa sd := (Ext.app _ _).trans x4
    have hq3 : sd[q]? = some ⟨[vl, vr, vs], 41, 0⟩ := x5 _ _ hq2
    have hset := z_set2 hq3 j3 j4
    simp (disch := omega) only [go_sem, ↓reduceIte, Nat.reduceEqDiff, Nat.reduceAdd, Nat.reduceLeDiff, hG, p1, p2, p3, j2, nc_h, okPtr_h, hset]; refine hK _ _ ?_; clear hK K hG G; repeat (first | refine thenI ?_ | refine thenE ?_ | refine thenR ?_ | refine inBI ?_ | refine inBR ?_ | refine inBS ?_ | refine inBN (by decide) ?_)
    repeat (first | ((first | refine W_reg rfl fun G K hG hK => ?_ | refine W_end rfl fun G K hG hK => ?_); simp (disch := omega) only [go_sem, ↓reduceIte, Nat.reduceEqDiff, Nat.reduceAdd, Nat.reduceLeDiff, hG, p1, p2, p3]; refine hK _ _ ?_; clear hK K hG G) | refine W_seqS ?_ | refine W_seqC ?_ | refine W_seqB ?_ | refine W_block ?_ | refine W_skip ?_ | (refine W_condT ?hc ?_; (case hc => (simp (disch := omega) only [go_sem, ↓reduceIte, Nat.reduceEqDiff, Nat.reduceAdd, Nat.reduceLeDiff, p1, p2, p3]; done))) | (refine W_condF ?hc ?_; (case hc => (simp (disch := omega) only [go_sem, ↓reduceIte, Nat.reduceEqDiff, Nat.reduceAdd, Nat.reduceLeDiff, p1, p2, p3]; done))) | refine thenI ?_ | refine thenE ?_ | refine thenR ?_ | refine inBI ?_ | refine inBR ?_ | refine inBS ?_ | refine inBN (by decide) ?_)
    have aw : Away (some q) st (sd.set q ⟨[vl, vr, rw], 41, 0⟩) := (Away.of_ext (k := some q) (x1.trans x5)).trans set_away (.inl rfl)
    have xb := bl_away aw
    have hfq : q < (sa ++ [(⟨[.string nm, .int .i64 k, .int .i64 n, .string m, s1], 54, 0⟩ : Blk)]).length := by rw [List.length_append]; have := x1.length; omega
    refine W_ret ?_; try (repeat (first | refine thenI ?_ | refine thenE ?_ | refine thenR ?_ | refine inBI ?_ | refine inBR ?_ | refine inBS ?_ | refine inBN (by decide) ?_))
    refine fin1 (.inl rfl) (by (simp (disch := omega) only [go_sem, ↓reduceIte, Nat.reduceEqDiff, Nat.reduceAdd, Nat.reduceLeDiff, p1, p2, p3]); try rfl) rfl ⟨aw, .inr ⟨hout, rfl, vl, vr, rw, set_at hq3, hrl.mono xb fun _ _ _ h => Enc.ext xb _ _ h, hrr.mono xb fun _ _ _ h => Enc.ext xb _ _ h, by rw [bl_set]; exact (sl_bl hs4 hf4 hfq).row⟩⟩

end

end Go.Proofs.Ytoeibmfdafilcaa.AM