/- My texts for the law, laid together (part 4): O8 E7 ZFnPositions. -/
import Derived.Test.YthimbmcffeiilaaG3
import Derived.Test.YthimbmcffeiilaaRows
import Derived.WalkKit
import Derived.ProofKit
import Derived.OpenShut
import Derived.ShutString
import Derived.ChangeOld
import Derived.Below
import Derived.SizedLaws
import Derived.Carry
/- Positions drawn; the law FnPositions. -/
namespace Go.Proofs.Ythimbmcffeiilaa.AM
open Go Go.Proofs
set_option linter.unusedVariables false
set_option linter.unusedSimpArgs false
set_option maxRecDepth 100000
attribute [local go_sem] List.map_cons List.map_nil List.all_cons List.all_nil Bool.and_self Option.map_some List.getElem?_toArray Option.bind_some gye_b gye_t gsk_b gsk_t gb1 gb2 gb3 gb4 bne_self_eq_false beq_self_eq_true w_guard w_nil stepV_some step_some step_some' w_move w_assign w_pick w_binOp w_unOp w_load w_fieldAddr w_indexAddr w_len w_max w_index ev_max max_int ev_index w_box w_alloc w_store w_field w_extract w_nilCheck w_convert w_buildSlice w_build ev_buildL fillL_nil fillL_cons bs0 bs1 ev_conv ev_bin ev_un ev_pick ev_load ev_fieldAddr ev_indexAddr ev_len ev_field ev_extract ev_nilCheck fr_tmp fr_int fr_bool fr_str fr_nil fr_func put_some put_none bin_lss bin_leq bin_gtr bin_geq bin_eql bin_neq bin_add bin_sub bin_mul bin_seql bin_sneq un_not pick_ ext_ loadA_p cellAt_l cellAt_h okPtr_l okPtr_h fadA_p allocA_l storeA_l cells_agg cells_int cells_str cells_sl cells_bool flat_i flat_s flat_b flat_sl flat_nil loc_agg loc_int loc_str loc_sl loc_bool loc_fn loc_ptr okv_agg okv_int okv_str okv_sl okv_bool cellsFrom splice upd_eval argEnv_zero argEnv_succ ne_eq Nat.add_one_ne_zero not_false_eq_true List.not_mem_nil and_self decide_true List.getElem?_cons_zero List.getElem?_cons_succ List.size_toArray List.length_cons List.length_nil List.take_succ_cons List.take_zero List.drop_succ_cons List.drop_zero List.cons_append List.nil_append List.drop_nil Bool.not_true Bool.not_false Bool.false_eq_true Nat.zero_add Nat.add_zero wrap_in List.toList_toArray List.mem_cons or_self or_false false_or
attribute [local go_sem] ag22 ag24 ag26 ag27 ag3 ag5 ag9 bu26 bu41 by26 by27 by3 el22 el24 el27 el47 el50 of26_0 of26_1 of26_2 of26_3 of41_0 of41_1 of41_2 ro26_0 ro26_1 ro26_2 ro27_0 ro27_1 ro3_0 ro3_1 ro3_3 ro9_2 ro9_3 ro9_4 sz22 sz24 sz26 sz27 sz3 sz5 sz9 ze26 ze27 ze3
-- AUTO

theorem finCTC {P : Program} {st : St} {F : Value → St → Prop} {env : Nat → Value} {loc : Nat → Nat × List Value} {a u b : Tmp} {t t' : TypeId} {x : Ex} (hx : x = .ret ∨ x = .normal) {v v' v'' : Value} (hv : loadA P [] t (env a) loc st = some v) (hv' : env u = v') (hl' : isLoc v' = false) (hv'' : loadA P [] t' (env b) loc st = some v'') (hq : F (.tuple #[v, v', v'']) st) : Fin P [.cell a t, .tmp u, .cell b t'] F x ⟨env, loc⟩ st := by
  have h : ∃ r, resA P [.cell a t, .tmp u, .cell b t'] ⟨env, loc⟩ st = some r ∧ F r st := ⟨.tuple #[v, v', v''], by simp [resA, resL, resV, hv, hv', hl', hv''], hq⟩
  rcases hx with rfl | rfl <;> exact h
theorem Sl.elem {st : St} {xs : List (List Int)} {s : Value} {L : List Nat} {n0 : Nat} (h : Sl st xs s L) (hf : Fresh n0 L) {j : Nat} {x : List Int} (hx : xs[j]? = some x) :
    ∃ i c sx Lx, s = .slice (some ⟨i, 0, none⟩) xs.length c ∧ cell st i (j * 1) = some sx ∧ Sl st x sx Lx ∧ Fresh n0 Lx := by
  rcases h with ⟨rfl, rfl, _⟩ | ⟨i, c, cs, K, rfl, h1, h2, rfl⟩
  · simp at hx
  · obtain ⟨c1, cx, c2, L1, Lx, L2, g1, ⟨sx, rfl, g2⟩, g3, rfl, rfl⟩ := h2.split j x hx
    have hl := g1.len (sz := 1) (fun y cy Ly hy => by obtain ⟨s, rfl, _⟩ := hy; rfl)
    have hj : j < xs.length := (List.getElem?_eq_some_iff.1 hx).1
    have hl2 : c1.length = j := by rw [hl, List.length_take]; omega
    refine ⟨i, c, sx, Lx, rfl, ?_, g2, ?_, fun q hq => hf.2 q (by simp [hq])⟩
    · rw [cell_of h1, Nat.mul_one]
      simp [← hl2]
    · have := (List.nodup_cons.1 hf.1).2
      exact (List.nodup_append.1 (List.nodup_append.1 this).1).2.1
theorem l4Draw_ok (q : Nat) (bs : List Byt) (t : T) (st : St) (cs : List Value) (hB : t.wt ≤ 200) (hE : Enc st t cs) (hq : Cur st q bs) :
    CallS Try.prog 12 [.pointer (some ⟨q, 0, none⟩), .agg cs.toArray] st fun r st2 => Drawn q bs st st2 ∧ ∃ (p : List Int) (L : List Nat), Sl st2 p r L ∧ Fresh st.length L ∧ p.length ≤ 201 := by
  obtain ⟨k, n, m, s, rfl, a1, a2, a3⟩ := hE.args_cells
  refine CallS_of_W [] 25 Try.func12 rfl rfl rfl rfl (by simp) ?_
  have hlq := hq.lt
  repeat (first | (refine W_reg rfl fun G K hG hK => ?_; simp (disch := omega) only [go_sem, ↓reduceIte, Nat.reduceEqDiff, Nat.reduceAdd, Nat.reduceLeDiff, hG, a1, a2, a3]; refine hK _ _ ?_; clear hK K hG G) | (refine W_end rfl fun G K hG hK => ?_; simp (disch := omega) only [go_sem, ↓reduceIte, Nat.reduceEqDiff, Nat.reduceAdd, Nat.reduceLeDiff, hG, a1, a2, a3]; refine hK _ _ ?_; clear hK K hG G; repeat (first | refine thenI ?_ | refine thenE ?_ | refine thenR ?_ | refine inBI ?_ | refine inBR ?_ | refine inBS ?_ | refine inBN (by decide) ?_)) | refine W_seqS ?_ | refine W_seqC ?_ | refine W_seqB ?_ | refine W_block ?_ | (refine W_skip ?_; repeat (first | refine thenI ?_ | refine thenE ?_ | refine thenR ?_ | refine inBI ?_ | refine inBR ?_ | refine inBS ?_ | refine inBN (by decide) ?_)) | (refine W_condT ?hc ?_; (case hc => (simp (disch := omega) only [go_sem, ↓reduceIte, Nat.reduceEqDiff, Nat.reduceAdd, Nat.reduceLeDiff, a1, a2, a3]; done))) | (refine W_condF ?hc ?_; (case hc => (simp (disch := omega) only [go_sem, ↓reduceIte, Nat.reduceEqDiff, Nat.reduceAdd, Nat.reduceLeDiff, a1, a2, a3]; done))))
  (repeat (first | refine W_seqS ?_ | refine W_seqC ?_ | refine W_seqB ?_ | refine W_block ?_)); refine W_reg rfl fun G K hG hK => ?_; simp (disch := omega) only [go_sem, ↓reduceIte, Nat.reduceEqDiff, Nat.reduceAdd, Nat.reduceLeDiff, hG, a1, a2, a3]
  refine w_call (specPosOf_ok t st _ (by omega) hE) (by simp (disch := omega) only [go_sem, ↓reduceIte, Nat.reduceEqDiff, a1, a2, a3]) ?hl ?_
  case hl => first | rfl | (simp only [go_sem, List.all_cons, List.all_nil, Bool.not_false, Bool.and_self, a1, a2, a3]; done)
  rintro rv sa ⟨x1, L, hs, hf⟩; refine ⟨fun e => (by cases e), ?_⟩
  have b1 := hs.loc
  simp (disch := omega) only [go_sem, ↓reduceIte, Nat.reduceEqDiff, Nat.reduceAdd, Nat.reduceLeDiff, hG, a1, a2, a3, b1]; refine hK _ _ ?_; clear hK K hG G; repeat (first | refine thenI ?_ | refine thenE ?_ | refine thenR ?_ | refine inBI ?_ | refine inBR ?_ | refine inBS ?_ | refine inBN (by decide) ?_)
  have hpl := T.pos_len t []
  have hp0 : 0 < (t.pos []).length := by cases t; simp [T.pos]
  have hlen : lenE Try.prog 50 rv = some (.int .i64 (t.pos []).length) := row_len hs.row Try.underlying50
  (repeat (first | refine W_seqS ?_ | refine W_seqC ?_ | refine W_seqB ?_ | refine W_block ?_)); refine W_reg rfl fun G K hG hK => ?_; simp (disch := omega) only [go_sem, ↓reduceIte, Nat.reduceEqDiff, Nat.reduceAdd, Nat.reduceLeDiff, hG, a1, a2, a3, b1, hlen]
  refine w_call (l1Below_ok q bs sa ((t.pos []).length : Int) (by omega) (by omega) (hq.ext x1)) (by simp (disch := omega) only [go_sem, ↓reduceIte, Nat.reduceEqDiff, a1, a2, a3, b1, hlen]) ?hl ?_
  case hl => first | rfl | (simp only [go_sem, List.all_cons, List.all_nil, Bool.not_false, Bool.and_self, a1, a2, a3, b1, hlen]; done)
  rintro r_ sb ⟨⟨x, rfl, hx0, hx1⟩, hd, hl⟩; refine ⟨fun e => (by cases e), ?_⟩
  obtain ⟨y, rfl⟩ : ∃ y : Nat, x = y := ⟨x.toNat, by omega⟩
  have hlt : y < (t.pos []).length := by omega
  have hs2 := hd.sl hs hf hlq
  obtain ⟨i, c, sx, Lx, rfl, hcx, hsx, hfx⟩ := hs2.elem hf (List.getElem?_eq_getElem hlt)
  have hi := idxOk hlt
  have hld := fun loc => load_cell (A := []) (loc := loc) ag27 hcx
  have b2 := hsx.loc
  have hpe := T.pos_each t [] (t.pos [])[y] (List.getElem_mem hlt)
  simp only [List.length_nil] at hpe
  generalize (t.pos [])[y] = p at hsx hpe
  simp (disch := omega) only [go_sem, ↓reduceIte, Nat.reduceEqDiff, Nat.reduceAdd, Nat.reduceLeDiff, hG, a1, a2, a3, hi, idxA, Int.toNat_natCast, hld, b2]; refine hK _ _ ?_; clear hK K hG G; repeat (first | refine thenI ?_ | refine thenE ?_ | refine thenR ?_ | refine inBI ?_ | refine inBR ?_ | refine inBS ?_ | refine inBN (by decide) ?_)
  (repeat (first | refine W_seqS ?_ | refine W_seqC ?_ | refine W_seqB ?_ | refine W_block ?_)); refine W_reg rfl fun G K hG hK => ?_; simp (disch := omega) only [go_sem, ↓reduceIte, Nat.reduceEqDiff, Nat.reduceAdd, Nat.reduceLeDiff, hG, a1, a2, a3, b2]
  refine w_call (l1Once_ok q bs sb 8 (by omega) (by omega) hd.cur) (by simp (disch := omega) only [go_sem, ↓reduceIte, Nat.reduceEqDiff, a1, a2, a3, b2]) ?hl ?_
  case hl => first | rfl | (simp only [go_sem, List.all_cons, List.all_nil, Bool.not_false, Bool.and_self, a1, a2, a3, b2]; done)
  rintro r_ sc ⟨⟨b, rfl⟩, hd2, hl2⟩; refine ⟨fun e => (by cases e), ?_⟩
  simp (disch := omega) only [go_sem, ↓reduceIte, Nat.reduceEqDiff, Nat.reduceAdd, Nat.reduceLeDiff, hG, a1, a2, a3, b2]; refine hK _ _ ?_; clear hK K hG G; repeat (first | refine thenI ?_ | refine thenE ?_ | refine thenR ?_ | refine inBI ?_ | refine inBR ?_ | refine inBS ?_ | refine inBN (by decide) ?_)
  have hd3 := Drawn.pre x1 (hd.trans hd2)
  have hsx2 := hd2.sl hsx hfx hlq
  cases b with
  | true =>
    repeat (first | (refine W_reg rfl fun G K hG hK => ?_; simp (disch := omega) only [go_sem, ↓reduceIte, Nat.reduceEqDiff, Nat.reduceAdd, Nat.reduceLeDiff, hG, a1, a2, a3, b2]; refine hK _ _ ?_; clear hK K hG G) | (refine W_end rfl fun G K hG hK => ?_; simp (disch := omega) only [go_sem, ↓reduceIte, Nat.reduceEqDiff, Nat.reduceAdd, Nat.reduceLeDiff, hG, a1, a2, a3, b2]; refine hK _ _ ?_; clear hK K hG G; repeat (first | refine thenI ?_ | refine thenE ?_ | refine thenR ?_ | refine inBI ?_ | refine inBR ?_ | refine inBS ?_ | refine inBN (by decide) ?_)) | refine W_seqS ?_ | refine W_seqC ?_ | refine W_seqB ?_ | refine W_block ?_ | (refine W_skip ?_; repeat (first | refine thenI ?_ | refine thenE ?_ | refine thenR ?_ | refine inBI ?_ | refine inBR ?_ | refine inBS ?_ | refine inBN (by decide) ?_)) | (refine W_condT ?hc ?_; (case hc => (simp (disch := omega) only [go_sem, ↓reduceIte, Nat.reduceEqDiff, Nat.reduceAdd, Nat.reduceLeDiff, a1, a2, a3, b2]; done))) | (refine W_condF ?hc ?_; (case hc => (simp (disch := omega) only [go_sem, ↓reduceIte, Nat.reduceEqDiff, Nat.reduceAdd, Nat.reduceLeDiff, a1, a2, a3, b2]; done))))
    refine W_end rfl fun G K hG hK => ?_; simp (disch := omega) only [go_sem, ↓reduceIte, Nat.reduceEqDiff, Nat.reduceAdd, Nat.reduceLeDiff, hG, a1, a2, a3, b2]
    refine w_call (l1Below_ok q bs sc 4 (by omega) (by omega) hd3.cur) (by simp (disch := omega) only [go_sem, ↓reduceIte, Nat.reduceEqDiff, a1, a2, a3, b2]) ?hl ?_
    case hl => first | rfl | (simp only [go_sem, List.all_cons, List.all_nil, Bool.not_false, Bool.and_self, a1, a2, a3, b2]; done)
    rintro r_ sd ⟨⟨z, rfl, hz0, hz1⟩, hd4, hl4⟩; refine ⟨fun e => (by cases e), ?_⟩
    have hs4 := hd4.sl hsx2 hfx hlq
    have hd5 := (hd3.trans hd4).ext2 (Ext.app sd [(⟨[.int .i64 (z - 1)], 3, 0⟩ : Blk)])
    have hb : (sd ++ [(⟨[.int .i64 (z - 1)], 3, 0⟩ : Blk)])[sd.length]? = some ⟨[.int .i64 (z - 1)], 3, 0⟩ := getB2
    obtain ⟨s5, se, L5, hap, hs5, hf5, hg5⟩ := Sl.appRow (ys := [z - 1]) (t := 27) (u := 27) Try.underlying27 Try.underlying27 sz3 rfl by3 ze3 rfl hs4 hfx (by have := (hd3.trans hd4).away.1; omega) (Ext.app sd [(⟨[.int .i64 (z - 1)], 3, 0⟩ : Blk)]) (rw_one (c := 1) hb) (by simp; omega) (by simp; omega)
    have b5 := hs5.loc
    simp (disch := omega) only [go_sem, ↓reduceIte, Nat.reduceEqDiff, Nat.reduceAdd, Nat.reduceLeDiff, hG, a1, a2, a3, b2, w_append, hap, b5]; refine hK _ _ ?_; clear hK K hG G; repeat (first | refine thenI ?_ | refine thenE ?_ | refine thenR ?_ | refine inBI ?_ | refine inBR ?_ | refine inBS ?_ | refine inBN (by decide) ?_)
    repeat (first | (refine W_reg rfl fun G K hG hK => ?_; simp (disch := omega) only [go_sem, ↓reduceIte, Nat.reduceEqDiff, Nat.reduceAdd, Nat.reduceLeDiff, hG, a1, a2, a3, b5]; refine hK _ _ ?_; clear hK K hG G) | (refine W_end rfl fun G K hG hK => ?_; simp (disch := omega) only [go_sem, ↓reduceIte, Nat.reduceEqDiff, Nat.reduceAdd, Nat.reduceLeDiff, hG, a1, a2, a3, b5]; refine hK _ _ ?_; clear hK K hG G; repeat (first | refine thenI ?_ | refine thenE ?_ | refine thenR ?_ | refine inBI ?_ | refine inBR ?_ | refine inBS ?_ | refine inBN (by decide) ?_)) | refine W_seqS ?_ | refine W_seqC ?_ | refine W_seqB ?_ | refine W_block ?_ | (refine W_skip ?_; repeat (first | refine thenI ?_ | refine thenE ?_ | refine thenR ?_ | refine inBI ?_ | refine inBR ?_ | refine inBS ?_ | refine inBN (by decide) ?_)) | (refine W_condT ?hc ?_; (case hc => (simp (disch := omega) only [go_sem, ↓reduceIte, Nat.reduceEqDiff, Nat.reduceAdd, Nat.reduceLeDiff, a1, a2, a3, b5]; done))) | (refine W_condF ?hc ?_; (case hc => (simp (disch := omega) only [go_sem, ↓reduceIte, Nat.reduceEqDiff, Nat.reduceAdd, Nat.reduceLeDiff, a1, a2, a3, b5]; done))))
    refine W_ret ?_; try (repeat (first | refine thenI ?_ | refine thenE ?_ | refine thenR ?_ | refine inBI ?_ | refine inBR ?_ | refine inBS ?_ | refine inBN (by decide) ?_))
    refine fin1 (.inl rfl) (by (simp (disch := omega) only [go_sem, ↓reduceIte, Nat.reduceEqDiff, Nat.reduceAdd, Nat.reduceLeDiff, a1, a2, a3]); try rfl) b5 ⟨hd5.grow hg5 (hs4.top hfx) hlq rfl, p ++ [z - 1], L5, hs5, hf5, by simp; omega⟩
  | false =>
    repeat (first | (refine W_reg rfl fun G K hG hK => ?_; simp (disch := omega) only [go_sem, ↓reduceIte, Nat.reduceEqDiff, Nat.reduceAdd, Nat.reduceLeDiff, hG, a1, a2, a3, b2]; refine hK _ _ ?_; clear hK K hG G) | (refine W_end rfl fun G K hG hK => ?_; simp (disch := omega) only [go_sem, ↓reduceIte, Nat.reduceEqDiff, Nat.reduceAdd, Nat.reduceLeDiff, hG, a1, a2, a3, b2]; refine hK _ _ ?_; clear hK K hG G; repeat (first | refine thenI ?_ | refine thenE ?_ | refine thenR ?_ | refine inBI ?_ | refine inBR ?_ | refine inBS ?_ | refine inBN (by decide) ?_)) | refine W_seqS ?_ | refine W_seqC ?_ | refine W_seqB ?_ | refine W_block ?_ | (refine W_skip ?_; repeat (first | refine thenI ?_ | refine thenE ?_ | refine thenR ?_ | refine inBI ?_ | refine inBR ?_ | refine inBS ?_ | refine inBN (by decide) ?_)) | (refine W_condT ?hc ?_; (case hc => (simp (disch := omega) only [go_sem, ↓reduceIte, Nat.reduceEqDiff, Nat.reduceAdd, Nat.reduceLeDiff, a1, a2, a3, b2]; done))) | (refine W_condF ?hc ?_; (case hc => (simp (disch := omega) only [go_sem, ↓reduceIte, Nat.reduceEqDiff, Nat.reduceAdd, Nat.reduceLeDiff, a1, a2, a3, b2]; done))))
    refine W_ret ?_; try (repeat (first | refine thenI ?_ | refine thenE ?_ | refine thenR ?_ | refine inBI ?_ | refine inBR ?_ | refine inBS ?_ | refine inBN (by decide) ?_))
    refine fin1 (.inl rfl) (by (simp (disch := omega) only [go_sem, ↓reduceIte, Nat.reduceEqDiff, Nat.reduceAdd, Nat.reduceLeDiff, a1, a2, a3]); try rfl) b2 ⟨hd3, p, Lx, hsx2, hfx, by omega⟩
theorem drawRep_ok (bs : List Byt) (st : St) (s : Value) (hbig : bs.length ≤ 4611686018427387904) (hr : RowY st bs s) :
    CallS Try.prog 5 [s] st fun r st2 => Ext st st2 ∧ ∃ t p u ds v es, r = .tuple #[.agg ds.toArray, v, .agg es.toArray] ∧ Enc st2 t ds ∧ Rw st2 (p : List Int) v ∧ Enc st2 u es ∧ BentP t ∧ BentP u ∧ p.length ≤ 201 ∧ isLoc v = false := by
  refine CallS_of_W [] 17 Try.func5 rfl rfl rfl rfl (by simp) ?_
  have q1 := hr.notLoc.1
  repeat (first | (refine W_reg rfl fun G K hG hK => ?_; simp (disch := omega) only [go_sem, ↓reduceIte, Nat.reduceEqDiff, Nat.reduceAdd, Nat.reduceLeDiff, hG, q1]; refine hK _ _ ?_; clear hK K hG G) | (refine W_end rfl fun G K hG hK => ?_; simp (disch := omega) only [go_sem, ↓reduceIte, Nat.reduceEqDiff, Nat.reduceAdd, Nat.reduceLeDiff, hG, q1]; refine hK _ _ ?_; clear hK K hG G; repeat (first | refine thenI ?_ | refine thenE ?_ | refine thenR ?_ | refine inBI ?_ | refine inBR ?_ | refine inBS ?_ | refine inBN (by decide) ?_)) | refine W_seqS ?_ | refine W_seqC ?_ | refine W_seqB ?_ | refine W_block ?_ | (refine W_skip ?_; repeat (first | refine thenI ?_ | refine thenE ?_ | refine thenR ?_ | refine inBI ?_ | refine inBR ?_ | refine inBS ?_ | refine inBN (by decide) ?_)) | (refine W_condT ?hc ?_; (case hc => (simp (disch := omega) only [go_sem, ↓reduceIte, Nat.reduceEqDiff, Nat.reduceAdd, Nat.reduceLeDiff, q1]; done))) | (refine W_condF ?hc ?_; (case hc => (simp (disch := omega) only [go_sem, ↓reduceIte, Nat.reduceEqDiff, Nat.reduceAdd, Nat.reduceLeDiff, q1]; done))))
  (repeat (first | refine W_seqS ?_ | refine W_seqC ?_ | refine W_seqB ?_ | refine W_block ?_)); refine W_reg rfl fun G K hG hK => ?_; simp (disch := omega) only [go_sem, ↓reduceIte, Nat.reduceEqDiff, Nat.reduceAdd, Nat.reduceLeDiff, hG, q1]
  refine w_call (l1New_ok bs st s hbig hr) (by simp (disch := omega) only [go_sem, ↓reduceIte, Nat.reduceEqDiff, q1]) ?hl ?_
  case hl => first | rfl | (simp only [go_sem, List.all_cons, List.all_nil, Bool.not_false, Bool.and_self, q1]; done)
  rintro r_ sa ⟨rfl, x1, hc⟩; refine ⟨fun e => (by cases e), ?_⟩
  simp (disch := omega) only [go_sem, ↓reduceIte, Nat.reduceEqDiff, Nat.reduceAdd, Nat.reduceLeDiff, hG, q1]; refine hK _ _ ?_; clear hK K hG G; repeat (first | refine thenI ?_ | refine thenE ?_ | refine thenR ?_ | refine inBI ?_ | refine inBR ?_ | refine inBS ?_ | refine inBN (by decide) ?_)
  (repeat (first | refine W_seqS ?_ | refine W_seqC ?_ | refine W_seqB ?_ | refine W_block ?_)); refine W_reg rfl fun G K hG hK => ?_; simp (disch := omega) only [go_sem, ↓reduceIte, Nat.reduceEqDiff, Nat.reduceAdd, Nat.reduceLeDiff, hG, q1]
  refine w_call (l3Bent_ok st.length bs sa hc) (by simp (disch := omega) only [go_sem, ↓reduceIte, Nat.reduceEqDiff, q1]) ?hl ?_
  case hl => first | rfl | (simp only [go_sem, List.all_cons, List.all_nil, Bool.not_false, Bool.and_self, q1]; done)
  rintro r_ sb ⟨hd, t, ds, L, rfl, ho, hf, hp⟩; refine ⟨fun e => (by cases e), ?_⟩
  obtain ⟨k, n, m, s1, rfl, a1, a2, a3⟩ := ho.args_cells
  simp (disch := omega) only [go_sem, ↓reduceIte, Nat.reduceEqDiff, Nat.reduceAdd, Nat.reduceLeDiff, hG, q1, a1, a2, a3]; refine hK _ _ ?_; clear hK K hG G; repeat (first | refine thenI ?_ | refine thenE ?_ | refine thenR ?_ | refine inBI ?_ | refine inBR ?_ | refine inBS ?_ | refine inBN (by decide) ?_)
  repeat (first | (refine W_reg rfl fun G K hG hK => ?_; simp (disch := omega) only [go_sem, ↓reduceIte, Nat.reduceEqDiff, Nat.reduceAdd, Nat.reduceLeDiff, hG, q1, a1, a2, a3]; refine hK _ _ ?_; clear hK K hG G) | (refine W_end rfl fun G K hG hK => ?_; simp (disch := omega) only [go_sem, ↓reduceIte, Nat.reduceEqDiff, Nat.reduceAdd, Nat.reduceLeDiff, hG, q1, a1, a2, a3]; refine hK _ _ ?_; clear hK K hG G; repeat (first | refine thenI ?_ | refine thenE ?_ | refine thenR ?_ | refine inBI ?_ | refine inBR ?_ | refine inBS ?_ | refine inBN (by decide) ?_)) | refine W_seqS ?_ | refine W_seqC ?_ | refine W_seqB ?_ | refine W_block ?_ | (refine W_skip ?_; repeat (first | refine thenI ?_ | refine thenE ?_ | refine thenR ?_ | refine inBI ?_ | refine inBR ?_ | refine inBS ?_ | refine inBN (by decide) ?_)) | (refine W_condT ?hc ?_; (case hc => (simp (disch := omega) only [go_sem, ↓reduceIte, Nat.reduceEqDiff, Nat.reduceAdd, Nat.reduceLeDiff, q1, a1, a2, a3]; done))) | (refine W_condF ?hc ?_; (case hc => (simp (disch := omega) only [go_sem, ↓reduceIte, Nat.reduceEqDiff, Nat.reduceAdd, Nat.reduceLeDiff, q1, a1, a2, a3]; done))))
  (repeat (first | refine W_seqS ?_ | refine W_seqC ?_ | refine W_seqB ?_ | refine W_block ?_)); refine W_regL mixed [6] [] [3, 5] [[(0, false), (1, false), (2, false), (4, false), (3, false), (5, false), (6, false), (7, false), (8, false)]] rfl (by decide +kernel) (by intro t ht; simp only [List.mem_cons, List.not_mem_nil, or_false] at ht; (rcases ht with rfl) <;> (first | (simp only [q1, a1, a2, a3]; done) | (simp only [q1, a1, a2, a3]; rfl))) fun G K hG hK => (fm_cons ?_ fm_nil)
  simp only [pickOps, List.filterMap_cons, List.filterMap_nil, List.getElem?_cons_zero, List.getElem?_cons_succ, Option.map_some]; simp (disch := omega) only [go_sem, ↓reduceIte, Nat.reduceEqDiff, Nat.reduceAdd, Nat.reduceLeDiff, hG, q1, a1, a2, a3]
  refine w_call (l4Draw_ok st.length bs t sb _ (by have := hp.2; omega) ho.enc hd.cur) (by simp (disch := omega) only [go_sem, ↓reduceIte, Nat.reduceEqDiff, q1, a1, a2, a3]) ?hl ?_
  case hl => first | rfl | (simp only [go_sem, List.all_cons, List.all_nil, Bool.not_false, Bool.and_self, q1, a1, a2, a3]; done)
  rintro rp sc ⟨hd2, p, Lp, hs, hfp, hpl⟩; refine ⟨fun e => (by cases e), ?_⟩
  have b1 := hs.loc
  simp (disch := omega) only [go_sem, ↓reduceIte, Nat.reduceEqDiff, Nat.reduceAdd, Nat.reduceLeDiff, q1, a1, a2, a3, b1]
  refine w_call (l3Bent_ok st.length bs sc hd2.cur) (by simp (disch := omega) only [go_sem, ↓reduceIte, Nat.reduceEqDiff, q1, a1, a2, a3, b1]) ?hl ?_
  case hl => first | rfl | (simp only [go_sem, List.all_cons, List.all_nil, Bool.not_false, Bool.and_self, q1, a1, a2, a3, b1]; done)
  rintro r_ sd ⟨hd3, u, es, Lu, rfl, hou, hfu, hpu⟩; refine ⟨fun e => (by cases e), ?_⟩
  obtain ⟨k', n', m', s2, rfl, c1, c2, c3⟩ := hou.args_cells
  simp (disch := omega) only [go_sem, ↓reduceIte, Nat.reduceEqDiff, Nat.reduceAdd, Nat.reduceLeDiff, hG, q1, a1, a2, a3, b1, c1, c2, c3]; refine hK _ _ ?_; clear hK K hG G; repeat (first | refine thenI ?_ | refine thenE ?_ | refine thenR ?_ | refine inBI ?_ | refine inBR ?_ | refine inBS ?_ | refine inBN (by decide) ?_)
  have ht := (hd2.trans hd3).own ho hf hc.lt
  have hl1 := hd.away.1
  refine W_ret ?_; try (repeat (first | refine thenI ?_ | refine thenE ?_ | refine thenR ?_ | refine inBI ?_ | refine inBR ?_ | refine inBS ?_ | refine inBN (by decide) ?_))
  refine finCTC (.inl rfl) (by (simp (disch := omega) only [go_sem, ↓reduceIte, Nat.reduceEqDiff, Nat.reduceAdd, Nat.reduceLeDiff, q1, a1, a2, a3, b1, c1, c2, c3]); try rfl) (by (simp (disch := omega) only [go_sem, ↓reduceIte, Nat.reduceEqDiff, Nat.reduceAdd, Nat.reduceLeDiff, q1, a1, a2, a3, b1]); try rfl) b1 (by (simp (disch := omega) only [go_sem, ↓reduceIte, Nat.reduceEqDiff, Nat.reduceAdd, Nat.reduceLeDiff, q1, a1, a2, a3, b1, c1, c2, c3]); try rfl) ⟨((hd.trans hd2).trans hd3).away.ext_of x1 (.inr ⟨_, Nat.le_refl _, rfl⟩), t, p, u, [_, _, _, _], rp, [_, _, _, _], rfl, ht.enc, (hd3.sl hs hfp hd.cur.lt).row, hou.enc, hp, hpu, hpl, b1⟩
theorem wFnPositions (st : St) (bs : List Byt) (s : Value) (hr : RowY st bs s) (hN : bs.length ≤ maxLen) : CallS Try.prog 3 [s] st fun r _ => r = .bool true := by
  refine CallS_of_W [] 91 Try.func3 rfl rfl rfl rfl (by simp) ?_
  have q1 := hr.notLoc.1
  have bne1 : ∀ (x y : Operand) (a b : Bool), binE Try.prog .neq 4 x y (.bool a) (.bool b) = some (.bool !(a == b)) := fun x y a b => bin_bneq Try.underlying4
  have beq1 : ∀ (x y : Operand) (a b : Bool), binE Try.prog .eql 4 x y (.bool a) (.bool b) = some (.bool (a == b)) := fun x y a b => bin_beql Try.underlying4
  repeat (first | (refine W_reg rfl fun G K hG hK => ?_; simp (disch := omega) only [go_sem, ↓reduceIte, Nat.reduceEqDiff, Nat.reduceAdd, Nat.reduceLeDiff, hG, q1, bne1, beq1]; refine hK _ _ ?_; clear hK K hG G) | (refine W_end rfl fun G K hG hK => ?_; simp (disch := omega) only [go_sem, ↓reduceIte, Nat.reduceEqDiff, Nat.reduceAdd, Nat.reduceLeDiff, hG, q1, bne1, beq1]; refine hK _ _ ?_; clear hK K hG G; repeat (first | refine thenI ?_ | refine thenE ?_ | refine thenR ?_ | refine inBI ?_ | refine inBR ?_ | refine inBS ?_ | refine inBN (by decide) ?_)) | refine W_seqS ?_ | refine W_seqC ?_ | refine W_seqB ?_ | refine W_block ?_ | (refine W_skip ?_; repeat (first | refine thenI ?_ | refine thenE ?_ | refine thenR ?_ | refine inBI ?_ | refine inBR ?_ | refine inBS ?_ | refine inBN (by decide) ?_)) | (refine W_condT ?hc ?_; (case hc => (simp (disch := omega) only [go_sem, ↓reduceIte, Nat.reduceEqDiff, Nat.reduceAdd, Nat.reduceLeDiff, q1, bne1, beq1]; done))) | (refine W_condF ?hc ?_; (case hc => (simp (disch := omega) only [go_sem, ↓reduceIte, Nat.reduceEqDiff, Nat.reduceAdd, Nat.reduceLeDiff, q1, bne1, beq1]; done))))
  (repeat (first | refine W_seqS ?_ | refine W_seqC ?_ | refine W_seqB ?_ | refine W_block ?_)); refine W_reg rfl fun G K hG hK => ?_; simp (disch := omega) only [go_sem, ↓reduceIte, Nat.reduceEqDiff, Nat.reduceAdd, Nat.reduceLeDiff, hG, q1, bne1, beq1]
  refine w_call (big_ok bs st s hr) (by simp (disch := omega) only [go_sem, ↓reduceIte, Nat.reduceEqDiff, q1, bne1, beq1]) ?hl ?_
  case hl => first | rfl | (simp only [go_sem, List.all_cons, List.all_nil, Bool.not_false, Bool.and_self, q1, bne1, beq1]; done)
  rintro r_ st ⟨rfl, rfl⟩; refine ⟨fun e => (by cases e), ?_⟩
  simp (disch := omega) only [go_sem, ↓reduceIte, Nat.reduceEqDiff, Nat.reduceAdd, Nat.reduceLeDiff, hG, q1, bne1, beq1]; refine hK _ _ ?_; clear hK K hG G; repeat (first | refine thenI ?_ | refine thenE ?_ | refine thenR ?_ | refine inBI ?_ | refine inBR ?_ | refine inBS ?_ | refine inBN (by decide) ?_)
  cases hb : decide ((bs.length : Int) > 1048576) with
  | true =>
    repeat (first | (refine W_reg rfl fun G K hG hK => ?_; simp (disch := omega) only [go_sem, ↓reduceIte, Nat.reduceEqDiff, Nat.reduceAdd, Nat.reduceLeDiff, hG, q1, bne1, beq1]; refine hK _ _ ?_; clear hK K hG G) | (refine W_end rfl fun G K hG hK => ?_; simp (disch := omega) only [go_sem, ↓reduceIte, Nat.reduceEqDiff, Nat.reduceAdd, Nat.reduceLeDiff, hG, q1, bne1, beq1]; refine hK _ _ ?_; clear hK K hG G; repeat (first | refine thenI ?_ | refine thenE ?_ | refine thenR ?_ | refine inBI ?_ | refine inBR ?_ | refine inBS ?_ | refine inBN (by decide) ?_)) | refine W_seqS ?_ | refine W_seqC ?_ | refine W_seqB ?_ | refine W_block ?_ | (refine W_skip ?_; repeat (first | refine thenI ?_ | refine thenE ?_ | refine thenR ?_ | refine inBI ?_ | refine inBR ?_ | refine inBS ?_ | refine inBN (by decide) ?_)) | (refine W_condT ?hc ?_; (case hc => (simp (disch := omega) only [go_sem, ↓reduceIte, Nat.reduceEqDiff, Nat.reduceAdd, Nat.reduceLeDiff, q1, bne1, beq1]; done))) | (refine W_condF ?hc ?_; (case hc => (simp (disch := omega) only [go_sem, ↓reduceIte, Nat.reduceEqDiff, Nat.reduceAdd, Nat.reduceLeDiff, q1, bne1, beq1]; done))))
    refine W_ret ?_; try (repeat (first | refine thenI ?_ | refine thenE ?_ | refine thenR ?_ | refine inBI ?_ | refine inBR ?_ | refine inBS ?_ | refine inBN (by decide) ?_))
    refine fin1 (.inl rfl) (by (simp (disch := omega) only [go_sem, ↓reduceIte, Nat.reduceEqDiff, Nat.reduceAdd, Nat.reduceLeDiff, q1, bne1, beq1]); try rfl) rfl rfl
  | false =>
  have hbig : bs.length ≤ 4611686018427387904 := by simp at hb; omega
  repeat (first | (refine W_reg rfl fun G K hG hK => ?_; simp (disch := omega) only [go_sem, ↓reduceIte, Nat.reduceEqDiff, Nat.reduceAdd, Nat.reduceLeDiff, hG, q1, bne1, beq1]; refine hK _ _ ?_; clear hK K hG G) | (refine W_end rfl fun G K hG hK => ?_; simp (disch := omega) only [go_sem, ↓reduceIte, Nat.reduceEqDiff, Nat.reduceAdd, Nat.reduceLeDiff, hG, q1, bne1, beq1]; refine hK _ _ ?_; clear hK K hG G; repeat (first | refine thenI ?_ | refine thenE ?_ | refine thenR ?_ | refine inBI ?_ | refine inBR ?_ | refine inBS ?_ | refine inBN (by decide) ?_)) | refine W_seqS ?_ | refine W_seqC ?_ | refine W_seqB ?_ | refine W_block ?_ | (refine W_skip ?_; repeat (first | refine thenI ?_ | refine thenE ?_ | refine thenR ?_ | refine inBI ?_ | refine inBR ?_ | refine inBS ?_ | refine inBN (by decide) ?_)) | (refine W_condT ?hc ?_; (case hc => (simp (disch := omega) only [go_sem, ↓reduceIte, Nat.reduceEqDiff, Nat.reduceAdd, Nat.reduceLeDiff, q1, bne1, beq1]; done))) | (refine W_condF ?hc ?_; (case hc => (simp (disch := omega) only [go_sem, ↓reduceIte, Nat.reduceEqDiff, Nat.reduceAdd, Nat.reduceLeDiff, q1, bne1, beq1]; done))))
  (repeat (first | refine W_seqS ?_ | refine W_seqC ?_ | refine W_seqB ?_ | refine W_block ?_)); refine W_reg rfl fun G K hG hK => ?_; simp (disch := omega) only [go_sem, ↓reduceIte, Nat.reduceEqDiff, Nat.reduceAdd, Nat.reduceLeDiff, hG, q1, bne1, beq1]
  refine w_call (drawRep_ok bs st s hbig hr) (by simp (disch := omega) only [go_sem, ↓reduceIte, Nat.reduceEqDiff, q1, bne1, beq1]) ?hl ?_
  case hl => first | rfl | (simp only [go_sem, List.all_cons, List.all_nil, Bool.not_false, Bool.and_self, q1, bne1, beq1]; done)
  rintro r_ sa ⟨x1, t, p, u, ds, v, es, rfl, hE, hP, hU, hp, hpu, hpl, v1⟩; refine ⟨fun e => (by cases e), ?_⟩
  have hl := bent_lim hp
  have hlu := bent_lim hpu
  obtain ⟨k, n, m, s1, rfl, a1, a2, a3⟩ := hE.args_cells
  obtain ⟨k2, n2, m2, s2, rfl, b1, b2, b3⟩ := hU.args_cells
  simp (disch := omega) only [go_sem, ↓reduceIte, Nat.reduceEqDiff, Nat.reduceAdd, Nat.reduceLeDiff, hG, q1, bne1, beq1, a1, a2, a3, b1, b2, b3, v1]; refine hK _ _ ?_; clear hK K hG G; repeat (first | refine thenI ?_ | refine thenE ?_ | refine thenR ?_ | refine inBI ?_ | refine inBR ?_ | refine inBS ?_ | refine inBN (by decide) ?_)
  (repeat (first | refine W_seqS ?_ | refine W_seqC ?_ | refine W_seqB ?_ | refine W_block ?_)); refine W_reg rfl fun G K hG hK => ?_; simp (disch := omega) only [go_sem, ↓reduceIte, Nat.reduceEqDiff, Nat.reduceAdd, Nat.reduceLeDiff, hG, q1, bne1, beq1, a1, a2, a3, b1, b2, b3, v1]
  refine w_call (implRep_ok u p t sa _ _ v (by omega) hlu hl hE hP hU) (by simp (disch := omega) only [go_sem, ↓reduceIte, Nat.reduceEqDiff, q1, bne1, beq1, a1, a2, a3, b1, b2, b3, v1]) ?hl ?_
  case hl => first | rfl | (simp only [go_sem, List.all_cons, List.all_nil, Bool.not_false, Bool.and_self, q1, bne1, beq1, a1, a2, a3, b1, b2, b3, v1]; done)
  rintro r_ sb ⟨x2, fs, L2, rfl, ho2, hf2⟩; refine ⟨fun e => (by cases e), ?_⟩
  obtain ⟨k3, n3, m3, s3, rfl, c1', c2, c3⟩ := ho2.args_cells
  simp (disch := omega) only [go_sem, ↓reduceIte, Nat.reduceEqDiff, Nat.reduceAdd, Nat.reduceLeDiff, hG, q1, bne1, beq1, a1, a2, a3, b1, b2, b3, v1, c1', c2, c3]; refine hK _ _ ?_; clear hK K hG G; repeat (first | refine thenI ?_ | refine thenE ?_ | refine thenR ?_ | refine inBI ?_ | refine inBR ?_ | refine inBS ?_ | refine inBN (by decide) ?_)
  have hE2 := Enc.ext x2 _ _ hE
  have hU2 := Enc.ext x2 _ _ hU
  have hP2 := hP.ext x2
  (repeat (first | refine W_seqS ?_ | refine W_seqC ?_ | refine W_seqB ?_ | refine W_block ?_)); refine W_reg rfl fun G K hG hK => ?_; simp (disch := omega) only [go_sem, ↓reduceIte, Nat.reduceEqDiff, Nat.reduceAdd, Nat.reduceLeDiff, hG, q1, bne1, beq1, a1, a2, a3, b1, b2, b3, v1, c1', c2, c3]
  refine w_call (specRep_ok u p t sb _ _ v (by omega) hlu hl hE2 hP2 hU2) (by simp (disch := omega) only [go_sem, ↓reduceIte, Nat.reduceEqDiff, q1, bne1, beq1, a1, a2, a3, b1, b2, b3, v1, c1', c2, c3]) ?hl ?_
  case hl => first | rfl | (simp only [go_sem, List.all_cons, List.all_nil, Bool.not_false, Bool.and_self, q1, bne1, beq1, a1, a2, a3, b1, b2, b3, v1, c1', c2, c3]; done)
  rintro r_ sc ⟨x3, gs, L3, rfl, ho3, hf3⟩; refine ⟨fun e => (by cases e), ?_⟩
  obtain ⟨k4, n4, m4, s4, rfl, d1, d2, d3⟩ := ho3.args_cells
  simp (disch := omega) only [go_sem, ↓reduceIte, Nat.reduceEqDiff, Nat.reduceAdd, Nat.reduceLeDiff, hG, q1, bne1, beq1, a1, a2, a3, b1, b2, b3, v1, c1', c2, c3, d1, d2, d3]; refine hK _ _ ?_; clear hK K hG G; repeat (first | refine thenI ?_ | refine thenE ?_ | refine thenR ?_ | refine inBI ?_ | refine inBR ?_ | refine inBS ?_ | refine inBN (by decide) ?_)
  have hE3 := Enc.ext x3 _ _ hE2
  have hU3 := Enc.ext x3 _ _ hU2
  have hP3 := hP2.ext x3
  have hR3 := Enc.ext x3 _ _ ho2.enc
  have hlr : Lim 1073741824 (T.rep u p t) := Lim.rep hlu hl
  have f1 : T.eqv (T.rep u p t) (T.rep u p t) = true := (T.eqv_iff _ _).2 rfl
  have f2 : (!((T.at p t).isSome == (T.at p t).isSome)) = false := by simp
  refine W_gen (fun fr => (fr.env 3 = .pointer (some ⟨3, 0, some 1⟩)) ∧ (fr.env 4 = v) ∧ (fr.env 5 = .pointer (some ⟨5, 0, some 1⟩)) ∧ (fr.env 6 = .pointer (some ⟨6, 0, some 1⟩)) ∧ (fr.env 7 = .bool (T.at p t).isSome) ∧ (fr.env 8 = .pointer (some ⟨8, 0, some 1⟩)) ∧ (fr.env 9 = .bool (T.at p t).isSome) ∧ (fr.loc 3 = (1, [.int .i64 k, .int .i64 n, .string m, s1])) ∧ (fr.loc 5 = (1, [.int .i64 k2, .int .i64 n2, .string m2, s2])) ∧ (fr.loc 6 = (1, [.int .i64 k3, .int .i64 n3, .string m3, s3])) ∧ (fr.loc 8 = (1, [.int .i64 k4, .int .i64 n4, .string m4, s4])) ∧ ((fr.loc 10).1 = 0) ∧ ((fr.loc 12).1 = 0) ∧ ((fr.loc 14).1 = 0) ∧ ((fr.loc 16).1 = 0)) ⟨(by (simp (disch := omega) only [go_sem, ↓reduceIte, Nat.reduceEqDiff, Nat.reduceAdd, Nat.reduceLeDiff, q1, bne1, beq1, a1, a2, a3, b1, b2, b3, v1, c1', c2, c3, d1, d2, d3]); try rfl), (by (simp (disch := omega) only [go_sem, ↓reduceIte, Nat.reduceEqDiff, Nat.reduceAdd, Nat.reduceLeDiff, q1, bne1, beq1, a1, a2, a3, b1, b2, b3, v1, c1', c2, c3, d1, d2, d3]); try rfl), (by (simp (disch := omega) only [go_sem, ↓reduceIte, Nat.reduceEqDiff, Nat.reduceAdd, Nat.reduceLeDiff, q1, bne1, beq1, a1, a2, a3, b1, b2, b3, v1, c1', c2, c3, d1, d2, d3]); try rfl), (by (simp (disch := omega) only [go_sem, ↓reduceIte, Nat.reduceEqDiff, Nat.reduceAdd, Nat.reduceLeDiff, q1, bne1, beq1, a1, a2, a3, b1, b2, b3, v1, c1', c2, c3, d1, d2, d3]); try rfl), (by (simp (disch := omega) only [go_sem, ↓reduceIte, Nat.reduceEqDiff, Nat.reduceAdd, Nat.reduceLeDiff, q1, bne1, beq1, a1, a2, a3, b1, b2, b3, v1, c1', c2, c3, d1, d2, d3]); try rfl), (by (simp (disch := omega) only [go_sem, ↓reduceIte, Nat.reduceEqDiff, Nat.reduceAdd, Nat.reduceLeDiff, q1, bne1, beq1, a1, a2, a3, b1, b2, b3, v1, c1', c2, c3, d1, d2, d3]); try rfl), (by (simp (disch := omega) only [go_sem, ↓reduceIte, Nat.reduceEqDiff, Nat.reduceAdd, Nat.reduceLeDiff, q1, bne1, beq1, a1, a2, a3, b1, b2, b3, v1, c1', c2, c3, d1, d2, d3]); try rfl), (by (simp (disch := omega) only [go_sem, ↓reduceIte, Nat.reduceEqDiff, Nat.reduceAdd, Nat.reduceLeDiff, q1, bne1, beq1, a1, a2, a3, b1, b2, b3, v1, c1', c2, c3, d1, d2, d3]); try rfl), (by (simp (disch := omega) only [go_sem, ↓reduceIte, Nat.reduceEqDiff, Nat.reduceAdd, Nat.reduceLeDiff, q1, bne1, beq1, a1, a2, a3, b1, b2, b3, v1, c1', c2, c3, d1, d2, d3]); try rfl), (by (simp (disch := omega) only [go_sem, ↓reduceIte, Nat.reduceEqDiff, Nat.reduceAdd, Nat.reduceLeDiff, q1, bne1, beq1, a1, a2, a3, b1, b2, b3, v1, c1', c2, c3, d1, d2, d3]); try rfl), (by (simp (disch := omega) only [go_sem, ↓reduceIte, Nat.reduceEqDiff, Nat.reduceAdd, Nat.reduceLeDiff, q1, bne1, beq1, a1, a2, a3, b1, b2, b3, v1, c1', c2, c3, d1, d2, d3]); try rfl), (by (simp (disch := omega) only [go_sem, ↓reduceIte, Nat.reduceEqDiff, Nat.reduceAdd, Nat.reduceLeDiff, q1, bne1, beq1, a1, a2, a3, b1, b2, b3, v1, c1', c2, c3, d1, d2, d3]); try rfl), (by (simp (disch := omega) only [go_sem, ↓reduceIte, Nat.reduceEqDiff, Nat.reduceAdd, Nat.reduceLeDiff, q1, bne1, beq1, a1, a2, a3, b1, b2, b3, v1, c1', c2, c3, d1, d2, d3]); try rfl), (by (simp (disch := omega) only [go_sem, ↓reduceIte, Nat.reduceEqDiff, Nat.reduceAdd, Nat.reduceLeDiff, q1, bne1, beq1, a1, a2, a3, b1, b2, b3, v1, c1', c2, c3, d1, d2, d3]); try rfl), (by (simp (disch := omega) only [go_sem, ↓reduceIte, Nat.reduceEqDiff, Nat.reduceAdd, Nat.reduceLeDiff, q1, bne1, beq1, a1, a2, a3, b1, b2, b3, v1, c1', c2, c3, d1, d2, d3]); try rfl)⟩ ?_
  rintro ⟨env, loc⟩ ⟨e3, e4, e5, e6, e7, e8, e9, l3, l5, l6, l8, l10, l12, l14, l16⟩
  simp only at e3 e4 e5 e6 e7 e8 e9 l3 l5 l6 l8 l10 l12 l14 l16
  (repeat (first | refine W_seqS ?_ | refine W_seqC ?_ | refine W_seqB ?_ | refine W_block ?_)); refine W_reg rfl fun G K hG hK => ?_; simp (disch := omega) only [go_sem, ↓reduceIte, Nat.reduceEqDiff, Nat.reduceAdd, Nat.reduceLeDiff, hG, q1, bne1, beq1, a1, a2, a3, b1, b2, b3, v1, c1', c2, c3, d1, d2, d3, e3, e4, e5, e6, e7, e8, e9, l3, l5, l6, l8, l10, l12, l14, l16, f2]
  refine w_call (specEq_ok (T.rep u p t) (T.rep u p t) sc _ _ hlr hlr hR3 ho3.enc) (by simp (disch := omega) only [go_sem, ↓reduceIte, Nat.reduceEqDiff, q1, bne1, beq1, a1, a2, a3, b1, b2, b3, v1, c1', c2, c3, d1, d2, d3, e3, e4, e5, e6, e7, e8, e9, l3, l5, l6, l8, l10, l12, l14, l16, f2]) ?hl ?_
  case hl => first | rfl | (simp only [go_sem, List.all_cons, List.all_nil, Bool.not_false, Bool.and_self, q1, bne1, beq1, a1, a2, a3, b1, b2, b3, v1, c1', c2, c3, d1, d2, d3, e3, e4, e5, e6, e7, e8, e9, l3, l5, l6, l8, l10, l12, l14, l16, f2]; done)
  rintro r_ sc ⟨rfl, rfl⟩; refine ⟨fun e => (by cases e), ?_⟩
  simp (disch := omega) only [go_sem, ↓reduceIte, Nat.reduceEqDiff, Nat.reduceAdd, Nat.reduceLeDiff, hG, q1, bne1, beq1, a1, a2, a3, b1, b2, b3, v1, c1', c2, c3, d1, d2, d3, e3, e4, e5, e6, e7, e8, e9, l3, l5, l6, l8, l10, l12, l14, l16, f1, f2]; refine hK _ _ ?_; clear hK K hG G; repeat (first | refine thenI ?_ | refine thenE ?_ | refine thenR ?_ | refine inBI ?_ | refine inBR ?_ | refine inBS ?_ | refine inBN (by decide) ?_)
  cases hv : (T.at p t).isSome with
  | false =>
    repeat (first | (refine W_reg rfl fun G K hG hK => ?_; simp (disch := omega) only [go_sem, ↓reduceIte, Nat.reduceEqDiff, Nat.reduceAdd, Nat.reduceLeDiff, hG, q1, bne1, beq1, a1, a2, a3, b1, b2, b3, v1, c1', c2, c3, d1, d2, d3, e3, e4, e5, e6, e7, e8, e9, l3, l5, l6, l8, l10, l12, l14, l16, hv]; refine hK _ _ ?_; clear hK K hG G) | (refine W_end rfl fun G K hG hK => ?_; simp (disch := omega) only [go_sem, ↓reduceIte, Nat.reduceEqDiff, Nat.reduceAdd, Nat.reduceLeDiff, hG, q1, bne1, beq1, a1, a2, a3, b1, b2, b3, v1, c1', c2, c3, d1, d2, d3, e3, e4, e5, e6, e7, e8, e9, l3, l5, l6, l8, l10, l12, l14, l16, hv]; refine hK _ _ ?_; clear hK K hG G; repeat (first | refine thenI ?_ | refine thenE ?_ | refine thenR ?_ | refine inBI ?_ | refine inBR ?_ | refine inBS ?_ | refine inBN (by decide) ?_)) | refine W_seqS ?_ | refine W_seqC ?_ | refine W_seqB ?_ | refine W_block ?_ | (refine W_skip ?_; repeat (first | refine thenI ?_ | refine thenE ?_ | refine thenR ?_ | refine inBI ?_ | refine inBR ?_ | refine inBS ?_ | refine inBN (by decide) ?_)) | (refine W_condT ?hc ?_; (case hc => (simp (disch := omega) only [go_sem, ↓reduceIte, Nat.reduceEqDiff, Nat.reduceAdd, Nat.reduceLeDiff, q1, bne1, beq1, a1, a2, a3, b1, b2, b3, v1, c1', c2, c3, d1, d2, d3, e3, e4, e5, e6, e7, e8, e9, l3, l5, l6, l8, l10, l12, l14, l16, hv]; done))) | (refine W_condF ?hc ?_; (case hc => (simp (disch := omega) only [go_sem, ↓reduceIte, Nat.reduceEqDiff, Nat.reduceAdd, Nat.reduceLeDiff, q1, bne1, beq1, a1, a2, a3, b1, b2, b3, v1, c1', c2, c3, d1, d2, d3, e3, e4, e5, e6, e7, e8, e9, l3, l5, l6, l8, l10, l12, l14, l16, hv]; done))))
    (repeat (first | refine W_seqS ?_ | refine W_seqC ?_ | refine W_seqB ?_ | refine W_block ?_)); refine W_reg rfl fun G K hG hK => ?_; simp (disch := omega) only [go_sem, ↓reduceIte, Nat.reduceEqDiff, Nat.reduceAdd, Nat.reduceLeDiff, hG, q1, bne1, beq1, a1, a2, a3, b1, b2, b3, v1, c1', c2, c3, d1, d2, d3, e3, e4, e5, e6, e7, e8, e9, l3, l5, l6, l8, l10, l12, l14, l16]
    refine w_call (implTermAt_ok p t sc _ v (by omega) hl hE3 hP3) (by simp (disch := omega) only [go_sem, ↓reduceIte, Nat.reduceEqDiff, q1, bne1, beq1, a1, a2, a3, b1, b2, b3, v1, c1', c2, c3, d1, d2, d3, e3, e4, e5, e6, e7, e8, e9, l3, l5, l6, l8, l10, l12, l14, l16]) ?hl ?_
    case hl => first | rfl | (simp only [go_sem, List.all_cons, List.all_nil, Bool.not_false, Bool.and_self, q1, bne1, beq1, a1, a2, a3, b1, b2, b3, v1, c1', c2, c3, d1, d2, d3, e3, e4, e5, e6, e7, e8, e9, l3, l5, l6, l8, l10, l12, l14, l16]; done)
    rintro r_ sd ⟨x4, hs, L4, rfl, ho4, hf4⟩; refine ⟨fun e => (by cases e), ?_⟩
    obtain ⟨k5, n5, m5, s5, rfl, g1, g2, g3⟩ := ho4.args_cells
    simp (disch := omega) only [go_sem, ↓reduceIte, Nat.reduceEqDiff, Nat.reduceAdd, Nat.reduceLeDiff, hG, q1, bne1, beq1, a1, a2, a3, b1, b2, b3, v1, c1', c2, c3, d1, d2, d3, e3, e4, e5, e6, e7, e8, e9, l3, l5, l6, l8, l10, l12, l14, l16, g1, g2, g3]; refine hK _ _ ?_; clear hK K hG G; repeat (first | refine thenI ?_ | refine thenE ?_ | refine thenR ?_ | refine inBI ?_ | refine inBR ?_ | refine inBS ?_ | refine inBN (by decide) ?_)
    have hrep := T.rep_out (u := u) hv
    have f3 : T.eqv (T.rep u p t) t = true := (T.eqv_iff _ _).2 hrep
    repeat (first | (refine W_reg rfl fun G K hG hK => ?_; simp (disch := omega) only [go_sem, ↓reduceIte, Nat.reduceEqDiff, Nat.reduceAdd, Nat.reduceLeDiff, hG, q1, bne1, beq1, a1, a2, a3, b1, b2, b3, v1, c1', c2, c3, d1, d2, d3, e3, e4, e5, e6, e7, e8, e9, l3, l5, l6, l8, l10, l12, l14, l16]; refine hK _ _ ?_; clear hK K hG G) | (refine W_end rfl fun G K hG hK => ?_; simp (disch := omega) only [go_sem, ↓reduceIte, Nat.reduceEqDiff, Nat.reduceAdd, Nat.reduceLeDiff, hG, q1, bne1, beq1, a1, a2, a3, b1, b2, b3, v1, c1', c2, c3, d1, d2, d3, e3, e4, e5, e6, e7, e8, e9, l3, l5, l6, l8, l10, l12, l14, l16]; refine hK _ _ ?_; clear hK K hG G; repeat (first | refine thenI ?_ | refine thenE ?_ | refine thenR ?_ | refine inBI ?_ | refine inBR ?_ | refine inBS ?_ | refine inBN (by decide) ?_)) | refine W_seqS ?_ | refine W_seqC ?_ | refine W_seqB ?_ | refine W_block ?_ | (refine W_skip ?_; repeat (first | refine thenI ?_ | refine thenE ?_ | refine thenR ?_ | refine inBI ?_ | refine inBR ?_ | refine inBS ?_ | refine inBN (by decide) ?_)) | (refine W_condT ?hc ?_; (case hc => (simp (disch := omega) only [go_sem, ↓reduceIte, Nat.reduceEqDiff, Nat.reduceAdd, Nat.reduceLeDiff, q1, bne1, beq1, a1, a2, a3, b1, b2, b3, v1, c1', c2, c3, d1, d2, d3, e3, e4, e5, e6, e7, e8, e9, l3, l5, l6, l8, l10, l12, l14, l16]; done))) | (refine W_condF ?hc ?_; (case hc => (simp (disch := omega) only [go_sem, ↓reduceIte, Nat.reduceEqDiff, Nat.reduceAdd, Nat.reduceLeDiff, q1, bne1, beq1, a1, a2, a3, b1, b2, b3, v1, c1', c2, c3, d1, d2, d3, e3, e4, e5, e6, e7, e8, e9, l3, l5, l6, l8, l10, l12, l14, l16]; done))))
    refine W_gen (fun fr => (fr.env 3 = .pointer (some ⟨3, 0, some 1⟩)) ∧ (fr.env 6 = .pointer (some ⟨6, 0, some 1⟩)) ∧ (fr.env 11 = .bool (T.at p t).isSome) ∧ (fr.loc 3 = (1, [.int .i64 k, .int .i64 n, .string m, s1])) ∧ (fr.loc 6 = (1, [.int .i64 k3, .int .i64 n3, .string m3, s3]))) ⟨(by (simp (disch := omega) only [go_sem, ↓reduceIte, Nat.reduceEqDiff, Nat.reduceAdd, Nat.reduceLeDiff, q1, bne1, beq1, a1, a2, a3, b1, b2, b3, v1, c1', c2, c3, d1, d2, d3, e3, e4, e5, e6, e7, e8, e9, l3, l5, l6, l8, l10, l12, l14, l16]); try rfl), (by (simp (disch := omega) only [go_sem, ↓reduceIte, Nat.reduceEqDiff, Nat.reduceAdd, Nat.reduceLeDiff, q1, bne1, beq1, a1, a2, a3, b1, b2, b3, v1, c1', c2, c3, d1, d2, d3, e3, e4, e5, e6, e7, e8, e9, l3, l5, l6, l8, l10, l12, l14, l16]); try rfl), (by (simp (disch := omega) only [go_sem, ↓reduceIte, Nat.reduceEqDiff, Nat.reduceAdd, Nat.reduceLeDiff, q1, bne1, beq1, a1, a2, a3, b1, b2, b3, v1, c1', c2, c3, d1, d2, d3, e3, e4, e5, e6, e7, e8, e9, l3, l5, l6, l8, l10, l12, l14, l16]); try rfl), (by (simp (disch := omega) only [go_sem, ↓reduceIte, Nat.reduceEqDiff, Nat.reduceAdd, Nat.reduceLeDiff, q1, bne1, beq1, a1, a2, a3, b1, b2, b3, v1, c1', c2, c3, d1, d2, d3, e3, e4, e5, e6, e7, e8, e9, l3, l5, l6, l8, l10, l12, l14, l16]); try rfl), (by (simp (disch := omega) only [go_sem, ↓reduceIte, Nat.reduceEqDiff, Nat.reduceAdd, Nat.reduceLeDiff, q1, bne1, beq1, a1, a2, a3, b1, b2, b3, v1, c1', c2, c3, d1, d2, d3, e3, e4, e5, e6, e7, e8, e9, l3, l5, l6, l8, l10, l12, l14, l16]); try rfl)⟩ ?_
    clear e3 e4 e5 e6 e7 e8 e9 l3 l5 l6 l8 l10 l12 l14 l16
    rintro ⟨env, loc⟩ ⟨e3, e6, e11, l3, l6⟩
    simp only at e3 e6 e11 l3 l6
    (repeat (first | refine W_seqS ?_ | refine W_seqC ?_ | refine W_seqB ?_ | refine W_block ?_)); refine W_reg rfl fun G K hG hK => ?_; simp (disch := omega) only [go_sem, ↓reduceIte, Nat.reduceEqDiff, Nat.reduceAdd, Nat.reduceLeDiff, hG, q1, bne1, beq1, a1, a2, a3, b1, b2, b3, v1, c1', c2, c3, d1, d2, d3, e3, e6, e11, l3, l6, hv]
    refine w_call (specEq_ok (T.rep u p t) t sd _ _ hlr hl (Enc.ext x4 _ _ hR3) (Enc.ext x4 _ _ hE3)) (by simp (disch := omega) only [go_sem, ↓reduceIte, Nat.reduceEqDiff, q1, bne1, beq1, a1, a2, a3, b1, b2, b3, v1, c1', c2, c3, d1, d2, d3, e3, e6, e11, l3, l6]) ?hl ?_
    case hl => first | rfl | (simp only [go_sem, List.all_cons, List.all_nil, Bool.not_false, Bool.and_self, q1, bne1, beq1, a1, a2, a3, b1, b2, b3, v1, c1', c2, c3, d1, d2, d3, e3, e6, e11, l3, l6]; done)
    rintro r_ sd ⟨rfl, rfl⟩; refine ⟨fun e => (by cases e), ?_⟩
    simp (disch := omega) only [go_sem, ↓reduceIte, Nat.reduceEqDiff, Nat.reduceAdd, Nat.reduceLeDiff, hG, q1, bne1, beq1, a1, a2, a3, b1, b2, b3, v1, c1', c2, c3, d1, d2, d3, e3, e6, e11, l3, l6, hv, f3]; refine hK _ _ ?_; clear hK K hG G; repeat (first | refine thenI ?_ | refine thenE ?_ | refine thenR ?_ | refine inBI ?_ | refine inBR ?_ | refine inBS ?_ | refine inBN (by decide) ?_)
    refine W_ret ?_; try (repeat (first | refine thenI ?_ | refine thenE ?_ | refine thenR ?_ | refine inBI ?_ | refine inBR ?_ | refine inBS ?_ | refine inBN (by decide) ?_))
    refine fin1 (.inl rfl) (by (simp (disch := omega) only [go_sem, ↓reduceIte, Nat.reduceEqDiff, Nat.reduceAdd, Nat.reduceLeDiff, q1, bne1, beq1, a1, a2, a3, b1, b2, b3, v1, c1', c2, c3, d1, d2, d3, e3, e6, e11, l3, l6]); try rfl) rfl rfl
  | true =>
    repeat (first | (refine W_reg rfl fun G K hG hK => ?_; simp (disch := omega) only [go_sem, ↓reduceIte, Nat.reduceEqDiff, Nat.reduceAdd, Nat.reduceLeDiff, hG, q1, bne1, beq1, a1, a2, a3, b1, b2, b3, v1, c1', c2, c3, d1, d2, d3, e3, e6, l3, l6, e4, e5, e7, e8, e9, l5, l8, l10, l12, l14, l16, hv]; refine hK _ _ ?_; clear hK K hG G) | (refine W_end rfl fun G K hG hK => ?_; simp (disch := omega) only [go_sem, ↓reduceIte, Nat.reduceEqDiff, Nat.reduceAdd, Nat.reduceLeDiff, hG, q1, bne1, beq1, a1, a2, a3, b1, b2, b3, v1, c1', c2, c3, d1, d2, d3, e3, e6, l3, l6, e4, e5, e7, e8, e9, l5, l8, l10, l12, l14, l16, hv]; refine hK _ _ ?_; clear hK K hG G; repeat (first | refine thenI ?_ | refine thenE ?_ | refine thenR ?_ | refine inBI ?_ | refine inBR ?_ | refine inBS ?_ | refine inBN (by decide) ?_)) | refine W_seqS ?_ | refine W_seqC ?_ | refine W_seqB ?_ | refine W_block ?_ | (refine W_skip ?_; repeat (first | refine thenI ?_ | refine thenE ?_ | refine thenR ?_ | refine inBI ?_ | refine inBR ?_ | refine inBS ?_ | refine inBN (by decide) ?_)) | (refine W_condT ?hc ?_; (case hc => (simp (disch := omega) only [go_sem, ↓reduceIte, Nat.reduceEqDiff, Nat.reduceAdd, Nat.reduceLeDiff, q1, bne1, beq1, a1, a2, a3, b1, b2, b3, v1, c1', c2, c3, d1, d2, d3, e3, e6, l3, l6, e4, e5, e7, e8, e9, l5, l8, l10, l12, l14, l16, hv]; done))) | (refine W_condF ?hc ?_; (case hc => (simp (disch := omega) only [go_sem, ↓reduceIte, Nat.reduceEqDiff, Nat.reduceAdd, Nat.reduceLeDiff, q1, bne1, beq1, a1, a2, a3, b1, b2, b3, v1, c1', c2, c3, d1, d2, d3, e3, e6, l3, l6, e4, e5, e7, e8, e9, l5, l8, l10, l12, l14, l16, hv]; done))))
    (repeat (first | refine W_seqS ?_ | refine W_seqC ?_ | refine W_seqB ?_ | refine W_block ?_)); refine W_reg rfl fun G K hG hK => ?_; simp (disch := omega) only [go_sem, ↓reduceIte, Nat.reduceEqDiff, Nat.reduceAdd, Nat.reduceLeDiff, hG, q1, bne1, beq1, a1, a2, a3, b1, b2, b3, v1, c1', c2, c3, d1, d2, d3, e3, e6, l3, l6, e4, e5, e7, e8, e9, l5, l8, l10, l12, l14, l16]
    refine w_call (implTermAt_ok p (T.rep u p t) sc _ v (by omega) hlr hR3 hP3) (by simp (disch := omega) only [go_sem, ↓reduceIte, Nat.reduceEqDiff, q1, bne1, beq1, a1, a2, a3, b1, b2, b3, v1, c1', c2, c3, d1, d2, d3, e3, e6, l3, l6, e4, e5, e7, e8, e9, l5, l8, l10, l12, l14, l16]) ?hl ?_
    case hl => first | rfl | (simp only [go_sem, List.all_cons, List.all_nil, Bool.not_false, Bool.and_self, q1, bne1, beq1, a1, a2, a3, b1, b2, b3, v1, c1', c2, c3, d1, d2, d3, e3, e6, l3, l6, e4, e5, e7, e8, e9, l5, l8, l10, l12, l14, l16]; done)
    rintro r_ sd ⟨x4, hs, L4, rfl, ho4, hf4⟩; refine ⟨fun e => (by cases e), ?_⟩
    obtain ⟨k5, n5, m5, s5, rfl, g1, g2, g3⟩ := ho4.args_cells
    have hA := T.atD_rep (u := u) hv
    rw [hA] at ho4
    simp (disch := omega) only [go_sem, ↓reduceIte, Nat.reduceEqDiff, Nat.reduceAdd, Nat.reduceLeDiff, hG, q1, bne1, beq1, a1, a2, a3, b1, b2, b3, v1, c1', c2, c3, d1, d2, d3, e3, e6, l3, l6, e4, e5, e7, e8, e9, l5, l8, l10, l12, l14, l16, g1, g2, g3]; refine hK _ _ ?_; clear hK K hG G; repeat (first | refine thenI ?_ | refine thenE ?_ | refine thenR ?_ | refine inBI ?_ | refine inBR ?_ | refine inBS ?_ | refine inBN (by decide) ?_)
    have hE4 := Enc.ext x4 _ _ hE3
    have hP4 := hP3.ext x4
    (repeat (first | refine W_seqS ?_ | refine W_seqC ?_ | refine W_seqB ?_ | refine W_block ?_)); refine W_reg rfl fun G K hG hK => ?_; simp (disch := omega) only [go_sem, ↓reduceIte, Nat.reduceEqDiff, Nat.reduceAdd, Nat.reduceLeDiff, hG, q1, bne1, beq1, a1, a2, a3, b1, b2, b3, v1, c1', c2, c3, d1, d2, d3, e3, e6, l3, l6, e4, e5, e7, e8, e9, l5, l8, l10, l12, l14, l16, g1, g2, g3]
    refine w_call (implTermAt_ok p t sd _ v (by omega) hl hE4 hP4) (by simp (disch := omega) only [go_sem, ↓reduceIte, Nat.reduceEqDiff, q1, bne1, beq1, a1, a2, a3, b1, b2, b3, v1, c1', c2, c3, d1, d2, d3, e3, e6, l3, l6, e4, e5, e7, e8, e9, l5, l8, l10, l12, l14, l16, g1, g2, g3]) ?hl ?_
    case hl => first | rfl | (simp only [go_sem, List.all_cons, List.all_nil, Bool.not_false, Bool.and_self, q1, bne1, beq1, a1, a2, a3, b1, b2, b3, v1, c1', c2, c3, d1, d2, d3, e3, e6, l3, l6, e4, e5, e7, e8, e9, l5, l8, l10, l12, l14, l16, g1, g2, g3]; done)
    rintro r_ se ⟨x5, hs5, L5, rfl, ho5, hf5⟩; refine ⟨fun e => (by cases e), ?_⟩
    obtain ⟨k6, n6, m6, s6, rfl, i1, i2, i3⟩ := ho5.args_cells
    simp (disch := omega) only [go_sem, ↓reduceIte, Nat.reduceEqDiff, Nat.reduceAdd, Nat.reduceLeDiff, hG, q1, bne1, beq1, a1, a2, a3, b1, b2, b3, v1, c1', c2, c3, d1, d2, d3, e3, e6, l3, l6, e4, e5, e7, e8, e9, l5, l8, l10, l12, l14, l16, g1, g2, g3, i1, i2, i3]; refine hK _ _ ?_; clear hK K hG G; repeat (first | refine thenI ?_ | refine thenE ?_ | refine thenR ?_ | refine inBI ?_ | refine inBR ?_ | refine inBS ?_ | refine inBN (by decide) ?_)
    have hE5 := Enc.ext x5 _ _ hE4
    have hP5 := hP4.ext x5
    have hla : Lim 1073741824 (T.atD p t) := Lim.atD p hl
    have hself := T.rep_self hv
    (repeat (first | refine W_seqS ?_ | refine W_seqC ?_ | refine W_seqB ?_ | refine W_block ?_)); refine W_reg rfl fun G K hG hK => ?_; simp (disch := omega) only [go_sem, ↓reduceIte, Nat.reduceEqDiff, Nat.reduceAdd, Nat.reduceLeDiff, hG, q1, bne1, beq1, a1, a2, a3, b1, b2, b3, v1, c1', c2, c3, d1, d2, d3, e3, e6, l3, l6, e4, e5, e7, e8, e9, l5, l8, l10, l12, l14, l16, g1, g2, g3, i1, i2, i3]
    refine w_call (implRep_ok (T.atD p t) p t se _ _ v (by omega) hla hl hE5 hP5 ho5.enc) (by simp (disch := omega) only [go_sem, ↓reduceIte, Nat.reduceEqDiff, q1, bne1, beq1, a1, a2, a3, b1, b2, b3, v1, c1', c2, c3, d1, d2, d3, e3, e6, l3, l6, e4, e5, e7, e8, e9, l5, l8, l10, l12, l14, l16, g1, g2, g3, i1, i2, i3]) ?hl ?_
    case hl => first | rfl | (simp only [go_sem, List.all_cons, List.all_nil, Bool.not_false, Bool.and_self, q1, bne1, beq1, a1, a2, a3, b1, b2, b3, v1, c1', c2, c3, d1, d2, d3, e3, e6, l3, l6, e4, e5, e7, e8, e9, l5, l8, l10, l12, l14, l16, g1, g2, g3, i1, i2, i3]; done)
    rintro r_ sf ⟨x6, js, L6, rfl, ho6, hf6⟩; refine ⟨fun e => (by cases e), ?_⟩
    obtain ⟨k7, n7, m7, s7, rfl, j1, j2, j3⟩ := ho6.args_cells
    rw [hself] at ho6
    simp (disch := omega) only [go_sem, ↓reduceIte, Nat.reduceEqDiff, Nat.reduceAdd, Nat.reduceLeDiff, hG, q1, bne1, beq1, a1, a2, a3, b1, b2, b3, v1, c1', c2, c3, d1, d2, d3, e3, e6, l3, l6, e4, e5, e7, e8, e9, l5, l8, l10, l12, l14, l16, g1, g2, g3, i1, i2, i3, j1, j2, j3]; refine hK _ _ ?_; clear hK K hG G; repeat (first | refine thenI ?_ | refine thenE ?_ | refine thenR ?_ | refine inBI ?_ | refine inBR ?_ | refine inBS ?_ | refine inBN (by decide) ?_)
    have hx56 := x5.trans x6
    have f4 : T.eqv u u = true := (T.eqv_iff _ _).2 rfl
    have f5 : T.eqv t t = true := (T.eqv_iff _ _).2 rfl
    refine W_gen (fun fr => (fr.env 3 = .pointer (some ⟨3, 0, some 1⟩)) ∧ (fr.env 5 = .pointer (some ⟨5, 0, some 1⟩)) ∧ (fr.env 12 = .pointer (some ⟨12, 0, some 1⟩)) ∧ (fr.env 16 = .pointer (some ⟨16, 0, some 1⟩)) ∧ (fr.loc 3 = (1, [.int .i64 k, .int .i64 n, .string m, s1])) ∧ (fr.loc 5 = (1, [.int .i64 k2, .int .i64 n2, .string m2, s2])) ∧ (fr.loc 12 = (1, [.int .i64 k5, .int .i64 n5, .string m5, s5])) ∧ (fr.loc 16 = (1, [.int .i64 k7, .int .i64 n7, .string m7, s7]))) ⟨(by (simp (disch := omega) only [go_sem, ↓reduceIte, Nat.reduceEqDiff, Nat.reduceAdd, Nat.reduceLeDiff, q1, bne1, beq1, a1, a2, a3, b1, b2, b3, v1, c1', c2, c3, d1, d2, d3, e3, e6, l3, l6, e4, e5, e7, e8, e9, l5, l8, l10, l12, l14, l16, g1, g2, g3, i1, i2, i3, j1, j2, j3]); try rfl), (by (simp (disch := omega) only [go_sem, ↓reduceIte, Nat.reduceEqDiff, Nat.reduceAdd, Nat.reduceLeDiff, q1, bne1, beq1, a1, a2, a3, b1, b2, b3, v1, c1', c2, c3, d1, d2, d3, e3, e6, l3, l6, e4, e5, e7, e8, e9, l5, l8, l10, l12, l14, l16, g1, g2, g3, i1, i2, i3, j1, j2, j3]); try rfl), (by (simp (disch := omega) only [go_sem, ↓reduceIte, Nat.reduceEqDiff, Nat.reduceAdd, Nat.reduceLeDiff, q1, bne1, beq1, a1, a2, a3, b1, b2, b3, v1, c1', c2, c3, d1, d2, d3, e3, e6, l3, l6, e4, e5, e7, e8, e9, l5, l8, l10, l12, l14, l16, g1, g2, g3, i1, i2, i3, j1, j2, j3]); try rfl), (by (simp (disch := omega) only [go_sem, ↓reduceIte, Nat.reduceEqDiff, Nat.reduceAdd, Nat.reduceLeDiff, q1, bne1, beq1, a1, a2, a3, b1, b2, b3, v1, c1', c2, c3, d1, d2, d3, e3, e6, l3, l6, e4, e5, e7, e8, e9, l5, l8, l10, l12, l14, l16, g1, g2, g3, i1, i2, i3, j1, j2, j3]); try rfl), (by (simp (disch := omega) only [go_sem, ↓reduceIte, Nat.reduceEqDiff, Nat.reduceAdd, Nat.reduceLeDiff, q1, bne1, beq1, a1, a2, a3, b1, b2, b3, v1, c1', c2, c3, d1, d2, d3, e3, e6, l3, l6, e4, e5, e7, e8, e9, l5, l8, l10, l12, l14, l16, g1, g2, g3, i1, i2, i3, j1, j2, j3]); try rfl), (by (simp (disch := omega) only [go_sem, ↓reduceIte, Nat.reduceEqDiff, Nat.reduceAdd, Nat.reduceLeDiff, q1, bne1, beq1, a1, a2, a3, b1, b2, b3, v1, c1', c2, c3, d1, d2, d3, e3, e6, l3, l6, e4, e5, e7, e8, e9, l5, l8, l10, l12, l14, l16, g1, g2, g3, i1, i2, i3, j1, j2, j3]); try rfl), (by (simp (disch := omega) only [go_sem, ↓reduceIte, Nat.reduceEqDiff, Nat.reduceAdd, Nat.reduceLeDiff, q1, bne1, beq1, a1, a2, a3, b1, b2, b3, v1, c1', c2, c3, d1, d2, d3, e3, e6, l3, l6, e4, e5, e7, e8, e9, l5, l8, l10, l12, l14, l16, g1, g2, g3, i1, i2, i3, j1, j2, j3]); try rfl), (by (simp (disch := omega) only [go_sem, ↓reduceIte, Nat.reduceEqDiff, Nat.reduceAdd, Nat.reduceLeDiff, q1, bne1, beq1, a1, a2, a3, b1, b2, b3, v1, c1', c2, c3, d1, d2, d3, e3, e6, l3, l6, e4, e5, e7, e8, e9, l5, l8, l10, l12, l14, l16, g1, g2, g3, i1, i2, i3, j1, j2, j3]); try rfl)⟩ ?_
    clear e3 e6 l3 l6 e4 e5 e7 e8 e9 l5 l8 l10 l12 l14 l16
    rintro ⟨env, loc⟩ ⟨e3, e5, e12, e16, l3, l5, l12, l16⟩
    simp only at e3 e5 e12 e16 l3 l5 l12 l16
    (repeat (first | refine W_seqS ?_ | refine W_seqC ?_ | refine W_seqB ?_ | refine W_block ?_)); refine W_reg rfl fun G K hG hK => ?_; simp (disch := omega) only [go_sem, ↓reduceIte, Nat.reduceEqDiff, Nat.reduceAdd, Nat.reduceLeDiff, hG, q1, bne1, beq1, a1, a2, a3, b1, b2, b3, v1, c1', c2, c3, d1, d2, d3, g1, g2, g3, i1, i2, i3, j1, j2, j3, e3, e5, e12, e16, l3, l5, l12, l16]
    refine w_call (specEq_ok u u sf _ _ hlu hlu (Enc.ext hx56 _ _ ho4.enc) (Enc.ext (x4.trans hx56) _ _ hU3)) (by simp (disch := omega) only [go_sem, ↓reduceIte, Nat.reduceEqDiff, q1, bne1, beq1, a1, a2, a3, b1, b2, b3, v1, c1', c2, c3, d1, d2, d3, g1, g2, g3, i1, i2, i3, j1, j2, j3, e3, e5, e12, e16, l3, l5, l12, l16]) ?hl ?_
    case hl => first | rfl | (simp only [go_sem, List.all_cons, List.all_nil, Bool.not_false, Bool.and_self, q1, bne1, beq1, a1, a2, a3, b1, b2, b3, v1, c1', c2, c3, d1, d2, d3, g1, g2, g3, i1, i2, i3, j1, j2, j3, e3, e5, e12, e16, l3, l5, l12, l16]; done)
    rintro r_ sf ⟨rfl, rfl⟩; refine ⟨fun e => (by cases e), ?_⟩
    simp (disch := omega) only [go_sem, ↓reduceIte, Nat.reduceEqDiff, Nat.reduceAdd, Nat.reduceLeDiff, q1, bne1, beq1, a1, a2, a3, b1, b2, b3, v1, c1', c2, c3, d1, d2, d3, g1, g2, g3, i1, i2, i3, j1, j2, j3, e3, e5, e12, e16, l3, l5, l12, l16, hG, f4]
    refine w_call (specEq_ok t t sf _ _ hl hl ho6.enc (Enc.ext x6 _ _ hE5)) (by simp (disch := omega) only [go_sem, ↓reduceIte, Nat.reduceEqDiff, q1, bne1, beq1, a1, a2, a3, b1, b2, b3, v1, c1', c2, c3, d1, d2, d3, g1, g2, g3, i1, i2, i3, j1, j2, j3, e3, e5, e12, e16, l3, l5, l12, l16]) ?hl ?_
    case hl => first | rfl | (simp only [go_sem, List.all_cons, List.all_nil, Bool.not_false, Bool.and_self, q1, bne1, beq1, a1, a2, a3, b1, b2, b3, v1, c1', c2, c3, d1, d2, d3, g1, g2, g3, i1, i2, i3, j1, j2, j3, e3, e5, e12, e16, l3, l5, l12, l16]; done)
    rintro r_ sf ⟨rfl, rfl⟩; refine ⟨fun e => (by cases e), ?_⟩
    simp (disch := omega) only [go_sem, ↓reduceIte, Nat.reduceEqDiff, Nat.reduceAdd, Nat.reduceLeDiff, hG, q1, bne1, beq1, a1, a2, a3, b1, b2, b3, v1, c1', c2, c3, d1, d2, d3, g1, g2, g3, i1, i2, i3, j1, j2, j3, e3, e5, e12, e16, l3, l5, l12, l16, f4, f5]; refine hK _ _ ?_; clear hK K hG G; repeat (first | refine thenI ?_ | refine thenE ?_ | refine thenR ?_ | refine inBI ?_ | refine inBR ?_ | refine inBS ?_ | refine inBN (by decide) ?_)
    refine W_ret ?_; try (repeat (first | refine thenI ?_ | refine thenE ?_ | refine thenR ?_ | refine inBI ?_ | refine inBR ?_ | refine inBS ?_ | refine inBN (by decide) ?_))
    refine fin1 (.inl rfl) (by (simp (disch := omega) only [go_sem, ↓reduceIte, Nat.reduceEqDiff, Nat.reduceAdd, Nat.reduceLeDiff, q1, bne1, beq1, a1, a2, a3, b1, b2, b3, v1, c1', c2, c3, d1, d2, d3, g1, g2, g3, i1, i2, i3, j1, j2, j3, e3, e5, e12, e16, l3, l5, l12, l16]); try rfl) rfl rfl
end Go.Proofs.Ythimbmcffeiilaa.AM


/- Arguments: rows of bytes. -/
namespace Go.Proofs.Ythimbmcffeiilaa.AM
open Go Go.Proofs
set_option linter.unusedVariables false
theorem open_bytes {H : Type} {enc : TypeId × Value → H} {w : World} (fuel : Nat) (cs : List Value) (x : DataW H × List MemPlace) (h : DataW.trod enc Try.prog w 0 (fun _ => true) true fuel 22 cs = some x) :
    ∃ s, ∃ xs : List Byt, cs = [s] ∧ Told w s ∧ RowY (absS w) xs (absV w.heap.size s) ∧ xs.length ≤ maxLen ∧ ∀ z ∈ xs, (Lit.int .u8 z.v).wf = true :=
  open_rowA (E := EncY (absS w)) (G := fun z : Byt => (Lit.int .u8 z.v).wf = true) (sz := 1) Try.underlying22 (by kernel_rfl) (by omega) h fun n_ cs_ y_ hn_ hy_ => by
    obtain ⟨z, rfl, hw⟩ := toldA_int Try.underlying5 hy_
    exact ⟨⟨z⟩, rfl, hw, fun c hc => by cases List.mem_singleton.1 hc; rfl⟩
end Go.Proofs.Ythimbmcffeiilaa.AM


/- The law FnPositions, for every input: it returns true; the input reads as it did. -/
namespace Go.Proofs.Ythimbmcffeiilaa.fnPositions
open Go Go.Proofs Go.ChangeShapes Go.WideShapes Go.ChangeAt Go.RowKit Go.Proofs.Ythimbmcffeiilaa.AM
open Go.ChangeMaps (open_string shut_string)
set_option linter.unusedVariables false
set_option linter.unusedSimpArgs false
theorem own : ownKnob Try.prog.godebug = none := by kernel_rfl
theorem laidOut : laidOutB Try.prog = true := by kernel_rfl
set_option maxRecDepth 100000 in
theorem lifted (os : Os) (started : os.Started) (H : Type) (enc : TypeId × Value → H) :
    ReturnsInHanded {} Try.checked os 3 .any (Rows.fnPositionsSpec.pre6 enc Try.prog Try.f3 Rows.fnPositionsRow.domain false) (Rows.fnPositionsSpec.post enc Try.prog Try.f3 false true false false) := by
  refine returnsInHanded_of_change_sized (C := Try.checked) own started (by kernel_rfl) Try.func3
    (ChangeSpec.witness6 (enc := enc) (C := Try.checked) false ⟨#[], #[.slice none 0 0], []⟩ 8 (by kernel_rfl) (by kernel_rfl) (by kernel_rfl) (by kernel_rfl)) ?_
  intro W base args ds gs before hval0 hW hcnd hsz0 _
  have hval : ∀ (j : Nat) t v, Try.f3.params[j]? = some t → args[j]? = some v → Value.okWide Try.prog W .any base t v := hval0
  have hW' := hW
  obtain ⟨p, q, hA0, hV, rfl, hfz, hnd⟩ := hW
  have hA : DataW.TrodAll enc Try.prog W 0 (fun _ => true) true Try.f3.params.toList args.toList ds p := hA0
  rw [Try.params3] at hA hval
  obtain ⟨v0, vs0, d0, ds0, p0, q0, hargs, rfl, rfl, h0, r0⟩ := trodAll_cons hA
  obtain ⟨rfl, rfl, rfl⟩ := trodAll_nil r0
  obtain rfl : args = #[v0] := by cases args; simp_all
  obtain ⟨rfl, rfl⟩ := trodVars_none hV
  have k0 := h0
  have lt0 : ∀ x ∈ p0, x.block < W.heap.size := by obtain ⟨m, hm⟩ := k0; exact DataW.trod_lt m _ _ _ hm
  obtain ⟨ad0, len0, cap0, rfl⟩ := okWide_slice Try.underlying22 (hval 0 22 v0 rfl rfl)
  obtain ⟨fuel0, hf0⟩ := h0
  obtain ⟨s0, xs0, hs0, T0, R0, N0, G0⟩ := open_bytes fuel0 _ _ hf0
  obtain rfl : _ = s0 := (List.cons.inj hs0).1
  have hc := wFnPositions (absS W) xs0 _ R0 N0
  clear hA0 hval0 hcnd hsz0 hval hA
  refine (hc.enters (noTab (by decide +kernel) (by decide +kernel) (by decide +kernel)) (.cons _ _ _ _ (.inl ⟨T0, rfl⟩) .nil)).mono fun e W' ⟨he, bel⟩ => ?_
  subst he
  exact ⟨_, rfl, _, _, _, [], _, [], hW', trodAll_mk1 (shut_bool Try.underlying4 _), (trodAll_cons_mk (Below.trod laidOut (by kernel_rfl) (of_decide_eq_true (by kernel_rfl)) k0 bel lt0) trodAll_mk0), rfl, bel.frame _, fun h => by cases h⟩
theorem over : Rows.fnPositionsRow.holds Try.pinned (OpenSpec.ofChange Rows.fnPositionsSpec) :=
  OpenClaim.holds_of_wide 3 Try.f3 rfl rfl rfl rfl rfl rfl rfl ⟨rfl, rfl, rfl, rfl, rfl⟩ rfl rfl rfl rfl rfl (by kernel_rfl) Try.func3 (by kernel_rfl)
    (of_decide_eq_true (by kernel_rfl)) (by unfold Func.isWrapper; first | (rw [if_pos (by decide +kernel)]; kernel_rfl) | (rw [if_neg (by decide +kernel)]; exact ⟨rfl, rfl⟩))
    (fun os started H enc _ => lifted os started H enc)
theorem proved : Rows.FnPositionsSaid := over
end Go.Proofs.Ythimbmcffeiilaa.fnPositions
namespace Go.Proofs.Ythimbmcffeiilaa
/-- The row, under a short name, for the claim. -/
theorem fnPositions_holds : Rows.FnPositionsSaid := fnPositions.proved
end Go.Proofs.Ythimbmcffeiilaa

