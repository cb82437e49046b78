/- My texts for the law, laid together (part 4): C19 C20 O10 O11 E7 ZFnWords. -/
import Derived.Test.YtfckojbllbdejaaG3
import Derived.Test.YtfckojbllbdejaaRows
import Derived.WalkKit
import Derived.ProofKit
import Derived.OpenShut
import Derived.ShutString
import Derived.ChangeOld
import Derived.Below
import Derived.SizedLaws
import Derived.Carry
/- impl.namesIn; IsGround on both sides. -/
namespace Go.Proofs.Ytfckojbllbdejaa.AM
open Go Go.Proofs
set_option linter.unusedVariables false
set_option linter.unusedSimpArgs false
set_option maxRecDepth 100000
attribute [local go_sem] List.map_cons List.map_nil List.all_cons List.all_nil Bool.and_self Option.map_some List.getElem?_toArray Option.bind_some gye_b gye_t gsk_b gsk_t gb1 gb2 gb3 gb4 bne_self_eq_false beq_self_eq_true w_guard w_nil stepV_some step_some step_some' w_move w_assign w_pick w_binOp w_unOp w_load w_fieldAddr w_indexAddr w_len w_max w_index ev_max max_int ev_index w_box w_alloc w_store w_field w_extract w_nilCheck w_convert w_buildSlice w_build ev_buildL fillL_nil fillL_cons bs0 bs1 ev_conv ev_bin ev_un ev_pick ev_load ev_fieldAddr ev_indexAddr ev_len ev_field ev_extract ev_nilCheck fr_tmp fr_int fr_bool fr_str fr_nil fr_func put_some put_none bin_lss bin_leq bin_gtr bin_geq bin_eql bin_neq bin_add bin_sub bin_mul bin_seql bin_sneq un_not pick_ ext_ loadA_p cellAt_l cellAt_h okPtr_l okPtr_h fadA_p allocA_l storeA_l cells_agg cells_int cells_str cells_sl cells_bool flat_i flat_s flat_b flat_sl flat_nil loc_agg loc_int loc_str loc_sl loc_bool loc_fn loc_ptr okv_agg okv_int okv_str okv_sl okv_bool cellsFrom splice upd_eval argEnv_zero argEnv_succ ne_eq Nat.add_one_ne_zero not_false_eq_true List.not_mem_nil and_self decide_true List.getElem?_cons_zero List.getElem?_cons_succ List.size_toArray List.length_cons List.length_nil List.take_succ_cons List.take_zero List.drop_succ_cons List.drop_zero List.cons_append List.nil_append List.drop_nil Bool.not_true Bool.not_false Bool.false_eq_true Nat.zero_add Nat.add_zero wrap_in List.toList_toArray List.mem_cons or_self or_false false_or
attribute [local go_sem] ag22 ag24 ag26 ag3 ag31 ag5 ag9 bu26 bu31 bu51 by26 by9 el22 el24 el42 el45 of26_0 of26_1 of26_2 of26_3 of31_0 of31_1 of31_2 of51_0 of51_1 of51_2 ro26_0 ro26_1 ro26_2 ro3_3 ro9_0 ro9_1 ro9_2 ro9_3 ro9_4 sz22 sz24 sz26 sz3 sz31 sz5 sz9 ze26 ze31 ze9
-- AUTO

theorem implVars_ok : ∀ (t : T) (st : St) (cs : List Value), Lim 1073741824 t → t.wt + 1 ≤ 1073741824 → Enc st t cs →
    CallS Try.prog 38 [.agg cs.toArray] st fun r st2 => Ext st st2 ∧ ∃ L, Sl st2 (T.vars t) r L ∧ Fresh st.length L := by
  refine T.ind fun k n nm xs ih st cs hlm hB hE => ?_
  obtain ⟨s1, rfl, hr⟩ := hE.open
  refine CallS_of_W [] 27 Try.func38 rfl rfl rfl rfl (by simp) ?_
  have q1 := hr.notLoc.1
  have q2 := hr.notLoc.2
  have hb := hlm.args.1
  have hwt : (T.mk k n nm xs).wt = nm.size + xs.length + T.wtL xs := by simp only [T.wt]
  have hlen : lenE Try.prog 24 s1 = some (.int .i64 xs.length) := row_len hr Try.underlying24
  repeat (first | (refine W_reg rfl fun G K hG hK => ?_; simp (disch := omega) only [go_sem, ↓reduceIte, Nat.reduceEqDiff, Nat.reduceAdd, Nat.reduceLeDiff, hG, q1, q2]; refine hK _ _ ?_; clear hK K hG G) | (refine W_end rfl fun G K hG hK => ?_; simp (disch := omega) only [go_sem, ↓reduceIte, Nat.reduceEqDiff, Nat.reduceAdd, Nat.reduceLeDiff, hG, q1, q2]; refine hK _ _ ?_; clear hK K hG G; repeat (first | refine thenI ?_ | refine thenE ?_ | refine thenR ?_ | refine inBI ?_ | refine inBR ?_ | refine inBS ?_ | refine inBN (by decide) ?_)) | refine W_seqS ?_ | refine W_seqC ?_ | refine W_seqB ?_ | refine W_block ?_ | (refine W_skip ?_; repeat (first | refine thenI ?_ | refine thenE ?_ | refine thenR ?_ | refine inBI ?_ | refine inBR ?_ | refine inBS ?_ | refine inBN (by decide) ?_)) | (refine W_condT ?hc ?_; (case hc => (simp (disch := omega) only [go_sem, ↓reduceIte, Nat.reduceEqDiff, Nat.reduceAdd, Nat.reduceLeDiff, q1, q2]; done))) | (refine W_condF ?hc ?_; (case hc => (simp (disch := omega) only [go_sem, ↓reduceIte, Nat.reduceEqDiff, Nat.reduceAdd, Nat.reduceLeDiff, q1, q2]; done))))
  refine W_to (fun fr st' => ∃ (r : Value) (L1 : List Nat), (Ext st st') ∧ (Sl st' (if (k == 1) = true then [nm] else []) r L1) ∧ (Fresh st.length L1) ∧ (fr.env 3 = r) ∧ (fr.env 1 = .pointer (some ⟨1, 0, some 1⟩)) ∧ (fr.loc 1 = (1, [.int .i64 k, .int .i64 n, .string nm, s1]))) ?_ ?_
  · cases hk : (k == 1) with
    | false =>
      repeat (first | (refine W_reg rfl fun G K hG hK => ?_; simp (disch := omega) only [go_sem, ↓reduceIte, Nat.reduceEqDiff, Nat.reduceAdd, Nat.reduceLeDiff, hG, q1, q2, hk]; refine hK _ _ ?_; clear hK K hG G) | (refine W_end rfl fun G K hG hK => ?_; simp (disch := omega) only [go_sem, ↓reduceIte, Nat.reduceEqDiff, Nat.reduceAdd, Nat.reduceLeDiff, hG, q1, q2, hk]; refine hK _ _ ?_; clear hK K hG G; repeat (first | refine thenI ?_ | refine thenE ?_ | refine thenR ?_ | refine inBI ?_ | refine inBR ?_ | refine inBS ?_ | refine inBN (by decide) ?_)) | refine W_seqS ?_ | refine W_seqC ?_ | refine W_seqB ?_ | refine W_block ?_ | (refine W_skip ?_; repeat (first | refine thenI ?_ | refine thenE ?_ | refine thenR ?_ | refine inBI ?_ | refine inBR ?_ | refine inBS ?_ | refine inBN (by decide) ?_)) | (refine W_condT ?hc ?_; (case hc => (simp (disch := omega) only [go_sem, ↓reduceIte, Nat.reduceEqDiff, Nat.reduceAdd, Nat.reduceLeDiff, q1, q2, hk]; done))) | (refine W_condF ?hc ?_; (case hc => (simp (disch := omega) only [go_sem, ↓reduceIte, Nat.reduceEqDiff, Nat.reduceAdd, Nat.reduceLeDiff, q1, q2, hk]; done))))
      exact ⟨_, [], Ext.refl _, Sl.nil _, .nil _, (by (simp (disch := omega) only [go_sem, ↓reduceIte, Nat.reduceEqDiff, Nat.reduceAdd, Nat.reduceLeDiff, q1, q2]); try rfl), (by (simp (disch := omega) only [go_sem, ↓reduceIte, Nat.reduceEqDiff, Nat.reduceAdd, Nat.reduceLeDiff, q1, q2]); try rfl), (by (simp (disch := omega) only [go_sem, ↓reduceIte, Nat.reduceEqDiff, Nat.reduceAdd, Nat.reduceLeDiff, q1, q2]); try rfl)⟩
    | true =>
      obtain ⟨s', sb, L', hap, hs', hf', hg⟩ := OwnS.step (x := nm) (Sl.nil st) (.nil st.length) (Nat.le_refl _) (Ext.refl st) (by simp)
      repeat (first | (refine W_reg rfl fun G K hG hK => ?_; simp (disch := omega) only [go_sem, ↓reduceIte, Nat.reduceEqDiff, Nat.reduceAdd, Nat.reduceLeDiff, hG, q1, q2, hk]; refine hK _ _ ?_; clear hK K hG G) | (refine W_end rfl fun G K hG hK => ?_; simp (disch := omega) only [go_sem, ↓reduceIte, Nat.reduceEqDiff, Nat.reduceAdd, Nat.reduceLeDiff, hG, q1, q2, hk]; refine hK _ _ ?_; clear hK K hG G; repeat (first | refine thenI ?_ | refine thenE ?_ | refine thenR ?_ | refine inBI ?_ | refine inBR ?_ | refine inBS ?_ | refine inBN (by decide) ?_)) | refine W_seqS ?_ | refine W_seqC ?_ | refine W_seqB ?_ | refine W_block ?_ | (refine W_skip ?_; repeat (first | refine thenI ?_ | refine thenE ?_ | refine thenR ?_ | refine inBI ?_ | refine inBR ?_ | refine inBS ?_ | refine inBN (by decide) ?_)) | (refine W_condT ?hc ?_; (case hc => (simp (disch := omega) only [go_sem, ↓reduceIte, Nat.reduceEqDiff, Nat.reduceAdd, Nat.reduceLeDiff, q1, q2, hk]; done))) | (refine W_condF ?hc ?_; (case hc => (simp (disch := omega) only [go_sem, ↓reduceIte, Nat.reduceEqDiff, Nat.reduceAdd, Nat.reduceLeDiff, q1, q2, hk]; done))))
      refine W_end rfl fun G K hG hK => ?_; simp (disch := omega) only [go_sem, ↓reduceIte, Nat.reduceEqDiff, Nat.reduceAdd, Nat.reduceLeDiff, hG, q1, q2, w_append, hap]
      refine hK _ _ ?_; clear hK K hG G; repeat (first | refine thenI ?_ | refine thenE ?_ | refine thenR ?_ | refine inBI ?_ | refine inBR ?_ | refine inBS ?_ | refine inBN (by decide) ?_)
      exact ⟨s', L', hg.away.ext_of (Ext.refl st) (.inl rfl), hs', hf', (by (simp (disch := omega) only [go_sem, ↓reduceIte, Nat.reduceEqDiff, Nat.reduceAdd, Nat.reduceLeDiff, q1, q2]); try rfl), (by (simp (disch := omega) only [go_sem, ↓reduceIte, Nat.reduceEqDiff, Nat.reduceAdd, Nat.reduceLeDiff, q1, q2]); try rfl), (by (simp (disch := omega) only [go_sem, ↓reduceIte, Nat.reduceEqDiff, Nat.reduceAdd, Nat.reduceLeDiff, q1, q2]); try rfl)⟩
  rintro ⟨env, loc⟩ st' ⟨r, L1, hx1, hs1, hf1, e3, e1, l1⟩
  simp only at e3 e1 l1
  have hl1 : (if (k == 1) = true then [nm] else []).length ≤ 1 := by split <;> simp
  rw [T.vars_mk]
  generalize hgl : (if (k == 1) = true then [nm] else []) = nl at hs1 hl1
  have ol1 := hs1.loc
  repeat (first | (refine W_reg rfl fun G K hG hK => ?_; simp (disch := omega) only [go_sem, ↓reduceIte, Nat.reduceEqDiff, Nat.reduceAdd, Nat.reduceLeDiff, hG, q1, q2, e3, e1, l1, hlen, ol1]; refine hK _ _ ?_; clear hK K hG G) | (refine W_end rfl fun G K hG hK => ?_; simp (disch := omega) only [go_sem, ↓reduceIte, Nat.reduceEqDiff, Nat.reduceAdd, Nat.reduceLeDiff, hG, q1, q2, e3, e1, l1, hlen, ol1]; refine hK _ _ ?_; clear hK K hG G; repeat (first | refine thenI ?_ | refine thenE ?_ | refine thenR ?_ | refine inBI ?_ | refine inBR ?_ | refine inBS ?_ | refine inBN (by decide) ?_)) | refine W_seqS ?_ | refine W_seqC ?_ | refine W_seqB ?_ | refine W_block ?_ | (refine W_skip ?_; repeat (first | refine thenI ?_ | refine thenE ?_ | refine thenR ?_ | refine inBI ?_ | refine inBR ?_ | refine inBS ?_ | refine inBN (by decide) ?_)) | (refine W_condT ?hc ?_; (case hc => (simp (disch := omega) only [go_sem, ↓reduceIte, Nat.reduceEqDiff, Nat.reduceAdd, Nat.reduceLeDiff, q1, q2, e3, e1, l1, hlen, ol1]; done))) | (refine W_condF ?hc ?_; (case hc => (simp (disch := omega) only [go_sem, ↓reduceIte, Nat.reduceEqDiff, Nat.reduceAdd, Nat.reduceLeDiff, q1, q2, e3, e1, l1, hlen, ol1]; done))))
  refine W_loop (fun d fr st' => ∃ (j : Nat) (r1 : Value) (L2 : List Nat), d = xs.length - j ∧ j ≤ xs.length ∧ (Ext st st') ∧ (Sl st' (nl ++ T.varsL (xs.take j)) r1 L2) ∧ (Fresh st.length L2) ∧ (fr.env 3 = r1) ∧ (fr.env 15 = s1) ∧ (fr.env 16 = .int .i64 xs.length) ∧ (fr.env 17 = .int .i64 j)) (xs.length) ?_ ?_
  · exact ⟨0, r, L1, by omega, by omega, hx1, by simpa [T.varsL] using hs1, hf1, (by (simp (disch := omega) only [go_sem, ↓reduceIte, Nat.reduceEqDiff, Nat.reduceAdd, Nat.reduceLeDiff, q1, q2, e3, e1, l1, hlen]); try rfl), (by (simp (disch := omega) only [go_sem, ↓reduceIte, Nat.reduceEqDiff, Nat.reduceAdd, Nat.reduceLeDiff, q1, q2, e3, e1, l1, hlen]); try rfl), (by (simp (disch := omega) only [go_sem, ↓reduceIte, Nat.reduceEqDiff, Nat.reduceAdd, Nat.reduceLeDiff, q1, q2, e3, e1, l1, hlen]); try rfl), (by (simp (disch := omega) only [go_sem, ↓reduceIte, Nat.reduceEqDiff, Nat.reduceAdd, Nat.reduceLeDiff, q1, q2, e3, e1, l1, hlen]); try rfl)⟩
  clear e3 e1 l1
  rintro d ⟨env, loc⟩ st' ⟨j, r1, L2, hd, hj, hext, hown, hfr, e3, e15, e16, e17⟩
  simp only at e3 e15 e16 e17
  have ol := hown.loc
  by_cases hlt : j < xs.length
  · have c1 : decide ((j : Int) < (xs.length : Int)) = true := by simpa using hlt
    have hi := idxOk hlt
    have hx : xs[j]? = some xs[j] := List.getElem?_eq_getElem hlt
    have htk : xs.take (j + 1) = xs.take j ++ [xs[j]] := List.take_succ_eq_append_getElem hlt
    obtain ⟨i, o, c, cs, rfl, hcl, hE, hcs⟩ := row_at hr hx
    have hld := fun loc => load_row (A := []) (loc := loc) ag26 sz26 hcl (hcs.ext hext)
    have hbt := T.vars_room hlt
    have hvl := T.vars_len xs[j]
    have hl0 := hext.length
    obtain ⟨kx, nx, mx, ax, hxe⟩ := T.eta xs[j]
    have hEx := hE
    rw [hxe] at hEx
    obtain ⟨sx, rfl, hrx⟩ := hEx.open
    have x1' := hrx.notLoc.1
    have x2' := hrx.notLoc.2
    repeat (first | (refine W_reg rfl fun G K hG hK => ?_; simp (disch := omega) only [go_sem, ↓reduceIte, Nat.reduceEqDiff, Nat.reduceAdd, Nat.reduceLeDiff, hG, q1, q2, hlen, e3, e15, e16, e17, c1, hi, idxA, Int.toNat_natCast, hld, x1', x2']; refine hK _ _ ?_; clear hK K hG G) | (refine W_end rfl fun G K hG hK => ?_; simp (disch := omega) only [go_sem, ↓reduceIte, Nat.reduceEqDiff, Nat.reduceAdd, Nat.reduceLeDiff, hG, q1, q2, hlen, e3, e15, e16, e17, c1, hi, idxA, Int.toNat_natCast, hld, x1', x2']; refine hK _ _ ?_; clear hK K hG G; repeat (first | refine thenI ?_ | refine thenE ?_ | refine thenR ?_ | refine inBI ?_ | refine inBR ?_ | refine inBS ?_ | refine inBN (by decide) ?_)) | refine W_seqS ?_ | refine W_seqC ?_ | refine W_seqB ?_ | refine W_block ?_ | (refine W_skip ?_; repeat (first | refine thenI ?_ | refine thenE ?_ | refine thenR ?_ | refine inBI ?_ | refine inBR ?_ | refine inBS ?_ | refine inBN (by decide) ?_)) | (refine W_condT ?hc ?_; (case hc => (simp (disch := omega) only [go_sem, ↓reduceIte, Nat.reduceEqDiff, Nat.reduceAdd, Nat.reduceLeDiff, q1, q2, hlen, e3, e15, e16, e17, c1, hi, idxA, Int.toNat_natCast, hld, x1', x2']; done))) | (refine W_condF ?hc ?_; (case hc => (simp (disch := omega) only [go_sem, ↓reduceIte, Nat.reduceEqDiff, Nat.reduceAdd, Nat.reduceLeDiff, q1, q2, hlen, e3, e15, e16, e17, c1, hi, idxA, Int.toNat_natCast, hld, x1', x2']; done))))
    refine W_end rfl fun G K hG hK => ?_; simp (disch := omega) only [go_sem, ↓reduceIte, Nat.reduceEqDiff, Nat.reduceAdd, Nat.reduceLeDiff, hG, q1, q2, hlen, e3, e15, e16, e17, c1, hi, idxA, Int.toNat_natCast, ol, x1', x2']
    refine w_call (ih xs[j] (List.getElem_mem hlt) st' _ (hlm.args.2 _ (List.getElem_mem hlt)) (by omega) (Enc.ext hext _ _ hE)) (by simp (disch := omega) only [go_sem, ↓reduceIte, Nat.reduceEqDiff, q1, q2, hlen, e3, e15, e16, e17, c1, hi, idxA, Int.toNat_natCast, ol]) ?hl ?_
    case hl => first | rfl | (simp only [go_sem, List.all_cons, List.all_nil, Bool.not_false, Bool.and_self, q1, q2, hlen, e3, e15, e16, e17, c1, hi, idxA, Int.toNat_natCast, ol]; done)
    rintro r_ sb ⟨x3, L3, hs3, hf3⟩; refine ⟨fun e => (by cases e), ?_⟩
    have o3 := hs3.loc
    obtain ⟨s', sc, L', hap, hs', hf', hg⟩ := OwnS.join (ys := T.vars xs[j]) hown hfr hl0 x3 hs3.row (by rw [List.length_append]; omega)
    have o4 := hs'.loc
    simp (disch := omega) only [go_sem, ↓reduceIte, Nat.reduceEqDiff, Nat.reduceAdd, Nat.reduceLeDiff, hG, q1, q2, hlen, e3, e15, e16, e17, c1, hi, idxA, Int.toNat_natCast, w_append, hap, o3, o4]; refine hK _ _ ?_; clear hK K hG G; repeat (first | refine thenI ?_ | refine thenE ?_ | refine thenR ?_ | refine inBI ?_ | refine inBR ?_ | refine inBS ?_ | refine inBN (by decide) ?_)
    repeat (first | (refine W_reg rfl fun G K hG hK => ?_; simp (disch := omega) only [go_sem, ↓reduceIte, Nat.reduceEqDiff, Nat.reduceAdd, Nat.reduceLeDiff, hG, q1, q2, hlen, e3, e15, e16, e17, c1, hi, idxA, Int.toNat_natCast]; refine hK _ _ ?_; clear hK K hG G) | (refine W_end rfl fun G K hG hK => ?_; simp (disch := omega) only [go_sem, ↓reduceIte, Nat.reduceEqDiff, Nat.reduceAdd, Nat.reduceLeDiff, hG, q1, q2, hlen, e3, e15, e16, e17, c1, hi, idxA, Int.toNat_natCast]; refine hK _ _ ?_; clear hK K hG G; repeat (first | refine thenI ?_ | refine thenE ?_ | refine thenR ?_ | refine inBI ?_ | refine inBR ?_ | refine inBS ?_ | refine inBN (by decide) ?_)) | refine W_seqS ?_ | refine W_seqC ?_ | refine W_seqB ?_ | refine W_block ?_ | (refine W_skip ?_; repeat (first | refine thenI ?_ | refine thenE ?_ | refine thenR ?_ | refine inBI ?_ | refine inBR ?_ | refine inBS ?_ | refine inBN (by decide) ?_)) | (refine W_condT ?hc ?_; (case hc => (simp (disch := omega) only [go_sem, ↓reduceIte, Nat.reduceEqDiff, Nat.reduceAdd, Nat.reduceLeDiff, q1, q2, hlen, e3, e15, e16, e17, c1, hi, idxA, Int.toNat_natCast]; done))) | (refine W_condF ?hc ?_; (case hc => (simp (disch := omega) only [go_sem, ↓reduceIte, Nat.reduceEqDiff, Nat.reduceAdd, Nat.reduceLeDiff, q1, q2, hlen, e3, e15, e16, e17, c1, hi, idxA, Int.toNat_natCast]; done))))
    refine ⟨xs.length - (j + 1), by omega, j + 1, s', L', rfl, by omega, hg.away.ext_of (hext.trans x3) (hown.top hfr), by rw [T.varsL_take hlt, ← List.append_assoc]; exact hs', hf', (by (simp (disch := omega) only [go_sem, ↓reduceIte, Nat.reduceEqDiff, Nat.reduceAdd, Nat.reduceLeDiff, q1, q2, hlen, e3, e15, e16, e17, c1, hi, idxA, Int.toNat_natCast]); try rfl), (by (simp (disch := omega) only [go_sem, ↓reduceIte, Nat.reduceEqDiff, Nat.reduceAdd, Nat.reduceLeDiff, q1, q2, hlen, e3, e15, e16, e17, c1, hi, idxA, Int.toNat_natCast]); try rfl), (by (simp (disch := omega) only [go_sem, ↓reduceIte, Nat.reduceEqDiff, Nat.reduceAdd, Nat.reduceLeDiff, q1, q2, hlen, e3, e15, e16, e17, c1, hi, idxA, Int.toNat_natCast]); try rfl), (by (simp (disch := omega) only [go_sem, ↓reduceIte, Nat.reduceEqDiff, Nat.reduceAdd, Nat.reduceLeDiff, q1, q2, hlen, e3, e15, e16, e17, c1, hi, idxA, Int.toNat_natCast]); try rfl)⟩
  · have c1 : decide ((j : Int) < (xs.length : Int)) = false := by simpa using hlt
    have hjn : j = xs.length := by omega
    subst hjn
    rw [List.take_length] at hown
    repeat (first | (refine W_reg rfl fun G K hG hK => ?_; simp (disch := omega) only [go_sem, ↓reduceIte, Nat.reduceEqDiff, Nat.reduceAdd, Nat.reduceLeDiff, hG, q1, q2, hlen, e3, e15, e16, e17, c1, ol]; refine hK _ _ ?_; clear hK K hG G) | (refine W_end rfl fun G K hG hK => ?_; simp (disch := omega) only [go_sem, ↓reduceIte, Nat.reduceEqDiff, Nat.reduceAdd, Nat.reduceLeDiff, hG, q1, q2, hlen, e3, e15, e16, e17, c1, ol]; refine hK _ _ ?_; clear hK K hG G; repeat (first | refine thenI ?_ | refine thenE ?_ | refine thenR ?_ | refine inBI ?_ | refine inBR ?_ | refine inBS ?_ | refine inBN (by decide) ?_)) | refine W_seqS ?_ | refine W_seqC ?_ | refine W_seqB ?_ | refine W_block ?_ | (refine W_skip ?_; repeat (first | refine thenI ?_ | refine thenE ?_ | refine thenR ?_ | refine inBI ?_ | refine inBR ?_ | refine inBS ?_ | refine inBN (by decide) ?_)) | (refine W_condT ?hc ?_; (case hc => (simp (disch := omega) only [go_sem, ↓reduceIte, Nat.reduceEqDiff, Nat.reduceAdd, Nat.reduceLeDiff, q1, q2, hlen, e3, e15, e16, e17, c1, ol]; done))) | (refine W_condF ?hc ?_; (case hc => (simp (disch := omega) only [go_sem, ↓reduceIte, Nat.reduceEqDiff, Nat.reduceAdd, Nat.reduceLeDiff, q1, q2, hlen, e3, e15, e16, e17, c1, ol]; done))))
    refine W_exit ?_; repeat (first | refine thenI ?_ | refine thenE ?_ | refine thenR ?_ | refine inBI ?_ | refine inBR ?_ | refine inBS ?_ | refine inBN (by decide) ?_)
    repeat (first | (refine W_reg rfl fun G K hG hK => ?_; simp (disch := omega) only [go_sem, ↓reduceIte, Nat.reduceEqDiff, Nat.reduceAdd, Nat.reduceLeDiff, hG, q1, q2, hlen, e3, e15, e16, e17, c1, ol]; refine hK _ _ ?_; clear hK K hG G) | (refine W_end rfl fun G K hG hK => ?_; simp (disch := omega) only [go_sem, ↓reduceIte, Nat.reduceEqDiff, Nat.reduceAdd, Nat.reduceLeDiff, hG, q1, q2, hlen, e3, e15, e16, e17, c1, ol]; refine hK _ _ ?_; clear hK K hG G; repeat (first | refine thenI ?_ | refine thenE ?_ | refine thenR ?_ | refine inBI ?_ | refine inBR ?_ | refine inBS ?_ | refine inBN (by decide) ?_)) | refine W_seqS ?_ | refine W_seqC ?_ | refine W_seqB ?_ | refine W_block ?_ | (refine W_skip ?_; repeat (first | refine thenI ?_ | refine thenE ?_ | refine thenR ?_ | refine inBI ?_ | refine inBR ?_ | refine inBS ?_ | refine inBN (by decide) ?_)) | (refine W_condT ?hc ?_; (case hc => (simp (disch := omega) only [go_sem, ↓reduceIte, Nat.reduceEqDiff, Nat.reduceAdd, Nat.reduceLeDiff, q1, q2, hlen, e3, e15, e16, e17, c1, ol]; done))) | (refine W_condF ?hc ?_; (case hc => (simp (disch := omega) only [go_sem, ↓reduceIte, Nat.reduceEqDiff, Nat.reduceAdd, Nat.reduceLeDiff, q1, q2, hlen, e3, e15, e16, e17, c1, ol]; done))))
    refine W_ret ?_; try (repeat (first | refine thenI ?_ | refine thenE ?_ | refine thenR ?_ | refine inBI ?_ | refine inBR ?_ | refine inBS ?_ | refine inBN (by decide) ?_))
    refine fin1 (.inl rfl) (by (simp (disch := omega) only [go_sem, ↓reduceIte, Nat.reduceEqDiff, Nat.reduceAdd, Nat.reduceLeDiff, q1, q2, hlen, e3, e15, e16, e17, c1, ol]); try rfl) ol ⟨hext, L2, hown, hfr⟩
theorem implGround_ok (t : T) (st : St) (cs : List Value) (hlm : Lim 1073741824 t) (hB : t.wt + 1 ≤ 1073741824) (hE : Enc st t cs) :
    CallS Try.prog 28 [.agg cs.toArray] st fun r st2 => Ext st st2 ∧ r = .bool (((T.vars t).length : Int) == 0) := by
  obtain ⟨k, n, nm, args, hte⟩ := T.eta t
  obtain ⟨s1, rfl, hr⟩ := (hte ▸ hE).open
  refine CallS_of_W [] 7 Try.func28 rfl rfl rfl rfl (by simp) ?_
  have q1 := hr.notLoc.1
  have q2 := hr.notLoc.2
  repeat (first | (refine W_reg rfl fun G K hG hK => ?_; simp (disch := omega) only [go_sem, ↓reduceIte, Nat.reduceEqDiff, Nat.reduceAdd, Nat.reduceLeDiff, hG, q1, q2]; refine hK _ _ ?_; clear hK K hG G) | (refine W_end rfl fun G K hG hK => ?_; simp (disch := omega) only [go_sem, ↓reduceIte, Nat.reduceEqDiff, Nat.reduceAdd, Nat.reduceLeDiff, hG, q1, q2]; refine hK _ _ ?_; clear hK K hG G; repeat (first | refine thenI ?_ | refine thenE ?_ | refine thenR ?_ | refine inBI ?_ | refine inBR ?_ | refine inBS ?_ | refine inBN (by decide) ?_)) | refine W_seqS ?_ | refine W_seqC ?_ | refine W_seqB ?_ | refine W_block ?_ | (refine W_skip ?_; repeat (first | refine thenI ?_ | refine thenE ?_ | refine thenR ?_ | refine inBI ?_ | refine inBR ?_ | refine inBS ?_ | refine inBN (by decide) ?_)) | (refine W_condT ?hc ?_; (case hc => (simp (disch := omega) only [go_sem, ↓reduceIte, Nat.reduceEqDiff, Nat.reduceAdd, Nat.reduceLeDiff, q1, q2]; done))) | (refine W_condF ?hc ?_; (case hc => (simp (disch := omega) only [go_sem, ↓reduceIte, Nat.reduceEqDiff, Nat.reduceAdd, Nat.reduceLeDiff, q1, q2]; done))))
  (repeat (first | refine W_seqS ?_ | refine W_seqC ?_ | refine W_seqB ?_ | refine W_block ?_)); refine W_reg rfl fun G K hG hK => ?_; simp (disch := omega) only [go_sem, ↓reduceIte, Nat.reduceEqDiff, Nat.reduceAdd, Nat.reduceLeDiff, hG, q1, q2]
  refine w_call (implVars_ok t st _ hlm hB hE) (by simp (disch := omega) only [go_sem, ↓reduceIte, Nat.reduceEqDiff, q1, q2]) ?hl ?_
  case hl => first | rfl | (simp only [go_sem, List.all_cons, List.all_nil, Bool.not_false, Bool.and_self, q1, q2]; done)
  rintro r_ sa ⟨x1, L1, hs1, hf1⟩; refine ⟨fun e => (by cases e), ?_⟩
  have o1 := hs1.loc
  have hlen : lenE Try.prog 45 r_ = some (.int .i64 (T.vars t).length) := row_len hs1.row Try.underlying45
  simp (disch := omega) only [go_sem, ↓reduceIte, Nat.reduceEqDiff, Nat.reduceAdd, Nat.reduceLeDiff, hG, q1, q2, o1, hlen]; refine hK _ _ ?_; clear hK K hG G; repeat (first | refine thenI ?_ | refine thenE ?_ | refine thenR ?_ | refine inBI ?_ | refine inBR ?_ | refine inBS ?_ | refine inBN (by decide) ?_)
  refine W_ret ?_; try (repeat (first | refine thenI ?_ | refine thenE ?_ | refine thenR ?_ | refine inBI ?_ | refine inBR ?_ | refine inBS ?_ | refine inBN (by decide) ?_))
  refine fin1 (.inl rfl) (by (simp (disch := omega) only [go_sem, ↓reduceIte, Nat.reduceEqDiff, Nat.reduceAdd, Nat.reduceLeDiff, q1, q2]); try rfl) rfl ⟨x1, rfl⟩
theorem specGround_ok (t : T) (st : St) (cs : List Value) (hlm : Lim 1073741824 t) (hB : t.wt + 1 ≤ 1073741824) (hE : Enc st t cs) :
    CallS Try.prog 12 [.agg cs.toArray] st fun r st2 => Ext st st2 ∧ r = .bool (((T.vars t).length : Int) == 0) := by
  obtain ⟨k, n, nm, args, hte⟩ := T.eta t
  obtain ⟨s1, rfl, hr⟩ := (hte ▸ hE).open
  refine CallS_of_W [] 8 Try.func12 rfl rfl rfl rfl (by simp) ?_
  have q1 := hr.notLoc.1
  have q2 := hr.notLoc.2
  repeat (first | (refine W_reg rfl fun G K hG hK => ?_; simp (disch := omega) only [go_sem, ↓reduceIte, Nat.reduceEqDiff, Nat.reduceAdd, Nat.reduceLeDiff, hG, q1, q2]; refine hK _ _ ?_; clear hK K hG G) | (refine W_end rfl fun G K hG hK => ?_; simp (disch := omega) only [go_sem, ↓reduceIte, Nat.reduceEqDiff, Nat.reduceAdd, Nat.reduceLeDiff, hG, q1, q2]; refine hK _ _ ?_; clear hK K hG G; repeat (first | refine thenI ?_ | refine thenE ?_ | refine thenR ?_ | refine inBI ?_ | refine inBR ?_ | refine inBS ?_ | refine inBN (by decide) ?_)) | refine W_seqS ?_ | refine W_seqC ?_ | refine W_seqB ?_ | refine W_block ?_ | (refine W_skip ?_; repeat (first | refine thenI ?_ | refine thenE ?_ | refine thenR ?_ | refine inBI ?_ | refine inBR ?_ | refine inBS ?_ | refine inBN (by decide) ?_)) | (refine W_condT ?hc ?_; (case hc => (simp (disch := omega) only [go_sem, ↓reduceIte, Nat.reduceEqDiff, Nat.reduceAdd, Nat.reduceLeDiff, q1, q2]; done))) | (refine W_condF ?hc ?_; (case hc => (simp (disch := omega) only [go_sem, ↓reduceIte, Nat.reduceEqDiff, Nat.reduceAdd, Nat.reduceLeDiff, q1, q2]; done))))
  (repeat (first | refine W_seqS ?_ | refine W_seqC ?_ | refine W_seqB ?_ | refine W_block ?_)); refine W_reg rfl fun G K hG hK => ?_; simp (disch := omega) only [go_sem, ↓reduceIte, Nat.reduceEqDiff, Nat.reduceAdd, Nat.reduceLeDiff, hG, q1, q2]
  refine w_call (specVars_ok t st (st ++ [⟨[], 9, 0⟩]) _ [] _ [st.length] hlm (by simpa using hB) (Ext.app _ _) hE (Sl.empty st) ⟨by simp, by simp⟩) (by simp (disch := omega) only [go_sem, ↓reduceIte, Nat.reduceEqDiff, q1, q2]) ?hl ?_
  case hl => first | rfl | (simp only [go_sem, List.all_cons, List.all_nil, Bool.not_false, Bool.and_self, q1, q2]; done)
  rintro r_ sa ⟨x1, L1, hs1, hf1⟩; refine ⟨fun e => (by cases e), ?_⟩
  rw [List.nil_append] at hs1
  have o1 := hs1.loc
  have hlen : lenE Try.prog 45 r_ = some (.int .i64 (T.vars t).length) := row_len hs1.row Try.underlying45
  simp (disch := omega) only [go_sem, ↓reduceIte, Nat.reduceEqDiff, Nat.reduceAdd, Nat.reduceLeDiff, hG, q1, q2, o1, hlen]; refine hK _ _ ?_; clear hK K hG G; repeat (first | refine thenI ?_ | refine thenE ?_ | refine thenR ?_ | refine inBI ?_ | refine inBR ?_ | refine inBS ?_ | refine inBN (by decide) ?_)
  refine W_ret ?_; try (repeat (first | refine thenI ?_ | refine thenE ?_ | refine thenR ?_ | refine inBI ?_ | refine inBR ?_ | refine inBS ?_ | refine inBN (by decide) ?_))
  refine fin1 (.inl rfl) (by (simp (disch := omega) only [go_sem, ↓reduceIte, Nat.reduceEqDiff, Nat.reduceAdd, Nat.reduceLeDiff, q1, q2]); try rfl) rfl ⟨x1, rfl⟩
end Go.Proofs.Ytfckojbllbdejaa.AM


/- Guards hold or do not: HoldsGuard on both sides. -/
namespace Go.Proofs.Ytfckojbllbdejaa.AM
open Go Go.Proofs
set_option linter.unusedVariables false
set_option linter.unusedSimpArgs false
set_option maxRecDepth 100000
attribute [local go_sem] List.map_cons List.map_nil List.all_cons List.all_nil Bool.and_self Option.map_some List.getElem?_toArray Option.bind_some gye_b gye_t gsk_b gsk_t gb1 gb2 gb3 gb4 bne_self_eq_false beq_self_eq_true w_guard w_nil stepV_some step_some step_some' w_move w_assign w_pick w_binOp w_unOp w_load w_fieldAddr w_indexAddr w_len w_max w_index ev_max max_int ev_index w_box w_alloc w_store w_field w_extract w_nilCheck w_convert w_buildSlice w_build ev_buildL fillL_nil fillL_cons bs0 bs1 ev_conv ev_bin ev_un ev_pick ev_load ev_fieldAddr ev_indexAddr ev_len ev_field ev_extract ev_nilCheck fr_tmp fr_int fr_bool fr_str fr_nil fr_func put_some put_none bin_lss bin_leq bin_gtr bin_geq bin_eql bin_neq bin_add bin_sub bin_mul bin_seql bin_sneq un_not pick_ ext_ loadA_p cellAt_l cellAt_h okPtr_l okPtr_h fadA_p allocA_l storeA_l cells_agg cells_int cells_str cells_sl cells_bool flat_i flat_s flat_b flat_sl flat_nil loc_agg loc_int loc_str loc_sl loc_bool loc_fn loc_ptr okv_agg okv_int okv_str okv_sl okv_bool cellsFrom splice upd_eval argEnv_zero argEnv_succ ne_eq Nat.add_one_ne_zero not_false_eq_true List.not_mem_nil and_self decide_true List.getElem?_cons_zero List.getElem?_cons_succ List.size_toArray List.length_cons List.length_nil List.take_succ_cons List.take_zero List.drop_succ_cons List.drop_zero List.cons_append List.nil_append List.drop_nil Bool.not_true Bool.not_false Bool.false_eq_true Nat.zero_add Nat.add_zero wrap_in List.toList_toArray List.mem_cons or_self or_false false_or
attribute [local go_sem] ag22 ag24 ag26 ag3 ag31 ag5 ag9 bu26 bu31 bu51 by26 by9 el22 el24 el42 el45 of26_0 of26_1 of26_2 of26_3 of31_0 of31_1 of31_2 of51_0 of51_1 of51_2 ro26_0 ro26_1 ro26_2 ro3_3 ro9_0 ro9_1 ro9_2 ro9_3 ro9_4 sz22 sz24 sz26 sz3 sz31 sz5 sz9 ze26 ze31 ze9
-- AUTO

theorem redF_cases (k n : Int) (nm : ByteArray) (ys : List T) : redF k n nm ys = .mk k n nm ys ∨ ∃ x y v, ys = [x, y] ∧ k = 2 ∧ x.isW = true ∧ y.isW = true ∧ redF k n nm ys = word v := by
  unfold redF
  split
  · split
    · rename_i x y h
      simp only [Bool.and_eq_true, beq_iff_eq] at h
      exact .inr ⟨x, y, _, rfl, h.1.1.1.1, h.1.2, h.2, rfl⟩
    · exact .inl rfl
  · exact .inl rfl
theorem T.isW_vars {t : T} (h : t.isW = true) : T.vars t = [] := by
  obtain ⟨k, n, nm, args⟩ := t
  simp only [T.isW, Bool.and_eq_true, beq_iff_eq] at h
  obtain ⟨⟨⟨h1, _⟩, _⟩, h4⟩ := h
  have : args = [] := List.eq_nil_of_length_eq_zero (by omega)
  subst this
  subst h1
  rfl
theorem T.red_vars : ∀ t : T, T.vars t.red = T.vars t := by
  refine T.ind fun k n nm xs ih => ?_
  have hL : ∀ ys : List T, (∀ y ∈ ys, T.vars y.red = T.vars y) → T.varsL (T.redL ys) = T.varsL ys := by
    intro ys
    induction ys with
    | nil => intro _; rfl
    | cons y ys ihy => intro h; simp only [T.redL, T.varsL, h y (by simp), ihy fun z hz => h z (by simp [hz])]
  have h1 := hL xs ih
  simp only [T.red]
  rcases redF_cases k n nm (T.redL xs) with h | ⟨x, y, v, h2, h3, h4, h5, h6⟩
  · rw [h, T.vars_mk, T.vars_mk, h1]
  · rw [h6, T.vars_mk, ← h1, h2]
    subst h3
    simp only [T.varsL, T.isW_vars h4, T.isW_vars h5]
    rfl
theorem T.red_wt' : ∀ t : T, t.red.wt ≤ t.wt := by
  refine T.ind fun k n nm xs ih => ?_
  have hL : ∀ ys : List T, (∀ y ∈ ys, y.red.wt ≤ y.wt) → T.wtL (T.redL ys) ≤ T.wtL ys ∧ (T.redL ys).length = ys.length := by
    intro ys
    induction ys with
    | nil => intro _; exact ⟨Nat.le_refl _, rfl⟩
    | cons y ys ihy =>
      intro h
      have h1 := h y (by simp)
      have h2 := ihy fun z hz => h z (by simp [hz])
      simp only [T.redL, T.wtL, List.length_cons]
      omega
  have h1 := hL xs ih
  simp only [T.red]
  rcases redF_cases k n nm (T.redL xs) with h | ⟨x, y, v, h2, h3, h4, h5, h6⟩
  · rw [h]; simp only [T.wt]; omega
  · rw [h6]
    have : (word v).wt = 0 := rfl
    omega
theorem Lim.red {B : Nat} : ∀ t : T, Lim B t → Lim B t.red := by
  refine T.ind fun k n nm xs ih h => ?_
  obtain ⟨h1, h2⟩ := h.args
  simp only [T.red]
  rcases redF_cases k n nm (T.redL xs) with h | ⟨x, y, v, _, _, _, _, h6⟩
  · rw [h, T.redL_map]
    refine .mk _ _ _ _ (by simpa using h1) fun a ha => ?_
    obtain ⟨b, hb, rfl⟩ := List.mem_map.1 ha
    exact ih b hb (h2 b hb)
  · rw [h6]
    exact .mk _ _ _ _ (by simp) (by simp)
def Grd.holds (g : Grd) : Bool := (((T.vars g.l).length : Int) == 0) && ((((T.vars g.r).length : Int) == 0) && (if (g.k == 1) = true then T.eqv g.l.red g.r.red else if (g.k == 2) = true then !T.eqv g.l.red g.r.red else if (g.k == 3) = true then (g.l.red.isW && (g.r.red.isW && decide (g.l.red.num < g.r.red.num))) else false))

theorem implHolds_ok (g : Grd) (st : St) (cs : List Value) (hl : LimG 1073741824 g) (hB : Wt.wt g + 1 ≤ 1073741824) (hE : EncG st g cs) :
    CallS Try.prog 10 [.agg cs.toArray] st fun r st2 => Ext st st2 ∧ r = .bool g.holds := by
  refine CallS_of_W [] 49 Try.func10 rfl rfl rfl rfl (by simp) ?_
  have hwt : Wt.wt g = g.l.wt + g.r.wt := rfl
  obtain ⟨kl, nl, ml, sl, kr, nr, mr, sr, rfl, El, Er, q1, q2, q3, q4⟩ := hE.cells
  repeat (first | (refine W_reg rfl fun G K hG hK => ?_; simp (disch := omega) only [go_sem, ↓reduceIte, Nat.reduceEqDiff, Nat.reduceAdd, Nat.reduceLeDiff, hG, q1, q2, q3, q4]; refine hK _ _ ?_; clear hK K hG G) | (refine W_end rfl fun G K hG hK => ?_; simp (disch := omega) only [go_sem, ↓reduceIte, Nat.reduceEqDiff, Nat.reduceAdd, Nat.reduceLeDiff, hG, q1, q2, q3, q4]; refine hK _ _ ?_; clear hK K hG G; repeat (first | refine thenI ?_ | refine thenE ?_ | refine thenR ?_ | refine inBI ?_ | refine inBR ?_ | refine inBS ?_ | refine inBN (by decide) ?_)) | refine W_seqS ?_ | refine W_seqC ?_ | refine W_seqB ?_ | refine W_block ?_ | (refine W_skip ?_; repeat (first | refine thenI ?_ | refine thenE ?_ | refine thenR ?_ | refine inBI ?_ | refine inBR ?_ | refine inBS ?_ | refine inBN (by decide) ?_)) | (refine W_condT ?hc ?_; (case hc => (simp (disch := omega) only [go_sem, ↓reduceIte, Nat.reduceEqDiff, Nat.reduceAdd, Nat.reduceLeDiff, q1, q2, q3, q4]; done))) | (refine W_condF ?hc ?_; (case hc => (simp (disch := omega) only [go_sem, ↓reduceIte, Nat.reduceEqDiff, Nat.reduceAdd, Nat.reduceLeDiff, q1, q2, q3, q4]; done))))
  (repeat (first | refine W_seqS ?_ | refine W_seqC ?_ | refine W_seqB ?_ | refine W_block ?_)); refine W_reg rfl fun G K hG hK => ?_; simp (disch := omega) only [go_sem, ↓reduceIte, Nat.reduceEqDiff, Nat.reduceAdd, Nat.reduceLeDiff, hG, q1, q2, q3, q4]
  refine w_call (implGround_ok g.l st _ hl.1 (by omega) El) (by simp (disch := omega) only [go_sem, ↓reduceIte, Nat.reduceEqDiff, q1, q2, q3, q4]) ?hl ?_
  case hl => first | rfl | (simp only [go_sem, List.all_cons, List.all_nil, Bool.not_false, Bool.and_self, q1, q2, q3, q4]; done)
  rintro r_ sa ⟨x1, rfl⟩; refine ⟨fun e => (by cases e), ?_⟩
  cases h1 : (((T.vars g.l).length : Int) == 0) with
  | false =>
    simp (disch := omega) only [go_sem, ↓reduceIte, Nat.reduceEqDiff, Nat.reduceAdd, Nat.reduceLeDiff, hG, q1, q2, q3, q4]; refine hK _ _ ?_; clear hK K hG G; repeat (first | refine thenI ?_ | refine thenE ?_ | refine thenR ?_ | refine inBI ?_ | refine inBR ?_ | refine inBS ?_ | refine inBN (by decide) ?_)
    repeat (first | (refine W_reg rfl fun G K hG hK => ?_; simp (disch := omega) only [go_sem, ↓reduceIte, Nat.reduceEqDiff, Nat.reduceAdd, Nat.reduceLeDiff, hG, q1, q2, q3, q4]; refine hK _ _ ?_; clear hK K hG G) | (refine W_end rfl fun G K hG hK => ?_; simp (disch := omega) only [go_sem, ↓reduceIte, Nat.reduceEqDiff, Nat.reduceAdd, Nat.reduceLeDiff, hG, q1, q2, q3, q4]; refine hK _ _ ?_; clear hK K hG G; repeat (first | refine thenI ?_ | refine thenE ?_ | refine thenR ?_ | refine inBI ?_ | refine inBR ?_ | refine inBS ?_ | refine inBN (by decide) ?_)) | refine W_seqS ?_ | refine W_seqC ?_ | refine W_seqB ?_ | refine W_block ?_ | (refine W_skip ?_; repeat (first | refine thenI ?_ | refine thenE ?_ | refine thenR ?_ | refine inBI ?_ | refine inBR ?_ | refine inBS ?_ | refine inBN (by decide) ?_)) | (refine W_condT ?hc ?_; (case hc => (simp (disch := omega) only [go_sem, ↓reduceIte, Nat.reduceEqDiff, Nat.reduceAdd, Nat.reduceLeDiff, q1, q2, q3, q4]; done))) | (refine W_condF ?hc ?_; (case hc => (simp (disch := omega) only [go_sem, ↓reduceIte, Nat.reduceEqDiff, Nat.reduceAdd, Nat.reduceLeDiff, q1, q2, q3, q4]; done))))
    refine W_ret ?_; try (repeat (first | refine thenI ?_ | refine thenE ?_ | refine thenR ?_ | refine inBI ?_ | refine inBR ?_ | refine inBS ?_ | refine inBN (by decide) ?_))
    refine fin1 (.inl rfl) (by (simp (disch := omega) only [go_sem, ↓reduceIte, Nat.reduceEqDiff, Nat.reduceAdd, Nat.reduceLeDiff, q1, q2, q3, q4]); try rfl) rfl ⟨x1, by unfold Grd.holds; rw [h1]; rfl⟩
  | true =>
  simp (disch := omega) only [go_sem, ↓reduceIte, Nat.reduceEqDiff, Nat.reduceAdd, Nat.reduceLeDiff, q1, q2, q3, q4, hG]
  refine w_call (implGround_ok g.r sa _ hl.2 (by omega) (Enc.ext x1 _ _ Er)) (by simp (disch := omega) only [go_sem, ↓reduceIte, Nat.reduceEqDiff, q1, q2, q3, q4]) ?hl ?_
  case hl => first | rfl | (simp only [go_sem, List.all_cons, List.all_nil, Bool.not_false, Bool.and_self, q1, q2, q3, q4]; done)
  rintro r_ sb ⟨x2, rfl⟩; refine ⟨fun e => (by cases e), ?_⟩
  have hx2 := x1.trans x2
  cases h2 : (((T.vars g.r).length : Int) == 0) with
  | false =>
    simp (disch := omega) only [go_sem, ↓reduceIte, Nat.reduceEqDiff, Nat.reduceAdd, Nat.reduceLeDiff, hG, q1, q2, q3, q4]; refine hK _ _ ?_; clear hK K hG G; repeat (first | refine thenI ?_ | refine thenE ?_ | refine thenR ?_ | refine inBI ?_ | refine inBR ?_ | refine inBS ?_ | refine inBN (by decide) ?_)
    repeat (first | (refine W_reg rfl fun G K hG hK => ?_; simp (disch := omega) only [go_sem, ↓reduceIte, Nat.reduceEqDiff, Nat.reduceAdd, Nat.reduceLeDiff, hG, q1, q2, q3, q4]; refine hK _ _ ?_; clear hK K hG G) | (refine W_end rfl fun G K hG hK => ?_; simp (disch := omega) only [go_sem, ↓reduceIte, Nat.reduceEqDiff, Nat.reduceAdd, Nat.reduceLeDiff, hG, q1, q2, q3, q4]; refine hK _ _ ?_; clear hK K hG G; repeat (first | refine thenI ?_ | refine thenE ?_ | refine thenR ?_ | refine inBI ?_ | refine inBR ?_ | refine inBS ?_ | refine inBN (by decide) ?_)) | refine W_seqS ?_ | refine W_seqC ?_ | refine W_seqB ?_ | refine W_block ?_ | (refine W_skip ?_; repeat (first | refine thenI ?_ | refine thenE ?_ | refine thenR ?_ | refine inBI ?_ | refine inBR ?_ | refine inBS ?_ | refine inBN (by decide) ?_)) | (refine W_condT ?hc ?_; (case hc => (simp (disch := omega) only [go_sem, ↓reduceIte, Nat.reduceEqDiff, Nat.reduceAdd, Nat.reduceLeDiff, q1, q2, q3, q4]; done))) | (refine W_condF ?hc ?_; (case hc => (simp (disch := omega) only [go_sem, ↓reduceIte, Nat.reduceEqDiff, Nat.reduceAdd, Nat.reduceLeDiff, q1, q2, q3, q4]; done))))
    refine W_ret ?_; try (repeat (first | refine thenI ?_ | refine thenE ?_ | refine thenR ?_ | refine inBI ?_ | refine inBR ?_ | refine inBS ?_ | refine inBN (by decide) ?_))
    refine fin1 (.inl rfl) (by (simp (disch := omega) only [go_sem, ↓reduceIte, Nat.reduceEqDiff, Nat.reduceAdd, Nat.reduceLeDiff, q1, q2, q3, q4]); try rfl) rfl ⟨hx2, by unfold Grd.holds; rw [h1, h2]; rfl⟩
  | true =>
  have hh : g.holds = (if (g.k == 1) = true then T.eqv g.l.red g.r.red else if (g.k == 2) = true then !T.eqv g.l.red g.r.red else if (g.k == 3) = true then (g.l.red.isW && (g.r.red.isW && decide (g.l.red.num < g.r.red.num))) else false) := by
    unfold Grd.holds; rw [h1, h2]; rfl
  simp (disch := omega) only [go_sem, ↓reduceIte, Nat.reduceEqDiff, Nat.reduceAdd, Nat.reduceLeDiff, hG, q1, q2, q3, q4]; refine hK _ _ ?_; clear hK K hG G; repeat (first | refine thenI ?_ | refine thenE ?_ | refine thenR ?_ | refine inBI ?_ | refine inBR ?_ | refine inBS ?_ | refine inBN (by decide) ?_)
  repeat (first | (refine W_reg rfl fun G K hG hK => ?_; simp (disch := omega) only [go_sem, ↓reduceIte, Nat.reduceEqDiff, Nat.reduceAdd, Nat.reduceLeDiff, hG, q1, q2, q3, q4]; refine hK _ _ ?_; clear hK K hG G) | (refine W_end rfl fun G K hG hK => ?_; simp (disch := omega) only [go_sem, ↓reduceIte, Nat.reduceEqDiff, Nat.reduceAdd, Nat.reduceLeDiff, hG, q1, q2, q3, q4]; refine hK _ _ ?_; clear hK K hG G; repeat (first | refine thenI ?_ | refine thenE ?_ | refine thenR ?_ | refine inBI ?_ | refine inBR ?_ | refine inBS ?_ | refine inBN (by decide) ?_)) | refine W_seqS ?_ | refine W_seqC ?_ | refine W_seqB ?_ | refine W_block ?_ | (refine W_skip ?_; repeat (first | refine thenI ?_ | refine thenE ?_ | refine thenR ?_ | refine inBI ?_ | refine inBR ?_ | refine inBS ?_ | refine inBN (by decide) ?_)) | (refine W_condT ?hc ?_; (case hc => (simp (disch := omega) only [go_sem, ↓reduceIte, Nat.reduceEqDiff, Nat.reduceAdd, Nat.reduceLeDiff, q1, q2, q3, q4]; done))) | (refine W_condF ?hc ?_; (case hc => (simp (disch := omega) only [go_sem, ↓reduceIte, Nat.reduceEqDiff, Nat.reduceAdd, Nat.reduceLeDiff, q1, q2, q3, q4]; done))))
  (repeat (first | refine W_seqS ?_ | refine W_seqC ?_ | refine W_seqB ?_ | refine W_block ?_)); refine W_regD mixed [3, 4] [(0,false),(1,false),(3,false),(4,false),(6,false),(7,false),(2,true),(5,true),(8,false),(9,false)] rfl (by decide +kernel) fun G K hG hK => ?_; simp only [pickOps, List.filterMap_cons, List.filterMap_nil, List.getElem?_cons_zero, List.getElem?_cons_succ, Option.map_some]; simp (disch := omega) only [go_sem, ↓reduceIte, Nat.reduceEqDiff, Nat.reduceAdd, Nat.reduceLeDiff, hG, q1, q2, q3, q4]
  refine w_call (implRed_ok g.l sb _ hl.1 (Enc.ext hx2 _ _ El)) (by simp (disch := omega) only [go_sem, ↓reduceIte, Nat.reduceEqDiff, q1, q2, q3, q4]) ?hl ?_
  case hl => first | rfl | (simp only [go_sem, List.all_cons, List.all_nil, Bool.not_false, Bool.and_self, q1, q2, q3, q4]; done)
  rintro r_ sc ⟨x3, d3, L3, rfl, o3, f3⟩; refine ⟨fun e => x3, ?_⟩
  obtain ⟨ka, na, ma, aa, hea⟩ := T.eta g.l.red
  have E3 := o3.enc
  rw [hea] at E3
  obtain ⟨s3, rfl, hr3⟩ := E3.open
  have a1 := hr3.notLoc.1
  have a2 := hr3.notLoc.2
  simp (disch := omega) only [go_sem, ↓reduceIte, Nat.reduceEqDiff, Nat.reduceAdd, Nat.reduceLeDiff, q1, q2, q3, q4]
  refine w_call (implRed_ok g.r sc _ hl.2 (Enc.ext (hx2.trans x3) _ _ Er)) (by simp (disch := omega) only [go_sem, ↓reduceIte, Nat.reduceEqDiff, q1, q2, q3, q4]) ?hl ?_
  case hl => first | rfl | (simp only [go_sem, List.all_cons, List.all_nil, Bool.not_false, Bool.and_self, q1, q2, q3, q4]; done)
  rintro r_ sd ⟨x4, d4, L4, rfl, o4, f4⟩; refine ⟨fun e => x4, ?_⟩
  obtain ⟨kb, nb, mb, ab, heb⟩ := T.eta g.r.red
  have E4 := o4.enc
  rw [heb] at E4
  obtain ⟨s4, rfl, hr4⟩ := E4.open
  have c1 := hr4.notLoc.1
  have c2 := hr4.notLoc.2
  have hx4 := (hx2.trans x3).trans x4
  have hlx := Lim.red _ hl.1
  have hly := Lim.red _ hl.2
  have Ex := Enc.ext x4 _ _ E3
  have Rx := Rw.ext (α := T) hr3 x4
  simp (disch := omega) only [go_sem, ↓reduceIte, Nat.reduceEqDiff, Nat.reduceAdd, Nat.reduceLeDiff, hG, q1, q2, q3, q4, a1, a2, c1, c2]; refine hK _ _ ?_; clear hK K hG G; repeat (first | refine thenI ?_ | refine thenE ?_ | refine thenR ?_ | refine inBI ?_ | refine inBR ?_ | refine inBS ?_ | refine inBN (by decide) ?_)
  repeat (first | (refine W_reg rfl fun G K hG hK => ?_; simp (disch := omega) only [go_sem, ↓reduceIte, Nat.reduceEqDiff, Nat.reduceAdd, Nat.reduceLeDiff, hG, q1, q2, q3, q4, a1, a2, c1, c2]; refine hK _ _ ?_; clear hK K hG G) | (refine W_end rfl fun G K hG hK => ?_; simp (disch := omega) only [go_sem, ↓reduceIte, Nat.reduceEqDiff, Nat.reduceAdd, Nat.reduceLeDiff, hG, q1, q2, q3, q4, a1, a2, c1, c2]; refine hK _ _ ?_; clear hK K hG G; repeat (first | refine thenI ?_ | refine thenE ?_ | refine thenR ?_ | refine inBI ?_ | refine inBR ?_ | refine inBS ?_ | refine inBN (by decide) ?_)) | refine W_seqS ?_ | refine W_seqC ?_ | refine W_seqB ?_ | refine W_block ?_ | (refine W_skip ?_; repeat (first | refine thenI ?_ | refine thenE ?_ | refine thenR ?_ | refine inBI ?_ | refine inBR ?_ | refine inBS ?_ | refine inBN (by decide) ?_)) | (refine W_condT ?hc ?_; (case hc => (simp (disch := omega) only [go_sem, ↓reduceIte, Nat.reduceEqDiff, Nat.reduceAdd, Nat.reduceLeDiff, q1, q2, q3, q4, a1, a2, c1, c2]; done))) | (refine W_condF ?hc ?_; (case hc => (simp (disch := omega) only [go_sem, ↓reduceIte, Nat.reduceEqDiff, Nat.reduceAdd, Nat.reduceLeDiff, q1, q2, q3, q4, a1, a2, c1, c2]; done))))
  cases hk1 : (g.k == 1) with
  | true =>
    repeat (first | (refine W_reg rfl fun G K hG hK => ?_; simp (disch := omega) only [go_sem, ↓reduceIte, Nat.reduceEqDiff, Nat.reduceAdd, Nat.reduceLeDiff, hG, q1, q2, q3, q4, a1, a2, c1, c2, hk1]; refine hK _ _ ?_; clear hK K hG G) | (refine W_end rfl fun G K hG hK => ?_; simp (disch := omega) only [go_sem, ↓reduceIte, Nat.reduceEqDiff, Nat.reduceAdd, Nat.reduceLeDiff, hG, q1, q2, q3, q4, a1, a2, c1, c2, hk1]; refine hK _ _ ?_; clear hK K hG G; repeat (first | refine thenI ?_ | refine thenE ?_ | refine thenR ?_ | refine inBI ?_ | refine inBR ?_ | refine inBS ?_ | refine inBN (by decide) ?_)) | refine W_seqS ?_ | refine W_seqC ?_ | refine W_seqB ?_ | refine W_block ?_ | (refine W_skip ?_; repeat (first | refine thenI ?_ | refine thenE ?_ | refine thenR ?_ | refine inBI ?_ | refine inBR ?_ | refine inBS ?_ | refine inBN (by decide) ?_)) | (refine W_condT ?hc ?_; (case hc => (simp (disch := omega) only [go_sem, ↓reduceIte, Nat.reduceEqDiff, Nat.reduceAdd, Nat.reduceLeDiff, q1, q2, q3, q4, a1, a2, c1, c2, hk1]; done))) | (refine W_condF ?hc ?_; (case hc => (simp (disch := omega) only [go_sem, ↓reduceIte, Nat.reduceEqDiff, Nat.reduceAdd, Nat.reduceLeDiff, q1, q2, q3, q4, a1, a2, c1, c2, hk1]; done))))
    (repeat (first | refine W_seqS ?_ | refine W_seqC ?_ | refine W_seqB ?_ | refine W_block ?_)); refine W_reg rfl fun G K hG hK => ?_; simp (disch := omega) only [go_sem, ↓reduceIte, Nat.reduceEqDiff, Nat.reduceAdd, Nat.reduceLeDiff, hG, q1, q2, q3, q4, a1, a2, c1, c2]
    refine w_call (implEq_ok (.mk ka na ma aa) (.mk kb nb mb ab) sd _ _ (hea ▸ hlx) (heb ▸ hly) Ex E4) (by simp (disch := omega) only [go_sem, ↓reduceIte, Nat.reduceEqDiff, q1, q2, q3, q4, a1, a2, c1, c2]) ?hl ?_
    case hl => first | rfl | (simp only [go_sem, List.all_cons, List.all_nil, Bool.not_false, Bool.and_self, q1, q2, q3, q4, a1, a2, c1, c2]; done)
    rintro r_ sd ⟨rfl, rfl⟩; refine ⟨fun e => (by cases e), ?_⟩
    simp (disch := omega) only [go_sem, ↓reduceIte, Nat.reduceEqDiff, Nat.reduceAdd, Nat.reduceLeDiff, hG, q1, q2, q3, q4, a1, a2, c1, c2]; refine hK _ _ ?_; clear hK K hG G; repeat (first | refine thenI ?_ | refine thenE ?_ | refine thenR ?_ | refine inBI ?_ | refine inBR ?_ | refine inBS ?_ | refine inBN (by decide) ?_)
    repeat (first | (refine W_reg rfl fun G K hG hK => ?_; simp (disch := omega) only [go_sem, ↓reduceIte, Nat.reduceEqDiff, Nat.reduceAdd, Nat.reduceLeDiff, hG, q1, q2, q3, q4, a1, a2, c1, c2]; refine hK _ _ ?_; clear hK K hG G) | (refine W_end rfl fun G K hG hK => ?_; simp (disch := omega) only [go_sem, ↓reduceIte, Nat.reduceEqDiff, Nat.reduceAdd, Nat.reduceLeDiff, hG, q1, q2, q3, q4, a1, a2, c1, c2]; refine hK _ _ ?_; clear hK K hG G; repeat (first | refine thenI ?_ | refine thenE ?_ | refine thenR ?_ | refine inBI ?_ | refine inBR ?_ | refine inBS ?_ | refine inBN (by decide) ?_)) | refine W_seqS ?_ | refine W_seqC ?_ | refine W_seqB ?_ | refine W_block ?_ | (refine W_skip ?_; repeat (first | refine thenI ?_ | refine thenE ?_ | refine thenR ?_ | refine inBI ?_ | refine inBR ?_ | refine inBS ?_ | refine inBN (by decide) ?_)) | (refine W_condT ?hc ?_; (case hc => (simp (disch := omega) only [go_sem, ↓reduceIte, Nat.reduceEqDiff, Nat.reduceAdd, Nat.reduceLeDiff, q1, q2, q3, q4, a1, a2, c1, c2]; done))) | (refine W_condF ?hc ?_; (case hc => (simp (disch := omega) only [go_sem, ↓reduceIte, Nat.reduceEqDiff, Nat.reduceAdd, Nat.reduceLeDiff, q1, q2, q3, q4, a1, a2, c1, c2]; done))))
    refine W_ret ?_; try (repeat (first | refine thenI ?_ | refine thenE ?_ | refine thenR ?_ | refine inBI ?_ | refine inBR ?_ | refine inBS ?_ | refine inBN (by decide) ?_))
    refine fin1 (.inl rfl) (by (simp (disch := omega) only [go_sem, ↓reduceIte, Nat.reduceEqDiff, Nat.reduceAdd, Nat.reduceLeDiff, q1, q2, q3, q4, a1, a2, c1, c2]); try rfl) rfl ⟨hx4, by rw [hh, if_pos hk1, hea, heb]⟩
  | false =>
  cases hk2 : (g.k == 2) with
  | true =>
    repeat (first | (refine W_reg rfl fun G K hG hK => ?_; simp (disch := omega) only [go_sem, ↓reduceIte, Nat.reduceEqDiff, Nat.reduceAdd, Nat.reduceLeDiff, hG, q1, q2, q3, q4, a1, a2, c1, c2, hk1, hk2]; refine hK _ _ ?_; clear hK K hG G) | (refine W_end rfl fun G K hG hK => ?_; simp (disch := omega) only [go_sem, ↓reduceIte, Nat.reduceEqDiff, Nat.reduceAdd, Nat.reduceLeDiff, hG, q1, q2, q3, q4, a1, a2, c1, c2, hk1, hk2]; refine hK _ _ ?_; clear hK K hG G; repeat (first | refine thenI ?_ | refine thenE ?_ | refine thenR ?_ | refine inBI ?_ | refine inBR ?_ | refine inBS ?_ | refine inBN (by decide) ?_)) | refine W_seqS ?_ | refine W_seqC ?_ | refine W_seqB ?_ | refine W_block ?_ | (refine W_skip ?_; repeat (first | refine thenI ?_ | refine thenE ?_ | refine thenR ?_ | refine inBI ?_ | refine inBR ?_ | refine inBS ?_ | refine inBN (by decide) ?_)) | (refine W_condT ?hc ?_; (case hc => (simp (disch := omega) only [go_sem, ↓reduceIte, Nat.reduceEqDiff, Nat.reduceAdd, Nat.reduceLeDiff, q1, q2, q3, q4, a1, a2, c1, c2, hk1, hk2]; done))) | (refine W_condF ?hc ?_; (case hc => (simp (disch := omega) only [go_sem, ↓reduceIte, Nat.reduceEqDiff, Nat.reduceAdd, Nat.reduceLeDiff, q1, q2, q3, q4, a1, a2, c1, c2, hk1, hk2]; done))))
    (repeat (first | refine W_seqS ?_ | refine W_seqC ?_ | refine W_seqB ?_ | refine W_block ?_)); refine W_reg rfl fun G K hG hK => ?_; simp (disch := omega) only [go_sem, ↓reduceIte, Nat.reduceEqDiff, Nat.reduceAdd, Nat.reduceLeDiff, hG, q1, q2, q3, q4, a1, a2, c1, c2]
    refine w_call (implEq_ok (.mk ka na ma aa) (.mk kb nb mb ab) sd _ _ (hea ▸ hlx) (heb ▸ hly) Ex E4) (by simp (disch := omega) only [go_sem, ↓reduceIte, Nat.reduceEqDiff, q1, q2, q3, q4, a1, a2, c1, c2]) ?hl ?_
    case hl => first | rfl | (simp only [go_sem, List.all_cons, List.all_nil, Bool.not_false, Bool.and_self, q1, q2, q3, q4, a1, a2, c1, c2]; done)
    rintro r_ sd ⟨rfl, rfl⟩; refine ⟨fun e => (by cases e), ?_⟩
    simp (disch := omega) only [go_sem, ↓reduceIte, Nat.reduceEqDiff, Nat.reduceAdd, Nat.reduceLeDiff, hG, q1, q2, q3, q4, a1, a2, c1, c2]; refine hK _ _ ?_; clear hK K hG G; repeat (first | refine thenI ?_ | refine thenE ?_ | refine thenR ?_ | refine inBI ?_ | refine inBR ?_ | refine inBS ?_ | refine inBN (by decide) ?_)
    repeat (first | (refine W_reg rfl fun G K hG hK => ?_; simp (disch := omega) only [go_sem, ↓reduceIte, Nat.reduceEqDiff, Nat.reduceAdd, Nat.reduceLeDiff, hG, q1, q2, q3, q4, a1, a2, c1, c2]; refine hK _ _ ?_; clear hK K hG G) | (refine W_end rfl fun G K hG hK => ?_; simp (disch := omega) only [go_sem, ↓reduceIte, Nat.reduceEqDiff, Nat.reduceAdd, Nat.reduceLeDiff, hG, q1, q2, q3, q4, a1, a2, c1, c2]; refine hK _ _ ?_; clear hK K hG G; repeat (first | refine thenI ?_ | refine thenE ?_ | refine thenR ?_ | refine inBI ?_ | refine inBR ?_ | refine inBS ?_ | refine inBN (by decide) ?_)) | refine W_seqS ?_ | refine W_seqC ?_ | refine W_seqB ?_ | refine W_block ?_ | (refine W_skip ?_; repeat (first | refine thenI ?_ | refine thenE ?_ | refine thenR ?_ | refine inBI ?_ | refine inBR ?_ | refine inBS ?_ | refine inBN (by decide) ?_)) | (refine W_condT ?hc ?_; (case hc => (simp (disch := omega) only [go_sem, ↓reduceIte, Nat.reduceEqDiff, Nat.reduceAdd, Nat.reduceLeDiff, q1, q2, q3, q4, a1, a2, c1, c2]; done))) | (refine W_condF ?hc ?_; (case hc => (simp (disch := omega) only [go_sem, ↓reduceIte, Nat.reduceEqDiff, Nat.reduceAdd, Nat.reduceLeDiff, q1, q2, q3, q4, a1, a2, c1, c2]; done))))
    refine W_ret ?_; try (repeat (first | refine thenI ?_ | refine thenE ?_ | refine thenR ?_ | refine inBI ?_ | refine inBR ?_ | refine inBS ?_ | refine inBN (by decide) ?_))
    refine fin1 (.inl rfl) (by (simp (disch := omega) only [go_sem, ↓reduceIte, Nat.reduceEqDiff, Nat.reduceAdd, Nat.reduceLeDiff, q1, q2, q3, q4, a1, a2, c1, c2]); try rfl) rfl ⟨hx4, by rw [hh, if_neg (by rw [hk1]; simp), if_pos hk2, hea, heb]⟩
  | false =>
  cases hk3 : (g.k == 3) with
  | false =>
    repeat (first | (refine W_reg rfl fun G K hG hK => ?_; simp (disch := omega) only [go_sem, ↓reduceIte, Nat.reduceEqDiff, Nat.reduceAdd, Nat.reduceLeDiff, hG, q1, q2, q3, q4, a1, a2, c1, c2, hk1, hk2, hk3]; refine hK _ _ ?_; clear hK K hG G) | (refine W_end rfl fun G K hG hK => ?_; simp (disch := omega) only [go_sem, ↓reduceIte, Nat.reduceEqDiff, Nat.reduceAdd, Nat.reduceLeDiff, hG, q1, q2, q3, q4, a1, a2, c1, c2, hk1, hk2, hk3]; refine hK _ _ ?_; clear hK K hG G; repeat (first | refine thenI ?_ | refine thenE ?_ | refine thenR ?_ | refine inBI ?_ | refine inBR ?_ | refine inBS ?_ | refine inBN (by decide) ?_)) | refine W_seqS ?_ | refine W_seqC ?_ | refine W_seqB ?_ | refine W_block ?_ | (refine W_skip ?_; repeat (first | refine thenI ?_ | refine thenE ?_ | refine thenR ?_ | refine inBI ?_ | refine inBR ?_ | refine inBS ?_ | refine inBN (by decide) ?_)) | (refine W_condT ?hc ?_; (case hc => (simp (disch := omega) only [go_sem, ↓reduceIte, Nat.reduceEqDiff, Nat.reduceAdd, Nat.reduceLeDiff, q1, q2, q3, q4, a1, a2, c1, c2, hk1, hk2, hk3]; done))) | (refine W_condF ?hc ?_; (case hc => (simp (disch := omega) only [go_sem, ↓reduceIte, Nat.reduceEqDiff, Nat.reduceAdd, Nat.reduceLeDiff, q1, q2, q3, q4, a1, a2, c1, c2, hk1, hk2, hk3]; done))))
    refine W_ret ?_; try (repeat (first | refine thenI ?_ | refine thenE ?_ | refine thenR ?_ | refine inBI ?_ | refine inBR ?_ | refine inBS ?_ | refine inBN (by decide) ?_))
    refine fin1 (.inl rfl) (by (simp (disch := omega) only [go_sem, ↓reduceIte, Nat.reduceEqDiff, Nat.reduceAdd, Nat.reduceLeDiff, q1, q2, q3, q4, a1, a2, c1, c2]); try rfl) rfl ⟨hx4, by rw [hh, if_neg (by rw [hk1]; simp), if_neg (by rw [hk2]; simp), if_neg (by rw [hk3]; simp)]⟩
  | true =>
  have hh3 : g.holds = ((T.mk ka na ma aa).isW && ((T.mk kb nb mb ab).isW && decide (na < nb))) := by rw [hh, if_neg (by rw [hk1]; simp), if_neg (by rw [hk2]; simp), if_pos hk3, hea, heb]; rfl
  repeat (first | (refine W_reg rfl fun G K hG hK => ?_; simp (disch := omega) only [go_sem, ↓reduceIte, Nat.reduceEqDiff, Nat.reduceAdd, Nat.reduceLeDiff, hG, q1, q2, q3, q4, a1, a2, c1, c2, hk1, hk2, hk3]; refine hK _ _ ?_; clear hK K hG G) | (refine W_end rfl fun G K hG hK => ?_; simp (disch := omega) only [go_sem, ↓reduceIte, Nat.reduceEqDiff, Nat.reduceAdd, Nat.reduceLeDiff, hG, q1, q2, q3, q4, a1, a2, c1, c2, hk1, hk2, hk3]; refine hK _ _ ?_; clear hK K hG G; repeat (first | refine thenI ?_ | refine thenE ?_ | refine thenR ?_ | refine inBI ?_ | refine inBR ?_ | refine inBS ?_ | refine inBN (by decide) ?_)) | refine W_seqS ?_ | refine W_seqC ?_ | refine W_seqB ?_ | refine W_block ?_ | (refine W_skip ?_; repeat (first | refine thenI ?_ | refine thenE ?_ | refine thenR ?_ | refine inBI ?_ | refine inBR ?_ | refine inBS ?_ | refine inBN (by decide) ?_)) | (refine W_condT ?hc ?_; (case hc => (simp (disch := omega) only [go_sem, ↓reduceIte, Nat.reduceEqDiff, Nat.reduceAdd, Nat.reduceLeDiff, q1, q2, q3, q4, a1, a2, c1, c2, hk1, hk2, hk3]; done))) | (refine W_condF ?hc ?_; (case hc => (simp (disch := omega) only [go_sem, ↓reduceIte, Nat.reduceEqDiff, Nat.reduceAdd, Nat.reduceLeDiff, q1, q2, q3, q4, a1, a2, c1, c2, hk1, hk2, hk3]; done))))
  (repeat (first | refine W_seqS ?_ | refine W_seqC ?_ | refine W_seqB ?_ | refine W_block ?_)); refine W_reg rfl fun G K hG hK => ?_; simp (disch := omega) only [go_sem, ↓reduceIte, Nat.reduceEqDiff, Nat.reduceAdd, Nat.reduceLeDiff, hG, q1, q2, q3, q4, a1, a2, c1, c2]
  refine w_call (implIsW_of ka na ma aa sd s3 Rx) (by simp (disch := omega) only [go_sem, ↓reduceIte, Nat.reduceEqDiff, q1, q2, q3, q4, a1, a2, c1, c2]) ?hl ?_
  case hl => first | rfl | (simp only [go_sem, List.all_cons, List.all_nil, Bool.not_false, Bool.and_self, q1, q2, q3, q4, a1, a2, c1, c2]; done)
  rintro r_ sd ⟨rfl, rfl⟩; refine ⟨fun e => (by cases e), ?_⟩
  cases w1 : (T.mk ka na ma aa).isW with
  | false =>
    simp (disch := omega) only [go_sem, ↓reduceIte, Nat.reduceEqDiff, Nat.reduceAdd, Nat.reduceLeDiff, hG, q1, q2, q3, q4, a1, a2, c1, c2]; refine hK _ _ ?_; clear hK K hG G; repeat (first | refine thenI ?_ | refine thenE ?_ | refine thenR ?_ | refine inBI ?_ | refine inBR ?_ | refine inBS ?_ | refine inBN (by decide) ?_)
    repeat (first | (refine W_reg rfl fun G K hG hK => ?_; simp (disch := omega) only [go_sem, ↓reduceIte, Nat.reduceEqDiff, Nat.reduceAdd, Nat.reduceLeDiff, hG, q1, q2, q3, q4, a1, a2, c1, c2]; refine hK _ _ ?_; clear hK K hG G) | (refine W_end rfl fun G K hG hK => ?_; simp (disch := omega) only [go_sem, ↓reduceIte, Nat.reduceEqDiff, Nat.reduceAdd, Nat.reduceLeDiff, hG, q1, q2, q3, q4, a1, a2, c1, c2]; refine hK _ _ ?_; clear hK K hG G; repeat (first | refine thenI ?_ | refine thenE ?_ | refine thenR ?_ | refine inBI ?_ | refine inBR ?_ | refine inBS ?_ | refine inBN (by decide) ?_)) | refine W_seqS ?_ | refine W_seqC ?_ | refine W_seqB ?_ | refine W_block ?_ | (refine W_skip ?_; repeat (first | refine thenI ?_ | refine thenE ?_ | refine thenR ?_ | refine inBI ?_ | refine inBR ?_ | refine inBS ?_ | refine inBN (by decide) ?_)) | (refine W_condT ?hc ?_; (case hc => (simp (disch := omega) only [go_sem, ↓reduceIte, Nat.reduceEqDiff, Nat.reduceAdd, Nat.reduceLeDiff, q1, q2, q3, q4, a1, a2, c1, c2]; done))) | (refine W_condF ?hc ?_; (case hc => (simp (disch := omega) only [go_sem, ↓reduceIte, Nat.reduceEqDiff, Nat.reduceAdd, Nat.reduceLeDiff, q1, q2, q3, q4, a1, a2, c1, c2]; done))))
    refine W_ret ?_; try (repeat (first | refine thenI ?_ | refine thenE ?_ | refine thenR ?_ | refine inBI ?_ | refine inBR ?_ | refine inBS ?_ | refine inBN (by decide) ?_))
    refine fin1 (.inl rfl) (by (simp (disch := omega) only [go_sem, ↓reduceIte, Nat.reduceEqDiff, Nat.reduceAdd, Nat.reduceLeDiff, q1, q2, q3, q4, a1, a2, c1, c2]); try rfl) rfl ⟨hx4, by rw [hh3, w1]; rfl⟩
  | true =>
  simp (disch := omega) only [go_sem, ↓reduceIte, Nat.reduceEqDiff, Nat.reduceAdd, Nat.reduceLeDiff, q1, q2, q3, q4, a1, a2, c1, c2, hG]
  refine w_call (implIsW_of kb nb mb ab sd s4 hr4) (by simp (disch := omega) only [go_sem, ↓reduceIte, Nat.reduceEqDiff, q1, q2, q3, q4, a1, a2, c1, c2]) ?hl ?_
  case hl => first | rfl | (simp only [go_sem, List.all_cons, List.all_nil, Bool.not_false, Bool.and_self, q1, q2, q3, q4, a1, a2, c1, c2]; done)
  rintro r_ sd ⟨rfl, rfl⟩; refine ⟨fun e => (by cases e), ?_⟩
  cases w2 : (T.mk kb nb mb ab).isW with
  | false =>
    simp (disch := omega) only [go_sem, ↓reduceIte, Nat.reduceEqDiff, Nat.reduceAdd, Nat.reduceLeDiff, hG, q1, q2, q3, q4, a1, a2, c1, c2]; refine hK _ _ ?_; clear hK K hG G; repeat (first | refine thenI ?_ | refine thenE ?_ | refine thenR ?_ | refine inBI ?_ | refine inBR ?_ | refine inBS ?_ | refine inBN (by decide) ?_)
    repeat (first | (refine W_reg rfl fun G K hG hK => ?_; simp (disch := omega) only [go_sem, ↓reduceIte, Nat.reduceEqDiff, Nat.reduceAdd, Nat.reduceLeDiff, hG, q1, q2, q3, q4, a1, a2, c1, c2]; refine hK _ _ ?_; clear hK K hG G) | (refine W_end rfl fun G K hG hK => ?_; simp (disch := omega) only [go_sem, ↓reduceIte, Nat.reduceEqDiff, Nat.reduceAdd, Nat.reduceLeDiff, hG, q1, q2, q3, q4, a1, a2, c1, c2]; refine hK _ _ ?_; clear hK K hG G; repeat (first | refine thenI ?_ | refine thenE ?_ | refine thenR ?_ | refine inBI ?_ | refine inBR ?_ | refine inBS ?_ | refine inBN (by decide) ?_)) | refine W_seqS ?_ | refine W_seqC ?_ | refine W_seqB ?_ | refine W_block ?_ | (refine W_skip ?_; repeat (first | refine thenI ?_ | refine thenE ?_ | refine thenR ?_ | refine inBI ?_ | refine inBR ?_ | refine inBS ?_ | refine inBN (by decide) ?_)) | (refine W_condT ?hc ?_; (case hc => (simp (disch := omega) only [go_sem, ↓reduceIte, Nat.reduceEqDiff, Nat.reduceAdd, Nat.reduceLeDiff, q1, q2, q3, q4, a1, a2, c1, c2]; done))) | (refine W_condF ?hc ?_; (case hc => (simp (disch := omega) only [go_sem, ↓reduceIte, Nat.reduceEqDiff, Nat.reduceAdd, Nat.reduceLeDiff, q1, q2, q3, q4, a1, a2, c1, c2]; done))))
    refine W_ret ?_; try (repeat (first | refine thenI ?_ | refine thenE ?_ | refine thenR ?_ | refine inBI ?_ | refine inBR ?_ | refine inBS ?_ | refine inBN (by decide) ?_))
    refine fin1 (.inl rfl) (by (simp (disch := omega) only [go_sem, ↓reduceIte, Nat.reduceEqDiff, Nat.reduceAdd, Nat.reduceLeDiff, q1, q2, q3, q4, a1, a2, c1, c2]); try rfl) rfl ⟨hx4, by rw [hh3, w1, w2]; rfl⟩
  | true =>
    simp (disch := omega) only [go_sem, ↓reduceIte, Nat.reduceEqDiff, Nat.reduceAdd, Nat.reduceLeDiff, hG, q1, q2, q3, q4, a1, a2, c1, c2]; refine hK _ _ ?_; clear hK K hG G; repeat (first | refine thenI ?_ | refine thenE ?_ | refine thenR ?_ | refine inBI ?_ | refine inBR ?_ | refine inBS ?_ | refine inBN (by decide) ?_)
    repeat (first | (refine W_reg rfl fun G K hG hK => ?_; simp (disch := omega) only [go_sem, ↓reduceIte, Nat.reduceEqDiff, Nat.reduceAdd, Nat.reduceLeDiff, hG, q1, q2, q3, q4, a1, a2, c1, c2]; refine hK _ _ ?_; clear hK K hG G) | (refine W_end rfl fun G K hG hK => ?_; simp (disch := omega) only [go_sem, ↓reduceIte, Nat.reduceEqDiff, Nat.reduceAdd, Nat.reduceLeDiff, hG, q1, q2, q3, q4, a1, a2, c1, c2]; refine hK _ _ ?_; clear hK K hG G; repeat (first | refine thenI ?_ | refine thenE ?_ | refine thenR ?_ | refine inBI ?_ | refine inBR ?_ | refine inBS ?_ | refine inBN (by decide) ?_)) | refine W_seqS ?_ | refine W_seqC ?_ | refine W_seqB ?_ | refine W_block ?_ | (refine W_skip ?_; repeat (first | refine thenI ?_ | refine thenE ?_ | refine thenR ?_ | refine inBI ?_ | refine inBR ?_ | refine inBS ?_ | refine inBN (by decide) ?_)) | (refine W_condT ?hc ?_; (case hc => (simp (disch := omega) only [go_sem, ↓reduceIte, Nat.reduceEqDiff, Nat.reduceAdd, Nat.reduceLeDiff, q1, q2, q3, q4, a1, a2, c1, c2]; done))) | (refine W_condF ?hc ?_; (case hc => (simp (disch := omega) only [go_sem, ↓reduceIte, Nat.reduceEqDiff, Nat.reduceAdd, Nat.reduceLeDiff, q1, q2, q3, q4, a1, a2, c1, c2]; done))))
    refine W_ret ?_; try (repeat (first | refine thenI ?_ | refine thenE ?_ | refine thenR ?_ | refine inBI ?_ | refine inBR ?_ | refine inBS ?_ | refine inBN (by decide) ?_))
    refine fin1 (.inl rfl) (by (simp (disch := omega) only [go_sem, ↓reduceIte, Nat.reduceEqDiff, Nat.reduceAdd, Nat.reduceLeDiff, q1, q2, q3, q4, a1, a2, c1, c2]); try rfl) rfl ⟨hx4, by rw [hh3, w1, w2]; rfl⟩

theorem specHolds_ok (g : Grd) (st : St) (cs : List Value) (hl : LimG 1073741824 g) (hB : Wt.wt g + 1 ≤ 1073741824) (hE : EncG st g cs) :
    CallS Try.prog 11 [.agg cs.toArray] st fun r st2 => Ext st st2 ∧ r = .bool g.holds := by
  refine CallS_of_W [] 47 Try.func11 rfl rfl rfl rfl (by simp) ?_
  have hwt : Wt.wt g = g.l.wt + g.r.wt := rfl
  obtain ⟨kl, nl, ml, sl, kr, nr, mr, sr, rfl, El, Er, q1, q2, q3, q4⟩ := hE.cells
  repeat (first | (refine W_reg rfl fun G K hG hK => ?_; simp (disch := omega) only [go_sem, ↓reduceIte, Nat.reduceEqDiff, Nat.reduceAdd, Nat.reduceLeDiff, hG, q1, q2, q3, q4]; refine hK _ _ ?_; clear hK K hG G) | (refine W_end rfl fun G K hG hK => ?_; simp (disch := omega) only [go_sem, ↓reduceIte, Nat.reduceEqDiff, Nat.reduceAdd, Nat.reduceLeDiff, hG, q1, q2, q3, q4]; refine hK _ _ ?_; clear hK K hG G; repeat (first | refine thenI ?_ | refine thenE ?_ | refine thenR ?_ | refine inBI ?_ | refine inBR ?_ | refine inBS ?_ | refine inBN (by decide) ?_)) | refine W_seqS ?_ | refine W_seqC ?_ | refine W_seqB ?_ | refine W_block ?_ | (refine W_skip ?_; repeat (first | refine thenI ?_ | refine thenE ?_ | refine thenR ?_ | refine inBI ?_ | refine inBR ?_ | refine inBS ?_ | refine inBN (by decide) ?_)) | (refine W_condT ?hc ?_; (case hc => (simp (disch := omega) only [go_sem, ↓reduceIte, Nat.reduceEqDiff, Nat.reduceAdd, Nat.reduceLeDiff, q1, q2, q3, q4]; done))) | (refine W_condF ?hc ?_; (case hc => (simp (disch := omega) only [go_sem, ↓reduceIte, Nat.reduceEqDiff, Nat.reduceAdd, Nat.reduceLeDiff, q1, q2, q3, q4]; done))))
  (repeat (first | refine W_seqS ?_ | refine W_seqC ?_ | refine W_seqB ?_ | refine W_block ?_)); refine W_reg rfl fun G K hG hK => ?_; simp (disch := omega) only [go_sem, ↓reduceIte, Nat.reduceEqDiff, Nat.reduceAdd, Nat.reduceLeDiff, hG, q1, q2, q3, q4]
  refine w_call (specRed_ok g.l st _ hl.1 El) (by simp (disch := omega) only [go_sem, ↓reduceIte, Nat.reduceEqDiff, q1, q2, q3, q4]) ?hl ?_
  case hl => first | rfl | (simp only [go_sem, List.all_cons, List.all_nil, Bool.not_false, Bool.and_self, q1, q2, q3, q4]; done)
  rintro r_ sa ⟨x1, d3, L3, rfl, o3, f3⟩; refine ⟨fun e => (by cases e), ?_⟩
  obtain ⟨ka, na, ma, aa, hea⟩ := T.eta g.l.red
  have E3 := o3.enc
  rw [hea] at E3
  obtain ⟨s3, rfl, hr3⟩ := E3.open
  have a1 := hr3.notLoc.1
  have a2 := hr3.notLoc.2
  simp (disch := omega) only [go_sem, ↓reduceIte, Nat.reduceEqDiff, Nat.reduceAdd, Nat.reduceLeDiff, hG, q1, q2, q3, q4, a1, a2]; refine hK _ _ ?_; clear hK K hG G; repeat (first | refine thenI ?_ | refine thenE ?_ | refine thenR ?_ | refine inBI ?_ | refine inBR ?_ | refine inBS ?_ | refine inBN (by decide) ?_)
  repeat (first | (refine W_reg rfl fun G K hG hK => ?_; simp (disch := omega) only [go_sem, ↓reduceIte, Nat.reduceEqDiff, Nat.reduceAdd, Nat.reduceLeDiff, hG, q1, q2, q3, q4, a1, a2]; refine hK _ _ ?_; clear hK K hG G) | (refine W_end rfl fun G K hG hK => ?_; simp (disch := omega) only [go_sem, ↓reduceIte, Nat.reduceEqDiff, Nat.reduceAdd, Nat.reduceLeDiff, hG, q1, q2, q3, q4, a1, a2]; refine hK _ _ ?_; clear hK K hG G; repeat (first | refine thenI ?_ | refine thenE ?_ | refine thenR ?_ | refine inBI ?_ | refine inBR ?_ | refine inBS ?_ | refine inBN (by decide) ?_)) | refine W_seqS ?_ | refine W_seqC ?_ | refine W_seqB ?_ | refine W_block ?_ | (refine W_skip ?_; repeat (first | refine thenI ?_ | refine thenE ?_ | refine thenR ?_ | refine inBI ?_ | refine inBR ?_ | refine inBS ?_ | refine inBN (by decide) ?_)) | (refine W_condT ?hc ?_; (case hc => (simp (disch := omega) only [go_sem, ↓reduceIte, Nat.reduceEqDiff, Nat.reduceAdd, Nat.reduceLeDiff, q1, q2, q3, q4, a1, a2]; done))) | (refine W_condF ?hc ?_; (case hc => (simp (disch := omega) only [go_sem, ↓reduceIte, Nat.reduceEqDiff, Nat.reduceAdd, Nat.reduceLeDiff, q1, q2, q3, q4, a1, a2]; done))))
  (repeat (first | refine W_seqS ?_ | refine W_seqC ?_ | refine W_seqB ?_ | refine W_block ?_)); refine W_reg rfl fun G K hG hK => ?_; simp (disch := omega) only [go_sem, ↓reduceIte, Nat.reduceEqDiff, Nat.reduceAdd, Nat.reduceLeDiff, hG, q1, q2, q3, q4, a1, a2]
  refine w_call (specRed_ok g.r sa _ hl.2 (Enc.ext x1 _ _ Er)) (by simp (disch := omega) only [go_sem, ↓reduceIte, Nat.reduceEqDiff, q1, q2, q3, q4, a1, a2]) ?hl ?_
  case hl => first | rfl | (simp only [go_sem, List.all_cons, List.all_nil, Bool.not_false, Bool.and_self, q1, q2, q3, q4, a1, a2]; done)
  rintro r_ sb ⟨x2, d4, L4, rfl, o4, f4⟩; refine ⟨fun e => (by cases e), ?_⟩
  obtain ⟨kb, nb, mb, ab, heb⟩ := T.eta g.r.red
  have E4 := o4.enc
  rw [heb] at E4
  obtain ⟨s4, rfl, hr4⟩ := E4.open
  have c1 := hr4.notLoc.1
  have c2 := hr4.notLoc.2
  have hx2 := x1.trans x2
  have hw1 := T.red_wt' g.l
  have hw2 := T.red_wt' g.r
  have hlx := Lim.red _ hl.1
  have hly := Lim.red _ hl.2
  simp (disch := omega) only [go_sem, ↓reduceIte, Nat.reduceEqDiff, Nat.reduceAdd, Nat.reduceLeDiff, hG, q1, q2, q3, q4, a1, a2, c1, c2]; refine hK _ _ ?_; clear hK K hG G; repeat (first | refine thenI ?_ | refine thenE ?_ | refine thenR ?_ | refine inBI ?_ | refine inBR ?_ | refine inBS ?_ | refine inBN (by decide) ?_)
  repeat (first | (refine W_reg rfl fun G K hG hK => ?_; simp (disch := omega) only [go_sem, ↓reduceIte, Nat.reduceEqDiff, Nat.reduceAdd, Nat.reduceLeDiff, hG, q1, q2, q3, q4, a1, a2, c1, c2]; refine hK _ _ ?_; clear hK K hG G) | (refine W_end rfl fun G K hG hK => ?_; simp (disch := omega) only [go_sem, ↓reduceIte, Nat.reduceEqDiff, Nat.reduceAdd, Nat.reduceLeDiff, hG, q1, q2, q3, q4, a1, a2, c1, c2]; refine hK _ _ ?_; clear hK K hG G; repeat (first | refine thenI ?_ | refine thenE ?_ | refine thenR ?_ | refine inBI ?_ | refine inBR ?_ | refine inBS ?_ | refine inBN (by decide) ?_)) | refine W_seqS ?_ | refine W_seqC ?_ | refine W_seqB ?_ | refine W_block ?_ | (refine W_skip ?_; repeat (first | refine thenI ?_ | refine thenE ?_ | refine thenR ?_ | refine inBI ?_ | refine inBR ?_ | refine inBS ?_ | refine inBN (by decide) ?_)) | (refine W_condT ?hc ?_; (case hc => (simp (disch := omega) only [go_sem, ↓reduceIte, Nat.reduceEqDiff, Nat.reduceAdd, Nat.reduceLeDiff, q1, q2, q3, q4, a1, a2, c1, c2]; done))) | (refine W_condF ?hc ?_; (case hc => (simp (disch := omega) only [go_sem, ↓reduceIte, Nat.reduceEqDiff, Nat.reduceAdd, Nat.reduceLeDiff, q1, q2, q3, q4, a1, a2, c1, c2]; done))))
  (repeat (first | refine W_seqS ?_ | refine W_seqC ?_ | refine W_seqB ?_ | refine W_block ?_)); refine W_reg rfl fun G K hG hK => ?_; simp (disch := omega) only [go_sem, ↓reduceIte, Nat.reduceEqDiff, Nat.reduceAdd, Nat.reduceLeDiff, hG, q1, q2, q3, q4, a1, a2, c1, c2]
  refine w_call (specGround_ok (.mk ka na ma aa) sb _ (hea ▸ hlx) (by rw [← hea]; omega) (Enc.ext x2 _ _ E3)) (by simp (disch := omega) only [go_sem, ↓reduceIte, Nat.reduceEqDiff, q1, q2, q3, q4, a1, a2, c1, c2]) ?hl ?_
  case hl => first | rfl | (simp only [go_sem, List.all_cons, List.all_nil, Bool.not_false, Bool.and_self, q1, q2, q3, q4, a1, a2, c1, c2]; done)
  rintro r_ sc ⟨x3, rfl⟩; refine ⟨fun e => (by cases e), ?_⟩
  have hv1 : (T.vars (.mk ka na ma aa)).length = (T.vars g.l).length := by rw [← hea, T.red_vars]
  have hv2 : (T.vars (.mk kb nb mb ab)).length = (T.vars g.r).length := by rw [← heb, T.red_vars]
  rw [hv1]
  cases h1 : (((T.vars g.l).length : Int) == 0) with
  | false =>
    simp (disch := omega) only [go_sem, ↓reduceIte, Nat.reduceEqDiff, Nat.reduceAdd, Nat.reduceLeDiff, hG, q1, q2, q3, q4, a1, a2, c1, c2]; refine hK _ _ ?_; clear hK K hG G; repeat (first | refine thenI ?_ | refine thenE ?_ | refine thenR ?_ | refine inBI ?_ | refine inBR ?_ | refine inBS ?_ | refine inBN (by decide) ?_)
    repeat (first | (refine W_reg rfl fun G K hG hK => ?_; simp (disch := omega) only [go_sem, ↓reduceIte, Nat.reduceEqDiff, Nat.reduceAdd, Nat.reduceLeDiff, hG, q1, q2, q3, q4, a1, a2, c1, c2]; refine hK _ _ ?_; clear hK K hG G) | (refine W_end rfl fun G K hG hK => ?_; simp (disch := omega) only [go_sem, ↓reduceIte, Nat.reduceEqDiff, Nat.reduceAdd, Nat.reduceLeDiff, hG, q1, q2, q3, q4, a1, a2, c1, c2]; refine hK _ _ ?_; clear hK K hG G; repeat (first | refine thenI ?_ | refine thenE ?_ | refine thenR ?_ | refine inBI ?_ | refine inBR ?_ | refine inBS ?_ | refine inBN (by decide) ?_)) | refine W_seqS ?_ | refine W_seqC ?_ | refine W_seqB ?_ | refine W_block ?_ | (refine W_skip ?_; repeat (first | refine thenI ?_ | refine thenE ?_ | refine thenR ?_ | refine inBI ?_ | refine inBR ?_ | refine inBS ?_ | refine inBN (by decide) ?_)) | (refine W_condT ?hc ?_; (case hc => (simp (disch := omega) only [go_sem, ↓reduceIte, Nat.reduceEqDiff, Nat.reduceAdd, Nat.reduceLeDiff, q1, q2, q3, q4, a1, a2, c1, c2]; done))) | (refine W_condF ?hc ?_; (case hc => (simp (disch := omega) only [go_sem, ↓reduceIte, Nat.reduceEqDiff, Nat.reduceAdd, Nat.reduceLeDiff, q1, q2, q3, q4, a1, a2, c1, c2]; done))))
    refine W_ret ?_; try (repeat (first | refine thenI ?_ | refine thenE ?_ | refine thenR ?_ | refine inBI ?_ | refine inBR ?_ | refine inBS ?_ | refine inBN (by decide) ?_))
    refine fin1 (.inl rfl) (by (simp (disch := omega) only [go_sem, ↓reduceIte, Nat.reduceEqDiff, Nat.reduceAdd, Nat.reduceLeDiff, q1, q2, q3, q4, a1, a2, c1, c2]); try rfl) rfl ⟨hx2.trans x3, by unfold Grd.holds; rw [h1]; rfl⟩
  | true =>
  simp (disch := omega) only [go_sem, ↓reduceIte, Nat.reduceEqDiff, Nat.reduceAdd, Nat.reduceLeDiff, q1, q2, q3, q4, a1, a2, c1, c2, hG]
  refine w_call (specGround_ok (.mk kb nb mb ab) sc _ (heb ▸ hly) (by rw [← heb]; omega) (Enc.ext x3 _ _ E4)) (by simp (disch := omega) only [go_sem, ↓reduceIte, Nat.reduceEqDiff, q1, q2, q3, q4, a1, a2, c1, c2]) ?hl ?_
  case hl => first | rfl | (simp only [go_sem, List.all_cons, List.all_nil, Bool.not_false, Bool.and_self, q1, q2, q3, q4, a1, a2, c1, c2]; done)
  rintro r_ sd ⟨x4, rfl⟩; refine ⟨fun e => (by cases e), ?_⟩
  rw [hv2]
  cases h2 : (((T.vars g.r).length : Int) == 0) with
  | false =>
    simp (disch := omega) only [go_sem, ↓reduceIte, Nat.reduceEqDiff, Nat.reduceAdd, Nat.reduceLeDiff, hG, q1, q2, q3, q4, a1, a2, c1, c2]; refine hK _ _ ?_; clear hK K hG G; repeat (first | refine thenI ?_ | refine thenE ?_ | refine thenR ?_ | refine inBI ?_ | refine inBR ?_ | refine inBS ?_ | refine inBN (by decide) ?_)
    repeat (first | (refine W_reg rfl fun G K hG hK => ?_; simp (disch := omega) only [go_sem, ↓reduceIte, Nat.reduceEqDiff, Nat.reduceAdd, Nat.reduceLeDiff, hG, q1, q2, q3, q4, a1, a2, c1, c2]; refine hK _ _ ?_; clear hK K hG G) | (refine W_end rfl fun G K hG hK => ?_; simp (disch := omega) only [go_sem, ↓reduceIte, Nat.reduceEqDiff, Nat.reduceAdd, Nat.reduceLeDiff, hG, q1, q2, q3, q4, a1, a2, c1, c2]; refine hK _ _ ?_; clear hK K hG G; repeat (first | refine thenI ?_ | refine thenE ?_ | refine thenR ?_ | refine inBI ?_ | refine inBR ?_ | refine inBS ?_ | refine inBN (by decide) ?_)) | refine W_seqS ?_ | refine W_seqC ?_ | refine W_seqB ?_ | refine W_block ?_ | (refine W_skip ?_; repeat (first | refine thenI ?_ | refine thenE ?_ | refine thenR ?_ | refine inBI ?_ | refine inBR ?_ | refine inBS ?_ | refine inBN (by decide) ?_)) | (refine W_condT ?hc ?_; (case hc => (simp (disch := omega) only [go_sem, ↓reduceIte, Nat.reduceEqDiff, Nat.reduceAdd, Nat.reduceLeDiff, q1, q2, q3, q4, a1, a2, c1, c2]; done))) | (refine W_condF ?hc ?_; (case hc => (simp (disch := omega) only [go_sem, ↓reduceIte, Nat.reduceEqDiff, Nat.reduceAdd, Nat.reduceLeDiff, q1, q2, q3, q4, a1, a2, c1, c2]; done))))
    refine W_ret ?_; try (repeat (first | refine thenI ?_ | refine thenE ?_ | refine thenR ?_ | refine inBI ?_ | refine inBR ?_ | refine inBS ?_ | refine inBN (by decide) ?_))
    refine fin1 (.inl rfl) (by (simp (disch := omega) only [go_sem, ↓reduceIte, Nat.reduceEqDiff, Nat.reduceAdd, Nat.reduceLeDiff, q1, q2, q3, q4, a1, a2, c1, c2]); try rfl) rfl ⟨(hx2.trans x3).trans x4, by unfold Grd.holds; rw [h1, h2]; rfl⟩
  | true =>
  have hh : g.holds = (if (g.k == 1) = true then T.eqv g.l.red g.r.red else if (g.k == 2) = true then !T.eqv g.l.red g.r.red else if (g.k == 3) = true then (g.l.red.isW && (g.r.red.isW && decide (g.l.red.num < g.r.red.num))) else false) := by
    unfold Grd.holds; rw [h1, h2]; rfl
  have hx4 := (hx2.trans x3).trans x4
  have Ex := Enc.ext ((x2.trans x3).trans x4) _ _ E3
  have Ey := Enc.ext (x3.trans x4) _ _ E4
  have Rx := Rw.ext (α := T) hr3 ((x2.trans x3).trans x4)
  have Ry := Rw.ext (α := T) hr4 (x3.trans x4)
  simp (disch := omega) only [go_sem, ↓reduceIte, Nat.reduceEqDiff, Nat.reduceAdd, Nat.reduceLeDiff, hG, q1, q2, q3, q4, a1, a2, c1, c2]; refine hK _ _ ?_; clear hK K hG G; repeat (first | refine thenI ?_ | refine thenE ?_ | refine thenR ?_ | refine inBI ?_ | refine inBR ?_ | refine inBS ?_ | refine inBN (by decide) ?_)
  repeat (first | (refine W_reg rfl fun G K hG hK => ?_; simp (disch := omega) only [go_sem, ↓reduceIte, Nat.reduceEqDiff, Nat.reduceAdd, Nat.reduceLeDiff, hG, q1, q2, q3, q4, a1, a2, c1, c2]; refine hK _ _ ?_; clear hK K hG G) | (refine W_end rfl fun G K hG hK => ?_; simp (disch := omega) only [go_sem, ↓reduceIte, Nat.reduceEqDiff, Nat.reduceAdd, Nat.reduceLeDiff, hG, q1, q2, q3, q4, a1, a2, c1, c2]; refine hK _ _ ?_; clear hK K hG G; repeat (first | refine thenI ?_ | refine thenE ?_ | refine thenR ?_ | refine inBI ?_ | refine inBR ?_ | refine inBS ?_ | refine inBN (by decide) ?_)) | refine W_seqS ?_ | refine W_seqC ?_ | refine W_seqB ?_ | refine W_block ?_ | (refine W_skip ?_; repeat (first | refine thenI ?_ | refine thenE ?_ | refine thenR ?_ | refine inBI ?_ | refine inBR ?_ | refine inBS ?_ | refine inBN (by decide) ?_)) | (refine W_condT ?hc ?_; (case hc => (simp (disch := omega) only [go_sem, ↓reduceIte, Nat.reduceEqDiff, Nat.reduceAdd, Nat.reduceLeDiff, q1, q2, q3, q4, a1, a2, c1, c2]; done))) | (refine W_condF ?hc ?_; (case hc => (simp (disch := omega) only [go_sem, ↓reduceIte, Nat.reduceEqDiff, Nat.reduceAdd, Nat.reduceLeDiff, q1, q2, q3, q4, a1, a2, c1, c2]; done))))
  cases hk1 : (g.k == 1) with
  | true =>
    repeat (first | (refine W_reg rfl fun G K hG hK => ?_; simp (disch := omega) only [go_sem, ↓reduceIte, Nat.reduceEqDiff, Nat.reduceAdd, Nat.reduceLeDiff, hG, q1, q2, q3, q4, a1, a2, c1, c2, hk1]; refine hK _ _ ?_; clear hK K hG G) | (refine W_end rfl fun G K hG hK => ?_; simp (disch := omega) only [go_sem, ↓reduceIte, Nat.reduceEqDiff, Nat.reduceAdd, Nat.reduceLeDiff, hG, q1, q2, q3, q4, a1, a2, c1, c2, hk1]; refine hK _ _ ?_; clear hK K hG G; repeat (first | refine thenI ?_ | refine thenE ?_ | refine thenR ?_ | refine inBI ?_ | refine inBR ?_ | refine inBS ?_ | refine inBN (by decide) ?_)) | refine W_seqS ?_ | refine W_seqC ?_ | refine W_seqB ?_ | refine W_block ?_ | (refine W_skip ?_; repeat (first | refine thenI ?_ | refine thenE ?_ | refine thenR ?_ | refine inBI ?_ | refine inBR ?_ | refine inBS ?_ | refine inBN (by decide) ?_)) | (refine W_condT ?hc ?_; (case hc => (simp (disch := omega) only [go_sem, ↓reduceIte, Nat.reduceEqDiff, Nat.reduceAdd, Nat.reduceLeDiff, q1, q2, q3, q4, a1, a2, c1, c2, hk1]; done))) | (refine W_condF ?hc ?_; (case hc => (simp (disch := omega) only [go_sem, ↓reduceIte, Nat.reduceEqDiff, Nat.reduceAdd, Nat.reduceLeDiff, q1, q2, q3, q4, a1, a2, c1, c2, hk1]; done))))
    (repeat (first | refine W_seqS ?_ | refine W_seqC ?_ | refine W_seqB ?_ | refine W_block ?_)); refine W_reg rfl fun G K hG hK => ?_; simp (disch := omega) only [go_sem, ↓reduceIte, Nat.reduceEqDiff, Nat.reduceAdd, Nat.reduceLeDiff, hG, q1, q2, q3, q4, a1, a2, c1, c2]
    refine w_call (specEq_ok (.mk ka na ma aa) (.mk kb nb mb ab) sd _ _ (hea ▸ hlx) (heb ▸ hly) Ex Ey) (by simp (disch := omega) only [go_sem, ↓reduceIte, Nat.reduceEqDiff, q1, q2, q3, q4, a1, a2, c1, c2]) ?hl ?_
    case hl => first | rfl | (simp only [go_sem, List.all_cons, List.all_nil, Bool.not_false, Bool.and_self, q1, q2, q3, q4, a1, a2, c1, c2]; done)
    rintro r_ sd ⟨rfl, rfl⟩; refine ⟨fun e => (by cases e), ?_⟩
    simp (disch := omega) only [go_sem, ↓reduceIte, Nat.reduceEqDiff, Nat.reduceAdd, Nat.reduceLeDiff, hG, q1, q2, q3, q4, a1, a2, c1, c2]; refine hK _ _ ?_; clear hK K hG G; repeat (first | refine thenI ?_ | refine thenE ?_ | refine thenR ?_ | refine inBI ?_ | refine inBR ?_ | refine inBS ?_ | refine inBN (by decide) ?_)
    repeat (first | (refine W_reg rfl fun G K hG hK => ?_; simp (disch := omega) only [go_sem, ↓reduceIte, Nat.reduceEqDiff, Nat.reduceAdd, Nat.reduceLeDiff, hG, q1, q2, q3, q4, a1, a2, c1, c2]; refine hK _ _ ?_; clear hK K hG G) | (refine W_end rfl fun G K hG hK => ?_; simp (disch := omega) only [go_sem, ↓reduceIte, Nat.reduceEqDiff, Nat.reduceAdd, Nat.reduceLeDiff, hG, q1, q2, q3, q4, a1, a2, c1, c2]; refine hK _ _ ?_; clear hK K hG G; repeat (first | refine thenI ?_ | refine thenE ?_ | refine thenR ?_ | refine inBI ?_ | refine inBR ?_ | refine inBS ?_ | refine inBN (by decide) ?_)) | refine W_seqS ?_ | refine W_seqC ?_ | refine W_seqB ?_ | refine W_block ?_ | (refine W_skip ?_; repeat (first | refine thenI ?_ | refine thenE ?_ | refine thenR ?_ | refine inBI ?_ | refine inBR ?_ | refine inBS ?_ | refine inBN (by decide) ?_)) | (refine W_condT ?hc ?_; (case hc => (simp (disch := omega) only [go_sem, ↓reduceIte, Nat.reduceEqDiff, Nat.reduceAdd, Nat.reduceLeDiff, q1, q2, q3, q4, a1, a2, c1, c2]; done))) | (refine W_condF ?hc ?_; (case hc => (simp (disch := omega) only [go_sem, ↓reduceIte, Nat.reduceEqDiff, Nat.reduceAdd, Nat.reduceLeDiff, q1, q2, q3, q4, a1, a2, c1, c2]; done))))
    refine W_ret ?_; try (repeat (first | refine thenI ?_ | refine thenE ?_ | refine thenR ?_ | refine inBI ?_ | refine inBR ?_ | refine inBS ?_ | refine inBN (by decide) ?_))
    refine fin1 (.inl rfl) (by (simp (disch := omega) only [go_sem, ↓reduceIte, Nat.reduceEqDiff, Nat.reduceAdd, Nat.reduceLeDiff, q1, q2, q3, q4, a1, a2, c1, c2]); try rfl) rfl ⟨hx4, by rw [hh, if_pos hk1, hea, heb]⟩
  | false =>
  cases hk2 : (g.k == 2) with
  | true =>
    repeat (first | (refine W_reg rfl fun G K hG hK => ?_; simp (disch := omega) only [go_sem, ↓reduceIte, Nat.reduceEqDiff, Nat.reduceAdd, Nat.reduceLeDiff, hG, q1, q2, q3, q4, a1, a2, c1, c2, hk1, hk2]; refine hK _ _ ?_; clear hK K hG G) | (refine W_end rfl fun G K hG hK => ?_; simp (disch := omega) only [go_sem, ↓reduceIte, Nat.reduceEqDiff, Nat.reduceAdd, Nat.reduceLeDiff, hG, q1, q2, q3, q4, a1, a2, c1, c2, hk1, hk2]; refine hK _ _ ?_; clear hK K hG G; repeat (first | refine thenI ?_ | refine thenE ?_ | refine thenR ?_ | refine inBI ?_ | refine inBR ?_ | refine inBS ?_ | refine inBN (by decide) ?_)) | refine W_seqS ?_ | refine W_seqC ?_ | refine W_seqB ?_ | refine W_block ?_ | (refine W_skip ?_; repeat (first | refine thenI ?_ | refine thenE ?_ | refine thenR ?_ | refine inBI ?_ | refine inBR ?_ | refine inBS ?_ | refine inBN (by decide) ?_)) | (refine W_condT ?hc ?_; (case hc => (simp (disch := omega) only [go_sem, ↓reduceIte, Nat.reduceEqDiff, Nat.reduceAdd, Nat.reduceLeDiff, q1, q2, q3, q4, a1, a2, c1, c2, hk1, hk2]; done))) | (refine W_condF ?hc ?_; (case hc => (simp (disch := omega) only [go_sem, ↓reduceIte, Nat.reduceEqDiff, Nat.reduceAdd, Nat.reduceLeDiff, q1, q2, q3, q4, a1, a2, c1, c2, hk1, hk2]; done))))
    (repeat (first | refine W_seqS ?_ | refine W_seqC ?_ | refine W_seqB ?_ | refine W_block ?_)); refine W_reg rfl fun G K hG hK => ?_; simp (disch := omega) only [go_sem, ↓reduceIte, Nat.reduceEqDiff, Nat.reduceAdd, Nat.reduceLeDiff, hG, q1, q2, q3, q4, a1, a2, c1, c2]
    refine w_call (specEq_ok (.mk ka na ma aa) (.mk kb nb mb ab) sd _ _ (hea ▸ hlx) (heb ▸ hly) Ex Ey) (by simp (disch := omega) only [go_sem, ↓reduceIte, Nat.reduceEqDiff, q1, q2, q3, q4, a1, a2, c1, c2]) ?hl ?_
    case hl => first | rfl | (simp only [go_sem, List.all_cons, List.all_nil, Bool.not_false, Bool.and_self, q1, q2, q3, q4, a1, a2, c1, c2]; done)
    rintro r_ sd ⟨rfl, rfl⟩; refine ⟨fun e => (by cases e), ?_⟩
    simp (disch := omega) only [go_sem, ↓reduceIte, Nat.reduceEqDiff, Nat.reduceAdd, Nat.reduceLeDiff, hG, q1, q2, q3, q4, a1, a2, c1, c2]; refine hK _ _ ?_; clear hK K hG G; repeat (first | refine thenI ?_ | refine thenE ?_ | refine thenR ?_ | refine inBI ?_ | refine inBR ?_ | refine inBS ?_ | refine inBN (by decide) ?_)
    repeat (first | (refine W_reg rfl fun G K hG hK => ?_; simp (disch := omega) only [go_sem, ↓reduceIte, Nat.reduceEqDiff, Nat.reduceAdd, Nat.reduceLeDiff, hG, q1, q2, q3, q4, a1, a2, c1, c2]; refine hK _ _ ?_; clear hK K hG G) | (refine W_end rfl fun G K hG hK => ?_; simp (disch := omega) only [go_sem, ↓reduceIte, Nat.reduceEqDiff, Nat.reduceAdd, Nat.reduceLeDiff, hG, q1, q2, q3, q4, a1, a2, c1, c2]; refine hK _ _ ?_; clear hK K hG G; repeat (first | refine thenI ?_ | refine thenE ?_ | refine thenR ?_ | refine inBI ?_ | refine inBR ?_ | refine inBS ?_ | refine inBN (by decide) ?_)) | refine W_seqS ?_ | refine W_seqC ?_ | refine W_seqB ?_ | refine W_block ?_ | (refine W_skip ?_; repeat (first | refine thenI ?_ | refine thenE ?_ | refine thenR ?_ | refine inBI ?_ | refine inBR ?_ | refine inBS ?_ | refine inBN (by decide) ?_)) | (refine W_condT ?hc ?_; (case hc => (simp (disch := omega) only [go_sem, ↓reduceIte, Nat.reduceEqDiff, Nat.reduceAdd, Nat.reduceLeDiff, q1, q2, q3, q4, a1, a2, c1, c2]; done))) | (refine W_condF ?hc ?_; (case hc => (simp (disch := omega) only [go_sem, ↓reduceIte, Nat.reduceEqDiff, Nat.reduceAdd, Nat.reduceLeDiff, q1, q2, q3, q4, a1, a2, c1, c2]; done))))
    refine W_ret ?_; try (repeat (first | refine thenI ?_ | refine thenE ?_ | refine thenR ?_ | refine inBI ?_ | refine inBR ?_ | refine inBS ?_ | refine inBN (by decide) ?_))
    refine fin1 (.inl rfl) (by (simp (disch := omega) only [go_sem, ↓reduceIte, Nat.reduceEqDiff, Nat.reduceAdd, Nat.reduceLeDiff, q1, q2, q3, q4, a1, a2, c1, c2]); try rfl) rfl ⟨hx4, by rw [hh, if_neg (by rw [hk1]; simp), if_pos hk2, hea, heb]⟩
  | false =>
  cases hk3 : (g.k == 3) with
  | false =>
    repeat (first | (refine W_reg rfl fun G K hG hK => ?_; simp (disch := omega) only [go_sem, ↓reduceIte, Nat.reduceEqDiff, Nat.reduceAdd, Nat.reduceLeDiff, hG, q1, q2, q3, q4, a1, a2, c1, c2, hk1, hk2, hk3]; refine hK _ _ ?_; clear hK K hG G) | (refine W_end rfl fun G K hG hK => ?_; simp (disch := omega) only [go_sem, ↓reduceIte, Nat.reduceEqDiff, Nat.reduceAdd, Nat.reduceLeDiff, hG, q1, q2, q3, q4, a1, a2, c1, c2, hk1, hk2, hk3]; refine hK _ _ ?_; clear hK K hG G; repeat (first | refine thenI ?_ | refine thenE ?_ | refine thenR ?_ | refine inBI ?_ | refine inBR ?_ | refine inBS ?_ | refine inBN (by decide) ?_)) | refine W_seqS ?_ | refine W_seqC ?_ | refine W_seqB ?_ | refine W_block ?_ | (refine W_skip ?_; repeat (first | refine thenI ?_ | refine thenE ?_ | refine thenR ?_ | refine inBI ?_ | refine inBR ?_ | refine inBS ?_ | refine inBN (by decide) ?_)) | (refine W_condT ?hc ?_; (case hc => (simp (disch := omega) only [go_sem, ↓reduceIte, Nat.reduceEqDiff, Nat.reduceAdd, Nat.reduceLeDiff, q1, q2, q3, q4, a1, a2, c1, c2, hk1, hk2, hk3]; done))) | (refine W_condF ?hc ?_; (case hc => (simp (disch := omega) only [go_sem, ↓reduceIte, Nat.reduceEqDiff, Nat.reduceAdd, Nat.reduceLeDiff, q1, q2, q3, q4, a1, a2, c1, c2, hk1, hk2, hk3]; done))))
    refine W_ret ?_; try (repeat (first | refine thenI ?_ | refine thenE ?_ | refine thenR ?_ | refine inBI ?_ | refine inBR ?_ | refine inBS ?_ | refine inBN (by decide) ?_))
    refine fin1 (.inl rfl) (by (simp (disch := omega) only [go_sem, ↓reduceIte, Nat.reduceEqDiff, Nat.reduceAdd, Nat.reduceLeDiff, q1, q2, q3, q4, a1, a2, c1, c2]); try rfl) rfl ⟨hx4, by rw [hh, if_neg (by rw [hk1]; simp), if_neg (by rw [hk2]; simp), if_neg (by rw [hk3]; simp)]⟩
  | true =>
  have hh3 : g.holds = ((T.mk ka na ma aa).isW && ((T.mk kb nb mb ab).isW && decide (na < nb))) := by rw [hh, if_neg (by rw [hk1]; simp), if_neg (by rw [hk2]; simp), if_pos hk3, hea, heb]; rfl
  repeat (first | (refine W_reg rfl fun G K hG hK => ?_; simp (disch := omega) only [go_sem, ↓reduceIte, Nat.reduceEqDiff, Nat.reduceAdd, Nat.reduceLeDiff, hG, q1, q2, q3, q4, a1, a2, c1, c2, hk1, hk2, hk3]; refine hK _ _ ?_; clear hK K hG G) | (refine W_end rfl fun G K hG hK => ?_; simp (disch := omega) only [go_sem, ↓reduceIte, Nat.reduceEqDiff, Nat.reduceAdd, Nat.reduceLeDiff, hG, q1, q2, q3, q4, a1, a2, c1, c2, hk1, hk2, hk3]; refine hK _ _ ?_; clear hK K hG G; repeat (first | refine thenI ?_ | refine thenE ?_ | refine thenR ?_ | refine inBI ?_ | refine inBR ?_ | refine inBS ?_ | refine inBN (by decide) ?_)) | refine W_seqS ?_ | refine W_seqC ?_ | refine W_seqB ?_ | refine W_block ?_ | (refine W_skip ?_; repeat (first | refine thenI ?_ | refine thenE ?_ | refine thenR ?_ | refine inBI ?_ | refine inBR ?_ | refine inBS ?_ | refine inBN (by decide) ?_)) | (refine W_condT ?hc ?_; (case hc => (simp (disch := omega) only [go_sem, ↓reduceIte, Nat.reduceEqDiff, Nat.reduceAdd, Nat.reduceLeDiff, q1, q2, q3, q4, a1, a2, c1, c2, hk1, hk2, hk3]; done))) | (refine W_condF ?hc ?_; (case hc => (simp (disch := omega) only [go_sem, ↓reduceIte, Nat.reduceEqDiff, Nat.reduceAdd, Nat.reduceLeDiff, q1, q2, q3, q4, a1, a2, c1, c2, hk1, hk2, hk3]; done))))
  (repeat (first | refine W_seqS ?_ | refine W_seqC ?_ | refine W_seqB ?_ | refine W_block ?_)); refine W_reg rfl fun G K hG hK => ?_; simp (disch := omega) only [go_sem, ↓reduceIte, Nat.reduceEqDiff, Nat.reduceAdd, Nat.reduceLeDiff, hG, q1, q2, q3, q4, a1, a2, c1, c2]
  refine w_call (specIsW_of ka na ma aa sd s3 Rx) (by simp (disch := omega) only [go_sem, ↓reduceIte, Nat.reduceEqDiff, q1, q2, q3, q4, a1, a2, c1, c2]) ?hl ?_
  case hl => first | rfl | (simp only [go_sem, List.all_cons, List.all_nil, Bool.not_false, Bool.and_self, q1, q2, q3, q4, a1, a2, c1, c2]; done)
  rintro r_ sd ⟨rfl, rfl⟩; refine ⟨fun e => (by cases e), ?_⟩
  cases w1 : (T.mk ka na ma aa).isW with
  | false =>
    simp (disch := omega) only [go_sem, ↓reduceIte, Nat.reduceEqDiff, Nat.reduceAdd, Nat.reduceLeDiff, hG, q1, q2, q3, q4, a1, a2, c1, c2]; refine hK _ _ ?_; clear hK K hG G; repeat (first | refine thenI ?_ | refine thenE ?_ | refine thenR ?_ | refine inBI ?_ | refine inBR ?_ | refine inBS ?_ | refine inBN (by decide) ?_)
    repeat (first | (refine W_reg rfl fun G K hG hK => ?_; simp (disch := omega) only [go_sem, ↓reduceIte, Nat.reduceEqDiff, Nat.reduceAdd, Nat.reduceLeDiff, hG, q1, q2, q3, q4, a1, a2, c1, c2]; refine hK _ _ ?_; clear hK K hG G) | (refine W_end rfl fun G K hG hK => ?_; simp (disch := omega) only [go_sem, ↓reduceIte, Nat.reduceEqDiff, Nat.reduceAdd, Nat.reduceLeDiff, hG, q1, q2, q3, q4, a1, a2, c1, c2]; refine hK _ _ ?_; clear hK K hG G; repeat (first | refine thenI ?_ | refine thenE ?_ | refine thenR ?_ | refine inBI ?_ | refine inBR ?_ | refine inBS ?_ | refine inBN (by decide) ?_)) | refine W_seqS ?_ | refine W_seqC ?_ | refine W_seqB ?_ | refine W_block ?_ | (refine W_skip ?_; repeat (first | refine thenI ?_ | refine thenE ?_ | refine thenR ?_ | refine inBI ?_ | refine inBR ?_ | refine inBS ?_ | refine inBN (by decide) ?_)) | (refine W_condT ?hc ?_; (case hc => (simp (disch := omega) only [go_sem, ↓reduceIte, Nat.reduceEqDiff, Nat.reduceAdd, Nat.reduceLeDiff, q1, q2, q3, q4, a1, a2, c1, c2]; done))) | (refine W_condF ?hc ?_; (case hc => (simp (disch := omega) only [go_sem, ↓reduceIte, Nat.reduceEqDiff, Nat.reduceAdd, Nat.reduceLeDiff, q1, q2, q3, q4, a1, a2, c1, c2]; done))))
    refine W_ret ?_; try (repeat (first | refine thenI ?_ | refine thenE ?_ | refine thenR ?_ | refine inBI ?_ | refine inBR ?_ | refine inBS ?_ | refine inBN (by decide) ?_))
    refine fin1 (.inl rfl) (by (simp (disch := omega) only [go_sem, ↓reduceIte, Nat.reduceEqDiff, Nat.reduceAdd, Nat.reduceLeDiff, q1, q2, q3, q4, a1, a2, c1, c2]); try rfl) rfl ⟨hx4, by rw [hh3, w1]; rfl⟩
  | true =>
  simp (disch := omega) only [go_sem, ↓reduceIte, Nat.reduceEqDiff, Nat.reduceAdd, Nat.reduceLeDiff, q1, q2, q3, q4, a1, a2, c1, c2, hG]
  refine w_call (specIsW_of kb nb mb ab sd s4 Ry) (by simp (disch := omega) only [go_sem, ↓reduceIte, Nat.reduceEqDiff, q1, q2, q3, q4, a1, a2, c1, c2]) ?hl ?_
  case hl => first | rfl | (simp only [go_sem, List.all_cons, List.all_nil, Bool.not_false, Bool.and_self, q1, q2, q3, q4, a1, a2, c1, c2]; done)
  rintro r_ sd ⟨rfl, rfl⟩; refine ⟨fun e => (by cases e), ?_⟩
  cases w2 : (T.mk kb nb mb ab).isW with
  | false =>
    simp (disch := omega) only [go_sem, ↓reduceIte, Nat.reduceEqDiff, Nat.reduceAdd, Nat.reduceLeDiff, hG, q1, q2, q3, q4, a1, a2, c1, c2]; refine hK _ _ ?_; clear hK K hG G; repeat (first | refine thenI ?_ | refine thenE ?_ | refine thenR ?_ | refine inBI ?_ | refine inBR ?_ | refine inBS ?_ | refine inBN (by decide) ?_)
    repeat (first | (refine W_reg rfl fun G K hG hK => ?_; simp (disch := omega) only [go_sem, ↓reduceIte, Nat.reduceEqDiff, Nat.reduceAdd, Nat.reduceLeDiff, hG, q1, q2, q3, q4, a1, a2, c1, c2]; refine hK _ _ ?_; clear hK K hG G) | (refine W_end rfl fun G K hG hK => ?_; simp (disch := omega) only [go_sem, ↓reduceIte, Nat.reduceEqDiff, Nat.reduceAdd, Nat.reduceLeDiff, hG, q1, q2, q3, q4, a1, a2, c1, c2]; refine hK _ _ ?_; clear hK K hG G; repeat (first | refine thenI ?_ | refine thenE ?_ | refine thenR ?_ | refine inBI ?_ | refine inBR ?_ | refine inBS ?_ | refine inBN (by decide) ?_)) | refine W_seqS ?_ | refine W_seqC ?_ | refine W_seqB ?_ | refine W_block ?_ | (refine W_skip ?_; repeat (first | refine thenI ?_ | refine thenE ?_ | refine thenR ?_ | refine inBI ?_ | refine inBR ?_ | refine inBS ?_ | refine inBN (by decide) ?_)) | (refine W_condT ?hc ?_; (case hc => (simp (disch := omega) only [go_sem, ↓reduceIte, Nat.reduceEqDiff, Nat.reduceAdd, Nat.reduceLeDiff, q1, q2, q3, q4, a1, a2, c1, c2]; done))) | (refine W_condF ?hc ?_; (case hc => (simp (disch := omega) only [go_sem, ↓reduceIte, Nat.reduceEqDiff, Nat.reduceAdd, Nat.reduceLeDiff, q1, q2, q3, q4, a1, a2, c1, c2]; done))))
    refine W_ret ?_; try (repeat (first | refine thenI ?_ | refine thenE ?_ | refine thenR ?_ | refine inBI ?_ | refine inBR ?_ | refine inBS ?_ | refine inBN (by decide) ?_))
    refine fin1 (.inl rfl) (by (simp (disch := omega) only [go_sem, ↓reduceIte, Nat.reduceEqDiff, Nat.reduceAdd, Nat.reduceLeDiff, q1, q2, q3, q4, a1, a2, c1, c2]); try rfl) rfl ⟨hx4, by rw [hh3, w1, w2]; rfl⟩
  | true =>
    simp (disch := omega) only [go_sem, ↓reduceIte, Nat.reduceEqDiff, Nat.reduceAdd, Nat.reduceLeDiff, hG, q1, q2, q3, q4, a1, a2, c1, c2]; refine hK _ _ ?_; clear hK K hG G; repeat (first | refine thenI ?_ | refine thenE ?_ | refine thenR ?_ | refine inBI ?_ | refine inBR ?_ | refine inBS ?_ | refine inBN (by decide) ?_)
    repeat (first | (refine W_reg rfl fun G K hG hK => ?_; simp (disch := omega) only [go_sem, ↓reduceIte, Nat.reduceEqDiff, Nat.reduceAdd, Nat.reduceLeDiff, hG, q1, q2, q3, q4, a1, a2, c1, c2]; refine hK _ _ ?_; clear hK K hG G) | (refine W_end rfl fun G K hG hK => ?_; simp (disch := omega) only [go_sem, ↓reduceIte, Nat.reduceEqDiff, Nat.reduceAdd, Nat.reduceLeDiff, hG, q1, q2, q3, q4, a1, a2, c1, c2]; refine hK _ _ ?_; clear hK K hG G; repeat (first | refine thenI ?_ | refine thenE ?_ | refine thenR ?_ | refine inBI ?_ | refine inBR ?_ | refine inBS ?_ | refine inBN (by decide) ?_)) | refine W_seqS ?_ | refine W_seqC ?_ | refine W_seqB ?_ | refine W_block ?_ | (refine W_skip ?_; repeat (first | refine thenI ?_ | refine thenE ?_ | refine thenR ?_ | refine inBI ?_ | refine inBR ?_ | refine inBS ?_ | refine inBN (by decide) ?_)) | (refine W_condT ?hc ?_; (case hc => (simp (disch := omega) only [go_sem, ↓reduceIte, Nat.reduceEqDiff, Nat.reduceAdd, Nat.reduceLeDiff, q1, q2, q3, q4, a1, a2, c1, c2]; done))) | (refine W_condF ?hc ?_; (case hc => (simp (disch := omega) only [go_sem, ↓reduceIte, Nat.reduceEqDiff, Nat.reduceAdd, Nat.reduceLeDiff, q1, q2, q3, q4, a1, a2, c1, c2]; done))))
    refine W_ret ?_; try (repeat (first | refine thenI ?_ | refine thenE ?_ | refine thenR ?_ | refine inBI ?_ | refine inBR ?_ | refine inBS ?_ | refine inBN (by decide) ?_))
    refine fin1 (.inl rfl) (by (simp (disch := omega) only [go_sem, ↓reduceIte, Nat.reduceEqDiff, Nat.reduceAdd, Nat.reduceLeDiff, q1, q2, q3, q4, a1, a2, c1, c2]); try rfl) rfl ⟨hx4, by rw [hh3, w1, w2]; rfl⟩
end Go.Proofs.Ytfckojbllbdejaa.AM


/- Guards drawn: l9Draw, l9Bent, DrawHoldsGuard; DrawReduceWords; the law FnWords. -/
namespace Go.Proofs.Ytfckojbllbdejaa.AM
open Go Go.Proofs
set_option linter.unusedVariables false
set_option linter.unusedSimpArgs false
set_option maxRecDepth 100000
attribute [local go_sem] List.map_cons List.map_nil List.all_cons List.all_nil Bool.and_self Option.map_some List.getElem?_toArray Option.bind_some gye_b gye_t gsk_b gsk_t gb1 gb2 gb3 gb4 bne_self_eq_false beq_self_eq_true w_guard w_nil stepV_some step_some step_some' w_move w_assign w_pick w_binOp w_unOp w_load w_fieldAddr w_indexAddr w_len w_max w_index ev_max max_int ev_index w_box w_alloc w_store w_field w_extract w_nilCheck w_convert w_buildSlice w_build ev_buildL fillL_nil fillL_cons bs0 bs1 ev_conv ev_bin ev_un ev_pick ev_load ev_fieldAddr ev_indexAddr ev_len ev_field ev_extract ev_nilCheck fr_tmp fr_int fr_bool fr_str fr_nil fr_func put_some put_none bin_lss bin_leq bin_gtr bin_geq bin_eql bin_neq bin_add bin_sub bin_mul bin_seql bin_sneq un_not pick_ ext_ loadA_p cellAt_l cellAt_h okPtr_l okPtr_h fadA_p allocA_l storeA_l cells_agg cells_int cells_str cells_sl cells_bool flat_i flat_s flat_b flat_sl flat_nil loc_agg loc_int loc_str loc_sl loc_bool loc_fn loc_ptr okv_agg okv_int okv_str okv_sl okv_bool cellsFrom splice upd_eval argEnv_zero argEnv_succ ne_eq Nat.add_one_ne_zero not_false_eq_true List.not_mem_nil and_self decide_true List.getElem?_cons_zero List.getElem?_cons_succ List.size_toArray List.length_cons List.length_nil List.take_succ_cons List.take_zero List.drop_succ_cons List.drop_zero List.cons_append List.nil_append List.drop_nil Bool.not_true Bool.not_false Bool.false_eq_true Nat.zero_add Nat.add_zero wrap_in List.toList_toArray List.mem_cons or_self or_false false_or
attribute [local go_sem] ag22 ag24 ag26 ag3 ag31 ag5 ag9 bu26 bu31 bu51 by26 by9 el22 el24 el42 el45 of26_0 of26_1 of26_2 of26_3 of31_0 of31_1 of31_2 of51_0 of51_1 of51_2 ro26_0 ro26_1 ro26_2 ro3_3 ro9_0 ro9_1 ro9_2 ro9_3 ro9_4 sz22 sz24 sz26 sz3 sz31 sz5 sz9 ze26 ze31 ze9
-- AUTO

def DrawG (q : Nat) (xs : List Byt) (st : St) (r : Value) (st2 : St) : Prop := Drawn q xs st st2 ∧ ∃ k a b kl nl ml sl kr nr mr sr L1 L2, r = .agg #[.int .i64 k, .int .i64 kl, .int .i64 nl, .string ml, sl, .int .i64 kr, .int .i64 nr, .string mr, sr] ∧
  OwnT st2 a [.int .i64 kl, .int .i64 nl, .string ml, sl] L1 ∧ Fresh st.length L1 ∧ OwnT st2 b [.int .i64 kr, .int .i64 nr, .string mr, sr] L2 ∧ Fresh st.length L2 ∧ a.wt ≤ 200 ∧ b.wt ≤ 200 ∧ 0 ≤ k ∧ k ≤ 6
theorem l9Draw_ok (q : Nat) (xs : List Byt) (st : St) (hq : Cur st q xs) :
    CallS Try.prog 37 [.pointer (some ⟨q, 0, none⟩)] st (DrawG q xs st) := by
  refine CallS_of_W [] 29 Try.func37 rfl rfl rfl rfl (by simp) ?_
  have hlq := hq.lt
  repeat (first | (refine W_reg rfl fun G K hG hK => ?_; simp (disch := omega) only [go_sem, ↓reduceIte, Nat.reduceEqDiff, Nat.reduceAdd, Nat.reduceLeDiff, hG]; refine hK _ _ ?_; clear hK K hG G) | (refine W_end rfl fun G K hG hK => ?_; simp (disch := omega) only [go_sem, ↓reduceIte, Nat.reduceEqDiff, Nat.reduceAdd, Nat.reduceLeDiff, hG]; refine hK _ _ ?_; clear hK K hG G; repeat (first | refine thenI ?_ | refine thenE ?_ | refine thenR ?_ | refine inBI ?_ | refine inBR ?_ | refine inBS ?_ | refine inBN (by decide) ?_)) | refine W_seqS ?_ | refine W_seqC ?_ | refine W_seqB ?_ | refine W_block ?_ | (refine W_skip ?_; repeat (first | refine thenI ?_ | refine thenE ?_ | refine thenR ?_ | refine inBI ?_ | refine inBR ?_ | refine inBS ?_ | refine inBN (by decide) ?_)) | (refine W_condT ?hc ?_; (case hc => (simp (disch := omega) only [go_sem, ↓reduceIte, Nat.reduceEqDiff, Nat.reduceAdd, Nat.reduceLeDiff]; done))) | (refine W_condF ?hc ?_; (case hc => (simp (disch := omega) only [go_sem, ↓reduceIte, Nat.reduceEqDiff, Nat.reduceAdd, Nat.reduceLeDiff]; done))))
  (repeat (first | refine W_seqS ?_ | refine W_seqC ?_ | refine W_seqB ?_ | refine W_block ?_)); refine W_reg rfl fun G K hG hK => ?_; simp (disch := omega) only [go_sem, ↓reduceIte, Nat.reduceEqDiff, Nat.reduceAdd, Nat.reduceLeDiff, hG]
  refine w_call (l1Once_ok q xs st 2 (by omega) (by omega) hq) (by simp (disch := omega) only [go_sem, ↓reduceIte, Nat.reduceEqDiff]) ?hl ?_
  case hl => first | rfl | (simp only [go_sem, List.all_cons, List.all_nil, Bool.not_false, Bool.and_self]; done)
  rintro r_ sa ⟨⟨g, rfl⟩, hd, hl⟩; refine ⟨fun e => (by cases e), ?_⟩
  simp (disch := omega) only [go_sem, ↓reduceIte, Nat.reduceEqDiff, Nat.reduceAdd, Nat.reduceLeDiff, hG]; refine hK _ _ ?_; clear hK K hG G; repeat (first | refine thenI ?_ | refine thenE ?_ | refine thenR ?_ | refine inBI ?_ | refine inBR ?_ | refine inBS ?_ | refine inBN (by decide) ?_)
  (repeat (first | refine W_seqS ?_ | refine W_seqC ?_ | refine W_seqB ?_ | refine W_block ?_)); refine W_reg rfl fun G K hG hK => ?_; simp (disch := omega) only [go_sem, ↓reduceIte, Nat.reduceEqDiff, Nat.reduceAdd, Nat.reduceLeDiff, hG]
  refine w_call (l1Below_ok q xs sa 3 (by omega) (by omega) hd.cur) (by simp (disch := omega) only [go_sem, ↓reduceIte, Nat.reduceEqDiff]) ?hl ?_
  case hl => first | rfl | (simp only [go_sem, List.all_cons, List.all_nil, Bool.not_false, Bool.and_self]; done)
  rintro r_ sb ⟨⟨x, rfl, hx0, hx1⟩, hd2, hl2⟩; refine ⟨fun e => (by cases e), ?_⟩
  simp (disch := omega) only [go_sem, ↓reduceIte, Nat.reduceEqDiff, Nat.reduceAdd, Nat.reduceLeDiff]
  refine w_call (l6Word3_ok q xs g sb hd2.cur) (by simp (disch := omega) only [go_sem, ↓reduceIte, Nat.reduceEqDiff]) ?hl ?_
  case hl => first | rfl | (simp only [go_sem, List.all_cons, List.all_nil, Bool.not_false, Bool.and_self]; done)
  rintro r_ sc ⟨hd3, a, c1, L1, rfl, ho1, hf1, hp1⟩; refine ⟨fun e => (by cases e), ?_⟩
  obtain ⟨kl, nl, ml, sl, rfl, a1, a2, a3⟩ := ho1.args_cells
  simp (disch := omega) only [go_sem, ↓reduceIte, Nat.reduceEqDiff, Nat.reduceAdd, Nat.reduceLeDiff, hG, a1, a2, a3]; refine hK _ _ ?_; clear hK K hG G; repeat (first | refine thenI ?_ | refine thenE ?_ | refine thenR ?_ | refine inBI ?_ | refine inBR ?_ | refine inBS ?_ | refine inBN (by decide) ?_)
  have hm1 : st.length ≤ sb.length := (hd.trans hd2).away.1
  (repeat (first | refine W_seqS ?_ | refine W_seqC ?_ | refine W_seqB ?_ | refine W_block ?_)); refine W_reg rfl fun G K hG hK => ?_; simp (disch := omega) only [go_sem, ↓reduceIte, Nat.reduceEqDiff, Nat.reduceAdd, Nat.reduceLeDiff, hG, a1, a2, a3]
  refine w_call (l6Word2_ok q xs g sc hd3.cur) (by simp (disch := omega) only [go_sem, ↓reduceIte, Nat.reduceEqDiff, a1, a2, a3]) ?hl ?_
  case hl => first | rfl | (simp only [go_sem, List.all_cons, List.all_nil, Bool.not_false, Bool.and_self, a1, a2, a3]; done)
  rintro r_ sd ⟨hd4, b, c2, L2, rfl, ho2, hf2, hp2⟩; refine ⟨fun e => (by cases e), ?_⟩
  obtain ⟨kr, nr, mr, sr, rfl, b1, b2, b3⟩ := ho2.args_cells
  simp (disch := omega) only [go_sem, ↓reduceIte, Nat.reduceEqDiff, Nat.reduceAdd, Nat.reduceLeDiff, hG, a1, a2, a3, b1, b2, b3]; refine hK _ _ ?_; clear hK K hG G; repeat (first | refine thenI ?_ | refine thenE ?_ | refine thenR ?_ | refine inBI ?_ | refine inBR ?_ | refine inBS ?_ | refine inBN (by decide) ?_)
  have hm2 : st.length ≤ sc.length := ((hd.trans hd2).trans hd3).away.1
  have hA4 := hd4.own ho1 (hf1.mono hm1) hlq
  have hdr4 := (((hd.trans hd2).trans hd3).trans hd4)
  have hw1 : a.wt ≤ 200 := by have := hp1.2; omega
  have hw2 : b.wt ≤ 200 := by have := hp2.2; omega
  (repeat (first | refine W_seqS ?_ | refine W_seqC ?_ | refine W_seqB ?_ | refine W_block ?_)); refine W_reg rfl fun G K hG hK => ?_; simp (disch := omega) only [go_sem, ↓reduceIte, Nat.reduceEqDiff, Nat.reduceAdd, Nat.reduceLeDiff, hG, a1, a2, a3, b1, b2, b3]
  refine w_call (l1Once_ok q xs sd 6 (by omega) (by omega) hd4.cur) (by simp (disch := omega) only [go_sem, ↓reduceIte, Nat.reduceEqDiff, a1, a2, a3, b1, b2, b3]) ?hl ?_
  case hl => first | rfl | (simp only [go_sem, List.all_cons, List.all_nil, Bool.not_false, Bool.and_self, a1, a2, a3, b1, b2, b3]; done)
  rintro r_ se ⟨⟨w, rfl⟩, hd5, hl5⟩; refine ⟨fun e => (by cases e), ?_⟩
  simp (disch := omega) only [go_sem, ↓reduceIte, Nat.reduceEqDiff, Nat.reduceAdd, Nat.reduceLeDiff, hG, a1, a2, a3, b1, b2, b3]; refine hK _ _ ?_; clear hK K hG G; repeat (first | refine thenI ?_ | refine thenE ?_ | refine thenR ?_ | refine inBI ?_ | refine inBR ?_ | refine inBS ?_ | refine inBN (by decide) ?_)
  have hdr5 := hdr4.trans hd5
  cases w with
  | true =>
    repeat (first | (refine W_reg rfl fun G K hG hK => ?_; simp (disch := omega) only [go_sem, ↓reduceIte, Nat.reduceEqDiff, Nat.reduceAdd, Nat.reduceLeDiff, hG, a1, a2, a3, b1, b2, b3]; refine hK _ _ ?_; clear hK K hG G) | (refine W_end rfl fun G K hG hK => ?_; simp (disch := omega) only [go_sem, ↓reduceIte, Nat.reduceEqDiff, Nat.reduceAdd, Nat.reduceLeDiff, hG, a1, a2, a3, b1, b2, b3]; refine hK _ _ ?_; clear hK K hG G; repeat (first | refine thenI ?_ | refine thenE ?_ | refine thenR ?_ | refine inBI ?_ | refine inBR ?_ | refine inBS ?_ | refine inBN (by decide) ?_)) | refine W_seqS ?_ | refine W_seqC ?_ | refine W_seqB ?_ | refine W_block ?_ | (refine W_skip ?_; repeat (first | refine thenI ?_ | refine thenE ?_ | refine thenR ?_ | refine inBI ?_ | refine inBR ?_ | refine inBS ?_ | refine inBN (by decide) ?_)) | (refine W_condT ?hc ?_; (case hc => (simp (disch := omega) only [go_sem, ↓reduceIte, Nat.reduceEqDiff, Nat.reduceAdd, Nat.reduceLeDiff, a1, a2, a3, b1, b2, b3]; done))) | (refine W_condF ?hc ?_; (case hc => (simp (disch := omega) only [go_sem, ↓reduceIte, Nat.reduceEqDiff, Nat.reduceAdd, Nat.reduceLeDiff, a1, a2, a3, b1, b2, b3]; done))))
    (repeat (first | refine W_seqS ?_ | refine W_seqC ?_ | refine W_seqB ?_ | refine W_block ?_)); refine W_reg rfl fun G K hG hK => ?_; simp (disch := omega) only [go_sem, ↓reduceIte, Nat.reduceEqDiff, Nat.reduceAdd, Nat.reduceLeDiff, hG, a1, a2, a3, b1, b2, b3]
    refine w_call (l6E2_ok q xs g se hdr5.cur) (by simp (disch := omega) only [go_sem, ↓reduceIte, Nat.reduceEqDiff, a1, a2, a3, b1, b2, b3]) ?hl ?_
    case hl => first | rfl | (simp only [go_sem, List.all_cons, List.all_nil, Bool.not_false, Bool.and_self, a1, a2, a3, b1, b2, b3]; done)
    rintro r_ sf ⟨hd6, c, c3, L3, rfl, ho3, hf3, hp3⟩; refine ⟨fun e => (by cases e), ?_⟩
    obtain ⟨kl', nl', ml', sl', rfl, d1, d2, d3⟩ := ho3.args_cells
    simp (disch := omega) only [go_sem, ↓reduceIte, Nat.reduceEqDiff, Nat.reduceAdd, Nat.reduceLeDiff, hG, a1, a2, a3, b1, b2, b3, d1, d2, d3]; refine hK _ _ ?_; clear hK K hG G; repeat (first | refine thenI ?_ | refine thenE ?_ | refine thenR ?_ | refine inBI ?_ | refine inBR ?_ | refine inBS ?_ | refine inBN (by decide) ?_)
    have hdr6 := hdr5.trans hd6
    refine W_end rfl fun G K hG hK => ?_; simp (disch := omega) only [go_sem, ↓reduceIte, Nat.reduceEqDiff, Nat.reduceAdd, Nat.reduceLeDiff, hG, a1, a2, a3, b1, b2, b3, d1, d2, d3]
    refine w_call (l6E2_ok q xs g sf hdr6.cur) (by simp (disch := omega) only [go_sem, ↓reduceIte, Nat.reduceEqDiff, a1, a2, a3, b1, b2, b3, d1, d2, d3]) ?hl ?_
    case hl => first | rfl | (simp only [go_sem, List.all_cons, List.all_nil, Bool.not_false, Bool.and_self, a1, a2, a3, b1, b2, b3, d1, d2, d3]; done)
    rintro r_ sg ⟨hd7, e, c4, L4, rfl, ho4, hf4, hp4⟩; refine ⟨fun e => (by cases e), ?_⟩
    obtain ⟨kr', nr', mr', sr', rfl, g1, g2, g3⟩ := ho4.args_cells
    simp (disch := omega) only [go_sem, ↓reduceIte, Nat.reduceEqDiff, Nat.reduceAdd, Nat.reduceLeDiff, hG, a1, a2, a3, b1, b2, b3, d1, d2, d3, g1, g2, g3]; refine hK _ _ ?_; clear hK K hG G; repeat (first | refine thenI ?_ | refine thenE ?_ | refine thenR ?_ | refine inBI ?_ | refine inBR ?_ | refine inBS ?_ | refine inBN (by decide) ?_)
    repeat (first | (refine W_reg rfl fun G K hG hK => ?_; simp (disch := omega) only [go_sem, ↓reduceIte, Nat.reduceEqDiff, Nat.reduceAdd, Nat.reduceLeDiff, hG, a1, a2, a3, b1, b2, b3, d1, d2, d3, g1, g2, g3]; refine hK _ _ ?_; clear hK K hG G) | (refine W_end rfl fun G K hG hK => ?_; simp (disch := omega) only [go_sem, ↓reduceIte, Nat.reduceEqDiff, Nat.reduceAdd, Nat.reduceLeDiff, hG, a1, a2, a3, b1, b2, b3, d1, d2, d3, g1, g2, g3]; refine hK _ _ ?_; clear hK K hG G; repeat (first | refine thenI ?_ | refine thenE ?_ | refine thenR ?_ | refine inBI ?_ | refine inBR ?_ | refine inBS ?_ | refine inBN (by decide) ?_)) | refine W_seqS ?_ | refine W_seqC ?_ | refine W_seqB ?_ | refine W_block ?_ | (refine W_skip ?_; repeat (first | refine thenI ?_ | refine thenE ?_ | refine thenR ?_ | refine inBI ?_ | refine inBR ?_ | refine inBS ?_ | refine inBN (by decide) ?_)) | (refine W_condT ?hc ?_; (case hc => (simp (disch := omega) only [go_sem, ↓reduceIte, Nat.reduceEqDiff, Nat.reduceAdd, Nat.reduceLeDiff, a1, a2, a3, b1, b2, b3, d1, d2, d3, g1, g2, g3]; done))) | (refine W_condF ?hc ?_; (case hc => (simp (disch := omega) only [go_sem, ↓reduceIte, Nat.reduceEqDiff, Nat.reduceAdd, Nat.reduceLeDiff, a1, a2, a3, b1, b2, b3, d1, d2, d3, g1, g2, g3]; done))))
    refine W_ret ?_; try (repeat (first | refine thenI ?_ | refine thenE ?_ | refine thenR ?_ | refine inBI ?_ | refine inBR ?_ | refine inBS ?_ | refine inBN (by decide) ?_))
    refine finC (.inl rfl) (by (simp (disch := omega) only [go_sem, ↓reduceIte, Nat.reduceEqDiff, Nat.reduceAdd, Nat.reduceLeDiff, a1, a2, a3, b1, b2, b3, d1, d2, d3, g1, g2, g3]); try rfl) ⟨hdr6.trans hd7, 1 + x, c, e, _, _, _, _, _, _, _, _, L3, L4, rfl, hd7.own ho3 (hf3.mono hdr5.away.1) hlq, hf3.mono hdr5.away.1, ho4, hf4.mono hdr6.away.1, by have := hp3.2; omega, by have := hp4.2; omega, by omega, by omega⟩
  | false =>
    repeat (first | (refine W_reg rfl fun G K hG hK => ?_; simp (disch := omega) only [go_sem, ↓reduceIte, Nat.reduceEqDiff, Nat.reduceAdd, Nat.reduceLeDiff, hG, a1, a2, a3, b1, b2, b3]; refine hK _ _ ?_; clear hK K hG G) | (refine W_end rfl fun G K hG hK => ?_; simp (disch := omega) only [go_sem, ↓reduceIte, Nat.reduceEqDiff, Nat.reduceAdd, Nat.reduceLeDiff, hG, a1, a2, a3, b1, b2, b3]; refine hK _ _ ?_; clear hK K hG G; repeat (first | refine thenI ?_ | refine thenE ?_ | refine thenR ?_ | refine inBI ?_ | refine inBR ?_ | refine inBS ?_ | refine inBN (by decide) ?_)) | refine W_seqS ?_ | refine W_seqC ?_ | refine W_seqB ?_ | refine W_block ?_ | (refine W_skip ?_; repeat (first | refine thenI ?_ | refine thenE ?_ | refine thenR ?_ | refine inBI ?_ | refine inBR ?_ | refine inBS ?_ | refine inBN (by decide) ?_)) | (refine W_condT ?hc ?_; (case hc => (simp (disch := omega) only [go_sem, ↓reduceIte, Nat.reduceEqDiff, Nat.reduceAdd, Nat.reduceLeDiff, a1, a2, a3, b1, b2, b3]; done))) | (refine W_condF ?hc ?_; (case hc => (simp (disch := omega) only [go_sem, ↓reduceIte, Nat.reduceEqDiff, Nat.reduceAdd, Nat.reduceLeDiff, a1, a2, a3, b1, b2, b3]; done))))
    refine W_ret ?_; try (repeat (first | refine thenI ?_ | refine thenE ?_ | refine thenR ?_ | refine inBI ?_ | refine inBR ?_ | refine inBS ?_ | refine inBN (by decide) ?_))
    refine finC (.inl rfl) (by (simp (disch := omega) only [go_sem, ↓reduceIte, Nat.reduceEqDiff, Nat.reduceAdd, Nat.reduceLeDiff, a1, a2, a3, b1, b2, b3]); try rfl) ⟨hdr5, 1 + x, a, b, _, _, _, _, _, _, _, _, L1, L2, rfl, hd5.own hA4 (hf1.mono hm1) hlq, hf1.mono hm1, hd5.own ho2 (hf2.mono hm2) hlq, hf2.mono hm2, hw1, hw2, by omega, by omega⟩
theorem l9Bent_ok (q : Nat) (xs : List Byt) (st : St) (hq : Cur st q xs) :
    CallS Try.prog 27 [.pointer (some ⟨q, 0, none⟩)] st (DrawG q xs st) := by
  refine CallS_of_W [] 19 Try.func27 rfl rfl rfl rfl (by simp) ?_
  have hlq := hq.lt
  repeat (first | (refine W_reg rfl fun G K hG hK => ?_; simp (disch := omega) only [go_sem, ↓reduceIte, Nat.reduceEqDiff, Nat.reduceAdd, Nat.reduceLeDiff, hG]; refine hK _ _ ?_; clear hK K hG G) | (refine W_end rfl fun G K hG hK => ?_; simp (disch := omega) only [go_sem, ↓reduceIte, Nat.reduceEqDiff, Nat.reduceAdd, Nat.reduceLeDiff, hG]; refine hK _ _ ?_; clear hK K hG G; repeat (first | refine thenI ?_ | refine thenE ?_ | refine thenR ?_ | refine inBI ?_ | refine inBR ?_ | refine inBS ?_ | refine inBN (by decide) ?_)) | refine W_seqS ?_ | refine W_seqC ?_ | refine W_seqB ?_ | refine W_block ?_ | (refine W_skip ?_; repeat (first | refine thenI ?_ | refine thenE ?_ | refine thenR ?_ | refine inBI ?_ | refine inBR ?_ | refine inBS ?_ | refine inBN (by decide) ?_)) | (refine W_condT ?hc ?_; (case hc => (simp (disch := omega) only [go_sem, ↓reduceIte, Nat.reduceEqDiff, Nat.reduceAdd, Nat.reduceLeDiff]; done))) | (refine W_condF ?hc ?_; (case hc => (simp (disch := omega) only [go_sem, ↓reduceIte, Nat.reduceEqDiff, Nat.reduceAdd, Nat.reduceLeDiff]; done))))
  (repeat (first | refine W_seqS ?_ | refine W_seqC ?_ | refine W_seqB ?_ | refine W_block ?_)); refine W_reg rfl fun G K hG hK => ?_; simp (disch := omega) only [go_sem, ↓reduceIte, Nat.reduceEqDiff, Nat.reduceAdd, Nat.reduceLeDiff, hG]
  refine w_call (l9Draw_ok q xs st hq) (by simp (disch := omega) only [go_sem, ↓reduceIte, Nat.reduceEqDiff]) ?hl ?_
  case hl => first | rfl | (simp only [go_sem, List.all_cons, List.all_nil, Bool.not_false, Bool.and_self]; done)
  rintro r_ sa ⟨hd, k, a, b, kl, nl, ml, sl, kr, nr, mr, sr, L1, L2, rfl, ho1, hf1, ho2, hf2, hw1, hw2, hk0, hk1⟩; refine ⟨fun e => (by cases e), ?_⟩
  obtain ⟨a1, a2, a3⟩ : isLoc sl = false ∧ okv sl = true ∧ vc sl = #[sl] := by obtain ⟨k', n', m', s', he, h1, h2, h3⟩ := ho1.args_cells; cases he; exact ⟨h2, h1, h3⟩
  obtain ⟨b1, b2, b3⟩ : isLoc sr = false ∧ okv sr = true ∧ vc sr = #[sr] := by obtain ⟨k', n', m', s', he, h1, h2, h3⟩ := ho2.args_cells; cases he; exact ⟨h2, h1, h3⟩
  simp (disch := omega) only [go_sem, ↓reduceIte, Nat.reduceEqDiff, Nat.reduceAdd, Nat.reduceLeDiff, hG, a1, a2, a3, b1, b2, b3]; refine hK _ _ ?_; clear hK K hG G; repeat (first | refine thenI ?_ | refine thenE ?_ | refine thenR ?_ | refine inBI ?_ | refine inBR ?_ | refine inBS ?_ | refine inBN (by decide) ?_)
  (repeat (first | refine W_seqS ?_ | refine W_seqC ?_ | refine W_seqB ?_ | refine W_block ?_)); refine W_reg rfl fun G K hG hK => ?_; simp (disch := omega) only [go_sem, ↓reduceIte, Nat.reduceEqDiff, Nat.reduceAdd, Nat.reduceLeDiff, hG, a1, a2, a3, b1, b2, b3]
  refine w_call (l1Below_ok q xs sa 10 (by omega) (by omega) hd.cur) (by simp (disch := omega) only [go_sem, ↓reduceIte, Nat.reduceEqDiff, a1, a2, a3, b1, b2, b3]) ?hl ?_
  case hl => first | rfl | (simp only [go_sem, List.all_cons, List.all_nil, Bool.not_false, Bool.and_self, a1, a2, a3, b1, b2, b3]; done)
  rintro r_ sb ⟨⟨y, rfl, hy0, hy1⟩, hd2, hl2⟩; refine ⟨fun e => (by cases e), ?_⟩
  simp (disch := omega) only [go_sem, ↓reduceIte, Nat.reduceEqDiff, Nat.reduceAdd, Nat.reduceLeDiff, hG, a1, a2, a3, b1, b2, b3]; refine hK _ _ ?_; clear hK K hG G; repeat (first | refine thenI ?_ | refine thenE ?_ | refine thenR ?_ | refine inBI ?_ | refine inBR ?_ | refine inBS ?_ | refine inBN (by decide) ?_)
  have hdr2 := hd.trans hd2
  have ho1' := hd2.own ho1 hf1 hlq
  have ho2' := hd2.own ho2 hf2 hlq
  have hy : y = 0 ∨ y = 1 ∨ (y ≠ 0 ∧ y ≠ 1) := by omega
  have v10 : ((1 : Int) == 0) = false := by decide
  rcases hy with rfl | rfl | ⟨hy2, hy3⟩
  · repeat (first | (refine W_reg rfl fun G K hG hK => ?_; simp (disch := omega) only [go_sem, ↓reduceIte, Nat.reduceEqDiff, Nat.reduceAdd, Nat.reduceLeDiff, hG, a1, a2, a3, b1, b2, b3, v10]; refine hK _ _ ?_; clear hK K hG G) | (refine W_end rfl fun G K hG hK => ?_; simp (disch := omega) only [go_sem, ↓reduceIte, Nat.reduceEqDiff, Nat.reduceAdd, Nat.reduceLeDiff, hG, a1, a2, a3, b1, b2, b3, v10]; refine hK _ _ ?_; clear hK K hG G; repeat (first | refine thenI ?_ | refine thenE ?_ | refine thenR ?_ | refine inBI ?_ | refine inBR ?_ | refine inBS ?_ | refine inBN (by decide) ?_)) | refine W_seqS ?_ | refine W_seqC ?_ | refine W_seqB ?_ | refine W_block ?_ | (refine W_skip ?_; repeat (first | refine thenI ?_ | refine thenE ?_ | refine thenR ?_ | refine inBI ?_ | refine inBR ?_ | refine inBS ?_ | refine inBN (by decide) ?_)) | (refine W_condT ?hc ?_; (case hc => (simp (disch := omega) only [go_sem, ↓reduceIte, Nat.reduceEqDiff, Nat.reduceAdd, Nat.reduceLeDiff, a1, a2, a3, b1, b2, b3, v10]; done))) | (refine W_condF ?hc ?_; (case hc => (simp (disch := omega) only [go_sem, ↓reduceIte, Nat.reduceEqDiff, Nat.reduceAdd, Nat.reduceLeDiff, a1, a2, a3, b1, b2, b3, v10]; done))))
    refine W_end rfl fun G K hG hK => ?_; simp (disch := omega) only [go_sem, ↓reduceIte, Nat.reduceEqDiff, Nat.reduceAdd, Nat.reduceLeDiff, hG, a1, a2, a3, b1, b2, b3, v10]
    refine w_call (l1Below_ok q xs sb 6 (by omega) (by omega) hdr2.cur) (by simp (disch := omega) only [go_sem, ↓reduceIte, Nat.reduceEqDiff, a1, a2, a3, b1, b2, b3, v10]) ?hl ?_
    case hl => first | rfl | (simp only [go_sem, List.all_cons, List.all_nil, Bool.not_false, Bool.and_self, a1, a2, a3, b1, b2, b3, v10]; done)
    rintro r_ sc ⟨⟨z, rfl, hz0, hz1⟩, hd3, hl3⟩; refine ⟨fun e => (by cases e), ?_⟩
    simp (disch := omega) only [go_sem, ↓reduceIte, Nat.reduceEqDiff, Nat.reduceAdd, Nat.reduceLeDiff, hG, a1, a2, a3, b1, b2, b3, v10]; refine hK _ _ ?_; clear hK K hG G; repeat (first | refine thenI ?_ | refine thenE ?_ | refine thenR ?_ | refine inBI ?_ | refine inBR ?_ | refine inBS ?_ | refine inBN (by decide) ?_)
    repeat (first | (refine W_reg rfl fun G K hG hK => ?_; simp (disch := omega) only [go_sem, ↓reduceIte, Nat.reduceEqDiff, Nat.reduceAdd, Nat.reduceLeDiff, hG, a1, a2, a3, b1, b2, b3, v10]; refine hK _ _ ?_; clear hK K hG G) | (refine W_end rfl fun G K hG hK => ?_; simp (disch := omega) only [go_sem, ↓reduceIte, Nat.reduceEqDiff, Nat.reduceAdd, Nat.reduceLeDiff, hG, a1, a2, a3, b1, b2, b3, v10]; refine hK _ _ ?_; clear hK K hG G; repeat (first | refine thenI ?_ | refine thenE ?_ | refine thenR ?_ | refine inBI ?_ | refine inBR ?_ | refine inBS ?_ | refine inBN (by decide) ?_)) | refine W_seqS ?_ | refine W_seqC ?_ | refine W_seqB ?_ | refine W_block ?_ | (refine W_skip ?_; repeat (first | refine thenI ?_ | refine thenE ?_ | refine thenR ?_ | refine inBI ?_ | refine inBR ?_ | refine inBS ?_ | refine inBN (by decide) ?_)) | (refine W_condT ?hc ?_; (case hc => (simp (disch := omega) only [go_sem, ↓reduceIte, Nat.reduceEqDiff, Nat.reduceAdd, Nat.reduceLeDiff, a1, a2, a3, b1, b2, b3, v10]; done))) | (refine W_condF ?hc ?_; (case hc => (simp (disch := omega) only [go_sem, ↓reduceIte, Nat.reduceEqDiff, Nat.reduceAdd, Nat.reduceLeDiff, a1, a2, a3, b1, b2, b3, v10]; done))))
    refine W_ret ?_; try (repeat (first | refine thenI ?_ | refine thenE ?_ | refine thenR ?_ | refine inBI ?_ | refine inBR ?_ | refine inBS ?_ | refine inBN (by decide) ?_))
    refine finC (.inl rfl) (by (simp (disch := omega) only [go_sem, ↓reduceIte, Nat.reduceEqDiff, Nat.reduceAdd, Nat.reduceLeDiff, a1, a2, a3, b1, b2, b3, v10]); try rfl) ⟨hdr2.trans hd3, z, a, b, _, _, _, _, _, _, _, _, L1, L2, rfl, hd3.own ho1' hf1 hlq, hf1, hd3.own ho2' hf2 hlq, hf2, hw1, hw2, hz0, by omega⟩
  · repeat (first | (refine W_reg rfl fun G K hG hK => ?_; simp (disch := omega) only [go_sem, ↓reduceIte, Nat.reduceEqDiff, Nat.reduceAdd, Nat.reduceLeDiff, hG, a1, a2, a3, b1, b2, b3, v10]; refine hK _ _ ?_; clear hK K hG G) | (refine W_end rfl fun G K hG hK => ?_; simp (disch := omega) only [go_sem, ↓reduceIte, Nat.reduceEqDiff, Nat.reduceAdd, Nat.reduceLeDiff, hG, a1, a2, a3, b1, b2, b3, v10]; refine hK _ _ ?_; clear hK K hG G; repeat (first | refine thenI ?_ | refine thenE ?_ | refine thenR ?_ | refine inBI ?_ | refine inBR ?_ | refine inBS ?_ | refine inBN (by decide) ?_)) | refine W_seqS ?_ | refine W_seqC ?_ | refine W_seqB ?_ | refine W_block ?_ | (refine W_skip ?_; repeat (first | refine thenI ?_ | refine thenE ?_ | refine thenR ?_ | refine inBI ?_ | refine inBR ?_ | refine inBS ?_ | refine inBN (by decide) ?_)) | (refine W_condT ?hc ?_; (case hc => (simp (disch := omega) only [go_sem, ↓reduceIte, Nat.reduceEqDiff, Nat.reduceAdd, Nat.reduceLeDiff, a1, a2, a3, b1, b2, b3, v10]; done))) | (refine W_condF ?hc ?_; (case hc => (simp (disch := omega) only [go_sem, ↓reduceIte, Nat.reduceEqDiff, Nat.reduceAdd, Nat.reduceLeDiff, a1, a2, a3, b1, b2, b3, v10]; done))))
    refine W_end rfl fun G K hG hK => ?_; simp (disch := omega) only [go_sem, ↓reduceIte, Nat.reduceEqDiff, Nat.reduceAdd, Nat.reduceLeDiff, hG, a1, a2, a3, b1, b2, b3, v10]
    refine w_call (l3Bent_ok q xs sb hdr2.cur) (by simp (disch := omega) only [go_sem, ↓reduceIte, Nat.reduceEqDiff, a1, a2, a3, b1, b2, b3, v10]) ?hl ?_
    case hl => first | rfl | (simp only [go_sem, List.all_cons, List.all_nil, Bool.not_false, Bool.and_self, a1, a2, a3, b1, b2, b3, v10]; done)
    rintro r_ sc ⟨hd3, c, cs3, L3, rfl, ho3, hf3, hp3⟩; refine ⟨fun e => (by cases e), ?_⟩
    obtain ⟨kc, nc, mc, sc', rfl, d1, d2, d3⟩ := ho3.args_cells
    simp (disch := omega) only [go_sem, ↓reduceIte, Nat.reduceEqDiff, Nat.reduceAdd, Nat.reduceLeDiff, hG, a1, a2, a3, b1, b2, b3, v10, d1, d2, d3]; refine hK _ _ ?_; clear hK K hG G; repeat (first | refine thenI ?_ | refine thenE ?_ | refine thenR ?_ | refine inBI ?_ | refine inBR ?_ | refine inBS ?_ | refine inBN (by decide) ?_)
    repeat (first | (refine W_reg rfl fun G K hG hK => ?_; simp (disch := omega) only [go_sem, ↓reduceIte, Nat.reduceEqDiff, Nat.reduceAdd, Nat.reduceLeDiff, hG, a1, a2, a3, b1, b2, b3, v10, d1, d2, d3]; refine hK _ _ ?_; clear hK K hG G) | (refine W_end rfl fun G K hG hK => ?_; simp (disch := omega) only [go_sem, ↓reduceIte, Nat.reduceEqDiff, Nat.reduceAdd, Nat.reduceLeDiff, hG, a1, a2, a3, b1, b2, b3, v10, d1, d2, d3]; refine hK _ _ ?_; clear hK K hG G; repeat (first | refine thenI ?_ | refine thenE ?_ | refine thenR ?_ | refine inBI ?_ | refine inBR ?_ | refine inBS ?_ | refine inBN (by decide) ?_)) | refine W_seqS ?_ | refine W_seqC ?_ | refine W_seqB ?_ | refine W_block ?_ | (refine W_skip ?_; repeat (first | refine thenI ?_ | refine thenE ?_ | refine thenR ?_ | refine inBI ?_ | refine inBR ?_ | refine inBS ?_ | refine inBN (by decide) ?_)) | (refine W_condT ?hc ?_; (case hc => (simp (disch := omega) only [go_sem, ↓reduceIte, Nat.reduceEqDiff, Nat.reduceAdd, Nat.reduceLeDiff, a1, a2, a3, b1, b2, b3, v10, d1, d2, d3]; done))) | (refine W_condF ?hc ?_; (case hc => (simp (disch := omega) only [go_sem, ↓reduceIte, Nat.reduceEqDiff, Nat.reduceAdd, Nat.reduceLeDiff, a1, a2, a3, b1, b2, b3, v10, d1, d2, d3]; done))))
    refine W_ret ?_; try (repeat (first | refine thenI ?_ | refine thenE ?_ | refine thenR ?_ | refine inBI ?_ | refine inBR ?_ | refine inBS ?_ | refine inBN (by decide) ?_))
    refine finC (.inl rfl) (by (simp (disch := omega) only [go_sem, ↓reduceIte, Nat.reduceEqDiff, Nat.reduceAdd, Nat.reduceLeDiff, a1, a2, a3, b1, b2, b3, v10, d1, d2, d3]); try rfl) ⟨hdr2.trans hd3, k, c, b, _, _, _, _, _, _, _, _, L3, L2, rfl, ho3, hf3.mono hdr2.away.1, hd3.own ho2' hf2 hlq, hf2, by have := hp3.2; omega, hw2, hk0, hk1⟩
  · have w0 : (y == 0) = false := by simp; omega
    have w1 : (y == 1) = false := by simp; omega
    repeat (first | (refine W_reg rfl fun G K hG hK => ?_; simp (disch := omega) only [go_sem, ↓reduceIte, Nat.reduceEqDiff, Nat.reduceAdd, Nat.reduceLeDiff, hG, a1, a2, a3, b1, b2, b3, v10, w0, w1]; refine hK _ _ ?_; clear hK K hG G) | (refine W_end rfl fun G K hG hK => ?_; simp (disch := omega) only [go_sem, ↓reduceIte, Nat.reduceEqDiff, Nat.reduceAdd, Nat.reduceLeDiff, hG, a1, a2, a3, b1, b2, b3, v10, w0, w1]; refine hK _ _ ?_; clear hK K hG G; repeat (first | refine thenI ?_ | refine thenE ?_ | refine thenR ?_ | refine inBI ?_ | refine inBR ?_ | refine inBS ?_ | refine inBN (by decide) ?_)) | refine W_seqS ?_ | refine W_seqC ?_ | refine W_seqB ?_ | refine W_block ?_ | (refine W_skip ?_; repeat (first | refine thenI ?_ | refine thenE ?_ | refine thenR ?_ | refine inBI ?_ | refine inBR ?_ | refine inBS ?_ | refine inBN (by decide) ?_)) | (refine W_condT ?hc ?_; (case hc => (simp (disch := omega) only [go_sem, ↓reduceIte, Nat.reduceEqDiff, Nat.reduceAdd, Nat.reduceLeDiff, a1, a2, a3, b1, b2, b3, v10, w0, w1]; done))) | (refine W_condF ?hc ?_; (case hc => (simp (disch := omega) only [go_sem, ↓reduceIte, Nat.reduceEqDiff, Nat.reduceAdd, Nat.reduceLeDiff, a1, a2, a3, b1, b2, b3, v10, w0, w1]; done))))
    refine W_ret ?_; try (repeat (first | refine thenI ?_ | refine thenE ?_ | refine thenR ?_ | refine inBI ?_ | refine inBR ?_ | refine inBS ?_ | refine inBN (by decide) ?_))
    refine finC (.inl rfl) (by (simp (disch := omega) only [go_sem, ↓reduceIte, Nat.reduceEqDiff, Nat.reduceAdd, Nat.reduceLeDiff, a1, a2, a3, b1, b2, b3, v10]); try rfl) ⟨hdr2, k, a, b, _, _, _, _, _, _, _, _, L1, L2, rfl, ho1', hf1, ho2', hf2, hw1, hw2, hk0, hk1⟩
theorem drawHolds_ok (bs : List Byt) (st : St) (s : Value) (hbig : bs.length ≤ 4611686018427387904) (hr : RowY st bs s) :
    CallS Try.prog 9 [s] st fun r st2 => Ext st st2 ∧ ∃ k a b kl nl ml sl kr nr mr sr, r = .agg #[.int .i64 k, .int .i64 kl, .int .i64 nl, .string ml, sl, .int .i64 kr, .int .i64 nr, .string mr, sr] ∧
      Enc st2 a [.int .i64 kl, .int .i64 nl, .string ml, sl] ∧ Enc st2 b [.int .i64 kr, .int .i64 nr, .string mr, sr] ∧ a.wt ≤ 200 ∧ b.wt ≤ 200 ∧ 0 ≤ k ∧ k ≤ 6 := by
  refine CallS_of_W [] 6 Try.func9 rfl rfl rfl rfl (by simp) ?_
  have q1 := hr.notLoc.1
  repeat (first | (refine W_reg rfl fun G K hG hK => ?_; simp (disch := omega) only [go_sem, ↓reduceIte, Nat.reduceEqDiff, Nat.reduceAdd, Nat.reduceLeDiff, hG, q1]; refine hK _ _ ?_; clear hK K hG G) | (refine W_end rfl fun G K hG hK => ?_; simp (disch := omega) only [go_sem, ↓reduceIte, Nat.reduceEqDiff, Nat.reduceAdd, Nat.reduceLeDiff, hG, q1]; refine hK _ _ ?_; clear hK K hG G; repeat (first | refine thenI ?_ | refine thenE ?_ | refine thenR ?_ | refine inBI ?_ | refine inBR ?_ | refine inBS ?_ | refine inBN (by decide) ?_)) | refine W_seqS ?_ | refine W_seqC ?_ | refine W_seqB ?_ | refine W_block ?_ | (refine W_skip ?_; repeat (first | refine thenI ?_ | refine thenE ?_ | refine thenR ?_ | refine inBI ?_ | refine inBR ?_ | refine inBS ?_ | refine inBN (by decide) ?_)) | (refine W_condT ?hc ?_; (case hc => (simp (disch := omega) only [go_sem, ↓reduceIte, Nat.reduceEqDiff, Nat.reduceAdd, Nat.reduceLeDiff, q1]; done))) | (refine W_condF ?hc ?_; (case hc => (simp (disch := omega) only [go_sem, ↓reduceIte, Nat.reduceEqDiff, Nat.reduceAdd, Nat.reduceLeDiff, q1]; done))))
  (repeat (first | refine W_seqS ?_ | refine W_seqC ?_ | refine W_seqB ?_ | refine W_block ?_)); refine W_reg rfl fun G K hG hK => ?_; simp (disch := omega) only [go_sem, ↓reduceIte, Nat.reduceEqDiff, Nat.reduceAdd, Nat.reduceLeDiff, hG, q1]
  refine w_call (l1New_ok bs st s hbig hr) (by simp (disch := omega) only [go_sem, ↓reduceIte, Nat.reduceEqDiff, q1]) ?hl ?_
  case hl => first | rfl | (simp only [go_sem, List.all_cons, List.all_nil, Bool.not_false, Bool.and_self, q1]; done)
  rintro r_ sa ⟨rfl, x1, hc⟩; refine ⟨fun e => (by cases e), ?_⟩
  simp (disch := omega) only [go_sem, ↓reduceIte, Nat.reduceEqDiff, Nat.reduceAdd, Nat.reduceLeDiff, q1]
  refine w_call (l9Bent_ok st.length bs sa hc) (by simp (disch := omega) only [go_sem, ↓reduceIte, Nat.reduceEqDiff, q1]) ?hl ?_
  case hl => first | rfl | (simp only [go_sem, List.all_cons, List.all_nil, Bool.not_false, Bool.and_self, q1]; done)
  rintro r_ sb ⟨hd, k, a, b, kl, nl, ml, sl, kr, nr, mr, sr, L1, L2, rfl, ho1, hf1, ho2, hf2, hw1, hw2, hk0, hk1⟩; refine ⟨fun e => (by cases e), ?_⟩
  obtain ⟨a1, a2, a3⟩ : isLoc sl = false ∧ okv sl = true ∧ vc sl = #[sl] := by obtain ⟨k', n', m', s', he, h1, h2, h3⟩ := ho1.args_cells; cases he; exact ⟨h2, h1, h3⟩
  obtain ⟨b1, b2, b3⟩ : isLoc sr = false ∧ okv sr = true ∧ vc sr = #[sr] := by obtain ⟨k', n', m', s', he, h1, h2, h3⟩ := ho2.args_cells; cases he; exact ⟨h2, h1, h3⟩
  simp (disch := omega) only [go_sem, ↓reduceIte, Nat.reduceEqDiff, Nat.reduceAdd, Nat.reduceLeDiff, hG, q1, a1, a2, a3, b1, b2, b3]; refine hK _ _ ?_; clear hK K hG G; repeat (first | refine thenI ?_ | refine thenE ?_ | refine thenR ?_ | refine inBI ?_ | refine inBR ?_ | refine inBS ?_ | refine inBN (by decide) ?_)
  refine W_ret ?_; try (repeat (first | refine thenI ?_ | refine thenE ?_ | refine thenR ?_ | refine inBI ?_ | refine inBR ?_ | refine inBS ?_ | refine inBN (by decide) ?_))
  refine finC (.inl rfl) (by (simp (disch := omega) only [go_sem, ↓reduceIte, Nat.reduceEqDiff, Nat.reduceAdd, Nat.reduceLeDiff, q1, a1, a2, a3, b1, b2, b3]); try rfl) ⟨hd.away.ext_of x1 (.inr ⟨_, Nat.le_refl _, rfl⟩), k, a, b, _, _, _, _, _, _, _, _, rfl, ho1.enc, ho2.enc, hw1, hw2, hk0, hk1⟩
theorem drawRed_ok (bs : List Byt) (st : St) (s : Value) (hbig : bs.length ≤ 4611686018427387904) (hr : RowY st bs s) :
    CallS Try.prog 5 [s] st (DrawE st fun t => t.wt ≤ 200) := by
  refine CallS_of_W [] 22 Try.func5 rfl rfl rfl rfl (by simp) ?_
  have q1 := hr.notLoc.1
  repeat (first | (refine W_reg rfl fun G K hG hK => ?_; simp (disch := omega) only [go_sem, ↓reduceIte, Nat.reduceEqDiff, Nat.reduceAdd, Nat.reduceLeDiff, hG, q1]; refine hK _ _ ?_; clear hK K hG G) | (refine W_end rfl fun G K hG hK => ?_; simp (disch := omega) only [go_sem, ↓reduceIte, Nat.reduceEqDiff, Nat.reduceAdd, Nat.reduceLeDiff, hG, q1]; refine hK _ _ ?_; clear hK K hG G; repeat (first | refine thenI ?_ | refine thenE ?_ | refine thenR ?_ | refine inBI ?_ | refine inBR ?_ | refine inBS ?_ | refine inBN (by decide) ?_)) | refine W_seqS ?_ | refine W_seqC ?_ | refine W_seqB ?_ | refine W_block ?_ | (refine W_skip ?_; repeat (first | refine thenI ?_ | refine thenE ?_ | refine thenR ?_ | refine inBI ?_ | refine inBR ?_ | refine inBS ?_ | refine inBN (by decide) ?_)) | (refine W_condT ?hc ?_; (case hc => (simp (disch := omega) only [go_sem, ↓reduceIte, Nat.reduceEqDiff, Nat.reduceAdd, Nat.reduceLeDiff, q1]; done))) | (refine W_condF ?hc ?_; (case hc => (simp (disch := omega) only [go_sem, ↓reduceIte, Nat.reduceEqDiff, Nat.reduceAdd, Nat.reduceLeDiff, q1]; done))))
  (repeat (first | refine W_seqS ?_ | refine W_seqC ?_ | refine W_seqB ?_ | refine W_block ?_)); refine W_reg rfl fun G K hG hK => ?_; simp (disch := omega) only [go_sem, ↓reduceIte, Nat.reduceEqDiff, Nat.reduceAdd, Nat.reduceLeDiff, hG, q1]
  refine w_call (l1New_ok bs st s hbig hr) (by simp (disch := omega) only [go_sem, ↓reduceIte, Nat.reduceEqDiff, q1]) ?hl ?_
  case hl => first | rfl | (simp only [go_sem, List.all_cons, List.all_nil, Bool.not_false, Bool.and_self, q1]; done)
  rintro r_ sa ⟨rfl, x1, hc⟩; refine ⟨fun e => (by cases e), ?_⟩
  simp (disch := omega) only [go_sem, ↓reduceIte, Nat.reduceEqDiff, Nat.reduceAdd, Nat.reduceLeDiff, hG, q1]; refine hK _ _ ?_; clear hK K hG G; repeat (first | refine thenI ?_ | refine thenE ?_ | refine thenR ?_ | refine inBI ?_ | refine inBR ?_ | refine inBS ?_ | refine inBN (by decide) ?_)
  (repeat (first | refine W_seqS ?_ | refine W_seqC ?_ | refine W_seqB ?_ | refine W_block ?_)); refine W_reg rfl fun G K hG hK => ?_; simp (disch := omega) only [go_sem, ↓reduceIte, Nat.reduceEqDiff, Nat.reduceAdd, Nat.reduceLeDiff, hG, q1]
  refine w_call (l1Once_ok st.length bs sa 5 (by omega) (by omega) hc) (by simp (disch := omega) only [go_sem, ↓reduceIte, Nat.reduceEqDiff, q1]) ?hl ?_
  case hl => first | rfl | (simp only [go_sem, List.all_cons, List.all_nil, Bool.not_false, Bool.and_self, q1]; done)
  rintro r_ sb ⟨⟨b, rfl⟩, hd, hl⟩; refine ⟨fun e => (by cases e), ?_⟩
  simp (disch := omega) only [go_sem, ↓reduceIte, Nat.reduceEqDiff, Nat.reduceAdd, Nat.reduceLeDiff, hG, q1]; refine hK _ _ ?_; clear hK K hG G; repeat (first | refine thenI ?_ | refine thenE ?_ | refine thenR ?_ | refine inBI ?_ | refine inBR ?_ | refine inBS ?_ | refine inBN (by decide) ?_)
  have htop : (some st.length : Option Nat) = none ∨ ∃ m, st.length ≤ m ∧ (some st.length : Option Nat) = some m := .inr ⟨_, Nat.le_refl _, rfl⟩
  cases b with
  | true =>
    repeat (first | (refine W_reg rfl fun G K hG hK => ?_; simp (disch := omega) only [go_sem, ↓reduceIte, Nat.reduceEqDiff, Nat.reduceAdd, Nat.reduceLeDiff, hG, q1]; refine hK _ _ ?_; clear hK K hG G) | (refine W_end rfl fun G K hG hK => ?_; simp (disch := omega) only [go_sem, ↓reduceIte, Nat.reduceEqDiff, Nat.reduceAdd, Nat.reduceLeDiff, hG, q1]; refine hK _ _ ?_; clear hK K hG G; repeat (first | refine thenI ?_ | refine thenE ?_ | refine thenR ?_ | refine inBI ?_ | refine inBR ?_ | refine inBS ?_ | refine inBN (by decide) ?_)) | refine W_seqS ?_ | refine W_seqC ?_ | refine W_seqB ?_ | refine W_block ?_ | (refine W_skip ?_; repeat (first | refine thenI ?_ | refine thenE ?_ | refine thenR ?_ | refine inBI ?_ | refine inBR ?_ | refine inBS ?_ | refine inBN (by decide) ?_)) | (refine W_condT ?hc ?_; (case hc => (simp (disch := omega) only [go_sem, ↓reduceIte, Nat.reduceEqDiff, Nat.reduceAdd, Nat.reduceLeDiff, q1]; done))) | (refine W_condF ?hc ?_; (case hc => (simp (disch := omega) only [go_sem, ↓reduceIte, Nat.reduceEqDiff, Nat.reduceAdd, Nat.reduceLeDiff, q1]; done))))
    (repeat (first | refine W_seqS ?_ | refine W_seqC ?_ | refine W_seqB ?_ | refine W_block ?_)); refine W_reg rfl fun G K hG hK => ?_; simp (disch := omega) only [go_sem, ↓reduceIte, Nat.reduceEqDiff, Nat.reduceAdd, Nat.reduceLeDiff, hG, q1, bsL, fillK_cons, fillK_nil, Nat.reduceMul]
    refine w_call (l3Bent_ok st.length bs sb hd.cur) (by simp (disch := omega) only [go_sem, ↓reduceIte, Nat.reduceEqDiff, q1]) ?hl ?_
    case hl => first | rfl | (simp only [go_sem, List.all_cons, List.all_nil, Bool.not_false, Bool.and_self, q1]; done)
    rintro r_ sc ⟨hd2, a, c1, L1, rfl, ho1, hf1, hp1⟩; refine ⟨fun e => (by cases e), ?_⟩
    obtain ⟨kl, nl, ml, sl, rfl, a1, a2, a3⟩ := ho1.args_cells
    simp (disch := omega) only [go_sem, ↓reduceIte, Nat.reduceEqDiff, Nat.reduceAdd, Nat.reduceLeDiff, q1, bsL, fillK_cons, fillK_nil, Nat.reduceMul, a1, a2, a3]
    refine w_call (l1PickInt_lit st.length bs sc _ _ 3 hd2.cur rfl (by simp) (by simp)) (by simp (disch := omega) only [go_sem, ↓reduceIte, Nat.reduceEqDiff, q1]) ?hl ?_
    case hl => first | rfl | (simp only [go_sem, List.all_cons, List.all_nil, Bool.not_false, Bool.and_self, q1]; done)
    rintro r_ sd ⟨⟨z, rfl, hz⟩, hd3, hl3⟩; refine ⟨fun e => (by cases e), ?_⟩
    simp (disch := omega) only [go_sem, ↓reduceIte, Nat.reduceEqDiff, Nat.reduceAdd, Nat.reduceLeDiff, q1, a1, a2, a3]
    refine w_call (l3Word_ok z sd) (by simp (disch := omega) only [go_sem, ↓reduceIte, Nat.reduceEqDiff, q1]) ?hl ?_
    case hl => first | rfl | (simp only [go_sem, List.all_cons, List.all_nil, Bool.not_false, Bool.and_self, q1]; done)
    rintro r_ se ⟨rfl, rfl⟩; refine ⟨fun e => (by cases e), ?_⟩
    have hd4 := Drawn.pre (Ext.app _ _) hd3
    have hlt := hd.cur.lt
    have ho1' := hd4.own ho1 hf1 hlt
    have hw : OwnT se (.mk 3 z ⟨#[]⟩ []) [.int .i64 3, .int .i64 z, .string ⟨#[]⟩, .slice none 0 0] [] := .nil _ _ _
    simp (disch := omega) only [go_sem, ↓reduceIte, Nat.reduceEqDiff, Nat.reduceAdd, Nat.reduceLeDiff, q1, a1, a2, a3]
    refine w_call (l3Pair_ok ⟨#[112, 108, 117, 115]⟩ a (.mk 3 z ⟨#[]⟩ []) se [.int .i64 kl, .int .i64 nl, .string ml, sl] [.int .i64 3, .int .i64 z, .string ⟨#[]⟩, .slice none 0 0] L1 [] ho1' hw) (by simp (disch := omega) only [go_sem, ↓reduceIte, Nat.reduceEqDiff, q1, a1, a2, a3]) ?hl ?_
    case hl => first | rfl | (simp only [go_sem, List.all_cons, List.all_nil, Bool.not_false, Bool.and_self, q1, a1, a2, a3]; done)
    rintro r_ sf ⟨x5, es, rfl, ho5⟩; refine ⟨fun e => (by cases e), ?_⟩
    obtain ⟨k5, n5, m5, s5, rfl, b1, b2, b3⟩ := ho5.args_cells
    simp (disch := omega) only [go_sem, ↓reduceIte, Nat.reduceEqDiff, Nat.reduceAdd, Nat.reduceLeDiff, hG, q1, b1, b2, b3]; refine hK _ _ ?_; clear hK K hG G; repeat (first | refine thenI ?_ | refine thenE ?_ | refine thenR ?_ | refine inBI ?_ | refine inBR ?_ | refine inBS ?_ | refine inBN (by decide) ?_)
    have hz1 : (⟨#[112, 108, 117, 115]⟩ : ByteArray).size = 4 ∧ (⟨#[]⟩ : ByteArray).size = 0 := ⟨rfl, rfl⟩
    refine W_ret ?_; try (repeat (first | refine thenI ?_ | refine thenE ?_ | refine thenR ?_ | refine inBI ?_ | refine inBR ?_ | refine inBS ?_ | refine inBN (by decide) ?_))
    refine finC (.inl rfl) (by (simp (disch := omega) only [go_sem, ↓reduceIte, Nat.reduceEqDiff, Nat.reduceAdd, Nat.reduceLeDiff, q1, b1, b2, b3]); try rfl) ⟨(((hd.trans hd2).trans hd4).away.ext_of x1 htop).trans x5, _, [_, _, _, _], rfl, ho5.enc, by have := hp1.2; simp only [T.wt, T.wtL, List.length_cons, List.length_nil]; omega⟩
  | false =>
    repeat (first | (refine W_reg rfl fun G K hG hK => ?_; simp (disch := omega) only [go_sem, ↓reduceIte, Nat.reduceEqDiff, Nat.reduceAdd, Nat.reduceLeDiff, hG, q1]; refine hK _ _ ?_; clear hK K hG G) | (refine W_end rfl fun G K hG hK => ?_; simp (disch := omega) only [go_sem, ↓reduceIte, Nat.reduceEqDiff, Nat.reduceAdd, Nat.reduceLeDiff, hG, q1]; refine hK _ _ ?_; clear hK K hG G; repeat (first | refine thenI ?_ | refine thenE ?_ | refine thenR ?_ | refine inBI ?_ | refine inBR ?_ | refine inBS ?_ | refine inBN (by decide) ?_)) | refine W_seqS ?_ | refine W_seqC ?_ | refine W_seqB ?_ | refine W_block ?_ | (refine W_skip ?_; repeat (first | refine thenI ?_ | refine thenE ?_ | refine thenR ?_ | refine inBI ?_ | refine inBR ?_ | refine inBS ?_ | refine inBN (by decide) ?_)) | (refine W_condT ?hc ?_; (case hc => (simp (disch := omega) only [go_sem, ↓reduceIte, Nat.reduceEqDiff, Nat.reduceAdd, Nat.reduceLeDiff, q1]; done))) | (refine W_condF ?hc ?_; (case hc => (simp (disch := omega) only [go_sem, ↓reduceIte, Nat.reduceEqDiff, Nat.reduceAdd, Nat.reduceLeDiff, q1]; done))))
    (repeat (first | refine W_seqS ?_ | refine W_seqC ?_ | refine W_seqB ?_ | refine W_block ?_)); refine W_reg rfl fun G K hG hK => ?_; simp (disch := omega) only [go_sem, ↓reduceIte, Nat.reduceEqDiff, Nat.reduceAdd, Nat.reduceLeDiff, hG, q1, bsL, fillK_cons, fillK_nil, Nat.reduceMul]
    refine w_call (l1Pick_lit st.length bs sb _ _ 2 hd.cur rfl (by simp) (by simp)) (by simp (disch := omega) only [go_sem, ↓reduceIte, Nat.reduceEqDiff, q1]) ?hl ?_
    case hl => first | rfl | (simp only [go_sem, List.all_cons, List.all_nil, Bool.not_false, Bool.and_self, q1]; done)
    rintro r_ sc ⟨⟨w, rfl, hw⟩, hd2, hl2⟩; refine ⟨fun e => (by cases e), ?_⟩
    simp (disch := omega) only [go_sem, ↓reduceIte, Nat.reduceEqDiff, Nat.reduceAdd, Nat.reduceLeDiff, q1]
    refine w_call (l1Once_ok st.length bs sc 2 (by omega) (by omega) hd2.cur) (by simp (disch := omega) only [go_sem, ↓reduceIte, Nat.reduceEqDiff, q1]) ?hl ?_
    case hl => first | rfl | (simp only [go_sem, List.all_cons, List.all_nil, Bool.not_false, Bool.and_self, q1]; done)
    rintro r_ sd ⟨⟨g, rfl⟩, hd3, hl3⟩; refine ⟨fun e => (by cases e), ?_⟩
    have hd5 := hd.trans (Drawn.pre (Ext.app _ _) (hd2.trans hd3))
    have hw2 : w = ⟨#[101]⟩ ∨ w = ⟨#[119, 111, 114, 100]⟩ := by
      simp only [List.mem_cons, List.not_mem_nil, or_false, Value.string.injEq] at hw
      exact hw
    simp (disch := omega) only [go_sem, ↓reduceIte, Nat.reduceEqDiff, Nat.reduceAdd, Nat.reduceLeDiff, q1]
    rcases hw2 with rfl | rfl
    · refine w_call (l6E4_ok st.length bs g sd hd5.cur) (by simp (disch := omega) only [go_sem, ↓reduceIte, Nat.reduceEqDiff, q1]) ?hl ?_
      case hl => first | rfl | (simp only [go_sem, List.all_cons, List.all_nil, Bool.not_false, Bool.and_self, q1]; done)
      rintro r_ se ⟨hd6, a, c1, L1, rfl, ho1, hf1, hp1⟩; refine ⟨fun e => (by cases e), ?_⟩
      obtain ⟨kl, nl, ml, sl, rfl, a1, a2, a3⟩ := ho1.args_cells
      simp (disch := omega) only [go_sem, ↓reduceIte, Nat.reduceEqDiff, Nat.reduceAdd, Nat.reduceLeDiff, hG, q1, a1, a2, a3]; refine hK _ _ ?_; clear hK K hG G; repeat (first | refine thenI ?_ | refine thenE ?_ | refine thenR ?_ | refine inBI ?_ | refine inBR ?_ | refine inBS ?_ | refine inBN (by decide) ?_)
      refine W_ret ?_; try (repeat (first | refine thenI ?_ | refine thenE ?_ | refine thenR ?_ | refine inBI ?_ | refine inBR ?_ | refine inBS ?_ | refine inBN (by decide) ?_))
      refine finC (.inl rfl) (by (simp (disch := omega) only [go_sem, ↓reduceIte, Nat.reduceEqDiff, Nat.reduceAdd, Nat.reduceLeDiff, q1, a1, a2, a3]); try rfl) ⟨(hd5.trans hd6).away.ext_of x1 htop, _, [_, _, _, _], rfl, ho1.enc, by have := hp1.2; omega⟩
    · refine w_call (l6Word4_ok st.length bs g sd hd5.cur) (by simp (disch := omega) only [go_sem, ↓reduceIte, Nat.reduceEqDiff, q1]) ?hl ?_
      case hl => first | rfl | (simp only [go_sem, List.all_cons, List.all_nil, Bool.not_false, Bool.and_self, q1]; done)
      rintro r_ se ⟨hd6, a, c1, L1, rfl, ho1, hf1, hp1⟩; refine ⟨fun e => (by cases e), ?_⟩
      obtain ⟨kl, nl, ml, sl, rfl, a1, a2, a3⟩ := ho1.args_cells
      simp (disch := omega) only [go_sem, ↓reduceIte, Nat.reduceEqDiff, Nat.reduceAdd, Nat.reduceLeDiff, hG, q1, a1, a2, a3]; refine hK _ _ ?_; clear hK K hG G; repeat (first | refine thenI ?_ | refine thenE ?_ | refine thenR ?_ | refine inBI ?_ | refine inBR ?_ | refine inBS ?_ | refine inBN (by decide) ?_)
      refine W_ret ?_; try (repeat (first | refine thenI ?_ | refine thenE ?_ | refine thenR ?_ | refine inBI ?_ | refine inBR ?_ | refine inBS ?_ | refine inBN (by decide) ?_))
      refine finC (.inl rfl) (by (simp (disch := omega) only [go_sem, ↓reduceIte, Nat.reduceEqDiff, Nat.reduceAdd, Nat.reduceLeDiff, q1, a1, a2, a3]); try rfl) ⟨(hd5.trans hd6).away.ext_of x1 htop, _, [_, _, _, _], rfl, ho1.enc, by have := hp1.2; omega⟩
end Go.Proofs.Ytfckojbllbdejaa.AM


/- The law FnWords. -/
namespace Go.Proofs.Ytfckojbllbdejaa.AM
open Go Go.Proofs
set_option linter.unusedVariables false
set_option linter.unusedSimpArgs false
set_option maxRecDepth 100000
attribute [local go_sem] List.map_cons List.map_nil List.all_cons List.all_nil Bool.and_self Option.map_some List.getElem?_toArray Option.bind_some gye_b gye_t gsk_b gsk_t gb1 gb2 gb3 gb4 bne_self_eq_false beq_self_eq_true w_guard w_nil stepV_some step_some step_some' w_move w_assign w_pick w_binOp w_unOp w_load w_fieldAddr w_indexAddr w_len w_max w_index ev_max max_int ev_index w_box w_alloc w_store w_field w_extract w_nilCheck w_convert w_buildSlice w_build ev_buildL fillL_nil fillL_cons bs0 bs1 ev_conv ev_bin ev_un ev_pick ev_load ev_fieldAddr ev_indexAddr ev_len ev_field ev_extract ev_nilCheck fr_tmp fr_int fr_bool fr_str fr_nil fr_func put_some put_none bin_lss bin_leq bin_gtr bin_geq bin_eql bin_neq bin_add bin_sub bin_mul bin_seql bin_sneq un_not pick_ ext_ loadA_p cellAt_l cellAt_h okPtr_l okPtr_h fadA_p allocA_l storeA_l cells_agg cells_int cells_str cells_sl cells_bool flat_i flat_s flat_b flat_sl flat_nil loc_agg loc_int loc_str loc_sl loc_bool loc_fn loc_ptr okv_agg okv_int okv_str okv_sl okv_bool cellsFrom splice upd_eval argEnv_zero argEnv_succ ne_eq Nat.add_one_ne_zero not_false_eq_true List.not_mem_nil and_self decide_true List.getElem?_cons_zero List.getElem?_cons_succ List.size_toArray List.length_cons List.length_nil List.take_succ_cons List.take_zero List.drop_succ_cons List.drop_zero List.cons_append List.nil_append List.drop_nil Bool.not_true Bool.not_false Bool.false_eq_true Nat.zero_add Nat.add_zero wrap_in List.toList_toArray List.mem_cons or_self or_false false_or
attribute [local go_sem] ag22 ag24 ag26 ag3 ag31 ag5 ag9 bu26 bu31 bu51 by26 by9 el22 el24 el42 el45 of26_0 of26_1 of26_2 of26_3 of31_0 of31_1 of31_2 of51_0 of51_1 of51_2 ro26_0 ro26_1 ro26_2 ro3_3 ro9_0 ro9_1 ro9_2 ro9_3 ro9_4 sz22 sz24 sz26 sz3 sz31 sz5 sz9 ze26 ze31 ze9
-- AUTO

theorem holds_flip (a b : T) (ha : (((T.vars a).length : Int) == 0) = true) (hb : (((T.vars b).length : Int) == 0) = true) : (Grd.holds ⟨2, a, b⟩ == Grd.holds ⟨1, a, b⟩) = false := by
  have e21 : ((2 : Int) == 1) = false := by decide
  have e11 : ((1 : Int) == 1) = true := by decide
  have e22 : ((2 : Int) == 2) = true := by decide
  simp only [Grd.holds, ha, hb, Bool.true_and, e21, e11, e22, if_true, Bool.false_eq_true, if_false]
  cases T.eqv a.red b.red <;> rfl
theorem holds_turn (a b : T) (h : Grd.holds ⟨3, a, b⟩ = true) : Grd.holds ⟨3, b, a⟩ = false := by
  have e31 : ((3 : Int) == 1) = false := by decide
  have e32 : ((3 : Int) == 2) = false := by decide
  have e33 : ((3 : Int) == 3) = true := by decide
  simp only [Grd.holds, e31, e32, e33, if_true, Bool.false_eq_true, if_false, Bool.and_eq_true, decide_eq_true_eq] at h
  obtain ⟨_, _, _, _, h⟩ := h
  simp only [Grd.holds, e31, e32, e33, if_true, Bool.false_eq_true, if_false]
  have : decide (b.red.num < a.red.num) = false := by simp; omega
  rw [this]
  simp
theorem wFnWords (st : St) (bs : List Byt) (s : Value) (hr : RowY st bs s) (hN : bs.length ≤ maxLen) : CallS Try.prog 3 [s] st fun r _ => r = .bool true := by
  refine CallS_of_W [] 74 Try.func3 rfl rfl rfl rfl (by simp) ?_
  have q1 := hr.notLoc.1
  have bne1 : ∀ (x y : Operand) (a b : Bool), binE Try.prog .neq 4 x y (.bool a) (.bool b) = some (.bool !(a == b)) := fun x y a b => bin_bneq Try.underlying4
  have beq1 : ∀ (x y : Operand) (a b : Bool), binE Try.prog .eql 4 x y (.bool a) (.bool b) = some (.bool (a == b)) := fun x y a b => bin_beql Try.underlying4
  repeat (first | (refine W_reg rfl fun G K hG hK => ?_; simp (disch := omega) only [go_sem, ↓reduceIte, Nat.reduceEqDiff, Nat.reduceAdd, Nat.reduceLeDiff, hG, q1, bne1, beq1]; refine hK _ _ ?_; clear hK K hG G) | (refine W_end rfl fun G K hG hK => ?_; simp (disch := omega) only [go_sem, ↓reduceIte, Nat.reduceEqDiff, Nat.reduceAdd, Nat.reduceLeDiff, hG, q1, bne1, beq1]; refine hK _ _ ?_; clear hK K hG G; repeat (first | refine thenI ?_ | refine thenE ?_ | refine thenR ?_ | refine inBI ?_ | refine inBR ?_ | refine inBS ?_ | refine inBN (by decide) ?_)) | refine W_seqS ?_ | refine W_seqC ?_ | refine W_seqB ?_ | refine W_block ?_ | (refine W_skip ?_; repeat (first | refine thenI ?_ | refine thenE ?_ | refine thenR ?_ | refine inBI ?_ | refine inBR ?_ | refine inBS ?_ | refine inBN (by decide) ?_)) | (refine W_condT ?hc ?_; (case hc => (simp (disch := omega) only [go_sem, ↓reduceIte, Nat.reduceEqDiff, Nat.reduceAdd, Nat.reduceLeDiff, q1, bne1, beq1]; done))) | (refine W_condF ?hc ?_; (case hc => (simp (disch := omega) only [go_sem, ↓reduceIte, Nat.reduceEqDiff, Nat.reduceAdd, Nat.reduceLeDiff, q1, bne1, beq1]; done))))
  (repeat (first | refine W_seqS ?_ | refine W_seqC ?_ | refine W_seqB ?_ | refine W_block ?_)); refine W_reg rfl fun G K hG hK => ?_; simp (disch := omega) only [go_sem, ↓reduceIte, Nat.reduceEqDiff, Nat.reduceAdd, Nat.reduceLeDiff, hG, q1, bne1, beq1]
  refine w_call (big_ok bs st s hr) (by simp (disch := omega) only [go_sem, ↓reduceIte, Nat.reduceEqDiff, q1, bne1, beq1]) ?hl ?_
  case hl => first | rfl | (simp only [go_sem, List.all_cons, List.all_nil, Bool.not_false, Bool.and_self, q1, bne1, beq1]; done)
  rintro r_ st ⟨rfl, rfl⟩; refine ⟨fun e => (by cases e), ?_⟩
  simp (disch := omega) only [go_sem, ↓reduceIte, Nat.reduceEqDiff, Nat.reduceAdd, Nat.reduceLeDiff, hG, q1, bne1, beq1]; refine hK _ _ ?_; clear hK K hG G; repeat (first | refine thenI ?_ | refine thenE ?_ | refine thenR ?_ | refine inBI ?_ | refine inBR ?_ | refine inBS ?_ | refine inBN (by decide) ?_)
  cases hb : decide ((bs.length : Int) > 1048576) with
  | true =>
    repeat (first | (refine W_reg rfl fun G K hG hK => ?_; simp (disch := omega) only [go_sem, ↓reduceIte, Nat.reduceEqDiff, Nat.reduceAdd, Nat.reduceLeDiff, hG, q1, bne1, beq1]; refine hK _ _ ?_; clear hK K hG G) | (refine W_end rfl fun G K hG hK => ?_; simp (disch := omega) only [go_sem, ↓reduceIte, Nat.reduceEqDiff, Nat.reduceAdd, Nat.reduceLeDiff, hG, q1, bne1, beq1]; refine hK _ _ ?_; clear hK K hG G; repeat (first | refine thenI ?_ | refine thenE ?_ | refine thenR ?_ | refine inBI ?_ | refine inBR ?_ | refine inBS ?_ | refine inBN (by decide) ?_)) | refine W_seqS ?_ | refine W_seqC ?_ | refine W_seqB ?_ | refine W_block ?_ | (refine W_skip ?_; repeat (first | refine thenI ?_ | refine thenE ?_ | refine thenR ?_ | refine inBI ?_ | refine inBR ?_ | refine inBS ?_ | refine inBN (by decide) ?_)) | (refine W_condT ?hc ?_; (case hc => (simp (disch := omega) only [go_sem, ↓reduceIte, Nat.reduceEqDiff, Nat.reduceAdd, Nat.reduceLeDiff, q1, bne1, beq1]; done))) | (refine W_condF ?hc ?_; (case hc => (simp (disch := omega) only [go_sem, ↓reduceIte, Nat.reduceEqDiff, Nat.reduceAdd, Nat.reduceLeDiff, q1, bne1, beq1]; done))))
    refine W_ret ?_; try (repeat (first | refine thenI ?_ | refine thenE ?_ | refine thenR ?_ | refine inBI ?_ | refine inBR ?_ | refine inBS ?_ | refine inBN (by decide) ?_))
    refine fin1 (.inl rfl) (by (simp (disch := omega) only [go_sem, ↓reduceIte, Nat.reduceEqDiff, Nat.reduceAdd, Nat.reduceLeDiff, q1, bne1, beq1]); try rfl) rfl rfl
  | false =>
  have hbig : bs.length ≤ 4611686018427387904 := by simp at hb; omega
  repeat (first | (refine W_reg rfl fun G K hG hK => ?_; simp (disch := omega) only [go_sem, ↓reduceIte, Nat.reduceEqDiff, Nat.reduceAdd, Nat.reduceLeDiff, hG, q1, bne1, beq1]; refine hK _ _ ?_; clear hK K hG G) | (refine W_end rfl fun G K hG hK => ?_; simp (disch := omega) only [go_sem, ↓reduceIte, Nat.reduceEqDiff, Nat.reduceAdd, Nat.reduceLeDiff, hG, q1, bne1, beq1]; refine hK _ _ ?_; clear hK K hG G; repeat (first | refine thenI ?_ | refine thenE ?_ | refine thenR ?_ | refine inBI ?_ | refine inBR ?_ | refine inBS ?_ | refine inBN (by decide) ?_)) | refine W_seqS ?_ | refine W_seqC ?_ | refine W_seqB ?_ | refine W_block ?_ | (refine W_skip ?_; repeat (first | refine thenI ?_ | refine thenE ?_ | refine thenR ?_ | refine inBI ?_ | refine inBR ?_ | refine inBS ?_ | refine inBN (by decide) ?_)) | (refine W_condT ?hc ?_; (case hc => (simp (disch := omega) only [go_sem, ↓reduceIte, Nat.reduceEqDiff, Nat.reduceAdd, Nat.reduceLeDiff, q1, bne1, beq1]; done))) | (refine W_condF ?hc ?_; (case hc => (simp (disch := omega) only [go_sem, ↓reduceIte, Nat.reduceEqDiff, Nat.reduceAdd, Nat.reduceLeDiff, q1, bne1, beq1]; done))))
  (repeat (first | refine W_seqS ?_ | refine W_seqC ?_ | refine W_seqB ?_ | refine W_block ?_)); refine W_reg rfl fun G K hG hK => ?_; simp (disch := omega) only [go_sem, ↓reduceIte, Nat.reduceEqDiff, Nat.reduceAdd, Nat.reduceLeDiff, hG, q1, bne1, beq1]
  refine w_call (drawRed_ok bs st s hbig hr) (by simp (disch := omega) only [go_sem, ↓reduceIte, Nat.reduceEqDiff, q1, bne1, beq1]) ?hl ?_
  case hl => first | rfl | (simp only [go_sem, List.all_cons, List.all_nil, Bool.not_false, Bool.and_self, q1, bne1, beq1]; done)
  rintro r_ sa ⟨x1, t, ds, rfl, hE, hw⟩; refine ⟨fun e => (by cases e), ?_⟩
  have hl : Lim 1073741824 t := Lim.of_wt _ (by omega)
  obtain ⟨k, n, m, s1, rfl, a1, a2, a3⟩ := hE.args_cells
  simp (disch := omega) only [go_sem, ↓reduceIte, Nat.reduceEqDiff, Nat.reduceAdd, Nat.reduceLeDiff, hG, q1, bne1, beq1, a1, a2, a3]; refine hK _ _ ?_; clear hK K hG G; repeat (first | refine thenI ?_ | refine thenE ?_ | refine thenR ?_ | refine inBI ?_ | refine inBR ?_ | refine inBS ?_ | refine inBN (by decide) ?_)
  (repeat (first | refine W_seqS ?_ | refine W_seqC ?_ | refine W_seqB ?_ | refine W_block ?_)); refine W_reg rfl fun G K hG hK => ?_; simp (disch := omega) only [go_sem, ↓reduceIte, Nat.reduceEqDiff, Nat.reduceAdd, Nat.reduceLeDiff, hG, q1, bne1, beq1, a1, a2, a3]
  refine w_call (implRed_ok t sa _ hl hE) (by simp (disch := omega) only [go_sem, ↓reduceIte, Nat.reduceEqDiff, q1, bne1, beq1, a1, a2, a3]) ?hl ?_
  case hl => first | rfl | (simp only [go_sem, List.all_cons, List.all_nil, Bool.not_false, Bool.and_self, q1, bne1, beq1, a1, a2, a3]; done)
  rintro r_ sb ⟨x2, es, L2, rfl, ho2, hf2⟩; refine ⟨fun e => (by cases e), ?_⟩
  obtain ⟨k2, n2, m2, s2, rfl, b1, b2, b3⟩ := ho2.args_cells
  simp (disch := omega) only [go_sem, ↓reduceIte, Nat.reduceEqDiff, Nat.reduceAdd, Nat.reduceLeDiff, hG, q1, bne1, beq1, a1, a2, a3, b1, b2, b3]; refine hK _ _ ?_; clear hK K hG G; repeat (first | refine thenI ?_ | refine thenE ?_ | refine thenR ?_ | refine inBI ?_ | refine inBR ?_ | refine inBS ?_ | refine inBN (by decide) ?_)
  have hE2 := Enc.ext x2 _ _ hE
  have hR2 := ho2.enc
  have hlr : Lim 1073741824 t.red := Lim.red _ hl
  refine W_gen (fun fr => (fr.env 0 = s) ∧ (fr.env 3 = .pointer (some ⟨3, 0, some 1⟩)) ∧ (fr.env 4 = .pointer (some ⟨4, 0, some 1⟩)) ∧ (fr.loc 3 = (1, [.int .i64 k, .int .i64 n, .string m, s1])) ∧ (fr.loc 4 = (1, [.int .i64 k2, .int .i64 n2, .string m2, s2])) ∧ ((fr.loc 5).1 = 0) ∧ ((fr.loc 7).1 = 0)) ⟨(by (simp (disch := omega) only [go_sem, ↓reduceIte, Nat.reduceEqDiff, Nat.reduceAdd, Nat.reduceLeDiff, q1, bne1, beq1, a1, a2, a3, b1, b2, b3]); try rfl), (by (simp (disch := omega) only [go_sem, ↓reduceIte, Nat.reduceEqDiff, Nat.reduceAdd, Nat.reduceLeDiff, q1, bne1, beq1, a1, a2, a3, b1, b2, b3]); try rfl), (by (simp (disch := omega) only [go_sem, ↓reduceIte, Nat.reduceEqDiff, Nat.reduceAdd, Nat.reduceLeDiff, q1, bne1, beq1, a1, a2, a3, b1, b2, b3]); try rfl), (by (simp (disch := omega) only [go_sem, ↓reduceIte, Nat.reduceEqDiff, Nat.reduceAdd, Nat.reduceLeDiff, q1, bne1, beq1, a1, a2, a3, b1, b2, b3]); try rfl), (by (simp (disch := omega) only [go_sem, ↓reduceIte, Nat.reduceEqDiff, Nat.reduceAdd, Nat.reduceLeDiff, q1, bne1, beq1, a1, a2, a3, b1, b2, b3]); try rfl), (by (simp (disch := omega) only [go_sem, ↓reduceIte, Nat.reduceEqDiff, Nat.reduceAdd, Nat.reduceLeDiff, q1, bne1, beq1, a1, a2, a3, b1, b2, b3]); try rfl), (by (simp (disch := omega) only [go_sem, ↓reduceIte, Nat.reduceEqDiff, Nat.reduceAdd, Nat.reduceLeDiff, q1, bne1, beq1, a1, a2, a3, b1, b2, b3]); try rfl)⟩ ?_
  rintro ⟨env, loc⟩ ⟨e0, e3, e4, l3, l4, l5, l7⟩
  simp only at e0 e3 e4 l3 l4 l5 l7
  have hr2 := hr.ext (x1.trans x2)
  (repeat (first | refine W_seqS ?_ | refine W_seqC ?_ | refine W_seqB ?_ | refine W_block ?_)); refine W_regD mixed [] [(0,false),(1,false),(2,true),(3,true),(4,false),(5,false),(6,false),(8,false),(7,true),(9,true),(10,false),(11,false)] rfl (by decide +kernel) fun G K hG hK => ?_; simp only [pickOps, List.filterMap_cons, List.filterMap_nil, List.getElem?_cons_zero, List.getElem?_cons_succ, Option.map_some]; simp (disch := omega) only [go_sem, ↓reduceIte, Nat.reduceEqDiff, Nat.reduceAdd, Nat.reduceLeDiff, hG, q1, bne1, beq1, a1, a2, a3, b1, b2, b3, e0, e3, e4, l3, l4, l5, l7]
  refine w_call (specRed_ok t sb _ hl hE2) (by simp (disch := omega) only [go_sem, ↓reduceIte, Nat.reduceEqDiff, q1, bne1, beq1, a1, a2, a3, b1, b2, b3, e0, e3, e4, l3, l4, l5, l7]) ?hl ?_
  case hl => first | rfl | (simp only [go_sem, List.all_cons, List.all_nil, Bool.not_false, Bool.and_self, q1, bne1, beq1, a1, a2, a3, b1, b2, b3, e0, e3, e4, l3, l4, l5, l7]; done)
  rintro r_ sc ⟨x3, fs, L3, rfl, ho3, hf3⟩; refine ⟨fun e => x3, ?_⟩
  obtain ⟨k3, n3, m3, s3, rfl, c1', c2, c3⟩ := ho3.args_cells
  have hR3 := Enc.ext x3 _ _ hR2
  have f1 : T.eqv t.red t.red = true := (T.eqv_iff _ _).2 rfl
  simp (disch := omega) only [go_sem, ↓reduceIte, Nat.reduceEqDiff, Nat.reduceAdd, Nat.reduceLeDiff, q1, bne1, beq1, a1, a2, a3, b1, b2, b3, e0, e3, e4, l3, l4, l5, l7, hG, c1', c2, c3]
  refine w_call (specEq_ok t.red t.red sc _ _ hlr hlr hR3 ho3.enc) (by simp (disch := omega) only [go_sem, ↓reduceIte, Nat.reduceEqDiff, q1, bne1, beq1, a1, a2, a3, b1, b2, b3, e0, e3, e4, l3, l4, l5, l7, c1', c2, c3]) ?hl ?_
  case hl => first | rfl | (simp only [go_sem, List.all_cons, List.all_nil, Bool.not_false, Bool.and_self, q1, bne1, beq1, a1, a2, a3, b1, b2, b3, e0, e3, e4, l3, l4, l5, l7, c1', c2, c3]; done)
  rintro r_ sc ⟨rfl, rfl⟩; refine ⟨fun e => Ext.refl _, ?_⟩
  simp (disch := omega) only [go_sem, ↓reduceIte, Nat.reduceEqDiff, Nat.reduceAdd, Nat.reduceLeDiff, q1, bne1, beq1, a1, a2, a3, b1, b2, b3, e0, e3, e4, l3, l4, l5, l7, hG, f1]
  refine w_call (implRed_ok t.red sc _ hlr hR3) (by simp (disch := omega) only [go_sem, ↓reduceIte, Nat.reduceEqDiff, q1, bne1, beq1, a1, a2, a3, b1, b2, b3, e0, e3, e4, l3, l4, l5, l7]) ?hl ?_
  case hl => first | rfl | (simp only [go_sem, List.all_cons, List.all_nil, Bool.not_false, Bool.and_self, q1, bne1, beq1, a1, a2, a3, b1, b2, b3, e0, e3, e4, l3, l4, l5, l7]; done)
  rintro r_ sd ⟨x4, gs, L4, rfl, ho4, hf4⟩; refine ⟨fun e => x4, ?_⟩
  obtain ⟨k4, n4, m4, s4, rfl, d1, d2, d3⟩ := ho4.args_cells
  rw [T.red_idem] at ho4
  simp (disch := omega) only [go_sem, ↓reduceIte, Nat.reduceEqDiff, Nat.reduceAdd, Nat.reduceLeDiff, q1, bne1, beq1, a1, a2, a3, b1, b2, b3, e0, e3, e4, l3, l4, l5, l7, hG, f1, d1, d2, d3]
  refine w_call (specEq_ok t.red t.red sd _ _ hlr hlr ho4.enc (Enc.ext x4 _ _ hR3)) (by simp (disch := omega) only [go_sem, ↓reduceIte, Nat.reduceEqDiff, q1, bne1, beq1, a1, a2, a3, b1, b2, b3, e0, e3, e4, l3, l4, l5, l7, d1, d2, d3]) ?hl ?_
  case hl => first | rfl | (simp only [go_sem, List.all_cons, List.all_nil, Bool.not_false, Bool.and_self, q1, bne1, beq1, a1, a2, a3, b1, b2, b3, e0, e3, e4, l3, l4, l5, l7, d1, d2, d3]; done)
  rintro r_ sd ⟨rfl, rfl⟩; refine ⟨fun e => Ext.refl _, ?_⟩
  simp (disch := omega) only [go_sem, ↓reduceIte, Nat.reduceEqDiff, Nat.reduceAdd, Nat.reduceLeDiff, hG, q1, bne1, beq1, a1, a2, a3, b1, b2, b3, e0, e3, e4, l3, l4, l5, l7, f1]; refine hK _ _ ?_; clear hK K hG G; repeat (first | refine thenI ?_ | refine thenE ?_ | refine thenR ?_ | refine inBI ?_ | refine inBR ?_ | refine inBS ?_ | refine inBN (by decide) ?_)
  repeat (first | (refine W_reg rfl fun G K hG hK => ?_; simp (disch := omega) only [go_sem, ↓reduceIte, Nat.reduceEqDiff, Nat.reduceAdd, Nat.reduceLeDiff, hG, q1, bne1, beq1, a1, a2, a3, b1, b2, b3, e0, e3, e4, l3, l4, l5, l7]; refine hK _ _ ?_; clear hK K hG G) | (refine W_end rfl fun G K hG hK => ?_; simp (disch := omega) only [go_sem, ↓reduceIte, Nat.reduceEqDiff, Nat.reduceAdd, Nat.reduceLeDiff, hG, q1, bne1, beq1, a1, a2, a3, b1, b2, b3, e0, e3, e4, l3, l4, l5, l7]; refine hK _ _ ?_; clear hK K hG G; repeat (first | refine thenI ?_ | refine thenE ?_ | refine thenR ?_ | refine inBI ?_ | refine inBR ?_ | refine inBS ?_ | refine inBN (by decide) ?_)) | refine W_seqS ?_ | refine W_seqC ?_ | refine W_seqB ?_ | refine W_block ?_ | (refine W_skip ?_; repeat (first | refine thenI ?_ | refine thenE ?_ | refine thenR ?_ | refine inBI ?_ | refine inBR ?_ | refine inBS ?_ | refine inBN (by decide) ?_)) | (refine W_condT ?hc ?_; (case hc => (simp (disch := omega) only [go_sem, ↓reduceIte, Nat.reduceEqDiff, Nat.reduceAdd, Nat.reduceLeDiff, q1, bne1, beq1, a1, a2, a3, b1, b2, b3, e0, e3, e4, l3, l4, l5, l7]; done))) | (refine W_condF ?hc ?_; (case hc => (simp (disch := omega) only [go_sem, ↓reduceIte, Nat.reduceEqDiff, Nat.reduceAdd, Nat.reduceLeDiff, q1, bne1, beq1, a1, a2, a3, b1, b2, b3, e0, e3, e4, l3, l4, l5, l7]; done))))
  have hr4 := (hr2.ext x3).ext x4
  (repeat (first | refine W_seqS ?_ | refine W_seqC ?_ | refine W_seqB ?_ | refine W_block ?_)); refine W_reg rfl fun G K hG hK => ?_; simp (disch := omega) only [go_sem, ↓reduceIte, Nat.reduceEqDiff, Nat.reduceAdd, Nat.reduceLeDiff, hG, q1, bne1, beq1, a1, a2, a3, b1, b2, b3, e0, e3, e4, l3, l4, l5, l7]
  refine w_call (drawHolds_ok bs sd s hbig hr4) (by simp (disch := omega) only [go_sem, ↓reduceIte, Nat.reduceEqDiff, q1, bne1, beq1, a1, a2, a3, b1, b2, b3, e0, e3, e4, l3, l4, l5, l7]) ?hl ?_
  case hl => first | rfl | (simp only [go_sem, List.all_cons, List.all_nil, Bool.not_false, Bool.and_self, q1, bne1, beq1, a1, a2, a3, b1, b2, b3, e0, e3, e4, l3, l4, l5, l7]; done)
  rintro r_ se ⟨x5, k, a, b, kl, nl, ml, sl, kr, nr, mr, sr, rfl, hA, hB, hwa, hwb, hk0, hk1⟩; refine ⟨fun e => (by cases e), ?_⟩
  obtain ⟨i1, i2, i3⟩ : isLoc sl = false ∧ okv sl = true ∧ vc sl = #[sl] := by obtain ⟨k', n', m', s', he, h1, h2, h3⟩ := hA.args_cells; cases he; exact ⟨h1, h2, h3⟩
  obtain ⟨j1, j2, j3⟩ : isLoc sr = false ∧ okv sr = true ∧ vc sr = #[sr] := by obtain ⟨k', n', m', s', he, h1, h2, h3⟩ := hB.args_cells; cases he; exact ⟨h1, h2, h3⟩
  simp (disch := omega) only [go_sem, ↓reduceIte, Nat.reduceEqDiff, Nat.reduceAdd, Nat.reduceLeDiff, hG, q1, bne1, beq1, e0, e3, e4, l3, l4, l5, l7, i1, i2, i3, j1, j2, j3]; refine hK _ _ ?_; clear hK K hG G; repeat (first | refine thenI ?_ | refine thenE ?_ | refine thenR ?_ | refine inBI ?_ | refine inBR ?_ | refine inBS ?_ | refine inBN (by decide) ?_)
  have hla : Lim 1073741824 a := Lim.of_wt _ (by omega)
  have hlb : Lim 1073741824 b := Lim.of_wt _ (by omega)
  have hwg : ∀ k', Wt.wt (⟨k', a, b⟩ : Grd) + 1 ≤ 1073741824 := fun k' => by show a.wt + b.wt + 1 ≤ _; omega
  have hwg' : ∀ k', Wt.wt (⟨k', b, a⟩ : Grd) + 1 ≤ 1073741824 := fun k' => by show b.wt + a.wt + 1 ≤ _; omega
  (repeat (first | refine W_seqS ?_ | refine W_seqC ?_ | refine W_seqB ?_ | refine W_block ?_)); refine W_reg rfl fun G K hG hK => ?_; simp (disch := omega) only [go_sem, ↓reduceIte, Nat.reduceEqDiff, Nat.reduceAdd, Nat.reduceLeDiff, hG, q1, bne1, beq1, e0, e3, e4, l3, l4, l5, l7, i1, i2, i3, j1, j2, j3]
  refine w_call (implHolds_ok ⟨k, a, b⟩ se _ ⟨hla, hlb⟩ (hwg k) ⟨_, _, rfl, hA, hB⟩) (by simp (disch := omega) only [go_sem, ↓reduceIte, Nat.reduceEqDiff, q1, bne1, beq1, e0, e3, e4, l3, l4, l5, l7, i1, i2, i3, j1, j2, j3]) ?hl ?_
  case hl => first | rfl | (simp only [go_sem, List.all_cons, List.all_nil, Bool.not_false, Bool.and_self, q1, bne1, beq1, e0, e3, e4, l3, l4, l5, l7, i1, i2, i3, j1, j2, j3]; done)
  rintro r_ sf ⟨x6, rfl⟩; refine ⟨fun e => (by cases e), ?_⟩
  simp (disch := omega) only [go_sem, ↓reduceIte, Nat.reduceEqDiff, Nat.reduceAdd, Nat.reduceLeDiff, hG, q1, bne1, beq1, e0, e3, e4, l3, l4, l5, l7, i1, i2, i3, j1, j2, j3]; refine hK _ _ ?_; clear hK K hG G; repeat (first | refine thenI ?_ | refine thenE ?_ | refine thenR ?_ | refine inBI ?_ | refine inBR ?_ | refine inBS ?_ | refine inBN (by decide) ?_)
  have hA6 := Enc.ext x6 _ _ hA
  have hB6 := Enc.ext x6 _ _ hB
  repeat (first | (refine W_reg rfl fun G K hG hK => ?_; simp (disch := omega) only [go_sem, ↓reduceIte, Nat.reduceEqDiff, Nat.reduceAdd, Nat.reduceLeDiff, hG, q1, bne1, beq1, e0, e3, e4, l3, l4, l5, l7, i1, i2, i3, j1, j2, j3]; refine hK _ _ ?_; clear hK K hG G) | (refine W_end rfl fun G K hG hK => ?_; simp (disch := omega) only [go_sem, ↓reduceIte, Nat.reduceEqDiff, Nat.reduceAdd, Nat.reduceLeDiff, hG, q1, bne1, beq1, e0, e3, e4, l3, l4, l5, l7, i1, i2, i3, j1, j2, j3]; refine hK _ _ ?_; clear hK K hG G; repeat (first | refine thenI ?_ | refine thenE ?_ | refine thenR ?_ | refine inBI ?_ | refine inBR ?_ | refine inBS ?_ | refine inBN (by decide) ?_)) | refine W_seqS ?_ | refine W_seqC ?_ | refine W_seqB ?_ | refine W_block ?_ | (refine W_skip ?_; repeat (first | refine thenI ?_ | refine thenE ?_ | refine thenR ?_ | refine inBI ?_ | refine inBR ?_ | refine inBS ?_ | refine inBN (by decide) ?_)) | (refine W_condT ?hc ?_; (case hc => (simp (disch := omega) only [go_sem, ↓reduceIte, Nat.reduceEqDiff, Nat.reduceAdd, Nat.reduceLeDiff, q1, bne1, beq1, e0, e3, e4, l3, l4, l5, l7, i1, i2, i3, j1, j2, j3]; done))) | (refine W_condF ?hc ?_; (case hc => (simp (disch := omega) only [go_sem, ↓reduceIte, Nat.reduceEqDiff, Nat.reduceAdd, Nat.reduceLeDiff, q1, bne1, beq1, e0, e3, e4, l3, l4, l5, l7, i1, i2, i3, j1, j2, j3]; done))))
  generalize hh : Grd.holds ⟨k, a, b⟩ = h1
  refine W_gen (fun fr => (fr.env 5 = .pointer (some ⟨5, 0, some 1⟩)) ∧ (fr.env 6 = .bool h1) ∧ (fr.env 7 = .pointer (some ⟨7, 0, some 1⟩)) ∧ (fr.loc 5 = (1, [.int .i64 k, .int .i64 kl, .int .i64 nl, .string ml, sl, .int .i64 kr, .int .i64 nr, .string mr, sr])) ∧ (fr.loc 7 = (1, [.int .i64 (3 - k), .int .i64 kl, .int .i64 nl, .string ml, sl, .int .i64 kr, .int .i64 nr, .string mr, sr]))) ⟨(by (simp (disch := omega) only [go_sem, ↓reduceIte, Nat.reduceEqDiff, Nat.reduceAdd, Nat.reduceLeDiff, q1, bne1, beq1, e0, e3, e4, l3, l4, l5, l7, i1, i2, i3, j1, j2, j3]); try rfl), (by (simp (disch := omega) only [go_sem, ↓reduceIte, Nat.reduceEqDiff, Nat.reduceAdd, Nat.reduceLeDiff, q1, bne1, beq1, e0, e3, e4, l3, l4, l5, l7, i1, i2, i3, j1, j2, j3]); try rfl), (by (simp (disch := omega) only [go_sem, ↓reduceIte, Nat.reduceEqDiff, Nat.reduceAdd, Nat.reduceLeDiff, q1, bne1, beq1, e0, e3, e4, l3, l4, l5, l7, i1, i2, i3, j1, j2, j3]); try rfl), (by (simp (disch := omega) only [go_sem, ↓reduceIte, Nat.reduceEqDiff, Nat.reduceAdd, Nat.reduceLeDiff, q1, bne1, beq1, e0, e3, e4, l3, l4, l5, l7, i1, i2, i3, j1, j2, j3]); try rfl), (by (simp (disch := omega) only [go_sem, ↓reduceIte, Nat.reduceEqDiff, Nat.reduceAdd, Nat.reduceLeDiff, q1, bne1, beq1, e0, e3, e4, l3, l4, l5, l7, i1, i2, i3, j1, j2, j3]); try rfl)⟩ ?_
  clear e0 e3 e4 l3 l4 l5 l7
  rintro ⟨env, loc⟩ ⟨e5, e6, e7, l5, l7⟩
  simp only at e5 e6 e7 l5 l7
  (repeat (first | refine W_seqS ?_ | refine W_seqC ?_ | refine W_seqB ?_ | refine W_block ?_)); refine W_reg rfl fun G K hG hK => ?_; simp (disch := omega) only [go_sem, ↓reduceIte, Nat.reduceEqDiff, Nat.reduceAdd, Nat.reduceLeDiff, hG, q1, bne1, beq1, i1, i2, i3, j1, j2, j3, e5, e6, e7, l5, l7]
  refine w_call (specHolds_ok ⟨k, a, b⟩ sf _ ⟨hla, hlb⟩ (hwg k) ⟨_, _, rfl, hA6, hB6⟩) (by simp (disch := omega) only [go_sem, ↓reduceIte, Nat.reduceEqDiff, q1, bne1, beq1, i1, i2, i3, j1, j2, j3, e5, e6, e7, l5, l7]) ?hl ?_
  case hl => first | rfl | (simp only [go_sem, List.all_cons, List.all_nil, Bool.not_false, Bool.and_self, q1, bne1, beq1, i1, i2, i3, j1, j2, j3, e5, e6, e7, l5, l7]; done)
  rintro r_ sg ⟨x7, rfl⟩; refine ⟨fun e => (by cases e), ?_⟩
  have f2 : (!(h1 == h1)) = false := by simp
  rw [hh]
  simp (disch := omega) only [go_sem, ↓reduceIte, Nat.reduceEqDiff, Nat.reduceAdd, Nat.reduceLeDiff, hG, q1, bne1, beq1, i1, i2, i3, j1, j2, j3, e5, e6, e7, l5, l7, f2]; refine hK _ _ ?_; clear hK K hG G; repeat (first | refine thenI ?_ | refine thenE ?_ | refine thenR ?_ | refine inBI ?_ | refine inBR ?_ | refine inBS ?_ | refine inBN (by decide) ?_)
  have hA7 := Enc.ext x7 _ _ hA6
  have hB7 := Enc.ext x7 _ _ hB6
  repeat (first | (refine W_reg rfl fun G K hG hK => ?_; simp (disch := omega) only [go_sem, ↓reduceIte, Nat.reduceEqDiff, Nat.reduceAdd, Nat.reduceLeDiff, hG, q1, bne1, beq1, i1, i2, i3, j1, j2, j3, e5, e6, e7, l5, l7]; refine hK _ _ ?_; clear hK K hG G) | (refine W_end rfl fun G K hG hK => ?_; simp (disch := omega) only [go_sem, ↓reduceIte, Nat.reduceEqDiff, Nat.reduceAdd, Nat.reduceLeDiff, hG, q1, bne1, beq1, i1, i2, i3, j1, j2, j3, e5, e6, e7, l5, l7]; refine hK _ _ ?_; clear hK K hG G; repeat (first | refine thenI ?_ | refine thenE ?_ | refine thenR ?_ | refine inBI ?_ | refine inBR ?_ | refine inBS ?_ | refine inBN (by decide) ?_)) | refine W_seqS ?_ | refine W_seqC ?_ | refine W_seqB ?_ | refine W_block ?_ | (refine W_skip ?_; repeat (first | refine thenI ?_ | refine thenE ?_ | refine thenR ?_ | refine inBI ?_ | refine inBR ?_ | refine inBS ?_ | refine inBN (by decide) ?_)) | (refine W_condT ?hc ?_; (case hc => (simp (disch := omega) only [go_sem, ↓reduceIte, Nat.reduceEqDiff, Nat.reduceAdd, Nat.reduceLeDiff, q1, bne1, beq1, i1, i2, i3, j1, j2, j3, e5, e6, e7, l5, l7]; done))) | (refine W_condF ?hc ?_; (case hc => (simp (disch := omega) only [go_sem, ↓reduceIte, Nat.reduceEqDiff, Nat.reduceAdd, Nat.reduceLeDiff, q1, bne1, beq1, i1, i2, i3, j1, j2, j3, e5, e6, e7, l5, l7]; done))))
  refine W_seq ?_
  refine W_to (fun fr st' => (Enc st' a [.int .i64 kl, .int .i64 nl, .string ml, sl]) ∧ (Enc st' b [.int .i64 kr, .int .i64 nr, .string mr, sr]) ∧ (fr.env 5 = .pointer (some ⟨5, 0, some 1⟩)) ∧ (fr.env 6 = .bool h1) ∧ (fr.env 57 = .bool false) ∧ (fr.loc 5 = (1, [.int .i64 k, .int .i64 kl, .int .i64 nl, .string ml, sl, .int .i64 kr, .int .i64 nr, .string mr, sr]))) ?_ ?_
  · cases hk : (k == 1) with
    | false =>
      repeat (first | (refine W_reg rfl fun G K hG hK => ?_; simp (disch := omega) only [go_sem, ↓reduceIte, Nat.reduceEqDiff, Nat.reduceAdd, Nat.reduceLeDiff, hG, q1, bne1, beq1, i1, i2, i3, j1, j2, j3, e5, e6, e7, l5, l7, hk]; refine hK _ _ ?_; clear hK K hG G) | (refine W_end rfl fun G K hG hK => ?_; simp (disch := omega) only [go_sem, ↓reduceIte, Nat.reduceEqDiff, Nat.reduceAdd, Nat.reduceLeDiff, hG, q1, bne1, beq1, i1, i2, i3, j1, j2, j3, e5, e6, e7, l5, l7, hk]; refine hK _ _ ?_; clear hK K hG G; repeat (first | refine thenI ?_ | refine thenE ?_ | refine thenR ?_ | refine inBI ?_ | refine inBR ?_ | refine inBS ?_ | refine inBN (by decide) ?_)) | refine W_seqS ?_ | refine W_seqC ?_ | refine W_seqB ?_ | refine W_block ?_ | (refine W_skip ?_; repeat (first | refine thenI ?_ | refine thenE ?_ | refine thenR ?_ | refine inBI ?_ | refine inBR ?_ | refine inBS ?_ | refine inBN (by decide) ?_)) | (refine W_condT ?hc ?_; (case hc => (simp (disch := omega) only [go_sem, ↓reduceIte, Nat.reduceEqDiff, Nat.reduceAdd, Nat.reduceLeDiff, q1, bne1, beq1, i1, i2, i3, j1, j2, j3, e5, e6, e7, l5, l7, hk]; done))) | (refine W_condF ?hc ?_; (case hc => (simp (disch := omega) only [go_sem, ↓reduceIte, Nat.reduceEqDiff, Nat.reduceAdd, Nat.reduceLeDiff, q1, bne1, beq1, i1, i2, i3, j1, j2, j3, e5, e6, e7, l5, l7, hk]; done))))
      exact ⟨hA7, hB7, (by (simp (disch := omega) only [go_sem, ↓reduceIte, Nat.reduceEqDiff, Nat.reduceAdd, Nat.reduceLeDiff, q1, bne1, beq1, i1, i2, i3, j1, j2, j3, e5, e6, e7, l5, l7]); try rfl), (by (simp (disch := omega) only [go_sem, ↓reduceIte, Nat.reduceEqDiff, Nat.reduceAdd, Nat.reduceLeDiff, q1, bne1, beq1, i1, i2, i3, j1, j2, j3, e5, e6, e7, l5, l7]); try rfl), (by (simp (disch := omega) only [go_sem, ↓reduceIte, Nat.reduceEqDiff, Nat.reduceAdd, Nat.reduceLeDiff, q1, bne1, beq1, i1, i2, i3, j1, j2, j3, e5, e6, e7, l5, l7]); try rfl), (by (simp (disch := omega) only [go_sem, ↓reduceIte, Nat.reduceEqDiff, Nat.reduceAdd, Nat.reduceLeDiff, q1, bne1, beq1, i1, i2, i3, j1, j2, j3, e5, e6, e7, l5, l7]); try rfl)⟩
    | true =>
      obtain rfl : k = 1 := by simpa using hk
      have h31 : (3 : Int) - 1 = 2 := by decide
      cases hga : (((T.vars a).length : Int) == 0) with
      | false =>
        refine W_end rfl fun G K hG hK => ?_; simp (disch := omega) only [go_sem, ↓reduceIte, Nat.reduceEqDiff, Nat.reduceAdd, Nat.reduceLeDiff, hG, q1, bne1, beq1, i1, i2, i3, j1, j2, j3, e5, e6, e7, l5, l7, hk]
        refine w_call (specGround_ok a sg _ hla (by omega) hA7) (by simp (disch := omega) only [go_sem, ↓reduceIte, Nat.reduceEqDiff, q1, bne1, beq1, i1, i2, i3, j1, j2, j3, e5, e6, e7, l5, l7]) ?hl ?_
        case hl => first | rfl | (simp only [go_sem, List.all_cons, List.all_nil, Bool.not_false, Bool.and_self, q1, bne1, beq1, i1, i2, i3, j1, j2, j3, e5, e6, e7, l5, l7]; done)
        rintro r_ sh ⟨x8, rfl⟩; refine ⟨fun e => (by cases e), ?_⟩
        simp (disch := omega) only [go_sem, ↓reduceIte, Nat.reduceEqDiff, Nat.reduceAdd, Nat.reduceLeDiff, hG, q1, bne1, beq1, i1, i2, i3, j1, j2, j3, e5, e6, e7, l5, l7, hk, hga]; refine hK _ _ ?_; clear hK K hG G; repeat (first | refine thenI ?_ | refine thenE ?_ | refine thenR ?_ | refine inBI ?_ | refine inBR ?_ | refine inBS ?_ | refine inBN (by decide) ?_)
        exact ⟨Enc.ext x8 _ _ hA7, Enc.ext x8 _ _ hB7, (by (simp (disch := omega) only [go_sem, ↓reduceIte, Nat.reduceEqDiff, Nat.reduceAdd, Nat.reduceLeDiff, q1, bne1, beq1, i1, i2, i3, j1, j2, j3, e5, e6, e7, l5, l7]); try rfl), (by (simp (disch := omega) only [go_sem, ↓reduceIte, Nat.reduceEqDiff, Nat.reduceAdd, Nat.reduceLeDiff, q1, bne1, beq1, i1, i2, i3, j1, j2, j3, e5, e6, e7, l5, l7]); try rfl), (by (simp (disch := omega) only [go_sem, ↓reduceIte, Nat.reduceEqDiff, Nat.reduceAdd, Nat.reduceLeDiff, q1, bne1, beq1, i1, i2, i3, j1, j2, j3, e5, e6, e7, l5, l7]); try rfl), (by (simp (disch := omega) only [go_sem, ↓reduceIte, Nat.reduceEqDiff, Nat.reduceAdd, Nat.reduceLeDiff, q1, bne1, beq1, i1, i2, i3, j1, j2, j3, e5, e6, e7, l5, l7]); try rfl)⟩
      | true =>
        cases hgb : (((T.vars b).length : Int) == 0) with
        | false =>
          refine W_end rfl fun G K hG hK => ?_; simp (disch := omega) only [go_sem, ↓reduceIte, Nat.reduceEqDiff, Nat.reduceAdd, Nat.reduceLeDiff, hG, q1, bne1, beq1, i1, i2, i3, j1, j2, j3, e5, e6, e7, l5, l7, hk]
          refine w_call (specGround_ok a sg _ hla (by omega) hA7) (by simp (disch := omega) only [go_sem, ↓reduceIte, Nat.reduceEqDiff, q1, bne1, beq1, i1, i2, i3, j1, j2, j3, e5, e6, e7, l5, l7]) ?hl ?_
          case hl => first | rfl | (simp only [go_sem, List.all_cons, List.all_nil, Bool.not_false, Bool.and_self, q1, bne1, beq1, i1, i2, i3, j1, j2, j3, e5, e6, e7, l5, l7]; done)
          rintro r_ sh ⟨x8, rfl⟩; refine ⟨fun e => (by cases e), ?_⟩
          simp (disch := omega) only [go_sem, ↓reduceIte, Nat.reduceEqDiff, Nat.reduceAdd, Nat.reduceLeDiff, q1, bne1, beq1, i1, i2, i3, j1, j2, j3, e5, e6, e7, l5, l7, hG, hk, hga]
          refine w_call (specGround_ok b sh _ hlb (by omega) (Enc.ext x8 _ _ hB7)) (by simp (disch := omega) only [go_sem, ↓reduceIte, Nat.reduceEqDiff, q1, bne1, beq1, i1, i2, i3, j1, j2, j3, e5, e6, e7, l5, l7]) ?hl ?_
          case hl => first | rfl | (simp only [go_sem, List.all_cons, List.all_nil, Bool.not_false, Bool.and_self, q1, bne1, beq1, i1, i2, i3, j1, j2, j3, e5, e6, e7, l5, l7]; done)
          rintro r_ si ⟨x9, rfl⟩; refine ⟨fun e => (by cases e), ?_⟩
          simp (disch := omega) only [go_sem, ↓reduceIte, Nat.reduceEqDiff, Nat.reduceAdd, Nat.reduceLeDiff, hG, q1, bne1, beq1, i1, i2, i3, j1, j2, j3, e5, e6, e7, l5, l7, hk, hga, hgb]; refine hK _ _ ?_; clear hK K hG G; repeat (first | refine thenI ?_ | refine thenE ?_ | refine thenR ?_ | refine inBI ?_ | refine inBR ?_ | refine inBS ?_ | refine inBN (by decide) ?_)
          exact ⟨Enc.ext (x8.trans x9) _ _ hA7, Enc.ext (x8.trans x9) _ _ hB7, (by (simp (disch := omega) only [go_sem, ↓reduceIte, Nat.reduceEqDiff, Nat.reduceAdd, Nat.reduceLeDiff, q1, bne1, beq1, i1, i2, i3, j1, j2, j3, e5, e6, e7, l5, l7]); try rfl), (by (simp (disch := omega) only [go_sem, ↓reduceIte, Nat.reduceEqDiff, Nat.reduceAdd, Nat.reduceLeDiff, q1, bne1, beq1, i1, i2, i3, j1, j2, j3, e5, e6, e7, l5, l7]); try rfl), (by (simp (disch := omega) only [go_sem, ↓reduceIte, Nat.reduceEqDiff, Nat.reduceAdd, Nat.reduceLeDiff, q1, bne1, beq1, i1, i2, i3, j1, j2, j3, e5, e6, e7, l5, l7]); try rfl), (by (simp (disch := omega) only [go_sem, ↓reduceIte, Nat.reduceEqDiff, Nat.reduceAdd, Nat.reduceLeDiff, q1, bne1, beq1, i1, i2, i3, j1, j2, j3, e5, e6, e7, l5, l7]); try rfl)⟩
        | true =>
          refine W_end rfl fun G K hG hK => ?_; simp (disch := omega) only [go_sem, ↓reduceIte, Nat.reduceEqDiff, Nat.reduceAdd, Nat.reduceLeDiff, hG, q1, bne1, beq1, i1, i2, i3, j1, j2, j3, e5, e6, e7, l5, l7, hk]
          refine w_call (specGround_ok a sg _ hla (by omega) hA7) (by simp (disch := omega) only [go_sem, ↓reduceIte, Nat.reduceEqDiff, q1, bne1, beq1, i1, i2, i3, j1, j2, j3, e5, e6, e7, l5, l7]) ?hl ?_
          case hl => first | rfl | (simp only [go_sem, List.all_cons, List.all_nil, Bool.not_false, Bool.and_self, q1, bne1, beq1, i1, i2, i3, j1, j2, j3, e5, e6, e7, l5, l7]; done)
          rintro r_ sh ⟨x8, rfl⟩; refine ⟨fun e => (by cases e), ?_⟩
          simp (disch := omega) only [go_sem, ↓reduceIte, Nat.reduceEqDiff, Nat.reduceAdd, Nat.reduceLeDiff, q1, bne1, beq1, i1, i2, i3, j1, j2, j3, e5, e6, e7, l5, l7, hG, hk, hga]
          refine w_call (specGround_ok b sh _ hlb (by omega) (Enc.ext x8 _ _ hB7)) (by simp (disch := omega) only [go_sem, ↓reduceIte, Nat.reduceEqDiff, q1, bne1, beq1, i1, i2, i3, j1, j2, j3, e5, e6, e7, l5, l7]) ?hl ?_
          case hl => first | rfl | (simp only [go_sem, List.all_cons, List.all_nil, Bool.not_false, Bool.and_self, q1, bne1, beq1, i1, i2, i3, j1, j2, j3, e5, e6, e7, l5, l7]; done)
          rintro r_ si ⟨x9, rfl⟩; refine ⟨fun e => (by cases e), ?_⟩
          simp (disch := omega) only [go_sem, ↓reduceIte, Nat.reduceEqDiff, Nat.reduceAdd, Nat.reduceLeDiff, q1, bne1, beq1, i1, i2, i3, j1, j2, j3, e5, e6, e7, l5, l7, hG, hk, hga, hgb, h31]
          refine w_call (implHolds_ok ⟨2, a, b⟩ si _ ⟨hla, hlb⟩ (hwg 2) ⟨_, _, rfl, Enc.ext (x8.trans x9) _ _ hA7, Enc.ext (x8.trans x9) _ _ hB7⟩) (by simp (disch := omega) only [go_sem, ↓reduceIte, Nat.reduceEqDiff, q1, bne1, beq1, i1, i2, i3, j1, j2, j3, e5, e6, e7, l5, l7, h31]) ?hl ?_
          case hl => first | rfl | (simp only [go_sem, List.all_cons, List.all_nil, Bool.not_false, Bool.and_self, q1, bne1, beq1, i1, i2, i3, j1, j2, j3, e5, e6, e7, l5, l7, h31]; done)
          rintro r_ sj ⟨x10, rfl⟩; refine ⟨fun e => (by cases e), ?_⟩
          have f3 : (Grd.holds ⟨2, a, b⟩ == h1) = false := by rw [← hh]; exact holds_flip a b hga hgb
          simp (disch := omega) only [go_sem, ↓reduceIte, Nat.reduceEqDiff, Nat.reduceAdd, Nat.reduceLeDiff, hG, q1, bne1, beq1, i1, i2, i3, j1, j2, j3, e5, e6, e7, l5, l7, hk, hga, hgb, f3]; refine hK _ _ ?_; clear hK K hG G; repeat (first | refine thenI ?_ | refine thenE ?_ | refine thenR ?_ | refine inBI ?_ | refine inBR ?_ | refine inBS ?_ | refine inBN (by decide) ?_)
          exact ⟨Enc.ext ((x8.trans x9).trans x10) _ _ hA7, Enc.ext ((x8.trans x9).trans x10) _ _ hB7, (by (simp (disch := omega) only [go_sem, ↓reduceIte, Nat.reduceEqDiff, Nat.reduceAdd, Nat.reduceLeDiff, q1, bne1, beq1, i1, i2, i3, j1, j2, j3, e5, e6, e7, l5, l7]); try rfl), (by (simp (disch := omega) only [go_sem, ↓reduceIte, Nat.reduceEqDiff, Nat.reduceAdd, Nat.reduceLeDiff, q1, bne1, beq1, i1, i2, i3, j1, j2, j3, e5, e6, e7, l5, l7]); try rfl), (by (simp (disch := omega) only [go_sem, ↓reduceIte, Nat.reduceEqDiff, Nat.reduceAdd, Nat.reduceLeDiff, q1, bne1, beq1, i1, i2, i3, j1, j2, j3, e5, e6, e7, l5, l7]); try rfl), (by (simp (disch := omega) only [go_sem, ↓reduceIte, Nat.reduceEqDiff, Nat.reduceAdd, Nat.reduceLeDiff, q1, bne1, beq1, i1, i2, i3, j1, j2, j3, e5, e6, e7, l5, l7]); try rfl)⟩
  clear e5 e6 e7 l5 l7
  rintro ⟨env, loc⟩ st' ⟨hA8, hB8, e5, e6, e57, l5⟩
  simp only at e5 e6 e57 l5
  repeat (first | (refine W_reg rfl fun G K hG hK => ?_; simp (disch := omega) only [go_sem, ↓reduceIte, Nat.reduceEqDiff, Nat.reduceAdd, Nat.reduceLeDiff, hG, q1, bne1, beq1, i1, i2, i3, j1, j2, j3, e5, e6, e57, l5]; refine hK _ _ ?_; clear hK K hG G) | (refine W_end rfl fun G K hG hK => ?_; simp (disch := omega) only [go_sem, ↓reduceIte, Nat.reduceEqDiff, Nat.reduceAdd, Nat.reduceLeDiff, hG, q1, bne1, beq1, i1, i2, i3, j1, j2, j3, e5, e6, e57, l5]; refine hK _ _ ?_; clear hK K hG G; repeat (first | refine thenI ?_ | refine thenE ?_ | refine thenR ?_ | refine inBI ?_ | refine inBR ?_ | refine inBS ?_ | refine inBN (by decide) ?_)) | refine W_seqS ?_ | refine W_seqC ?_ | refine W_seqB ?_ | refine W_block ?_ | (refine W_skip ?_; repeat (first | refine thenI ?_ | refine thenE ?_ | refine thenR ?_ | refine inBI ?_ | refine inBR ?_ | refine inBS ?_ | refine inBN (by decide) ?_)) | (refine W_condT ?hc ?_; (case hc => (simp (disch := omega) only [go_sem, ↓reduceIte, Nat.reduceEqDiff, Nat.reduceAdd, Nat.reduceLeDiff, q1, bne1, beq1, i1, i2, i3, j1, j2, j3, e5, e6, e57, l5]; done))) | (refine W_condF ?hc ?_; (case hc => (simp (disch := omega) only [go_sem, ↓reduceIte, Nat.reduceEqDiff, Nat.reduceAdd, Nat.reduceLeDiff, q1, bne1, beq1, i1, i2, i3, j1, j2, j3, e5, e6, e57, l5]; done))))
  cases hk3 : (k != 3) with
  | true =>
    repeat (first | (refine W_reg rfl fun G K hG hK => ?_; simp (disch := omega) only [go_sem, ↓reduceIte, Nat.reduceEqDiff, Nat.reduceAdd, Nat.reduceLeDiff, hG, q1, bne1, beq1, i1, i2, i3, j1, j2, j3, e5, e6, e57, l5, hk3]; refine hK _ _ ?_; clear hK K hG G) | (refine W_end rfl fun G K hG hK => ?_; simp (disch := omega) only [go_sem, ↓reduceIte, Nat.reduceEqDiff, Nat.reduceAdd, Nat.reduceLeDiff, hG, q1, bne1, beq1, i1, i2, i3, j1, j2, j3, e5, e6, e57, l5, hk3]; refine hK _ _ ?_; clear hK K hG G; repeat (first | refine thenI ?_ | refine thenE ?_ | refine thenR ?_ | refine inBI ?_ | refine inBR ?_ | refine inBS ?_ | refine inBN (by decide) ?_)) | refine W_seqS ?_ | refine W_seqC ?_ | refine W_seqB ?_ | refine W_block ?_ | (refine W_skip ?_; repeat (first | refine thenI ?_ | refine thenE ?_ | refine thenR ?_ | refine inBI ?_ | refine inBR ?_ | refine inBS ?_ | refine inBN (by decide) ?_)) | (refine W_condT ?hc ?_; (case hc => (simp (disch := omega) only [go_sem, ↓reduceIte, Nat.reduceEqDiff, Nat.reduceAdd, Nat.reduceLeDiff, q1, bne1, beq1, i1, i2, i3, j1, j2, j3, e5, e6, e57, l5, hk3]; done))) | (refine W_condF ?hc ?_; (case hc => (simp (disch := omega) only [go_sem, ↓reduceIte, Nat.reduceEqDiff, Nat.reduceAdd, Nat.reduceLeDiff, q1, bne1, beq1, i1, i2, i3, j1, j2, j3, e5, e6, e57, l5, hk3]; done))))
    refine W_ret ?_; try (repeat (first | refine thenI ?_ | refine thenE ?_ | refine thenR ?_ | refine inBI ?_ | refine inBR ?_ | refine inBS ?_ | refine inBN (by decide) ?_))
    refine fin1 (.inl rfl) (by (simp (disch := omega) only [go_sem, ↓reduceIte, Nat.reduceEqDiff, Nat.reduceAdd, Nat.reduceLeDiff, q1, bne1, beq1, i1, i2, i3, j1, j2, j3, e5, e6, e57, l5]); try rfl) rfl rfl
  | false =>
    cases h1 with
    | false =>
      repeat (first | (refine W_reg rfl fun G K hG hK => ?_; simp (disch := omega) only [go_sem, ↓reduceIte, Nat.reduceEqDiff, Nat.reduceAdd, Nat.reduceLeDiff, hG, q1, bne1, beq1, i1, i2, i3, j1, j2, j3, e5, e6, e57, l5, hk3]; refine hK _ _ ?_; clear hK K hG G) | (refine W_end rfl fun G K hG hK => ?_; simp (disch := omega) only [go_sem, ↓reduceIte, Nat.reduceEqDiff, Nat.reduceAdd, Nat.reduceLeDiff, hG, q1, bne1, beq1, i1, i2, i3, j1, j2, j3, e5, e6, e57, l5, hk3]; refine hK _ _ ?_; clear hK K hG G; repeat (first | refine thenI ?_ | refine thenE ?_ | refine thenR ?_ | refine inBI ?_ | refine inBR ?_ | refine inBS ?_ | refine inBN (by decide) ?_)) | refine W_seqS ?_ | refine W_seqC ?_ | refine W_seqB ?_ | refine W_block ?_ | (refine W_skip ?_; repeat (first | refine thenI ?_ | refine thenE ?_ | refine thenR ?_ | refine inBI ?_ | refine inBR ?_ | refine inBS ?_ | refine inBN (by decide) ?_)) | (refine W_condT ?hc ?_; (case hc => (simp (disch := omega) only [go_sem, ↓reduceIte, Nat.reduceEqDiff, Nat.reduceAdd, Nat.reduceLeDiff, q1, bne1, beq1, i1, i2, i3, j1, j2, j3, e5, e6, e57, l5, hk3]; done))) | (refine W_condF ?hc ?_; (case hc => (simp (disch := omega) only [go_sem, ↓reduceIte, Nat.reduceEqDiff, Nat.reduceAdd, Nat.reduceLeDiff, q1, bne1, beq1, i1, i2, i3, j1, j2, j3, e5, e6, e57, l5, hk3]; done))))
      refine W_ret ?_; try (repeat (first | refine thenI ?_ | refine thenE ?_ | refine thenR ?_ | refine inBI ?_ | refine inBR ?_ | refine inBS ?_ | refine inBN (by decide) ?_))
      refine fin1 (.inl rfl) (by (simp (disch := omega) only [go_sem, ↓reduceIte, Nat.reduceEqDiff, Nat.reduceAdd, Nat.reduceLeDiff, q1, bne1, beq1, i1, i2, i3, j1, j2, j3, e5, e6, e57, l5]); try rfl) rfl rfl
    | true =>
      obtain rfl : k = 3 := by simpa using hk3
      have f4 := holds_turn a b hh
      (repeat (first | refine W_seqS ?_ | refine W_seqC ?_ | refine W_seqB ?_ | refine W_block ?_)); refine W_reg rfl fun G K hG hK => ?_; simp (disch := omega) only [go_sem, ↓reduceIte, Nat.reduceEqDiff, Nat.reduceAdd, Nat.reduceLeDiff, hG, q1, bne1, beq1, i1, i2, i3, j1, j2, j3, e5, e6, e57, l5, hk3]
      refine w_call (implHolds_ok ⟨3, b, a⟩ st' _ ⟨hlb, hla⟩ (hwg' 3) ⟨_, _, rfl, hB8, hA8⟩) (by simp (disch := omega) only [go_sem, ↓reduceIte, Nat.reduceEqDiff, q1, bne1, beq1, i1, i2, i3, j1, j2, j3, e5, e6, e57, l5]) ?hl ?_
      case hl => first | rfl | (simp only [go_sem, List.all_cons, List.all_nil, Bool.not_false, Bool.and_self, q1, bne1, beq1, i1, i2, i3, j1, j2, j3, e5, e6, e57, l5]; done)
      rintro r_ sk ⟨x11, rfl⟩; refine ⟨fun e => (by cases e), ?_⟩
      simp (disch := omega) only [go_sem, ↓reduceIte, Nat.reduceEqDiff, Nat.reduceAdd, Nat.reduceLeDiff, hG, q1, bne1, beq1, i1, i2, i3, j1, j2, j3, e5, e6, e57, l5, hk3, f4]; refine hK _ _ ?_; clear hK K hG G; repeat (first | refine thenI ?_ | refine thenE ?_ | refine thenR ?_ | refine inBI ?_ | refine inBR ?_ | refine inBS ?_ | refine inBN (by decide) ?_)
      refine W_ret ?_; try (repeat (first | refine thenI ?_ | refine thenE ?_ | refine thenR ?_ | refine inBI ?_ | refine inBR ?_ | refine inBS ?_ | refine inBN (by decide) ?_))
      refine fin1 (.inl rfl) (by (simp (disch := omega) only [go_sem, ↓reduceIte, Nat.reduceEqDiff, Nat.reduceAdd, Nat.reduceLeDiff, q1, bne1, beq1, i1, i2, i3, j1, j2, j3, e5, e6, e57, l5]); try rfl) rfl rfl
end Go.Proofs.Ytfckojbllbdejaa.AM


/- Arguments: rows of bytes. -/
namespace Go.Proofs.Ytfckojbllbdejaa.AM
open Go Go.Proofs
set_option linter.unusedVariables false
theorem open_bytes {H : Type} {enc : TypeId × Value → H} {w : World} (fuel : Nat) (cs : List Value) (x : DataW H × List MemPlace) (h : DataW.trod enc Try.prog w 0 (fun _ => true) true fuel 22 cs = some x) :
    ∃ s, ∃ xs : List Byt, cs = [s] ∧ Told w s ∧ RowY (absS w) xs (absV w.heap.size s) ∧ xs.length ≤ maxLen ∧ ∀ z ∈ xs, (Lit.int .u8 z.v).wf = true :=
  open_rowA (E := EncY (absS w)) (G := fun z : Byt => (Lit.int .u8 z.v).wf = true) (sz := 1) Try.underlying22 (by kernel_rfl) (by omega) h fun n_ cs_ y_ hn_ hy_ => by
    obtain ⟨z, rfl, hw⟩ := toldA_int Try.underlying5 hy_
    exact ⟨⟨z⟩, rfl, hw, fun c hc => by cases List.mem_singleton.1 hc; rfl⟩
end Go.Proofs.Ytfckojbllbdejaa.AM


/- The law FnWords, for every input: it returns true; the input reads as it did. -/
namespace Go.Proofs.Ytfckojbllbdejaa.fnWords
open Go Go.Proofs Go.ChangeShapes Go.WideShapes Go.ChangeAt Go.RowKit Go.Proofs.Ytfckojbllbdejaa.AM
open Go.ChangeMaps (open_string shut_string)
set_option linter.unusedVariables false
set_option linter.unusedSimpArgs false
theorem own : ownKnob Try.prog.godebug = none := by kernel_rfl
theorem laidOut : laidOutB Try.prog = true := by kernel_rfl
set_option maxRecDepth 100000 in
theorem lifted (os : Os) (started : os.Started) (H : Type) (enc : TypeId × Value → H) :
    ReturnsInHanded {} Try.checked os 3 .any (Rows.fnWordsSpec.pre6 enc Try.prog Try.f3 Rows.fnWordsRow.domain false) (Rows.fnWordsSpec.post enc Try.prog Try.f3 false true false false) := by
  refine returnsInHanded_of_change_sized (C := Try.checked) own started (by kernel_rfl) Try.func3
    (ChangeSpec.witness6 (enc := enc) (C := Try.checked) false ⟨#[], #[.slice none 0 0], []⟩ 8 (by kernel_rfl) (by kernel_rfl) (by kernel_rfl) (by kernel_rfl)) ?_
  intro W base args ds gs before hval0 hW hcnd hsz0 _
  have hval : ∀ (j : Nat) t v, Try.f3.params[j]? = some t → args[j]? = some v → Value.okWide Try.prog W .any base t v := hval0
  have hW' := hW
  obtain ⟨p, q, hA0, hV, rfl, hfz, hnd⟩ := hW
  have hA : DataW.TrodAll enc Try.prog W 0 (fun _ => true) true Try.f3.params.toList args.toList ds p := hA0
  rw [Try.params3] at hA hval
  obtain ⟨v0, vs0, d0, ds0, p0, q0, hargs, rfl, rfl, h0, r0⟩ := trodAll_cons hA
  obtain ⟨rfl, rfl, rfl⟩ := trodAll_nil r0
  obtain rfl : args = #[v0] := by cases args; simp_all
  obtain ⟨rfl, rfl⟩ := trodVars_none hV
  have k0 := h0
  have lt0 : ∀ x ∈ p0, x.block < W.heap.size := by obtain ⟨m, hm⟩ := k0; exact DataW.trod_lt m _ _ _ hm
  obtain ⟨ad0, len0, cap0, rfl⟩ := okWide_slice Try.underlying22 (hval 0 22 v0 rfl rfl)
  obtain ⟨fuel0, hf0⟩ := h0
  obtain ⟨s0, xs0, hs0, T0, R0, N0, G0⟩ := open_bytes fuel0 _ _ hf0
  obtain rfl : _ = s0 := (List.cons.inj hs0).1
  have hc := wFnWords (absS W) xs0 _ R0 N0
  clear hA0 hval0 hcnd hsz0 hval hA
  refine (hc.enters (noTab (by decide +kernel) (by decide +kernel) (by decide +kernel)) (.cons _ _ _ _ (.inl ⟨T0, rfl⟩) .nil)).mono fun e W' ⟨he, bel⟩ => ?_
  subst he
  exact ⟨_, rfl, _, _, _, [], _, [], hW', trodAll_mk1 (shut_bool Try.underlying4 _), (trodAll_cons_mk (Below.trod laidOut (by kernel_rfl) (of_decide_eq_true (by kernel_rfl)) k0 bel lt0) trodAll_mk0), rfl, bel.frame _, fun h => by cases h⟩
theorem over : Rows.fnWordsRow.holds Try.pinned (OpenSpec.ofChange Rows.fnWordsSpec) :=
  OpenClaim.holds_of_wide 3 Try.f3 rfl rfl rfl rfl rfl rfl rfl ⟨rfl, rfl, rfl, rfl, rfl⟩ rfl rfl rfl rfl rfl (by kernel_rfl) Try.func3 (by kernel_rfl)
    (of_decide_eq_true (by kernel_rfl)) (by unfold Func.isWrapper; first | (rw [if_pos (by decide +kernel)]; kernel_rfl) | (rw [if_neg (by decide +kernel)]; exact ⟨rfl, rfl⟩))
    (fun os started H enc _ => lifted os started H enc)
theorem proved : Rows.FnWordsSaid := over
end Go.Proofs.Ytfckojbllbdejaa.fnWords
namespace Go.Proofs.Ytfckojbllbdejaa
/-- The row, under a short name, for the claim. -/
theorem fnWords_holds : Rows.FnWordsSaid := fnWords.proved
end Go.Proofs.Ytfckojbllbdejaa

