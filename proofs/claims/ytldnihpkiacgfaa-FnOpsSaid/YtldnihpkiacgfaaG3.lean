/- My texts for the law, laid together (part 3): C23 O16 E7 ZFnOps. -/
import Derived.Test.YtldnihpkiacgfaaG2
import Derived.Test.YtldnihpkiacgfaaRows
import Derived.WalkKit
import Derived.ProofKit
import Derived.OpenShut
import Derived.ShutString
import Derived.ChangeOld
import Derived.Below
import Derived.SizedLaws
import Derived.Carry
namespace Go.Proofs.Ytldnihpkiacgfaa.AM
open Go
attribute [local go_sem] List.map_cons List.map_nil List.all_cons List.all_nil Bool.and_self Option.map_some List.getElem?_toArray Option.bind_some gye_b gye_t gsk_b gsk_t gb1 gb2 gb3 gb4 bne_self_eq_false beq_self_eq_true w_guard w_nil stepV_some step_some step_some' w_move w_assign w_pick w_binOp w_unOp w_load w_fieldAddr w_indexAddr w_len w_max w_index ev_max max_int ev_index w_box w_alloc w_store w_field w_extract w_nilCheck w_convert w_buildSlice w_build ev_buildL fillL_nil fillL_cons bs0 bs1 ev_conv ev_bin ev_un ev_pick ev_load ev_fieldAddr ev_indexAddr ev_len ev_field ev_extract ev_nilCheck fr_tmp fr_int fr_bool fr_str fr_nil fr_func put_some put_none bin_lss bin_leq bin_gtr bin_geq bin_eql bin_neq bin_add bin_sub bin_mul bin_seql bin_sneq un_not pick_ ext_ loadA_p cellAt_l cellAt_h okPtr_l okPtr_h fadA_p allocA_l storeA_l cells_agg cells_int cells_str cells_sl cells_bool flat_i flat_s flat_b flat_sl flat_nil loc_agg loc_int loc_str loc_sl loc_bool loc_fn loc_ptr okv_agg okv_int okv_str okv_sl okv_bool cellsFrom splice upd_eval argEnv_zero argEnv_succ ne_eq Nat.add_one_ne_zero not_false_eq_true List.not_mem_nil and_self decide_true List.getElem?_cons_zero List.getElem?_cons_succ List.size_toArray List.length_cons List.length_nil List.take_succ_cons List.take_zero List.drop_succ_cons List.drop_zero List.cons_append List.nil_append List.drop_nil Bool.not_true Bool.not_false Bool.false_eq_true Nat.zero_add Nat.add_zero wrap_in List.toList_toArray List.mem_cons or_self or_false false_or
attribute [local go_sem] ag22 ag24 ag25 ag27 ag3 ag31 ag5 ag9 bu27 bu31 bu43 by31 by9 el22 el24 el25 of27_0 of27_1 of31_0 of31_1 of31_2 of43_0 of43_1 of43_2 ro31_1 ro31_7 ro9_0 ro9_1 ro9_2 ro9_3 ro9_4 ro9_5 sz22 sz24 sz25 sz27 sz3 sz31 sz5 sz9 ze27 ze31 ze9
section
/- Operations are found: impl.copyOp, impl.FindOp, spec.FindOp. -/
open Go Go.Proofs
set_option linter.unusedVariables false
set_option linter.unusedSimpArgs false
set_option maxRecDepth 100000
-- AUTO

def wordB : ByteArray := ⟨#[119, 111, 114, 100]⟩
def Opr.zero : Opr := ⟨⟨#[]⟩, [], ⟨#[]⟩⟩
def findOp (g : Sgn) (nm : ByteArray) : Opr × Bool := if isB nm then (⟨nm, [wordB, wordB], wordB⟩, true) else match g.ops.find? fun o => o.nm.toList == nm.toList with
  | some o => (o, true)
  | none => (Opr.zero, false)
theorem findOp_len (g : Sgn) (nm : ByteArray) (B : Nat) (h2 : 2 ≤ B) (h : ∀ o ∈ g.ops, o.args.length ≤ B) : (findOp g nm).1.args.length ≤ B := by
  unfold findOp
  split
  · exact h2
  · split
    · rename_i o ho
      exact h o (List.mem_of_find?_eq_some ho)
    · exact Nat.zero_le _
theorem own_word2 {st : St} : Sl (st ++ [(⟨[.string wordB, .string wordB], 9, 0⟩ : Blk)]) [wordB, wordB] (.slice (some ⟨st.length, 0, none⟩) 2 2) [st.length] :=
  .inr ⟨st.length, 2, [.string wordB, .string wordB], [], rfl, by rw [List.getElem?_append_right (Nat.le_refl _), Nat.sub_self]; rfl, .cons wordB _ [.string wordB] _ [] [] ⟨rfl, rfl⟩ (.cons wordB _ [.string wordB] _ [] [] ⟨rfl, rfl⟩ .nil), rfl⟩
theorem copyOp_ok (b : Opr) (st : St) (cs : List Value) (hl : b.args.length ≤ 1073741824) (h : EncO st b cs) :
    CallS Try.prog 15 [.agg cs.toArray] st fun r st2 => Ext st st2 ∧ ∃ ds L, r = .agg ds.toArray ∧ OwnO st2 b ds L ∧ Fresh st.length L := by
  refine CallS_of_W [] 11 Try.func15 rfl rfl rfl rfl (by simp) ?_
  obtain ⟨s, rfl, hr⟩ := h
  have n1 := hr.notLoc.1
  have n2 := hr.notLoc.2
  repeat (first | (refine W_reg rfl fun G K hG hK => ?_; simp (disch := omega) only [go_sem, ↓reduceIte, Nat.reduceEqDiff, Nat.reduceAdd, Nat.reduceLeDiff, hG, n1, n2]; refine hK _ _ ?_; clear hK K hG G) | (refine W_end rfl fun G K hG hK => ?_; simp (disch := omega) only [go_sem, ↓reduceIte, Nat.reduceEqDiff, Nat.reduceAdd, Nat.reduceLeDiff, hG, n1, n2]; refine hK _ _ ?_; clear hK K hG G; repeat (first | refine thenI ?_ | refine thenE ?_ | refine thenR ?_ | refine inBI ?_ | refine inBR ?_ | refine inBS ?_ | refine inBN (by decide) ?_)) | refine W_seqS ?_ | refine W_seqC ?_ | refine W_seqB ?_ | refine W_block ?_ | (refine W_skip ?_; repeat (first | refine thenI ?_ | refine thenE ?_ | refine thenR ?_ | refine inBI ?_ | refine inBR ?_ | refine inBS ?_ | refine inBN (by decide) ?_)) | (refine W_condT ?hc ?_; (case hc => (simp (disch := omega) only [go_sem, ↓reduceIte, Nat.reduceEqDiff, Nat.reduceAdd, Nat.reduceLeDiff, n1, n2]; done))) | (refine W_condF ?hc ?_; (case hc => (simp (disch := omega) only [go_sem, ↓reduceIte, Nat.reduceEqDiff, Nat.reduceAdd, Nat.reduceLeDiff, n1, n2]; done))))
  (repeat (first | refine W_seqS ?_ | refine W_seqC ?_ | refine W_seqB ?_ | refine W_block ?_)); refine W_regD mixed [] [(0,false),(1,false),(2,false),(3,false),(5,false),(6,false),(4,true),(7,false),(8,false)] rfl (by decide +kernel) fun G K hG hK => ?_; simp only [pickOps, List.filterMap_cons, List.filterMap_nil, List.getElem?_cons_zero, List.getElem?_cons_succ, Option.map_some]; simp (disch := omega) only [go_sem, ↓reduceIte, Nat.reduceEqDiff, Nat.reduceAdd, Nat.reduceLeDiff, hG, n1, n2]
  refine w_call (cloneS_ok b.args st s (by omega) hr) (by simp (disch := omega) only [go_sem, ↓reduceIte, Nat.reduceEqDiff, n1, n2]) ?hl ?_
  case hl => first | rfl | (simp only [go_sem, List.all_cons, List.all_nil, Bool.not_false, Bool.and_self, n1, n2]; done)
  rintro rv sa ⟨hx, L, ho, hf⟩; refine ⟨fun e => hx, ?_⟩
  have a1 := ho.okv
  have a2 := ho.loc
  have a3 := ho.cells
  simp (disch := omega) only [go_sem, ↓reduceIte, Nat.reduceEqDiff, Nat.reduceAdd, Nat.reduceLeDiff, hG, n1, n2, a1, a2, a3]; refine hK _ _ ?_; clear hK K hG G; repeat (first | refine thenI ?_ | refine thenE ?_ | refine thenR ?_ | refine inBI ?_ | refine inBR ?_ | refine inBS ?_ | refine inBN (by decide) ?_)
  refine W_ret ?_; try (repeat (first | refine thenI ?_ | refine thenE ?_ | refine thenR ?_ | refine inBI ?_ | refine inBR ?_ | refine inBS ?_ | refine inBN (by decide) ?_))
  refine finC (.inl rfl) (by (simp (disch := omega) only [go_sem, ↓reduceIte, Nat.reduceEqDiff, Nat.reduceAdd, Nat.reduceLeDiff, n1, n2, a1, a2, a3]); try rfl) ⟨hx, [.string b.nm, rv, .string b.res], L, rfl, ⟨_, rfl, ho⟩, hf⟩
theorem implFindOp_ok (g : Sgn) (nm : ByteArray) (st : St) (cs : List Value) (hl : LimS 1073741824 g) (hE : EncS st g cs) :
    CallS Try.prog 6 [.agg cs.toArray, .string nm] st fun r st2 => Ext st st2 ∧ ∃ ds L, r = .tuple #[.agg ds.toArray, .bool (findOp g nm).2] ∧ OwnO st2 (findOp g nm).1 ds L ∧ Fresh st.length L := by
  refine CallS_of_W [] 28 Try.func6 rfl rfl rfl rfl (by simp) ?_
  obtain ⟨s, u, rfl, hs, hu⟩ := hE
  have q1 := hs.notLoc.1
  have q2 := hs.notLoc.2
  have q3 := hu.notLoc.1
  have q4 := hu.notLoc.2
  have hlen : lenE Try.prog 25 u = some (.int .i64 g.ops.length) := row_len hu Try.underlying25
  have hg2 := hl.2.1
  repeat (first | (refine W_reg rfl fun G K hG hK => ?_; simp (disch := omega) only [go_sem, ↓reduceIte, Nat.reduceEqDiff, Nat.reduceAdd, Nat.reduceLeDiff, hG, q1, q2, q3, q4, hlen]; refine hK _ _ ?_; clear hK K hG G) | (refine W_end rfl fun G K hG hK => ?_; simp (disch := omega) only [go_sem, ↓reduceIte, Nat.reduceEqDiff, Nat.reduceAdd, Nat.reduceLeDiff, hG, q1, q2, q3, q4, hlen]; refine hK _ _ ?_; clear hK K hG G; repeat (first | refine thenI ?_ | refine thenE ?_ | refine thenR ?_ | refine inBI ?_ | refine inBR ?_ | refine inBS ?_ | refine inBN (by decide) ?_)) | refine W_seqS ?_ | refine W_seqC ?_ | refine W_seqB ?_ | refine W_block ?_ | (refine W_skip ?_; repeat (first | refine thenI ?_ | refine thenE ?_ | refine thenR ?_ | refine inBI ?_ | refine inBR ?_ | refine inBS ?_ | refine inBN (by decide) ?_)) | (refine W_condT ?hc ?_; (case hc => (simp (disch := omega) only [go_sem, ↓reduceIte, Nat.reduceEqDiff, Nat.reduceAdd, Nat.reduceLeDiff, q1, q2, q3, q4, hlen]; done))) | (refine W_condF ?hc ?_; (case hc => (simp (disch := omega) only [go_sem, ↓reduceIte, Nat.reduceEqDiff, Nat.reduceAdd, Nat.reduceLeDiff, q1, q2, q3, q4, hlen]; done))))
  (repeat (first | refine W_seqS ?_ | refine W_seqC ?_ | refine W_seqB ?_ | refine W_block ?_)); refine W_reg rfl fun G K hG hK => ?_; simp (disch := omega) only [go_sem, ↓reduceIte, Nat.reduceEqDiff, Nat.reduceAdd, Nat.reduceLeDiff, hG, q1, q2, q3, q4, hlen]
  refine w_call (implIsB_ok nm st) (by simp (disch := omega) only [go_sem, ↓reduceIte, Nat.reduceEqDiff, q1, q2, q3, q4, hlen]) ?hl ?_
  case hl => first | rfl | (simp only [go_sem, List.all_cons, List.all_nil, Bool.not_false, Bool.and_self, q1, q2, q3, q4, hlen]; done)
  rintro r_ st ⟨rfl, rfl⟩; refine ⟨fun e => (by cases e), ?_⟩
  simp (disch := omega) only [go_sem, ↓reduceIte, Nat.reduceEqDiff, Nat.reduceAdd, Nat.reduceLeDiff, hG, q1, q2, q3, q4, hlen]; refine hK _ _ ?_; clear hK K hG G; repeat (first | refine thenI ?_ | refine thenE ?_ | refine thenR ?_ | refine inBI ?_ | refine inBR ?_ | refine inBS ?_ | refine inBN (by decide) ?_)
  cases hb : isB nm with
  | true =>
    have hf : findOp g nm = (⟨nm, [wordB, wordB], wordB⟩, true) := by unfold findOp; rw [hb]; rfl
    rw [hf]
    repeat (first | (refine W_reg rfl fun G K hG hK => ?_; simp (disch := omega) only [go_sem, ↓reduceIte, Nat.reduceEqDiff, Nat.reduceAdd, Nat.reduceLeDiff, hG, q1, q2, q3, q4, hlen]; refine hK _ _ ?_; clear hK K hG G) | (refine W_end rfl fun G K hG hK => ?_; simp (disch := omega) only [go_sem, ↓reduceIte, Nat.reduceEqDiff, Nat.reduceAdd, Nat.reduceLeDiff, hG, q1, q2, q3, q4, hlen]; refine hK _ _ ?_; clear hK K hG G; repeat (first | refine thenI ?_ | refine thenE ?_ | refine thenR ?_ | refine inBI ?_ | refine inBR ?_ | refine inBS ?_ | refine inBN (by decide) ?_)) | refine W_seqS ?_ | refine W_seqC ?_ | refine W_seqB ?_ | refine W_block ?_ | (refine W_skip ?_; repeat (first | refine thenI ?_ | refine thenE ?_ | refine thenR ?_ | refine inBI ?_ | refine inBR ?_ | refine inBS ?_ | refine inBN (by decide) ?_)) | (refine W_condT ?hc ?_; (case hc => (simp (disch := omega) only [go_sem, ↓reduceIte, Nat.reduceEqDiff, Nat.reduceAdd, Nat.reduceLeDiff, q1, q2, q3, q4, hlen]; done))) | (refine W_condF ?hc ?_; (case hc => (simp (disch := omega) only [go_sem, ↓reduceIte, Nat.reduceEqDiff, Nat.reduceAdd, Nat.reduceLeDiff, q1, q2, q3, q4, hlen]; done))))
    (repeat (first | refine W_seqS ?_ | refine W_seqC ?_ | refine W_seqB ?_ | refine W_block ?_)); refine W_reg rfl fun G K hG hK => ?_; simp (disch := omega) only [go_sem, ↓reduceIte, Nat.reduceEqDiff, Nat.reduceAdd, Nat.reduceLeDiff, hG, q1, q2, q3, q4, hlen, bsL, fillK_cons, fillK_nil, Nat.reduceMul]
    refine hK _ _ ?_; clear hK K hG G; repeat (first | refine thenI ?_ | refine thenE ?_ | refine thenR ?_ | refine inBI ?_ | refine inBR ?_ | refine inBS ?_ | refine inBN (by decide) ?_)
    repeat (first | (refine W_reg rfl fun G K hG hK => ?_; simp (disch := omega) only [go_sem, ↓reduceIte, Nat.reduceEqDiff, Nat.reduceAdd, Nat.reduceLeDiff, hG, q1, q2, q3, q4, hlen]; refine hK _ _ ?_; clear hK K hG G) | (refine W_end rfl fun G K hG hK => ?_; simp (disch := omega) only [go_sem, ↓reduceIte, Nat.reduceEqDiff, Nat.reduceAdd, Nat.reduceLeDiff, hG, q1, q2, q3, q4, hlen]; refine hK _ _ ?_; clear hK K hG G; repeat (first | refine thenI ?_ | refine thenE ?_ | refine thenR ?_ | refine inBI ?_ | refine inBR ?_ | refine inBS ?_ | refine inBN (by decide) ?_)) | refine W_seqS ?_ | refine W_seqC ?_ | refine W_seqB ?_ | refine W_block ?_ | (refine W_skip ?_; repeat (first | refine thenI ?_ | refine thenE ?_ | refine thenR ?_ | refine inBI ?_ | refine inBR ?_ | refine inBS ?_ | refine inBN (by decide) ?_)) | (refine W_condT ?hc ?_; (case hc => (simp (disch := omega) only [go_sem, ↓reduceIte, Nat.reduceEqDiff, Nat.reduceAdd, Nat.reduceLeDiff, q1, q2, q3, q4, hlen]; done))) | (refine W_condF ?hc ?_; (case hc => (simp (disch := omega) only [go_sem, ↓reduceIte, Nat.reduceEqDiff, Nat.reduceAdd, Nat.reduceLeDiff, q1, q2, q3, q4, hlen]; done))))
    refine W_ret ?_; try (repeat (first | refine thenI ?_ | refine thenE ?_ | refine thenR ?_ | refine inBI ?_ | refine inBR ?_ | refine inBS ?_ | refine inBN (by decide) ?_))
    refine finC2 (.inl rfl) (by (simp (disch := omega) only [go_sem, ↓reduceIte, Nat.reduceEqDiff, Nat.reduceAdd, Nat.reduceLeDiff, q1, q2, q3, q4, hlen]); try rfl) (by (simp (disch := omega) only [go_sem, ↓reduceIte, Nat.reduceEqDiff, Nat.reduceAdd, Nat.reduceLeDiff, q1, q2, q3, q4, hlen]); try rfl) rfl ⟨Ext.app _ _, [.string nm, .slice (some ⟨st.length, 0, none⟩) 2 2, .string wordB], [st.length], rfl, ⟨_, rfl, own_word2⟩, ⟨by simp, by simp⟩⟩
  | false =>
    have hf : findOp g nm = match g.ops.find? fun o => o.nm.toList == nm.toList with
      | some o => (o, true)
      | none => (Opr.zero, false) := by unfold findOp; rw [hb]; rfl
    rw [hf]
    repeat (first | (refine W_reg rfl fun G K hG hK => ?_; simp (disch := omega) only [go_sem, ↓reduceIte, Nat.reduceEqDiff, Nat.reduceAdd, Nat.reduceLeDiff, hG, q1, q2, q3, q4, hlen]; refine hK _ _ ?_; clear hK K hG G) | (refine W_end rfl fun G K hG hK => ?_; simp (disch := omega) only [go_sem, ↓reduceIte, Nat.reduceEqDiff, Nat.reduceAdd, Nat.reduceLeDiff, hG, q1, q2, q3, q4, hlen]; refine hK _ _ ?_; clear hK K hG G; repeat (first | refine thenI ?_ | refine thenE ?_ | refine thenR ?_ | refine inBI ?_ | refine inBR ?_ | refine inBS ?_ | refine inBN (by decide) ?_)) | refine W_seqS ?_ | refine W_seqC ?_ | refine W_seqB ?_ | refine W_block ?_ | (refine W_skip ?_; repeat (first | refine thenI ?_ | refine thenE ?_ | refine thenR ?_ | refine inBI ?_ | refine inBR ?_ | refine inBS ?_ | refine inBN (by decide) ?_)) | (refine W_condT ?hc ?_; (case hc => (simp (disch := omega) only [go_sem, ↓reduceIte, Nat.reduceEqDiff, Nat.reduceAdd, Nat.reduceLeDiff, q1, q2, q3, q4, hlen]; done))) | (refine W_condF ?hc ?_; (case hc => (simp (disch := omega) only [go_sem, ↓reduceIte, Nat.reduceEqDiff, Nat.reduceAdd, Nat.reduceLeDiff, q1, q2, q3, q4, hlen]; done))))
    refine W_loop (fun d fr st' => ∃ (j : Nat) , d = g.ops.length - j ∧ j ≤ g.ops.length ∧ (st' = st) ∧ ((g.ops.find? fun o => o.nm.toList == nm.toList) = (g.ops.drop j).find? fun o => o.nm.toList == nm.toList) ∧ (fr.env 1 = .string nm) ∧ (fr.env 2 = .pointer (some ⟨2, 0, some 1⟩)) ∧ (fr.env 4 = .pointer (some ⟨4, 0, some 1⟩)) ∧ (fr.env 14 = u) ∧ (fr.env 15 = .int .i64 g.ops.length) ∧ (fr.env 16 = .int .i64 j) ∧ (fr.loc 2 = (1, [s, u])) ∧ ((fr.loc 4).1 = 1 ∧ (fr.loc 4).2.length = 3)) (g.ops.length) ?_ ?_
    · exact ⟨0, by omega, by omega, rfl, by simp, (by (simp (disch := omega) only [go_sem, ↓reduceIte, Nat.reduceEqDiff, Nat.reduceAdd, Nat.reduceLeDiff, q1, q2, q3, q4, hlen]); try rfl), (by (simp (disch := omega) only [go_sem, ↓reduceIte, Nat.reduceEqDiff, Nat.reduceAdd, Nat.reduceLeDiff, q1, q2, q3, q4, hlen]); try rfl), (by (simp (disch := omega) only [go_sem, ↓reduceIte, Nat.reduceEqDiff, Nat.reduceAdd, Nat.reduceLeDiff, q1, q2, q3, q4, hlen]); try rfl), (by (simp (disch := omega) only [go_sem, ↓reduceIte, Nat.reduceEqDiff, Nat.reduceAdd, Nat.reduceLeDiff, q1, q2, q3, q4, hlen]); try rfl), (by (simp (disch := omega) only [go_sem, ↓reduceIte, Nat.reduceEqDiff, Nat.reduceAdd, Nat.reduceLeDiff, q1, q2, q3, q4, hlen]); try rfl), (by (simp (disch := omega) only [go_sem, ↓reduceIte, Nat.reduceEqDiff, Nat.reduceAdd, Nat.reduceLeDiff, q1, q2, q3, q4, hlen]); try rfl), (by (simp (disch := omega) only [go_sem, ↓reduceIte, Nat.reduceEqDiff, Nat.reduceAdd, Nat.reduceLeDiff, q1, q2, q3, q4, hlen]); try rfl), ⟨(by (simp (disch := omega) only [go_sem, ↓reduceIte, Nat.reduceEqDiff, Nat.reduceAdd, Nat.reduceLeDiff, q1, q2, q3, q4, hlen]); try rfl), (by (simp (disch := omega) only [go_sem, ↓reduceIte, Nat.reduceEqDiff, Nat.reduceAdd, Nat.reduceLeDiff, q1, q2, q3, q4, hlen]); try rfl)⟩⟩
    rintro d ⟨env, loc⟩ st' ⟨j, hd, hj, hst, hfd, e1, e2, e4, e14, e15, e16, l2, ⟨l4, l4'⟩⟩
    simp only at e1 e2 e4 e14 e15 e16 l2 l4 l4'
    subst hst
    by_cases hlt : j < g.ops.length
    · have c1 : decide ((j : Int) < (g.ops.length : Int)) = true := by simpa using hlt
      have hi := idxOk hlt
      have hx : g.ops[j]? = some g.ops[j] := List.getElem?_eq_getElem hlt
      have htk : g.ops.take (j + 1) = g.ops.take j ++ [g.ops[j]] := List.take_succ_eq_append_getElem hlt
      obtain ⟨i, o, c, sx, rfl, hrx, hcs⟩ := row_atO hu hx
      have hld := fun loc => load_row (A := []) (loc := loc) ag31 sz31 rfl hcs
      have nx := hrx.notLoc.1
      have nx2 := hrx.notLoc.2
      have nx3 := Row.cells1 hrx
      rw [List.drop_eq_getElem_cons hlt, List.find?_cons] at hfd
      cases hn : (g.ops[j].nm.toList == nm.toList) with
      | true =>
        rw [hn] at hfd
        simp only at hfd
        rw [hfd]
        repeat (first | (refine W_reg rfl fun G K hG hK => ?_; simp (disch := omega) only [go_sem, ↓reduceIte, Nat.reduceEqDiff, Nat.reduceAdd, Nat.reduceLeDiff, hG, q1, q2, q3, q4, hlen, e1, e2, e4, e14, e15, e16, l2, l4, l4', c1, hi, idxA, Int.toNat_natCast, nx, nx2, nx3, hld, hn]; refine hK _ _ ?_; clear hK K hG G) | (refine W_end rfl fun G K hG hK => ?_; simp (disch := omega) only [go_sem, ↓reduceIte, Nat.reduceEqDiff, Nat.reduceAdd, Nat.reduceLeDiff, hG, q1, q2, q3, q4, hlen, e1, e2, e4, e14, e15, e16, l2, l4, l4', c1, hi, idxA, Int.toNat_natCast, nx, nx2, nx3, hld, hn]; refine hK _ _ ?_; clear hK K hG G; repeat (first | refine thenI ?_ | refine thenE ?_ | refine thenR ?_ | refine inBI ?_ | refine inBR ?_ | refine inBS ?_ | refine inBN (by decide) ?_)) | refine W_seqS ?_ | refine W_seqC ?_ | refine W_seqB ?_ | refine W_block ?_ | (refine W_skip ?_; repeat (first | refine thenI ?_ | refine thenE ?_ | refine thenR ?_ | refine inBI ?_ | refine inBR ?_ | refine inBS ?_ | refine inBN (by decide) ?_)) | (refine W_condT ?hc ?_; (case hc => (simp (disch := omega) only [go_sem, ↓reduceIte, Nat.reduceEqDiff, Nat.reduceAdd, Nat.reduceLeDiff, q1, q2, q3, q4, hlen, e1, e2, e4, e14, e15, e16, l2, l4, l4', c1, hi, idxA, Int.toNat_natCast, nx, nx2, nx3, hld, hn]; done))) | (refine W_condF ?hc ?_; (case hc => (simp (disch := omega) only [go_sem, ↓reduceIte, Nat.reduceEqDiff, Nat.reduceAdd, Nat.reduceLeDiff, q1, q2, q3, q4, hlen, e1, e2, e4, e14, e15, e16, l2, l4, l4', c1, hi, idxA, Int.toNat_natCast, nx, nx2, nx3, hld, hn]; done))))
        (repeat (first | refine W_seqS ?_ | refine W_seqC ?_ | refine W_seqB ?_ | refine W_block ?_)); refine W_reg rfl fun G K hG hK => ?_; simp (disch := omega) only [go_sem, ↓reduceIte, Nat.reduceEqDiff, Nat.reduceAdd, Nat.reduceLeDiff, hG, q1, q2, q3, q4, hlen, e1, e2, e4, e14, e15, e16, l2, l4, l4', c1, hi, idxA, Int.toNat_natCast, nx, nx2, nx3]
        refine w_call (copyOp_ok g.ops[j] st' _ (hl.2.2 _ (List.getElem_mem hlt)) ⟨_, rfl, hrx⟩) (by simp (disch := omega) only [go_sem, ↓reduceIte, Nat.reduceEqDiff, q1, q2, q3, q4, hlen, e1, e2, e4, e14, e15, e16, l2, l4, l4', c1, hi, idxA, Int.toNat_natCast, nx, nx2, nx3]) ?hl ?_
        case hl => first | rfl | (simp only [go_sem, List.all_cons, List.all_nil, Bool.not_false, Bool.and_self, q1, q2, q3, q4, hlen, e1, e2, e4, e14, e15, e16, l2, l4, l4', c1, hi, idxA, Int.toNat_natCast, nx, nx2, nx3]; done)
        rintro r_ sa ⟨x1, ds, L, rfl, ho, hff⟩; refine ⟨fun e => (by cases e), ?_⟩
        obtain ⟨n', s', m', rfl, a1, a2, a3⟩ := ho.args_cells
        simp (disch := omega) only [go_sem, ↓reduceIte, Nat.reduceEqDiff, Nat.reduceAdd, Nat.reduceLeDiff, hG, q1, q2, q3, q4, hlen, e1, e2, e4, e14, e15, e16, l2, l4, l4', c1, hi, idxA, Int.toNat_natCast, nx, nx2, nx3, a1, a2, a3]; refine hK _ _ ?_; clear hK K hG G; repeat (first | refine thenI ?_ | refine thenE ?_ | refine thenR ?_ | refine inBI ?_ | refine inBR ?_ | refine inBS ?_ | refine inBN (by decide) ?_)
        refine W_ret ?_; try (repeat (first | refine thenI ?_ | refine thenE ?_ | refine thenR ?_ | refine inBI ?_ | refine inBR ?_ | refine inBS ?_ | refine inBN (by decide) ?_))
        refine finC2 (.inl rfl) (by (simp (disch := omega) only [go_sem, ↓reduceIte, Nat.reduceEqDiff, Nat.reduceAdd, Nat.reduceLeDiff, q1, q2, q3, q4, hlen, e1, e2, e4, e14, e15, e16, l2, l4, l4', c1, hi, idxA, Int.toNat_natCast, nx, nx2, nx3, a1, a2, a3]); try rfl) (by (simp (disch := omega) only [go_sem, ↓reduceIte, Nat.reduceEqDiff, Nat.reduceAdd, Nat.reduceLeDiff, q1, q2, q3, q4, hlen, e1, e2, e4, e14, e15, e16, l2, l4, l4', c1, hi, idxA, Int.toNat_natCast, nx, nx2, nx3]); try rfl) rfl ⟨x1, _, L, rfl, ho, hff⟩
      | false =>
        rw [hn] at hfd
        simp only at hfd
        repeat (first | (refine W_reg rfl fun G K hG hK => ?_; simp (disch := omega) only [go_sem, ↓reduceIte, Nat.reduceEqDiff, Nat.reduceAdd, Nat.reduceLeDiff, hG, q1, q2, q3, q4, hlen, e1, e2, e4, e14, e15, e16, l2, l4, l4', c1, hi, idxA, Int.toNat_natCast, nx, nx2, nx3, hld, hn]; refine hK _ _ ?_; clear hK K hG G) | (refine W_end rfl fun G K hG hK => ?_; simp (disch := omega) only [go_sem, ↓reduceIte, Nat.reduceEqDiff, Nat.reduceAdd, Nat.reduceLeDiff, hG, q1, q2, q3, q4, hlen, e1, e2, e4, e14, e15, e16, l2, l4, l4', c1, hi, idxA, Int.toNat_natCast, nx, nx2, nx3, hld, hn]; refine hK _ _ ?_; clear hK K hG G; repeat (first | refine thenI ?_ | refine thenE ?_ | refine thenR ?_ | refine inBI ?_ | refine inBR ?_ | refine inBS ?_ | refine inBN (by decide) ?_)) | refine W_seqS ?_ | refine W_seqC ?_ | refine W_seqB ?_ | refine W_block ?_ | (refine W_skip ?_; repeat (first | refine thenI ?_ | refine thenE ?_ | refine thenR ?_ | refine inBI ?_ | refine inBR ?_ | refine inBS ?_ | refine inBN (by decide) ?_)) | (refine W_condT ?hc ?_; (case hc => (simp (disch := omega) only [go_sem, ↓reduceIte, Nat.reduceEqDiff, Nat.reduceAdd, Nat.reduceLeDiff, q1, q2, q3, q4, hlen, e1, e2, e4, e14, e15, e16, l2, l4, l4', c1, hi, idxA, Int.toNat_natCast, nx, nx2, nx3, hld, hn]; done))) | (refine W_condF ?hc ?_; (case hc => (simp (disch := omega) only [go_sem, ↓reduceIte, Nat.reduceEqDiff, Nat.reduceAdd, Nat.reduceLeDiff, q1, q2, q3, q4, hlen, e1, e2, e4, e14, e15, e16, l2, l4, l4', c1, hi, idxA, Int.toNat_natCast, nx, nx2, nx3, hld, hn]; done))))
        refine ⟨g.ops.length - (j + 1), by omega, j + 1, rfl, by omega, rfl, hfd, (by (simp (disch := omega) only [go_sem, ↓reduceIte, Nat.reduceEqDiff, Nat.reduceAdd, Nat.reduceLeDiff, q1, q2, q3, q4, hlen, e1, e2, e4, e14, e15, e16, l2, l4, l4', c1, hi, idxA, Int.toNat_natCast, nx, nx2, nx3]); try rfl), (by (simp (disch := omega) only [go_sem, ↓reduceIte, Nat.reduceEqDiff, Nat.reduceAdd, Nat.reduceLeDiff, q1, q2, q3, q4, hlen, e1, e2, e4, e14, e15, e16, l2, l4, l4', c1, hi, idxA, Int.toNat_natCast, nx, nx2, nx3]); try rfl), (by (simp (disch := omega) only [go_sem, ↓reduceIte, Nat.reduceEqDiff, Nat.reduceAdd, Nat.reduceLeDiff, q1, q2, q3, q4, hlen, e1, e2, e4, e14, e15, e16, l2, l4, l4', c1, hi, idxA, Int.toNat_natCast, nx, nx2, nx3]); try rfl), (by (simp (disch := omega) only [go_sem, ↓reduceIte, Nat.reduceEqDiff, Nat.reduceAdd, Nat.reduceLeDiff, q1, q2, q3, q4, hlen, e1, e2, e4, e14, e15, e16, l2, l4, l4', c1, hi, idxA, Int.toNat_natCast, nx, nx2, nx3]); try rfl), (by (simp (disch := omega) only [go_sem, ↓reduceIte, Nat.reduceEqDiff, Nat.reduceAdd, Nat.reduceLeDiff, q1, q2, q3, q4, hlen, e1, e2, e4, e14, e15, e16, l2, l4, l4', c1, hi, idxA, Int.toNat_natCast, nx, nx2, nx3]); try rfl), (by (simp (disch := omega) only [go_sem, ↓reduceIte, Nat.reduceEqDiff, Nat.reduceAdd, Nat.reduceLeDiff, q1, q2, q3, q4, hlen, e1, e2, e4, e14, e15, e16, l2, l4, l4', c1, hi, idxA, Int.toNat_natCast, nx, nx2, nx3]); try rfl), (by (simp (disch := omega) only [go_sem, ↓reduceIte, Nat.reduceEqDiff, Nat.reduceAdd, Nat.reduceLeDiff, q1, q2, q3, q4, hlen, e1, e2, e4, e14, e15, e16, l2, l4, l4', c1, hi, idxA, Int.toNat_natCast, nx, nx2, nx3]); try rfl), ⟨(by (simp (disch := omega) only [go_sem, ↓reduceIte, Nat.reduceEqDiff, Nat.reduceAdd, Nat.reduceLeDiff, q1, q2, q3, q4, hlen, e1, e2, e4, e14, e15, e16, l2, l4, l4', c1, hi, idxA, Int.toNat_natCast, nx, nx2, nx3]); try rfl), (by (simp (disch := omega) only [go_sem, ↓reduceIte, Nat.reduceEqDiff, Nat.reduceAdd, Nat.reduceLeDiff, q1, q2, q3, q4, hlen, e1, e2, e4, e14, e15, e16, l2, l4, l4', c1, hi, idxA, Int.toNat_natCast, nx, nx2, nx3]); try rfl)⟩⟩
    · have c1 : decide ((j : Int) < (g.ops.length : Int)) = false := by simpa using hlt
      have hjn : j = g.ops.length := by omega
      subst hjn
      rw [List.drop_length] at hfd
      simp only [List.find?_nil] at hfd
      rw [hfd]
      repeat (first | (refine W_reg rfl fun G K hG hK => ?_; simp (disch := omega) only [go_sem, ↓reduceIte, Nat.reduceEqDiff, Nat.reduceAdd, Nat.reduceLeDiff, hG, q1, q2, q3, q4, hlen, e1, e2, e4, e14, e15, e16, l2, l4, l4', c1]; refine hK _ _ ?_; clear hK K hG G) | (refine W_end rfl fun G K hG hK => ?_; simp (disch := omega) only [go_sem, ↓reduceIte, Nat.reduceEqDiff, Nat.reduceAdd, Nat.reduceLeDiff, hG, q1, q2, q3, q4, hlen, e1, e2, e4, e14, e15, e16, l2, l4, l4', c1]; refine hK _ _ ?_; clear hK K hG G; repeat (first | refine thenI ?_ | refine thenE ?_ | refine thenR ?_ | refine inBI ?_ | refine inBR ?_ | refine inBS ?_ | refine inBN (by decide) ?_)) | refine W_seqS ?_ | refine W_seqC ?_ | refine W_seqB ?_ | refine W_block ?_ | (refine W_skip ?_; repeat (first | refine thenI ?_ | refine thenE ?_ | refine thenR ?_ | refine inBI ?_ | refine inBR ?_ | refine inBS ?_ | refine inBN (by decide) ?_)) | (refine W_condT ?hc ?_; (case hc => (simp (disch := omega) only [go_sem, ↓reduceIte, Nat.reduceEqDiff, Nat.reduceAdd, Nat.reduceLeDiff, q1, q2, q3, q4, hlen, e1, e2, e4, e14, e15, e16, l2, l4, l4', c1]; done))) | (refine W_condF ?hc ?_; (case hc => (simp (disch := omega) only [go_sem, ↓reduceIte, Nat.reduceEqDiff, Nat.reduceAdd, Nat.reduceLeDiff, q1, q2, q3, q4, hlen, e1, e2, e4, e14, e15, e16, l2, l4, l4', c1]; done))))
      refine W_exit ?_; repeat (first | refine thenI ?_ | refine thenE ?_ | refine thenR ?_ | refine inBI ?_ | refine inBR ?_ | refine inBS ?_ | refine inBN (by decide) ?_)
      repeat (first | (refine W_reg rfl fun G K hG hK => ?_; simp (disch := omega) only [go_sem, ↓reduceIte, Nat.reduceEqDiff, Nat.reduceAdd, Nat.reduceLeDiff, hG, q1, q2, q3, q4, hlen, e1, e2, e4, e14, e15, e16, l2, l4, l4', c1]; refine hK _ _ ?_; clear hK K hG G) | (refine W_end rfl fun G K hG hK => ?_; simp (disch := omega) only [go_sem, ↓reduceIte, Nat.reduceEqDiff, Nat.reduceAdd, Nat.reduceLeDiff, hG, q1, q2, q3, q4, hlen, e1, e2, e4, e14, e15, e16, l2, l4, l4', c1]; refine hK _ _ ?_; clear hK K hG G; repeat (first | refine thenI ?_ | refine thenE ?_ | refine thenR ?_ | refine inBI ?_ | refine inBR ?_ | refine inBS ?_ | refine inBN (by decide) ?_)) | refine W_seqS ?_ | refine W_seqC ?_ | refine W_seqB ?_ | refine W_block ?_ | (refine W_skip ?_; repeat (first | refine thenI ?_ | refine thenE ?_ | refine thenR ?_ | refine inBI ?_ | refine inBR ?_ | refine inBS ?_ | refine inBN (by decide) ?_)) | (refine W_condT ?hc ?_; (case hc => (simp (disch := omega) only [go_sem, ↓reduceIte, Nat.reduceEqDiff, Nat.reduceAdd, Nat.reduceLeDiff, q1, q2, q3, q4, hlen, e1, e2, e4, e14, e15, e16, l2, l4, l4', c1]; done))) | (refine W_condF ?hc ?_; (case hc => (simp (disch := omega) only [go_sem, ↓reduceIte, Nat.reduceEqDiff, Nat.reduceAdd, Nat.reduceLeDiff, q1, q2, q3, q4, hlen, e1, e2, e4, e14, e15, e16, l2, l4, l4', c1]; done))))
      refine W_ret ?_; try (repeat (first | refine thenI ?_ | refine thenE ?_ | refine thenR ?_ | refine inBI ?_ | refine inBR ?_ | refine inBS ?_ | refine inBN (by decide) ?_))
      refine finC2 (.inl rfl) (by (simp (disch := omega) only [go_sem, ↓reduceIte, Nat.reduceEqDiff, Nat.reduceAdd, Nat.reduceLeDiff, q1, q2, q3, q4, hlen, e1, e2, e4, e14, e15, e16, l2, l4, l4', c1]); try rfl) (by (simp (disch := omega) only [go_sem, ↓reduceIte, Nat.reduceEqDiff, Nat.reduceAdd, Nat.reduceLeDiff, q1, q2, q3, q4, hlen, e1, e2, e4, e14, e15, e16, l2, l4, l4', c1]); try rfl) rfl ⟨Ext.refl _, [.string ⟨#[]⟩, .slice none 0 0, .string ⟨#[]⟩], [], rfl, ⟨_, rfl, Sl.nil _⟩, .nil _⟩
theorem specFindOp_ok (g : Sgn) (nm : ByteArray) (st : St) (cs : List Value) (hl : LimS 1073741824 g) (hE : EncS st g cs) :
    CallS Try.prog 7 [.agg cs.toArray, .string nm] st fun r st2 => Ext st st2 ∧ ∃ ds L, r = .tuple #[.agg ds.toArray, .bool (findOp g nm).2] ∧ OwnO st2 (findOp g nm).1 ds L ∧ Fresh st.length L := by
  refine CallS_of_W [] 40 Try.func7 rfl rfl rfl rfl (by simp) ?_
  obtain ⟨s, u, rfl, hs, hu⟩ := hE
  have q1 := hs.notLoc.1
  have q2 := hs.notLoc.2
  have q3 := hu.notLoc.1
  have q4 := hu.notLoc.2
  have hlen : lenE Try.prog 25 u = some (.int .i64 g.ops.length) := row_len hu Try.underlying25
  have hg2 := hl.2.1
  repeat (first | (refine W_reg rfl fun G K hG hK => ?_; simp (disch := omega) only [go_sem, ↓reduceIte, Nat.reduceEqDiff, Nat.reduceAdd, Nat.reduceLeDiff, hG, q1, q2, q3, q4, hlen]; refine hK _ _ ?_; clear hK K hG G) | (refine W_end rfl fun G K hG hK => ?_; simp (disch := omega) only [go_sem, ↓reduceIte, Nat.reduceEqDiff, Nat.reduceAdd, Nat.reduceLeDiff, hG, q1, q2, q3, q4, hlen]; refine hK _ _ ?_; clear hK K hG G; repeat (first | refine thenI ?_ | refine thenE ?_ | refine thenR ?_ | refine inBI ?_ | refine inBR ?_ | refine inBS ?_ | refine inBN (by decide) ?_)) | refine W_seqS ?_ | refine W_seqC ?_ | refine W_seqB ?_ | refine W_block ?_ | (refine W_skip ?_; repeat (first | refine thenI ?_ | refine thenE ?_ | refine thenR ?_ | refine inBI ?_ | refine inBR ?_ | refine inBS ?_ | refine inBN (by decide) ?_)) | (refine W_condT ?hc ?_; (case hc => (simp (disch := omega) only [go_sem, ↓reduceIte, Nat.reduceEqDiff, Nat.reduceAdd, Nat.reduceLeDiff, q1, q2, q3, q4, hlen]; done))) | (refine W_condF ?hc ?_; (case hc => (simp (disch := omega) only [go_sem, ↓reduceIte, Nat.reduceEqDiff, Nat.reduceAdd, Nat.reduceLeDiff, q1, q2, q3, q4, hlen]; done))))
  (repeat (first | refine W_seqS ?_ | refine W_seqC ?_ | refine W_seqB ?_ | refine W_block ?_)); refine W_reg rfl fun G K hG hK => ?_; simp (disch := omega) only [go_sem, ↓reduceIte, Nat.reduceEqDiff, Nat.reduceAdd, Nat.reduceLeDiff, hG, q1, q2, q3, q4, hlen]
  refine w_call (specIsB_ok nm st) (by simp (disch := omega) only [go_sem, ↓reduceIte, Nat.reduceEqDiff, q1, q2, q3, q4, hlen]) ?hl ?_
  case hl => first | rfl | (simp only [go_sem, List.all_cons, List.all_nil, Bool.not_false, Bool.and_self, q1, q2, q3, q4, hlen]; done)
  rintro r_ st ⟨rfl, rfl⟩; refine ⟨fun e => (by cases e), ?_⟩
  simp (disch := omega) only [go_sem, ↓reduceIte, Nat.reduceEqDiff, Nat.reduceAdd, Nat.reduceLeDiff, hG, q1, q2, q3, q4, hlen]; refine hK _ _ ?_; clear hK K hG G; repeat (first | refine thenI ?_ | refine thenE ?_ | refine thenR ?_ | refine inBI ?_ | refine inBR ?_ | refine inBS ?_ | refine inBN (by decide) ?_)
  cases hb : isB nm with
  | true =>
    have hf : findOp g nm = (⟨nm, [wordB, wordB], wordB⟩, true) := by unfold findOp; rw [hb]; rfl
    rw [hf]
    repeat (first | (refine W_reg rfl fun G K hG hK => ?_; simp (disch := omega) only [go_sem, ↓reduceIte, Nat.reduceEqDiff, Nat.reduceAdd, Nat.reduceLeDiff, hG, q1, q2, q3, q4, hlen]; refine hK _ _ ?_; clear hK K hG G) | (refine W_end rfl fun G K hG hK => ?_; simp (disch := omega) only [go_sem, ↓reduceIte, Nat.reduceEqDiff, Nat.reduceAdd, Nat.reduceLeDiff, hG, q1, q2, q3, q4, hlen]; refine hK _ _ ?_; clear hK K hG G; repeat (first | refine thenI ?_ | refine thenE ?_ | refine thenR ?_ | refine inBI ?_ | refine inBR ?_ | refine inBS ?_ | refine inBN (by decide) ?_)) | refine W_seqS ?_ | refine W_seqC ?_ | refine W_seqB ?_ | refine W_block ?_ | (refine W_skip ?_; repeat (first | refine thenI ?_ | refine thenE ?_ | refine thenR ?_ | refine inBI ?_ | refine inBR ?_ | refine inBS ?_ | refine inBN (by decide) ?_)) | (refine W_condT ?hc ?_; (case hc => (simp (disch := omega) only [go_sem, ↓reduceIte, Nat.reduceEqDiff, Nat.reduceAdd, Nat.reduceLeDiff, q1, q2, q3, q4, hlen]; done))) | (refine W_condF ?hc ?_; (case hc => (simp (disch := omega) only [go_sem, ↓reduceIte, Nat.reduceEqDiff, Nat.reduceAdd, Nat.reduceLeDiff, q1, q2, q3, q4, hlen]; done))))
    (repeat (first | refine W_seqS ?_ | refine W_seqC ?_ | refine W_seqB ?_ | refine W_block ?_)); refine W_reg rfl fun G K hG hK => ?_; simp (disch := omega) only [go_sem, ↓reduceIte, Nat.reduceEqDiff, Nat.reduceAdd, Nat.reduceLeDiff, hG, q1, q2, q3, q4, hlen, bsL, fillK_cons, fillK_nil, Nat.reduceMul]
    refine hK _ _ ?_; clear hK K hG G; repeat (first | refine thenI ?_ | refine thenE ?_ | refine thenR ?_ | refine inBI ?_ | refine inBR ?_ | refine inBS ?_ | refine inBN (by decide) ?_)
    repeat (first | (refine W_reg rfl fun G K hG hK => ?_; simp (disch := omega) only [go_sem, ↓reduceIte, Nat.reduceEqDiff, Nat.reduceAdd, Nat.reduceLeDiff, hG, q1, q2, q3, q4, hlen]; refine hK _ _ ?_; clear hK K hG G) | (refine W_end rfl fun G K hG hK => ?_; simp (disch := omega) only [go_sem, ↓reduceIte, Nat.reduceEqDiff, Nat.reduceAdd, Nat.reduceLeDiff, hG, q1, q2, q3, q4, hlen]; refine hK _ _ ?_; clear hK K hG G; repeat (first | refine thenI ?_ | refine thenE ?_ | refine thenR ?_ | refine inBI ?_ | refine inBR ?_ | refine inBS ?_ | refine inBN (by decide) ?_)) | refine W_seqS ?_ | refine W_seqC ?_ | refine W_seqB ?_ | refine W_block ?_ | (refine W_skip ?_; repeat (first | refine thenI ?_ | refine thenE ?_ | refine thenR ?_ | refine inBI ?_ | refine inBR ?_ | refine inBS ?_ | refine inBN (by decide) ?_)) | (refine W_condT ?hc ?_; (case hc => (simp (disch := omega) only [go_sem, ↓reduceIte, Nat.reduceEqDiff, Nat.reduceAdd, Nat.reduceLeDiff, q1, q2, q3, q4, hlen]; done))) | (refine W_condF ?hc ?_; (case hc => (simp (disch := omega) only [go_sem, ↓reduceIte, Nat.reduceEqDiff, Nat.reduceAdd, Nat.reduceLeDiff, q1, q2, q3, q4, hlen]; done))))
    refine W_ret ?_; try (repeat (first | refine thenI ?_ | refine thenE ?_ | refine thenR ?_ | refine inBI ?_ | refine inBR ?_ | refine inBS ?_ | refine inBN (by decide) ?_))
    refine finC2 (.inl rfl) (by (simp (disch := omega) only [go_sem, ↓reduceIte, Nat.reduceEqDiff, Nat.reduceAdd, Nat.reduceLeDiff, q1, q2, q3, q4, hlen]); try rfl) (by (simp (disch := omega) only [go_sem, ↓reduceIte, Nat.reduceEqDiff, Nat.reduceAdd, Nat.reduceLeDiff, q1, q2, q3, q4, hlen]); try rfl) rfl ⟨Ext.app _ _, [.string nm, .slice (some ⟨st.length, 0, none⟩) 2 2, .string wordB], [st.length], rfl, ⟨_, rfl, own_word2⟩, ⟨by simp, by simp⟩⟩
  | false =>
    have hf : findOp g nm = match g.ops.find? fun o => o.nm.toList == nm.toList with
      | some o => (o, true)
      | none => (Opr.zero, false) := by unfold findOp; rw [hb]; rfl
    rw [hf]
    repeat (first | (refine W_reg rfl fun G K hG hK => ?_; simp (disch := omega) only [go_sem, ↓reduceIte, Nat.reduceEqDiff, Nat.reduceAdd, Nat.reduceLeDiff, hG, q1, q2, q3, q4, hlen]; refine hK _ _ ?_; clear hK K hG G) | (refine W_end rfl fun G K hG hK => ?_; simp (disch := omega) only [go_sem, ↓reduceIte, Nat.reduceEqDiff, Nat.reduceAdd, Nat.reduceLeDiff, hG, q1, q2, q3, q4, hlen]; refine hK _ _ ?_; clear hK K hG G; repeat (first | refine thenI ?_ | refine thenE ?_ | refine thenR ?_ | refine inBI ?_ | refine inBR ?_ | refine inBS ?_ | refine inBN (by decide) ?_)) | refine W_seqS ?_ | refine W_seqC ?_ | refine W_seqB ?_ | refine W_block ?_ | (refine W_skip ?_; repeat (first | refine thenI ?_ | refine thenE ?_ | refine thenR ?_ | refine inBI ?_ | refine inBR ?_ | refine inBS ?_ | refine inBN (by decide) ?_)) | (refine W_condT ?hc ?_; (case hc => (simp (disch := omega) only [go_sem, ↓reduceIte, Nat.reduceEqDiff, Nat.reduceAdd, Nat.reduceLeDiff, q1, q2, q3, q4, hlen]; done))) | (refine W_condF ?hc ?_; (case hc => (simp (disch := omega) only [go_sem, ↓reduceIte, Nat.reduceEqDiff, Nat.reduceAdd, Nat.reduceLeDiff, q1, q2, q3, q4, hlen]; done))))
    refine W_loop (fun d fr st' => ∃ (j : Nat) , d = g.ops.length - j ∧ j ≤ g.ops.length ∧ (st' = st) ∧ ((g.ops.find? fun o => o.nm.toList == nm.toList) = (g.ops.drop j).find? fun o => o.nm.toList == nm.toList) ∧ (fr.env 1 = .string nm) ∧ (fr.env 2 = .pointer (some ⟨2, 0, some 1⟩)) ∧ (fr.env 4 = .pointer (some ⟨4, 0, some 1⟩)) ∧ (fr.env 6 = .int .i64 j) ∧ (fr.loc 2 = (1, [s, u])) ∧ ((fr.loc 4).1 = 1 ∧ (fr.loc 4).2.length = 3)) (g.ops.length) ?_ ?_
    · exact ⟨0, by omega, by omega, rfl, by simp, (by (simp (disch := omega) only [go_sem, ↓reduceIte, Nat.reduceEqDiff, Nat.reduceAdd, Nat.reduceLeDiff, q1, q2, q3, q4, hlen]); try rfl), (by (simp (disch := omega) only [go_sem, ↓reduceIte, Nat.reduceEqDiff, Nat.reduceAdd, Nat.reduceLeDiff, q1, q2, q3, q4, hlen]); try rfl), (by (simp (disch := omega) only [go_sem, ↓reduceIte, Nat.reduceEqDiff, Nat.reduceAdd, Nat.reduceLeDiff, q1, q2, q3, q4, hlen]); try rfl), (by (simp (disch := omega) only [go_sem, ↓reduceIte, Nat.reduceEqDiff, Nat.reduceAdd, Nat.reduceLeDiff, q1, q2, q3, q4, hlen]); try rfl), (by (simp (disch := omega) only [go_sem, ↓reduceIte, Nat.reduceEqDiff, Nat.reduceAdd, Nat.reduceLeDiff, q1, q2, q3, q4, hlen]); try rfl), ⟨(by (simp (disch := omega) only [go_sem, ↓reduceIte, Nat.reduceEqDiff, Nat.reduceAdd, Nat.reduceLeDiff, q1, q2, q3, q4, hlen]); try rfl), (by (simp (disch := omega) only [go_sem, ↓reduceIte, Nat.reduceEqDiff, Nat.reduceAdd, Nat.reduceLeDiff, q1, q2, q3, q4, hlen]); try rfl)⟩⟩
    rintro d ⟨env, loc⟩ st' ⟨j, hd, hj, hst, hfd, e1, e2, e4, e6, l2, ⟨l4, l4'⟩⟩
    simp only at e1 e2 e4 e6 l2 l4 l4'
    subst hst
    by_cases hlt : j < g.ops.length
    · have c1 : decide ((j : Int) < (g.ops.length : Int)) = true := by simpa using hlt
      have hi := idxOk hlt
      have hx : g.ops[j]? = some g.ops[j] := List.getElem?_eq_getElem hlt
      have htk : g.ops.take (j + 1) = g.ops.take j ++ [g.ops[j]] := List.take_succ_eq_append_getElem hlt
      obtain ⟨i, o, c, sx, rfl, hrx, hcs⟩ := row_atO hu hx
      have hld := fun loc => load_row (A := []) (loc := loc) ag31 sz31 rfl hcs
      have hc0 : cell st' i (o + j * 3) = some (.string g.ops[j].nm) := by have := hcs 0 _ rfl; rwa [Nat.add_zero] at this
      have nx := hrx.notLoc.1
      have nx2 := hrx.notLoc.2
      have nx3 := Row.cells1 hrx
      rw [List.drop_eq_getElem_cons hlt, List.find?_cons] at hfd
      cases hn : (g.ops[j].nm.toList == nm.toList) with
      | true =>
        rw [hn] at hfd
        simp only at hfd
        rw [hfd]
        have h0 : Sl (α := ByteArray) (st' ++ [(⟨[], 9, 0⟩ : Blk)]) [] (.slice (some ⟨st'.length, 0, none⟩) 0 0) [st'.length] := Sl.empty (α := ByteArray) st'
        obtain ⟨s1, sB, L1, h1, h2, h3, h4⟩ := Sl.appRow (α := ByteArray) (t := 24) (u := 24) (n0 := st'.length) Try.underlying24 Try.underlying24 sz9 rfl by9 ze9 rfl h0 ⟨by simp, by simp⟩ (by simp) (Ext.refl _) (hrx.ext (Ext.app _ _)) (by have := hl.2.2 _ (List.getElem_mem hlt); simp; omega) (by have := hl.2.2 _ (List.getElem_mem hlt); simp; omega)
        rw [List.nil_append] at h2
        have a1 := h2.okv
        have a2 := h2.loc
        have a3 := h2.cells
        repeat (first | (refine W_reg rfl fun G K hG hK => ?_; simp (disch := omega) only [go_sem, ↓reduceIte, Nat.reduceEqDiff, Nat.reduceAdd, Nat.reduceLeDiff, hG, q1, q2, q3, q4, hlen, e1, e2, e4, e6, l2, l4, l4', c1, hi, idxA, Int.toNat_natCast, nx, nx2, nx3, hld, hc0, ag9, hn, w_append, h1, a1, a2, a3]; refine hK _ _ ?_; clear hK K hG G) | (refine W_end rfl fun G K hG hK => ?_; simp (disch := omega) only [go_sem, ↓reduceIte, Nat.reduceEqDiff, Nat.reduceAdd, Nat.reduceLeDiff, hG, q1, q2, q3, q4, hlen, e1, e2, e4, e6, l2, l4, l4', c1, hi, idxA, Int.toNat_natCast, nx, nx2, nx3, hld, hc0, ag9, hn, w_append, h1, a1, a2, a3]; refine hK _ _ ?_; clear hK K hG G; repeat (first | refine thenI ?_ | refine thenE ?_ | refine thenR ?_ | refine inBI ?_ | refine inBR ?_ | refine inBS ?_ | refine inBN (by decide) ?_)) | refine W_seqS ?_ | refine W_seqC ?_ | refine W_seqB ?_ | refine W_block ?_ | (refine W_skip ?_; repeat (first | refine thenI ?_ | refine thenE ?_ | refine thenR ?_ | refine inBI ?_ | refine inBR ?_ | refine inBS ?_ | refine inBN (by decide) ?_)) | (refine W_condT ?hc ?_; (case hc => (simp (disch := omega) only [go_sem, ↓reduceIte, Nat.reduceEqDiff, Nat.reduceAdd, Nat.reduceLeDiff, q1, q2, q3, q4, hlen, e1, e2, e4, e6, l2, l4, l4', c1, hi, idxA, Int.toNat_natCast, nx, nx2, nx3, hld, hc0, ag9, hn, w_append, h1, a1, a2, a3]; done))) | (refine W_condF ?hc ?_; (case hc => (simp (disch := omega) only [go_sem, ↓reduceIte, Nat.reduceEqDiff, Nat.reduceAdd, Nat.reduceLeDiff, q1, q2, q3, q4, hlen, e1, e2, e4, e6, l2, l4, l4', c1, hi, idxA, Int.toNat_natCast, nx, nx2, nx3, hld, hc0, ag9, hn, w_append, h1, a1, a2, a3]; done))))
        refine W_ret ?_; try (repeat (first | refine thenI ?_ | refine thenE ?_ | refine thenR ?_ | refine inBI ?_ | refine inBR ?_ | refine inBS ?_ | refine inBN (by decide) ?_))
        refine finC2 (.inl rfl) (by (simp (disch := omega) only [go_sem, ↓reduceIte, Nat.reduceEqDiff, Nat.reduceAdd, Nat.reduceLeDiff, q1, q2, q3, q4, hlen, e1, e2, e4, e6, l2, l4, l4', c1, hi, idxA, Int.toNat_natCast, nx, nx2, nx3, a1, a2, a3]); try rfl) (by (simp (disch := omega) only [go_sem, ↓reduceIte, Nat.reduceEqDiff, Nat.reduceAdd, Nat.reduceLeDiff, q1, q2, q3, q4, hlen, e1, e2, e4, e6, l2, l4, l4', c1, hi, idxA, Int.toNat_natCast, nx, nx2, nx3]); try rfl) rfl ⟨h4.away.ext_of (Ext.app _ _) (.inr ⟨_, Nat.le_refl _, rfl⟩), [.string g.ops[j].nm, s1, .string g.ops[j].res], L1, rfl, ⟨_, rfl, h2⟩, h3⟩
      | false =>
        rw [hn] at hfd
        simp only at hfd
        repeat (first | (refine W_reg rfl fun G K hG hK => ?_; simp (disch := omega) only [go_sem, ↓reduceIte, Nat.reduceEqDiff, Nat.reduceAdd, Nat.reduceLeDiff, hG, q1, q2, q3, q4, hlen, e1, e2, e4, e6, l2, l4, l4', c1, hi, idxA, Int.toNat_natCast, nx, nx2, nx3, hc0, ag9, hn]; refine hK _ _ ?_; clear hK K hG G) | (refine W_end rfl fun G K hG hK => ?_; simp (disch := omega) only [go_sem, ↓reduceIte, Nat.reduceEqDiff, Nat.reduceAdd, Nat.reduceLeDiff, hG, q1, q2, q3, q4, hlen, e1, e2, e4, e6, l2, l4, l4', c1, hi, idxA, Int.toNat_natCast, nx, nx2, nx3, hc0, ag9, hn]; refine hK _ _ ?_; clear hK K hG G; repeat (first | refine thenI ?_ | refine thenE ?_ | refine thenR ?_ | refine inBI ?_ | refine inBR ?_ | refine inBS ?_ | refine inBN (by decide) ?_)) | refine W_seqS ?_ | refine W_seqC ?_ | refine W_seqB ?_ | refine W_block ?_ | (refine W_skip ?_; repeat (first | refine thenI ?_ | refine thenE ?_ | refine thenR ?_ | refine inBI ?_ | refine inBR ?_ | refine inBS ?_ | refine inBN (by decide) ?_)) | (refine W_condT ?hc ?_; (case hc => (simp (disch := omega) only [go_sem, ↓reduceIte, Nat.reduceEqDiff, Nat.reduceAdd, Nat.reduceLeDiff, q1, q2, q3, q4, hlen, e1, e2, e4, e6, l2, l4, l4', c1, hi, idxA, Int.toNat_natCast, nx, nx2, nx3, hc0, ag9, hn]; done))) | (refine W_condF ?hc ?_; (case hc => (simp (disch := omega) only [go_sem, ↓reduceIte, Nat.reduceEqDiff, Nat.reduceAdd, Nat.reduceLeDiff, q1, q2, q3, q4, hlen, e1, e2, e4, e6, l2, l4, l4', c1, hi, idxA, Int.toNat_natCast, nx, nx2, nx3, hc0, ag9, hn]; done))))
        refine ⟨g.ops.length - (j + 1), by omega, j + 1, rfl, by omega, rfl, hfd, (by (simp (disch := omega) only [go_sem, ↓reduceIte, Nat.reduceEqDiff, Nat.reduceAdd, Nat.reduceLeDiff, q1, q2, q3, q4, hlen, e1, e2, e4, e6, l2, l4, l4', c1, hi, idxA, Int.toNat_natCast, nx, nx2, nx3]); try rfl), (by (simp (disch := omega) only [go_sem, ↓reduceIte, Nat.reduceEqDiff, Nat.reduceAdd, Nat.reduceLeDiff, q1, q2, q3, q4, hlen, e1, e2, e4, e6, l2, l4, l4', c1, hi, idxA, Int.toNat_natCast, nx, nx2, nx3]); try rfl), (by (simp (disch := omega) only [go_sem, ↓reduceIte, Nat.reduceEqDiff, Nat.reduceAdd, Nat.reduceLeDiff, q1, q2, q3, q4, hlen, e1, e2, e4, e6, l2, l4, l4', c1, hi, idxA, Int.toNat_natCast, nx, nx2, nx3]); try rfl), (by (simp (disch := omega) only [go_sem, ↓reduceIte, Nat.reduceEqDiff, Nat.reduceAdd, Nat.reduceLeDiff, q1, q2, q3, q4, hlen, e1, e2, e4, e6, l2, l4, l4', c1, hi, idxA, Int.toNat_natCast, nx, nx2, nx3]); try rfl), (by (simp (disch := omega) only [go_sem, ↓reduceIte, Nat.reduceEqDiff, Nat.reduceAdd, Nat.reduceLeDiff, q1, q2, q3, q4, hlen, e1, e2, e4, e6, l2, l4, l4', c1, hi, idxA, Int.toNat_natCast, nx, nx2, nx3]); try rfl), ⟨(by (simp (disch := omega) only [go_sem, ↓reduceIte, Nat.reduceEqDiff, Nat.reduceAdd, Nat.reduceLeDiff, q1, q2, q3, q4, hlen, e1, e2, e4, e6, l2, l4, l4', c1, hi, idxA, Int.toNat_natCast, nx, nx2, nx3]); try rfl), (by (simp (disch := omega) only [go_sem, ↓reduceIte, Nat.reduceEqDiff, Nat.reduceAdd, Nat.reduceLeDiff, q1, q2, q3, q4, hlen, e1, e2, e4, e6, l2, l4, l4', c1, hi, idxA, Int.toNat_natCast, nx, nx2, nx3]); try rfl)⟩⟩
    · have c1 : decide ((j : Int) < (g.ops.length : Int)) = false := by simpa using hlt
      have hjn : j = g.ops.length := by omega
      subst hjn
      rw [List.drop_length] at hfd
      simp only [List.find?_nil] at hfd
      rw [hfd]
      repeat (first | (refine W_reg rfl fun G K hG hK => ?_; simp (disch := omega) only [go_sem, ↓reduceIte, Nat.reduceEqDiff, Nat.reduceAdd, Nat.reduceLeDiff, hG, q1, q2, q3, q4, hlen, e1, e2, e4, e6, l2, l4, l4', c1]; refine hK _ _ ?_; clear hK K hG G) | (refine W_end rfl fun G K hG hK => ?_; simp (disch := omega) only [go_sem, ↓reduceIte, Nat.reduceEqDiff, Nat.reduceAdd, Nat.reduceLeDiff, hG, q1, q2, q3, q4, hlen, e1, e2, e4, e6, l2, l4, l4', c1]; refine hK _ _ ?_; clear hK K hG G; repeat (first | refine thenI ?_ | refine thenE ?_ | refine thenR ?_ | refine inBI ?_ | refine inBR ?_ | refine inBS ?_ | refine inBN (by decide) ?_)) | refine W_seqS ?_ | refine W_seqC ?_ | refine W_seqB ?_ | refine W_block ?_ | (refine W_skip ?_; repeat (first | refine thenI ?_ | refine thenE ?_ | refine thenR ?_ | refine inBI ?_ | refine inBR ?_ | refine inBS ?_ | refine inBN (by decide) ?_)) | (refine W_condT ?hc ?_; (case hc => (simp (disch := omega) only [go_sem, ↓reduceIte, Nat.reduceEqDiff, Nat.reduceAdd, Nat.reduceLeDiff, q1, q2, q3, q4, hlen, e1, e2, e4, e6, l2, l4, l4', c1]; done))) | (refine W_condF ?hc ?_; (case hc => (simp (disch := omega) only [go_sem, ↓reduceIte, Nat.reduceEqDiff, Nat.reduceAdd, Nat.reduceLeDiff, q1, q2, q3, q4, hlen, e1, e2, e4, e6, l2, l4, l4', c1]; done))))
      refine W_exit ?_; repeat (first | refine thenI ?_ | refine thenE ?_ | refine thenR ?_ | refine inBI ?_ | refine inBR ?_ | refine inBS ?_ | refine inBN (by decide) ?_)
      repeat (first | (refine W_reg rfl fun G K hG hK => ?_; simp (disch := omega) only [go_sem, ↓reduceIte, Nat.reduceEqDiff, Nat.reduceAdd, Nat.reduceLeDiff, hG, q1, q2, q3, q4, hlen, e1, e2, e4, e6, l2, l4, l4', c1]; refine hK _ _ ?_; clear hK K hG G) | (refine W_end rfl fun G K hG hK => ?_; simp (disch := omega) only [go_sem, ↓reduceIte, Nat.reduceEqDiff, Nat.reduceAdd, Nat.reduceLeDiff, hG, q1, q2, q3, q4, hlen, e1, e2, e4, e6, l2, l4, l4', c1]; refine hK _ _ ?_; clear hK K hG G; repeat (first | refine thenI ?_ | refine thenE ?_ | refine thenR ?_ | refine inBI ?_ | refine inBR ?_ | refine inBS ?_ | refine inBN (by decide) ?_)) | refine W_seqS ?_ | refine W_seqC ?_ | refine W_seqB ?_ | refine W_block ?_ | (refine W_skip ?_; repeat (first | refine thenI ?_ | refine thenE ?_ | refine thenR ?_ | refine inBI ?_ | refine inBR ?_ | refine inBS ?_ | refine inBN (by decide) ?_)) | (refine W_condT ?hc ?_; (case hc => (simp (disch := omega) only [go_sem, ↓reduceIte, Nat.reduceEqDiff, Nat.reduceAdd, Nat.reduceLeDiff, q1, q2, q3, q4, hlen, e1, e2, e4, e6, l2, l4, l4', c1]; done))) | (refine W_condF ?hc ?_; (case hc => (simp (disch := omega) only [go_sem, ↓reduceIte, Nat.reduceEqDiff, Nat.reduceAdd, Nat.reduceLeDiff, q1, q2, q3, q4, hlen, e1, e2, e4, e6, l2, l4, l4', c1]; done))))
      refine W_ret ?_; try (repeat (first | refine thenI ?_ | refine thenE ?_ | refine thenR ?_ | refine inBI ?_ | refine inBR ?_ | refine inBS ?_ | refine inBN (by decide) ?_))
      refine finC2 (.inl rfl) (by (simp (disch := omega) only [go_sem, ↓reduceIte, Nat.reduceEqDiff, Nat.reduceAdd, Nat.reduceLeDiff, q1, q2, q3, q4, hlen, e1, e2, e4, e6, l2, l4, l4', c1]); try rfl) (by (simp (disch := omega) only [go_sem, ↓reduceIte, Nat.reduceEqDiff, Nat.reduceAdd, Nat.reduceLeDiff, q1, q2, q3, q4, hlen, e1, e2, e4, e6, l2, l4, l4', c1]); try rfl) rfl ⟨Ext.refl _, [.string ⟨#[]⟩, .slice none 0 0, .string ⟨#[]⟩], [], rfl, ⟨_, rfl, Sl.nil _⟩, .nil _⟩

end

section
/- DrawFindOp, DrawIsBuiltin, the law FnOps. -/
open Go Go.Proofs
set_option linter.unusedVariables false
set_option linter.unusedSimpArgs false
set_option maxRecDepth 100000
-- AUTO

theorem drawIsB_ok (bs : List Byt) (st : St) (s : Value) (hbig : bs.length ≤ 4611686018427387904) (hr : RowY st bs s) : CallS Try.prog 9 [s] st fun r st2 => Ext st st2 ∧ ∃ w, r = .string w := by
  refine CallS_of_W [] 7 Try.func9 rfl rfl rfl rfl (by simp) ?_
  have q1 := hr.notLoc.1
  repeat (first | (refine W_reg rfl fun G K hG hK => ?_; simp (disch := omega) only [go_sem, ↓reduceIte, Nat.reduceEqDiff, Nat.reduceAdd, Nat.reduceLeDiff, hG, q1]; refine hK _ _ ?_; clear hK K hG G) | (refine W_end rfl fun G K hG hK => ?_; simp (disch := omega) only [go_sem, ↓reduceIte, Nat.reduceEqDiff, Nat.reduceAdd, Nat.reduceLeDiff, hG, q1]; refine hK _ _ ?_; clear hK K hG G; repeat (first | refine thenI ?_ | refine thenE ?_ | refine thenR ?_ | refine inBI ?_ | refine inBR ?_ | refine inBS ?_ | refine inBN (by decide) ?_)) | refine W_seqS ?_ | refine W_seqC ?_ | refine W_seqB ?_ | refine W_block ?_ | (refine W_skip ?_; repeat (first | refine thenI ?_ | refine thenE ?_ | refine thenR ?_ | refine inBI ?_ | refine inBR ?_ | refine inBS ?_ | refine inBN (by decide) ?_)) | (refine W_condT ?hc ?_; (case hc => (simp (disch := omega) only [go_sem, ↓reduceIte, Nat.reduceEqDiff, Nat.reduceAdd, Nat.reduceLeDiff, q1]; done))) | (refine W_condF ?hc ?_; (case hc => (simp (disch := omega) only [go_sem, ↓reduceIte, Nat.reduceEqDiff, Nat.reduceAdd, Nat.reduceLeDiff, q1]; done))))
  (repeat (first | refine W_seqS ?_ | refine W_seqC ?_ | refine W_seqB ?_ | refine W_block ?_)); refine W_reg rfl fun G K hG hK => ?_; simp (disch := omega) only [go_sem, ↓reduceIte, Nat.reduceEqDiff, Nat.reduceAdd, Nat.reduceLeDiff, hG, q1]
  refine w_call (l1New_ok bs st s hbig hr) (by simp (disch := omega) only [go_sem, ↓reduceIte, Nat.reduceEqDiff, q1]) ?hl ?_
  case hl => first | rfl | (simp only [go_sem, List.all_cons, List.all_nil, Bool.not_false, Bool.and_self, q1]; done)
  rintro r_ sa ⟨rfl, x1, hc⟩; refine ⟨fun e => (by cases e), ?_⟩
  simp (disch := omega) only [go_sem, ↓reduceIte, Nat.reduceEqDiff, Nat.reduceAdd, Nat.reduceLeDiff, q1, bsL, fillK_cons, fillK_nil, Nat.reduceMul]
  refine w_call (l1Pick_lit st.length bs sa _ _ 5 hc rfl (by simp) (by simp)) (by simp (disch := omega) only [go_sem, ↓reduceIte, Nat.reduceEqDiff, q1]) ?hl ?_
  case hl => first | rfl | (simp only [go_sem, List.all_cons, List.all_nil, Bool.not_false, Bool.and_self, q1]; done)
  rintro r_ sb ⟨⟨w, rfl, hw⟩, hd, hl⟩; refine ⟨fun e => (by cases e), ?_⟩
  simp (disch := omega) only [go_sem, ↓reduceIte, Nat.reduceEqDiff, Nat.reduceAdd, Nat.reduceLeDiff, hG, q1]; refine hK _ _ ?_; clear hK K hG G; repeat (first | refine thenI ?_ | refine thenE ?_ | refine thenR ?_ | refine inBI ?_ | refine inBR ?_ | refine inBS ?_ | refine inBN (by decide) ?_)
  refine W_ret ?_; try (repeat (first | refine thenI ?_ | refine thenE ?_ | refine thenR ?_ | refine inBI ?_ | refine inBR ?_ | refine inBS ?_ | refine inBN (by decide) ?_))
  refine fin1 (.inl rfl) (by (simp (disch := omega) only [go_sem, ↓reduceIte, Nat.reduceEqDiff, Nat.reduceAdd, Nat.reduceLeDiff, q1]); try rfl) rfl ⟨(Drawn.pre (Ext.app _ _) hd).away.ext_of x1 (.inr ⟨_, Nat.le_refl _, rfl⟩), w, rfl⟩
theorem encS_bl {q : Nat} {st : St} {g : Sgn} {s u : Value} (h1 : Rw (bl q st) g.sorts s) (h2 : Rw (bl q st) g.ops u) : EncS st g [s, u] := ⟨s, u, rfl, rwS_ci ci_bl h1, rwO_ci ci_bl h2⟩
theorem drawFindOp_ok (bs : List Byt) (st : St) (s : Value) (hbig : bs.length ≤ 4611686018427387904) (hr : RowY st bs s) : CallS Try.prog 5 [s] st fun r st2 => Ext st st2 ∧ ∃ g ds w, r = .tuple #[.agg ds.toArray, .string w] ∧ EncS st2 g ds ∧ SgP g := by
  refine CallS_of_W [] 12 Try.func5 rfl rfl rfl rfl (by simp) ?_
  have q1 := hr.notLoc.1
  repeat (first | (refine W_reg rfl fun G K hG hK => ?_; simp (disch := omega) only [go_sem, ↓reduceIte, Nat.reduceEqDiff, Nat.reduceAdd, Nat.reduceLeDiff, hG, q1]; refine hK _ _ ?_; clear hK K hG G) | (refine W_end rfl fun G K hG hK => ?_; simp (disch := omega) only [go_sem, ↓reduceIte, Nat.reduceEqDiff, Nat.reduceAdd, Nat.reduceLeDiff, hG, q1]; refine hK _ _ ?_; clear hK K hG G; repeat (first | refine thenI ?_ | refine thenE ?_ | refine thenR ?_ | refine inBI ?_ | refine inBR ?_ | refine inBS ?_ | refine inBN (by decide) ?_)) | refine W_seqS ?_ | refine W_seqC ?_ | refine W_seqB ?_ | refine W_block ?_ | (refine W_skip ?_; repeat (first | refine thenI ?_ | refine thenE ?_ | refine thenR ?_ | refine inBI ?_ | refine inBR ?_ | refine inBS ?_ | refine inBN (by decide) ?_)) | (refine W_condT ?hc ?_; (case hc => (simp (disch := omega) only [go_sem, ↓reduceIte, Nat.reduceEqDiff, Nat.reduceAdd, Nat.reduceLeDiff, q1]; done))) | (refine W_condF ?hc ?_; (case hc => (simp (disch := omega) only [go_sem, ↓reduceIte, Nat.reduceEqDiff, Nat.reduceAdd, Nat.reduceLeDiff, q1]; done))))
  (repeat (first | refine W_seqS ?_ | refine W_seqC ?_ | refine W_seqB ?_ | refine W_block ?_)); refine W_reg rfl fun G K hG hK => ?_; simp (disch := omega) only [go_sem, ↓reduceIte, Nat.reduceEqDiff, Nat.reduceAdd, Nat.reduceLeDiff, hG, q1]
  refine w_call (l1New_ok bs st s hbig hr) (by simp (disch := omega) only [go_sem, ↓reduceIte, Nat.reduceEqDiff, q1]) ?hl ?_
  case hl => first | rfl | (simp only [go_sem, List.all_cons, List.all_nil, Bool.not_false, Bool.and_self, q1]; done)
  rintro r_ sa ⟨rfl, x1, hc⟩; refine ⟨fun e => (by cases e), ?_⟩
  simp (disch := omega) only [go_sem, ↓reduceIte, Nat.reduceEqDiff, Nat.reduceAdd, Nat.reduceLeDiff, hG, q1]; refine hK _ _ ?_; clear hK K hG G; repeat (first | refine thenI ?_ | refine thenE ?_ | refine thenR ?_ | refine inBI ?_ | refine inBR ?_ | refine inBS ?_ | refine inBN (by decide) ?_)
  (repeat (first | refine W_seqS ?_ | refine W_seqC ?_ | refine W_seqB ?_ | refine W_block ?_)); refine W_reg rfl fun G K hG hK => ?_; simp (disch := omega) only [go_sem, ↓reduceIte, Nat.reduceEqDiff, Nat.reduceAdd, Nat.reduceLeDiff, hG, q1]
  refine w_call (l6Bent_ok st.length bs sa hc) (by simp (disch := omega) only [go_sem, ↓reduceIte, Nat.reduceEqDiff, q1]) ?hl ?_
  case hl => first | rfl | (simp only [go_sem, List.all_cons, List.all_nil, Bool.not_false, Bool.and_self, q1]; done)
  rintro r_ sb ⟨hd, g, s1, u1, rfl, hs, hu, hp⟩; refine ⟨fun e => (by cases e), ?_⟩
  have a1 := hs.notLoc.1
  have a2 := hs.notLoc.2
  have a3 := Row.cells1 hs
  have a4 := hu.notLoc.1
  have a5 := hu.notLoc.2
  have a6 := Row.cells1 hu
  simp (disch := omega) only [go_sem, ↓reduceIte, Nat.reduceEqDiff, Nat.reduceAdd, Nat.reduceLeDiff, q1, bsL, fillK_cons, fillK_nil, Nat.reduceMul, a1, a2, a3, a4, a5, a6]
  refine w_call (l1Pick_lit st.length bs sb _ _ 4 hd.cur rfl (by simp) (by simp)) (by simp (disch := omega) only [go_sem, ↓reduceIte, Nat.reduceEqDiff, q1, a1, a2, a3, a4, a5, a6]) ?hl ?_
  case hl => first | rfl | (simp only [go_sem, List.all_cons, List.all_nil, Bool.not_false, Bool.and_self, q1, a1, a2, a3, a4, a5, a6]; done)
  rintro r_ sc ⟨⟨w, rfl, hw⟩, hd2, hl2⟩; refine ⟨fun e => (by cases e), ?_⟩
  have hdp := Drawn.pre (Ext.app sb _) hd2
  simp (disch := omega) only [go_sem, ↓reduceIte, Nat.reduceEqDiff, Nat.reduceAdd, Nat.reduceLeDiff, hG, q1, a1, a2, a3, a4, a5, a6]; refine hK _ _ ?_; clear hK K hG G; repeat (first | refine thenI ?_ | refine thenE ?_ | refine thenR ?_ | refine inBI ?_ | refine inBR ?_ | refine inBS ?_ | refine inBN (by decide) ?_)
  have hx := bl_away hdp.away
  refine W_ret ?_; try (repeat (first | refine thenI ?_ | refine thenE ?_ | refine thenR ?_ | refine inBI ?_ | refine inBR ?_ | refine inBS ?_ | refine inBN (by decide) ?_))
  refine finC2 (.inl rfl) (by (simp (disch := omega) only [go_sem, ↓reduceIte, Nat.reduceEqDiff, Nat.reduceAdd, Nat.reduceLeDiff, q1, a1, a2, a3, a4, a5, a6]); try rfl) (by (simp (disch := omega) only [go_sem, ↓reduceIte, Nat.reduceEqDiff, Nat.reduceAdd, Nat.reduceLeDiff, q1]); try rfl) rfl ⟨(hd.trans hdp).away.ext_of x1 (.inr ⟨_, Nat.le_refl _, rfl⟩), g, [s1, u1], w, rfl, encS_bl (hs.ext hx) (hu.ext hx), hp⟩
theorem SgP.lim {g : Sgn} (h : SgP g) : LimS 1073741824 g := ⟨by have := h.1; omega, by have := h.2.1; omega, fun o ho => by have := h.2.2 o ho; omega⟩
theorem findOp_none (w : ByteArray) : (findOp ⟨[], []⟩ w).2 = isB w := by
  unfold findOp
  cases isB w <;> rfl
set_option maxHeartbeats 1000000 in
theorem wFnOps (st : St) (bs : List Byt) (s : Value) (hr : RowY st bs s) (hN : bs.length ≤ maxLen) : CallS Try.prog 3 [s] st fun r _ => r = .bool true := by
  refine CallS_of_W [] 75 Try.func3 rfl rfl rfl rfl (by simp) ?_
  have q1 := hr.notLoc.1
  have bne1 : ∀ (x y : Operand) (a b : Bool), binE Try.prog .neq 4 x y (.bool a) (.bool b) = some (.bool !(a == b)) := fun x y a b => bin_bneq Try.underlying4
  have beq1 : ∀ (x y : Operand) (a b : Bool), binE Try.prog .eql 4 x y (.bool a) (.bool b) = some (.bool (a == b)) := fun x y a b => bin_beql Try.underlying4
  repeat (first | (refine W_reg rfl fun G K hG hK => ?_; simp (disch := omega) only [go_sem, ↓reduceIte, Nat.reduceEqDiff, Nat.reduceAdd, Nat.reduceLeDiff, hG, q1, bne1, beq1]; refine hK _ _ ?_; clear hK K hG G) | (refine W_end rfl fun G K hG hK => ?_; simp (disch := omega) only [go_sem, ↓reduceIte, Nat.reduceEqDiff, Nat.reduceAdd, Nat.reduceLeDiff, hG, q1, bne1, beq1]; refine hK _ _ ?_; clear hK K hG G; repeat (first | refine thenI ?_ | refine thenE ?_ | refine thenR ?_ | refine inBI ?_ | refine inBR ?_ | refine inBS ?_ | refine inBN (by decide) ?_)) | refine W_seqS ?_ | refine W_seqC ?_ | refine W_seqB ?_ | refine W_block ?_ | (refine W_skip ?_; repeat (first | refine thenI ?_ | refine thenE ?_ | refine thenR ?_ | refine inBI ?_ | refine inBR ?_ | refine inBS ?_ | refine inBN (by decide) ?_)) | (refine W_condT ?hc ?_; (case hc => (simp (disch := omega) only [go_sem, ↓reduceIte, Nat.reduceEqDiff, Nat.reduceAdd, Nat.reduceLeDiff, q1, bne1, beq1]; done))) | (refine W_condF ?hc ?_; (case hc => (simp (disch := omega) only [go_sem, ↓reduceIte, Nat.reduceEqDiff, Nat.reduceAdd, Nat.reduceLeDiff, q1, bne1, beq1]; done))))
  (repeat (first | refine W_seqS ?_ | refine W_seqC ?_ | refine W_seqB ?_ | refine W_block ?_)); refine W_reg rfl fun G K hG hK => ?_; simp (disch := omega) only [go_sem, ↓reduceIte, Nat.reduceEqDiff, Nat.reduceAdd, Nat.reduceLeDiff, hG, q1, bne1, beq1]
  refine w_call (big_ok bs st s hr) (by simp (disch := omega) only [go_sem, ↓reduceIte, Nat.reduceEqDiff, q1, bne1, beq1]) ?hl ?_
  case hl => first | rfl | (simp only [go_sem, List.all_cons, List.all_nil, Bool.not_false, Bool.and_self, q1, bne1, beq1]; done)
  rintro r_ st ⟨rfl, rfl⟩; refine ⟨fun e => (by cases e), ?_⟩
  simp (disch := omega) only [go_sem, ↓reduceIte, Nat.reduceEqDiff, Nat.reduceAdd, Nat.reduceLeDiff, hG, q1, bne1, beq1]; refine hK _ _ ?_; clear hK K hG G; repeat (first | refine thenI ?_ | refine thenE ?_ | refine thenR ?_ | refine inBI ?_ | refine inBR ?_ | refine inBS ?_ | refine inBN (by decide) ?_)
  cases hb : decide ((bs.length : Int) > 1048576) with
  | true =>
    repeat (first | (refine W_reg rfl fun G K hG hK => ?_; simp (disch := omega) only [go_sem, ↓reduceIte, Nat.reduceEqDiff, Nat.reduceAdd, Nat.reduceLeDiff, hG, q1, bne1, beq1]; refine hK _ _ ?_; clear hK K hG G) | (refine W_end rfl fun G K hG hK => ?_; simp (disch := omega) only [go_sem, ↓reduceIte, Nat.reduceEqDiff, Nat.reduceAdd, Nat.reduceLeDiff, hG, q1, bne1, beq1]; refine hK _ _ ?_; clear hK K hG G; repeat (first | refine thenI ?_ | refine thenE ?_ | refine thenR ?_ | refine inBI ?_ | refine inBR ?_ | refine inBS ?_ | refine inBN (by decide) ?_)) | refine W_seqS ?_ | refine W_seqC ?_ | refine W_seqB ?_ | refine W_block ?_ | (refine W_skip ?_; repeat (first | refine thenI ?_ | refine thenE ?_ | refine thenR ?_ | refine inBI ?_ | refine inBR ?_ | refine inBS ?_ | refine inBN (by decide) ?_)) | (refine W_condT ?hc ?_; (case hc => (simp (disch := omega) only [go_sem, ↓reduceIte, Nat.reduceEqDiff, Nat.reduceAdd, Nat.reduceLeDiff, q1, bne1, beq1]; done))) | (refine W_condF ?hc ?_; (case hc => (simp (disch := omega) only [go_sem, ↓reduceIte, Nat.reduceEqDiff, Nat.reduceAdd, Nat.reduceLeDiff, q1, bne1, beq1]; done))))
    refine W_ret ?_; try (repeat (first | refine thenI ?_ | refine thenE ?_ | refine thenR ?_ | refine inBI ?_ | refine inBR ?_ | refine inBS ?_ | refine inBN (by decide) ?_))
    refine fin1 (.inl rfl) (by (simp (disch := omega) only [go_sem, ↓reduceIte, Nat.reduceEqDiff, Nat.reduceAdd, Nat.reduceLeDiff, q1, bne1, beq1]); try rfl) rfl rfl
  | false =>
  have hbig : bs.length ≤ 4611686018427387904 := by simp at hb; omega
  repeat (first | (refine W_reg rfl fun G K hG hK => ?_; simp (disch := omega) only [go_sem, ↓reduceIte, Nat.reduceEqDiff, Nat.reduceAdd, Nat.reduceLeDiff, hG, q1, bne1, beq1]; refine hK _ _ ?_; clear hK K hG G) | (refine W_end rfl fun G K hG hK => ?_; simp (disch := omega) only [go_sem, ↓reduceIte, Nat.reduceEqDiff, Nat.reduceAdd, Nat.reduceLeDiff, hG, q1, bne1, beq1]; refine hK _ _ ?_; clear hK K hG G; repeat (first | refine thenI ?_ | refine thenE ?_ | refine thenR ?_ | refine inBI ?_ | refine inBR ?_ | refine inBS ?_ | refine inBN (by decide) ?_)) | refine W_seqS ?_ | refine W_seqC ?_ | refine W_seqB ?_ | refine W_block ?_ | (refine W_skip ?_; repeat (first | refine thenI ?_ | refine thenE ?_ | refine thenR ?_ | refine inBI ?_ | refine inBR ?_ | refine inBS ?_ | refine inBN (by decide) ?_)) | (refine W_condT ?hc ?_; (case hc => (simp (disch := omega) only [go_sem, ↓reduceIte, Nat.reduceEqDiff, Nat.reduceAdd, Nat.reduceLeDiff, q1, bne1, beq1]; done))) | (refine W_condF ?hc ?_; (case hc => (simp (disch := omega) only [go_sem, ↓reduceIte, Nat.reduceEqDiff, Nat.reduceAdd, Nat.reduceLeDiff, q1, bne1, beq1]; done))))
  (repeat (first | refine W_seqS ?_ | refine W_seqC ?_ | refine W_seqB ?_ | refine W_block ?_)); refine W_reg rfl fun G K hG hK => ?_; simp (disch := omega) only [go_sem, ↓reduceIte, Nat.reduceEqDiff, Nat.reduceAdd, Nat.reduceLeDiff, hG, q1, bne1, beq1]
  refine w_call (drawFindOp_ok bs st s hbig hr) (by simp (disch := omega) only [go_sem, ↓reduceIte, Nat.reduceEqDiff, q1, bne1, beq1]) ?hl ?_
  case hl => first | rfl | (simp only [go_sem, List.all_cons, List.all_nil, Bool.not_false, Bool.and_self, q1, bne1, beq1]; done)
  rintro r_ sa ⟨x1, g, ds, w, rfl, hE, hP⟩; refine ⟨fun e => (by cases e), ?_⟩
  have hl := hP.lim
  obtain ⟨s1, u1, rfl, a1, a2, a3, a4⟩ := hE.arg_cells
  have a5 : vc s1 = #[s1] := by obtain ⟨_, _, e, h1, h2⟩ := hE; cases e; exact Row.cells1 h1
  have a6 : vc u1 = #[u1] := by obtain ⟨_, _, e, h1, h2⟩ := hE; cases e; exact Row.cells1 h2
  simp (disch := omega) only [go_sem, ↓reduceIte, Nat.reduceEqDiff, Nat.reduceAdd, Nat.reduceLeDiff, hG, q1, bne1, beq1, a1, a2, a3, a4, a5, a6]; refine hK _ _ ?_; clear hK K hG G; repeat (first | refine thenI ?_ | refine thenE ?_ | refine thenR ?_ | refine inBI ?_ | refine inBR ?_ | refine inBS ?_ | refine inBN (by decide) ?_)
  (repeat (first | refine W_seqS ?_ | refine W_seqC ?_ | refine W_seqB ?_ | refine W_block ?_)); refine W_reg rfl fun G K hG hK => ?_; simp (disch := omega) only [go_sem, ↓reduceIte, Nat.reduceEqDiff, Nat.reduceAdd, Nat.reduceLeDiff, hG, q1, bne1, beq1, a1, a2, a3, a4, a5, a6]
  refine w_call (implFindOp_ok g w sa _ hl hE) (by simp (disch := omega) only [go_sem, ↓reduceIte, Nat.reduceEqDiff, q1, bne1, beq1, a1, a2, a3, a4, a5, a6]) ?hl ?_
  case hl => first | rfl | (simp only [go_sem, List.all_cons, List.all_nil, Bool.not_false, Bool.and_self, q1, bne1, beq1, a1, a2, a3, a4, a5, a6]; done)
  rintro r_ sb ⟨x2, es, L2, rfl, ho2, hf2⟩; refine ⟨fun e => (by cases e), ?_⟩
  obtain ⟨n2, s2, m2, rfl, b1, b2, b3⟩ := ho2.args_cells
  simp (disch := omega) only [go_sem, ↓reduceIte, Nat.reduceEqDiff, Nat.reduceAdd, Nat.reduceLeDiff, hG, q1, bne1, beq1, a1, a2, a3, a4, a5, a6, b1, b2, b3]; refine hK _ _ ?_; clear hK K hG G; repeat (first | refine thenI ?_ | refine thenE ?_ | refine thenR ?_ | refine inBI ?_ | refine inBR ?_ | refine inBS ?_ | refine inBN (by decide) ?_)
  (repeat (first | refine W_seqS ?_ | refine W_seqC ?_ | refine W_seqB ?_ | refine W_block ?_)); refine W_reg rfl fun G K hG hK => ?_; simp (disch := omega) only [go_sem, ↓reduceIte, Nat.reduceEqDiff, Nat.reduceAdd, Nat.reduceLeDiff, hG, q1, bne1, beq1, a1, a2, a3, a4, a5, a6, b1, b2, b3]
  refine w_call (specFindOp_ok g w sb _ hl (hE.ext x2)) (by simp (disch := omega) only [go_sem, ↓reduceIte, Nat.reduceEqDiff, q1, bne1, beq1, a1, a2, a3, a4, a5, a6, b1, b2, b3]) ?hl ?_
  case hl => first | rfl | (simp only [go_sem, List.all_cons, List.all_nil, Bool.not_false, Bool.and_self, q1, bne1, beq1, a1, a2, a3, a4, a5, a6, b1, b2, b3]; done)
  rintro r_ sc ⟨x3, fs, L3, rfl, ho3, hf3⟩; refine ⟨fun e => (by cases e), ?_⟩
  obtain ⟨n3, s3, m3, rfl, d1, d2, d3⟩ := ho3.args_cells
  simp (disch := omega) only [go_sem, ↓reduceIte, Nat.reduceEqDiff, Nat.reduceAdd, Nat.reduceLeDiff, hG, q1, bne1, beq1, a1, a2, a3, a4, a5, a6, b1, b2, b3, d1, d2, d3]; refine hK _ _ ?_; clear hK K hG G; repeat (first | refine thenI ?_ | refine thenE ?_ | refine thenR ?_ | refine inBI ?_ | refine inBR ?_ | refine inBS ?_ | refine inBN (by decide) ?_)
  have hr3 : RowY sc bs s := hr.ext ((x1.trans x2).trans x3)
  have ho2' := ho2.ext x3
  have hal : (findOp g w).1.args.length ≤ 1073741824 := findOp_len g w _ (by omega) fun o ho => hl.2.2 o ho
  have e1 : n2 = (findOp g w).1.nm ∧ m2 = (findOp g w).1.res ∧ Rw sc (findOp g w).1.args s2 := by
    obtain ⟨z, he, hz⟩ := ho2'
    simp only [List.cons.injEq, Value.string.injEq, and_true] at he
    obtain ⟨rfl, rfl, rfl⟩ := he
    exact ⟨rfl, rfl, hz.row⟩
  have e3 : n3 = (findOp g w).1.nm ∧ m3 = (findOp g w).1.res ∧ Rw sc (findOp g w).1.args s3 := by
    obtain ⟨z, he, hz⟩ := ho3
    simp only [List.cons.injEq, Value.string.injEq, and_true] at he
    obtain ⟨rfl, rfl, rfl⟩ := he
    exact ⟨rfl, rfl, hz.row⟩
  obtain ⟨rfl, rfl, hA2⟩ := e1
  obtain ⟨rfl, rfl, hA3⟩ := e3
  have f2 : (!((findOp g w).2 == (findOp g w).2)) = false := by simp
  (repeat (first | refine W_seqS ?_ | refine W_seqC ?_ | refine W_seqB ?_ | refine W_block ?_)); refine W_reg rfl fun G K hG hK => ?_; simp (disch := omega) only [go_sem, ↓reduceIte, Nat.reduceEqDiff, Nat.reduceAdd, Nat.reduceLeDiff, hG, q1, bne1, beq1, a1, a2, a3, a4, a5, a6, b1, b2, b3, d1, d2, d3, f2]
  refine w_call (sameTexts_ok (findOp g w).1.args sc s2 s3 (by omega) hA2 hA3) (by simp (disch := omega) only [go_sem, ↓reduceIte, Nat.reduceEqDiff, q1, bne1, beq1, a1, a2, a3, a4, a5, a6, b1, b2, b3, d1, d2, d3]) ?hl ?_
  case hl => first | rfl | (simp only [go_sem, List.all_cons, List.all_nil, Bool.not_false, Bool.and_self, q1, bne1, beq1, a1, a2, a3, a4, a5, a6, b1, b2, b3, d1, d2, d3]; done)
  rintro r_ sc ⟨rfl, rfl⟩; refine ⟨fun e => (by cases e), ?_⟩
  simp (disch := omega) only [go_sem, ↓reduceIte, Nat.reduceEqDiff, Nat.reduceAdd, Nat.reduceLeDiff, hG, q1, bne1, beq1, a1, a2, a3, a4, a5, a6, b1, b2, b3, d1, d2, d3, f2]; refine hK _ _ ?_; clear hK K hG G; repeat (first | refine thenI ?_ | refine thenE ?_ | refine thenR ?_ | refine inBI ?_ | refine inBR ?_ | refine inBS ?_ | refine inBN (by decide) ?_)
  repeat (first | (refine W_reg rfl fun G K hG hK => ?_; simp (disch := omega) only [go_sem, ↓reduceIte, Nat.reduceEqDiff, Nat.reduceAdd, Nat.reduceLeDiff, hG, q1, bne1, beq1, a1, a2, a3, a4, a5, a6, b1, b2, b3, d1, d2, d3]; refine hK _ _ ?_; clear hK K hG G) | (refine W_end rfl fun G K hG hK => ?_; simp (disch := omega) only [go_sem, ↓reduceIte, Nat.reduceEqDiff, Nat.reduceAdd, Nat.reduceLeDiff, hG, q1, bne1, beq1, a1, a2, a3, a4, a5, a6, b1, b2, b3, d1, d2, d3]; refine hK _ _ ?_; clear hK K hG G; repeat (first | refine thenI ?_ | refine thenE ?_ | refine thenR ?_ | refine inBI ?_ | refine inBR ?_ | refine inBS ?_ | refine inBN (by decide) ?_)) | refine W_seqS ?_ | refine W_seqC ?_ | refine W_seqB ?_ | refine W_block ?_ | (refine W_skip ?_; repeat (first | refine thenI ?_ | refine thenE ?_ | refine thenR ?_ | refine inBI ?_ | refine inBR ?_ | refine inBS ?_ | refine inBN (by decide) ?_)) | (refine W_condT ?hc ?_; (case hc => (simp (disch := omega) only [go_sem, ↓reduceIte, Nat.reduceEqDiff, Nat.reduceAdd, Nat.reduceLeDiff, q1, bne1, beq1, a1, a2, a3, a4, a5, a6, b1, b2, b3, d1, d2, d3]; done))) | (refine W_condF ?hc ?_; (case hc => (simp (disch := omega) only [go_sem, ↓reduceIte, Nat.reduceEqDiff, Nat.reduceAdd, Nat.reduceLeDiff, q1, bne1, beq1, a1, a2, a3, a4, a5, a6, b1, b2, b3, d1, d2, d3]; done))))
  (repeat (first | refine W_seqS ?_ | refine W_seqC ?_ | refine W_seqB ?_ | refine W_block ?_)); refine W_reg rfl fun G K hG hK => ?_; simp (disch := omega) only [go_sem, ↓reduceIte, Nat.reduceEqDiff, Nat.reduceAdd, Nat.reduceLeDiff, hG, q1, bne1, beq1, a1, a2, a3, a4, a5, a6, b1, b2, b3, d1, d2, d3]
  refine w_call (drawIsB_ok bs sc s hbig hr3) (by simp (disch := omega) only [go_sem, ↓reduceIte, Nat.reduceEqDiff, q1, bne1, beq1, a1, a2, a3, a4, a5, a6, b1, b2, b3, d1, d2, d3]) ?hl ?_
  case hl => first | rfl | (simp only [go_sem, List.all_cons, List.all_nil, Bool.not_false, Bool.and_self, q1, bne1, beq1, a1, a2, a3, a4, a5, a6, b1, b2, b3, d1, d2, d3]; done)
  rintro r_ sd ⟨x4, w2, rfl⟩; refine ⟨fun e => (by cases e), ?_⟩
  simp (disch := omega) only [go_sem, ↓reduceIte, Nat.reduceEqDiff, Nat.reduceAdd, Nat.reduceLeDiff, hG, q1, bne1, beq1, a1, a2, a3, a4, a5, a6, b1, b2, b3, d1, d2, d3]; refine hK _ _ ?_; clear hK K hG G; repeat (first | refine thenI ?_ | refine thenE ?_ | refine thenR ?_ | refine inBI ?_ | refine inBR ?_ | refine inBS ?_ | refine inBN (by decide) ?_)
  (repeat (first | refine W_seqS ?_ | refine W_seqC ?_ | refine W_seqB ?_ | refine W_block ?_)); refine W_reg rfl fun G K hG hK => ?_; simp (disch := omega) only [go_sem, ↓reduceIte, Nat.reduceEqDiff, Nat.reduceAdd, Nat.reduceLeDiff, hG, q1, bne1, beq1, a1, a2, a3, a4, a5, a6, b1, b2, b3, d1, d2, d3]
  refine w_call (implFindOp_ok ⟨[], []⟩ w2 sd [.slice none 0 0, .slice none 0 0] ⟨by simp, by simp, fun o ho => by cases ho⟩ ⟨_, _, rfl, .inl ⟨.inl rfl, rfl⟩, .inl ⟨.inl rfl, rfl⟩⟩) (by simp (disch := omega) only [go_sem, ↓reduceIte, Nat.reduceEqDiff, q1, bne1, beq1, a1, a2, a3, a4, a5, a6, b1, b2, b3, d1, d2, d3]) ?hl ?_
  case hl => first | rfl | (simp only [go_sem, List.all_cons, List.all_nil, Bool.not_false, Bool.and_self, q1, bne1, beq1, a1, a2, a3, a4, a5, a6, b1, b2, b3, d1, d2, d3]; done)
  rintro r_ se ⟨x5, hs, L5, rfl, ho5, hf5⟩; refine ⟨fun e => (by cases e), ?_⟩
  obtain ⟨n5, s5, m5, rfl, g1, g2, g3⟩ := ho5.args_cells
  simp (disch := omega) only [go_sem, ↓reduceIte, Nat.reduceEqDiff, Nat.reduceAdd, Nat.reduceLeDiff, hG, q1, bne1, beq1, a1, a2, a3, a4, a5, a6, b1, b2, b3, d1, d2, d3, g1, g2, g3]; refine hK _ _ ?_; clear hK K hG G; repeat (first | refine thenI ?_ | refine thenE ?_ | refine thenR ?_ | refine inBI ?_ | refine inBR ?_ | refine inBS ?_ | refine inBN (by decide) ?_)
  rw [findOp_none]
  (repeat (first | refine W_seqS ?_ | refine W_seqC ?_ | refine W_seqB ?_ | refine W_block ?_)); refine W_reg rfl fun G K hG hK => ?_; simp (disch := omega) only [go_sem, ↓reduceIte, Nat.reduceEqDiff, Nat.reduceAdd, Nat.reduceLeDiff, hG, q1, bne1, beq1, a1, a2, a3, a4, a5, a6, b1, b2, b3, d1, d2, d3]
  refine w_call (implIsB_ok w2 se) (by simp (disch := omega) only [go_sem, ↓reduceIte, Nat.reduceEqDiff, q1, bne1, beq1, a1, a2, a3, a4, a5, a6, b1, b2, b3, d1, d2, d3]) ?hl ?_
  case hl => first | rfl | (simp only [go_sem, List.all_cons, List.all_nil, Bool.not_false, Bool.and_self, q1, bne1, beq1, a1, a2, a3, a4, a5, a6, b1, b2, b3, d1, d2, d3]; done)
  rintro r_ se ⟨rfl, rfl⟩; refine ⟨fun e => (by cases e), ?_⟩
  have f3 : (isB w2 == isB w2) = true := by simp
  simp (disch := omega) only [go_sem, ↓reduceIte, Nat.reduceEqDiff, Nat.reduceAdd, Nat.reduceLeDiff, q1, bne1, beq1, a1, a2, a3, a4, a5, a6, b1, b2, b3, d1, d2, d3, f3, hG]
  refine w_call (implIsB_ok w2 se) (by simp (disch := omega) only [go_sem, ↓reduceIte, Nat.reduceEqDiff, q1, bne1, beq1, a1, a2, a3, a4, a5, a6, b1, b2, b3, d1, d2, d3, f3]) ?hl ?_
  case hl => first | rfl | (simp only [go_sem, List.all_cons, List.all_nil, Bool.not_false, Bool.and_self, q1, bne1, beq1, a1, a2, a3, a4, a5, a6, b1, b2, b3, d1, d2, d3, f3]; done)
  rintro r_ se ⟨rfl, rfl⟩; refine ⟨fun e => (by cases e), ?_⟩
  simp (disch := omega) only [go_sem, ↓reduceIte, Nat.reduceEqDiff, Nat.reduceAdd, Nat.reduceLeDiff, q1, bne1, beq1, a1, a2, a3, a4, a5, a6, b1, b2, b3, d1, d2, d3, f3, hG]
  refine w_call (specIsB_ok w2 se) (by simp (disch := omega) only [go_sem, ↓reduceIte, Nat.reduceEqDiff, q1, bne1, beq1, a1, a2, a3, a4, a5, a6, b1, b2, b3, d1, d2, d3, f3]) ?hl ?_
  case hl => first | rfl | (simp only [go_sem, List.all_cons, List.all_nil, Bool.not_false, Bool.and_self, q1, bne1, beq1, a1, a2, a3, a4, a5, a6, b1, b2, b3, d1, d2, d3, f3]; done)
  rintro r_ se ⟨rfl, rfl⟩; refine ⟨fun e => (by cases e), ?_⟩
  simp (disch := omega) only [go_sem, ↓reduceIte, Nat.reduceEqDiff, Nat.reduceAdd, Nat.reduceLeDiff, hG, q1, bne1, beq1, a1, a2, a3, a4, a5, a6, b1, b2, b3, d1, d2, d3, f3]; refine hK _ _ ?_; clear hK K hG G; repeat (first | refine thenI ?_ | refine thenE ?_ | refine thenR ?_ | refine inBI ?_ | refine inBR ?_ | refine inBS ?_ | refine inBN (by decide) ?_)
  refine W_ret ?_; try (repeat (first | refine thenI ?_ | refine thenE ?_ | refine thenR ?_ | refine inBI ?_ | refine inBR ?_ | refine inBS ?_ | refine inBN (by decide) ?_))
  refine fin1 (.inl rfl) (by (simp (disch := omega) only [go_sem, ↓reduceIte, Nat.reduceEqDiff, Nat.reduceAdd, Nat.reduceLeDiff, q1, bne1, beq1, a1, a2, a3, a4, a5, a6, b1, b2, b3, d1, d2, d3, f3]); try rfl) rfl rfl

end

end Go.Proofs.Ytldnihpkiacgfaa.AM
/- Arguments: rows of bytes. -/
namespace Go.Proofs.Ytldnihpkiacgfaa.AM
open Go Go.Proofs
set_option linter.unusedVariables false
theorem open_bytes {H : Type} {enc : TypeId × Value → H} {w : World} (fuel : Nat) (cs : List Value) (x : DataW H × List MemPlace) (h : DataW.trod enc Try.prog w 0 (fun _ => true) true fuel 22 cs = some x) :
    ∃ s, ∃ xs : List Byt, cs = [s] ∧ Told w s ∧ RowY (absS w) xs (absV w.heap.size s) ∧ xs.length ≤ maxLen ∧ ∀ z ∈ xs, (Lit.int .u8 z.v).wf = true :=
  open_rowA (E := EncY (absS w)) (G := fun z : Byt => (Lit.int .u8 z.v).wf = true) (sz := 1) Try.underlying22 (by kernel_rfl) (by omega) h fun n_ cs_ y_ hn_ hy_ => by
    obtain ⟨z, rfl, hw⟩ := toldA_int Try.underlying5 hy_
    exact ⟨⟨z⟩, rfl, hw, fun c hc => by cases List.mem_singleton.1 hc; rfl⟩
end Go.Proofs.Ytldnihpkiacgfaa.AM


/- The law FnOps, for every input: it returns true; the input reads as it did. -/
namespace Go.Proofs.Ytldnihpkiacgfaa.fnOps
open Go Go.Proofs Go.ChangeShapes Go.WideShapes Go.ChangeAt Go.RowKit Go.Proofs.Ytldnihpkiacgfaa.AM
open Go.ChangeMaps (open_string shut_string)
set_option linter.unusedVariables false
set_option linter.unusedSimpArgs false
theorem own : ownKnob Try.prog.godebug = none := by kernel_rfl
theorem laidOut : laidOutB Try.prog = true := by kernel_rfl
set_option maxRecDepth 100000 in
theorem lifted (os : Os) (started : os.Started) (H : Type) (enc : TypeId × Value → H) :
    ReturnsInHanded {} Try.checked os 3 .any (Rows.fnOpsSpec.pre6 enc Try.prog Try.f3 Rows.fnOpsRow.domain false) (Rows.fnOpsSpec.post enc Try.prog Try.f3 false true false false) := by
  refine returnsInHanded_of_change_sized (C := Try.checked) own started (by kernel_rfl) Try.func3
    (ChangeSpec.witness6 (enc := enc) (C := Try.checked) false ⟨#[], #[.slice none 0 0], []⟩ 8 (by kernel_rfl) (by kernel_rfl) (by kernel_rfl) (by kernel_rfl)) ?_
  intro W base args ds gs before hval0 hW hcnd hsz0 _
  have hval : ∀ (j : Nat) t v, Try.f3.params[j]? = some t → args[j]? = some v → Value.okWide Try.prog W .any base t v := hval0
  have hW' := hW
  obtain ⟨p, q, hA0, hV, rfl, hfz, hnd⟩ := hW
  have hA : DataW.TrodAll enc Try.prog W 0 (fun _ => true) true Try.f3.params.toList args.toList ds p := hA0
  rw [Try.params3] at hA hval
  obtain ⟨v0, vs0, d0, ds0, p0, q0, hargs, rfl, rfl, h0, r0⟩ := trodAll_cons hA
  obtain ⟨rfl, rfl, rfl⟩ := trodAll_nil r0
  obtain rfl : args = #[v0] := by cases args; simp_all
  obtain ⟨rfl, rfl⟩ := trodVars_none hV
  have k0 := h0
  have lt0 : ∀ x ∈ p0, x.block < W.heap.size := by obtain ⟨m, hm⟩ := k0; exact DataW.trod_lt m _ _ _ hm
  obtain ⟨ad0, len0, cap0, rfl⟩ := okWide_slice Try.underlying22 (hval 0 22 v0 rfl rfl)
  obtain ⟨fuel0, hf0⟩ := h0
  obtain ⟨s0, xs0, hs0, T0, R0, N0, G0⟩ := open_bytes fuel0 _ _ hf0
  obtain rfl : _ = s0 := (List.cons.inj hs0).1
  have hc := wFnOps (absS W) xs0 _ R0 N0
  clear hA0 hval0 hcnd hsz0 hval hA
  refine (hc.enters (noTab (by decide +kernel) (by decide +kernel) (by decide +kernel)) (.cons _ _ _ _ (.inl ⟨T0, rfl⟩) .nil)).mono fun e W' ⟨he, bel⟩ => ?_
  subst he
  exact ⟨_, rfl, _, _, _, [], _, [], hW', trodAll_mk1 (shut_bool Try.underlying4 _), (trodAll_cons_mk (Below.trod laidOut (by kernel_rfl) (of_decide_eq_true (by kernel_rfl)) k0 bel lt0) trodAll_mk0), rfl, bel.frame _, fun h => by cases h⟩
theorem over : Rows.fnOpsRow.holds Try.pinned (OpenSpec.ofChange Rows.fnOpsSpec) :=
  OpenClaim.holds_of_wide 3 Try.f3 rfl rfl rfl rfl rfl rfl rfl ⟨rfl, rfl, rfl, rfl, rfl⟩ rfl rfl rfl rfl rfl (by kernel_rfl) Try.func3 (by kernel_rfl)
    (of_decide_eq_true (by kernel_rfl)) (by unfold Func.isWrapper; first | (rw [if_pos (by decide +kernel)]; kernel_rfl) | (rw [if_neg (by decide +kernel)]; exact ⟨rfl, rfl⟩))
    (fun os started H enc _ => lifted os started H enc)
theorem proved : Rows.FnOpsSaid := over
end Go.Proofs.Ytldnihpkiacgfaa.fnOps
namespace Go.Proofs.Ytldnihpkiacgfaa
/-- The row, under a short name, for the claim. -/
theorem fnOps_holds : Rows.FnOpsSaid := fnOps.proved
end Go.Proofs.Ytldnihpkiacgfaa

