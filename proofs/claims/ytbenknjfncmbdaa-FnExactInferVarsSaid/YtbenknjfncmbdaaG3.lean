/- My texts for the law, laid together (part 3): C23 K8 PL8 Q3 A19 C4 C1 PL3 Q5 Q6 PL1 O1 O2. -/
import Derived.Test.YtbenknjfncmbdaaG2
import Derived.Test.YtbenknjfncmbdaaA18
import Derived.Sort.Walk0
import Derived.Lib.Strings
/- Operations are found: impl.copyOp, impl.FindOp, spec.FindOp. -/
namespace Go.Proofs.Ytbenknjfncmbdaa.AM
open Go Go.Proofs
set_option linter.unusedVariables false
set_option linter.unusedSimpArgs false
set_option maxRecDepth 100000
attribute [local go_sem] List.map_cons List.map_nil List.all_cons List.all_nil Bool.and_self Option.map_some List.getElem?_toArray Option.bind_some gye_b gye_t gsk_b gsk_t gb1 gb2 gb3 gb4 bne_self_eq_false beq_self_eq_true w_guard w_nil stepV_some step_some step_some' w_move w_assign w_pick w_binOp w_unOp w_load w_fieldAddr w_indexAddr w_len w_max w_index ev_max max_int ev_index w_box w_alloc w_store w_field w_extract w_nilCheck w_convert w_buildSlice w_build ev_buildL fillL_nil fillL_cons bs0 bs1 ev_conv ev_bin ev_un ev_pick ev_load ev_fieldAddr ev_indexAddr ev_len ev_field ev_extract ev_nilCheck fr_tmp fr_int fr_bool fr_str fr_nil fr_func put_some put_none bin_lss bin_leq bin_gtr bin_geq bin_eql bin_neq bin_add bin_sub bin_mul bin_seql bin_sneq un_not pick_ ext_ loadA_p cellAt_l cellAt_h okPtr_l okPtr_h fadA_p allocA_l storeA_l cells_agg cells_int cells_str cells_sl cells_bool flat_i flat_s flat_b flat_sl flat_nil loc_agg loc_int loc_str loc_sl loc_bool loc_fn loc_ptr okv_agg okv_int okv_str okv_sl okv_bool cellsFrom splice upd_eval argEnv_zero argEnv_succ ne_eq Nat.add_one_ne_zero not_false_eq_true List.not_mem_nil and_self decide_true List.getElem?_cons_zero List.getElem?_cons_succ List.size_toArray List.length_cons List.length_nil List.take_succ_cons List.take_zero List.drop_succ_cons List.drop_zero List.cons_append List.nil_append List.drop_nil Bool.not_true Bool.not_false Bool.false_eq_true Nat.zero_add Nat.add_zero wrap_in List.toList_toArray List.mem_cons or_self or_false false_or
attribute [local go_sem] ag22 ag23 ag25 ag26 ag28 ag3 ag34 ag36 ag38 ag40 ag59 ag68 ag69 ag9 bu59 bu69 by40 by59 by69 by9 el22 el23 el26 el31 el34 el38 el75 of25_0 of25_1 of28_0 of28_1 of28_2 of28_3 of36_0 of36_1 of40_0 of40_1 of40_2 of40_3 of59_0 of59_1 of68_0 of68_1 of68_2 of69_0 of69_1 of69_2 ro5_1 ro59_0 ro59_1 ro9_0 ro9_2 sz22 sz23 sz25 sz26 sz28 sz3 sz34 sz36 sz38 sz40 sz5 sz59 sz68 sz69 sz9 ze36 ze40 ze59 ze69 ze9
-- AUTO

def wordB : ByteArray := ⟨#[119, 111, 114, 100]⟩
def Opr.zero : Opr := ⟨⟨#[]⟩, [], ⟨#[]⟩⟩
def findOp (g : Sgn) (nm : ByteArray) : Opr × Bool := if isB nm then (⟨nm, [wordB, wordB], wordB⟩, true) else match g.ops.find? fun o => o.nm.toList == nm.toList with
  | some o => (o, true)
  | none => (Opr.zero, false)
theorem findOp_len (g : Sgn) (nm : ByteArray) (B : Nat) (h2 : 2 ≤ B) (h : ∀ o ∈ g.ops, o.args.length ≤ B) : (findOp g nm).1.args.length ≤ B := by
  unfold findOp
  split
  · exact h2
  · split
    · rename_i o ho
      exact h o (List.mem_of_find?_eq_some ho)
    · exact Nat.zero_le _
theorem own_word2 {st : St} : Sl (st ++ [(⟨[.string wordB, .string wordB], 9, 0⟩ : Blk)]) [wordB, wordB] (.slice (some ⟨st.length, 0, none⟩) 2 2) [st.length] :=
  .inr ⟨st.length, 2, [.string wordB, .string wordB], [], rfl, by rw [List.getElem?_append_right (Nat.le_refl _), Nat.sub_self]; rfl, .cons wordB _ [.string wordB] _ [] [] ⟨rfl, rfl⟩ (.cons wordB _ [.string wordB] _ [] [] ⟨rfl, rfl⟩ .nil), rfl⟩
theorem copyOp_ok (b : Opr) (st : St) (cs : List Value) (hl : b.args.length ≤ 1073741824) (h : EncO st b cs) :
    CallS Try.prog 43 [.agg cs.toArray] st fun r st2 => Ext st st2 ∧ ∃ ds L, r = .agg ds.toArray ∧ OwnO st2 b ds L ∧ Fresh st.length L := by
  refine CallS_of_W [] 11 Try.func43 rfl rfl rfl rfl (by simp) ?_
  obtain ⟨s, rfl, hr⟩ := h
  have n1 := hr.notLoc.1
  have n2 := hr.notLoc.2
  repeat (first | (refine W_reg rfl fun G K hG hK => ?_; simp (disch := omega) only [go_sem, ↓reduceIte, Nat.reduceEqDiff, Nat.reduceAdd, Nat.reduceLeDiff, hG, n1, n2]; refine hK _ _ ?_; clear hK K hG G) | (refine W_end rfl fun G K hG hK => ?_; simp (disch := omega) only [go_sem, ↓reduceIte, Nat.reduceEqDiff, Nat.reduceAdd, Nat.reduceLeDiff, hG, n1, n2]; refine hK _ _ ?_; clear hK K hG G; repeat (first | refine thenI ?_ | refine thenE ?_ | refine thenR ?_ | refine inBI ?_ | refine inBR ?_ | refine inBS ?_ | refine inBN (by decide) ?_)) | refine W_seqS ?_ | refine W_seqC ?_ | refine W_seqB ?_ | refine W_block ?_ | (refine W_skip ?_; repeat (first | refine thenI ?_ | refine thenE ?_ | refine thenR ?_ | refine inBI ?_ | refine inBR ?_ | refine inBS ?_ | refine inBN (by decide) ?_)) | (refine W_condT ?hc ?_; (case hc => (simp (disch := omega) only [go_sem, ↓reduceIte, Nat.reduceEqDiff, Nat.reduceAdd, Nat.reduceLeDiff, n1, n2]; done))) | (refine W_condF ?hc ?_; (case hc => (simp (disch := omega) only [go_sem, ↓reduceIte, Nat.reduceEqDiff, Nat.reduceAdd, Nat.reduceLeDiff, n1, n2]; done))))
  (repeat (first | refine W_seqS ?_ | refine W_seqC ?_ | refine W_seqB ?_ | refine W_block ?_)); refine W_regD mixed [] [(0,false),(1,false),(2,false),(3,false),(5,false),(6,false),(4,true),(7,false),(8,false)] rfl (by decide +kernel) fun G K hG hK => ?_; simp only [pickOps, List.filterMap_cons, List.filterMap_nil, List.getElem?_cons_zero, List.getElem?_cons_succ, Option.map_some]; simp (disch := omega) only [go_sem, ↓reduceIte, Nat.reduceEqDiff, Nat.reduceAdd, Nat.reduceLeDiff, hG, n1, n2]
  refine w_call (cloneS_ok b.args st s (by omega) hr) (by simp (disch := omega) only [go_sem, ↓reduceIte, Nat.reduceEqDiff, n1, n2]) ?hl ?_
  case hl => first | rfl | (simp only [go_sem, List.all_cons, List.all_nil, Bool.not_false, Bool.and_self, n1, n2]; done)
  rintro rv sa ⟨hx, L, ho, hf⟩; refine ⟨fun e => hx, ?_⟩
  have a1 := ho.okv
  have a2 := ho.loc
  have a3 := ho.cells
  simp (disch := omega) only [go_sem, ↓reduceIte, Nat.reduceEqDiff, Nat.reduceAdd, Nat.reduceLeDiff, hG, n1, n2, a1, a2, a3]; refine hK _ _ ?_; clear hK K hG G; repeat (first | refine thenI ?_ | refine thenE ?_ | refine thenR ?_ | refine inBI ?_ | refine inBR ?_ | refine inBS ?_ | refine inBN (by decide) ?_)
  refine W_ret ?_; try (repeat (first | refine thenI ?_ | refine thenE ?_ | refine thenR ?_ | refine inBI ?_ | refine inBR ?_ | refine inBS ?_ | refine inBN (by decide) ?_))
  refine finC (.inl rfl) (by (simp (disch := omega) only [go_sem, ↓reduceIte, Nat.reduceEqDiff, Nat.reduceAdd, Nat.reduceLeDiff, n1, n2, a1, a2, a3]); try rfl) ⟨hx, [.string b.nm, rv, .string b.res], L, rfl, ⟨_, rfl, ho⟩, hf⟩
theorem implFindOp_ok (g : Sgn) (nm : ByteArray) (st : St) (cs : List Value) (hl : LimS 1073741824 g) (hE : EncS st g cs) :
    CallS Try.prog 39 [.agg cs.toArray, .string nm] st fun r st2 => Ext st st2 ∧ ∃ ds L, r = .tuple #[.agg ds.toArray, .bool (findOp g nm).2] ∧ OwnO st2 (findOp g nm).1 ds L ∧ Fresh st.length L := by
  refine CallS_of_W [] 28 Try.func39 rfl rfl rfl rfl (by simp) ?_
  obtain ⟨s, u, rfl, hs, hu⟩ := hE
  have q1 := hs.notLoc.1
  have q2 := hs.notLoc.2
  have q3 := hu.notLoc.1
  have q4 := hu.notLoc.2
  have hlen : lenE Try.prog 34 u = some (.int .i64 g.ops.length) := row_len hu Try.underlying34
  have hg2 := hl.2.1
  repeat (first | (refine W_reg rfl fun G K hG hK => ?_; simp (disch := omega) only [go_sem, ↓reduceIte, Nat.reduceEqDiff, Nat.reduceAdd, Nat.reduceLeDiff, hG, q1, q2, q3, q4, hlen]; refine hK _ _ ?_; clear hK K hG G) | (refine W_end rfl fun G K hG hK => ?_; simp (disch := omega) only [go_sem, ↓reduceIte, Nat.reduceEqDiff, Nat.reduceAdd, Nat.reduceLeDiff, hG, q1, q2, q3, q4, hlen]; refine hK _ _ ?_; clear hK K hG G; repeat (first | refine thenI ?_ | refine thenE ?_ | refine thenR ?_ | refine inBI ?_ | refine inBR ?_ | refine inBS ?_ | refine inBN (by decide) ?_)) | refine W_seqS ?_ | refine W_seqC ?_ | refine W_seqB ?_ | refine W_block ?_ | (refine W_skip ?_; repeat (first | refine thenI ?_ | refine thenE ?_ | refine thenR ?_ | refine inBI ?_ | refine inBR ?_ | refine inBS ?_ | refine inBN (by decide) ?_)) | (refine W_condT ?hc ?_; (case hc => (simp (disch := omega) only [go_sem, ↓reduceIte, Nat.reduceEqDiff, Nat.reduceAdd, Nat.reduceLeDiff, q1, q2, q3, q4, hlen]; done))) | (refine W_condF ?hc ?_; (case hc => (simp (disch := omega) only [go_sem, ↓reduceIte, Nat.reduceEqDiff, Nat.reduceAdd, Nat.reduceLeDiff, q1, q2, q3, q4, hlen]; done))))
  (repeat (first | refine W_seqS ?_ | refine W_seqC ?_ | refine W_seqB ?_ | refine W_block ?_)); refine W_reg rfl fun G K hG hK => ?_; simp (disch := omega) only [go_sem, ↓reduceIte, Nat.reduceEqDiff, Nat.reduceAdd, Nat.reduceLeDiff, hG, q1, q2, q3, q4, hlen]
  refine w_call (implIsB_ok nm st) (by simp (disch := omega) only [go_sem, ↓reduceIte, Nat.reduceEqDiff, q1, q2, q3, q4, hlen]) ?hl ?_
  case hl => first | rfl | (simp only [go_sem, List.all_cons, List.all_nil, Bool.not_false, Bool.and_self, q1, q2, q3, q4, hlen]; done)
  rintro r_ st ⟨rfl, rfl⟩; refine ⟨fun e => (by cases e), ?_⟩
  simp (disch := omega) only [go_sem, ↓reduceIte, Nat.reduceEqDiff, Nat.reduceAdd, Nat.reduceLeDiff, hG, q1, q2, q3, q4, hlen]; refine hK _ _ ?_; clear hK K hG G; repeat (first | refine thenI ?_ | refine thenE ?_ | refine thenR ?_ | refine inBI ?_ | refine inBR ?_ | refine inBS ?_ | refine inBN (by decide) ?_)
  cases hb : isB nm with
  | true =>
    have hf : findOp g nm = (⟨nm, [wordB, wordB], wordB⟩, true) := by unfold findOp; rw [hb]; rfl
    rw [hf]
    repeat (first | (refine W_reg rfl fun G K hG hK => ?_; simp (disch := omega) only [go_sem, ↓reduceIte, Nat.reduceEqDiff, Nat.reduceAdd, Nat.reduceLeDiff, hG, q1, q2, q3, q4, hlen]; refine hK _ _ ?_; clear hK K hG G) | (refine W_end rfl fun G K hG hK => ?_; simp (disch := omega) only [go_sem, ↓reduceIte, Nat.reduceEqDiff, Nat.reduceAdd, Nat.reduceLeDiff, hG, q1, q2, q3, q4, hlen]; refine hK _ _ ?_; clear hK K hG G; repeat (first | refine thenI ?_ | refine thenE ?_ | refine thenR ?_ | refine inBI ?_ | refine inBR ?_ | refine inBS ?_ | refine inBN (by decide) ?_)) | refine W_seqS ?_ | refine W_seqC ?_ | refine W_seqB ?_ | refine W_block ?_ | (refine W_skip ?_; repeat (first | refine thenI ?_ | refine thenE ?_ | refine thenR ?_ | refine inBI ?_ | refine inBR ?_ | refine inBS ?_ | refine inBN (by decide) ?_)) | (refine W_condT ?hc ?_; (case hc => (simp (disch := omega) only [go_sem, ↓reduceIte, Nat.reduceEqDiff, Nat.reduceAdd, Nat.reduceLeDiff, q1, q2, q3, q4, hlen]; done))) | (refine W_condF ?hc ?_; (case hc => (simp (disch := omega) only [go_sem, ↓reduceIte, Nat.reduceEqDiff, Nat.reduceAdd, Nat.reduceLeDiff, q1, q2, q3, q4, hlen]; done))))
    (repeat (first | refine W_seqS ?_ | refine W_seqC ?_ | refine W_seqB ?_ | refine W_block ?_)); refine W_reg rfl fun G K hG hK => ?_; simp (disch := omega) only [go_sem, ↓reduceIte, Nat.reduceEqDiff, Nat.reduceAdd, Nat.reduceLeDiff, hG, q1, q2, q3, q4, hlen, bsL, fillK_cons, fillK_nil, Nat.reduceMul]
    refine hK _ _ ?_; clear hK K hG G; repeat (first | refine thenI ?_ | refine thenE ?_ | refine thenR ?_ | refine inBI ?_ | refine inBR ?_ | refine inBS ?_ | refine inBN (by decide) ?_)
    repeat (first | (refine W_reg rfl fun G K hG hK => ?_; simp (disch := omega) only [go_sem, ↓reduceIte, Nat.reduceEqDiff, Nat.reduceAdd, Nat.reduceLeDiff, hG, q1, q2, q3, q4, hlen]; refine hK _ _ ?_; clear hK K hG G) | (refine W_end rfl fun G K hG hK => ?_; simp (disch := omega) only [go_sem, ↓reduceIte, Nat.reduceEqDiff, Nat.reduceAdd, Nat.reduceLeDiff, hG, q1, q2, q3, q4, hlen]; refine hK _ _ ?_; clear hK K hG G; repeat (first | refine thenI ?_ | refine thenE ?_ | refine thenR ?_ | refine inBI ?_ | refine inBR ?_ | refine inBS ?_ | refine inBN (by decide) ?_)) | refine W_seqS ?_ | refine W_seqC ?_ | refine W_seqB ?_ | refine W_block ?_ | (refine W_skip ?_; repeat (first | refine thenI ?_ | refine thenE ?_ | refine thenR ?_ | refine inBI ?_ | refine inBR ?_ | refine inBS ?_ | refine inBN (by decide) ?_)) | (refine W_condT ?hc ?_; (case hc => (simp (disch := omega) only [go_sem, ↓reduceIte, Nat.reduceEqDiff, Nat.reduceAdd, Nat.reduceLeDiff, q1, q2, q3, q4, hlen]; done))) | (refine W_condF ?hc ?_; (case hc => (simp (disch := omega) only [go_sem, ↓reduceIte, Nat.reduceEqDiff, Nat.reduceAdd, Nat.reduceLeDiff, q1, q2, q3, q4, hlen]; done))))
    refine W_ret ?_; try (repeat (first | refine thenI ?_ | refine thenE ?_ | refine thenR ?_ | refine inBI ?_ | refine inBR ?_ | refine inBS ?_ | refine inBN (by decide) ?_))
    refine finC2 (.inl rfl) (by (simp (disch := omega) only [go_sem, ↓reduceIte, Nat.reduceEqDiff, Nat.reduceAdd, Nat.reduceLeDiff, q1, q2, q3, q4, hlen]); try rfl) (by (simp (disch := omega) only [go_sem, ↓reduceIte, Nat.reduceEqDiff, Nat.reduceAdd, Nat.reduceLeDiff, q1, q2, q3, q4, hlen]); try rfl) rfl ⟨Ext.app _ _, [.string nm, .slice (some ⟨st.length, 0, none⟩) 2 2, .string wordB], [st.length], rfl, ⟨_, rfl, own_word2⟩, ⟨by simp, by simp⟩⟩
  | false =>
    have hf : findOp g nm = match g.ops.find? fun o => o.nm.toList == nm.toList with
      | some o => (o, true)
      | none => (Opr.zero, false) := by unfold findOp; rw [hb]; rfl
    rw [hf]
    repeat (first | (refine W_reg rfl fun G K hG hK => ?_; simp (disch := omega) only [go_sem, ↓reduceIte, Nat.reduceEqDiff, Nat.reduceAdd, Nat.reduceLeDiff, hG, q1, q2, q3, q4, hlen]; refine hK _ _ ?_; clear hK K hG G) | (refine W_end rfl fun G K hG hK => ?_; simp (disch := omega) only [go_sem, ↓reduceIte, Nat.reduceEqDiff, Nat.reduceAdd, Nat.reduceLeDiff, hG, q1, q2, q3, q4, hlen]; refine hK _ _ ?_; clear hK K hG G; repeat (first | refine thenI ?_ | refine thenE ?_ | refine thenR ?_ | refine inBI ?_ | refine inBR ?_ | refine inBS ?_ | refine inBN (by decide) ?_)) | refine W_seqS ?_ | refine W_seqC ?_ | refine W_seqB ?_ | refine W_block ?_ | (refine W_skip ?_; repeat (first | refine thenI ?_ | refine thenE ?_ | refine thenR ?_ | refine inBI ?_ | refine inBR ?_ | refine inBS ?_ | refine inBN (by decide) ?_)) | (refine W_condT ?hc ?_; (case hc => (simp (disch := omega) only [go_sem, ↓reduceIte, Nat.reduceEqDiff, Nat.reduceAdd, Nat.reduceLeDiff, q1, q2, q3, q4, hlen]; done))) | (refine W_condF ?hc ?_; (case hc => (simp (disch := omega) only [go_sem, ↓reduceIte, Nat.reduceEqDiff, Nat.reduceAdd, Nat.reduceLeDiff, q1, q2, q3, q4, hlen]; done))))
    refine W_loop (fun d fr st' => ∃ (j : Nat) , d = g.ops.length - j ∧ j ≤ g.ops.length ∧ (st' = st) ∧ ((g.ops.find? fun o => o.nm.toList == nm.toList) = (g.ops.drop j).find? fun o => o.nm.toList == nm.toList) ∧ (fr.env 1 = .string nm) ∧ (fr.env 2 = .pointer (some ⟨2, 0, some 1⟩)) ∧ (fr.env 4 = .pointer (some ⟨4, 0, some 1⟩)) ∧ (fr.env 14 = u) ∧ (fr.env 15 = .int .i64 g.ops.length) ∧ (fr.env 16 = .int .i64 j) ∧ (fr.loc 2 = (1, [s, u])) ∧ ((fr.loc 4).1 = 1 ∧ (fr.loc 4).2.length = 3)) (g.ops.length) ?_ ?_
    · exact ⟨0, by omega, by omega, rfl, by simp, (by (simp (disch := omega) only [go_sem, ↓reduceIte, Nat.reduceEqDiff, Nat.reduceAdd, Nat.reduceLeDiff, q1, q2, q3, q4, hlen]); try rfl), (by (simp (disch := omega) only [go_sem, ↓reduceIte, Nat.reduceEqDiff, Nat.reduceAdd, Nat.reduceLeDiff, q1, q2, q3, q4, hlen]); try rfl), (by (simp (disch := omega) only [go_sem, ↓reduceIte, Nat.reduceEqDiff, Nat.reduceAdd, Nat.reduceLeDiff, q1, q2, q3, q4, hlen]); try rfl), (by (simp (disch := omega) only [go_sem, ↓reduceIte, Nat.reduceEqDiff, Nat.reduceAdd, Nat.reduceLeDiff, q1, q2, q3, q4, hlen]); try rfl), (by (simp (disch := omega) only [go_sem, ↓reduceIte, Nat.reduceEqDiff, Nat.reduceAdd, Nat.reduceLeDiff, q1, q2, q3, q4, hlen]); try rfl), (by (simp (disch := omega) only [go_sem, ↓reduceIte, Nat.reduceEqDiff, Nat.reduceAdd, Nat.reduceLeDiff, q1, q2, q3, q4, hlen]); try rfl), (by (simp (disch := omega) only [go_sem, ↓reduceIte, Nat.reduceEqDiff, Nat.reduceAdd, Nat.reduceLeDiff, q1, q2, q3, q4, hlen]); try rfl), ⟨(by (simp (disch := omega) only [go_sem, ↓reduceIte, Nat.reduceEqDiff, Nat.reduceAdd, Nat.reduceLeDiff, q1, q2, q3, q4, hlen]); try rfl), (by (simp (disch := omega) only [go_sem, ↓reduceIte, Nat.reduceEqDiff, Nat.reduceAdd, Nat.reduceLeDiff, q1, q2, q3, q4, hlen]); try rfl)⟩⟩
    rintro d ⟨env, loc⟩ st' ⟨j, hd, hj, hst, hfd, e1, e2, e4, e14, e15, e16, l2, ⟨l4, l4'⟩⟩
    simp only at e1 e2 e4 e14 e15 e16 l2 l4 l4'
    subst hst
    by_cases hlt : j < g.ops.length
    · have c1 : decide ((j : Int) < (g.ops.length : Int)) = true := by simpa using hlt
      have hi := idxOk hlt
      have hx : g.ops[j]? = some g.ops[j] := List.getElem?_eq_getElem hlt
      have htk : g.ops.take (j + 1) = g.ops.take j ++ [g.ops[j]] := List.take_succ_eq_append_getElem hlt
      obtain ⟨i, o, c, sx, rfl, hrx, hcs⟩ := row_atO hu hx
      have hld := fun loc => load_row (A := []) (loc := loc) ag69 sz69 rfl hcs
      have nx := hrx.notLoc.1
      have nx2 := hrx.notLoc.2
      have nx3 := Row.cells1 hrx
      rw [List.drop_eq_getElem_cons hlt, List.find?_cons] at hfd
      cases hn : (g.ops[j].nm.toList == nm.toList) with
      | true =>
        rw [hn] at hfd
        simp only at hfd
        rw [hfd]
        repeat (first | (refine W_reg rfl fun G K hG hK => ?_; simp (disch := omega) only [go_sem, ↓reduceIte, Nat.reduceEqDiff, Nat.reduceAdd, Nat.reduceLeDiff, hG, q1, q2, q3, q4, hlen, e1, e2, e4, e14, e15, e16, l2, l4, l4', c1, hi, idxA, Int.toNat_natCast, nx, nx2, nx3, hld, hn]; refine hK _ _ ?_; clear hK K hG G) | (refine W_end rfl fun G K hG hK => ?_; simp (disch := omega) only [go_sem, ↓reduceIte, Nat.reduceEqDiff, Nat.reduceAdd, Nat.reduceLeDiff, hG, q1, q2, q3, q4, hlen, e1, e2, e4, e14, e15, e16, l2, l4, l4', c1, hi, idxA, Int.toNat_natCast, nx, nx2, nx3, hld, hn]; refine hK _ _ ?_; clear hK K hG G; repeat (first | refine thenI ?_ | refine thenE ?_ | refine thenR ?_ | refine inBI ?_ | refine inBR ?_ | refine inBS ?_ | refine inBN (by decide) ?_)) | refine W_seqS ?_ | refine W_seqC ?_ | refine W_seqB ?_ | refine W_block ?_ | (refine W_skip ?_; repeat (first | refine thenI ?_ | refine thenE ?_ | refine thenR ?_ | refine inBI ?_ | refine inBR ?_ | refine inBS ?_ | refine inBN (by decide) ?_)) | (refine W_condT ?hc ?_; (case hc => (simp (disch := omega) only [go_sem, ↓reduceIte, Nat.reduceEqDiff, Nat.reduceAdd, Nat.reduceLeDiff, q1, q2, q3, q4, hlen, e1, e2, e4, e14, e15, e16, l2, l4, l4', c1, hi, idxA, Int.toNat_natCast, nx, nx2, nx3, hld, hn]; done))) | (refine W_condF ?hc ?_; (case hc => (simp (disch := omega) only [go_sem, ↓reduceIte, Nat.reduceEqDiff, Nat.reduceAdd, Nat.reduceLeDiff, q1, q2, q3, q4, hlen, e1, e2, e4, e14, e15, e16, l2, l4, l4', c1, hi, idxA, Int.toNat_natCast, nx, nx2, nx3, hld, hn]; done))))
        (repeat (first | refine W_seqS ?_ | refine W_seqC ?_ | refine W_seqB ?_ | refine W_block ?_)); refine W_reg rfl fun G K hG hK => ?_; simp (disch := omega) only [go_sem, ↓reduceIte, Nat.reduceEqDiff, Nat.reduceAdd, Nat.reduceLeDiff, hG, q1, q2, q3, q4, hlen, e1, e2, e4, e14, e15, e16, l2, l4, l4', c1, hi, idxA, Int.toNat_natCast, nx, nx2, nx3]
        refine w_call (copyOp_ok g.ops[j] st' _ (hl.2.2 _ (List.getElem_mem hlt)) ⟨_, rfl, hrx⟩) (by simp (disch := omega) only [go_sem, ↓reduceIte, Nat.reduceEqDiff, q1, q2, q3, q4, hlen, e1, e2, e4, e14, e15, e16, l2, l4, l4', c1, hi, idxA, Int.toNat_natCast, nx, nx2, nx3]) ?hl ?_
        case hl => first | rfl | (simp only [go_sem, List.all_cons, List.all_nil, Bool.not_false, Bool.and_self, q1, q2, q3, q4, hlen, e1, e2, e4, e14, e15, e16, l2, l4, l4', c1, hi, idxA, Int.toNat_natCast, nx, nx2, nx3]; done)
        rintro r_ sa ⟨x1, ds, L, rfl, ho, hff⟩; refine ⟨fun e => (by cases e), ?_⟩
        obtain ⟨n', s', m', rfl, a1, a2, a3⟩ := ho.args_cells
        simp (disch := omega) only [go_sem, ↓reduceIte, Nat.reduceEqDiff, Nat.reduceAdd, Nat.reduceLeDiff, hG, q1, q2, q3, q4, hlen, e1, e2, e4, e14, e15, e16, l2, l4, l4', c1, hi, idxA, Int.toNat_natCast, nx, nx2, nx3, a1, a2, a3]; refine hK _ _ ?_; clear hK K hG G; repeat (first | refine thenI ?_ | refine thenE ?_ | refine thenR ?_ | refine inBI ?_ | refine inBR ?_ | refine inBS ?_ | refine inBN (by decide) ?_)
        refine W_ret ?_; try (repeat (first | refine thenI ?_ | refine thenE ?_ | refine thenR ?_ | refine inBI ?_ | refine inBR ?_ | refine inBS ?_ | refine inBN (by decide) ?_))
        refine finC2 (.inl rfl) (by (simp (disch := omega) only [go_sem, ↓reduceIte, Nat.reduceEqDiff, Nat.reduceAdd, Nat.reduceLeDiff, q1, q2, q3, q4, hlen, e1, e2, e4, e14, e15, e16, l2, l4, l4', c1, hi, idxA, Int.toNat_natCast, nx, nx2, nx3, a1, a2, a3]); try rfl) (by (simp (disch := omega) only [go_sem, ↓reduceIte, Nat.reduceEqDiff, Nat.reduceAdd, Nat.reduceLeDiff, q1, q2, q3, q4, hlen, e1, e2, e4, e14, e15, e16, l2, l4, l4', c1, hi, idxA, Int.toNat_natCast, nx, nx2, nx3]); try rfl) rfl ⟨x1, _, L, rfl, ho, hff⟩
      | false =>
        rw [hn] at hfd
        simp only at hfd
        repeat (first | (refine W_reg rfl fun G K hG hK => ?_; simp (disch := omega) only [go_sem, ↓reduceIte, Nat.reduceEqDiff, Nat.reduceAdd, Nat.reduceLeDiff, hG, q1, q2, q3, q4, hlen, e1, e2, e4, e14, e15, e16, l2, l4, l4', c1, hi, idxA, Int.toNat_natCast, nx, nx2, nx3, hld, hn]; refine hK _ _ ?_; clear hK K hG G) | (refine W_end rfl fun G K hG hK => ?_; simp (disch := omega) only [go_sem, ↓reduceIte, Nat.reduceEqDiff, Nat.reduceAdd, Nat.reduceLeDiff, hG, q1, q2, q3, q4, hlen, e1, e2, e4, e14, e15, e16, l2, l4, l4', c1, hi, idxA, Int.toNat_natCast, nx, nx2, nx3, hld, hn]; refine hK _ _ ?_; clear hK K hG G; repeat (first | refine thenI ?_ | refine thenE ?_ | refine thenR ?_ | refine inBI ?_ | refine inBR ?_ | refine inBS ?_ | refine inBN (by decide) ?_)) | refine W_seqS ?_ | refine W_seqC ?_ | refine W_seqB ?_ | refine W_block ?_ | (refine W_skip ?_; repeat (first | refine thenI ?_ | refine thenE ?_ | refine thenR ?_ | refine inBI ?_ | refine inBR ?_ | refine inBS ?_ | refine inBN (by decide) ?_)) | (refine W_condT ?hc ?_; (case hc => (simp (disch := omega) only [go_sem, ↓reduceIte, Nat.reduceEqDiff, Nat.reduceAdd, Nat.reduceLeDiff, q1, q2, q3, q4, hlen, e1, e2, e4, e14, e15, e16, l2, l4, l4', c1, hi, idxA, Int.toNat_natCast, nx, nx2, nx3, hld, hn]; done))) | (refine W_condF ?hc ?_; (case hc => (simp (disch := omega) only [go_sem, ↓reduceIte, Nat.reduceEqDiff, Nat.reduceAdd, Nat.reduceLeDiff, q1, q2, q3, q4, hlen, e1, e2, e4, e14, e15, e16, l2, l4, l4', c1, hi, idxA, Int.toNat_natCast, nx, nx2, nx3, hld, hn]; done))))
        refine ⟨g.ops.length - (j + 1), by omega, j + 1, rfl, by omega, rfl, hfd, (by (simp (disch := omega) only [go_sem, ↓reduceIte, Nat.reduceEqDiff, Nat.reduceAdd, Nat.reduceLeDiff, q1, q2, q3, q4, hlen, e1, e2, e4, e14, e15, e16, l2, l4, l4', c1, hi, idxA, Int.toNat_natCast, nx, nx2, nx3]); try rfl), (by (simp (disch := omega) only [go_sem, ↓reduceIte, Nat.reduceEqDiff, Nat.reduceAdd, Nat.reduceLeDiff, q1, q2, q3, q4, hlen, e1, e2, e4, e14, e15, e16, l2, l4, l4', c1, hi, idxA, Int.toNat_natCast, nx, nx2, nx3]); try rfl), (by (simp (disch := omega) only [go_sem, ↓reduceIte, Nat.reduceEqDiff, Nat.reduceAdd, Nat.reduceLeDiff, q1, q2, q3, q4, hlen, e1, e2, e4, e14, e15, e16, l2, l4, l4', c1, hi, idxA, Int.toNat_natCast, nx, nx2, nx3]); try rfl), (by (simp (disch := omega) only [go_sem, ↓reduceIte, Nat.reduceEqDiff, Nat.reduceAdd, Nat.reduceLeDiff, q1, q2, q3, q4, hlen, e1, e2, e4, e14, e15, e16, l2, l4, l4', c1, hi, idxA, Int.toNat_natCast, nx, nx2, nx3]); try rfl), (by (simp (disch := omega) only [go_sem, ↓reduceIte, Nat.reduceEqDiff, Nat.reduceAdd, Nat.reduceLeDiff, q1, q2, q3, q4, hlen, e1, e2, e4, e14, e15, e16, l2, l4, l4', c1, hi, idxA, Int.toNat_natCast, nx, nx2, nx3]); try rfl), (by (simp (disch := omega) only [go_sem, ↓reduceIte, Nat.reduceEqDiff, Nat.reduceAdd, Nat.reduceLeDiff, q1, q2, q3, q4, hlen, e1, e2, e4, e14, e15, e16, l2, l4, l4', c1, hi, idxA, Int.toNat_natCast, nx, nx2, nx3]); try rfl), (by (simp (disch := omega) only [go_sem, ↓reduceIte, Nat.reduceEqDiff, Nat.reduceAdd, Nat.reduceLeDiff, q1, q2, q3, q4, hlen, e1, e2, e4, e14, e15, e16, l2, l4, l4', c1, hi, idxA, Int.toNat_natCast, nx, nx2, nx3]); try rfl), ⟨(by (simp (disch := omega) only [go_sem, ↓reduceIte, Nat.reduceEqDiff, Nat.reduceAdd, Nat.reduceLeDiff, q1, q2, q3, q4, hlen, e1, e2, e4, e14, e15, e16, l2, l4, l4', c1, hi, idxA, Int.toNat_natCast, nx, nx2, nx3]); try rfl), (by (simp (disch := omega) only [go_sem, ↓reduceIte, Nat.reduceEqDiff, Nat.reduceAdd, Nat.reduceLeDiff, q1, q2, q3, q4, hlen, e1, e2, e4, e14, e15, e16, l2, l4, l4', c1, hi, idxA, Int.toNat_natCast, nx, nx2, nx3]); try rfl)⟩⟩
    · have c1 : decide ((j : Int) < (g.ops.length : Int)) = false := by simpa using hlt
      have hjn : j = g.ops.length := by omega
      subst hjn
      rw [List.drop_length] at hfd
      simp only [List.find?_nil] at hfd
      rw [hfd]
      repeat (first | (refine W_reg rfl fun G K hG hK => ?_; simp (disch := omega) only [go_sem, ↓reduceIte, Nat.reduceEqDiff, Nat.reduceAdd, Nat.reduceLeDiff, hG, q1, q2, q3, q4, hlen, e1, e2, e4, e14, e15, e16, l2, l4, l4', c1]; refine hK _ _ ?_; clear hK K hG G) | (refine W_end rfl fun G K hG hK => ?_; simp (disch := omega) only [go_sem, ↓reduceIte, Nat.reduceEqDiff, Nat.reduceAdd, Nat.reduceLeDiff, hG, q1, q2, q3, q4, hlen, e1, e2, e4, e14, e15, e16, l2, l4, l4', c1]; refine hK _ _ ?_; clear hK K hG G; repeat (first | refine thenI ?_ | refine thenE ?_ | refine thenR ?_ | refine inBI ?_ | refine inBR ?_ | refine inBS ?_ | refine inBN (by decide) ?_)) | refine W_seqS ?_ | refine W_seqC ?_ | refine W_seqB ?_ | refine W_block ?_ | (refine W_skip ?_; repeat (first | refine thenI ?_ | refine thenE ?_ | refine thenR ?_ | refine inBI ?_ | refine inBR ?_ | refine inBS ?_ | refine inBN (by decide) ?_)) | (refine W_condT ?hc ?_; (case hc => (simp (disch := omega) only [go_sem, ↓reduceIte, Nat.reduceEqDiff, Nat.reduceAdd, Nat.reduceLeDiff, q1, q2, q3, q4, hlen, e1, e2, e4, e14, e15, e16, l2, l4, l4', c1]; done))) | (refine W_condF ?hc ?_; (case hc => (simp (disch := omega) only [go_sem, ↓reduceIte, Nat.reduceEqDiff, Nat.reduceAdd, Nat.reduceLeDiff, q1, q2, q3, q4, hlen, e1, e2, e4, e14, e15, e16, l2, l4, l4', c1]; done))))
      refine W_exit ?_; repeat (first | refine thenI ?_ | refine thenE ?_ | refine thenR ?_ | refine inBI ?_ | refine inBR ?_ | refine inBS ?_ | refine inBN (by decide) ?_)
      repeat (first | (refine W_reg rfl fun G K hG hK => ?_; simp (disch := omega) only [go_sem, ↓reduceIte, Nat.reduceEqDiff, Nat.reduceAdd, Nat.reduceLeDiff, hG, q1, q2, q3, q4, hlen, e1, e2, e4, e14, e15, e16, l2, l4, l4', c1]; refine hK _ _ ?_; clear hK K hG G) | (refine W_end rfl fun G K hG hK => ?_; simp (disch := omega) only [go_sem, ↓reduceIte, Nat.reduceEqDiff, Nat.reduceAdd, Nat.reduceLeDiff, hG, q1, q2, q3, q4, hlen, e1, e2, e4, e14, e15, e16, l2, l4, l4', c1]; refine hK _ _ ?_; clear hK K hG G; repeat (first | refine thenI ?_ | refine thenE ?_ | refine thenR ?_ | refine inBI ?_ | refine inBR ?_ | refine inBS ?_ | refine inBN (by decide) ?_)) | refine W_seqS ?_ | refine W_seqC ?_ | refine W_seqB ?_ | refine W_block ?_ | (refine W_skip ?_; repeat (first | refine thenI ?_ | refine thenE ?_ | refine thenR ?_ | refine inBI ?_ | refine inBR ?_ | refine inBS ?_ | refine inBN (by decide) ?_)) | (refine W_condT ?hc ?_; (case hc => (simp (disch := omega) only [go_sem, ↓reduceIte, Nat.reduceEqDiff, Nat.reduceAdd, Nat.reduceLeDiff, q1, q2, q3, q4, hlen, e1, e2, e4, e14, e15, e16, l2, l4, l4', c1]; done))) | (refine W_condF ?hc ?_; (case hc => (simp (disch := omega) only [go_sem, ↓reduceIte, Nat.reduceEqDiff, Nat.reduceAdd, Nat.reduceLeDiff, q1, q2, q3, q4, hlen, e1, e2, e4, e14, e15, e16, l2, l4, l4', c1]; done))))
      refine W_ret ?_; try (repeat (first | refine thenI ?_ | refine thenE ?_ | refine thenR ?_ | refine inBI ?_ | refine inBR ?_ | refine inBS ?_ | refine inBN (by decide) ?_))
      refine finC2 (.inl rfl) (by (simp (disch := omega) only [go_sem, ↓reduceIte, Nat.reduceEqDiff, Nat.reduceAdd, Nat.reduceLeDiff, q1, q2, q3, q4, hlen, e1, e2, e4, e14, e15, e16, l2, l4, l4', c1]); try rfl) (by (simp (disch := omega) only [go_sem, ↓reduceIte, Nat.reduceEqDiff, Nat.reduceAdd, Nat.reduceLeDiff, q1, q2, q3, q4, hlen, e1, e2, e4, e14, e15, e16, l2, l4, l4', c1]); try rfl) rfl ⟨Ext.refl _, [.string ⟨#[]⟩, .slice none 0 0, .string ⟨#[]⟩], [], rfl, ⟨_, rfl, Sl.nil _⟩, .nil _⟩
theorem specFindOp_ok (g : Sgn) (nm : ByteArray) (st : St) (cs : List Value) (hl : LimS 1073741824 g) (hE : EncS st g cs) :
    CallS Try.prog 36 [.agg cs.toArray, .string nm] st fun r st2 => Ext st st2 ∧ ∃ ds L, r = .tuple #[.agg ds.toArray, .bool (findOp g nm).2] ∧ OwnO st2 (findOp g nm).1 ds L ∧ Fresh st.length L := by
  refine CallS_of_W [] 40 Try.func36 rfl rfl rfl rfl (by simp) ?_
  obtain ⟨s, u, rfl, hs, hu⟩ := hE
  have q1 := hs.notLoc.1
  have q2 := hs.notLoc.2
  have q3 := hu.notLoc.1
  have q4 := hu.notLoc.2
  have hlen : lenE Try.prog 34 u = some (.int .i64 g.ops.length) := row_len hu Try.underlying34
  have hg2 := hl.2.1
  repeat (first | (refine W_reg rfl fun G K hG hK => ?_; simp (disch := omega) only [go_sem, ↓reduceIte, Nat.reduceEqDiff, Nat.reduceAdd, Nat.reduceLeDiff, hG, q1, q2, q3, q4, hlen]; refine hK _ _ ?_; clear hK K hG G) | (refine W_end rfl fun G K hG hK => ?_; simp (disch := omega) only [go_sem, ↓reduceIte, Nat.reduceEqDiff, Nat.reduceAdd, Nat.reduceLeDiff, hG, q1, q2, q3, q4, hlen]; refine hK _ _ ?_; clear hK K hG G; repeat (first | refine thenI ?_ | refine thenE ?_ | refine thenR ?_ | refine inBI ?_ | refine inBR ?_ | refine inBS ?_ | refine inBN (by decide) ?_)) | refine W_seqS ?_ | refine W_seqC ?_ | refine W_seqB ?_ | refine W_block ?_ | (refine W_skip ?_; repeat (first | refine thenI ?_ | refine thenE ?_ | refine thenR ?_ | refine inBI ?_ | refine inBR ?_ | refine inBS ?_ | refine inBN (by decide) ?_)) | (refine W_condT ?hc ?_; (case hc => (simp (disch := omega) only [go_sem, ↓reduceIte, Nat.reduceEqDiff, Nat.reduceAdd, Nat.reduceLeDiff, q1, q2, q3, q4, hlen]; done))) | (refine W_condF ?hc ?_; (case hc => (simp (disch := omega) only [go_sem, ↓reduceIte, Nat.reduceEqDiff, Nat.reduceAdd, Nat.reduceLeDiff, q1, q2, q3, q4, hlen]; done))))
  (repeat (first | refine W_seqS ?_ | refine W_seqC ?_ | refine W_seqB ?_ | refine W_block ?_)); refine W_reg rfl fun G K hG hK => ?_; simp (disch := omega) only [go_sem, ↓reduceIte, Nat.reduceEqDiff, Nat.reduceAdd, Nat.reduceLeDiff, hG, q1, q2, q3, q4, hlen]
  refine w_call (specIsB_ok nm st) (by simp (disch := omega) only [go_sem, ↓reduceIte, Nat.reduceEqDiff, q1, q2, q3, q4, hlen]) ?hl ?_
  case hl => first | rfl | (simp only [go_sem, List.all_cons, List.all_nil, Bool.not_false, Bool.and_self, q1, q2, q3, q4, hlen]; done)
  rintro r_ st ⟨rfl, rfl⟩; refine ⟨fun e => (by cases e), ?_⟩
  simp (disch := omega) only [go_sem, ↓reduceIte, Nat.reduceEqDiff, Nat.reduceAdd, Nat.reduceLeDiff, hG, q1, q2, q3, q4, hlen]; refine hK _ _ ?_; clear hK K hG G; repeat (first | refine thenI ?_ | refine thenE ?_ | refine thenR ?_ | refine inBI ?_ | refine inBR ?_ | refine inBS ?_ | refine inBN (by decide) ?_)
  cases hb : isB nm with
  | true =>
    have hf : findOp g nm = (⟨nm, [wordB, wordB], wordB⟩, true) := by unfold findOp; rw [hb]; rfl
    rw [hf]
    repeat (first | (refine W_reg rfl fun G K hG hK => ?_; simp (disch := omega) only [go_sem, ↓reduceIte, Nat.reduceEqDiff, Nat.reduceAdd, Nat.reduceLeDiff, hG, q1, q2, q3, q4, hlen]; refine hK _ _ ?_; clear hK K hG G) | (refine W_end rfl fun G K hG hK => ?_; simp (disch := omega) only [go_sem, ↓reduceIte, Nat.reduceEqDiff, Nat.reduceAdd, Nat.reduceLeDiff, hG, q1, q2, q3, q4, hlen]; refine hK _ _ ?_; clear hK K hG G; repeat (first | refine thenI ?_ | refine thenE ?_ | refine thenR ?_ | refine inBI ?_ | refine inBR ?_ | refine inBS ?_ | refine inBN (by decide) ?_)) | refine W_seqS ?_ | refine W_seqC ?_ | refine W_seqB ?_ | refine W_block ?_ | (refine W_skip ?_; repeat (first | refine thenI ?_ | refine thenE ?_ | refine thenR ?_ | refine inBI ?_ | refine inBR ?_ | refine inBS ?_ | refine inBN (by decide) ?_)) | (refine W_condT ?hc ?_; (case hc => (simp (disch := omega) only [go_sem, ↓reduceIte, Nat.reduceEqDiff, Nat.reduceAdd, Nat.reduceLeDiff, q1, q2, q3, q4, hlen]; done))) | (refine W_condF ?hc ?_; (case hc => (simp (disch := omega) only [go_sem, ↓reduceIte, Nat.reduceEqDiff, Nat.reduceAdd, Nat.reduceLeDiff, q1, q2, q3, q4, hlen]; done))))
    (repeat (first | refine W_seqS ?_ | refine W_seqC ?_ | refine W_seqB ?_ | refine W_block ?_)); refine W_reg rfl fun G K hG hK => ?_; simp (disch := omega) only [go_sem, ↓reduceIte, Nat.reduceEqDiff, Nat.reduceAdd, Nat.reduceLeDiff, hG, q1, q2, q3, q4, hlen, bsL, fillK_cons, fillK_nil, Nat.reduceMul]
    refine hK _ _ ?_; clear hK K hG G; repeat (first | refine thenI ?_ | refine thenE ?_ | refine thenR ?_ | refine inBI ?_ | refine inBR ?_ | refine inBS ?_ | refine inBN (by decide) ?_)
    repeat (first | (refine W_reg rfl fun G K hG hK => ?_; simp (disch := omega) only [go_sem, ↓reduceIte, Nat.reduceEqDiff, Nat.reduceAdd, Nat.reduceLeDiff, hG, q1, q2, q3, q4, hlen]; refine hK _ _ ?_; clear hK K hG G) | (refine W_end rfl fun G K hG hK => ?_; simp (disch := omega) only [go_sem, ↓reduceIte, Nat.reduceEqDiff, Nat.reduceAdd, Nat.reduceLeDiff, hG, q1, q2, q3, q4, hlen]; refine hK _ _ ?_; clear hK K hG G; repeat (first | refine thenI ?_ | refine thenE ?_ | refine thenR ?_ | refine inBI ?_ | refine inBR ?_ | refine inBS ?_ | refine inBN (by decide) ?_)) | refine W_seqS ?_ | refine W_seqC ?_ | refine W_seqB ?_ | refine W_block ?_ | (refine W_skip ?_; repeat (first | refine thenI ?_ | refine thenE ?_ | refine thenR ?_ | refine inBI ?_ | refine inBR ?_ | refine inBS ?_ | refine inBN (by decide) ?_)) | (refine W_condT ?hc ?_; (case hc => (simp (disch := omega) only [go_sem, ↓reduceIte, Nat.reduceEqDiff, Nat.reduceAdd, Nat.reduceLeDiff, q1, q2, q3, q4, hlen]; done))) | (refine W_condF ?hc ?_; (case hc => (simp (disch := omega) only [go_sem, ↓reduceIte, Nat.reduceEqDiff, Nat.reduceAdd, Nat.reduceLeDiff, q1, q2, q3, q4, hlen]; done))))
    refine W_ret ?_; try (repeat (first | refine thenI ?_ | refine thenE ?_ | refine thenR ?_ | refine inBI ?_ | refine inBR ?_ | refine inBS ?_ | refine inBN (by decide) ?_))
    refine finC2 (.inl rfl) (by (simp (disch := omega) only [go_sem, ↓reduceIte, Nat.reduceEqDiff, Nat.reduceAdd, Nat.reduceLeDiff, q1, q2, q3, q4, hlen]); try rfl) (by (simp (disch := omega) only [go_sem, ↓reduceIte, Nat.reduceEqDiff, Nat.reduceAdd, Nat.reduceLeDiff, q1, q2, q3, q4, hlen]); try rfl) rfl ⟨Ext.app _ _, [.string nm, .slice (some ⟨st.length, 0, none⟩) 2 2, .string wordB], [st.length], rfl, ⟨_, rfl, own_word2⟩, ⟨by simp, by simp⟩⟩
  | false =>
    have hf : findOp g nm = match g.ops.find? fun o => o.nm.toList == nm.toList with
      | some o => (o, true)
      | none => (Opr.zero, false) := by unfold findOp; rw [hb]; rfl
    rw [hf]
    repeat (first | (refine W_reg rfl fun G K hG hK => ?_; simp (disch := omega) only [go_sem, ↓reduceIte, Nat.reduceEqDiff, Nat.reduceAdd, Nat.reduceLeDiff, hG, q1, q2, q3, q4, hlen]; refine hK _ _ ?_; clear hK K hG G) | (refine W_end rfl fun G K hG hK => ?_; simp (disch := omega) only [go_sem, ↓reduceIte, Nat.reduceEqDiff, Nat.reduceAdd, Nat.reduceLeDiff, hG, q1, q2, q3, q4, hlen]; refine hK _ _ ?_; clear hK K hG G; repeat (first | refine thenI ?_ | refine thenE ?_ | refine thenR ?_ | refine inBI ?_ | refine inBR ?_ | refine inBS ?_ | refine inBN (by decide) ?_)) | refine W_seqS ?_ | refine W_seqC ?_ | refine W_seqB ?_ | refine W_block ?_ | (refine W_skip ?_; repeat (first | refine thenI ?_ | refine thenE ?_ | refine thenR ?_ | refine inBI ?_ | refine inBR ?_ | refine inBS ?_ | refine inBN (by decide) ?_)) | (refine W_condT ?hc ?_; (case hc => (simp (disch := omega) only [go_sem, ↓reduceIte, Nat.reduceEqDiff, Nat.reduceAdd, Nat.reduceLeDiff, q1, q2, q3, q4, hlen]; done))) | (refine W_condF ?hc ?_; (case hc => (simp (disch := omega) only [go_sem, ↓reduceIte, Nat.reduceEqDiff, Nat.reduceAdd, Nat.reduceLeDiff, q1, q2, q3, q4, hlen]; done))))
    refine W_loop (fun d fr st' => ∃ (j : Nat) , d = g.ops.length - j ∧ j ≤ g.ops.length ∧ (st' = st) ∧ ((g.ops.find? fun o => o.nm.toList == nm.toList) = (g.ops.drop j).find? fun o => o.nm.toList == nm.toList) ∧ (fr.env 1 = .string nm) ∧ (fr.env 2 = .pointer (some ⟨2, 0, some 1⟩)) ∧ (fr.env 4 = .pointer (some ⟨4, 0, some 1⟩)) ∧ (fr.env 6 = .int .i64 j) ∧ (fr.loc 2 = (1, [s, u])) ∧ ((fr.loc 4).1 = 1 ∧ (fr.loc 4).2.length = 3)) (g.ops.length) ?_ ?_
    · exact ⟨0, by omega, by omega, rfl, by simp, (by (simp (disch := omega) only [go_sem, ↓reduceIte, Nat.reduceEqDiff, Nat.reduceAdd, Nat.reduceLeDiff, q1, q2, q3, q4, hlen]); try rfl), (by (simp (disch := omega) only [go_sem, ↓reduceIte, Nat.reduceEqDiff, Nat.reduceAdd, Nat.reduceLeDiff, q1, q2, q3, q4, hlen]); try rfl), (by (simp (disch := omega) only [go_sem, ↓reduceIte, Nat.reduceEqDiff, Nat.reduceAdd, Nat.reduceLeDiff, q1, q2, q3, q4, hlen]); try rfl), (by (simp (disch := omega) only [go_sem, ↓reduceIte, Nat.reduceEqDiff, Nat.reduceAdd, Nat.reduceLeDiff, q1, q2, q3, q4, hlen]); try rfl), (by (simp (disch := omega) only [go_sem, ↓reduceIte, Nat.reduceEqDiff, Nat.reduceAdd, Nat.reduceLeDiff, q1, q2, q3, q4, hlen]); try rfl), ⟨(by (simp (disch := omega) only [go_sem, ↓reduceIte, Nat.reduceEqDiff, Nat.reduceAdd, Nat.reduceLeDiff, q1, q2, q3, q4, hlen]); try rfl), (by (simp (disch := omega) only [go_sem, ↓reduceIte, Nat.reduceEqDiff, Nat.reduceAdd, Nat.reduceLeDiff, q1, q2, q3, q4, hlen]); try rfl)⟩⟩
    rintro d ⟨env, loc⟩ st' ⟨j, hd, hj, hst, hfd, e1, e2, e4, e6, l2, ⟨l4, l4'⟩⟩
    simp only at e1 e2 e4 e6 l2 l4 l4'
    subst hst
    by_cases hlt : j < g.ops.length
    · have c1 : decide ((j : Int) < (g.ops.length : Int)) = true := by simpa using hlt
      have hi := idxOk hlt
      have hx : g.ops[j]? = some g.ops[j] := List.getElem?_eq_getElem hlt
      have htk : g.ops.take (j + 1) = g.ops.take j ++ [g.ops[j]] := List.take_succ_eq_append_getElem hlt
      obtain ⟨i, o, c, sx, rfl, hrx, hcs⟩ := row_atO hu hx
      have hld := fun loc => load_row (A := []) (loc := loc) ag69 sz69 rfl hcs
      have hc0 : cell st' i (o + j * 3) = some (.string g.ops[j].nm) := by have := hcs 0 _ rfl; rwa [Nat.add_zero] at this
      have nx := hrx.notLoc.1
      have nx2 := hrx.notLoc.2
      have nx3 := Row.cells1 hrx
      rw [List.drop_eq_getElem_cons hlt, List.find?_cons] at hfd
      cases hn : (g.ops[j].nm.toList == nm.toList) with
      | true =>
        rw [hn] at hfd
        simp only at hfd
        rw [hfd]
        have h0 : Sl (α := ByteArray) (st' ++ [(⟨[], 9, 0⟩ : Blk)]) [] (.slice (some ⟨st'.length, 0, none⟩) 0 0) [st'.length] := Sl.empty (α := ByteArray) st'
        obtain ⟨s1, sB, L1, h1, h2, h3, h4⟩ := Sl.appRow (α := ByteArray) (t := 22) (u := 22) (n0 := st'.length) Try.underlying22 Try.underlying22 sz9 rfl by9 ze9 rfl h0 ⟨by simp, by simp⟩ (by simp) (Ext.refl _) (hrx.ext (Ext.app _ _)) (by have := hl.2.2 _ (List.getElem_mem hlt); simp; omega) (by have := hl.2.2 _ (List.getElem_mem hlt); simp; omega)
        rw [List.nil_append] at h2
        have a1 := h2.okv
        have a2 := h2.loc
        have a3 := h2.cells
        repeat (first | (refine W_reg rfl fun G K hG hK => ?_; simp (disch := omega) only [go_sem, ↓reduceIte, Nat.reduceEqDiff, Nat.reduceAdd, Nat.reduceLeDiff, hG, q1, q2, q3, q4, hlen, e1, e2, e4, e6, l2, l4, l4', c1, hi, idxA, Int.toNat_natCast, nx, nx2, nx3, hld, hc0, ag9, hn, w_append, h1, a1, a2, a3]; refine hK _ _ ?_; clear hK K hG G) | (refine W_end rfl fun G K hG hK => ?_; simp (disch := omega) only [go_sem, ↓reduceIte, Nat.reduceEqDiff, Nat.reduceAdd, Nat.reduceLeDiff, hG, q1, q2, q3, q4, hlen, e1, e2, e4, e6, l2, l4, l4', c1, hi, idxA, Int.toNat_natCast, nx, nx2, nx3, hld, hc0, ag9, hn, w_append, h1, a1, a2, a3]; refine hK _ _ ?_; clear hK K hG G; repeat (first | refine thenI ?_ | refine thenE ?_ | refine thenR ?_ | refine inBI ?_ | refine inBR ?_ | refine inBS ?_ | refine inBN (by decide) ?_)) | refine W_seqS ?_ | refine W_seqC ?_ | refine W_seqB ?_ | refine W_block ?_ | (refine W_skip ?_; repeat (first | refine thenI ?_ | refine thenE ?_ | refine thenR ?_ | refine inBI ?_ | refine inBR ?_ | refine inBS ?_ | refine inBN (by decide) ?_)) | (refine W_condT ?hc ?_; (case hc => (simp (disch := omega) only [go_sem, ↓reduceIte, Nat.reduceEqDiff, Nat.reduceAdd, Nat.reduceLeDiff, q1, q2, q3, q4, hlen, e1, e2, e4, e6, l2, l4, l4', c1, hi, idxA, Int.toNat_natCast, nx, nx2, nx3, hld, hc0, ag9, hn, w_append, h1, a1, a2, a3]; done))) | (refine W_condF ?hc ?_; (case hc => (simp (disch := omega) only [go_sem, ↓reduceIte, Nat.reduceEqDiff, Nat.reduceAdd, Nat.reduceLeDiff, q1, q2, q3, q4, hlen, e1, e2, e4, e6, l2, l4, l4', c1, hi, idxA, Int.toNat_natCast, nx, nx2, nx3, hld, hc0, ag9, hn, w_append, h1, a1, a2, a3]; done))))
        refine W_ret ?_; try (repeat (first | refine thenI ?_ | refine thenE ?_ | refine thenR ?_ | refine inBI ?_ | refine inBR ?_ | refine inBS ?_ | refine inBN (by decide) ?_))
        refine finC2 (.inl rfl) (by (simp (disch := omega) only [go_sem, ↓reduceIte, Nat.reduceEqDiff, Nat.reduceAdd, Nat.reduceLeDiff, q1, q2, q3, q4, hlen, e1, e2, e4, e6, l2, l4, l4', c1, hi, idxA, Int.toNat_natCast, nx, nx2, nx3, a1, a2, a3]); try rfl) (by (simp (disch := omega) only [go_sem, ↓reduceIte, Nat.reduceEqDiff, Nat.reduceAdd, Nat.reduceLeDiff, q1, q2, q3, q4, hlen, e1, e2, e4, e6, l2, l4, l4', c1, hi, idxA, Int.toNat_natCast, nx, nx2, nx3]); try rfl) rfl ⟨h4.away.ext_of (Ext.app _ _) (.inr ⟨_, Nat.le_refl _, rfl⟩), [.string g.ops[j].nm, s1, .string g.ops[j].res], L1, rfl, ⟨_, rfl, h2⟩, h3⟩
      | false =>
        rw [hn] at hfd
        simp only at hfd
        repeat (first | (refine W_reg rfl fun G K hG hK => ?_; simp (disch := omega) only [go_sem, ↓reduceIte, Nat.reduceEqDiff, Nat.reduceAdd, Nat.reduceLeDiff, hG, q1, q2, q3, q4, hlen, e1, e2, e4, e6, l2, l4, l4', c1, hi, idxA, Int.toNat_natCast, nx, nx2, nx3, hc0, ag9, hn]; refine hK _ _ ?_; clear hK K hG G) | (refine W_end rfl fun G K hG hK => ?_; simp (disch := omega) only [go_sem, ↓reduceIte, Nat.reduceEqDiff, Nat.reduceAdd, Nat.reduceLeDiff, hG, q1, q2, q3, q4, hlen, e1, e2, e4, e6, l2, l4, l4', c1, hi, idxA, Int.toNat_natCast, nx, nx2, nx3, hc0, ag9, hn]; refine hK _ _ ?_; clear hK K hG G; repeat (first | refine thenI ?_ | refine thenE ?_ | refine thenR ?_ | refine inBI ?_ | refine inBR ?_ | refine inBS ?_ | refine inBN (by decide) ?_)) | refine W_seqS ?_ | refine W_seqC ?_ | refine W_seqB ?_ | refine W_block ?_ | (refine W_skip ?_; repeat (first | refine thenI ?_ | refine thenE ?_ | refine thenR ?_ | refine inBI ?_ | refine inBR ?_ | refine inBS ?_ | refine inBN (by decide) ?_)) | (refine W_condT ?hc ?_; (case hc => (simp (disch := omega) only [go_sem, ↓reduceIte, Nat.reduceEqDiff, Nat.reduceAdd, Nat.reduceLeDiff, q1, q2, q3, q4, hlen, e1, e2, e4, e6, l2, l4, l4', c1, hi, idxA, Int.toNat_natCast, nx, nx2, nx3, hc0, ag9, hn]; done))) | (refine W_condF ?hc ?_; (case hc => (simp (disch := omega) only [go_sem, ↓reduceIte, Nat.reduceEqDiff, Nat.reduceAdd, Nat.reduceLeDiff, q1, q2, q3, q4, hlen, e1, e2, e4, e6, l2, l4, l4', c1, hi, idxA, Int.toNat_natCast, nx, nx2, nx3, hc0, ag9, hn]; done))))
        refine ⟨g.ops.length - (j + 1), by omega, j + 1, rfl, by omega, rfl, hfd, (by (simp (disch := omega) only [go_sem, ↓reduceIte, Nat.reduceEqDiff, Nat.reduceAdd, Nat.reduceLeDiff, q1, q2, q3, q4, hlen, e1, e2, e4, e6, l2, l4, l4', c1, hi, idxA, Int.toNat_natCast, nx, nx2, nx3]); try rfl), (by (simp (disch := omega) only [go_sem, ↓reduceIte, Nat.reduceEqDiff, Nat.reduceAdd, Nat.reduceLeDiff, q1, q2, q3, q4, hlen, e1, e2, e4, e6, l2, l4, l4', c1, hi, idxA, Int.toNat_natCast, nx, nx2, nx3]); try rfl), (by (simp (disch := omega) only [go_sem, ↓reduceIte, Nat.reduceEqDiff, Nat.reduceAdd, Nat.reduceLeDiff, q1, q2, q3, q4, hlen, e1, e2, e4, e6, l2, l4, l4', c1, hi, idxA, Int.toNat_natCast, nx, nx2, nx3]); try rfl), (by (simp (disch := omega) only [go_sem, ↓reduceIte, Nat.reduceEqDiff, Nat.reduceAdd, Nat.reduceLeDiff, q1, q2, q3, q4, hlen, e1, e2, e4, e6, l2, l4, l4', c1, hi, idxA, Int.toNat_natCast, nx, nx2, nx3]); try rfl), (by (simp (disch := omega) only [go_sem, ↓reduceIte, Nat.reduceEqDiff, Nat.reduceAdd, Nat.reduceLeDiff, q1, q2, q3, q4, hlen, e1, e2, e4, e6, l2, l4, l4', c1, hi, idxA, Int.toNat_natCast, nx, nx2, nx3]); try rfl), ⟨(by (simp (disch := omega) only [go_sem, ↓reduceIte, Nat.reduceEqDiff, Nat.reduceAdd, Nat.reduceLeDiff, q1, q2, q3, q4, hlen, e1, e2, e4, e6, l2, l4, l4', c1, hi, idxA, Int.toNat_natCast, nx, nx2, nx3]); try rfl), (by (simp (disch := omega) only [go_sem, ↓reduceIte, Nat.reduceEqDiff, Nat.reduceAdd, Nat.reduceLeDiff, q1, q2, q3, q4, hlen, e1, e2, e4, e6, l2, l4, l4', c1, hi, idxA, Int.toNat_natCast, nx, nx2, nx3]); try rfl)⟩⟩
    · have c1 : decide ((j : Int) < (g.ops.length : Int)) = false := by simpa using hlt
      have hjn : j = g.ops.length := by omega
      subst hjn
      rw [List.drop_length] at hfd
      simp only [List.find?_nil] at hfd
      rw [hfd]
      repeat (first | (refine W_reg rfl fun G K hG hK => ?_; simp (disch := omega) only [go_sem, ↓reduceIte, Nat.reduceEqDiff, Nat.reduceAdd, Nat.reduceLeDiff, hG, q1, q2, q3, q4, hlen, e1, e2, e4, e6, l2, l4, l4', c1]; refine hK _ _ ?_; clear hK K hG G) | (refine W_end rfl fun G K hG hK => ?_; simp (disch := omega) only [go_sem, ↓reduceIte, Nat.reduceEqDiff, Nat.reduceAdd, Nat.reduceLeDiff, hG, q1, q2, q3, q4, hlen, e1, e2, e4, e6, l2, l4, l4', c1]; refine hK _ _ ?_; clear hK K hG G; repeat (first | refine thenI ?_ | refine thenE ?_ | refine thenR ?_ | refine inBI ?_ | refine inBR ?_ | refine inBS ?_ | refine inBN (by decide) ?_)) | refine W_seqS ?_ | refine W_seqC ?_ | refine W_seqB ?_ | refine W_block ?_ | (refine W_skip ?_; repeat (first | refine thenI ?_ | refine thenE ?_ | refine thenR ?_ | refine inBI ?_ | refine inBR ?_ | refine inBS ?_ | refine inBN (by decide) ?_)) | (refine W_condT ?hc ?_; (case hc => (simp (disch := omega) only [go_sem, ↓reduceIte, Nat.reduceEqDiff, Nat.reduceAdd, Nat.reduceLeDiff, q1, q2, q3, q4, hlen, e1, e2, e4, e6, l2, l4, l4', c1]; done))) | (refine W_condF ?hc ?_; (case hc => (simp (disch := omega) only [go_sem, ↓reduceIte, Nat.reduceEqDiff, Nat.reduceAdd, Nat.reduceLeDiff, q1, q2, q3, q4, hlen, e1, e2, e4, e6, l2, l4, l4', c1]; done))))
      refine W_exit ?_; repeat (first | refine thenI ?_ | refine thenE ?_ | refine thenR ?_ | refine inBI ?_ | refine inBR ?_ | refine inBS ?_ | refine inBN (by decide) ?_)
      repeat (first | (refine W_reg rfl fun G K hG hK => ?_; simp (disch := omega) only [go_sem, ↓reduceIte, Nat.reduceEqDiff, Nat.reduceAdd, Nat.reduceLeDiff, hG, q1, q2, q3, q4, hlen, e1, e2, e4, e6, l2, l4, l4', c1]; refine hK _ _ ?_; clear hK K hG G) | (refine W_end rfl fun G K hG hK => ?_; simp (disch := omega) only [go_sem, ↓reduceIte, Nat.reduceEqDiff, Nat.reduceAdd, Nat.reduceLeDiff, hG, q1, q2, q3, q4, hlen, e1, e2, e4, e6, l2, l4, l4', c1]; refine hK _ _ ?_; clear hK K hG G; repeat (first | refine thenI ?_ | refine thenE ?_ | refine thenR ?_ | refine inBI ?_ | refine inBR ?_ | refine inBS ?_ | refine inBN (by decide) ?_)) | refine W_seqS ?_ | refine W_seqC ?_ | refine W_seqB ?_ | refine W_block ?_ | (refine W_skip ?_; repeat (first | refine thenI ?_ | refine thenE ?_ | refine thenR ?_ | refine inBI ?_ | refine inBR ?_ | refine inBS ?_ | refine inBN (by decide) ?_)) | (refine W_condT ?hc ?_; (case hc => (simp (disch := omega) only [go_sem, ↓reduceIte, Nat.reduceEqDiff, Nat.reduceAdd, Nat.reduceLeDiff, q1, q2, q3, q4, hlen, e1, e2, e4, e6, l2, l4, l4', c1]; done))) | (refine W_condF ?hc ?_; (case hc => (simp (disch := omega) only [go_sem, ↓reduceIte, Nat.reduceEqDiff, Nat.reduceAdd, Nat.reduceLeDiff, q1, q2, q3, q4, hlen, e1, e2, e4, e6, l2, l4, l4', c1]; done))))
      refine W_ret ?_; try (repeat (first | refine thenI ?_ | refine thenE ?_ | refine thenR ?_ | refine inBI ?_ | refine inBR ?_ | refine inBS ?_ | refine inBN (by decide) ?_))
      refine finC2 (.inl rfl) (by (simp (disch := omega) only [go_sem, ↓reduceIte, Nat.reduceEqDiff, Nat.reduceAdd, Nat.reduceLeDiff, q1, q2, q3, q4, hlen, e1, e2, e4, e6, l2, l4, l4', c1]); try rfl) (by (simp (disch := omega) only [go_sem, ↓reduceIte, Nat.reduceEqDiff, Nat.reduceAdd, Nat.reduceLeDiff, q1, q2, q3, q4, hlen, e1, e2, e4, e6, l2, l4, l4', c1]); try rfl) rfl ⟨Ext.refl _, [.string ⟨#[]⟩, .slice none 0 0, .string ⟨#[]⟩], [], rfl, ⟨_, rfl, Sl.nil _⟩, .nil _⟩
end Go.Proofs.Ytbenknjfncmbdaa.AM


/- Sorts of variables: laws.eqVarSort, eqVarSortS, markVarSortS, heldVarSortS. -/
namespace Go.Proofs.Ytbenknjfncmbdaa.AM
open Go Go.Proofs
set_option linter.unusedVariables false
set_option linter.unusedSimpArgs false
set_option maxRecDepth 100000
attribute [local go_sem] List.map_cons List.map_nil List.all_cons List.all_nil Bool.and_self Option.map_some List.getElem?_toArray Option.bind_some gye_b gye_t gsk_b gsk_t gb1 gb2 gb3 gb4 bne_self_eq_false beq_self_eq_true w_guard w_nil stepV_some step_some step_some' w_move w_assign w_pick w_binOp w_unOp w_load w_fieldAddr w_indexAddr w_len w_max w_index ev_max max_int ev_index w_box w_alloc w_store w_field w_extract w_nilCheck w_convert w_buildSlice w_build ev_buildL fillL_nil fillL_cons bs0 bs1 ev_conv ev_bin ev_un ev_pick ev_load ev_fieldAddr ev_indexAddr ev_len ev_field ev_extract ev_nilCheck fr_tmp fr_int fr_bool fr_str fr_nil fr_func put_some put_none bin_lss bin_leq bin_gtr bin_geq bin_eql bin_neq bin_add bin_sub bin_mul bin_seql bin_sneq un_not pick_ ext_ loadA_p cellAt_l cellAt_h okPtr_l okPtr_h fadA_p allocA_l storeA_l cells_agg cells_int cells_str cells_sl cells_bool flat_i flat_s flat_b flat_sl flat_nil loc_agg loc_int loc_str loc_sl loc_bool loc_fn loc_ptr okv_agg okv_int okv_str okv_sl okv_bool cellsFrom splice upd_eval argEnv_zero argEnv_succ ne_eq Nat.add_one_ne_zero not_false_eq_true List.not_mem_nil and_self decide_true List.getElem?_cons_zero List.getElem?_cons_succ List.size_toArray List.length_cons List.length_nil List.take_succ_cons List.take_zero List.drop_succ_cons List.drop_zero List.cons_append List.nil_append List.drop_nil Bool.not_true Bool.not_false Bool.false_eq_true Nat.zero_add Nat.add_zero wrap_in List.toList_toArray List.mem_cons or_self or_false false_or
attribute [local go_sem] ag22 ag23 ag25 ag26 ag28 ag3 ag34 ag36 ag38 ag40 ag59 ag68 ag69 ag9 bu59 bu69 by40 by59 by69 by9 el22 el23 el26 el31 el34 el38 el75 of25_0 of25_1 of28_0 of28_1 of28_2 of28_3 of36_0 of36_1 of40_0 of40_1 of40_2 of40_3 of59_0 of59_1 of68_0 of68_1 of68_2 of69_0 of69_1 of69_2 ro5_1 ro59_0 ro59_1 ro9_0 ro9_2 sz22 sz23 sz25 sz26 sz28 sz3 sz34 sz36 sz38 sz40 sz5 sz59 sz68 sz69 sz9 ze36 ze40 ze59 ze69 ze9
-- AUTO

/-- A variable and its sort. -/
structure VSort where
  nm : ByteArray
  srt : ByteArray
instance : Kind VSort where
  sz := 2
  e := 59
  enc := fun _ v cs => cs = [.string v.nm, .string v.srt]
  own := fun _ v cs L => cs = [.string v.nm, .string v.srt] ∧ L = []
  enc_len := fun _ _ _ h => by rw [h]; rfl
  enc_ext := fun _ _ _ _ _ h => h
  own_len := fun _ _ _ _ h => by rw [h.1]; rfl
  own_lt := fun _ _ _ _ h => by rw [h.2]; intro i hi; cases hi
  own_frame := fun _ _ _ _ _ _ h => h
  own_enc := fun _ _ _ _ h => h.1
instance : Marks VSort where
  mk1 := fun v k => (⟨mtext k, mtext (k + 1)⟩, k + 2)
  mk1_ge := fun v k => by simp only; omega
theorem mkL_vars (xs : List VSort) (k : Nat) : (mkL xs k).2 = k + 2 * xs.length := by
  induction xs generalizing k with
  | nil => rfl
  | cons x xs ih =>
    have h1 : (mkL (x :: xs) k).2 = (mkL xs (k + 2)).2 := rfl
    rw [h1, ih, List.length_cons]; omega
theorem row_atV {st : St} {xs : List VSort} {s : Value} (h : Rw st xs s) {j : Nat} {x : VSort} (hx : xs[j]? = some x) {n : Nat} (hn : xs.length = n := by rfl) : ∃ i o c, s = .slice (some ⟨i, o, none⟩) n c ∧ CellsAt st i (o + j * 2) [.string x.nm, .string x.srt] := by
  subst hn
  obtain ⟨i, o, c, cs, rfl, _, hE, hc⟩ := row_at h hx
  obtain rfl : cs = [.string x.nm, .string x.srt] := hE
  exact ⟨i, o, c, rfl, hc⟩
theorem eqVarSort_ok (v : VSort) (st : St) :
    CallS Try.prog 27 [.agg #[.string v.nm, .string v.srt], .agg #[.string v.nm, .string v.srt]] st fun r st' => r = .bool true ∧ st' = st := by
  refine CallS_of_W [] 15 Try.func27 rfl rfl rfl rfl (by simp) ?_
  repeat (first | (refine W_reg rfl fun G K hG hK => ?_; simp (disch := omega) only [go_sem, ↓reduceIte, Nat.reduceEqDiff, Nat.reduceAdd, Nat.reduceLeDiff, hG]; refine hK _ _ ?_; clear hK K hG G) | (refine W_end rfl fun G K hG hK => ?_; simp (disch := omega) only [go_sem, ↓reduceIte, Nat.reduceEqDiff, Nat.reduceAdd, Nat.reduceLeDiff, hG]; refine hK _ _ ?_; clear hK K hG G; repeat (first | refine thenI ?_ | refine thenE ?_ | refine thenR ?_ | refine inBI ?_ | refine inBR ?_ | refine inBS ?_ | refine inBN (by decide) ?_)) | refine W_seqS ?_ | refine W_seqC ?_ | refine W_seqB ?_ | refine W_block ?_ | (refine W_skip ?_; repeat (first | refine thenI ?_ | refine thenE ?_ | refine thenR ?_ | refine inBI ?_ | refine inBR ?_ | refine inBS ?_ | refine inBN (by decide) ?_)) | (refine W_condT ?hc ?_; (case hc => (simp (disch := omega) only [go_sem, ↓reduceIte, Nat.reduceEqDiff, Nat.reduceAdd, Nat.reduceLeDiff]; done))) | (refine W_condF ?hc ?_; (case hc => (simp (disch := omega) only [go_sem, ↓reduceIte, Nat.reduceEqDiff, Nat.reduceAdd, Nat.reduceLeDiff]; done))))
  refine W_ret ?_; try (repeat (first | refine thenI ?_ | refine thenE ?_ | refine thenR ?_ | refine inBI ?_ | refine inBR ?_ | refine inBS ?_ | refine inBN (by decide) ?_))
  refine fin1 (.inl rfl) (by (simp (disch := omega) only [go_sem, ↓reduceIte, Nat.reduceEqDiff, Nat.reduceAdd, Nat.reduceLeDiff]); try rfl) rfl ⟨rfl, rfl⟩
theorem eqVarSortS_ok (xs : List VSort) (st : St) (s s' : Value) (hbig : xs.length ≤ 4611686018427387904) (hr : Rw st xs s) (hr' : Rw st xs s') :
    CallS Try.prog 10 [s, s'] st fun r st' => r = .bool true ∧ st' = st := by
  refine CallS_of_W [] 27 Try.func10 rfl rfl rfl rfl (by simp) ?_
  have hlen : lenE Try.prog 31 s = some (.int .i64 xs.length) := row_len hr Try.underlying31
  have hlen' : lenE Try.prog 31 s' = some (.int .i64 xs.length) := row_len hr' Try.underlying31
  repeat (first | (refine W_reg rfl fun G K hG hK => ?_; simp (disch := omega) only [go_sem, ↓reduceIte, Nat.reduceEqDiff, Nat.reduceAdd, Nat.reduceLeDiff, hG, hlen, hlen']; refine hK _ _ ?_; clear hK K hG G) | (refine W_end rfl fun G K hG hK => ?_; simp (disch := omega) only [go_sem, ↓reduceIte, Nat.reduceEqDiff, Nat.reduceAdd, Nat.reduceLeDiff, hG, hlen, hlen']; refine hK _ _ ?_; clear hK K hG G; repeat (first | refine thenI ?_ | refine thenE ?_ | refine thenR ?_ | refine inBI ?_ | refine inBR ?_ | refine inBS ?_ | refine inBN (by decide) ?_)) | refine W_seqS ?_ | refine W_seqC ?_ | refine W_seqB ?_ | refine W_block ?_ | (refine W_skip ?_; repeat (first | refine thenI ?_ | refine thenE ?_ | refine thenR ?_ | refine inBI ?_ | refine inBR ?_ | refine inBS ?_ | refine inBN (by decide) ?_)) | (refine W_condT ?hc ?_; (case hc => (simp (disch := omega) only [go_sem, ↓reduceIte, Nat.reduceEqDiff, Nat.reduceAdd, Nat.reduceLeDiff, hlen, hlen']; done))) | (refine W_condF ?hc ?_; (case hc => (simp (disch := omega) only [go_sem, ↓reduceIte, Nat.reduceEqDiff, Nat.reduceAdd, Nat.reduceLeDiff, hlen, hlen']; done))))
  refine W_loop (fun d fr st' => ∃ (j : Nat) , d = xs.length - j ∧ j ≤ xs.length ∧ (st' = st) ∧ (fr.env 5 = .int .i64 j) ∧ (fr.env 0 = s) ∧ (fr.env 1 = s')) (xs.length) ?_ ?_
  · exact ⟨0, by omega, by omega, rfl, (by (simp (disch := omega) only [go_sem, ↓reduceIte, Nat.reduceEqDiff, Nat.reduceAdd, Nat.reduceLeDiff, hlen, hlen']); try rfl), (by (simp (disch := omega) only [go_sem, ↓reduceIte, Nat.reduceEqDiff, Nat.reduceAdd, Nat.reduceLeDiff, hlen, hlen']); try rfl), (by (simp (disch := omega) only [go_sem, ↓reduceIte, Nat.reduceEqDiff, Nat.reduceAdd, Nat.reduceLeDiff, hlen, hlen']); try rfl)⟩
  rintro d ⟨env, loc⟩ st' ⟨j, hd, hj, hst, e5, e0, e1⟩
  simp only at e5 e0 e1
  subst hst
  by_cases hlt : j < xs.length
  · have c1 : decide ((j : Int) < (xs.length : Int)) = true := by simpa using hlt
    have hi := idxOk hlt
    have hx : xs[j]? = some xs[j] := List.getElem?_eq_getElem hlt
    have htk : xs.take (j + 1) = xs.take j ++ [xs[j]] := List.take_succ_eq_append_getElem hlt
    obtain ⟨i, o, c, rfl, hcs⟩ := row_atV hr hx
    obtain ⟨i', o', c', rfl, hcs'⟩ := row_atV hr' hx
    have hld := fun loc => load_row (A := []) (loc := loc) ag59 sz59 rfl hcs
    have hld' := fun loc => load_row (A := []) (loc := loc) ag59 sz59 rfl hcs'
    repeat (first | (refine W_reg rfl fun G K hG hK => ?_; simp (disch := omega) only [go_sem, ↓reduceIte, Nat.reduceEqDiff, Nat.reduceAdd, Nat.reduceLeDiff, hG, hlen, hlen', e5, e0, e1, c1, hi, idxA, Int.toNat_natCast]; refine hK _ _ ?_; clear hK K hG G) | (refine W_end rfl fun G K hG hK => ?_; simp (disch := omega) only [go_sem, ↓reduceIte, Nat.reduceEqDiff, Nat.reduceAdd, Nat.reduceLeDiff, hG, hlen, hlen', e5, e0, e1, c1, hi, idxA, Int.toNat_natCast]; refine hK _ _ ?_; clear hK K hG G; repeat (first | refine thenI ?_ | refine thenE ?_ | refine thenR ?_ | refine inBI ?_ | refine inBR ?_ | refine inBS ?_ | refine inBN (by decide) ?_)) | refine W_seqS ?_ | refine W_seqC ?_ | refine W_seqB ?_ | refine W_block ?_ | (refine W_skip ?_; repeat (first | refine thenI ?_ | refine thenE ?_ | refine thenR ?_ | refine inBI ?_ | refine inBR ?_ | refine inBS ?_ | refine inBN (by decide) ?_)) | (refine W_condT ?hc ?_; (case hc => (simp (disch := omega) only [go_sem, ↓reduceIte, Nat.reduceEqDiff, Nat.reduceAdd, Nat.reduceLeDiff, hlen, hlen', e5, e0, e1, c1, hi, idxA, Int.toNat_natCast]; done))) | (refine W_condF ?hc ?_; (case hc => (simp (disch := omega) only [go_sem, ↓reduceIte, Nat.reduceEqDiff, Nat.reduceAdd, Nat.reduceLeDiff, hlen, hlen', e5, e0, e1, c1, hi, idxA, Int.toNat_natCast]; done))))
    (repeat (first | refine W_seqS ?_ | refine W_seqC ?_ | refine W_seqB ?_ | refine W_block ?_)); refine W_regD mixed [] [(0,false),(1,false),(2,false),(3,false),(4,false),(5,false),(6,false),(7,false),(8,false),(9,false)] rfl (by decide +kernel) fun G K hG hK => ?_; simp only [pickOps, List.filterMap_cons, List.filterMap_nil, List.getElem?_cons_zero, List.getElem?_cons_succ, Option.map_some]; simp (disch := omega) only [go_sem, ↓reduceIte, Nat.reduceEqDiff, Nat.reduceAdd, Nat.reduceLeDiff, hG, hlen, hlen', e5, e0, e1, c1, hi, idxA, Int.toNat_natCast, hld, hld']
    refine w_call (eqVarSort_ok xs[j] st') (by simp (disch := omega) only [go_sem, ↓reduceIte, Nat.reduceEqDiff, hlen, hlen', e5, e0, e1, c1, hi, idxA, Int.toNat_natCast]) ?hl ?_
    case hl => first | rfl | (simp only [go_sem, List.all_cons, List.all_nil, Bool.not_false, Bool.and_self, hlen, hlen', e5, e0, e1, c1, hi, idxA, Int.toNat_natCast]; done)
    rintro r_ s_ ⟨rfl, rfl⟩; refine ⟨fun e => (by cases e), ?_⟩
    simp (disch := omega) only [go_sem, ↓reduceIte, Nat.reduceEqDiff, Nat.reduceAdd, Nat.reduceLeDiff, hG, hlen, hlen', e5, e0, e1, c1, hi, idxA, Int.toNat_natCast]; refine hK _ _ ?_; clear hK K hG G; repeat (first | refine thenI ?_ | refine thenE ?_ | refine thenR ?_ | refine inBI ?_ | refine inBR ?_ | refine inBS ?_ | refine inBN (by decide) ?_)
    repeat (first | (refine W_reg rfl fun G K hG hK => ?_; simp (disch := omega) only [go_sem, ↓reduceIte, Nat.reduceEqDiff, Nat.reduceAdd, Nat.reduceLeDiff, hG, hlen, hlen', e5, e0, e1, c1, hi, idxA, Int.toNat_natCast]; refine hK _ _ ?_; clear hK K hG G) | (refine W_end rfl fun G K hG hK => ?_; simp (disch := omega) only [go_sem, ↓reduceIte, Nat.reduceEqDiff, Nat.reduceAdd, Nat.reduceLeDiff, hG, hlen, hlen', e5, e0, e1, c1, hi, idxA, Int.toNat_natCast]; refine hK _ _ ?_; clear hK K hG G; repeat (first | refine thenI ?_ | refine thenE ?_ | refine thenR ?_ | refine inBI ?_ | refine inBR ?_ | refine inBS ?_ | refine inBN (by decide) ?_)) | refine W_seqS ?_ | refine W_seqC ?_ | refine W_seqB ?_ | refine W_block ?_ | (refine W_skip ?_; repeat (first | refine thenI ?_ | refine thenE ?_ | refine thenR ?_ | refine inBI ?_ | refine inBR ?_ | refine inBS ?_ | refine inBN (by decide) ?_)) | (refine W_condT ?hc ?_; (case hc => (simp (disch := omega) only [go_sem, ↓reduceIte, Nat.reduceEqDiff, Nat.reduceAdd, Nat.reduceLeDiff, hlen, hlen', e5, e0, e1, c1, hi, idxA, Int.toNat_natCast]; done))) | (refine W_condF ?hc ?_; (case hc => (simp (disch := omega) only [go_sem, ↓reduceIte, Nat.reduceEqDiff, Nat.reduceAdd, Nat.reduceLeDiff, hlen, hlen', e5, e0, e1, c1, hi, idxA, Int.toNat_natCast]; done))))
    refine ⟨xs.length - (j + 1), by omega, j + 1, rfl, by omega, rfl, (by (simp (disch := omega) only [go_sem, ↓reduceIte, Nat.reduceEqDiff, Nat.reduceAdd, Nat.reduceLeDiff, hlen, hlen', e5, e0, e1, c1, hi, idxA, Int.toNat_natCast]); try rfl), (by (simp (disch := omega) only [go_sem, ↓reduceIte, Nat.reduceEqDiff, Nat.reduceAdd, Nat.reduceLeDiff, hlen, hlen', e5, e0, e1, c1, hi, idxA, Int.toNat_natCast]); try rfl), (by (simp (disch := omega) only [go_sem, ↓reduceIte, Nat.reduceEqDiff, Nat.reduceAdd, Nat.reduceLeDiff, hlen, hlen', e5, e0, e1, c1, hi, idxA, Int.toNat_natCast]); try rfl)⟩
  · have c1 : decide ((j : Int) < (xs.length : Int)) = false := by simpa using hlt
    have hjn : j = xs.length := by omega
    subst hjn
    repeat (first | (refine W_reg rfl fun G K hG hK => ?_; simp (disch := omega) only [go_sem, ↓reduceIte, Nat.reduceEqDiff, Nat.reduceAdd, Nat.reduceLeDiff, hG, hlen, hlen', e5, e0, e1, c1]; refine hK _ _ ?_; clear hK K hG G) | (refine W_end rfl fun G K hG hK => ?_; simp (disch := omega) only [go_sem, ↓reduceIte, Nat.reduceEqDiff, Nat.reduceAdd, Nat.reduceLeDiff, hG, hlen, hlen', e5, e0, e1, c1]; refine hK _ _ ?_; clear hK K hG G; repeat (first | refine thenI ?_ | refine thenE ?_ | refine thenR ?_ | refine inBI ?_ | refine inBR ?_ | refine inBS ?_ | refine inBN (by decide) ?_)) | refine W_seqS ?_ | refine W_seqC ?_ | refine W_seqB ?_ | refine W_block ?_ | (refine W_skip ?_; repeat (first | refine thenI ?_ | refine thenE ?_ | refine thenR ?_ | refine inBI ?_ | refine inBR ?_ | refine inBS ?_ | refine inBN (by decide) ?_)) | (refine W_condT ?hc ?_; (case hc => (simp (disch := omega) only [go_sem, ↓reduceIte, Nat.reduceEqDiff, Nat.reduceAdd, Nat.reduceLeDiff, hlen, hlen', e5, e0, e1, c1]; done))) | (refine W_condF ?hc ?_; (case hc => (simp (disch := omega) only [go_sem, ↓reduceIte, Nat.reduceEqDiff, Nat.reduceAdd, Nat.reduceLeDiff, hlen, hlen', e5, e0, e1, c1]; done))))
    refine W_exit ?_; repeat (first | refine thenI ?_ | refine thenE ?_ | refine thenR ?_ | refine inBI ?_ | refine inBR ?_ | refine inBS ?_ | refine inBN (by decide) ?_)
    repeat (first | (refine W_reg rfl fun G K hG hK => ?_; simp (disch := omega) only [go_sem, ↓reduceIte, Nat.reduceEqDiff, Nat.reduceAdd, Nat.reduceLeDiff, hG, hlen, hlen', e5, e0, e1, c1]; refine hK _ _ ?_; clear hK K hG G) | (refine W_end rfl fun G K hG hK => ?_; simp (disch := omega) only [go_sem, ↓reduceIte, Nat.reduceEqDiff, Nat.reduceAdd, Nat.reduceLeDiff, hG, hlen, hlen', e5, e0, e1, c1]; refine hK _ _ ?_; clear hK K hG G; repeat (first | refine thenI ?_ | refine thenE ?_ | refine thenR ?_ | refine inBI ?_ | refine inBR ?_ | refine inBS ?_ | refine inBN (by decide) ?_)) | refine W_seqS ?_ | refine W_seqC ?_ | refine W_seqB ?_ | refine W_block ?_ | (refine W_skip ?_; repeat (first | refine thenI ?_ | refine thenE ?_ | refine thenR ?_ | refine inBI ?_ | refine inBR ?_ | refine inBS ?_ | refine inBN (by decide) ?_)) | (refine W_condT ?hc ?_; (case hc => (simp (disch := omega) only [go_sem, ↓reduceIte, Nat.reduceEqDiff, Nat.reduceAdd, Nat.reduceLeDiff, hlen, hlen', e5, e0, e1, c1]; done))) | (refine W_condF ?hc ?_; (case hc => (simp (disch := omega) only [go_sem, ↓reduceIte, Nat.reduceEqDiff, Nat.reduceAdd, Nat.reduceLeDiff, hlen, hlen', e5, e0, e1, c1]; done))))
    refine W_ret ?_; try (repeat (first | refine thenI ?_ | refine thenE ?_ | refine thenR ?_ | refine inBI ?_ | refine inBR ?_ | refine inBS ?_ | refine inBN (by decide) ?_))
    refine fin1 (.inl rfl) (by (simp (disch := omega) only [go_sem, ↓reduceIte, Nat.reduceEqDiff, Nat.reduceAdd, Nat.reduceLeDiff, hlen, hlen', e5, e0, e1, c1]); try rfl) rfl ⟨rfl, rfl⟩
theorem markVarSortS_ok (xs : List VSort) (st : St) (s : Value) (L : List Nat) (k : Nat) (hbig : xs.length ≤ 1073741824) (hk : (mkL xs k).2 ≤ 4611686018427380000) (hs : Sl st xs s L) (hnd : L.Nodup) :
    CallS Try.prog 15 [s, .int .i64 k] st fun r st2 => r = .int .i64 (mkL xs k).2 ∧ Sl st2 (mkL xs k).1 s L ∧ st.length ≤ st2.length ∧ ∀ i, i < st.length → i ∉ L → st2[i]? = st[i]? := by
  refine CallS_of_W [] 29 Try.func15 rfl rfl rfl rfl (by simp) ?_
  repeat (first | (refine W_reg rfl fun G K hG hK => ?_; simp (disch := omega) only [go_sem, ↓reduceIte, Nat.reduceEqDiff, Nat.reduceAdd, Nat.reduceLeDiff, hG]; refine hK _ _ ?_; clear hK K hG G) | (refine W_end rfl fun G K hG hK => ?_; simp (disch := omega) only [go_sem, ↓reduceIte, Nat.reduceEqDiff, Nat.reduceAdd, Nat.reduceLeDiff, hG]; refine hK _ _ ?_; clear hK K hG G; repeat (first | refine thenI ?_ | refine thenE ?_ | refine thenR ?_ | refine inBI ?_ | refine inBR ?_ | refine inBS ?_ | refine inBN (by decide) ?_)) | refine W_seqS ?_ | refine W_seqC ?_ | refine W_seqB ?_ | refine W_block ?_ | (refine W_skip ?_; repeat (first | refine thenI ?_ | refine thenE ?_ | refine thenR ?_ | refine inBI ?_ | refine inBR ?_ | refine inBS ?_ | refine inBN (by decide) ?_)) | (refine W_condT ?hc ?_; (case hc => (simp (disch := omega) only [go_sem, ↓reduceIte, Nat.reduceEqDiff, Nat.reduceAdd, Nat.reduceLeDiff]; done))) | (refine W_condF ?hc ?_; (case hc => (simp (disch := omega) only [go_sem, ↓reduceIte, Nat.reduceEqDiff, Nat.reduceAdd, Nat.reduceLeDiff]; done))))
  refine W_loop (fun d fr st' => ∃ (j : Nat) , d = xs.length - j ∧ j ≤ xs.length ∧ (MarkSt xs k st s L j st') ∧ (fr.env 5 = .int .i64 j) ∧ (fr.env 0 = s) ∧ (fr.env 1 = .int .i64 (mkL (xs.take j) k).2)) (xs.length) ?_ ?_
  · exact ⟨0, by omega, by omega, .start hs, (by (simp (disch := omega) only [go_sem, ↓reduceIte, Nat.reduceEqDiff, Nat.reduceAdd, Nat.reduceLeDiff]); try rfl), (by (simp (disch := omega) only [go_sem, ↓reduceIte, Nat.reduceEqDiff, Nat.reduceAdd, Nat.reduceLeDiff]); try rfl), (by (simp (disch := omega) only [go_sem, ↓reduceIte, Nat.reduceEqDiff, Nat.reduceAdd, Nat.reduceLeDiff]); try rfl)⟩
  rintro d ⟨env, loc⟩ st' ⟨j, hd, hj, hm, e5, e0, e1⟩
  simp only at e5 e0 e1
  have hlen : lenE Try.prog 31 s = some (.int .i64 xs.length) := hm.len hj Try.underlying31
  by_cases hlt : j < xs.length
  · have c1 : decide ((j : Int) < (xs.length : Int)) = true := by simpa using hlt
    have hi := idxOk hlt
    have hx : xs[j]? = some xs[j] := List.getElem?_eq_getElem hlt
    have htk : xs.take (j + 1) = xs.take j ++ [xs[j]] := List.take_succ_eq_append_getElem hlt
    obtain ⟨_, hkb⟩ := mkL_at hlt k
    obtain ⟨i, c, l1, cx, l2, L1, Lx, L2, rfl, hL, hb, hcl, ⟨rfl, rfl⟩, hndx, hix, hib, hstep⟩ := hm.open hnd hlt
    have hsn := congrArg Prod.snd (mkL_snoc hlt k)
    simp only [Marks.mk1] at hkb hsn hstep
    generalize (mkL (xs.take j) k).2 = kj at *
    have hcl : l1.length = j * 2 := hcl
    have hb : st'[i]? = some ⟨l1 ++ .string xs[j].nm :: .string xs[j].srt :: l2, 59, 0⟩ := by rw [hb]; simp; rfl
    have w1 : IntKind.i64.wrap ((kj : Int) + 1) = ((kj + 1 : Nat) : Int) := by rw [wrap_in (by omega) (by omega)]; rfl
    have w2 : IntKind.i64.wrap (((kj + 1 : Nat) : Int) + 1) = ((kj + 2 : Nat) : Int) := by rw [wrap_in (by omega) (by omega)]; omega
    repeat (first | (refine W_reg rfl fun G K hG hK => ?_; simp (disch := omega) only [go_sem, ↓reduceIte, Nat.reduceEqDiff, Nat.reduceAdd, Nat.reduceLeDiff, hG, e5, e0, e1, c1, hi, idxA, Int.toNat_natCast, hlen, w1, w2]; refine hK _ _ ?_; clear hK K hG G) | (refine W_end rfl fun G K hG hK => ?_; simp (disch := omega) only [go_sem, ↓reduceIte, Nat.reduceEqDiff, Nat.reduceAdd, Nat.reduceLeDiff, hG, e5, e0, e1, c1, hi, idxA, Int.toNat_natCast, hlen, w1, w2]; refine hK _ _ ?_; clear hK K hG G; repeat (first | refine thenI ?_ | refine thenE ?_ | refine thenR ?_ | refine inBI ?_ | refine inBR ?_ | refine inBS ?_ | refine inBN (by decide) ?_)) | refine W_seqS ?_ | refine W_seqC ?_ | refine W_seqB ?_ | refine W_block ?_ | (refine W_skip ?_; repeat (first | refine thenI ?_ | refine thenE ?_ | refine thenR ?_ | refine inBI ?_ | refine inBR ?_ | refine inBS ?_ | refine inBN (by decide) ?_)) | (refine W_condT ?hc ?_; (case hc => (simp (disch := omega) only [go_sem, ↓reduceIte, Nat.reduceEqDiff, Nat.reduceAdd, Nat.reduceLeDiff, e5, e0, e1, c1, hi, idxA, Int.toNat_natCast, hlen, w1, w2]; done))) | (refine W_condF ?hc ?_; (case hc => (simp (disch := omega) only [go_sem, ↓reduceIte, Nat.reduceEqDiff, Nat.reduceAdd, Nat.reduceLeDiff, e5, e0, e1, c1, hi, idxA, Int.toNat_natCast, hlen, w1, w2]; done))))
    (repeat (first | refine W_seqS ?_ | refine W_seqC ?_ | refine W_seqB ?_ | refine W_block ?_)); refine W_reg rfl fun G K hG hK => ?_; simp (disch := omega) only [go_sem, ↓reduceIte, Nat.reduceEqDiff, Nat.reduceAdd, Nat.reduceLeDiff, hG, e5, e0, e1, c1, hi, idxA, Int.toNat_natCast, hlen, w1, w2]
    refine w_call (markText_ok kj st' (by omega)) (by simp (disch := omega) only [go_sem, ↓reduceIte, Nat.reduceEqDiff, e5, e0, e1, c1, hi, idxA, Int.toNat_natCast, hlen, w1, w2]) ?hl ?_
    case hl => first | rfl | (simp only [go_sem, List.all_cons, List.all_nil, Bool.not_false, Bool.and_self, e5, e0, e1, c1, hi, idxA, Int.toNat_natCast, hlen, w1, w2]; done)
    rintro r_ sa ⟨hx1, rfl⟩; refine ⟨fun e => (by cases e), ?_⟩
    obtain ⟨st1, k1, hb1, hn1, hf1⟩ := store_at (.string (mtext kj)) (o := j * 2) sz9 (hx1 _ _ hb) hcl rfl rfl
    simp (disch := omega) only [go_sem, ↓reduceIte, Nat.reduceEqDiff, Nat.reduceAdd, Nat.reduceLeDiff, hG, e5, e0, e1, c1, hi, idxA, Int.toNat_natCast, hlen, w1, w2, k1]; refine hK _ _ ?_; clear hK K hG G; repeat (first | refine thenI ?_ | refine thenE ?_ | refine thenR ?_ | refine inBI ?_ | refine inBR ?_ | refine inBS ?_ | refine inBN (by decide) ?_)
    repeat (first | (refine W_reg rfl fun G K hG hK => ?_; simp (disch := omega) only [go_sem, ↓reduceIte, Nat.reduceEqDiff, Nat.reduceAdd, Nat.reduceLeDiff, hG, e5, e0, e1, c1, hi, idxA, Int.toNat_natCast, hlen, w1, w2]; refine hK _ _ ?_; clear hK K hG G) | (refine W_end rfl fun G K hG hK => ?_; simp (disch := omega) only [go_sem, ↓reduceIte, Nat.reduceEqDiff, Nat.reduceAdd, Nat.reduceLeDiff, hG, e5, e0, e1, c1, hi, idxA, Int.toNat_natCast, hlen, w1, w2]; refine hK _ _ ?_; clear hK K hG G; repeat (first | refine thenI ?_ | refine thenE ?_ | refine thenR ?_ | refine inBI ?_ | refine inBR ?_ | refine inBS ?_ | refine inBN (by decide) ?_)) | refine W_seqS ?_ | refine W_seqC ?_ | refine W_seqB ?_ | refine W_block ?_ | (refine W_skip ?_; repeat (first | refine thenI ?_ | refine thenE ?_ | refine thenR ?_ | refine inBI ?_ | refine inBR ?_ | refine inBS ?_ | refine inBN (by decide) ?_)) | (refine W_condT ?hc ?_; (case hc => (simp (disch := omega) only [go_sem, ↓reduceIte, Nat.reduceEqDiff, Nat.reduceAdd, Nat.reduceLeDiff, e5, e0, e1, c1, hi, idxA, Int.toNat_natCast, hlen, w1, w2]; done))) | (refine W_condF ?hc ?_; (case hc => (simp (disch := omega) only [go_sem, ↓reduceIte, Nat.reduceEqDiff, Nat.reduceAdd, Nat.reduceLeDiff, e5, e0, e1, c1, hi, idxA, Int.toNat_natCast, hlen, w1, w2]; done))))
    (repeat (first | refine W_seqS ?_ | refine W_seqC ?_ | refine W_seqB ?_ | refine W_block ?_)); refine W_reg rfl fun G K hG hK => ?_; simp (disch := omega) only [go_sem, ↓reduceIte, Nat.reduceEqDiff, Nat.reduceAdd, Nat.reduceLeDiff, hG, e5, e0, e1, c1, hi, idxA, Int.toNat_natCast, hlen, w1, w2]
    refine w_call (markText_ok (kj + 1) st1 (by omega)) (by simp (disch := omega) only [go_sem, ↓reduceIte, Nat.reduceEqDiff, e5, e0, e1, c1, hi, idxA, Int.toNat_natCast, hlen, w1, w2]) ?hl ?_
    case hl => first | rfl | (simp only [go_sem, List.all_cons, List.all_nil, Bool.not_false, Bool.and_self, e5, e0, e1, c1, hi, idxA, Int.toNat_natCast, hlen, w1, w2]; done)
    rintro r_ sb ⟨hx2, rfl⟩; refine ⟨fun e => (by cases e), ?_⟩
    obtain ⟨st2, k2, hb2, hn2, hf2⟩ := store_at (e := 59) (c1 := l1 ++ [.string (mtext kj)]) (c2 := l2) (.string (mtext (kj + 1))) (st := sb) (x := .string xs[j].srt) (o := j * 2 + 1) sz9 (by rw [hx2 _ _ hb1]; simp) (by simp; omega) rfl rfl
    simp (disch := omega) only [go_sem, ↓reduceIte, Nat.reduceEqDiff, Nat.reduceAdd, Nat.reduceLeDiff, hG, e5, e0, e1, c1, hi, idxA, Int.toNat_natCast, hlen, w1, w2, k2]; refine hK _ _ ?_; clear hK K hG G; repeat (first | refine thenI ?_ | refine thenE ?_ | refine thenR ?_ | refine inBI ?_ | refine inBR ?_ | refine inBS ?_ | refine inBN (by decide) ?_)
    repeat (first | (refine W_reg rfl fun G K hG hK => ?_; simp (disch := omega) only [go_sem, ↓reduceIte, Nat.reduceEqDiff, Nat.reduceAdd, Nat.reduceLeDiff, hG, e5, e0, e1, c1, hi, idxA, Int.toNat_natCast, hlen, w1, w2]; refine hK _ _ ?_; clear hK K hG G) | (refine W_end rfl fun G K hG hK => ?_; simp (disch := omega) only [go_sem, ↓reduceIte, Nat.reduceEqDiff, Nat.reduceAdd, Nat.reduceLeDiff, hG, e5, e0, e1, c1, hi, idxA, Int.toNat_natCast, hlen, w1, w2]; refine hK _ _ ?_; clear hK K hG G; repeat (first | refine thenI ?_ | refine thenE ?_ | refine thenR ?_ | refine inBI ?_ | refine inBR ?_ | refine inBS ?_ | refine inBN (by decide) ?_)) | refine W_seqS ?_ | refine W_seqC ?_ | refine W_seqB ?_ | refine W_block ?_ | (refine W_skip ?_; repeat (first | refine thenI ?_ | refine thenE ?_ | refine thenR ?_ | refine inBI ?_ | refine inBR ?_ | refine inBS ?_ | refine inBN (by decide) ?_)) | (refine W_condT ?hc ?_; (case hc => (simp (disch := omega) only [go_sem, ↓reduceIte, Nat.reduceEqDiff, Nat.reduceAdd, Nat.reduceLeDiff, e5, e0, e1, c1, hi, idxA, Int.toNat_natCast, hlen, w1, w2]; done))) | (refine W_condF ?hc ?_; (case hc => (simp (disch := omega) only [go_sem, ↓reduceIte, Nat.reduceEqDiff, Nat.reduceAdd, Nat.reduceLeDiff, e5, e0, e1, c1, hi, idxA, Int.toNat_natCast, hlen, w1, w2]; done))))
    have hq1 := hx1.length
    have hq2 := hx2.length
    refine ⟨xs.length - (j + 1), by omega, j + 1, rfl, by omega, hstep st2 [.string (mtext kj), .string (mtext (kj + 1))] (by rw [hb2]; simp; rfl) (by omega) ⟨rfl, rfl⟩ fun q hq h h2 => by rw [hf2 q h, hx2.get (by omega), hf1 q h, hx1.get hq], (by (simp (disch := omega) only [go_sem, ↓reduceIte, Nat.reduceEqDiff, Nat.reduceAdd, Nat.reduceLeDiff, e5, e0, e1, c1, hi, idxA, Int.toNat_natCast, hlen, w1, w2, hsn]); try rfl), (by (simp (disch := omega) only [go_sem, ↓reduceIte, Nat.reduceEqDiff, Nat.reduceAdd, Nat.reduceLeDiff, e5, e0, e1, c1, hi, idxA, Int.toNat_natCast, hlen, w1, w2, hsn]); try rfl), (by (simp (disch := omega) only [go_sem, ↓reduceIte, Nat.reduceEqDiff, Nat.reduceAdd, Nat.reduceLeDiff, e5, e0, e1, c1, hi, idxA, Int.toNat_natCast, hlen, w1, w2, hsn]); try rfl)⟩
  · have c1 : decide ((j : Int) < (xs.length : Int)) = false := by simpa using hlt
    have hjn : j = xs.length := by omega
    subst hjn
    repeat (first | (refine W_reg rfl fun G K hG hK => ?_; simp (disch := omega) only [go_sem, ↓reduceIte, Nat.reduceEqDiff, Nat.reduceAdd, Nat.reduceLeDiff, hG, e5, e0, e1, c1, hlen]; refine hK _ _ ?_; clear hK K hG G) | (refine W_end rfl fun G K hG hK => ?_; simp (disch := omega) only [go_sem, ↓reduceIte, Nat.reduceEqDiff, Nat.reduceAdd, Nat.reduceLeDiff, hG, e5, e0, e1, c1, hlen]; refine hK _ _ ?_; clear hK K hG G; repeat (first | refine thenI ?_ | refine thenE ?_ | refine thenR ?_ | refine inBI ?_ | refine inBR ?_ | refine inBS ?_ | refine inBN (by decide) ?_)) | refine W_seqS ?_ | refine W_seqC ?_ | refine W_seqB ?_ | refine W_block ?_ | (refine W_skip ?_; repeat (first | refine thenI ?_ | refine thenE ?_ | refine thenR ?_ | refine inBI ?_ | refine inBR ?_ | refine inBS ?_ | refine inBN (by decide) ?_)) | (refine W_condT ?hc ?_; (case hc => (simp (disch := omega) only [go_sem, ↓reduceIte, Nat.reduceEqDiff, Nat.reduceAdd, Nat.reduceLeDiff, e5, e0, e1, c1, hlen]; done))) | (refine W_condF ?hc ?_; (case hc => (simp (disch := omega) only [go_sem, ↓reduceIte, Nat.reduceEqDiff, Nat.reduceAdd, Nat.reduceLeDiff, e5, e0, e1, c1, hlen]; done))))
    refine W_exit ?_; repeat (first | refine thenI ?_ | refine thenE ?_ | refine thenR ?_ | refine inBI ?_ | refine inBR ?_ | refine inBS ?_ | refine inBN (by decide) ?_)
    repeat (first | (refine W_reg rfl fun G K hG hK => ?_; simp (disch := omega) only [go_sem, ↓reduceIte, Nat.reduceEqDiff, Nat.reduceAdd, Nat.reduceLeDiff, hG, e5, e0, e1, c1]; refine hK _ _ ?_; clear hK K hG G) | (refine W_end rfl fun G K hG hK => ?_; simp (disch := omega) only [go_sem, ↓reduceIte, Nat.reduceEqDiff, Nat.reduceAdd, Nat.reduceLeDiff, hG, e5, e0, e1, c1]; refine hK _ _ ?_; clear hK K hG G; repeat (first | refine thenI ?_ | refine thenE ?_ | refine thenR ?_ | refine inBI ?_ | refine inBR ?_ | refine inBS ?_ | refine inBN (by decide) ?_)) | refine W_seqS ?_ | refine W_seqC ?_ | refine W_seqB ?_ | refine W_block ?_ | (refine W_skip ?_; repeat (first | refine thenI ?_ | refine thenE ?_ | refine thenR ?_ | refine inBI ?_ | refine inBR ?_ | refine inBS ?_ | refine inBN (by decide) ?_)) | (refine W_condT ?hc ?_; (case hc => (simp (disch := omega) only [go_sem, ↓reduceIte, Nat.reduceEqDiff, Nat.reduceAdd, Nat.reduceLeDiff, e5, e0, e1, c1]; done))) | (refine W_condF ?hc ?_; (case hc => (simp (disch := omega) only [go_sem, ↓reduceIte, Nat.reduceEqDiff, Nat.reduceAdd, Nat.reduceLeDiff, e5, e0, e1, c1]; done))))
    refine W_ret ?_; try (repeat (first | refine thenI ?_ | refine thenE ?_ | refine thenR ?_ | refine inBI ?_ | refine inBR ?_ | refine inBS ?_ | refine inBN (by decide) ?_))
    refine fin1 (.inl rfl) (by (simp (disch := omega) only [go_sem, ↓reduceIte, Nat.reduceEqDiff, Nat.reduceAdd, Nat.reduceLeDiff, e5, e0, e1, c1, List.take_length]); try rfl) rfl ⟨rfl, hm.stop, hm.le, hm.oth⟩
theorem heldVarSortS_ok (xs : List VSort) (st : St) (s : Value) (k : Nat) (hbig : xs.length ≤ 1073741824) (hk : (mkL xs k).2 ≤ 4611686018427380000) (hr : Rw st (mkL xs k).1 s) :
    CallS Try.prog 16 [s, .int .i64 k] st fun r st2 => Ext st st2 ∧ r = .int .i64 (mkL xs k).2 := by
  refine CallS_of_W [] 33 Try.func16 rfl rfl rfl rfl (by simp) ?_
  have hlen : lenE Try.prog 31 s = some (.int .i64 xs.length) := by have := row_len hr Try.underlying31; rwa [mkL_len] at this
  repeat (first | (refine W_reg rfl fun G K hG hK => ?_; simp (disch := omega) only [go_sem, ↓reduceIte, Nat.reduceEqDiff, Nat.reduceAdd, Nat.reduceLeDiff, hG, hlen]; refine hK _ _ ?_; clear hK K hG G) | (refine W_end rfl fun G K hG hK => ?_; simp (disch := omega) only [go_sem, ↓reduceIte, Nat.reduceEqDiff, Nat.reduceAdd, Nat.reduceLeDiff, hG, hlen]; refine hK _ _ ?_; clear hK K hG G; repeat (first | refine thenI ?_ | refine thenE ?_ | refine thenR ?_ | refine inBI ?_ | refine inBR ?_ | refine inBS ?_ | refine inBN (by decide) ?_)) | refine W_seqS ?_ | refine W_seqC ?_ | refine W_seqB ?_ | refine W_block ?_ | (refine W_skip ?_; repeat (first | refine thenI ?_ | refine thenE ?_ | refine thenR ?_ | refine inBI ?_ | refine inBR ?_ | refine inBS ?_ | refine inBN (by decide) ?_)) | (refine W_condT ?hc ?_; (case hc => (simp (disch := omega) only [go_sem, ↓reduceIte, Nat.reduceEqDiff, Nat.reduceAdd, Nat.reduceLeDiff, hlen]; done))) | (refine W_condF ?hc ?_; (case hc => (simp (disch := omega) only [go_sem, ↓reduceIte, Nat.reduceEqDiff, Nat.reduceAdd, Nat.reduceLeDiff, hlen]; done))))
  refine W_loop (fun d fr st' => ∃ (j : Nat) , d = xs.length - j ∧ j ≤ xs.length ∧ (Ext st st') ∧ (fr.env 5 = .int .i64 j) ∧ (fr.env 0 = s) ∧ (fr.env 1 = .int .i64 (mkL (xs.take j) k).2)) (xs.length) ?_ ?_
  · exact ⟨0, by omega, by omega, Ext.refl _, (by (simp (disch := omega) only [go_sem, ↓reduceIte, Nat.reduceEqDiff, Nat.reduceAdd, Nat.reduceLeDiff, hlen]); try rfl), (by (simp (disch := omega) only [go_sem, ↓reduceIte, Nat.reduceEqDiff, Nat.reduceAdd, Nat.reduceLeDiff, hlen]); try rfl), (by (simp (disch := omega) only [go_sem, ↓reduceIte, Nat.reduceEqDiff, Nat.reduceAdd, Nat.reduceLeDiff, hlen]); try rfl)⟩
  rintro d ⟨env, loc⟩ st' ⟨j, hd, hj, hext, e5, e0, e1⟩
  simp only at e5 e0 e1
  by_cases hlt : j < xs.length
  · have c1 : decide ((j : Int) < (xs.length : Int)) = true := by simpa using hlt
    have hi := idxOk hlt
    have hx : xs[j]? = some xs[j] := List.getElem?_eq_getElem hlt
    have htk : xs.take (j + 1) = xs.take j ++ [xs[j]] := List.take_succ_eq_append_getElem hlt
    obtain ⟨hat, hkb⟩ := mkL_at hlt k
    obtain ⟨i, o, c, rfl, hcs⟩ := row_atV hr hat (mkL_len _ _)
    have hsn := congrArg Prod.snd (mkL_snoc hlt k)
    simp only [Marks.mk1] at hkb hsn hcs
    generalize (mkL (xs.take j) k).2 = kj at *
    have q0 := cell_ext hext (hcs 0 _ rfl)
    rw [Nat.add_zero] at q0
    have w1 : IntKind.i64.wrap ((kj : Int) + 1) = ((kj + 1 : Nat) : Int) := by rw [wrap_in (by omega) (by omega)]; rfl
    have w2 : IntKind.i64.wrap (((kj + 1 : Nat) : Int) + 1) = ((kj + 2 : Nat) : Int) := by rw [wrap_in (by omega) (by omega)]; omega
    repeat (first | (refine W_reg rfl fun G K hG hK => ?_; simp (disch := omega) only [go_sem, ↓reduceIte, Nat.reduceEqDiff, Nat.reduceAdd, Nat.reduceLeDiff, hG, hlen, e5, e0, e1, c1, hi, idxA, Int.toNat_natCast, w1, w2]; refine hK _ _ ?_; clear hK K hG G) | (refine W_end rfl fun G K hG hK => ?_; simp (disch := omega) only [go_sem, ↓reduceIte, Nat.reduceEqDiff, Nat.reduceAdd, Nat.reduceLeDiff, hG, hlen, e5, e0, e1, c1, hi, idxA, Int.toNat_natCast, w1, w2]; refine hK _ _ ?_; clear hK K hG G; repeat (first | refine thenI ?_ | refine thenE ?_ | refine thenR ?_ | refine inBI ?_ | refine inBR ?_ | refine inBS ?_ | refine inBN (by decide) ?_)) | refine W_seqS ?_ | refine W_seqC ?_ | refine W_seqB ?_ | refine W_block ?_ | (refine W_skip ?_; repeat (first | refine thenI ?_ | refine thenE ?_ | refine thenR ?_ | refine inBI ?_ | refine inBR ?_ | refine inBS ?_ | refine inBN (by decide) ?_)) | (refine W_condT ?hc ?_; (case hc => (simp (disch := omega) only [go_sem, ↓reduceIte, Nat.reduceEqDiff, Nat.reduceAdd, Nat.reduceLeDiff, hlen, e5, e0, e1, c1, hi, idxA, Int.toNat_natCast, w1, w2]; done))) | (refine W_condF ?hc ?_; (case hc => (simp (disch := omega) only [go_sem, ↓reduceIte, Nat.reduceEqDiff, Nat.reduceAdd, Nat.reduceLeDiff, hlen, e5, e0, e1, c1, hi, idxA, Int.toNat_natCast, w1, w2]; done))))
    (repeat (first | refine W_seqS ?_ | refine W_seqC ?_ | refine W_seqB ?_ | refine W_block ?_)); refine W_regD mixed [] [(0,false),(1,false),(2,false),(3,false),(4,false),(5,false),(6,true),(7,false)] rfl (by decide +kernel) fun G K hG hK => ?_; simp only [pickOps, List.filterMap_cons, List.filterMap_nil, List.getElem?_cons_zero, List.getElem?_cons_succ, Option.map_some]; simp (disch := omega) only [go_sem, ↓reduceIte, Nat.reduceEqDiff, Nat.reduceAdd, Nat.reduceLeDiff, hG, hlen, e5, e0, e1, c1, hi, idxA, Int.toNat_natCast, w1, w2, q0, ag9]
    refine w_call (markText_ok kj st' (by omega)) (by simp (disch := omega) only [go_sem, ↓reduceIte, Nat.reduceEqDiff, hlen, e5, e0, e1, c1, hi, idxA, Int.toNat_natCast, w1, w2]) ?hl ?_
    case hl => first | rfl | (simp only [go_sem, List.all_cons, List.all_nil, Bool.not_false, Bool.and_self, hlen, e5, e0, e1, c1, hi, idxA, Int.toNat_natCast, w1, w2]; done)
    rintro r_ sa ⟨hx1, rfl⟩; refine ⟨fun e => hx1, ?_⟩
    simp (disch := omega) only [go_sem, ↓reduceIte, Nat.reduceEqDiff, Nat.reduceAdd, Nat.reduceLeDiff, hG, hlen, e5, e0, e1, c1, hi, idxA, Int.toNat_natCast, w1, w2]; refine hK _ _ ?_; clear hK K hG G; repeat (first | refine thenI ?_ | refine thenE ?_ | refine thenR ?_ | refine inBI ?_ | refine inBR ?_ | refine inBS ?_ | refine inBN (by decide) ?_)
    repeat (first | (refine W_reg rfl fun G K hG hK => ?_; simp (disch := omega) only [go_sem, ↓reduceIte, Nat.reduceEqDiff, Nat.reduceAdd, Nat.reduceLeDiff, hG, hlen, e5, e0, e1, c1, hi, idxA, Int.toNat_natCast, w1, w2]; refine hK _ _ ?_; clear hK K hG G) | (refine W_end rfl fun G K hG hK => ?_; simp (disch := omega) only [go_sem, ↓reduceIte, Nat.reduceEqDiff, Nat.reduceAdd, Nat.reduceLeDiff, hG, hlen, e5, e0, e1, c1, hi, idxA, Int.toNat_natCast, w1, w2]; refine hK _ _ ?_; clear hK K hG G; repeat (first | refine thenI ?_ | refine thenE ?_ | refine thenR ?_ | refine inBI ?_ | refine inBR ?_ | refine inBS ?_ | refine inBN (by decide) ?_)) | refine W_seqS ?_ | refine W_seqC ?_ | refine W_seqB ?_ | refine W_block ?_ | (refine W_skip ?_; repeat (first | refine thenI ?_ | refine thenE ?_ | refine thenR ?_ | refine inBI ?_ | refine inBR ?_ | refine inBS ?_ | refine inBN (by decide) ?_)) | (refine W_condT ?hc ?_; (case hc => (simp (disch := omega) only [go_sem, ↓reduceIte, Nat.reduceEqDiff, Nat.reduceAdd, Nat.reduceLeDiff, hlen, e5, e0, e1, c1, hi, idxA, Int.toNat_natCast, w1, w2]; done))) | (refine W_condF ?hc ?_; (case hc => (simp (disch := omega) only [go_sem, ↓reduceIte, Nat.reduceEqDiff, Nat.reduceAdd, Nat.reduceLeDiff, hlen, e5, e0, e1, c1, hi, idxA, Int.toNat_natCast, w1, w2]; done))))
    have q1 : cell sa i (o + j * 2 + 1) = _ := cell_ext (hext.trans hx1) (hcs 1 _ rfl)
    (repeat (first | refine W_seqS ?_ | refine W_seqC ?_ | refine W_seqB ?_ | refine W_block ?_)); refine W_regD mixed [] [(0,false),(1,false),(2,false),(3,false),(4,false),(5,false),(6,true),(7,false)] rfl (by decide +kernel) fun G K hG hK => ?_; simp only [pickOps, List.filterMap_cons, List.filterMap_nil, List.getElem?_cons_zero, List.getElem?_cons_succ, Option.map_some]; simp (disch := omega) only [go_sem, ↓reduceIte, Nat.reduceEqDiff, Nat.reduceAdd, Nat.reduceLeDiff, hG, hlen, e5, e0, e1, c1, hi, idxA, Int.toNat_natCast, w1, w2, q1, ag9]
    refine w_call (markText_ok (kj + 1) sa (by omega)) (by simp (disch := omega) only [go_sem, ↓reduceIte, Nat.reduceEqDiff, hlen, e5, e0, e1, c1, hi, idxA, Int.toNat_natCast, w1, w2]) ?hl ?_
    case hl => first | rfl | (simp only [go_sem, List.all_cons, List.all_nil, Bool.not_false, Bool.and_self, hlen, e5, e0, e1, c1, hi, idxA, Int.toNat_natCast, w1, w2]; done)
    rintro r_ sb ⟨hx2, rfl⟩; refine ⟨fun e => hx2, ?_⟩
    simp (disch := omega) only [go_sem, ↓reduceIte, Nat.reduceEqDiff, Nat.reduceAdd, Nat.reduceLeDiff, hG, hlen, e5, e0, e1, c1, hi, idxA, Int.toNat_natCast, w1, w2]; refine hK _ _ ?_; clear hK K hG G; repeat (first | refine thenI ?_ | refine thenE ?_ | refine thenR ?_ | refine inBI ?_ | refine inBR ?_ | refine inBS ?_ | refine inBN (by decide) ?_)
    repeat (first | (refine W_reg rfl fun G K hG hK => ?_; simp (disch := omega) only [go_sem, ↓reduceIte, Nat.reduceEqDiff, Nat.reduceAdd, Nat.reduceLeDiff, hG, hlen, e5, e0, e1, c1, hi, idxA, Int.toNat_natCast, w1, w2]; refine hK _ _ ?_; clear hK K hG G) | (refine W_end rfl fun G K hG hK => ?_; simp (disch := omega) only [go_sem, ↓reduceIte, Nat.reduceEqDiff, Nat.reduceAdd, Nat.reduceLeDiff, hG, hlen, e5, e0, e1, c1, hi, idxA, Int.toNat_natCast, w1, w2]; refine hK _ _ ?_; clear hK K hG G; repeat (first | refine thenI ?_ | refine thenE ?_ | refine thenR ?_ | refine inBI ?_ | refine inBR ?_ | refine inBS ?_ | refine inBN (by decide) ?_)) | refine W_seqS ?_ | refine W_seqC ?_ | refine W_seqB ?_ | refine W_block ?_ | (refine W_skip ?_; repeat (first | refine thenI ?_ | refine thenE ?_ | refine thenR ?_ | refine inBI ?_ | refine inBR ?_ | refine inBS ?_ | refine inBN (by decide) ?_)) | (refine W_condT ?hc ?_; (case hc => (simp (disch := omega) only [go_sem, ↓reduceIte, Nat.reduceEqDiff, Nat.reduceAdd, Nat.reduceLeDiff, hlen, e5, e0, e1, c1, hi, idxA, Int.toNat_natCast, w1, w2]; done))) | (refine W_condF ?hc ?_; (case hc => (simp (disch := omega) only [go_sem, ↓reduceIte, Nat.reduceEqDiff, Nat.reduceAdd, Nat.reduceLeDiff, hlen, e5, e0, e1, c1, hi, idxA, Int.toNat_natCast, w1, w2]; done))))
    refine ⟨xs.length - (j + 1), by omega, j + 1, rfl, by omega, (hext.trans hx1).trans hx2, (by (simp (disch := omega) only [go_sem, ↓reduceIte, Nat.reduceEqDiff, Nat.reduceAdd, Nat.reduceLeDiff, hlen, e5, e0, e1, c1, hi, idxA, Int.toNat_natCast, w1, w2, hsn]); try rfl), (by (simp (disch := omega) only [go_sem, ↓reduceIte, Nat.reduceEqDiff, Nat.reduceAdd, Nat.reduceLeDiff, hlen, e5, e0, e1, c1, hi, idxA, Int.toNat_natCast, w1, w2, hsn]); try rfl), (by (simp (disch := omega) only [go_sem, ↓reduceIte, Nat.reduceEqDiff, Nat.reduceAdd, Nat.reduceLeDiff, hlen, e5, e0, e1, c1, hi, idxA, Int.toNat_natCast, w1, w2, hsn]); try rfl)⟩
  · have c1 : decide ((j : Int) < (xs.length : Int)) = false := by simpa using hlt
    have hjn : j = xs.length := by omega
    subst hjn
    repeat (first | (refine W_reg rfl fun G K hG hK => ?_; simp (disch := omega) only [go_sem, ↓reduceIte, Nat.reduceEqDiff, Nat.reduceAdd, Nat.reduceLeDiff, hG, hlen, e5, e0, e1, c1]; refine hK _ _ ?_; clear hK K hG G) | (refine W_end rfl fun G K hG hK => ?_; simp (disch := omega) only [go_sem, ↓reduceIte, Nat.reduceEqDiff, Nat.reduceAdd, Nat.reduceLeDiff, hG, hlen, e5, e0, e1, c1]; refine hK _ _ ?_; clear hK K hG G; repeat (first | refine thenI ?_ | refine thenE ?_ | refine thenR ?_ | refine inBI ?_ | refine inBR ?_ | refine inBS ?_ | refine inBN (by decide) ?_)) | refine W_seqS ?_ | refine W_seqC ?_ | refine W_seqB ?_ | refine W_block ?_ | (refine W_skip ?_; repeat (first | refine thenI ?_ | refine thenE ?_ | refine thenR ?_ | refine inBI ?_ | refine inBR ?_ | refine inBS ?_ | refine inBN (by decide) ?_)) | (refine W_condT ?hc ?_; (case hc => (simp (disch := omega) only [go_sem, ↓reduceIte, Nat.reduceEqDiff, Nat.reduceAdd, Nat.reduceLeDiff, hlen, e5, e0, e1, c1]; done))) | (refine W_condF ?hc ?_; (case hc => (simp (disch := omega) only [go_sem, ↓reduceIte, Nat.reduceEqDiff, Nat.reduceAdd, Nat.reduceLeDiff, hlen, e5, e0, e1, c1]; done))))
    refine W_exit ?_; repeat (first | refine thenI ?_ | refine thenE ?_ | refine thenR ?_ | refine inBI ?_ | refine inBR ?_ | refine inBS ?_ | refine inBN (by decide) ?_)
    repeat (first | (refine W_reg rfl fun G K hG hK => ?_; simp (disch := omega) only [go_sem, ↓reduceIte, Nat.reduceEqDiff, Nat.reduceAdd, Nat.reduceLeDiff, hG, hlen, e5, e0, e1, c1]; refine hK _ _ ?_; clear hK K hG G) | (refine W_end rfl fun G K hG hK => ?_; simp (disch := omega) only [go_sem, ↓reduceIte, Nat.reduceEqDiff, Nat.reduceAdd, Nat.reduceLeDiff, hG, hlen, e5, e0, e1, c1]; refine hK _ _ ?_; clear hK K hG G; repeat (first | refine thenI ?_ | refine thenE ?_ | refine thenR ?_ | refine inBI ?_ | refine inBR ?_ | refine inBS ?_ | refine inBN (by decide) ?_)) | refine W_seqS ?_ | refine W_seqC ?_ | refine W_seqB ?_ | refine W_block ?_ | (refine W_skip ?_; repeat (first | refine thenI ?_ | refine thenE ?_ | refine thenR ?_ | refine inBI ?_ | refine inBR ?_ | refine inBS ?_ | refine inBN (by decide) ?_)) | (refine W_condT ?hc ?_; (case hc => (simp (disch := omega) only [go_sem, ↓reduceIte, Nat.reduceEqDiff, Nat.reduceAdd, Nat.reduceLeDiff, hlen, e5, e0, e1, c1]; done))) | (refine W_condF ?hc ?_; (case hc => (simp (disch := omega) only [go_sem, ↓reduceIte, Nat.reduceEqDiff, Nat.reduceAdd, Nat.reduceLeDiff, hlen, e5, e0, e1, c1]; done))))
    refine W_ret ?_; try (repeat (first | refine thenI ?_ | refine thenE ?_ | refine thenR ?_ | refine inBI ?_ | refine inBR ?_ | refine inBS ?_ | refine inBN (by decide) ?_))
    refine fin1 (.inl rfl) (by (simp (disch := omega) only [go_sem, ↓reduceIte, Nat.reduceEqDiff, Nat.reduceAdd, Nat.reduceLeDiff, hlen, e5, e0, e1, c1, List.take_length]); try rfl) rfl ⟨hext, rfl⟩
end Go.Proofs.Ytbenknjfncmbdaa.AM


/- Sorts of terms; sorts of variables inferred. -/
namespace Go.Proofs.Ytbenknjfncmbdaa.AM
open Go Go.Proofs
set_option linter.unusedVariables false
set_option linter.unusedSimpArgs false

def emptyB : ByteArray := ⟨#[]⟩
def lookV (nm : ByteArray) (vs : List VSort) : Option VSort := vs.find? fun v => v.nm.toList == nm.toList
def lookS (nm : ByteArray) (vs : List VSort) : ByteArray := match lookV nm vs with
  | some v => v.srt
  | none => emptyB
/-- The sorts of the arguments are those that the operation asks for. -/
def okSorts : List ByteArray → List ByteArray → Bool
  | x :: xs, y :: ys => !(x.toList == emptyB.toList) && ((x.toList == y.toList) && okSorts xs ys)
  | _, _ => true
mutual
def T.sortOf (g : Sgn) (vs : List VSort) : T → ByteArray
  | .mk k n nm args => if (k == 3) = true then wordB else if (k == 1) = true then lookS nm vs
    else if (k == 2) = true then (if (findOp g nm).2 = true then (if (((findOp g nm).1.args.length : Int) == (args.length : Int)) = true then (if okSorts (T.sortsL g vs args) (findOp g nm).1.args = true then (findOp g nm).1.res else emptyB) else emptyB) else emptyB)
    else emptyB
def T.sortsL (g : Sgn) (vs : List VSort) : List T → List ByteArray
  | [] => []
  | x :: xs => T.sortOf g vs x :: T.sortsL g vs xs
end
theorem T.sortOf_word {g : Sgn} {vs : List VSort} {k n : Int} {nm : ByteArray} {args : List T} (h : (k == 3) = true) : T.sortOf g vs (.mk k n nm args) = wordB := by simp only [T.sortOf, h, if_true]
theorem T.sortOf_var {g : Sgn} {vs : List VSort} {k n : Int} {nm : ByteArray} {args : List T} (h3 : (k == 3) = false) (h : (k == 1) = true) : T.sortOf g vs (.mk k n nm args) = lookS nm vs := by simp only [T.sortOf, h3, h, if_true, Bool.false_eq_true, if_false]
theorem T.sortOf_none {g : Sgn} {vs : List VSort} {k n : Int} {nm : ByteArray} {args : List T} (h3 : (k == 3) = false) (h1 : (k == 1) = false) (h2 : (k == 2) = false) : T.sortOf g vs (.mk k n nm args) = emptyB := by simp only [T.sortOf, h3, h1, h2, Bool.false_eq_true, if_false]
theorem T.sortOf_app {g : Sgn} {vs : List VSort} {k n : Int} {nm : ByteArray} {args : List T} (h3 : (k == 3) = false) (h1 : (k == 1) = false) (h2 : (k == 2) = true) : T.sortOf g vs (.mk k n nm args) = if (findOp g nm).2 = true then (if (((findOp g nm).1.args.length : Int) == (args.length : Int)) = true then (if okSorts (T.sortsL g vs args) (findOp g nm).1.args = true then (findOp g nm).1.res else emptyB) else emptyB) else emptyB := by simp only [T.sortOf, h3, h1, h2, if_true, Bool.false_eq_true, if_false]
theorem T.sortsL_map (g : Sgn) (vs : List VSort) (xs : List T) : T.sortsL g vs xs = xs.map (T.sortOf g vs) := by
  induction xs with
  | nil => rfl
  | cons x xs ih => simp only [T.sortsL, List.map_cons, ih]
theorem okSorts_step {xs ys : List ByteArray} {j : Nat} (h1 : j < xs.length) (h2 : j < ys.length) : okSorts (xs.drop j) (ys.drop j) = (!(xs[j].toList == emptyB.toList) && ((xs[j].toList == ys[j].toList) && okSorts (xs.drop (j + 1)) (ys.drop (j + 1)))) := by
  rw [List.drop_eq_getElem_cons h1, List.drop_eq_getElem_cons h2]; rfl
def opOf (g : Sgn) (k : Int) (nm : ByteArray) : Opr := if (k == 2) = true then (findOp g nm).1 else Opr.zero
mutual
def T.inferF (g : Sgn) : T → ByteArray → List VSort → Option (List VSort)
  | .mk k n nm args, w, vs => if (k == 1) = true then (match lookV nm vs with
      | some v => if (v.srt.toList == w.toList) = true then some vs else none
      | none => some (vs ++ [⟨nm, w⟩]))
    else T.inferL g args (opOf g k nm).args vs
def T.inferL (g : Sgn) : List T → List ByteArray → List VSort → Option (List VSort)
  | [], _, vs => some vs
  | x :: xs, ws, vs => match T.inferF g x (ws.headD emptyB) vs with
    | none => none
    | some vs' => T.inferL g xs ws.tail vs'
end
theorem T.inferF_var {g : Sgn} {k n : Int} {nm w : ByteArray} {args : List T} {vs : List VSort} (h : (k == 1) = true) : T.inferF g (.mk k n nm args) w vs = (match lookV nm vs with
      | some v => if (v.srt.toList == w.toList) = true then some vs else none
      | none => some (vs ++ [⟨nm, w⟩])) := by simp only [T.inferF, h, if_true]
theorem T.inferF_app {g : Sgn} {k n : Int} {nm w : ByteArray} {args : List T} {vs : List VSort} (h : (k == 1) = false) : T.inferF g (.mk k n nm args) w vs = T.inferL g args (opOf g k nm).args vs := by simp only [T.inferF, h, Bool.false_eq_true, if_false]
theorem T.inferF_len (g : Sgn) : ∀ (t : T) (w : ByteArray) (vs vs' : List VSort), T.inferF g t w vs = some vs' → vs'.length ≤ vs.length + t.wt + 1 := by
  refine T.ind fun k n nm args ih w vs vs' h => ?_
  cases hk : (k == 1) with
  | true =>
    rw [T.inferF_var hk] at h
    cases hl : lookV nm vs with
    | some v =>
      rw [hl] at h
      simp only at h
      split at h
      · cases h; omega
      · cases h
    | none =>
      rw [hl] at h
      cases h
      simp
  | false =>
    rw [T.inferF_app hk] at h
    have hL : ∀ (xs : List T) (ws : List ByteArray) (vs : List VSort), (∀ a ∈ xs, a ∈ args) → T.inferL g xs ws vs = some vs' → vs'.length ≤ vs.length + T.wtL xs + xs.length := by
      intro xs
      induction xs with
      | nil => intro ws vs _ h; simp only [T.inferL, Option.some.injEq] at h; subst h; simp
      | cons x xs ihx =>
        intro ws vs hm h
        simp only [T.inferL] at h
        split at h
        · cases h
        · rename_i vs2 h2
          have h3 := ih x (hm x (by simp)) _ _ _ h2
          have h4 := ihx _ _ (fun a ha => hm a (by simp [ha])) h
          simp only [T.wtL, List.length_cons]; omega
    have := hL args _ vs (fun a ha => ha) h
    simp only [T.wt]; omega
/-- What the inference comes to. -/
def inferV (g : Sgn) (t : T) (w : ByteArray) : List VSort × Bool := match T.inferF g t w [] with
  | none => ([], false)
  | some vs => if (w.toList == emptyB.toList) = true then ([], false) else if ((T.sortOf g vs t).toList == w.toList) = true then (vs, true) else ([], false)
theorem inferV_len (g : Sgn) (t : T) (w : ByteArray) : (inferV g t w).1.length ≤ t.wt + 1 := by
  unfold inferV
  split
  · simp
  · rename_i vs h
    have := T.inferF_len g t w [] vs h
    simp only [List.length_nil, Nat.zero_add] at this
    split
    · simp
    · split
      · exact this
      · simp
end Go.Proofs.Ytbenknjfncmbdaa.AM


/- Names drawn: l1Pick out of a list literal, l2Any, l2List, DrawSortNames. -/
namespace Go.Proofs.Ytbenknjfncmbdaa.AM
open Go Go.Proofs
set_option linter.unusedVariables false
set_option linter.unusedSimpArgs false
set_option maxRecDepth 100000
attribute [local go_sem] List.map_cons List.map_nil List.all_cons List.all_nil Bool.and_self Option.map_some List.getElem?_toArray Option.bind_some gye_b gye_t gsk_b gsk_t gb1 gb2 gb3 gb4 bne_self_eq_false beq_self_eq_true w_guard w_nil stepV_some step_some step_some' w_move w_assign w_pick w_binOp w_unOp w_load w_fieldAddr w_indexAddr w_len w_max w_index ev_max max_int ev_index w_box w_alloc w_store w_field w_extract w_nilCheck w_convert w_buildSlice w_build ev_buildL fillL_nil fillL_cons bs0 bs1 ev_conv ev_bin ev_un ev_pick ev_load ev_fieldAddr ev_indexAddr ev_len ev_field ev_extract ev_nilCheck fr_tmp fr_int fr_bool fr_str fr_nil fr_func put_some put_none bin_lss bin_leq bin_gtr bin_geq bin_eql bin_neq bin_add bin_sub bin_mul bin_seql bin_sneq un_not pick_ ext_ loadA_p cellAt_l cellAt_h okPtr_l okPtr_h fadA_p allocA_l storeA_l cells_agg cells_int cells_str cells_sl cells_bool flat_i flat_s flat_b flat_sl flat_nil loc_agg loc_int loc_str loc_sl loc_bool loc_fn loc_ptr okv_agg okv_int okv_str okv_sl okv_bool cellsFrom splice upd_eval argEnv_zero argEnv_succ ne_eq Nat.add_one_ne_zero not_false_eq_true List.not_mem_nil and_self decide_true List.getElem?_cons_zero List.getElem?_cons_succ List.size_toArray List.length_cons List.length_nil List.take_succ_cons List.take_zero List.drop_succ_cons List.drop_zero List.cons_append List.nil_append List.drop_nil Bool.not_true Bool.not_false Bool.false_eq_true Nat.zero_add Nat.add_zero wrap_in List.toList_toArray List.mem_cons or_self or_false false_or
attribute [local go_sem] ag22 ag23 ag25 ag26 ag28 ag3 ag34 ag36 ag38 ag40 ag59 ag68 ag69 ag9 bu59 bu69 by40 by59 by69 by9 el22 el23 el26 el31 el34 el38 el75 of25_0 of25_1 of28_0 of28_1 of28_2 of28_3 of36_0 of36_1 of40_0 of40_1 of40_2 of40_3 of59_0 of59_1 of68_0 of68_1 of68_2 of69_0 of69_1 of69_2 ro5_1 ro59_0 ro59_1 ro9_0 ro9_2 sz22 sz23 sz25 sz26 sz28 sz3 sz34 sz36 sz38 sz40 sz5 sz59 sz68 sz69 sz9 ze36 ze40 ze59 ze69 ze9
-- AUTO

def isStrB : Value → Bool
  | .string _ => true
  | _ => false
def strB : Value → ByteArray
  | .string s => s
  | _ => ⟨#[]⟩
theorem strs_map {cs : List Value} (h : cs.all isStrB = true) : cs = (cs.map strB).map Value.string := by
  rw [List.map_map]
  refine ((List.map_congr_left fun v hv => ?_).trans (List.map_id cs)).symm
  have := List.all_eq_true.1 h v hv
  cases v <;> first | rfl | cases this
theorem row_last (st : St) (ns : List ByteArray) (t : TypeId) (n : Nat) : Rw (st ++ [⟨ns.map Value.string, t, 0⟩]) ns (.slice (some ⟨st.length, 0, none⟩) ns.length n) := .inr ⟨st.length, 0, n, rfl, fun j x hx => ⟨[.string x], rfl, rfl, fun k v hv => by
  have hk : k = 0 := by have := (List.getElem?_eq_some_iff.1 hv).1; simp at this; omega
  subst hk
  have hj := List.getElem?_eq_some_iff.1 hx
  obtain ⟨hj1, hj2⟩ := hj
  have : v = .string x := by simpa using hv.symm
  subst this
  simp [cell, hx, show Kind.sz ByteArray = 1 from rfl]⟩⟩
theorem size_of_mem2 {w : ByteArray} {cs : List Value} {m : Nat} (h : Value.string w ∈ cs) (hs : cs.all (fun v => match v with | .string s => decide (s.size ≤ m) | _ => false) = true) : w.size ≤ m := by
  have := List.all_eq_true.1 hs _ h
  simpa using this
theorem rwI_away {st st' : St} {xs : List Int} {s : Value} {q : Nat} (h : Rw st xs s) (ha : Away (some q) st st') (hn : topId s ≠ some q) : Rw st' xs s := by
  rcases h with h | ⟨i, o, c, rfl, h⟩
  · exact .inl h
  · refine .inr ⟨i, o, c, rfl, fun j x hx => ?_⟩
    obtain ⟨cs, h1, h2, h3⟩ := h j x hx
    refine ⟨cs, h1, h2, fun k v hv => ?_⟩
    have h4 := h3 k v hv
    have hi : i < st.length := by
      unfold cell at h4
      rcases Nat.lt_or_ge i st.length with h5 | h5
      · exact h5
      · rw [List.getElem?_eq_none h5] at h4; cases h4
    have h5 := ha.2 i hi (fun e => hn e.symm)
    unfold cell at h4 ⊢
    rw [h5]; exact h4
end Go.Proofs.Ytbenknjfncmbdaa.AM


/- Regions that draw their order, walked in several orders; some pairs change places by what is known where they stand. -/
namespace Go.Proofs.Ytbenknjfncmbdaa.AM
open Go
set_option linter.unusedVariables false
set_option linter.unusedSimpArgs false

/-- What is known goes on over an operation. -/
def Keeps (P : Program) (A H : List Tmp) (G : Nat → Option Tmp) (I : Fr → St → Prop) (a : Oper × Bool) : Prop := ∀ (R : List (Oper × Bool)) (K : Fr → St → Prop) (fr : Fr) (st : St), I fr st → WOps P A H G (a :: R) K fr st → WOps P A H G [a] (fun fr st => I fr st ∧ WOps P A H G R K fr st) fr st
/-- Two operations change places, by what is known. -/
def SwI (P : Program) (A H : List Tmp) (G : Nat → Option Tmp) (I : Fr → St → Prop) (a x : Oper × Bool) : Prop := ∀ (R : List (Oper × Bool)) (K : Fr → St → Prop) (fr : Fr) (st : St), I fr st → WOps P A H G (a :: x :: R) K fr st → WOps P A H G (x :: a :: R) K fr st
theorem WOps_unhead {P : Program} {A H : List Tmp} {G : Nat → Option Tmp} {ox : Oper × Bool} {R : List (Oper × Bool)} {K : Fr → St → Prop} {fr : Fr} {st : St} (h : WOps P A H G [ox] (fun fr st => WOps P A H G R K fr st) fr st) : WOps P A H G (ox :: R) K fr st := by
  obtain ⟨o, x⟩ := ox
  unfold WOps at h ⊢
  exact h
theorem hopI {P : Program} {A H : List Tmp} {G : Nat → Option Tmp} {I : Fr → St → Prop} {x : Oper × Bool} {rest : List (Oper × Bool)} {K : Fr → St → Prop} : ∀ (As : List (Oper × Bool)), (∀ a ∈ As, SwI P A H G I a x ∧ Keeps P A H G I a) → ∀ fr st, I fr st → WOps P A H G (As ++ x :: rest) K fr st → WOps P A H G (x :: (As ++ rest)) K fr st := by
  intro As
  induction As with
  | nil => intro _ fr st _ h; exact h
  | cons a As ih =>
    intro hs fr st hI h
    refine (hs a (by simp)).1 _ _ _ _ hI (WOps_unhead ?_)
    exact ((hs a (by simp)).2 _ _ _ _ hI h).mono fun fr st ⟨h1, h2⟩ => ih (fun b hb => hs b (by simp [hb])) fr st h1 h2
def swapOkL (SP : List (Nat × Nat)) (A H : List Tmp) (l : List Oper) (p q : Nat × Bool) : Bool := swapOk A H l p q || SP.contains (p.1, q.1)
/-- Pairs of operations whose order counts. -/
def exmL (SP : List (Nat × Nat)) (A H : List Tmp) (l : List Oper) (T : List (List Nat)) : List (Nat × Bool) → List (Nat × Nat)
  | [] => []
  | p :: rest => ((rest.filter fun q => !((T.getD q.1 []).contains p.1 || swapOkL SP A H l p q)).map fun q => (p.1, q.1)) ++ exmL SP A H l T rest
def keepOL (SP : List (Nat × Nat)) (A H : List Tmp) (l : List Oper) (done : List Nat) (x : Nat) (π : List (Nat × Bool)) : Bool := (exmL SP A H l (ancT l) π).all fun pq => pq.2 != x || done.contains pq.1
/-- Whatever is drawn, one of the orders goes with it. -/
def gameL (SP : List (Nat × Nat)) (A H : List Tmp) (l : List Oper) (E : List Nat) : Nat → List (List (Nat × Bool)) → List Nat → Bool
  | 0, act, done => !act.isEmpty && E.all fun e => done.contains e
  | k + 1, act, done => !act.isEmpty && E.all fun e => done.contains e || !(((ancT l).getD e []).filter E.contains).all (done.contains ·) || gameL SP A H l E k (goOn l e (act.filter (keepOL SP A H l done e))) (e :: done)
def inEL (SP : List (Nat × Nat)) (A H : List Tmp) (l : List Oper) (E : List Nat) (π : List (Nat × Bool)) : Bool := (exmL SP A H l (ancT l) π).all fun pq => E.contains pq.1 && E.contains pq.2
def chkML (SP : List (Nat × Nat)) (A H : List Tmp) (l : List Oper) (E : List Nat) (PS : List (List (Nat × Bool))) : Bool :=
  tabOk l (ancT l) && (List.range l.length).all (fun i => E.contains i || !((l[i]?).bind fun o => callOf o.op).isSome) && PS.all (fun π => chk1 l π && inEL SP A H l E π) && gameL SP A H l E E.length PS []

theorem exm_specL {SP : List (Nat × Nat)} {A H : List Tmp} {l : List Oper} {T : List (List Nat)} : ∀ {π : List (Nat × Bool)} (X : List (Nat × Bool)) (q : Nat × Bool) (Y : List (Nat × Bool)), π = X ++ q :: Y → ∀ p ∈ X, p.1 ∈ T.getD q.1 [] ∨ swapOkL SP A H l p q = true ∨ (p.1, q.1) ∈ exmL SP A H l T π := by
  intro π
  induction π with
  | nil => intro X q Y e; cases X <;> cases e
  | cons r π ih =>
    intro X q Y e p hp
    cases X with
    | nil => cases hp
    | cons r' X =>
      injection e with e1 e2
      subst e1
      cases hp with
      | head =>
        cases hb : ((T.getD q.1 []).contains r.1 || swapOkL SP A H l r q) with
        | true =>
          rcases Bool.or_eq_true_iff.1 hb with h | h
          · exact .inl (by simpa using h)
          · exact .inr (.inl h)
        | false =>
          refine .inr (.inr ?_)
          simp only [exmL]
          refine List.mem_append_left _ (List.mem_map.2 ⟨q, List.mem_filter.2 ⟨by rw [e2]; simp, by rw [hb]; rfl⟩, rfl⟩)
      | tail _ hp =>
        rcases ih X q Y e2 p hp with h | h | h
        · exact .inl h
        · exact .inr (.inl h)
        · exact .inr (.inr (by simp only [exmL]; exact List.mem_append_right _ h))

section
variable {P : Program} {A H : List Tmp} {G : Nat → Option Tmp}
theorem wpAny_soundML {I : Fr → St → Prop} {SP : List (Nat × Nat)} {n : Nat} {B : Base} {l : List Oper} {E : List Nat} (hKeep : ∀ o ∈ l, ∀ x, Keeps P A H G I (o, x)) (hSP : ∀ p q a x, (p, q) ∈ SP → l[p]? = some a → l[q]? = some x → ∀ fp fq, SwI P A H G I (a, fp) (x, fq)) (ctab : tabOk l (ancT l) = true) (ccall : ∀ i o, l[i]? = some o → i ∉ E → callOf o.op = none) (hd : ∀ o ∈ l, ∀ t, o.dst = some t → t < n)
    (hG : ∀ j, G j = (l.toArray[j]?).bind (·.dst)) {K : Fr → St → Prop} {Q : Exit → Act → World → Prop}
    (hQ : ∀ fr' st' M' L' a' w', K fr' st' → Rel P B M' L' n fr' st' a' w' → Q .normal a' w') :
    ∀ (fuel k : Nat) (act : List (List (Nat × Bool))) (done : List Nat) (listed : Array Bool) (fr : Fr) (st : St) (M : List ME) (L : Nat → Nat) (a : Act) (w : World), (∀ π ∈ act, chk1 l π = true ∧ inEL SP A H l E π = true) → gameL SP A H l E k act done = true → (∀ e ∈ E, e ∈ done ↔ listed.getD e false = true) →
      listed.size = l.length → (∀ π ∈ act, (rem π listed).length = fuel) → (∀ i, i < l.length → listed.getD i false = true → ∀ d ∈ deps l i, listed.getD d false = true) →
      Rel P B M L n fr st a w → I fr st → (∀ π ∈ act, WOps P A H G (pickOps l (rem π listed)) K fr st) → wpAny P .any l.toArray Q fuel listed a w := by
  intro fuel
  induction fuel with
  | zero =>
    intro k act done listed fr st M L a w hchk hgame hdone hsz hlen hcl R hI h
    obtain ⟨π, hπ⟩ : ∃ π, π ∈ act := by
      cases act with
      | nil => cases k <;> simp [gameL] at hgame
      | cons π _ => exact ⟨π, by simp⟩
    have hc := (hchk π hπ).1
    unfold chk1 at hc
    simp only [Bool.and_eq_true] at hc
    obtain ⟨⟨⟨c1, c2⟩, c3⟩, c5⟩ := hc
    have cover : ∀ i, i < l.length → ∃ p ∈ π, p.1 = i := by
      intro i hi
      have := List.all_eq_true.1 c2 i (by simpa using hi)
      simpa using this
    have hrem : rem π listed = [] := List.eq_nil_of_length_eq_zero (hlen π hπ)
    refine ⟨?_, ?_⟩
    · apply List.eq_nil_iff_forall_not_mem.2
      intro i hi
      obtain ⟨h1, h2, h3⟩ := mem_ready.1 hi
      obtain ⟨p, hp, rfl⟩ := cover i h1
      have : p ∈ rem π listed := mem_rem.2 ⟨hp, h2⟩
      rw [hrem] at this
      cases this
    · have := h π hπ
      rw [hrem] at this
      exact hQ _ _ _ _ _ _ this R
  | succ fuel ih =>
    intro k act done listed fr st M L a w hchk hgame hdone hsz hlen hcl R hI h
    refine ⟨fun hr => ?_, fun i hi => ?_⟩
    · -- something is ready
      exfalso
      obtain ⟨π, hπ⟩ : ∃ π, π ∈ act := by
        cases act with
        | nil => cases k <;> simp [gameL] at hgame
        | cons π _ => exact ⟨π, by simp⟩
      have hc := (hchk π hπ).1
      unfold chk1 at hc
      simp only [Bool.and_eq_true] at hc
      obtain ⟨⟨⟨c1, c2⟩, c3⟩, c5⟩ := hc
      have inl : ∀ p ∈ π, p.1 < l.length := fun p hp => by have := List.all_eq_true.1 c3 p hp; simpa using this
      have hlen := hlen π hπ
      have hex := rem_split (π := π) (listed := listed) (by intro e; rw [e] at hlen; cases hlen)
      obtain ⟨X, q, Y, e, h1, h2⟩ := hex
      have hq : q.1 < l.length := inl q (by rw [e]; simp)
      have : q.1 ∈ Region.ready .any l.toArray listed := by
        refine mem_ready.2 ⟨hq, h2, fun d hd => ?_⟩
        rcases topoOk_spec c5 X q Y e d hd with hd | ⟨p, hp, rfl⟩
        · cases hd
        · have h3 := h1 p hp
          have hp' : p.1 < listed.size := by rw [hsz]; exact inl p (by rw [e]; simp [hp])
          rw [getD_lt hp' false true]; exact h3
      rw [hr] at this
      cases this
    · obtain ⟨h1, h2, h3⟩ := mem_ready.1 hi
      obtain ⟨o, ho⟩ : ∃ o, l[i]? = some o := ⟨_, List.getElem?_eq_getElem h1⟩
      have hq' : i < listed.size := by rw [hsz]; exact h1
      -- the orders that go on, and the gameL that goes on
      obtain ⟨k', act', done', hact, hgame', hone, hdone', hkeep⟩ : ∃ k' act' done', (∀ π ∈ act', π ∈ act) ∧ gameL SP A H l E k' act' done' = true ∧ (callOf o.op = none ∨ ∃ π, act' = [π]) ∧ (∀ e ∈ E, e ∈ done' ↔ (e = i ∨ listed.getD e false = true)) ∧ ∀ π ∈ act', ∀ p, (p, i) ∈ exmL SP A H l (ancT l) π → listed.getD p false = true := by
        by_cases hE : i ∈ E
        · have hnd : i ∉ done := fun hh => by
            have := (hdone i hE).1 hh
            rw [getD_lt hq' false true] at this
            rw [h2] at this; cases this
          cases k with
          | zero =>
            exfalso
            simp only [gameL, Bool.and_eq_true] at hgame
            have := List.all_eq_true.1 hgame.2 i hE
            exact hnd (by simpa using this)
          | succ k =>
            simp only [gameL, Bool.and_eq_true] at hgame
            have h4 := List.all_eq_true.1 hgame.2 i hE
            simp only [Bool.or_eq_true, Bool.not_eq_true'] at h4
            have h5 : gameL SP A H l E k (goOn l i (act.filter (keepOL SP A H l done i))) (i :: done) = true := by
              rcases h4 with (h4 | h4) | h4
              · exact absurd (by simpa using h4) hnd
              · exfalso
                have h6 : (((ancT l).getD i []).filter E.contains).all (done.contains ·) = true := by
                  refine List.all_eq_true.2 fun d hdm => ?_
                  obtain ⟨hd1, hd2⟩ := List.mem_filter.1 hdm
                  have hl2 := tab_closed ctab (fun j => listed.getD j false = true) hcl i h1 h3 d hd1
                  have := (hdone d (by simpa using hd2)).2 hl2
                  simpa using this
                rw [h6] at h4
                cases h4
              · exact h4
            refine ⟨k, _, _, fun π hπ => (List.mem_filter.1 (goOn_sub π hπ)).1, h5, ?_, fun e he => ?_, fun π hπ p hp => ?_⟩
            · cases hcl2 : callOf o.op with
              | none => exact .inl rfl
              | some c =>
                refine .inr ?_
                have hgo : goOn l i (act.filter (keepOL SP A H l done i)) = (act.filter (keepOL SP A H l done i)).take 1 := by unfold goOn; rw [ho]; simp [hcl2]
                rw [hgo]
                rw [hgo] at h5
                cases hf : act.filter (keepOL SP A H l done i) with
                | nil => rw [hf] at h5; cases k <;> simp [gameL] at h5
                | cons π _ => exact ⟨π, rfl⟩
            · rw [List.mem_cons, hdone e he]
            · have hπ := goOn_sub π hπ
              have h6 := (List.mem_filter.1 hπ).2
              unfold keepOL at h6
              have h7 := List.all_eq_true.1 h6 _ hp
              simp only [bne_self_eq_false, Bool.false_or] at h7
              have hpE : p ∈ E := by
                have := (hchk π (List.mem_filter.1 hπ).1).2
                unfold inEL at this
                have := List.all_eq_true.1 this _ hp
                simp only [Bool.and_eq_true] at this
                simpa using this.1
              exact (hdone p hpE).1 (by simpa using h7)
        · refine ⟨k, act, done, fun _ h => h, hgame, .inl (ccall i o ho hE), fun e he => ⟨fun hh => .inr ((hdone e he).1 hh), fun hh => ?_⟩, fun π hπ p hp => ?_⟩
          · rcases hh with rfl | hh
            · exact absurd he hE
            · exact (hdone e he).2 hh
          · exfalso
            have := (hchk π hπ).2
            unfold inEL at this
            have := List.all_eq_true.1 this _ hp
            simp only [Bool.and_eq_true] at this
            exact hE (by simpa using this.2)
      have hgetD : ∀ (j : Nat) (b : Bool), j < listed.size → (listed.setIfInBounds i true).getD j b = if j = i then true else listed.getD j b := by
        intro j b hj
        simp only [Array.getD_eq_getD_getElem?, Array.getElem?_setIfInBounds]
        by_cases e : j = i
        · subst e; simp [hj]
        · simp [e, Ne.symm e]
      -- one step, for each order
      have hall : ∀ π ∈ act', ∃ x R', rem π (listed.setIfInBounds i true) = R' ∧ R'.length = fuel ∧ WOps P A H G ((o, x) :: pickOps l R') K fr st := by
        intro π hπ'
        have hπ := hact π hπ'
        have hc := (hchk π hπ).1
        unfold chk1 at hc
        simp only [Bool.and_eq_true] at hc
        obtain ⟨⟨⟨c1, c2⟩, c3⟩, c5⟩ := hc
        have cover : ∀ i, i < l.length → ∃ p ∈ π, p.1 = i := by
          intro i hi
          have := List.all_eq_true.1 c2 i (by simpa using hi)
          simpa using this
        have inl : ∀ p ∈ π, p.1 < l.length := fun p hp => by have := List.all_eq_true.1 c3 p hp; simpa using this
        have hlen := hlen π hπ
        have h := h π hπ
        have hex : ∃ X q Y, rem π listed = X ++ q :: Y ∧ q.1 = i ∧ ∃ X' Y', π = X' ++ q :: Y' ∧ (∀ p ∈ X, p ∈ X') := by
          obtain ⟨q, hq, rfl⟩ := cover i h1
          obtain ⟨X', Y', e⟩ := List.append_of_mem hq
          refine ⟨rem X' listed, q, rem Y' listed, ?_, rfl, X', Y', e, fun p hp => (List.mem_filter.1 hp).1⟩
          rw [e]
          unfold rem
          rw [List.filter_append, List.filter_cons, h2]
          rfl
        obtain ⟨X, q, Y, e, rfl, X', Y', e', hX⟩ := hex
        have hop' := hopI (P := P) (A := A) (H := H) (G := G) (I := I) (K := K) (x := (o, q.2)) (rest := pickOps l Y) (pickOps l X) (fun ax hax => by
          obtain ⟨p, hp, hpo, hpx⟩ := mem_pickOps hax
          have hno : listed.getD p.1 false ≠ true := fun hl2 => by
            have hmem : p ∈ rem π listed := by rw [e]; simp [hp]
            have := (mem_rem.1 hmem).2
            have hp' : p.1 < listed.size := by rw [hsz]; exact (List.getElem?_eq_some_iff.1 hpo).1
            rw [getD_lt hp' true false] at this
            exact absurd (hl2.symm.trans this) (by simp)
          have hsw : swapOkL SP A H l p q = true := by
            rcases exm_specL (SP := SP) (A := A) (H := H) (l := l) (T := ancT l) X' q Y' e' p (hX p hp) with ht | hs | hx
            · exact absurd (tab_closed ctab (fun i => listed.getD i false = true) hcl q.1 h1 h3 p.1 ht) hno
            · exact hs
            · exact absurd (hkeep π hπ' p.1 hx) hno
          obtain ⟨a1, a2⟩ := ax
          simp only at hpx hpo
          refine ⟨?_, hKeep a1 (List.mem_of_getElem? hpo) a2⟩
          unfold swapOkL at hsw
          rcases Bool.or_eq_true_iff.1 hsw with hs | hs
          · have := swapOk_spec hpo ho hs
            rw [hpx] at this
            exact fun R K fr st _ h => hop (ops := l.toArray) (x := (o, q.2)) (rest := R) hG [(a1, a2)] (fun c hc => by rw [List.mem_singleton.1 hc]; exact this) fr st h
          · exact hSP p.1 q.1 a1 o (by simpa using hs) hpo ho a2 q.2) fr st hI (by rw [e, pickOps_app, pickOps_cons ho] at h; exact h)
        have hrem' : ∀ Z : List (Nat × Bool), (∀ p ∈ Z, p.1 < l.length) → rem Z (listed.setIfInBounds q.1 true) = (rem Z listed).filter fun p => p.1 != q.1 := by
          intro Z hZ
          unfold rem
          rw [List.filter_filter]
          apply List.filter_congr
          intro p hp
          rw [hgetD p.1 true (by rw [hsz]; exact hZ p hp)]
          by_cases e : p.1 = q.1
          · simp [e]
          · simp [e]
        have hnd : (π.map (·.1)).Nodup := nodupB_spec c1.2
        have hXY : rem π (listed.setIfInBounds q.1 true) = X ++ Y := by
          rw [hrem' π inl, e]
          have hnd2 : ((X ++ q :: Y).map (·.1)).Nodup := by
            rw [← e]
            exact hnd.sublist (List.Sublist.map _ List.filter_sublist)
          rw [List.map_append, List.map_cons] at hnd2
          have hni := List.nodup_append.1 hnd2
          rw [List.filter_append, List.filter_cons]
          simp only [bne_self_eq_false, Bool.false_eq_true, if_false]
          congr 1
          · apply List.filter_eq_self.2
            intro p hp
            have : p.1 ≠ q.1 := fun e => hni.2.2 p.1 (List.mem_map.2 ⟨p, hp, rfl⟩) q.1 (by simp) e
            simpa using this
          · apply List.filter_eq_self.2
            intro p hp
            have : p.1 ≠ q.1 := fun e => (List.nodup_cons.1 hni.2.1).1 (e ▸ List.mem_map.2 ⟨p, hp, rfl⟩)
            simpa using this
        refine ⟨q.2, X ++ Y, hXY, ?_, by rw [pickOps_app]; exact hop'⟩
        rw [e] at hlen
        simp only [List.length_append, List.length_cons] at hlen ⊢
        omega
      obtain ⟨π0, hπ0⟩ : ∃ π, π ∈ act' := by
        cases act' with
        | nil => cases k' <;> simp [gameL] at hgame'
        | cons π _ => exact ⟨π, by simp⟩
      have hone2 : ∃ x, WOps P A H G [(o, x)] (fun fr st => ∀ π ∈ act', WOps P A H G (pickOps l (rem π (listed.setIfInBounds i true))) K fr st) fr st := by
        rcases hone with hn | ⟨π, rfl⟩
        · refine ⟨false, WOps_conj hn ⟨π0, hπ0⟩ fun π hπ => ?_⟩
          obtain ⟨x, R', h4, _, h5⟩ := hall π hπ
          exact ⟨x, by rw [h4]; exact WOps_head h5⟩
        · obtain ⟨x, R', h4, _, h5⟩ := hall π (by simp)
          refine ⟨x, (WOps_head h5).mono fun fr st hq π' hπ' => ?_⟩
          obtain rfl := List.mem_singleton.1 hπ'
          rw [h4]; exact hq
      obtain ⟨x, hw1⟩ := hone2
      have hw2 := hKeep o (List.mem_of_getElem? ho) x [] _ fr st hI hw1
      have hstep := step_sound (Q := Q) R hG (hd o (List.mem_of_getElem? ho)) hw2 (K' := wpAny P .any l.toArray Q fuel (listed.setIfInBounds i true)) fun fr' st' M' L' a' w' h' R' => by
        obtain ⟨hI', h'⟩ := h'
        rw [w_nil] at h'
        refine ih k' act' done' (listed.setIfInBounds i true) fr' st' M' L' a' w' (fun π hπ => hchk π (hact π hπ)) hgame' (fun e he => ?_) (by simpa using hsz) (fun π hπ => ?_) ?_ R' hI' h'
        · rw [hdone' e he]
          by_cases hel : e < listed.size
          · rw [hgetD e false hel]
            by_cases ee : e = i
            · simp [ee]
            · simp [ee]
          · have h6 : e ≠ i := by omega
            simp [h6, Array.getD, hel]
        · obtain ⟨x, R', h4, h5, _⟩ := hall π hπ
          rw [h4]; exact h5
        · intro j hj hjl d hdj
          have hdl : d < listed.size ∨ listed.size ≤ d := by omega
          have base : listed.getD d false = true := by
            rw [hgetD j false (by rw [hsz]; exact hj)] at hjl
            split at hjl
            · rename_i ej; subst ej; exact h3 d hdj
            · exact hcl j hj hjl d hdj
          rcases hdl with hdl | hdl
          · rw [hgetD d false hdl]
            by_cases ed : d = i
            · rw [if_pos ed]
            · rw [if_neg ed]; exact base
          · simp [Array.getD, Nat.not_lt.2 hdl] at base
      unfold wpOp
      have ho' : l.toArray[i]? = some o := by simpa using ho
      rw [ho']
      simp only
      split at hstep
      · rename_i hw; rw [if_pos hw]; exact .inl hstep
      · rename_i hw; rw [if_neg hw]; exact hstep

/-- A region that draws its order, walked in several orders. -/
theorem W_regionML {I : Fr → St → Prop} {n id : Nat} {Q : Ex → Fr → St → Prop} {fr : Fr} {st : St} (hm : P.follows .mixedOrders = true) {l : List Oper} (SP : List (Nat × Nat)) (A : List Tmp) (E : List Nat) (PS : List (List (Nat × Bool))) (hd : dstsLt n l = true) (hc : chkML SP A H l E PS = true) (hI : I fr st)
    (hKeep : ∀ G, (∀ j, G j = (l[j]?).bind (·.dst)) → ∀ o ∈ l, ∀ x, Keeps P A H G I (o, x)) (hSP : ∀ G, (∀ j, G j = (l[j]?).bind (·.dst)) → ∀ p q a x, (p, q) ∈ SP → l[p]? = some a → l[q]? = some x → ∀ fp fq, SwI P A H G I (a, fp) (x, fq))
    (h : ∀ G : Nat → Option Tmp, (∀ j, G j = (l[j]?).bind (·.dst)) → ∀ π ∈ PS, WOps P A H G (pickOps l π) (Q .normal) fr st) : W P H n (.region id l.toArray true) Q fr st := by
  intro B M L a w R
  refine wp_region_any hm ?_
  unfold chkML at hc
  simp only [Bool.and_eq_true] at hc
  obtain ⟨⟨⟨h1, h2⟩, h3⟩, h4⟩ := hc
  have hchk : ∀ π ∈ PS, chk1 l π = true ∧ inEL SP A H l E π = true := fun π hπ => by have := List.all_eq_true.1 h3 π hπ; simpa using this
  have hrem : ∀ π ∈ PS, rem π (Array.replicate l.length false) = π ∧ π.length = l.length := by
    intro π hπ
    have hc1 := (hchk π hπ).1
    unfold chk1 at hc1
    simp only [Bool.and_eq_true] at hc1
    refine ⟨List.filter_eq_self.2 fun p hp => ?_, by simpa using hc1.1.1.1.1⟩
    have := List.all_eq_true.1 hc1.1.2 p hp
    have hp' : p.1 < l.length := by simpa using this
    simp [Array.getD, hp']
  refine wpAny_soundML (I := I) (SP := SP) (G := fun j => (l[j]?).bind (·.dst)) (E := E) (hKeep _ fun _ => rfl) (hSP _ fun _ => rfl) h1 (fun i o ho hE => ?_) (dstsLt_of hd) (fun j => by simp) (Q := fun e a' w' => ∃ x fr' st' M' L', e = Ex.to x ∧ Q x fr' st' ∧ Rel P B M' L' n fr' st' a' w')
    (fun fr' st' M' L' a' w' hK R' => ⟨.normal, fr', st', M', L', rfl, hK, R'⟩) l.toArray.size E.length PS [] (Array.replicate l.toArray.size false) fr st M L a _ hchk h4 (fun e he => ?_) (by simp) (fun π hπ => ?_) ?_ R.drewAt hI (fun π hπ => ?_)
  · have := List.all_eq_true.1 h2 i (by simpa using (List.getElem?_eq_some_iff.1 ho).1)
    simp only [ho, Option.bind_some, Bool.or_eq_true, Bool.not_eq_true'] at this
    rcases this with h | h
    · exact absurd (by simpa using h) hE
    · simpa using h
  · constructor
    · intro hh; cases hh
    · intro hh
      have : (Array.replicate l.toArray.size false).getD e false = false := by
        simp only [Array.getD_eq_getD_getElem?, Array.getElem?_replicate]
        split <;> rfl
      rw [this] at hh; cases hh
  · simp only [List.size_toArray]; rw [(hrem π hπ).1, (hrem π hπ).2]
  · intro i hi hli
    simp [Array.getD, hi] at hli
  · simp only [List.size_toArray]; rw [(hrem π hπ).1]; exact h _ (fun _ => rfl) π hπ

end

section
variable {P : Program} {A H : List Tmp} {G : Nat → Option Tmp}
/-! Loads of local boxes. -/
/-- No pointer into the store. -/
def nonH : Value → Bool
  | .pointer (some ⟨_, _, none⟩) => false
  | _ => true
def ldL (Ls : List Tmp) : Op → Bool
  | .load _ (.tmp t) => Ls.contains t
  | .fieldAddr _ (.tmp t) _ => Ls.contains t
  | _ => false
def faL (Ls : List Tmp) : Op → Bool
  | .fieldAddr _ (.tmp t) _ => Ls.contains t
  | _ => false
def isApp : Op → Bool
  | .call { callee := .builtin .append, .. } => true
  | _ => false
/-- These slots point to local boxes. -/
def InvL (Ls : List Tmp) (fr : Fr) (_ : St) : Prop := ∀ t ∈ Ls, nonH (fr.env t) = true
def okL (Ls : List Tmp) (l : List Oper) (p q : Nat) : Bool := match l[p]?, l[q]? with
  | some a, some x => (ldL Ls a.op && (a.guard.isNone && x.guard.isNone)) && ((((callOf x.op).isSome || isApp x.op)) && a.apart l.toArray x)
  | _, _ => false
def spL (Ls : List Tmp) (l : List Oper) : List (Nat × Nat) := (List.range l.length).flatMap fun p => ((List.range l.length).filter fun q => okL Ls l p q).map fun q => (p, q)
def dstL (Ls : List Tmp) (o : Oper) : Bool := match o.dst with
  | some d => !Ls.contains d || (faL Ls o.op && o.guard.isNone)
  | none => true
def chkLL (Ls A H : List Tmp) (l : List Oper) (E : List Nat) (PS : List (List (Nat × Bool))) : Bool :=
  l.all (dstL Ls) && chkML (spL Ls l) A H l E PS
theorem spL_mem {Ls : List Tmp} {l : List Oper} {p q : Nat} (h : (p, q) ∈ spL Ls l) : okL Ls l p q = true := by
  unfold spL at h
  obtain ⟨p', _, h2⟩ := List.mem_flatMap.1 h
  obtain ⟨q', h3, h4⟩ := List.mem_map.1 h2
  cases h4
  exact (List.mem_filter.1 h3).2
theorem InvL.put {Ls : List Tmp} {fr : Fr} {st st' : St} (h : InvL Ls fr st) {d : Option Tmp} {v : Value} (hd : ∀ t, d = some t → t ∉ Ls ∨ nonH v = true) (l : Nat → Nat × List Value) : InvL Ls ⟨AM.put fr.env d v, l⟩ st' := fun t ht => by
  cases d with
  | none => exact h t ht
  | some d =>
    show nonH (upd fr.env d v t) = true
    by_cases e : t = d
    · subst e
      rw [upd_same]
      exact (hd _ rfl).resolve_left fun h => h ht
    · rw [upd_ne _ _ _ _ e]
      exact h t ht
theorem keepsL {Ls : List Tmp} {o : Oper} (hd : dstL Ls o = true) (x : Bool) : Keeps P A H G (InvL Ls) (o, x) := by
  intro R K fr st hI h
  by_cases hn : ∀ t, o.dst = some t → t ∉ Ls
  · have hput : ∀ v (l : Nat → Nat × List Value) s, InvL Ls ⟨AM.put fr.env o.dst v, l⟩ s := fun v l s => hI.put (fun t ht => .inl (hn t ht)) l
    unfold WOps at h ⊢
    split at h
    · exact h.elim
    · exact ⟨hput _ _ _, h⟩
    · split at h
      · obtain ⟨g, h1, h2, h3⟩ := h
        exact ⟨g, h1, h2, h3.mono fun r st' ⟨q1, q2⟩ => ⟨q1, hput _ _ _, q2⟩⟩
      · split at h
        · exact ⟨hput _ _ _, h⟩
        · exact h.elim
  · have hex : ∃ d, o.dst = some d ∧ d ∈ Ls := Classical.byContradiction fun h2 => hn fun t ht hL => h2 ⟨t, ht, hL⟩
    obtain ⟨d, hdd, hdL⟩ := hex
    unfold dstL at hd
    rw [hdd] at hd
    simp only [Bool.or_eq_true, Bool.and_eq_true, Bool.not_eq_true'] at hd
    have hfa : faL Ls o.op = true ∧ o.guard.isNone = true := by
      rcases hd with hd | hd
      · have : Ls.contains d = true := by simpa using hdL
        rw [this] at hd; cases hd
      · exact hd
    obtain ⟨hf, hg⟩ := hfa
    unfold faL at hf
    split at hf
    · rename_i ty t f hop
      have htL : t ∈ Ls := by simpa using hf
      have hcn : callOf o.op = none := by rw [hop]; rfl
      have ht := hI t htL
      rw [WOps_cons hg, hcn] at h ⊢
      simp only at h ⊢
      split at h
      · rename_i v l s hs
        obtain ⟨q1, q2, q3⟩ := stepVal_pure (.inr (by rw [hop]; rfl)) hs
        replace q2 := q2.symm; replace q3 := q3.symm
        subst q2; subst q3
        refine ⟨hI.put (fun t' _ => .inr ?_) _, h⟩
        rw [hop] at q1
        have q1' : (match fr.env t with
          | .pointer (some ⟨b, o, sp⟩) => (match offA P ty f with
            | some d => if okPtr A fr.loc b sp then some (Value.pointer (some ⟨b, o + d, sp⟩)) else none
            | none => none)
          | _ => none) = some v := q1
        split at q1'
        · rename_i b o' sp he
          rw [he] at ht
          split at q1'
          · split at q1'
            · cases q1'
              cases sp with
              | none => cases ht
              | some _ => rfl
            · cases q1'
          · cases q1'
        · cases q1'
      · exact h.elim
    · cases hf
theorem loadA_loc {t : TypeId} {p : Value} (h : nonH p = true) (loc : Nat → Nat × List Value) (st st' : St) : loadA P A t p loc st' = loadA P A t p loc st := by
  cases p with
  | pointer a =>
    cases a with
    | none => rfl
    | some ad =>
      obtain ⟨b, o, w⟩ := ad
      cases w with
      | none => cases h
      | some w => rw [loadA_p, loadA_p]; rfl
  | _ => rfl
theorem app_loc {o : Oper} (h : isApp o.op = true) {fr : Fr} {st : St} {v : Value} {l : Nat → Nat × List Value} {s : St} (hs : stepVal P A H o fr st = some (v, l, s)) : l = fr.loc := by
  unfold isApp at h
  split at h
  · rename_i c1 c2 hop
    unfold stepVal at hs
    rw [hop] at hs
    have e : ∀ ρ loc st, evalVal P A (.call { callee := .builtin .append, args := c1, argTypes := c2 }) ρ loc st = none := fun _ _ _ => rfl
    rw [e] at hs
    simp only at hs
    unfold evalEff at hs
    rw [hop] at hs
    simp only at hs
    split at hs
    · simp only [Option.map_eq_some_iff] at hs
      obtain ⟨r, _, hr⟩ := hs
      cases hr; rfl
    · cases hs
  · cases h
theorem swL {ops : Array Oper} {Ls : List Tmp} {a x : Oper} (hld : ldL Ls a.op = true) (hga : a.guard.isNone = true) (hgx : x.guard.isNone = true) (hx : (callOf x.op).isSome = true ∨ isApp x.op = true) (hap : a.apart ops x = true) (fa fx : Bool) : SwI P A H G (InvL Ls) (a, fa) (x, fx) := by
  intro R K fr st hI h
  obtain ⟨env, loc⟩ := fr
  have sp := Oper.apart_spec hap
  have hrd : isPure a.op = true ∨ isRd a.op = true := .inr (by
    unfold ldL at hld
    split at hld
    · rename_i e; rw [e]; rfl
    · rename_i e; rw [e]; rfl
    · cases hld)
  have hcn : callOf a.op = none := by
    unfold ldL at hld
    split at hld
    · rename_i e; rw [e]; rfl
    · rename_i e; rw [e]; rfl
    · cases hld
  have hev : ∀ (l : Nat → Nat × List Value) (s s' : St), evalVal P A a.op (Fr.ev ⟨env, loc⟩) l s' = evalVal P A a.op (Fr.ev ⟨env, loc⟩) l s := by
    intro l s s'
    unfold ldL at hld
    split at hld
    · rename_i ty t e
      rw [e]
      exact loadA_loc (hI t (by simpa using hld)) l s s'
    · rename_i e; rw [e]; rfl
    · cases hld
  have hxa : ∀ (v : Value) (l l' : Nat → Nat × List Value) (y : Operand), y ∈ x.op.operands → Fr.ev ⟨put env a.dst v, l⟩ y = Fr.ev ⟨env, l'⟩ y := fun v l l' y hy => ev_put fun d hd e => by
    subst e; exact sp.1 d hd (mem_looks hy)
  rw [WOps_cons hga, hcn] at h
  simp only at h
  split at h
  rotate_left
  · exact h.elim
  rename_i va l s hs
  obtain ⟨q1, q2, q3⟩ := stepVal_pure hrd hs
  replace q2 := q2.symm; replace q3 := q3.symm
  subst q2; subst q3
  simp only at h q1
  have back : ∀ (v : Value) (s' : St), WOps P A H G R K ⟨put (put env a.dst va) x.dst v, loc⟩ s' → WOps P A H G ((a, fa) :: R) K ⟨put env x.dst v, loc⟩ s' := by
    intro v s' hh
    rw [WOps_cons hga, hcn]
    simp only
    have e : evalVal P A a.op (Fr.ev ⟨put env x.dst v, loc⟩) loc s' = some va := by
      rw [evalVal_apart hap]
      exact (hev loc _ _).trans q1
    rw [stepVal_of e]
    rw [put_comm _ _ _ sp.2.1] at hh
    exact hh
  rw [WOps_cons hgx] at h ⊢
  cases hc : callOf x.op with
  | some fa' =>
    obtain ⟨f, args⟩ := fa'
    rw [hc] at h
    simp only at h ⊢
    obtain ⟨o1, o2⟩ := callOf_operands hc
    obtain ⟨g, h1, h2, h3⟩ := h
    refine ⟨g, ?_, ?_, ?_⟩
    · rw [← hxa va loc loc f o2]; exact h1
    · rw [← Array.all_toList] at h2 ⊢
      rw [List.all_eq_true] at h2 ⊢
      intro y hy
      have := h2 y hy
      rw [hxa va loc loc y (o1 y (by simpa using hy))] at this
      exact this
    · have e3 : args.toList.map (Fr.ev ⟨put env a.dst va, loc⟩) = args.toList.map (Fr.ev ⟨env, loc⟩) := List.map_congr_left fun y hy => hxa va loc loc y (o1 y (by simpa using hy))
      rw [e3] at h3
      exact h3.mono fun r st' ⟨p1, p2⟩ => ⟨p1, back r st' p2⟩
  | none =>
    rw [hc] at h
    simp only at h ⊢
    have hxapp : isApp x.op = true := by
      rcases hx with hx | hx
      · rw [hc] at hx; cases hx
      · exact hx
    split at h
    · rename_i v l s' hs'
      have e := stepVal_congr (P := P) (A := A) (H := H) (o := x) (fr := ⟨put env a.dst va, loc⟩) (fr' := ⟨env, loc⟩) (st := st) rfl fun y hy => (hxa va _ _ y hy).symm
      rw [e, hs']
      have := app_loc hxapp hs'
      simp only at this
      subst this
      exact back v s' h
    · exact h.elim
end
/-- A region that draws its order, walked in several orders; loads of the local boxes Ls may change places with calls and appends. -/
theorem W_regL {P : Program} {H : List Tmp} {n : Nat} {Q : Ex → Fr → St → Prop} {fr : Fr} {st : St} {id : Nat} {l : List Oper} {rest : Code} (hm : P.follows .mixedOrders = true) (Ls A : List Tmp) (E : List Nat) (PS : List (List (Nat × Bool))) (hd : dstsLt n l = true) (hc : chkLL Ls A H l E PS = true) (hI : ∀ t ∈ Ls, nonH (fr.env t) = true)
    (h : ∀ (G : Nat → Option Tmp) (K : Fr → St → Prop), (∀ j, G j = (l[j]?).bind (·.dst)) → (∀ fr st, W P H n rest Q fr st → K fr st) → ∀ π ∈ PS, WOps P A H G (pickOps l π) K fr st) : W P H n (.seq (.region id l.toArray true) rest) Q fr st := by
  unfold chkLL at hc
  obtain ⟨h1, h2⟩ := Bool.and_eq_true_iff.1 hc
  refine W_seq (W_regionML (I := InvL Ls) hm _ A E PS hd h2 hI (fun G hG o ho x => keepsL (List.all_eq_true.1 h1 o ho) x) (fun G hG p q a x hpq ha hx fp fq => ?_) fun G hG => h G _ hG fun _ _ h => h)
  have := spL_mem hpq
  unfold okL at this
  rw [ha, hx] at this
  simp only [Bool.and_eq_true, Bool.or_eq_true] at this
  obtain ⟨⟨g1, g2, g3⟩, g4, g5⟩ := this
  exact swL g1 g2 g3 g4 g5 fp fq
theorem W_endL {P : Program} {H : List Tmp} {n : Nat} {Q : Ex → Fr → St → Prop} {fr : Fr} {st : St} {id : Nat} {l : List Oper} (hm : P.follows .mixedOrders = true) (Ls A : List Tmp) (E : List Nat) (PS : List (List (Nat × Bool))) (hd : dstsLt n l = true) (hc : chkLL Ls A H l E PS = true) (hI : ∀ t ∈ Ls, nonH (fr.env t) = true)
    (h : ∀ (G : Nat → Option Tmp) (K : Fr → St → Prop), (∀ j, G j = (l[j]?).bind (·.dst)) → (∀ fr st, Q .normal fr st → K fr st) → ∀ π ∈ PS, WOps P A H G (pickOps l π) K fr st) : W P H n (.region id l.toArray true) Q fr st := by
  unfold chkLL at hc
  obtain ⟨h1, h2⟩ := Bool.and_eq_true_iff.1 hc
  refine W_regionML (I := InvL Ls) hm _ A E PS hd h2 hI (fun G hG o ho x => keepsL (List.all_eq_true.1 h1 o ho) x) (fun G hG p q a x hpq ha hx fp fq => ?_) fun G hG => h G _ hG fun _ _ h => h
  have := spL_mem hpq
  unfold okL at this
  rw [ha, hx] at this
  simp only [Bool.and_eq_true, Bool.or_eq_true] at this
  obtain ⟨⟨g1, g2, g3⟩, g4, g5⟩ := this
  exact swL g1 g2 g3 g4 g5 fp fq
theorem fm_nil {α : Type} {P : α → Prop} : ∀ x ∈ ([] : List α), P x := fun x hx => by cases hx
theorem fm_cons {α : Type} {P : α → Prop} {a : α} {l : List α} (h1 : P a) (h2 : ∀ x ∈ l, P x) : ∀ x ∈ a :: l, P x := fun x hx => by
  rcases List.mem_cons.1 hx with rfl | hx
  · exact h1
  · exact h2 x hx
end Go.Proofs.Ytbenknjfncmbdaa.AM


/- ReduceWords. -/
namespace Go.Proofs.Ytbenknjfncmbdaa.AM
open Go Go.Proofs
set_option linter.unusedVariables false
set_option linter.unusedSimpArgs false
set_option maxRecDepth 100000
attribute [local go_sem] List.map_cons List.map_nil List.all_cons List.all_nil Bool.and_self Option.map_some List.getElem?_toArray Option.bind_some gye_b gye_t gsk_b gsk_t gb1 gb2 gb3 gb4 bne_self_eq_false beq_self_eq_true w_guard w_nil stepV_some step_some step_some' w_move w_assign w_pick w_binOp w_unOp w_load w_fieldAddr w_indexAddr w_len w_max w_index ev_max max_int ev_index w_box w_alloc w_store w_field w_extract w_nilCheck w_convert w_buildSlice w_build ev_buildL fillL_nil fillL_cons bs0 bs1 ev_conv ev_bin ev_un ev_pick ev_load ev_fieldAddr ev_indexAddr ev_len ev_field ev_extract ev_nilCheck fr_tmp fr_int fr_bool fr_str fr_nil fr_func put_some put_none bin_lss bin_leq bin_gtr bin_geq bin_eql bin_neq bin_add bin_sub bin_mul bin_seql bin_sneq un_not pick_ ext_ loadA_p cellAt_l cellAt_h okPtr_l okPtr_h fadA_p allocA_l storeA_l cells_agg cells_int cells_str cells_sl cells_bool flat_i flat_s flat_b flat_sl flat_nil loc_agg loc_int loc_str loc_sl loc_bool loc_fn loc_ptr okv_agg okv_int okv_str okv_sl okv_bool cellsFrom splice upd_eval argEnv_zero argEnv_succ ne_eq Nat.add_one_ne_zero not_false_eq_true List.not_mem_nil and_self decide_true List.getElem?_cons_zero List.getElem?_cons_succ List.size_toArray List.length_cons List.length_nil List.take_succ_cons List.take_zero List.drop_succ_cons List.drop_zero List.cons_append List.nil_append List.drop_nil Bool.not_true Bool.not_false Bool.false_eq_true Nat.zero_add Nat.add_zero wrap_in List.toList_toArray List.mem_cons or_self or_false false_or
attribute [local go_sem] ag22 ag23 ag25 ag26 ag28 ag3 ag34 ag36 ag38 ag40 ag59 ag68 ag69 ag9 bu59 bu69 by40 by59 by69 by9 el22 el23 el26 el31 el34 el38 el75 of25_0 of25_1 of28_0 of28_1 of28_2 of28_3 of36_0 of36_1 of40_0 of40_1 of40_2 of40_3 of59_0 of59_1 of68_0 of68_1 of68_2 of69_0 of69_1 of69_2 ro5_1 ro59_0 ro59_1 ro9_0 ro9_2 sz22 sz23 sz25 sz26 sz28 sz3 sz34 sz36 sz38 sz40 sz5 sz59 sz68 sz69 sz9 ze36 ze40 ze59 ze69 ze9

def T.num : T → Int
  | .mk _ n _ _ => n
def word (v : Int) : T := .mk 3 v ⟨#[]⟩ []
/-- The last step of a reduction. -/
def redF (k n : Int) (nm : ByteArray) : List T → T
  | [x, y] => if (k == 2 && n == 0 && isB nm && x.isW && y.isW) = true then word (opW nm x.num y.num) else .mk k n nm [x, y]
  | ys => .mk k n nm ys
mutual
def T.red : T → T
  | .mk k n nm args => redF k n nm (T.redL args)
def T.redL : List T → List T
  | [] => []
  | x :: xs => x.red :: T.redL xs
end
theorem T.redL_map (xs : List T) : T.redL xs = xs.map T.red := by
  induction xs with
  | nil => rfl
  | cons x xs ih => simp only [T.redL, List.map_cons, ih]
theorem T.isW_num {t : T} (h : t.isW = true) : 0 ≤ t.num ∧ t.num ≤ 3 := by
  obtain ⟨k, n, nm, args⟩ := t
  simp only [T.isW, Bool.and_eq_true, decide_eq_true_eq] at h
  simp only [T.num]
  omega
theorem redF_no {k n : Int} {nm : ByteArray} {ys : List T} (h : k ≠ 2 ∨ n ≠ 0 ∨ isB nm = false ∨ ys.length ≠ 2) : redF k n nm ys = .mk k n nm ys := by
  unfold redF
  split
  · rw [if_neg]
    intro hh
    simp only [Bool.and_eq_true, beq_iff_eq] at hh
    rcases h with h | h | h | h
    · exact h hh.1.1.1.1
    · exact h hh.1.1.1.2
    · rw [h] at hh; simp at hh
    · simp at h
  · rfl
theorem redF_not {k n : Int} {nm : ByteArray} {x y : T} (h : x.isW = false ∨ y.isW = false) : redF k n nm [x, y] = .mk k n nm [x, y] := by
  show (if _ then _ else _) = _
  rw [if_neg]
  intro hh
  simp only [Bool.and_eq_true] at hh
  rcases h with h | h
  · rw [h] at hh; simp at hh
  · rw [h] at hh; simp at hh
theorem redF_yes {nm : ByteArray} {x y : T} (h3 : isB nm = true) (h1 : x.isW = true) (h2 : y.isW = true) : redF 2 0 nm [x, y] = word (opW nm x.num y.num) := by
  show (if _ then _ else _) = _
  rw [if_pos]
  simp [h1, h2, h3]
theorem own_word {e : TypeId} (st : St) (v : Int) : Own e st (word v) [.int .i64 3, .int .i64 v, .string ⟨#[]⟩, .slice none 0 0] [] := .nil _ _ _

end Go.Proofs.Ytbenknjfncmbdaa.AM


/- Builders: spec.RenameVars, impl.RenameVars. -/
namespace Go.Proofs.Ytbenknjfncmbdaa.AM
open Go Go.Proofs
set_option linter.unusedVariables false
set_option linter.unusedSimpArgs false
set_option maxRecDepth 100000
attribute [local go_sem] List.map_cons List.map_nil List.all_cons List.all_nil Bool.and_self Option.map_some List.getElem?_toArray Option.bind_some gye_b gye_t gsk_b gsk_t gb1 gb2 gb3 gb4 bne_self_eq_false beq_self_eq_true w_guard w_nil stepV_some step_some step_some' w_move w_assign w_pick w_binOp w_unOp w_load w_fieldAddr w_indexAddr w_len w_max w_index ev_max max_int ev_index w_box w_alloc w_store w_field w_extract w_nilCheck w_convert w_buildSlice w_build ev_buildL fillL_nil fillL_cons bs0 bs1 ev_conv ev_bin ev_un ev_pick ev_load ev_fieldAddr ev_indexAddr ev_len ev_field ev_extract ev_nilCheck fr_tmp fr_int fr_bool fr_str fr_nil fr_func put_some put_none bin_lss bin_leq bin_gtr bin_geq bin_eql bin_neq bin_add bin_sub bin_mul bin_seql bin_sneq un_not pick_ ext_ loadA_p cellAt_l cellAt_h okPtr_l okPtr_h fadA_p allocA_l storeA_l cells_agg cells_int cells_str cells_sl cells_bool flat_i flat_s flat_b flat_sl flat_nil loc_agg loc_int loc_str loc_sl loc_bool loc_fn loc_ptr okv_agg okv_int okv_str okv_sl okv_bool cellsFrom splice upd_eval argEnv_zero argEnv_succ ne_eq Nat.add_one_ne_zero not_false_eq_true List.not_mem_nil and_self decide_true List.getElem?_cons_zero List.getElem?_cons_succ List.size_toArray List.length_cons List.length_nil List.take_succ_cons List.take_zero List.drop_succ_cons List.drop_zero List.cons_append List.nil_append List.drop_nil Bool.not_true Bool.not_false Bool.false_eq_true Nat.zero_add Nat.add_zero wrap_in List.toList_toArray List.mem_cons or_self or_false false_or
attribute [local go_sem] ag22 ag23 ag25 ag26 ag28 ag3 ag34 ag36 ag38 ag40 ag59 ag68 ag69 ag9 bu59 bu69 by40 by59 by69 by9 el22 el23 el26 el31 el34 el38 el75 of25_0 of25_1 of28_0 of28_1 of28_2 of28_3 of36_0 of36_1 of40_0 of40_1 of40_2 of40_3 of59_0 of59_1 of68_0 of68_1 of68_2 of69_0 of69_1 of69_2 ro5_1 ro59_0 ro59_1 ro9_0 ro9_2 sz22 sz23 sz25 sz26 sz28 sz3 sz34 sz36 sz38 sz40 sz5 sz59 sz68 sz69 sz9 ze36 ze40 ze59 ze69 ze9

mutual
def T.ren (w : ByteArray) : T → T
  | .mk k n nm args => .mk k n (if k = 1 then nm ++ w else nm) (T.renL w args)
def T.renL (w : ByteArray) : List T → List T
  | [] => []
  | x :: xs => x.ren w :: T.renL w xs
end
theorem T.renL_map (w : ByteArray) (xs : List T) : T.renL w xs = xs.map (T.ren w) := by
  induction xs with
  | nil => rfl
  | cons x xs ih => simp only [T.renL, List.map_cons, ih]

end Go.Proofs.Ytbenknjfncmbdaa.AM


/- A renamed term is a variant, where variables have no arguments. -/
namespace Go.Proofs.Ytbenknjfncmbdaa.AM
open Go Go.Proofs
set_option linter.unusedVariables false
set_option linter.unusedSimpArgs false

/-- Variables are plain, but perhaps at the root. -/
inductive Plain : T → Prop
  | mk (k n : Int) (nm : ByteArray) (args : List T) (hv : k = 1 → n = 0 ∧ args = []) (h : ∀ a ∈ args, Plain a) : Plain (.mk k n nm args)
def PlainB : T → Prop
  | .mk k n nm args => k = 1 ∨ ∀ a ∈ args, Plain a
theorem Plain.b {t : T} (h : Plain t) : PlainB t := by
  cases h with
  | mk k n nm args hv h => exact .inr h
mutual
def T.mapV (f : ByteArray → ByteArray) : T → T
  | .mk k n nm args => .mk k n (if k = 1 then f nm else nm) (T.mapVL f args)
def T.mapVL (f : ByteArray → ByteArray) : List T → List T
  | [] => []
  | x :: xs => x.mapV f :: T.mapVL f xs
end
theorem T.mapVL_map (f : ByteArray → ByteArray) (xs : List T) : T.mapVL f xs = xs.map (T.mapV f) := by
  induction xs with
  | nil => rfl
  | cons x xs ih => simp only [T.mapVL, List.map_cons, ih]
theorem T.ren_mapV (w : ByteArray) : ∀ t : T, t.ren w = t.mapV (fun nm => nm ++ w) := by
  refine T.ind fun k n nm args ih => ?_
  simp only [T.ren, T.mapV, T.renL_map, T.mapVL_map]
  rw [List.map_congr_left ih]
theorem T.id_mapV : ∀ t : T, t.mapV (fun nm => nm) = t := by
  refine T.ind fun k n nm args ih => ?_
  simp only [T.mapV, T.mapVL_map]
  rw [List.map_congr_left (g := id) ih]
  simp
def InvM (f g : ByteArray → ByteArray) (l : List Bnd) : Prop := ∀ b ∈ l, ∃ x, b.nm = f x ∧ b.tm = .mk 1 0 (g x) []
theorem InvM.find {f g : ByteArray → ByteArray} (hfg : ∀ x y, f x = f y → g x = g y) {l : List Bnd} (h : InvM f g l) {nm : ByteArray} {t : T} (hf : findB (f nm) l = some t) : t = .mk 1 0 (g nm) [] := by
  induction l with
  | nil => cases hf
  | cons b bs ih =>
    simp only [findB] at hf
    split at hf
    · rename_i hq
      cases hf
      obtain ⟨x, h1, h2⟩ := h b (by simp)
      have h3 := ba_toList hq
      rw [h1] at h3
      rw [h2, hfg _ _ h3]
    · exact ih (fun c hc => h c (by simp [hc])) hf
theorem mat_mapV (f g : ByteArray → ByteArray) (hfg : ∀ x y, f x = f y → g x = g y) : ∀ (p : T) (l : List Bnd), Plain p → InvM f g l → ∃ l', T.matF (p.mapV f) (p.mapV g) l = some l' ∧ InvM f g l' := by
  refine T.ind fun k n nm args ih l hp hl => ?_
  obtain ⟨_, _, _, _, hv, ha⟩ := hp
  simp only [T.mapV, T.mapVL_map]
  cases hk : (k == 1) with
  | true =>
    have hk1 : k = 1 := by simpa using hk
    obtain ⟨rfl, rfl⟩ := hv hk1
    subst hk1
    rw [T.matF_var hk]
    simp only [if_true, List.map_nil]
    split
    · rename_i hs
      obtain ⟨t, ht⟩ := Option.isSome_iff_exists.1 hs
      have e := hl.find hfg ht
      rw [if_pos (by simp only [findD, ht, Option.getD_some]; rw [e]; exact (T.eqv_iff _ _).2 rfl)]
      exact ⟨l, rfl, hl⟩
    · refine ⟨_, rfl, fun b hb => ?_⟩
      rcases List.mem_append.1 hb with hb | hb
      · exact hl b hb
      · cases List.mem_singleton.1 hb
        exact ⟨nm, rfl, rfl⟩
  | false =>
    have hk1 : ¬ k = 1 := by simpa using hk
    rw [T.matF_app hk]
    simp only [if_neg hk1]
    rw [if_pos (by simp)]
    have hL : ∀ (qs : List T), (∀ q ∈ qs, ∀ l, Plain q → InvM f g l → ∃ l', T.matF (q.mapV f) (q.mapV g) l = some l' ∧ InvM f g l') → (∀ q ∈ qs, Plain q) → ∀ l, InvM f g l → ∃ l', T.matL (qs.map (T.mapV f)) (qs.map (T.mapV g)) l = some l' ∧ InvM f g l' := by
      intro qs
      induction qs with
      | nil => intro _ _ l hl; exact ⟨l, rfl, hl⟩
      | cons q qs ihq =>
        intro h hq l hl
        obtain ⟨l1, h1, h2⟩ := h q (by simp) l (hq q (by simp)) hl
        obtain ⟨l2, h3, h4⟩ := ihq (fun a ha => h a (by simp [ha])) (fun a ha => hq a (by simp [ha])) l1 h2
        exact ⟨l2, by simp only [List.map_cons, T.matL, h1, h3], h4⟩
    exact hL args ih ha l hl
theorem mat_mapVB (f g : ByteArray → ByteArray) (hfg : ∀ x y, f x = f y → g x = g y) (p : T) (hp : PlainB p) : (T.matF (p.mapV f) (p.mapV g) []).isSome = true := by
  obtain ⟨k, n, nm, args⟩ := p
  simp only [T.mapV, T.mapVL_map]
  cases hk : (k == 1) with
  | true => rw [T.matF_var hk]; simp [findB]
  | false =>
    have hk1 : ¬ k = 1 := by simpa using hk
    have ha : ∀ a ∈ args, Plain a := hp.resolve_left hk1
    have h := mat_mapV f g hfg (.mk k n nm args) [] (.mk _ _ _ _ (fun h => absurd h hk1) ha) (fun b hb => by cases hb)
    obtain ⟨l', h1, _⟩ := h
    simp only [T.mapV, T.mapVL_map] at h1
    rw [h1]; rfl
theorem ba_append_right {a b w : ByteArray} (h : a ++ w = b ++ w) : a = b := by
  have h1 : (a ++ w).data.toList = (b ++ w).data.toList := by rw [h]
  simp only [ByteArray.data_append, Array.toList_append] at h1
  exact ByteArray.ext (Array.ext' (List.append_cancel_right h1))
/-- A renamed term is a variant of the term. -/
theorem ren_variant (w : ByteArray) (t : T) (hp : PlainB t) : (T.matF (t.ren w) t []).isSome = true ∧ (T.matF t (t.ren w) []).isSome = true := by
  have h1 := mat_mapVB (fun nm => nm ++ w) (fun nm => nm) (fun x y h => ba_append_right h) t hp
  have h2 := mat_mapVB (fun nm => nm) (fun nm => nm ++ w) (fun x y h => by rw [h]) t hp
  rw [T.id_mapV, ← T.ren_mapV] at h1 h2
  exact ⟨h1, h2⟩
mutual
/-- The nodes of a term. -/
def T.count : T → Nat
  | .mk _ _ _ args => 1 + T.countL args
def T.countL : List T → Nat
  | [] => 0
  | x :: xs => x.count + T.countL xs
end
theorem T.count_mapV (f : ByteArray → ByteArray) : ∀ t : T, (t.mapV f).count = t.count := by
  refine T.ind fun k n nm args ih => ?_
  have hL : ∀ l : List T, (∀ a ∈ l, (a.mapV f).count = a.count) → T.countL (l.map (T.mapV f)) = T.countL l := by
    intro l
    induction l with
    | nil => intro _; rfl
    | cons x xs ihx => intro h; simp only [List.map_cons, T.countL]; rw [h x (by simp), ihx fun a ha => h a (by simp [ha])]
  simp only [T.mapV, T.mapVL_map, T.count]
  rw [hL args ih]
theorem T.count_ren (w : ByteArray) (t : T) : (t.ren w).count = t.count := by rw [T.ren_mapV, T.count_mapV]
end Go.Proofs.Ytbenknjfncmbdaa.AM


/- Terms drawn: spec.l3Draw. -/
namespace Go.Proofs.Ytbenknjfncmbdaa.AM
open Go Go.Proofs
set_option linter.unusedVariables false
set_option linter.unusedSimpArgs false
set_option maxRecDepth 100000
attribute [local go_sem] List.map_cons List.map_nil List.all_cons List.all_nil Bool.and_self Option.map_some List.getElem?_toArray Option.bind_some gye_b gye_t gsk_b gsk_t gb1 gb2 gb3 gb4 bne_self_eq_false beq_self_eq_true w_guard w_nil stepV_some step_some step_some' w_move w_assign w_pick w_binOp w_unOp w_load w_fieldAddr w_indexAddr w_len w_max w_index ev_max max_int ev_index w_box w_alloc w_store w_field w_extract w_nilCheck w_convert w_buildSlice w_build ev_buildL fillL_nil fillL_cons bs0 bs1 ev_conv ev_bin ev_un ev_pick ev_load ev_fieldAddr ev_indexAddr ev_len ev_field ev_extract ev_nilCheck fr_tmp fr_int fr_bool fr_str fr_nil fr_func put_some put_none bin_lss bin_leq bin_gtr bin_geq bin_eql bin_neq bin_add bin_sub bin_mul bin_seql bin_sneq un_not pick_ ext_ loadA_p cellAt_l cellAt_h okPtr_l okPtr_h fadA_p allocA_l storeA_l cells_agg cells_int cells_str cells_sl cells_bool flat_i flat_s flat_b flat_sl flat_nil loc_agg loc_int loc_str loc_sl loc_bool loc_fn loc_ptr okv_agg okv_int okv_str okv_sl okv_bool cellsFrom splice upd_eval argEnv_zero argEnv_succ ne_eq Nat.add_one_ne_zero not_false_eq_true List.not_mem_nil and_self decide_true List.getElem?_cons_zero List.getElem?_cons_succ List.size_toArray List.length_cons List.length_nil List.take_succ_cons List.take_zero List.drop_succ_cons List.drop_zero List.cons_append List.nil_append List.drop_nil Bool.not_true Bool.not_false Bool.false_eq_true Nat.zero_add Nat.add_zero wrap_in List.toList_toArray List.mem_cons or_self or_false false_or
attribute [local go_sem] ag22 ag23 ag25 ag26 ag28 ag3 ag34 ag36 ag38 ag40 ag59 ag68 ag69 ag9 bu59 bu69 by40 by59 by69 by9 el22 el23 el26 el31 el34 el38 el75 of25_0 of25_1 of28_0 of28_1 of28_2 of28_3 of36_0 of36_1 of40_0 of40_1 of40_2 of40_3 of59_0 of59_1 of68_0 of68_1 of68_2 of69_0 of69_1 of69_2 ro5_1 ro59_0 ro59_1 ro9_0 ro9_2 sz22 sz23 sz25 sz26 sz28 sz3 sz34 sz36 sz38 sz40 sz5 sz59 sz68 sz69 sz9 ze36 ze40 ze59 ze69 ze9
-- AUTO

theorem Fresh.one {n k : Nat} (h : n ≤ k) : Fresh n [k] := ⟨by simp, fun i hi => by cases List.mem_singleton.1 hi; exact h⟩
theorem Fresh.cons {n k : Nat} {L : List Nat} (h : Fresh n L) (hlt : ∀ i ∈ L, i < k) (hk : n ≤ k) : Fresh n (k :: L) := ⟨List.nodup_cons.2 ⟨fun hm => by have := hlt k hm; omega, h.1⟩, fun i hi => by
  rcases List.mem_cons.1 hi with rfl | hi
  · exact hk
  · exact h.2 i hi⟩
theorem Fresh.app {n m : Nat} {L K : List Nat} (h : Fresh n L) (g : Fresh m K) (hlt : ∀ i ∈ L, i < m) (hn : n ≤ m) : Fresh n (L ++ K) := ⟨List.nodup_append.2 ⟨h.1, g.1, fun a ha b hb e => by
  subst e
  have h1 := hlt a ha
  have h2 := g.2 a hb
  omega⟩, fun i hi => by
  rcases List.mem_append.1 hi with hi | hi
  · exact h.2 i hi
  · have := g.2 i hi; omega⟩
theorem plain_var (nm : ByteArray) : Plain (.mk 1 0 nm []) := .mk _ _ _ _ (fun _ => ⟨rfl, rfl⟩) (fun a ha => by cases ha)
theorem plain_word (n : Int) (nm : ByteArray) : Plain (.mk 3 n nm []) := .mk _ _ _ _ (fun h => by cases h) (fun a ha => by cases ha)
theorem plain_app (n : Int) (nm : ByteArray) (args : List T) (h : ∀ a ∈ args, Plain a) : Plain (.mk 2 n nm args) := .mk _ _ _ _ (fun h => by cases h) h

def DrawP (d : Nat) (t : T) : Prop := Plain t ∧ t.wt + 3 ≤ 4 * 2 ^ d
theorem leaf_ok {d : Nat} {k n : Int} {nm : ByteArray} (hn : nm.size ≤ 1) (h : Plain (.mk k n nm [])) : DrawP d (.mk k n nm []) := ⟨h, by
  have : 1 ≤ 2 ^ d := Nat.one_le_two_pow
  simp only [T.wt, T.wtL, List.length_nil]; omega⟩
theorem size_of_mem {w : ByteArray} {cs : List Value} (h : Value.string w ∈ cs) (hs : cs.all (fun v => match v with | .string s => decide (s.size ≤ 1) | _ => false) = true) : w.size ≤ 1 := by
  have := List.all_eq_true.1 hs _ h
  simpa using this

end Go.Proofs.Ytbenknjfncmbdaa.AM


/- Terms drawn, turned a little: spec.l3Bent. -/
namespace Go.Proofs.Ytbenknjfncmbdaa.AM
open Go Go.Proofs
set_option linter.unusedVariables false
set_option linter.unusedSimpArgs false
set_option maxRecDepth 100000
attribute [local go_sem] List.map_cons List.map_nil List.all_cons List.all_nil Bool.and_self Option.map_some List.getElem?_toArray Option.bind_some gye_b gye_t gsk_b gsk_t gb1 gb2 gb3 gb4 bne_self_eq_false beq_self_eq_true w_guard w_nil stepV_some step_some step_some' w_move w_assign w_pick w_binOp w_unOp w_load w_fieldAddr w_indexAddr w_len w_max w_index ev_max max_int ev_index w_box w_alloc w_store w_field w_extract w_nilCheck w_convert w_buildSlice w_build ev_buildL fillL_nil fillL_cons bs0 bs1 ev_conv ev_bin ev_un ev_pick ev_load ev_fieldAddr ev_indexAddr ev_len ev_field ev_extract ev_nilCheck fr_tmp fr_int fr_bool fr_str fr_nil fr_func put_some put_none bin_lss bin_leq bin_gtr bin_geq bin_eql bin_neq bin_add bin_sub bin_mul bin_seql bin_sneq un_not pick_ ext_ loadA_p cellAt_l cellAt_h okPtr_l okPtr_h fadA_p allocA_l storeA_l cells_agg cells_int cells_str cells_sl cells_bool flat_i flat_s flat_b flat_sl flat_nil loc_agg loc_int loc_str loc_sl loc_bool loc_fn loc_ptr okv_agg okv_int okv_str okv_sl okv_bool cellsFrom splice upd_eval argEnv_zero argEnv_succ ne_eq Nat.add_one_ne_zero not_false_eq_true List.not_mem_nil and_self decide_true List.getElem?_cons_zero List.getElem?_cons_succ List.size_toArray List.length_cons List.length_nil List.take_succ_cons List.take_zero List.drop_succ_cons List.drop_zero List.cons_append List.nil_append List.drop_nil Bool.not_true Bool.not_false Bool.false_eq_true Nat.zero_add Nat.add_zero wrap_in List.toList_toArray List.mem_cons or_self or_false false_or
attribute [local go_sem] ag22 ag23 ag25 ag26 ag28 ag3 ag34 ag36 ag38 ag40 ag59 ag68 ag69 ag9 bu59 bu69 by40 by59 by69 by9 el22 el23 el26 el31 el34 el38 el75 of25_0 of25_1 of28_0 of28_1 of28_2 of28_3 of36_0 of36_1 of40_0 of40_1 of40_2 of40_3 of59_0 of59_1 of68_0 of68_1 of68_2 of69_0 of69_1 of69_2 ro5_1 ro59_0 ro59_1 ro9_0 ro9_2 sz22 sz23 sz25 sz26 sz28 sz3 sz34 sz36 sz38 sz40 sz5 sz59 sz68 sz69 sz9 ze36 ze40 ze59 ze69 ze9
-- AUTO

def BentP (t : T) : Prop := PlainB t ∧ t.wt ≤ 100
theorem Plain.args {k n : Int} {nm : ByteArray} {args : List T} (h : Plain (.mk k n nm args)) : ∀ a ∈ args, Plain a := by cases h; assumption
theorem bent_of {t : T} (h : DrawP 4 t) : BentP t := ⟨h.1.b, by have := h.2; omega⟩
theorem drawP_mono {d e : Nat} (hde : d ≤ e) {t : T} (h : DrawP d t) : DrawP e t := ⟨h.1, by
  have h1 := h.2
  have h2 : 2 ^ d ≤ 2 ^ e := Nat.pow_le_pow_right (by omega) hde
  omega⟩
theorem row_low {st st' : St} {xs : List Byt} {s : Value} {q : Nat} (h : RowY st xs s) (ha : ∀ i, i < q → st'[i]? = st[i]?) (hn : xs = [] ∨ ∃ b, topId s = some b ∧ b < q) : RowY st' xs s := by
  rcases h with h | ⟨i, o, c, rfl, h⟩
  · exact .inl h
  · refine .inr ⟨i, o, c, rfl, fun j x hx => ?_⟩
    obtain ⟨cs, h1, h2, h3⟩ := h j x hx
    refine ⟨cs, h1, h2, fun k v hv => ?_⟩
    have h4 := h3 k v hv
    rcases hn with rfl | ⟨b, hb, hlt⟩
    · simp at hx
    simp only [topId, Option.some.injEq] at hb
    subst hb
    unfold cell at h4 ⊢
    rw [ha i hlt]; exact h4
theorem Own.args_slice {e : TypeId} {st : St} {k n : Int} {nm : ByteArray} {args : List T} {s : Value} {L : List Nat} (h : Own e st (.mk k n nm args) [.int .i64 k, .int .i64 n, .string nm, s] L) : SliceO (Own e st) e st args s L := by
  obtain ⟨s', h1, h2⟩ := h.open
  cases h1
  exact h2
def isIntB : Value → Bool
  | .int .i64 _ => true
  | _ => false
def intB : Value → Int
  | .int .i64 n => n
  | _ => 0
theorem ints_map {cs : List Value} (h : cs.all isIntB = true) : cs = (cs.map intB).map (Value.int .i64) := by
  rw [List.map_map]
  refine ((List.map_congr_left fun v hv => ?_).trans (List.map_id cs)).symm
  have := List.all_eq_true.1 h v hv
  unfold isIntB at this
  split at this
  · rfl
  · cases this
theorem row_lastI (st : St) (ns : List Int) (t : TypeId) (n : Nat) : Rw (st ++ [⟨ns.map (Value.int .i64), t, 0⟩]) ns (.slice (some ⟨st.length, 0, none⟩) ns.length n) := .inr ⟨st.length, 0, n, rfl, fun j x hx => ⟨[.int .i64 x], rfl, rfl, fun k v hv => by
  have hk : k = 0 := by have := (List.getElem?_eq_some_iff.1 hv).1; simp at this; omega
  subst hk
  obtain ⟨hj1, hj2⟩ := List.getElem?_eq_some_iff.1 hx
  have : v = .int .i64 x := by simpa using hv.symm
  subst this
  simp [cell, hx, show Kind.sz Int = 1 from rfl]⟩⟩
theorem T.wtL_snoc (xs : List T) (x : T) : T.wtL (xs ++ [x]) = T.wtL xs + x.wt := by
  induction xs with
  | nil => simp [T.wtL]
  | cons y ys ih => simp only [List.cons_append, T.wtL, ih]; omega
end Go.Proofs.Ytbenknjfncmbdaa.AM


/- Terms are totally ordered: the comparison, in plain Lean. -/
namespace Go.Proofs.Ytbenknjfncmbdaa.AM
open Go Go.Proofs
set_option linter.unusedVariables false
set_option linter.unusedSimpArgs false

def lexI : List Int → List Int → Int
  | [], [] => 0
  | [], _ :: _ => -1
  | _ :: _, [] => 1
  | a :: x, b :: y => if a < b then -1 else if b < a then 1 else lexI x y
theorem lexI_anti : ∀ x y, lexI y x = - lexI x y := by
  intro x
  induction x with
  | nil => intro y; cases y <;> rfl
  | cons a x ih =>
    intro y
    cases y with
    | nil => rfl
    | cons b y =>
      by_cases h1 : a < b
      · have h2 : ¬ b < a := by omega
        simp [lexI, h1, h2]
      · by_cases h2 : b < a
        · simp [lexI, h1, h2]
        · simp [lexI, h1, h2, ih y]
theorem lexI_nil (z : List Int) : lexI [] z ≤ 0 := by cases z <;> simp [lexI]
theorem lexI_trans : ∀ x y z, lexI x y ≤ 0 → lexI y z ≤ 0 → lexI x z ≤ 0 := by
  intro x
  induction x with
  | nil => intro y z _ _; exact lexI_nil z
  | cons a x ih =>
    intro y z h1 h2
    cases y with
    | nil => simp [lexI] at h1
    | cons b y =>
      cases z with
      | nil => simp [lexI] at h2
      | cons c z =>
        simp only [lexI] at h1 h2 ⊢
        by_cases e1 : a < b
        · by_cases e2 : b < c
          · rw [if_pos (by omega)]; omega
          · rw [if_neg e2] at h2
            by_cases e3 : c < b
            · rw [if_pos e3] at h2; omega
            · rw [if_pos (by omega)]; omega
        · rw [if_neg e1] at h1
          by_cases e2 : b < a
          · rw [if_pos e2] at h1; omega
          · rw [if_neg e2] at h1
            by_cases e3 : b < c
            · rw [if_pos (by omega)]; omega
            · rw [if_neg e3] at h2
              by_cases e4 : c < b
              · rw [if_pos e4] at h2; omega
              · rw [if_neg e4] at h2
                rw [if_neg (by omega), if_neg (by omega)]
                exact ih y z h1 h2

/-- The first of the numbers that is not 0. -/
def firstNZ : List Int → Int
  | [] => 0
  | x :: xs => if x = 0 then firstNZ xs else x
def ci (a b : Int) : Int := if a < b then -1 else if a > b then 1 else 0
def ct (a b : ByteArray) : Int := if Op.bytesLess a.toList b.toList = true then -1 else if Op.bytesLess b.toList a.toList = true then 1 else 0
def hdC (k n : Int) (nm : ByteArray) (m : Nat) (k' n' : Int) (nm' : ByteArray) (m' : Nat) : Int := firstNZ [ci k k', ci n n', ct nm nm', ci m m']
mutual
def T.cmp : T → T → Int
  | .mk k n nm xs, .mk k' n' nm' ys => if hdC k n nm xs.length k' n' nm' ys.length = 0 then T.cmpL xs ys else hdC k n nm xs.length k' n' nm' ys.length
def T.cmpL : List T → List T → Int
  | x :: xs, y :: ys => if T.cmp x y = 0 then T.cmpL xs ys else T.cmp x y
  | [], _ => 0
  | _ :: _, [] => 0
end

def keyB (s : ByteArray) : List Int := s.data.toList.map fun b => (b.toNat : Int)
mutual
def T.flatt : T → List Int
  | .mk k n nm xs => k :: n :: (keyB nm ++ (-1 :: (xs.length : Int) :: T.flatL xs))
def T.flatL : List T → List Int
  | [] => []
  | x :: xs => x.flatt ++ T.flatL xs
end
theorem lexI_cons (a b : Int) (x y : List Int) : lexI (a :: x) (b :: y) = if ci a b = 0 then lexI x y else ci a b := by
  unfold ci
  by_cases h1 : a < b
  · simp [lexI, h1]
  · by_cases h2 : b < a
    · simp [lexI, h1, h2]
    · simp [lexI, h1, h2]
theorem lexI_bytes : ∀ (x y : List UInt8) (r s : List Int), lexI (x.map (fun b => (b.toNat : Int)) ++ (-1 :: r)) (y.map (fun b => (b.toNat : Int)) ++ (-1 :: s)) = if x < y then -1 else if y < x then 1 else lexI r s := by
  intro x
  induction x with
  | nil =>
    intro y r s
    cases y with
    | nil => simp [lexI]
    | cons b y =>
      have h0 : (-1 : Int) < (b.toNat : Int) := by omega
      simp [lexI, h0]
  | cons a x ih =>
    intro y r s
    cases y with
    | nil =>
      have h0 : (-1 : Int) < (a.toNat : Int) := by omega
      have h1 : ¬ ((a.toNat : Int) < -1) := by omega
      simp [lexI, h0, h1]
    | cons b y =>
      have e : ∀ {p q : UInt8}, p < q ↔ p.toNat < q.toNat := fun {p q} => UInt8.lt_iff_toNat_lt
      simp only [List.map_cons, List.cons_append, lexI, List.cons_lt_cons_iff, ih y r s]
      by_cases h1 : a < b
      · have h2 : a.toNat < b.toNat := e.1 h1
        simp [h1, h2]
      · have h2 : ¬ a.toNat < b.toNat := fun h => h1 (e.2 h)
        by_cases h3 : b < a
        · have h4 : b.toNat < a.toNat := e.1 h3
          have h5 : ¬ a = b := fun h => by subst h; omega
          have h6 : ¬ (a.toNat : Int) < b.toNat := by omega
          have h7 : (b.toNat : Int) < a.toNat := by omega
          have h8 : ¬ b = a := fun h => h5 h.symm
          simp [h1, h3, h5, h8, h4, h2]
        · have h4 : ¬ b.toNat < a.toNat := fun h => h3 (e.2 h)
          have h5 : a = b := UInt8.toNat_inj.1 (by omega)
          subst h5
          simp
theorem lexI_ct (a b : ByteArray) (r s : List Int) : lexI (keyB a ++ (-1 :: r)) (keyB b ++ (-1 :: s)) = if ct a b = 0 then lexI r s else ct a b := by
  unfold keyB ct
  rw [lexI_bytes, Go.Proofs.bytesLess_eq, Go.Proofs.bytesLess_eq, Lib.toList_data, Lib.toList_data]
  by_cases h1 : a.data.toList < b.data.toList
  · simp [h1]
  · by_cases h2 : b.data.toList < a.data.toList
    · simp [h1, h2]
    · simp [h1, h2]
theorem T.cmp_flat : ∀ (a b : T) (r s : List Int), lexI (a.flatt ++ r) (b.flatt ++ s) = if T.cmp a b = 0 then lexI r s else T.cmp a b := by
  refine T.ind fun k n nm xs ih b r s => ?_
  obtain ⟨k', n', nm', ys⟩ := b
  have hL : ∀ (l : List T), (∀ a ∈ l, ∀ b r s, lexI (a.flatt ++ r) (b.flatt ++ s) = if T.cmp a b = 0 then lexI r s else T.cmp a b) → ∀ (m : List T), l.length = m.length → ∀ r s, lexI (T.flatL l ++ r) (T.flatL m ++ s) = if T.cmpL l m = 0 then lexI r s else T.cmpL l m := by
    intro l
    induction l with
    | nil =>
      intro _ m hm r s
      cases m with
      | nil => simp [T.flatL, T.cmpL]
      | cons y ys => simp at hm
    | cons x xs ihx =>
      intro h m hm r s
      cases m with
      | nil => simp at hm
      | cons y ys =>
        simp only [T.flatL, T.cmpL, List.append_assoc]
        rw [h x (by simp) y, ihx (fun a ha => h a (by simp [ha])) ys (by simpa using hm)]
        by_cases h1 : T.cmp x y = 0
        · simp [h1]
        · simp [h1]
  simp only [T.flatt, T.cmp, hdC, firstNZ, List.cons_append, List.append_assoc]
  rw [lexI_cons, lexI_cons, lexI_ct, lexI_cons]
  by_cases h1 : ci k k' = 0
  · by_cases h2 : ci n n' = 0
    · by_cases h3 : ct nm nm' = 0
      · by_cases h4 : ci (xs.length : Int) (ys.length : Int) = 0
        · have h5 : xs.length = ys.length := by
            unfold ci at h4
            split at h4
            · omega
            · split at h4 <;> omega
          rw [hL xs ih ys h5]
          simp [h1, h2, h3, h4]
        · simp [h1, h2, h3, h4]
      · simp [h1, h2, h3]
    · simp [h1, h2]
  · simp [h1]
theorem T.cmp_lex (a b : T) : T.cmp a b = lexI a.flatt b.flatt := by
  have h := T.cmp_flat a b [] []
  simp only [List.append_nil, lexI] at h
  rw [h]
  split
  · rename_i h1; exact h1
  · rfl
theorem T.cmp_anti (a b : T) : T.cmp b a = - T.cmp a b := by rw [T.cmp_lex, T.cmp_lex, lexI_anti]
theorem T.cmp_trans {a b c : T} (h1 : T.cmp a b ≤ 0) (h2 : T.cmp b c ≤ 0) : T.cmp a c ≤ 0 := by
  rw [T.cmp_lex] at h1 h2 ⊢
  exact lexI_trans _ _ _ h1 h2
theorem ct_zero {a b : ByteArray} : ct a b = 0 ↔ a = b := by
  unfold ct
  rw [Go.Proofs.bytesLess_eq, Go.Proofs.bytesLess_eq, Lib.toList_data, Lib.toList_data]
  constructor
  · intro h
    have h1 : ¬ a.data.toList < b.data.toList := fun h1 => by simp [h1] at h
    have h2 : ¬ b.data.toList < a.data.toList := fun h2 => by simp [h1, h2] at h
    have h3 : a.data.toList = b.data.toList := Std.le_antisymm (Std.not_lt.1 h2) (Std.not_lt.1 h1)
    exact ByteArray.ext (Array.ext' h3)
  · rintro rfl
    have : ¬ a.data.toList < a.data.toList := Std.lt_irrefl
    simp [this]
theorem ci_zero {a b : Int} : ci a b = 0 ↔ a = b := by
  unfold ci
  constructor
  · intro h
    split at h
    · omega
    · split at h <;> omega
  · rintro rfl; simp
theorem T.cmp_zero : ∀ (a b : T), T.cmp a b = 0 ↔ a = b := by
  refine T.ind fun k n nm xs ih b => ?_
  obtain ⟨k', n', nm', ys⟩ := b
  have hL : ∀ (l : List T), (∀ a ∈ l, ∀ b, T.cmp a b = 0 ↔ a = b) → ∀ (m : List T), l.length = m.length → (T.cmpL l m = 0 ↔ l = m) := by
    intro l
    induction l with
    | nil =>
      intro _ m hm
      cases m with
      | nil => simp [T.cmpL]
      | cons y ys => simp at hm
    | cons x xs ihx =>
      intro h m hm
      cases m with
      | nil => simp at hm
      | cons y ys =>
        simp only [T.cmpL, List.cons.injEq]
        rw [← h x (by simp) y, ← ihx (fun a ha => h a (by simp [ha])) ys (by simpa using hm)]
        by_cases h1 : T.cmp x y = 0
        · simp [h1]
        · simp [h1]
  simp only [T.cmp, hdC, firstNZ, T.mk.injEq]
  by_cases h1 : ci k k' = 0
  · by_cases h2 : ci n n' = 0
    · by_cases h3 : ct nm nm' = 0
      · by_cases h4 : ci (xs.length : Int) (ys.length : Int) = 0
        · have h5 : xs.length = ys.length := by have := ci_zero.1 h4; omega
          simp only [h1, h2, h3, h4, if_true]
          rw [hL xs ih ys h5]
          simp [ci_zero.1 h1, ci_zero.1 h2, ct_zero.1 h3]
        · have h5 : xs ≠ ys := fun e => h4 (by rw [e]; simp [ci])
          simp [h1, h2, h3, h4, h5]
      · have h5 : nm ≠ nm' := fun e => h3 (ct_zero.2 e)
        simp [h1, h2, h3, h5]
    · have h5 : n ≠ n' := fun e => h2 (ci_zero.2 e)
      simp [h1, h2, h5]
  · have h5 : k ≠ k' := fun e => h1 (ci_zero.2 e)
    simp [h1, h5]
end Go.Proofs.Ytbenknjfncmbdaa.AM


/- Terms are compared: cmp.Compare, cmp.Or, impl.CompareTerms, spec.l3Ints, l3Texts, spec.CompareTerms. -/
namespace Go.Proofs.Ytbenknjfncmbdaa.AM
open Go Go.Proofs
set_option linter.unusedVariables false
set_option linter.unusedSimpArgs false
set_option maxRecDepth 100000
attribute [local go_sem] List.map_cons List.map_nil List.all_cons List.all_nil Bool.and_self Option.map_some List.getElem?_toArray Option.bind_some gye_b gye_t gsk_b gsk_t gb1 gb2 gb3 gb4 bne_self_eq_false beq_self_eq_true w_guard w_nil stepV_some step_some step_some' w_move w_assign w_pick w_binOp w_unOp w_load w_fieldAddr w_indexAddr w_len w_max w_index ev_max max_int ev_index w_box w_alloc w_store w_field w_extract w_nilCheck w_convert w_buildSlice w_build ev_buildL fillL_nil fillL_cons bs0 bs1 ev_conv ev_bin ev_un ev_pick ev_load ev_fieldAddr ev_indexAddr ev_len ev_field ev_extract ev_nilCheck fr_tmp fr_int fr_bool fr_str fr_nil fr_func put_some put_none bin_lss bin_leq bin_gtr bin_geq bin_eql bin_neq bin_add bin_sub bin_mul bin_seql bin_sneq un_not pick_ ext_ loadA_p cellAt_l cellAt_h okPtr_l okPtr_h fadA_p allocA_l storeA_l cells_agg cells_int cells_str cells_sl cells_bool flat_i flat_s flat_b flat_sl flat_nil loc_agg loc_int loc_str loc_sl loc_bool loc_fn loc_ptr okv_agg okv_int okv_str okv_sl okv_bool cellsFrom splice upd_eval argEnv_zero argEnv_succ ne_eq Nat.add_one_ne_zero not_false_eq_true List.not_mem_nil and_self decide_true List.getElem?_cons_zero List.getElem?_cons_succ List.size_toArray List.length_cons List.length_nil List.take_succ_cons List.take_zero List.drop_succ_cons List.drop_zero List.cons_append List.nil_append List.drop_nil Bool.not_true Bool.not_false Bool.false_eq_true Nat.zero_add Nat.add_zero wrap_in List.toList_toArray List.mem_cons or_self or_false false_or
attribute [local go_sem] ag22 ag23 ag25 ag26 ag28 ag3 ag34 ag36 ag38 ag40 ag59 ag68 ag69 ag9 bu59 bu69 by40 by59 by69 by9 el22 el23 el26 el31 el34 el38 el75 of25_0 of25_1 of28_0 of28_1 of28_2 of28_3 of36_0 of36_1 of40_0 of40_1 of40_2 of40_3 of59_0 of59_1 of68_0 of68_1 of68_2 of69_0 of69_1 of69_2 ro5_1 ro59_0 ro59_1 ro9_0 ro9_2 sz22 sz23 sz25 sz26 sz28 sz3 sz34 sz36 sz38 sz40 sz5 sz59 sz68 sz69 sz9 ze36 ze40 ze59 ze69 ze9
-- AUTO

theorem gtr_less (a b : List UInt8) : (!(Op.bytesLess a b || a == b)) = Op.bytesLess b a := by
  rw [Go.Proofs.bytesLess_eq, Go.Proofs.bytesLess_eq]
  by_cases h1 : a < b
  · have h2 : ¬ b < a := fun h => Std.lt_irrefl (Std.lt_trans h1 h)
    simp [h1, h2]
  · by_cases h2 : b < a
    · have h3 : ¬ a = b := fun e => by subst e; exact h1 h2
      simp [h1, h2, h3]
    · have h3 : a = b := Std.le_antisymm (Std.not_lt.1 h2) (Std.not_lt.1 h1)
      subst h3
      simp [h1]
theorem bin_sgtr2 {P : Program} {t : TypeId} {x y : Operand} {a b : ByteArray} : binE P .gtr t x y (.string a) (.string b) = some (.bool (Op.bytesLess b.toList a.toList)) := by rw [bin_sgtr, gtr_less]
theorem rowOk_ints {st : St} {i c : Nat} {ns : List Int} {e : TypeId} (h : st[i]? = some ⟨ns.map (Value.int .i64), e, 0⟩) (j : Nat) (hj : j < ns.length) : cell st i (j * 1) = some (.int .i64 ns[j]) := by
  rw [cell_of h, Nat.mul_one, List.getElem?_map, List.getElem?_eq_getElem hj]; rfl
theorem wt_arg {k n : Int} {nm : ByteArray} {args : List T} : args.length ≤ (T.mk k n nm args).wt := by simp only [T.wt]; omega
theorem cmpL_snoc : ∀ (xs ys : List T) (x y : T), xs.length = ys.length → T.cmpL (xs ++ [x]) (ys ++ [y]) = if T.cmpL xs ys = 0 then T.cmp x y else T.cmpL xs ys := by
  intro xs
  induction xs with
  | nil =>
    intro ys x y h
    cases ys with
    | nil => simp only [List.nil_append, T.cmpL, if_true]; split <;> simp_all
    | cons _ _ => simp at h
  | cons a xs ih =>
    intro ys x y h
    cases ys with
    | nil => simp at h
    | cons b ys =>
      simp only [List.cons_append, T.cmpL]
      rw [ih ys x y (by simpa using h)]
      by_cases h1 : T.cmp a b = 0
      · simp [h1]
      · simp [h1]
theorem cmpL_take : ∀ (xs ys : List T) (j : Nat), T.cmpL (xs.take j) (ys.take j) ≠ 0 → T.cmpL xs ys = T.cmpL (xs.take j) (ys.take j) := by
  intro xs
  induction xs with
  | nil => intro ys j h; simp [T.cmpL] at h
  | cons a xs ih =>
    intro ys j h
    cases ys with
    | nil => simp at h; cases j <;> simp [T.cmpL] at h
    | cons b ys =>
      cases j with
      | zero => simp [T.cmpL] at h
      | succ j =>
        simp only [List.take_succ_cons, T.cmpL] at h ⊢
        by_cases h1 : T.cmp a b = 0
        · simp only [h1, if_true] at h ⊢
          exact ih ys j h
        · simp only [if_neg h1]
theorem hd_len {a b c d : Int} {m p : Nat} (h : (if a = 0 then (if b = 0 then (if c = 0 then (if ci (m : Int) (p : Int) = 0 then d else ci m p) else c) else b) else a) = 0) : m = p := by
  by_cases h1 : a = 0
  · by_cases h2 : b = 0
    · by_cases h3 : c = 0
      · by_cases h4 : ci (m : Int) (p : Int) = 0
        · have := ci_zero.1 h4; omega
        · simp [h1, h2, h3, h4] at h
      · simp [h1, h2, h3] at h
    · simp [h1, h2] at h
  · simp [h1] at h
end Go.Proofs.Ytbenknjfncmbdaa.AM


/- Two terms drawn: spec.l3Two, DrawCompareTerms, DrawIsGround; the law FnOrder. -/
namespace Go.Proofs.Ytbenknjfncmbdaa.AM
open Go Go.Proofs
set_option linter.unusedVariables false
set_option linter.unusedSimpArgs false
set_option maxRecDepth 100000
attribute [local go_sem] List.map_cons List.map_nil List.all_cons List.all_nil Bool.and_self Option.map_some List.getElem?_toArray Option.bind_some gye_b gye_t gsk_b gsk_t gb1 gb2 gb3 gb4 bne_self_eq_false beq_self_eq_true w_guard w_nil stepV_some step_some step_some' w_move w_assign w_pick w_binOp w_unOp w_load w_fieldAddr w_indexAddr w_len w_max w_index ev_max max_int ev_index w_box w_alloc w_store w_field w_extract w_nilCheck w_convert w_buildSlice w_build ev_buildL fillL_nil fillL_cons bs0 bs1 ev_conv ev_bin ev_un ev_pick ev_load ev_fieldAddr ev_indexAddr ev_len ev_field ev_extract ev_nilCheck fr_tmp fr_int fr_bool fr_str fr_nil fr_func put_some put_none bin_lss bin_leq bin_gtr bin_geq bin_eql bin_neq bin_add bin_sub bin_mul bin_seql bin_sneq un_not pick_ ext_ loadA_p cellAt_l cellAt_h okPtr_l okPtr_h fadA_p allocA_l storeA_l cells_agg cells_int cells_str cells_sl cells_bool flat_i flat_s flat_b flat_sl flat_nil loc_agg loc_int loc_str loc_sl loc_bool loc_fn loc_ptr okv_agg okv_int okv_str okv_sl okv_bool cellsFrom splice upd_eval argEnv_zero argEnv_succ ne_eq Nat.add_one_ne_zero not_false_eq_true List.not_mem_nil and_self decide_true List.getElem?_cons_zero List.getElem?_cons_succ List.size_toArray List.length_cons List.length_nil List.take_succ_cons List.take_zero List.drop_succ_cons List.drop_zero List.cons_append List.nil_append List.drop_nil Bool.not_true Bool.not_false Bool.false_eq_true Nat.zero_add Nat.add_zero wrap_in List.toList_toArray List.mem_cons or_self or_false false_or
attribute [local go_sem] ag22 ag23 ag25 ag26 ag28 ag3 ag34 ag36 ag38 ag40 ag59 ag68 ag69 ag9 bu59 bu69 by40 by59 by69 by9 el22 el23 el26 el31 el34 el38 el75 of25_0 of25_1 of28_0 of28_1 of28_2 of28_3 of36_0 of36_1 of40_0 of40_1 of40_2 of40_3 of59_0 of59_1 of68_0 of68_1 of68_2 of69_0 of69_1 of69_2 ro5_1 ro59_0 ro59_1 ro9_0 ro9_2 sz22 sz23 sz25 sz26 sz28 sz3 sz34 sz36 sz38 sz40 sz5 sz59 sz68 sz69 sz9 ze36 ze40 ze59 ze69 ze9
-- AUTO

theorem finCC {P : Program} {st : St} {F : Value → St → Prop} {env : Nat → Value} {loc : Nat → Nat × List Value} {a b : Tmp} {t u : TypeId} {x : Ex} (hx : x = .ret ∨ x = .normal) {v v' : Value} (hv : loadA P [] t (env a) loc st = some v) (hv' : loadA P [] u (env b) loc st = some v') (hq : F (.tuple #[v, v']) st) : Fin P [.cell a t, .cell b u] F x ⟨env, loc⟩ st := by
  have h : ∃ r, resA P [.cell a t, .cell b u] ⟨env, loc⟩ st = some r ∧ F r st := ⟨.tuple #[v, v'], by simp [resA, resL, resV, hv, hv'], hq⟩
  rcases hx with rfl | rfl <;> exact h
def DrawE (st : St) (R : T → Prop) (r : Value) (st2 : St) : Prop := Ext st st2 ∧ ∃ t ds, r = .agg ds.toArray ∧ Enc st2 t ds ∧ R t
theorem bent_lim {t : T} (h : BentP t) : Lim 1073741824 t := Lim.of_wt _ (by have := h.2; omega)
theorem Enc.args_cells {st : St} {t : T} {cs : List Value} (h : Enc st t cs) : ∃ k n nm s, cs = [.int .i64 k, .int .i64 n, .string nm, s] ∧ isLoc s = false ∧ okv s = true ∧ vc s = #[s] := by
  obtain ⟨k, n, nm, args⟩ := t
  obtain ⟨s, rfl, hr⟩ := h.open
  exact ⟨k, n, nm, s, rfl, hr.notLoc.1, hr.notLoc.2, Row.cells1 hr⟩
theorem lexI_bnd : ∀ x y, -1 ≤ lexI x y ∧ lexI x y ≤ 1 := by
  intro x
  induction x with
  | nil => intro y; cases y <;> simp [lexI]
  | cons a x ih =>
    intro y
    cases y with
    | nil => simp [lexI]
    | cons b y =>
      simp only [lexI]
      have := ih y
      split
      · omega
      · split <;> omega
theorem RowY.of_ext {st st' : St} {xs : List Byt} {s : Value} (h : RowY st xs s) (hx : Ext st st') : RowY st' xs s := h.ext hx
end Go.Proofs.Ytbenknjfncmbdaa.AM

