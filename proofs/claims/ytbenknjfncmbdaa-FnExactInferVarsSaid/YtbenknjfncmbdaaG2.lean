/- My texts for the law, laid together (part 2): K7 K4 C0 C3 Q1 C6 DB K3 C11 C12 C13 C15 C16 N1 N2 C17 D5 E1 L0 C21 Q2. -/
import Derived.Test.YtbenknjfncmbdaaG1
import Derived.Laws.Strings
import Derived.Sort.Walk0
import Derived.Shelf.Sort.Plain
import Derived.Shelf.Slices.CompactS
import Derived.Test.YtbenknjfncmbdaaA3
import Derived.ChangeOld
import Derived.ChangeArms
import Derived.DataReads
/- Operations and signatures: laws.szOp, szOpS, szSignature, toOp, toOpS, toSignature, eqOp, eqOpS, eqSignature, markOp, markOpS, markSignature, heldOp. -/
namespace Go.Proofs.Ytbenknjfncmbdaa.AM
open Go Go.Proofs
set_option linter.unusedVariables false
set_option linter.unusedSimpArgs false
set_option maxRecDepth 100000
attribute [local go_sem] List.map_cons List.map_nil List.all_cons List.all_nil Bool.and_self Option.map_some List.getElem?_toArray Option.bind_some gye_b gye_t gsk_b gsk_t gb1 gb2 gb3 gb4 bne_self_eq_false beq_self_eq_true w_guard w_nil stepV_some step_some step_some' w_move w_assign w_pick w_binOp w_unOp w_load w_fieldAddr w_indexAddr w_len w_max w_index ev_max max_int ev_index w_box w_alloc w_store w_field w_extract w_nilCheck w_convert w_buildSlice w_build ev_buildL fillL_nil fillL_cons bs0 bs1 ev_conv ev_bin ev_un ev_pick ev_load ev_fieldAddr ev_indexAddr ev_len ev_field ev_extract ev_nilCheck fr_tmp fr_int fr_bool fr_str fr_nil fr_func put_some put_none bin_lss bin_leq bin_gtr bin_geq bin_eql bin_neq bin_add bin_sub bin_mul bin_seql bin_sneq un_not pick_ ext_ loadA_p cellAt_l cellAt_h okPtr_l okPtr_h fadA_p allocA_l storeA_l cells_agg cells_int cells_str cells_sl cells_bool flat_i flat_s flat_b flat_sl flat_nil loc_agg loc_int loc_str loc_sl loc_bool loc_fn loc_ptr okv_agg okv_int okv_str okv_sl okv_bool cellsFrom splice upd_eval argEnv_zero argEnv_succ ne_eq Nat.add_one_ne_zero not_false_eq_true List.not_mem_nil and_self decide_true List.getElem?_cons_zero List.getElem?_cons_succ List.size_toArray List.length_cons List.length_nil List.take_succ_cons List.take_zero List.drop_succ_cons List.drop_zero List.cons_append List.nil_append List.drop_nil Bool.not_true Bool.not_false Bool.false_eq_true Nat.zero_add Nat.add_zero wrap_in List.toList_toArray List.mem_cons or_self or_false false_or
attribute [local go_sem] ag22 ag23 ag25 ag26 ag28 ag3 ag34 ag36 ag38 ag40 ag59 ag68 ag69 ag9 bu59 bu69 by40 by59 by69 by9 el22 el23 el26 el31 el34 el38 el75 of25_0 of25_1 of28_0 of28_1 of28_2 of28_3 of36_0 of36_1 of40_0 of40_1 of40_2 of40_3 of59_0 of59_1 of68_0 of68_1 of68_2 of69_0 of69_1 of69_2 ro5_1 ro59_0 ro59_1 ro9_0 ro9_2 sz22 sz23 sz25 sz26 sz28 sz3 sz34 sz36 sz38 sz40 sz5 sz59 sz68 sz69 sz9 ze36 ze40 ze59 ze69 ze9
-- AUTO

theorem szOp_ok (o : Opr) (st : St) (cs : List Value) (left : Int) (hl : LensO o) (h0 : 0 ≤ left) (h1 : left ≤ 1073741824) (h : EncO st o cs) :
    CallS Try.prog 35 [.agg cs.toArray, .int .i64 left] st fun r st' => r = .int .i64 (if (Wt.wt o : Int) ≤ left then left - (Wt.wt o : Nat) else -1) ∧ st' = st := by
  refine CallS_of_W [] 26 Try.func35 rfl rfl rfl rfl (by simp) ?_
  have hn2 : o.nm.size ≤ 9223372036854775807 := hl.1
  have hm2 : o.res.size ≤ 9223372036854775807 := hl.2.1
  have hw : Wt.wt o = o.nm.size + (o.args.length + wtL o.args) + o.res.size := rfl
  obtain ⟨s, rfl, hr⟩ := h
  have hls := len_str (s := o.nm) Try.underlying9
  have hls2 := len_str (s := o.res) Try.underlying9
  have n1 := hr.notLoc.1
  have n2 := hr.notLoc.2
  repeat (first | (refine W_reg rfl fun G K hG hK => ?_; simp (disch := omega) only [go_sem, ↓reduceIte, Nat.reduceEqDiff, Nat.reduceAdd, Nat.reduceLeDiff, hG, n1, n2, hls, hls2]; refine hK _ _ ?_; clear hK K hG G) | (refine W_end rfl fun G K hG hK => ?_; simp (disch := omega) only [go_sem, ↓reduceIte, Nat.reduceEqDiff, Nat.reduceAdd, Nat.reduceLeDiff, hG, n1, n2, hls, hls2]; refine hK _ _ ?_; clear hK K hG G; repeat (first | refine thenI ?_ | refine thenE ?_ | refine thenR ?_ | refine inBI ?_ | refine inBR ?_ | refine inBS ?_ | refine inBN (by decide) ?_)) | refine W_seqS ?_ | refine W_seqC ?_ | refine W_seqB ?_ | refine W_block ?_ | (refine W_skip ?_; repeat (first | refine thenI ?_ | refine thenE ?_ | refine thenR ?_ | refine inBI ?_ | refine inBR ?_ | refine inBS ?_ | refine inBN (by decide) ?_)) | (refine W_condT ?hc ?_; (case hc => (simp (disch := omega) only [go_sem, ↓reduceIte, Nat.reduceEqDiff, Nat.reduceAdd, Nat.reduceLeDiff, n1, n2, hls, hls2]; done))) | (refine W_condF ?hc ?_; (case hc => (simp (disch := omega) only [go_sem, ↓reduceIte, Nat.reduceEqDiff, Nat.reduceAdd, Nat.reduceLeDiff, n1, n2, hls, hls2]; done))))
  refine W_condP rfl (fun hb => ?_) (fun hb => ?_)
  · repeat (first | (refine W_reg rfl fun G K hG hK => ?_; simp (disch := omega) only [go_sem, ↓reduceIte, Nat.reduceEqDiff, Nat.reduceAdd, Nat.reduceLeDiff, hG, n1, n2, hls, hls2]; refine hK _ _ ?_; clear hK K hG G) | (refine W_end rfl fun G K hG hK => ?_; simp (disch := omega) only [go_sem, ↓reduceIte, Nat.reduceEqDiff, Nat.reduceAdd, Nat.reduceLeDiff, hG, n1, n2, hls, hls2]; refine hK _ _ ?_; clear hK K hG G; repeat (first | refine thenI ?_ | refine thenE ?_ | refine thenR ?_ | refine inBI ?_ | refine inBR ?_ | refine inBS ?_ | refine inBN (by decide) ?_)) | refine W_seqS ?_ | refine W_seqC ?_ | refine W_seqB ?_ | refine W_block ?_ | (refine W_skip ?_; repeat (first | refine thenI ?_ | refine thenE ?_ | refine thenR ?_ | refine inBI ?_ | refine inBR ?_ | refine inBS ?_ | refine inBN (by decide) ?_)) | (refine W_condT ?hc ?_; (case hc => (simp (disch := omega) only [go_sem, ↓reduceIte, Nat.reduceEqDiff, Nat.reduceAdd, Nat.reduceLeDiff, n1, n2, hls, hls2]; done))) | (refine W_condF ?hc ?_; (case hc => (simp (disch := omega) only [go_sem, ↓reduceIte, Nat.reduceEqDiff, Nat.reduceAdd, Nat.reduceLeDiff, n1, n2, hls, hls2]; done))))
    refine W_ret ?_; try (repeat (first | refine thenI ?_ | refine thenE ?_ | refine thenR ?_ | refine inBI ?_ | refine inBR ?_ | refine inBS ?_ | refine inBN (by decide) ?_))
    refine (fin1 (.inl rfl) (by (simp (disch := omega) only [go_sem, ↓reduceIte, Nat.reduceEqDiff, Nat.reduceAdd, Nat.reduceLeDiff, n1, n2, hls, hls2]); try rfl) rfl ⟨?_, rfl⟩)
    rw [if_neg (by omega)]
  repeat (first | (refine W_reg rfl fun G K hG hK => ?_; simp (disch := omega) only [go_sem, ↓reduceIte, Nat.reduceEqDiff, Nat.reduceAdd, Nat.reduceLeDiff, hG, n1, n2, hls, hls2]; refine hK _ _ ?_; clear hK K hG G) | (refine W_end rfl fun G K hG hK => ?_; simp (disch := omega) only [go_sem, ↓reduceIte, Nat.reduceEqDiff, Nat.reduceAdd, Nat.reduceLeDiff, hG, n1, n2, hls, hls2]; refine hK _ _ ?_; clear hK K hG G; repeat (first | refine thenI ?_ | refine thenE ?_ | refine thenR ?_ | refine inBI ?_ | refine inBR ?_ | refine inBS ?_ | refine inBN (by decide) ?_)) | refine W_seqS ?_ | refine W_seqC ?_ | refine W_seqB ?_ | refine W_block ?_ | (refine W_skip ?_; repeat (first | refine thenI ?_ | refine thenE ?_ | refine thenR ?_ | refine inBI ?_ | refine inBR ?_ | refine inBS ?_ | refine inBN (by decide) ?_)) | (refine W_condT ?hc ?_; (case hc => (simp (disch := omega) only [go_sem, ↓reduceIte, Nat.reduceEqDiff, Nat.reduceAdd, Nat.reduceLeDiff, n1, n2, hls, hls2]; done))) | (refine W_condF ?hc ?_; (case hc => (simp (disch := omega) only [go_sem, ↓reduceIte, Nat.reduceEqDiff, Nat.reduceAdd, Nat.reduceLeDiff, n1, n2, hls, hls2]; done))))
  (repeat (first | refine W_seqS ?_ | refine W_seqC ?_ | refine W_seqB ?_ | refine W_block ?_)); refine W_reg rfl fun G K hG hK => ?_; simp (disch := omega) only [go_sem, ↓reduceIte, Nat.reduceEqDiff, Nat.reduceAdd, Nat.reduceLeDiff, hG, n1, n2, hls, hls2]
  refine w_call (szStringS_ok o.args st s (left - o.nm.size) (by omega) (by omega) hl.2.2.1 hl.2.2.2 hr) (by simp (disch := omega) only [go_sem, ↓reduceIte, Nat.reduceEqDiff, n1, n2, hls, hls2]) ?hl ?_
  case hl => first | rfl | (simp only [go_sem, List.all_cons, List.all_nil, Bool.not_false, Bool.and_self, n1, n2, hls, hls2]; done)
  rintro r_ st ⟨rfl, rfl⟩; refine ⟨fun e => (by cases e), ?_⟩
  simp (disch := omega) only [go_sem, ↓reduceIte, Nat.reduceEqDiff, Nat.reduceAdd, Nat.reduceLeDiff, hG, n1, n2, hls, hls2]; refine hK _ _ ?_; clear hK K hG G; repeat (first | refine thenI ?_ | refine thenE ?_ | refine thenR ?_ | refine inBI ?_ | refine inBR ?_ | refine inBS ?_ | refine inBN (by decide) ?_)
  by_cases hq : ((o.args.length + wtL o.args : Nat) : Int) ≤ left - (o.nm.size : Int)
  case neg =>
    rw [if_neg hq]
    have c2 : decide ((-1 : Int) < 0) = true := by simp
    repeat (first | (refine W_reg rfl fun G K hG hK => ?_; simp (disch := omega) only [go_sem, ↓reduceIte, Nat.reduceEqDiff, Nat.reduceAdd, Nat.reduceLeDiff, hG, n1, n2, hls, hls2, c2]; refine hK _ _ ?_; clear hK K hG G) | (refine W_end rfl fun G K hG hK => ?_; simp (disch := omega) only [go_sem, ↓reduceIte, Nat.reduceEqDiff, Nat.reduceAdd, Nat.reduceLeDiff, hG, n1, n2, hls, hls2, c2]; refine hK _ _ ?_; clear hK K hG G; repeat (first | refine thenI ?_ | refine thenE ?_ | refine thenR ?_ | refine inBI ?_ | refine inBR ?_ | refine inBS ?_ | refine inBN (by decide) ?_)) | refine W_seqS ?_ | refine W_seqC ?_ | refine W_seqB ?_ | refine W_block ?_ | (refine W_skip ?_; repeat (first | refine thenI ?_ | refine thenE ?_ | refine thenR ?_ | refine inBI ?_ | refine inBR ?_ | refine inBS ?_ | refine inBN (by decide) ?_)) | (refine W_condT ?hc ?_; (case hc => (simp (disch := omega) only [go_sem, ↓reduceIte, Nat.reduceEqDiff, Nat.reduceAdd, Nat.reduceLeDiff, n1, n2, hls, hls2, c2]; done))) | (refine W_condF ?hc ?_; (case hc => (simp (disch := omega) only [go_sem, ↓reduceIte, Nat.reduceEqDiff, Nat.reduceAdd, Nat.reduceLeDiff, n1, n2, hls, hls2, c2]; done))))
    refine W_ret ?_; try (repeat (first | refine thenI ?_ | refine thenE ?_ | refine thenR ?_ | refine inBI ?_ | refine inBR ?_ | refine inBS ?_ | refine inBN (by decide) ?_))
    refine fin1 (.inl rfl) (by (simp (disch := omega) only [go_sem, ↓reduceIte, Nat.reduceEqDiff, Nat.reduceAdd, Nat.reduceLeDiff, n1, n2, hls, hls2]); try rfl) rfl ⟨?_, rfl⟩
    rw [if_neg (by omega)]
  rw [if_pos hq]
  have c2 : decide (left - (o.nm.size : Int) - ((o.args.length + wtL o.args : Nat) : Int) < 0) = false := by simp only [decide_eq_false_iff_not]; omega
  repeat (first | (refine W_reg rfl fun G K hG hK => ?_; simp (disch := omega) only [go_sem, ↓reduceIte, Nat.reduceEqDiff, Nat.reduceAdd, Nat.reduceLeDiff, hG, n1, n2, hls, hls2, c2]; refine hK _ _ ?_; clear hK K hG G) | (refine W_end rfl fun G K hG hK => ?_; simp (disch := omega) only [go_sem, ↓reduceIte, Nat.reduceEqDiff, Nat.reduceAdd, Nat.reduceLeDiff, hG, n1, n2, hls, hls2, c2]; refine hK _ _ ?_; clear hK K hG G; repeat (first | refine thenI ?_ | refine thenE ?_ | refine thenR ?_ | refine inBI ?_ | refine inBR ?_ | refine inBS ?_ | refine inBN (by decide) ?_)) | refine W_seqS ?_ | refine W_seqC ?_ | refine W_seqB ?_ | refine W_block ?_ | (refine W_skip ?_; repeat (first | refine thenI ?_ | refine thenE ?_ | refine thenR ?_ | refine inBI ?_ | refine inBR ?_ | refine inBS ?_ | refine inBN (by decide) ?_)) | (refine W_condT ?hc ?_; (case hc => (simp (disch := omega) only [go_sem, ↓reduceIte, Nat.reduceEqDiff, Nat.reduceAdd, Nat.reduceLeDiff, n1, n2, hls, hls2, c2]; done))) | (refine W_condF ?hc ?_; (case hc => (simp (disch := omega) only [go_sem, ↓reduceIte, Nat.reduceEqDiff, Nat.reduceAdd, Nat.reduceLeDiff, n1, n2, hls, hls2, c2]; done))))
  refine W_condP rfl (fun hb2 => ?_) (fun hb2 => ?_)
  · repeat (first | (refine W_reg rfl fun G K hG hK => ?_; simp (disch := omega) only [go_sem, ↓reduceIte, Nat.reduceEqDiff, Nat.reduceAdd, Nat.reduceLeDiff, hG, n1, n2, hls, hls2]; refine hK _ _ ?_; clear hK K hG G) | (refine W_end rfl fun G K hG hK => ?_; simp (disch := omega) only [go_sem, ↓reduceIte, Nat.reduceEqDiff, Nat.reduceAdd, Nat.reduceLeDiff, hG, n1, n2, hls, hls2]; refine hK _ _ ?_; clear hK K hG G; repeat (first | refine thenI ?_ | refine thenE ?_ | refine thenR ?_ | refine inBI ?_ | refine inBR ?_ | refine inBS ?_ | refine inBN (by decide) ?_)) | refine W_seqS ?_ | refine W_seqC ?_ | refine W_seqB ?_ | refine W_block ?_ | (refine W_skip ?_; repeat (first | refine thenI ?_ | refine thenE ?_ | refine thenR ?_ | refine inBI ?_ | refine inBR ?_ | refine inBS ?_ | refine inBN (by decide) ?_)) | (refine W_condT ?hc ?_; (case hc => (simp (disch := omega) only [go_sem, ↓reduceIte, Nat.reduceEqDiff, Nat.reduceAdd, Nat.reduceLeDiff, n1, n2, hls, hls2]; done))) | (refine W_condF ?hc ?_; (case hc => (simp (disch := omega) only [go_sem, ↓reduceIte, Nat.reduceEqDiff, Nat.reduceAdd, Nat.reduceLeDiff, n1, n2, hls, hls2]; done))))
    refine W_ret ?_; try (repeat (first | refine thenI ?_ | refine thenE ?_ | refine thenR ?_ | refine inBI ?_ | refine inBR ?_ | refine inBS ?_ | refine inBN (by decide) ?_))
    refine (fin1 (.inl rfl) (by (simp (disch := omega) only [go_sem, ↓reduceIte, Nat.reduceEqDiff, Nat.reduceAdd, Nat.reduceLeDiff, n1, n2, hls, hls2]); try rfl) rfl ⟨?_, rfl⟩)
    rw [if_neg (by omega)]
  repeat (first | (refine W_reg rfl fun G K hG hK => ?_; simp (disch := omega) only [go_sem, ↓reduceIte, Nat.reduceEqDiff, Nat.reduceAdd, Nat.reduceLeDiff, hG, n1, n2, hls, hls2]; refine hK _ _ ?_; clear hK K hG G) | (refine W_end rfl fun G K hG hK => ?_; simp (disch := omega) only [go_sem, ↓reduceIte, Nat.reduceEqDiff, Nat.reduceAdd, Nat.reduceLeDiff, hG, n1, n2, hls, hls2]; refine hK _ _ ?_; clear hK K hG G; repeat (first | refine thenI ?_ | refine thenE ?_ | refine thenR ?_ | refine inBI ?_ | refine inBR ?_ | refine inBS ?_ | refine inBN (by decide) ?_)) | refine W_seqS ?_ | refine W_seqC ?_ | refine W_seqB ?_ | refine W_block ?_ | (refine W_skip ?_; repeat (first | refine thenI ?_ | refine thenE ?_ | refine thenR ?_ | refine inBI ?_ | refine inBR ?_ | refine inBS ?_ | refine inBN (by decide) ?_)) | (refine W_condT ?hc ?_; (case hc => (simp (disch := omega) only [go_sem, ↓reduceIte, Nat.reduceEqDiff, Nat.reduceAdd, Nat.reduceLeDiff, n1, n2, hls, hls2]; done))) | (refine W_condF ?hc ?_; (case hc => (simp (disch := omega) only [go_sem, ↓reduceIte, Nat.reduceEqDiff, Nat.reduceAdd, Nat.reduceLeDiff, n1, n2, hls, hls2]; done))))
  refine W_ret ?_; try (repeat (first | refine thenI ?_ | refine thenE ?_ | refine thenR ?_ | refine inBI ?_ | refine inBR ?_ | refine inBS ?_ | refine inBN (by decide) ?_))
  refine fin1 (.inl rfl) (by (simp (disch := omega) only [go_sem, ↓reduceIte, Nat.reduceEqDiff, Nat.reduceAdd, Nat.reduceLeDiff, n1, n2, hls, hls2]); try rfl) rfl ⟨?_, rfl⟩
  have e : left - (o.nm.size : Int) - ((o.args.length + wtL o.args : Nat) : Int) - (o.res.size : Int) = left - ((Wt.wt o : Nat) : Int) := by omega
  rw [if_pos (by omega), e]

theorem szOpS_ok (xs : List Opr) (st : St) (s : Value) (left : Int) (h0 : 0 ≤ left) (h1 : left ≤ 1073741824) (hbig : xs.length ≤ maxLen) (hl : ∀ b ∈ xs, LensO b) (hr : Rw st xs s) :
    CallS Try.prog 18 [s, .int .i64 left] st fun r st' => r = .int .i64 (if ((xs.length + wtL xs : Nat) : Int) ≤ left then left - (xs.length + wtL xs : Nat) else -1) ∧ st' = st := by
  refine CallS_of_W [] 27 Try.func18 rfl rfl rfl rfl (by simp) ?_
  have hbig2 : xs.length ≤ 9223372036854775807 := hbig
  clear hbig
  have hlen : lenE Try.prog 23 s = some (.int .i64 xs.length) := row_len hr Try.underlying23
  repeat (first | (refine W_reg rfl fun G K hG hK => ?_; simp (disch := omega) only [go_sem, ↓reduceIte, Nat.reduceEqDiff, Nat.reduceAdd, Nat.reduceLeDiff, hG, hlen]; refine hK _ _ ?_; clear hK K hG G) | (refine W_end rfl fun G K hG hK => ?_; simp (disch := omega) only [go_sem, ↓reduceIte, Nat.reduceEqDiff, Nat.reduceAdd, Nat.reduceLeDiff, hG, hlen]; refine hK _ _ ?_; clear hK K hG G; repeat (first | refine thenI ?_ | refine thenE ?_ | refine thenR ?_ | refine inBI ?_ | refine inBR ?_ | refine inBS ?_ | refine inBN (by decide) ?_)) | refine W_seqS ?_ | refine W_seqC ?_ | refine W_seqB ?_ | refine W_block ?_ | (refine W_skip ?_; repeat (first | refine thenI ?_ | refine thenE ?_ | refine thenR ?_ | refine inBI ?_ | refine inBR ?_ | refine inBS ?_ | refine inBN (by decide) ?_)) | (refine W_condT ?hc ?_; (case hc => (simp (disch := omega) only [go_sem, ↓reduceIte, Nat.reduceEqDiff, Nat.reduceAdd, Nat.reduceLeDiff, hlen]; done))) | (refine W_condF ?hc ?_; (case hc => (simp (disch := omega) only [go_sem, ↓reduceIte, Nat.reduceEqDiff, Nat.reduceAdd, Nat.reduceLeDiff, hlen]; done))))
  refine W_condP rfl (fun hb => ?_) (fun hb => ?_)
  · repeat (first | (refine W_reg rfl fun G K hG hK => ?_; simp (disch := omega) only [go_sem, ↓reduceIte, Nat.reduceEqDiff, Nat.reduceAdd, Nat.reduceLeDiff, hG, hlen]; refine hK _ _ ?_; clear hK K hG G) | (refine W_end rfl fun G K hG hK => ?_; simp (disch := omega) only [go_sem, ↓reduceIte, Nat.reduceEqDiff, Nat.reduceAdd, Nat.reduceLeDiff, hG, hlen]; refine hK _ _ ?_; clear hK K hG G; repeat (first | refine thenI ?_ | refine thenE ?_ | refine thenR ?_ | refine inBI ?_ | refine inBR ?_ | refine inBS ?_ | refine inBN (by decide) ?_)) | refine W_seqS ?_ | refine W_seqC ?_ | refine W_seqB ?_ | refine W_block ?_ | (refine W_skip ?_; repeat (first | refine thenI ?_ | refine thenE ?_ | refine thenR ?_ | refine inBI ?_ | refine inBR ?_ | refine inBS ?_ | refine inBN (by decide) ?_)) | (refine W_condT ?hc ?_; (case hc => (simp (disch := omega) only [go_sem, ↓reduceIte, Nat.reduceEqDiff, Nat.reduceAdd, Nat.reduceLeDiff, hlen]; done))) | (refine W_condF ?hc ?_; (case hc => (simp (disch := omega) only [go_sem, ↓reduceIte, Nat.reduceEqDiff, Nat.reduceAdd, Nat.reduceLeDiff, hlen]; done))))
    refine W_ret ?_; try (repeat (first | refine thenI ?_ | refine thenE ?_ | refine thenR ?_ | refine inBI ?_ | refine inBR ?_ | refine inBS ?_ | refine inBN (by decide) ?_))
    refine (fin1 (.inl rfl) (by (simp (disch := omega) only [go_sem, ↓reduceIte, Nat.reduceEqDiff, Nat.reduceAdd, Nat.reduceLeDiff, hlen]); try rfl) rfl ⟨?_, rfl⟩)
    rw [if_neg (by omega)]
  repeat (first | (refine W_reg rfl fun G K hG hK => ?_; simp (disch := omega) only [go_sem, ↓reduceIte, Nat.reduceEqDiff, Nat.reduceAdd, Nat.reduceLeDiff, hG, hlen]; refine hK _ _ ?_; clear hK K hG G) | (refine W_end rfl fun G K hG hK => ?_; simp (disch := omega) only [go_sem, ↓reduceIte, Nat.reduceEqDiff, Nat.reduceAdd, Nat.reduceLeDiff, hG, hlen]; refine hK _ _ ?_; clear hK K hG G; repeat (first | refine thenI ?_ | refine thenE ?_ | refine thenR ?_ | refine inBI ?_ | refine inBR ?_ | refine inBS ?_ | refine inBN (by decide) ?_)) | refine W_seqS ?_ | refine W_seqC ?_ | refine W_seqB ?_ | refine W_block ?_ | (refine W_skip ?_; repeat (first | refine thenI ?_ | refine thenE ?_ | refine thenR ?_ | refine inBI ?_ | refine inBR ?_ | refine inBS ?_ | refine inBN (by decide) ?_)) | (refine W_condT ?hc ?_; (case hc => (simp (disch := omega) only [go_sem, ↓reduceIte, Nat.reduceEqDiff, Nat.reduceAdd, Nat.reduceLeDiff, hlen]; done))) | (refine W_condF ?hc ?_; (case hc => (simp (disch := omega) only [go_sem, ↓reduceIte, Nat.reduceEqDiff, Nat.reduceAdd, Nat.reduceLeDiff, hlen]; done))))
  refine W_loop (fun d fr st' => ∃ (j : Nat) (l : Int), d = xs.length - j ∧ j ≤ xs.length ∧ (0 ≤ l) ∧ (l ≤ 1073741824) ∧ ((l + xs.length + wtL xs : Int) = left + wtL (xs.drop j)) ∧ (st' = st) ∧ (fr.env 5 = .int .i64 j) ∧ (fr.env 0 = s) ∧ (fr.env 1 = .int .i64 l)) (xs.length) ?_ ?_
  · exact ⟨0, left - xs.length, by omega, by omega, by omega, by omega, by simp, rfl, (by (simp (disch := omega) only [go_sem, ↓reduceIte, Nat.reduceEqDiff, Nat.reduceAdd, Nat.reduceLeDiff, hlen]); try rfl), (by (simp (disch := omega) only [go_sem, ↓reduceIte, Nat.reduceEqDiff, Nat.reduceAdd, Nat.reduceLeDiff, hlen]); try rfl), (by (simp (disch := omega) only [go_sem, ↓reduceIte, Nat.reduceEqDiff, Nat.reduceAdd, Nat.reduceLeDiff, hlen]); try rfl)⟩
  rintro d ⟨env, loc⟩ st' ⟨j, l, hd, hj, hl0, hl2, hsum, hst, e5, e0, e1⟩
  simp only at e5 e0 e1
  subst hst
  by_cases hlt : j < xs.length
  · have c1 : decide ((j : Int) < (xs.length : Int)) = true := by simpa using hlt
    have hi := idxOk hlt
    have hx : xs[j]? = some xs[j] := List.getElem?_eq_getElem hlt
    have htk : xs.take (j + 1) = xs.take j ++ [xs[j]] := List.take_succ_eq_append_getElem hlt
    obtain ⟨i, o, c, sx, rfl, hrx, hcs⟩ := row_atO hr hx
    have hw := wtL_drop hlt
    have hlb := hl _ (List.getElem_mem hlt)
    have hld := fun loc => load_row (A := []) (loc := loc) ag68 sz68 rfl hcs
    have nx := hrx.notLoc.1
    repeat (first | (refine W_reg rfl fun G K hG hK => ?_; simp (disch := omega) only [go_sem, ↓reduceIte, Nat.reduceEqDiff, Nat.reduceAdd, Nat.reduceLeDiff, hG, hlen, e5, e0, e1, c1, hi, idxA, Int.toNat_natCast]; refine hK _ _ ?_; clear hK K hG G) | (refine W_end rfl fun G K hG hK => ?_; simp (disch := omega) only [go_sem, ↓reduceIte, Nat.reduceEqDiff, Nat.reduceAdd, Nat.reduceLeDiff, hG, hlen, e5, e0, e1, c1, hi, idxA, Int.toNat_natCast]; refine hK _ _ ?_; clear hK K hG G; repeat (first | refine thenI ?_ | refine thenE ?_ | refine thenR ?_ | refine inBI ?_ | refine inBR ?_ | refine inBS ?_ | refine inBN (by decide) ?_)) | refine W_seqS ?_ | refine W_seqC ?_ | refine W_seqB ?_ | refine W_block ?_ | (refine W_skip ?_; repeat (first | refine thenI ?_ | refine thenE ?_ | refine thenR ?_ | refine inBI ?_ | refine inBR ?_ | refine inBS ?_ | refine inBN (by decide) ?_)) | (refine W_condT ?hc ?_; (case hc => (simp (disch := omega) only [go_sem, ↓reduceIte, Nat.reduceEqDiff, Nat.reduceAdd, Nat.reduceLeDiff, hlen, e5, e0, e1, c1, hi, idxA, Int.toNat_natCast]; done))) | (refine W_condF ?hc ?_; (case hc => (simp (disch := omega) only [go_sem, ↓reduceIte, Nat.reduceEqDiff, Nat.reduceAdd, Nat.reduceLeDiff, hlen, e5, e0, e1, c1, hi, idxA, Int.toNat_natCast]; done))))
    (repeat (first | refine W_seqS ?_ | refine W_seqC ?_ | refine W_seqB ?_ | refine W_block ?_)); refine W_reg rfl fun G K hG hK => ?_; simp (disch := omega) only [go_sem, ↓reduceIte, Nat.reduceEqDiff, Nat.reduceAdd, Nat.reduceLeDiff, hG, hlen, e5, e0, e1, c1, hi, idxA, Int.toNat_natCast, hld]
    refine w_call (szOp_ok xs[j] st' _ l hlb hl0 hl2 ⟨_, rfl, hrx⟩) (by simp (disch := omega) only [go_sem, ↓reduceIte, Nat.reduceEqDiff, hlen, e5, e0, e1, c1, hi, idxA, Int.toNat_natCast]) ?hl ?_
    case hl => first | rfl | (simp only [go_sem, List.all_cons, List.all_nil, Bool.not_false, Bool.and_self, hlen, e5, e0, e1, c1, hi, idxA, Int.toNat_natCast]; done)
    rintro r_ s_ ⟨rfl, rfl⟩; refine ⟨fun e => (by cases e), ?_⟩
    simp (disch := omega) only [go_sem, ↓reduceIte, Nat.reduceEqDiff, Nat.reduceAdd, Nat.reduceLeDiff, hG, hlen, e5, e0, e1, c1, hi, idxA, Int.toNat_natCast]; refine hK _ _ ?_; clear hK K hG G; repeat (first | refine thenI ?_ | refine thenE ?_ | refine thenR ?_ | refine inBI ?_ | refine inBR ?_ | refine inBS ?_ | refine inBN (by decide) ?_)
    by_cases hw2 : (Wt.wt xs[j] : Int) ≤ l
    · have c2 : decide (l - ((Wt.wt xs[j] : Nat) : Int) < 0) = false := by simp; omega
      rw [if_pos hw2]
      repeat (first | (refine W_reg rfl fun G K hG hK => ?_; simp (disch := omega) only [go_sem, ↓reduceIte, Nat.reduceEqDiff, Nat.reduceAdd, Nat.reduceLeDiff, hG, hlen, e5, e0, e1, c1, hi, idxA, Int.toNat_natCast, c2]; refine hK _ _ ?_; clear hK K hG G) | (refine W_end rfl fun G K hG hK => ?_; simp (disch := omega) only [go_sem, ↓reduceIte, Nat.reduceEqDiff, Nat.reduceAdd, Nat.reduceLeDiff, hG, hlen, e5, e0, e1, c1, hi, idxA, Int.toNat_natCast, c2]; refine hK _ _ ?_; clear hK K hG G; repeat (first | refine thenI ?_ | refine thenE ?_ | refine thenR ?_ | refine inBI ?_ | refine inBR ?_ | refine inBS ?_ | refine inBN (by decide) ?_)) | refine W_seqS ?_ | refine W_seqC ?_ | refine W_seqB ?_ | refine W_block ?_ | (refine W_skip ?_; repeat (first | refine thenI ?_ | refine thenE ?_ | refine thenR ?_ | refine inBI ?_ | refine inBR ?_ | refine inBS ?_ | refine inBN (by decide) ?_)) | (refine W_condT ?hc ?_; (case hc => (simp (disch := omega) only [go_sem, ↓reduceIte, Nat.reduceEqDiff, Nat.reduceAdd, Nat.reduceLeDiff, hlen, e5, e0, e1, c1, hi, idxA, Int.toNat_natCast, c2]; done))) | (refine W_condF ?hc ?_; (case hc => (simp (disch := omega) only [go_sem, ↓reduceIte, Nat.reduceEqDiff, Nat.reduceAdd, Nat.reduceLeDiff, hlen, e5, e0, e1, c1, hi, idxA, Int.toNat_natCast, c2]; done))))
      refine ⟨xs.length - (j + 1), by omega, j + 1, l - (Wt.wt xs[j] : Nat), rfl, by omega, by omega, by omega, by omega, rfl, (by (simp (disch := omega) only [go_sem, ↓reduceIte, Nat.reduceEqDiff, Nat.reduceAdd, Nat.reduceLeDiff, hlen, e5, e0, e1, c1, hi, idxA, Int.toNat_natCast]); try rfl), (by (simp (disch := omega) only [go_sem, ↓reduceIte, Nat.reduceEqDiff, Nat.reduceAdd, Nat.reduceLeDiff, hlen, e5, e0, e1, c1, hi, idxA, Int.toNat_natCast]); try rfl), (by (simp (disch := omega) only [go_sem, ↓reduceIte, Nat.reduceEqDiff, Nat.reduceAdd, Nat.reduceLeDiff, hlen, e5, e0, e1, c1, hi, idxA, Int.toNat_natCast]); try rfl)⟩
    · have c2 : decide ((-1 : Int) < 0) = true := by simp
      rw [if_neg hw2]
      repeat (first | (refine W_reg rfl fun G K hG hK => ?_; simp (disch := omega) only [go_sem, ↓reduceIte, Nat.reduceEqDiff, Nat.reduceAdd, Nat.reduceLeDiff, hG, hlen, e5, e0, e1, c1, hi, idxA, Int.toNat_natCast, c2]; refine hK _ _ ?_; clear hK K hG G) | (refine W_end rfl fun G K hG hK => ?_; simp (disch := omega) only [go_sem, ↓reduceIte, Nat.reduceEqDiff, Nat.reduceAdd, Nat.reduceLeDiff, hG, hlen, e5, e0, e1, c1, hi, idxA, Int.toNat_natCast, c2]; refine hK _ _ ?_; clear hK K hG G; repeat (first | refine thenI ?_ | refine thenE ?_ | refine thenR ?_ | refine inBI ?_ | refine inBR ?_ | refine inBS ?_ | refine inBN (by decide) ?_)) | refine W_seqS ?_ | refine W_seqC ?_ | refine W_seqB ?_ | refine W_block ?_ | (refine W_skip ?_; repeat (first | refine thenI ?_ | refine thenE ?_ | refine thenR ?_ | refine inBI ?_ | refine inBR ?_ | refine inBS ?_ | refine inBN (by decide) ?_)) | (refine W_condT ?hc ?_; (case hc => (simp (disch := omega) only [go_sem, ↓reduceIte, Nat.reduceEqDiff, Nat.reduceAdd, Nat.reduceLeDiff, hlen, e5, e0, e1, c1, hi, idxA, Int.toNat_natCast, c2]; done))) | (refine W_condF ?hc ?_; (case hc => (simp (disch := omega) only [go_sem, ↓reduceIte, Nat.reduceEqDiff, Nat.reduceAdd, Nat.reduceLeDiff, hlen, e5, e0, e1, c1, hi, idxA, Int.toNat_natCast, c2]; done))))
      refine W_ret ?_; try (repeat (first | refine thenI ?_ | refine thenE ?_ | refine thenR ?_ | refine inBI ?_ | refine inBR ?_ | refine inBS ?_ | refine inBN (by decide) ?_))
      refine (fin1 (.inl rfl) (by (simp (disch := omega) only [go_sem, ↓reduceIte, Nat.reduceEqDiff, Nat.reduceAdd, Nat.reduceLeDiff, hlen, e5, e0, e1, c1, hi, idxA, Int.toNat_natCast]); try rfl) rfl ⟨?_, rfl⟩)
      rw [if_neg (by omega)]
  · have c1 : decide ((j : Int) < (xs.length : Int)) = false := by simpa using hlt
    have hjn : j = xs.length := by omega
    subst hjn
    repeat (first | (refine W_reg rfl fun G K hG hK => ?_; simp (disch := omega) only [go_sem, ↓reduceIte, Nat.reduceEqDiff, Nat.reduceAdd, Nat.reduceLeDiff, hG, hlen, e5, e0, e1, c1]; refine hK _ _ ?_; clear hK K hG G) | (refine W_end rfl fun G K hG hK => ?_; simp (disch := omega) only [go_sem, ↓reduceIte, Nat.reduceEqDiff, Nat.reduceAdd, Nat.reduceLeDiff, hG, hlen, e5, e0, e1, c1]; refine hK _ _ ?_; clear hK K hG G; repeat (first | refine thenI ?_ | refine thenE ?_ | refine thenR ?_ | refine inBI ?_ | refine inBR ?_ | refine inBS ?_ | refine inBN (by decide) ?_)) | refine W_seqS ?_ | refine W_seqC ?_ | refine W_seqB ?_ | refine W_block ?_ | (refine W_skip ?_; repeat (first | refine thenI ?_ | refine thenE ?_ | refine thenR ?_ | refine inBI ?_ | refine inBR ?_ | refine inBS ?_ | refine inBN (by decide) ?_)) | (refine W_condT ?hc ?_; (case hc => (simp (disch := omega) only [go_sem, ↓reduceIte, Nat.reduceEqDiff, Nat.reduceAdd, Nat.reduceLeDiff, hlen, e5, e0, e1, c1]; done))) | (refine W_condF ?hc ?_; (case hc => (simp (disch := omega) only [go_sem, ↓reduceIte, Nat.reduceEqDiff, Nat.reduceAdd, Nat.reduceLeDiff, hlen, e5, e0, e1, c1]; done))))
    refine W_exit ?_; repeat (first | refine thenI ?_ | refine thenE ?_ | refine thenR ?_ | refine inBI ?_ | refine inBR ?_ | refine inBS ?_ | refine inBN (by decide) ?_)
    repeat (first | (refine W_reg rfl fun G K hG hK => ?_; simp (disch := omega) only [go_sem, ↓reduceIte, Nat.reduceEqDiff, Nat.reduceAdd, Nat.reduceLeDiff, hG, hlen, e5, e0, e1, c1]; refine hK _ _ ?_; clear hK K hG G) | (refine W_end rfl fun G K hG hK => ?_; simp (disch := omega) only [go_sem, ↓reduceIte, Nat.reduceEqDiff, Nat.reduceAdd, Nat.reduceLeDiff, hG, hlen, e5, e0, e1, c1]; refine hK _ _ ?_; clear hK K hG G; repeat (first | refine thenI ?_ | refine thenE ?_ | refine thenR ?_ | refine inBI ?_ | refine inBR ?_ | refine inBS ?_ | refine inBN (by decide) ?_)) | refine W_seqS ?_ | refine W_seqC ?_ | refine W_seqB ?_ | refine W_block ?_ | (refine W_skip ?_; repeat (first | refine thenI ?_ | refine thenE ?_ | refine thenR ?_ | refine inBI ?_ | refine inBR ?_ | refine inBS ?_ | refine inBN (by decide) ?_)) | (refine W_condT ?hc ?_; (case hc => (simp (disch := omega) only [go_sem, ↓reduceIte, Nat.reduceEqDiff, Nat.reduceAdd, Nat.reduceLeDiff, hlen, e5, e0, e1, c1]; done))) | (refine W_condF ?hc ?_; (case hc => (simp (disch := omega) only [go_sem, ↓reduceIte, Nat.reduceEqDiff, Nat.reduceAdd, Nat.reduceLeDiff, hlen, e5, e0, e1, c1]; done))))
    refine W_ret ?_; try (repeat (first | refine thenI ?_ | refine thenE ?_ | refine thenR ?_ | refine inBI ?_ | refine inBR ?_ | refine inBS ?_ | refine inBN (by decide) ?_))
    refine (fin1 (.inl rfl) (by (simp (disch := omega) only [go_sem, ↓reduceIte, Nat.reduceEqDiff, Nat.reduceAdd, Nat.reduceLeDiff, hlen, e5, e0, e1, c1]); try rfl) rfl ⟨?_, rfl⟩)
    rw [List.drop_length] at hsum
    simp only [wtL] at hsum
    have e : l = left - ((xs.length + wtL xs : Nat) : Int) := by omega
    rw [if_pos (by omega), e]

theorem szSignature_ok (g : Sgn) (st : St) (cs : List Value) (left : Int) (hL : LensS g) (h0 : 0 ≤ left) (h1 : left ≤ 1073741824) (hE : EncS st g cs) :
    CallS Try.prog 4 [.agg cs.toArray, .int .i64 left] st fun r st' => r = .int .i64 (if (Wt.wt g : Int) ≤ left then left - (Wt.wt g : Nat) else -1) ∧ st' = st := by
  refine CallS_of_W [] 18 Try.func4 rfl rfl rfl rfl (by simp) ?_
  obtain ⟨s, u, rfl, hs, hu⟩ := hE
  have hw : Wt.wt g = (g.sorts.length + wtL g.sorts) + (g.ops.length + wtL g.ops) := rfl
  have d1 : decide ((-1 : Int) < 0) = true := by decide
  have q1 := hs.notLoc.1
  have q2 := hs.notLoc.2
  have q3 := hu.notLoc.1
  have q4 := hu.notLoc.2
  repeat (first | (refine W_reg rfl fun G K hG hK => ?_; simp (disch := omega) only [go_sem, ↓reduceIte, Nat.reduceEqDiff, Nat.reduceAdd, Nat.reduceLeDiff, hG, q1, q2, q3, q4, d1]; refine hK _ _ ?_; clear hK K hG G) | (refine W_end rfl fun G K hG hK => ?_; simp (disch := omega) only [go_sem, ↓reduceIte, Nat.reduceEqDiff, Nat.reduceAdd, Nat.reduceLeDiff, hG, q1, q2, q3, q4, d1]; refine hK _ _ ?_; clear hK K hG G; repeat (first | refine thenI ?_ | refine thenE ?_ | refine thenR ?_ | refine inBI ?_ | refine inBR ?_ | refine inBS ?_ | refine inBN (by decide) ?_)) | refine W_seqS ?_ | refine W_seqC ?_ | refine W_seqB ?_ | refine W_block ?_ | (refine W_skip ?_; repeat (first | refine thenI ?_ | refine thenE ?_ | refine thenR ?_ | refine inBI ?_ | refine inBR ?_ | refine inBS ?_ | refine inBN (by decide) ?_)) | (refine W_condT ?hc ?_; (case hc => (simp (disch := omega) only [go_sem, ↓reduceIte, Nat.reduceEqDiff, Nat.reduceAdd, Nat.reduceLeDiff, q1, q2, q3, q4, d1]; done))) | (refine W_condF ?hc ?_; (case hc => (simp (disch := omega) only [go_sem, ↓reduceIte, Nat.reduceEqDiff, Nat.reduceAdd, Nat.reduceLeDiff, q1, q2, q3, q4, d1]; done))))
  (repeat (first | refine W_seqS ?_ | refine W_seqC ?_ | refine W_seqB ?_ | refine W_block ?_)); refine W_reg rfl fun G K hG hK => ?_; simp (disch := omega) only [go_sem, ↓reduceIte, Nat.reduceEqDiff, Nat.reduceAdd, Nat.reduceLeDiff, hG, q1, q2, q3, q4, d1]
  refine w_call (szStringS_ok g.sorts st s left h0 h1 hL.1.1 hL.1.2 hs) (by simp (disch := omega) only [go_sem, ↓reduceIte, Nat.reduceEqDiff, q1, q2, q3, q4, d1]) ?hl ?_
  case hl => first | rfl | (simp only [go_sem, List.all_cons, List.all_nil, Bool.not_false, Bool.and_self, q1, q2, q3, q4, d1]; done)
  rintro r_ st ⟨rfl, rfl⟩; refine ⟨fun e => (by cases e), ?_⟩
  simp (disch := omega) only [go_sem, ↓reduceIte, Nat.reduceEqDiff, Nat.reduceAdd, Nat.reduceLeDiff, hG, q1, q2, q3, q4, d1]; refine hK _ _ ?_; clear hK K hG G; repeat (first | refine thenI ?_ | refine thenE ?_ | refine thenR ?_ | refine inBI ?_ | refine inBR ?_ | refine inBS ?_ | refine inBN (by decide) ?_)
  by_cases hq : ((g.sorts.length + wtL g.sorts : Nat) : Int) ≤ left
  case neg =>
    rw [if_neg hq]
    repeat (first | (refine W_reg rfl fun G K hG hK => ?_; simp (disch := omega) only [go_sem, ↓reduceIte, Nat.reduceEqDiff, Nat.reduceAdd, Nat.reduceLeDiff, hG, q1, q2, q3, q4, d1]; refine hK _ _ ?_; clear hK K hG G) | (refine W_end rfl fun G K hG hK => ?_; simp (disch := omega) only [go_sem, ↓reduceIte, Nat.reduceEqDiff, Nat.reduceAdd, Nat.reduceLeDiff, hG, q1, q2, q3, q4, d1]; refine hK _ _ ?_; clear hK K hG G; repeat (first | refine thenI ?_ | refine thenE ?_ | refine thenR ?_ | refine inBI ?_ | refine inBR ?_ | refine inBS ?_ | refine inBN (by decide) ?_)) | refine W_seqS ?_ | refine W_seqC ?_ | refine W_seqB ?_ | refine W_block ?_ | (refine W_skip ?_; repeat (first | refine thenI ?_ | refine thenE ?_ | refine thenR ?_ | refine inBI ?_ | refine inBR ?_ | refine inBS ?_ | refine inBN (by decide) ?_)) | (refine W_condT ?hc ?_; (case hc => (simp (disch := omega) only [go_sem, ↓reduceIte, Nat.reduceEqDiff, Nat.reduceAdd, Nat.reduceLeDiff, q1, q2, q3, q4, d1]; done))) | (refine W_condF ?hc ?_; (case hc => (simp (disch := omega) only [go_sem, ↓reduceIte, Nat.reduceEqDiff, Nat.reduceAdd, Nat.reduceLeDiff, q1, q2, q3, q4, d1]; done))))
    refine W_ret ?_; try (repeat (first | refine thenI ?_ | refine thenE ?_ | refine thenR ?_ | refine inBI ?_ | refine inBR ?_ | refine inBS ?_ | refine inBN (by decide) ?_))
    refine fin1 (.inl rfl) (by (simp (disch := omega) only [go_sem, ↓reduceIte, Nat.reduceEqDiff, Nat.reduceAdd, Nat.reduceLeDiff, q1, q2, q3, q4, d1]); try rfl) rfl ⟨?_, rfl⟩
    rw [if_neg (by omega)]
  rw [if_pos hq]
  have c2 : decide (left - ((g.sorts.length + wtL g.sorts : Nat) : Int) < 0) = false := by simp only [decide_eq_false_iff_not]; omega
  repeat (first | (refine W_reg rfl fun G K hG hK => ?_; simp (disch := omega) only [go_sem, ↓reduceIte, Nat.reduceEqDiff, Nat.reduceAdd, Nat.reduceLeDiff, hG, q1, q2, q3, q4, d1, c2]; refine hK _ _ ?_; clear hK K hG G) | (refine W_end rfl fun G K hG hK => ?_; simp (disch := omega) only [go_sem, ↓reduceIte, Nat.reduceEqDiff, Nat.reduceAdd, Nat.reduceLeDiff, hG, q1, q2, q3, q4, d1, c2]; refine hK _ _ ?_; clear hK K hG G; repeat (first | refine thenI ?_ | refine thenE ?_ | refine thenR ?_ | refine inBI ?_ | refine inBR ?_ | refine inBS ?_ | refine inBN (by decide) ?_)) | refine W_seqS ?_ | refine W_seqC ?_ | refine W_seqB ?_ | refine W_block ?_ | (refine W_skip ?_; repeat (first | refine thenI ?_ | refine thenE ?_ | refine thenR ?_ | refine inBI ?_ | refine inBR ?_ | refine inBS ?_ | refine inBN (by decide) ?_)) | (refine W_condT ?hc ?_; (case hc => (simp (disch := omega) only [go_sem, ↓reduceIte, Nat.reduceEqDiff, Nat.reduceAdd, Nat.reduceLeDiff, q1, q2, q3, q4, d1, c2]; done))) | (refine W_condF ?hc ?_; (case hc => (simp (disch := omega) only [go_sem, ↓reduceIte, Nat.reduceEqDiff, Nat.reduceAdd, Nat.reduceLeDiff, q1, q2, q3, q4, d1, c2]; done))))
  (repeat (first | refine W_seqS ?_ | refine W_seqC ?_ | refine W_seqB ?_ | refine W_block ?_)); refine W_reg rfl fun G K hG hK => ?_; simp (disch := omega) only [go_sem, ↓reduceIte, Nat.reduceEqDiff, Nat.reduceAdd, Nat.reduceLeDiff, hG, q1, q2, q3, q4, d1]
  refine w_call (szOpS_ok g.ops st u (left - ((g.sorts.length + wtL g.sorts : Nat) : Int)) (by omega) (by omega) hL.2.1 hL.2.2 hu) (by simp (disch := omega) only [go_sem, ↓reduceIte, Nat.reduceEqDiff, q1, q2, q3, q4, d1]) ?hl ?_
  case hl => first | rfl | (simp only [go_sem, List.all_cons, List.all_nil, Bool.not_false, Bool.and_self, q1, q2, q3, q4, d1]; done)
  rintro r_ st ⟨rfl, rfl⟩; refine ⟨fun e => (by cases e), ?_⟩
  simp (disch := omega) only [go_sem, ↓reduceIte, Nat.reduceEqDiff, Nat.reduceAdd, Nat.reduceLeDiff, hG, q1, q2, q3, q4, d1]; refine hK _ _ ?_; clear hK K hG G; repeat (first | refine thenI ?_ | refine thenE ?_ | refine thenR ?_ | refine inBI ?_ | refine inBR ?_ | refine inBS ?_ | refine inBN (by decide) ?_)
  by_cases hq2 : ((g.ops.length + wtL g.ops : Nat) : Int) ≤ left - ((g.sorts.length + wtL g.sorts : Nat) : Int)
  case neg =>
    rw [if_neg hq2]
    repeat (first | (refine W_reg rfl fun G K hG hK => ?_; simp (disch := omega) only [go_sem, ↓reduceIte, Nat.reduceEqDiff, Nat.reduceAdd, Nat.reduceLeDiff, hG, q1, q2, q3, q4, d1]; refine hK _ _ ?_; clear hK K hG G) | (refine W_end rfl fun G K hG hK => ?_; simp (disch := omega) only [go_sem, ↓reduceIte, Nat.reduceEqDiff, Nat.reduceAdd, Nat.reduceLeDiff, hG, q1, q2, q3, q4, d1]; refine hK _ _ ?_; clear hK K hG G; repeat (first | refine thenI ?_ | refine thenE ?_ | refine thenR ?_ | refine inBI ?_ | refine inBR ?_ | refine inBS ?_ | refine inBN (by decide) ?_)) | refine W_seqS ?_ | refine W_seqC ?_ | refine W_seqB ?_ | refine W_block ?_ | (refine W_skip ?_; repeat (first | refine thenI ?_ | refine thenE ?_ | refine thenR ?_ | refine inBI ?_ | refine inBR ?_ | refine inBS ?_ | refine inBN (by decide) ?_)) | (refine W_condT ?hc ?_; (case hc => (simp (disch := omega) only [go_sem, ↓reduceIte, Nat.reduceEqDiff, Nat.reduceAdd, Nat.reduceLeDiff, q1, q2, q3, q4, d1]; done))) | (refine W_condF ?hc ?_; (case hc => (simp (disch := omega) only [go_sem, ↓reduceIte, Nat.reduceEqDiff, Nat.reduceAdd, Nat.reduceLeDiff, q1, q2, q3, q4, d1]; done))))
    refine W_ret ?_; try (repeat (first | refine thenI ?_ | refine thenE ?_ | refine thenR ?_ | refine inBI ?_ | refine inBR ?_ | refine inBS ?_ | refine inBN (by decide) ?_))
    refine fin1 (.inl rfl) (by (simp (disch := omega) only [go_sem, ↓reduceIte, Nat.reduceEqDiff, Nat.reduceAdd, Nat.reduceLeDiff, q1, q2, q3, q4, d1]); try rfl) rfl ⟨?_, rfl⟩
    rw [if_neg (by omega)]
  rw [if_pos hq2]
  have c3 : decide (left - ((g.sorts.length + wtL g.sorts : Nat) : Int) - ((g.ops.length + wtL g.ops : Nat) : Int) < 0) = false := by simp only [decide_eq_false_iff_not]; omega
  repeat (first | (refine W_reg rfl fun G K hG hK => ?_; simp (disch := omega) only [go_sem, ↓reduceIte, Nat.reduceEqDiff, Nat.reduceAdd, Nat.reduceLeDiff, hG, q1, q2, q3, q4, d1, c3]; refine hK _ _ ?_; clear hK K hG G) | (refine W_end rfl fun G K hG hK => ?_; simp (disch := omega) only [go_sem, ↓reduceIte, Nat.reduceEqDiff, Nat.reduceAdd, Nat.reduceLeDiff, hG, q1, q2, q3, q4, d1, c3]; refine hK _ _ ?_; clear hK K hG G; repeat (first | refine thenI ?_ | refine thenE ?_ | refine thenR ?_ | refine inBI ?_ | refine inBR ?_ | refine inBS ?_ | refine inBN (by decide) ?_)) | refine W_seqS ?_ | refine W_seqC ?_ | refine W_seqB ?_ | refine W_block ?_ | (refine W_skip ?_; repeat (first | refine thenI ?_ | refine thenE ?_ | refine thenR ?_ | refine inBI ?_ | refine inBR ?_ | refine inBS ?_ | refine inBN (by decide) ?_)) | (refine W_condT ?hc ?_; (case hc => (simp (disch := omega) only [go_sem, ↓reduceIte, Nat.reduceEqDiff, Nat.reduceAdd, Nat.reduceLeDiff, q1, q2, q3, q4, d1, c3]; done))) | (refine W_condF ?hc ?_; (case hc => (simp (disch := omega) only [go_sem, ↓reduceIte, Nat.reduceEqDiff, Nat.reduceAdd, Nat.reduceLeDiff, q1, q2, q3, q4, d1, c3]; done))))
  refine W_ret ?_; try (repeat (first | refine thenI ?_ | refine thenE ?_ | refine thenR ?_ | refine inBI ?_ | refine inBR ?_ | refine inBS ?_ | refine inBN (by decide) ?_))
  refine fin1 (.inl rfl) (by (simp (disch := omega) only [go_sem, ↓reduceIte, Nat.reduceEqDiff, Nat.reduceAdd, Nat.reduceLeDiff, q1, q2, q3, q4, d1]); try rfl) rfl ⟨?_, rfl⟩
  have e : left - ((g.sorts.length + wtL g.sorts : Nat) : Int) - ((g.ops.length + wtL g.ops : Nat) : Int) = left - ((Wt.wt g : Nat) : Int) := by omega
  rw [if_pos (by omega), e]

theorem toOp_ok (b : Opr) (st : St) (cs : List Value) (hl : b.args.length ≤ 1073741824) (h : EncO st b cs) :
    CallS Try.prog 38 [.agg cs.toArray] st fun r st2 => Ext st st2 ∧ ∃ ds L, r = .agg ds.toArray ∧ OwnO st2 b ds L ∧ Fresh st.length L := by
  refine CallS_of_W [] 15 Try.func38 rfl rfl rfl rfl (by simp) ?_
  obtain ⟨s, rfl, hr⟩ := h
  have n1 := hr.notLoc.1
  have n2 := hr.notLoc.2
  repeat (first | (refine W_reg rfl fun G K hG hK => ?_; simp (disch := omega) only [go_sem, ↓reduceIte, Nat.reduceEqDiff, Nat.reduceAdd, Nat.reduceLeDiff, hG, n1, n2]; refine hK _ _ ?_; clear hK K hG G) | (refine W_end rfl fun G K hG hK => ?_; simp (disch := omega) only [go_sem, ↓reduceIte, Nat.reduceEqDiff, Nat.reduceAdd, Nat.reduceLeDiff, hG, n1, n2]; refine hK _ _ ?_; clear hK K hG G; repeat (first | refine thenI ?_ | refine thenE ?_ | refine thenR ?_ | refine inBI ?_ | refine inBR ?_ | refine inBS ?_ | refine inBN (by decide) ?_)) | refine W_seqS ?_ | refine W_seqC ?_ | refine W_seqB ?_ | refine W_block ?_ | (refine W_skip ?_; repeat (first | refine thenI ?_ | refine thenE ?_ | refine thenR ?_ | refine inBI ?_ | refine inBR ?_ | refine inBS ?_ | refine inBN (by decide) ?_)) | (refine W_condT ?hc ?_; (case hc => (simp (disch := omega) only [go_sem, ↓reduceIte, Nat.reduceEqDiff, Nat.reduceAdd, Nat.reduceLeDiff, n1, n2]; done))) | (refine W_condF ?hc ?_; (case hc => (simp (disch := omega) only [go_sem, ↓reduceIte, Nat.reduceEqDiff, Nat.reduceAdd, Nat.reduceLeDiff, n1, n2]; done))))
  (repeat (first | refine W_seqS ?_ | refine W_seqC ?_ | refine W_seqB ?_ | refine W_block ?_)); refine W_reg rfl fun G K hG hK => ?_; simp (disch := omega) only [go_sem, ↓reduceIte, Nat.reduceEqDiff, Nat.reduceAdd, Nat.reduceLeDiff, hG, n1, n2]
  refine w_call (toStringS_ok b.args st s hl hr) (by simp (disch := omega) only [go_sem, ↓reduceIte, Nat.reduceEqDiff, n1, n2]) ?hl ?_
  case hl => first | rfl | (simp only [go_sem, List.all_cons, List.all_nil, Bool.not_false, Bool.and_self, n1, n2]; done)
  rintro rv sa ⟨hx, L, ho, hf⟩; refine ⟨fun e => (by cases e), ?_⟩
  have a1 := ho.okv
  have a2 := ho.loc
  have a3 := ho.cells
  simp (disch := omega) only [go_sem, ↓reduceIte, Nat.reduceEqDiff, Nat.reduceAdd, Nat.reduceLeDiff, hG, n1, n2, a1, a2, a3]; refine hK _ _ ?_; clear hK K hG G; repeat (first | refine thenI ?_ | refine thenE ?_ | refine thenR ?_ | refine inBI ?_ | refine inBR ?_ | refine inBS ?_ | refine inBN (by decide) ?_)
  repeat (first | (refine W_reg rfl fun G K hG hK => ?_; simp (disch := omega) only [go_sem, ↓reduceIte, Nat.reduceEqDiff, Nat.reduceAdd, Nat.reduceLeDiff, hG, n1, n2, a1, a2, a3]; refine hK _ _ ?_; clear hK K hG G) | (refine W_end rfl fun G K hG hK => ?_; simp (disch := omega) only [go_sem, ↓reduceIte, Nat.reduceEqDiff, Nat.reduceAdd, Nat.reduceLeDiff, hG, n1, n2, a1, a2, a3]; refine hK _ _ ?_; clear hK K hG G; repeat (first | refine thenI ?_ | refine thenE ?_ | refine thenR ?_ | refine inBI ?_ | refine inBR ?_ | refine inBS ?_ | refine inBN (by decide) ?_)) | refine W_seqS ?_ | refine W_seqC ?_ | refine W_seqB ?_ | refine W_block ?_ | (refine W_skip ?_; repeat (first | refine thenI ?_ | refine thenE ?_ | refine thenR ?_ | refine inBI ?_ | refine inBR ?_ | refine inBS ?_ | refine inBN (by decide) ?_)) | (refine W_condT ?hc ?_; (case hc => (simp (disch := omega) only [go_sem, ↓reduceIte, Nat.reduceEqDiff, Nat.reduceAdd, Nat.reduceLeDiff, n1, n2, a1, a2, a3]; done))) | (refine W_condF ?hc ?_; (case hc => (simp (disch := omega) only [go_sem, ↓reduceIte, Nat.reduceEqDiff, Nat.reduceAdd, Nat.reduceLeDiff, n1, n2, a1, a2, a3]; done))))
  refine W_ret ?_; try (repeat (first | refine thenI ?_ | refine thenE ?_ | refine thenR ?_ | refine inBI ?_ | refine inBR ?_ | refine inBS ?_ | refine inBN (by decide) ?_))
  refine finC (.inl rfl) (by (simp (disch := omega) only [go_sem, ↓reduceIte, Nat.reduceEqDiff, Nat.reduceAdd, Nat.reduceLeDiff, n1, n2, a1, a2, a3]); try rfl) ⟨hx, [.string b.nm, rv, .string b.res], L, rfl, ⟨_, rfl, ho⟩, hf⟩

theorem toOpS_ok (xs : List Opr) (st : St) (s : Value) (hbig : xs.length ≤ 1073741824) (hl : ∀ b ∈ xs, b.args.length ≤ 1073741824) (hr : Rw st xs s) :
    CallS Try.prog 23 [s] st fun r st2 => Ext st st2 ∧ ∃ L, Sl st2 xs r L ∧ Fresh st.length L := by
  refine CallS_of_W [] 23 Try.func23 rfl rfl rfl rfl (by simp) ?_
  have hlen : lenE Try.prog 23 s = some (.int .i64 xs.length) := row_len hr Try.underlying23
  have hmk : (0 ≤ (xs.length : Int) ∧ (xs.length : Int) ≤ (xs.length : Int) ∧ (56 : Nat) * (xs.length : Int) ≤ 2 ^ 46 ∧ (xs.length : Int) ≤ 2 ^ 46 ∧ True) = True := by
    simp; omega
  repeat (first | (refine W_reg rfl fun G K hG hK => ?_; simp (disch := omega) only [go_sem, ↓reduceIte, Nat.reduceEqDiff, Nat.reduceAdd, Nat.reduceLeDiff, hG, hlen]; refine hK _ _ ?_; clear hK K hG G) | (refine W_end rfl fun G K hG hK => ?_; simp (disch := omega) only [go_sem, ↓reduceIte, Nat.reduceEqDiff, Nat.reduceAdd, Nat.reduceLeDiff, hG, hlen]; refine hK _ _ ?_; clear hK K hG G; repeat (first | refine thenI ?_ | refine thenE ?_ | refine thenR ?_ | refine inBI ?_ | refine inBR ?_ | refine inBS ?_ | refine inBN (by decide) ?_)) | refine W_seqS ?_ | refine W_seqC ?_ | refine W_seqB ?_ | refine W_block ?_ | (refine W_skip ?_; repeat (first | refine thenI ?_ | refine thenE ?_ | refine thenR ?_ | refine inBI ?_ | refine inBR ?_ | refine inBS ?_ | refine inBN (by decide) ?_)) | (refine W_condT ?hc ?_; (case hc => (simp (disch := omega) only [go_sem, ↓reduceIte, Nat.reduceEqDiff, Nat.reduceAdd, Nat.reduceLeDiff, hlen]; done))) | (refine W_condF ?hc ?_; (case hc => (simp (disch := omega) only [go_sem, ↓reduceIte, Nat.reduceEqDiff, Nat.reduceAdd, Nat.reduceLeDiff, hlen]; done))))
  (repeat (first | refine W_seqS ?_ | refine W_seqC ?_ | refine W_seqB ?_ | refine W_block ?_)); refine W_reg rfl fun G K hG hK => ?_; simp (disch := omega) only [go_sem, ↓reduceIte, Nat.reduceEqDiff, Nat.reduceAdd, Nat.reduceLeDiff, hG, hlen, w_makeSlice, evalEff, hmk, Int.toNat_natCast]
  refine hK _ _ ?_; clear hK K hG G; repeat (first | refine thenI ?_ | refine thenE ?_ | refine thenR ?_ | refine inBI ?_ | refine inBR ?_ | refine inBS ?_ | refine inBN (by decide) ?_)
  repeat (first | (refine W_reg rfl fun G K hG hK => ?_; simp (disch := omega) only [go_sem, ↓reduceIte, Nat.reduceEqDiff, Nat.reduceAdd, Nat.reduceLeDiff, hG, hlen]; refine hK _ _ ?_; clear hK K hG G) | (refine W_end rfl fun G K hG hK => ?_; simp (disch := omega) only [go_sem, ↓reduceIte, Nat.reduceEqDiff, Nat.reduceAdd, Nat.reduceLeDiff, hG, hlen]; refine hK _ _ ?_; clear hK K hG G; repeat (first | refine thenI ?_ | refine thenE ?_ | refine thenR ?_ | refine inBI ?_ | refine inBR ?_ | refine inBS ?_ | refine inBN (by decide) ?_)) | refine W_seqS ?_ | refine W_seqC ?_ | refine W_seqB ?_ | refine W_block ?_ | (refine W_skip ?_; repeat (first | refine thenI ?_ | refine thenE ?_ | refine thenR ?_ | refine inBI ?_ | refine inBR ?_ | refine inBS ?_ | refine inBN (by decide) ?_)) | (refine W_condT ?hc ?_; (case hc => (simp (disch := omega) only [go_sem, ↓reduceIte, Nat.reduceEqDiff, Nat.reduceAdd, Nat.reduceLeDiff, hlen]; done))) | (refine W_condF ?hc ?_; (case hc => (simp (disch := omega) only [go_sem, ↓reduceIte, Nat.reduceEqDiff, Nat.reduceAdd, Nat.reduceLeDiff, hlen]; done))))
  refine W_loop (fun d fr st' => ∃ (j : Nat) (K : List Nat), d = xs.length - j ∧ j ≤ xs.length ∧ (Ext st st') ∧ (FillO (Kind.own (α := Opr)) 69 3 st' (xs.take j) xs.length st.length K) ∧ (Fresh st.length (st.length :: K)) ∧ (fr.env 4 = .int .i64 j) ∧ (fr.env 0 = s) ∧ (fr.env 3 = .slice (some ⟨st.length, 0, none⟩) xs.length xs.length)) (xs.length) ?_ ?_
  · exact ⟨0, [], by omega, by omega, Ext.app _ _, FillO.start (by rw [zrow_len]), ⟨by simp, by simp⟩, (by (simp (disch := omega) only [go_sem, ↓reduceIte, Nat.reduceEqDiff, Nat.reduceAdd, Nat.reduceLeDiff, hlen]); try rfl), (by (simp (disch := omega) only [go_sem, ↓reduceIte, Nat.reduceEqDiff, Nat.reduceAdd, Nat.reduceLeDiff, hlen]); try rfl), (by (simp (disch := omega) only [go_sem, ↓reduceIte, Nat.reduceEqDiff, Nat.reduceAdd, Nat.reduceLeDiff, hlen]); try rfl)⟩
  rintro d ⟨env, loc⟩ st' ⟨j, K, hd, hj, hext, hfill, hfr, e4, e0, e3⟩
  simp only at e4 e0 e3
  by_cases hlt : j < xs.length
  · have c1 : decide ((j : Int) < (xs.length : Int)) = true := by simpa using hlt
    have hi := idxOk hlt
    have hx : xs[j]? = some xs[j] := List.getElem?_eq_getElem hlt
    have htk : xs.take (j + 1) = xs.take j ++ [xs[j]] := List.take_succ_eq_append_getElem hlt
    obtain ⟨i, o, c, sx, rfl, hrx, hcs⟩ := row_atO hr hx
    have htl : (xs.take j).length = j := by simp; omega
    have hld := fun loc => load_row (A := []) (loc := loc) ag68 sz68 rfl (hcs.ext hext)
    have nx := hrx.notLoc.1
    repeat (first | (refine W_reg rfl fun G K hG hK => ?_; simp (disch := omega) only [go_sem, ↓reduceIte, Nat.reduceEqDiff, Nat.reduceAdd, Nat.reduceLeDiff, hG, hlen, e4, e0, e3, c1, hi, idxA, Int.toNat_natCast]; refine hK _ _ ?_; clear hK K hG G) | (refine W_end rfl fun G K hG hK => ?_; simp (disch := omega) only [go_sem, ↓reduceIte, Nat.reduceEqDiff, Nat.reduceAdd, Nat.reduceLeDiff, hG, hlen, e4, e0, e3, c1, hi, idxA, Int.toNat_natCast]; refine hK _ _ ?_; clear hK K hG G; repeat (first | refine thenI ?_ | refine thenE ?_ | refine thenR ?_ | refine inBI ?_ | refine inBR ?_ | refine inBS ?_ | refine inBN (by decide) ?_)) | refine W_seqS ?_ | refine W_seqC ?_ | refine W_seqB ?_ | refine W_block ?_ | (refine W_skip ?_; repeat (first | refine thenI ?_ | refine thenE ?_ | refine thenR ?_ | refine inBI ?_ | refine inBR ?_ | refine inBS ?_ | refine inBN (by decide) ?_)) | (refine W_condT ?hc ?_; (case hc => (simp (disch := omega) only [go_sem, ↓reduceIte, Nat.reduceEqDiff, Nat.reduceAdd, Nat.reduceLeDiff, hlen, e4, e0, e3, c1, hi, idxA, Int.toNat_natCast]; done))) | (refine W_condF ?hc ?_; (case hc => (simp (disch := omega) only [go_sem, ↓reduceIte, Nat.reduceEqDiff, Nat.reduceAdd, Nat.reduceLeDiff, hlen, e4, e0, e3, c1, hi, idxA, Int.toNat_natCast]; done))))
    refine W_end rfl fun G K hG hK => ?_; simp (disch := omega) only [go_sem, ↓reduceIte, Nat.reduceEqDiff, Nat.reduceAdd, Nat.reduceLeDiff, hG, hlen, e4, e0, e3, c1, hi, idxA, Int.toNat_natCast, hld]
    refine w_call (toOp_ok xs[j] st' _ (hl _ (List.getElem_mem hlt)) ⟨_, rfl, hrx.ext hext⟩) (by simp (disch := omega) only [go_sem, ↓reduceIte, Nat.reduceEqDiff, hlen, e4, e0, e3, c1, hi, idxA, Int.toNat_natCast]) ?hl ?_
    case hl => first | rfl | (simp only [go_sem, List.all_cons, List.all_nil, Bool.not_false, Bool.and_self, hlen, e4, e0, e3, c1, hi, idxA, Int.toNat_natCast]; done)
    rintro r_ s_ ⟨hx1, ds, Lx, rfl, hown, hfx⟩; refine ⟨fun e => (by cases e), ?_⟩
    obtain ⟨st3, hst, hfill', hfr', hl3, hoth⟩ := hfill.step (sz := 3) (loc := loc) (v := .agg ds.toArray) Kind.own_frame Kind.own_lt Kind.own_len sz69 hfr hx1 hown hfx (by simp [Value.cells]) rfl (by omega)
    rw [htl, Nat.zero_add] at hst
    simp (disch := omega) only [go_sem, ↓reduceIte, Nat.reduceEqDiff, Nat.reduceAdd, Nat.reduceLeDiff, hG, hlen, e4, e0, e3, c1, hi, idxA, Int.toNat_natCast, hst]; refine hK _ _ ?_; clear hK K hG G; repeat (first | refine thenI ?_ | refine thenE ?_ | refine thenR ?_ | refine inBI ?_ | refine inBR ?_ | refine inBS ?_ | refine inBN (by decide) ?_)
    repeat (first | (refine W_reg rfl fun G K hG hK => ?_; simp (disch := omega) only [go_sem, ↓reduceIte, Nat.reduceEqDiff, Nat.reduceAdd, Nat.reduceLeDiff, hG, hlen, e4, e0, e3, c1, hi, idxA, Int.toNat_natCast]; refine hK _ _ ?_; clear hK K hG G) | (refine W_end rfl fun G K hG hK => ?_; simp (disch := omega) only [go_sem, ↓reduceIte, Nat.reduceEqDiff, Nat.reduceAdd, Nat.reduceLeDiff, hG, hlen, e4, e0, e3, c1, hi, idxA, Int.toNat_natCast]; refine hK _ _ ?_; clear hK K hG G; repeat (first | refine thenI ?_ | refine thenE ?_ | refine thenR ?_ | refine inBI ?_ | refine inBR ?_ | refine inBS ?_ | refine inBN (by decide) ?_)) | refine W_seqS ?_ | refine W_seqC ?_ | refine W_seqB ?_ | refine W_block ?_ | (refine W_skip ?_; repeat (first | refine thenI ?_ | refine thenE ?_ | refine thenR ?_ | refine inBI ?_ | refine inBR ?_ | refine inBS ?_ | refine inBN (by decide) ?_)) | (refine W_condT ?hc ?_; (case hc => (simp (disch := omega) only [go_sem, ↓reduceIte, Nat.reduceEqDiff, Nat.reduceAdd, Nat.reduceLeDiff, hlen, e4, e0, e3, c1, hi, idxA, Int.toNat_natCast]; done))) | (refine W_condF ?hc ?_; (case hc => (simp (disch := omega) only [go_sem, ↓reduceIte, Nat.reduceEqDiff, Nat.reduceAdd, Nat.reduceLeDiff, hlen, e4, e0, e3, c1, hi, idxA, Int.toNat_natCast]; done))))
    refine ⟨xs.length - (j + 1), by omega, j + 1, _, rfl, by omega, Ext.of_get fun i hi => by rw [hoth i (by omega), (hext.trans hx1).get hi], by rw [htk]; exact hfill', hfr', (by (simp (disch := omega) only [go_sem, ↓reduceIte, Nat.reduceEqDiff, Nat.reduceAdd, Nat.reduceLeDiff, hlen, e4, e0, e3, c1, hi, idxA, Int.toNat_natCast]); try rfl), (by (simp (disch := omega) only [go_sem, ↓reduceIte, Nat.reduceEqDiff, Nat.reduceAdd, Nat.reduceLeDiff, hlen, e4, e0, e3, c1, hi, idxA, Int.toNat_natCast]); try rfl), (by (simp (disch := omega) only [go_sem, ↓reduceIte, Nat.reduceEqDiff, Nat.reduceAdd, Nat.reduceLeDiff, hlen, e4, e0, e3, c1, hi, idxA, Int.toNat_natCast]); try rfl)⟩
  · have c1 : decide ((j : Int) < (xs.length : Int)) = false := by simpa using hlt
    have hjn : j = xs.length := by omega
    subst hjn
    rw [List.take_length] at hfill
    repeat (first | (refine W_reg rfl fun G K hG hK => ?_; simp (disch := omega) only [go_sem, ↓reduceIte, Nat.reduceEqDiff, Nat.reduceAdd, Nat.reduceLeDiff, hG, hlen, e4, e0, e3, c1]; refine hK _ _ ?_; clear hK K hG G) | (refine W_end rfl fun G K hG hK => ?_; simp (disch := omega) only [go_sem, ↓reduceIte, Nat.reduceEqDiff, Nat.reduceAdd, Nat.reduceLeDiff, hG, hlen, e4, e0, e3, c1]; refine hK _ _ ?_; clear hK K hG G; repeat (first | refine thenI ?_ | refine thenE ?_ | refine thenR ?_ | refine inBI ?_ | refine inBR ?_ | refine inBS ?_ | refine inBN (by decide) ?_)) | refine W_seqS ?_ | refine W_seqC ?_ | refine W_seqB ?_ | refine W_block ?_ | (refine W_skip ?_; repeat (first | refine thenI ?_ | refine thenE ?_ | refine thenR ?_ | refine inBI ?_ | refine inBR ?_ | refine inBS ?_ | refine inBN (by decide) ?_)) | (refine W_condT ?hc ?_; (case hc => (simp (disch := omega) only [go_sem, ↓reduceIte, Nat.reduceEqDiff, Nat.reduceAdd, Nat.reduceLeDiff, hlen, e4, e0, e3, c1]; done))) | (refine W_condF ?hc ?_; (case hc => (simp (disch := omega) only [go_sem, ↓reduceIte, Nat.reduceEqDiff, Nat.reduceAdd, Nat.reduceLeDiff, hlen, e4, e0, e3, c1]; done))))
    refine W_exit ?_; repeat (first | refine thenI ?_ | refine thenE ?_ | refine thenR ?_ | refine inBI ?_ | refine inBR ?_ | refine inBS ?_ | refine inBN (by decide) ?_)
    repeat (first | (refine W_reg rfl fun G K hG hK => ?_; simp (disch := omega) only [go_sem, ↓reduceIte, Nat.reduceEqDiff, Nat.reduceAdd, Nat.reduceLeDiff, hG, hlen, e4, e0, e3, c1]; refine hK _ _ ?_; clear hK K hG G) | (refine W_end rfl fun G K hG hK => ?_; simp (disch := omega) only [go_sem, ↓reduceIte, Nat.reduceEqDiff, Nat.reduceAdd, Nat.reduceLeDiff, hG, hlen, e4, e0, e3, c1]; refine hK _ _ ?_; clear hK K hG G; repeat (first | refine thenI ?_ | refine thenE ?_ | refine thenR ?_ | refine inBI ?_ | refine inBR ?_ | refine inBS ?_ | refine inBN (by decide) ?_)) | refine W_seqS ?_ | refine W_seqC ?_ | refine W_seqB ?_ | refine W_block ?_ | (refine W_skip ?_; repeat (first | refine thenI ?_ | refine thenE ?_ | refine thenR ?_ | refine inBI ?_ | refine inBR ?_ | refine inBS ?_ | refine inBN (by decide) ?_)) | (refine W_condT ?hc ?_; (case hc => (simp (disch := omega) only [go_sem, ↓reduceIte, Nat.reduceEqDiff, Nat.reduceAdd, Nat.reduceLeDiff, hlen, e4, e0, e3, c1]; done))) | (refine W_condF ?hc ?_; (case hc => (simp (disch := omega) only [go_sem, ↓reduceIte, Nat.reduceEqDiff, Nat.reduceAdd, Nat.reduceLeDiff, hlen, e4, e0, e3, c1]; done))))
    refine W_ret ?_; try (repeat (first | refine thenI ?_ | refine thenE ?_ | refine thenR ?_ | refine inBI ?_ | refine inBR ?_ | refine inBS ?_ | refine inBN (by decide) ?_))
    refine fin1 (.inl rfl) (by (simp (disch := omega) only [go_sem, ↓reduceIte, Nat.reduceEqDiff, Nat.reduceAdd, Nat.reduceLeDiff, hlen, e4, e0, e3, c1]); try rfl) rfl ⟨hext, _, hfill.done, hfr⟩

theorem toSignature_ok (g : Sgn) (st : St) (cs : List Value) (hl : LimS 1073741824 g) (hE : EncS st g cs) :
    CallS Try.prog 7 [.agg cs.toArray] st fun r st2 => Ext st st2 ∧ ∃ ds L, r = .agg ds.toArray ∧ OwnS st2 g ds L ∧ Fresh st.length L := by
  refine CallS_of_W [] 13 Try.func7 rfl rfl rfl rfl (by simp) ?_
  obtain ⟨s, u, rfl, hs, hu⟩ := hE
  have q1 := hs.notLoc.1
  have q2 := hs.notLoc.2
  have q3 := hu.notLoc.1
  have q4 := hu.notLoc.2
  repeat (first | (refine W_reg rfl fun G K hG hK => ?_; simp (disch := omega) only [go_sem, ↓reduceIte, Nat.reduceEqDiff, Nat.reduceAdd, Nat.reduceLeDiff, hG, q1, q2, q3, q4]; refine hK _ _ ?_; clear hK K hG G) | (refine W_end rfl fun G K hG hK => ?_; simp (disch := omega) only [go_sem, ↓reduceIte, Nat.reduceEqDiff, Nat.reduceAdd, Nat.reduceLeDiff, hG, q1, q2, q3, q4]; refine hK _ _ ?_; clear hK K hG G; repeat (first | refine thenI ?_ | refine thenE ?_ | refine thenR ?_ | refine inBI ?_ | refine inBR ?_ | refine inBS ?_ | refine inBN (by decide) ?_)) | refine W_seqS ?_ | refine W_seqC ?_ | refine W_seqB ?_ | refine W_block ?_ | (refine W_skip ?_; repeat (first | refine thenI ?_ | refine thenE ?_ | refine thenR ?_ | refine inBI ?_ | refine inBR ?_ | refine inBS ?_ | refine inBN (by decide) ?_)) | (refine W_condT ?hc ?_; (case hc => (simp (disch := omega) only [go_sem, ↓reduceIte, Nat.reduceEqDiff, Nat.reduceAdd, Nat.reduceLeDiff, q1, q2, q3, q4]; done))) | (refine W_condF ?hc ?_; (case hc => (simp (disch := omega) only [go_sem, ↓reduceIte, Nat.reduceEqDiff, Nat.reduceAdd, Nat.reduceLeDiff, q1, q2, q3, q4]; done))))
  (repeat (first | refine W_seqS ?_ | refine W_seqC ?_ | refine W_seqB ?_ | refine W_block ?_)); refine W_reg rfl fun G K hG hK => ?_; simp (disch := omega) only [go_sem, ↓reduceIte, Nat.reduceEqDiff, Nat.reduceAdd, Nat.reduceLeDiff, hG, q1, q2, q3, q4]
  refine w_call (toStringS_ok g.sorts st s hl.1 hs) (by simp (disch := omega) only [go_sem, ↓reduceIte, Nat.reduceEqDiff, q1, q2, q3, q4]) ?hl ?_
  case hl => first | rfl | (simp only [go_sem, List.all_cons, List.all_nil, Bool.not_false, Bool.and_self, q1, q2, q3, q4]; done)
  rintro rv sa ⟨x1, L1, o1, f1⟩; refine ⟨fun e => (by cases e), ?_⟩
  have a1 := o1.okv
  have a2 := o1.loc
  have a3 := o1.cells
  simp (disch := omega) only [go_sem, ↓reduceIte, Nat.reduceEqDiff, Nat.reduceAdd, Nat.reduceLeDiff, hG, q1, q2, q3, q4, a1, a2, a3]; refine hK _ _ ?_; clear hK K hG G; repeat (first | refine thenI ?_ | refine thenE ?_ | refine thenR ?_ | refine inBI ?_ | refine inBR ?_ | refine inBS ?_ | refine inBN (by decide) ?_)
  (repeat (first | refine W_seqS ?_ | refine W_seqC ?_ | refine W_seqB ?_ | refine W_block ?_)); refine W_reg rfl fun G K hG hK => ?_; simp (disch := omega) only [go_sem, ↓reduceIte, Nat.reduceEqDiff, Nat.reduceAdd, Nat.reduceLeDiff, hG, q1, q2, q3, q4, a1, a2, a3]
  refine w_call (toOpS_ok g.ops sa u hl.2.1 hl.2.2 (hu.ext x1)) (by simp (disch := omega) only [go_sem, ↓reduceIte, Nat.reduceEqDiff, q1, q2, q3, q4, a1, a2, a3]) ?hl ?_
  case hl => first | rfl | (simp only [go_sem, List.all_cons, List.all_nil, Bool.not_false, Bool.and_self, q1, q2, q3, q4, a1, a2, a3]; done)
  rintro rw_ sb ⟨x2, L2, o2, f2⟩; refine ⟨fun e => (by cases e), ?_⟩
  have b1 := o2.okv
  have b2 := o2.loc
  have b3 := o2.cells
  simp (disch := omega) only [go_sem, ↓reduceIte, Nat.reduceEqDiff, Nat.reduceAdd, Nat.reduceLeDiff, hG, q1, q2, q3, q4, a1, a2, a3, b1, b2, b3]; refine hK _ _ ?_; clear hK K hG G; repeat (first | refine thenI ?_ | refine thenE ?_ | refine thenR ?_ | refine inBI ?_ | refine inBR ?_ | refine inBS ?_ | refine inBN (by decide) ?_)
  repeat (first | (refine W_reg rfl fun G K hG hK => ?_; simp (disch := omega) only [go_sem, ↓reduceIte, Nat.reduceEqDiff, Nat.reduceAdd, Nat.reduceLeDiff, hG, q1, q2, q3, q4, a1, a2, a3, b1, b2, b3]; refine hK _ _ ?_; clear hK K hG G) | (refine W_end rfl fun G K hG hK => ?_; simp (disch := omega) only [go_sem, ↓reduceIte, Nat.reduceEqDiff, Nat.reduceAdd, Nat.reduceLeDiff, hG, q1, q2, q3, q4, a1, a2, a3, b1, b2, b3]; refine hK _ _ ?_; clear hK K hG G; repeat (first | refine thenI ?_ | refine thenE ?_ | refine thenR ?_ | refine inBI ?_ | refine inBR ?_ | refine inBS ?_ | refine inBN (by decide) ?_)) | refine W_seqS ?_ | refine W_seqC ?_ | refine W_seqB ?_ | refine W_block ?_ | (refine W_skip ?_; repeat (first | refine thenI ?_ | refine thenE ?_ | refine thenR ?_ | refine inBI ?_ | refine inBR ?_ | refine inBS ?_ | refine inBN (by decide) ?_)) | (refine W_condT ?hc ?_; (case hc => (simp (disch := omega) only [go_sem, ↓reduceIte, Nat.reduceEqDiff, Nat.reduceAdd, Nat.reduceLeDiff, q1, q2, q3, q4, a1, a2, a3, b1, b2, b3]; done))) | (refine W_condF ?hc ?_; (case hc => (simp (disch := omega) only [go_sem, ↓reduceIte, Nat.reduceEqDiff, Nat.reduceAdd, Nat.reduceLeDiff, q1, q2, q3, q4, a1, a2, a3, b1, b2, b3]; done))))
  refine W_ret ?_; try (repeat (first | refine thenI ?_ | refine thenE ?_ | refine thenR ?_ | refine inBI ?_ | refine inBR ?_ | refine inBS ?_ | refine inBN (by decide) ?_))
  refine finC (.inl rfl) (by (simp (disch := omega) only [go_sem, ↓reduceIte, Nat.reduceEqDiff, Nat.reduceAdd, Nat.reduceLeDiff, q1, q2, q3, q4, a1, a2, a3, b1, b2, b3]); try rfl) ⟨x1.trans x2, [rv, rw_], L1 ++ L2, rfl, ⟨_, _, L1, L2, rfl, o1.ext x2, o2, rfl⟩, ?_⟩
  exact ⟨List.nodup_append.2 ⟨f1.1, f2.1, fun a ha b hb e => o1.apart f2 a ha (e ▸ hb)⟩, fun i hi => by
    rcases List.mem_append.1 hi with hi | hi
    · exact f1.2 i hi
    · have := f2.2 i hi; have := x1.length; omega⟩

theorem eqOp_ok (b : Opr) (st : St) (cs ds : List Value) (hl : b.args.length ≤ 4611686018427387904) (h : EncO st b cs) (h' : EncO st b ds) :
    CallS Try.prog 40 [.agg cs.toArray, .agg ds.toArray] st fun r st' => r = .bool true ∧ st' = st := by
  refine CallS_of_W [] 21 Try.func40 rfl rfl rfl rfl (by simp) ?_
  obtain ⟨s, rfl, hr⟩ := h
  obtain ⟨s', rfl, hr'⟩ := h'
  have n1 := hr.notLoc.1
  have n2 := hr'.notLoc.1
  have n3 := hr.notLoc.2
  have n4 := hr'.notLoc.2
  repeat (first | (refine W_reg rfl fun G K hG hK => ?_; simp (disch := omega) only [go_sem, ↓reduceIte, Nat.reduceEqDiff, Nat.reduceAdd, Nat.reduceLeDiff, hG, n1, n2, n3, n4]; refine hK _ _ ?_; clear hK K hG G) | (refine W_end rfl fun G K hG hK => ?_; simp (disch := omega) only [go_sem, ↓reduceIte, Nat.reduceEqDiff, Nat.reduceAdd, Nat.reduceLeDiff, hG, n1, n2, n3, n4]; refine hK _ _ ?_; clear hK K hG G; repeat (first | refine thenI ?_ | refine thenE ?_ | refine thenR ?_ | refine inBI ?_ | refine inBR ?_ | refine inBS ?_ | refine inBN (by decide) ?_)) | refine W_seqS ?_ | refine W_seqC ?_ | refine W_seqB ?_ | refine W_block ?_ | (refine W_skip ?_; repeat (first | refine thenI ?_ | refine thenE ?_ | refine thenR ?_ | refine inBI ?_ | refine inBR ?_ | refine inBS ?_ | refine inBN (by decide) ?_)) | (refine W_condT ?hc ?_; (case hc => (simp (disch := omega) only [go_sem, ↓reduceIte, Nat.reduceEqDiff, Nat.reduceAdd, Nat.reduceLeDiff, n1, n2, n3, n4]; done))) | (refine W_condF ?hc ?_; (case hc => (simp (disch := omega) only [go_sem, ↓reduceIte, Nat.reduceEqDiff, Nat.reduceAdd, Nat.reduceLeDiff, n1, n2, n3, n4]; done))))
  (repeat (first | refine W_seqS ?_ | refine W_seqC ?_ | refine W_seqB ?_ | refine W_block ?_)); refine W_reg rfl fun G K hG hK => ?_; simp (disch := omega) only [go_sem, ↓reduceIte, Nat.reduceEqDiff, Nat.reduceAdd, Nat.reduceLeDiff, hG, n1, n2, n3, n4]
  refine w_call (eqStringS_ok b.args st s s' hl hr hr') (by simp (disch := omega) only [go_sem, ↓reduceIte, Nat.reduceEqDiff, n1, n2, n3, n4]) ?hl ?_
  case hl => first | rfl | (simp only [go_sem, List.all_cons, List.all_nil, Bool.not_false, Bool.and_self, n1, n2, n3, n4]; done)
  rintro r_ st ⟨rfl, rfl⟩; refine ⟨fun e => (by cases e), ?_⟩
  simp (disch := omega) only [go_sem, ↓reduceIte, Nat.reduceEqDiff, Nat.reduceAdd, Nat.reduceLeDiff, hG, n1, n2, n3, n4]; refine hK _ _ ?_; clear hK K hG G; repeat (first | refine thenI ?_ | refine thenE ?_ | refine thenR ?_ | refine inBI ?_ | refine inBR ?_ | refine inBS ?_ | refine inBN (by decide) ?_)
  repeat (first | (refine W_reg rfl fun G K hG hK => ?_; simp (disch := omega) only [go_sem, ↓reduceIte, Nat.reduceEqDiff, Nat.reduceAdd, Nat.reduceLeDiff, hG, n1, n2, n3, n4]; refine hK _ _ ?_; clear hK K hG G) | (refine W_end rfl fun G K hG hK => ?_; simp (disch := omega) only [go_sem, ↓reduceIte, Nat.reduceEqDiff, Nat.reduceAdd, Nat.reduceLeDiff, hG, n1, n2, n3, n4]; refine hK _ _ ?_; clear hK K hG G; repeat (first | refine thenI ?_ | refine thenE ?_ | refine thenR ?_ | refine inBI ?_ | refine inBR ?_ | refine inBS ?_ | refine inBN (by decide) ?_)) | refine W_seqS ?_ | refine W_seqC ?_ | refine W_seqB ?_ | refine W_block ?_ | (refine W_skip ?_; repeat (first | refine thenI ?_ | refine thenE ?_ | refine thenR ?_ | refine inBI ?_ | refine inBR ?_ | refine inBS ?_ | refine inBN (by decide) ?_)) | (refine W_condT ?hc ?_; (case hc => (simp (disch := omega) only [go_sem, ↓reduceIte, Nat.reduceEqDiff, Nat.reduceAdd, Nat.reduceLeDiff, n1, n2, n3, n4]; done))) | (refine W_condF ?hc ?_; (case hc => (simp (disch := omega) only [go_sem, ↓reduceIte, Nat.reduceEqDiff, Nat.reduceAdd, Nat.reduceLeDiff, n1, n2, n3, n4]; done))))
  refine W_ret ?_; try (repeat (first | refine thenI ?_ | refine thenE ?_ | refine thenR ?_ | refine inBI ?_ | refine inBR ?_ | refine inBS ?_ | refine inBN (by decide) ?_))
  refine fin1 (.inl rfl) (by (simp (disch := omega) only [go_sem, ↓reduceIte, Nat.reduceEqDiff, Nat.reduceAdd, Nat.reduceLeDiff, n1, n2, n3, n4]); try rfl) rfl ⟨rfl, rfl⟩

theorem eqOpS_ok (xs : List Opr) (st : St) (s s' : Value) (hbig : xs.length ≤ 4611686018427387904) (hl : ∀ b ∈ xs, b.args.length ≤ 4611686018427387904) (hr : Rw st xs s) (hr' : Rw st xs s') :
    CallS Try.prog 29 [s, s'] st fun r st' => r = .bool true ∧ st' = st := by
  refine CallS_of_W [] 27 Try.func29 rfl rfl rfl rfl (by simp) ?_
  have hlen : lenE Try.prog 34 s = some (.int .i64 xs.length) := row_len hr Try.underlying34
  have hlen' : lenE Try.prog 34 s' = some (.int .i64 xs.length) := row_len hr' Try.underlying34
  repeat (first | (refine W_reg rfl fun G K hG hK => ?_; simp (disch := omega) only [go_sem, ↓reduceIte, Nat.reduceEqDiff, Nat.reduceAdd, Nat.reduceLeDiff, hG, hlen, hlen']; refine hK _ _ ?_; clear hK K hG G) | (refine W_end rfl fun G K hG hK => ?_; simp (disch := omega) only [go_sem, ↓reduceIte, Nat.reduceEqDiff, Nat.reduceAdd, Nat.reduceLeDiff, hG, hlen, hlen']; refine hK _ _ ?_; clear hK K hG G; repeat (first | refine thenI ?_ | refine thenE ?_ | refine thenR ?_ | refine inBI ?_ | refine inBR ?_ | refine inBS ?_ | refine inBN (by decide) ?_)) | refine W_seqS ?_ | refine W_seqC ?_ | refine W_seqB ?_ | refine W_block ?_ | (refine W_skip ?_; repeat (first | refine thenI ?_ | refine thenE ?_ | refine thenR ?_ | refine inBI ?_ | refine inBR ?_ | refine inBS ?_ | refine inBN (by decide) ?_)) | (refine W_condT ?hc ?_; (case hc => (simp (disch := omega) only [go_sem, ↓reduceIte, Nat.reduceEqDiff, Nat.reduceAdd, Nat.reduceLeDiff, hlen, hlen']; done))) | (refine W_condF ?hc ?_; (case hc => (simp (disch := omega) only [go_sem, ↓reduceIte, Nat.reduceEqDiff, Nat.reduceAdd, Nat.reduceLeDiff, hlen, hlen']; done))))
  refine W_loop (fun d fr st' => ∃ (j : Nat) , d = xs.length - j ∧ j ≤ xs.length ∧ (st' = st) ∧ (fr.env 5 = .int .i64 j) ∧ (fr.env 0 = s) ∧ (fr.env 1 = s')) (xs.length) ?_ ?_
  · exact ⟨0, by omega, by omega, rfl, (by (simp (disch := omega) only [go_sem, ↓reduceIte, Nat.reduceEqDiff, Nat.reduceAdd, Nat.reduceLeDiff, hlen, hlen']); try rfl), (by (simp (disch := omega) only [go_sem, ↓reduceIte, Nat.reduceEqDiff, Nat.reduceAdd, Nat.reduceLeDiff, hlen, hlen']); try rfl), (by (simp (disch := omega) only [go_sem, ↓reduceIte, Nat.reduceEqDiff, Nat.reduceAdd, Nat.reduceLeDiff, hlen, hlen']); try rfl)⟩
  rintro d ⟨env, loc⟩ st' ⟨j, hd, hj, hst, e5, e0, e1⟩
  simp only at e5 e0 e1
  subst hst
  by_cases hlt : j < xs.length
  · have c1 : decide ((j : Int) < (xs.length : Int)) = true := by simpa using hlt
    have hi := idxOk hlt
    have hx : xs[j]? = some xs[j] := List.getElem?_eq_getElem hlt
    have htk : xs.take (j + 1) = xs.take j ++ [xs[j]] := List.take_succ_eq_append_getElem hlt
    obtain ⟨i, o, c, sx, rfl, hrx, hcs⟩ := row_atO hr hx
    obtain ⟨i', o', c', sx', rfl, hrx', hcs'⟩ := row_atO hr' hx
    have hld := fun loc => load_row (A := []) (loc := loc) ag69 sz69 rfl hcs
    have hld' := fun loc => load_row (A := []) (loc := loc) ag69 sz69 rfl hcs'
    have nx := hrx.notLoc.1
    have nx' := hrx'.notLoc.1
    repeat (first | (refine W_reg rfl fun G K hG hK => ?_; simp (disch := omega) only [go_sem, ↓reduceIte, Nat.reduceEqDiff, Nat.reduceAdd, Nat.reduceLeDiff, hG, hlen, hlen', e5, e0, e1, c1, hi, idxA, Int.toNat_natCast]; refine hK _ _ ?_; clear hK K hG G) | (refine W_end rfl fun G K hG hK => ?_; simp (disch := omega) only [go_sem, ↓reduceIte, Nat.reduceEqDiff, Nat.reduceAdd, Nat.reduceLeDiff, hG, hlen, hlen', e5, e0, e1, c1, hi, idxA, Int.toNat_natCast]; refine hK _ _ ?_; clear hK K hG G; repeat (first | refine thenI ?_ | refine thenE ?_ | refine thenR ?_ | refine inBI ?_ | refine inBR ?_ | refine inBS ?_ | refine inBN (by decide) ?_)) | refine W_seqS ?_ | refine W_seqC ?_ | refine W_seqB ?_ | refine W_block ?_ | (refine W_skip ?_; repeat (first | refine thenI ?_ | refine thenE ?_ | refine thenR ?_ | refine inBI ?_ | refine inBR ?_ | refine inBS ?_ | refine inBN (by decide) ?_)) | (refine W_condT ?hc ?_; (case hc => (simp (disch := omega) only [go_sem, ↓reduceIte, Nat.reduceEqDiff, Nat.reduceAdd, Nat.reduceLeDiff, hlen, hlen', e5, e0, e1, c1, hi, idxA, Int.toNat_natCast]; done))) | (refine W_condF ?hc ?_; (case hc => (simp (disch := omega) only [go_sem, ↓reduceIte, Nat.reduceEqDiff, Nat.reduceAdd, Nat.reduceLeDiff, hlen, hlen', e5, e0, e1, c1, hi, idxA, Int.toNat_natCast]; done))))
    (repeat (first | refine W_seqS ?_ | refine W_seqC ?_ | refine W_seqB ?_ | refine W_block ?_)); refine W_regD mixed [] [(0,false),(1,false),(2,false),(3,false),(4,false),(5,false),(6,false),(7,false),(8,false),(9,false)] rfl (by decide +kernel) fun G K hG hK => ?_; simp only [pickOps, List.filterMap_cons, List.filterMap_nil, List.getElem?_cons_zero, List.getElem?_cons_succ, Option.map_some]; simp (disch := omega) only [go_sem, ↓reduceIte, Nat.reduceEqDiff, Nat.reduceAdd, Nat.reduceLeDiff, hG, hlen, hlen', e5, e0, e1, c1, hi, idxA, Int.toNat_natCast, hld, hld']
    refine w_call (eqOp_ok xs[j] st' _ _ (hl _ (List.getElem_mem hlt)) ⟨_, rfl, hrx⟩ ⟨_, rfl, hrx'⟩) (by simp (disch := omega) only [go_sem, ↓reduceIte, Nat.reduceEqDiff, hlen, hlen', e5, e0, e1, c1, hi, idxA, Int.toNat_natCast]) ?hl ?_
    case hl => first | rfl | (simp only [go_sem, List.all_cons, List.all_nil, Bool.not_false, Bool.and_self, hlen, hlen', e5, e0, e1, c1, hi, idxA, Int.toNat_natCast]; done)
    rintro r_ s_ ⟨rfl, rfl⟩; refine ⟨fun e => (by cases e), ?_⟩
    simp (disch := omega) only [go_sem, ↓reduceIte, Nat.reduceEqDiff, Nat.reduceAdd, Nat.reduceLeDiff, hG, hlen, hlen', e5, e0, e1, c1, hi, idxA, Int.toNat_natCast]; refine hK _ _ ?_; clear hK K hG G; repeat (first | refine thenI ?_ | refine thenE ?_ | refine thenR ?_ | refine inBI ?_ | refine inBR ?_ | refine inBS ?_ | refine inBN (by decide) ?_)
    repeat (first | (refine W_reg rfl fun G K hG hK => ?_; simp (disch := omega) only [go_sem, ↓reduceIte, Nat.reduceEqDiff, Nat.reduceAdd, Nat.reduceLeDiff, hG, hlen, hlen', e5, e0, e1, c1, hi, idxA, Int.toNat_natCast]; refine hK _ _ ?_; clear hK K hG G) | (refine W_end rfl fun G K hG hK => ?_; simp (disch := omega) only [go_sem, ↓reduceIte, Nat.reduceEqDiff, Nat.reduceAdd, Nat.reduceLeDiff, hG, hlen, hlen', e5, e0, e1, c1, hi, idxA, Int.toNat_natCast]; refine hK _ _ ?_; clear hK K hG G; repeat (first | refine thenI ?_ | refine thenE ?_ | refine thenR ?_ | refine inBI ?_ | refine inBR ?_ | refine inBS ?_ | refine inBN (by decide) ?_)) | refine W_seqS ?_ | refine W_seqC ?_ | refine W_seqB ?_ | refine W_block ?_ | (refine W_skip ?_; repeat (first | refine thenI ?_ | refine thenE ?_ | refine thenR ?_ | refine inBI ?_ | refine inBR ?_ | refine inBS ?_ | refine inBN (by decide) ?_)) | (refine W_condT ?hc ?_; (case hc => (simp (disch := omega) only [go_sem, ↓reduceIte, Nat.reduceEqDiff, Nat.reduceAdd, Nat.reduceLeDiff, hlen, hlen', e5, e0, e1, c1, hi, idxA, Int.toNat_natCast]; done))) | (refine W_condF ?hc ?_; (case hc => (simp (disch := omega) only [go_sem, ↓reduceIte, Nat.reduceEqDiff, Nat.reduceAdd, Nat.reduceLeDiff, hlen, hlen', e5, e0, e1, c1, hi, idxA, Int.toNat_natCast]; done))))
    refine ⟨xs.length - (j + 1), by omega, j + 1, rfl, by omega, rfl, (by (simp (disch := omega) only [go_sem, ↓reduceIte, Nat.reduceEqDiff, Nat.reduceAdd, Nat.reduceLeDiff, hlen, hlen', e5, e0, e1, c1, hi, idxA, Int.toNat_natCast]); try rfl), (by (simp (disch := omega) only [go_sem, ↓reduceIte, Nat.reduceEqDiff, Nat.reduceAdd, Nat.reduceLeDiff, hlen, hlen', e5, e0, e1, c1, hi, idxA, Int.toNat_natCast]); try rfl), (by (simp (disch := omega) only [go_sem, ↓reduceIte, Nat.reduceEqDiff, Nat.reduceAdd, Nat.reduceLeDiff, hlen, hlen', e5, e0, e1, c1, hi, idxA, Int.toNat_natCast]); try rfl)⟩
  · have c1 : decide ((j : Int) < (xs.length : Int)) = false := by simpa using hlt
    have hjn : j = xs.length := by omega
    subst hjn
    repeat (first | (refine W_reg rfl fun G K hG hK => ?_; simp (disch := omega) only [go_sem, ↓reduceIte, Nat.reduceEqDiff, Nat.reduceAdd, Nat.reduceLeDiff, hG, hlen, hlen', e5, e0, e1, c1]; refine hK _ _ ?_; clear hK K hG G) | (refine W_end rfl fun G K hG hK => ?_; simp (disch := omega) only [go_sem, ↓reduceIte, Nat.reduceEqDiff, Nat.reduceAdd, Nat.reduceLeDiff, hG, hlen, hlen', e5, e0, e1, c1]; refine hK _ _ ?_; clear hK K hG G; repeat (first | refine thenI ?_ | refine thenE ?_ | refine thenR ?_ | refine inBI ?_ | refine inBR ?_ | refine inBS ?_ | refine inBN (by decide) ?_)) | refine W_seqS ?_ | refine W_seqC ?_ | refine W_seqB ?_ | refine W_block ?_ | (refine W_skip ?_; repeat (first | refine thenI ?_ | refine thenE ?_ | refine thenR ?_ | refine inBI ?_ | refine inBR ?_ | refine inBS ?_ | refine inBN (by decide) ?_)) | (refine W_condT ?hc ?_; (case hc => (simp (disch := omega) only [go_sem, ↓reduceIte, Nat.reduceEqDiff, Nat.reduceAdd, Nat.reduceLeDiff, hlen, hlen', e5, e0, e1, c1]; done))) | (refine W_condF ?hc ?_; (case hc => (simp (disch := omega) only [go_sem, ↓reduceIte, Nat.reduceEqDiff, Nat.reduceAdd, Nat.reduceLeDiff, hlen, hlen', e5, e0, e1, c1]; done))))
    refine W_exit ?_; repeat (first | refine thenI ?_ | refine thenE ?_ | refine thenR ?_ | refine inBI ?_ | refine inBR ?_ | refine inBS ?_ | refine inBN (by decide) ?_)
    repeat (first | (refine W_reg rfl fun G K hG hK => ?_; simp (disch := omega) only [go_sem, ↓reduceIte, Nat.reduceEqDiff, Nat.reduceAdd, Nat.reduceLeDiff, hG, hlen, hlen', e5, e0, e1, c1]; refine hK _ _ ?_; clear hK K hG G) | (refine W_end rfl fun G K hG hK => ?_; simp (disch := omega) only [go_sem, ↓reduceIte, Nat.reduceEqDiff, Nat.reduceAdd, Nat.reduceLeDiff, hG, hlen, hlen', e5, e0, e1, c1]; refine hK _ _ ?_; clear hK K hG G; repeat (first | refine thenI ?_ | refine thenE ?_ | refine thenR ?_ | refine inBI ?_ | refine inBR ?_ | refine inBS ?_ | refine inBN (by decide) ?_)) | refine W_seqS ?_ | refine W_seqC ?_ | refine W_seqB ?_ | refine W_block ?_ | (refine W_skip ?_; repeat (first | refine thenI ?_ | refine thenE ?_ | refine thenR ?_ | refine inBI ?_ | refine inBR ?_ | refine inBS ?_ | refine inBN (by decide) ?_)) | (refine W_condT ?hc ?_; (case hc => (simp (disch := omega) only [go_sem, ↓reduceIte, Nat.reduceEqDiff, Nat.reduceAdd, Nat.reduceLeDiff, hlen, hlen', e5, e0, e1, c1]; done))) | (refine W_condF ?hc ?_; (case hc => (simp (disch := omega) only [go_sem, ↓reduceIte, Nat.reduceEqDiff, Nat.reduceAdd, Nat.reduceLeDiff, hlen, hlen', e5, e0, e1, c1]; done))))
    refine W_ret ?_; try (repeat (first | refine thenI ?_ | refine thenE ?_ | refine thenR ?_ | refine inBI ?_ | refine inBR ?_ | refine inBS ?_ | refine inBN (by decide) ?_))
    refine fin1 (.inl rfl) (by (simp (disch := omega) only [go_sem, ↓reduceIte, Nat.reduceEqDiff, Nat.reduceAdd, Nat.reduceLeDiff, hlen, hlen', e5, e0, e1, c1]); try rfl) rfl ⟨rfl, rfl⟩

theorem eqSignature_ok (g : Sgn) (st : St) (cs ds : List Value) (hl : LimS 1073741824 g) (hE : EncS st g cs) (hE' : EncS st g ds) :
    CallS Try.prog 11 [.agg cs.toArray, .agg ds.toArray] st fun r st' => r = .bool true ∧ st' = st := by
  refine CallS_of_W [] 17 Try.func11 rfl rfl rfl rfl (by simp) ?_
  obtain ⟨s, u, rfl, hs, hu⟩ := hE
  obtain ⟨s', u', rfl, hs', hu'⟩ := hE'
  have q1 := hs.notLoc.1
  have q2 := hs.notLoc.2
  have q3 := hu.notLoc.1
  have q4 := hu.notLoc.2
  have q1' := hs'.notLoc.1
  have q2' := hs'.notLoc.2
  have q3' := hu'.notLoc.1
  have q4' := hu'.notLoc.2
  have h1 := hl.1
  have h2 := hl.2.1
  repeat (first | (refine W_reg rfl fun G K hG hK => ?_; simp (disch := omega) only [go_sem, ↓reduceIte, Nat.reduceEqDiff, Nat.reduceAdd, Nat.reduceLeDiff, hG, q1, q2, q3, q4, q1', q2', q3', q4']; refine hK _ _ ?_; clear hK K hG G) | (refine W_end rfl fun G K hG hK => ?_; simp (disch := omega) only [go_sem, ↓reduceIte, Nat.reduceEqDiff, Nat.reduceAdd, Nat.reduceLeDiff, hG, q1, q2, q3, q4, q1', q2', q3', q4']; refine hK _ _ ?_; clear hK K hG G; repeat (first | refine thenI ?_ | refine thenE ?_ | refine thenR ?_ | refine inBI ?_ | refine inBR ?_ | refine inBS ?_ | refine inBN (by decide) ?_)) | refine W_seqS ?_ | refine W_seqC ?_ | refine W_seqB ?_ | refine W_block ?_ | (refine W_skip ?_; repeat (first | refine thenI ?_ | refine thenE ?_ | refine thenR ?_ | refine inBI ?_ | refine inBR ?_ | refine inBS ?_ | refine inBN (by decide) ?_)) | (refine W_condT ?hc ?_; (case hc => (simp (disch := omega) only [go_sem, ↓reduceIte, Nat.reduceEqDiff, Nat.reduceAdd, Nat.reduceLeDiff, q1, q2, q3, q4, q1', q2', q3', q4']; done))) | (refine W_condF ?hc ?_; (case hc => (simp (disch := omega) only [go_sem, ↓reduceIte, Nat.reduceEqDiff, Nat.reduceAdd, Nat.reduceLeDiff, q1, q2, q3, q4, q1', q2', q3', q4']; done))))
  (repeat (first | refine W_seqS ?_ | refine W_seqC ?_ | refine W_seqB ?_ | refine W_block ?_)); refine W_reg rfl fun G K hG hK => ?_; simp (disch := omega) only [go_sem, ↓reduceIte, Nat.reduceEqDiff, Nat.reduceAdd, Nat.reduceLeDiff, hG, q1, q2, q3, q4, q1', q2', q3', q4']
  refine w_call (eqStringS_ok g.sorts st s s' (by omega) hs hs') (by simp (disch := omega) only [go_sem, ↓reduceIte, Nat.reduceEqDiff, q1, q2, q3, q4, q1', q2', q3', q4']) ?hl ?_
  case hl => first | rfl | (simp only [go_sem, List.all_cons, List.all_nil, Bool.not_false, Bool.and_self, q1, q2, q3, q4, q1', q2', q3', q4']; done)
  rintro r_ st ⟨rfl, rfl⟩; refine ⟨fun e => (by cases e), ?_⟩
  simp (disch := omega) only [go_sem, ↓reduceIte, Nat.reduceEqDiff, Nat.reduceAdd, Nat.reduceLeDiff, hG, q1, q2, q3, q4, q1', q2', q3', q4']; refine hK _ _ ?_; clear hK K hG G; repeat (first | refine thenI ?_ | refine thenE ?_ | refine thenR ?_ | refine inBI ?_ | refine inBR ?_ | refine inBS ?_ | refine inBN (by decide) ?_)
  repeat (first | (refine W_reg rfl fun G K hG hK => ?_; simp (disch := omega) only [go_sem, ↓reduceIte, Nat.reduceEqDiff, Nat.reduceAdd, Nat.reduceLeDiff, hG, q1, q2, q3, q4, q1', q2', q3', q4']; refine hK _ _ ?_; clear hK K hG G) | (refine W_end rfl fun G K hG hK => ?_; simp (disch := omega) only [go_sem, ↓reduceIte, Nat.reduceEqDiff, Nat.reduceAdd, Nat.reduceLeDiff, hG, q1, q2, q3, q4, q1', q2', q3', q4']; refine hK _ _ ?_; clear hK K hG G; repeat (first | refine thenI ?_ | refine thenE ?_ | refine thenR ?_ | refine inBI ?_ | refine inBR ?_ | refine inBS ?_ | refine inBN (by decide) ?_)) | refine W_seqS ?_ | refine W_seqC ?_ | refine W_seqB ?_ | refine W_block ?_ | (refine W_skip ?_; repeat (first | refine thenI ?_ | refine thenE ?_ | refine thenR ?_ | refine inBI ?_ | refine inBR ?_ | refine inBS ?_ | refine inBN (by decide) ?_)) | (refine W_condT ?hc ?_; (case hc => (simp (disch := omega) only [go_sem, ↓reduceIte, Nat.reduceEqDiff, Nat.reduceAdd, Nat.reduceLeDiff, q1, q2, q3, q4, q1', q2', q3', q4']; done))) | (refine W_condF ?hc ?_; (case hc => (simp (disch := omega) only [go_sem, ↓reduceIte, Nat.reduceEqDiff, Nat.reduceAdd, Nat.reduceLeDiff, q1, q2, q3, q4, q1', q2', q3', q4']; done))))
  (repeat (first | refine W_seqS ?_ | refine W_seqC ?_ | refine W_seqB ?_ | refine W_block ?_)); refine W_reg rfl fun G K hG hK => ?_; simp (disch := omega) only [go_sem, ↓reduceIte, Nat.reduceEqDiff, Nat.reduceAdd, Nat.reduceLeDiff, hG, q1, q2, q3, q4, q1', q2', q3', q4']
  refine w_call (eqOpS_ok g.ops st u u' (by omega) (fun b hb => by have := hl.2.2 b hb; omega) hu hu') (by simp (disch := omega) only [go_sem, ↓reduceIte, Nat.reduceEqDiff, q1, q2, q3, q4, q1', q2', q3', q4']) ?hl ?_
  case hl => first | rfl | (simp only [go_sem, List.all_cons, List.all_nil, Bool.not_false, Bool.and_self, q1, q2, q3, q4, q1', q2', q3', q4']; done)
  rintro r_ st ⟨rfl, rfl⟩; refine ⟨fun e => (by cases e), ?_⟩
  simp (disch := omega) only [go_sem, ↓reduceIte, Nat.reduceEqDiff, Nat.reduceAdd, Nat.reduceLeDiff, hG, q1, q2, q3, q4, q1', q2', q3', q4']; refine hK _ _ ?_; clear hK K hG G; repeat (first | refine thenI ?_ | refine thenE ?_ | refine thenR ?_ | refine inBI ?_ | refine inBR ?_ | refine inBS ?_ | refine inBN (by decide) ?_)
  repeat (first | (refine W_reg rfl fun G K hG hK => ?_; simp (disch := omega) only [go_sem, ↓reduceIte, Nat.reduceEqDiff, Nat.reduceAdd, Nat.reduceLeDiff, hG, q1, q2, q3, q4, q1', q2', q3', q4']; refine hK _ _ ?_; clear hK K hG G) | (refine W_end rfl fun G K hG hK => ?_; simp (disch := omega) only [go_sem, ↓reduceIte, Nat.reduceEqDiff, Nat.reduceAdd, Nat.reduceLeDiff, hG, q1, q2, q3, q4, q1', q2', q3', q4']; refine hK _ _ ?_; clear hK K hG G; repeat (first | refine thenI ?_ | refine thenE ?_ | refine thenR ?_ | refine inBI ?_ | refine inBR ?_ | refine inBS ?_ | refine inBN (by decide) ?_)) | refine W_seqS ?_ | refine W_seqC ?_ | refine W_seqB ?_ | refine W_block ?_ | (refine W_skip ?_; repeat (first | refine thenI ?_ | refine thenE ?_ | refine thenR ?_ | refine inBI ?_ | refine inBR ?_ | refine inBS ?_ | refine inBN (by decide) ?_)) | (refine W_condT ?hc ?_; (case hc => (simp (disch := omega) only [go_sem, ↓reduceIte, Nat.reduceEqDiff, Nat.reduceAdd, Nat.reduceLeDiff, q1, q2, q3, q4, q1', q2', q3', q4']; done))) | (refine W_condF ?hc ?_; (case hc => (simp (disch := omega) only [go_sem, ↓reduceIte, Nat.reduceEqDiff, Nat.reduceAdd, Nat.reduceLeDiff, q1, q2, q3, q4, q1', q2', q3', q4']; done))))
  refine W_ret ?_; try (repeat (first | refine thenI ?_ | refine thenE ?_ | refine thenR ?_ | refine inBI ?_ | refine inBR ?_ | refine inBS ?_ | refine inBN (by decide) ?_))
  refine fin1 (.inl rfl) (by (simp (disch := omega) only [go_sem, ↓reduceIte, Nat.reduceEqDiff, Nat.reduceAdd, Nat.reduceLeDiff, q1, q2, q3, q4, q1', q2', q3', q4']); try rfl) rfl ⟨rfl, rfl⟩

theorem markOpS_ok (xs : List Opr) (st : St) (s : Value) (L : List Nat) (k : Nat) (hbig : xs.length ≤ 1073741824) (hl : ∀ b ∈ xs, b.args.length ≤ 1073741824) (hk : (mkL xs k).2 ≤ 4611686018427380000) (hs : Sl st xs s L) (hnd : L.Nodup) :
    CallS Try.prog 32 [s, .int .i64 k] st fun r st2 => r = .int .i64 (mkL xs k).2 ∧ Sl st2 (mkL xs k).1 s L ∧ st.length ≤ st2.length ∧ ∀ i, i < st.length → i ∉ L → st2[i]? = st[i]? := by
  refine CallS_of_W [] 36 Try.func32 rfl rfl rfl rfl (by simp) ?_
  repeat (first | (refine W_reg rfl fun G K hG hK => ?_; simp (disch := omega) only [go_sem, ↓reduceIte, Nat.reduceEqDiff, Nat.reduceAdd, Nat.reduceLeDiff, hG]; refine hK _ _ ?_; clear hK K hG G) | (refine W_end rfl fun G K hG hK => ?_; simp (disch := omega) only [go_sem, ↓reduceIte, Nat.reduceEqDiff, Nat.reduceAdd, Nat.reduceLeDiff, hG]; refine hK _ _ ?_; clear hK K hG G; repeat (first | refine thenI ?_ | refine thenE ?_ | refine thenR ?_ | refine inBI ?_ | refine inBR ?_ | refine inBS ?_ | refine inBN (by decide) ?_)) | refine W_seqS ?_ | refine W_seqC ?_ | refine W_seqB ?_ | refine W_block ?_ | (refine W_skip ?_; repeat (first | refine thenI ?_ | refine thenE ?_ | refine thenR ?_ | refine inBI ?_ | refine inBR ?_ | refine inBS ?_ | refine inBN (by decide) ?_)) | (refine W_condT ?hc ?_; (case hc => (simp (disch := omega) only [go_sem, ↓reduceIte, Nat.reduceEqDiff, Nat.reduceAdd, Nat.reduceLeDiff]; done))) | (refine W_condF ?hc ?_; (case hc => (simp (disch := omega) only [go_sem, ↓reduceIte, Nat.reduceEqDiff, Nat.reduceAdd, Nat.reduceLeDiff]; done))))
  refine W_loop (fun d fr st' => ∃ (j : Nat) , d = xs.length - j ∧ j ≤ xs.length ∧ (MarkSt xs k st s L j st') ∧ (fr.env 5 = .int .i64 j) ∧ (fr.env 0 = s) ∧ (fr.env 1 = .int .i64 (mkL (xs.take j) k).2)) (xs.length) ?_ ?_
  · exact ⟨0, by omega, by omega, .start hs, (by (simp (disch := omega) only [go_sem, ↓reduceIte, Nat.reduceEqDiff, Nat.reduceAdd, Nat.reduceLeDiff]); try rfl), (by (simp (disch := omega) only [go_sem, ↓reduceIte, Nat.reduceEqDiff, Nat.reduceAdd, Nat.reduceLeDiff]); try rfl), (by (simp (disch := omega) only [go_sem, ↓reduceIte, Nat.reduceEqDiff, Nat.reduceAdd, Nat.reduceLeDiff]); try rfl)⟩
  rintro d ⟨env, loc⟩ st' ⟨j, hd, hj, hm, e5, e0, e1⟩
  simp only at e5 e0 e1
  have hlen : lenE Try.prog 34 s = some (.int .i64 xs.length) := hm.len hj Try.underlying34
  by_cases hlt : j < xs.length
  · have c1 : decide ((j : Int) < (xs.length : Int)) = true := by simpa using hlt
    have hi := idxOk hlt
    have hx : xs[j]? = some xs[j] := List.getElem?_eq_getElem hlt
    have htk : xs.take (j + 1) = xs.take j ++ [xs[j]] := List.take_succ_eq_append_getElem hlt
    obtain ⟨_, hkb⟩ := mkL_at hlt k
    obtain ⟨i, c, l1, cx, l2, L1, Lx, L2, rfl, hL, hb, hcl, ⟨s', rfl, hsx⟩, hndx, hix, hib, hstep⟩ := hm.open hnd hlt
    have hsn := congrArg Prod.snd (mkL_snoc hlt k)
    generalize (mkL (xs.take j) k).2 = kj at *
    have hlb := hl _ (List.getElem_mem hlt)
    simp only [Marks.mk1] at hkb hsn hstep
    have hkg := mkL_ge xs[j].args (kj + 1)
    have hcl : l1.length = j * 3 := hcl
    have hb : st'[i]? = some ⟨l1 ++ .string xs[j].nm :: s' :: .string xs[j].res :: l2, 69, 0⟩ := by rw [hb]; simp; rfl
    have w1 : IntKind.i64.wrap ((kj : Int) + 1) = ((kj + 1 : Nat) : Int) := by rw [wrap_in (by omega) (by omega)]; omega
    have w2 : IntKind.i64.wrap ((((mkL xs[j].args (kj + 1)).2 : Nat) : Int) + 1) = (((mkL xs[j].args (kj + 1)).2 + 1 : Nat) : Int) := by rw [wrap_in (by omega) (by omega)]; omega
    repeat (first | (refine W_reg rfl fun G K hG hK => ?_; simp (disch := omega) only [go_sem, ↓reduceIte, Nat.reduceEqDiff, Nat.reduceAdd, Nat.reduceLeDiff, hG, e5, e0, e1, c1, hi, idxA, Int.toNat_natCast, hlen, w1, w2]; refine hK _ _ ?_; clear hK K hG G) | (refine W_end rfl fun G K hG hK => ?_; simp (disch := omega) only [go_sem, ↓reduceIte, Nat.reduceEqDiff, Nat.reduceAdd, Nat.reduceLeDiff, hG, e5, e0, e1, c1, hi, idxA, Int.toNat_natCast, hlen, w1, w2]; refine hK _ _ ?_; clear hK K hG G; repeat (first | refine thenI ?_ | refine thenE ?_ | refine thenR ?_ | refine inBI ?_ | refine inBR ?_ | refine inBS ?_ | refine inBN (by decide) ?_)) | refine W_seqS ?_ | refine W_seqC ?_ | refine W_seqB ?_ | refine W_block ?_ | (refine W_skip ?_; repeat (first | refine thenI ?_ | refine thenE ?_ | refine thenR ?_ | refine inBI ?_ | refine inBR ?_ | refine inBS ?_ | refine inBN (by decide) ?_)) | (refine W_condT ?hc ?_; (case hc => (simp (disch := omega) only [go_sem, ↓reduceIte, Nat.reduceEqDiff, Nat.reduceAdd, Nat.reduceLeDiff, e5, e0, e1, c1, hi, idxA, Int.toNat_natCast, hlen, w1, w2]; done))) | (refine W_condF ?hc ?_; (case hc => (simp (disch := omega) only [go_sem, ↓reduceIte, Nat.reduceEqDiff, Nat.reduceAdd, Nat.reduceLeDiff, e5, e0, e1, c1, hi, idxA, Int.toNat_natCast, hlen, w1, w2]; done))))
    (repeat (first | refine W_seqS ?_ | refine W_seqC ?_ | refine W_seqB ?_ | refine W_block ?_)); refine W_reg rfl fun G K hG hK => ?_; simp (disch := omega) only [go_sem, ↓reduceIte, Nat.reduceEqDiff, Nat.reduceAdd, Nat.reduceLeDiff, hG, e5, e0, e1, c1, hi, idxA, Int.toNat_natCast, hlen, w1, w2]
    refine w_call (markText_ok kj st' (by omega)) (by simp (disch := omega) only [go_sem, ↓reduceIte, Nat.reduceEqDiff, e5, e0, e1, c1, hi, idxA, Int.toNat_natCast, hlen, w1, w2]) ?hl ?_
    case hl => first | rfl | (simp only [go_sem, List.all_cons, List.all_nil, Bool.not_false, Bool.and_self, e5, e0, e1, c1, hi, idxA, Int.toNat_natCast, hlen, w1, w2]; done)
    rintro r_ sa ⟨hx1, rfl⟩; refine ⟨fun e => (by cases e), ?_⟩
    obtain ⟨st1, k1, hb1, hn1, hf1⟩ := store_at (.string (mtext kj)) (o := j * 3) sz9 (hx1 _ _ hb) hcl rfl rfl
    simp (disch := omega) only [go_sem, ↓reduceIte, Nat.reduceEqDiff, Nat.reduceAdd, Nat.reduceLeDiff, hG, e5, e0, e1, c1, hi, idxA, Int.toNat_natCast, hlen, w1, w2, k1]; refine hK _ _ ?_; clear hK K hG G; repeat (first | refine thenI ?_ | refine thenE ?_ | refine thenR ?_ | refine inBI ?_ | refine inBR ?_ | refine inBS ?_ | refine inBN (by decide) ?_)
    repeat (first | (refine W_reg rfl fun G K hG hK => ?_; simp (disch := omega) only [go_sem, ↓reduceIte, Nat.reduceEqDiff, Nat.reduceAdd, Nat.reduceLeDiff, hG, e5, e0, e1, c1, hi, idxA, Int.toNat_natCast, hlen, w1, w2]; refine hK _ _ ?_; clear hK K hG G) | (refine W_end rfl fun G K hG hK => ?_; simp (disch := omega) only [go_sem, ↓reduceIte, Nat.reduceEqDiff, Nat.reduceAdd, Nat.reduceLeDiff, hG, e5, e0, e1, c1, hi, idxA, Int.toNat_natCast, hlen, w1, w2]; refine hK _ _ ?_; clear hK K hG G; repeat (first | refine thenI ?_ | refine thenE ?_ | refine thenR ?_ | refine inBI ?_ | refine inBR ?_ | refine inBS ?_ | refine inBN (by decide) ?_)) | refine W_seqS ?_ | refine W_seqC ?_ | refine W_seqB ?_ | refine W_block ?_ | (refine W_skip ?_; repeat (first | refine thenI ?_ | refine thenE ?_ | refine thenR ?_ | refine inBI ?_ | refine inBR ?_ | refine inBS ?_ | refine inBN (by decide) ?_)) | (refine W_condT ?hc ?_; (case hc => (simp (disch := omega) only [go_sem, ↓reduceIte, Nat.reduceEqDiff, Nat.reduceAdd, Nat.reduceLeDiff, e5, e0, e1, c1, hi, idxA, Int.toNat_natCast, hlen, w1, w2]; done))) | (refine W_condF ?hc ?_; (case hc => (simp (disch := omega) only [go_sem, ↓reduceIte, Nat.reduceEqDiff, Nat.reduceAdd, Nat.reduceLeDiff, e5, e0, e1, c1, hi, idxA, Int.toNat_natCast, hlen, w1, w2]; done))))
    have hc5 : cell st1 i (j * 3 + 1) = some s' := cell_mid (e := 69) (c2 := .string xs[j].res :: l2) (c1 := l1 ++ [.string (mtext kj)]) (by rw [hb1]; simp) (by simp; omega)
    have hlts := hsx.lt
    have hg1 : ∀ q, q ≠ i → q < st'.length → st1[q]? = st'[q]? := fun q hq hql => by rw [hf1 q hq, hx1.get hql]
    have hsx1 := hsx.frame (st' := st1) (fun q hq => hg1 q (fun e => hix (e ▸ hq)) (hlts q hq))
    have hlb' := hsx.loc
    have hq1 := hx1.length
    (repeat (first | refine W_seqS ?_ | refine W_seqC ?_ | refine W_seqB ?_ | refine W_block ?_)); refine W_reg rfl fun G K hG hK => ?_; simp (disch := omega) only [go_sem, ↓reduceIte, Nat.reduceEqDiff, Nat.reduceAdd, Nat.reduceLeDiff, hG, e5, e0, e1, c1, hi, idxA, Int.toNat_natCast, hlen, w1, w2, hc5, ag22]
    refine w_call (markStringS_ok xs[j].args st1 s' Lx (kj + 1) hlb (by omega) hsx1 hndx) (by simp (disch := omega) only [go_sem, ↓reduceIte, Nat.reduceEqDiff, e5, e0, e1, c1, hi, idxA, Int.toNat_natCast, hlen, w1, w2, hlb']) ?hl ?_
    case hl => first | rfl | (simp only [go_sem, List.all_cons, List.all_nil, Bool.not_false, Bool.and_self, e5, e0, e1, c1, hi, idxA, Int.toNat_natCast, hlen, w1, w2, hlb']; done)
    rintro r_ sb ⟨rfl, hsn2, hle2, hot2⟩; refine ⟨fun e => (by cases e), ?_⟩
    simp (disch := omega) only [go_sem, ↓reduceIte, Nat.reduceEqDiff, Nat.reduceAdd, Nat.reduceLeDiff, hG, e5, e0, e1, c1, hi, idxA, Int.toNat_natCast, hlen, w1, w2]; refine hK _ _ ?_; clear hK K hG G; repeat (first | refine thenI ?_ | refine thenE ?_ | refine thenR ?_ | refine inBI ?_ | refine inBR ?_ | refine inBS ?_ | refine inBN (by decide) ?_)
    have hb2 : sb[i]? = some ⟨l1 ++ .string (mtext kj) :: s' :: .string xs[j].res :: l2, 69, 0⟩ := by rw [hot2 i (by omega) hix, hb1]
    (repeat (first | refine W_seqS ?_ | refine W_seqC ?_ | refine W_seqB ?_ | refine W_block ?_)); refine W_reg rfl fun G K hG hK => ?_; simp (disch := omega) only [go_sem, ↓reduceIte, Nat.reduceEqDiff, Nat.reduceAdd, Nat.reduceLeDiff, hG, e5, e0, e1, c1, hi, idxA, Int.toNat_natCast, hlen, w1, w2]
    refine w_call (markText_ok (mkL xs[j].args (kj + 1)).2 sb (by omega)) (by simp (disch := omega) only [go_sem, ↓reduceIte, Nat.reduceEqDiff, e5, e0, e1, c1, hi, idxA, Int.toNat_natCast, hlen, w1, w2]) ?hl ?_
    case hl => first | rfl | (simp only [go_sem, List.all_cons, List.all_nil, Bool.not_false, Bool.and_self, e5, e0, e1, c1, hi, idxA, Int.toNat_natCast, hlen, w1, w2]; done)
    rintro r_ sc ⟨hx2, rfl⟩; refine ⟨fun e => (by cases e), ?_⟩
    obtain ⟨st4, k4, hb4, hn4, hf4⟩ := store_at (e := 69) (c1 := l1 ++ [.string (mtext kj), s']) (c2 := l2) (.string (mtext (mkL xs[j].args (kj + 1)).2)) (st := sc) (x := .string xs[j].res) (o := j * 3 + 2) sz9 (by rw [hx2 _ _ hb2]; simp) (by simp; omega) rfl rfl
    simp (disch := omega) only [go_sem, ↓reduceIte, Nat.reduceEqDiff, Nat.reduceAdd, Nat.reduceLeDiff, hG, e5, e0, e1, c1, hi, idxA, Int.toNat_natCast, hlen, w1, w2, k4]; refine hK _ _ ?_; clear hK K hG G; repeat (first | refine thenI ?_ | refine thenE ?_ | refine thenR ?_ | refine inBI ?_ | refine inBR ?_ | refine inBS ?_ | refine inBN (by decide) ?_)
    repeat (first | (refine W_reg rfl fun G K hG hK => ?_; simp (disch := omega) only [go_sem, ↓reduceIte, Nat.reduceEqDiff, Nat.reduceAdd, Nat.reduceLeDiff, hG, e5, e0, e1, c1, hi, idxA, Int.toNat_natCast, hlen, w1, w2]; refine hK _ _ ?_; clear hK K hG G) | (refine W_end rfl fun G K hG hK => ?_; simp (disch := omega) only [go_sem, ↓reduceIte, Nat.reduceEqDiff, Nat.reduceAdd, Nat.reduceLeDiff, hG, e5, e0, e1, c1, hi, idxA, Int.toNat_natCast, hlen, w1, w2]; refine hK _ _ ?_; clear hK K hG G; repeat (first | refine thenI ?_ | refine thenE ?_ | refine thenR ?_ | refine inBI ?_ | refine inBR ?_ | refine inBS ?_ | refine inBN (by decide) ?_)) | refine W_seqS ?_ | refine W_seqC ?_ | refine W_seqB ?_ | refine W_block ?_ | (refine W_skip ?_; repeat (first | refine thenI ?_ | refine thenE ?_ | refine thenR ?_ | refine inBI ?_ | refine inBR ?_ | refine inBS ?_ | refine inBN (by decide) ?_)) | (refine W_condT ?hc ?_; (case hc => (simp (disch := omega) only [go_sem, ↓reduceIte, Nat.reduceEqDiff, Nat.reduceAdd, Nat.reduceLeDiff, e5, e0, e1, c1, hi, idxA, Int.toNat_natCast, hlen, w1, w2]; done))) | (refine W_condF ?hc ?_; (case hc => (simp (disch := omega) only [go_sem, ↓reduceIte, Nat.reduceEqDiff, Nat.reduceAdd, Nat.reduceLeDiff, e5, e0, e1, c1, hi, idxA, Int.toNat_natCast, hlen, w1, w2]; done))))
    have hq2 := hx2.length
    have hlt2 := hsn2.lt
    refine ⟨xs.length - (j + 1), by omega, j + 1, rfl, by omega, hstep st4 [.string (mtext kj), s', .string (mtext (mkL xs[j].args (kj + 1)).2)] (by rw [hb4]; simp; rfl) (by omega) ⟨_, rfl, hsn2.frame fun q hq => by rw [hf4 q (fun e => hix (e ▸ hq)), hx2.get (hlt2 q hq)]⟩ fun q hq h h2 => by rw [hf4 q h, hx2.get (by omega), hot2 q (by omega) h2, hg1 q h hq], (by (simp (disch := omega) only [go_sem, ↓reduceIte, Nat.reduceEqDiff, Nat.reduceAdd, Nat.reduceLeDiff, e5, e0, e1, c1, hi, idxA, Int.toNat_natCast, hlen, w1, w2, hsn]); try rfl), (by (simp (disch := omega) only [go_sem, ↓reduceIte, Nat.reduceEqDiff, Nat.reduceAdd, Nat.reduceLeDiff, e5, e0, e1, c1, hi, idxA, Int.toNat_natCast, hlen, w1, w2, hsn]); try rfl), (by (simp (disch := omega) only [go_sem, ↓reduceIte, Nat.reduceEqDiff, Nat.reduceAdd, Nat.reduceLeDiff, e5, e0, e1, c1, hi, idxA, Int.toNat_natCast, hlen, w1, w2, hsn]); try rfl)⟩
  · have c1 : decide ((j : Int) < (xs.length : Int)) = false := by simpa using hlt
    have hjn : j = xs.length := by omega
    subst hjn
    repeat (first | (refine W_reg rfl fun G K hG hK => ?_; simp (disch := omega) only [go_sem, ↓reduceIte, Nat.reduceEqDiff, Nat.reduceAdd, Nat.reduceLeDiff, hG, e5, e0, e1, c1, hlen]; refine hK _ _ ?_; clear hK K hG G) | (refine W_end rfl fun G K hG hK => ?_; simp (disch := omega) only [go_sem, ↓reduceIte, Nat.reduceEqDiff, Nat.reduceAdd, Nat.reduceLeDiff, hG, e5, e0, e1, c1, hlen]; refine hK _ _ ?_; clear hK K hG G; repeat (first | refine thenI ?_ | refine thenE ?_ | refine thenR ?_ | refine inBI ?_ | refine inBR ?_ | refine inBS ?_ | refine inBN (by decide) ?_)) | refine W_seqS ?_ | refine W_seqC ?_ | refine W_seqB ?_ | refine W_block ?_ | (refine W_skip ?_; repeat (first | refine thenI ?_ | refine thenE ?_ | refine thenR ?_ | refine inBI ?_ | refine inBR ?_ | refine inBS ?_ | refine inBN (by decide) ?_)) | (refine W_condT ?hc ?_; (case hc => (simp (disch := omega) only [go_sem, ↓reduceIte, Nat.reduceEqDiff, Nat.reduceAdd, Nat.reduceLeDiff, e5, e0, e1, c1, hlen]; done))) | (refine W_condF ?hc ?_; (case hc => (simp (disch := omega) only [go_sem, ↓reduceIte, Nat.reduceEqDiff, Nat.reduceAdd, Nat.reduceLeDiff, e5, e0, e1, c1, hlen]; done))))
    refine W_exit ?_; repeat (first | refine thenI ?_ | refine thenE ?_ | refine thenR ?_ | refine inBI ?_ | refine inBR ?_ | refine inBS ?_ | refine inBN (by decide) ?_)
    repeat (first | (refine W_reg rfl fun G K hG hK => ?_; simp (disch := omega) only [go_sem, ↓reduceIte, Nat.reduceEqDiff, Nat.reduceAdd, Nat.reduceLeDiff, hG, e5, e0, e1, c1]; refine hK _ _ ?_; clear hK K hG G) | (refine W_end rfl fun G K hG hK => ?_; simp (disch := omega) only [go_sem, ↓reduceIte, Nat.reduceEqDiff, Nat.reduceAdd, Nat.reduceLeDiff, hG, e5, e0, e1, c1]; refine hK _ _ ?_; clear hK K hG G; repeat (first | refine thenI ?_ | refine thenE ?_ | refine thenR ?_ | refine inBI ?_ | refine inBR ?_ | refine inBS ?_ | refine inBN (by decide) ?_)) | refine W_seqS ?_ | refine W_seqC ?_ | refine W_seqB ?_ | refine W_block ?_ | (refine W_skip ?_; repeat (first | refine thenI ?_ | refine thenE ?_ | refine thenR ?_ | refine inBI ?_ | refine inBR ?_ | refine inBS ?_ | refine inBN (by decide) ?_)) | (refine W_condT ?hc ?_; (case hc => (simp (disch := omega) only [go_sem, ↓reduceIte, Nat.reduceEqDiff, Nat.reduceAdd, Nat.reduceLeDiff, e5, e0, e1, c1]; done))) | (refine W_condF ?hc ?_; (case hc => (simp (disch := omega) only [go_sem, ↓reduceIte, Nat.reduceEqDiff, Nat.reduceAdd, Nat.reduceLeDiff, e5, e0, e1, c1]; done))))
    refine W_ret ?_; try (repeat (first | refine thenI ?_ | refine thenE ?_ | refine thenR ?_ | refine inBI ?_ | refine inBR ?_ | refine inBS ?_ | refine inBN (by decide) ?_))
    refine fin1 (.inl rfl) (by (simp (disch := omega) only [go_sem, ↓reduceIte, Nat.reduceEqDiff, Nat.reduceAdd, Nat.reduceLeDiff, e5, e0, e1, c1, List.take_length]); try rfl) rfl ⟨rfl, hm.stop, hm.le, hm.oth⟩

theorem markSignature_ok (g : Sgn) (st : St) (cs : List Value) (L : List Nat) (k : Nat) (hl : LimS 1073741824 g) (hk : (g.mk0 k).2 ≤ 4611686018427380000) (hs : OwnS st g cs L) (hnd : L.Nodup) :
    CallS Try.prog 13 [.agg cs.toArray, .int .i64 k] st fun r st2 => r = .int .i64 (g.mk0 k).2 ∧ OwnS st2 (g.mk0 k).1 cs L ∧ st.length ≤ st2.length ∧ ∀ i, i < st.length → i ∉ L → st2[i]? = st[i]? := by
  refine CallS_of_W [] 14 Try.func13 rfl rfl rfl rfl (by simp) ?_
  obtain ⟨s, u, L1, L2, rfl, h1, h2, rfl⟩ := hs
  obtain ⟨hn1, hn2, hn3⟩ := List.nodup_append.1 hnd
  have hk1 : (mkL g.sorts k).2 ≤ 4611686018427380000 := by
    have : (g.mk0 k).2 = (mkL g.ops (mkL g.sorts k).2).2 := rfl
    have h3 := mkL_ge g.ops (mkL g.sorts k).2
    omega
  have a1 := h1.okv
  have a2 := h1.loc
  have a3 := h1.cells
  have b1 := h2.okv
  have b2 := h2.loc
  have b3 := h2.cells
  repeat (first | (refine W_reg rfl fun G K hG hK => ?_; simp (disch := omega) only [go_sem, ↓reduceIte, Nat.reduceEqDiff, Nat.reduceAdd, Nat.reduceLeDiff, hG, a1, a2, a3, b1, b2, b3]; refine hK _ _ ?_; clear hK K hG G) | (refine W_end rfl fun G K hG hK => ?_; simp (disch := omega) only [go_sem, ↓reduceIte, Nat.reduceEqDiff, Nat.reduceAdd, Nat.reduceLeDiff, hG, a1, a2, a3, b1, b2, b3]; refine hK _ _ ?_; clear hK K hG G; repeat (first | refine thenI ?_ | refine thenE ?_ | refine thenR ?_ | refine inBI ?_ | refine inBR ?_ | refine inBS ?_ | refine inBN (by decide) ?_)) | refine W_seqS ?_ | refine W_seqC ?_ | refine W_seqB ?_ | refine W_block ?_ | (refine W_skip ?_; repeat (first | refine thenI ?_ | refine thenE ?_ | refine thenR ?_ | refine inBI ?_ | refine inBR ?_ | refine inBS ?_ | refine inBN (by decide) ?_)) | (refine W_condT ?hc ?_; (case hc => (simp (disch := omega) only [go_sem, ↓reduceIte, Nat.reduceEqDiff, Nat.reduceAdd, Nat.reduceLeDiff, a1, a2, a3, b1, b2, b3]; done))) | (refine W_condF ?hc ?_; (case hc => (simp (disch := omega) only [go_sem, ↓reduceIte, Nat.reduceEqDiff, Nat.reduceAdd, Nat.reduceLeDiff, a1, a2, a3, b1, b2, b3]; done))))
  (repeat (first | refine W_seqS ?_ | refine W_seqC ?_ | refine W_seqB ?_ | refine W_block ?_)); refine W_reg rfl fun G K hG hK => ?_; simp (disch := omega) only [go_sem, ↓reduceIte, Nat.reduceEqDiff, Nat.reduceAdd, Nat.reduceLeDiff, hG, a1, a2, a3, b1, b2, b3]
  refine w_call (markStringS_ok g.sorts st s L1 k hl.1 hk1 h1 hn1) (by simp (disch := omega) only [go_sem, ↓reduceIte, Nat.reduceEqDiff, a1, a2, a3, b1, b2, b3]) ?hl ?_
  case hl => first | rfl | (simp only [go_sem, List.all_cons, List.all_nil, Bool.not_false, Bool.and_self, a1, a2, a3, b1, b2, b3]; done)
  rintro r_ sa ⟨rfl, p1, g1, o1⟩; refine ⟨fun e => (by cases e), ?_⟩
  simp (disch := omega) only [go_sem, ↓reduceIte, Nat.reduceEqDiff, Nat.reduceAdd, Nat.reduceLeDiff, hG, a1, a2, a3, b1, b2, b3]; refine hK _ _ ?_; clear hK K hG G; repeat (first | refine thenI ?_ | refine thenE ?_ | refine thenR ?_ | refine inBI ?_ | refine inBR ?_ | refine inBS ?_ | refine inBN (by decide) ?_)
  have h2' := h2.other o1 fun i hi hk => hn3 i hk i hi rfl
  (repeat (first | refine W_seqS ?_ | refine W_seqC ?_ | refine W_seqB ?_ | refine W_block ?_)); refine W_reg rfl fun G K hG hK => ?_; simp (disch := omega) only [go_sem, ↓reduceIte, Nat.reduceEqDiff, Nat.reduceAdd, Nat.reduceLeDiff, hG, a1, a2, a3, b1, b2, b3]
  refine w_call (markOpS_ok g.ops sa u L2 (mkL g.sorts k).2 hl.2.1 hl.2.2 hk h2' hn2) (by simp (disch := omega) only [go_sem, ↓reduceIte, Nat.reduceEqDiff, a1, a2, a3, b1, b2, b3]) ?hl ?_
  case hl => first | rfl | (simp only [go_sem, List.all_cons, List.all_nil, Bool.not_false, Bool.and_self, a1, a2, a3, b1, b2, b3]; done)
  rintro r_ sb ⟨rfl, p2, g2, o2⟩; refine ⟨fun e => (by cases e), ?_⟩
  simp (disch := omega) only [go_sem, ↓reduceIte, Nat.reduceEqDiff, Nat.reduceAdd, Nat.reduceLeDiff, hG, a1, a2, a3, b1, b2, b3]; refine hK _ _ ?_; clear hK K hG G; repeat (first | refine thenI ?_ | refine thenE ?_ | refine thenR ?_ | refine inBI ?_ | refine inBR ?_ | refine inBS ?_ | refine inBN (by decide) ?_)
  repeat (first | (refine W_reg rfl fun G K hG hK => ?_; simp (disch := omega) only [go_sem, ↓reduceIte, Nat.reduceEqDiff, Nat.reduceAdd, Nat.reduceLeDiff, hG, a1, a2, a3, b1, b2, b3]; refine hK _ _ ?_; clear hK K hG G) | (refine W_end rfl fun G K hG hK => ?_; simp (disch := omega) only [go_sem, ↓reduceIte, Nat.reduceEqDiff, Nat.reduceAdd, Nat.reduceLeDiff, hG, a1, a2, a3, b1, b2, b3]; refine hK _ _ ?_; clear hK K hG G; repeat (first | refine thenI ?_ | refine thenE ?_ | refine thenR ?_ | refine inBI ?_ | refine inBR ?_ | refine inBS ?_ | refine inBN (by decide) ?_)) | refine W_seqS ?_ | refine W_seqC ?_ | refine W_seqB ?_ | refine W_block ?_ | (refine W_skip ?_; repeat (first | refine thenI ?_ | refine thenE ?_ | refine thenR ?_ | refine inBI ?_ | refine inBR ?_ | refine inBS ?_ | refine inBN (by decide) ?_)) | (refine W_condT ?hc ?_; (case hc => (simp (disch := omega) only [go_sem, ↓reduceIte, Nat.reduceEqDiff, Nat.reduceAdd, Nat.reduceLeDiff, a1, a2, a3, b1, b2, b3]; done))) | (refine W_condF ?hc ?_; (case hc => (simp (disch := omega) only [go_sem, ↓reduceIte, Nat.reduceEqDiff, Nat.reduceAdd, Nat.reduceLeDiff, a1, a2, a3, b1, b2, b3]; done))))
  refine W_ret ?_; try (repeat (first | refine thenI ?_ | refine thenE ?_ | refine thenR ?_ | refine inBI ?_ | refine inBR ?_ | refine inBS ?_ | refine inBN (by decide) ?_))
  refine fin1 (.inl rfl) (by (simp (disch := omega) only [go_sem, ↓reduceIte, Nat.reduceEqDiff, Nat.reduceAdd, Nat.reduceLeDiff, a1, a2, a3, b1, b2, b3]); try rfl) rfl ⟨rfl, ⟨_, _, L1, L2, rfl, p1.other o2 fun i hi hk => hn3 i hi i hk rfl, p2, rfl⟩, by omega, fun i hi hni => ?_⟩
  rw [o2 i (by omega) (fun h => hni (by simp [h])), o1 i hi (fun h => hni (by simp [h]))]
end Go.Proofs.Ytbenknjfncmbdaa.AM


/- slices.Clone. -/
namespace Go.Proofs.Ytbenknjfncmbdaa.AM
open Go Go.Proofs
set_option linter.unusedVariables false
set_option linter.unusedSimpArgs false
set_option maxRecDepth 100000
attribute [local go_sem] List.map_cons List.map_nil List.all_cons List.all_nil Bool.and_self Option.map_some List.getElem?_toArray Option.bind_some gye_b gye_t gsk_b gsk_t gb1 gb2 gb3 gb4 bne_self_eq_false beq_self_eq_true w_guard w_nil stepV_some step_some step_some' w_move w_assign w_pick w_binOp w_unOp w_load w_fieldAddr w_indexAddr w_len w_max w_index ev_max max_int ev_index w_box w_alloc w_store w_field w_extract w_nilCheck w_convert w_buildSlice w_build ev_buildL fillL_nil fillL_cons bs0 bs1 ev_conv ev_bin ev_un ev_pick ev_load ev_fieldAddr ev_indexAddr ev_len ev_field ev_extract ev_nilCheck fr_tmp fr_int fr_bool fr_str fr_nil fr_func put_some put_none bin_lss bin_leq bin_gtr bin_geq bin_eql bin_neq bin_add bin_sub bin_mul bin_seql bin_sneq un_not pick_ ext_ loadA_p cellAt_l cellAt_h okPtr_l okPtr_h fadA_p allocA_l storeA_l cells_agg cells_int cells_str cells_sl cells_bool flat_i flat_s flat_b flat_sl flat_nil loc_agg loc_int loc_str loc_sl loc_bool loc_fn loc_ptr okv_agg okv_int okv_str okv_sl okv_bool cellsFrom splice upd_eval argEnv_zero argEnv_succ ne_eq Nat.add_one_ne_zero not_false_eq_true List.not_mem_nil and_self decide_true List.getElem?_cons_zero List.getElem?_cons_succ List.size_toArray List.length_cons List.length_nil List.take_succ_cons List.take_zero List.drop_succ_cons List.drop_zero List.cons_append List.nil_append List.drop_nil Bool.not_true Bool.not_false Bool.false_eq_true Nat.zero_add Nat.add_zero wrap_in List.toList_toArray List.mem_cons or_self or_false false_or
attribute [local go_sem] ag22 ag23 ag25 ag26 ag28 ag3 ag34 ag36 ag38 ag40 ag59 ag68 ag69 ag9 bu59 bu69 by40 by59 by69 by9 el22 el23 el26 el31 el34 el38 el75 of25_0 of25_1 of28_0 of28_1 of28_2 of28_3 of36_0 of36_1 of40_0 of40_1 of40_2 of40_3 of59_0 of59_1 of68_0 of68_1 of68_2 of69_0 of69_1 of69_2 ro5_1 ro59_0 ro59_1 ro9_0 ro9_2 sz22 sz23 sz25 sz26 sz28 sz3 sz34 sz36 sz38 sz40 sz5 sz59 sz68 sz69 sz9 ze36 ze40 ze59 ze69 ze9
-- AUTO

theorem cloneS_ok (xs : List ByteArray) (st : St) (s : Value) (hbig : xs.length ≤ 1099511627776) (hr : Rw st xs s) :
    CallS Try.prog 44 [s] st fun r st2 => Ext st st2 ∧ ∃ L, Sl st2 xs r L ∧ Fresh st.length L := by
  refine CallS_of_W [] 8 Try.func44 rfl rfl rfl rfl (by simp) ?_
  obtain ⟨b, hb, hb2⟩ := row_nil hr Try.underlying22
  have n1 := hr.notLoc.1
  cases b with
  | true =>
    obtain ⟨rfl, rfl⟩ := hb2 rfl
    repeat (first | (refine W_reg rfl fun G K hG hK => ?_; simp (disch := omega) only [go_sem, ↓reduceIte, Nat.reduceEqDiff, Nat.reduceAdd, Nat.reduceLeDiff, hG, hb]; refine hK _ _ ?_; clear hK K hG G) | (refine W_end rfl fun G K hG hK => ?_; simp (disch := omega) only [go_sem, ↓reduceIte, Nat.reduceEqDiff, Nat.reduceAdd, Nat.reduceLeDiff, hG, hb]; refine hK _ _ ?_; clear hK K hG G; repeat (first | refine thenI ?_ | refine thenE ?_ | refine thenR ?_ | refine inBI ?_ | refine inBR ?_ | refine inBS ?_ | refine inBN (by decide) ?_)) | refine W_seqS ?_ | refine W_seqC ?_ | refine W_seqB ?_ | refine W_block ?_ | (refine W_skip ?_; repeat (first | refine thenI ?_ | refine thenE ?_ | refine thenR ?_ | refine inBI ?_ | refine inBR ?_ | refine inBS ?_ | refine inBN (by decide) ?_)) | (refine W_condT ?hc ?_; (case hc => (simp (disch := omega) only [go_sem, ↓reduceIte, Nat.reduceEqDiff, Nat.reduceAdd, Nat.reduceLeDiff, hb]; done))) | (refine W_condF ?hc ?_; (case hc => (simp (disch := omega) only [go_sem, ↓reduceIte, Nat.reduceEqDiff, Nat.reduceAdd, Nat.reduceLeDiff, hb]; done))))
    refine W_ret ?_; try (repeat (first | refine thenI ?_ | refine thenE ?_ | refine thenR ?_ | refine inBI ?_ | refine inBR ?_ | refine inBS ?_ | refine inBN (by decide) ?_))
    refine fin1 (.inl rfl) (by (simp (disch := omega) only [go_sem, ↓reduceIte, Nat.reduceEqDiff, Nat.reduceAdd, Nat.reduceLeDiff]); try rfl) rfl ⟨Ext.refl _, [], Sl.nil _, .nil _⟩
  | false =>
    obtain ⟨s', st', L', hap, hs', hf', hx', _⟩ := Sl.freshRow (t := 22) (u := 22) Try.underlying22 Try.underlying22 sz9 rfl by9 ze9 rfl hr (by omega) (by omega)
    have hap : appendA Try.prog 22 22 (.slice (some ⟨st.length, 0, none⟩) 0 0) s (st ++ [⟨[], 9, 0⟩]) = some (s', st') := hap
    repeat (first | (refine W_reg rfl fun G K hG hK => ?_; simp (disch := omega) only [go_sem, ↓reduceIte, Nat.reduceEqDiff, Nat.reduceAdd, Nat.reduceLeDiff, hG, hb]; refine hK _ _ ?_; clear hK K hG G) | (refine W_end rfl fun G K hG hK => ?_; simp (disch := omega) only [go_sem, ↓reduceIte, Nat.reduceEqDiff, Nat.reduceAdd, Nat.reduceLeDiff, hG, hb]; refine hK _ _ ?_; clear hK K hG G; repeat (first | refine thenI ?_ | refine thenE ?_ | refine thenR ?_ | refine inBI ?_ | refine inBR ?_ | refine inBS ?_ | refine inBN (by decide) ?_)) | refine W_seqS ?_ | refine W_seqC ?_ | refine W_seqB ?_ | refine W_block ?_ | (refine W_skip ?_; repeat (first | refine thenI ?_ | refine thenE ?_ | refine thenR ?_ | refine inBI ?_ | refine inBR ?_ | refine inBS ?_ | refine inBN (by decide) ?_)) | (refine W_condT ?hc ?_; (case hc => (simp (disch := omega) only [go_sem, ↓reduceIte, Nat.reduceEqDiff, Nat.reduceAdd, Nat.reduceLeDiff, hb]; done))) | (refine W_condF ?hc ?_; (case hc => (simp (disch := omega) only [go_sem, ↓reduceIte, Nat.reduceEqDiff, Nat.reduceAdd, Nat.reduceLeDiff, hb]; done))))
    repeat (first | (refine W_reg rfl fun G K hG hK => ?_; simp (disch := omega) only [go_sem, ↓reduceIte, Nat.reduceEqDiff, Nat.reduceAdd, Nat.reduceLeDiff, hG, w_append, hap]; refine hK _ _ ?_; clear hK K hG G) | (refine W_end rfl fun G K hG hK => ?_; simp (disch := omega) only [go_sem, ↓reduceIte, Nat.reduceEqDiff, Nat.reduceAdd, Nat.reduceLeDiff, hG, w_append, hap]; refine hK _ _ ?_; clear hK K hG G; repeat (first | refine thenI ?_ | refine thenE ?_ | refine thenR ?_ | refine inBI ?_ | refine inBR ?_ | refine inBS ?_ | refine inBN (by decide) ?_)) | refine W_seqS ?_ | refine W_seqC ?_ | refine W_seqB ?_ | refine W_block ?_ | (refine W_skip ?_; repeat (first | refine thenI ?_ | refine thenE ?_ | refine thenR ?_ | refine inBI ?_ | refine inBR ?_ | refine inBS ?_ | refine inBN (by decide) ?_)) | (refine W_condT ?hc ?_; (case hc => (simp (disch := omega) only [go_sem, ↓reduceIte, Nat.reduceEqDiff, Nat.reduceAdd, Nat.reduceLeDiff, w_append, hap]; done))) | (refine W_condF ?hc ?_; (case hc => (simp (disch := omega) only [go_sem, ↓reduceIte, Nat.reduceEqDiff, Nat.reduceAdd, Nat.reduceLeDiff, w_append, hap]; done))))
    refine W_ret ?_; try (repeat (first | refine thenI ?_ | refine thenE ?_ | refine thenR ?_ | refine inBI ?_ | refine inBR ?_ | refine inBS ?_ | refine inBN (by decide) ?_))
    refine fin1 (.inl rfl) (by (simp (disch := omega) only [go_sem, ↓reduceIte, Nat.reduceEqDiff, Nat.reduceAdd, Nat.reduceLeDiff]); try rfl) hs'.loc ⟨hx', L', hs', hf'⟩
end Go.Proofs.Ytbenknjfncmbdaa.AM


/- A tree behind a row of one's own. -/
namespace Go.Proofs.Ytbenknjfncmbdaa.AM
open Go Go.Proofs
set_option linter.unusedVariables false
set_option linter.unusedSimpArgs false
set_option maxRecDepth 100000
attribute [local go_sem] List.map_cons List.map_nil List.all_cons List.all_nil Bool.and_self Option.map_some List.getElem?_toArray Option.bind_some gye_b gye_t gsk_b gsk_t gb1 gb2 gb3 gb4 bne_self_eq_false beq_self_eq_true w_guard w_nil stepV_some step_some step_some' w_move w_assign w_pick w_binOp w_unOp w_load w_fieldAddr w_indexAddr w_len w_max w_index ev_max max_int ev_index w_box w_alloc w_store w_field w_extract w_nilCheck w_convert w_buildSlice w_build ev_buildL fillL_nil fillL_cons bs0 bs1 ev_conv ev_bin ev_un ev_pick ev_load ev_fieldAddr ev_indexAddr ev_len ev_field ev_extract ev_nilCheck fr_tmp fr_int fr_bool fr_str fr_nil fr_func put_some put_none bin_lss bin_leq bin_gtr bin_geq bin_eql bin_neq bin_add bin_sub bin_mul bin_seql bin_sneq un_not pick_ ext_ loadA_p cellAt_l cellAt_h okPtr_l okPtr_h fadA_p allocA_l storeA_l cells_agg cells_int cells_str cells_sl cells_bool flat_i flat_s flat_b flat_sl flat_nil loc_agg loc_int loc_str loc_sl loc_bool loc_fn loc_ptr okv_agg okv_int okv_str okv_sl okv_bool cellsFrom splice upd_eval argEnv_zero argEnv_succ ne_eq Nat.add_one_ne_zero not_false_eq_true List.not_mem_nil and_self decide_true List.getElem?_cons_zero List.getElem?_cons_succ List.size_toArray List.length_cons List.length_nil List.take_succ_cons List.take_zero List.drop_succ_cons List.drop_zero List.cons_append List.nil_append List.drop_nil Bool.not_true Bool.not_false Bool.false_eq_true Nat.zero_add Nat.add_zero wrap_in List.toList_toArray List.mem_cons or_self or_false false_or
attribute [local go_sem] ag22 ag23 ag25 ag26 ag28 ag3 ag34 ag36 ag38 ag40 ag59 ag68 ag69 ag9 bu59 bu69 by40 by59 by69 by9 el22 el23 el26 el31 el34 el38 el75 of25_0 of25_1 of28_0 of28_1 of28_2 of28_3 of36_0 of36_1 of40_0 of40_1 of40_2 of40_3 of59_0 of59_1 of68_0 of68_1 of68_2 of69_0 of69_1 of69_2 ro5_1 ro59_0 ro59_1 ro9_0 ro9_2 sz22 sz23 sz25 sz26 sz28 sz3 sz34 sz36 sz38 sz40 sz5 sz59 sz68 sz69 sz9 ze36 ze40 ze59 ze69 ze9

/-- Every name is short. -/
inductive LimN (B : Nat) : T → Prop
  | mk (k n : Int) (nm : ByteArray) (args : List T) (h : nm.size ≤ B) (hs : ∀ a ∈ args, LimN B a) : LimN B (.mk k n nm args)
theorem LimN.of_wt {B : Nat} : ∀ t : T, t.wt ≤ B → LimN B t := by
  refine T.ind fun k n nm args ih h => ?_
  simp only [T.wt] at h
  exact .mk k n nm args (by omega) fun a ha => ih a ha (by have := T.wt_mem ha; omega)
theorem LimN.args {B : Nat} {k n : Int} {nm : ByteArray} {args : List T} (h : LimN B (.mk k n nm args)) : nm.size ≤ B ∧ ∀ a ∈ args, LimN B a := by cases h; exact ⟨by assumption, by assumption⟩

/-- A tree is put behind a row of one's own. -/
theorem Own.step {n0 : Nat} {st st2 : St} {xs : List T} {s : Value} {L : List Nat} {x : T} {cx : List Value} {Lx : List Nat} (h : SliceO (Own 40 st) 40 st xs s L) (hf : Fresh n0 L) (hn0 : n0 ≤ st.length) (hext : Ext st st2)
    (hx : Own 40 st2 x cx Lx) (hfx : Fresh st.length Lx) (hb : xs.length + 1 ≤ 1099511627776) :
    ∃ s' st' L', appendA Try.prog 38 38 s (.slice (some ⟨st2.length, 0, none⟩) 1 1) (st2 ++ [⟨cx, 40, 0⟩]) = some (s', st') ∧ SliceO (Own 40 st') 40 st' (xs ++ [x]) s' L' ∧ Fresh n0 L' ∧ st2.length ≤ st'.length ∧ (∀ i, i < n0 → st'[i]? = st2[i]?) :=
  SliceO.step (fun _ _ => Own.frame) (fun _ => Own.lt) (fun _ => Own.len) Try.underlying38 sz40 by40 ze40 rfl h hf hn0 hext hx hfx (by omega) (by omega)

end Go.Proofs.Ytbenknjfncmbdaa.AM


/- Words: spec.l1In, the built-in operators, the tests for words, their operations. -/
namespace Go.Proofs.Ytbenknjfncmbdaa.AM
open Go Go.Proofs
set_option linter.unusedVariables false
set_option linter.unusedSimpArgs false
set_option maxRecDepth 100000
attribute [local go_sem] List.map_cons List.map_nil List.all_cons List.all_nil Bool.and_self Option.map_some List.getElem?_toArray Option.bind_some gye_b gye_t gsk_b gsk_t gb1 gb2 gb3 gb4 bne_self_eq_false beq_self_eq_true w_guard w_nil stepV_some step_some step_some' w_move w_assign w_pick w_binOp w_unOp w_load w_fieldAddr w_indexAddr w_len w_max w_index ev_max max_int ev_index w_box w_alloc w_store w_field w_extract w_nilCheck w_convert w_buildSlice w_build ev_buildL fillL_nil fillL_cons bs0 bs1 ev_conv ev_bin ev_un ev_pick ev_load ev_fieldAddr ev_indexAddr ev_len ev_field ev_extract ev_nilCheck fr_tmp fr_int fr_bool fr_str fr_nil fr_func put_some put_none bin_lss bin_leq bin_gtr bin_geq bin_eql bin_neq bin_add bin_sub bin_mul bin_seql bin_sneq un_not pick_ ext_ loadA_p cellAt_l cellAt_h okPtr_l okPtr_h fadA_p allocA_l storeA_l cells_agg cells_int cells_str cells_sl cells_bool flat_i flat_s flat_b flat_sl flat_nil loc_agg loc_int loc_str loc_sl loc_bool loc_fn loc_ptr okv_agg okv_int okv_str okv_sl okv_bool cellsFrom splice upd_eval argEnv_zero argEnv_succ ne_eq Nat.add_one_ne_zero not_false_eq_true List.not_mem_nil and_self decide_true List.getElem?_cons_zero List.getElem?_cons_succ List.size_toArray List.length_cons List.length_nil List.take_succ_cons List.take_zero List.drop_succ_cons List.drop_zero List.cons_append List.nil_append List.drop_nil Bool.not_true Bool.not_false Bool.false_eq_true Nat.zero_add Nat.add_zero wrap_in List.toList_toArray List.mem_cons or_self or_false false_or
attribute [local go_sem] ag22 ag23 ag25 ag26 ag28 ag3 ag34 ag36 ag38 ag40 ag59 ag68 ag69 ag9 bu59 bu69 by40 by59 by69 by9 el22 el23 el26 el31 el34 el38 el75 of25_0 of25_1 of28_0 of28_1 of28_2 of28_3 of36_0 of36_1 of40_0 of40_1 of40_2 of40_3 of59_0 of59_1 of68_0 of68_1 of68_2 of69_0 of69_1 of69_2 ro5_1 ro59_0 ro59_1 ro9_0 ro9_2 sz22 sz23 sz25 sz26 sz28 sz3 sz34 sz36 sz38 sz40 sz5 sz59 sz68 sz69 sz9 ze36 ze40 ze59 ze69 ze9

def plusB : ByteArray := ⟨#[112, 108, 117, 115]⟩
def minusB : ByteArray := ⟨#[109, 105, 110, 117, 115]⟩
def timesB : ByteArray := ⟨#[116, 105, 109, 101, 115]⟩
def isB (s : ByteArray) : Bool := s.toList == plusB.toList || (s.toList == minusB.toList || s.toList == timesB.toList)
theorem specIsB_ok (s : ByteArray) (st : St) : CallS Try.prog 41 [.string s] st fun r st' => r = .bool (isB s) ∧ st' = st := by
  refine CallS_of_W [] 13 Try.func41 rfl rfl rfl rfl (by simp) ?_
  unfold isB plusB minusB timesB
  cases h1 : (s.toList == (⟨#[112, 108, 117, 115]⟩ : ByteArray).toList) with
  | true =>
    repeat (first | (refine W_reg rfl fun G K hG hK => ?_; simp (disch := omega) only [go_sem, ↓reduceIte, Nat.reduceEqDiff, Nat.reduceAdd, Nat.reduceLeDiff, hG, h1]; refine hK _ _ ?_; clear hK K hG G) | (refine W_end rfl fun G K hG hK => ?_; simp (disch := omega) only [go_sem, ↓reduceIte, Nat.reduceEqDiff, Nat.reduceAdd, Nat.reduceLeDiff, hG, h1]; refine hK _ _ ?_; clear hK K hG G; repeat (first | refine thenI ?_ | refine thenE ?_ | refine thenR ?_ | refine inBI ?_ | refine inBR ?_ | refine inBS ?_ | refine inBN (by decide) ?_)) | refine W_seqS ?_ | refine W_seqC ?_ | refine W_seqB ?_ | refine W_block ?_ | (refine W_skip ?_; repeat (first | refine thenI ?_ | refine thenE ?_ | refine thenR ?_ | refine inBI ?_ | refine inBR ?_ | refine inBS ?_ | refine inBN (by decide) ?_)) | (refine W_condT ?hc ?_; (case hc => (simp (disch := omega) only [go_sem, ↓reduceIte, Nat.reduceEqDiff, Nat.reduceAdd, Nat.reduceLeDiff, h1]; done))) | (refine W_condF ?hc ?_; (case hc => (simp (disch := omega) only [go_sem, ↓reduceIte, Nat.reduceEqDiff, Nat.reduceAdd, Nat.reduceLeDiff, h1]; done))))
    refine W_ret ?_; try (repeat (first | refine thenI ?_ | refine thenE ?_ | refine thenR ?_ | refine inBI ?_ | refine inBR ?_ | refine inBS ?_ | refine inBN (by decide) ?_))
    refine fin1 (.inl rfl) (by (simp (disch := omega) only [go_sem, ↓reduceIte, Nat.reduceEqDiff, Nat.reduceAdd, Nat.reduceLeDiff]); try rfl) rfl ⟨rfl, rfl⟩
  | false =>
    cases h2 : (s.toList == (⟨#[109, 105, 110, 117, 115]⟩ : ByteArray).toList) with
    | true =>
      repeat (first | (refine W_reg rfl fun G K hG hK => ?_; simp (disch := omega) only [go_sem, ↓reduceIte, Nat.reduceEqDiff, Nat.reduceAdd, Nat.reduceLeDiff, hG, h1, h2]; refine hK _ _ ?_; clear hK K hG G) | (refine W_end rfl fun G K hG hK => ?_; simp (disch := omega) only [go_sem, ↓reduceIte, Nat.reduceEqDiff, Nat.reduceAdd, Nat.reduceLeDiff, hG, h1, h2]; refine hK _ _ ?_; clear hK K hG G; repeat (first | refine thenI ?_ | refine thenE ?_ | refine thenR ?_ | refine inBI ?_ | refine inBR ?_ | refine inBS ?_ | refine inBN (by decide) ?_)) | refine W_seqS ?_ | refine W_seqC ?_ | refine W_seqB ?_ | refine W_block ?_ | (refine W_skip ?_; repeat (first | refine thenI ?_ | refine thenE ?_ | refine thenR ?_ | refine inBI ?_ | refine inBR ?_ | refine inBS ?_ | refine inBN (by decide) ?_)) | (refine W_condT ?hc ?_; (case hc => (simp (disch := omega) only [go_sem, ↓reduceIte, Nat.reduceEqDiff, Nat.reduceAdd, Nat.reduceLeDiff, h1, h2]; done))) | (refine W_condF ?hc ?_; (case hc => (simp (disch := omega) only [go_sem, ↓reduceIte, Nat.reduceEqDiff, Nat.reduceAdd, Nat.reduceLeDiff, h1, h2]; done))))
      refine W_ret ?_; try (repeat (first | refine thenI ?_ | refine thenE ?_ | refine thenR ?_ | refine inBI ?_ | refine inBR ?_ | refine inBS ?_ | refine inBN (by decide) ?_))
      refine fin1 (.inl rfl) (by (simp (disch := omega) only [go_sem, ↓reduceIte, Nat.reduceEqDiff, Nat.reduceAdd, Nat.reduceLeDiff]); try rfl) rfl ⟨rfl, rfl⟩
    | false =>
      repeat (first | (refine W_reg rfl fun G K hG hK => ?_; simp (disch := omega) only [go_sem, ↓reduceIte, Nat.reduceEqDiff, Nat.reduceAdd, Nat.reduceLeDiff, hG, h1, h2]; refine hK _ _ ?_; clear hK K hG G) | (refine W_end rfl fun G K hG hK => ?_; simp (disch := omega) only [go_sem, ↓reduceIte, Nat.reduceEqDiff, Nat.reduceAdd, Nat.reduceLeDiff, hG, h1, h2]; refine hK _ _ ?_; clear hK K hG G; repeat (first | refine thenI ?_ | refine thenE ?_ | refine thenR ?_ | refine inBI ?_ | refine inBR ?_ | refine inBS ?_ | refine inBN (by decide) ?_)) | refine W_seqS ?_ | refine W_seqC ?_ | refine W_seqB ?_ | refine W_block ?_ | (refine W_skip ?_; repeat (first | refine thenI ?_ | refine thenE ?_ | refine thenR ?_ | refine inBI ?_ | refine inBR ?_ | refine inBS ?_ | refine inBN (by decide) ?_)) | (refine W_condT ?hc ?_; (case hc => (simp (disch := omega) only [go_sem, ↓reduceIte, Nat.reduceEqDiff, Nat.reduceAdd, Nat.reduceLeDiff, h1, h2]; done))) | (refine W_condF ?hc ?_; (case hc => (simp (disch := omega) only [go_sem, ↓reduceIte, Nat.reduceEqDiff, Nat.reduceAdd, Nat.reduceLeDiff, h1, h2]; done))))
      refine W_ret ?_; try (repeat (first | refine thenI ?_ | refine thenE ?_ | refine thenR ?_ | refine inBI ?_ | refine inBR ?_ | refine inBS ?_ | refine inBN (by decide) ?_))
      refine fin1 (.inl rfl) (by (simp (disch := omega) only [go_sem, ↓reduceIte, Nat.reduceEqDiff, Nat.reduceAdd, Nat.reduceLeDiff]); try rfl) rfl ⟨rfl, rfl⟩
theorem implIsB_ok (s : ByteArray) (st : St) : CallS Try.prog 42 [.string s] st fun r st' => r = .bool (isB s) ∧ st' = st := by
  refine CallS_of_W [] 13 Try.func42 rfl rfl rfl rfl (by simp) ?_
  unfold isB plusB minusB timesB
  cases h1 : (s.toList == (⟨#[112, 108, 117, 115]⟩ : ByteArray).toList) with
  | true =>
    repeat (first | (refine W_reg rfl fun G K hG hK => ?_; simp (disch := omega) only [go_sem, ↓reduceIte, Nat.reduceEqDiff, Nat.reduceAdd, Nat.reduceLeDiff, hG, h1]; refine hK _ _ ?_; clear hK K hG G) | (refine W_end rfl fun G K hG hK => ?_; simp (disch := omega) only [go_sem, ↓reduceIte, Nat.reduceEqDiff, Nat.reduceAdd, Nat.reduceLeDiff, hG, h1]; refine hK _ _ ?_; clear hK K hG G; repeat (first | refine thenI ?_ | refine thenE ?_ | refine thenR ?_ | refine inBI ?_ | refine inBR ?_ | refine inBS ?_ | refine inBN (by decide) ?_)) | refine W_seqS ?_ | refine W_seqC ?_ | refine W_seqB ?_ | refine W_block ?_ | (refine W_skip ?_; repeat (first | refine thenI ?_ | refine thenE ?_ | refine thenR ?_ | refine inBI ?_ | refine inBR ?_ | refine inBS ?_ | refine inBN (by decide) ?_)) | (refine W_condT ?hc ?_; (case hc => (simp (disch := omega) only [go_sem, ↓reduceIte, Nat.reduceEqDiff, Nat.reduceAdd, Nat.reduceLeDiff, h1]; done))) | (refine W_condF ?hc ?_; (case hc => (simp (disch := omega) only [go_sem, ↓reduceIte, Nat.reduceEqDiff, Nat.reduceAdd, Nat.reduceLeDiff, h1]; done))))
    refine W_ret ?_; try (repeat (first | refine thenI ?_ | refine thenE ?_ | refine thenR ?_ | refine inBI ?_ | refine inBR ?_ | refine inBS ?_ | refine inBN (by decide) ?_))
    refine fin1 (.inl rfl) (by (simp (disch := omega) only [go_sem, ↓reduceIte, Nat.reduceEqDiff, Nat.reduceAdd, Nat.reduceLeDiff]); try rfl) rfl ⟨rfl, rfl⟩
  | false =>
    cases h2 : (s.toList == (⟨#[109, 105, 110, 117, 115]⟩ : ByteArray).toList) with
    | true =>
      repeat (first | (refine W_reg rfl fun G K hG hK => ?_; simp (disch := omega) only [go_sem, ↓reduceIte, Nat.reduceEqDiff, Nat.reduceAdd, Nat.reduceLeDiff, hG, h1, h2]; refine hK _ _ ?_; clear hK K hG G) | (refine W_end rfl fun G K hG hK => ?_; simp (disch := omega) only [go_sem, ↓reduceIte, Nat.reduceEqDiff, Nat.reduceAdd, Nat.reduceLeDiff, hG, h1, h2]; refine hK _ _ ?_; clear hK K hG G; repeat (first | refine thenI ?_ | refine thenE ?_ | refine thenR ?_ | refine inBI ?_ | refine inBR ?_ | refine inBS ?_ | refine inBN (by decide) ?_)) | refine W_seqS ?_ | refine W_seqC ?_ | refine W_seqB ?_ | refine W_block ?_ | (refine W_skip ?_; repeat (first | refine thenI ?_ | refine thenE ?_ | refine thenR ?_ | refine inBI ?_ | refine inBR ?_ | refine inBS ?_ | refine inBN (by decide) ?_)) | (refine W_condT ?hc ?_; (case hc => (simp (disch := omega) only [go_sem, ↓reduceIte, Nat.reduceEqDiff, Nat.reduceAdd, Nat.reduceLeDiff, h1, h2]; done))) | (refine W_condF ?hc ?_; (case hc => (simp (disch := omega) only [go_sem, ↓reduceIte, Nat.reduceEqDiff, Nat.reduceAdd, Nat.reduceLeDiff, h1, h2]; done))))
      refine W_ret ?_; try (repeat (first | refine thenI ?_ | refine thenE ?_ | refine thenR ?_ | refine inBI ?_ | refine inBR ?_ | refine inBS ?_ | refine inBN (by decide) ?_))
      refine fin1 (.inl rfl) (by (simp (disch := omega) only [go_sem, ↓reduceIte, Nat.reduceEqDiff, Nat.reduceAdd, Nat.reduceLeDiff]); try rfl) rfl ⟨rfl, rfl⟩
    | false =>
      repeat (first | (refine W_reg rfl fun G K hG hK => ?_; simp (disch := omega) only [go_sem, ↓reduceIte, Nat.reduceEqDiff, Nat.reduceAdd, Nat.reduceLeDiff, hG, h1, h2]; refine hK _ _ ?_; clear hK K hG G) | (refine W_end rfl fun G K hG hK => ?_; simp (disch := omega) only [go_sem, ↓reduceIte, Nat.reduceEqDiff, Nat.reduceAdd, Nat.reduceLeDiff, hG, h1, h2]; refine hK _ _ ?_; clear hK K hG G; repeat (first | refine thenI ?_ | refine thenE ?_ | refine thenR ?_ | refine inBI ?_ | refine inBR ?_ | refine inBS ?_ | refine inBN (by decide) ?_)) | refine W_seqS ?_ | refine W_seqC ?_ | refine W_seqB ?_ | refine W_block ?_ | (refine W_skip ?_; repeat (first | refine thenI ?_ | refine thenE ?_ | refine thenR ?_ | refine inBI ?_ | refine inBR ?_ | refine inBS ?_ | refine inBN (by decide) ?_)) | (refine W_condT ?hc ?_; (case hc => (simp (disch := omega) only [go_sem, ↓reduceIte, Nat.reduceEqDiff, Nat.reduceAdd, Nat.reduceLeDiff, h1, h2]; done))) | (refine W_condF ?hc ?_; (case hc => (simp (disch := omega) only [go_sem, ↓reduceIte, Nat.reduceEqDiff, Nat.reduceAdd, Nat.reduceLeDiff, h1, h2]; done))))
      refine W_ret ?_; try (repeat (first | refine thenI ?_ | refine thenE ?_ | refine thenR ?_ | refine inBI ?_ | refine inBR ?_ | refine inBS ?_ | refine inBN (by decide) ?_))
      refine fin1 (.inl rfl) (by (simp (disch := omega) only [go_sem, ↓reduceIte, Nat.reduceEqDiff, Nat.reduceAdd, Nat.reduceLeDiff]); try rfl) rfl ⟨rfl, rfl⟩

/-- A word: one of the four. -/
def T.isW : T → Bool
  | .mk k n nm args => (k == 3) && (decide (n ≥ 0) && decide (n ≤ 3)) && (nm.toList == (⟨#[]⟩ : ByteArray).toList) && ((args.length : Int) == 0)
def opW (f : ByteArray) (a b : Int) : Int := if (f.toList == plusB.toList) = true then (a + b).tmod 4 else if (f.toList == minusB.toList) = true then (a - b + 4).tmod 4 else (a * b).tmod 4
theorem op_facts : ∀ a b : _root_.Fin 4, ((((a.1 : Int) + b.1).tmod 4 + 4).tmod 4 = ((a.1 : Int) + b.1).tmod 4 ∧ (((a.1 : Int) - b.1).tmod 4 + 4).tmod 4 = ((a.1 : Int) - b.1 + 4).tmod 4 ∧ (((a.1 : Int) * b.1).tmod 4 + 4).tmod 4 = ((a.1 : Int) * b.1).tmod 4 ∧
    IntKind.i64.wrap ((a.1 : Int) + b.1) = (a.1 : Int) + b.1 ∧ IntKind.i64.wrap ((a.1 : Int) - b.1) = (a.1 : Int) - b.1 ∧ IntKind.i64.wrap ((a.1 : Int) * b.1) = (a.1 : Int) * b.1 ∧ IntKind.i64.wrap ((a.1 : Int) - b.1 + 4) = (a.1 : Int) - b.1 + 4 ∧
    IntKind.i64.wrap (((a.1 : Int) + b.1).tmod 4 + 4) = ((a.1 : Int) + b.1).tmod 4 + 4 ∧ IntKind.i64.wrap (((a.1 : Int) - b.1).tmod 4 + 4) = ((a.1 : Int) - b.1).tmod 4 + 4 ∧ IntKind.i64.wrap (((a.1 : Int) * b.1).tmod 4 + 4) = ((a.1 : Int) * b.1).tmod 4 + 4) := by decide +kernel
theorem op_factsI (a b : Int) (ha : 0 ≤ a ∧ a ≤ 3) (hb : 0 ≤ b ∧ b ≤ 3) : (((a + b).tmod 4 + 4).tmod 4 = (a + b).tmod 4 ∧ ((a - b).tmod 4 + 4).tmod 4 = (a - b + 4).tmod 4 ∧ ((a * b).tmod 4 + 4).tmod 4 = (a * b).tmod 4 ∧
    IntKind.i64.wrap (a + b) = a + b ∧ IntKind.i64.wrap (a - b) = a - b ∧ IntKind.i64.wrap (a * b) = a * b ∧ IntKind.i64.wrap (a - b + 4) = a - b + 4 ∧
    IntKind.i64.wrap ((a + b).tmod 4 + 4) = (a + b).tmod 4 + 4 ∧ IntKind.i64.wrap ((a - b).tmod 4 + 4) = (a - b).tmod 4 + 4 ∧ IntKind.i64.wrap ((a * b).tmod 4 + 4) = (a * b).tmod 4 + 4) := by
  have h := op_facts ⟨a.toNat, by omega⟩ ⟨b.toNat, by omega⟩
  have e1 : ((a.toNat : Nat) : Int) = a := by omega
  have e2 : ((b.toNat : Nat) : Int) = b := by omega
  simp only [e1, e2] at h
  exact h
theorem rem4 {k : IntKind} {P : Program} {t : TypeId} {x y : Operand} {a : Int} : binE P .rem t x y (.int k a) (.int k 4) = some (.int k (a.tmod 4)) := bin_rem (by decide)
end Go.Proofs.Ytbenknjfncmbdaa.AM


/- Rows of bytes; the cursor of a draw: spec.l1New, l1Byte, l1Below, l1Once. -/
namespace Go.Proofs.Ytbenknjfncmbdaa.AM
open Go Go.Proofs
set_option linter.unusedVariables false
set_option linter.unusedSimpArgs false
set_option maxRecDepth 100000
attribute [local go_sem] List.map_cons List.map_nil List.all_cons List.all_nil Bool.and_self Option.map_some List.getElem?_toArray Option.bind_some gye_b gye_t gsk_b gsk_t gb1 gb2 gb3 gb4 bne_self_eq_false beq_self_eq_true w_guard w_nil stepV_some step_some step_some' w_move w_assign w_pick w_binOp w_unOp w_load w_fieldAddr w_indexAddr w_len w_max w_index ev_max max_int ev_index w_box w_alloc w_store w_field w_extract w_nilCheck w_convert w_buildSlice w_build ev_buildL fillL_nil fillL_cons bs0 bs1 ev_conv ev_bin ev_un ev_pick ev_load ev_fieldAddr ev_indexAddr ev_len ev_field ev_extract ev_nilCheck fr_tmp fr_int fr_bool fr_str fr_nil fr_func put_some put_none bin_lss bin_leq bin_gtr bin_geq bin_eql bin_neq bin_add bin_sub bin_mul bin_seql bin_sneq un_not pick_ ext_ loadA_p cellAt_l cellAt_h okPtr_l okPtr_h fadA_p allocA_l storeA_l cells_agg cells_int cells_str cells_sl cells_bool flat_i flat_s flat_b flat_sl flat_nil loc_agg loc_int loc_str loc_sl loc_bool loc_fn loc_ptr okv_agg okv_int okv_str okv_sl okv_bool cellsFrom splice upd_eval argEnv_zero argEnv_succ ne_eq Nat.add_one_ne_zero not_false_eq_true List.not_mem_nil and_self decide_true List.getElem?_cons_zero List.getElem?_cons_succ List.size_toArray List.length_cons List.length_nil List.take_succ_cons List.take_zero List.drop_succ_cons List.drop_zero List.cons_append List.nil_append List.drop_nil Bool.not_true Bool.not_false Bool.false_eq_true Nat.zero_add Nat.add_zero wrap_in List.toList_toArray List.mem_cons or_self or_false false_or
attribute [local go_sem] ag22 ag23 ag25 ag26 ag28 ag3 ag34 ag36 ag38 ag40 ag59 ag68 ag69 ag9 bu59 bu69 by40 by59 by69 by9 el22 el23 el26 el31 el34 el38 el75 of25_0 of25_1 of28_0 of28_1 of28_2 of28_3 of36_0 of36_1 of40_0 of40_1 of40_2 of40_3 of59_0 of59_1 of68_0 of68_1 of68_2 of69_0 of69_1 of69_2 ro5_1 ro59_0 ro59_1 ro9_0 ro9_2 sz22 sz23 sz25 sz26 sz28 sz3 sz34 sz36 sz38 sz40 sz5 sz59 sz68 sz69 sz9 ze36 ze40 ze59 ze69 ze9
-- AUTO

/-- A byte of a row. -/
structure Byt where
  v : Int
def EncY (st : St) (b : Byt) (cs : List Value) : Prop := cs = [.int .u8 b.v]
abbrev RowY (st : St) (xs : List Byt) (s : Value) : Prop := Row (EncY st) 1 st xs s
theorem RowY.ext {st st' : St} {xs : List Byt} {s : Value} (h : RowY st xs s) (hx : Ext st st') : RowY st' xs s := Row.mono h hx fun _ _ _ he => he
theorem row_atY {st : St} {xs : List Byt} {s : Value} (h : RowY st xs s) {j : Nat} (hj : j < xs.length) : ∃ i o c, s = .slice (some ⟨i, o, none⟩) xs.length c ∧ cell st i (o + j * 1) = some (.int .u8 xs[j].v) := by
  obtain ⟨i, o, c, cs, rfl, _, hE, hc⟩ := row_at h (List.getElem?_eq_getElem hj)
  have : cs = [.int .u8 xs[j].v] := hE
  subst this
  exact ⟨i, o, c, rfl, hc 0 _ rfl⟩

def andI (a b : Int) : Int := IntKind.i64.wrap (BitVec.ofInt IntKind.i64.bits a &&& BitVec.ofInt IntKind.i64.bits b).toNat
def xorI (a b : Int) : Int := IntKind.i64.wrap (BitVec.ofInt IntKind.i64.bits a ^^^ BitVec.ofInt IntKind.i64.bits b).toNat
section
variable {P : Program} {t : TypeId} {x y : Operand}
theorem bin_and {a b : Int} : binE P .and t x y (.int .i64 a) (.int .i64 b) = some (.int .i64 (andI a b)) := rfl
theorem bin_xor {a b : Int} : binE P .xor t x y (.int .i64 a) (.int .i64 b) = some (.int .i64 (xorI a b)) := rfl
theorem bin_shr33 {a : Int} : binE P .shr t x y (.int .i64 a) (.int .u64 33) = some (.int .i64 (a.fdiv (2 ^ 33))) := rfl
theorem bin_shr45 {a : Int} : binE P .shr t x y (.int .i64 a) (.int .u64 45) = some (.int .i64 (a.fdiv (2 ^ 45))) := rfl
end
theorem and255 (a : Int) : 0 ≤ andI a 255 ∧ andI a 255 ≤ 255 := by
  have h : (BitVec.ofInt IntKind.i64.bits a &&& BitVec.ofInt IntKind.i64.bits 255).toNat ≤ 255 := by
    rw [BitVec.toNat_and]
    exact Nat.le_trans Nat.and_le_right (by decide)
  unfold andI
  generalize (BitVec.ofInt IntKind.i64.bits a &&& BitVec.ofInt IntKind.i64.bits 255).toNat = n at h
  rw [wrap_in (by omega) (by omega)]
  omega

theorem far {xs : List Byt} {sb : Value} {q k : Nat} (h : xs = [] ∨ ∃ b, topId sb = some b ∧ b < q) (hk : q ≤ k) : xs = [] ∨ topId sb ≠ some k := h.imp id fun ⟨b, h1, h2⟩ e => by
  rw [h1] at e; cases e; omega
theorem Away.refl (k : Option Nat) (st : St) : Away k st st := ⟨Nat.le_refl _, fun _ _ _ => rfl⟩
theorem Away.same {k : Option Nat} {a b c : St} (h : Away k a b) (g : Away k b c) : Away k a c := h.trans g (.inl rfl)
theorem row_away {st st' : St} {xs : List Byt} {s : Value} {q : Nat} (h : RowY st xs s) (ha : Away (some q) st st') (hn : xs = [] ∨ topId s ≠ some q) : RowY st' xs s := by
  rcases h with h | ⟨i, o, c, rfl, h⟩
  · exact .inl h
  · refine .inr ⟨i, o, c, rfl, fun j x hx => ?_⟩
    obtain ⟨cs, h1, h2, h3⟩ := h j x hx
    refine ⟨cs, h1, h2, fun k v hv => ?_⟩
    have h4 := h3 k v hv
    rcases hn with rfl | hn
    · simp at hx
    have hi : i < st.length := by
      unfold cell at h4
      rcases Nat.lt_or_ge i st.length with h5 | h5
      · exact h5
      · rw [List.getElem?_eq_none h5] at h4; cases h4
    have h5 := ha.2 i hi (fun e => hn e.symm)
    unfold cell at h4 ⊢
    rw [h5]; exact h4
section
variable {st : St} {q : Nat} {a b c : Value}
theorem cur_cell0 {st : St} {q : Nat} {a b c : Value} {t : TypeId} (h : st[q]? = some ⟨[a, b, c], t, 0⟩) : cell st q 0 = some a := by simp [cell, h]
theorem cur_cell1 {st : St} {q : Nat} {a b c : Value} {t : TypeId} (h : st[q]? = some ⟨[a, b, c], t, 0⟩) : cell st q 1 = some b := by simp [cell, h]
theorem cur_cell2 {st : St} {q : Nat} {a b c : Value} {t : TypeId} (h : st[q]? = some ⟨[a, b, c], t, 0⟩) : cell st q 2 = some c := by simp [cell, h]
theorem cur_set1 {st : St} {q : Nat} {a b c : Value} {t : TypeId} (h : st[q]? = some ⟨[a, b, c], t, 0⟩) (loc : Nat → Nat × List Value) (v : Int) : storeA Try.prog 3 (.pointer (some ⟨q, 1, none⟩)) (.int .i64 v) loc st = some (loc, st.set q ⟨[a, .int .i64 v, c], t, 0⟩) := by
  rw [storeA_h, sz3]
  simp [h, okv_int, cells_int, splice]
theorem cur_set2 {st : St} {q : Nat} {a b c : Value} {t : TypeId} (h : st[q]? = some ⟨[a, b, c], t, 0⟩) (loc : Nat → Nat × List Value) (v : Int) : storeA Try.prog 3 (.pointer (some ⟨q, 2, none⟩)) (.int .i64 v) loc st = some (loc, st.set q ⟨[a, b, .int .i64 v], t, 0⟩) := by
  rw [storeA_h, sz3]
  simp [h, okv_int, cells_int, splice]
end
theorem set_at {st : St} {q : Nat} {b b' : Blk} (h : st[q]? = some b) : (st.set q b')[q]? = some b' := List.getElem?_set_self (List.getElem?_eq_some_iff.1 h).1
theorem set_away {st : St} {q : Nat} {b' : Blk} : Away (some q) st (st.set q b') := ⟨by simp, fun i _ hi => List.getElem?_set_ne (fun e => hi (by rw [e]))⟩

theorem Row.cells1 {α : Type} {E : α → List Value → Prop} {sz : Nat} {st : St} {xs : List α} {s : Value} (h : Row E sz st xs s) : vc s = #[s] := by
  rcases h with ⟨h | h, _⟩ | ⟨i, o, c, rfl, _⟩
  · subst h; rfl
  · subst h; rfl
  · rfl
end Go.Proofs.Ytbenknjfncmbdaa.AM


/- Copies of trees: impl.copyTerm, spec.l3Copy. -/
namespace Go.Proofs.Ytbenknjfncmbdaa.AM
open Go Go.Proofs
set_option linter.unusedVariables false
set_option linter.unusedSimpArgs false
set_option maxRecDepth 100000
attribute [local go_sem] List.map_cons List.map_nil List.all_cons List.all_nil Bool.and_self Option.map_some List.getElem?_toArray Option.bind_some gye_b gye_t gsk_b gsk_t gb1 gb2 gb3 gb4 bne_self_eq_false beq_self_eq_true w_guard w_nil stepV_some step_some step_some' w_move w_assign w_pick w_binOp w_unOp w_load w_fieldAddr w_indexAddr w_len w_max w_index ev_max max_int ev_index w_box w_alloc w_store w_field w_extract w_nilCheck w_convert w_buildSlice w_build ev_buildL fillL_nil fillL_cons bs0 bs1 ev_conv ev_bin ev_un ev_pick ev_load ev_fieldAddr ev_indexAddr ev_len ev_field ev_extract ev_nilCheck fr_tmp fr_int fr_bool fr_str fr_nil fr_func put_some put_none bin_lss bin_leq bin_gtr bin_geq bin_eql bin_neq bin_add bin_sub bin_mul bin_seql bin_sneq un_not pick_ ext_ loadA_p cellAt_l cellAt_h okPtr_l okPtr_h fadA_p allocA_l storeA_l cells_agg cells_int cells_str cells_sl cells_bool flat_i flat_s flat_b flat_sl flat_nil loc_agg loc_int loc_str loc_sl loc_bool loc_fn loc_ptr okv_agg okv_int okv_str okv_sl okv_bool cellsFrom splice upd_eval argEnv_zero argEnv_succ ne_eq Nat.add_one_ne_zero not_false_eq_true List.not_mem_nil and_self decide_true List.getElem?_cons_zero List.getElem?_cons_succ List.size_toArray List.length_cons List.length_nil List.take_succ_cons List.take_zero List.drop_succ_cons List.drop_zero List.cons_append List.nil_append List.drop_nil Bool.not_true Bool.not_false Bool.false_eq_true Nat.zero_add Nat.add_zero wrap_in List.toList_toArray List.mem_cons or_self or_false false_or
attribute [local go_sem] ag22 ag23 ag25 ag26 ag28 ag3 ag34 ag36 ag38 ag40 ag59 ag68 ag69 ag9 bu59 bu69 by40 by59 by69 by9 el22 el23 el26 el31 el34 el38 el75 of25_0 of25_1 of28_0 of28_1 of28_2 of28_3 of36_0 of36_1 of40_0 of40_1 of40_2 of40_3 of59_0 of59_1 of68_0 of68_1 of68_2 of69_0 of69_1 of69_2 ro5_1 ro59_0 ro59_1 ro9_0 ro9_2 sz22 sz23 sz25 sz26 sz28 sz3 sz34 sz36 sz38 sz40 sz5 sz59 sz68 sz69 sz9 ze36 ze40 ze59 ze69 ze9

end Go.Proofs.Ytbenknjfncmbdaa.AM


/- Kinds: bindings. -/
namespace Go.Proofs.Ytbenknjfncmbdaa.AM
open Go
set_option linter.unusedVariables false
set_option linter.unusedSimpArgs false

/-- A binding. -/
structure Bnd where
  nm : ByteArray
  tm : T
def EncB (st : St) (b : Bnd) (cs : List Value) : Prop := ∃ c, cs = .string b.nm :: c ∧ Enc st b.tm c
def OwnB (st : St) (b : Bnd) (cs : List Value) (L : List Nat) : Prop := ∃ c, cs = .string b.nm :: c ∧ Own 40 st b.tm c L
end Go.Proofs.Ytbenknjfncmbdaa.AM


/- Rows of bindings: laws.szBind, szBindS, toBind, toBindS, eqBind, eqBindS, markBindS, heldBindS. -/
namespace Go.Proofs.Ytbenknjfncmbdaa.AM
open Go Go.Proofs
set_option linter.unusedVariables false
set_option linter.unusedSimpArgs false
set_option maxRecDepth 100000
attribute [local go_sem] List.map_cons List.map_nil List.all_cons List.all_nil Bool.and_self Option.map_some List.getElem?_toArray Option.bind_some gye_b gye_t gsk_b gsk_t gb1 gb2 gb3 gb4 bne_self_eq_false beq_self_eq_true w_guard w_nil stepV_some step_some step_some' w_move w_assign w_pick w_binOp w_unOp w_load w_fieldAddr w_indexAddr w_len w_max w_index ev_max max_int ev_index w_box w_alloc w_store w_field w_extract w_nilCheck w_convert w_buildSlice w_build ev_buildL fillL_nil fillL_cons bs0 bs1 ev_conv ev_bin ev_un ev_pick ev_load ev_fieldAddr ev_indexAddr ev_len ev_field ev_extract ev_nilCheck fr_tmp fr_int fr_bool fr_str fr_nil fr_func put_some put_none bin_lss bin_leq bin_gtr bin_geq bin_eql bin_neq bin_add bin_sub bin_mul bin_seql bin_sneq un_not pick_ ext_ loadA_p cellAt_l cellAt_h okPtr_l okPtr_h fadA_p allocA_l storeA_l cells_agg cells_int cells_str cells_sl cells_bool flat_i flat_s flat_b flat_sl flat_nil loc_agg loc_int loc_str loc_sl loc_bool loc_fn loc_ptr okv_agg okv_int okv_str okv_sl okv_bool cellsFrom splice upd_eval argEnv_zero argEnv_succ ne_eq Nat.add_one_ne_zero not_false_eq_true List.not_mem_nil and_self decide_true List.getElem?_cons_zero List.getElem?_cons_succ List.size_toArray List.length_cons List.length_nil List.take_succ_cons List.take_zero List.drop_succ_cons List.drop_zero List.cons_append List.nil_append List.drop_nil Bool.not_true Bool.not_false Bool.false_eq_true Nat.zero_add Nat.add_zero wrap_in List.toList_toArray List.mem_cons or_self or_false false_or
attribute [local go_sem] ag22 ag23 ag25 ag26 ag28 ag3 ag34 ag36 ag38 ag40 ag59 ag68 ag69 ag9 bu59 bu69 by40 by59 by69 by9 el22 el23 el26 el31 el34 el38 el75 of25_0 of25_1 of28_0 of28_1 of28_2 of28_3 of36_0 of36_1 of40_0 of40_1 of40_2 of40_3 of59_0 of59_1 of68_0 of68_1 of68_2 of69_0 of69_1 of69_2 ro5_1 ro59_0 ro59_1 ro9_0 ro9_2 sz22 sz23 sz25 sz26 sz28 sz3 sz34 sz36 sz38 sz40 sz5 sz59 sz68 sz69 sz9 ze36 ze40 ze59 ze69 ze9
-- AUTO

end Go.Proofs.Ytbenknjfncmbdaa.AM


/- Bindings are found and applied: impl.bound, impl.FindBind, spec.l7At, spec.FindBind, impl.ApplySubst, spec.ApplySubst. -/
namespace Go.Proofs.Ytbenknjfncmbdaa.AM
open Go Go.Proofs
set_option linter.unusedVariables false
set_option linter.unusedSimpArgs false
set_option maxRecDepth 100000
attribute [local go_sem] List.map_cons List.map_nil List.all_cons List.all_nil Bool.and_self Option.map_some List.getElem?_toArray Option.bind_some gye_b gye_t gsk_b gsk_t gb1 gb2 gb3 gb4 bne_self_eq_false beq_self_eq_true w_guard w_nil stepV_some step_some step_some' w_move w_assign w_pick w_binOp w_unOp w_load w_fieldAddr w_indexAddr w_len w_max w_index ev_max max_int ev_index w_box w_alloc w_store w_field w_extract w_nilCheck w_convert w_buildSlice w_build ev_buildL fillL_nil fillL_cons bs0 bs1 ev_conv ev_bin ev_un ev_pick ev_load ev_fieldAddr ev_indexAddr ev_len ev_field ev_extract ev_nilCheck fr_tmp fr_int fr_bool fr_str fr_nil fr_func put_some put_none bin_lss bin_leq bin_gtr bin_geq bin_eql bin_neq bin_add bin_sub bin_mul bin_seql bin_sneq un_not pick_ ext_ loadA_p cellAt_l cellAt_h okPtr_l okPtr_h fadA_p allocA_l storeA_l cells_agg cells_int cells_str cells_sl cells_bool flat_i flat_s flat_b flat_sl flat_nil loc_agg loc_int loc_str loc_sl loc_bool loc_fn loc_ptr okv_agg okv_int okv_str okv_sl okv_bool cellsFrom splice upd_eval argEnv_zero argEnv_succ ne_eq Nat.add_one_ne_zero not_false_eq_true List.not_mem_nil and_self decide_true List.getElem?_cons_zero List.getElem?_cons_succ List.size_toArray List.length_cons List.length_nil List.take_succ_cons List.take_zero List.drop_succ_cons List.drop_zero List.cons_append List.nil_append List.drop_nil Bool.not_true Bool.not_false Bool.false_eq_true Nat.zero_add Nat.add_zero wrap_in List.toList_toArray List.mem_cons or_self or_false false_or
attribute [local go_sem] ag22 ag23 ag25 ag26 ag28 ag3 ag34 ag36 ag38 ag40 ag59 ag68 ag69 ag9 bu59 bu69 by40 by59 by69 by9 el22 el23 el26 el31 el34 el38 el75 of25_0 of25_1 of28_0 of28_1 of28_2 of28_3 of36_0 of36_1 of40_0 of40_1 of40_2 of40_3 of59_0 of59_1 of68_0 of68_1 of68_2 of69_0 of69_1 of69_2 ro5_1 ro59_0 ro59_1 ro9_0 ro9_2 sz22 sz23 sz25 sz26 sz28 sz3 sz34 sz36 sz38 sz40 sz5 sz59 sz68 sz69 sz9 ze36 ze40 ze59 ze69 ze9
-- AUTO

def T.zero' : T := .mk 0 0 ⟨#[]⟩ []
theorem own_zero' {e : TypeId} (st : St) : Own e st T.zero' [.int .i64 0, .int .i64 0, .string ⟨#[]⟩, .slice none 0 0] [] := .nil _ _ _
theorem Lim.zero' {B : Nat} : Lim B T.zero' := .mk _ _ _ _ (by simp) (by simp)
/-- The term of the first binding of a name. -/
def findB (nm : ByteArray) : List Bnd → Option T
  | [] => none
  | b :: bs => if (b.nm.toList == nm.toList) = true then some b.tm else findB nm bs
def atB (nm : ByteArray) : List Bnd → Nat → Option Nat
  | [], _ => none
  | b :: bs, k => if (b.nm.toList == nm.toList) = true then some k else atB nm bs (k + 1)
theorem atB_spec (nm : ByteArray) : ∀ (bs : List Bnd) (k : Nat), match atB nm bs k with
    | some i => k ≤ i ∧ i < k + bs.length ∧ ∃ b, bs[i - k]? = some b ∧ findB nm bs = some b.tm
    | none => findB nm bs = none := by
  intro bs
  induction bs with
  | nil => intro k; rfl
  | cons b bs ih =>
    intro k
    simp only [atB, findB]
    by_cases h : (b.nm.toList == nm.toList) = true
    · simp only [h, if_true]
      exact ⟨Nat.le_refl _, by simp, b, by simp, rfl⟩
    · simp only [if_neg h]
      have := ih (k + 1)
      cases hq : atB nm bs (k + 1) with
      | none => rw [hq] at this; exact this
      | some i =>
        rw [hq] at this
        obtain ⟨h1, h2, b', h3, h4⟩ := this
        refine ⟨by omega, by simp; omega, b', ?_, h4⟩
        rw [show i - k = (i - (k + 1)) + 1 by omega]; simpa using h3
theorem findB_mem {nm : ByteArray} {bs : List Bnd} {t : T} (h : findB nm bs = some t) : ∃ b ∈ bs, b.tm = t := by
  induction bs with
  | nil => cases h
  | cons b bs ih =>
    simp only [findB] at h
    split at h
    · exact ⟨b, by simp, Option.some.inj h⟩
    · obtain ⟨b', h1, h2⟩ := ih h; exact ⟨b', by simp [h1], h2⟩
abbrev findD (nm : ByteArray) (bs : List Bnd) : T := (findB nm bs).getD T.zero'
theorem Lim.findD {B : Nat} {nm : ByteArray} {bs : List Bnd} (h : ∀ b ∈ bs, Lim B b.tm) : Lim B (findD nm bs) := by
  unfold AM.findD
  cases hf : findB nm bs with
  | none => exact .zero'
  | some t => obtain ⟨b, h1, rfl⟩ := findB_mem hf; exact h b h1

end Go.Proofs.Ytbenknjfncmbdaa.AM


/- Substitutions are applied: impl.ApplySubst, spec.ApplySubst. -/
namespace Go.Proofs.Ytbenknjfncmbdaa.AM
open Go Go.Proofs
set_option linter.unusedVariables false
set_option linter.unusedSimpArgs false
set_option maxRecDepth 100000
attribute [local go_sem] List.map_cons List.map_nil List.all_cons List.all_nil Bool.and_self Option.map_some List.getElem?_toArray Option.bind_some gye_b gye_t gsk_b gsk_t gb1 gb2 gb3 gb4 bne_self_eq_false beq_self_eq_true w_guard w_nil stepV_some step_some step_some' w_move w_assign w_pick w_binOp w_unOp w_load w_fieldAddr w_indexAddr w_len w_max w_index ev_max max_int ev_index w_box w_alloc w_store w_field w_extract w_nilCheck w_convert w_buildSlice w_build ev_buildL fillL_nil fillL_cons bs0 bs1 ev_conv ev_bin ev_un ev_pick ev_load ev_fieldAddr ev_indexAddr ev_len ev_field ev_extract ev_nilCheck fr_tmp fr_int fr_bool fr_str fr_nil fr_func put_some put_none bin_lss bin_leq bin_gtr bin_geq bin_eql bin_neq bin_add bin_sub bin_mul bin_seql bin_sneq un_not pick_ ext_ loadA_p cellAt_l cellAt_h okPtr_l okPtr_h fadA_p allocA_l storeA_l cells_agg cells_int cells_str cells_sl cells_bool flat_i flat_s flat_b flat_sl flat_nil loc_agg loc_int loc_str loc_sl loc_bool loc_fn loc_ptr okv_agg okv_int okv_str okv_sl okv_bool cellsFrom splice upd_eval argEnv_zero argEnv_succ ne_eq Nat.add_one_ne_zero not_false_eq_true List.not_mem_nil and_self decide_true List.getElem?_cons_zero List.getElem?_cons_succ List.size_toArray List.length_cons List.length_nil List.take_succ_cons List.take_zero List.drop_succ_cons List.drop_zero List.cons_append List.nil_append List.drop_nil Bool.not_true Bool.not_false Bool.false_eq_true Nat.zero_add Nat.add_zero wrap_in List.toList_toArray List.mem_cons or_self or_false false_or
attribute [local go_sem] ag22 ag23 ag25 ag26 ag28 ag3 ag34 ag36 ag38 ag40 ag59 ag68 ag69 ag9 bu59 bu69 by40 by59 by69 by9 el22 el23 el26 el31 el34 el38 el75 of25_0 of25_1 of28_0 of28_1 of28_2 of28_3 of36_0 of36_1 of40_0 of40_1 of40_2 of40_3 of59_0 of59_1 of68_0 of68_1 of68_2 of69_0 of69_1 of69_2 ro5_1 ro59_0 ro59_1 ro9_0 ro9_2 sz22 sz23 sz25 sz26 sz28 sz3 sz34 sz36 sz38 sz40 sz5 sz59 sz68 sz69 sz9 ze36 ze40 ze59 ze69 ze9
-- AUTO

mutual
def T.sub (bs : List Bnd) : T → T
  | .mk k n nm args => if ((k == 1) && (findB nm bs).isSome) = true then findD nm bs else .mk k n nm (T.subL bs args)
def T.subL (bs : List Bnd) : List T → List T
  | [] => []
  | x :: xs => x.sub bs :: T.subL bs xs
end
theorem T.subL_map (bs : List Bnd) (xs : List T) : T.subL bs xs = xs.map (T.sub bs) := by
  induction xs with
  | nil => rfl
  | cons x xs ih => simp only [T.subL, List.map_cons, ih]
theorem T.sub_yes {bs : List Bnd} {k n : Int} {nm : ByteArray} {args : List T} (h : (k == 1) = true) (h2 : (findB nm bs).isSome = true) : T.sub bs (.mk k n nm args) = findD nm bs := by simp only [T.sub, h, h2, Bool.and_self, if_true]
theorem T.sub_no {bs : List Bnd} {k n : Int} {nm : ByteArray} {args : List T} (h : (k == 1) = false ∨ (findB nm bs).isSome = false) : T.sub bs (.mk k n nm args) = .mk k n nm (args.map (T.sub bs)) := by
  simp only [T.sub, T.subL_map]
  rw [if_neg]
  simp only [Bool.and_eq_true]
  rintro ⟨h1, h2⟩
  rcases h with h | h
  · rw [h] at h1; cases h1
  · rw [h] at h2; cases h2
theorem Lim.sub {B : Nat} {bs : List Bnd} (hb : ∀ b ∈ bs, Lim B b.tm) : ∀ t : T, Lim B t → Lim B (t.sub bs) := by
  refine T.ind fun k n nm args ih h => ?_
  by_cases h1 : ((k == 1) && (findB nm bs).isSome) = true
  · simp only [T.sub, h1, if_true]; exact Lim.findD hb
  · simp only [T.sub, if_neg h1, T.subL_map]
    refine .mk _ _ _ _ (by simpa using h.args.1) fun a ha => ?_
    obtain ⟨x, hx, rfl⟩ := List.mem_map.1 ha
    exact ih x hx (h.args.2 x hx)

end Go.Proofs.Ytbenknjfncmbdaa.AM


/- Substitutions are composed: impl.copyBind, impl.ComposeSubst, spec.ComposeSubst. -/
namespace Go.Proofs.Ytbenknjfncmbdaa.AM
open Go Go.Proofs
set_option linter.unusedVariables false
set_option linter.unusedSimpArgs false
set_option maxRecDepth 100000
attribute [local go_sem] List.map_cons List.map_nil List.all_cons List.all_nil Bool.and_self Option.map_some List.getElem?_toArray Option.bind_some gye_b gye_t gsk_b gsk_t gb1 gb2 gb3 gb4 bne_self_eq_false beq_self_eq_true w_guard w_nil stepV_some step_some step_some' w_move w_assign w_pick w_binOp w_unOp w_load w_fieldAddr w_indexAddr w_len w_max w_index ev_max max_int ev_index w_box w_alloc w_store w_field w_extract w_nilCheck w_convert w_buildSlice w_build ev_buildL fillL_nil fillL_cons bs0 bs1 ev_conv ev_bin ev_un ev_pick ev_load ev_fieldAddr ev_indexAddr ev_len ev_field ev_extract ev_nilCheck fr_tmp fr_int fr_bool fr_str fr_nil fr_func put_some put_none bin_lss bin_leq bin_gtr bin_geq bin_eql bin_neq bin_add bin_sub bin_mul bin_seql bin_sneq un_not pick_ ext_ loadA_p cellAt_l cellAt_h okPtr_l okPtr_h fadA_p allocA_l storeA_l cells_agg cells_int cells_str cells_sl cells_bool flat_i flat_s flat_b flat_sl flat_nil loc_agg loc_int loc_str loc_sl loc_bool loc_fn loc_ptr okv_agg okv_int okv_str okv_sl okv_bool cellsFrom splice upd_eval argEnv_zero argEnv_succ ne_eq Nat.add_one_ne_zero not_false_eq_true List.not_mem_nil and_self decide_true List.getElem?_cons_zero List.getElem?_cons_succ List.size_toArray List.length_cons List.length_nil List.take_succ_cons List.take_zero List.drop_succ_cons List.drop_zero List.cons_append List.nil_append List.drop_nil Bool.not_true Bool.not_false Bool.false_eq_true Nat.zero_add Nat.add_zero wrap_in List.toList_toArray List.mem_cons or_self or_false false_or
attribute [local go_sem] ag22 ag23 ag25 ag26 ag28 ag3 ag34 ag36 ag38 ag40 ag59 ag68 ag69 ag9 bu59 bu69 by40 by59 by69 by9 el22 el23 el26 el31 el34 el38 el75 of25_0 of25_1 of28_0 of28_1 of28_2 of28_3 of36_0 of36_1 of40_0 of40_1 of40_2 of40_3 of59_0 of59_1 of68_0 of68_1 of68_2 of69_0 of69_1 of69_2 ro5_1 ro59_0 ro59_1 ro9_0 ro9_2 sz22 sz23 sz25 sz26 sz28 sz3 sz34 sz36 sz38 sz40 sz5 sz59 sz68 sz69 sz9 ze36 ze40 ze59 ze69 ze9
-- AUTO

/-- What a composition holds. -/
def compA (b : List Bnd) (a : List Bnd) : List Bnd := a.map fun x => ⟨x.nm, x.tm.sub b⟩
def compB (a : List Bnd) (b : List Bnd) : List Bnd := b.filter fun x => (findB x.nm a).isNone
def comp (a b : List Bnd) : List Bnd := compA b a ++ compB a b
theorem compB_snoc (a : List Bnd) (xs : List Bnd) (x : Bnd) : compB a (xs ++ [x]) = compB a xs ++ (if (findB x.nm a).isNone = true then [x] else []) := by
  unfold compB
  rw [List.filter_append]
  congr 1
  by_cases h : (findB x.nm a).isNone = true
  · rw [if_pos h]; simp only [List.filter_cons, h, if_true, List.filter_nil]
  · rw [if_neg h]; simp only [List.filter_cons, h, List.filter_nil]; rfl
theorem comp_len (a b : List Bnd) : (comp a b).length ≤ a.length + b.length := by
  unfold comp compA compB
  rw [List.length_append, List.length_map]
  have := List.length_filter_le (fun x : Bnd => (findB x.nm a).isNone) b
  omega
theorem Lim.comp {B : Nat} {a b : List Bnd} (ha : ∀ x ∈ a, Lim B x.tm) (hb : ∀ x ∈ b, Lim B x.tm) : ∀ x ∈ AM.comp a b, Lim B x.tm := by
  intro x hx
  unfold AM.comp compA compB at hx
  rcases List.mem_append.1 hx with hx | hx
  · obtain ⟨y, hy, rfl⟩ := List.mem_map.1 hx
    exact Lim.sub hb _ (ha y hy)
  · exact hb x (List.mem_filter.1 hx).1

end Go.Proofs.Ytbenknjfncmbdaa.AM


/- Terms are compared: impl.EqualTerm, spec.EqualTerm. -/
namespace Go.Proofs.Ytbenknjfncmbdaa.AM
open Go Go.Proofs
set_option linter.unusedVariables false
set_option linter.unusedSimpArgs false
set_option maxRecDepth 100000
attribute [local go_sem] List.map_cons List.map_nil List.all_cons List.all_nil Bool.and_self Option.map_some List.getElem?_toArray Option.bind_some gye_b gye_t gsk_b gsk_t gb1 gb2 gb3 gb4 bne_self_eq_false beq_self_eq_true w_guard w_nil stepV_some step_some step_some' w_move w_assign w_pick w_binOp w_unOp w_load w_fieldAddr w_indexAddr w_len w_max w_index ev_max max_int ev_index w_box w_alloc w_store w_field w_extract w_nilCheck w_convert w_buildSlice w_build ev_buildL fillL_nil fillL_cons bs0 bs1 ev_conv ev_bin ev_un ev_pick ev_load ev_fieldAddr ev_indexAddr ev_len ev_field ev_extract ev_nilCheck fr_tmp fr_int fr_bool fr_str fr_nil fr_func put_some put_none bin_lss bin_leq bin_gtr bin_geq bin_eql bin_neq bin_add bin_sub bin_mul bin_seql bin_sneq un_not pick_ ext_ loadA_p cellAt_l cellAt_h okPtr_l okPtr_h fadA_p allocA_l storeA_l cells_agg cells_int cells_str cells_sl cells_bool flat_i flat_s flat_b flat_sl flat_nil loc_agg loc_int loc_str loc_sl loc_bool loc_fn loc_ptr okv_agg okv_int okv_str okv_sl okv_bool cellsFrom splice upd_eval argEnv_zero argEnv_succ ne_eq Nat.add_one_ne_zero not_false_eq_true List.not_mem_nil and_self decide_true List.getElem?_cons_zero List.getElem?_cons_succ List.size_toArray List.length_cons List.length_nil List.take_succ_cons List.take_zero List.drop_succ_cons List.drop_zero List.cons_append List.nil_append List.drop_nil Bool.not_true Bool.not_false Bool.false_eq_true Nat.zero_add Nat.add_zero wrap_in List.toList_toArray List.mem_cons or_self or_false false_or
attribute [local go_sem] ag22 ag23 ag25 ag26 ag28 ag3 ag34 ag36 ag38 ag40 ag59 ag68 ag69 ag9 bu59 bu69 by40 by59 by69 by9 el22 el23 el26 el31 el34 el38 el75 of25_0 of25_1 of28_0 of28_1 of28_2 of28_3 of36_0 of36_1 of40_0 of40_1 of40_2 of40_3 of59_0 of59_1 of68_0 of68_1 of68_2 of69_0 of69_1 of69_2 ro5_1 ro59_0 ro59_1 ro9_0 ro9_2 sz22 sz23 sz25 sz26 sz28 sz3 sz34 sz36 sz38 sz40 sz5 sz59 sz68 sz69 sz9 ze36 ze40 ze59 ze69 ze9
-- AUTO

mutual
def T.eqv : T → T → Bool
  | .mk k n nm xs, .mk k' n' nm' bs => (k == k') && ((n == n') && ((nm.toList == nm'.toList) && T.eqvL xs bs))
def T.eqvL : List T → List T → Bool
  | [], [] => true
  | a :: xs, b :: bs => T.eqv a b && T.eqvL xs bs
  | _, _ => false
end
theorem T.eqvL_len : ∀ {xs bs : List T}, T.eqvL xs bs = true → xs.length = bs.length := by
  intro xs
  induction xs with
  | nil => intro bs h; cases bs with
    | nil => rfl
    | cons b bs => simp [T.eqvL] at h
  | cons a xs ih => intro bs h; cases bs with
    | nil => simp [T.eqvL] at h
    | cons b bs =>
      simp only [T.eqvL, Bool.and_eq_true] at h
      simp [ih h.2]
theorem ba_toList {a b : ByteArray} (h : (a.toList == b.toList) = true) : a = b := by
  have h1 : a.toList = b.toList := by simpa using h
  have h2 : a.data.toList = b.data.toList := by rw [← Go.ByteArray.toList_eq, ← Go.ByteArray.toList_eq]; exact h1
  exact ByteArray.ext (Array.toList_inj.1 h2)
theorem T.eqv_iff : ∀ (a b : T), T.eqv a b = true ↔ a = b := by
  refine T.ind fun k n nm xs ih b => ?_
  obtain ⟨k', n', nm', bs⟩ := b
  have hl : ∀ (l : List T), (∀ a ∈ l, ∀ b, T.eqv a b = true ↔ a = b) → ∀ m, T.eqvL l m = true ↔ l = m := by
    intro l
    induction l with
    | nil => intro _ m; cases m <;> simp [T.eqvL]
    | cons x xs ihx =>
      intro h m
      cases m with
      | nil => simp [T.eqvL]
      | cons y ys =>
        simp only [T.eqvL, Bool.and_eq_true, List.cons.injEq]
        rw [h x (by simp) y, ihx (fun a ha => h a (by simp [ha])) ys]
  simp only [T.eqv, Bool.and_eq_true, beq_iff_eq, T.mk.injEq]
  rw [hl xs ih bs]
  constructor
  · rintro ⟨h1, h2, h3, h4⟩
    exact ⟨h1, h2, ba_toList (by simpa using h3), h4⟩
  · rintro ⟨rfl, rfl, rfl, rfl⟩
    exact ⟨rfl, rfl, rfl, rfl⟩

/-- A call of a function that lies in a slot. -/
theorem w_callT {P : Program} {A H : List Tmp} {G : Nat → Option Tmp} {t0 : TypeId} {p0 : String} {af : Array Edge} {bb : Bool} {rest : List (Oper × Bool)} {K : Fr → St → Prop} {env : Nat → Value} {loc : Nat → Nat × List Value} {st : St}
    {d : Option Tmp} {f : Tmp} {g : FuncId} {args : Array Operand} {ts : Array TypeId} {Q : Value → St → Prop} {vs : List Value} (hf : env f = .func (.func g) #[] #[]) (hcall : CallS P g vs st Q) (hvs : args.toList.map (Fr.ev ⟨env, loc⟩) = vs) (hl : vs.all (fun v => !isLoc v) = true)
    (hq : ∀ r st', Q r st' → (bb = true → Ext st st') ∧ WOps P A H G rest K ⟨put env d r, loc⟩ st') : WOps P A H G ((⟨d, .call ⟨.value (.tmp f), args, ts⟩, t0, p0, af, none⟩, bb) :: rest) K ⟨env, loc⟩ st := by
  have hw : wantedA G env (⟨d, .call ⟨.value (.tmp f), args, ts⟩, t0, p0, af, none⟩ : Oper) = some true := rfl
  unfold WOps
  simp only [hw]
  show ∃ g, _
  refine ⟨g, hf, ?_, ?_⟩
  · rw [← hvs] at hl
    rw [List.all_map] at hl
    rw [← Array.all_toList]
    exact hl
  · rw [hvs]
    exact hcall.mono hq

end Go.Proofs.Ytbenknjfncmbdaa.AM


/- Terms are matched: impl.match, spec.l8Match. -/
namespace Go.Proofs.Ytbenknjfncmbdaa.AM
open Go Go.Proofs
set_option linter.unusedVariables false
set_option linter.unusedSimpArgs false
set_option maxRecDepth 100000
attribute [local go_sem] List.map_cons List.map_nil List.all_cons List.all_nil Bool.and_self Option.map_some List.getElem?_toArray Option.bind_some gye_b gye_t gsk_b gsk_t gb1 gb2 gb3 gb4 bne_self_eq_false beq_self_eq_true w_guard w_nil stepV_some step_some step_some' w_move w_assign w_pick w_binOp w_unOp w_load w_fieldAddr w_indexAddr w_len w_max w_index ev_max max_int ev_index w_box w_alloc w_store w_field w_extract w_nilCheck w_convert w_buildSlice w_build ev_buildL fillL_nil fillL_cons bs0 bs1 ev_conv ev_bin ev_un ev_pick ev_load ev_fieldAddr ev_indexAddr ev_len ev_field ev_extract ev_nilCheck fr_tmp fr_int fr_bool fr_str fr_nil fr_func put_some put_none bin_lss bin_leq bin_gtr bin_geq bin_eql bin_neq bin_add bin_sub bin_mul bin_seql bin_sneq un_not pick_ ext_ loadA_p cellAt_l cellAt_h okPtr_l okPtr_h fadA_p allocA_l storeA_l cells_agg cells_int cells_str cells_sl cells_bool flat_i flat_s flat_b flat_sl flat_nil loc_agg loc_int loc_str loc_sl loc_bool loc_fn loc_ptr okv_agg okv_int okv_str okv_sl okv_bool cellsFrom splice upd_eval argEnv_zero argEnv_succ ne_eq Nat.add_one_ne_zero not_false_eq_true List.not_mem_nil and_self decide_true List.getElem?_cons_zero List.getElem?_cons_succ List.size_toArray List.length_cons List.length_nil List.take_succ_cons List.take_zero List.drop_succ_cons List.drop_zero List.cons_append List.nil_append List.drop_nil Bool.not_true Bool.not_false Bool.false_eq_true Nat.zero_add Nat.add_zero wrap_in List.toList_toArray List.mem_cons or_self or_false false_or
attribute [local go_sem] ag22 ag23 ag25 ag26 ag28 ag3 ag34 ag36 ag38 ag40 ag59 ag68 ag69 ag9 bu59 bu69 by40 by59 by69 by9 el22 el23 el26 el31 el34 el38 el75 of25_0 of25_1 of28_0 of28_1 of28_2 of28_3 of36_0 of36_1 of40_0 of40_1 of40_2 of40_3 of59_0 of59_1 of68_0 of68_1 of68_2 of69_0 of69_1 of69_2 ro5_1 ro59_0 ro59_1 ro9_0 ro9_2 sz22 sz23 sz25 sz26 sz28 sz3 sz34 sz36 sz38 sz40 sz5 sz59 sz68 sz69 sz9 ze36 ze40 ze59 ze69 ze9
-- AUTO

mutual
def T.matF : T → T → List Bnd → Option (List Bnd)
  | .mk k n nm ps, .mk k' n' nm' ts, l => if (k == 1) = true then (if (findB nm l).isSome = true then (if T.eqv (findD nm l) (.mk k' n' nm' ts) = true then some l else none) else some (l ++ [⟨nm, .mk k' n' nm' ts⟩]))
    else if ((k == k') && ((n == n') && ((nm.toList == nm'.toList) && (ps.length == ts.length)))) = true then T.matL ps ts l else none
def T.matL : List T → List T → List Bnd → Option (List Bnd)
  | p :: ps, t :: ts, l => match T.matF p t l with
    | some l' => T.matL ps ts l'
    | none => none
  | [], _, l => some l
  | _ :: _, [], l => some l
end
theorem T.matF_var {k n k' n' : Int} {nm nm' : ByteArray} {ps ts : List T} {l : List Bnd} (h : (k == 1) = true) : T.matF (.mk k n nm ps) (.mk k' n' nm' ts) l = if (findB nm l).isSome = true then (if T.eqv (findD nm l) (.mk k' n' nm' ts) = true then some l else none) else some (l ++ [⟨nm, .mk k' n' nm' ts⟩]) := by
  simp only [T.matF, h, if_true]
theorem T.matF_app {k n k' n' : Int} {nm nm' : ByteArray} {ps ts : List T} {l : List Bnd} (h : (k == 1) = false) : T.matF (.mk k n nm ps) (.mk k' n' nm' ts) l = if ((k == k') && ((n == n') && ((nm.toList == nm'.toList) && (ps.length == ts.length)))) = true then T.matL ps ts l else none := by
  simp only [T.matF, h, Bool.false_eq_true, if_false]
/-- What a match yields: no longer than this, its terms within the limits. -/
theorem T.matF_ok : ∀ (p t : T) (l l' : List Bnd), T.matF p t l = some l' → Lim 1073741824 t → (∀ b ∈ l, Lim 1073741824 b.tm) → l'.length ≤ l.length + p.wt + 1 ∧ ∀ b ∈ l', Lim 1073741824 b.tm := by
  refine T.ind fun k n nm ps ih t l l' h ht hl => ?_
  obtain ⟨k', n', nm', ts⟩ := t
  cases hk : (k == 1) with
  | true =>
    rw [T.matF_var hk] at h
    split at h
    · split at h
      · cases h; exact ⟨by omega, hl⟩
      · cases h
    · cases h
      refine ⟨by simp, fun b hb => ?_⟩
      rcases List.mem_append.1 hb with hb | hb
      · exact hl b hb
      · cases List.mem_singleton.1 hb; exact ht
  | false =>
    rw [T.matF_app hk] at h
    split at h
    · have hL : ∀ (qs : List T), (∀ q ∈ qs, ∀ t l l', T.matF q t l = some l' → Lim 1073741824 t → (∀ b ∈ l, Lim 1073741824 b.tm) → l'.length ≤ l.length + q.wt + 1 ∧ ∀ b ∈ l', Lim 1073741824 b.tm) →
          ∀ us l l', T.matL qs us l = some l' → (∀ u ∈ us, Lim 1073741824 u) → (∀ b ∈ l, Lim 1073741824 b.tm) → l'.length ≤ l.length + T.wtL qs + qs.length ∧ ∀ b ∈ l', Lim 1073741824 b.tm := by
        intro qs
        induction qs with
        | nil => intro _ us l l' h _ hl; simp only [T.matL, Option.some.injEq] at h; subst h; exact ⟨by omega, hl⟩
        | cons q qs ihq =>
          intro hq us l l' h hu hl
          cases us with
          | nil => simp only [T.matL, Option.some.injEq] at h; subst h; exact ⟨by omega, hl⟩
          | cons u us =>
            simp only [T.matL] at h
            cases hm : T.matF q u l with
            | none => rw [hm] at h; cases h
            | some l1 =>
              rw [hm] at h
              obtain ⟨h1, h2⟩ := hq q (by simp) u l l1 hm (hu u (by simp)) hl
              obtain ⟨h3, h4⟩ := ihq (fun q' hq' => hq q' (by simp [hq'])) us l1 l' h (fun u' hu' => hu u' (by simp [hu'])) h2
              refine ⟨?_, h4⟩
              simp only [T.wtL, List.length_cons]
              omega
      obtain ⟨h1, h2⟩ := hL ps ih ts l l' h ht.args.2 hl
      refine ⟨?_, h2⟩
      simp only [T.wt]
      omega
    · cases h

/-- What a match comes to, in the program's and in the reference's memory. -/
def MatQ (O : St → List Bnd → Value → List Nat → Prop) (s0 : St) (m : Option (List Bnd)) (r : Value) (st2 : St) : Prop := Ext s0 st2 ∧ match m with
  | some l' => ∃ s' L', r = .tuple #[s', .bool true] ∧ O st2 l' s' L' ∧ Fresh s0.length L'
  | none => ∃ v, isLoc v = false ∧ r = .tuple #[v, .bool false]

end Go.Proofs.Ytbenknjfncmbdaa.AM


/- Sorted lists of names, each once. -/
namespace Go.Proofs.Ytbenknjfncmbdaa.AM
open Go
set_option linter.unusedVariables false
set_option linter.unusedSimpArgs false

/-- The strings' letters. -/
def chs (xs : List ByteArray) : List (List UInt8) := xs.map (fun b => b.data.toList)
/-- .. and back. -/
def unchs (xs : List (List UInt8)) : List ByteArray := xs.map (fun l => (⟨l.toArray⟩ : ByteArray))
theorem unchs_chs (xs : List ByteArray) : unchs (chs xs) = xs := by
  unfold unchs chs
  rw [List.map_map]
  exact (List.map_congr_left (fun b _ => rfl)).trans (List.map_id xs)
theorem chs_length (xs : List ByteArray) : (chs xs).length = xs.length := by simp [chs]
theorem unchs_length (xs : List (List UInt8)) : (unchs xs).length = xs.length := by simp [unchs]
/-- The strings in their order. -/
def sortB (xs : List ByteArray) : List ByteArray := unchs ((chs xs).mergeSort fun x y => decide (x ≤ y))
/-- No string twice in a row. -/
def compS (xs : List ByteArray) : List ByteArray := unchs (Lib.compact (chs xs))
theorem compact_le (zs : List (List UInt8)) : (Lib.compact zs).length ≤ zs.length := by
  unfold Lib.compact Lib.compactUpTo
  rw [List.length_map]
  have := List.length_filter_le (Lib.keeps zs.toArray) (List.range zs.length)
  simpa using this
theorem sortB_length (xs : List ByteArray) : (sortB xs).length = xs.length := by
  unfold sortB
  rw [unchs_length, List.length_mergeSort, chs_length]
theorem lt_cases (a b : List UInt8) : a < b ∨ a = b ∨ b < a := by
  rcases List.le_total a b with h | h
  · rcases List.le_iff_lt_or_eq.1 h with h | h
    · exact .inl h
    · exact .inr (.inl h)
  · rcases List.le_iff_lt_or_eq.1 h with h | h
    · exact .inr (.inr h)
    · exact .inr (.inl h.symm)
/-- Put in its place, unless it is there. -/
def insU (e : List UInt8) : List (List UInt8) → List (List UInt8)
  | [] => [e]
  | x :: xs => if x < e then x :: insU e xs else if x = e then x :: xs else e :: x :: xs
theorem insU_mem (e : List UInt8) (l : List (List UInt8)) (y : List UInt8) : y ∈ insU e l ↔ y = e ∨ y ∈ l := by
  induction l with
  | nil => simp [insU]
  | cons x xs ih =>
    simp only [insU]
    by_cases h1 : x < e
    · rw [if_pos h1]
      simp only [List.mem_cons, ih]
      constructor
      · rintro (h | h | h)
        · exact .inr (.inl h)
        · exact .inl h
        · exact .inr (.inr h)
      · rintro (h | h | h)
        · exact .inr (.inl h)
        · exact .inl h
        · exact .inr (.inr h)
    · rw [if_neg h1]
      by_cases h2 : x = e
      · rw [if_pos h2]
        simp only [List.mem_cons]
        constructor
        · exact .inr
        · rintro (h | h)
          · exact .inl (h.trans h2.symm)
          · exact h
      · rw [if_neg h2]
        simp only [List.mem_cons]
theorem insU_strict (e : List UInt8) (l : List (List UInt8)) (h : l.Pairwise (· < ·)) : (insU e l).Pairwise (· < ·) := by
  induction l with
  | nil => simp [insU]
  | cons x xs ih =>
    obtain ⟨hx, hxs⟩ := List.pairwise_cons.1 h
    simp only [insU]
    by_cases h1 : x < e
    · rw [if_pos h1]
      refine List.pairwise_cons.2 ⟨fun y hy => ?_, ih hxs⟩
      rcases (insU_mem e xs y).1 hy with rfl | hy
      · exact h1
      · exact hx y hy
    · rw [if_neg h1]
      by_cases h2 : x = e
      · rw [if_pos h2]; exact h
      · rw [if_neg h2]
        have h3 : e < x := by
          rcases lt_cases x e with h | h | h
          · exact absurd h h1
          · exact absurd h h2
          · exact h
        refine List.pairwise_cons.2 ⟨fun y hy => ?_, h⟩
        rcases List.mem_cons.1 hy with rfl | hy
        · exact h3
        · exact List.lt_trans h3 (hx y hy)
def insAll (acc l : List (List UInt8)) : List (List UInt8) := l.foldl (fun a e => insU e a) acc
theorem insAll_mem (l : List (List UInt8)) : ∀ (acc : List (List UInt8)) (y : List UInt8), y ∈ insAll acc l ↔ y ∈ acc ∨ y ∈ l := by
  induction l with
  | nil => intro acc y; simp [insAll]
  | cons x xs ih =>
    intro acc y
    have := ih (insU x acc) y
    unfold insAll at this ⊢
    rw [List.foldl_cons, this, insU_mem, List.mem_cons]
    constructor
    · rintro ((h | h) | h)
      · exact .inr (.inl h)
      · exact .inl h
      · exact .inr (.inr h)
    · rintro (h | h | h)
      · exact .inl (.inr h)
      · exact .inl (.inl h)
      · exact .inr h
theorem insAll_strict (l : List (List UInt8)) : ∀ acc : List (List UInt8), acc.Pairwise (· < ·) → (insAll acc l).Pairwise (· < ·) := by
  induction l with
  | nil => intro acc h; exact h
  | cons x xs ih =>
    intro acc h
    exact ih (insU x acc) (insU_strict x acc h)
theorem strict_one {l m : List (List UInt8)} (hl : l.Pairwise (· < ·)) (hm : m.Pairwise (· < ·)) (h : ∀ y, y ∈ l ↔ y ∈ m) : l = m := by
  induction l generalizing m with
  | nil =>
    cases m with
    | nil => rfl
    | cons y ys => exact absurd ((h y).2 List.mem_cons_self) (by simp)
  | cons x xs ih =>
    cases m with
    | nil => exact absurd ((h x).1 List.mem_cons_self) (by simp)
    | cons y ys =>
      obtain ⟨hx, hxs⟩ := List.pairwise_cons.1 hl
      obtain ⟨hy, hys⟩ := List.pairwise_cons.1 hm
      have e : x = y := by
        rcases List.mem_cons.1 ((h x).1 List.mem_cons_self) with h1 | h1
        · exact h1
        · rcases List.mem_cons.1 ((h y).2 List.mem_cons_self) with h2 | h2
          · exact h2.symm
          · exact absurd (List.lt_trans (hy x h1) (hx y h2)) (List.lt_irrefl y)
      subst e
      congr 1
      refine ih hxs hys (fun z => ⟨fun hz => ?_, fun hz => ?_⟩)
      · rcases List.mem_cons.1 ((h z).1 (List.mem_cons_of_mem _ hz)) with h1 | h1
        · subst h1; exact absurd (hx z hz) (List.lt_irrefl z)
        · exact h1
      · rcases List.mem_cons.1 ((h z).2 (List.mem_cons_of_mem _ hz)) with h1 | h1
        · subst h1; exact absurd (hy z hz) (List.lt_irrefl z)
        · exact h1
theorem sorted_of (l : List (List UInt8)) : (l.mergeSort fun x y => decide (x ≤ y)).Pairwise (fun a b => a ≤ b) := by
  have h := List.pairwise_mergeSort (le := fun x y : List UInt8 => decide (x ≤ y)) (fun a b c h1 h2 => by
    simp only [decide_eq_true_eq] at *
    exact List.le_trans h1 h2) (fun a b => by
    simp only [Bool.or_eq_true, decide_eq_true_eq]
    exact List.le_total a b) l
  exact h.imp (fun h => by simpa using h)
theorem compact_facts (zs : List (List UInt8)) (hs : zs.Pairwise (fun a b => a ≤ b)) : ∀ m, m ≤ zs.length → (Lib.compactUpTo zs.toArray m).Pairwise (· < ·) ∧ ∀ y, y ∈ Lib.compactUpTo zs.toArray m ↔ ∃ j, ∃ h : j < zs.length, j < m ∧ zs[j] = y := by
  intro m
  induction m with
  | zero =>
    intro _
    simp [Lib.compactUpTo]
  | succ m ih =>
    intro hm
    obtain ⟨h1, h2⟩ := ih (by omega)
    rw [Lib.compactUpTo_succ]
    have hat : ∀ j, (h : j < zs.length) → zs.toArray[j]! = zs[j] := fun j h => by rw [getElem!_pos _ j (by simpa using h)]; simp
    have hle : ∀ i j, (hi : i < zs.length) → (hj : j < zs.length) → i < j → zs[i] ≤ zs[j] := fun i j hi hj hij => List.pairwise_iff_getElem.1 hs i j hi hj hij
    have hmem : ∀ y, (∃ j, ∃ h : j < zs.length, j < m + 1 ∧ zs[j] = y) ↔ (∃ j, ∃ h : j < zs.length, j < m ∧ zs[j] = y) ∨ y = zs[m] := by
      intro y
      constructor
      · rintro ⟨j, h, hj, e⟩
        rcases Nat.lt_or_ge j m with h3 | h3
        · exact .inl ⟨j, h, h3, e⟩
        · have : j = m := by omega
          subst this
          exact .inr e.symm
      · rintro (⟨j, h, hj, e⟩ | e)
        · exact ⟨j, h, by omega, e⟩
        · exact ⟨m, by omega, by omega, e.symm⟩
    by_cases hk : Lib.keeps zs.toArray m = true
    · rw [if_pos hk, hat m (by omega)]
      constructor
      · refine List.pairwise_append.2 ⟨h1, by simp, fun a ha b hb => ?_⟩
        obtain ⟨j, hj, hjm, e⟩ := (h2 a).1 ha
        rw [List.mem_singleton.1 hb, ← e]
        have hk' : m = 0 ∨ zs.toArray[m]! ≠ zs.toArray[m - 1]! := by simpa [Lib.keeps] using hk
        rcases hk' with hk' | hk'
        · omega
        · rw [hat m (by omega), hat (m - 1) (by omega)] at hk'
          have l1 : zs[m - 1] < zs[m] := by
            rcases List.le_iff_lt_or_eq.1 (hle (m - 1) m (by omega) (by omega) (by omega)) with h | h
            · exact h
            · exact absurd h.symm hk'
          rcases Nat.lt_or_ge j (m - 1) with h3 | h3
          · rcases List.le_iff_lt_or_eq.1 (hle j (m - 1) hj (by omega) h3) with h | h
            · exact List.lt_trans h l1
            · rw [h]; exact l1
          · have : j = m - 1 := by omega
            subst this
            exact l1
      · intro y
        rw [hmem, ← h2, List.mem_append, List.mem_singleton]
    · rw [if_neg hk]
      refine ⟨by simpa using h1, fun y => ?_⟩
      rw [List.append_nil, hmem, ← h2]
      constructor
      · exact .inl
      · rintro (h | h)
        · exact h
        · have hk' : ¬ (m = 0 ∨ zs.toArray[m]! ≠ zs.toArray[m - 1]!) := by simpa [Lib.keeps] using hk
          have hm0 : m ≠ 0 := fun e => hk' (.inl e)
          have he : zs.toArray[m]! = zs.toArray[m - 1]! := Classical.byContradiction fun e => hk' (.inr e)
          rw [hat m (by omega), hat (m - 1) (by omega)] at he
          rw [h, he, h2]
          exact ⟨m - 1, by omega, by omega, rfl⟩
theorem chs_unchs (l : List (List UInt8)) : chs (unchs l) = l := by
  unfold unchs chs
  rw [List.map_map]
  exact (List.map_congr_left (fun b _ => by simp)).trans (List.map_id l)
theorem chs_inj {a b : List ByteArray} (h : chs a = chs b) : a = b := by
  rw [← unchs_chs a, ← unchs_chs b, h]
/-- The list's strings, each once, in their order. -/
def namesB (l : List ByteArray) : List ByteArray := unchs (insAll [] (chs l))
theorem names_strict (l : List ByteArray) : (chs (namesB l)).Pairwise (· < ·) := by
  unfold namesB
  rw [chs_unchs]
  exact insAll_strict _ _ (by simp)
theorem names_mem (l : List ByteArray) (y : List UInt8) : y ∈ chs (namesB l) ↔ y ∈ chs l := by
  unfold namesB
  rw [chs_unchs, insAll_mem]
  simp
theorem sort_same (l : List ByteArray) : compS (sortB l) = namesB l := by
  apply chs_inj
  unfold compS sortB
  rw [chs_unchs, chs_unchs]
  obtain ⟨h1, h2⟩ := compact_facts ((chs l).mergeSort fun x y => decide (x ≤ y)) (sorted_of _) _ (Nat.le_refl _)
  refine strict_one h1 (names_strict l) (fun y => ?_)
  unfold Lib.compact
  rw [h2, names_mem]
  rw [← (List.mergeSort_perm (chs l) (fun x y => decide (x ≤ y))).mem_iff, List.mem_iff_getElem]
  constructor
  · rintro ⟨j, h, _, e⟩
    exact ⟨j, h, e⟩
  · rintro ⟨j, h, e⟩
    exact ⟨j, h, h, e⟩
theorem nodup_le {α : Type} [DecidableEq α] (l : List α) : ∀ m : List α, l.Nodup → (∀ y, y ∈ l → y ∈ m) → l.length ≤ m.length := by
  induction l with
  | nil => intro m _ _; simp
  | cons x xs ih =>
    intro m hn hs
    obtain ⟨h1, h2⟩ := List.nodup_cons.1 hn
    have hx := hs x List.mem_cons_self
    have h3 := ih (m.erase x) h2 (fun y hy => (List.mem_erase_of_ne (fun e => h1 (by rw [← e]; exact hy))).2 (hs y (List.mem_cons_of_mem _ hy)))
    have h4 := List.length_erase_of_mem hx
    have h5 := List.length_pos_of_mem hx
    simp only [List.length_cons]
    omega
theorem strict_nodup {l : List (List UInt8)} (h : l.Pairwise (· < ·)) : l.Nodup := h.imp (fun h e => by subst e; exact List.lt_irrefl _ h)
theorem names_length (l : List ByteArray) : (namesB l).length ≤ l.length := by
  have := nodup_le _ (chs l) (strict_nodup (names_strict l)) (fun y hy => (names_mem l y).1 hy)
  rwa [chs_length, chs_length] at this
theorem nodup_of_length {α : Type} [DecidableEq α] (s : List α) (hs : s.Nodup) (m : List α) (hlen : s.length = m.length) (hm : ∀ y, y ∈ s ↔ y ∈ m) : m.Nodup := by
  refine Classical.byContradiction fun hnd => ?_
  have hsplit : ∀ m : List α, ¬ m.Nodup → ∃ a x b, m = a ++ x :: b ∧ x ∈ b := by
    intro m
    induction m with
    | nil => intro h; exact absurd List.nodup_nil h
    | cons z zs ihz =>
      intro h
      by_cases hz : z ∈ zs
      · exact ⟨[], z, zs, rfl, hz⟩
      · obtain ⟨a, x, b, e, hx⟩ := ihz (fun h' => h (List.nodup_cons.2 ⟨hz, h'⟩))
        exact ⟨z :: a, x, b, by rw [e]; rfl, hx⟩
  obtain ⟨a, x, b, e, hx⟩ := hsplit m hnd
  have h1 := nodup_le s (a ++ b) hs (fun y hy => by
    have := (hm y).1 hy
    rw [e] at this
    rcases List.mem_append.1 this with h | h
    · exact List.mem_append.2 (.inl h)
    · rcases List.mem_cons.1 h with h | h
      · subst h; exact List.mem_append.2 (.inr hx)
      · exact List.mem_append.2 (.inr h))
  rw [hlen, e] at h1
  simp only [List.length_append, List.length_cons] at h1
  omega
/-- A list has no string twice if and only if sorting takes none away. -/
theorem names_all (l : List ByteArray) : (namesB l).length = l.length ↔ (chs l).Nodup := by
  constructor
  · intro h
    exact nodup_of_length _ (strict_nodup (names_strict l)) (chs l) (by rw [chs_length, chs_length]; exact h) (fun y => names_mem l y)
  · intro h
    have h1 := names_length l
    have h2 := nodup_le (chs l) (chs (namesB l)) h (fun y hy => (names_mem l y).2 hy)
    rw [chs_length, chs_length] at h2
    omega
def insB (e : ByteArray) : List ByteArray → List ByteArray
  | [] => [e]
  | x :: xs => if Op.bytesLess x.toList e.toList = true then x :: insB e xs else if x.toList = e.toList then x :: xs else e :: x :: xs
theorem chs_insB (e : ByteArray) (l : List ByteArray) : chs (insB e l) = insU e.data.toList (chs l) := by
  induction l with
  | nil => rfl
  | cons x xs ih =>
    simp only [insB, Go.Proofs.bytesLess_eq, Lib.toList_data, decide_eq_true_eq]
    have e1 : chs (x :: xs) = x.data.toList :: chs xs := rfl
    rw [e1]
    simp only [insU]
    split
    · rw [← ih]; rfl
    · split
      · rfl
      · rfl
theorem insB_length (e : ByteArray) (l : List ByteArray) : (insB e l).length ≤ l.length + 1 := by
  induction l with
  | nil => simp [insB]
  | cons x xs ih =>
    simp only [insB]
    split
    · simp only [List.length_cons]; omega
    · split <;> simp
theorem foldB_length (l : List ByteArray) : ∀ acc : List ByteArray, (l.foldl (fun a e => insB e a) acc).length ≤ acc.length + l.length := by
  induction l with
  | nil => intro acc; simp
  | cons x xs ih =>
    intro acc
    have h1 := ih (insB x acc)
    have h2 := insB_length x acc
    simp only [List.foldl_cons, List.length_cons]
    omega
theorem foldB (l : List ByteArray) : ∀ acc : List ByteArray, chs (l.foldl (fun a e => insB e a) acc) = insAll (chs acc) (chs l) := by
  induction l with
  | nil => intro acc; rfl
  | cons x xs ih =>
    intro acc
    rw [List.foldl_cons, ih, chs_insB]
    rfl
theorem foldB_names (l : List ByteArray) : l.foldl (fun a e => insB e a) [] = namesB l := by
  apply chs_inj
  rw [foldB]
  unfold namesB
  rw [chs_unchs]
  rfl
end Go.Proofs.Ytbenknjfncmbdaa.AM


/- Names are sorted: spec.SortNames. -/
namespace Go.Proofs.Ytbenknjfncmbdaa.AM
open Go Go.Proofs
set_option linter.unusedVariables false
set_option linter.unusedSimpArgs false
set_option maxRecDepth 100000
attribute [local go_sem] List.map_cons List.map_nil List.all_cons List.all_nil Bool.and_self Option.map_some List.getElem?_toArray Option.bind_some gye_b gye_t gsk_b gsk_t gb1 gb2 gb3 gb4 bne_self_eq_false beq_self_eq_true w_guard w_nil stepV_some step_some step_some' w_move w_assign w_pick w_binOp w_unOp w_load w_fieldAddr w_indexAddr w_len w_max w_index ev_max max_int ev_index w_box w_alloc w_store w_field w_extract w_nilCheck w_convert w_buildSlice w_build ev_buildL fillL_nil fillL_cons bs0 bs1 ev_conv ev_bin ev_un ev_pick ev_load ev_fieldAddr ev_indexAddr ev_len ev_field ev_extract ev_nilCheck fr_tmp fr_int fr_bool fr_str fr_nil fr_func put_some put_none bin_lss bin_leq bin_gtr bin_geq bin_eql bin_neq bin_add bin_sub bin_mul bin_seql bin_sneq un_not pick_ ext_ loadA_p cellAt_l cellAt_h okPtr_l okPtr_h fadA_p allocA_l storeA_l cells_agg cells_int cells_str cells_sl cells_bool flat_i flat_s flat_b flat_sl flat_nil loc_agg loc_int loc_str loc_sl loc_bool loc_fn loc_ptr okv_agg okv_int okv_str okv_sl okv_bool cellsFrom splice upd_eval argEnv_zero argEnv_succ ne_eq Nat.add_one_ne_zero not_false_eq_true List.not_mem_nil and_self decide_true List.getElem?_cons_zero List.getElem?_cons_succ List.size_toArray List.length_cons List.length_nil List.take_succ_cons List.take_zero List.drop_succ_cons List.drop_zero List.cons_append List.nil_append List.drop_nil Bool.not_true Bool.not_false Bool.false_eq_true Nat.zero_add Nat.add_zero wrap_in List.toList_toArray List.mem_cons or_self or_false false_or
attribute [local go_sem] ag22 ag23 ag25 ag26 ag28 ag3 ag34 ag36 ag38 ag40 ag59 ag68 ag69 ag9 bu59 bu69 by40 by59 by69 by9 el22 el23 el26 el31 el34 el38 el75 of25_0 of25_1 of28_0 of28_1 of28_2 of28_3 of36_0 of36_1 of40_0 of40_1 of40_2 of40_3 of59_0 of59_1 of68_0 of68_1 of68_2 of69_0 of69_1 of69_2 ro5_1 ro59_0 ro59_1 ro9_0 ro9_2 sz22 sz23 sz25 sz26 sz28 sz3 sz34 sz36 sz38 sz40 sz5 sz59 sz68 sz69 sz9 ze36 ze40 ze59 ze69 ze9
-- AUTO

theorem insB_drop {e : ByteArray} {acc : List ByteArray} {j : Nat} (hj : j < acc.length) : insB e (acc.drop j) = if Op.bytesLess acc[j].toList e.toList = true then acc[j] :: insB e (acc.drop (j + 1)) else if acc[j].toList = e.toList then acc.drop j else e :: acc.drop j := by
  rw [List.drop_eq_getElem_cons hj]; rfl
/-- Parts of a row. -/
theorem row_upto {α : Type} {E : α → List Value → Prop} {sz : Nat} {st : St} {xs : List α} {i o c : Nat} (h : Row E (sz + 1) st xs (.slice (some ⟨i, o, none⟩) xs.length c)) {P : Program} {t e : TypeId} (hu : P.underlying t = some (.slice e)) (hs : szA P e = some (sz + 1)) {k : Nat} (hk : k ≤ xs.length) :
    ∃ s', sliceA P t (.slice (some ⟨i, o, none⟩) xs.length c) none (some (.int .i64 k)) = some s' ∧ Row E (sz + 1) st (xs.take k) s' := by
  have he : elemA P t = some e := by unfold elemA; rw [hu]
  refine ⟨.slice (some ⟨i, o + 0 * (sz + 1), none⟩) (k - 0) (k - 0), ?_, ?_⟩
  · unfold sliceA
    simp only [he, hs, Int.toNat_natCast]
    rw [if_pos (by omega)]; rfl
  · rcases h with ⟨h0, rfl⟩ | ⟨i', o', c', he', h⟩
    · refine .inr ⟨i, o + 0 * (sz + 1), k - 0, by simp at hk; simp [hk], fun j x hx => by simp at hx⟩
    · cases he'
      refine .inr ⟨i, o + 0 * (sz + 1), k - 0, by simp; omega, fun j x hx => ?_⟩
      rw [List.getElem?_take] at hx
      split at hx
      · rw [Nat.zero_mul, Nat.add_zero]; exact h j x hx
      · cases hx
theorem row_from {α : Type} {E : α → List Value → Prop} {sz : Nat} {st : St} {xs : List α} {i o c : Nat} (h : Row E (sz + 1) st xs (.slice (some ⟨i, o, none⟩) xs.length c)) {P : Program} {t e : TypeId} (hu : P.underlying t = some (.slice e)) (hs : szA P e = some (sz + 1)) {k : Nat} (hk : k ≤ xs.length) :
    ∃ s', sliceA P t (.slice (some ⟨i, o, none⟩) xs.length c) (some (.int .i64 k)) none = some s' ∧ Row E (sz + 1) st (xs.drop k) s' := by
  have he : elemA P t = some e := by unfold elemA; rw [hu]
  refine ⟨.slice (some ⟨i, o + k * (sz + 1), none⟩) (xs.length - k) (xs.length - k), ?_, ?_⟩
  · unfold sliceA
    simp only [he, hs, Int.toNat_natCast]
    rw [if_pos (by omega)]
  · rcases h with ⟨h0, rfl⟩ | ⟨i', o', c', he', h⟩
    · exact .inr ⟨i, o + k * (sz + 1), _, by simp; rfl, fun j x hx => by simp at hx⟩
    · cases he'
      refine .inr ⟨i, o + k * (sz + 1), xs.length - k, by simp, fun j x hx => ?_⟩
      rw [List.getElem?_drop] at hx
      obtain ⟨cs, h1, h2, h3⟩ := h (k + j) x hx
      exact ⟨cs, h1, h2, by rwa [show o + k * (sz + 1) + j * (sz + 1) = o + (k + j) * (sz + 1) by rw [Nat.add_mul]; omega]⟩
/-- A string is put behind a row of one's own. -/
theorem OwnS.step {n0 : Nat} {st st2 : St} {xs : List ByteArray} {s : Value} {L : List Nat} {x : ByteArray} (h : Sl st xs s L) (hf : Fresh n0 L) (hn0 : n0 ≤ st.length) (hext : Ext st st2) (hbd : xs.length + 1 ≤ 274877906944) :
    ∃ s' st' L', appendA Try.prog 22 22 s (.slice (some ⟨st2.length, 0, none⟩) 1 1) (st2 ++ [⟨[.string x], 9, 0⟩]) = some (s', st') ∧ Sl st' (xs ++ [x]) s' L' ∧ Fresh n0 L' ∧ Grow st s st' s' :=
  Sl.push (α := ByteArray) Try.underlying22 Try.underlying22 sz9 rfl by9 ze9 rfl h hf hn0 hext ⟨rfl, rfl⟩ (.nil _) (by omega) (by omega)
theorem OwnS.join {n0 : Nat} {st st2 : St} {xs ys : List ByteArray} {s y : Value} {L : List Nat} (h : Sl st xs s L) (hf : Fresh n0 L) (hn0 : n0 ≤ st.length) (hext : Ext st st2) (hy : Rw st2 ys y) (hbd : xs.length + ys.length ≤ 274877906944) :
    ∃ s' st' L', appendA Try.prog 22 22 s y st2 = some (s', st') ∧ Sl st' (xs ++ ys) s' L' ∧ Fresh n0 L' ∧ Grow st2 s st' s' :=
  Sl.appRow (α := ByteArray) Try.underlying22 Try.underlying22 sz9 rfl by9 ze9 rfl h hf hn0 hext hy (by omega) (by omega)
theorem OwnS.fresh {st : St} {ys : List ByteArray} {y : Value} (hy : Rw st ys y) (hbd : ys.length ≤ 274877906944) :
    ∃ s' st' L', appendA Try.prog 22 22 (.slice (some ⟨st.length, 0, none⟩) 0 0) y (st ++ [⟨[], 9, 0⟩]) = some (s', st') ∧ Sl st' ys s' L' ∧ Fresh st.length L' ∧ Ext st st' ∧ st.length + 1 ≤ st'.length :=
  Sl.freshRow (α := ByteArray) Try.underlying22 Try.underlying22 sz9 rfl by9 ze9 rfl hy (by omega) (by omega)

theorem SliceO.topSome {α : Type} {E : α → List Value → List Nat → Prop} {e : TypeId} {st : St} {xs : List α} {s : Value} {L : List Nat} {n : Nat} (h : SliceO E e st xs s L) (hf : Fresh n L) (h0 : xs ≠ []) : ∃ m, n ≤ m ∧ topId s = some m := by
  rcases h with ⟨rfl, h, _⟩ | ⟨i, c, cs, K, rfl, _, _, rfl⟩
  · exact absurd h h0
  · exact ⟨i, hf.2 i (by simp), rfl⟩
/-- What R9, R10 and R11 do: a string is set into a row. -/
theorem OwnS.insert {n0 br cr : Nat} {st : St} {acc : List ByteArray} {L : List Nat} {x : ByteArray} (h : Sl st acc (.slice (some ⟨br, 0, none⟩) acc.length cr) L) (hn0 : n0 ≤ st.length) {j : Nat} (hj : j ≤ acc.length) (hbd : acc.length ≤ 1073741824) :
    ∃ u1 u2 v1 v2 v3 s2 s3 s4 L4, sliceA Try.prog 22 (.slice (some ⟨br, 0, none⟩) acc.length cr) none (some (.int .i64 j)) = some u1 ∧
      appendA Try.prog 22 22 (.slice (some ⟨st.length, 0, none⟩) 0 0) u1 (st ++ [⟨[], 9, 0⟩]) = some (v1, s2) ∧
      appendA Try.prog 22 22 v1 (.slice (some ⟨s2.length, 0, none⟩) 1 1) (s2 ++ [⟨[.string x], 9, 0⟩]) = some (v2, s3) ∧
      sliceA Try.prog 22 (.slice (some ⟨br, 0, none⟩) acc.length cr) (some (.int .i64 j)) none = some u2 ∧
      appendA Try.prog 22 22 v2 u2 s3 = some (v3, s4) ∧ Sl s4 (acc.take j ++ x :: acc.drop j) v3 L4 ∧ Fresh n0 L4 ∧ Ext st s2 ∧ Ext st s4 ∧ (∃ m, n0 ≤ m ∧ topId v3 = some m) ∧
      isLoc u1 = false ∧ isLoc u2 = false ∧ isLoc v1 = false ∧ isLoc v2 = false ∧ isLoc v3 = false := by
  have hr := h.row
  obtain ⟨u1, a1, a2⟩ := row_upto (sz := 0) (α := ByteArray) hr Try.underlying22 sz9 hj
  obtain ⟨u2, b1, b2⟩ := row_from (sz := 0) (α := ByteArray) hr Try.underlying22 sz9 hj
  obtain ⟨v1, s2, L2, c1, c2, c3, c4, c5⟩ := OwnS.fresh (st := st) (ys := acc.take j) a2 (by simp; omega)
  have t1 := c2.top c3
  obtain ⟨v2, s3, L3, d1, d2, d3, d4⟩ := OwnS.step (x := x) c2 c3 c4.length (Ext.refl s2) (by simp; omega)
  have x3 : Ext st s3 := d4.away.ext_of c4 t1
  have t2 := d2.top d3
  have hl3 := d4.away.1
  obtain ⟨v3, s4, L4, e1, e2, e3, e4⟩ := OwnS.join (ys := acc.drop j) d2 d3 (by have := x3.length; exact this) (Ext.refl s3) (Rw.ext b2 x3) (by simp; omega)
  have x4 : Ext st s4 := e4.away.ext_of x3 t2
  have e2' : Sl s4 (acc.take j ++ x :: acc.drop j) v3 L4 := by rw [List.append_cons]; exact e2
  have e3' : Fresh n0 L4 := ⟨e3.1, fun i hi => Nat.le_trans hn0 (e3.2 i hi)⟩
  exact ⟨u1, u2, v1, v2, v3, s2, s3, s4, L4, a1, c1, d1, b1, e1, e2', e3', c4, x4, e2'.topSome e3' (by simp), a2.notLoc.1, b2.notLoc.1, c2.loc, d2.loc, e2.loc⟩
theorem insB_nil {e : ByteArray} : insB e [] = [e] := rfl
end Go.Proofs.Ytbenknjfncmbdaa.AM


/- What a pattern's variables take: spec.l3Vars, spec.VarsOfTerm, spec.RestrictSubst, spec.MatchTerm, IsInstance and IsVariant on both sides. -/
namespace Go.Proofs.Ytbenknjfncmbdaa.AM
open Go Go.Proofs
set_option linter.unusedVariables false
set_option linter.unusedSimpArgs false
set_option maxRecDepth 100000
attribute [local go_sem] List.map_cons List.map_nil List.all_cons List.all_nil Bool.and_self Option.map_some List.getElem?_toArray Option.bind_some gye_b gye_t gsk_b gsk_t gb1 gb2 gb3 gb4 bne_self_eq_false beq_self_eq_true w_guard w_nil stepV_some step_some step_some' w_move w_assign w_pick w_binOp w_unOp w_load w_fieldAddr w_indexAddr w_len w_max w_index ev_max max_int ev_index w_box w_alloc w_store w_field w_extract w_nilCheck w_convert w_buildSlice w_build ev_buildL fillL_nil fillL_cons bs0 bs1 ev_conv ev_bin ev_un ev_pick ev_load ev_fieldAddr ev_indexAddr ev_len ev_field ev_extract ev_nilCheck fr_tmp fr_int fr_bool fr_str fr_nil fr_func put_some put_none bin_lss bin_leq bin_gtr bin_geq bin_eql bin_neq bin_add bin_sub bin_mul bin_seql bin_sneq un_not pick_ ext_ loadA_p cellAt_l cellAt_h okPtr_l okPtr_h fadA_p allocA_l storeA_l cells_agg cells_int cells_str cells_sl cells_bool flat_i flat_s flat_b flat_sl flat_nil loc_agg loc_int loc_str loc_sl loc_bool loc_fn loc_ptr okv_agg okv_int okv_str okv_sl okv_bool cellsFrom splice upd_eval argEnv_zero argEnv_succ ne_eq Nat.add_one_ne_zero not_false_eq_true List.not_mem_nil and_self decide_true List.getElem?_cons_zero List.getElem?_cons_succ List.size_toArray List.length_cons List.length_nil List.take_succ_cons List.take_zero List.drop_succ_cons List.drop_zero List.cons_append List.nil_append List.drop_nil Bool.not_true Bool.not_false Bool.false_eq_true Nat.zero_add Nat.add_zero wrap_in List.toList_toArray List.mem_cons or_self or_false false_or
attribute [local go_sem] ag22 ag23 ag25 ag26 ag28 ag3 ag34 ag36 ag38 ag40 ag59 ag68 ag69 ag9 bu59 bu69 by40 by59 by69 by9 el22 el23 el26 el31 el34 el38 el75 of25_0 of25_1 of28_0 of28_1 of28_2 of28_3 of36_0 of36_1 of40_0 of40_1 of40_2 of40_3 of59_0 of59_1 of68_0 of68_1 of68_2 of69_0 of69_1 of69_2 ro5_1 ro59_0 ro59_1 ro9_0 ro9_2 sz22 sz23 sz25 sz26 sz28 sz3 sz34 sz36 sz38 sz40 sz5 sz59 sz68 sz69 sz9 ze36 ze40 ze59 ze69 ze9
-- AUTO

mutual
def T.vars : T → List ByteArray
  | .mk k _ nm xs => (if (k == 1) = true then [nm] else []) ++ T.varsL xs
def T.varsL : List T → List ByteArray
  | [] => []
  | x :: xs => T.vars x ++ T.varsL xs
end
theorem T.vars_mk {k n : Int} {nm : ByteArray} {xs : List T} : T.vars (.mk k n nm xs) = (if (k == 1) = true then [nm] else []) ++ T.varsL xs := by simp only [T.vars]
theorem T.varsL_snoc (xs : List T) (x : T) : T.varsL (xs ++ [x]) = T.varsL xs ++ T.vars x := by
  induction xs with
  | nil => simp [T.varsL]
  | cons y ys ih => simp only [List.cons_append, T.varsL, ih, List.append_assoc]
theorem T.varsL_take {xs : List T} {j : Nat} (h : j < xs.length) : T.varsL (xs.take (j + 1)) = T.varsL (xs.take j) ++ T.vars xs[j] := by
  rw [List.take_succ_eq_append_getElem h, T.varsL_snoc]
theorem T.varsL_len0 : ∀ ys : List T, (∀ y ∈ ys, (T.vars y).length ≤ y.wt + 1) → (T.varsL ys).length ≤ T.wtL ys + ys.length := by
  intro ys
  induction ys with
  | nil => intro _; simp [T.varsL]
  | cons y ys ihy =>
    intro h
    have h1 := h y (by simp)
    have h2 := ihy fun z hz => h z (by simp [hz])
    simp only [T.varsL, List.length_append, T.wtL, List.length_cons]
    omega
theorem T.vars_len : ∀ t : T, (T.vars t).length ≤ t.wt + 1 := by
  refine T.ind fun k n nm xs ih => ?_
  have h1 := T.varsL_len0 xs ih
  rw [T.vars_mk]
  simp only [T.wt, List.length_append]
  split <;> simp <;> omega
theorem T.varsL_len (ys : List T) : (T.varsL ys).length ≤ T.wtL ys + ys.length := T.varsL_len0 ys fun y _ => T.vars_len y
theorem T.wtL_app (xs ys : List T) : T.wtL (xs ++ ys) = T.wtL xs + T.wtL ys := by
  induction xs with
  | nil => simp [T.wtL]
  | cons x xs ih => simp only [List.cons_append, T.wtL, ih]; omega
theorem T.vars_room {xs : List T} {j : Nat} (h : j < xs.length) : (T.varsL (xs.take j)).length + xs[j].wt + 1 ≤ T.wtL xs + xs.length := by
  have h1 := T.varsL_len (xs.take j)
  have h2 := T.wtL_app (xs.take j) (xs.drop j)
  rw [List.take_append_drop, List.drop_eq_getElem_cons h] at h2
  simp only [T.wtL] at h2
  simp only [List.length_take] at h1
  omega
/-- The bindings of some names. -/
def restr (bs : List Bnd) (ns : List ByteArray) : List Bnd := ns.filterMap fun n => (findB n bs).map fun t => ⟨n, t⟩
theorem restr_len (bs : List Bnd) (ns : List ByteArray) : (restr bs ns).length ≤ ns.length := List.length_filterMap_le _ _
theorem restr_none {bs : List Bnd} {ns : List ByteArray} {n : ByteArray} (h : (findB n bs).isSome = false) : restr bs (ns ++ [n]) = restr bs ns := by
  unfold restr
  rw [List.filterMap_append]
  cases hf : findB n bs with
  | none => simp [hf]
  | some t => rw [hf] at h; cases h
theorem restr_some {bs : List Bnd} {ns : List ByteArray} {n : ByteArray} (h : (findB n bs).isSome = true) : restr bs (ns ++ [n]) = restr bs ns ++ [⟨n, findD n bs⟩] := by
  unfold restr findD
  rw [List.filterMap_append]
  cases hf : findB n bs with
  | none => rw [hf] at h; cases h
  | some t => simp [hf]

/-- A row stays where another block alone has turned. -/
theorem Sl.away {α : Type} [Kind α] {a b : St} {xs : List α} {s : Value} {L : List Nat} {k : Option Nat} {n m : Nat} (h : Sl a xs s L) (hw : Away k a b) (hL : ∀ i ∈ L, n ≤ i ∧ i < m) (hk : ∀ q, k = some q → q < n ∨ m ≤ q) : Sl b xs s L :=
  h.frame fun i hi => hw.2 i (h.lt i hi) fun e => by
    have h1 := hL i hi
    have h2 := hk i e
    omega
/-- What spec.MatchTerm and impl.MatchTerm yield. -/
def T.mres (p t : T) : List Bnd := match T.matF p t [] with
  | some l => restr l (namesB (namesB (T.vars p)))
  | none => []
end Go.Proofs.Ytbenknjfncmbdaa.AM


/- The whole world as an abstract store: what a law begins with. -/
namespace Go.Proofs.Ytbenknjfncmbdaa.AM
open Go Go.RowKit
set_option linter.unusedVariables false
set_option linter.unusedSimpArgs false

def jv : Value := .pointer (some ⟨0, 0, some 0⟩)
/-- A world's value, if it can be told of. -/
def absV (n : Nat) (v : Value) : Value := match v with
  | .slice (some a) l c => if a.spot = none ∧ a.block < n ∧ l ≤ c then v else if l = 0 ∧ c = 0 then .slice (some ⟨0, 0, some 0⟩) 0 0 else jv
  | v => if flat1 v then v else jv
def absB (W : World) (i : Nat) : Blk := match W.heap[i]? with
  | some (.cells c t _) => ⟨c.toList.map (absV W.heap.size), t, 1⟩
  | _ => ⟨[], 0, 1⟩
def size0 (W : World) (i : Nat) : Nat := match W.heap[i]? with
  | some (.cells c _ _) => c.size
  | _ => 0
def absS (W : World) : St := (List.range W.heap.size).map (absB W)
def absM (W : World) : List ME := (List.range W.heap.size).map fun i => ⟨i, size0 W i, 0, false⟩

theorem absS_get {W : World} {i : Nat} {b : Blk} (h : (absS W)[i]? = some b) : i < W.heap.size ∧ b = absB W i := by
  unfold absS at h
  rw [List.getElem?_map] at h
  by_cases hi : i < W.heap.size
  · rw [List.getElem?_range hi] at h
    exact ⟨hi, (Option.some.inj h).symm⟩
  · rw [List.getElem?_eq_none (by simp; omega)] at h; cases h
theorem absS_of {W : World} {i : Nat} (hi : i < W.heap.size) : (absS W)[i]? = some (absB W i) := by
  unfold absS
  rw [List.getElem?_map, List.getElem?_range hi]; rfl
theorem absM_get {W : World} {i : Nat} {m : ME} (h : (absM W)[i]? = some m) : i < W.heap.size ∧ m = ⟨i, size0 W i, 0, false⟩ := by
  unfold absM at h
  rw [List.getElem?_map] at h
  by_cases hi : i < W.heap.size
  · rw [List.getElem?_range hi] at h
    exact ⟨hi, (Option.some.inj h).symm⟩
  · rw [List.getElem?_eq_none (by simp; omega)] at h; cases h
theorem absM_of {W : World} {i : Nat} (hi : i < W.heap.size) : (absM W)[i]? = some ⟨i, size0 W i, 0, false⟩ := by
  unfold absM
  rw [List.getElem?_map, List.getElem?_range hi]; rfl
theorem absB_stat (W : World) (i : Nat) : (absB W i).stat = 1 := by unfold absB; split <;> rfl

theorem absV_vr {W : World} {v : Value} (h : isJ (absV W.heap.size v) = false) : one (absV W.heap.size v) = true ∧ VR (absM W) (absV W.heap.size v) v := by
  unfold absV at h ⊢
  split
  · rename_i a l c
    split
    · rename_i hc
      obtain ⟨b, o, sp⟩ := a
      obtain ⟨hsp, hb, hl⟩ := hc
      simp only at hsp
      subst hsp
      exact ⟨rfl, .sl _ _ _ _ _ _ _ (absM_of hb) hl (.inl ⟨rfl, fun _ e => by cases e⟩)⟩
    · rename_i hc
      simp only [if_neg hc] at h
      split
      · rename_i h0
        obtain ⟨rfl, rfl⟩ := h0
        exact ⟨rfl, .emp a⟩
      · rename_i h0
        rw [if_neg h0] at h
        cases h
  · rename_i hx
    split
    · rename_i hf
      exact ⟨flat1_one hf, .fl _ hf⟩
    · rename_i hf
      split at h
      · rename_i a l c
        exact absurd rfl (hx a l c)
      · rw [if_neg hf] at h; cases h

theorem Tab.lt {P : Program} {w : World} (h : Tab P w) : ∀ nm ∈ tabNm, ∀ g, P.globalNamed nm = some g → g < w.heap.size := by
  have key : ∀ nm g cs, P.globalNamed nm = some g → w.var? P nm = some cs → g < w.heap.size := fun nm g cs hg hv => by
    unfold World.var? at hv
    simp only [hg, Option.bind_some] at hv
    rcases Nat.lt_or_ge g w.heap.size with h' | h'
    · exact h'
    · rw [Array.getElem?_eq_none h'] at hv; cases hv
  intro nm hn g hg
  simp only [tabNm, List.mem_cons, List.not_mem_nil, or_false] at hn
  have hne : P.globalNamed nm ≠ none := by rw [hg]; simp
  rcases hn with rfl | hn
  · exact key _ g _ hg (h.pow hne)
  · obtain ⟨tp, p, hv⟩ := h.err nm hn hne
    exact key _ g _ hg hv
theorem abs_cov {P : Program} {W : World} (h : Tab P W) : Cov P (absM W) (absS W) := fun nm hn g hg => by
  have hlt := h.lt nm hn g hg
  exact ⟨g, _, _, absM_of hlt, rfl, absS_of hlt, absB_stat W g⟩
theorem abs_hr (P : Program) (W : World) (hT : Tab P W) : HR P ⟨W, absM W, absS W⟩ (absM W) (absS W) W := by
  refine ⟨by simp [absM, absS], fun _ _ h => h, fun i b m hb hm h2 hfar => ?_, fun i j b b' m m' hb hb' _ _ hm hm' e => ?_, fun i m hm => ?_, fun i m hm _ => ⟨i, m, hm, rfl⟩, fun i b m hb _ hm => ⟨hb, rfl⟩, rfl, rfl, rfl, Nat.le_refl _, fun _ _ _ => rfl, hT, abs_cov hT⟩
  · obtain ⟨hi, rfl⟩ := absS_get hb
    obtain ⟨_, rfl⟩ := absM_get hm
    cases hh : W.heap[i]? with
    | none => exact absurd ⟨absB_stat W i, by simp [absB, hh]⟩ hfar
    | some o =>
      cases o with
      | cells c t q =>
        have e1 : absB W i = ⟨c.toList.map (absV W.heap.size), t, 1⟩ := by unfold absB; rw [hh]
        have e2 : size0 W i = c.size := by unfold size0; rw [hh]
        rw [e1, e2]
        refine ⟨c, ⟨q, hh, fun e => by cases e⟩, rfl, by simp, fun j x hx => ?_, fun e => by cases e⟩
        simp only [List.getElem?_map, Option.map_eq_some_iff] at hx
        obtain ⟨y, hy, rfl⟩ := hx
        cases hj : isJ (absV W.heap.size y) with
        | true => exact .inl ⟨rfl, rfl⟩
        | false =>
          obtain ⟨h2, h3⟩ := absV_vr hj
          exact .inr ⟨h2, y, by simpa using hy, h3⟩
      | _ => exact absurd ⟨absB_stat W i, by simp [absB, hh]⟩ hfar
  · obtain ⟨_, rfl⟩ := absM_get hm
    obtain ⟨_, rfl⟩ := absM_get hm'
    exact e
  · obtain ⟨hi, rfl⟩ := absM_get hm
    exact hi

/-- An argument, and what the store says of it. -/
def ArgS (W : World) (x v : Value) : Prop := (isJ (absV W.heap.size v) = false ∧ x = absV W.heap.size v) ∨ ∃ cs : List Value, v = .agg cs.toArray ∧ x = .agg (cs.map (absV W.heap.size)).toArray ∧ ∀ c ∈ cs, isJ (absV W.heap.size c) = false

/-- What holds of a call that begins at the whole world. -/
theorem CallS.enter {P : Program} {f : FuncId} {args : List Value} {vals : Array Value} {W : World} {Q : Value → St → Prop} (hT : Tab P W) (h : CallS P f args (absS W) Q) (hl : args.length = vals.size) (hv : ∀ (i : Nat) x v, args[i]? = some x → vals[i]? = some v → ArgS W x v) :
    Calls P f vals W fun e w' => ∃ r v st' M', e = .returned v ∧ Q r st' ∧ VR M' r v ∧ Below W.heap.size W w' := by
  refine (h.2 (absM W) W vals (abs_hr P W hT) ⟨hl, fun i x y hx hy => ?_⟩).mono fun e w' ⟨r, v, st', M', he, hq, hvr, hr⟩ => ⟨r, v, st', M', he, hq, hvr, hr.os, hr.tape, hr.output, hr.size, fun k hk => ?_⟩
  · rcases hv i x y hx hy with ⟨h1, rfl⟩ | ⟨cs, rfl, rfl, hcs⟩
    · exact (absV_vr h1).2
    · refine .agg _ _ (by simp) (fun i c hc => ?_) fun i c d hc hd => ?_
      · simp only [List.getElem?_toArray, List.getElem?_map, Option.map_eq_some_iff] at hc
        obtain ⟨d, hd, rfl⟩ := hc
        exact (absV_vr (hcs d (List.mem_of_getElem? hd))).1
      · simp only [List.getElem?_toArray, List.getElem?_map] at hc hd
        rw [hd] at hc
        obtain rfl := Option.some.inj hc
        exact (absV_vr (hcs d (List.mem_of_getElem? hd))).2
  · exact (hr.ro k _ _ (absS_of hk) (absB_stat W k) (absM_of hk)).2

inductive ArgsS (W : World) : List Value → List Value → Prop
  | nil : ArgsS W [] []
  | cons (x v : Value) (xs vs : List Value) (h : ArgS W x v) (hs : ArgsS W xs vs) : ArgsS W (x :: xs) (v :: vs)
theorem ArgsS.get {W : World} {xs vs : List Value} (h : ArgsS W xs vs) : xs.length = vs.length ∧ ∀ (i : Nat) x v, xs[i]? = some x → vs[i]? = some v → ArgS W x v := by
  induction h with
  | nil => exact ⟨rfl, fun i x v hx => by simp at hx⟩
  | cons x v xs vs h hs ih =>
    refine ⟨by simp [ih.1], fun i y u hy hu => ?_⟩
    cases i with
    | zero =>
      simp only [List.getElem?_cons_zero, Option.some.injEq] at hy hu
      subst hy; subst hu; exact h
    | succ i => exact ih.2 i y u (by simpa using hy) (by simpa using hu)
/-- A program that has none of these variables. -/
theorem noTab {P : Program} {W : World} (h1 : P.globalNamed "internal/strconv.uint64pow10" = none) (h2 : P.globalNamed "strconv.ErrSyntax" = none) (h3 : P.globalNamed "strconv.ErrRange" = none) : Tab P W :=
  ⟨fun h => absurd h1 h, fun nm hn h => by
    rcases hn with rfl | rfl
    · exact absurd h2 h
    · exact absurd h3 h⟩
theorem CallS.enters {P : Program} {f : FuncId} {args : List Value} {vals : List Value} {W : World} {b : Bool} (hT : Tab P W) (h : CallS P f args (absS W) fun r _ => r = .bool b) (hv : ArgsS W args vals) :
    Calls P f vals.toArray W fun e w' => e = .returned (.bool b) ∧ Below W.heap.size W w' :=
  (h.enter hT (by simpa using hv.get.1) fun i x v hx hv' => hv.get.2 i x v hx (by simpa using hv')).mono fun e w' ⟨r, v, st', M', he, hq, hvr, bel⟩ => by
    subst he; subst hq
    obtain rfl := hvr.flat_eq rfl
    exact ⟨rfl, bel⟩
theorem ArgS.flat {W : World} {v : Value} (h : isJ (absV W.heap.size v) = false) (e : absV W.heap.size v = v) : ArgS W v v := .inl ⟨h, e.symm⟩
theorem ArgS.int (W : World) (k : IntKind) (i : Int) : ArgS W (.int k i) (.int k i) := .inl ⟨rfl, rfl⟩
theorem ArgS.str (W : World) (s : ByteArray) : ArgS W (.string s) (.string s) := .inl ⟨rfl, rfl⟩
theorem ArgS.agg {W : World} {cs : Array Value} (h : ∀ c ∈ (Value.agg cs).cells.toList, isJ (absV W.heap.size c) = false) : ArgS W (.agg ((Value.agg cs).cells.toList.map (absV W.heap.size)).toArray) (.agg cs) := .inr ⟨cs.toList, rfl, rfl, h⟩

/-- A world's cell, read in the store. -/
theorem abs_cell {W : World} {b o : Nat} {v : Value} (h : W.cell? ⟨b, o, none⟩ = some v) (hj : isJ (absV W.heap.size v) = false) : cell (absS W) b o = some (absV W.heap.size v) := by
  unfold World.cell? at h
  simp only at h
  split at h
  · rename_i c t q hb
    have hi : b < W.heap.size := (Array.getElem?_eq_some_iff.1 hb).1
    simp only [Option.isSome_none, Bool.false_eq_true, if_false] at h
    have e1 : absB W b = ⟨c.toList.map (absV W.heap.size), t, 1⟩ := by unfold absB; rw [hb]
    unfold cell
    rw [absS_of hi, e1]
    have e3 : (c.toList.map (absV W.heap.size))[o]? = some (absV W.heap.size v) := by
      rw [List.getElem?_map, Array.getElem?_toList, h]; rfl
    simp only [e3]
    simp [hj]
  · cases h

/-- What a cell that was read holds can be told of. -/
def Told (W : World) (v : Value) : Prop := isJ (absV W.heap.size v) = false

theorem told_int (W : World) (k : IntKind) (i : Int) : Told W (.int k i) ∧ absV W.heap.size (.int k i) = .int k i := ⟨rfl, rfl⟩
theorem told_str (W : World) (s : ByteArray) : Told W (.string s) ∧ absV W.heap.size (.string s) = .string s := ⟨rfl, rfl⟩
theorem told_bool (W : World) (b : Bool) : Told W (.bool b) ∧ absV W.heap.size (.bool b) = .bool b := ⟨rfl, rfl⟩

theorem spot_of {w : World} {a : Addr} {n b : Nat} {cs : List Value} (h : w.cells? b a n = some cs) (hn : 0 < n) : a.spot = none := by
  obtain ⟨_, hl, hc⟩ := World.cells?_some h
  have h1 := hc 0 hn
  rw [List.getElem?_eq_getElem (by omega)] at h1
  obtain ⟨b, o, sp⟩ := a
  cases sp with
  | none => rfl
  | some s =>
    unfold World.cell? Addr.add at h1
    simp only at h1
    split at h1
    · split at h1 <;> simp_all
    · cases h1
theorem spot_add {a : Addr} {k : Nat} (hk : k = 0) (h : (a.add k).spot = none) : a.spot = none := by
  subst hk
  exact h

/-- A slice that was read: its elements, one by one. -/
theorem open_rowA {H : Type} {enc : TypeId × Value → H} {P : Program} {w : World} {α : Type} {E : α → List Value → Prop} {G : α → Prop} {t e : TypeId} {sz : Nat} (ht : P.underlying t = some (.slice e)) (hc : P.cellsOf e = sz) (hsz : 0 < sz) {fuel : Nat} {cs : List Value} {x : DataW H × List MemPlace}
    (h : DataW.trod enc P w 0 (fun _ => true) true fuel t cs = some x) (hel : ∀ n cs y, n < fuel → DataW.trod enc P w 0 (fun _ => true) true n e cs = some y → ∃ z, E z (cs.map (absV w.heap.size)) ∧ G z ∧ ∀ c ∈ cs, Told w c) :
    ∃ s, ∃ xs : List α, cs = [s] ∧ Told w s ∧ Row E sz (absS w) xs (absV w.heap.size s) ∧ xs.length ≤ maxLen ∧ ∀ z ∈ xs, G z := by
  have hlt := DataW.trod_lt _ _ _ _ h
  rcases DataW.trod_slice ht h with ⟨rfl, _⟩ | ⟨a, len, cap, elems, rest, n, rfl, rfl, rfl, _, hl, hm, hlen, hel2, hrest, _⟩
  · exact ⟨_, [], rfl, rfl, .inl ⟨.inl rfl, rfl⟩, Nat.zero_le _, by simp⟩
  · simp only [hc] at hel2 hlt hrest
    by_cases h0 : cap = 0
    · subst h0
      obtain rfl : len = 0 := by omega
      by_cases hq : a.spot = none ∧ a.block < w.heap.size ∧ 0 ≤ 0
      · obtain ⟨b, o, sp⟩ := a
        obtain ⟨hsp, hb, _⟩ := hq
        simp only at hsp hb
        subst hsp
        have e1 : absV w.heap.size (.slice (some ⟨b, o, none⟩) 0 0) = .slice (some ⟨b, o, none⟩) 0 0 := by unfold absV; simp only; rw [if_pos (by exact ⟨trivial, hb, Nat.le_refl _⟩)]
        refine ⟨_, [], rfl, by unfold Told; rw [e1]; rfl, ?_, Nat.zero_le _, by simp⟩
        rw [e1]
        exact .inr ⟨b, o, 0, rfl, by simp⟩
      · have e1 : absV w.heap.size (.slice (some a) 0 0) = .slice (some ⟨0, 0, some 0⟩) 0 0 := by unfold absV; simp only; rw [if_neg hq]; simp
        refine ⟨_, [], rfl, by unfold Told; rw [e1]; rfl, ?_, Nat.zero_le _, by simp⟩
        rw [e1]
        exact .inl ⟨.inr rfl, rfl⟩
    · have hrl := (hrest trivial).1
      have hb : a.block < w.heap.size := hlt (.cell a.block (a.off + 0)) (by
        refine List.mem_append_left _ ?_
        unfold MemPlace.row
        refine List.mem_map.2 ⟨0, List.mem_range.2 (Nat.mul_pos (by omega) hsz), rfl⟩)
      have hsp : a.spot = none := by
        by_cases hl0 : 0 < len
        · have h1 := hel2 0 hl0
          rw [List.getElem?_eq_getElem (by omega), Option.bind_eq_some_iff] at h1
          obtain ⟨c, hcs, _⟩ := h1
          exact spot_add (by first | (simp; done) | (rw [show len = 0 by omega]; simp)) (spot_of hcs hsz)
        · have h1 := (hrest trivial).2 0 (by omega)
          rw [List.getElem?_eq_getElem (by omega), Option.bind_eq_some_iff] at h1
          obtain ⟨c, hcs, _⟩ := h1
          exact spot_add (by first | (simp; done) | (rw [show len = 0 by omega]; simp)) (spot_of hcs hsz)
      obtain ⟨b, o, sp⟩ := a
      simp only at hsp hb
      subst hsp
      have e1 : absV w.heap.size (.slice (some ⟨b, o, none⟩) len cap) = .slice (some ⟨b, o, none⟩) len cap := by unfold absV; simp only; rw [if_pos (by exact ⟨trivial, hb, hl⟩)]
      have each : ∀ i : _root_.Fin len, ∃ z, G z ∧ ∃ c : List Value, c.length = sz ∧ E z c ∧ CellsAt (absS w) b (o + i.1 * sz) c := by
        intro i
        have hi := hel2 i.1 i.2
        rw [List.getElem?_eq_getElem (by rw [hlen]; exact i.2), Option.bind_eq_some_iff] at hi
        obtain ⟨c, hcs, hy⟩ := hi
        obtain ⟨z, hz, hG, htold⟩ := hel n c _ (Nat.lt_succ_self n) hy
        obtain ⟨_, hcl, hcc⟩ := World.cells?_some hcs
        refine ⟨z, hG, _, by simpa using hcl, hz, fun q v hv => ?_⟩
        simp only [List.getElem?_map, Option.map_eq_some_iff] at hv
        obtain ⟨u, hu, rfl⟩ := hv
        have hq : q < sz := by have := (List.getElem?_eq_some_iff.1 hu).1; omega
        have h2 := hcc q hq
        rw [addr_add, addr_add, hu] at h2
        exact abs_cell h2 (htold u (List.mem_of_getElem? hu))
      have hlen3 : (List.ofFn fun i : _root_.Fin len => Classical.choose (each i)).length = len := List.length_ofFn
      refine ⟨_, List.ofFn fun i : _root_.Fin len => Classical.choose (each i), rfl, by unfold Told; rw [e1]; rfl, ?_, by rw [hlen3]; omega, ?_⟩
      · rw [e1]
        refine .inr ⟨b, o, cap, by rw [hlen3], fun j x hj => ?_⟩
        have hjl : j < len := by have := (List.getElem?_eq_some_iff.1 hj).1; rwa [hlen3] at this
        obtain ⟨_, c, h1, h2, h3⟩ := Classical.choose_spec (each ⟨j, hjl⟩)
        have hp : Classical.choose (each ⟨j, hjl⟩) = x := by
          have := (List.getElem?_eq_some_iff.1 hj).2
          rw [List.getElem_ofFn] at this
          exact this
        rw [hp] at h2
        exact ⟨c, h1, h2, h3⟩
      · intro z hz
        rw [List.mem_ofFn] at hz
        obtain ⟨i, rfl⟩ := hz
        exact (Classical.choose_spec (each i)).1
end Go.Proofs.Ytbenknjfncmbdaa.AM


/- What a law's arguments read as. -/
namespace Go.Proofs.Ytbenknjfncmbdaa.AM
open Go Go.Proofs
set_option linter.unusedVariables false
set_option linter.unusedSimpArgs false

theorem list_S {α : Type} {l : List α} {n : Nat} (h : l.length = n + 1) : ∃ a l2, l = a :: l2 ∧ l2.length = n := by
  match l, h with
  | a :: l2, h => exact ⟨a, l2, rfl, by simpa using h⟩
theorem toldA_int {H : Type} {enc : TypeId × Value → H} {P : Program} {w : World} {t : TypeId} {k : IntKind} (ht : P.underlying t = some (.int k)) {fuel : Nat} {cs : List Value} {x : DataW H × List MemPlace} (h : DataW.trod enc P w 0 (fun _ => true) true fuel t cs = some x) :
    ∃ z, cs = [.int k z] ∧ (Lit.int k z).wf = true := by
  obtain ⟨n, rfl, _, hw⟩ := DataW.trod_int ht h
  exact ⟨n, rfl, hw⟩
theorem toldA_str {H : Type} {enc : TypeId × Value → H} {P : Program} {w : World} {t : TypeId} (ht : P.underlying t = some .string) {fuel : Nat} {cs : List Value} {x : DataW H × List MemPlace} (h : DataW.trod enc P w 0 (fun _ => true) true fuel t cs = some x) :
    ∃ z, cs = [.string z] ∧ z.size ≤ maxLen := by
  obtain ⟨n, rfl, _, hw⟩ := DataW.trod_string ht h
  exact ⟨n, rfl, hw⟩

set_option maxRecDepth 100000 in
theorem open_term {H : Type} {enc : TypeId × Value → H} {w : World} : ∀ (fuel : Nat) (cs : List Value) (x : DataW H × List MemPlace), DataW.trod enc Try.prog w 0 (fun _ => true) true fuel 28 cs = some x →
    ∃ t : T, Enc (absS w) t (cs.map (absV w.heap.size)) ∧ Lens t ∧ ∀ c ∈ cs, Told w c := by
  intro fuel
  induction fuel using Nat.strongRecOn with
  | _ fuel ih =>
  intro cs x h
  obtain ⟨xs, n, hfu, rfl, hl, hxl, hf⟩ := DataW.trod_struct Try.underlying28 h
  have hl : cs.length = 4 := hl.trans (by kernel_rfl)
  have hxl : xs.length = 4 := hxl
  obtain ⟨e0, r0, rfl, l0⟩ := list_S hl
  obtain ⟨e1, r1, rfl, l1⟩ := list_S l0
  obtain ⟨e2, r2, rfl, l2⟩ := list_S l1
  obtain ⟨e3, r3, rfl, l3⟩ := list_S l2
  obtain rfl := List.eq_nil_of_length_eq_zero l3
  have q0 : DataW.trod enc Try.prog w 0 (fun _ => true) true n 3 [e0] = some (xs[0]'(by omega)) := (hf 0 _ rfl).trans (List.getElem?_eq_getElem (by omega))
  obtain ⟨z0, K0, g0⟩ := toldA_int Try.underlying3 q0
  obtain ⟨rfl⟩ : e0 = _ := (List.cons.inj K0).1
  have q1 : DataW.trod enc Try.prog w 0 (fun _ => true) true n 3 [e1] = some (xs[1]'(by omega)) := (hf 1 _ rfl).trans (List.getElem?_eq_getElem (by omega))
  obtain ⟨z1, K1, g1⟩ := toldA_int Try.underlying3 q1
  obtain ⟨rfl⟩ : e1 = _ := (List.cons.inj K1).1
  have q2 : DataW.trod enc Try.prog w 0 (fun _ => true) true n 9 [e2] = some (xs[2]'(by omega)) := (hf 2 _ rfl).trans (List.getElem?_eq_getElem (by omega))
  obtain ⟨z2, K2, g2⟩ := toldA_str Try.underlying9 q2
  obtain ⟨rfl⟩ : e2 = _ := (List.cons.inj K2).1
  have q3 : DataW.trod enc Try.prog w 0 (fun _ => true) true n 26 [e3] = some (xs[3]'(by omega)) := (hf 3 _ rfl).trans (List.getElem?_eq_getElem (by omega))
  obtain ⟨s, args, hs, ht, hr, hlen, hG⟩ := open_rowA (E := Enc (absS w)) (G := Lens) (sz := 4) Try.underlying26 (by kernel_rfl) (by omega) q3 (fun n_ cs_ y_ hn_ hy_ => ih n_ (by omega) _ _ hy_)
  obtain ⟨rfl⟩ : e3 = _ := (List.cons.inj hs).1
  refine ⟨.mk z0 z1 z2 args, Enc.close z0 z1 z2 hr, .mk _ _ _ _ hlen g2 hG, fun c hc => ?_⟩
  simp only [List.mem_cons, List.not_mem_nil, or_false] at hc
  rcases hc with rfl | rfl | rfl | rfl
  · rfl
  · rfl
  · rfl
  · exact ht
end Go.Proofs.Ytbenknjfncmbdaa.AM


/- What the laws of terms share. -/
namespace Go.Proofs.Ytbenknjfncmbdaa.AM
open Go Go.Proofs
set_option linter.unusedVariables false
set_option linter.unusedSimpArgs false
set_option maxRecDepth 100000
attribute [local go_sem] List.map_cons List.map_nil List.all_cons List.all_nil Bool.and_self Option.map_some List.getElem?_toArray Option.bind_some gye_b gye_t gsk_b gsk_t gb1 gb2 gb3 gb4 bne_self_eq_false beq_self_eq_true w_guard w_nil stepV_some step_some step_some' w_move w_assign w_pick w_binOp w_unOp w_load w_fieldAddr w_indexAddr w_len w_max w_index ev_max max_int ev_index w_box w_alloc w_store w_field w_extract w_nilCheck w_convert w_buildSlice w_build ev_buildL fillL_nil fillL_cons bs0 bs1 ev_conv ev_bin ev_un ev_pick ev_load ev_fieldAddr ev_indexAddr ev_len ev_field ev_extract ev_nilCheck fr_tmp fr_int fr_bool fr_str fr_nil fr_func put_some put_none bin_lss bin_leq bin_gtr bin_geq bin_eql bin_neq bin_add bin_sub bin_mul bin_seql bin_sneq un_not pick_ ext_ loadA_p cellAt_l cellAt_h okPtr_l okPtr_h fadA_p allocA_l storeA_l cells_agg cells_int cells_str cells_sl cells_bool flat_i flat_s flat_b flat_sl flat_nil loc_agg loc_int loc_str loc_sl loc_bool loc_fn loc_ptr okv_agg okv_int okv_str okv_sl okv_bool cellsFrom splice upd_eval argEnv_zero argEnv_succ ne_eq Nat.add_one_ne_zero not_false_eq_true List.not_mem_nil and_self decide_true List.getElem?_cons_zero List.getElem?_cons_succ List.size_toArray List.length_cons List.length_nil List.take_succ_cons List.take_zero List.drop_succ_cons List.drop_zero List.cons_append List.nil_append List.drop_nil Bool.not_true Bool.not_false Bool.false_eq_true Nat.zero_add Nat.add_zero wrap_in List.toList_toArray List.mem_cons or_self or_false false_or
attribute [local go_sem] ag22 ag23 ag25 ag26 ag28 ag3 ag34 ag36 ag38 ag40 ag59 ag68 ag69 ag9 bu59 bu69 by40 by59 by69 by9 el22 el23 el26 el31 el34 el38 el75 of25_0 of25_1 of28_0 of28_1 of28_2 of28_3 of36_0 of36_1 of40_0 of40_1 of40_2 of40_3 of59_0 of59_1 of68_0 of68_1 of68_2 of69_0 of69_1 of69_2 ro5_1 ro59_0 ro59_1 ro9_0 ro9_2 sz22 sz23 sz25 sz26 sz28 sz3 sz34 sz36 sz38 sz40 sz5 sz59 sz68 sz69 sz9 ze36 ze40 ze59 ze69 ze9

theorem Own.ext {e : TypeId} {st st' : St} {t : T} {cs : List Value} {L : List Nat} (h : Own e st t cs L) (hx : Ext st st') : Own e st' t cs L := Own.frame _ _ _ (fun i hi => hx.get (Own.lt _ _ _ h i hi)) h
theorem Own.other {e : TypeId} {st st' : St} {t : T} {cs : List Value} {L K : List Nat} (h : Own e st t cs L) (hot : ∀ i, i < st.length → i ∉ K → st'[i]? = st[i]?) (hd : ∀ i ∈ L, i ∉ K) : Own e st' t cs L := Own.frame _ _ _ (fun i hi => hot i (Own.lt _ _ _ h i hi) (hd i hi)) h
theorem Own.apart {e : TypeId} {st : St} {t : T} {cs : List Value} {L K : List Nat} (h : Own e st t cs L) (hf : Fresh st.length K) : ∀ i ∈ L, i ∉ K := fun i hi hk => by
  have h1 := Own.lt _ _ _ h i hi
  have h2 := hf.2 i hk
  omega
theorem Enc.other {st st' : St} {K : List Nat} {n : Nat} (hK : ∀ i ∈ K, n ≤ i) (hot : ∀ i, i < st.length → i ∉ K → st'[i]? = st[i]?) {st0 : St} (hn : st0.length ≤ n) (hx : Ext st0 st) (t : T) (cs : List Value) (h : Enc st0 t cs) : Enc st' t cs :=
  Enc.ext (Ext.of_get fun i hi => by
    have := hx.length
    rw [hot i (by omega) (fun hm => by have := hK i hm; omega), hx.get hi]) t cs h
theorem Ext.other {st st' : St} {K : List Nat} {n : Nat} (hK : ∀ i ∈ K, n ≤ i) (hot : ∀ i, i < st.length → i ∉ K → st'[i]? = st[i]?) {st0 : St} (hn : st0.length ≤ n) (hx : Ext st0 st) : Ext st0 st' :=
  Ext.of_get fun i hi => by
    have := hx.length
    rw [hot i (by omega) (fun hm => by have := hK i hm; omega), hx.get hi]
theorem Lim.le {B C : Nat} (hb : B ≤ C) : ∀ t : T, Lim B t → Lim C t := by
  refine T.ind fun k n nm args ih h => ?_
  exact .mk _ _ _ _ (by have := h.args.1; omega) fun a ha => ih a ha (h.args.2 a ha)
theorem T.mkL_wt : ∀ (xs : List T) (k : Nat), (∀ x ∈ xs, ∀ k, (x.mk1 k).2 ≤ k + 3 + 3 * x.wt) → (T.mkL xs k).2 ≤ k + 3 * xs.length + 3 * T.wtL xs := by
  intro xs
  induction xs with
  | nil => intro k _; simp [T.mkL, T.wtL]
  | cons x xs ih =>
    intro k h
    have h1 := h x (by simp) k
    have h2 := ih (x.mk1 k).2 (fun y hy => h y (by simp [hy]))
    simp only [T.mkL, T.wtL, List.length_cons]
    omega
theorem T.mk1_wt : ∀ (t : T) (k : Nat), (t.mk1 k).2 ≤ k + 3 + 3 * t.wt := by
  refine T.ind fun k0 n nm args ih k => ?_
  have h := T.mkL_wt args (k + 3) ih
  simp only [T.mk1, T.wt]
  omega
theorem T.mk0_wt (t : T) (k : Nat) : (t.mk0 k).2 ≤ k + 3 * t.wt := by
  obtain ⟨k0, n, nm, args⟩ := t
  have h := T.mkL_wt args k (fun x _ k => T.mk1_wt x k)
  simp only [T.mk0, T.wt]
  omega
theorem T.mk0_ge (t : T) (k : Nat) : k ≤ (t.mk0 k).2 := by
  obtain ⟨k0, n, nm, args⟩ := t
  exact T.mkL_ge args k
end Go.Proofs.Ytbenknjfncmbdaa.AM


/- Two substitutions do the same: SameSubst on both sides. -/
namespace Go.Proofs.Ytbenknjfncmbdaa.AM
open Go Go.Proofs
set_option linter.unusedVariables false
set_option linter.unusedSimpArgs false
set_option maxRecDepth 100000
attribute [local go_sem] List.map_cons List.map_nil List.all_cons List.all_nil Bool.and_self Option.map_some List.getElem?_toArray Option.bind_some gye_b gye_t gsk_b gsk_t gb1 gb2 gb3 gb4 bne_self_eq_false beq_self_eq_true w_guard w_nil stepV_some step_some step_some' w_move w_assign w_pick w_binOp w_unOp w_load w_fieldAddr w_indexAddr w_len w_max w_index ev_max max_int ev_index w_box w_alloc w_store w_field w_extract w_nilCheck w_convert w_buildSlice w_build ev_buildL fillL_nil fillL_cons bs0 bs1 ev_conv ev_bin ev_un ev_pick ev_load ev_fieldAddr ev_indexAddr ev_len ev_field ev_extract ev_nilCheck fr_tmp fr_int fr_bool fr_str fr_nil fr_func put_some put_none bin_lss bin_leq bin_gtr bin_geq bin_eql bin_neq bin_add bin_sub bin_mul bin_seql bin_sneq un_not pick_ ext_ loadA_p cellAt_l cellAt_h okPtr_l okPtr_h fadA_p allocA_l storeA_l cells_agg cells_int cells_str cells_sl cells_bool flat_i flat_s flat_b flat_sl flat_nil loc_agg loc_int loc_str loc_sl loc_bool loc_fn loc_ptr okv_agg okv_int okv_str okv_sl okv_bool cellsFrom splice upd_eval argEnv_zero argEnv_succ ne_eq Nat.add_one_ne_zero not_false_eq_true List.not_mem_nil and_self decide_true List.getElem?_cons_zero List.getElem?_cons_succ List.size_toArray List.length_cons List.length_nil List.take_succ_cons List.take_zero List.drop_succ_cons List.drop_zero List.cons_append List.nil_append List.drop_nil Bool.not_true Bool.not_false Bool.false_eq_true Nat.zero_add Nat.add_zero wrap_in List.toList_toArray List.mem_cons or_self or_false false_or
attribute [local go_sem] ag22 ag23 ag25 ag26 ag28 ag3 ag34 ag36 ag38 ag40 ag59 ag68 ag69 ag9 bu59 bu69 by40 by59 by69 by9 el22 el23 el26 el31 el34 el38 el75 of25_0 of25_1 of28_0 of28_1 of28_2 of28_3 of36_0 of36_1 of40_0 of40_1 of40_2 of40_3 of59_0 of59_1 of68_0 of68_1 of68_2 of69_0 of69_1 of69_2 ro5_1 ro59_0 ro59_1 ro9_0 ro9_2 sz22 sz23 sz25 sz26 sz28 sz3 sz34 sz36 sz38 sz40 sz5 sz59 sz68 sz69 sz9 ze36 ze40 ze59 ze69 ze9
-- AUTO

def T.var (nm : ByteArray) : T := .mk 1 0 nm []
theorem T.var_enc (st : St) (nm : ByteArray) : Enc st (T.var nm) [.int .i64 1, .int .i64 0, .string nm, .slice none 0 0] := Enc.close _ _ _ (.inl ⟨.inl rfl, rfl⟩)
theorem T.var_lim (nm : ByteArray) : Lim 1073741824 (T.var nm) := .mk _ _ _ _ (by simp) (by simp)
def sameAt (xs ys : List Bnd) (b : Bnd) : Bool := T.eqv (T.sub xs (T.var b.nm)) (T.sub ys (T.var b.nm))
def same (xs ys : List Bnd) : Bool := (xs ++ ys).all (sameAt xs ys)
theorem same_no {xs ys : List Bnd} {j : Nat} (h : j < (xs ++ ys).length) (hq : sameAt xs ys (xs ++ ys)[j] = false) : same xs ys = false := by
  unfold same
  rw [List.all_eq_false]
  exact ⟨_, List.getElem_mem h, by rw [hq]; simp⟩
theorem same_yes {xs ys : List Bnd} (h : ∀ j, (hj : j < (xs ++ ys).length) → sameAt xs ys (xs ++ ys)[j] = true) : same xs ys = true := by
  unfold same
  rw [List.all_eq_true]
  intro b hb
  obtain ⟨j, hj, rfl⟩ := List.mem_iff_getElem.1 hb
  exact h j hj
end Go.Proofs.Ytbenknjfncmbdaa.AM


/- List literals; l1Pick, l1PickInt, l3App. -/
namespace Go.Proofs.Ytbenknjfncmbdaa.AM
open Go Go.Proofs
set_option linter.unusedVariables false
set_option linter.unusedSimpArgs false
set_option maxRecDepth 100000
attribute [local go_sem] List.map_cons List.map_nil List.all_cons List.all_nil Bool.and_self Option.map_some List.getElem?_toArray Option.bind_some gye_b gye_t gsk_b gsk_t gb1 gb2 gb3 gb4 bne_self_eq_false beq_self_eq_true w_guard w_nil stepV_some step_some step_some' w_move w_assign w_pick w_binOp w_unOp w_load w_fieldAddr w_indexAddr w_len w_max w_index ev_max max_int ev_index w_box w_alloc w_store w_field w_extract w_nilCheck w_convert w_buildSlice w_build ev_buildL fillL_nil fillL_cons bs0 bs1 ev_conv ev_bin ev_un ev_pick ev_load ev_fieldAddr ev_indexAddr ev_len ev_field ev_extract ev_nilCheck fr_tmp fr_int fr_bool fr_str fr_nil fr_func put_some put_none bin_lss bin_leq bin_gtr bin_geq bin_eql bin_neq bin_add bin_sub bin_mul bin_seql bin_sneq un_not pick_ ext_ loadA_p cellAt_l cellAt_h okPtr_l okPtr_h fadA_p allocA_l storeA_l cells_agg cells_int cells_str cells_sl cells_bool flat_i flat_s flat_b flat_sl flat_nil loc_agg loc_int loc_str loc_sl loc_bool loc_fn loc_ptr okv_agg okv_int okv_str okv_sl okv_bool cellsFrom splice upd_eval argEnv_zero argEnv_succ ne_eq Nat.add_one_ne_zero not_false_eq_true List.not_mem_nil and_self decide_true List.getElem?_cons_zero List.getElem?_cons_succ List.size_toArray List.length_cons List.length_nil List.take_succ_cons List.take_zero List.drop_succ_cons List.drop_zero List.cons_append List.nil_append List.drop_nil Bool.not_true Bool.not_false Bool.false_eq_true Nat.zero_add Nat.add_zero wrap_in List.toList_toArray List.mem_cons or_self or_false false_or
attribute [local go_sem] ag22 ag23 ag25 ag26 ag28 ag3 ag34 ag36 ag38 ag40 ag59 ag68 ag69 ag9 bu59 bu69 by40 by59 by69 by9 el22 el23 el26 el31 el34 el38 el75 of25_0 of25_1 of28_0 of28_1 of28_2 of28_3 of36_0 of36_1 of40_0 of40_1 of40_2 of40_3 of59_0 of59_1 of68_0 of68_1 of68_2 of69_0 of69_1 of69_2 ro5_1 ro59_0 ro59_1 ro9_0 ro9_2 sz22 sz23 sz25 sz26 sz28 sz3 sz34 sz36 sz38 sz40 sz5 sz59 sz68 sz69 sz9 ze36 ze40 ze59 ze69 ze9
-- AUTO

/-- The parts of a list literal are laid in. -/
def fillK (sz : Nat) : List Value → List (Nat × Value) → Option (List Value)
  | z, [] => some z
  | z, (i, v) :: rest => if (vc v).size = sz ∧ i * sz + sz ≤ z.length then fillK sz (splice z (i * sz) (vc v).toList) rest else none
theorem fillK_nil {sz : Nat} {z : List Value} : fillK sz z [] = some z := rfl
theorem fillK_cons {sz i : Nat} {z : List Value} {v : Value} {rest : List (Nat × Value)} : fillK sz z ((i, v) :: rest) = if (vc v).size = sz ∧ i * sz + sz ≤ z.length then fillK sz (splice z (i * sz) (vc v).toList) rest else none := rfl
theorem fill_K (sz : Nat) : ∀ (ps : List (Nat × Value)) (z : List Value), Instr.fill (fun i => some (i * sz, sz)) z.toArray ps = (fillK sz z ps).map List.toArray := by
  intro ps
  induction ps with
  | nil => intro z; rfl
  | cons p ps ih =>
    intro z
    obtain ⟨i, v⟩ := p
    unfold Instr.fill fillK
    simp only
    unfold vc
    by_cases h : v.cells.size = sz ∧ i * sz + sz ≤ z.length
    · rw [if_pos h, if_neg (by simp; omega)]
      rw [← ih]
      congr 1
      have := fold_splice v.cells.toList z.toArray (i * sz) 0 (by simp; omega)
      rw [← Array.foldl_toList]
      simpa [Array.toList_zipIdx] using this
    · rw [if_neg h, if_pos (by simp; omega)]
      rfl
theorem bsL {P : Program} {H : List Tmp} {ρ : Operand → Value} {loc : Nat → Nat × List Value} {st : St} {t : TypeId} {n : Nat} {ps : Array (Nat × Operand)} {d : Option Tmp} {ty : TypeId} {p : String} {af : Array Edge} {g : Option (Nat × Bool)} : evalEff P H ⟨d, .buildSlice t n ps, ty, p, af, g⟩ ρ loc st = (match elemA P t with
    | some e => (match rowA P e n, szA P e with
      | some row, some sz => if ps.toList.all (fun p => okv (ρ p.2)) then (fillK sz row (ps.toList.map fun p => (p.1, ρ p.2))).map (fun l => (Value.slice (some ⟨st.length, 0, none⟩) n n, loc, st ++ [⟨l, e, 0⟩])) else none
      | _, _ => none)
    | none => none) := by
  simp only [evalEff]
  cases elemA P t with
  | none => rfl
  | some e =>
    simp only
    cases rowA P e n with
    | none => rfl
    | some row =>
      cases szA P e with
      | none => rfl
      | some sz =>
        simp only
        have h1 : (ps.all fun p => okv (ρ p.2)) = ps.toList.all (fun p => okv (ρ p.2)) := by rw [Array.all_toList]
        have h2 : (ps.map fun (i, x) => (i, ρ x)).toList = ps.toList.map fun p => (p.1, ρ p.2) := by simp
        rw [h1, h2, fill_K, Option.map_map]
        split
        · cases fillK sz row (ps.toList.map fun p => (p.1, ρ p.2)) <;> rfl
        · rfl
/-- A row stays where another block alone has turned. -/
theorem rw_away {st st' : St} {xs : List ByteArray} {s : Value} {q : Nat} (h : Rw st xs s) (ha : Away (some q) st st') (hn : topId s ≠ some q) : Rw st' xs s := by
  rcases h with h | ⟨i, o, c, rfl, h⟩
  · exact .inl h
  · refine .inr ⟨i, o, c, rfl, fun j x hx => ?_⟩
    obtain ⟨cs, h1, h2, h3⟩ := h j x hx
    refine ⟨cs, h1, h2, fun k v hv => ?_⟩
    have h4 := h3 k v hv
    have hi : i < st.length := by
      unfold cell at h4
      rcases Nat.lt_or_ge i st.length with h5 | h5
      · exact h5
      · rw [List.getElem?_eq_none h5] at h4; cases h4
    have h5 := ha.2 i hi (fun e => hn e.symm)
    unfold cell at h4 ⊢
    rw [h5]; exact h4
end Go.Proofs.Ytbenknjfncmbdaa.AM

