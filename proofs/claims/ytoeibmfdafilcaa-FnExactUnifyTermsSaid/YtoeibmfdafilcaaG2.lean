/- My texts for the law, laid together (part 2): K3 C11 C12 C13 C15 C16. -/
import Derived.Test.YtoeibmfdafilcaaG1
import Derived.Laws.Strings
namespace Go.Proofs.Ytoeibmfdafilcaa.AM
open Go
attribute [local go_sem] List.map_cons List.map_nil List.all_cons List.all_nil Bool.and_self Option.map_some List.getElem?_toArray Option.bind_some gye_b gye_t gsk_b gsk_t gb1 gb2 gb3 gb4 bne_self_eq_false beq_self_eq_true w_guard w_nil stepV_some step_some step_some' w_move w_assign w_pick w_binOp w_unOp w_load w_fieldAddr w_indexAddr w_len w_max w_index ev_max max_int ev_index w_box w_alloc w_store w_field w_extract w_nilCheck w_convert w_buildSlice w_build ev_buildL fillL_nil fillL_cons bs0 bs1 ev_conv ev_bin ev_un ev_pick ev_load ev_fieldAddr ev_indexAddr ev_len ev_field ev_extract ev_nilCheck fr_tmp fr_int fr_bool fr_str fr_nil fr_func put_some put_none bin_lss bin_leq bin_gtr bin_geq bin_eql bin_neq bin_add bin_sub bin_mul bin_seql bin_sneq un_not pick_ ext_ loadA_p cellAt_l cellAt_h okPtr_l okPtr_h fadA_p allocA_l storeA_l cells_agg cells_int cells_str cells_sl cells_bool flat_i flat_s flat_b flat_sl flat_nil loc_agg loc_int loc_str loc_sl loc_bool loc_fn loc_ptr okv_agg okv_int okv_str okv_sl okv_bool cellsFrom splice upd_eval argEnv_zero argEnv_succ ne_eq Nat.add_one_ne_zero not_false_eq_true List.not_mem_nil and_self decide_true List.getElem?_cons_zero List.getElem?_cons_succ List.size_toArray List.length_cons List.length_nil List.take_succ_cons List.take_zero List.drop_succ_cons List.drop_zero List.cons_append List.nil_append List.drop_nil Bool.not_true Bool.not_false Bool.false_eq_true Nat.zero_add Nat.add_zero wrap_in List.toList_toArray List.mem_cons or_self or_false false_or
attribute [local go_sem] ag22 ag24 ag26 ag29 ag3 ag31 ag49 ag54 ag9 ag91 bu31 bu41 bu49 bu54 by31 by49 by54 by9 el22 el26 el29 el45 el50 el68 of24_0 of24_1 of24_2 of24_3 of31_0 of31_1 of31_2 of31_3 of41_0 of41_1 of41_2 of49_0 of49_1 of54_0 of54_1 ro31_0 ro31_1 ro49_1 ro5_1 ro54_0 ro54_1 ro9_0 ro9_1 sz22 sz24 sz26 sz29 sz3 sz31 sz49 sz5 sz54 sz9 sz91 ze3 ze31 ze49 ze54 ze9 ze91
section
/- Rows of bindings: laws.szBind, szBindS, toBind, toBindS, eqBind, eqBindS, markBindS, heldBindS. -/
open Go Go.Proofs
set_option linter.unusedVariables false
set_option linter.unusedSimpArgs false
set_option maxRecDepth 100000
-- AUTO

theorem eqBind_ok (b : Bnd) (st : St) (cs ds : List Value) (hl : Lim 4611686018427387904 b.tm) (h : EncB st b cs) (h' : EncB st b ds) :
    CallS Try.prog 23 [.agg cs.toArray, .agg ds.toArray] st fun r st' => r = .bool true ∧ st' = st := by
  refine CallS_of_W [] 16 Try.func23 rfl rfl rfl rfl (by simp) ?_
  obtain ⟨k, n, m, args, s, htm, rfl, hr⟩ := h.open
  obtain ⟨k', n', m', args', s', htm', rfl, hr'⟩ := h'.open
  rw [htm] at htm'
  cases htm'
  have n1 := hr.notLoc.1
  have n2 := hr'.notLoc.1
  have hE := Enc.close k n m hr
  have hE' := Enc.close k n m hr'
  rw [htm] at hl
  repeat (first | ((first | refine W_reg rfl fun G K hG hK => ?_ | refine W_end rfl fun G K hG hK => ?_); simp (disch := omega) only [go_sem, ↓reduceIte, Nat.reduceEqDiff, Nat.reduceAdd, Nat.reduceLeDiff, hG]; refine hK _ _ ?_; clear hK K hG G) | refine W_seqS ?_ | refine W_seqC ?_ | refine W_seqB ?_ | refine W_block ?_ | refine W_skip ?_ | (refine W_condT ?hc ?_; (case hc => (simp (disch := omega) only [go_sem, ↓reduceIte, Nat.reduceEqDiff, Nat.reduceAdd, Nat.reduceLeDiff]; done))) | (refine W_condF ?hc ?_; (case hc => (simp (disch := omega) only [go_sem, ↓reduceIte, Nat.reduceEqDiff, Nat.reduceAdd, Nat.reduceLeDiff]; done))) | refine thenI ?_ | refine thenE ?_ | refine thenR ?_ | refine inBI ?_ | refine inBR ?_ | refine inBS ?_ | refine inBN (by decide) ?_)
  (repeat (first | refine W_seqS ?_ | refine W_seqC ?_ | refine W_seqB ?_ | refine W_block ?_)); refine W_reg rfl fun G K hG hK => ?_; simp (disch := omega) only [go_sem, ↓reduceIte, Nat.reduceEqDiff, Nat.reduceAdd, Nat.reduceLeDiff, hG]
  refine w_call (eqTerm_ok _ st _ _ hl hE hE') (by simp (disch := omega) only [go_sem, ↓reduceIte, Nat.reduceEqDiff]) ?hl ?_
  case hl => first | rfl | (simp only [go_sem, List.all_cons, List.all_nil, Bool.not_false, Bool.and_self]; done)
  rintro r_ s_ ⟨rfl, rfl⟩; refine ⟨fun e => (by cases e), ?_⟩
  simp (disch := omega) only [go_sem, ↓reduceIte, Nat.reduceEqDiff, Nat.reduceAdd, Nat.reduceLeDiff, hG]; refine hK _ _ ?_; clear hK K hG G; repeat (first | refine thenI ?_ | refine thenE ?_ | refine thenR ?_ | refine inBI ?_ | refine inBR ?_ | refine inBS ?_ | refine inBN (by decide) ?_)
  repeat (first | ((first | refine W_reg rfl fun G K hG hK => ?_ | refine W_end rfl fun G K hG hK => ?_); simp (disch := omega) only [go_sem, ↓reduceIte, Nat.reduceEqDiff, Nat.reduceAdd, Nat.reduceLeDiff, hG]; refine hK _ _ ?_; clear hK K hG G) | refine W_seqS ?_ | refine W_seqC ?_ | refine W_seqB ?_ | refine W_block ?_ | refine W_skip ?_ | (refine W_condT ?hc ?_; (case hc => (simp (disch := omega) only [go_sem, ↓reduceIte, Nat.reduceEqDiff, Nat.reduceAdd, Nat.reduceLeDiff]; done))) | (refine W_condF ?hc ?_; (case hc => (simp (disch := omega) only [go_sem, ↓reduceIte, Nat.reduceEqDiff, Nat.reduceAdd, Nat.reduceLeDiff]; done))) | refine thenI ?_ | refine thenE ?_ | refine thenR ?_ | refine inBI ?_ | refine inBR ?_ | refine inBS ?_ | refine inBN (by decide) ?_)
  refine W_ret ?_; try (repeat (first | refine thenI ?_ | refine thenE ?_ | refine thenR ?_ | refine inBI ?_ | refine inBR ?_ | refine inBS ?_ | refine inBN (by decide) ?_))
  refine fin1 (.inl rfl) (by (simp (disch := omega) only [go_sem, ↓reduceIte, Nat.reduceEqDiff, Nat.reduceAdd, Nat.reduceLeDiff]); try rfl) rfl ⟨rfl, rfl⟩

theorem eqBindS_ok (xs : List Bnd) (st : St) (s s' : Value) (hbig : xs.length ≤ 4611686018427387904) (hl : ∀ b ∈ xs, Lim 4611686018427387904 b.tm) (hr : Rw st xs s) (hr' : Rw st xs s') :
    CallS Try.prog 8 [s, s'] st fun r st' => r = .bool true ∧ st' = st := by
  refine CallS_of_W [] 27 Try.func8 rfl rfl rfl rfl (by simp) ?_
  have hlen : lenE Try.prog 26 s = some (.int .i64 xs.length) := row_len hr Try.underlying26
  have hlen' : lenE Try.prog 26 s' = some (.int .i64 xs.length) := row_len hr' Try.underlying26
  repeat (first | ((first | refine W_reg rfl fun G K hG hK => ?_ | refine W_end rfl fun G K hG hK => ?_); simp (disch := omega) only [go_sem, ↓reduceIte, Nat.reduceEqDiff, Nat.reduceAdd, Nat.reduceLeDiff, hG, hlen, hlen']; refine hK _ _ ?_; clear hK K hG G) | refine W_seqS ?_ | refine W_seqC ?_ | refine W_seqB ?_ | refine W_block ?_ | refine W_skip ?_ | (refine W_condT ?hc ?_; (case hc => (simp (disch := omega) only [go_sem, ↓reduceIte, Nat.reduceEqDiff, Nat.reduceAdd, Nat.reduceLeDiff, hlen, hlen']; done))) | (refine W_condF ?hc ?_; (case hc => (simp (disch := omega) only [go_sem, ↓reduceIte, Nat.reduceEqDiff, Nat.reduceAdd, Nat.reduceLeDiff, hlen, hlen']; done))) | refine thenI ?_ | refine thenE ?_ | refine thenR ?_ | refine inBI ?_ | refine inBR ?_ | refine inBS ?_ | refine inBN (by decide) ?_)
  refine W_loop (fun d fr st' => ∃ (j : Nat) , d = xs.length - j ∧ j ≤ xs.length ∧ (st' = st) ∧ (fr.env 5 = .int .i64 j) ∧ (fr.env 0 = s) ∧ (fr.env 1 = s')) (xs.length) ?_ ?_
  · exact ⟨0, by omega, by omega, rfl, (by (simp (disch := omega) only [go_sem, ↓reduceIte, Nat.reduceEqDiff, Nat.reduceAdd, Nat.reduceLeDiff, hlen, hlen']); try rfl), (by (simp (disch := omega) only [go_sem, ↓reduceIte, Nat.reduceEqDiff, Nat.reduceAdd, Nat.reduceLeDiff, hlen, hlen']); try rfl), (by (simp (disch := omega) only [go_sem, ↓reduceIte, Nat.reduceEqDiff, Nat.reduceAdd, Nat.reduceLeDiff, hlen, hlen']); try rfl)⟩
  rintro d ⟨env, loc⟩ st' ⟨j, hd, hj, hst, e5, e0, e1⟩
  simp only at e5 e0 e1
  subst hst
  by_cases hlt : j < xs.length
  · have c1 : decide ((j : Int) < (xs.length : Int)) = true := by simpa using hlt
    have hi := idxOk hlt
    have hx : xs[j]? = some xs[j] := List.getElem?_eq_getElem hlt
    have htk : xs.take (j + 1) = xs.take j ++ [xs[j]] := List.take_succ_eq_append_getElem hlt
    obtain ⟨i, o, c, k, m, nm, args, sx, rfl, htm, hrx, hcs⟩ := row_atB hr hx
    obtain ⟨i', o', c', k', m', nm', args', sx', rfl, htm', hrx', hcs'⟩ := row_atB hr' hx
    have hld := fun loc => load_row (A := []) (loc := loc) ag54 sz54 rfl hcs
    have hld' := fun loc => load_row (A := []) (loc := loc) ag54 sz54 rfl hcs'
    have nx := hrx.notLoc.1
    have nx' := hrx'.notLoc.1
    repeat (first | ((first | refine W_reg rfl fun G K hG hK => ?_ | refine W_end rfl fun G K hG hK => ?_); simp (disch := omega) only [go_sem, ↓reduceIte, Nat.reduceEqDiff, Nat.reduceAdd, Nat.reduceLeDiff, hG, hlen, hlen', e5, e0, e1, c1, hi, idxA, Int.toNat_natCast]; refine hK _ _ ?_; clear hK K hG G) | refine W_seqS ?_ | refine W_seqC ?_ | refine W_seqB ?_ | refine W_block ?_ | refine W_skip ?_ | (refine W_condT ?hc ?_; (case hc => (simp (disch := omega) only [go_sem, ↓reduceIte, Nat.reduceEqDiff, Nat.reduceAdd, Nat.reduceLeDiff, hlen, hlen', e5, e0, e1, c1, hi, idxA, Int.toNat_natCast]; done))) | (refine W_condF ?hc ?_; (case hc => (simp (disch := omega) only [go_sem, ↓reduceIte, Nat.reduceEqDiff, Nat.reduceAdd, Nat.reduceLeDiff, hlen, hlen', e5, e0, e1, c1, hi, idxA, Int.toNat_natCast]; done))) | refine thenI ?_ | refine thenE ?_ | refine thenR ?_ | refine inBI ?_ | refine inBR ?_ | refine inBS ?_ | refine inBN (by decide) ?_)
    (repeat (first | refine W_seqS ?_ | refine W_seqC ?_ | refine W_seqB ?_ | refine W_block ?_)); refine W_regD mixed [] [(0,false),(1,false),(2,false),(3,false),(4,false),(5,false),(6,false),(7,false),(8,false),(9,false)] rfl (by decide +kernel) fun G K hG hK => ?_; simp only [pickOps, List.filterMap_cons, List.filterMap_nil, List.getElem?_cons_zero, List.getElem?_cons_succ, Option.map_some]; simp (disch := omega) only [go_sem, ↓reduceIte, Nat.reduceEqDiff, Nat.reduceAdd, Nat.reduceLeDiff, hG, hlen, hlen', e5, e0, e1, c1, hi, idxA, Int.toNat_natCast, hld, hld']
    refine w_call (eqBind_ok xs[j] st' _ _ (hl _ (List.getElem_mem hlt)) ⟨_, rfl, by rw [htm]; exact Enc.close k m nm hrx⟩ ⟨_, rfl, by rw [htm']; exact Enc.close k' m' nm' hrx'⟩) (by simp (disch := omega) only [go_sem, ↓reduceIte, Nat.reduceEqDiff, hlen, hlen', e5, e0, e1, c1, hi, idxA, Int.toNat_natCast]) ?hl ?_
    case hl => first | rfl | (simp only [go_sem, List.all_cons, List.all_nil, Bool.not_false, Bool.and_self, hlen, hlen', e5, e0, e1, c1, hi, idxA, Int.toNat_natCast]; done)
    rintro r_ s_ ⟨rfl, rfl⟩; refine ⟨fun e => (by cases e), ?_⟩
    simp (disch := omega) only [go_sem, ↓reduceIte, Nat.reduceEqDiff, Nat.reduceAdd, Nat.reduceLeDiff, hG, hlen, hlen', e5, e0, e1, c1, hi, idxA, Int.toNat_natCast]; refine hK _ _ ?_; clear hK K hG G; repeat (first | refine thenI ?_ | refine thenE ?_ | refine thenR ?_ | refine inBI ?_ | refine inBR ?_ | refine inBS ?_ | refine inBN (by decide) ?_)
    repeat (first | ((first | refine W_reg rfl fun G K hG hK => ?_ | refine W_end rfl fun G K hG hK => ?_); simp (disch := omega) only [go_sem, ↓reduceIte, Nat.reduceEqDiff, Nat.reduceAdd, Nat.reduceLeDiff, hG, hlen, hlen', e5, e0, e1, c1, hi, idxA, Int.toNat_natCast]; refine hK _ _ ?_; clear hK K hG G) | refine W_seqS ?_ | refine W_seqC ?_ | refine W_seqB ?_ | refine W_block ?_ | refine W_skip ?_ | (refine W_condT ?hc ?_; (case hc => (simp (disch := omega) only [go_sem, ↓reduceIte, Nat.reduceEqDiff, Nat.reduceAdd, Nat.reduceLeDiff, hlen, hlen', e5, e0, e1, c1, hi, idxA, Int.toNat_natCast]; done))) | (refine W_condF ?hc ?_; (case hc => (simp (disch := omega) only [go_sem, ↓reduceIte, Nat.reduceEqDiff, Nat.reduceAdd, Nat.reduceLeDiff, hlen, hlen', e5, e0, e1, c1, hi, idxA, Int.toNat_natCast]; done))) | refine thenI ?_ | refine thenE ?_ | refine thenR ?_ | refine inBI ?_ | refine inBR ?_ | refine inBS ?_ | refine inBN (by decide) ?_)
    refine ⟨xs.length - (j + 1), by omega, j + 1, rfl, by omega, rfl, (by (simp (disch := omega) only [go_sem, ↓reduceIte, Nat.reduceEqDiff, Nat.reduceAdd, Nat.reduceLeDiff, hlen, hlen', e5, e0, e1, c1, hi, idxA, Int.toNat_natCast]); try rfl), (by (simp (disch := omega) only [go_sem, ↓reduceIte, Nat.reduceEqDiff, Nat.reduceAdd, Nat.reduceLeDiff, hlen, hlen', e5, e0, e1, c1, hi, idxA, Int.toNat_natCast]); try rfl), (by (simp (disch := omega) only [go_sem, ↓reduceIte, Nat.reduceEqDiff, Nat.reduceAdd, Nat.reduceLeDiff, hlen, hlen', e5, e0, e1, c1, hi, idxA, Int.toNat_natCast]); try rfl)⟩
  · have c1 : decide ((j : Int) < (xs.length : Int)) = false := by simpa using hlt
    have hjn : j = xs.length := by omega
    subst hjn
    repeat (first | ((first | refine W_reg rfl fun G K hG hK => ?_ | refine W_end rfl fun G K hG hK => ?_); simp (disch := omega) only [go_sem, ↓reduceIte, Nat.reduceEqDiff, Nat.reduceAdd, Nat.reduceLeDiff, hG, hlen, hlen', e5, e0, e1, c1]; refine hK _ _ ?_; clear hK K hG G) | refine W_seqS ?_ | refine W_seqC ?_ | refine W_seqB ?_ | refine W_block ?_ | refine W_skip ?_ | (refine W_condT ?hc ?_; (case hc => (simp (disch := omega) only [go_sem, ↓reduceIte, Nat.reduceEqDiff, Nat.reduceAdd, Nat.reduceLeDiff, hlen, hlen', e5, e0, e1, c1]; done))) | (refine W_condF ?hc ?_; (case hc => (simp (disch := omega) only [go_sem, ↓reduceIte, Nat.reduceEqDiff, Nat.reduceAdd, Nat.reduceLeDiff, hlen, hlen', e5, e0, e1, c1]; done))) | refine thenI ?_ | refine thenE ?_ | refine thenR ?_ | refine inBI ?_ | refine inBR ?_ | refine inBS ?_ | refine inBN (by decide) ?_)
    refine W_exit ?_; repeat (first | refine thenI ?_ | refine thenE ?_ | refine thenR ?_ | refine inBI ?_ | refine inBR ?_ | refine inBS ?_ | refine inBN (by decide) ?_)
    repeat (first | ((first | refine W_reg rfl fun G K hG hK => ?_ | refine W_end rfl fun G K hG hK => ?_); simp (disch := omega) only [go_sem, ↓reduceIte, Nat.reduceEqDiff, Nat.reduceAdd, Nat.reduceLeDiff, hG, hlen, hlen', e5, e0, e1, c1]; refine hK _ _ ?_; clear hK K hG G) | refine W_seqS ?_ | refine W_seqC ?_ | refine W_seqB ?_ | refine W_block ?_ | refine W_skip ?_ | (refine W_condT ?hc ?_; (case hc => (simp (disch := omega) only [go_sem, ↓reduceIte, Nat.reduceEqDiff, Nat.reduceAdd, Nat.reduceLeDiff, hlen, hlen', e5, e0, e1, c1]; done))) | (refine W_condF ?hc ?_; (case hc => (simp (disch := omega) only [go_sem, ↓reduceIte, Nat.reduceEqDiff, Nat.reduceAdd, Nat.reduceLeDiff, hlen, hlen', e5, e0, e1, c1]; done))) | refine thenI ?_ | refine thenE ?_ | refine thenR ?_ | refine inBI ?_ | refine inBR ?_ | refine inBS ?_ | refine inBN (by decide) ?_)
    refine W_ret ?_; try (repeat (first | refine thenI ?_ | refine thenE ?_ | refine thenR ?_ | refine inBI ?_ | refine inBR ?_ | refine inBS ?_ | refine inBN (by decide) ?_))
    refine fin1 (.inl rfl) (by (simp (disch := omega) only [go_sem, ↓reduceIte, Nat.reduceEqDiff, Nat.reduceAdd, Nat.reduceLeDiff, hlen, hlen', e5, e0, e1, c1]); try rfl) rfl ⟨rfl, rfl⟩

theorem markBindS_ok (xs : List Bnd) (st : St) (s : Value) (L : List Nat) (k : Nat) (hbig : xs.length ≤ 1073741824) (hl : ∀ b ∈ xs, Lim 1073741824 b.tm) (hk : (mkL xs k).2 ≤ 4611686018427380000) (hs : Sl st xs s L) (hnd : L.Nodup) :
    CallS Try.prog 11 [s, .int .i64 k] st fun r st2 => r = .int .i64 (mkL xs k).2 ∧ Sl st2 (mkL xs k).1 s L ∧ st.length ≤ st2.length ∧ ∀ i, i < st.length → i ∉ L → st2[i]? = st[i]? := by
  refine CallS_of_W [] 54 Try.func11 rfl rfl rfl rfl (by simp) ?_
  repeat (first | ((first | refine W_reg rfl fun G K hG hK => ?_ | refine W_end rfl fun G K hG hK => ?_); simp (disch := omega) only [go_sem, ↓reduceIte, Nat.reduceEqDiff, Nat.reduceAdd, Nat.reduceLeDiff, hG]; refine hK _ _ ?_; clear hK K hG G) | refine W_seqS ?_ | refine W_seqC ?_ | refine W_seqB ?_ | refine W_block ?_ | refine W_skip ?_ | (refine W_condT ?hc ?_; (case hc => (simp (disch := omega) only [go_sem, ↓reduceIte, Nat.reduceEqDiff, Nat.reduceAdd, Nat.reduceLeDiff]; done))) | (refine W_condF ?hc ?_; (case hc => (simp (disch := omega) only [go_sem, ↓reduceIte, Nat.reduceEqDiff, Nat.reduceAdd, Nat.reduceLeDiff]; done))) | refine thenI ?_ | refine thenE ?_ | refine thenR ?_ | refine inBI ?_ | refine inBR ?_ | refine inBS ?_ | refine inBN (by decide) ?_)
  refine W_loop (fun d fr st' => ∃ (j : Nat) , d = xs.length - j ∧ j ≤ xs.length ∧ (MarkSt xs k st s L j st') ∧ (fr.env 5 = .int .i64 j) ∧ (fr.env 0 = s) ∧ (fr.env 1 = .int .i64 (mkL (xs.take j) k).2)) (xs.length) ?_ ?_
  · exact ⟨0, by omega, by omega, .start hs, (by (simp (disch := omega) only [go_sem, ↓reduceIte, Nat.reduceEqDiff, Nat.reduceAdd, Nat.reduceLeDiff]); try rfl), (by (simp (disch := omega) only [go_sem, ↓reduceIte, Nat.reduceEqDiff, Nat.reduceAdd, Nat.reduceLeDiff]); try rfl), (by (simp (disch := omega) only [go_sem, ↓reduceIte, Nat.reduceEqDiff, Nat.reduceAdd, Nat.reduceLeDiff]); try rfl)⟩
  rintro d ⟨env, loc⟩ st' ⟨j, hd, hj, hm, e5, e0, e1⟩
  simp only at e5 e0 e1
  have hlen : lenE Try.prog 26 s = some (.int .i64 xs.length) := hm.len hj Try.underlying26
  by_cases hlt : j < xs.length
  · have c1 : decide ((j : Int) < (xs.length : Int)) = true := by simpa using hlt
    have hi := idxOk hlt
    have hx : xs[j]? = some xs[j] := List.getElem?_eq_getElem hlt
    have htk : xs.take (j + 1) = xs.take j ++ [xs[j]] := List.take_succ_eq_append_getElem hlt
    obtain ⟨_, hkb⟩ := mkL_at hlt k
    obtain ⟨i, c, l1, cx, l2, L1, Lx, L2, rfl, hL, hb, hcl, ho, hndx, hix, hib, hstep⟩ := hm.open hnd hlt
    have hsn := congrArg Prod.snd (mkL_snoc hlt k)
    generalize (mkL (xs.take j) k).2 = kj at *
    obtain ⟨k0, n0, m0, args, s', htm, rfl, hsx⟩ := OwnB.open ho
    have hlb := hl _ (List.getElem_mem hlt)
    rw [htm] at hlb
    rw [mk1_B htm] at hkb hsn hstep
    simp only at hkb hsn hstep
    have hkg := T.mkL_ge args (kj + 4)
    have hcl : l1.length = j * 5 := hcl
    have hb : st'[i]? = some ⟨l1 ++ .string xs[j].nm :: .int .i64 k0 :: .int .i64 n0 :: .string m0 :: s' :: l2, 54, 0⟩ := by rw [hb]; simp; rfl
    have w1 : IntKind.i64.wrap ((kj : Int) + 1) = ((kj + 1 : Nat) : Int) := by rw [wrap_in (by omega) (by omega)]; omega
    have w2 : IntKind.i64.wrap (((kj + 1 : Nat) : Int) + 1) = ((kj + 2 : Nat) : Int) := by rw [wrap_in (by omega) (by omega)]; omega
    have w3 : IntKind.i64.wrap (((kj + 2 : Nat) : Int) + 1) = ((kj + 3 : Nat) : Int) := by rw [wrap_in (by omega) (by omega)]; omega
    have w4 : IntKind.i64.wrap (((kj + 3 : Nat) : Int) + 1) = ((kj + 4 : Nat) : Int) := by rw [wrap_in (by omega) (by omega)]; omega
    repeat (first | ((first | refine W_reg rfl fun G K hG hK => ?_ | refine W_end rfl fun G K hG hK => ?_); simp (disch := omega) only [go_sem, ↓reduceIte, Nat.reduceEqDiff, Nat.reduceAdd, Nat.reduceLeDiff, hG, e5, e0, e1, c1, hi, idxA, Int.toNat_natCast, hlen, w1, w2, w3, w4]; refine hK _ _ ?_; clear hK K hG G) | refine W_seqS ?_ | refine W_seqC ?_ | refine W_seqB ?_ | refine W_block ?_ | refine W_skip ?_ | (refine W_condT ?hc ?_; (case hc => (simp (disch := omega) only [go_sem, ↓reduceIte, Nat.reduceEqDiff, Nat.reduceAdd, Nat.reduceLeDiff, e5, e0, e1, c1, hi, idxA, Int.toNat_natCast, hlen, w1, w2, w3, w4]; done))) | (refine W_condF ?hc ?_; (case hc => (simp (disch := omega) only [go_sem, ↓reduceIte, Nat.reduceEqDiff, Nat.reduceAdd, Nat.reduceLeDiff, e5, e0, e1, c1, hi, idxA, Int.toNat_natCast, hlen, w1, w2, w3, w4]; done))) | refine thenI ?_ | refine thenE ?_ | refine thenR ?_ | refine inBI ?_ | refine inBR ?_ | refine inBS ?_ | refine inBN (by decide) ?_)
    (repeat (first | refine W_seqS ?_ | refine W_seqC ?_ | refine W_seqB ?_ | refine W_block ?_)); refine W_reg rfl fun G K hG hK => ?_; simp (disch := omega) only [go_sem, ↓reduceIte, Nat.reduceEqDiff, Nat.reduceAdd, Nat.reduceLeDiff, hG, e5, e0, e1, c1, hi, idxA, Int.toNat_natCast, hlen, w1, w2, w3, w4]
    refine w_call (markText_ok kj st' (by omega)) (by simp (disch := omega) only [go_sem, ↓reduceIte, Nat.reduceEqDiff, e5, e0, e1, c1, hi, idxA, Int.toNat_natCast, hlen, w1, w2, w3, w4]) ?hl ?_
    case hl => first | rfl | (simp only [go_sem, List.all_cons, List.all_nil, Bool.not_false, Bool.and_self, e5, e0, e1, c1, hi, idxA, Int.toNat_natCast, hlen, w1, w2, w3, w4]; done)
    rintro r_ sa ⟨hx1, rfl⟩; refine ⟨fun e => (by cases e), ?_⟩
    obtain ⟨st1, k1, hb1, hn1, hf1⟩ := store_at (.string (mtext kj)) (o := j * 5) sz9 (hx1 _ _ hb) hcl rfl rfl
    obtain ⟨st2, k2, hb2, hn2, hf2⟩ := store_at (e := 54) (c1 := l1 ++ [.string (mtext kj)]) (c2 := .int .i64 n0 :: .string m0 :: s' :: l2) (.int .i64 (kj + 1 : Nat)) (st := st1) (x := .int .i64 k0) (o := j * 5 + 1) sz3 (by rw [hb1]; simp) (by simp; omega) rfl rfl
    obtain ⟨st3, k3, hb3, hn3, hf3⟩ := store_at (e := 54) (c1 := l1 ++ [.string (mtext kj), .int .i64 (kj + 1 : Nat)]) (c2 := .string m0 :: s' :: l2) (.int .i64 (kj + 2 : Nat)) (st := st2) (x := .int .i64 n0) (o := j * 5 + 1 + 1) sz3 (by rw [hb2]; simp) (by simp; omega) rfl rfl
    simp (disch := omega) only [go_sem, ↓reduceIte, Nat.reduceEqDiff, Nat.reduceAdd, Nat.reduceLeDiff, hG, e5, e0, e1, c1, hi, idxA, Int.toNat_natCast, hlen, w1, w2, w3, w4, k1]; refine hK _ _ ?_; clear hK K hG G; repeat (first | refine thenI ?_ | refine thenE ?_ | refine thenR ?_ | refine inBI ?_ | refine inBR ?_ | refine inBS ?_ | refine inBN (by decide) ?_)
    repeat (first | ((first | refine W_reg rfl fun G K hG hK => ?_ | refine W_end rfl fun G K hG hK => ?_); simp (disch := omega) only [go_sem, ↓reduceIte, Nat.reduceEqDiff, Nat.reduceAdd, Nat.reduceLeDiff, hG, e5, e0, e1, c1, hi, idxA, Int.toNat_natCast, hlen, w1, w2, w3, w4, k2, k3]; refine hK _ _ ?_; clear hK K hG G) | refine W_seqS ?_ | refine W_seqC ?_ | refine W_seqB ?_ | refine W_block ?_ | refine W_skip ?_ | (refine W_condT ?hc ?_; (case hc => (simp (disch := omega) only [go_sem, ↓reduceIte, Nat.reduceEqDiff, Nat.reduceAdd, Nat.reduceLeDiff, e5, e0, e1, c1, hi, idxA, Int.toNat_natCast, hlen, w1, w2, w3, w4, k2, k3]; done))) | (refine W_condF ?hc ?_; (case hc => (simp (disch := omega) only [go_sem, ↓reduceIte, Nat.reduceEqDiff, Nat.reduceAdd, Nat.reduceLeDiff, e5, e0, e1, c1, hi, idxA, Int.toNat_natCast, hlen, w1, w2, w3, w4, k2, k3]; done))) | refine thenI ?_ | refine thenE ?_ | refine thenR ?_ | refine inBI ?_ | refine inBR ?_ | refine inBS ?_ | refine inBN (by decide) ?_)
    (repeat (first | refine W_seqS ?_ | refine W_seqC ?_ | refine W_seqB ?_ | refine W_block ?_)); refine W_reg rfl fun G K hG hK => ?_; simp (disch := omega) only [go_sem, ↓reduceIte, Nat.reduceEqDiff, Nat.reduceAdd, Nat.reduceLeDiff, hG, e5, e0, e1, c1, hi, idxA, Int.toNat_natCast, hlen, w1, w2, w3, w4]
    refine w_call (markText_ok (kj + 3) st3 (by omega)) (by simp (disch := omega) only [go_sem, ↓reduceIte, Nat.reduceEqDiff, e5, e0, e1, c1, hi, idxA, Int.toNat_natCast, hlen, w1, w2, w3, w4]) ?hl ?_
    case hl => first | rfl | (simp only [go_sem, List.all_cons, List.all_nil, Bool.not_false, Bool.and_self, e5, e0, e1, c1, hi, idxA, Int.toNat_natCast, hlen, w1, w2, w3, w4]; done)
    rintro r_ sb ⟨hx2, rfl⟩; refine ⟨fun e => (by cases e), ?_⟩
    obtain ⟨st4, k4, hb4, hn4, hf4⟩ := store_at (e := 54) (c1 := l1 ++ [.string (mtext kj), .int .i64 (kj + 1 : Nat), .int .i64 (kj + 2 : Nat)]) (c2 := s' :: l2) (.string (mtext (kj + 3))) (st := sb) (x := .string m0) (o := j * 5 + 1 + 2) sz9 (by rw [hx2 _ _ hb3]; simp) (by simp; omega) rfl rfl
    simp (disch := omega) only [go_sem, ↓reduceIte, Nat.reduceEqDiff, Nat.reduceAdd, Nat.reduceLeDiff, hG, e5, e0, e1, c1, hi, idxA, Int.toNat_natCast, hlen, w1, w2, w3, w4, k4]; refine hK _ _ ?_; clear hK K hG G; repeat (first | refine thenI ?_ | refine thenE ?_ | refine thenR ?_ | refine inBI ?_ | refine inBR ?_ | refine inBS ?_ | refine inBN (by decide) ?_)
    repeat (first | ((first | refine W_reg rfl fun G K hG hK => ?_ | refine W_end rfl fun G K hG hK => ?_); simp (disch := omega) only [go_sem, ↓reduceIte, Nat.reduceEqDiff, Nat.reduceAdd, Nat.reduceLeDiff, hG, e5, e0, e1, c1, hi, idxA, Int.toNat_natCast, hlen, w1, w2, w3, w4]; refine hK _ _ ?_; clear hK K hG G) | refine W_seqS ?_ | refine W_seqC ?_ | refine W_seqB ?_ | refine W_block ?_ | refine W_skip ?_ | (refine W_condT ?hc ?_; (case hc => (simp (disch := omega) only [go_sem, ↓reduceIte, Nat.reduceEqDiff, Nat.reduceAdd, Nat.reduceLeDiff, e5, e0, e1, c1, hi, idxA, Int.toNat_natCast, hlen, w1, w2, w3, w4]; done))) | (refine W_condF ?hc ?_; (case hc => (simp (disch := omega) only [go_sem, ↓reduceIte, Nat.reduceEqDiff, Nat.reduceAdd, Nat.reduceLeDiff, e5, e0, e1, c1, hi, idxA, Int.toNat_natCast, hlen, w1, w2, w3, w4]; done))) | refine thenI ?_ | refine thenE ?_ | refine thenR ?_ | refine inBI ?_ | refine inBR ?_ | refine inBS ?_ | refine inBN (by decide) ?_)
    have hc5 : cell st4 i (j * 5 + 1 + 3) = some s' := cell_mid (e := 54) (c2 := l2) (c1 := l1 ++ [.string (mtext kj), .int .i64 (kj + 1 : Nat), .int .i64 (kj + 2 : Nat), .string (mtext (kj + 3))]) (by rw [hb4]; simp) (by simp; omega)
    have hlts := hsx.lt fun x cx Lx h => Own.lt x cx Lx h
    have hg1 : ∀ q, q ≠ i → q < st'.length → st4[q]? = st'[q]? := fun q hq hql => by
      have := hx1.length; have := hx2.length
      rw [hf4 q hq, hx2.get (by omega), hf3 q hq, hf2 q hq, hf1 q hq, hx1.get hql]
    have hsx4 := hsx.frame (E := fun st => Own 31 st) (st' := st4) (fun _ _ => Own.frame) (fun q hq => hg1 q (fun e => hix (e ▸ hq)) (hlts q hq))
    have hlb' := hsx.loc
    refine W_end rfl fun G K hG hK => ?_; simp (disch := omega) only [go_sem, ↓reduceIte, Nat.reduceEqDiff, Nat.reduceAdd, Nat.reduceLeDiff, hG, e5, e0, e1, c1, hi, idxA, Int.toNat_natCast, hlen, w1, w2, w3, w4, hc5, ag29]
    refine w_call (markTermS_ok _ k0 n0 m0 args st4 s' Lx (kj + 4) rfl hlb (by omega) hsx4 hndx) (by simp (disch := omega) only [go_sem, ↓reduceIte, Nat.reduceEqDiff, e5, e0, e1, c1, hi, idxA, Int.toNat_natCast, hlen, w1, w2, w3, w4, hlb']) ?hl ?_
    case hl => first | rfl | (simp only [go_sem, List.all_cons, List.all_nil, Bool.not_false, Bool.and_self, e5, e0, e1, c1, hi, idxA, Int.toNat_natCast, hlen, w1, w2, w3, w4, hlb']; done)
    rintro r_ sc ⟨rfl, hsn2, hle2, hot2⟩; refine ⟨fun e => (by cases e), ?_⟩
    simp (disch := omega) only [go_sem, ↓reduceIte, Nat.reduceEqDiff, Nat.reduceAdd, Nat.reduceLeDiff, hG, e5, e0, e1, c1, hi, idxA, Int.toNat_natCast, hlen, w1, w2, w3, w4]; refine hK _ _ ?_; clear hK K hG G; repeat (first | refine thenI ?_ | refine thenE ?_ | refine thenR ?_ | refine inBI ?_ | refine inBR ?_ | refine inBS ?_ | refine inBN (by decide) ?_)
    repeat (first | ((first | refine W_reg rfl fun G K hG hK => ?_ | refine W_end rfl fun G K hG hK => ?_); simp (disch := omega) only [go_sem, ↓reduceIte, Nat.reduceEqDiff, Nat.reduceAdd, Nat.reduceLeDiff, hG, e5, e0, e1, c1, hi, idxA, Int.toNat_natCast, hlen, w1, w2, w3, w4]; refine hK _ _ ?_; clear hK K hG G) | refine W_seqS ?_ | refine W_seqC ?_ | refine W_seqB ?_ | refine W_block ?_ | refine W_skip ?_ | (refine W_condT ?hc ?_; (case hc => (simp (disch := omega) only [go_sem, ↓reduceIte, Nat.reduceEqDiff, Nat.reduceAdd, Nat.reduceLeDiff, e5, e0, e1, c1, hi, idxA, Int.toNat_natCast, hlen, w1, w2, w3, w4]; done))) | (refine W_condF ?hc ?_; (case hc => (simp (disch := omega) only [go_sem, ↓reduceIte, Nat.reduceEqDiff, Nat.reduceAdd, Nat.reduceLeDiff, e5, e0, e1, c1, hi, idxA, Int.toNat_natCast, hlen, w1, w2, w3, w4]; done))) | refine thenI ?_ | refine thenE ?_ | refine thenR ?_ | refine inBI ?_ | refine inBR ?_ | refine inBS ?_ | refine inBN (by decide) ?_)
    have hq1 := hx1.length
    have hq2 := hx2.length
    refine ⟨xs.length - (j + 1), by omega, j + 1, rfl, by omega, hstep sc [.string (mtext kj), .int .i64 (kj + 1 : Nat), .int .i64 (kj + 2 : Nat), .string (mtext (kj + 3)), s'] (by rw [hot2 i (by omega) hix, hb4]; simp; rfl) (by omega) ⟨_, rfl, Own.close _ _ _ hsn2⟩ fun q hq h h2 => by rw [hot2 q (by omega) h2, hg1 q h hq], (by (simp (disch := omega) only [go_sem, ↓reduceIte, Nat.reduceEqDiff, Nat.reduceAdd, Nat.reduceLeDiff, e5, e0, e1, c1, hi, idxA, Int.toNat_natCast, hlen, w1, w2, w3, w4, hsn]); try rfl), (by (simp (disch := omega) only [go_sem, ↓reduceIte, Nat.reduceEqDiff, Nat.reduceAdd, Nat.reduceLeDiff, e5, e0, e1, c1, hi, idxA, Int.toNat_natCast, hlen, w1, w2, w3, w4, hsn]); try rfl), (by (simp (disch := omega) only [go_sem, ↓reduceIte, Nat.reduceEqDiff, Nat.reduceAdd, Nat.reduceLeDiff, e5, e0, e1, c1, hi, idxA, Int.toNat_natCast, hlen, w1, w2, w3, w4, hsn]); try rfl)⟩
  · have c1 : decide ((j : Int) < (xs.length : Int)) = false := by simpa using hlt
    have hjn : j = xs.length := by omega
    subst hjn
    repeat (first | ((first | refine W_reg rfl fun G K hG hK => ?_ | refine W_end rfl fun G K hG hK => ?_); simp (disch := omega) only [go_sem, ↓reduceIte, Nat.reduceEqDiff, Nat.reduceAdd, Nat.reduceLeDiff, hG, e5, e0, e1, c1, hlen]; refine hK _ _ ?_; clear hK K hG G) | refine W_seqS ?_ | refine W_seqC ?_ | refine W_seqB ?_ | refine W_block ?_ | refine W_skip ?_ | (refine W_condT ?hc ?_; (case hc => (simp (disch := omega) only [go_sem, ↓reduceIte, Nat.reduceEqDiff, Nat.reduceAdd, Nat.reduceLeDiff, e5, e0, e1, c1, hlen]; done))) | (refine W_condF ?hc ?_; (case hc => (simp (disch := omega) only [go_sem, ↓reduceIte, Nat.reduceEqDiff, Nat.reduceAdd, Nat.reduceLeDiff, e5, e0, e1, c1, hlen]; done))) | refine thenI ?_ | refine thenE ?_ | refine thenR ?_ | refine inBI ?_ | refine inBR ?_ | refine inBS ?_ | refine inBN (by decide) ?_)
    refine W_exit ?_; repeat (first | refine thenI ?_ | refine thenE ?_ | refine thenR ?_ | refine inBI ?_ | refine inBR ?_ | refine inBS ?_ | refine inBN (by decide) ?_)
    repeat (first | ((first | refine W_reg rfl fun G K hG hK => ?_ | refine W_end rfl fun G K hG hK => ?_); simp (disch := omega) only [go_sem, ↓reduceIte, Nat.reduceEqDiff, Nat.reduceAdd, Nat.reduceLeDiff, hG, e5, e0, e1, c1]; refine hK _ _ ?_; clear hK K hG G) | refine W_seqS ?_ | refine W_seqC ?_ | refine W_seqB ?_ | refine W_block ?_ | refine W_skip ?_ | (refine W_condT ?hc ?_; (case hc => (simp (disch := omega) only [go_sem, ↓reduceIte, Nat.reduceEqDiff, Nat.reduceAdd, Nat.reduceLeDiff, e5, e0, e1, c1]; done))) | (refine W_condF ?hc ?_; (case hc => (simp (disch := omega) only [go_sem, ↓reduceIte, Nat.reduceEqDiff, Nat.reduceAdd, Nat.reduceLeDiff, e5, e0, e1, c1]; done))) | refine thenI ?_ | refine thenE ?_ | refine thenR ?_ | refine inBI ?_ | refine inBR ?_ | refine inBS ?_ | refine inBN (by decide) ?_)
    refine W_ret ?_; try (repeat (first | refine thenI ?_ | refine thenE ?_ | refine thenR ?_ | refine inBI ?_ | refine inBR ?_ | refine inBS ?_ | refine inBN (by decide) ?_))
    refine fin1 (.inl rfl) (by (simp (disch := omega) only [go_sem, ↓reduceIte, Nat.reduceEqDiff, Nat.reduceAdd, Nat.reduceLeDiff, e5, e0, e1, c1, List.take_length]); try rfl) rfl ⟨rfl, hm.stop, hm.le, hm.oth⟩

theorem heldBindS_ok (xs : List Bnd) (st : St) (s : Value) (k : Nat) (hbig : xs.length ≤ 1073741824) (hl : ∀ b ∈ xs, Lim 1073741824 b.tm) (hk : (mkL xs k).2 ≤ 4611686018427380000) (hr : Rw st (mkL xs k).1 s) :
    CallS Try.prog 12 [s, .int .i64 k] st fun r st2 => Ext st st2 ∧ r = .int .i64 (mkL xs k).2 := by
  refine CallS_of_W [] 64 Try.func12 rfl rfl rfl rfl (by simp) ?_
  have hlen : lenE Try.prog 26 s = some (.int .i64 xs.length) := by have := row_len hr Try.underlying26; rwa [mkL_len] at this
  repeat (first | ((first | refine W_reg rfl fun G K hG hK => ?_ | refine W_end rfl fun G K hG hK => ?_); simp (disch := omega) only [go_sem, ↓reduceIte, Nat.reduceEqDiff, Nat.reduceAdd, Nat.reduceLeDiff, hG, hlen]; refine hK _ _ ?_; clear hK K hG G) | refine W_seqS ?_ | refine W_seqC ?_ | refine W_seqB ?_ | refine W_block ?_ | refine W_skip ?_ | (refine W_condT ?hc ?_; (case hc => (simp (disch := omega) only [go_sem, ↓reduceIte, Nat.reduceEqDiff, Nat.reduceAdd, Nat.reduceLeDiff, hlen]; done))) | (refine W_condF ?hc ?_; (case hc => (simp (disch := omega) only [go_sem, ↓reduceIte, Nat.reduceEqDiff, Nat.reduceAdd, Nat.reduceLeDiff, hlen]; done))) | refine thenI ?_ | refine thenE ?_ | refine thenR ?_ | refine inBI ?_ | refine inBR ?_ | refine inBS ?_ | refine inBN (by decide) ?_)
  refine W_loop (fun d fr st' => ∃ (j : Nat) , d = xs.length - j ∧ j ≤ xs.length ∧ (Ext st st') ∧ (fr.env 5 = .int .i64 j) ∧ (fr.env 0 = s) ∧ (fr.env 1 = .int .i64 (mkL (xs.take j) k).2)) (xs.length) ?_ ?_
  · exact ⟨0, by omega, by omega, Ext.refl _, (by (simp (disch := omega) only [go_sem, ↓reduceIte, Nat.reduceEqDiff, Nat.reduceAdd, Nat.reduceLeDiff, hlen]); try rfl), (by (simp (disch := omega) only [go_sem, ↓reduceIte, Nat.reduceEqDiff, Nat.reduceAdd, Nat.reduceLeDiff, hlen]); try rfl), (by (simp (disch := omega) only [go_sem, ↓reduceIte, Nat.reduceEqDiff, Nat.reduceAdd, Nat.reduceLeDiff, hlen]); try rfl)⟩
  rintro d ⟨env, loc⟩ st' ⟨j, hd, hj, hext, e5, e0, e1⟩
  simp only at e5 e0 e1
  by_cases hlt : j < xs.length
  · have c1 : decide ((j : Int) < (xs.length : Int)) = true := by simpa using hlt
    have hi := idxOk hlt
    have hx : xs[j]? = some xs[j] := List.getElem?_eq_getElem hlt
    have htk : xs.take (j + 1) = xs.take j ++ [xs[j]] := List.take_succ_eq_append_getElem hlt
    obtain ⟨hat, hkb⟩ := mkL_at hlt k
    have hsn := congrArg Prod.snd (mkL_snoc hlt k)
    generalize (mkL (xs.take j) k).2 = kj at *
    obtain ⟨k0, n0, m0, args, htm⟩ := T.eta xs[j].tm
    have hlb := hl _ (List.getElem_mem hlt)
    rw [htm] at hlb
    rw [mk1_B htm] at hat hkb hsn
    obtain ⟨i, o, c, k1, n1, m1, args1, s', rfl, htm1, hrx, hcs⟩ := row_atB hr hat (mkL_len _ _)
    cases htm1
    simp only at hkb hsn hcs
    have hkg := T.mkL_ge args (kj + 4)
    have q0 := cell_ext hext (hcs 0 _ rfl)
    have q1 := cell_ext hext (hcs 1 _ rfl)
    have q2 := cell_ext hext (hcs 2 _ rfl)
    rw [Nat.add_zero] at q0
    have w1 : IntKind.i64.wrap ((kj : Int) + 1) = ((kj + 1 : Nat) : Int) := by rw [wrap_in (by omega) (by omega)]; omega
    have w2 : IntKind.i64.wrap (((kj + 1 : Nat) : Int) + 1) = ((kj + 2 : Nat) : Int) := by rw [wrap_in (by omega) (by omega)]; omega
    have w3 : IntKind.i64.wrap (((kj + 2 : Nat) : Int) + 1) = ((kj + 3 : Nat) : Int) := by rw [wrap_in (by omega) (by omega)]; omega
    have w4 : IntKind.i64.wrap (((kj + 3 : Nat) : Int) + 1) = ((kj + 4 : Nat) : Int) := by rw [wrap_in (by omega) (by omega)]; omega
    have d1 : ∀ x : Int, decide (x ≠ x) = false := fun x => by simp
    repeat (first | ((first | refine W_reg rfl fun G K hG hK => ?_ | refine W_end rfl fun G K hG hK => ?_); simp (disch := omega) only [go_sem, ↓reduceIte, Nat.reduceEqDiff, Nat.reduceAdd, Nat.reduceLeDiff, hG, hlen, e5, e0, e1, c1, hi, idxA, Int.toNat_natCast, w1, w2, w3, w4, d1]; refine hK _ _ ?_; clear hK K hG G) | refine W_seqS ?_ | refine W_seqC ?_ | refine W_seqB ?_ | refine W_block ?_ | refine W_skip ?_ | (refine W_condT ?hc ?_; (case hc => (simp (disch := omega) only [go_sem, ↓reduceIte, Nat.reduceEqDiff, Nat.reduceAdd, Nat.reduceLeDiff, hlen, e5, e0, e1, c1, hi, idxA, Int.toNat_natCast, w1, w2, w3, w4, d1]; done))) | (refine W_condF ?hc ?_; (case hc => (simp (disch := omega) only [go_sem, ↓reduceIte, Nat.reduceEqDiff, Nat.reduceAdd, Nat.reduceLeDiff, hlen, e5, e0, e1, c1, hi, idxA, Int.toNat_natCast, w1, w2, w3, w4, d1]; done))) | refine thenI ?_ | refine thenE ?_ | refine thenR ?_ | refine inBI ?_ | refine inBR ?_ | refine inBS ?_ | refine inBN (by decide) ?_)
    (repeat (first | refine W_seqS ?_ | refine W_seqC ?_ | refine W_seqB ?_ | refine W_block ?_)); refine W_regD mixed [] [(0,false),(1,false),(2,false),(3,false),(4,false),(5,false),(6,true),(7,false)] rfl (by decide +kernel) fun G K hG hK => ?_; simp only [pickOps, List.filterMap_cons, List.filterMap_nil, List.getElem?_cons_zero, List.getElem?_cons_succ, Option.map_some]; simp (disch := omega) only [go_sem, ↓reduceIte, Nat.reduceEqDiff, Nat.reduceAdd, Nat.reduceLeDiff, hG, hlen, e5, e0, e1, c1, hi, idxA, Int.toNat_natCast, w1, w2, w3, w4, d1, q0, ag9]
    refine w_call (markText_ok kj st' (by omega)) (by simp (disch := omega) only [go_sem, ↓reduceIte, Nat.reduceEqDiff, hlen, e5, e0, e1, c1, hi, idxA, Int.toNat_natCast, w1, w2, w3, w4, d1]) ?hl ?_
    case hl => first | rfl | (simp only [go_sem, List.all_cons, List.all_nil, Bool.not_false, Bool.and_self, hlen, e5, e0, e1, c1, hi, idxA, Int.toNat_natCast, w1, w2, w3, w4, d1]; done)
    rintro r_ sa ⟨hx1, rfl⟩; refine ⟨fun e => hx1, ?_⟩
    simp (disch := omega) only [go_sem, ↓reduceIte, Nat.reduceEqDiff, Nat.reduceAdd, Nat.reduceLeDiff, hG, hlen, e5, e0, e1, c1, hi, idxA, Int.toNat_natCast, w1, w2, w3, w4, d1]; refine hK _ _ ?_; clear hK K hG G; repeat (first | refine thenI ?_ | refine thenE ?_ | refine thenR ?_ | refine inBI ?_ | refine inBR ?_ | refine inBS ?_ | refine inBN (by decide) ?_)
    have q1 : cell sa i (o + j * 5 + 1) = _ := cell_ext hx1 q1
    have q2 : cell sa i (o + j * 5 + 1 + 1) = _ := cell_ext hx1 q2
    repeat (first | ((first | refine W_reg rfl fun G K hG hK => ?_ | refine W_end rfl fun G K hG hK => ?_); simp (disch := omega) only [go_sem, ↓reduceIte, Nat.reduceEqDiff, Nat.reduceAdd, Nat.reduceLeDiff, hG, hlen, e5, e0, e1, c1, hi, idxA, Int.toNat_natCast, w1, w2, w3, w4, d1, q1, q2, ag3]; refine hK _ _ ?_; clear hK K hG G) | refine W_seqS ?_ | refine W_seqC ?_ | refine W_seqB ?_ | refine W_block ?_ | refine W_skip ?_ | (refine W_condT ?hc ?_; (case hc => (simp (disch := omega) only [go_sem, ↓reduceIte, Nat.reduceEqDiff, Nat.reduceAdd, Nat.reduceLeDiff, hlen, e5, e0, e1, c1, hi, idxA, Int.toNat_natCast, w1, w2, w3, w4, d1, q1, q2, ag3]; done))) | (refine W_condF ?hc ?_; (case hc => (simp (disch := omega) only [go_sem, ↓reduceIte, Nat.reduceEqDiff, Nat.reduceAdd, Nat.reduceLeDiff, hlen, e5, e0, e1, c1, hi, idxA, Int.toNat_natCast, w1, w2, w3, w4, d1, q1, q2, ag3]; done))) | refine thenI ?_ | refine thenE ?_ | refine thenR ?_ | refine inBI ?_ | refine inBR ?_ | refine inBS ?_ | refine inBN (by decide) ?_)
    have q3 : cell sa i (o + j * 5 + 1 + 2) = _ := cell_ext (hext.trans hx1) (hcs 3 _ rfl)
    (repeat (first | refine W_seqS ?_ | refine W_seqC ?_ | refine W_seqB ?_ | refine W_block ?_)); refine W_regD mixed [] [(0,false),(1,false),(2,false),(3,false),(4,false),(5,false),(6,false),(7,true),(8,false)] rfl (by decide +kernel) fun G K hG hK => ?_; simp only [pickOps, List.filterMap_cons, List.filterMap_nil, List.getElem?_cons_zero, List.getElem?_cons_succ, Option.map_some]; simp (disch := omega) only [go_sem, ↓reduceIte, Nat.reduceEqDiff, Nat.reduceAdd, Nat.reduceLeDiff, hG, hlen, e5, e0, e1, c1, hi, idxA, Int.toNat_natCast, w1, w2, w3, w4, d1, q3, ag9]
    refine w_call (markText_ok (kj + 3) sa (by omega)) (by simp (disch := omega) only [go_sem, ↓reduceIte, Nat.reduceEqDiff, hlen, e5, e0, e1, c1, hi, idxA, Int.toNat_natCast, w1, w2, w3, w4, d1]) ?hl ?_
    case hl => first | rfl | (simp only [go_sem, List.all_cons, List.all_nil, Bool.not_false, Bool.and_self, hlen, e5, e0, e1, c1, hi, idxA, Int.toNat_natCast, w1, w2, w3, w4, d1]; done)
    rintro r_ sb ⟨hx2, rfl⟩; refine ⟨fun e => hx2, ?_⟩
    simp (disch := omega) only [go_sem, ↓reduceIte, Nat.reduceEqDiff, Nat.reduceAdd, Nat.reduceLeDiff, hG, hlen, e5, e0, e1, c1, hi, idxA, Int.toNat_natCast, w1, w2, w3, w4, d1]; refine hK _ _ ?_; clear hK K hG G; repeat (first | refine thenI ?_ | refine thenE ?_ | refine thenR ?_ | refine inBI ?_ | refine inBR ?_ | refine inBS ?_ | refine inBN (by decide) ?_)
    repeat (first | ((first | refine W_reg rfl fun G K hG hK => ?_ | refine W_end rfl fun G K hG hK => ?_); simp (disch := omega) only [go_sem, ↓reduceIte, Nat.reduceEqDiff, Nat.reduceAdd, Nat.reduceLeDiff, hG, hlen, e5, e0, e1, c1, hi, idxA, Int.toNat_natCast, w1, w2, w3, w4, d1]; refine hK _ _ ?_; clear hK K hG G) | refine W_seqS ?_ | refine W_seqC ?_ | refine W_seqB ?_ | refine W_block ?_ | refine W_skip ?_ | (refine W_condT ?hc ?_; (case hc => (simp (disch := omega) only [go_sem, ↓reduceIte, Nat.reduceEqDiff, Nat.reduceAdd, Nat.reduceLeDiff, hlen, e5, e0, e1, c1, hi, idxA, Int.toNat_natCast, w1, w2, w3, w4, d1]; done))) | (refine W_condF ?hc ?_; (case hc => (simp (disch := omega) only [go_sem, ↓reduceIte, Nat.reduceEqDiff, Nat.reduceAdd, Nat.reduceLeDiff, hlen, e5, e0, e1, c1, hi, idxA, Int.toNat_natCast, w1, w2, w3, w4, d1]; done))) | refine thenI ?_ | refine thenE ?_ | refine thenR ?_ | refine inBI ?_ | refine inBR ?_ | refine inBS ?_ | refine inBN (by decide) ?_)
    have hx3 := (hext.trans hx1).trans hx2
    have q4 : cell sb i (o + j * 5 + 1 + 3) = _ := cell_ext hx3 (hcs 4 _ rfl)
    have hr3 : RowT sb (T.mkL args (kj + 4)).1 s' := hrx.mono hx3 fun x _ cs he => Enc.ext hx3 _ _ he
    have n1 := hr3.notLoc.1
    (repeat (first | refine W_seqS ?_ | refine W_seqC ?_ | refine W_seqB ?_ | refine W_block ?_)); refine W_reg rfl fun G K hG hK => ?_; simp (disch := omega) only [go_sem, ↓reduceIte, Nat.reduceEqDiff, Nat.reduceAdd, Nat.reduceLeDiff, hG, hlen, e5, e0, e1, c1, hi, idxA, Int.toNat_natCast, w1, w2, w3, w4, d1, q4, ag29]
    refine w_call (heldTermS_ok _ k0 n0 m0 args sb s' (kj + 4) rfl hlb (by omega) hr3) (by simp (disch := omega) only [go_sem, ↓reduceIte, Nat.reduceEqDiff, hlen, e5, e0, e1, c1, hi, idxA, Int.toNat_natCast, w1, w2, w3, w4, d1, n1]) ?hl ?_
    case hl => first | rfl | (simp only [go_sem, List.all_cons, List.all_nil, Bool.not_false, Bool.and_self, hlen, e5, e0, e1, c1, hi, idxA, Int.toNat_natCast, w1, w2, w3, w4, d1, n1]; done)
    rintro r_ sc ⟨hx4, rfl⟩; refine ⟨fun e => (by cases e), ?_⟩
    simp (disch := omega) only [go_sem, ↓reduceIte, Nat.reduceEqDiff, Nat.reduceAdd, Nat.reduceLeDiff, hG, hlen, e5, e0, e1, c1, hi, idxA, Int.toNat_natCast, w1, w2, w3, w4, d1]; refine hK _ _ ?_; clear hK K hG G; repeat (first | refine thenI ?_ | refine thenE ?_ | refine thenR ?_ | refine inBI ?_ | refine inBR ?_ | refine inBS ?_ | refine inBN (by decide) ?_)
    have d3 : decide (((T.mkL args (kj + 4)).2 : Int) < 0) = false := by simp
    repeat (first | ((first | refine W_reg rfl fun G K hG hK => ?_ | refine W_end rfl fun G K hG hK => ?_); simp (disch := omega) only [go_sem, ↓reduceIte, Nat.reduceEqDiff, Nat.reduceAdd, Nat.reduceLeDiff, hG, hlen, e5, e0, e1, c1, hi, idxA, Int.toNat_natCast, w1, w2, w3, w4, d1, d3]; refine hK _ _ ?_; clear hK K hG G) | refine W_seqS ?_ | refine W_seqC ?_ | refine W_seqB ?_ | refine W_block ?_ | refine W_skip ?_ | (refine W_condT ?hc ?_; (case hc => (simp (disch := omega) only [go_sem, ↓reduceIte, Nat.reduceEqDiff, Nat.reduceAdd, Nat.reduceLeDiff, hlen, e5, e0, e1, c1, hi, idxA, Int.toNat_natCast, w1, w2, w3, w4, d1, d3]; done))) | (refine W_condF ?hc ?_; (case hc => (simp (disch := omega) only [go_sem, ↓reduceIte, Nat.reduceEqDiff, Nat.reduceAdd, Nat.reduceLeDiff, hlen, e5, e0, e1, c1, hi, idxA, Int.toNat_natCast, w1, w2, w3, w4, d1, d3]; done))) | refine thenI ?_ | refine thenE ?_ | refine thenR ?_ | refine inBI ?_ | refine inBR ?_ | refine inBS ?_ | refine inBN (by decide) ?_)
    refine ⟨xs.length - (j + 1), by omega, j + 1, rfl, by omega, hx3.trans hx4, (by (simp (disch := omega) only [go_sem, ↓reduceIte, Nat.reduceEqDiff, Nat.reduceAdd, Nat.reduceLeDiff, hlen, e5, e0, e1, c1, hi, idxA, Int.toNat_natCast, w1, w2, w3, w4, d1, hsn]); try rfl), (by (simp (disch := omega) only [go_sem, ↓reduceIte, Nat.reduceEqDiff, Nat.reduceAdd, Nat.reduceLeDiff, hlen, e5, e0, e1, c1, hi, idxA, Int.toNat_natCast, w1, w2, w3, w4, d1, hsn]); try rfl), (by (simp (disch := omega) only [go_sem, ↓reduceIte, Nat.reduceEqDiff, Nat.reduceAdd, Nat.reduceLeDiff, hlen, e5, e0, e1, c1, hi, idxA, Int.toNat_natCast, w1, w2, w3, w4, d1, hsn]); try rfl)⟩
  · have c1 : decide ((j : Int) < (xs.length : Int)) = false := by simpa using hlt
    have hjn : j = xs.length := by omega
    subst hjn
    repeat (first | ((first | refine W_reg rfl fun G K hG hK => ?_ | refine W_end rfl fun G K hG hK => ?_); simp (disch := omega) only [go_sem, ↓reduceIte, Nat.reduceEqDiff, Nat.reduceAdd, Nat.reduceLeDiff, hG, hlen, e5, e0, e1, c1]; refine hK _ _ ?_; clear hK K hG G) | refine W_seqS ?_ | refine W_seqC ?_ | refine W_seqB ?_ | refine W_block ?_ | refine W_skip ?_ | (refine W_condT ?hc ?_; (case hc => (simp (disch := omega) only [go_sem, ↓reduceIte, Nat.reduceEqDiff, Nat.reduceAdd, Nat.reduceLeDiff, hlen, e5, e0, e1, c1]; done))) | (refine W_condF ?hc ?_; (case hc => (simp (disch := omega) only [go_sem, ↓reduceIte, Nat.reduceEqDiff, Nat.reduceAdd, Nat.reduceLeDiff, hlen, e5, e0, e1, c1]; done))) | refine thenI ?_ | refine thenE ?_ | refine thenR ?_ | refine inBI ?_ | refine inBR ?_ | refine inBS ?_ | refine inBN (by decide) ?_)
    refine W_exit ?_; repeat (first | refine thenI ?_ | refine thenE ?_ | refine thenR ?_ | refine inBI ?_ | refine inBR ?_ | refine inBS ?_ | refine inBN (by decide) ?_)
    repeat (first | ((first | refine W_reg rfl fun G K hG hK => ?_ | refine W_end rfl fun G K hG hK => ?_); simp (disch := omega) only [go_sem, ↓reduceIte, Nat.reduceEqDiff, Nat.reduceAdd, Nat.reduceLeDiff, hG, hlen, e5, e0, e1, c1]; refine hK _ _ ?_; clear hK K hG G) | refine W_seqS ?_ | refine W_seqC ?_ | refine W_seqB ?_ | refine W_block ?_ | refine W_skip ?_ | (refine W_condT ?hc ?_; (case hc => (simp (disch := omega) only [go_sem, ↓reduceIte, Nat.reduceEqDiff, Nat.reduceAdd, Nat.reduceLeDiff, hlen, e5, e0, e1, c1]; done))) | (refine W_condF ?hc ?_; (case hc => (simp (disch := omega) only [go_sem, ↓reduceIte, Nat.reduceEqDiff, Nat.reduceAdd, Nat.reduceLeDiff, hlen, e5, e0, e1, c1]; done))) | refine thenI ?_ | refine thenE ?_ | refine thenR ?_ | refine inBI ?_ | refine inBR ?_ | refine inBS ?_ | refine inBN (by decide) ?_)
    refine W_ret ?_; try (repeat (first | refine thenI ?_ | refine thenE ?_ | refine thenR ?_ | refine inBI ?_ | refine inBR ?_ | refine inBS ?_ | refine inBN (by decide) ?_))
    refine fin1 (.inl rfl) (by (simp (disch := omega) only [go_sem, ↓reduceIte, Nat.reduceEqDiff, Nat.reduceAdd, Nat.reduceLeDiff, hlen, e5, e0, e1, c1, List.take_length]); try rfl) rfl ⟨hext, rfl⟩

end

section
/- Bindings are found and applied: impl.bound, impl.FindBind, spec.l7At, spec.FindBind, impl.ApplySubst, spec.ApplySubst. -/
open Go Go.Proofs
set_option linter.unusedVariables false
set_option linter.unusedSimpArgs false
set_option maxRecDepth 100000
-- AUTO

def T.zero' : T := .mk 0 0 ⟨#[]⟩ []
theorem own_zero' {e : TypeId} (st : St) : Own e st T.zero' [.int .i64 0, .int .i64 0, .string ⟨#[]⟩, .slice none 0 0] [] := .nil _ _ _
theorem Lim.zero' {B : Nat} : Lim B T.zero' := .mk _ _ _ _ (by simp) (by simp)
/-- The term of the first binding of a name. -/
def findB (nm : ByteArray) : List Bnd → Option T
  | [] => none
  | b :: bs => if (b.nm.toList == nm.toList) = true then some b.tm else findB nm bs
def atB (nm : ByteArray) : List Bnd → Nat → Option Nat
  | [], _ => none
  | b :: bs, k => if (b.nm.toList == nm.toList) = true then some k else atB nm bs (k + 1)
theorem atB_spec (nm : ByteArray) : ∀ (bs : List Bnd) (k : Nat), match atB nm bs k with
    | some i => k ≤ i ∧ i < k + bs.length ∧ ∃ b, bs[i - k]? = some b ∧ findB nm bs = some b.tm
    | none => findB nm bs = none := by
  intro bs
  induction bs with
  | nil => intro k; rfl
  | cons b bs ih =>
    intro k
    simp only [atB, findB]
    by_cases h : (b.nm.toList == nm.toList) = true
    · simp only [h, if_true]
      exact ⟨Nat.le_refl _, by simp, b, by simp, rfl⟩
    · simp only [if_neg h]
      have := ih (k + 1)
      cases hq : atB nm bs (k + 1) with
      | none => rw [hq] at this; exact this
      | some i =>
        rw [hq] at this
        obtain ⟨h1, h2, b', h3, h4⟩ := this
        refine ⟨by omega, by simp; omega, b', ?_, h4⟩
        rw [show i - k = (i - (k + 1)) + 1 by omega]; simpa using h3
theorem findB_mem {nm : ByteArray} {bs : List Bnd} {t : T} (h : findB nm bs = some t) : ∃ b ∈ bs, b.tm = t := by
  induction bs with
  | nil => cases h
  | cons b bs ih =>
    simp only [findB] at h
    split at h
    · exact ⟨b, by simp, Option.some.inj h⟩
    · obtain ⟨b', h1, h2⟩ := ih h; exact ⟨b', by simp [h1], h2⟩
abbrev findD (nm : ByteArray) (bs : List Bnd) : T := (findB nm bs).getD T.zero'
theorem Lim.findD {B : Nat} {nm : ByteArray} {bs : List Bnd} (h : ∀ b ∈ bs, Lim B b.tm) : Lim B (findD nm bs) := by
  unfold AM.findD
  cases hf : findB nm bs with
  | none => exact .zero'
  | some t => obtain ⟨b, h1, rfl⟩ := findB_mem hf; exact h b h1

theorem bound_ok (bs : List Bnd) (nm : ByteArray) (st : St) (s : Value) (hbig : bs.length ≤ 4611686018427387904) (hr : Rw st bs s) :
    CallS Try.prog 46 [s, .string nm] st fun r st' => st' = st ∧ ∃ ds, r = .tuple #[.agg ds.toArray, .bool (findB nm bs).isSome] ∧ Enc st (findD nm bs) ds := by
  refine CallS_of_W [] 22 Try.func46 rfl rfl rfl rfl (by simp) ?_
  have hlen : lenE Try.prog 26 s = some (.int .i64 bs.length) := row_len hr Try.underlying26
  have n1 := hr.notLoc.1
  repeat (first | ((first | refine W_reg rfl fun G K hG hK => ?_ | refine W_end rfl fun G K hG hK => ?_); simp (disch := omega) only [go_sem, ↓reduceIte, Nat.reduceEqDiff, Nat.reduceAdd, Nat.reduceLeDiff, hG, hlen]; refine hK _ _ ?_; clear hK K hG G) | refine W_seqS ?_ | refine W_seqC ?_ | refine W_seqB ?_ | refine W_block ?_ | refine W_skip ?_ | (refine W_condT ?hc ?_; (case hc => (simp (disch := omega) only [go_sem, ↓reduceIte, Nat.reduceEqDiff, Nat.reduceAdd, Nat.reduceLeDiff, hlen]; done))) | (refine W_condF ?hc ?_; (case hc => (simp (disch := omega) only [go_sem, ↓reduceIte, Nat.reduceEqDiff, Nat.reduceAdd, Nat.reduceLeDiff, hlen]; done))) | refine thenI ?_ | refine thenE ?_ | refine thenR ?_ | refine inBI ?_ | refine inBR ?_ | refine inBS ?_ | refine inBN (by decide) ?_)
  refine W_loop (fun d fr st' => ∃ (j : Nat) , d = bs.length - j ∧ j ≤ bs.length ∧ (st' = st) ∧ (findB nm (bs.drop j) = findB nm bs) ∧ (fr.env 1 = .string nm) ∧ (fr.env 4 = .pointer (some ⟨4, 0, some 1⟩)) ∧ (fr.env 8 = s) ∧ (fr.env 9 = .int .i64 bs.length) ∧ (fr.env 10 = .int .i64 j) ∧ ((fr.loc 4).1 = 1 ∧ (fr.loc 4).2.length = 4)) (bs.length) ?_ ?_
  · exact ⟨0, by omega, by omega, rfl, by rw [List.drop_zero], (by (simp (disch := omega) only [go_sem, ↓reduceIte, Nat.reduceEqDiff, Nat.reduceAdd, Nat.reduceLeDiff]); try rfl), (by (simp (disch := omega) only [go_sem, ↓reduceIte, Nat.reduceEqDiff, Nat.reduceAdd, Nat.reduceLeDiff]); try rfl), (by (simp (disch := omega) only [go_sem, ↓reduceIte, Nat.reduceEqDiff, Nat.reduceAdd, Nat.reduceLeDiff]); try rfl), (by (simp (disch := omega) only [go_sem, ↓reduceIte, Nat.reduceEqDiff, Nat.reduceAdd, Nat.reduceLeDiff]); try rfl), (by (simp (disch := omega) only [go_sem, ↓reduceIte, Nat.reduceEqDiff, Nat.reduceAdd, Nat.reduceLeDiff]); try rfl), ⟨(by (simp (disch := omega) only [go_sem, ↓reduceIte, Nat.reduceEqDiff, Nat.reduceAdd, Nat.reduceLeDiff]); try rfl), (by (simp (disch := omega) only [go_sem, ↓reduceIte, Nat.reduceEqDiff, Nat.reduceAdd, Nat.reduceLeDiff]); try rfl)⟩⟩
  rintro d ⟨env, loc⟩ st' ⟨j, hd, hj, hst, hfi, e1, e4, e8, e9, e10, ⟨l4, l4'⟩⟩
  simp only at e1 e4 e8 e9 e10 l4 l4'
  subst hst
  by_cases hlt : j < bs.length
  · have c1 : decide ((j : Int) < (bs.length : Int)) = true := by simpa using hlt
    have hi := idxOk hlt
    have hx : bs[j]? = some bs[j] := List.getElem?_eq_getElem hlt
    have htk : bs.take (j + 1) = bs.take j ++ [bs[j]] := List.take_succ_eq_append_getElem hlt
    obtain ⟨i, o, c, k, m, mm, args, sx, rfl, htm, hrx, hcs⟩ := row_atB hr hx
    have hld := fun loc => load_row (A := []) (loc := loc) ag54 sz54 rfl hcs
    have nx := hrx.notLoc.1
    have nx2 := hrx.notLoc.2
    rw [List.drop_eq_getElem_cons hlt] at hfi
    simp only [findB] at hfi
    cases hq : (bs[j].nm.toList == nm.toList) with
    | true =>
      repeat (first | ((first | refine W_reg rfl fun G K hG hK => ?_ | refine W_end rfl fun G K hG hK => ?_); simp (disch := omega) only [go_sem, ↓reduceIte, Nat.reduceEqDiff, Nat.reduceAdd, Nat.reduceLeDiff, hG, e1, e4, e8, e9, e10, l4, l4', c1, hi, idxA, Int.toNat_natCast, hld, hq, nx, nx2]; refine hK _ _ ?_; clear hK K hG G) | refine W_seqS ?_ | refine W_seqC ?_ | refine W_seqB ?_ | refine W_block ?_ | refine W_skip ?_ | (refine W_condT ?hc ?_; (case hc => (simp (disch := omega) only [go_sem, ↓reduceIte, Nat.reduceEqDiff, Nat.reduceAdd, Nat.reduceLeDiff, e1, e4, e8, e9, e10, l4, l4', c1, hi, idxA, Int.toNat_natCast, hld, hq, nx, nx2]; done))) | (refine W_condF ?hc ?_; (case hc => (simp (disch := omega) only [go_sem, ↓reduceIte, Nat.reduceEqDiff, Nat.reduceAdd, Nat.reduceLeDiff, e1, e4, e8, e9, e10, l4, l4', c1, hi, idxA, Int.toNat_natCast, hld, hq, nx, nx2]; done))) | refine thenI ?_ | refine thenE ?_ | refine thenR ?_ | refine inBI ?_ | refine inBR ?_ | refine inBS ?_ | refine inBN (by decide) ?_)
      rw [if_pos hq] at hfi
      refine W_ret ?_; try (repeat (first | refine thenI ?_ | refine thenE ?_ | refine thenR ?_ | refine inBI ?_ | refine inBR ?_ | refine inBS ?_ | refine inBN (by decide) ?_))
      refine finC2 (.inl rfl) (by (simp (disch := omega) only [go_sem, ↓reduceIte, Nat.reduceEqDiff, Nat.reduceAdd, Nat.reduceLeDiff, e1, e4, e8, e9, e10, l4, l4', c1, hi, idxA, Int.toNat_natCast, nx, nx2]); try rfl) (by (simp (disch := omega) only [go_sem, ↓reduceIte, Nat.reduceEqDiff, Nat.reduceAdd, Nat.reduceLeDiff, e1, e4, e8, e9, e10, l4, l4', c1, hi, idxA, Int.toNat_natCast]); try rfl) rfl ⟨rfl, [.int .i64 k, .int .i64 m, .string mm, sx], by rw [← hfi]; rfl, ?_⟩
      unfold findD
      rw [← hfi]
      show Enc st' bs[j].tm _
      rw [htm]
      exact Enc.close _ _ _ hrx
    | false =>
      rw [if_neg (by rw [hq]; simp)] at hfi
      repeat (first | ((first | refine W_reg rfl fun G K hG hK => ?_ | refine W_end rfl fun G K hG hK => ?_); simp (disch := omega) only [go_sem, ↓reduceIte, Nat.reduceEqDiff, Nat.reduceAdd, Nat.reduceLeDiff, hG, e1, e4, e8, e9, e10, l4, l4', c1, hi, idxA, Int.toNat_natCast, hld, hq, nx, nx2]; refine hK _ _ ?_; clear hK K hG G) | refine W_seqS ?_ | refine W_seqC ?_ | refine W_seqB ?_ | refine W_block ?_ | refine W_skip ?_ | (refine W_condT ?hc ?_; (case hc => (simp (disch := omega) only [go_sem, ↓reduceIte, Nat.reduceEqDiff, Nat.reduceAdd, Nat.reduceLeDiff, e1, e4, e8, e9, e10, l4, l4', c1, hi, idxA, Int.toNat_natCast, hld, hq, nx, nx2]; done))) | (refine W_condF ?hc ?_; (case hc => (simp (disch := omega) only [go_sem, ↓reduceIte, Nat.reduceEqDiff, Nat.reduceAdd, Nat.reduceLeDiff, e1, e4, e8, e9, e10, l4, l4', c1, hi, idxA, Int.toNat_natCast, hld, hq, nx, nx2]; done))) | refine thenI ?_ | refine thenE ?_ | refine thenR ?_ | refine inBI ?_ | refine inBR ?_ | refine inBS ?_ | refine inBN (by decide) ?_)
      refine ⟨bs.length - (j + 1), by omega, j + 1, rfl, by omega, rfl, hfi, (by (simp (disch := omega) only [go_sem, ↓reduceIte, Nat.reduceEqDiff, Nat.reduceAdd, Nat.reduceLeDiff, e1, e4, e8, e9, e10, l4, l4', c1, hi, idxA, Int.toNat_natCast]); try rfl), (by (simp (disch := omega) only [go_sem, ↓reduceIte, Nat.reduceEqDiff, Nat.reduceAdd, Nat.reduceLeDiff, e1, e4, e8, e9, e10, l4, l4', c1, hi, idxA, Int.toNat_natCast]); try rfl), (by (simp (disch := omega) only [go_sem, ↓reduceIte, Nat.reduceEqDiff, Nat.reduceAdd, Nat.reduceLeDiff, e1, e4, e8, e9, e10, l4, l4', c1, hi, idxA, Int.toNat_natCast]); try rfl), (by (simp (disch := omega) only [go_sem, ↓reduceIte, Nat.reduceEqDiff, Nat.reduceAdd, Nat.reduceLeDiff, e1, e4, e8, e9, e10, l4, l4', c1, hi, idxA, Int.toNat_natCast]); try rfl), (by (simp (disch := omega) only [go_sem, ↓reduceIte, Nat.reduceEqDiff, Nat.reduceAdd, Nat.reduceLeDiff, e1, e4, e8, e9, e10, l4, l4', c1, hi, idxA, Int.toNat_natCast]); try rfl), ⟨(by (simp (disch := omega) only [go_sem, ↓reduceIte, Nat.reduceEqDiff, Nat.reduceAdd, Nat.reduceLeDiff, e1, e4, e8, e9, e10, l4, l4', c1, hi, idxA, Int.toNat_natCast]); try rfl), (by (simp (disch := omega) only [go_sem, ↓reduceIte, Nat.reduceEqDiff, Nat.reduceAdd, Nat.reduceLeDiff, e1, e4, e8, e9, e10, l4, l4', c1, hi, idxA, Int.toNat_natCast]); try rfl)⟩⟩
  · have c1 : decide ((j : Int) < (bs.length : Int)) = false := by simpa using hlt
    have hjn : j = bs.length := by omega
    subst hjn
    rw [List.drop_length] at hfi
    repeat (first | ((first | refine W_reg rfl fun G K hG hK => ?_ | refine W_end rfl fun G K hG hK => ?_); simp (disch := omega) only [go_sem, ↓reduceIte, Nat.reduceEqDiff, Nat.reduceAdd, Nat.reduceLeDiff, hG, e1, e4, e8, e9, e10, l4, l4', c1]; refine hK _ _ ?_; clear hK K hG G) | refine W_seqS ?_ | refine W_seqC ?_ | refine W_seqB ?_ | refine W_block ?_ | refine W_skip ?_ | (refine W_condT ?hc ?_; (case hc => (simp (disch := omega) only [go_sem, ↓reduceIte, Nat.reduceEqDiff, Nat.reduceAdd, Nat.reduceLeDiff, e1, e4, e8, e9, e10, l4, l4', c1]; done))) | (refine W_condF ?hc ?_; (case hc => (simp (disch := omega) only [go_sem, ↓reduceIte, Nat.reduceEqDiff, Nat.reduceAdd, Nat.reduceLeDiff, e1, e4, e8, e9, e10, l4, l4', c1]; done))) | refine thenI ?_ | refine thenE ?_ | refine thenR ?_ | refine inBI ?_ | refine inBR ?_ | refine inBS ?_ | refine inBN (by decide) ?_)
    refine W_exit ?_; repeat (first | refine thenI ?_ | refine thenE ?_ | refine thenR ?_ | refine inBI ?_ | refine inBR ?_ | refine inBS ?_ | refine inBN (by decide) ?_)
    repeat (first | ((first | refine W_reg rfl fun G K hG hK => ?_ | refine W_end rfl fun G K hG hK => ?_); simp (disch := omega) only [go_sem, ↓reduceIte, Nat.reduceEqDiff, Nat.reduceAdd, Nat.reduceLeDiff, hG, e1, e4, e8, e9, e10, l4, l4', c1]; refine hK _ _ ?_; clear hK K hG G) | refine W_seqS ?_ | refine W_seqC ?_ | refine W_seqB ?_ | refine W_block ?_ | refine W_skip ?_ | (refine W_condT ?hc ?_; (case hc => (simp (disch := omega) only [go_sem, ↓reduceIte, Nat.reduceEqDiff, Nat.reduceAdd, Nat.reduceLeDiff, e1, e4, e8, e9, e10, l4, l4', c1]; done))) | (refine W_condF ?hc ?_; (case hc => (simp (disch := omega) only [go_sem, ↓reduceIte, Nat.reduceEqDiff, Nat.reduceAdd, Nat.reduceLeDiff, e1, e4, e8, e9, e10, l4, l4', c1]; done))) | refine thenI ?_ | refine thenE ?_ | refine thenR ?_ | refine inBI ?_ | refine inBR ?_ | refine inBS ?_ | refine inBN (by decide) ?_)
    refine W_ret ?_; try (repeat (first | refine thenI ?_ | refine thenE ?_ | refine thenR ?_ | refine inBI ?_ | refine inBR ?_ | refine inBS ?_ | refine inBN (by decide) ?_))
    refine finC2 (.inl rfl) (by (simp (disch := omega) only [go_sem, ↓reduceIte, Nat.reduceEqDiff, Nat.reduceAdd, Nat.reduceLeDiff, e1, e4, e8, e9, e10, l4, l4', c1]); try rfl) (by (simp (disch := omega) only [go_sem, ↓reduceIte, Nat.reduceEqDiff, Nat.reduceAdd, Nat.reduceLeDiff, e1, e4, e8, e9, e10, l4, l4', c1]); try rfl) rfl ⟨rfl, [.int .i64 0, .int .i64 0, .string ⟨#[]⟩, .slice none 0 0], by rw [← hfi]; rfl, ?_⟩
    unfold findD
    rw [← hfi]
    exact (own_zero' (e := 0) st').enc

theorem implFind_ok (bs : List Bnd) (nm : ByteArray) (st : St) (s : Value) (hbig : bs.length ≤ 4611686018427387904) (hl : ∀ b ∈ bs, Lim 1073741824 b.tm) (hr : Rw st bs s) :
    CallS Try.prog 41 [s, .string nm] st fun r st2 => Ext st st2 ∧ ∃ ds L, r = .tuple #[.agg ds.toArray, .bool (findB nm bs).isSome] ∧ OwnT st2 (findD nm bs) ds L ∧ Fresh st.length L := by
  refine CallS_of_W [] 17 Try.func41 rfl rfl rfl rfl (by simp) ?_
  have n1 := hr.notLoc.1
  have hlf := Lim.findD (nm := nm) hl
  repeat (first | ((first | refine W_reg rfl fun G K hG hK => ?_ | refine W_end rfl fun G K hG hK => ?_); simp (disch := omega) only [go_sem, ↓reduceIte, Nat.reduceEqDiff, Nat.reduceAdd, Nat.reduceLeDiff, hG]; refine hK _ _ ?_; clear hK K hG G) | refine W_seqS ?_ | refine W_seqC ?_ | refine W_seqB ?_ | refine W_block ?_ | refine W_skip ?_ | (refine W_condT ?hc ?_; (case hc => (simp (disch := omega) only [go_sem, ↓reduceIte, Nat.reduceEqDiff, Nat.reduceAdd, Nat.reduceLeDiff]; done))) | (refine W_condF ?hc ?_; (case hc => (simp (disch := omega) only [go_sem, ↓reduceIte, Nat.reduceEqDiff, Nat.reduceAdd, Nat.reduceLeDiff]; done))) | refine thenI ?_ | refine thenE ?_ | refine thenR ?_ | refine inBI ?_ | refine inBR ?_ | refine inBS ?_ | refine inBN (by decide) ?_)
  (repeat (first | refine W_seqS ?_ | refine W_seqC ?_ | refine W_seqB ?_ | refine W_block ?_)); refine W_reg rfl fun G K hG hK => ?_; simp (disch := omega) only [go_sem, ↓reduceIte, Nat.reduceEqDiff, Nat.reduceAdd, Nat.reduceLeDiff, hG]
  refine w_call (bound_ok bs nm st s hbig hr) (by simp (disch := omega) only [go_sem, ↓reduceIte, Nat.reduceEqDiff, n1]) ?hl ?_
  case hl => first | rfl | (simp only [go_sem, List.all_cons, List.all_nil, Bool.not_false, Bool.and_self, n1]; done)
  rintro r_ s_ ⟨rfl, es, rfl, hE⟩; refine ⟨fun e => (by cases e), ?_⟩
  obtain ⟨kw, nw, mw, aw, hwe⟩ := T.eta (findD nm bs)
  have hE2 := hE
  rw [hwe] at hE2
  obtain ⟨sw, rfl, hrw⟩ := hE2.open
  have w1 := hrw.notLoc.1
  have w2 := hrw.notLoc.2
  simp (disch := omega) only [go_sem, ↓reduceIte, Nat.reduceEqDiff, Nat.reduceAdd, Nat.reduceLeDiff, hG, w1, w2]; refine hK _ _ ?_; clear hK K hG G; repeat (first | refine thenI ?_ | refine thenE ?_ | refine thenR ?_ | refine inBI ?_ | refine inBR ?_ | refine inBS ?_ | refine inBN (by decide) ?_)
  (repeat (first | refine W_seqS ?_ | refine W_seqC ?_ | refine W_seqB ?_ | refine W_block ?_)); refine W_reg rfl fun G K hG hK => ?_; simp (disch := omega) only [go_sem, ↓reduceIte, Nat.reduceEqDiff, Nat.reduceAdd, Nat.reduceLeDiff, hG, w1, w2]
  refine w_call (copy_ok _ _ _ hlf hE) (by simp (disch := omega) only [go_sem, ↓reduceIte, Nat.reduceEqDiff, w1]) ?hl ?_
  case hl => first | rfl | (simp only [go_sem, List.all_cons, List.all_nil, Bool.not_false, Bool.and_self, w1]; done)
  rintro r_ s_ ⟨x1, es, L, rfl, ho, hf⟩; refine ⟨fun e => (by cases e), ?_⟩
  have ho2 := ho
  rw [hwe] at ho2
  obtain ⟨so, rfl, hso⟩ := ho2.open
  simp (disch := omega) only [go_sem, ↓reduceIte, Nat.reduceEqDiff, Nat.reduceAdd, Nat.reduceLeDiff, hG]; refine hK _ _ ?_; clear hK K hG G; repeat (first | refine thenI ?_ | refine thenE ?_ | refine thenR ?_ | refine inBI ?_ | refine inBR ?_ | refine inBS ?_ | refine inBN (by decide) ?_)
  repeat (first | ((first | refine W_reg rfl fun G K hG hK => ?_ | refine W_end rfl fun G K hG hK => ?_); simp (disch := omega) only [go_sem, ↓reduceIte, Nat.reduceEqDiff, Nat.reduceAdd, Nat.reduceLeDiff, hG]; refine hK _ _ ?_; clear hK K hG G) | refine W_seqS ?_ | refine W_seqC ?_ | refine W_seqB ?_ | refine W_block ?_ | refine W_skip ?_ | (refine W_condT ?hc ?_; (case hc => (simp (disch := omega) only [go_sem, ↓reduceIte, Nat.reduceEqDiff, Nat.reduceAdd, Nat.reduceLeDiff]; done))) | (refine W_condF ?hc ?_; (case hc => (simp (disch := omega) only [go_sem, ↓reduceIte, Nat.reduceEqDiff, Nat.reduceAdd, Nat.reduceLeDiff]; done))) | refine thenI ?_ | refine thenE ?_ | refine thenR ?_ | refine inBI ?_ | refine inBR ?_ | refine inBS ?_ | refine inBN (by decide) ?_)
  refine W_ret ?_; try (repeat (first | refine thenI ?_ | refine thenE ?_ | refine thenR ?_ | refine inBI ?_ | refine inBR ?_ | refine inBS ?_ | refine inBN (by decide) ?_))
  refine finC2 (.inl rfl) (by (simp (disch := omega) only [go_sem, ↓reduceIte, Nat.reduceEqDiff, Nat.reduceAdd, Nat.reduceLeDiff]); try rfl) (by (simp (disch := omega) only [go_sem, ↓reduceIte, Nat.reduceEqDiff, Nat.reduceAdd, Nat.reduceLeDiff]); try rfl) rfl ⟨x1, _, L, rfl, ho, hf⟩

theorem l7At_ok (bs : List Bnd) (nm : ByteArray) (st : St) (s : Value) (hbig : bs.length ≤ 4611686018427387904) (hr : Rw st bs s) :
    CallS Try.prog 44 [s, .string nm] st fun r st' => r = .int .i64 (match atB nm bs 0 with | some i => (i : Int) | none => -1) ∧ st' = st := by
  refine CallS_of_W [] 20 Try.func44 rfl rfl rfl rfl (by simp) ?_
  have hlen : lenE Try.prog 26 s = some (.int .i64 bs.length) := row_len hr Try.underlying26
  repeat (first | ((first | refine W_reg rfl fun G K hG hK => ?_ | refine W_end rfl fun G K hG hK => ?_); simp (disch := omega) only [go_sem, ↓reduceIte, Nat.reduceEqDiff, Nat.reduceAdd, Nat.reduceLeDiff, hG, hlen]; refine hK _ _ ?_; clear hK K hG G) | refine W_seqS ?_ | refine W_seqC ?_ | refine W_seqB ?_ | refine W_block ?_ | refine W_skip ?_ | (refine W_condT ?hc ?_; (case hc => (simp (disch := omega) only [go_sem, ↓reduceIte, Nat.reduceEqDiff, Nat.reduceAdd, Nat.reduceLeDiff, hlen]; done))) | (refine W_condF ?hc ?_; (case hc => (simp (disch := omega) only [go_sem, ↓reduceIte, Nat.reduceEqDiff, Nat.reduceAdd, Nat.reduceLeDiff, hlen]; done))) | refine thenI ?_ | refine thenE ?_ | refine thenR ?_ | refine inBI ?_ | refine inBR ?_ | refine inBS ?_ | refine inBN (by decide) ?_)
  refine W_loop (fun d fr st' => ∃ (j : Nat) , d = bs.length - j ∧ j ≤ bs.length ∧ (st' = st) ∧ (atB nm (bs.drop j) j = atB nm bs 0) ∧ (fr.env 0 = s) ∧ (fr.env 1 = .string nm) ∧ (fr.env 5 = .int .i64 j)) (bs.length) ?_ ?_
  · exact ⟨0, by omega, by omega, rfl, by rw [List.drop_zero], (by (simp (disch := omega) only [go_sem, ↓reduceIte, Nat.reduceEqDiff, Nat.reduceAdd, Nat.reduceLeDiff, hlen]); try rfl), (by (simp (disch := omega) only [go_sem, ↓reduceIte, Nat.reduceEqDiff, Nat.reduceAdd, Nat.reduceLeDiff, hlen]); try rfl), (by (simp (disch := omega) only [go_sem, ↓reduceIte, Nat.reduceEqDiff, Nat.reduceAdd, Nat.reduceLeDiff, hlen]); try rfl)⟩
  rintro d ⟨env, loc⟩ st' ⟨j, hd, hj, hst, hfi, e0, e1, e5⟩
  simp only at e0 e1 e5
  subst hst
  by_cases hlt : j < bs.length
  · have c1 : decide ((j : Int) < (bs.length : Int)) = true := by simpa using hlt
    have hi := idxOk hlt
    have hx : bs[j]? = some bs[j] := List.getElem?_eq_getElem hlt
    have htk : bs.take (j + 1) = bs.take j ++ [bs[j]] := List.take_succ_eq_append_getElem hlt
    obtain ⟨i, o, c, k, m, mm, args, sx, rfl, htm, hrx, hcs⟩ := row_atB hr hx
    have q0 : cell st' i (o + j * 5) = some (.string bs[j].nm) := by have := hcs 0 _ rfl; simpa using this
    rw [List.drop_eq_getElem_cons hlt] at hfi
    simp only [atB] at hfi
    cases hq : (bs[j].nm.toList == nm.toList) with
    | true =>
      repeat (first | ((first | refine W_reg rfl fun G K hG hK => ?_ | refine W_end rfl fun G K hG hK => ?_); simp (disch := omega) only [go_sem, ↓reduceIte, Nat.reduceEqDiff, Nat.reduceAdd, Nat.reduceLeDiff, hG, hlen, e0, e1, e5, c1, hi, idxA, Int.toNat_natCast, q0, hq]; refine hK _ _ ?_; clear hK K hG G) | refine W_seqS ?_ | refine W_seqC ?_ | refine W_seqB ?_ | refine W_block ?_ | refine W_skip ?_ | (refine W_condT ?hc ?_; (case hc => (simp (disch := omega) only [go_sem, ↓reduceIte, Nat.reduceEqDiff, Nat.reduceAdd, Nat.reduceLeDiff, hlen, e0, e1, e5, c1, hi, idxA, Int.toNat_natCast, q0, hq]; done))) | (refine W_condF ?hc ?_; (case hc => (simp (disch := omega) only [go_sem, ↓reduceIte, Nat.reduceEqDiff, Nat.reduceAdd, Nat.reduceLeDiff, hlen, e0, e1, e5, c1, hi, idxA, Int.toNat_natCast, q0, hq]; done))) | refine thenI ?_ | refine thenE ?_ | refine thenR ?_ | refine inBI ?_ | refine inBR ?_ | refine inBS ?_ | refine inBN (by decide) ?_)
      rw [if_pos hq] at hfi
      refine W_ret ?_; try (repeat (first | refine thenI ?_ | refine thenE ?_ | refine thenR ?_ | refine inBI ?_ | refine inBR ?_ | refine inBS ?_ | refine inBN (by decide) ?_))
      refine fin1 (.inl rfl) (by (simp (disch := omega) only [go_sem, ↓reduceIte, Nat.reduceEqDiff, Nat.reduceAdd, Nat.reduceLeDiff, hlen, e0, e1, e5, c1, hi, idxA, Int.toNat_natCast]); try rfl) rfl ⟨by rw [← hfi], rfl⟩
    | false =>
      rw [if_neg (by rw [hq]; simp)] at hfi
      repeat (first | ((first | refine W_reg rfl fun G K hG hK => ?_ | refine W_end rfl fun G K hG hK => ?_); simp (disch := omega) only [go_sem, ↓reduceIte, Nat.reduceEqDiff, Nat.reduceAdd, Nat.reduceLeDiff, hG, hlen, e0, e1, e5, c1, hi, idxA, Int.toNat_natCast, q0, hq]; refine hK _ _ ?_; clear hK K hG G) | refine W_seqS ?_ | refine W_seqC ?_ | refine W_seqB ?_ | refine W_block ?_ | refine W_skip ?_ | (refine W_condT ?hc ?_; (case hc => (simp (disch := omega) only [go_sem, ↓reduceIte, Nat.reduceEqDiff, Nat.reduceAdd, Nat.reduceLeDiff, hlen, e0, e1, e5, c1, hi, idxA, Int.toNat_natCast, q0, hq]; done))) | (refine W_condF ?hc ?_; (case hc => (simp (disch := omega) only [go_sem, ↓reduceIte, Nat.reduceEqDiff, Nat.reduceAdd, Nat.reduceLeDiff, hlen, e0, e1, e5, c1, hi, idxA, Int.toNat_natCast, q0, hq]; done))) | refine thenI ?_ | refine thenE ?_ | refine thenR ?_ | refine inBI ?_ | refine inBR ?_ | refine inBS ?_ | refine inBN (by decide) ?_)
      refine ⟨bs.length - (j + 1), by omega, j + 1, rfl, by omega, rfl, hfi, (by (simp (disch := omega) only [go_sem, ↓reduceIte, Nat.reduceEqDiff, Nat.reduceAdd, Nat.reduceLeDiff, hlen, e0, e1, e5, c1, hi, idxA, Int.toNat_natCast]); try rfl), (by (simp (disch := omega) only [go_sem, ↓reduceIte, Nat.reduceEqDiff, Nat.reduceAdd, Nat.reduceLeDiff, hlen, e0, e1, e5, c1, hi, idxA, Int.toNat_natCast]); try rfl), (by (simp (disch := omega) only [go_sem, ↓reduceIte, Nat.reduceEqDiff, Nat.reduceAdd, Nat.reduceLeDiff, hlen, e0, e1, e5, c1, hi, idxA, Int.toNat_natCast]); try rfl)⟩
  · have c1 : decide ((j : Int) < (bs.length : Int)) = false := by simpa using hlt
    have hjn : j = bs.length := by omega
    subst hjn
    rw [List.drop_length] at hfi
    repeat (first | ((first | refine W_reg rfl fun G K hG hK => ?_ | refine W_end rfl fun G K hG hK => ?_); simp (disch := omega) only [go_sem, ↓reduceIte, Nat.reduceEqDiff, Nat.reduceAdd, Nat.reduceLeDiff, hG, hlen, e0, e1, e5, c1]; refine hK _ _ ?_; clear hK K hG G) | refine W_seqS ?_ | refine W_seqC ?_ | refine W_seqB ?_ | refine W_block ?_ | refine W_skip ?_ | (refine W_condT ?hc ?_; (case hc => (simp (disch := omega) only [go_sem, ↓reduceIte, Nat.reduceEqDiff, Nat.reduceAdd, Nat.reduceLeDiff, hlen, e0, e1, e5, c1]; done))) | (refine W_condF ?hc ?_; (case hc => (simp (disch := omega) only [go_sem, ↓reduceIte, Nat.reduceEqDiff, Nat.reduceAdd, Nat.reduceLeDiff, hlen, e0, e1, e5, c1]; done))) | refine thenI ?_ | refine thenE ?_ | refine thenR ?_ | refine inBI ?_ | refine inBR ?_ | refine inBS ?_ | refine inBN (by decide) ?_)
    refine W_exit ?_; repeat (first | refine thenI ?_ | refine thenE ?_ | refine thenR ?_ | refine inBI ?_ | refine inBR ?_ | refine inBS ?_ | refine inBN (by decide) ?_)
    repeat (first | ((first | refine W_reg rfl fun G K hG hK => ?_ | refine W_end rfl fun G K hG hK => ?_); simp (disch := omega) only [go_sem, ↓reduceIte, Nat.reduceEqDiff, Nat.reduceAdd, Nat.reduceLeDiff, hG, hlen, e0, e1, e5, c1]; refine hK _ _ ?_; clear hK K hG G) | refine W_seqS ?_ | refine W_seqC ?_ | refine W_seqB ?_ | refine W_block ?_ | refine W_skip ?_ | (refine W_condT ?hc ?_; (case hc => (simp (disch := omega) only [go_sem, ↓reduceIte, Nat.reduceEqDiff, Nat.reduceAdd, Nat.reduceLeDiff, hlen, e0, e1, e5, c1]; done))) | (refine W_condF ?hc ?_; (case hc => (simp (disch := omega) only [go_sem, ↓reduceIte, Nat.reduceEqDiff, Nat.reduceAdd, Nat.reduceLeDiff, hlen, e0, e1, e5, c1]; done))) | refine thenI ?_ | refine thenE ?_ | refine thenR ?_ | refine inBI ?_ | refine inBR ?_ | refine inBS ?_ | refine inBN (by decide) ?_)
    refine W_ret ?_; try (repeat (first | refine thenI ?_ | refine thenE ?_ | refine thenR ?_ | refine inBI ?_ | refine inBR ?_ | refine inBS ?_ | refine inBN (by decide) ?_))
    refine fin1 (.inl rfl) (by (simp (disch := omega) only [go_sem, ↓reduceIte, Nat.reduceEqDiff, Nat.reduceAdd, Nat.reduceLeDiff, hlen, e0, e1, e5, c1]); try rfl) rfl ⟨by rw [← hfi]; rfl, rfl⟩

theorem specFind_ok (bs : List Bnd) (nm : ByteArray) (st : St) (s : Value) (hbig : bs.length ≤ 4611686018427387904) (hl : ∀ b ∈ bs, Lim 1073741824 b.tm) (hr : Rw st bs s) :
    CallS Try.prog 33 [s, .string nm] st fun r st2 => Ext st st2 ∧ ∃ ds L, r = .tuple #[.agg ds.toArray, .bool (findB nm bs).isSome] ∧ OwnT st2 (findD nm bs) ds L ∧ Fresh st.length L := by
  refine CallS_of_W [] 19 Try.func33 rfl rfl rfl rfl (by simp) ?_
  have n1 := hr.notLoc.1
  have hsp := atB_spec nm bs 0
  repeat (first | ((first | refine W_reg rfl fun G K hG hK => ?_ | refine W_end rfl fun G K hG hK => ?_); simp (disch := omega) only [go_sem, ↓reduceIte, Nat.reduceEqDiff, Nat.reduceAdd, Nat.reduceLeDiff, hG]; refine hK _ _ ?_; clear hK K hG G) | refine W_seqS ?_ | refine W_seqC ?_ | refine W_seqB ?_ | refine W_block ?_ | refine W_skip ?_ | (refine W_condT ?hc ?_; (case hc => (simp (disch := omega) only [go_sem, ↓reduceIte, Nat.reduceEqDiff, Nat.reduceAdd, Nat.reduceLeDiff]; done))) | (refine W_condF ?hc ?_; (case hc => (simp (disch := omega) only [go_sem, ↓reduceIte, Nat.reduceEqDiff, Nat.reduceAdd, Nat.reduceLeDiff]; done))) | refine thenI ?_ | refine thenE ?_ | refine thenR ?_ | refine inBI ?_ | refine inBR ?_ | refine inBS ?_ | refine inBN (by decide) ?_)
  (repeat (first | refine W_seqS ?_ | refine W_seqC ?_ | refine W_seqB ?_ | refine W_block ?_)); refine W_reg rfl fun G K hG hK => ?_; simp (disch := omega) only [go_sem, ↓reduceIte, Nat.reduceEqDiff, Nat.reduceAdd, Nat.reduceLeDiff, hG]
  refine w_call (l7At_ok bs nm st s hbig hr) (by simp (disch := omega) only [go_sem, ↓reduceIte, Nat.reduceEqDiff, n1]) ?hl ?_
  case hl => first | rfl | (simp only [go_sem, List.all_cons, List.all_nil, Bool.not_false, Bool.and_self, n1]; done)
  rintro r_ s_ ⟨rfl, rfl⟩; refine ⟨fun e => (by cases e), ?_⟩
  cases hq : atB nm bs 0 with
  | none =>
    rw [hq] at hsp
    simp (disch := omega) only [go_sem, ↓reduceIte, Nat.reduceEqDiff, Nat.reduceAdd, Nat.reduceLeDiff, hG, hq]; refine hK _ _ ?_; clear hK K hG G; repeat (first | refine thenI ?_ | refine thenE ?_ | refine thenR ?_ | refine inBI ?_ | refine inBR ?_ | refine inBS ?_ | refine inBN (by decide) ?_)
    have c1 : decide ((-1 : Int) < 0) = true := by decide
    repeat (first | ((first | refine W_reg rfl fun G K hG hK => ?_ | refine W_end rfl fun G K hG hK => ?_); simp (disch := omega) only [go_sem, ↓reduceIte, Nat.reduceEqDiff, Nat.reduceAdd, Nat.reduceLeDiff, hG, c1]; refine hK _ _ ?_; clear hK K hG G) | refine W_seqS ?_ | refine W_seqC ?_ | refine W_seqB ?_ | refine W_block ?_ | refine W_skip ?_ | (refine W_condT ?hc ?_; (case hc => (simp (disch := omega) only [go_sem, ↓reduceIte, Nat.reduceEqDiff, Nat.reduceAdd, Nat.reduceLeDiff, c1]; done))) | (refine W_condF ?hc ?_; (case hc => (simp (disch := omega) only [go_sem, ↓reduceIte, Nat.reduceEqDiff, Nat.reduceAdd, Nat.reduceLeDiff, c1]; done))) | refine thenI ?_ | refine thenE ?_ | refine thenR ?_ | refine inBI ?_ | refine inBR ?_ | refine inBS ?_ | refine inBN (by decide) ?_)
    refine W_ret ?_; try (repeat (first | refine thenI ?_ | refine thenE ?_ | refine thenR ?_ | refine inBI ?_ | refine inBR ?_ | refine inBS ?_ | refine inBN (by decide) ?_))
    refine finC2 (.inl rfl) (by (simp (disch := omega) only [go_sem, ↓reduceIte, Nat.reduceEqDiff, Nat.reduceAdd, Nat.reduceLeDiff]); try rfl) (by (simp (disch := omega) only [go_sem, ↓reduceIte, Nat.reduceEqDiff, Nat.reduceAdd, Nat.reduceLeDiff]); try rfl) rfl ⟨Ext.refl _, [.int .i64 0, .int .i64 0, .string ⟨#[]⟩, .slice none 0 0], [], by rw [hsp]; rfl, by unfold findD; rw [hsp]; exact own_zero' _, .nil _⟩
  | some i =>
    rw [hq] at hsp
    obtain ⟨_, hi1, b, hb, hfb⟩ := hsp
    rw [Nat.zero_add] at hi1
    rw [Nat.sub_zero] at hb
    obtain ⟨i2, o, c, k, m, mm, args, sx, rfl, htm, hrx, hcs⟩ := row_atB hr hb
    have hlb := hl b (List.mem_of_getElem? hb)
    have hld := fun loc => load_row (A := []) (loc := loc) (o := o + i * 5 + 1) (cs := [.int .i64 k, .int .i64 m, .string mm, sx]) (st := s_) (i := i2) ag31 sz31 rfl (fun q v hv => by
      have := hcs (q + 1) v (by simpa using hv)
      rwa [show o + i * 5 + (q + 1) = o + i * 5 + 1 + q by omega] at this)
    have nx := hrx.notLoc.1
    have nx2 := hrx.notLoc.2
    have hii := idxOk hi1
    have c1 : decide ((i : Int) < 0) = false := by simp
    have hE : Enc s_ b.tm [.int .i64 k, .int .i64 m, .string mm, sx] := by rw [htm]; exact Enc.close _ _ _ hrx
    simp (disch := omega) only [go_sem, ↓reduceIte, Nat.reduceEqDiff, Nat.reduceAdd, Nat.reduceLeDiff, hG]; refine hK _ _ ?_; clear hK K hG G; repeat (first | refine thenI ?_ | refine thenE ?_ | refine thenR ?_ | refine inBI ?_ | refine inBR ?_ | refine inBS ?_ | refine inBN (by decide) ?_)
    repeat (first | ((first | refine W_reg rfl fun G K hG hK => ?_ | refine W_end rfl fun G K hG hK => ?_); simp (disch := omega) only [go_sem, ↓reduceIte, Nat.reduceEqDiff, Nat.reduceAdd, Nat.reduceLeDiff, hG, c1]; refine hK _ _ ?_; clear hK K hG G) | refine W_seqS ?_ | refine W_seqC ?_ | refine W_seqB ?_ | refine W_block ?_ | refine W_skip ?_ | (refine W_condT ?hc ?_; (case hc => (simp (disch := omega) only [go_sem, ↓reduceIte, Nat.reduceEqDiff, Nat.reduceAdd, Nat.reduceLeDiff, c1]; done))) | (refine W_condF ?hc ?_; (case hc => (simp (disch := omega) only [go_sem, ↓reduceIte, Nat.reduceEqDiff, Nat.reduceAdd, Nat.reduceLeDiff, c1]; done))) | refine thenI ?_ | refine thenE ?_ | refine thenR ?_ | refine inBI ?_ | refine inBR ?_ | refine inBS ?_ | refine inBN (by decide) ?_)
    (repeat (first | refine W_seqS ?_ | refine W_seqC ?_ | refine W_seqB ?_ | refine W_block ?_)); refine W_reg rfl fun G K hG hK => ?_; simp (disch := omega) only [go_sem, ↓reduceIte, Nat.reduceEqDiff, Nat.reduceAdd, Nat.reduceLeDiff, hG, hii, idxA, Int.toNat_natCast, hld]
    refine w_call (l3Copy_ok b.tm _ _ hlb hE) (by simp (disch := omega) only [go_sem, ↓reduceIte, Nat.reduceEqDiff, nx]) ?hl ?_
    case hl => first | rfl | (simp only [go_sem, List.all_cons, List.all_nil, Bool.not_false, Bool.and_self, nx]; done)
    rintro r_ sb ⟨x1, es, L, rfl, ho, hf⟩; refine ⟨fun e => (by cases e), ?_⟩
    have ho2 := ho
    rw [htm] at ho2
    obtain ⟨so, rfl, hso⟩ := ho2.open
    simp (disch := omega) only [go_sem, ↓reduceIte, Nat.reduceEqDiff, Nat.reduceAdd, Nat.reduceLeDiff, hG]; refine hK _ _ ?_; clear hK K hG G; repeat (first | refine thenI ?_ | refine thenE ?_ | refine thenR ?_ | refine inBI ?_ | refine inBR ?_ | refine inBS ?_ | refine inBN (by decide) ?_)
    repeat (first | ((first | refine W_reg rfl fun G K hG hK => ?_ | refine W_end rfl fun G K hG hK => ?_); simp (disch := omega) only [go_sem, ↓reduceIte, Nat.reduceEqDiff, Nat.reduceAdd, Nat.reduceLeDiff, hG]; refine hK _ _ ?_; clear hK K hG G) | refine W_seqS ?_ | refine W_seqC ?_ | refine W_seqB ?_ | refine W_block ?_ | refine W_skip ?_ | (refine W_condT ?hc ?_; (case hc => (simp (disch := omega) only [go_sem, ↓reduceIte, Nat.reduceEqDiff, Nat.reduceAdd, Nat.reduceLeDiff]; done))) | (refine W_condF ?hc ?_; (case hc => (simp (disch := omega) only [go_sem, ↓reduceIte, Nat.reduceEqDiff, Nat.reduceAdd, Nat.reduceLeDiff]; done))) | refine thenI ?_ | refine thenE ?_ | refine thenR ?_ | refine inBI ?_ | refine inBR ?_ | refine inBS ?_ | refine inBN (by decide) ?_)
    refine W_ret ?_; try (repeat (first | refine thenI ?_ | refine thenE ?_ | refine thenR ?_ | refine inBI ?_ | refine inBR ?_ | refine inBS ?_ | refine inBN (by decide) ?_))
    refine finC2 (.inl rfl) (by (simp (disch := omega) only [go_sem, ↓reduceIte, Nat.reduceEqDiff, Nat.reduceAdd, Nat.reduceLeDiff]); try rfl) (by (simp (disch := omega) only [go_sem, ↓reduceIte, Nat.reduceEqDiff, Nat.reduceAdd, Nat.reduceLeDiff]); try rfl) rfl ⟨x1, _, L, by rw [hfb]; rfl, by unfold findD; rw [hfb]; exact ho, hf⟩

end

section
/- Substitutions are applied: impl.ApplySubst, spec.ApplySubst. -/
open Go Go.Proofs
set_option linter.unusedVariables false
set_option linter.unusedSimpArgs false
set_option maxRecDepth 100000
-- AUTO

mutual
def T.sub (bs : List Bnd) : T → T
  | .mk k n nm args => if ((k == 1) && (findB nm bs).isSome) = true then findD nm bs else .mk k n nm (T.subL bs args)
def T.subL (bs : List Bnd) : List T → List T
  | [] => []
  | x :: xs => x.sub bs :: T.subL bs xs
end
theorem T.subL_map (bs : List Bnd) (xs : List T) : T.subL bs xs = xs.map (T.sub bs) := by
  induction xs with
  | nil => rfl
  | cons x xs ih => simp only [T.subL, List.map_cons, ih]
theorem T.sub_yes {bs : List Bnd} {k n : Int} {nm : ByteArray} {args : List T} (h : (k == 1) = true) (h2 : (findB nm bs).isSome = true) : T.sub bs (.mk k n nm args) = findD nm bs := by simp only [T.sub, h, h2, Bool.and_self, if_true]
theorem T.sub_no {bs : List Bnd} {k n : Int} {nm : ByteArray} {args : List T} (h : (k == 1) = false ∨ (findB nm bs).isSome = false) : T.sub bs (.mk k n nm args) = .mk k n nm (args.map (T.sub bs)) := by
  simp only [T.sub, T.subL_map]
  rw [if_neg]
  simp only [Bool.and_eq_true]
  rintro ⟨h1, h2⟩
  rcases h with h | h
  · rw [h] at h1; cases h1
  · rw [h] at h2; cases h2
theorem Lim.sub {B : Nat} {bs : List Bnd} (hb : ∀ b ∈ bs, Lim B b.tm) : ∀ t : T, Lim B t → Lim B (t.sub bs) := by
  refine T.ind fun k n nm args ih h => ?_
  by_cases h1 : ((k == 1) && (findB nm bs).isSome) = true
  · simp only [T.sub, h1, if_true]; exact Lim.findD hb
  · simp only [T.sub, if_neg h1, T.subL_map]
    refine .mk _ _ _ _ (by simpa using h.args.1) fun a ha => ?_
    obtain ⟨x, hx, rfl⟩ := List.mem_map.1 ha
    exact ih x hx (h.args.2 x hx)

theorem implSub_of (k n : Int) (nm : ByteArray) (bs : List Bnd) (sb : Value) (xs : List T) (st : St) (s : Value) (hbig : xs.length ≤ 1073741824) (hbb : bs.length ≤ 1073741824) (hlb : ∀ b ∈ bs, Lim 1073741824 b.tm) (hr : RowT st xs s) (hb : Rw st bs sb)
    (ih : ∀ x ∈ xs, ∀ st' cs, Enc st' x cs → Rw st' bs sb → CallS Try.prog 35 [sb, .agg cs.toArray] st' fun r st2 => Ext st' st2 ∧ ∃ ds L, r = .agg ds.toArray ∧ OwnT st2 (x.sub bs) ds L ∧ Fresh st'.length L) :
    CallS Try.prog 35 [sb, .agg #[.int .i64 k, .int .i64 n, .string nm, s]] st fun r st2 => Ext st st2 ∧ ∃ ds L, r = .agg ds.toArray ∧ OwnT st2 ((T.mk k n nm xs).sub bs) ds L ∧ Fresh st.length L := by
  refine CallS_of_W [] 47 Try.func35 rfl rfl rfl rfl (by simp) ?_
  have hlen : lenE Try.prog 29 s = some (.int .i64 xs.length) := row_len hr Try.underlying29
  have n1 := hr.notLoc.1
  have n2 := hr.notLoc.2
  have b1 := hb.notLoc.1
  repeat (first | ((first | refine W_reg rfl fun G K hG hK => ?_ | refine W_end rfl fun G K hG hK => ?_); simp (disch := omega) only [go_sem, ↓reduceIte, Nat.reduceEqDiff, Nat.reduceAdd, Nat.reduceLeDiff, hG, b1]; refine hK _ _ ?_; clear hK K hG G) | refine W_seqS ?_ | refine W_seqC ?_ | refine W_seqB ?_ | refine W_block ?_ | refine W_skip ?_ | (refine W_condT ?hc ?_; (case hc => (simp (disch := omega) only [go_sem, ↓reduceIte, Nat.reduceEqDiff, Nat.reduceAdd, Nat.reduceLeDiff, b1]; done))) | (refine W_condF ?hc ?_; (case hc => (simp (disch := omega) only [go_sem, ↓reduceIte, Nat.reduceEqDiff, Nat.reduceAdd, Nat.reduceLeDiff, b1]; done))) | refine thenI ?_ | refine thenE ?_ | refine thenR ?_ | refine inBI ?_ | refine inBR ?_ | refine inBS ?_ | refine inBN (by decide) ?_)
  refine W_to (fun fr st' => (Ext st st') ∧ ((k == 1) = false ∨ (findB nm bs).isSome = false) ∧ (fr.env 0 = sb) ∧ (fr.env 3 = .pointer (some ⟨3, 0, some 1⟩)) ∧ (fr.env 4 = .pointer (some ⟨4, 0, some 1⟩)) ∧ (fr.loc 3 = (1, [.int .i64 k, .int .i64 n, .string nm, s])) ∧ ((fr.loc 4).1 = 1 ∧ (fr.loc 4).2.length = 4) ∧ ((fr.loc 7).1 = 0)) ?_ ?_
  · cases hk : (k == 1) with
    | false =>
      repeat (first | ((first | refine W_reg rfl fun G K hG hK => ?_ | refine W_end rfl fun G K hG hK => ?_); simp (disch := omega) only [go_sem, ↓reduceIte, Nat.reduceEqDiff, Nat.reduceAdd, Nat.reduceLeDiff, hG, b1, hk]; refine hK _ _ ?_; clear hK K hG G) | refine W_seqS ?_ | refine W_seqC ?_ | refine W_seqB ?_ | refine W_block ?_ | refine W_skip ?_ | (refine W_condT ?hc ?_; (case hc => (simp (disch := omega) only [go_sem, ↓reduceIte, Nat.reduceEqDiff, Nat.reduceAdd, Nat.reduceLeDiff, b1, hk]; done))) | (refine W_condF ?hc ?_; (case hc => (simp (disch := omega) only [go_sem, ↓reduceIte, Nat.reduceEqDiff, Nat.reduceAdd, Nat.reduceLeDiff, b1, hk]; done))) | refine thenI ?_ | refine thenE ?_ | refine thenR ?_ | refine inBI ?_ | refine inBR ?_ | refine inBS ?_ | refine inBN (by decide) ?_)
      exact ⟨Ext.refl _, .inl rfl, (by (simp (disch := omega) only [go_sem, ↓reduceIte, Nat.reduceEqDiff, Nat.reduceAdd, Nat.reduceLeDiff, b1]); try rfl), (by (simp (disch := omega) only [go_sem, ↓reduceIte, Nat.reduceEqDiff, Nat.reduceAdd, Nat.reduceLeDiff, b1]); try rfl), (by (simp (disch := omega) only [go_sem, ↓reduceIte, Nat.reduceEqDiff, Nat.reduceAdd, Nat.reduceLeDiff, b1]); try rfl), (by (simp (disch := omega) only [go_sem, ↓reduceIte, Nat.reduceEqDiff, Nat.reduceAdd, Nat.reduceLeDiff, b1]); try rfl), ⟨(by (simp (disch := omega) only [go_sem, ↓reduceIte, Nat.reduceEqDiff, Nat.reduceAdd, Nat.reduceLeDiff, b1]); try rfl), (by (simp (disch := omega) only [go_sem, ↓reduceIte, Nat.reduceEqDiff, Nat.reduceAdd, Nat.reduceLeDiff, b1]); try rfl)⟩, (by (simp (disch := omega) only [go_sem, ↓reduceIte, Nat.reduceEqDiff, Nat.reduceAdd, Nat.reduceLeDiff, b1]); try rfl)⟩
    | true =>
      repeat (first | ((first | refine W_reg rfl fun G K hG hK => ?_ | refine W_end rfl fun G K hG hK => ?_); simp (disch := omega) only [go_sem, ↓reduceIte, Nat.reduceEqDiff, Nat.reduceAdd, Nat.reduceLeDiff, hG, b1, hk]; refine hK _ _ ?_; clear hK K hG G) | refine W_seqS ?_ | refine W_seqC ?_ | refine W_seqB ?_ | refine W_block ?_ | refine W_skip ?_ | (refine W_condT ?hc ?_; (case hc => (simp (disch := omega) only [go_sem, ↓reduceIte, Nat.reduceEqDiff, Nat.reduceAdd, Nat.reduceLeDiff, b1, hk]; done))) | (refine W_condF ?hc ?_; (case hc => (simp (disch := omega) only [go_sem, ↓reduceIte, Nat.reduceEqDiff, Nat.reduceAdd, Nat.reduceLeDiff, b1, hk]; done))) | refine thenI ?_ | refine thenE ?_ | refine thenR ?_ | refine inBI ?_ | refine inBR ?_ | refine inBS ?_ | refine inBN (by decide) ?_)
      (repeat (first | refine W_seqS ?_ | refine W_seqC ?_ | refine W_seqB ?_ | refine W_block ?_)); refine W_reg rfl fun G K hG hK => ?_; simp (disch := omega) only [go_sem, ↓reduceIte, Nat.reduceEqDiff, Nat.reduceAdd, Nat.reduceLeDiff, hG, b1]
      refine w_call (bound_ok bs nm st sb (by omega) hb) (by simp (disch := omega) only [go_sem, ↓reduceIte, Nat.reduceEqDiff, b1]) ?hl ?_
      case hl => first | rfl | (simp only [go_sem, List.all_cons, List.all_nil, Bool.not_false, Bool.and_self, b1]; done)
      rintro r_ st ⟨rfl, es, rfl, hE⟩; refine ⟨fun e => (by cases e), ?_⟩
      have hlf := Lim.findD (nm := nm) hlb
      cases hq : (findB nm bs).isSome with
      | false =>
        obtain ⟨kw, nw, mw, aw, hwe⟩ := T.eta (findD nm bs)
        rw [hwe] at hE
        obtain ⟨sw, rfl, hrw⟩ := hE.open
        have w1 := hrw.notLoc.1
        have w2 := hrw.notLoc.2
        simp (disch := omega) only [go_sem, ↓reduceIte, Nat.reduceEqDiff, Nat.reduceAdd, Nat.reduceLeDiff, hG, b1, w1, w2]; refine hK _ _ ?_; clear hK K hG G; repeat (first | refine thenI ?_ | refine thenE ?_ | refine thenR ?_ | refine inBI ?_ | refine inBR ?_ | refine inBS ?_ | refine inBN (by decide) ?_)
        repeat (first | ((first | refine W_reg rfl fun G K hG hK => ?_ | refine W_end rfl fun G K hG hK => ?_); simp (disch := omega) only [go_sem, ↓reduceIte, Nat.reduceEqDiff, Nat.reduceAdd, Nat.reduceLeDiff, hG, b1]; refine hK _ _ ?_; clear hK K hG G) | refine W_seqS ?_ | refine W_seqC ?_ | refine W_seqB ?_ | refine W_block ?_ | refine W_skip ?_ | (refine W_condT ?hc ?_; (case hc => (simp (disch := omega) only [go_sem, ↓reduceIte, Nat.reduceEqDiff, Nat.reduceAdd, Nat.reduceLeDiff, b1]; done))) | (refine W_condF ?hc ?_; (case hc => (simp (disch := omega) only [go_sem, ↓reduceIte, Nat.reduceEqDiff, Nat.reduceAdd, Nat.reduceLeDiff, b1]; done))) | refine thenI ?_ | refine thenE ?_ | refine thenR ?_ | refine inBI ?_ | refine inBR ?_ | refine inBS ?_ | refine inBN (by decide) ?_)
        exact ⟨Ext.refl _, .inr (by first | exact hq | rfl), (by (simp (disch := omega) only [go_sem, ↓reduceIte, Nat.reduceEqDiff, Nat.reduceAdd, Nat.reduceLeDiff, b1]); try rfl), (by (simp (disch := omega) only [go_sem, ↓reduceIte, Nat.reduceEqDiff, Nat.reduceAdd, Nat.reduceLeDiff, b1]); try rfl), (by (simp (disch := omega) only [go_sem, ↓reduceIte, Nat.reduceEqDiff, Nat.reduceAdd, Nat.reduceLeDiff, b1]); try rfl), (by (simp (disch := omega) only [go_sem, ↓reduceIte, Nat.reduceEqDiff, Nat.reduceAdd, Nat.reduceLeDiff, b1]); try rfl), ⟨(by (simp (disch := omega) only [go_sem, ↓reduceIte, Nat.reduceEqDiff, Nat.reduceAdd, Nat.reduceLeDiff, b1]); try rfl), (by (simp (disch := omega) only [go_sem, ↓reduceIte, Nat.reduceEqDiff, Nat.reduceAdd, Nat.reduceLeDiff, b1]); try rfl)⟩, (by (simp (disch := omega) only [go_sem, ↓reduceIte, Nat.reduceEqDiff, Nat.reduceAdd, Nat.reduceLeDiff, b1]); try rfl)⟩
      | true =>
        have hsy : (T.mk k n nm xs).sub bs = findD nm bs := T.sub_yes hk hq
        obtain ⟨kw, nw, mw, aw, hwe⟩ := T.eta (findD nm bs)
        have hE2 := hE
        rw [hwe] at hE2
        obtain ⟨sw, rfl, hrw⟩ := hE2.open
        have w1 := hrw.notLoc.1
        have w2 := hrw.notLoc.2
        simp (disch := omega) only [go_sem, ↓reduceIte, Nat.reduceEqDiff, Nat.reduceAdd, Nat.reduceLeDiff, hG, b1, w1, w2]; refine hK _ _ ?_; clear hK K hG G; repeat (first | refine thenI ?_ | refine thenE ?_ | refine thenR ?_ | refine inBI ?_ | refine inBR ?_ | refine inBS ?_ | refine inBN (by decide) ?_)
        repeat (first | ((first | refine W_reg rfl fun G K hG hK => ?_ | refine W_end rfl fun G K hG hK => ?_); simp (disch := omega) only [go_sem, ↓reduceIte, Nat.reduceEqDiff, Nat.reduceAdd, Nat.reduceLeDiff, hG, b1]; refine hK _ _ ?_; clear hK K hG G) | refine W_seqS ?_ | refine W_seqC ?_ | refine W_seqB ?_ | refine W_block ?_ | refine W_skip ?_ | (refine W_condT ?hc ?_; (case hc => (simp (disch := omega) only [go_sem, ↓reduceIte, Nat.reduceEqDiff, Nat.reduceAdd, Nat.reduceLeDiff, b1]; done))) | (refine W_condF ?hc ?_; (case hc => (simp (disch := omega) only [go_sem, ↓reduceIte, Nat.reduceEqDiff, Nat.reduceAdd, Nat.reduceLeDiff, b1]; done))) | refine thenI ?_ | refine thenE ?_ | refine thenR ?_ | refine inBI ?_ | refine inBR ?_ | refine inBS ?_ | refine inBN (by decide) ?_)
        (repeat (first | refine W_seqS ?_ | refine W_seqC ?_ | refine W_seqB ?_ | refine W_block ?_)); refine W_reg rfl fun G K hG hK => ?_; simp (disch := omega) only [go_sem, ↓reduceIte, Nat.reduceEqDiff, Nat.reduceAdd, Nat.reduceLeDiff, hG, b1, w1, w2]
        refine w_call (copy_ok _ _ _ hlf hE) (by simp (disch := omega) only [go_sem, ↓reduceIte, Nat.reduceEqDiff, b1, w1]) ?hl ?_
        case hl => first | rfl | (simp only [go_sem, List.all_cons, List.all_nil, Bool.not_false, Bool.and_self, b1, w1]; done)
        rintro r_ s_ ⟨x1, es, L, rfl, ho, hf⟩; refine ⟨fun e => (by cases e), ?_⟩
        have ho2 := ho
        rw [hwe] at ho2
        obtain ⟨so, rfl, hso⟩ := ho2.open
        simp (disch := omega) only [go_sem, ↓reduceIte, Nat.reduceEqDiff, Nat.reduceAdd, Nat.reduceLeDiff, hG, b1]; refine hK _ _ ?_; clear hK K hG G; repeat (first | refine thenI ?_ | refine thenE ?_ | refine thenR ?_ | refine inBI ?_ | refine inBR ?_ | refine inBS ?_ | refine inBN (by decide) ?_)
        repeat (first | ((first | refine W_reg rfl fun G K hG hK => ?_ | refine W_end rfl fun G K hG hK => ?_); simp (disch := omega) only [go_sem, ↓reduceIte, Nat.reduceEqDiff, Nat.reduceAdd, Nat.reduceLeDiff, hG, b1]; refine hK _ _ ?_; clear hK K hG G) | refine W_seqS ?_ | refine W_seqC ?_ | refine W_seqB ?_ | refine W_block ?_ | refine W_skip ?_ | (refine W_condT ?hc ?_; (case hc => (simp (disch := omega) only [go_sem, ↓reduceIte, Nat.reduceEqDiff, Nat.reduceAdd, Nat.reduceLeDiff, b1]; done))) | (refine W_condF ?hc ?_; (case hc => (simp (disch := omega) only [go_sem, ↓reduceIte, Nat.reduceEqDiff, Nat.reduceAdd, Nat.reduceLeDiff, b1]; done))) | refine thenI ?_ | refine thenE ?_ | refine thenR ?_ | refine inBI ?_ | refine inBR ?_ | refine inBS ?_ | refine inBN (by decide) ?_)
        refine W_ret ?_; try (repeat (first | refine thenI ?_ | refine thenE ?_ | refine thenR ?_ | refine inBI ?_ | refine inBR ?_ | refine inBS ?_ | refine inBN (by decide) ?_))
        refine finC (.inl rfl) (by (simp (disch := omega) only [go_sem, ↓reduceIte, Nat.reduceEqDiff, Nat.reduceAdd, Nat.reduceLeDiff, b1]); try rfl) ⟨x1, _, L, rfl, by rw [hsy]; exact ho, hf⟩
  rintro ⟨env, loc⟩ st' ⟨hx0, hno, e0, e3, e4, l3, ⟨l4, l4'⟩, l7⟩
  simp only at e0 e3 e4 l3 l4 l4' l7
  rw [T.sub_no hno]
  repeat (first | ((first | refine W_reg rfl fun G K hG hK => ?_ | refine W_end rfl fun G K hG hK => ?_); simp (disch := omega) only [go_sem, ↓reduceIte, Nat.reduceEqDiff, Nat.reduceAdd, Nat.reduceLeDiff, hG, b1, e0, e3, e4, l3, l4, l4', l7, n1, n2, hlen]; refine hK _ _ ?_; clear hK K hG G) | refine W_seqS ?_ | refine W_seqC ?_ | refine W_seqB ?_ | refine W_block ?_ | refine W_skip ?_ | (refine W_condT ?hc ?_; (case hc => (simp (disch := omega) only [go_sem, ↓reduceIte, Nat.reduceEqDiff, Nat.reduceAdd, Nat.reduceLeDiff, b1, e0, e3, e4, l3, l4, l4', l7, n1, n2, hlen]; done))) | (refine W_condF ?hc ?_; (case hc => (simp (disch := omega) only [go_sem, ↓reduceIte, Nat.reduceEqDiff, Nat.reduceAdd, Nat.reduceLeDiff, b1, e0, e3, e4, l3, l4, l4', l7, n1, n2, hlen]; done))) | refine thenI ?_ | refine thenE ?_ | refine thenR ?_ | refine inBI ?_ | refine inBR ?_ | refine inBS ?_ | refine inBN (by decide) ?_)
  refine W_loop (fun d fr st' => ∃ (j : Nat) (r : Value) (L : List Nat), d = xs.length - j ∧ j ≤ xs.length ∧ (Ext st st') ∧ (SlT st' ((xs.take j).map (T.sub bs)) r L) ∧ (Fresh st.length L) ∧ (fr.env 0 = sb) ∧ (fr.env 4 = .pointer (some ⟨4, 0, some 1⟩)) ∧ (fr.env 7 = .pointer (some ⟨7, 0, some 1⟩)) ∧ (fr.env 31 = s) ∧ (fr.env 32 = .int .i64 xs.length) ∧ (fr.env 33 = .int .i64 j) ∧ ((fr.loc 4).1 = 1 ∧ (fr.loc 4).2.length = 4) ∧ (fr.loc 7 = (1, [.int .i64 k, .int .i64 n, .string nm, r]))) (xs.length) ?_ ?_
  · exact ⟨0, .slice none 0 0, [], by omega, by omega, hx0, .inl ⟨rfl, rfl, rfl⟩, .nil _, (by (simp (disch := omega) only [go_sem, ↓reduceIte, Nat.reduceEqDiff, Nat.reduceAdd, Nat.reduceLeDiff, b1, e0, e3, e4, l3, l4, l4', l7]); try rfl), (by (simp (disch := omega) only [go_sem, ↓reduceIte, Nat.reduceEqDiff, Nat.reduceAdd, Nat.reduceLeDiff, b1, e0, e3, e4, l3, l4, l4', l7]); try rfl), (by (simp (disch := omega) only [go_sem, ↓reduceIte, Nat.reduceEqDiff, Nat.reduceAdd, Nat.reduceLeDiff, b1, e0, e3, e4, l3, l4, l4', l7]); try rfl), (by (simp (disch := omega) only [go_sem, ↓reduceIte, Nat.reduceEqDiff, Nat.reduceAdd, Nat.reduceLeDiff, b1, e0, e3, e4, l3, l4, l4', l7]); try rfl), (by (simp (disch := omega) only [go_sem, ↓reduceIte, Nat.reduceEqDiff, Nat.reduceAdd, Nat.reduceLeDiff, b1, e0, e3, e4, l3, l4, l4', l7]); try rfl), (by (simp (disch := omega) only [go_sem, ↓reduceIte, Nat.reduceEqDiff, Nat.reduceAdd, Nat.reduceLeDiff, b1, e0, e3, e4, l3, l4, l4', l7]); try rfl), ⟨(by (simp (disch := omega) only [go_sem, ↓reduceIte, Nat.reduceEqDiff, Nat.reduceAdd, Nat.reduceLeDiff, b1, e0, e3, e4, l3, l4, l4', l7]); try rfl), (by (simp (disch := omega) only [go_sem, ↓reduceIte, Nat.reduceEqDiff, Nat.reduceAdd, Nat.reduceLeDiff, b1, e0, e3, e4, l3, l4, l4', l7]); try rfl)⟩, (by (simp (disch := omega) only [go_sem, ↓reduceIte, Nat.reduceEqDiff, Nat.reduceAdd, Nat.reduceLeDiff, b1, e0, e3, e4, l3, l4, l4', l7]); try rfl)⟩
  clear e0 e3 e4 l3 l4 l4' l7
  rintro d ⟨env, loc⟩ st' ⟨j, r, L, hd, hj, hext, hown, hfr, e0, e4, e7, e31, e32, e33, ⟨l4, l4'⟩, l7⟩
  simp only at e0 e4 e7 e31 e32 e33 l4 l4' l7
  by_cases hlt : j < xs.length
  · have c1 : decide ((j : Int) < (xs.length : Int)) = true := by simpa using hlt
    have hi := idxOk hlt
    have hx : xs[j]? = some xs[j] := List.getElem?_eq_getElem hlt
    have htk : xs.take (j + 1) = xs.take j ++ [xs[j]] := List.take_succ_eq_append_getElem hlt
    obtain ⟨i, o, c, cs, rfl, hcl, hE, hcs⟩ := row_at hr hx
    have hld := fun loc => load_row (A := []) (loc := loc) ag31 sz31 hcl (hcs.ext hext)
    have ho := hown.okv
    have hc := hown.cells
    have hl := hown.loc
    obtain ⟨v0, v1, v2, v3, rfl⟩ : ∃ v0 v1 v2 v3, cs = [v0, v1, v2, v3] := by
      match cs, hcl with
      | [v0, v1, v2, v3], _ => exact ⟨v0, v1, v2, v3, rfl⟩
    repeat (first | ((first | refine W_reg rfl fun G K hG hK => ?_ | refine W_end rfl fun G K hG hK => ?_); simp (disch := omega) only [go_sem, ↓reduceIte, Nat.reduceEqDiff, Nat.reduceAdd, Nat.reduceLeDiff, hG, b1, e0, e4, e7, e31, e32, e33, l4, l4', l7, c1, hi, idxA, Int.toNat_natCast, hld]; refine hK _ _ ?_; clear hK K hG G) | refine W_seqS ?_ | refine W_seqC ?_ | refine W_seqB ?_ | refine W_block ?_ | refine W_skip ?_ | (refine W_condT ?hc ?_; (case hc => (simp (disch := omega) only [go_sem, ↓reduceIte, Nat.reduceEqDiff, Nat.reduceAdd, Nat.reduceLeDiff, b1, e0, e4, e7, e31, e32, e33, l4, l4', l7, c1, hi, idxA, Int.toNat_natCast, hld]; done))) | (refine W_condF ?hc ?_; (case hc => (simp (disch := omega) only [go_sem, ↓reduceIte, Nat.reduceEqDiff, Nat.reduceAdd, Nat.reduceLeDiff, b1, e0, e4, e7, e31, e32, e33, l4, l4', l7, c1, hi, idxA, Int.toNat_natCast, hld]; done))) | refine thenI ?_ | refine thenE ?_ | refine thenR ?_ | refine inBI ?_ | refine inBR ?_ | refine inBS ?_ | refine inBN (by decide) ?_)
    refine W_endD mixed [] [(0,false),(1,false),(2,false),(3,false),(4,true),(5,false),(6,false),(7,false),(8,false)] rfl (by decide +kernel) fun G K hG hK => ?_; simp only [pickOps, List.filterMap_cons, List.filterMap_nil, List.getElem?_cons_zero, List.getElem?_cons_succ, Option.map_some]; simp (disch := omega) only [go_sem, ↓reduceIte, Nat.reduceEqDiff, Nat.reduceAdd, Nat.reduceLeDiff, hG, b1, e0, e4, e7, e31, e32, e33, l4, l4', l7, c1, hi, idxA, Int.toNat_natCast, hl]
    refine w_call (ih xs[j] (List.getElem_mem hlt) st' _ (Enc.ext hext _ _ hE) (hb.ext hext)) (by simp (disch := omega) only [go_sem, ↓reduceIte, Nat.reduceEqDiff, b1, e0, e4, e7, e31, e32, e33, l4, l4', l7, c1, hi, idxA, Int.toNat_natCast]) ?hl ?_
    case hl => first | rfl | (simp only [go_sem, List.all_cons, List.all_nil, Bool.not_false, Bool.and_self, b1, e0, e4, e7, e31, e32, e33, l4, l4', l7, c1, hi, idxA, Int.toNat_natCast]; done)
    rintro r_ s_ ⟨hx1, ds, Lx, rfl, hox, hfx⟩; refine ⟨fun e => hx1, ?_⟩
    obtain ⟨r', st3, L', hap, hown', hfr', hl3, hoth⟩ := Own.step hown hfr hext.length hx1 hox hfx (by simp; omega)
    have ho' := hown'.okv
    have hc' := hown'.cells
    have hn' := hown'.loc
    have hdl := Own.len _ _ _ hox
    simp (disch := omega) only [go_sem, ↓reduceIte, Nat.reduceEqDiff, Nat.reduceAdd, Nat.reduceLeDiff, hG, b1, e0, e4, e7, e31, e32, e33, l4, l4', l7, c1, hi, idxA, Int.toNat_natCast, w_append, hap, ho', hc', hn', hl, ho, hdl]; refine hK _ _ ?_; clear hK K hG G; repeat (first | refine thenI ?_ | refine thenE ?_ | refine thenR ?_ | refine inBI ?_ | refine inBR ?_ | refine inBS ?_ | refine inBN (by decide) ?_)
    repeat (first | ((first | refine W_reg rfl fun G K hG hK => ?_ | refine W_end rfl fun G K hG hK => ?_); simp (disch := omega) only [go_sem, ↓reduceIte, Nat.reduceEqDiff, Nat.reduceAdd, Nat.reduceLeDiff, hG, b1, e0, e4, e7, e31, e32, e33, l4, l4', l7, c1, hi, idxA, Int.toNat_natCast]; refine hK _ _ ?_; clear hK K hG G) | refine W_seqS ?_ | refine W_seqC ?_ | refine W_seqB ?_ | refine W_block ?_ | refine W_skip ?_ | (refine W_condT ?hc ?_; (case hc => (simp (disch := omega) only [go_sem, ↓reduceIte, Nat.reduceEqDiff, Nat.reduceAdd, Nat.reduceLeDiff, b1, e0, e4, e7, e31, e32, e33, l4, l4', l7, c1, hi, idxA, Int.toNat_natCast]; done))) | (refine W_condF ?hc ?_; (case hc => (simp (disch := omega) only [go_sem, ↓reduceIte, Nat.reduceEqDiff, Nat.reduceAdd, Nat.reduceLeDiff, b1, e0, e4, e7, e31, e32, e33, l4, l4', l7, c1, hi, idxA, Int.toNat_natCast]; done))) | refine thenI ?_ | refine thenE ?_ | refine thenR ?_ | refine inBI ?_ | refine inBR ?_ | refine inBS ?_ | refine inBN (by decide) ?_)
    have hxt := hext.length
    have htk' : (xs.take (j + 1)).map (T.sub bs) = (xs.take j).map (T.sub bs) ++ [xs[j].sub bs] := by rw [htk, List.map_append]; rfl
    refine ⟨xs.length - (j + 1), by omega, j + 1, r', L', rfl, by omega, Ext.of_get fun q hq => by rw [hoth q hq, hx1.get (by omega), hext.get hq], by rw [htk']; exact hown', hfr', (by (simp (disch := omega) only [go_sem, ↓reduceIte, Nat.reduceEqDiff, Nat.reduceAdd, Nat.reduceLeDiff, b1, e0, e4, e7, e31, e32, e33, l4, l4', l7, c1, hi, idxA, Int.toNat_natCast]); try rfl), (by (simp (disch := omega) only [go_sem, ↓reduceIte, Nat.reduceEqDiff, Nat.reduceAdd, Nat.reduceLeDiff, b1, e0, e4, e7, e31, e32, e33, l4, l4', l7, c1, hi, idxA, Int.toNat_natCast]); try rfl), (by (simp (disch := omega) only [go_sem, ↓reduceIte, Nat.reduceEqDiff, Nat.reduceAdd, Nat.reduceLeDiff, b1, e0, e4, e7, e31, e32, e33, l4, l4', l7, c1, hi, idxA, Int.toNat_natCast]); try rfl), (by (simp (disch := omega) only [go_sem, ↓reduceIte, Nat.reduceEqDiff, Nat.reduceAdd, Nat.reduceLeDiff, b1, e0, e4, e7, e31, e32, e33, l4, l4', l7, c1, hi, idxA, Int.toNat_natCast]); try rfl), (by (simp (disch := omega) only [go_sem, ↓reduceIte, Nat.reduceEqDiff, Nat.reduceAdd, Nat.reduceLeDiff, b1, e0, e4, e7, e31, e32, e33, l4, l4', l7, c1, hi, idxA, Int.toNat_natCast]); try rfl), (by (simp (disch := omega) only [go_sem, ↓reduceIte, Nat.reduceEqDiff, Nat.reduceAdd, Nat.reduceLeDiff, b1, e0, e4, e7, e31, e32, e33, l4, l4', l7, c1, hi, idxA, Int.toNat_natCast]); try rfl), ⟨(by (simp (disch := omega) only [go_sem, ↓reduceIte, Nat.reduceEqDiff, Nat.reduceAdd, Nat.reduceLeDiff, b1, e0, e4, e7, e31, e32, e33, l4, l4', l7, c1, hi, idxA, Int.toNat_natCast]); try rfl), (by (simp (disch := omega) only [go_sem, ↓reduceIte, Nat.reduceEqDiff, Nat.reduceAdd, Nat.reduceLeDiff, b1, e0, e4, e7, e31, e32, e33, l4, l4', l7, c1, hi, idxA, Int.toNat_natCast]); try rfl)⟩, (by (simp (disch := omega) only [go_sem, ↓reduceIte, Nat.reduceEqDiff, Nat.reduceAdd, Nat.reduceLeDiff, b1, e0, e4, e7, e31, e32, e33, l4, l4', l7, c1, hi, idxA, Int.toNat_natCast]); try rfl)⟩
  · have c1 : decide ((j : Int) < (xs.length : Int)) = false := by simpa using hlt
    have hjn : j = xs.length := by omega
    subst hjn
    rw [List.take_length] at hown
    have ho := hown.okv
    have hc := hown.cells
    have hl := hown.loc
    repeat (first | ((first | refine W_reg rfl fun G K hG hK => ?_ | refine W_end rfl fun G K hG hK => ?_); simp (disch := omega) only [go_sem, ↓reduceIte, Nat.reduceEqDiff, Nat.reduceAdd, Nat.reduceLeDiff, hG, b1, e0, e4, e7, e31, e32, e33, l4, l4', l7, c1]; refine hK _ _ ?_; clear hK K hG G) | refine W_seqS ?_ | refine W_seqC ?_ | refine W_seqB ?_ | refine W_block ?_ | refine W_skip ?_ | (refine W_condT ?hc ?_; (case hc => (simp (disch := omega) only [go_sem, ↓reduceIte, Nat.reduceEqDiff, Nat.reduceAdd, Nat.reduceLeDiff, b1, e0, e4, e7, e31, e32, e33, l4, l4', l7, c1]; done))) | (refine W_condF ?hc ?_; (case hc => (simp (disch := omega) only [go_sem, ↓reduceIte, Nat.reduceEqDiff, Nat.reduceAdd, Nat.reduceLeDiff, b1, e0, e4, e7, e31, e32, e33, l4, l4', l7, c1]; done))) | refine thenI ?_ | refine thenE ?_ | refine thenR ?_ | refine inBI ?_ | refine inBR ?_ | refine inBS ?_ | refine inBN (by decide) ?_)
    refine W_exit ?_; repeat (first | refine thenI ?_ | refine thenE ?_ | refine thenR ?_ | refine inBI ?_ | refine inBR ?_ | refine inBS ?_ | refine inBN (by decide) ?_)
    repeat (first | ((first | refine W_reg rfl fun G K hG hK => ?_ | refine W_end rfl fun G K hG hK => ?_); simp (disch := omega) only [go_sem, ↓reduceIte, Nat.reduceEqDiff, Nat.reduceAdd, Nat.reduceLeDiff, hG, b1, e0, e4, e7, e31, e32, e33, l4, l4', l7, c1, ho, hc, hl]; refine hK _ _ ?_; clear hK K hG G) | refine W_seqS ?_ | refine W_seqC ?_ | refine W_seqB ?_ | refine W_block ?_ | refine W_skip ?_ | (refine W_condT ?hc ?_; (case hc => (simp (disch := omega) only [go_sem, ↓reduceIte, Nat.reduceEqDiff, Nat.reduceAdd, Nat.reduceLeDiff, b1, e0, e4, e7, e31, e32, e33, l4, l4', l7, c1, ho, hc, hl]; done))) | (refine W_condF ?hc ?_; (case hc => (simp (disch := omega) only [go_sem, ↓reduceIte, Nat.reduceEqDiff, Nat.reduceAdd, Nat.reduceLeDiff, b1, e0, e4, e7, e31, e32, e33, l4, l4', l7, c1, ho, hc, hl]; done))) | refine thenI ?_ | refine thenE ?_ | refine thenR ?_ | refine inBI ?_ | refine inBR ?_ | refine inBS ?_ | refine inBN (by decide) ?_)
    refine W_ret ?_; try (repeat (first | refine thenI ?_ | refine thenE ?_ | refine thenR ?_ | refine inBI ?_ | refine inBR ?_ | refine inBS ?_ | refine inBN (by decide) ?_))
    refine finC (.inl rfl) (by (simp (disch := omega) only [go_sem, ↓reduceIte, Nat.reduceEqDiff, Nat.reduceAdd, Nat.reduceLeDiff, b1, e0, e4, e7, e31, e32, e33, l4, l4', l7, c1]); try rfl) ⟨hext, [_, _, _, _], L, rfl, Own.close _ _ _ hown, hfr⟩

theorem implSub_ok (bs : List Bnd) (sb : Value) (hbb : bs.length ≤ 1073741824) (hlb : ∀ b ∈ bs, Lim 1073741824 b.tm) : ∀ (t : T) (st : St) (cs : List Value), Lim 1073741824 t → Enc st t cs → Rw st bs sb →
    CallS Try.prog 35 [sb, .agg cs.toArray] st fun r st2 => Ext st st2 ∧ ∃ ds L, r = .agg ds.toArray ∧ OwnT st2 (t.sub bs) ds L ∧ Fresh st.length L := by
  refine T.ind fun k n nm args ih st cs hl h hb => ?_
  obtain ⟨s, rfl, hr⟩ := h.open
  exact implSub_of k n nm bs sb args st s hl.args.1 hbb hlb hr hb fun x hx st' cs he hb' => ih x hx st' cs (hl.args.2 x hx) he hb'

theorem specSub_of (k n : Int) (nm : ByteArray) (bs : List Bnd) (sb : Value) (xs : List T) (st : St) (s : Value) (hbig : xs.length ≤ 1073741824) (hbb : bs.length ≤ 1073741824) (hlb : ∀ b ∈ bs, Lim 1073741824 b.tm) (hr : RowT st xs s) (hb : Rw st bs sb)
    (ih : ∀ x ∈ xs, ∀ st' cs, Enc st' x cs → Rw st' bs sb → CallS Try.prog 28 [sb, .agg cs.toArray] st' fun r st2 => Ext st' st2 ∧ ∃ ds L, r = .agg ds.toArray ∧ OwnT st2 (x.sub bs) ds L ∧ Fresh st'.length L) :
    CallS Try.prog 28 [sb, .agg #[.int .i64 k, .int .i64 n, .string nm, s]] st fun r st2 => Ext st st2 ∧ ∃ ds L, r = .agg ds.toArray ∧ OwnT st2 ((T.mk k n nm xs).sub bs) ds L ∧ Fresh st.length L := by
  refine CallS_of_W [] 48 Try.func28 rfl rfl rfl rfl (by simp) ?_
  have hlen : lenE Try.prog 29 s = some (.int .i64 xs.length) := row_len hr Try.underlying29
  have n1 := hr.notLoc.1
  have n2 := hr.notLoc.2
  have b1 := hb.notLoc.1
  repeat (first | ((first | refine W_reg rfl fun G K hG hK => ?_ | refine W_end rfl fun G K hG hK => ?_); simp (disch := omega) only [go_sem, ↓reduceIte, Nat.reduceEqDiff, Nat.reduceAdd, Nat.reduceLeDiff, hG, b1]; refine hK _ _ ?_; clear hK K hG G) | refine W_seqS ?_ | refine W_seqC ?_ | refine W_seqB ?_ | refine W_block ?_ | refine W_skip ?_ | (refine W_condT ?hc ?_; (case hc => (simp (disch := omega) only [go_sem, ↓reduceIte, Nat.reduceEqDiff, Nat.reduceAdd, Nat.reduceLeDiff, b1]; done))) | (refine W_condF ?hc ?_; (case hc => (simp (disch := omega) only [go_sem, ↓reduceIte, Nat.reduceEqDiff, Nat.reduceAdd, Nat.reduceLeDiff, b1]; done))) | refine thenI ?_ | refine thenE ?_ | refine thenR ?_ | refine inBI ?_ | refine inBR ?_ | refine inBS ?_ | refine inBN (by decide) ?_)
  refine W_to (fun fr st' => (Ext st st') ∧ ((k == 1) = false ∨ (findB nm bs).isSome = false) ∧ (fr.env 0 = sb) ∧ (fr.env 3 = .pointer (some ⟨3, 0, some 1⟩)) ∧ (fr.env 4 = .pointer (some ⟨4, 0, some 1⟩)) ∧ (fr.loc 3 = (1, [.int .i64 k, .int .i64 n, .string nm, s])) ∧ ((fr.loc 4).1 = 1 ∧ (fr.loc 4).2.length = 4) ∧ ((fr.loc 7).1 = 0)) ?_ ?_
  · cases hk : (k == 1) with
    | false =>
      repeat (first | ((first | refine W_reg rfl fun G K hG hK => ?_ | refine W_end rfl fun G K hG hK => ?_); simp (disch := omega) only [go_sem, ↓reduceIte, Nat.reduceEqDiff, Nat.reduceAdd, Nat.reduceLeDiff, hG, b1, hk]; refine hK _ _ ?_; clear hK K hG G) | refine W_seqS ?_ | refine W_seqC ?_ | refine W_seqB ?_ | refine W_block ?_ | refine W_skip ?_ | (refine W_condT ?hc ?_; (case hc => (simp (disch := omega) only [go_sem, ↓reduceIte, Nat.reduceEqDiff, Nat.reduceAdd, Nat.reduceLeDiff, b1, hk]; done))) | (refine W_condF ?hc ?_; (case hc => (simp (disch := omega) only [go_sem, ↓reduceIte, Nat.reduceEqDiff, Nat.reduceAdd, Nat.reduceLeDiff, b1, hk]; done))) | refine thenI ?_ | refine thenE ?_ | refine thenR ?_ | refine inBI ?_ | refine inBR ?_ | refine inBS ?_ | refine inBN (by decide) ?_)
      exact ⟨Ext.refl _, .inl rfl, (by (simp (disch := omega) only [go_sem, ↓reduceIte, Nat.reduceEqDiff, Nat.reduceAdd, Nat.reduceLeDiff, b1]); try rfl), (by (simp (disch := omega) only [go_sem, ↓reduceIte, Nat.reduceEqDiff, Nat.reduceAdd, Nat.reduceLeDiff, b1]); try rfl), (by (simp (disch := omega) only [go_sem, ↓reduceIte, Nat.reduceEqDiff, Nat.reduceAdd, Nat.reduceLeDiff, b1]); try rfl), (by (simp (disch := omega) only [go_sem, ↓reduceIte, Nat.reduceEqDiff, Nat.reduceAdd, Nat.reduceLeDiff, b1]); try rfl), ⟨(by (simp (disch := omega) only [go_sem, ↓reduceIte, Nat.reduceEqDiff, Nat.reduceAdd, Nat.reduceLeDiff, b1]); try rfl), (by (simp (disch := omega) only [go_sem, ↓reduceIte, Nat.reduceEqDiff, Nat.reduceAdd, Nat.reduceLeDiff, b1]); try rfl)⟩, (by (simp (disch := omega) only [go_sem, ↓reduceIte, Nat.reduceEqDiff, Nat.reduceAdd, Nat.reduceLeDiff, b1]); try rfl)⟩
    | true =>
      repeat (first | ((first | refine W_reg rfl fun G K hG hK => ?_ | refine W_end rfl fun G K hG hK => ?_); simp (disch := omega) only [go_sem, ↓reduceIte, Nat.reduceEqDiff, Nat.reduceAdd, Nat.reduceLeDiff, hG, b1, hk]; refine hK _ _ ?_; clear hK K hG G) | refine W_seqS ?_ | refine W_seqC ?_ | refine W_seqB ?_ | refine W_block ?_ | refine W_skip ?_ | (refine W_condT ?hc ?_; (case hc => (simp (disch := omega) only [go_sem, ↓reduceIte, Nat.reduceEqDiff, Nat.reduceAdd, Nat.reduceLeDiff, b1, hk]; done))) | (refine W_condF ?hc ?_; (case hc => (simp (disch := omega) only [go_sem, ↓reduceIte, Nat.reduceEqDiff, Nat.reduceAdd, Nat.reduceLeDiff, b1, hk]; done))) | refine thenI ?_ | refine thenE ?_ | refine thenR ?_ | refine inBI ?_ | refine inBR ?_ | refine inBS ?_ | refine inBN (by decide) ?_)
      (repeat (first | refine W_seqS ?_ | refine W_seqC ?_ | refine W_seqB ?_ | refine W_block ?_)); refine W_reg rfl fun G K hG hK => ?_; simp (disch := omega) only [go_sem, ↓reduceIte, Nat.reduceEqDiff, Nat.reduceAdd, Nat.reduceLeDiff, hG, b1]
      refine w_call (specFind_ok bs nm st sb (by omega) hlb hb) (by simp (disch := omega) only [go_sem, ↓reduceIte, Nat.reduceEqDiff, b1]) ?hl ?_
      case hl => first | rfl | (simp only [go_sem, List.all_cons, List.all_nil, Bool.not_false, Bool.and_self, b1]; done)
      rintro r_ sc ⟨x1, es, L, rfl, ho, hf⟩; refine ⟨fun e => (by cases e), ?_⟩
      obtain ⟨kw, nw, mw, sw, rfl, w1, w2, w3⟩ := ho.args_cells
      simp (disch := omega) only [go_sem, ↓reduceIte, Nat.reduceEqDiff, Nat.reduceAdd, Nat.reduceLeDiff, hG, b1, w1, w2, w3]; refine hK _ _ ?_; clear hK K hG G; repeat (first | refine thenI ?_ | refine thenE ?_ | refine thenR ?_ | refine inBI ?_ | refine inBR ?_ | refine inBS ?_ | refine inBN (by decide) ?_)
      cases hq : (findB nm bs).isSome with
      | false =>
        repeat (first | ((first | refine W_reg rfl fun G K hG hK => ?_ | refine W_end rfl fun G K hG hK => ?_); simp (disch := omega) only [go_sem, ↓reduceIte, Nat.reduceEqDiff, Nat.reduceAdd, Nat.reduceLeDiff, hG, b1]; refine hK _ _ ?_; clear hK K hG G) | refine W_seqS ?_ | refine W_seqC ?_ | refine W_seqB ?_ | refine W_block ?_ | refine W_skip ?_ | (refine W_condT ?hc ?_; (case hc => (simp (disch := omega) only [go_sem, ↓reduceIte, Nat.reduceEqDiff, Nat.reduceAdd, Nat.reduceLeDiff, b1]; done))) | (refine W_condF ?hc ?_; (case hc => (simp (disch := omega) only [go_sem, ↓reduceIte, Nat.reduceEqDiff, Nat.reduceAdd, Nat.reduceLeDiff, b1]; done))) | refine thenI ?_ | refine thenE ?_ | refine thenR ?_ | refine inBI ?_ | refine inBR ?_ | refine inBS ?_ | refine inBN (by decide) ?_)
        exact ⟨x1, .inr (by first | exact hq | rfl), (by (simp (disch := omega) only [go_sem, ↓reduceIte, Nat.reduceEqDiff, Nat.reduceAdd, Nat.reduceLeDiff, b1]); try rfl), (by (simp (disch := omega) only [go_sem, ↓reduceIte, Nat.reduceEqDiff, Nat.reduceAdd, Nat.reduceLeDiff, b1]); try rfl), (by (simp (disch := omega) only [go_sem, ↓reduceIte, Nat.reduceEqDiff, Nat.reduceAdd, Nat.reduceLeDiff, b1]); try rfl), (by (simp (disch := omega) only [go_sem, ↓reduceIte, Nat.reduceEqDiff, Nat.reduceAdd, Nat.reduceLeDiff, b1]); try rfl), ⟨(by (simp (disch := omega) only [go_sem, ↓reduceIte, Nat.reduceEqDiff, Nat.reduceAdd, Nat.reduceLeDiff, b1]); try rfl), (by (simp (disch := omega) only [go_sem, ↓reduceIte, Nat.reduceEqDiff, Nat.reduceAdd, Nat.reduceLeDiff, b1]); try rfl)⟩, (by (simp (disch := omega) only [go_sem, ↓reduceIte, Nat.reduceEqDiff, Nat.reduceAdd, Nat.reduceLeDiff, b1]); try rfl)⟩
      | true =>
        repeat (first | ((first | refine W_reg rfl fun G K hG hK => ?_ | refine W_end rfl fun G K hG hK => ?_); simp (disch := omega) only [go_sem, ↓reduceIte, Nat.reduceEqDiff, Nat.reduceAdd, Nat.reduceLeDiff, hG, b1, w1, w2, w3]; refine hK _ _ ?_; clear hK K hG G) | refine W_seqS ?_ | refine W_seqC ?_ | refine W_seqB ?_ | refine W_block ?_ | refine W_skip ?_ | (refine W_condT ?hc ?_; (case hc => (simp (disch := omega) only [go_sem, ↓reduceIte, Nat.reduceEqDiff, Nat.reduceAdd, Nat.reduceLeDiff, b1, w1, w2, w3]; done))) | (refine W_condF ?hc ?_; (case hc => (simp (disch := omega) only [go_sem, ↓reduceIte, Nat.reduceEqDiff, Nat.reduceAdd, Nat.reduceLeDiff, b1, w1, w2, w3]; done))) | refine thenI ?_ | refine thenE ?_ | refine thenR ?_ | refine inBI ?_ | refine inBR ?_ | refine inBS ?_ | refine inBN (by decide) ?_)
        have hsy : (T.mk k n nm xs).sub bs = findD nm bs := T.sub_yes hk hq
        refine W_ret ?_; try (repeat (first | refine thenI ?_ | refine thenE ?_ | refine thenR ?_ | refine inBI ?_ | refine inBR ?_ | refine inBS ?_ | refine inBN (by decide) ?_))
        refine finC (.inl rfl) (by (simp (disch := omega) only [go_sem, ↓reduceIte, Nat.reduceEqDiff, Nat.reduceAdd, Nat.reduceLeDiff, b1]); try rfl) ⟨x1, _, L, rfl, by rw [hsy]; exact ho, hf⟩
  rintro ⟨env, loc⟩ st' ⟨hx0, hno, e0, e3, e4, l3, ⟨l4, l4'⟩, l7⟩
  simp only at e0 e3 e4 l3 l4 l4' l7
  rw [T.sub_no hno]
  repeat (first | ((first | refine W_reg rfl fun G K hG hK => ?_ | refine W_end rfl fun G K hG hK => ?_); simp (disch := omega) only [go_sem, ↓reduceIte, Nat.reduceEqDiff, Nat.reduceAdd, Nat.reduceLeDiff, hG, b1, e0, e3, e4, l3, l4, l4', l7, n1, n2]; refine hK _ _ ?_; clear hK K hG G) | refine W_seqS ?_ | refine W_seqC ?_ | refine W_seqB ?_ | refine W_block ?_ | refine W_skip ?_ | (refine W_condT ?hc ?_; (case hc => (simp (disch := omega) only [go_sem, ↓reduceIte, Nat.reduceEqDiff, Nat.reduceAdd, Nat.reduceLeDiff, b1, e0, e3, e4, l3, l4, l4', l7, n1, n2]; done))) | (refine W_condF ?hc ?_; (case hc => (simp (disch := omega) only [go_sem, ↓reduceIte, Nat.reduceEqDiff, Nat.reduceAdd, Nat.reduceLeDiff, b1, e0, e3, e4, l3, l4, l4', l7, n1, n2]; done))) | refine thenI ?_ | refine thenE ?_ | refine thenR ?_ | refine inBI ?_ | refine inBR ?_ | refine inBS ?_ | refine inBN (by decide) ?_)
  refine W_loop (fun d fr st' => ∃ (j : Nat) (r : Value) (L : List Nat), d = xs.length - j ∧ j ≤ xs.length ∧ (Ext st st') ∧ (SlT st' ((xs.take j).map (T.sub bs)) r L) ∧ (Fresh st.length L) ∧ (fr.env 0 = sb) ∧ (fr.env 3 = .pointer (some ⟨3, 0, some 1⟩)) ∧ (fr.env 4 = .pointer (some ⟨4, 0, some 1⟩)) ∧ (fr.env 7 = .pointer (some ⟨7, 0, some 1⟩)) ∧ (fr.env 8 = .int .i64 j) ∧ (fr.loc 3 = (1, [.int .i64 k, .int .i64 n, .string nm, s])) ∧ ((fr.loc 4).1 = 1 ∧ (fr.loc 4).2.length = 4) ∧ (fr.loc 7 = (1, [.int .i64 k, .int .i64 n, .string nm, r]))) (xs.length) ?_ ?_
  · exact ⟨0, .slice none 0 0, [], by omega, by omega, hx0, .inl ⟨rfl, rfl, rfl⟩, .nil _, (by (simp (disch := omega) only [go_sem, ↓reduceIte, Nat.reduceEqDiff, Nat.reduceAdd, Nat.reduceLeDiff, b1, e0, e3, e4, l3, l4, l4', l7]); try rfl), (by (simp (disch := omega) only [go_sem, ↓reduceIte, Nat.reduceEqDiff, Nat.reduceAdd, Nat.reduceLeDiff, b1, e0, e3, e4, l3, l4, l4', l7]); try rfl), (by (simp (disch := omega) only [go_sem, ↓reduceIte, Nat.reduceEqDiff, Nat.reduceAdd, Nat.reduceLeDiff, b1, e0, e3, e4, l3, l4, l4', l7]); try rfl), (by (simp (disch := omega) only [go_sem, ↓reduceIte, Nat.reduceEqDiff, Nat.reduceAdd, Nat.reduceLeDiff, b1, e0, e3, e4, l3, l4, l4', l7]); try rfl), (by (simp (disch := omega) only [go_sem, ↓reduceIte, Nat.reduceEqDiff, Nat.reduceAdd, Nat.reduceLeDiff, b1, e0, e3, e4, l3, l4, l4', l7]); try rfl), (by (simp (disch := omega) only [go_sem, ↓reduceIte, Nat.reduceEqDiff, Nat.reduceAdd, Nat.reduceLeDiff, b1, e0, e3, e4, l3, l4, l4', l7]); try rfl), ⟨(by (simp (disch := omega) only [go_sem, ↓reduceIte, Nat.reduceEqDiff, Nat.reduceAdd, Nat.reduceLeDiff, b1, e0, e3, e4, l3, l4, l4', l7]); try rfl), (by (simp (disch := omega) only [go_sem, ↓reduceIte, Nat.reduceEqDiff, Nat.reduceAdd, Nat.reduceLeDiff, b1, e0, e3, e4, l3, l4, l4', l7]); try rfl)⟩, (by (simp (disch := omega) only [go_sem, ↓reduceIte, Nat.reduceEqDiff, Nat.reduceAdd, Nat.reduceLeDiff, b1, e0, e3, e4, l3, l4, l4', l7]); try rfl)⟩
  clear e0 e3 e4 l3 l4 l4' l7
  rintro d ⟨env, loc⟩ st' ⟨j, r, L, hd, hj, hext, hown, hfr, e0, e3, e4, e7, e8, l3, ⟨l4, l4'⟩, l7⟩
  simp only at e0 e3 e4 e7 e8 l3 l4 l4' l7
  by_cases hlt : j < xs.length
  · have c1 : decide ((j : Int) < (xs.length : Int)) = true := by simpa using hlt
    have hi := idxOk hlt
    have hx : xs[j]? = some xs[j] := List.getElem?_eq_getElem hlt
    have htk : xs.take (j + 1) = xs.take j ++ [xs[j]] := List.take_succ_eq_append_getElem hlt
    obtain ⟨i, o, c, cs, rfl, hcl, hE, hcs⟩ := row_at hr hx
    have hld := fun loc => load_row (A := []) (loc := loc) ag31 sz31 hcl (hcs.ext hext)
    have ho := hown.okv
    have hc := hown.cells
    have hl := hown.loc
    obtain ⟨v0, v1, v2, v3, rfl⟩ : ∃ v0 v1 v2 v3, cs = [v0, v1, v2, v3] := by
      match cs, hcl with
      | [v0, v1, v2, v3], _ => exact ⟨v0, v1, v2, v3, rfl⟩
    repeat (first | ((first | refine W_reg rfl fun G K hG hK => ?_ | refine W_end rfl fun G K hG hK => ?_); simp (disch := omega) only [go_sem, ↓reduceIte, Nat.reduceEqDiff, Nat.reduceAdd, Nat.reduceLeDiff, hG, b1, e0, e3, e4, e7, e8, l3, l4, l4', l7, hlen, c1, hi, idxA, Int.toNat_natCast]; refine hK _ _ ?_; clear hK K hG G) | refine W_seqS ?_ | refine W_seqC ?_ | refine W_seqB ?_ | refine W_block ?_ | refine W_skip ?_ | (refine W_condT ?hc ?_; (case hc => (simp (disch := omega) only [go_sem, ↓reduceIte, Nat.reduceEqDiff, Nat.reduceAdd, Nat.reduceLeDiff, b1, e0, e3, e4, e7, e8, l3, l4, l4', l7, hlen, c1, hi, idxA, Int.toNat_natCast]; done))) | (refine W_condF ?hc ?_; (case hc => (simp (disch := omega) only [go_sem, ↓reduceIte, Nat.reduceEqDiff, Nat.reduceAdd, Nat.reduceLeDiff, b1, e0, e3, e4, e7, e8, l3, l4, l4', l7, hlen, c1, hi, idxA, Int.toNat_natCast]; done))) | refine thenI ?_ | refine thenE ?_ | refine thenR ?_ | refine inBI ?_ | refine inBR ?_ | refine inBS ?_ | refine inBN (by decide) ?_)
    refine W_endD mixed [] [(0,false),(1,false),(2,false),(3,false),(4,false),(5,false),(6,false),(7,false),(8,true),(9,false),(10,false),(11,false),(12,false)] rfl (by decide +kernel) fun G K hG hK => ?_; simp only [pickOps, List.filterMap_cons, List.filterMap_nil, List.getElem?_cons_zero, List.getElem?_cons_succ, Option.map_some]; simp (disch := omega) only [go_sem, ↓reduceIte, Nat.reduceEqDiff, Nat.reduceAdd, Nat.reduceLeDiff, hG, b1, e0, e3, e4, e7, e8, l3, l4, l4', l7, hlen, c1, hi, idxA, Int.toNat_natCast, hl, hld]
    refine w_call (ih xs[j] (List.getElem_mem hlt) st' _ (Enc.ext hext _ _ hE) (hb.ext hext)) (by simp (disch := omega) only [go_sem, ↓reduceIte, Nat.reduceEqDiff, b1, e0, e3, e4, e7, e8, l3, l4, l4', l7, hlen, c1, hi, idxA, Int.toNat_natCast]) ?hl ?_
    case hl => first | rfl | (simp only [go_sem, List.all_cons, List.all_nil, Bool.not_false, Bool.and_self, b1, e0, e3, e4, e7, e8, l3, l4, l4', l7, hlen, c1, hi, idxA, Int.toNat_natCast]; done)
    rintro r_ s_ ⟨hx1, ds, Lx, rfl, hox, hfx⟩; refine ⟨fun e => hx1, ?_⟩
    obtain ⟨r', st3, L', hap, hown', hfr', hl3, hoth⟩ := Own.step hown hfr hext.length hx1 hox hfx (by simp; omega)
    have ho' := hown'.okv
    have hc' := hown'.cells
    have hn' := hown'.loc
    have hdl := Own.len _ _ _ hox
    simp (disch := omega) only [go_sem, ↓reduceIte, Nat.reduceEqDiff, Nat.reduceAdd, Nat.reduceLeDiff, hG, b1, e0, e3, e4, e7, e8, l3, l4, l4', l7, hlen, c1, hi, idxA, Int.toNat_natCast, w_append, hap, ho', hc', hn', hl, ho, hdl]; refine hK _ _ ?_; clear hK K hG G; repeat (first | refine thenI ?_ | refine thenE ?_ | refine thenR ?_ | refine inBI ?_ | refine inBR ?_ | refine inBS ?_ | refine inBN (by decide) ?_)
    repeat (first | ((first | refine W_reg rfl fun G K hG hK => ?_ | refine W_end rfl fun G K hG hK => ?_); simp (disch := omega) only [go_sem, ↓reduceIte, Nat.reduceEqDiff, Nat.reduceAdd, Nat.reduceLeDiff, hG, b1, e0, e3, e4, e7, e8, l3, l4, l4', l7, hlen, c1, hi, idxA, Int.toNat_natCast]; refine hK _ _ ?_; clear hK K hG G) | refine W_seqS ?_ | refine W_seqC ?_ | refine W_seqB ?_ | refine W_block ?_ | refine W_skip ?_ | (refine W_condT ?hc ?_; (case hc => (simp (disch := omega) only [go_sem, ↓reduceIte, Nat.reduceEqDiff, Nat.reduceAdd, Nat.reduceLeDiff, b1, e0, e3, e4, e7, e8, l3, l4, l4', l7, hlen, c1, hi, idxA, Int.toNat_natCast]; done))) | (refine W_condF ?hc ?_; (case hc => (simp (disch := omega) only [go_sem, ↓reduceIte, Nat.reduceEqDiff, Nat.reduceAdd, Nat.reduceLeDiff, b1, e0, e3, e4, e7, e8, l3, l4, l4', l7, hlen, c1, hi, idxA, Int.toNat_natCast]; done))) | refine thenI ?_ | refine thenE ?_ | refine thenR ?_ | refine inBI ?_ | refine inBR ?_ | refine inBS ?_ | refine inBN (by decide) ?_)
    have hxt := hext.length
    have htk' : (xs.take (j + 1)).map (T.sub bs) = (xs.take j).map (T.sub bs) ++ [xs[j].sub bs] := by rw [htk, List.map_append]; rfl
    refine ⟨xs.length - (j + 1), by omega, j + 1, r', L', rfl, by omega, Ext.of_get fun q hq => by rw [hoth q hq, hx1.get (by omega), hext.get hq], by rw [htk']; exact hown', hfr', (by (simp (disch := omega) only [go_sem, ↓reduceIte, Nat.reduceEqDiff, Nat.reduceAdd, Nat.reduceLeDiff, b1, e0, e3, e4, e7, e8, l3, l4, l4', l7, hlen, c1, hi, idxA, Int.toNat_natCast]); try rfl), (by (simp (disch := omega) only [go_sem, ↓reduceIte, Nat.reduceEqDiff, Nat.reduceAdd, Nat.reduceLeDiff, b1, e0, e3, e4, e7, e8, l3, l4, l4', l7, hlen, c1, hi, idxA, Int.toNat_natCast]); try rfl), (by (simp (disch := omega) only [go_sem, ↓reduceIte, Nat.reduceEqDiff, Nat.reduceAdd, Nat.reduceLeDiff, b1, e0, e3, e4, e7, e8, l3, l4, l4', l7, hlen, c1, hi, idxA, Int.toNat_natCast]); try rfl), (by (simp (disch := omega) only [go_sem, ↓reduceIte, Nat.reduceEqDiff, Nat.reduceAdd, Nat.reduceLeDiff, b1, e0, e3, e4, e7, e8, l3, l4, l4', l7, hlen, c1, hi, idxA, Int.toNat_natCast]); try rfl), (by (simp (disch := omega) only [go_sem, ↓reduceIte, Nat.reduceEqDiff, Nat.reduceAdd, Nat.reduceLeDiff, b1, e0, e3, e4, e7, e8, l3, l4, l4', l7, hlen, c1, hi, idxA, Int.toNat_natCast]); try rfl), (by (simp (disch := omega) only [go_sem, ↓reduceIte, Nat.reduceEqDiff, Nat.reduceAdd, Nat.reduceLeDiff, b1, e0, e3, e4, e7, e8, l3, l4, l4', l7, hlen, c1, hi, idxA, Int.toNat_natCast]); try rfl), ⟨(by (simp (disch := omega) only [go_sem, ↓reduceIte, Nat.reduceEqDiff, Nat.reduceAdd, Nat.reduceLeDiff, b1, e0, e3, e4, e7, e8, l3, l4, l4', l7, hlen, c1, hi, idxA, Int.toNat_natCast]); try rfl), (by (simp (disch := omega) only [go_sem, ↓reduceIte, Nat.reduceEqDiff, Nat.reduceAdd, Nat.reduceLeDiff, b1, e0, e3, e4, e7, e8, l3, l4, l4', l7, hlen, c1, hi, idxA, Int.toNat_natCast]); try rfl)⟩, (by (simp (disch := omega) only [go_sem, ↓reduceIte, Nat.reduceEqDiff, Nat.reduceAdd, Nat.reduceLeDiff, b1, e0, e3, e4, e7, e8, l3, l4, l4', l7, hlen, c1, hi, idxA, Int.toNat_natCast]); try rfl)⟩
  · have c1 : decide ((j : Int) < (xs.length : Int)) = false := by simpa using hlt
    have hjn : j = xs.length := by omega
    subst hjn
    rw [List.take_length] at hown
    have ho := hown.okv
    have hc := hown.cells
    have hl := hown.loc
    repeat (first | ((first | refine W_reg rfl fun G K hG hK => ?_ | refine W_end rfl fun G K hG hK => ?_); simp (disch := omega) only [go_sem, ↓reduceIte, Nat.reduceEqDiff, Nat.reduceAdd, Nat.reduceLeDiff, hG, b1, e0, e3, e4, e7, e8, l3, l4, l4', l7, c1, hlen]; refine hK _ _ ?_; clear hK K hG G) | refine W_seqS ?_ | refine W_seqC ?_ | refine W_seqB ?_ | refine W_block ?_ | refine W_skip ?_ | (refine W_condT ?hc ?_; (case hc => (simp (disch := omega) only [go_sem, ↓reduceIte, Nat.reduceEqDiff, Nat.reduceAdd, Nat.reduceLeDiff, b1, e0, e3, e4, e7, e8, l3, l4, l4', l7, c1, hlen]; done))) | (refine W_condF ?hc ?_; (case hc => (simp (disch := omega) only [go_sem, ↓reduceIte, Nat.reduceEqDiff, Nat.reduceAdd, Nat.reduceLeDiff, b1, e0, e3, e4, e7, e8, l3, l4, l4', l7, c1, hlen]; done))) | refine thenI ?_ | refine thenE ?_ | refine thenR ?_ | refine inBI ?_ | refine inBR ?_ | refine inBS ?_ | refine inBN (by decide) ?_)
    refine W_exit ?_; repeat (first | refine thenI ?_ | refine thenE ?_ | refine thenR ?_ | refine inBI ?_ | refine inBR ?_ | refine inBS ?_ | refine inBN (by decide) ?_)
    repeat (first | ((first | refine W_reg rfl fun G K hG hK => ?_ | refine W_end rfl fun G K hG hK => ?_); simp (disch := omega) only [go_sem, ↓reduceIte, Nat.reduceEqDiff, Nat.reduceAdd, Nat.reduceLeDiff, hG, b1, e0, e3, e4, e7, e8, l3, l4, l4', l7, c1, hlen, ho, hc, hl]; refine hK _ _ ?_; clear hK K hG G) | refine W_seqS ?_ | refine W_seqC ?_ | refine W_seqB ?_ | refine W_block ?_ | refine W_skip ?_ | (refine W_condT ?hc ?_; (case hc => (simp (disch := omega) only [go_sem, ↓reduceIte, Nat.reduceEqDiff, Nat.reduceAdd, Nat.reduceLeDiff, b1, e0, e3, e4, e7, e8, l3, l4, l4', l7, c1, hlen, ho, hc, hl]; done))) | (refine W_condF ?hc ?_; (case hc => (simp (disch := omega) only [go_sem, ↓reduceIte, Nat.reduceEqDiff, Nat.reduceAdd, Nat.reduceLeDiff, b1, e0, e3, e4, e7, e8, l3, l4, l4', l7, c1, hlen, ho, hc, hl]; done))) | refine thenI ?_ | refine thenE ?_ | refine thenR ?_ | refine inBI ?_ | refine inBR ?_ | refine inBS ?_ | refine inBN (by decide) ?_)
    refine W_ret ?_; try (repeat (first | refine thenI ?_ | refine thenE ?_ | refine thenR ?_ | refine inBI ?_ | refine inBR ?_ | refine inBS ?_ | refine inBN (by decide) ?_))
    refine finC (.inl rfl) (by (simp (disch := omega) only [go_sem, ↓reduceIte, Nat.reduceEqDiff, Nat.reduceAdd, Nat.reduceLeDiff, b1, e0, e3, e4, e7, e8, l3, l4, l4', l7, c1, hlen]); try rfl) ⟨hext, [_, _, _, _], L, rfl, Own.close _ _ _ hown, hfr⟩

theorem specSub_ok (bs : List Bnd) (sb : Value) (hbb : bs.length ≤ 1073741824) (hlb : ∀ b ∈ bs, Lim 1073741824 b.tm) : ∀ (t : T) (st : St) (cs : List Value), Lim 1073741824 t → Enc st t cs → Rw st bs sb →
    CallS Try.prog 28 [sb, .agg cs.toArray] st fun r st2 => Ext st st2 ∧ ∃ ds L, r = .agg ds.toArray ∧ OwnT st2 (t.sub bs) ds L ∧ Fresh st.length L := by
  refine T.ind fun k n nm args ih st cs hl h hb => ?_
  obtain ⟨s, rfl, hr⟩ := h.open
  exact specSub_of k n nm bs sb args st s hl.args.1 hbb hlb hr hb fun x hx st' cs he hb' => ih x hx st' cs (hl.args.2 x hx) he hb'

end

section
/- Substitutions are composed: impl.copyBind, impl.ComposeSubst, spec.ComposeSubst. -/
open Go Go.Proofs
set_option linter.unusedVariables false
set_option linter.unusedSimpArgs false
set_option maxRecDepth 100000
-- AUTO

/-- What a composition holds. -/
def compA (b : List Bnd) (a : List Bnd) : List Bnd := a.map fun x => ⟨x.nm, x.tm.sub b⟩
def compB (a : List Bnd) (b : List Bnd) : List Bnd := b.filter fun x => (findB x.nm a).isNone
def comp (a b : List Bnd) : List Bnd := compA b a ++ compB a b
theorem compB_snoc (a : List Bnd) (xs : List Bnd) (x : Bnd) : compB a (xs ++ [x]) = compB a xs ++ (if (findB x.nm a).isNone = true then [x] else []) := by
  unfold compB
  rw [List.filter_append]
  congr 1
  by_cases h : (findB x.nm a).isNone = true
  · rw [if_pos h]; simp only [List.filter_cons, h, if_true, List.filter_nil]
  · rw [if_neg h]; simp only [List.filter_cons, h, List.filter_nil]; rfl
theorem comp_len (a b : List Bnd) : (comp a b).length ≤ a.length + b.length := by
  unfold comp compA compB
  rw [List.length_append, List.length_map]
  have := List.length_filter_le (fun x : Bnd => (findB x.nm a).isNone) b
  omega
theorem Lim.comp {B : Nat} {a b : List Bnd} (ha : ∀ x ∈ a, Lim B x.tm) (hb : ∀ x ∈ b, Lim B x.tm) : ∀ x ∈ AM.comp a b, Lim B x.tm := by
  intro x hx
  unfold AM.comp compA compB at hx
  rcases List.mem_append.1 hx with hx | hx
  · obtain ⟨y, hy, rfl⟩ := List.mem_map.1 hx
    exact Lim.sub hb _ (ha y hy)
  · exact hb x (List.mem_filter.1 hx).1

/-- A binding is put behind a row of one's own. -/
theorem OwnB.step {n0 : Nat} {st st2 : St} {xs : List Bnd} {s : Value} {L : List Nat} {x : Bnd} {cx : List Value} {Lx : List Nat} (h : Sl st xs s L) (hf : Fresh n0 L) (hn0 : n0 ≤ st.length) (hext : Ext st st2) (hx : OwnB st2 x cx Lx) (hfx : Fresh st.length Lx) (hbd : xs.length + 1 ≤ 274877906944) :
    ∃ s' st' L', appendA Try.prog 26 26 s (.slice (some ⟨st2.length, 0, none⟩) 1 1) (st2 ++ [⟨cx, 54, 0⟩]) = some (s', st') ∧ Sl st' (xs ++ [x]) s' L' ∧ Fresh n0 L' ∧ Grow st s st' s' :=
  Sl.push (α := Bnd) Try.underlying26 Try.underlying26 sz54 rfl by54 ze54 rfl h hf hn0 hext hx hfx (by omega) (by omega)

theorem copyBind_ok (b : Bnd) (st : St) (cs : List Value) (hl : Lim 1073741824 b.tm) (h : EncB st b cs) :
    CallS Try.prog 50 [.agg cs.toArray] st fun r st2 => Ext st st2 ∧ ∃ ds L, r = .agg ds.toArray ∧ OwnB st2 b ds L ∧ Fresh st.length L := by
  refine CallS_of_W [] 9 Try.func50 rfl rfl rfl rfl (by simp) ?_
  obtain ⟨k, n, m, args, s, htm, rfl, hr⟩ := h.open
  have n1 := hr.notLoc.1
  have n2 := hr.notLoc.2
  have hE := Enc.close k n m hr
  rw [← htm] at hE
  repeat (first | ((first | refine W_reg rfl fun G K hG hK => ?_ | refine W_end rfl fun G K hG hK => ?_); simp (disch := omega) only [go_sem, ↓reduceIte, Nat.reduceEqDiff, Nat.reduceAdd, Nat.reduceLeDiff, hG]; refine hK _ _ ?_; clear hK K hG G) | refine W_seqS ?_ | refine W_seqC ?_ | refine W_seqB ?_ | refine W_block ?_ | refine W_skip ?_ | (refine W_condT ?hc ?_; (case hc => (simp (disch := omega) only [go_sem, ↓reduceIte, Nat.reduceEqDiff, Nat.reduceAdd, Nat.reduceLeDiff]; done))) | (refine W_condF ?hc ?_; (case hc => (simp (disch := omega) only [go_sem, ↓reduceIte, Nat.reduceEqDiff, Nat.reduceAdd, Nat.reduceLeDiff]; done))) | refine thenI ?_ | refine thenE ?_ | refine thenR ?_ | refine inBI ?_ | refine inBR ?_ | refine inBS ?_ | refine inBN (by decide) ?_)
  (repeat (first | refine W_seqS ?_ | refine W_seqC ?_ | refine W_seqB ?_ | refine W_block ?_)); refine W_regD mixed [] [(0,false),(1,false),(2,false),(3,false),(4,true),(5,false),(6,false)] rfl (by decide +kernel) fun G K hG hK => ?_; simp only [pickOps, List.filterMap_cons, List.filterMap_nil, List.getElem?_cons_zero, List.getElem?_cons_succ, Option.map_some]; simp (disch := omega) only [go_sem, ↓reduceIte, Nat.reduceEqDiff, Nat.reduceAdd, Nat.reduceLeDiff, hG]
  refine w_call (copy_ok _ _ _ hl hE) (by simp (disch := omega) only [go_sem, ↓reduceIte, Nat.reduceEqDiff, n1]) ?hl ?_
  case hl => first | rfl | (simp only [go_sem, List.all_cons, List.all_nil, Bool.not_false, Bool.and_self, n1]; done)
  rintro r_ s_ ⟨x1, es, L, rfl, ho, hf⟩; refine ⟨fun e => x1, ?_⟩
  have ho2 := ho
  rw [htm] at ho2
  obtain ⟨so, rfl, hso⟩ := ho2.open
  have a1 := hso.okv
  have a2 := hso.loc
  have a3 := hso.cells
  simp (disch := omega) only [go_sem, ↓reduceIte, Nat.reduceEqDiff, Nat.reduceAdd, Nat.reduceLeDiff, hG, a1, a2, a3]; refine hK _ _ ?_; clear hK K hG G; repeat (first | refine thenI ?_ | refine thenE ?_ | refine thenR ?_ | refine inBI ?_ | refine inBR ?_ | refine inBS ?_ | refine inBN (by decide) ?_)
  repeat (first | ((first | refine W_reg rfl fun G K hG hK => ?_ | refine W_end rfl fun G K hG hK => ?_); simp (disch := omega) only [go_sem, ↓reduceIte, Nat.reduceEqDiff, Nat.reduceAdd, Nat.reduceLeDiff, hG]; refine hK _ _ ?_; clear hK K hG G) | refine W_seqS ?_ | refine W_seqC ?_ | refine W_seqB ?_ | refine W_block ?_ | refine W_skip ?_ | (refine W_condT ?hc ?_; (case hc => (simp (disch := omega) only [go_sem, ↓reduceIte, Nat.reduceEqDiff, Nat.reduceAdd, Nat.reduceLeDiff]; done))) | (refine W_condF ?hc ?_; (case hc => (simp (disch := omega) only [go_sem, ↓reduceIte, Nat.reduceEqDiff, Nat.reduceAdd, Nat.reduceLeDiff]; done))) | refine thenI ?_ | refine thenE ?_ | refine thenR ?_ | refine inBI ?_ | refine inBR ?_ | refine inBS ?_ | refine inBN (by decide) ?_)
  refine W_ret ?_; try (repeat (first | refine thenI ?_ | refine thenE ?_ | refine thenR ?_ | refine inBI ?_ | refine inBR ?_ | refine inBS ?_ | refine inBN (by decide) ?_))
  refine finC (.inl rfl) (by (simp (disch := omega) only [go_sem, ↓reduceIte, Nat.reduceEqDiff, Nat.reduceAdd, Nat.reduceLeDiff, a1, a2, a3]); try rfl) ⟨x1, [.string b.nm, .int .i64 k, .int .i64 n, .string m, so], L, rfl, ⟨_, rfl, ho⟩, hf⟩

theorem implComp_ok (a b : List Bnd) (st : St) (sa sb : Value) (hba : a.length ≤ 1073741824) (hbb : b.length ≤ 1073741824) (hla : ∀ x ∈ a, Lim 1073741824 x.tm) (hlb : ∀ x ∈ b, Lim 1073741824 x.tm) (hra : Rw st a sa) (hrb : Rw st b sb) :
    CallS Try.prog 39 [sa, sb] st fun r st2 => Ext st st2 ∧ ∃ L, Sl st2 (comp a b) r L ∧ Fresh st.length L := by
  refine CallS_of_W [] 51 Try.func39 rfl rfl rfl rfl (by simp) ?_
  have hlen : lenE Try.prog 26 sa = some (.int .i64 a.length) := row_len hra Try.underlying26
  have hlen' : lenE Try.prog 26 sb = some (.int .i64 b.length) := row_len hrb Try.underlying26
  have na := hra.notLoc.1
  have nb := hrb.notLoc.1
  repeat (first | ((first | refine W_reg rfl fun G K hG hK => ?_ | refine W_end rfl fun G K hG hK => ?_); simp (disch := omega) only [go_sem, ↓reduceIte, Nat.reduceEqDiff, Nat.reduceAdd, Nat.reduceLeDiff, hG, na, nb, hlen]; refine hK _ _ ?_; clear hK K hG G) | refine W_seqS ?_ | refine W_seqC ?_ | refine W_seqB ?_ | refine W_block ?_ | refine W_skip ?_ | (refine W_condT ?hc ?_; (case hc => (simp (disch := omega) only [go_sem, ↓reduceIte, Nat.reduceEqDiff, Nat.reduceAdd, Nat.reduceLeDiff, na, nb, hlen]; done))) | (refine W_condF ?hc ?_; (case hc => (simp (disch := omega) only [go_sem, ↓reduceIte, Nat.reduceEqDiff, Nat.reduceAdd, Nat.reduceLeDiff, na, nb, hlen]; done))) | refine thenI ?_ | refine thenE ?_ | refine thenR ?_ | refine inBI ?_ | refine inBR ?_ | refine inBS ?_ | refine inBN (by decide) ?_)
  refine W_loop (fun d fr st' => ∃ (j : Nat) (r : Value) (L : List Nat), d = a.length - j ∧ j ≤ a.length ∧ (Ext st st') ∧ (Sl st' (compA b (a.take j)) r L) ∧ (Fresh st.length L) ∧ (topId r = none ∨ ∃ m, st.length ≤ m ∧ topId r = some m) ∧ (fr.env 0 = sa) ∧ (fr.env 1 = sb) ∧ (fr.env 5 = r) ∧ (fr.env 12 = sa) ∧ (fr.env 13 = .int .i64 a.length) ∧ (fr.env 14 = .int .i64 j)) (a.length) ?_ ?_
  · exact ⟨0, .slice none 0 0, [], by omega, by omega, Ext.refl _, Sl.nil _, .nil _, .inl rfl, (by (simp (disch := omega) only [go_sem, ↓reduceIte, Nat.reduceEqDiff, Nat.reduceAdd, Nat.reduceLeDiff, na, nb]); try rfl), (by (simp (disch := omega) only [go_sem, ↓reduceIte, Nat.reduceEqDiff, Nat.reduceAdd, Nat.reduceLeDiff, na, nb]); try rfl), (by (simp (disch := omega) only [go_sem, ↓reduceIte, Nat.reduceEqDiff, Nat.reduceAdd, Nat.reduceLeDiff, na, nb]); try rfl), (by (simp (disch := omega) only [go_sem, ↓reduceIte, Nat.reduceEqDiff, Nat.reduceAdd, Nat.reduceLeDiff, na, nb]); try rfl), (by (simp (disch := omega) only [go_sem, ↓reduceIte, Nat.reduceEqDiff, Nat.reduceAdd, Nat.reduceLeDiff, na, nb]); try rfl), (by (simp (disch := omega) only [go_sem, ↓reduceIte, Nat.reduceEqDiff, Nat.reduceAdd, Nat.reduceLeDiff, na, nb]); try rfl)⟩
  rintro d ⟨env, loc⟩ st' ⟨j, r, L, hd, hj, hext, hown, hfr, htop, e0, e1, e5, e12, e13, e14⟩
  simp only at e0 e1 e5 e12 e13 e14
  by_cases hlt : j < a.length
  · have c1 : decide ((j : Int) < (a.length : Int)) = true := by simpa using hlt
    have hi := idxOk hlt
    have hx : a[j]? = some a[j] := List.getElem?_eq_getElem hlt
    have htk : a.take (j + 1) = a.take j ++ [a[j]] := List.take_succ_eq_append_getElem hlt
    obtain ⟨i, o, c, k, m, mm, args, sx, rfl, htm, hrx, hcs⟩ := row_atB hra hx
    have hld := fun loc => load_row (A := []) (loc := loc) ag54 sz54 rfl (hcs.ext hext)
    have nx := hrx.notLoc.1
    have nx2 := hrx.notLoc.2
    have hE := Enc.ext hext _ _ (Enc.close k m mm hrx)
    rw [← htm] at hE
    have ol := hown.loc
    have hl0 := hext.length
    have hcl : (compA b (a.take j)).length ≤ a.length := by unfold compA; simp; omega
    have hnext : compA b (a.take (j + 1)) = compA b (a.take j) ++ [⟨a[j].nm, a[j].tm.sub b⟩] := by unfold compA; rw [htk, List.map_append]; rfl
    repeat (first | ((first | refine W_reg rfl fun G K hG hK => ?_ | refine W_end rfl fun G K hG hK => ?_); simp (disch := omega) only [go_sem, ↓reduceIte, Nat.reduceEqDiff, Nat.reduceAdd, Nat.reduceLeDiff, hG, na, nb, e0, e1, e5, e12, e13, e14, c1, hi, idxA, Int.toNat_natCast, nx, nx2, ol, hld]; refine hK _ _ ?_; clear hK K hG G) | refine W_seqS ?_ | refine W_seqC ?_ | refine W_seqB ?_ | refine W_block ?_ | refine W_skip ?_ | (refine W_condT ?hc ?_; (case hc => (simp (disch := omega) only [go_sem, ↓reduceIte, Nat.reduceEqDiff, Nat.reduceAdd, Nat.reduceLeDiff, na, nb, e0, e1, e5, e12, e13, e14, c1, hi, idxA, Int.toNat_natCast, nx, nx2, ol, hld]; done))) | (refine W_condF ?hc ?_; (case hc => (simp (disch := omega) only [go_sem, ↓reduceIte, Nat.reduceEqDiff, Nat.reduceAdd, Nat.reduceLeDiff, na, nb, e0, e1, e5, e12, e13, e14, c1, hi, idxA, Int.toNat_natCast, nx, nx2, ol, hld]; done))) | refine thenI ?_ | refine thenE ?_ | refine thenR ?_ | refine inBI ?_ | refine inBR ?_ | refine inBS ?_ | refine inBN (by decide) ?_)
    refine W_endD mixed [] [(0,false),(1,false),(2,false),(3,false),(4,false),(5,false),(6,true),(7,false),(8,false),(9,false),(10,false)] rfl (by decide +kernel) fun G K hG hK => ?_; simp only [pickOps, List.filterMap_cons, List.filterMap_nil, List.getElem?_cons_zero, List.getElem?_cons_succ, Option.map_some]; simp (disch := omega) only [go_sem, ↓reduceIte, Nat.reduceEqDiff, Nat.reduceAdd, Nat.reduceLeDiff, hG, na, nb, e0, e1, e5, e12, e13, e14, c1, hi, idxA, Int.toNat_natCast, nx, nx2, ol]
    refine w_call (implSub_ok b sb hbb hlb a[j].tm st' _ (hla _ (List.getElem_mem hlt)) hE (hrb.ext hext)) (by simp (disch := omega) only [go_sem, ↓reduceIte, Nat.reduceEqDiff, na, nb, e0, e1, e5, e12, e13, e14, c1, hi, idxA, Int.toNat_natCast, nx, nx2, ol]) ?hl ?_
    case hl => first | rfl | (simp only [go_sem, List.all_cons, List.all_nil, Bool.not_false, Bool.and_self, na, nb, e0, e1, e5, e12, e13, e14, c1, hi, idxA, Int.toNat_natCast, nx, nx2, ol]; done)
    rintro r_ sc ⟨x1, ds, Lx, rfl, hox, hfx⟩; refine ⟨fun e => x1, ?_⟩
    obtain ⟨k1, n1, m1, s1, rfl, a1, a2, a3⟩ := hox.args_cells
    obtain ⟨r', sd, L', hap, hown', hfr', hg⟩ := OwnB.step (x := ⟨a[j].nm, a[j].tm.sub b⟩) hown hfr (by omega) x1 ⟨_, rfl, hox⟩ hfx (by omega)
    have ol' := hown'.loc
    simp (disch := omega) only [go_sem, ↓reduceIte, Nat.reduceEqDiff, Nat.reduceAdd, Nat.reduceLeDiff, hG, na, nb, e0, e1, e5, e12, e13, e14, c1, hi, idxA, Int.toNat_natCast, nx, nx2, ol, w_append, hap, a1, a2, a3, ol']; refine hK _ _ ?_; clear hK K hG G; repeat (first | refine thenI ?_ | refine thenE ?_ | refine thenR ?_ | refine inBI ?_ | refine inBR ?_ | refine inBS ?_ | refine inBN (by decide) ?_)
    repeat (first | ((first | refine W_reg rfl fun G K hG hK => ?_ | refine W_end rfl fun G K hG hK => ?_); simp (disch := omega) only [go_sem, ↓reduceIte, Nat.reduceEqDiff, Nat.reduceAdd, Nat.reduceLeDiff, hG, na, nb, e0, e1, e5, e12, e13, e14, c1, hi, idxA, Int.toNat_natCast, nx, nx2, ol]; refine hK _ _ ?_; clear hK K hG G) | refine W_seqS ?_ | refine W_seqC ?_ | refine W_seqB ?_ | refine W_block ?_ | refine W_skip ?_ | (refine W_condT ?hc ?_; (case hc => (simp (disch := omega) only [go_sem, ↓reduceIte, Nat.reduceEqDiff, Nat.reduceAdd, Nat.reduceLeDiff, na, nb, e0, e1, e5, e12, e13, e14, c1, hi, idxA, Int.toNat_natCast, nx, nx2, ol]; done))) | (refine W_condF ?hc ?_; (case hc => (simp (disch := omega) only [go_sem, ↓reduceIte, Nat.reduceEqDiff, Nat.reduceAdd, Nat.reduceLeDiff, na, nb, e0, e1, e5, e12, e13, e14, c1, hi, idxA, Int.toNat_natCast, nx, nx2, ol]; done))) | refine thenI ?_ | refine thenE ?_ | refine thenR ?_ | refine inBI ?_ | refine inBR ?_ | refine inBS ?_ | refine inBN (by decide) ?_)
    refine ⟨a.length - (j + 1), by omega, j + 1, r', L', rfl, by omega, hg.away.ext_of hext htop, by rw [hnext]; exact hown', hfr', hg.topOk htop (by omega), (by (simp (disch := omega) only [go_sem, ↓reduceIte, Nat.reduceEqDiff, Nat.reduceAdd, Nat.reduceLeDiff, na, nb, e0, e1, e5, e12, e13, e14, c1, hi, idxA, Int.toNat_natCast, nx, nx2, ol]); try rfl), (by (simp (disch := omega) only [go_sem, ↓reduceIte, Nat.reduceEqDiff, Nat.reduceAdd, Nat.reduceLeDiff, na, nb, e0, e1, e5, e12, e13, e14, c1, hi, idxA, Int.toNat_natCast, nx, nx2, ol]); try rfl), (by (simp (disch := omega) only [go_sem, ↓reduceIte, Nat.reduceEqDiff, Nat.reduceAdd, Nat.reduceLeDiff, na, nb, e0, e1, e5, e12, e13, e14, c1, hi, idxA, Int.toNat_natCast, nx, nx2, ol]); try rfl), (by (simp (disch := omega) only [go_sem, ↓reduceIte, Nat.reduceEqDiff, Nat.reduceAdd, Nat.reduceLeDiff, na, nb, e0, e1, e5, e12, e13, e14, c1, hi, idxA, Int.toNat_natCast, nx, nx2, ol]); try rfl), (by (simp (disch := omega) only [go_sem, ↓reduceIte, Nat.reduceEqDiff, Nat.reduceAdd, Nat.reduceLeDiff, na, nb, e0, e1, e5, e12, e13, e14, c1, hi, idxA, Int.toNat_natCast, nx, nx2, ol]); try rfl), (by (simp (disch := omega) only [go_sem, ↓reduceIte, Nat.reduceEqDiff, Nat.reduceAdd, Nat.reduceLeDiff, na, nb, e0, e1, e5, e12, e13, e14, c1, hi, idxA, Int.toNat_natCast, nx, nx2, ol]); try rfl)⟩
  · have c1 : decide ((j : Int) < (a.length : Int)) = false := by simpa using hlt
    have hjn : j = a.length := by omega
    subst hjn
    rw [List.take_length] at hown
    have ol := hown.loc
    have hca : (compA b a).length = a.length := by unfold compA; simp
    repeat (first | ((first | refine W_reg rfl fun G K hG hK => ?_ | refine W_end rfl fun G K hG hK => ?_); simp (disch := omega) only [go_sem, ↓reduceIte, Nat.reduceEqDiff, Nat.reduceAdd, Nat.reduceLeDiff, hG, na, nb, e0, e1, e5, e12, e13, e14, c1]; refine hK _ _ ?_; clear hK K hG G) | refine W_seqS ?_ | refine W_seqC ?_ | refine W_seqB ?_ | refine W_block ?_ | refine W_skip ?_ | (refine W_condT ?hc ?_; (case hc => (simp (disch := omega) only [go_sem, ↓reduceIte, Nat.reduceEqDiff, Nat.reduceAdd, Nat.reduceLeDiff, na, nb, e0, e1, e5, e12, e13, e14, c1]; done))) | (refine W_condF ?hc ?_; (case hc => (simp (disch := omega) only [go_sem, ↓reduceIte, Nat.reduceEqDiff, Nat.reduceAdd, Nat.reduceLeDiff, na, nb, e0, e1, e5, e12, e13, e14, c1]; done))) | refine thenI ?_ | refine thenE ?_ | refine thenR ?_ | refine inBI ?_ | refine inBR ?_ | refine inBS ?_ | refine inBN (by decide) ?_)
    refine W_exit ?_; repeat (first | refine thenI ?_ | refine thenE ?_ | refine thenR ?_ | refine inBI ?_ | refine inBR ?_ | refine inBS ?_ | refine inBN (by decide) ?_)
    repeat (first | ((first | refine W_reg rfl fun G K hG hK => ?_ | refine W_end rfl fun G K hG hK => ?_); simp (disch := omega) only [go_sem, ↓reduceIte, Nat.reduceEqDiff, Nat.reduceAdd, Nat.reduceLeDiff, hG, na, nb, e0, e1, e5, e12, e13, e14, c1, hlen']; refine hK _ _ ?_; clear hK K hG G) | refine W_seqS ?_ | refine W_seqC ?_ | refine W_seqB ?_ | refine W_block ?_ | refine W_skip ?_ | (refine W_condT ?hc ?_; (case hc => (simp (disch := omega) only [go_sem, ↓reduceIte, Nat.reduceEqDiff, Nat.reduceAdd, Nat.reduceLeDiff, na, nb, e0, e1, e5, e12, e13, e14, c1, hlen']; done))) | (refine W_condF ?hc ?_; (case hc => (simp (disch := omega) only [go_sem, ↓reduceIte, Nat.reduceEqDiff, Nat.reduceAdd, Nat.reduceLeDiff, na, nb, e0, e1, e5, e12, e13, e14, c1, hlen']; done))) | refine thenI ?_ | refine thenE ?_ | refine thenR ?_ | refine inBI ?_ | refine inBR ?_ | refine inBS ?_ | refine inBN (by decide) ?_)
    clear hlt c1 hd hj
    refine W_loop (fun d fr st' => ∃ (j : Nat) (r : Value) (L : List Nat), d = b.length - j ∧ j ≤ b.length ∧ (Ext st st') ∧ (Sl st' (compA b a ++ compB a (b.take j)) r L) ∧ (Fresh st.length L) ∧ (topId r = none ∨ ∃ m, st.length ≤ m ∧ topId r = some m) ∧ (fr.env 0 = sa) ∧ (fr.env 5 = r) ∧ (fr.env 29 = sb) ∧ (fr.env 30 = .int .i64 b.length) ∧ (fr.env 31 = .int .i64 j)) (b.length) ?_ ?_
    · exact ⟨0, _, _, by omega, by omega, hext, by simpa [compB] using hown, hfr, htop, (by (simp (disch := omega) only [go_sem, ↓reduceIte, Nat.reduceEqDiff, Nat.reduceAdd, Nat.reduceLeDiff, na, nb, e0, e1, e5, e12, e13, e14]); try rfl), (by (simp (disch := omega) only [go_sem, ↓reduceIte, Nat.reduceEqDiff, Nat.reduceAdd, Nat.reduceLeDiff, na, nb, e0, e1, e5, e12, e13, e14]); try rfl), (by (simp (disch := omega) only [go_sem, ↓reduceIte, Nat.reduceEqDiff, Nat.reduceAdd, Nat.reduceLeDiff, na, nb, e0, e1, e5, e12, e13, e14]); try rfl), (by (simp (disch := omega) only [go_sem, ↓reduceIte, Nat.reduceEqDiff, Nat.reduceAdd, Nat.reduceLeDiff, na, nb, e0, e1, e5, e12, e13, e14]); try rfl), (by (simp (disch := omega) only [go_sem, ↓reduceIte, Nat.reduceEqDiff, Nat.reduceAdd, Nat.reduceLeDiff, na, nb, e0, e1, e5, e12, e13, e14]); try rfl)⟩
    clear e0 e1 e5 e12 e13 e14
    rintro d ⟨env, loc⟩ st' ⟨j, r, L, hd, hj, hext2, hown, hfr, htop, e0, e5, e29, e30, e31⟩
    simp only at e0 e5 e29 e30 e31
    clear hext
    by_cases hlt : j < b.length
    · have c1 : decide ((j : Int) < (b.length : Int)) = true := by simpa using hlt
      have hi := idxOk hlt
      have hx : b[j]? = some b[j] := List.getElem?_eq_getElem hlt
      have htk : b.take (j + 1) = b.take j ++ [b[j]] := List.take_succ_eq_append_getElem hlt
      obtain ⟨i, o, c, k, m, mm, args, sx, rfl, htm, hrx, hcs⟩ := row_atB hrb hx
      have hld := fun loc => load_row (A := []) (loc := loc) ag54 sz54 rfl (hcs.ext hext2)
      have nx := hrx.notLoc.1
      have nx2 := hrx.notLoc.2
      have hE := Enc.ext hext2 _ _ (Enc.close k m mm hrx)
      rw [← htm] at hE
      have ol := hown.loc
      have hl0 := hext2.length
      have hcb : (compB a (b.take j)).length ≤ b.length := by
        unfold compB
        have := List.length_filter_le (fun x : Bnd => (findB x.nm a).isNone) (b.take j)
        simp at this; omega
      have hnext := compB_snoc a (b.take j) b[j]
      rw [← htk] at hnext
      repeat (first | ((first | refine W_reg rfl fun G K hG hK => ?_ | refine W_end rfl fun G K hG hK => ?_); simp (disch := omega) only [go_sem, ↓reduceIte, Nat.reduceEqDiff, Nat.reduceAdd, Nat.reduceLeDiff, hG, na, nb, e0, e5, e29, e30, e31, c1, hi, idxA, Int.toNat_natCast, nx, nx2, ol, hld]; refine hK _ _ ?_; clear hK K hG G) | refine W_seqS ?_ | refine W_seqC ?_ | refine W_seqB ?_ | refine W_block ?_ | refine W_skip ?_ | (refine W_condT ?hc ?_; (case hc => (simp (disch := omega) only [go_sem, ↓reduceIte, Nat.reduceEqDiff, Nat.reduceAdd, Nat.reduceLeDiff, na, nb, e0, e5, e29, e30, e31, c1, hi, idxA, Int.toNat_natCast, nx, nx2, ol, hld]; done))) | (refine W_condF ?hc ?_; (case hc => (simp (disch := omega) only [go_sem, ↓reduceIte, Nat.reduceEqDiff, Nat.reduceAdd, Nat.reduceLeDiff, na, nb, e0, e5, e29, e30, e31, c1, hi, idxA, Int.toNat_natCast, nx, nx2, ol, hld]; done))) | refine thenI ?_ | refine thenE ?_ | refine thenR ?_ | refine inBI ?_ | refine inBR ?_ | refine inBS ?_ | refine inBN (by decide) ?_)
      (repeat (first | refine W_seqS ?_ | refine W_seqC ?_ | refine W_seqB ?_ | refine W_block ?_)); refine W_reg rfl fun G K hG hK => ?_; simp (disch := omega) only [go_sem, ↓reduceIte, Nat.reduceEqDiff, Nat.reduceAdd, Nat.reduceLeDiff, hG, na, nb, e0, e5, e29, e30, e31, c1, hi, idxA, Int.toNat_natCast, nx, nx2, ol]
      refine w_call (bound_ok a b[j].nm st' sa (by omega) (hra.ext hext2)) (by simp (disch := omega) only [go_sem, ↓reduceIte, Nat.reduceEqDiff, na, nb, e0, e5, e29, e30, e31, c1, hi, idxA, Int.toNat_natCast, nx, nx2, ol]) ?hl ?_
      case hl => first | rfl | (simp only [go_sem, List.all_cons, List.all_nil, Bool.not_false, Bool.and_self, na, nb, e0, e5, e29, e30, e31, c1, hi, idxA, Int.toNat_natCast, nx, nx2, ol]; done)
      rintro r_ st' ⟨rfl, es, rfl, hEf⟩; refine ⟨fun e => (by cases e), ?_⟩
      obtain ⟨kw, nw, mw, aw, hwe⟩ := T.eta (findD b[j].nm a)
      rw [hwe] at hEf
      obtain ⟨sw, rfl, hrw⟩ := hEf.open
      have w1 := hrw.notLoc.1
      have w2 := hrw.notLoc.2
      simp (disch := omega) only [go_sem, ↓reduceIte, Nat.reduceEqDiff, Nat.reduceAdd, Nat.reduceLeDiff, hG, na, nb, e0, e5, e29, e30, e31, c1, hi, idxA, Int.toNat_natCast, nx, nx2, ol, w1, w2]; refine hK _ _ ?_; clear hK K hG G; repeat (first | refine thenI ?_ | refine thenE ?_ | refine thenR ?_ | refine inBI ?_ | refine inBR ?_ | refine inBS ?_ | refine inBN (by decide) ?_)
      cases hq : (findB b[j].nm a).isSome with
      | true =>
        have hno : (findB b[j].nm a).isNone = false := by rw [← Option.not_isSome, hq]; rfl
        rw [if_neg (by rw [hno]; simp), List.append_nil] at hnext
        repeat (first | ((first | refine W_reg rfl fun G K hG hK => ?_ | refine W_end rfl fun G K hG hK => ?_); simp (disch := omega) only [go_sem, ↓reduceIte, Nat.reduceEqDiff, Nat.reduceAdd, Nat.reduceLeDiff, hG, na, nb, e0, e5, e29, e30, e31, c1, hi, idxA, Int.toNat_natCast, nx, nx2, ol]; refine hK _ _ ?_; clear hK K hG G) | refine W_seqS ?_ | refine W_seqC ?_ | refine W_seqB ?_ | refine W_block ?_ | refine W_skip ?_ | (refine W_condT ?hc ?_; (case hc => (simp (disch := omega) only [go_sem, ↓reduceIte, Nat.reduceEqDiff, Nat.reduceAdd, Nat.reduceLeDiff, na, nb, e0, e5, e29, e30, e31, c1, hi, idxA, Int.toNat_natCast, nx, nx2, ol]; done))) | (refine W_condF ?hc ?_; (case hc => (simp (disch := omega) only [go_sem, ↓reduceIte, Nat.reduceEqDiff, Nat.reduceAdd, Nat.reduceLeDiff, na, nb, e0, e5, e29, e30, e31, c1, hi, idxA, Int.toNat_natCast, nx, nx2, ol]; done))) | refine thenI ?_ | refine thenE ?_ | refine thenR ?_ | refine inBI ?_ | refine inBR ?_ | refine inBS ?_ | refine inBN (by decide) ?_)
        refine ⟨b.length - (j + 1), by omega, j + 1, r, L, rfl, by omega, hext2, by rw [hnext]; exact hown, hfr, htop, (by (simp (disch := omega) only [go_sem, ↓reduceIte, Nat.reduceEqDiff, Nat.reduceAdd, Nat.reduceLeDiff, na, nb, e0, e5, e29, e30, e31, c1, hi, idxA, Int.toNat_natCast, nx, nx2, ol]); try rfl), (by (simp (disch := omega) only [go_sem, ↓reduceIte, Nat.reduceEqDiff, Nat.reduceAdd, Nat.reduceLeDiff, na, nb, e0, e5, e29, e30, e31, c1, hi, idxA, Int.toNat_natCast, nx, nx2, ol]); try rfl), (by (simp (disch := omega) only [go_sem, ↓reduceIte, Nat.reduceEqDiff, Nat.reduceAdd, Nat.reduceLeDiff, na, nb, e0, e5, e29, e30, e31, c1, hi, idxA, Int.toNat_natCast, nx, nx2, ol]); try rfl), (by (simp (disch := omega) only [go_sem, ↓reduceIte, Nat.reduceEqDiff, Nat.reduceAdd, Nat.reduceLeDiff, na, nb, e0, e5, e29, e30, e31, c1, hi, idxA, Int.toNat_natCast, nx, nx2, ol]); try rfl), (by (simp (disch := omega) only [go_sem, ↓reduceIte, Nat.reduceEqDiff, Nat.reduceAdd, Nat.reduceLeDiff, na, nb, e0, e5, e29, e30, e31, c1, hi, idxA, Int.toNat_natCast, nx, nx2, ol]); try rfl)⟩
      | false =>
        have hno : (findB b[j].nm a).isNone = true := by rw [← Option.not_isSome, hq]; rfl
        rw [if_pos hno] at hnext
        repeat (first | ((first | refine W_reg rfl fun G K hG hK => ?_ | refine W_end rfl fun G K hG hK => ?_); simp (disch := omega) only [go_sem, ↓reduceIte, Nat.reduceEqDiff, Nat.reduceAdd, Nat.reduceLeDiff, hG, na, nb, e0, e5, e29, e30, e31, c1, hi, idxA, Int.toNat_natCast, nx, nx2, ol]; refine hK _ _ ?_; clear hK K hG G) | refine W_seqS ?_ | refine W_seqC ?_ | refine W_seqB ?_ | refine W_block ?_ | refine W_skip ?_ | (refine W_condT ?hc ?_; (case hc => (simp (disch := omega) only [go_sem, ↓reduceIte, Nat.reduceEqDiff, Nat.reduceAdd, Nat.reduceLeDiff, na, nb, e0, e5, e29, e30, e31, c1, hi, idxA, Int.toNat_natCast, nx, nx2, ol]; done))) | (refine W_condF ?hc ?_; (case hc => (simp (disch := omega) only [go_sem, ↓reduceIte, Nat.reduceEqDiff, Nat.reduceAdd, Nat.reduceLeDiff, na, nb, e0, e5, e29, e30, e31, c1, hi, idxA, Int.toNat_natCast, nx, nx2, ol]; done))) | refine thenI ?_ | refine thenE ?_ | refine thenR ?_ | refine inBI ?_ | refine inBR ?_ | refine inBS ?_ | refine inBN (by decide) ?_)
        refine W_end rfl fun G K hG hK => ?_; simp (disch := omega) only [go_sem, ↓reduceIte, Nat.reduceEqDiff, Nat.reduceAdd, Nat.reduceLeDiff, hG, na, nb, e0, e5, e29, e30, e31, c1, hi, idxA, Int.toNat_natCast, nx, nx2, ol]
        refine w_call (copyBind_ok b[j] st' _ (hlb _ (List.getElem_mem hlt)) ⟨_, rfl, hE⟩) (by simp (disch := omega) only [go_sem, ↓reduceIte, Nat.reduceEqDiff, na, nb, e0, e5, e29, e30, e31, c1, hi, idxA, Int.toNat_natCast, nx, nx2, ol]) ?hl ?_
        case hl => first | rfl | (simp only [go_sem, List.all_cons, List.all_nil, Bool.not_false, Bool.and_self, na, nb, e0, e5, e29, e30, e31, c1, hi, idxA, Int.toNat_natCast, nx, nx2, ol]; done)
        rintro r_ sc ⟨x1, ds, Lx, rfl, hox, hfx⟩; refine ⟨fun e => (by cases e), ?_⟩
        obtain ⟨k1, n1, m1, args1, s1, htm1, rfl, hs1⟩ := OwnB.open hox
        have a1 := hs1.okv
        have a2 := hs1.loc
        have a3 := hs1.cells
        obtain ⟨r', sd, L', hap, hown', hfr', hg⟩ := OwnB.step hown hfr (by omega) x1 hox hfx (by rw [List.length_append]; omega)
        have ol' := hown'.loc
        simp (disch := omega) only [go_sem, ↓reduceIte, Nat.reduceEqDiff, Nat.reduceAdd, Nat.reduceLeDiff, hG, na, nb, e0, e5, e29, e30, e31, c1, hi, idxA, Int.toNat_natCast, nx, nx2, ol, w_append, hap, a1, a2, a3, ol']; refine hK _ _ ?_; clear hK K hG G; repeat (first | refine thenI ?_ | refine thenE ?_ | refine thenR ?_ | refine inBI ?_ | refine inBR ?_ | refine inBS ?_ | refine inBN (by decide) ?_)
        repeat (first | ((first | refine W_reg rfl fun G K hG hK => ?_ | refine W_end rfl fun G K hG hK => ?_); simp (disch := omega) only [go_sem, ↓reduceIte, Nat.reduceEqDiff, Nat.reduceAdd, Nat.reduceLeDiff, hG, na, nb, e0, e5, e29, e30, e31, c1, hi, idxA, Int.toNat_natCast, nx, nx2, ol]; refine hK _ _ ?_; clear hK K hG G) | refine W_seqS ?_ | refine W_seqC ?_ | refine W_seqB ?_ | refine W_block ?_ | refine W_skip ?_ | (refine W_condT ?hc ?_; (case hc => (simp (disch := omega) only [go_sem, ↓reduceIte, Nat.reduceEqDiff, Nat.reduceAdd, Nat.reduceLeDiff, na, nb, e0, e5, e29, e30, e31, c1, hi, idxA, Int.toNat_natCast, nx, nx2, ol]; done))) | (refine W_condF ?hc ?_; (case hc => (simp (disch := omega) only [go_sem, ↓reduceIte, Nat.reduceEqDiff, Nat.reduceAdd, Nat.reduceLeDiff, na, nb, e0, e5, e29, e30, e31, c1, hi, idxA, Int.toNat_natCast, nx, nx2, ol]; done))) | refine thenI ?_ | refine thenE ?_ | refine thenR ?_ | refine inBI ?_ | refine inBR ?_ | refine inBS ?_ | refine inBN (by decide) ?_)
        refine ⟨b.length - (j + 1), by omega, j + 1, r', L', rfl, by omega, hg.away.ext_of hext2 htop, by rw [hnext, ← List.append_assoc]; exact hown', hfr', hg.topOk htop (by omega), (by (simp (disch := omega) only [go_sem, ↓reduceIte, Nat.reduceEqDiff, Nat.reduceAdd, Nat.reduceLeDiff, na, nb, e0, e5, e29, e30, e31, c1, hi, idxA, Int.toNat_natCast, nx, nx2, ol]); try rfl), (by (simp (disch := omega) only [go_sem, ↓reduceIte, Nat.reduceEqDiff, Nat.reduceAdd, Nat.reduceLeDiff, na, nb, e0, e5, e29, e30, e31, c1, hi, idxA, Int.toNat_natCast, nx, nx2, ol]); try rfl), (by (simp (disch := omega) only [go_sem, ↓reduceIte, Nat.reduceEqDiff, Nat.reduceAdd, Nat.reduceLeDiff, na, nb, e0, e5, e29, e30, e31, c1, hi, idxA, Int.toNat_natCast, nx, nx2, ol]); try rfl), (by (simp (disch := omega) only [go_sem, ↓reduceIte, Nat.reduceEqDiff, Nat.reduceAdd, Nat.reduceLeDiff, na, nb, e0, e5, e29, e30, e31, c1, hi, idxA, Int.toNat_natCast, nx, nx2, ol]); try rfl), (by (simp (disch := omega) only [go_sem, ↓reduceIte, Nat.reduceEqDiff, Nat.reduceAdd, Nat.reduceLeDiff, na, nb, e0, e5, e29, e30, e31, c1, hi, idxA, Int.toNat_natCast, nx, nx2, ol]); try rfl)⟩
    · have c1 : decide ((j : Int) < (b.length : Int)) = false := by simpa using hlt
      have hjn : j = b.length := by omega
      subst hjn
      rw [List.take_length] at hown
      have ol := hown.loc
      repeat (first | ((first | refine W_reg rfl fun G K hG hK => ?_ | refine W_end rfl fun G K hG hK => ?_); simp (disch := omega) only [go_sem, ↓reduceIte, Nat.reduceEqDiff, Nat.reduceAdd, Nat.reduceLeDiff, hG, na, nb, e0, e5, e29, e30, e31, c1]; refine hK _ _ ?_; clear hK K hG G) | refine W_seqS ?_ | refine W_seqC ?_ | refine W_seqB ?_ | refine W_block ?_ | refine W_skip ?_ | (refine W_condT ?hc ?_; (case hc => (simp (disch := omega) only [go_sem, ↓reduceIte, Nat.reduceEqDiff, Nat.reduceAdd, Nat.reduceLeDiff, na, nb, e0, e5, e29, e30, e31, c1]; done))) | (refine W_condF ?hc ?_; (case hc => (simp (disch := omega) only [go_sem, ↓reduceIte, Nat.reduceEqDiff, Nat.reduceAdd, Nat.reduceLeDiff, na, nb, e0, e5, e29, e30, e31, c1]; done))) | refine thenI ?_ | refine thenE ?_ | refine thenR ?_ | refine inBI ?_ | refine inBR ?_ | refine inBS ?_ | refine inBN (by decide) ?_)
      refine W_exit ?_; repeat (first | refine thenI ?_ | refine thenE ?_ | refine thenR ?_ | refine inBI ?_ | refine inBR ?_ | refine inBS ?_ | refine inBN (by decide) ?_)
      repeat (first | ((first | refine W_reg rfl fun G K hG hK => ?_ | refine W_end rfl fun G K hG hK => ?_); simp (disch := omega) only [go_sem, ↓reduceIte, Nat.reduceEqDiff, Nat.reduceAdd, Nat.reduceLeDiff, hG, na, nb, e0, e5, e29, e30, e31, c1]; refine hK _ _ ?_; clear hK K hG G) | refine W_seqS ?_ | refine W_seqC ?_ | refine W_seqB ?_ | refine W_block ?_ | refine W_skip ?_ | (refine W_condT ?hc ?_; (case hc => (simp (disch := omega) only [go_sem, ↓reduceIte, Nat.reduceEqDiff, Nat.reduceAdd, Nat.reduceLeDiff, na, nb, e0, e5, e29, e30, e31, c1]; done))) | (refine W_condF ?hc ?_; (case hc => (simp (disch := omega) only [go_sem, ↓reduceIte, Nat.reduceEqDiff, Nat.reduceAdd, Nat.reduceLeDiff, na, nb, e0, e5, e29, e30, e31, c1]; done))) | refine thenI ?_ | refine thenE ?_ | refine thenR ?_ | refine inBI ?_ | refine inBR ?_ | refine inBS ?_ | refine inBN (by decide) ?_)
      refine W_ret ?_; try (repeat (first | refine thenI ?_ | refine thenE ?_ | refine thenR ?_ | refine inBI ?_ | refine inBR ?_ | refine inBS ?_ | refine inBN (by decide) ?_))
      refine fin1 (.inl rfl) (by (simp (disch := omega) only [go_sem, ↓reduceIte, Nat.reduceEqDiff, Nat.reduceAdd, Nat.reduceLeDiff, na, nb, e0, e5, e29, e30, e31, c1]); try rfl) ol ⟨hext2, L, hown, hfr⟩

theorem specComp_ok (a b : List Bnd) (st : St) (sa sb : Value) (hba : a.length ≤ 1073741824) (hbb : b.length ≤ 1073741824) (hla : ∀ x ∈ a, Lim 1073741824 x.tm) (hlb : ∀ x ∈ b, Lim 1073741824 x.tm) (hra : Rw st a sa) (hrb : Rw st b sb) :
    CallS Try.prog 43 [sa, sb] st fun r st2 => Ext st st2 ∧ ∃ L, Sl st2 (comp a b) r L ∧ Fresh st.length L := by
  refine CallS_of_W [] 61 Try.func43 rfl rfl rfl rfl (by simp) ?_
  have hlen : lenE Try.prog 26 sa = some (.int .i64 a.length) := row_len hra Try.underlying26
  have hlen' : lenE Try.prog 26 sb = some (.int .i64 b.length) := row_len hrb Try.underlying26
  have na := hra.notLoc.1
  have nb := hrb.notLoc.1
  repeat (first | ((first | refine W_reg rfl fun G K hG hK => ?_ | refine W_end rfl fun G K hG hK => ?_); simp (disch := omega) only [go_sem, ↓reduceIte, Nat.reduceEqDiff, Nat.reduceAdd, Nat.reduceLeDiff, hG, na, nb, hlen, hlen']; refine hK _ _ ?_; clear hK K hG G) | refine W_seqS ?_ | refine W_seqC ?_ | refine W_seqB ?_ | refine W_block ?_ | refine W_skip ?_ | (refine W_condT ?hc ?_; (case hc => (simp (disch := omega) only [go_sem, ↓reduceIte, Nat.reduceEqDiff, Nat.reduceAdd, Nat.reduceLeDiff, na, nb, hlen, hlen']; done))) | (refine W_condF ?hc ?_; (case hc => (simp (disch := omega) only [go_sem, ↓reduceIte, Nat.reduceEqDiff, Nat.reduceAdd, Nat.reduceLeDiff, na, nb, hlen, hlen']; done))) | refine thenI ?_ | refine thenE ?_ | refine thenR ?_ | refine inBI ?_ | refine inBR ?_ | refine inBS ?_ | refine inBN (by decide) ?_)
  refine W_loop (fun d fr st' => ∃ (j : Nat) (r : Value) (L : List Nat), d = a.length - j ∧ j ≤ a.length ∧ (Ext st st') ∧ (Sl st' (compA b (a.take j)) r L) ∧ (Fresh st.length L) ∧ (topId r = none ∨ ∃ m, st.length ≤ m ∧ topId r = some m) ∧ (fr.env 0 = sa) ∧ (fr.env 1 = sb) ∧ (fr.env 5 = r) ∧ (fr.env 6 = .int .i64 j)) (a.length) ?_ ?_
  · exact ⟨0, _, _, by omega, by omega, Ext.app _ _, Sl.empty _, ⟨by simp, by simp⟩, .inr ⟨_, Nat.le_refl _, rfl⟩, (by (simp (disch := omega) only [go_sem, ↓reduceIte, Nat.reduceEqDiff, Nat.reduceAdd, Nat.reduceLeDiff, na, nb, hlen, hlen']); try rfl), (by (simp (disch := omega) only [go_sem, ↓reduceIte, Nat.reduceEqDiff, Nat.reduceAdd, Nat.reduceLeDiff, na, nb, hlen, hlen']); try rfl), (by (simp (disch := omega) only [go_sem, ↓reduceIte, Nat.reduceEqDiff, Nat.reduceAdd, Nat.reduceLeDiff, na, nb, hlen, hlen']); try rfl), (by (simp (disch := omega) only [go_sem, ↓reduceIte, Nat.reduceEqDiff, Nat.reduceAdd, Nat.reduceLeDiff, na, nb, hlen, hlen']); try rfl)⟩
  rintro d ⟨env, loc⟩ st' ⟨j, r, L, hd, hj, hext, hown, hfr, htop, e0, e1, e5, e6⟩
  simp only at e0 e1 e5 e6
  by_cases hlt : j < a.length
  · have c1 : decide ((j : Int) < (a.length : Int)) = true := by simpa using hlt
    have hi := idxOk hlt
    have hx : a[j]? = some a[j] := List.getElem?_eq_getElem hlt
    have htk : a.take (j + 1) = a.take j ++ [a[j]] := List.take_succ_eq_append_getElem hlt
    obtain ⟨i, o, c, k, m, mm, args, sx, rfl, htm, hrx, hcs⟩ := row_atB hra hx
    have q0 : cell st' i (o + j * 5) = some (.string a[j].nm) := by have := cell_ext hext (hcs 0 _ rfl); simpa using this
    have hld := fun loc => load_row (A := []) (loc := loc) (o := o + j * 5 + 1) (cs := [.int .i64 k, .int .i64 m, .string mm, sx]) (st := st') (i := i) ag31 sz31 rfl (fun q v hv => by
      have := cell_ext hext (hcs (q + 1) v (by simpa using hv))
      rwa [show o + j * 5 + (q + 1) = o + j * 5 + 1 + q by omega] at this)
    have nx := hrx.notLoc.1
    have nx2 := hrx.notLoc.2
    have hE := Enc.ext hext _ _ (Enc.close k m mm hrx)
    rw [← htm] at hE
    have ol := hown.loc
    have hl0 := hext.length
    have hcl : (compA b (a.take j)).length ≤ a.length := by unfold compA; simp; omega
    have hnext : compA b (a.take (j + 1)) = compA b (a.take j) ++ [⟨a[j].nm, a[j].tm.sub b⟩] := by unfold compA; rw [htk, List.map_append]; rfl
    repeat (first | ((first | refine W_reg rfl fun G K hG hK => ?_ | refine W_end rfl fun G K hG hK => ?_); simp (disch := omega) only [go_sem, ↓reduceIte, Nat.reduceEqDiff, Nat.reduceAdd, Nat.reduceLeDiff, hG, na, nb, hlen, hlen', e0, e1, e5, e6, c1, hi, idxA, Int.toNat_natCast, nx, nx2, ol]; refine hK _ _ ?_; clear hK K hG G) | refine W_seqS ?_ | refine W_seqC ?_ | refine W_seqB ?_ | refine W_block ?_ | refine W_skip ?_ | (refine W_condT ?hc ?_; (case hc => (simp (disch := omega) only [go_sem, ↓reduceIte, Nat.reduceEqDiff, Nat.reduceAdd, Nat.reduceLeDiff, na, nb, hlen, hlen', e0, e1, e5, e6, c1, hi, idxA, Int.toNat_natCast, nx, nx2, ol]; done))) | (refine W_condF ?hc ?_; (case hc => (simp (disch := omega) only [go_sem, ↓reduceIte, Nat.reduceEqDiff, Nat.reduceAdd, Nat.reduceLeDiff, na, nb, hlen, hlen', e0, e1, e5, e6, c1, hi, idxA, Int.toNat_natCast, nx, nx2, ol]; done))) | refine thenI ?_ | refine thenE ?_ | refine thenR ?_ | refine inBI ?_ | refine inBR ?_ | refine inBS ?_ | refine inBN (by decide) ?_)
    refine W_endD mixed [] [(0,false),(1,false),(2,false),(3,false),(4,false),(5,false),(6,false),(7,false),(8,false),(9,false),(10,false),(11,false),(12,true),(13,false),(14,false),(15,false),(16,false)] rfl (by decide +kernel) fun G K hG hK => ?_; simp only [pickOps, List.filterMap_cons, List.filterMap_nil, List.getElem?_cons_zero, List.getElem?_cons_succ, Option.map_some]; simp (disch := omega) only [go_sem, ↓reduceIte, Nat.reduceEqDiff, Nat.reduceAdd, Nat.reduceLeDiff, hG, na, nb, hlen, hlen', e0, e1, e5, e6, c1, hi, idxA, Int.toNat_natCast, nx, nx2, ol, q0, hld]
    refine w_call (specSub_ok b sb hbb hlb a[j].tm st' _ (hla _ (List.getElem_mem hlt)) hE (hrb.ext hext)) (by simp (disch := omega) only [go_sem, ↓reduceIte, Nat.reduceEqDiff, na, nb, hlen, hlen', e0, e1, e5, e6, c1, hi, idxA, Int.toNat_natCast, nx, nx2, ol]) ?hl ?_
    case hl => first | rfl | (simp only [go_sem, List.all_cons, List.all_nil, Bool.not_false, Bool.and_self, na, nb, hlen, hlen', e0, e1, e5, e6, c1, hi, idxA, Int.toNat_natCast, nx, nx2, ol]; done)
    rintro r_ sc ⟨x1, ds, Lx, rfl, hox, hfx⟩; refine ⟨fun e => x1, ?_⟩
    obtain ⟨k1, n1, m1, s1, rfl, a1, a2, a3⟩ := hox.args_cells
    obtain ⟨r', sd, L', hap, hown', hfr', hg⟩ := OwnB.step (x := ⟨a[j].nm, a[j].tm.sub b⟩) hown hfr (by omega) x1 ⟨_, rfl, hox⟩ hfx (by omega)
    have ol' := hown'.loc
    simp (disch := omega) only [go_sem, ↓reduceIte, Nat.reduceEqDiff, Nat.reduceAdd, Nat.reduceLeDiff, hG, na, nb, hlen, hlen', e0, e1, e5, e6, c1, hi, idxA, Int.toNat_natCast, nx, nx2, ol, w_append, hap, a1, a2, a3, ol']; refine hK _ _ ?_; clear hK K hG G; repeat (first | refine thenI ?_ | refine thenE ?_ | refine thenR ?_ | refine inBI ?_ | refine inBR ?_ | refine inBS ?_ | refine inBN (by decide) ?_)
    repeat (first | ((first | refine W_reg rfl fun G K hG hK => ?_ | refine W_end rfl fun G K hG hK => ?_); simp (disch := omega) only [go_sem, ↓reduceIte, Nat.reduceEqDiff, Nat.reduceAdd, Nat.reduceLeDiff, hG, na, nb, hlen, hlen', e0, e1, e5, e6, c1, hi, idxA, Int.toNat_natCast, nx, nx2, ol]; refine hK _ _ ?_; clear hK K hG G) | refine W_seqS ?_ | refine W_seqC ?_ | refine W_seqB ?_ | refine W_block ?_ | refine W_skip ?_ | (refine W_condT ?hc ?_; (case hc => (simp (disch := omega) only [go_sem, ↓reduceIte, Nat.reduceEqDiff, Nat.reduceAdd, Nat.reduceLeDiff, na, nb, hlen, hlen', e0, e1, e5, e6, c1, hi, idxA, Int.toNat_natCast, nx, nx2, ol]; done))) | (refine W_condF ?hc ?_; (case hc => (simp (disch := omega) only [go_sem, ↓reduceIte, Nat.reduceEqDiff, Nat.reduceAdd, Nat.reduceLeDiff, na, nb, hlen, hlen', e0, e1, e5, e6, c1, hi, idxA, Int.toNat_natCast, nx, nx2, ol]; done))) | refine thenI ?_ | refine thenE ?_ | refine thenR ?_ | refine inBI ?_ | refine inBR ?_ | refine inBS ?_ | refine inBN (by decide) ?_)
    refine ⟨a.length - (j + 1), by omega, j + 1, r', L', rfl, by omega, hg.away.ext_of hext htop, by rw [hnext]; exact hown', hfr', hg.topOk htop (by omega), (by (simp (disch := omega) only [go_sem, ↓reduceIte, Nat.reduceEqDiff, Nat.reduceAdd, Nat.reduceLeDiff, na, nb, hlen, hlen', e0, e1, e5, e6, c1, hi, idxA, Int.toNat_natCast, nx, nx2, ol]); try rfl), (by (simp (disch := omega) only [go_sem, ↓reduceIte, Nat.reduceEqDiff, Nat.reduceAdd, Nat.reduceLeDiff, na, nb, hlen, hlen', e0, e1, e5, e6, c1, hi, idxA, Int.toNat_natCast, nx, nx2, ol]); try rfl), (by (simp (disch := omega) only [go_sem, ↓reduceIte, Nat.reduceEqDiff, Nat.reduceAdd, Nat.reduceLeDiff, na, nb, hlen, hlen', e0, e1, e5, e6, c1, hi, idxA, Int.toNat_natCast, nx, nx2, ol]); try rfl), (by (simp (disch := omega) only [go_sem, ↓reduceIte, Nat.reduceEqDiff, Nat.reduceAdd, Nat.reduceLeDiff, na, nb, hlen, hlen', e0, e1, e5, e6, c1, hi, idxA, Int.toNat_natCast, nx, nx2, ol]); try rfl)⟩
  · have c1 : decide ((j : Int) < (a.length : Int)) = false := by simpa using hlt
    have hjn : j = a.length := by omega
    subst hjn
    rw [List.take_length] at hown
    have ol := hown.loc
    have hca : (compA b a).length = a.length := by unfold compA; simp
    repeat (first | ((first | refine W_reg rfl fun G K hG hK => ?_ | refine W_end rfl fun G K hG hK => ?_); simp (disch := omega) only [go_sem, ↓reduceIte, Nat.reduceEqDiff, Nat.reduceAdd, Nat.reduceLeDiff, hG, na, nb, hlen, hlen', e0, e1, e5, e6, c1]; refine hK _ _ ?_; clear hK K hG G) | refine W_seqS ?_ | refine W_seqC ?_ | refine W_seqB ?_ | refine W_block ?_ | refine W_skip ?_ | (refine W_condT ?hc ?_; (case hc => (simp (disch := omega) only [go_sem, ↓reduceIte, Nat.reduceEqDiff, Nat.reduceAdd, Nat.reduceLeDiff, na, nb, hlen, hlen', e0, e1, e5, e6, c1]; done))) | (refine W_condF ?hc ?_; (case hc => (simp (disch := omega) only [go_sem, ↓reduceIte, Nat.reduceEqDiff, Nat.reduceAdd, Nat.reduceLeDiff, na, nb, hlen, hlen', e0, e1, e5, e6, c1]; done))) | refine thenI ?_ | refine thenE ?_ | refine thenR ?_ | refine inBI ?_ | refine inBR ?_ | refine inBS ?_ | refine inBN (by decide) ?_)
    refine W_exit ?_; repeat (first | refine thenI ?_ | refine thenE ?_ | refine thenR ?_ | refine inBI ?_ | refine inBR ?_ | refine inBS ?_ | refine inBN (by decide) ?_)
    repeat (first | ((first | refine W_reg rfl fun G K hG hK => ?_ | refine W_end rfl fun G K hG hK => ?_); simp (disch := omega) only [go_sem, ↓reduceIte, Nat.reduceEqDiff, Nat.reduceAdd, Nat.reduceLeDiff, hG, na, nb, hlen, hlen', e0, e1, e5, e6, c1]; refine hK _ _ ?_; clear hK K hG G) | refine W_seqS ?_ | refine W_seqC ?_ | refine W_seqB ?_ | refine W_block ?_ | refine W_skip ?_ | (refine W_condT ?hc ?_; (case hc => (simp (disch := omega) only [go_sem, ↓reduceIte, Nat.reduceEqDiff, Nat.reduceAdd, Nat.reduceLeDiff, na, nb, hlen, hlen', e0, e1, e5, e6, c1]; done))) | (refine W_condF ?hc ?_; (case hc => (simp (disch := omega) only [go_sem, ↓reduceIte, Nat.reduceEqDiff, Nat.reduceAdd, Nat.reduceLeDiff, na, nb, hlen, hlen', e0, e1, e5, e6, c1]; done))) | refine thenI ?_ | refine thenE ?_ | refine thenR ?_ | refine inBI ?_ | refine inBR ?_ | refine inBS ?_ | refine inBN (by decide) ?_)
    clear hlt c1 hd hj
    refine W_loop (fun d fr st' => ∃ (j : Nat) (r : Value) (L : List Nat), d = b.length - j ∧ j ≤ b.length ∧ (Ext st st') ∧ (Sl st' (compA b a ++ compB a (b.take j)) r L) ∧ (Fresh st.length L) ∧ (topId r = none ∨ ∃ m, st.length ≤ m ∧ topId r = some m) ∧ (fr.env 0 = sa) ∧ (fr.env 1 = sb) ∧ (fr.env 5 = r) ∧ (fr.env 7 = .int .i64 j)) (b.length) ?_ ?_
    · exact ⟨0, _, _, by omega, by omega, hext, by simpa [compB] using hown, hfr, htop, (by (simp (disch := omega) only [go_sem, ↓reduceIte, Nat.reduceEqDiff, Nat.reduceAdd, Nat.reduceLeDiff, na, nb, hlen, hlen', e0, e1, e5, e6]); try rfl), (by (simp (disch := omega) only [go_sem, ↓reduceIte, Nat.reduceEqDiff, Nat.reduceAdd, Nat.reduceLeDiff, na, nb, hlen, hlen', e0, e1, e5, e6]); try rfl), (by (simp (disch := omega) only [go_sem, ↓reduceIte, Nat.reduceEqDiff, Nat.reduceAdd, Nat.reduceLeDiff, na, nb, hlen, hlen', e0, e1, e5, e6]); try rfl), (by (simp (disch := omega) only [go_sem, ↓reduceIte, Nat.reduceEqDiff, Nat.reduceAdd, Nat.reduceLeDiff, na, nb, hlen, hlen', e0, e1, e5, e6]); try rfl)⟩
    clear e0 e1 e5 e6
    rintro d ⟨env, loc⟩ st' ⟨j, r, L, hd, hj, hext2, hown, hfr, htop, e0, e1, e5, e7⟩
    simp only at e0 e1 e5 e7
    clear hext
    by_cases hlt : j < b.length
    · have c1 : decide ((j : Int) < (b.length : Int)) = true := by simpa using hlt
      have hi := idxOk hlt
      have hx : b[j]? = some b[j] := List.getElem?_eq_getElem hlt
      have htk : b.take (j + 1) = b.take j ++ [b[j]] := List.take_succ_eq_append_getElem hlt
      obtain ⟨i, o, c, k, m, mm, args, sx, rfl, htm, hrx, hcs⟩ := row_atB hrb hx
      have q0 : cell st' i (o + j * 5) = some (.string b[j].nm) := by have := cell_ext hext2 (hcs 0 _ rfl); simpa using this
      have hld := fun loc => load_row (A := []) (loc := loc) (o := o + j * 5 + 1) (cs := [.int .i64 k, .int .i64 m, .string mm, sx]) (st := st') (i := i) ag31 sz31 rfl (fun q v hv => by
        have := cell_ext hext2 (hcs (q + 1) v (by simpa using hv))
        rwa [show o + j * 5 + (q + 1) = o + j * 5 + 1 + q by omega] at this)
      have nx := hrx.notLoc.1
      have nx2 := hrx.notLoc.2
      have hE := Enc.ext hext2 _ _ (Enc.close k m mm hrx)
      rw [← htm] at hE
      have ol := hown.loc
      have hl0 := hext2.length
      have hcb : (compB a (b.take j)).length ≤ b.length := by
        unfold compB
        have := List.length_filter_le (fun x : Bnd => (findB x.nm a).isNone) (b.take j)
        simp at this; omega
      have hnext := compB_snoc a (b.take j) b[j]
      rw [← htk] at hnext
      have hsp := atB_spec b[j].nm a 0
      repeat (first | ((first | refine W_reg rfl fun G K hG hK => ?_ | refine W_end rfl fun G K hG hK => ?_); simp (disch := omega) only [go_sem, ↓reduceIte, Nat.reduceEqDiff, Nat.reduceAdd, Nat.reduceLeDiff, hG, na, nb, hlen, hlen', e0, e1, e5, e7, c1, hi, idxA, Int.toNat_natCast, nx, nx2, ol]; refine hK _ _ ?_; clear hK K hG G) | refine W_seqS ?_ | refine W_seqC ?_ | refine W_seqB ?_ | refine W_block ?_ | refine W_skip ?_ | (refine W_condT ?hc ?_; (case hc => (simp (disch := omega) only [go_sem, ↓reduceIte, Nat.reduceEqDiff, Nat.reduceAdd, Nat.reduceLeDiff, na, nb, hlen, hlen', e0, e1, e5, e7, c1, hi, idxA, Int.toNat_natCast, nx, nx2, ol]; done))) | (refine W_condF ?hc ?_; (case hc => (simp (disch := omega) only [go_sem, ↓reduceIte, Nat.reduceEqDiff, Nat.reduceAdd, Nat.reduceLeDiff, na, nb, hlen, hlen', e0, e1, e5, e7, c1, hi, idxA, Int.toNat_natCast, nx, nx2, ol]; done))) | refine thenI ?_ | refine thenE ?_ | refine thenR ?_ | refine inBI ?_ | refine inBR ?_ | refine inBS ?_ | refine inBN (by decide) ?_)
      (repeat (first | refine W_seqS ?_ | refine W_seqC ?_ | refine W_seqB ?_ | refine W_block ?_)); refine W_reg rfl fun G K hG hK => ?_; simp (disch := omega) only [go_sem, ↓reduceIte, Nat.reduceEqDiff, Nat.reduceAdd, Nat.reduceLeDiff, hG, na, nb, hlen, hlen', e0, e1, e5, e7, c1, hi, idxA, Int.toNat_natCast, nx, nx2, ol, q0]
      refine w_call (l7At_ok a b[j].nm st' sa (by omega) (hra.ext hext2)) (by simp (disch := omega) only [go_sem, ↓reduceIte, Nat.reduceEqDiff, na, nb, hlen, hlen', e0, e1, e5, e7, c1, hi, idxA, Int.toNat_natCast, nx, nx2, ol]) ?hl ?_
      case hl => first | rfl | (simp only [go_sem, List.all_cons, List.all_nil, Bool.not_false, Bool.and_self, na, nb, hlen, hlen', e0, e1, e5, e7, c1, hi, idxA, Int.toNat_natCast, nx, nx2, ol]; done)
      rintro r_ st' ⟨rfl, rfl⟩; refine ⟨fun e => (by cases e), ?_⟩
      cases hq : atB b[j].nm a 0 with
      | some i =>
        rw [hq] at hsp
        obtain ⟨_, _, b', _, hfb⟩ := hsp
        rw [if_neg (by rw [hfb]; simp), List.append_nil] at hnext
        have c2 : decide ((i : Int) < 0) = false := by simp
        simp (disch := omega) only [go_sem, ↓reduceIte, Nat.reduceEqDiff, Nat.reduceAdd, Nat.reduceLeDiff, hG, na, nb, hlen, hlen', e0, e1, e5, e7, c1, hi, idxA, Int.toNat_natCast, nx, nx2, ol, c2]; refine hK _ _ ?_; clear hK K hG G; repeat (first | refine thenI ?_ | refine thenE ?_ | refine thenR ?_ | refine inBI ?_ | refine inBR ?_ | refine inBS ?_ | refine inBN (by decide) ?_)
        repeat (first | ((first | refine W_reg rfl fun G K hG hK => ?_ | refine W_end rfl fun G K hG hK => ?_); simp (disch := omega) only [go_sem, ↓reduceIte, Nat.reduceEqDiff, Nat.reduceAdd, Nat.reduceLeDiff, hG, na, nb, hlen, hlen', e0, e1, e5, e7, c1, hi, idxA, Int.toNat_natCast, nx, nx2, ol]; refine hK _ _ ?_; clear hK K hG G) | refine W_seqS ?_ | refine W_seqC ?_ | refine W_seqB ?_ | refine W_block ?_ | refine W_skip ?_ | (refine W_condT ?hc ?_; (case hc => (simp (disch := omega) only [go_sem, ↓reduceIte, Nat.reduceEqDiff, Nat.reduceAdd, Nat.reduceLeDiff, na, nb, hlen, hlen', e0, e1, e5, e7, c1, hi, idxA, Int.toNat_natCast, nx, nx2, ol]; done))) | (refine W_condF ?hc ?_; (case hc => (simp (disch := omega) only [go_sem, ↓reduceIte, Nat.reduceEqDiff, Nat.reduceAdd, Nat.reduceLeDiff, na, nb, hlen, hlen', e0, e1, e5, e7, c1, hi, idxA, Int.toNat_natCast, nx, nx2, ol]; done))) | refine thenI ?_ | refine thenE ?_ | refine thenR ?_ | refine inBI ?_ | refine inBR ?_ | refine inBS ?_ | refine inBN (by decide) ?_)
        refine ⟨b.length - (j + 1), by omega, j + 1, r, L, rfl, by omega, hext2, by rw [hnext]; exact hown, hfr, htop, (by (simp (disch := omega) only [go_sem, ↓reduceIte, Nat.reduceEqDiff, Nat.reduceAdd, Nat.reduceLeDiff, na, nb, hlen, hlen', e0, e1, e5, e7, c1, hi, idxA, Int.toNat_natCast, nx, nx2, ol]); try rfl), (by (simp (disch := omega) only [go_sem, ↓reduceIte, Nat.reduceEqDiff, Nat.reduceAdd, Nat.reduceLeDiff, na, nb, hlen, hlen', e0, e1, e5, e7, c1, hi, idxA, Int.toNat_natCast, nx, nx2, ol]); try rfl), (by (simp (disch := omega) only [go_sem, ↓reduceIte, Nat.reduceEqDiff, Nat.reduceAdd, Nat.reduceLeDiff, na, nb, hlen, hlen', e0, e1, e5, e7, c1, hi, idxA, Int.toNat_natCast, nx, nx2, ol]); try rfl), (by (simp (disch := omega) only [go_sem, ↓reduceIte, Nat.reduceEqDiff, Nat.reduceAdd, Nat.reduceLeDiff, na, nb, hlen, hlen', e0, e1, e5, e7, c1, hi, idxA, Int.toNat_natCast, nx, nx2, ol]); try rfl)⟩
      | none =>
        rw [hq] at hsp
        rw [if_pos (by rw [hsp]; rfl)] at hnext
        have c2 : decide ((-1 : Int) < 0) = true := by decide
        simp (disch := omega) only [go_sem, ↓reduceIte, Nat.reduceEqDiff, Nat.reduceAdd, Nat.reduceLeDiff, hG, na, nb, hlen, hlen', e0, e1, e5, e7, c1, hi, idxA, Int.toNat_natCast, nx, nx2, ol, c2]; refine hK _ _ ?_; clear hK K hG G; repeat (first | refine thenI ?_ | refine thenE ?_ | refine thenR ?_ | refine inBI ?_ | refine inBR ?_ | refine inBS ?_ | refine inBN (by decide) ?_)
        repeat (first | ((first | refine W_reg rfl fun G K hG hK => ?_ | refine W_end rfl fun G K hG hK => ?_); simp (disch := omega) only [go_sem, ↓reduceIte, Nat.reduceEqDiff, Nat.reduceAdd, Nat.reduceLeDiff, hG, na, nb, hlen, hlen', e0, e1, e5, e7, c1, hi, idxA, Int.toNat_natCast, nx, nx2, ol]; refine hK _ _ ?_; clear hK K hG G) | refine W_seqS ?_ | refine W_seqC ?_ | refine W_seqB ?_ | refine W_block ?_ | refine W_skip ?_ | (refine W_condT ?hc ?_; (case hc => (simp (disch := omega) only [go_sem, ↓reduceIte, Nat.reduceEqDiff, Nat.reduceAdd, Nat.reduceLeDiff, na, nb, hlen, hlen', e0, e1, e5, e7, c1, hi, idxA, Int.toNat_natCast, nx, nx2, ol]; done))) | (refine W_condF ?hc ?_; (case hc => (simp (disch := omega) only [go_sem, ↓reduceIte, Nat.reduceEqDiff, Nat.reduceAdd, Nat.reduceLeDiff, na, nb, hlen, hlen', e0, e1, e5, e7, c1, hi, idxA, Int.toNat_natCast, nx, nx2, ol]; done))) | refine thenI ?_ | refine thenE ?_ | refine thenR ?_ | refine inBI ?_ | refine inBR ?_ | refine inBS ?_ | refine inBN (by decide) ?_)
        refine W_endD mixed [] [(0,false),(1,false),(2,false),(3,false),(4,false),(5,false),(6,false),(7,false),(8,false),(9,false),(10,false),(11,true),(12,false),(13,false),(14,false),(15,false)] rfl (by decide +kernel) fun G K hG hK => ?_; simp only [pickOps, List.filterMap_cons, List.filterMap_nil, List.getElem?_cons_zero, List.getElem?_cons_succ, Option.map_some]; simp (disch := omega) only [go_sem, ↓reduceIte, Nat.reduceEqDiff, Nat.reduceAdd, Nat.reduceLeDiff, hG, na, nb, hlen, hlen', e0, e1, e5, e7, c1, hi, idxA, Int.toNat_natCast, nx, nx2, ol, q0, hld]
        refine w_call (l3Copy_ok b[j].tm st' _ (hlb _ (List.getElem_mem hlt)) hE) (by simp (disch := omega) only [go_sem, ↓reduceIte, Nat.reduceEqDiff, na, nb, hlen, hlen', e0, e1, e5, e7, c1, hi, idxA, Int.toNat_natCast, nx, nx2, ol]) ?hl ?_
        case hl => first | rfl | (simp only [go_sem, List.all_cons, List.all_nil, Bool.not_false, Bool.and_self, na, nb, hlen, hlen', e0, e1, e5, e7, c1, hi, idxA, Int.toNat_natCast, nx, nx2, ol]; done)
        rintro r_ sc ⟨x1, ds, Lx, rfl, hox, hfx⟩; refine ⟨fun e => x1, ?_⟩
        obtain ⟨k1, n1, m1, s1, rfl, a1, a2, a3⟩ := hox.args_cells
        obtain ⟨r', sd, L', hap, hown', hfr', hg⟩ := OwnB.step (x := b[j]) hown hfr (by omega) x1 ⟨_, rfl, hox⟩ hfx (by rw [List.length_append]; omega)
        have ol' := hown'.loc
        simp (disch := omega) only [go_sem, ↓reduceIte, Nat.reduceEqDiff, Nat.reduceAdd, Nat.reduceLeDiff, hG, na, nb, hlen, hlen', e0, e1, e5, e7, c1, hi, idxA, Int.toNat_natCast, nx, nx2, ol, w_append, hap, a1, a2, a3, ol']; refine hK _ _ ?_; clear hK K hG G; repeat (first | refine thenI ?_ | refine thenE ?_ | refine thenR ?_ | refine inBI ?_ | refine inBR ?_ | refine inBS ?_ | refine inBN (by decide) ?_)
        repeat (first | ((first | refine W_reg rfl fun G K hG hK => ?_ | refine W_end rfl fun G K hG hK => ?_); simp (disch := omega) only [go_sem, ↓reduceIte, Nat.reduceEqDiff, Nat.reduceAdd, Nat.reduceLeDiff, hG, na, nb, hlen, hlen', e0, e1, e5, e7, c1, hi, idxA, Int.toNat_natCast, nx, nx2, ol]; refine hK _ _ ?_; clear hK K hG G) | refine W_seqS ?_ | refine W_seqC ?_ | refine W_seqB ?_ | refine W_block ?_ | refine W_skip ?_ | (refine W_condT ?hc ?_; (case hc => (simp (disch := omega) only [go_sem, ↓reduceIte, Nat.reduceEqDiff, Nat.reduceAdd, Nat.reduceLeDiff, na, nb, hlen, hlen', e0, e1, e5, e7, c1, hi, idxA, Int.toNat_natCast, nx, nx2, ol]; done))) | (refine W_condF ?hc ?_; (case hc => (simp (disch := omega) only [go_sem, ↓reduceIte, Nat.reduceEqDiff, Nat.reduceAdd, Nat.reduceLeDiff, na, nb, hlen, hlen', e0, e1, e5, e7, c1, hi, idxA, Int.toNat_natCast, nx, nx2, ol]; done))) | refine thenI ?_ | refine thenE ?_ | refine thenR ?_ | refine inBI ?_ | refine inBR ?_ | refine inBS ?_ | refine inBN (by decide) ?_)
        refine ⟨b.length - (j + 1), by omega, j + 1, r', L', rfl, by omega, hg.away.ext_of hext2 htop, by rw [hnext, ← List.append_assoc]; exact hown', hfr', hg.topOk htop (by omega), (by (simp (disch := omega) only [go_sem, ↓reduceIte, Nat.reduceEqDiff, Nat.reduceAdd, Nat.reduceLeDiff, na, nb, hlen, hlen', e0, e1, e5, e7, c1, hi, idxA, Int.toNat_natCast, nx, nx2, ol]); try rfl), (by (simp (disch := omega) only [go_sem, ↓reduceIte, Nat.reduceEqDiff, Nat.reduceAdd, Nat.reduceLeDiff, na, nb, hlen, hlen', e0, e1, e5, e7, c1, hi, idxA, Int.toNat_natCast, nx, nx2, ol]); try rfl), (by (simp (disch := omega) only [go_sem, ↓reduceIte, Nat.reduceEqDiff, Nat.reduceAdd, Nat.reduceLeDiff, na, nb, hlen, hlen', e0, e1, e5, e7, c1, hi, idxA, Int.toNat_natCast, nx, nx2, ol]); try rfl), (by (simp (disch := omega) only [go_sem, ↓reduceIte, Nat.reduceEqDiff, Nat.reduceAdd, Nat.reduceLeDiff, na, nb, hlen, hlen', e0, e1, e5, e7, c1, hi, idxA, Int.toNat_natCast, nx, nx2, ol]); try rfl)⟩
    · have c1 : decide ((j : Int) < (b.length : Int)) = false := by simpa using hlt
      have hjn : j = b.length := by omega
      subst hjn
      rw [List.take_length] at hown
      have ol := hown.loc
      repeat (first | ((first | refine W_reg rfl fun G K hG hK => ?_ | refine W_end rfl fun G K hG hK => ?_); simp (disch := omega) only [go_sem, ↓reduceIte, Nat.reduceEqDiff, Nat.reduceAdd, Nat.reduceLeDiff, hG, na, nb, hlen, hlen', e0, e1, e5, e7, c1]; refine hK _ _ ?_; clear hK K hG G) | refine W_seqS ?_ | refine W_seqC ?_ | refine W_seqB ?_ | refine W_block ?_ | refine W_skip ?_ | (refine W_condT ?hc ?_; (case hc => (simp (disch := omega) only [go_sem, ↓reduceIte, Nat.reduceEqDiff, Nat.reduceAdd, Nat.reduceLeDiff, na, nb, hlen, hlen', e0, e1, e5, e7, c1]; done))) | (refine W_condF ?hc ?_; (case hc => (simp (disch := omega) only [go_sem, ↓reduceIte, Nat.reduceEqDiff, Nat.reduceAdd, Nat.reduceLeDiff, na, nb, hlen, hlen', e0, e1, e5, e7, c1]; done))) | refine thenI ?_ | refine thenE ?_ | refine thenR ?_ | refine inBI ?_ | refine inBR ?_ | refine inBS ?_ | refine inBN (by decide) ?_)
      refine W_exit ?_; repeat (first | refine thenI ?_ | refine thenE ?_ | refine thenR ?_ | refine inBI ?_ | refine inBR ?_ | refine inBS ?_ | refine inBN (by decide) ?_)
      repeat (first | ((first | refine W_reg rfl fun G K hG hK => ?_ | refine W_end rfl fun G K hG hK => ?_); simp (disch := omega) only [go_sem, ↓reduceIte, Nat.reduceEqDiff, Nat.reduceAdd, Nat.reduceLeDiff, hG, na, nb, hlen, hlen', e0, e1, e5, e7, c1]; refine hK _ _ ?_; clear hK K hG G) | refine W_seqS ?_ | refine W_seqC ?_ | refine W_seqB ?_ | refine W_block ?_ | refine W_skip ?_ | (refine W_condT ?hc ?_; (case hc => (simp (disch := omega) only [go_sem, ↓reduceIte, Nat.reduceEqDiff, Nat.reduceAdd, Nat.reduceLeDiff, na, nb, hlen, hlen', e0, e1, e5, e7, c1]; done))) | (refine W_condF ?hc ?_; (case hc => (simp (disch := omega) only [go_sem, ↓reduceIte, Nat.reduceEqDiff, Nat.reduceAdd, Nat.reduceLeDiff, na, nb, hlen, hlen', e0, e1, e5, e7, c1]; done))) | refine thenI ?_ | refine thenE ?_ | refine thenR ?_ | refine inBI ?_ | refine inBR ?_ | refine inBS ?_ | refine inBN (by decide) ?_)
      refine W_ret ?_; try (repeat (first | refine thenI ?_ | refine thenE ?_ | refine thenR ?_ | refine inBI ?_ | refine inBR ?_ | refine inBS ?_ | refine inBN (by decide) ?_))
      refine fin1 (.inl rfl) (by (simp (disch := omega) only [go_sem, ↓reduceIte, Nat.reduceEqDiff, Nat.reduceAdd, Nat.reduceLeDiff, na, nb, hlen, hlen', e0, e1, e5, e7, c1]); try rfl) ol ⟨hext2, L, hown, hfr⟩

end

section
/- Terms are compared: impl.EqualTerm, spec.EqualTerm. -/
open Go Go.Proofs
set_option linter.unusedVariables false
set_option linter.unusedSimpArgs false
set_option maxRecDepth 100000
-- AUTO

mutual
def T.eqv : T → T → Bool
  | .mk k n nm xs, .mk k' n' nm' bs => (k == k') && ((n == n') && ((nm.toList == nm'.toList) && T.eqvL xs bs))
def T.eqvL : List T → List T → Bool
  | [], [] => true
  | a :: xs, b :: bs => T.eqv a b && T.eqvL xs bs
  | _, _ => false
end
theorem T.eqvL_len : ∀ {xs bs : List T}, T.eqvL xs bs = true → xs.length = bs.length := by
  intro xs
  induction xs with
  | nil => intro bs h; cases bs with
    | nil => rfl
    | cons b bs => simp [T.eqvL] at h
  | cons a xs ih => intro bs h; cases bs with
    | nil => simp [T.eqvL] at h
    | cons b bs =>
      simp only [T.eqvL, Bool.and_eq_true] at h
      simp [ih h.2]
theorem ba_toList {a b : ByteArray} (h : (a.toList == b.toList) = true) : a = b := by
  have h1 : a.toList = b.toList := by simpa using h
  have h2 : a.data.toList = b.data.toList := by rw [← Go.ByteArray.toList_eq, ← Go.ByteArray.toList_eq]; exact h1
  exact ByteArray.ext (Array.toList_inj.1 h2)
/-- A call of a function that lies in a slot. -/
theorem w_callT {P : Program} {A H : List Tmp} {G : Nat → Option Tmp} {t0 : TypeId} {p0 : String} {af : Array Edge} {bb : Bool} {rest : List (Oper × Bool)} {K : Fr → St → Prop} {env : Nat → Value} {loc : Nat → Nat × List Value} {st : St}
    {d : Option Tmp} {f : Tmp} {g : FuncId} {args : Array Operand} {ts : Array TypeId} {Q : Value → St → Prop} {vs : List Value} (hf : env f = .func (.func g) #[] #[]) (hcall : CallS P g vs st Q) (hvs : args.toList.map (Fr.ev ⟨env, loc⟩) = vs) (hl : vs.all (fun v => !isLoc v) = true)
    (hq : ∀ r st', Q r st' → (bb = true → Ext st st') ∧ WOps P A H G rest K ⟨put env d r, loc⟩ st') : WOps P A H G ((⟨d, .call ⟨.value (.tmp f), args, ts⟩, t0, p0, af, none⟩, bb) :: rest) K ⟨env, loc⟩ st := by
  have hw : wantedA G env (⟨d, .call ⟨.value (.tmp f), args, ts⟩, t0, p0, af, none⟩ : Oper) = some true := rfl
  unfold WOps
  simp only [hw]
  show ∃ g, _
  refine ⟨g, hf, ?_, ?_⟩
  · rw [← hvs] at hl
    rw [List.all_map] at hl
    rw [← Array.all_toList]
    exact hl
  · rw [hvs]
    exact hcall.mono hq

theorem eqFunc_of (f : Nat) (xs bs : List T) (st : St) (s s' : Value) (ha : xs.length ≤ 1073741824) (hb : bs.length ≤ 1073741824) (hr : RowT st xs s) (hr' : RowT st bs s')
    (ih : ∀ x ∈ xs, ∀ y cs ds, y ∈ bs → Enc st x cs → Enc st y ds → CallS Try.prog f [.agg cs.toArray, .agg ds.toArray] st fun r st' => r = .bool (T.eqv x y) ∧ st' = st) :
    CallS Try.prog 48 [s, s', .func (.func f) #[] #[]] st fun r st' => r = .bool (T.eqvL xs bs) ∧ st' = st := by
  refine CallS_of_W [] 32 Try.func48 rfl rfl rfl rfl (by simp) ?_
  have hlen : lenE Try.prog 29 s = some (.int .i64 xs.length) := row_len hr Try.underlying29
  have hlen' : lenE Try.prog 29 s' = some (.int .i64 bs.length) := row_len hr' Try.underlying29
  have q1 := hr.notLoc.1
  have q2 := hr'.notLoc.1
  by_cases hab : xs.length = bs.length
  case neg =>
    have c0 : ((xs.length : Int) != (bs.length : Int)) = true := by simp; omega
    repeat (first | ((first | refine W_reg rfl fun G K hG hK => ?_ | refine W_end rfl fun G K hG hK => ?_); simp (disch := omega) only [go_sem, ↓reduceIte, Nat.reduceEqDiff, Nat.reduceAdd, Nat.reduceLeDiff, hG, hlen, hlen', c0]; refine hK _ _ ?_; clear hK K hG G) | refine W_seqS ?_ | refine W_seqC ?_ | refine W_seqB ?_ | refine W_block ?_ | refine W_skip ?_ | (refine W_condT ?hc ?_; (case hc => (simp (disch := omega) only [go_sem, ↓reduceIte, Nat.reduceEqDiff, Nat.reduceAdd, Nat.reduceLeDiff, hlen, hlen', c0]; done))) | (refine W_condF ?hc ?_; (case hc => (simp (disch := omega) only [go_sem, ↓reduceIte, Nat.reduceEqDiff, Nat.reduceAdd, Nat.reduceLeDiff, hlen, hlen', c0]; done))) | refine thenI ?_ | refine thenE ?_ | refine thenR ?_ | refine inBI ?_ | refine inBR ?_ | refine inBS ?_ | refine inBN (by decide) ?_)
    refine W_ret ?_; try (repeat (first | refine thenI ?_ | refine thenE ?_ | refine thenR ?_ | refine inBI ?_ | refine inBR ?_ | refine inBS ?_ | refine inBN (by decide) ?_))
    refine fin1 (.inl rfl) (by (simp (disch := omega) only [go_sem, ↓reduceIte, Nat.reduceEqDiff, Nat.reduceAdd, Nat.reduceLeDiff]); try rfl) rfl ⟨?_, rfl⟩
    cases hq : T.eqvL xs bs with
    | false => rfl
    | true => exact absurd (T.eqvL_len hq) hab
  have c0 : ((xs.length : Int) != (bs.length : Int)) = false := by simp; omega
  repeat (first | ((first | refine W_reg rfl fun G K hG hK => ?_ | refine W_end rfl fun G K hG hK => ?_); simp (disch := omega) only [go_sem, ↓reduceIte, Nat.reduceEqDiff, Nat.reduceAdd, Nat.reduceLeDiff, hG, hlen, hlen', c0]; refine hK _ _ ?_; clear hK K hG G) | refine W_seqS ?_ | refine W_seqC ?_ | refine W_seqB ?_ | refine W_block ?_ | refine W_skip ?_ | (refine W_condT ?hc ?_; (case hc => (simp (disch := omega) only [go_sem, ↓reduceIte, Nat.reduceEqDiff, Nat.reduceAdd, Nat.reduceLeDiff, hlen, hlen', c0]; done))) | (refine W_condF ?hc ?_; (case hc => (simp (disch := omega) only [go_sem, ↓reduceIte, Nat.reduceEqDiff, Nat.reduceAdd, Nat.reduceLeDiff, hlen, hlen', c0]; done))) | refine thenI ?_ | refine thenE ?_ | refine thenR ?_ | refine inBI ?_ | refine inBR ?_ | refine inBS ?_ | refine inBN (by decide) ?_)
  refine W_loop (fun d fr st' => ∃ (j : Nat) , d = xs.length - j ∧ j ≤ xs.length ∧ (st' = st) ∧ (T.eqvL (xs.drop j) (bs.drop j) = T.eqvL xs bs) ∧ (fr.env 1 = s') ∧ (fr.env 2 = .func (.func f) #[] #[]) ∧ (fr.env 15 = s) ∧ (fr.env 16 = .int .i64 xs.length) ∧ (fr.env 17 = .int .i64 j)) (xs.length) ?_ ?_
  · exact ⟨0, by omega, by omega, rfl, by simp, (by (simp (disch := omega) only [go_sem, ↓reduceIte, Nat.reduceEqDiff, Nat.reduceAdd, Nat.reduceLeDiff]); try rfl), (by (simp (disch := omega) only [go_sem, ↓reduceIte, Nat.reduceEqDiff, Nat.reduceAdd, Nat.reduceLeDiff]); try rfl), (by (simp (disch := omega) only [go_sem, ↓reduceIte, Nat.reduceEqDiff, Nat.reduceAdd, Nat.reduceLeDiff]); try rfl), (by (simp (disch := omega) only [go_sem, ↓reduceIte, Nat.reduceEqDiff, Nat.reduceAdd, Nat.reduceLeDiff]); try rfl), (by (simp (disch := omega) only [go_sem, ↓reduceIte, Nat.reduceEqDiff, Nat.reduceAdd, Nat.reduceLeDiff]); try rfl)⟩
  rintro d ⟨env, loc⟩ st' ⟨j, hd, hj, hst, heq, e1, e2, e15, e16, e17⟩
  simp only at e1 e2 e15 e16 e17
  subst hst
  by_cases hlt : j < xs.length
  · have c1 : decide ((j : Int) < (xs.length : Int)) = true := by simpa using hlt
    have hi := idxOk hlt
    have hx : xs[j]? = some xs[j] := List.getElem?_eq_getElem hlt
    have htk : xs.take (j + 1) = xs.take j ++ [xs[j]] := List.take_succ_eq_append_getElem hlt
    have hlt' : j < bs.length := by omega
    have hx' : bs[j]? = some bs[j] := List.getElem?_eq_getElem hlt'
    have hi' := idxOk hlt'
    obtain ⟨i, o, c, cs, rfl, hcl, hE, hcs⟩ := row_at hr hx
    obtain ⟨i2, o2, c2, ds, rfl, hdl, hE', hds⟩ := row_at hr' hx'
    obtain ⟨v0, v1, v2, v3, rfl⟩ : ∃ v0 v1 v2 v3, cs = [v0, v1, v2, v3] := by
      match cs, hcl with
      | [v0, v1, v2, v3], _ => exact ⟨v0, v1, v2, v3, rfl⟩
    obtain ⟨u0, u1, u2, u3, rfl⟩ : ∃ v0 v1 v2 v3, ds = [v0, v1, v2, v3] := by
      match ds, hdl with
      | [v0, v1, v2, v3], _ => exact ⟨v0, v1, v2, v3, rfl⟩
    have hld := fun loc => load_row (A := []) (loc := loc) ag31 sz31 hcl hcs
    have hld' := fun loc => load_row (A := []) (loc := loc) ag31 sz31 hdl hds
    rw [List.drop_eq_getElem_cons hlt, List.drop_eq_getElem_cons hlt'] at heq
    simp only [T.eqvL] at heq
    repeat (first | ((first | refine W_reg rfl fun G K hG hK => ?_ | refine W_end rfl fun G K hG hK => ?_); simp (disch := omega) only [go_sem, ↓reduceIte, Nat.reduceEqDiff, Nat.reduceAdd, Nat.reduceLeDiff, hG, e1, e2, e15, e16, e17, c1, hi, idxA, Int.toNat_natCast, hld, hld', hi']; refine hK _ _ ?_; clear hK K hG G) | refine W_seqS ?_ | refine W_seqC ?_ | refine W_seqB ?_ | refine W_block ?_ | refine W_skip ?_ | (refine W_condT ?hc ?_; (case hc => (simp (disch := omega) only [go_sem, ↓reduceIte, Nat.reduceEqDiff, Nat.reduceAdd, Nat.reduceLeDiff, e1, e2, e15, e16, e17, c1, hi, idxA, Int.toNat_natCast, hld, hld', hi']; done))) | (refine W_condF ?hc ?_; (case hc => (simp (disch := omega) only [go_sem, ↓reduceIte, Nat.reduceEqDiff, Nat.reduceAdd, Nat.reduceLeDiff, e1, e2, e15, e16, e17, c1, hi, idxA, Int.toNat_natCast, hld, hld', hi']; done))) | refine thenI ?_ | refine thenE ?_ | refine thenR ?_ | refine inBI ?_ | refine inBR ?_ | refine inBS ?_ | refine inBN (by decide) ?_)
    (repeat (first | refine W_seqS ?_ | refine W_seqC ?_ | refine W_seqB ?_ | refine W_block ?_)); refine W_reg rfl fun G K hG hK => ?_; simp (disch := omega) only [go_sem, ↓reduceIte, Nat.reduceEqDiff, Nat.reduceAdd, Nat.reduceLeDiff, hG, e1, e2, e15, e16, e17, c1, hi, idxA, Int.toNat_natCast]
    refine w_callT (g := f) (by simp (disch := omega) only [go_sem, ↓reduceIte, Nat.reduceEqDiff, Nat.reduceAdd, Nat.reduceLeDiff, e1, e2, e15, e16, e17, c1, hi, idxA, Int.toNat_natCast]) (ih xs[j] (List.getElem_mem hlt) bs[j] _ _ (List.getElem_mem hlt') hE hE') (by simp (disch := omega) only [go_sem, ↓reduceIte, Nat.reduceEqDiff, Nat.reduceAdd, Nat.reduceLeDiff, e1, e2, e15, e16, e17, c1, hi, idxA, Int.toNat_natCast]) rfl ?_
    rintro r_ s_ ⟨rfl, rfl⟩; refine ⟨fun e => (by cases e), ?_⟩
    cases hq : T.eqv xs[j] bs[j] with
    | false =>
      simp (disch := omega) only [go_sem, ↓reduceIte, Nat.reduceEqDiff, Nat.reduceAdd, Nat.reduceLeDiff, hG, e1, e2, e15, e16, e17, c1, hi, idxA, Int.toNat_natCast]; refine hK _ _ ?_; clear hK K hG G; repeat (first | refine thenI ?_ | refine thenE ?_ | refine thenR ?_ | refine inBI ?_ | refine inBR ?_ | refine inBS ?_ | refine inBN (by decide) ?_)
      repeat (first | ((first | refine W_reg rfl fun G K hG hK => ?_ | refine W_end rfl fun G K hG hK => ?_); simp (disch := omega) only [go_sem, ↓reduceIte, Nat.reduceEqDiff, Nat.reduceAdd, Nat.reduceLeDiff, hG, e1, e2, e15, e16, e17, c1, hi, idxA, Int.toNat_natCast]; refine hK _ _ ?_; clear hK K hG G) | refine W_seqS ?_ | refine W_seqC ?_ | refine W_seqB ?_ | refine W_block ?_ | refine W_skip ?_ | (refine W_condT ?hc ?_; (case hc => (simp (disch := omega) only [go_sem, ↓reduceIte, Nat.reduceEqDiff, Nat.reduceAdd, Nat.reduceLeDiff, e1, e2, e15, e16, e17, c1, hi, idxA, Int.toNat_natCast]; done))) | (refine W_condF ?hc ?_; (case hc => (simp (disch := omega) only [go_sem, ↓reduceIte, Nat.reduceEqDiff, Nat.reduceAdd, Nat.reduceLeDiff, e1, e2, e15, e16, e17, c1, hi, idxA, Int.toNat_natCast]; done))) | refine thenI ?_ | refine thenE ?_ | refine thenR ?_ | refine inBI ?_ | refine inBR ?_ | refine inBS ?_ | refine inBN (by decide) ?_)
      rw [hq] at heq
      refine W_ret ?_; try (repeat (first | refine thenI ?_ | refine thenE ?_ | refine thenR ?_ | refine inBI ?_ | refine inBR ?_ | refine inBS ?_ | refine inBN (by decide) ?_))
      refine fin1 (.inl rfl) (by (simp (disch := omega) only [go_sem, ↓reduceIte, Nat.reduceEqDiff, Nat.reduceAdd, Nat.reduceLeDiff, e1, e2, e15, e16, e17, c1, hi, idxA, Int.toNat_natCast]); try rfl) rfl ⟨by rw [← heq]; rfl, rfl⟩
    | true =>
      simp (disch := omega) only [go_sem, ↓reduceIte, Nat.reduceEqDiff, Nat.reduceAdd, Nat.reduceLeDiff, hG, e1, e2, e15, e16, e17, c1, hi, idxA, Int.toNat_natCast]; refine hK _ _ ?_; clear hK K hG G; repeat (first | refine thenI ?_ | refine thenE ?_ | refine thenR ?_ | refine inBI ?_ | refine inBR ?_ | refine inBS ?_ | refine inBN (by decide) ?_)
      repeat (first | ((first | refine W_reg rfl fun G K hG hK => ?_ | refine W_end rfl fun G K hG hK => ?_); simp (disch := omega) only [go_sem, ↓reduceIte, Nat.reduceEqDiff, Nat.reduceAdd, Nat.reduceLeDiff, hG, e1, e2, e15, e16, e17, c1, hi, idxA, Int.toNat_natCast]; refine hK _ _ ?_; clear hK K hG G) | refine W_seqS ?_ | refine W_seqC ?_ | refine W_seqB ?_ | refine W_block ?_ | refine W_skip ?_ | (refine W_condT ?hc ?_; (case hc => (simp (disch := omega) only [go_sem, ↓reduceIte, Nat.reduceEqDiff, Nat.reduceAdd, Nat.reduceLeDiff, e1, e2, e15, e16, e17, c1, hi, idxA, Int.toNat_natCast]; done))) | (refine W_condF ?hc ?_; (case hc => (simp (disch := omega) only [go_sem, ↓reduceIte, Nat.reduceEqDiff, Nat.reduceAdd, Nat.reduceLeDiff, e1, e2, e15, e16, e17, c1, hi, idxA, Int.toNat_natCast]; done))) | refine thenI ?_ | refine thenE ?_ | refine thenR ?_ | refine inBI ?_ | refine inBR ?_ | refine inBS ?_ | refine inBN (by decide) ?_)
      rw [hq, Bool.true_and] at heq
      refine ⟨xs.length - (j + 1), by omega, j + 1, rfl, by omega, rfl, heq, (by (simp (disch := omega) only [go_sem, ↓reduceIte, Nat.reduceEqDiff, Nat.reduceAdd, Nat.reduceLeDiff, e1, e2, e15, e16, e17, c1, hi, idxA, Int.toNat_natCast]); try rfl), (by (simp (disch := omega) only [go_sem, ↓reduceIte, Nat.reduceEqDiff, Nat.reduceAdd, Nat.reduceLeDiff, e1, e2, e15, e16, e17, c1, hi, idxA, Int.toNat_natCast]); try rfl), (by (simp (disch := omega) only [go_sem, ↓reduceIte, Nat.reduceEqDiff, Nat.reduceAdd, Nat.reduceLeDiff, e1, e2, e15, e16, e17, c1, hi, idxA, Int.toNat_natCast]); try rfl), (by (simp (disch := omega) only [go_sem, ↓reduceIte, Nat.reduceEqDiff, Nat.reduceAdd, Nat.reduceLeDiff, e1, e2, e15, e16, e17, c1, hi, idxA, Int.toNat_natCast]); try rfl), (by (simp (disch := omega) only [go_sem, ↓reduceIte, Nat.reduceEqDiff, Nat.reduceAdd, Nat.reduceLeDiff, e1, e2, e15, e16, e17, c1, hi, idxA, Int.toNat_natCast]); try rfl)⟩
  · have c1 : decide ((j : Int) < (xs.length : Int)) = false := by simpa using hlt
    have hjn : j = xs.length := by omega
    subst hjn
    rw [List.drop_length, List.drop_eq_nil_of_le (by omega)] at heq
    repeat (first | ((first | refine W_reg rfl fun G K hG hK => ?_ | refine W_end rfl fun G K hG hK => ?_); simp (disch := omega) only [go_sem, ↓reduceIte, Nat.reduceEqDiff, Nat.reduceAdd, Nat.reduceLeDiff, hG, e1, e2, e15, e16, e17, c1]; refine hK _ _ ?_; clear hK K hG G) | refine W_seqS ?_ | refine W_seqC ?_ | refine W_seqB ?_ | refine W_block ?_ | refine W_skip ?_ | (refine W_condT ?hc ?_; (case hc => (simp (disch := omega) only [go_sem, ↓reduceIte, Nat.reduceEqDiff, Nat.reduceAdd, Nat.reduceLeDiff, e1, e2, e15, e16, e17, c1]; done))) | (refine W_condF ?hc ?_; (case hc => (simp (disch := omega) only [go_sem, ↓reduceIte, Nat.reduceEqDiff, Nat.reduceAdd, Nat.reduceLeDiff, e1, e2, e15, e16, e17, c1]; done))) | refine thenI ?_ | refine thenE ?_ | refine thenR ?_ | refine inBI ?_ | refine inBR ?_ | refine inBS ?_ | refine inBN (by decide) ?_)
    refine W_exit ?_; repeat (first | refine thenI ?_ | refine thenE ?_ | refine thenR ?_ | refine inBI ?_ | refine inBR ?_ | refine inBS ?_ | refine inBN (by decide) ?_)
    repeat (first | ((first | refine W_reg rfl fun G K hG hK => ?_ | refine W_end rfl fun G K hG hK => ?_); simp (disch := omega) only [go_sem, ↓reduceIte, Nat.reduceEqDiff, Nat.reduceAdd, Nat.reduceLeDiff, hG, e1, e2, e15, e16, e17, c1]; refine hK _ _ ?_; clear hK K hG G) | refine W_seqS ?_ | refine W_seqC ?_ | refine W_seqB ?_ | refine W_block ?_ | refine W_skip ?_ | (refine W_condT ?hc ?_; (case hc => (simp (disch := omega) only [go_sem, ↓reduceIte, Nat.reduceEqDiff, Nat.reduceAdd, Nat.reduceLeDiff, e1, e2, e15, e16, e17, c1]; done))) | (refine W_condF ?hc ?_; (case hc => (simp (disch := omega) only [go_sem, ↓reduceIte, Nat.reduceEqDiff, Nat.reduceAdd, Nat.reduceLeDiff, e1, e2, e15, e16, e17, c1]; done))) | refine thenI ?_ | refine thenE ?_ | refine thenR ?_ | refine inBI ?_ | refine inBR ?_ | refine inBS ?_ | refine inBN (by decide) ?_)
    refine W_ret ?_; try (repeat (first | refine thenI ?_ | refine thenE ?_ | refine thenR ?_ | refine inBI ?_ | refine inBR ?_ | refine inBS ?_ | refine inBN (by decide) ?_))
    refine fin1 (.inl rfl) (by (simp (disch := omega) only [go_sem, ↓reduceIte, Nat.reduceEqDiff, Nat.reduceAdd, Nat.reduceLeDiff, e1, e2, e15, e16, e17, c1]); try rfl) rfl ⟨by rw [← heq]; rfl, rfl⟩

theorem implEq_ok : ∀ (a b : T) (st : St) (cs ds : List Value), Lim 1073741824 a → Lim 1073741824 b → Enc st a cs → Enc st b ds →
    CallS Try.prog 36 [.agg cs.toArray, .agg ds.toArray] st fun r st' => r = .bool (T.eqv a b) ∧ st' = st := by
  refine T.ind fun k n nm xs ih b st cs ds hl hl' h h' => ?_
  obtain ⟨k', n', nm', bs⟩ := b
  obtain ⟨s, rfl, hr⟩ := h.open
  obtain ⟨s', rfl, hr'⟩ := h'.open
  have hf := eqFunc_of 36 xs bs st s s' hl.args.1 hl'.args.1 hr hr' fun x hx y cs ds hy he he' => ih x hx y st cs ds (hl.args.2 x hx) (hl'.args.2 y hy) he he'
  refine CallS_of_W [] 31 Try.func36 rfl rfl rfl rfl (by simp) ?_
  have q1 := hr.notLoc.1
  have q2 := hr.notLoc.2
  have q3 := hr'.notLoc.1
  have q4 := hr'.notLoc.2
  cases c1 : (k == k') with
  | false =>
    repeat (first | ((first | refine W_reg rfl fun G K hG hK => ?_ | refine W_end rfl fun G K hG hK => ?_); simp (disch := omega) only [go_sem, ↓reduceIte, Nat.reduceEqDiff, Nat.reduceAdd, Nat.reduceLeDiff, hG, q1, q2, q3, q4, c1]; refine hK _ _ ?_; clear hK K hG G) | refine W_seqS ?_ | refine W_seqC ?_ | refine W_seqB ?_ | refine W_block ?_ | refine W_skip ?_ | (refine W_condT ?hc ?_; (case hc => (simp (disch := omega) only [go_sem, ↓reduceIte, Nat.reduceEqDiff, Nat.reduceAdd, Nat.reduceLeDiff, q1, q2, q3, q4, c1]; done))) | (refine W_condF ?hc ?_; (case hc => (simp (disch := omega) only [go_sem, ↓reduceIte, Nat.reduceEqDiff, Nat.reduceAdd, Nat.reduceLeDiff, q1, q2, q3, q4, c1]; done))) | refine thenI ?_ | refine thenE ?_ | refine thenR ?_ | refine inBI ?_ | refine inBR ?_ | refine inBS ?_ | refine inBN (by decide) ?_)
    refine W_ret ?_; try (repeat (first | refine thenI ?_ | refine thenE ?_ | refine thenR ?_ | refine inBI ?_ | refine inBR ?_ | refine inBS ?_ | refine inBN (by decide) ?_))
    refine fin1 (.inl rfl) (by (simp (disch := omega) only [go_sem, ↓reduceIte, Nat.reduceEqDiff, Nat.reduceAdd, Nat.reduceLeDiff, q1, q2, q3, q4]); try rfl) rfl ⟨by simp only [T.eqv, c1, Bool.false_and], rfl⟩
  | true =>
    cases c2 : (n == n') with
    | false =>
      repeat (first | ((first | refine W_reg rfl fun G K hG hK => ?_ | refine W_end rfl fun G K hG hK => ?_); simp (disch := omega) only [go_sem, ↓reduceIte, Nat.reduceEqDiff, Nat.reduceAdd, Nat.reduceLeDiff, hG, q1, q2, q3, q4, c1, c2]; refine hK _ _ ?_; clear hK K hG G) | refine W_seqS ?_ | refine W_seqC ?_ | refine W_seqB ?_ | refine W_block ?_ | refine W_skip ?_ | (refine W_condT ?hc ?_; (case hc => (simp (disch := omega) only [go_sem, ↓reduceIte, Nat.reduceEqDiff, Nat.reduceAdd, Nat.reduceLeDiff, q1, q2, q3, q4, c1, c2]; done))) | (refine W_condF ?hc ?_; (case hc => (simp (disch := omega) only [go_sem, ↓reduceIte, Nat.reduceEqDiff, Nat.reduceAdd, Nat.reduceLeDiff, q1, q2, q3, q4, c1, c2]; done))) | refine thenI ?_ | refine thenE ?_ | refine thenR ?_ | refine inBI ?_ | refine inBR ?_ | refine inBS ?_ | refine inBN (by decide) ?_)
      refine W_ret ?_; try (repeat (first | refine thenI ?_ | refine thenE ?_ | refine thenR ?_ | refine inBI ?_ | refine inBR ?_ | refine inBS ?_ | refine inBN (by decide) ?_))
      refine fin1 (.inl rfl) (by (simp (disch := omega) only [go_sem, ↓reduceIte, Nat.reduceEqDiff, Nat.reduceAdd, Nat.reduceLeDiff, q1, q2, q3, q4]); try rfl) rfl ⟨by simp only [T.eqv, c1, c2, Bool.false_and, Bool.and_false], rfl⟩
    | true =>
      cases c3 : (nm.toList == nm'.toList) with
      | false =>
        repeat (first | ((first | refine W_reg rfl fun G K hG hK => ?_ | refine W_end rfl fun G K hG hK => ?_); simp (disch := omega) only [go_sem, ↓reduceIte, Nat.reduceEqDiff, Nat.reduceAdd, Nat.reduceLeDiff, hG, q1, q2, q3, q4, c1, c2, c3]; refine hK _ _ ?_; clear hK K hG G) | refine W_seqS ?_ | refine W_seqC ?_ | refine W_seqB ?_ | refine W_block ?_ | refine W_skip ?_ | (refine W_condT ?hc ?_; (case hc => (simp (disch := omega) only [go_sem, ↓reduceIte, Nat.reduceEqDiff, Nat.reduceAdd, Nat.reduceLeDiff, q1, q2, q3, q4, c1, c2, c3]; done))) | (refine W_condF ?hc ?_; (case hc => (simp (disch := omega) only [go_sem, ↓reduceIte, Nat.reduceEqDiff, Nat.reduceAdd, Nat.reduceLeDiff, q1, q2, q3, q4, c1, c2, c3]; done))) | refine thenI ?_ | refine thenE ?_ | refine thenR ?_ | refine inBI ?_ | refine inBR ?_ | refine inBS ?_ | refine inBN (by decide) ?_)
        refine W_ret ?_; try (repeat (first | refine thenI ?_ | refine thenE ?_ | refine thenR ?_ | refine inBI ?_ | refine inBR ?_ | refine inBS ?_ | refine inBN (by decide) ?_))
        refine fin1 (.inl rfl) (by (simp (disch := omega) only [go_sem, ↓reduceIte, Nat.reduceEqDiff, Nat.reduceAdd, Nat.reduceLeDiff, q1, q2, q3, q4]); try rfl) rfl ⟨by simp only [T.eqv, c1, c2, c3, Bool.false_and, Bool.and_false], rfl⟩
      | true =>
        repeat (first | ((first | refine W_reg rfl fun G K hG hK => ?_ | refine W_end rfl fun G K hG hK => ?_); simp (disch := omega) only [go_sem, ↓reduceIte, Nat.reduceEqDiff, Nat.reduceAdd, Nat.reduceLeDiff, hG, q1, q2, q3, q4, c1, c2, c3]; refine hK _ _ ?_; clear hK K hG G) | refine W_seqS ?_ | refine W_seqC ?_ | refine W_seqB ?_ | refine W_block ?_ | refine W_skip ?_ | (refine W_condT ?hc ?_; (case hc => (simp (disch := omega) only [go_sem, ↓reduceIte, Nat.reduceEqDiff, Nat.reduceAdd, Nat.reduceLeDiff, q1, q2, q3, q4, c1, c2, c3]; done))) | (refine W_condF ?hc ?_; (case hc => (simp (disch := omega) only [go_sem, ↓reduceIte, Nat.reduceEqDiff, Nat.reduceAdd, Nat.reduceLeDiff, q1, q2, q3, q4, c1, c2, c3]; done))) | refine thenI ?_ | refine thenE ?_ | refine thenR ?_ | refine inBI ?_ | refine inBR ?_ | refine inBS ?_ | refine inBN (by decide) ?_)
        (repeat (first | refine W_seqS ?_ | refine W_seqC ?_ | refine W_seqB ?_ | refine W_block ?_)); refine W_reg rfl fun G K hG hK => ?_; simp (disch := omega) only [go_sem, ↓reduceIte, Nat.reduceEqDiff, Nat.reduceAdd, Nat.reduceLeDiff, hG, q1, q2, q3, q4, c1, c2, c3]
        refine w_call (hf) (by simp (disch := omega) only [go_sem, ↓reduceIte, Nat.reduceEqDiff, q1, q2, q3, q4]) ?hl ?_
        case hl => first | rfl | (simp only [go_sem, List.all_cons, List.all_nil, Bool.not_false, Bool.and_self, q1, q2, q3, q4]; done)
        rintro r_ s_ ⟨rfl, rfl⟩; refine ⟨fun e => (by cases e), ?_⟩
        simp (disch := omega) only [go_sem, ↓reduceIte, Nat.reduceEqDiff, Nat.reduceAdd, Nat.reduceLeDiff, hG, q1, q2, q3, q4]; refine hK _ _ ?_; clear hK K hG G; repeat (first | refine thenI ?_ | refine thenE ?_ | refine thenR ?_ | refine inBI ?_ | refine inBR ?_ | refine inBS ?_ | refine inBN (by decide) ?_)
        repeat (first | ((first | refine W_reg rfl fun G K hG hK => ?_ | refine W_end rfl fun G K hG hK => ?_); simp (disch := omega) only [go_sem, ↓reduceIte, Nat.reduceEqDiff, Nat.reduceAdd, Nat.reduceLeDiff, hG, q1, q2, q3, q4]; refine hK _ _ ?_; clear hK K hG G) | refine W_seqS ?_ | refine W_seqC ?_ | refine W_seqB ?_ | refine W_block ?_ | refine W_skip ?_ | (refine W_condT ?hc ?_; (case hc => (simp (disch := omega) only [go_sem, ↓reduceIte, Nat.reduceEqDiff, Nat.reduceAdd, Nat.reduceLeDiff, q1, q2, q3, q4]; done))) | (refine W_condF ?hc ?_; (case hc => (simp (disch := omega) only [go_sem, ↓reduceIte, Nat.reduceEqDiff, Nat.reduceAdd, Nat.reduceLeDiff, q1, q2, q3, q4]; done))) | refine thenI ?_ | refine thenE ?_ | refine thenR ?_ | refine inBI ?_ | refine inBR ?_ | refine inBS ?_ | refine inBN (by decide) ?_)
        refine W_ret ?_; try (repeat (first | refine thenI ?_ | refine thenE ?_ | refine thenR ?_ | refine inBI ?_ | refine inBR ?_ | refine inBS ?_ | refine inBN (by decide) ?_))
        refine fin1 (.inl rfl) (by (simp (disch := omega) only [go_sem, ↓reduceIte, Nat.reduceEqDiff, Nat.reduceAdd, Nat.reduceLeDiff, q1, q2, q3, q4]); try rfl) rfl ⟨by simp only [T.eqv, c1, c2, c3, Bool.true_and], rfl⟩

theorem specEq_ok : ∀ (a b : T) (st : St) (cs ds : List Value), Lim 1073741824 a → Lim 1073741824 b → Enc st a cs → Enc st b ds →
    CallS Try.prog 29 [.agg cs.toArray, .agg ds.toArray] st fun r st' => r = .bool (T.eqv a b) ∧ st' = st := by
  refine T.ind fun k n nm xs ih b st cs ds hl hl' h h' => ?_
  obtain ⟨k', n', nm', bs⟩ := b
  obtain ⟨s, rfl, hr⟩ := h.open
  obtain ⟨s', rfl, hr'⟩ := h'.open
  refine CallS_of_W [] 53 Try.func29 rfl rfl rfl rfl (by simp) ?_
  have q1 := hr.notLoc.1
  have q2 := hr.notLoc.2
  have q3 := hr'.notLoc.1
  have q4 := hr'.notLoc.2
  have ha := hl.args.1
  have hb := hl'.args.1
  have hlen : lenE Try.prog 29 s = some (.int .i64 xs.length) := row_len hr Try.underlying29
  have hlen' : lenE Try.prog 29 s' = some (.int .i64 bs.length) := row_len hr' Try.underlying29
  have n1 : (k != k') = !(k == k') := rfl
  have n2 : (n != n') = !(n == n') := rfl
  cases c1 : (k == k') with
  | false =>
    repeat (first | ((first | refine W_reg rfl fun G K hG hK => ?_ | refine W_end rfl fun G K hG hK => ?_); simp (disch := omega) only [go_sem, ↓reduceIte, Nat.reduceEqDiff, Nat.reduceAdd, Nat.reduceLeDiff, hG, q1, q2, q3, q4, hlen, hlen', n1, n2, c1]; refine hK _ _ ?_; clear hK K hG G) | refine W_seqS ?_ | refine W_seqC ?_ | refine W_seqB ?_ | refine W_block ?_ | refine W_skip ?_ | (refine W_condT ?hc ?_; (case hc => (simp (disch := omega) only [go_sem, ↓reduceIte, Nat.reduceEqDiff, Nat.reduceAdd, Nat.reduceLeDiff, q1, q2, q3, q4, hlen, hlen', n1, n2, c1]; done))) | (refine W_condF ?hc ?_; (case hc => (simp (disch := omega) only [go_sem, ↓reduceIte, Nat.reduceEqDiff, Nat.reduceAdd, Nat.reduceLeDiff, q1, q2, q3, q4, hlen, hlen', n1, n2, c1]; done))) | refine thenI ?_ | refine thenE ?_ | refine thenR ?_ | refine inBI ?_ | refine inBR ?_ | refine inBS ?_ | refine inBN (by decide) ?_)
    refine W_ret ?_; try (repeat (first | refine thenI ?_ | refine thenE ?_ | refine thenR ?_ | refine inBI ?_ | refine inBR ?_ | refine inBS ?_ | refine inBN (by decide) ?_))
    refine fin1 (.inl rfl) (by (simp (disch := omega) only [go_sem, ↓reduceIte, Nat.reduceEqDiff, Nat.reduceAdd, Nat.reduceLeDiff, q1, q2, q3, q4, hlen, hlen', n1, n2]); try rfl) rfl ⟨by simp only [T.eqv, c1, Bool.false_and], rfl⟩
  | true =>
  cases c2 : (n == n') with
  | false =>
    repeat (first | ((first | refine W_reg rfl fun G K hG hK => ?_ | refine W_end rfl fun G K hG hK => ?_); simp (disch := omega) only [go_sem, ↓reduceIte, Nat.reduceEqDiff, Nat.reduceAdd, Nat.reduceLeDiff, hG, q1, q2, q3, q4, hlen, hlen', n1, n2, c1, c2]; refine hK _ _ ?_; clear hK K hG G) | refine W_seqS ?_ | refine W_seqC ?_ | refine W_seqB ?_ | refine W_block ?_ | refine W_skip ?_ | (refine W_condT ?hc ?_; (case hc => (simp (disch := omega) only [go_sem, ↓reduceIte, Nat.reduceEqDiff, Nat.reduceAdd, Nat.reduceLeDiff, q1, q2, q3, q4, hlen, hlen', n1, n2, c1, c2]; done))) | (refine W_condF ?hc ?_; (case hc => (simp (disch := omega) only [go_sem, ↓reduceIte, Nat.reduceEqDiff, Nat.reduceAdd, Nat.reduceLeDiff, q1, q2, q3, q4, hlen, hlen', n1, n2, c1, c2]; done))) | refine thenI ?_ | refine thenE ?_ | refine thenR ?_ | refine inBI ?_ | refine inBR ?_ | refine inBS ?_ | refine inBN (by decide) ?_)
    refine W_ret ?_; try (repeat (first | refine thenI ?_ | refine thenE ?_ | refine thenR ?_ | refine inBI ?_ | refine inBR ?_ | refine inBS ?_ | refine inBN (by decide) ?_))
    refine fin1 (.inl rfl) (by (simp (disch := omega) only [go_sem, ↓reduceIte, Nat.reduceEqDiff, Nat.reduceAdd, Nat.reduceLeDiff, q1, q2, q3, q4, hlen, hlen', n1, n2]); try rfl) rfl ⟨by simp only [T.eqv, c1, c2, Bool.false_and, Bool.and_false], rfl⟩
  | true =>
  cases c3 : (nm.toList == nm'.toList) with
  | false =>
    repeat (first | ((first | refine W_reg rfl fun G K hG hK => ?_ | refine W_end rfl fun G K hG hK => ?_); simp (disch := omega) only [go_sem, ↓reduceIte, Nat.reduceEqDiff, Nat.reduceAdd, Nat.reduceLeDiff, hG, q1, q2, q3, q4, hlen, hlen', n1, n2, c1, c2, c3]; refine hK _ _ ?_; clear hK K hG G) | refine W_seqS ?_ | refine W_seqC ?_ | refine W_seqB ?_ | refine W_block ?_ | refine W_skip ?_ | (refine W_condT ?hc ?_; (case hc => (simp (disch := omega) only [go_sem, ↓reduceIte, Nat.reduceEqDiff, Nat.reduceAdd, Nat.reduceLeDiff, q1, q2, q3, q4, hlen, hlen', n1, n2, c1, c2, c3]; done))) | (refine W_condF ?hc ?_; (case hc => (simp (disch := omega) only [go_sem, ↓reduceIte, Nat.reduceEqDiff, Nat.reduceAdd, Nat.reduceLeDiff, q1, q2, q3, q4, hlen, hlen', n1, n2, c1, c2, c3]; done))) | refine thenI ?_ | refine thenE ?_ | refine thenR ?_ | refine inBI ?_ | refine inBR ?_ | refine inBS ?_ | refine inBN (by decide) ?_)
    refine W_ret ?_; try (repeat (first | refine thenI ?_ | refine thenE ?_ | refine thenR ?_ | refine inBI ?_ | refine inBR ?_ | refine inBS ?_ | refine inBN (by decide) ?_))
    refine fin1 (.inl rfl) (by (simp (disch := omega) only [go_sem, ↓reduceIte, Nat.reduceEqDiff, Nat.reduceAdd, Nat.reduceLeDiff, q1, q2, q3, q4, hlen, hlen', n1, n2]); try rfl) rfl ⟨by simp only [T.eqv, c1, c2, c3, Bool.false_and, Bool.and_false], rfl⟩
  | true =>
  have hto : T.eqv (.mk k n nm xs) (.mk k' n' nm' bs) = T.eqvL xs bs := by simp only [T.eqv, c1, c2, c3, Bool.true_and]
  rw [hto]
  by_cases hab : xs.length = bs.length
  case neg =>
    have c0 : ((xs.length : Int) != (bs.length : Int)) = true := by simp; omega
    repeat (first | ((first | refine W_reg rfl fun G K hG hK => ?_ | refine W_end rfl fun G K hG hK => ?_); simp (disch := omega) only [go_sem, ↓reduceIte, Nat.reduceEqDiff, Nat.reduceAdd, Nat.reduceLeDiff, hG, q1, q2, q3, q4, hlen, hlen', n1, n2, c1, c2, c3, c0]; refine hK _ _ ?_; clear hK K hG G) | refine W_seqS ?_ | refine W_seqC ?_ | refine W_seqB ?_ | refine W_block ?_ | refine W_skip ?_ | (refine W_condT ?hc ?_; (case hc => (simp (disch := omega) only [go_sem, ↓reduceIte, Nat.reduceEqDiff, Nat.reduceAdd, Nat.reduceLeDiff, q1, q2, q3, q4, hlen, hlen', n1, n2, c1, c2, c3, c0]; done))) | (refine W_condF ?hc ?_; (case hc => (simp (disch := omega) only [go_sem, ↓reduceIte, Nat.reduceEqDiff, Nat.reduceAdd, Nat.reduceLeDiff, q1, q2, q3, q4, hlen, hlen', n1, n2, c1, c2, c3, c0]; done))) | refine thenI ?_ | refine thenE ?_ | refine thenR ?_ | refine inBI ?_ | refine inBR ?_ | refine inBS ?_ | refine inBN (by decide) ?_)
    refine W_ret ?_; try (repeat (first | refine thenI ?_ | refine thenE ?_ | refine thenR ?_ | refine inBI ?_ | refine inBR ?_ | refine inBS ?_ | refine inBN (by decide) ?_))
    refine fin1 (.inl rfl) (by (simp (disch := omega) only [go_sem, ↓reduceIte, Nat.reduceEqDiff, Nat.reduceAdd, Nat.reduceLeDiff, q1, q2, q3, q4, hlen, hlen', n1, n2]); try rfl) rfl ⟨?_, rfl⟩
    cases hq : T.eqvL xs bs with
    | false => rfl
    | true => exact absurd (T.eqvL_len hq) hab
  have c0 : ((xs.length : Int) != (bs.length : Int)) = false := by simp; omega
  repeat (first | ((first | refine W_reg rfl fun G K hG hK => ?_ | refine W_end rfl fun G K hG hK => ?_); simp (disch := omega) only [go_sem, ↓reduceIte, Nat.reduceEqDiff, Nat.reduceAdd, Nat.reduceLeDiff, hG, q1, q2, q3, q4, hlen, hlen', n1, n2, c1, c2, c3, c0]; refine hK _ _ ?_; clear hK K hG G) | refine W_seqS ?_ | refine W_seqC ?_ | refine W_seqB ?_ | refine W_block ?_ | refine W_skip ?_ | (refine W_condT ?hc ?_; (case hc => (simp (disch := omega) only [go_sem, ↓reduceIte, Nat.reduceEqDiff, Nat.reduceAdd, Nat.reduceLeDiff, q1, q2, q3, q4, hlen, hlen', n1, n2, c1, c2, c3, c0]; done))) | (refine W_condF ?hc ?_; (case hc => (simp (disch := omega) only [go_sem, ↓reduceIte, Nat.reduceEqDiff, Nat.reduceAdd, Nat.reduceLeDiff, q1, q2, q3, q4, hlen, hlen', n1, n2, c1, c2, c3, c0]; done))) | refine thenI ?_ | refine thenE ?_ | refine thenR ?_ | refine inBI ?_ | refine inBR ?_ | refine inBS ?_ | refine inBN (by decide) ?_)
  refine W_loop (fun d fr st' => ∃ (j : Nat) , d = xs.length - j ∧ j ≤ xs.length ∧ (st' = st) ∧ (T.eqvL (xs.drop j) (bs.drop j) = T.eqvL xs bs) ∧ (fr.env 2 = .pointer (some ⟨2, 0, some 1⟩)) ∧ (fr.env 3 = .pointer (some ⟨3, 0, some 1⟩)) ∧ (fr.env 5 = .int .i64 j) ∧ (fr.loc 2 = (1, [.int .i64 k, .int .i64 n, .string nm, s])) ∧ (fr.loc 3 = (1, [.int .i64 k', .int .i64 n', .string nm', s']))) (xs.length) ?_ ?_
  · exact ⟨0, by omega, by omega, rfl, by simp, (by (simp (disch := omega) only [go_sem, ↓reduceIte, Nat.reduceEqDiff, Nat.reduceAdd, Nat.reduceLeDiff, q1, q2, q3, q4, hlen, hlen', n1, n2]); try rfl), (by (simp (disch := omega) only [go_sem, ↓reduceIte, Nat.reduceEqDiff, Nat.reduceAdd, Nat.reduceLeDiff, q1, q2, q3, q4, hlen, hlen', n1, n2]); try rfl), (by (simp (disch := omega) only [go_sem, ↓reduceIte, Nat.reduceEqDiff, Nat.reduceAdd, Nat.reduceLeDiff, q1, q2, q3, q4, hlen, hlen', n1, n2]); try rfl), (by (simp (disch := omega) only [go_sem, ↓reduceIte, Nat.reduceEqDiff, Nat.reduceAdd, Nat.reduceLeDiff, q1, q2, q3, q4, hlen, hlen', n1, n2]); try rfl), (by (simp (disch := omega) only [go_sem, ↓reduceIte, Nat.reduceEqDiff, Nat.reduceAdd, Nat.reduceLeDiff, q1, q2, q3, q4, hlen, hlen', n1, n2]); try rfl)⟩
  rintro d ⟨env, loc⟩ st' ⟨j, hd, hj, hst, heq, e2, e3, e5, l2, l3⟩
  simp only at e2 e3 e5 l2 l3
  subst hst
  clear c1
  by_cases hlt : j < xs.length
  · have c1 : decide ((j : Int) < (xs.length : Int)) = true := by simpa using hlt
    have hi := idxOk hlt
    have hx : xs[j]? = some xs[j] := List.getElem?_eq_getElem hlt
    have htk : xs.take (j + 1) = xs.take j ++ [xs[j]] := List.take_succ_eq_append_getElem hlt
    have hlt' : j < bs.length := by omega
    have hx' : bs[j]? = some bs[j] := List.getElem?_eq_getElem hlt'
    have hi' := idxOk hlt'
    obtain ⟨i, o, c, cs, rfl, hcl, hE, hcs⟩ := row_at hr hx
    obtain ⟨i2, o2, c2', ds, rfl, hdl, hE', hds⟩ := row_at hr' hx'
    have hld := fun loc => load_row (A := []) (loc := loc) ag31 sz31 hcl hcs
    have hld' := fun loc => load_row (A := []) (loc := loc) ag31 sz31 hdl hds
    rw [List.drop_eq_getElem_cons hlt, List.drop_eq_getElem_cons hlt'] at heq
    simp only [T.eqvL] at heq
    repeat (first | ((first | refine W_reg rfl fun G K hG hK => ?_ | refine W_end rfl fun G K hG hK => ?_); simp (disch := omega) only [go_sem, ↓reduceIte, Nat.reduceEqDiff, Nat.reduceAdd, Nat.reduceLeDiff, hG, q1, q2, q3, q4, hlen, hlen', n1, n2, e2, e3, e5, l2, l3, c1, hi, idxA, Int.toNat_natCast]; refine hK _ _ ?_; clear hK K hG G) | refine W_seqS ?_ | refine W_seqC ?_ | refine W_seqB ?_ | refine W_block ?_ | refine W_skip ?_ | (refine W_condT ?hc ?_; (case hc => (simp (disch := omega) only [go_sem, ↓reduceIte, Nat.reduceEqDiff, Nat.reduceAdd, Nat.reduceLeDiff, q1, q2, q3, q4, hlen, hlen', n1, n2, e2, e3, e5, l2, l3, c1, hi, idxA, Int.toNat_natCast]; done))) | (refine W_condF ?hc ?_; (case hc => (simp (disch := omega) only [go_sem, ↓reduceIte, Nat.reduceEqDiff, Nat.reduceAdd, Nat.reduceLeDiff, q1, q2, q3, q4, hlen, hlen', n1, n2, e2, e3, e5, l2, l3, c1, hi, idxA, Int.toNat_natCast]; done))) | refine thenI ?_ | refine thenE ?_ | refine thenR ?_ | refine inBI ?_ | refine inBR ?_ | refine inBS ?_ | refine inBN (by decide) ?_)
    (repeat (first | refine W_seqS ?_ | refine W_seqC ?_ | refine W_seqB ?_ | refine W_block ?_)); refine W_regD mixed [] [(0,false),(1,false),(2,false),(3,false),(4,false),(5,false),(6,false),(7,false),(8,false),(9,false),(10,false),(11,false)] rfl (by decide +kernel) fun G K hG hK => ?_; simp only [pickOps, List.filterMap_cons, List.filterMap_nil, List.getElem?_cons_zero, List.getElem?_cons_succ, Option.map_some]; simp (disch := omega) only [go_sem, ↓reduceIte, Nat.reduceEqDiff, Nat.reduceAdd, Nat.reduceLeDiff, hG, q1, q2, q3, q4, hlen, hlen', n1, n2, e2, e3, e5, l2, l3, c1, hi, idxA, Int.toNat_natCast, hld, hld', hi']
    refine w_call (ih xs[j] (List.getElem_mem hlt) bs[j] st' _ _ (hl.args.2 _ (List.getElem_mem hlt)) (hl'.args.2 _ (List.getElem_mem hlt')) hE hE') (by simp (disch := omega) only [go_sem, ↓reduceIte, Nat.reduceEqDiff, q1, q2, q3, q4, hlen, hlen', n1, n2, e2, e3, e5, l2, l3, c1, hi, idxA, Int.toNat_natCast]) ?hl ?_
    case hl => first | rfl | (simp only [go_sem, List.all_cons, List.all_nil, Bool.not_false, Bool.and_self, q1, q2, q3, q4, hlen, hlen', n1, n2, e2, e3, e5, l2, l3, c1, hi, idxA, Int.toNat_natCast]; done)
    rintro r_ st' ⟨rfl, rfl⟩; refine ⟨fun e => (by cases e), ?_⟩
    cases hq : T.eqv xs[j] bs[j] with
    | false =>
      simp (disch := omega) only [go_sem, ↓reduceIte, Nat.reduceEqDiff, Nat.reduceAdd, Nat.reduceLeDiff, hG, q1, q2, q3, q4, hlen, hlen', n1, n2, e2, e3, e5, l2, l3, c1, hi, idxA, Int.toNat_natCast]; refine hK _ _ ?_; clear hK K hG G; repeat (first | refine thenI ?_ | refine thenE ?_ | refine thenR ?_ | refine inBI ?_ | refine inBR ?_ | refine inBS ?_ | refine inBN (by decide) ?_)
      repeat (first | ((first | refine W_reg rfl fun G K hG hK => ?_ | refine W_end rfl fun G K hG hK => ?_); simp (disch := omega) only [go_sem, ↓reduceIte, Nat.reduceEqDiff, Nat.reduceAdd, Nat.reduceLeDiff, hG, q1, q2, q3, q4, hlen, hlen', n1, n2, e2, e3, e5, l2, l3, c1, hi, idxA, Int.toNat_natCast]; refine hK _ _ ?_; clear hK K hG G) | refine W_seqS ?_ | refine W_seqC ?_ | refine W_seqB ?_ | refine W_block ?_ | refine W_skip ?_ | (refine W_condT ?hc ?_; (case hc => (simp (disch := omega) only [go_sem, ↓reduceIte, Nat.reduceEqDiff, Nat.reduceAdd, Nat.reduceLeDiff, q1, q2, q3, q4, hlen, hlen', n1, n2, e2, e3, e5, l2, l3, c1, hi, idxA, Int.toNat_natCast]; done))) | (refine W_condF ?hc ?_; (case hc => (simp (disch := omega) only [go_sem, ↓reduceIte, Nat.reduceEqDiff, Nat.reduceAdd, Nat.reduceLeDiff, q1, q2, q3, q4, hlen, hlen', n1, n2, e2, e3, e5, l2, l3, c1, hi, idxA, Int.toNat_natCast]; done))) | refine thenI ?_ | refine thenE ?_ | refine thenR ?_ | refine inBI ?_ | refine inBR ?_ | refine inBS ?_ | refine inBN (by decide) ?_)
      rw [hq] at heq
      refine W_ret ?_; try (repeat (first | refine thenI ?_ | refine thenE ?_ | refine thenR ?_ | refine inBI ?_ | refine inBR ?_ | refine inBS ?_ | refine inBN (by decide) ?_))
      refine fin1 (.inl rfl) (by (simp (disch := omega) only [go_sem, ↓reduceIte, Nat.reduceEqDiff, Nat.reduceAdd, Nat.reduceLeDiff, q1, q2, q3, q4, hlen, hlen', n1, n2, e2, e3, e5, l2, l3, c1, hi, idxA, Int.toNat_natCast]); try rfl) rfl ⟨by rw [← heq]; rfl, rfl⟩
    | true =>
      simp (disch := omega) only [go_sem, ↓reduceIte, Nat.reduceEqDiff, Nat.reduceAdd, Nat.reduceLeDiff, hG, q1, q2, q3, q4, hlen, hlen', n1, n2, e2, e3, e5, l2, l3, c1, hi, idxA, Int.toNat_natCast]; refine hK _ _ ?_; clear hK K hG G; repeat (first | refine thenI ?_ | refine thenE ?_ | refine thenR ?_ | refine inBI ?_ | refine inBR ?_ | refine inBS ?_ | refine inBN (by decide) ?_)
      repeat (first | ((first | refine W_reg rfl fun G K hG hK => ?_ | refine W_end rfl fun G K hG hK => ?_); simp (disch := omega) only [go_sem, ↓reduceIte, Nat.reduceEqDiff, Nat.reduceAdd, Nat.reduceLeDiff, hG, q1, q2, q3, q4, hlen, hlen', n1, n2, e2, e3, e5, l2, l3, c1, hi, idxA, Int.toNat_natCast]; refine hK _ _ ?_; clear hK K hG G) | refine W_seqS ?_ | refine W_seqC ?_ | refine W_seqB ?_ | refine W_block ?_ | refine W_skip ?_ | (refine W_condT ?hc ?_; (case hc => (simp (disch := omega) only [go_sem, ↓reduceIte, Nat.reduceEqDiff, Nat.reduceAdd, Nat.reduceLeDiff, q1, q2, q3, q4, hlen, hlen', n1, n2, e2, e3, e5, l2, l3, c1, hi, idxA, Int.toNat_natCast]; done))) | (refine W_condF ?hc ?_; (case hc => (simp (disch := omega) only [go_sem, ↓reduceIte, Nat.reduceEqDiff, Nat.reduceAdd, Nat.reduceLeDiff, q1, q2, q3, q4, hlen, hlen', n1, n2, e2, e3, e5, l2, l3, c1, hi, idxA, Int.toNat_natCast]; done))) | refine thenI ?_ | refine thenE ?_ | refine thenR ?_ | refine inBI ?_ | refine inBR ?_ | refine inBS ?_ | refine inBN (by decide) ?_)
      rw [hq, Bool.true_and] at heq
      refine ⟨xs.length - (j + 1), by omega, j + 1, rfl, by omega, rfl, heq, (by (simp (disch := omega) only [go_sem, ↓reduceIte, Nat.reduceEqDiff, Nat.reduceAdd, Nat.reduceLeDiff, q1, q2, q3, q4, hlen, hlen', n1, n2, e2, e3, e5, l2, l3, c1, hi, idxA, Int.toNat_natCast]); try rfl), (by (simp (disch := omega) only [go_sem, ↓reduceIte, Nat.reduceEqDiff, Nat.reduceAdd, Nat.reduceLeDiff, q1, q2, q3, q4, hlen, hlen', n1, n2, e2, e3, e5, l2, l3, c1, hi, idxA, Int.toNat_natCast]); try rfl), (by (simp (disch := omega) only [go_sem, ↓reduceIte, Nat.reduceEqDiff, Nat.reduceAdd, Nat.reduceLeDiff, q1, q2, q3, q4, hlen, hlen', n1, n2, e2, e3, e5, l2, l3, c1, hi, idxA, Int.toNat_natCast]); try rfl), (by (simp (disch := omega) only [go_sem, ↓reduceIte, Nat.reduceEqDiff, Nat.reduceAdd, Nat.reduceLeDiff, q1, q2, q3, q4, hlen, hlen', n1, n2, e2, e3, e5, l2, l3, c1, hi, idxA, Int.toNat_natCast]); try rfl), (by (simp (disch := omega) only [go_sem, ↓reduceIte, Nat.reduceEqDiff, Nat.reduceAdd, Nat.reduceLeDiff, q1, q2, q3, q4, hlen, hlen', n1, n2, e2, e3, e5, l2, l3, c1, hi, idxA, Int.toNat_natCast]); try rfl)⟩
  · have c1 : decide ((j : Int) < (xs.length : Int)) = false := by simpa using hlt
    have hjn : j = xs.length := by omega
    subst hjn
    rw [List.drop_length, List.drop_eq_nil_of_le (by omega)] at heq
    repeat (first | ((first | refine W_reg rfl fun G K hG hK => ?_ | refine W_end rfl fun G K hG hK => ?_); simp (disch := omega) only [go_sem, ↓reduceIte, Nat.reduceEqDiff, Nat.reduceAdd, Nat.reduceLeDiff, hG, q1, q2, q3, q4, hlen, hlen', n1, n2, e2, e3, e5, l2, l3, c1]; refine hK _ _ ?_; clear hK K hG G) | refine W_seqS ?_ | refine W_seqC ?_ | refine W_seqB ?_ | refine W_block ?_ | refine W_skip ?_ | (refine W_condT ?hc ?_; (case hc => (simp (disch := omega) only [go_sem, ↓reduceIte, Nat.reduceEqDiff, Nat.reduceAdd, Nat.reduceLeDiff, q1, q2, q3, q4, hlen, hlen', n1, n2, e2, e3, e5, l2, l3, c1]; done))) | (refine W_condF ?hc ?_; (case hc => (simp (disch := omega) only [go_sem, ↓reduceIte, Nat.reduceEqDiff, Nat.reduceAdd, Nat.reduceLeDiff, q1, q2, q3, q4, hlen, hlen', n1, n2, e2, e3, e5, l2, l3, c1]; done))) | refine thenI ?_ | refine thenE ?_ | refine thenR ?_ | refine inBI ?_ | refine inBR ?_ | refine inBS ?_ | refine inBN (by decide) ?_)
    refine W_exit ?_; repeat (first | refine thenI ?_ | refine thenE ?_ | refine thenR ?_ | refine inBI ?_ | refine inBR ?_ | refine inBS ?_ | refine inBN (by decide) ?_)
    repeat (first | ((first | refine W_reg rfl fun G K hG hK => ?_ | refine W_end rfl fun G K hG hK => ?_); simp (disch := omega) only [go_sem, ↓reduceIte, Nat.reduceEqDiff, Nat.reduceAdd, Nat.reduceLeDiff, hG, q1, q2, q3, q4, hlen, hlen', n1, n2, e2, e3, e5, l2, l3, c1]; refine hK _ _ ?_; clear hK K hG G) | refine W_seqS ?_ | refine W_seqC ?_ | refine W_seqB ?_ | refine W_block ?_ | refine W_skip ?_ | (refine W_condT ?hc ?_; (case hc => (simp (disch := omega) only [go_sem, ↓reduceIte, Nat.reduceEqDiff, Nat.reduceAdd, Nat.reduceLeDiff, q1, q2, q3, q4, hlen, hlen', n1, n2, e2, e3, e5, l2, l3, c1]; done))) | (refine W_condF ?hc ?_; (case hc => (simp (disch := omega) only [go_sem, ↓reduceIte, Nat.reduceEqDiff, Nat.reduceAdd, Nat.reduceLeDiff, q1, q2, q3, q4, hlen, hlen', n1, n2, e2, e3, e5, l2, l3, c1]; done))) | refine thenI ?_ | refine thenE ?_ | refine thenR ?_ | refine inBI ?_ | refine inBR ?_ | refine inBS ?_ | refine inBN (by decide) ?_)
    refine W_ret ?_; try (repeat (first | refine thenI ?_ | refine thenE ?_ | refine thenR ?_ | refine inBI ?_ | refine inBR ?_ | refine inBS ?_ | refine inBN (by decide) ?_))
    refine fin1 (.inl rfl) (by (simp (disch := omega) only [go_sem, ↓reduceIte, Nat.reduceEqDiff, Nat.reduceAdd, Nat.reduceLeDiff, q1, q2, q3, q4, hlen, hlen', n1, n2, e2, e3, e5, l2, l3, c1]); try rfl) rfl ⟨by rw [← heq]; rfl, rfl⟩

end

section
/- Terms are matched: impl.match, spec.l8Match. -/
open Go Go.Proofs
set_option linter.unusedVariables false
set_option linter.unusedSimpArgs false
set_option maxRecDepth 100000
-- AUTO

/-- A row of bindings that are read, in a block of its own. -/
abbrev ShB (s0 st : St) (xs : List Bnd) (s : Value) (L : List Nat) : Prop := SliceO (Shr (EncB s0)) 54 st xs s L
theorem ShB.row {s0 st : St} {xs : List Bnd} {s : Value} {L : List Nat} (h : ShB s0 st xs s L) (hx : Ext s0 st) : Rw st xs s :=
  SliceO.row (fun x cx Lx he => Kind.enc_len (α := Bnd) s0 x cx he.1) (fun x _ cx Lx he => Kind.enc_ext (α := Bnd) _ _ x cx hx he.1) h
theorem ShB.push {s0 st st2 : St} {n0 : Nat} {xs : List Bnd} {s : Value} {L : List Nat} {x : Bnd} {cx : List Value} (h : ShB s0 st xs s L) (hf : Fresh n0 L) (hn0 : n0 ≤ st.length) (hext : Ext st st2) (hx : EncB s0 x cx) (hbd : xs.length + 1 ≤ 274877906944) :
    ∃ s' st' L', appendA Try.prog 26 26 s (.slice (some ⟨st2.length, 0, none⟩) 1 1) (st2 ++ [⟨cx, 54, 0⟩]) = some (s', st') ∧ ShB s0 st' (xs ++ [x]) s' L' ∧ Fresh n0 L' ∧ Grow st s st' s' := by
  obtain ⟨s', st', L', h1, h2, h3, h4⟩ := SliceO.app (E := fun _ => Shr (EncB s0)) (fun _ _ _ _ _ _ h => h) (fun _ _ _ _ h => by rw [h.2]; simp) (sz := 4) (fun _ x cx _ h => Kind.enc_len (α := Bnd) s0 x cx h.1) (ys := [x]) (K := []) (u := 26) (t := 26) Try.underlying26 sz54 by54 ze54 rfl h hf hn0 (hext.trans (Ext.app _ [⟨cx, 54, 0⟩])) (newsA_1 Try.underlying26 (Kind.enc_len (α := Bnd) s0 x cx hx)) (RowO.one ⟨hx, rfl⟩) ⟨by simp, by simp⟩ (by simp; omega) (by simp; omega)
  exact ⟨s', st', L', h1, h2, h3, (Grow.of_ext (hext.trans (Ext.app _ _)) s).trans h4⟩


end

end Go.Proofs.Ytoeibmfdafilcaa.AM