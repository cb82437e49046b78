/- My texts for the law, laid together (part 3): O4 O5 DR1 F1 F2 K1 PL7 O12 F3 F4. -/
import Derived.Test.YtngkedafggfehaaDoorG2
import Derived.Test.YtngkedafggfehaaDoorShelf
import Derived.Lib.AppendIntMem
import Derived.Lib.Join
/- Counts and depths of terms; validity: impl and spec. -/
namespace Go.Proofs.YtngkedafggfehaaDoor.AM
open Go Go.Proofs
set_option linter.unusedVariables false
set_option linter.unusedSimpArgs false
set_option maxRecDepth 100000
attribute [local go_sem] List.map_cons List.map_nil List.all_cons List.all_nil Bool.and_self Option.map_some List.getElem?_toArray Option.bind_some gye_b gye_t gsk_b gsk_t gb1 gb2 gb3 gb4 bne_self_eq_false beq_self_eq_true w_guard w_nil stepV_some step_some step_some' w_move w_assign w_pick w_binOp w_unOp w_load w_fieldAddr w_indexAddr w_len w_max w_index ev_max max_int ev_index w_box w_alloc w_store w_field w_extract w_nilCheck w_convert w_buildSlice w_build ev_buildL fillL_nil fillL_cons bs0 bs1 ev_conv ev_bin ev_un ev_pick ev_load ev_fieldAddr ev_indexAddr ev_len ev_field ev_extract ev_nilCheck fr_tmp fr_int fr_bool fr_str fr_nil fr_func put_some put_none bin_lss bin_leq bin_gtr bin_geq bin_eql bin_neq bin_add bin_sub bin_mul bin_seql bin_sneq un_not pick_ ext_ loadA_p cellAt_l cellAt_h okPtr_l okPtr_h fadA_p allocA_l storeA_l cells_agg cells_int cells_str cells_sl cells_bool flat_i flat_s flat_b flat_sl flat_nil loc_agg loc_int loc_str loc_sl loc_bool loc_fn loc_ptr okv_agg okv_int okv_str okv_sl okv_bool cellsFrom splice upd_eval argEnv_zero argEnv_succ ne_eq Nat.add_one_ne_zero not_false_eq_true List.not_mem_nil and_self decide_true List.getElem?_cons_zero List.getElem?_cons_succ List.size_toArray List.length_cons List.length_nil List.take_succ_cons List.take_zero List.drop_succ_cons List.drop_zero List.cons_append List.nil_append List.drop_nil Bool.not_true Bool.not_false Bool.false_eq_true Nat.zero_add Nat.add_zero wrap_in List.toList_toArray List.mem_cons or_self or_false false_or
attribute [local go_sem] ag22 ag24 ag26 ag29 ag3 ag31 ag33 ag5 ag54 ag56 ag69 ag9 by31 by5 by9 el22 el29 el46 el54 of24_0 of24_1 of24_2 of24_3 of26_0 of26_1 of26_2 of31_0 of31_1 of31_2 of31_3 of33_0 of33_1 of33_2 of58_0 of58_1 ro5_1 ro9_1 ro9_3 ro9_4 sz22 sz24 sz26 sz29 sz3 sz31 sz33 sz5 sz54 sz56 sz69 sz9 ze31 ze33 ze5 ze58 ze68 ze81 ze9
-- AUTO

theorem count_take {xs : List T} {j : Nat} (h : j < xs.length) : T.countL (xs.take (j + 1)) = T.countL (xs.take j) + xs[j].count := by
  rw [List.take_succ_eq_append_getElem h, T.countL_app]; simp [T.countL]
theorem count_le {xs : List T} (j : Nat) : T.countL (xs.take j) ≤ T.countL xs := by
  have := T.countL_app (xs.take j) (xs.drop j)
  rw [List.take_append_drop] at this; omega
theorem depth_take {xs : List T} {j : Nat} (h : j < xs.length) : T.depthL (xs.take (j + 1)) = max (T.depthL (xs.take j)) xs[j].depth := by
  rw [List.take_succ_eq_append_getElem h, T.depthL_app]; simp [T.depthL]
theorem depthL_mem' {a : T} {l : List T} (h : a ∈ l) : a.depth ≤ T.depthL l := by
  induction l with
  | nil => cases h
  | cons y ys ih =>
    simp only [T.depthL]
    rcases List.mem_cons.1 h with rfl | h
    · omega
    · have := ih h; omega
theorem depth_le {xs : List T} (j : Nat) : T.depthL (xs.take j) ≤ T.depthL xs := by
  have := T.depthL_app (xs.take j) (xs.drop j)
  rw [List.take_append_drop] at this; omega
theorem implCount_ok : ∀ (t : T) (st : St) (cs : List Value), Lim 1073741824 t → t.count ≤ 4611686018427387904 → Enc st t cs →
    CallS Tryd.prog 23 [.agg cs.toArray] st fun r st' => r = .int .i64 (t.count : Nat) ∧ st' = st := by
  refine T.ind fun k n nm xs ih st cs hl hc hE => ?_
  obtain ⟨s, rfl, hr⟩ := hE.open
  have hxl := hl.args.1
  have hcm : (T.mk k n nm xs).count = 1 + T.countL xs := by simp only [T.count]
  refine CallS_of_W [] 19 Tryd.func23 rfl rfl rfl rfl (by simp) ?_
  have q1 := hr.notLoc.1
  have q2 := hr.notLoc.2
  have q3 := Row.cells1 hr
  have hlen : lenE Tryd.prog 29 s = some (.int .i64 xs.length) := row_len hr Tryd.underlying29
  repeat (first | (refine W_reg rfl fun G K hG hK => ?_; simp (disch := omega) only [go_sem, ↓reduceIte, Nat.reduceEqDiff, Nat.reduceAdd, Nat.reduceLeDiff, hG, q1, q2, q3, hlen]; refine hK _ _ ?_; clear hK K hG G) | (refine W_end rfl fun G K hG hK => ?_; simp (disch := omega) only [go_sem, ↓reduceIte, Nat.reduceEqDiff, Nat.reduceAdd, Nat.reduceLeDiff, hG, q1, q2, q3, hlen]; refine hK _ _ ?_; clear hK K hG G; repeat (first | refine thenI ?_ | refine thenE ?_ | refine thenR ?_ | refine inBI ?_ | refine inBR ?_ | refine inBS ?_ | refine inBN (by decide) ?_)) | refine W_seqS ?_ | refine W_seqC ?_ | refine W_seqB ?_ | refine W_block ?_ | (refine W_skip ?_; repeat (first | refine thenI ?_ | refine thenE ?_ | refine thenR ?_ | refine inBI ?_ | refine inBR ?_ | refine inBS ?_ | refine inBN (by decide) ?_)) | (refine W_condT ?hc ?_; (case hc => (simp (disch := omega) only [go_sem, ↓reduceIte, Nat.reduceEqDiff, Nat.reduceAdd, Nat.reduceLeDiff, q1, q2, q3, hlen]; done))) | (refine W_condF ?hc ?_; (case hc => (simp (disch := omega) only [go_sem, ↓reduceIte, Nat.reduceEqDiff, Nat.reduceAdd, Nat.reduceLeDiff, q1, q2, q3, hlen]; done))))
  refine W_loop (fun d fr st' => ∃ (j : Nat) , d = xs.length - j ∧ j ≤ xs.length ∧ (st' = st) ∧ (fr.env 3 = .int .i64 ((1 + T.countL (xs.take j) : Nat) : Int)) ∧ (fr.env 7 = s) ∧ (fr.env 8 = .int .i64 xs.length) ∧ (fr.env 9 = .int .i64 j)) (xs.length) ?_ ?_
  · exact ⟨0, by omega, by omega, rfl, (by (simp (disch := omega) only [go_sem, ↓reduceIte, Nat.reduceEqDiff, Nat.reduceAdd, Nat.reduceLeDiff, q1, q2, q3, hlen]); try rfl), (by (simp (disch := omega) only [go_sem, ↓reduceIte, Nat.reduceEqDiff, Nat.reduceAdd, Nat.reduceLeDiff, q1, q2, q3, hlen]); try rfl), (by (simp (disch := omega) only [go_sem, ↓reduceIte, Nat.reduceEqDiff, Nat.reduceAdd, Nat.reduceLeDiff, q1, q2, q3, hlen]); try rfl), (by (simp (disch := omega) only [go_sem, ↓reduceIte, Nat.reduceEqDiff, Nat.reduceAdd, Nat.reduceLeDiff, q1, q2, q3, hlen]); try rfl)⟩
  rintro d ⟨env, loc⟩ st' ⟨j, hd, hj, hst, e3, e7, e8, e9⟩
  simp only at e3 e7 e8 e9
  subst hst
  have hle := count_le (xs := xs) j
  by_cases hlt : j < xs.length
  · have c1 : decide ((j : Int) < (xs.length : Int)) = true := by simpa using hlt
    have hi := idxOk hlt
    have hx : xs[j]? = some xs[j] := List.getElem?_eq_getElem hlt
    have htk : xs.take (j + 1) = xs.take j ++ [xs[j]] := List.take_succ_eq_append_getElem hlt
    obtain ⟨i, o, c, es, rfl, hcl, hE1, hcs⟩ := row_at hr hx
    have hld := fun loc => load_row (A := []) (loc := loc) ag31 sz31 hcl hcs
    obtain ⟨k1, n1, m1, s1, rfl, a1, a2, a3⟩ := hE1.args_cells
    have htake := count_take hlt
    have hle1 := count_le (xs := xs) (j + 1)
    repeat (first | (refine W_reg rfl fun G K hG hK => ?_; simp (disch := omega) only [go_sem, ↓reduceIte, Nat.reduceEqDiff, Nat.reduceAdd, Nat.reduceLeDiff, hG, q1, q2, q3, hlen, e3, e7, e8, e9, c1, hi, idxA, Int.toNat_natCast, hld, a1, a2, a3]; refine hK _ _ ?_; clear hK K hG G) | (refine W_end rfl fun G K hG hK => ?_; simp (disch := omega) only [go_sem, ↓reduceIte, Nat.reduceEqDiff, Nat.reduceAdd, Nat.reduceLeDiff, hG, q1, q2, q3, hlen, e3, e7, e8, e9, c1, hi, idxA, Int.toNat_natCast, hld, a1, a2, a3]; refine hK _ _ ?_; clear hK K hG G; repeat (first | refine thenI ?_ | refine thenE ?_ | refine thenR ?_ | refine inBI ?_ | refine inBR ?_ | refine inBS ?_ | refine inBN (by decide) ?_)) | refine W_seqS ?_ | refine W_seqC ?_ | refine W_seqB ?_ | refine W_block ?_ | (refine W_skip ?_; repeat (first | refine thenI ?_ | refine thenE ?_ | refine thenR ?_ | refine inBI ?_ | refine inBR ?_ | refine inBS ?_ | refine inBN (by decide) ?_)) | (refine W_condT ?hc ?_; (case hc => (simp (disch := omega) only [go_sem, ↓reduceIte, Nat.reduceEqDiff, Nat.reduceAdd, Nat.reduceLeDiff, q1, q2, q3, hlen, e3, e7, e8, e9, c1, hi, idxA, Int.toNat_natCast, hld, a1, a2, a3]; done))) | (refine W_condF ?hc ?_; (case hc => (simp (disch := omega) only [go_sem, ↓reduceIte, Nat.reduceEqDiff, Nat.reduceAdd, Nat.reduceLeDiff, q1, q2, q3, hlen, e3, e7, e8, e9, c1, hi, idxA, Int.toNat_natCast, hld, a1, a2, a3]; done))))
    refine W_end rfl fun G K hG hK => ?_; simp (disch := omega) only [go_sem, ↓reduceIte, Nat.reduceEqDiff, Nat.reduceAdd, Nat.reduceLeDiff, hG, q1, q2, q3, hlen, e3, e7, e8, e9, c1, hi, idxA, Int.toNat_natCast, a1, a2, a3]
    refine w_call (ih xs[j] (List.getElem_mem hlt) st' _ (hl.args.2 _ (List.getElem_mem hlt)) (by omega) hE1) (by simp (disch := omega) only [go_sem, ↓reduceIte, Nat.reduceEqDiff, q1, q2, q3, hlen, e3, e7, e8, e9, c1, hi, idxA, Int.toNat_natCast, a1, a2, a3]) ?hl ?_
    case hl => first | rfl | (simp only [go_sem, List.all_cons, List.all_nil, Bool.not_false, Bool.and_self, q1, q2, q3, hlen, e3, e7, e8, e9, c1, hi, idxA, Int.toNat_natCast, a1, a2, a3]; done)
    rintro r_ st' ⟨rfl, rfl⟩; refine ⟨fun e => (by cases e), ?_⟩
    have hadd : ((1 + T.countL (xs.take j) : Nat) : Int) + ((xs[j].count : Nat) : Int) = ((1 + T.countL (xs.take (j + 1)) : Nat) : Int) := by omega
    simp (disch := omega) only [go_sem, ↓reduceIte, Nat.reduceEqDiff, Nat.reduceAdd, Nat.reduceLeDiff, hG, q1, q2, q3, hlen, e3, e7, e8, e9, c1, hi, idxA, Int.toNat_natCast, hadd]; refine hK _ _ ?_; clear hK K hG G; repeat (first | refine thenI ?_ | refine thenE ?_ | refine thenR ?_ | refine inBI ?_ | refine inBR ?_ | refine inBS ?_ | refine inBN (by decide) ?_)
    repeat (first | (refine W_reg rfl fun G K hG hK => ?_; simp (disch := omega) only [go_sem, ↓reduceIte, Nat.reduceEqDiff, Nat.reduceAdd, Nat.reduceLeDiff, hG, q1, q2, q3, hlen, e3, e7, e8, e9, c1, hi, idxA, Int.toNat_natCast]; refine hK _ _ ?_; clear hK K hG G) | (refine W_end rfl fun G K hG hK => ?_; simp (disch := omega) only [go_sem, ↓reduceIte, Nat.reduceEqDiff, Nat.reduceAdd, Nat.reduceLeDiff, hG, q1, q2, q3, hlen, e3, e7, e8, e9, c1, hi, idxA, Int.toNat_natCast]; refine hK _ _ ?_; clear hK K hG G; repeat (first | refine thenI ?_ | refine thenE ?_ | refine thenR ?_ | refine inBI ?_ | refine inBR ?_ | refine inBS ?_ | refine inBN (by decide) ?_)) | refine W_seqS ?_ | refine W_seqC ?_ | refine W_seqB ?_ | refine W_block ?_ | (refine W_skip ?_; repeat (first | refine thenI ?_ | refine thenE ?_ | refine thenR ?_ | refine inBI ?_ | refine inBR ?_ | refine inBS ?_ | refine inBN (by decide) ?_)) | (refine W_condT ?hc ?_; (case hc => (simp (disch := omega) only [go_sem, ↓reduceIte, Nat.reduceEqDiff, Nat.reduceAdd, Nat.reduceLeDiff, q1, q2, q3, hlen, e3, e7, e8, e9, c1, hi, idxA, Int.toNat_natCast]; done))) | (refine W_condF ?hc ?_; (case hc => (simp (disch := omega) only [go_sem, ↓reduceIte, Nat.reduceEqDiff, Nat.reduceAdd, Nat.reduceLeDiff, q1, q2, q3, hlen, e3, e7, e8, e9, c1, hi, idxA, Int.toNat_natCast]; done))))
    refine ⟨xs.length - (j + 1), by omega, j + 1, rfl, by omega, rfl, (by (simp (disch := omega) only [go_sem, ↓reduceIte, Nat.reduceEqDiff, Nat.reduceAdd, Nat.reduceLeDiff, q1, q2, q3, hlen, e3, e7, e8, e9, c1, hi, idxA, Int.toNat_natCast]); try rfl), (by (simp (disch := omega) only [go_sem, ↓reduceIte, Nat.reduceEqDiff, Nat.reduceAdd, Nat.reduceLeDiff, q1, q2, q3, hlen, e3, e7, e8, e9, c1, hi, idxA, Int.toNat_natCast]); try rfl), (by (simp (disch := omega) only [go_sem, ↓reduceIte, Nat.reduceEqDiff, Nat.reduceAdd, Nat.reduceLeDiff, q1, q2, q3, hlen, e3, e7, e8, e9, c1, hi, idxA, Int.toNat_natCast]); try rfl), (by (simp (disch := omega) only [go_sem, ↓reduceIte, Nat.reduceEqDiff, Nat.reduceAdd, Nat.reduceLeDiff, q1, q2, q3, hlen, e3, e7, e8, e9, c1, hi, idxA, Int.toNat_natCast]); try rfl)⟩
  · have c1 : decide ((j : Int) < (xs.length : Int)) = false := by simpa using hlt
    have hjn : j = xs.length := by omega
    subst hjn
    repeat (first | (refine W_reg rfl fun G K hG hK => ?_; simp (disch := omega) only [go_sem, ↓reduceIte, Nat.reduceEqDiff, Nat.reduceAdd, Nat.reduceLeDiff, hG, q1, q2, q3, hlen, e3, e7, e8, e9, c1]; refine hK _ _ ?_; clear hK K hG G) | (refine W_end rfl fun G K hG hK => ?_; simp (disch := omega) only [go_sem, ↓reduceIte, Nat.reduceEqDiff, Nat.reduceAdd, Nat.reduceLeDiff, hG, q1, q2, q3, hlen, e3, e7, e8, e9, c1]; refine hK _ _ ?_; clear hK K hG G; repeat (first | refine thenI ?_ | refine thenE ?_ | refine thenR ?_ | refine inBI ?_ | refine inBR ?_ | refine inBS ?_ | refine inBN (by decide) ?_)) | refine W_seqS ?_ | refine W_seqC ?_ | refine W_seqB ?_ | refine W_block ?_ | (refine W_skip ?_; repeat (first | refine thenI ?_ | refine thenE ?_ | refine thenR ?_ | refine inBI ?_ | refine inBR ?_ | refine inBS ?_ | refine inBN (by decide) ?_)) | (refine W_condT ?hc ?_; (case hc => (simp (disch := omega) only [go_sem, ↓reduceIte, Nat.reduceEqDiff, Nat.reduceAdd, Nat.reduceLeDiff, q1, q2, q3, hlen, e3, e7, e8, e9, c1]; done))) | (refine W_condF ?hc ?_; (case hc => (simp (disch := omega) only [go_sem, ↓reduceIte, Nat.reduceEqDiff, Nat.reduceAdd, Nat.reduceLeDiff, q1, q2, q3, hlen, e3, e7, e8, e9, c1]; done))))
    refine W_exit ?_; repeat (first | refine thenI ?_ | refine thenE ?_ | refine thenR ?_ | refine inBI ?_ | refine inBR ?_ | refine inBS ?_ | refine inBN (by decide) ?_)
    repeat (first | (refine W_reg rfl fun G K hG hK => ?_; simp (disch := omega) only [go_sem, ↓reduceIte, Nat.reduceEqDiff, Nat.reduceAdd, Nat.reduceLeDiff, hG, q1, q2, q3, hlen, e3, e7, e8, e9, c1]; refine hK _ _ ?_; clear hK K hG G) | (refine W_end rfl fun G K hG hK => ?_; simp (disch := omega) only [go_sem, ↓reduceIte, Nat.reduceEqDiff, Nat.reduceAdd, Nat.reduceLeDiff, hG, q1, q2, q3, hlen, e3, e7, e8, e9, c1]; refine hK _ _ ?_; clear hK K hG G; repeat (first | refine thenI ?_ | refine thenE ?_ | refine thenR ?_ | refine inBI ?_ | refine inBR ?_ | refine inBS ?_ | refine inBN (by decide) ?_)) | refine W_seqS ?_ | refine W_seqC ?_ | refine W_seqB ?_ | refine W_block ?_ | (refine W_skip ?_; repeat (first | refine thenI ?_ | refine thenE ?_ | refine thenR ?_ | refine inBI ?_ | refine inBR ?_ | refine inBS ?_ | refine inBN (by decide) ?_)) | (refine W_condT ?hc ?_; (case hc => (simp (disch := omega) only [go_sem, ↓reduceIte, Nat.reduceEqDiff, Nat.reduceAdd, Nat.reduceLeDiff, q1, q2, q3, hlen, e3, e7, e8, e9, c1]; done))) | (refine W_condF ?hc ?_; (case hc => (simp (disch := omega) only [go_sem, ↓reduceIte, Nat.reduceEqDiff, Nat.reduceAdd, Nat.reduceLeDiff, q1, q2, q3, hlen, e3, e7, e8, e9, c1]; done))))
    refine W_ret ?_; try (repeat (first | refine thenI ?_ | refine thenE ?_ | refine thenR ?_ | refine inBI ?_ | refine inBR ?_ | refine inBS ?_ | refine inBN (by decide) ?_))
    refine fin1 (.inl rfl) (by (simp (disch := omega) only [go_sem, ↓reduceIte, Nat.reduceEqDiff, Nat.reduceAdd, Nat.reduceLeDiff, q1, q2, q3, hlen, e3, e7, e8, e9, c1]); try rfl) rfl ⟨by rw [hcm, List.take_length], rfl⟩
theorem l1Max_ok (a b : Int) (st : St) : CallS Tryd.prog 37 [.int .i64 a, .int .i64 b] st fun r st' => r = .int .i64 (max a b) ∧ st' = st := by
  refine CallS_of_W [] 10 Tryd.func37 rfl rfl rfl rfl (by simp) ?_
  by_cases h : a > b
  · have c1 : decide (a > b) = true := by simpa using h
    repeat (first | (refine W_reg rfl fun G K hG hK => ?_; simp (disch := omega) only [go_sem, ↓reduceIte, Nat.reduceEqDiff, Nat.reduceAdd, Nat.reduceLeDiff, hG, c1]; refine hK _ _ ?_; clear hK K hG G) | (refine W_end rfl fun G K hG hK => ?_; simp (disch := omega) only [go_sem, ↓reduceIte, Nat.reduceEqDiff, Nat.reduceAdd, Nat.reduceLeDiff, hG, c1]; refine hK _ _ ?_; clear hK K hG G; repeat (first | refine thenI ?_ | refine thenE ?_ | refine thenR ?_ | refine inBI ?_ | refine inBR ?_ | refine inBS ?_ | refine inBN (by decide) ?_)) | refine W_seqS ?_ | refine W_seqC ?_ | refine W_seqB ?_ | refine W_block ?_ | (refine W_skip ?_; repeat (first | refine thenI ?_ | refine thenE ?_ | refine thenR ?_ | refine inBI ?_ | refine inBR ?_ | refine inBS ?_ | refine inBN (by decide) ?_)) | (refine W_condT ?hc ?_; (case hc => (simp (disch := omega) only [go_sem, ↓reduceIte, Nat.reduceEqDiff, Nat.reduceAdd, Nat.reduceLeDiff, c1]; done))) | (refine W_condF ?hc ?_; (case hc => (simp (disch := omega) only [go_sem, ↓reduceIte, Nat.reduceEqDiff, Nat.reduceAdd, Nat.reduceLeDiff, c1]; done))))
    refine W_ret ?_; try (repeat (first | refine thenI ?_ | refine thenE ?_ | refine thenR ?_ | refine inBI ?_ | refine inBR ?_ | refine inBS ?_ | refine inBN (by decide) ?_))
    refine fin1 (.inl rfl) (by (simp (disch := omega) only [go_sem, ↓reduceIte, Nat.reduceEqDiff, Nat.reduceAdd, Nat.reduceLeDiff]); try rfl) rfl ⟨by congr 1; omega, rfl⟩
  · have c1 : decide (a > b) = false := by simpa using h
    repeat (first | (refine W_reg rfl fun G K hG hK => ?_; simp (disch := omega) only [go_sem, ↓reduceIte, Nat.reduceEqDiff, Nat.reduceAdd, Nat.reduceLeDiff, hG, c1]; refine hK _ _ ?_; clear hK K hG G) | (refine W_end rfl fun G K hG hK => ?_; simp (disch := omega) only [go_sem, ↓reduceIte, Nat.reduceEqDiff, Nat.reduceAdd, Nat.reduceLeDiff, hG, c1]; refine hK _ _ ?_; clear hK K hG G; repeat (first | refine thenI ?_ | refine thenE ?_ | refine thenR ?_ | refine inBI ?_ | refine inBR ?_ | refine inBS ?_ | refine inBN (by decide) ?_)) | refine W_seqS ?_ | refine W_seqC ?_ | refine W_seqB ?_ | refine W_block ?_ | (refine W_skip ?_; repeat (first | refine thenI ?_ | refine thenE ?_ | refine thenR ?_ | refine inBI ?_ | refine inBR ?_ | refine inBS ?_ | refine inBN (by decide) ?_)) | (refine W_condT ?hc ?_; (case hc => (simp (disch := omega) only [go_sem, ↓reduceIte, Nat.reduceEqDiff, Nat.reduceAdd, Nat.reduceLeDiff, c1]; done))) | (refine W_condF ?hc ?_; (case hc => (simp (disch := omega) only [go_sem, ↓reduceIte, Nat.reduceEqDiff, Nat.reduceAdd, Nat.reduceLeDiff, c1]; done))))
    refine W_ret ?_; try (repeat (first | refine thenI ?_ | refine thenE ?_ | refine thenR ?_ | refine inBI ?_ | refine inBR ?_ | refine inBS ?_ | refine inBN (by decide) ?_))
    refine fin1 (.inl rfl) (by (simp (disch := omega) only [go_sem, ↓reduceIte, Nat.reduceEqDiff, Nat.reduceAdd, Nat.reduceLeDiff]); try rfl) rfl ⟨by congr 1; omega, rfl⟩
theorem implDepth_ok : ∀ (t : T) (st : St) (cs : List Value), Lim 1073741824 t → t.depth ≤ 4611686018427387904 → Enc st t cs →
    CallS Tryd.prog 24 [.agg cs.toArray] st fun r st' => r = .int .i64 (t.depth : Nat) ∧ st' = st := by
  refine T.ind fun k n nm xs ih st cs hl hc hE => ?_
  obtain ⟨s, rfl, hr⟩ := hE.open
  have hxl := hl.args.1
  have hcm : (T.mk k n nm xs).depth = 1 + T.depthL xs := by simp only [T.depth]
  refine CallS_of_W [] 20 Tryd.func24 rfl rfl rfl rfl (by simp) ?_
  have q1 := hr.notLoc.1
  have q2 := hr.notLoc.2
  have q3 := Row.cells1 hr
  have hlen : lenE Tryd.prog 29 s = some (.int .i64 xs.length) := row_len hr Tryd.underlying29
  repeat (first | (refine W_reg rfl fun G K hG hK => ?_; simp (disch := omega) only [go_sem, ↓reduceIte, Nat.reduceEqDiff, Nat.reduceAdd, Nat.reduceLeDiff, hG, q1, q2, q3, hlen]; refine hK _ _ ?_; clear hK K hG G) | (refine W_end rfl fun G K hG hK => ?_; simp (disch := omega) only [go_sem, ↓reduceIte, Nat.reduceEqDiff, Nat.reduceAdd, Nat.reduceLeDiff, hG, q1, q2, q3, hlen]; refine hK _ _ ?_; clear hK K hG G; repeat (first | refine thenI ?_ | refine thenE ?_ | refine thenR ?_ | refine inBI ?_ | refine inBR ?_ | refine inBS ?_ | refine inBN (by decide) ?_)) | refine W_seqS ?_ | refine W_seqC ?_ | refine W_seqB ?_ | refine W_block ?_ | (refine W_skip ?_; repeat (first | refine thenI ?_ | refine thenE ?_ | refine thenR ?_ | refine inBI ?_ | refine inBR ?_ | refine inBS ?_ | refine inBN (by decide) ?_)) | (refine W_condT ?hc ?_; (case hc => (simp (disch := omega) only [go_sem, ↓reduceIte, Nat.reduceEqDiff, Nat.reduceAdd, Nat.reduceLeDiff, q1, q2, q3, hlen]; done))) | (refine W_condF ?hc ?_; (case hc => (simp (disch := omega) only [go_sem, ↓reduceIte, Nat.reduceEqDiff, Nat.reduceAdd, Nat.reduceLeDiff, q1, q2, q3, hlen]; done))))
  refine W_loop (fun d fr st' => ∃ (j : Nat) , d = xs.length - j ∧ j ≤ xs.length ∧ (st' = st) ∧ (fr.env 3 = .int .i64 ((T.depthL (xs.take j) : Nat) : Int)) ∧ (fr.env 7 = s) ∧ (fr.env 8 = .int .i64 xs.length) ∧ (fr.env 9 = .int .i64 j)) (xs.length) ?_ ?_
  · exact ⟨0, by omega, by omega, rfl, (by (simp (disch := omega) only [go_sem, ↓reduceIte, Nat.reduceEqDiff, Nat.reduceAdd, Nat.reduceLeDiff, q1, q2, q3, hlen]); try rfl), (by (simp (disch := omega) only [go_sem, ↓reduceIte, Nat.reduceEqDiff, Nat.reduceAdd, Nat.reduceLeDiff, q1, q2, q3, hlen]); try rfl), (by (simp (disch := omega) only [go_sem, ↓reduceIte, Nat.reduceEqDiff, Nat.reduceAdd, Nat.reduceLeDiff, q1, q2, q3, hlen]); try rfl), (by (simp (disch := omega) only [go_sem, ↓reduceIte, Nat.reduceEqDiff, Nat.reduceAdd, Nat.reduceLeDiff, q1, q2, q3, hlen]); try rfl)⟩
  rintro d ⟨env, loc⟩ st' ⟨j, hd, hj, hst, e3, e7, e8, e9⟩
  simp only at e3 e7 e8 e9
  subst hst
  have hle := depth_le (xs := xs) j
  by_cases hlt : j < xs.length
  · have c1 : decide ((j : Int) < (xs.length : Int)) = true := by simpa using hlt
    have hi := idxOk hlt
    have hx : xs[j]? = some xs[j] := List.getElem?_eq_getElem hlt
    have htk : xs.take (j + 1) = xs.take j ++ [xs[j]] := List.take_succ_eq_append_getElem hlt
    obtain ⟨i, o, c, es, rfl, hcl, hE1, hcs⟩ := row_at hr hx
    have hld := fun loc => load_row (A := []) (loc := loc) ag31 sz31 hcl hcs
    obtain ⟨k1, n1, m1, s1, rfl, a1, a2, a3⟩ := hE1.args_cells
    have htake := depth_take hlt
    have hdm := depthL_mem' (List.getElem_mem hlt)
    repeat (first | (refine W_reg rfl fun G K hG hK => ?_; simp (disch := omega) only [go_sem, ↓reduceIte, Nat.reduceEqDiff, Nat.reduceAdd, Nat.reduceLeDiff, hG, q1, q2, q3, hlen, e3, e7, e8, e9, c1, hi, idxA, Int.toNat_natCast, hld, a1, a2, a3]; refine hK _ _ ?_; clear hK K hG G) | (refine W_end rfl fun G K hG hK => ?_; simp (disch := omega) only [go_sem, ↓reduceIte, Nat.reduceEqDiff, Nat.reduceAdd, Nat.reduceLeDiff, hG, q1, q2, q3, hlen, e3, e7, e8, e9, c1, hi, idxA, Int.toNat_natCast, hld, a1, a2, a3]; refine hK _ _ ?_; clear hK K hG G; repeat (first | refine thenI ?_ | refine thenE ?_ | refine thenR ?_ | refine inBI ?_ | refine inBR ?_ | refine inBS ?_ | refine inBN (by decide) ?_)) | refine W_seqS ?_ | refine W_seqC ?_ | refine W_seqB ?_ | refine W_block ?_ | (refine W_skip ?_; repeat (first | refine thenI ?_ | refine thenE ?_ | refine thenR ?_ | refine inBI ?_ | refine inBR ?_ | refine inBS ?_ | refine inBN (by decide) ?_)) | (refine W_condT ?hc ?_; (case hc => (simp (disch := omega) only [go_sem, ↓reduceIte, Nat.reduceEqDiff, Nat.reduceAdd, Nat.reduceLeDiff, q1, q2, q3, hlen, e3, e7, e8, e9, c1, hi, idxA, Int.toNat_natCast, hld, a1, a2, a3]; done))) | (refine W_condF ?hc ?_; (case hc => (simp (disch := omega) only [go_sem, ↓reduceIte, Nat.reduceEqDiff, Nat.reduceAdd, Nat.reduceLeDiff, q1, q2, q3, hlen, e3, e7, e8, e9, c1, hi, idxA, Int.toNat_natCast, hld, a1, a2, a3]; done))))
    refine W_end rfl fun G K hG hK => ?_; simp (disch := omega) only [go_sem, ↓reduceIte, Nat.reduceEqDiff, Nat.reduceAdd, Nat.reduceLeDiff, hG, q1, q2, q3, hlen, e3, e7, e8, e9, c1, hi, idxA, Int.toNat_natCast, a1, a2, a3]
    refine w_call (ih xs[j] (List.getElem_mem hlt) st' _ (hl.args.2 _ (List.getElem_mem hlt)) (by omega) hE1) (by simp (disch := omega) only [go_sem, ↓reduceIte, Nat.reduceEqDiff, q1, q2, q3, hlen, e3, e7, e8, e9, c1, hi, idxA, Int.toNat_natCast, a1, a2, a3]) ?hl ?_
    case hl => first | rfl | (simp only [go_sem, List.all_cons, List.all_nil, Bool.not_false, Bool.and_self, q1, q2, q3, hlen, e3, e7, e8, e9, c1, hi, idxA, Int.toNat_natCast, a1, a2, a3]; done)
    rintro r_ st' ⟨rfl, rfl⟩; refine ⟨fun e => (by cases e), ?_⟩
    have hadd : (if ((xs[j].depth : Nat) : Int) > ((T.depthL (xs.take j) : Nat) : Int) then ((xs[j].depth : Nat) : Int) else ((T.depthL (xs.take j) : Nat) : Int)) = ((T.depthL (xs.take (j + 1)) : Nat) : Int) := by rw [htake]; split <;> omega
    simp (disch := omega) only [go_sem, ↓reduceIte, Nat.reduceEqDiff, Nat.reduceAdd, Nat.reduceLeDiff, hG, q1, q2, q3, hlen, e3, e7, e8, e9, c1, hi, idxA, Int.toNat_natCast, hadd]; refine hK _ _ ?_; clear hK K hG G; repeat (first | refine thenI ?_ | refine thenE ?_ | refine thenR ?_ | refine inBI ?_ | refine inBR ?_ | refine inBS ?_ | refine inBN (by decide) ?_)
    repeat (first | (refine W_reg rfl fun G K hG hK => ?_; simp (disch := omega) only [go_sem, ↓reduceIte, Nat.reduceEqDiff, Nat.reduceAdd, Nat.reduceLeDiff, hG, q1, q2, q3, hlen, e3, e7, e8, e9, c1, hi, idxA, Int.toNat_natCast]; refine hK _ _ ?_; clear hK K hG G) | (refine W_end rfl fun G K hG hK => ?_; simp (disch := omega) only [go_sem, ↓reduceIte, Nat.reduceEqDiff, Nat.reduceAdd, Nat.reduceLeDiff, hG, q1, q2, q3, hlen, e3, e7, e8, e9, c1, hi, idxA, Int.toNat_natCast]; refine hK _ _ ?_; clear hK K hG G; repeat (first | refine thenI ?_ | refine thenE ?_ | refine thenR ?_ | refine inBI ?_ | refine inBR ?_ | refine inBS ?_ | refine inBN (by decide) ?_)) | refine W_seqS ?_ | refine W_seqC ?_ | refine W_seqB ?_ | refine W_block ?_ | (refine W_skip ?_; repeat (first | refine thenI ?_ | refine thenE ?_ | refine thenR ?_ | refine inBI ?_ | refine inBR ?_ | refine inBS ?_ | refine inBN (by decide) ?_)) | (refine W_condT ?hc ?_; (case hc => (simp (disch := omega) only [go_sem, ↓reduceIte, Nat.reduceEqDiff, Nat.reduceAdd, Nat.reduceLeDiff, q1, q2, q3, hlen, e3, e7, e8, e9, c1, hi, idxA, Int.toNat_natCast]; done))) | (refine W_condF ?hc ?_; (case hc => (simp (disch := omega) only [go_sem, ↓reduceIte, Nat.reduceEqDiff, Nat.reduceAdd, Nat.reduceLeDiff, q1, q2, q3, hlen, e3, e7, e8, e9, c1, hi, idxA, Int.toNat_natCast]; done))))
    refine ⟨xs.length - (j + 1), by omega, j + 1, rfl, by omega, rfl, (by (simp (disch := omega) only [go_sem, ↓reduceIte, Nat.reduceEqDiff, Nat.reduceAdd, Nat.reduceLeDiff, q1, q2, q3, hlen, e3, e7, e8, e9, c1, hi, idxA, Int.toNat_natCast]); try rfl), (by (simp (disch := omega) only [go_sem, ↓reduceIte, Nat.reduceEqDiff, Nat.reduceAdd, Nat.reduceLeDiff, q1, q2, q3, hlen, e3, e7, e8, e9, c1, hi, idxA, Int.toNat_natCast]); try rfl), (by (simp (disch := omega) only [go_sem, ↓reduceIte, Nat.reduceEqDiff, Nat.reduceAdd, Nat.reduceLeDiff, q1, q2, q3, hlen, e3, e7, e8, e9, c1, hi, idxA, Int.toNat_natCast]); try rfl), (by (simp (disch := omega) only [go_sem, ↓reduceIte, Nat.reduceEqDiff, Nat.reduceAdd, Nat.reduceLeDiff, q1, q2, q3, hlen, e3, e7, e8, e9, c1, hi, idxA, Int.toNat_natCast]); try rfl)⟩
  · have c1 : decide ((j : Int) < (xs.length : Int)) = false := by simpa using hlt
    have hjn : j = xs.length := by omega
    subst hjn
    repeat (first | (refine W_reg rfl fun G K hG hK => ?_; simp (disch := omega) only [go_sem, ↓reduceIte, Nat.reduceEqDiff, Nat.reduceAdd, Nat.reduceLeDiff, hG, q1, q2, q3, hlen, e3, e7, e8, e9, c1]; refine hK _ _ ?_; clear hK K hG G) | (refine W_end rfl fun G K hG hK => ?_; simp (disch := omega) only [go_sem, ↓reduceIte, Nat.reduceEqDiff, Nat.reduceAdd, Nat.reduceLeDiff, hG, q1, q2, q3, hlen, e3, e7, e8, e9, c1]; refine hK _ _ ?_; clear hK K hG G; repeat (first | refine thenI ?_ | refine thenE ?_ | refine thenR ?_ | refine inBI ?_ | refine inBR ?_ | refine inBS ?_ | refine inBN (by decide) ?_)) | refine W_seqS ?_ | refine W_seqC ?_ | refine W_seqB ?_ | refine W_block ?_ | (refine W_skip ?_; repeat (first | refine thenI ?_ | refine thenE ?_ | refine thenR ?_ | refine inBI ?_ | refine inBR ?_ | refine inBS ?_ | refine inBN (by decide) ?_)) | (refine W_condT ?hc ?_; (case hc => (simp (disch := omega) only [go_sem, ↓reduceIte, Nat.reduceEqDiff, Nat.reduceAdd, Nat.reduceLeDiff, q1, q2, q3, hlen, e3, e7, e8, e9, c1]; done))) | (refine W_condF ?hc ?_; (case hc => (simp (disch := omega) only [go_sem, ↓reduceIte, Nat.reduceEqDiff, Nat.reduceAdd, Nat.reduceLeDiff, q1, q2, q3, hlen, e3, e7, e8, e9, c1]; done))))
    refine W_exit ?_; repeat (first | refine thenI ?_ | refine thenE ?_ | refine thenR ?_ | refine inBI ?_ | refine inBR ?_ | refine inBS ?_ | refine inBN (by decide) ?_)
    have hadd : ((T.depthL (xs.take xs.length) : Nat) : Int) + 1 = ((1 + T.depthL xs : Nat) : Int) := by rw [List.take_length]; omega
    repeat (first | (refine W_reg rfl fun G K hG hK => ?_; simp (disch := omega) only [go_sem, ↓reduceIte, Nat.reduceEqDiff, Nat.reduceAdd, Nat.reduceLeDiff, hG, q1, q2, q3, hlen, e3, e7, e8, e9, c1, hadd]; refine hK _ _ ?_; clear hK K hG G) | (refine W_end rfl fun G K hG hK => ?_; simp (disch := omega) only [go_sem, ↓reduceIte, Nat.reduceEqDiff, Nat.reduceAdd, Nat.reduceLeDiff, hG, q1, q2, q3, hlen, e3, e7, e8, e9, c1, hadd]; refine hK _ _ ?_; clear hK K hG G; repeat (first | refine thenI ?_ | refine thenE ?_ | refine thenR ?_ | refine inBI ?_ | refine inBR ?_ | refine inBS ?_ | refine inBN (by decide) ?_)) | refine W_seqS ?_ | refine W_seqC ?_ | refine W_seqB ?_ | refine W_block ?_ | (refine W_skip ?_; repeat (first | refine thenI ?_ | refine thenE ?_ | refine thenR ?_ | refine inBI ?_ | refine inBR ?_ | refine inBS ?_ | refine inBN (by decide) ?_)) | (refine W_condT ?hc ?_; (case hc => (simp (disch := omega) only [go_sem, ↓reduceIte, Nat.reduceEqDiff, Nat.reduceAdd, Nat.reduceLeDiff, q1, q2, q3, hlen, e3, e7, e8, e9, c1, hadd]; done))) | (refine W_condF ?hc ?_; (case hc => (simp (disch := omega) only [go_sem, ↓reduceIte, Nat.reduceEqDiff, Nat.reduceAdd, Nat.reduceLeDiff, q1, q2, q3, hlen, e3, e7, e8, e9, c1, hadd]; done))))
    refine W_ret ?_; try (repeat (first | refine thenI ?_ | refine thenE ?_ | refine thenR ?_ | refine inBI ?_ | refine inBR ?_ | refine inBS ?_ | refine inBN (by decide) ?_))
    refine fin1 (.inl rfl) (by (simp (disch := omega) only [go_sem, ↓reduceIte, Nat.reduceEqDiff, Nat.reduceAdd, Nat.reduceLeDiff, q1, q2, q3, hlen, e3, e7, e8, e9, c1]); try rfl) rfl ⟨by rw [hcm], rfl⟩
theorem specDepth_ok : ∀ (t : T) (st : St) (cs : List Value), Lim 1073741824 t → t.depth ≤ 4611686018427387904 → Enc st t cs →
    CallS Tryd.prog 29 [.agg cs.toArray] st fun r st' => r = .int .i64 (t.depth : Nat) ∧ st' = st := by
  refine T.ind fun k n nm xs ih st cs hl hc hE => ?_
  obtain ⟨s, rfl, hr⟩ := hE.open
  have hxl := hl.args.1
  have hcm : (T.mk k n nm xs).depth = 1 + T.depthL xs := by simp only [T.depth]
  refine CallS_of_W [] 22 Tryd.func29 rfl rfl rfl rfl (by simp) ?_
  have q1 := hr.notLoc.1
  have q2 := hr.notLoc.2
  have q3 := Row.cells1 hr
  have hlen : lenE Tryd.prog 29 s = some (.int .i64 xs.length) := row_len hr Tryd.underlying29
  repeat (first | (refine W_reg rfl fun G K hG hK => ?_; simp (disch := omega) only [go_sem, ↓reduceIte, Nat.reduceEqDiff, Nat.reduceAdd, Nat.reduceLeDiff, hG, q1, q2, q3, hlen]; refine hK _ _ ?_; clear hK K hG G) | (refine W_end rfl fun G K hG hK => ?_; simp (disch := omega) only [go_sem, ↓reduceIte, Nat.reduceEqDiff, Nat.reduceAdd, Nat.reduceLeDiff, hG, q1, q2, q3, hlen]; refine hK _ _ ?_; clear hK K hG G; repeat (first | refine thenI ?_ | refine thenE ?_ | refine thenR ?_ | refine inBI ?_ | refine inBR ?_ | refine inBS ?_ | refine inBN (by decide) ?_)) | refine W_seqS ?_ | refine W_seqC ?_ | refine W_seqB ?_ | refine W_block ?_ | (refine W_skip ?_; repeat (first | refine thenI ?_ | refine thenE ?_ | refine thenR ?_ | refine inBI ?_ | refine inBR ?_ | refine inBS ?_ | refine inBN (by decide) ?_)) | (refine W_condT ?hc ?_; (case hc => (simp (disch := omega) only [go_sem, ↓reduceIte, Nat.reduceEqDiff, Nat.reduceAdd, Nat.reduceLeDiff, q1, q2, q3, hlen]; done))) | (refine W_condF ?hc ?_; (case hc => (simp (disch := omega) only [go_sem, ↓reduceIte, Nat.reduceEqDiff, Nat.reduceAdd, Nat.reduceLeDiff, q1, q2, q3, hlen]; done))))
  refine W_loop (fun d fr st' => ∃ (j : Nat) , d = xs.length - j ∧ j ≤ xs.length ∧ (st' = st) ∧ (fr.env 1 = .pointer (some ⟨1, 0, some 1⟩)) ∧ (fr.env 3 = .int .i64 ((T.depthL (xs.take j) : Nat) : Int)) ∧ (fr.env 4 = .int .i64 j) ∧ (fr.loc 1 = (1, [.int .i64 k, .int .i64 n, .string nm, s]))) (xs.length) ?_ ?_
  · exact ⟨0, by omega, by omega, rfl, (by (simp (disch := omega) only [go_sem, ↓reduceIte, Nat.reduceEqDiff, Nat.reduceAdd, Nat.reduceLeDiff, q1, q2, q3, hlen]); try rfl), (by (simp (disch := omega) only [go_sem, ↓reduceIte, Nat.reduceEqDiff, Nat.reduceAdd, Nat.reduceLeDiff, q1, q2, q3, hlen]); try rfl), (by (simp (disch := omega) only [go_sem, ↓reduceIte, Nat.reduceEqDiff, Nat.reduceAdd, Nat.reduceLeDiff, q1, q2, q3, hlen]); try rfl), (by (simp (disch := omega) only [go_sem, ↓reduceIte, Nat.reduceEqDiff, Nat.reduceAdd, Nat.reduceLeDiff, q1, q2, q3, hlen]); try rfl)⟩
  rintro d ⟨env, loc⟩ st' ⟨j, hd, hj, hst, e1, e3, e4, l1⟩
  simp only at e1 e3 e4 l1
  subst hst
  have hle := depth_le (xs := xs) j
  by_cases hlt : j < xs.length
  · have c1 : decide ((j : Int) < (xs.length : Int)) = true := by simpa using hlt
    have hi := idxOk hlt
    have hx : xs[j]? = some xs[j] := List.getElem?_eq_getElem hlt
    have htk : xs.take (j + 1) = xs.take j ++ [xs[j]] := List.take_succ_eq_append_getElem hlt
    obtain ⟨i, o, c, es, rfl, hcl, hE1, hcs⟩ := row_at hr hx
    have hld := fun loc => load_row (A := []) (loc := loc) ag31 sz31 hcl hcs
    have htake := depth_take hlt
    have hdm := depthL_mem' (List.getElem_mem hlt)
    repeat (first | (refine W_reg rfl fun G K hG hK => ?_; simp (disch := omega) only [go_sem, ↓reduceIte, Nat.reduceEqDiff, Nat.reduceAdd, Nat.reduceLeDiff, hG, q1, q2, q3, hlen, e1, e3, e4, l1, c1, hi, idxA, Int.toNat_natCast]; refine hK _ _ ?_; clear hK K hG G) | (refine W_end rfl fun G K hG hK => ?_; simp (disch := omega) only [go_sem, ↓reduceIte, Nat.reduceEqDiff, Nat.reduceAdd, Nat.reduceLeDiff, hG, q1, q2, q3, hlen, e1, e3, e4, l1, c1, hi, idxA, Int.toNat_natCast]; refine hK _ _ ?_; clear hK K hG G; repeat (first | refine thenI ?_ | refine thenE ?_ | refine thenR ?_ | refine inBI ?_ | refine inBR ?_ | refine inBS ?_ | refine inBN (by decide) ?_)) | refine W_seqS ?_ | refine W_seqC ?_ | refine W_seqB ?_ | refine W_block ?_ | (refine W_skip ?_; repeat (first | refine thenI ?_ | refine thenE ?_ | refine thenR ?_ | refine inBI ?_ | refine inBR ?_ | refine inBS ?_ | refine inBN (by decide) ?_)) | (refine W_condT ?hc ?_; (case hc => (simp (disch := omega) only [go_sem, ↓reduceIte, Nat.reduceEqDiff, Nat.reduceAdd, Nat.reduceLeDiff, q1, q2, q3, hlen, e1, e3, e4, l1, c1, hi, idxA, Int.toNat_natCast]; done))) | (refine W_condF ?hc ?_; (case hc => (simp (disch := omega) only [go_sem, ↓reduceIte, Nat.reduceEqDiff, Nat.reduceAdd, Nat.reduceLeDiff, q1, q2, q3, hlen, e1, e3, e4, l1, c1, hi, idxA, Int.toNat_natCast]; done))))
    refine W_end rfl fun G K hG hK => ?_; simp (disch := omega) only [go_sem, ↓reduceIte, Nat.reduceEqDiff, Nat.reduceAdd, Nat.reduceLeDiff, hG, q1, q2, q3, hlen, e1, e3, e4, l1, c1, hi, idxA, Int.toNat_natCast, hld]
    refine w_call (ih xs[j] (List.getElem_mem hlt) st' es (hl.args.2 _ (List.getElem_mem hlt)) (by omega) hE1) (by simp (disch := omega) only [go_sem, ↓reduceIte, Nat.reduceEqDiff, q1, q2, q3, hlen, e1, e3, e4, l1, c1, hi, idxA, Int.toNat_natCast]) ?hl ?_
    case hl => first | rfl | (simp only [go_sem, List.all_cons, List.all_nil, Bool.not_false, Bool.and_self, q1, q2, q3, hlen, e1, e3, e4, l1, c1, hi, idxA, Int.toNat_natCast]; done)
    rintro r_ st' ⟨rfl, rfl⟩; refine ⟨fun e => (by cases e), ?_⟩
    simp (disch := omega) only [go_sem, ↓reduceIte, Nat.reduceEqDiff, Nat.reduceAdd, Nat.reduceLeDiff, q1, q2, q3, hlen, e1, e3, e4, l1, c1, hi, idxA, Int.toNat_natCast]
    refine w_call (l1Max_ok ((T.depthL (xs.take j) : Nat) : Int) ((xs[j].depth : Nat) : Int) st') (by simp (disch := omega) only [go_sem, ↓reduceIte, Nat.reduceEqDiff, q1, q2, q3, hlen, e1, e3, e4, l1, c1, hi, idxA, Int.toNat_natCast]) ?hl ?_
    case hl => first | rfl | (simp only [go_sem, List.all_cons, List.all_nil, Bool.not_false, Bool.and_self, q1, q2, q3, hlen, e1, e3, e4, l1, c1, hi, idxA, Int.toNat_natCast]; done)
    rintro r_ st' ⟨rfl, rfl⟩; refine ⟨fun e => (by cases e), ?_⟩
    have hadd : max ((T.depthL (xs.take j) : Nat) : Int) ((xs[j].depth : Nat) : Int) = ((T.depthL (xs.take (j + 1)) : Nat) : Int) := by rw [htake]; omega
    simp (disch := omega) only [go_sem, ↓reduceIte, Nat.reduceEqDiff, Nat.reduceAdd, Nat.reduceLeDiff, hG, q1, q2, q3, hlen, e1, e3, e4, l1, c1, hi, idxA, Int.toNat_natCast, hadd]; refine hK _ _ ?_; clear hK K hG G; repeat (first | refine thenI ?_ | refine thenE ?_ | refine thenR ?_ | refine inBI ?_ | refine inBR ?_ | refine inBS ?_ | refine inBN (by decide) ?_)
    repeat (first | (refine W_reg rfl fun G K hG hK => ?_; simp (disch := omega) only [go_sem, ↓reduceIte, Nat.reduceEqDiff, Nat.reduceAdd, Nat.reduceLeDiff, hG, q1, q2, q3, hlen, e1, e3, e4, l1, c1, hi, idxA, Int.toNat_natCast]; refine hK _ _ ?_; clear hK K hG G) | (refine W_end rfl fun G K hG hK => ?_; simp (disch := omega) only [go_sem, ↓reduceIte, Nat.reduceEqDiff, Nat.reduceAdd, Nat.reduceLeDiff, hG, q1, q2, q3, hlen, e1, e3, e4, l1, c1, hi, idxA, Int.toNat_natCast]; refine hK _ _ ?_; clear hK K hG G; repeat (first | refine thenI ?_ | refine thenE ?_ | refine thenR ?_ | refine inBI ?_ | refine inBR ?_ | refine inBS ?_ | refine inBN (by decide) ?_)) | refine W_seqS ?_ | refine W_seqC ?_ | refine W_seqB ?_ | refine W_block ?_ | (refine W_skip ?_; repeat (first | refine thenI ?_ | refine thenE ?_ | refine thenR ?_ | refine inBI ?_ | refine inBR ?_ | refine inBS ?_ | refine inBN (by decide) ?_)) | (refine W_condT ?hc ?_; (case hc => (simp (disch := omega) only [go_sem, ↓reduceIte, Nat.reduceEqDiff, Nat.reduceAdd, Nat.reduceLeDiff, q1, q2, q3, hlen, e1, e3, e4, l1, c1, hi, idxA, Int.toNat_natCast]; done))) | (refine W_condF ?hc ?_; (case hc => (simp (disch := omega) only [go_sem, ↓reduceIte, Nat.reduceEqDiff, Nat.reduceAdd, Nat.reduceLeDiff, q1, q2, q3, hlen, e1, e3, e4, l1, c1, hi, idxA, Int.toNat_natCast]; done))))
    refine ⟨xs.length - (j + 1), by omega, j + 1, rfl, by omega, rfl, (by (simp (disch := omega) only [go_sem, ↓reduceIte, Nat.reduceEqDiff, Nat.reduceAdd, Nat.reduceLeDiff, q1, q2, q3, hlen, e1, e3, e4, l1, c1, hi, idxA, Int.toNat_natCast]); try rfl), (by (simp (disch := omega) only [go_sem, ↓reduceIte, Nat.reduceEqDiff, Nat.reduceAdd, Nat.reduceLeDiff, q1, q2, q3, hlen, e1, e3, e4, l1, c1, hi, idxA, Int.toNat_natCast]); try rfl), (by (simp (disch := omega) only [go_sem, ↓reduceIte, Nat.reduceEqDiff, Nat.reduceAdd, Nat.reduceLeDiff, q1, q2, q3, hlen, e1, e3, e4, l1, c1, hi, idxA, Int.toNat_natCast]); try rfl), (by (simp (disch := omega) only [go_sem, ↓reduceIte, Nat.reduceEqDiff, Nat.reduceAdd, Nat.reduceLeDiff, q1, q2, q3, hlen, e1, e3, e4, l1, c1, hi, idxA, Int.toNat_natCast]); try rfl)⟩
  · have c1 : decide ((j : Int) < (xs.length : Int)) = false := by simpa using hlt
    have hjn : j = xs.length := by omega
    subst hjn
    repeat (first | (refine W_reg rfl fun G K hG hK => ?_; simp (disch := omega) only [go_sem, ↓reduceIte, Nat.reduceEqDiff, Nat.reduceAdd, Nat.reduceLeDiff, hG, q1, q2, q3, hlen, e1, e3, e4, l1, c1]; refine hK _ _ ?_; clear hK K hG G) | (refine W_end rfl fun G K hG hK => ?_; simp (disch := omega) only [go_sem, ↓reduceIte, Nat.reduceEqDiff, Nat.reduceAdd, Nat.reduceLeDiff, hG, q1, q2, q3, hlen, e1, e3, e4, l1, c1]; refine hK _ _ ?_; clear hK K hG G; repeat (first | refine thenI ?_ | refine thenE ?_ | refine thenR ?_ | refine inBI ?_ | refine inBR ?_ | refine inBS ?_ | refine inBN (by decide) ?_)) | refine W_seqS ?_ | refine W_seqC ?_ | refine W_seqB ?_ | refine W_block ?_ | (refine W_skip ?_; repeat (first | refine thenI ?_ | refine thenE ?_ | refine thenR ?_ | refine inBI ?_ | refine inBR ?_ | refine inBS ?_ | refine inBN (by decide) ?_)) | (refine W_condT ?hc ?_; (case hc => (simp (disch := omega) only [go_sem, ↓reduceIte, Nat.reduceEqDiff, Nat.reduceAdd, Nat.reduceLeDiff, q1, q2, q3, hlen, e1, e3, e4, l1, c1]; done))) | (refine W_condF ?hc ?_; (case hc => (simp (disch := omega) only [go_sem, ↓reduceIte, Nat.reduceEqDiff, Nat.reduceAdd, Nat.reduceLeDiff, q1, q2, q3, hlen, e1, e3, e4, l1, c1]; done))))
    refine W_exit ?_; repeat (first | refine thenI ?_ | refine thenE ?_ | refine thenR ?_ | refine inBI ?_ | refine inBR ?_ | refine inBS ?_ | refine inBN (by decide) ?_)
    have hadd : ((T.depthL (xs.take xs.length) : Nat) : Int) + 1 = ((1 + T.depthL xs : Nat) : Int) := by rw [List.take_length]; omega
    repeat (first | (refine W_reg rfl fun G K hG hK => ?_; simp (disch := omega) only [go_sem, ↓reduceIte, Nat.reduceEqDiff, Nat.reduceAdd, Nat.reduceLeDiff, hG, q1, q2, q3, hlen, e1, e3, e4, l1, c1, hadd]; refine hK _ _ ?_; clear hK K hG G) | (refine W_end rfl fun G K hG hK => ?_; simp (disch := omega) only [go_sem, ↓reduceIte, Nat.reduceEqDiff, Nat.reduceAdd, Nat.reduceLeDiff, hG, q1, q2, q3, hlen, e1, e3, e4, l1, c1, hadd]; refine hK _ _ ?_; clear hK K hG G; repeat (first | refine thenI ?_ | refine thenE ?_ | refine thenR ?_ | refine inBI ?_ | refine inBR ?_ | refine inBS ?_ | refine inBN (by decide) ?_)) | refine W_seqS ?_ | refine W_seqC ?_ | refine W_seqB ?_ | refine W_block ?_ | (refine W_skip ?_; repeat (first | refine thenI ?_ | refine thenE ?_ | refine thenR ?_ | refine inBI ?_ | refine inBR ?_ | refine inBS ?_ | refine inBN (by decide) ?_)) | (refine W_condT ?hc ?_; (case hc => (simp (disch := omega) only [go_sem, ↓reduceIte, Nat.reduceEqDiff, Nat.reduceAdd, Nat.reduceLeDiff, q1, q2, q3, hlen, e1, e3, e4, l1, c1, hadd]; done))) | (refine W_condF ?hc ?_; (case hc => (simp (disch := omega) only [go_sem, ↓reduceIte, Nat.reduceEqDiff, Nat.reduceAdd, Nat.reduceLeDiff, q1, q2, q3, hlen, e1, e3, e4, l1, c1, hadd]; done))))
    refine W_ret ?_; try (repeat (first | refine thenI ?_ | refine thenE ?_ | refine thenR ?_ | refine inBI ?_ | refine inBR ?_ | refine inBS ?_ | refine inBN (by decide) ?_))
    refine fin1 (.inl rfl) (by (simp (disch := omega) only [go_sem, ↓reduceIte, Nat.reduceEqDiff, Nat.reduceAdd, Nat.reduceLeDiff, q1, q2, q3, hlen, e1, e3, e4, l1, c1]); try rfl) rfl ⟨by rw [hcm], rfl⟩
end Go.Proofs.YtngkedafggfehaaDoor.AM


/- Valid terms: impl.areNodes, IsValidTerm; spec.l3Left, l3Node, l3All, IsValidTerm. -/
namespace Go.Proofs.YtngkedafggfehaaDoor.AM
open Go Go.Proofs
set_option linter.unusedVariables false
set_option linter.unusedSimpArgs false
set_option maxRecDepth 100000
attribute [local go_sem] List.map_cons List.map_nil List.all_cons List.all_nil Bool.and_self Option.map_some List.getElem?_toArray Option.bind_some gye_b gye_t gsk_b gsk_t gb1 gb2 gb3 gb4 bne_self_eq_false beq_self_eq_true w_guard w_nil stepV_some step_some step_some' w_move w_assign w_pick w_binOp w_unOp w_load w_fieldAddr w_indexAddr w_len w_max w_index ev_max max_int ev_index w_box w_alloc w_store w_field w_extract w_nilCheck w_convert w_buildSlice w_build ev_buildL fillL_nil fillL_cons bs0 bs1 ev_conv ev_bin ev_un ev_pick ev_load ev_fieldAddr ev_indexAddr ev_len ev_field ev_extract ev_nilCheck fr_tmp fr_int fr_bool fr_str fr_nil fr_func put_some put_none bin_lss bin_leq bin_gtr bin_geq bin_eql bin_neq bin_add bin_sub bin_mul bin_seql bin_sneq un_not pick_ ext_ loadA_p cellAt_l cellAt_h okPtr_l okPtr_h fadA_p allocA_l storeA_l cells_agg cells_int cells_str cells_sl cells_bool flat_i flat_s flat_b flat_sl flat_nil loc_agg loc_int loc_str loc_sl loc_bool loc_fn loc_ptr okv_agg okv_int okv_str okv_sl okv_bool cellsFrom splice upd_eval argEnv_zero argEnv_succ ne_eq Nat.add_one_ne_zero not_false_eq_true List.not_mem_nil and_self decide_true List.getElem?_cons_zero List.getElem?_cons_succ List.size_toArray List.length_cons List.length_nil List.take_succ_cons List.take_zero List.drop_succ_cons List.drop_zero List.cons_append List.nil_append List.drop_nil Bool.not_true Bool.not_false Bool.false_eq_true Nat.zero_add Nat.add_zero wrap_in List.toList_toArray List.mem_cons or_self or_false false_or
attribute [local go_sem] ag22 ag24 ag26 ag29 ag3 ag31 ag33 ag5 ag54 ag56 ag69 ag9 by31 by5 by9 el22 el29 el46 el54 of24_0 of24_1 of24_2 of24_3 of26_0 of26_1 of26_2 of31_0 of31_1 of31_2 of31_3 of33_0 of33_1 of33_2 of58_0 of58_1 ro5_1 ro9_1 ro9_3 ro9_4 sz22 sz24 sz26 sz29 sz3 sz31 sz33 sz5 sz54 sz56 sz69 sz9 ze31 ze33 ze5 ze58 ze68 ze81 ze9
-- AUTO

def leftV (left : Int) (c : Nat) : Int := if (c : Int) ≤ left then left - c else -1
theorem l3Left_ok : ∀ (t : T) (left : Int) (st : St) (cs : List Value), 0 ≤ left → left ≤ 4611686018427387904 → Lim 1073741824 t → Enc st t cs →
    CallS Tryd.prog 28 [.agg cs.toArray, .int .i64 left] st fun r st' => r = .int .i64 (leftV left t.count) ∧ st' = st := by
  refine T.ind fun k n nm xs ih left st cs h0 hbig hl hE => ?_
  obtain ⟨s, rfl, hr⟩ := hE.open
  have hxl := hl.args.1
  have hcm : (T.mk k n nm xs).count = 1 + T.countL xs := by simp only [T.count]
  refine CallS_of_W [] 27 Tryd.func28 rfl rfl rfl rfl (by simp) ?_
  have q1 := hr.notLoc.1
  have q2 := hr.notLoc.2
  have q3 := Row.cells1 hr
  have hlen : lenE Tryd.prog 29 s = some (.int .i64 xs.length) := row_len hr Tryd.underlying29
  repeat (first | (refine W_reg rfl fun G K hG hK => ?_; simp (disch := omega) only [go_sem, ↓reduceIte, Nat.reduceEqDiff, Nat.reduceAdd, Nat.reduceLeDiff, hG, q1, q2, q3, hlen]; refine hK _ _ ?_; clear hK K hG G) | (refine W_end rfl fun G K hG hK => ?_; simp (disch := omega) only [go_sem, ↓reduceIte, Nat.reduceEqDiff, Nat.reduceAdd, Nat.reduceLeDiff, hG, q1, q2, q3, hlen]; refine hK _ _ ?_; clear hK K hG G; repeat (first | refine thenI ?_ | refine thenE ?_ | refine thenR ?_ | refine inBI ?_ | refine inBR ?_ | refine inBS ?_ | refine inBN (by decide) ?_)) | refine W_seqS ?_ | refine W_seqC ?_ | refine W_seqB ?_ | refine W_block ?_ | (refine W_skip ?_; repeat (first | refine thenI ?_ | refine thenE ?_ | refine thenR ?_ | refine inBI ?_ | refine inBR ?_ | refine inBS ?_ | refine inBN (by decide) ?_)) | (refine W_condT ?hc ?_; (case hc => (simp (disch := omega) only [go_sem, ↓reduceIte, Nat.reduceEqDiff, Nat.reduceAdd, Nat.reduceLeDiff, q1, q2, q3, hlen]; done))) | (refine W_condF ?hc ?_; (case hc => (simp (disch := omega) only [go_sem, ↓reduceIte, Nat.reduceEqDiff, Nat.reduceAdd, Nat.reduceLeDiff, q1, q2, q3, hlen]; done))))
  refine W_loop (fun d fr st' => ∃ (j : Nat) (v : Int), d = xs.length - j ∧ j ≤ xs.length ∧ (st' = st) ∧ (v = leftV left (1 + T.countL (xs.take j))) ∧ (fr.env 1 = .int .i64 v) ∧ (fr.env 2 = .pointer (some ⟨2, 0, some 1⟩)) ∧ (fr.env 5 = .int .i64 j) ∧ (fr.loc 2 = (1, [.int .i64 k, .int .i64 n, .string nm, s]))) (xs.length) ?_ ?_
  · exact ⟨0, left - 1, by omega, by omega, rfl, by simp only [List.take_zero, T.countL, leftV]; split <;> omega, (by (simp (disch := omega) only [go_sem, ↓reduceIte, Nat.reduceEqDiff, Nat.reduceAdd, Nat.reduceLeDiff, q1, q2, q3, hlen]); try rfl), (by (simp (disch := omega) only [go_sem, ↓reduceIte, Nat.reduceEqDiff, Nat.reduceAdd, Nat.reduceLeDiff, q1, q2, q3, hlen]); try rfl), (by (simp (disch := omega) only [go_sem, ↓reduceIte, Nat.reduceEqDiff, Nat.reduceAdd, Nat.reduceLeDiff, q1, q2, q3, hlen]); try rfl), (by (simp (disch := omega) only [go_sem, ↓reduceIte, Nat.reduceEqDiff, Nat.reduceAdd, Nat.reduceLeDiff, q1, q2, q3, hlen]); try rfl)⟩
  rintro d ⟨env, loc⟩ st' ⟨j, v, hd, hj, hst, hv, e1, e2, e5, l2⟩
  simp only at e1 e2 e5 l2
  subst hst
  have hle := count_le (xs := xs) j
  have hvb : -1 ≤ v ∧ v ≤ left := by rw [hv]; unfold leftV; split <;> omega
  by_cases hlt : j < xs.length
  · have c1 : decide ((j : Int) < (xs.length : Int)) = true := by simpa using hlt
    have hi := idxOk hlt
    have hx : xs[j]? = some xs[j] := List.getElem?_eq_getElem hlt
    have htk : xs.take (j + 1) = xs.take j ++ [xs[j]] := List.take_succ_eq_append_getElem hlt
    by_cases hv0 : v ≥ 0
    · have c2 : decide (v ≥ 0) = true := by simpa using hv0
      obtain ⟨i, o, c, es, rfl, hcl, hE1, hcs⟩ := row_at hr hx
      have hld := fun loc => load_row (A := []) (loc := loc) ag31 sz31 hcl hcs
      have htake := count_take hlt
      have hv1 : v = left - (1 + T.countL (xs.take j) : Nat) ∧ ((1 + T.countL (xs.take j) : Nat) : Int) ≤ left := by
        rw [hv] at hv0 ⊢
        unfold leftV at hv0 ⊢
        split
        · rename_i h; exact ⟨rfl, h⟩
        · rename_i h; rw [if_neg h] at hv0; omega
      repeat (first | (refine W_reg rfl fun G K hG hK => ?_; simp (disch := omega) only [go_sem, ↓reduceIte, Nat.reduceEqDiff, Nat.reduceAdd, Nat.reduceLeDiff, hG, q1, q2, q3, hlen, e1, e2, e5, l2, c1, hi, idxA, Int.toNat_natCast, c2]; refine hK _ _ ?_; clear hK K hG G) | (refine W_end rfl fun G K hG hK => ?_; simp (disch := omega) only [go_sem, ↓reduceIte, Nat.reduceEqDiff, Nat.reduceAdd, Nat.reduceLeDiff, hG, q1, q2, q3, hlen, e1, e2, e5, l2, c1, hi, idxA, Int.toNat_natCast, c2]; refine hK _ _ ?_; clear hK K hG G; repeat (first | refine thenI ?_ | refine thenE ?_ | refine thenR ?_ | refine inBI ?_ | refine inBR ?_ | refine inBS ?_ | refine inBN (by decide) ?_)) | refine W_seqS ?_ | refine W_seqC ?_ | refine W_seqB ?_ | refine W_block ?_ | (refine W_skip ?_; repeat (first | refine thenI ?_ | refine thenE ?_ | refine thenR ?_ | refine inBI ?_ | refine inBR ?_ | refine inBS ?_ | refine inBN (by decide) ?_)) | (refine W_condT ?hc ?_; (case hc => (simp (disch := omega) only [go_sem, ↓reduceIte, Nat.reduceEqDiff, Nat.reduceAdd, Nat.reduceLeDiff, q1, q2, q3, hlen, e1, e2, e5, l2, c1, hi, idxA, Int.toNat_natCast, c2]; done))) | (refine W_condF ?hc ?_; (case hc => (simp (disch := omega) only [go_sem, ↓reduceIte, Nat.reduceEqDiff, Nat.reduceAdd, Nat.reduceLeDiff, q1, q2, q3, hlen, e1, e2, e5, l2, c1, hi, idxA, Int.toNat_natCast, c2]; done))))
      refine W_end rfl fun G K hG hK => ?_; simp (disch := omega) only [go_sem, ↓reduceIte, Nat.reduceEqDiff, Nat.reduceAdd, Nat.reduceLeDiff, hG, q1, q2, q3, hlen, e1, e2, e5, l2, c1, hi, idxA, Int.toNat_natCast, hld]
      refine w_call (ih xs[j] (List.getElem_mem hlt) v st' es hv0 (by omega) (hl.args.2 _ (List.getElem_mem hlt)) hE1) (by simp (disch := omega) only [go_sem, ↓reduceIte, Nat.reduceEqDiff, q1, q2, q3, hlen, e1, e2, e5, l2, c1, hi, idxA, Int.toNat_natCast]) ?hl ?_
      case hl => first | rfl | (simp only [go_sem, List.all_cons, List.all_nil, Bool.not_false, Bool.and_self, q1, q2, q3, hlen, e1, e2, e5, l2, c1, hi, idxA, Int.toNat_natCast]; done)
      rintro r_ st' ⟨rfl, rfl⟩; refine ⟨fun e => (by cases e), ?_⟩
      simp (disch := omega) only [go_sem, ↓reduceIte, Nat.reduceEqDiff, Nat.reduceAdd, Nat.reduceLeDiff, hG, q1, q2, q3, hlen, e1, e2, e5, l2, c1, hi, idxA, Int.toNat_natCast]; refine hK _ _ ?_; clear hK K hG G; repeat (first | refine thenI ?_ | refine thenE ?_ | refine thenR ?_ | refine inBI ?_ | refine inBR ?_ | refine inBS ?_ | refine inBN (by decide) ?_)
      repeat (first | (refine W_reg rfl fun G K hG hK => ?_; simp (disch := omega) only [go_sem, ↓reduceIte, Nat.reduceEqDiff, Nat.reduceAdd, Nat.reduceLeDiff, hG, q1, q2, q3, hlen, e1, e2, e5, l2, c1, hi, idxA, Int.toNat_natCast]; refine hK _ _ ?_; clear hK K hG G) | (refine W_end rfl fun G K hG hK => ?_; simp (disch := omega) only [go_sem, ↓reduceIte, Nat.reduceEqDiff, Nat.reduceAdd, Nat.reduceLeDiff, hG, q1, q2, q3, hlen, e1, e2, e5, l2, c1, hi, idxA, Int.toNat_natCast]; refine hK _ _ ?_; clear hK K hG G; repeat (first | refine thenI ?_ | refine thenE ?_ | refine thenR ?_ | refine inBI ?_ | refine inBR ?_ | refine inBS ?_ | refine inBN (by decide) ?_)) | refine W_seqS ?_ | refine W_seqC ?_ | refine W_seqB ?_ | refine W_block ?_ | (refine W_skip ?_; repeat (first | refine thenI ?_ | refine thenE ?_ | refine thenR ?_ | refine inBI ?_ | refine inBR ?_ | refine inBS ?_ | refine inBN (by decide) ?_)) | (refine W_condT ?hc ?_; (case hc => (simp (disch := omega) only [go_sem, ↓reduceIte, Nat.reduceEqDiff, Nat.reduceAdd, Nat.reduceLeDiff, q1, q2, q3, hlen, e1, e2, e5, l2, c1, hi, idxA, Int.toNat_natCast]; done))) | (refine W_condF ?hc ?_; (case hc => (simp (disch := omega) only [go_sem, ↓reduceIte, Nat.reduceEqDiff, Nat.reduceAdd, Nat.reduceLeDiff, q1, q2, q3, hlen, e1, e2, e5, l2, c1, hi, idxA, Int.toNat_natCast]; done))))
      refine ⟨xs.length - (j + 1), by omega, j + 1, leftV v xs[j].count, rfl, by omega, rfl, by unfold leftV; rw [htake, hv1.1]; split <;> split <;> omega, (by (simp (disch := omega) only [go_sem, ↓reduceIte, Nat.reduceEqDiff, Nat.reduceAdd, Nat.reduceLeDiff, q1, q2, q3, hlen, e1, e2, e5, l2, c1, hi, idxA, Int.toNat_natCast]); try rfl), (by (simp (disch := omega) only [go_sem, ↓reduceIte, Nat.reduceEqDiff, Nat.reduceAdd, Nat.reduceLeDiff, q1, q2, q3, hlen, e1, e2, e5, l2, c1, hi, idxA, Int.toNat_natCast]); try rfl), (by (simp (disch := omega) only [go_sem, ↓reduceIte, Nat.reduceEqDiff, Nat.reduceAdd, Nat.reduceLeDiff, q1, q2, q3, hlen, e1, e2, e5, l2, c1, hi, idxA, Int.toNat_natCast]); try rfl), (by (simp (disch := omega) only [go_sem, ↓reduceIte, Nat.reduceEqDiff, Nat.reduceAdd, Nat.reduceLeDiff, q1, q2, q3, hlen, e1, e2, e5, l2, c1, hi, idxA, Int.toNat_natCast]); try rfl)⟩
    · have c2 : decide (v ≥ 0) = false := by simpa using hv0
      repeat (first | (refine W_reg rfl fun G K hG hK => ?_; simp (disch := omega) only [go_sem, ↓reduceIte, Nat.reduceEqDiff, Nat.reduceAdd, Nat.reduceLeDiff, hG, q1, q2, q3, hlen, e1, e2, e5, l2, c1, hi, idxA, Int.toNat_natCast, c2]; refine hK _ _ ?_; clear hK K hG G) | (refine W_end rfl fun G K hG hK => ?_; simp (disch := omega) only [go_sem, ↓reduceIte, Nat.reduceEqDiff, Nat.reduceAdd, Nat.reduceLeDiff, hG, q1, q2, q3, hlen, e1, e2, e5, l2, c1, hi, idxA, Int.toNat_natCast, c2]; refine hK _ _ ?_; clear hK K hG G; repeat (first | refine thenI ?_ | refine thenE ?_ | refine thenR ?_ | refine inBI ?_ | refine inBR ?_ | refine inBS ?_ | refine inBN (by decide) ?_)) | refine W_seqS ?_ | refine W_seqC ?_ | refine W_seqB ?_ | refine W_block ?_ | (refine W_skip ?_; repeat (first | refine thenI ?_ | refine thenE ?_ | refine thenR ?_ | refine inBI ?_ | refine inBR ?_ | refine inBS ?_ | refine inBN (by decide) ?_)) | (refine W_condT ?hc ?_; (case hc => (simp (disch := omega) only [go_sem, ↓reduceIte, Nat.reduceEqDiff, Nat.reduceAdd, Nat.reduceLeDiff, q1, q2, q3, hlen, e1, e2, e5, l2, c1, hi, idxA, Int.toNat_natCast, c2]; done))) | (refine W_condF ?hc ?_; (case hc => (simp (disch := omega) only [go_sem, ↓reduceIte, Nat.reduceEqDiff, Nat.reduceAdd, Nat.reduceLeDiff, q1, q2, q3, hlen, e1, e2, e5, l2, c1, hi, idxA, Int.toNat_natCast, c2]; done))))
      refine W_exit ?_; repeat (first | refine thenI ?_ | refine thenE ?_ | refine thenR ?_ | refine inBI ?_ | refine inBR ?_ | refine inBS ?_ | refine inBN (by decide) ?_)
      repeat (first | (refine W_reg rfl fun G K hG hK => ?_; simp (disch := omega) only [go_sem, ↓reduceIte, Nat.reduceEqDiff, Nat.reduceAdd, Nat.reduceLeDiff, hG, q1, q2, q3, hlen, e1, e2, e5, l2, c1, hi, idxA, Int.toNat_natCast]; refine hK _ _ ?_; clear hK K hG G) | (refine W_end rfl fun G K hG hK => ?_; simp (disch := omega) only [go_sem, ↓reduceIte, Nat.reduceEqDiff, Nat.reduceAdd, Nat.reduceLeDiff, hG, q1, q2, q3, hlen, e1, e2, e5, l2, c1, hi, idxA, Int.toNat_natCast]; refine hK _ _ ?_; clear hK K hG G; repeat (first | refine thenI ?_ | refine thenE ?_ | refine thenR ?_ | refine inBI ?_ | refine inBR ?_ | refine inBS ?_ | refine inBN (by decide) ?_)) | refine W_seqS ?_ | refine W_seqC ?_ | refine W_seqB ?_ | refine W_block ?_ | (refine W_skip ?_; repeat (first | refine thenI ?_ | refine thenE ?_ | refine thenR ?_ | refine inBI ?_ | refine inBR ?_ | refine inBS ?_ | refine inBN (by decide) ?_)) | (refine W_condT ?hc ?_; (case hc => (simp (disch := omega) only [go_sem, ↓reduceIte, Nat.reduceEqDiff, Nat.reduceAdd, Nat.reduceLeDiff, q1, q2, q3, hlen, e1, e2, e5, l2, c1, hi, idxA, Int.toNat_natCast]; done))) | (refine W_condF ?hc ?_; (case hc => (simp (disch := omega) only [go_sem, ↓reduceIte, Nat.reduceEqDiff, Nat.reduceAdd, Nat.reduceLeDiff, q1, q2, q3, hlen, e1, e2, e5, l2, c1, hi, idxA, Int.toNat_natCast]; done))))
      refine W_ret ?_; try (repeat (first | refine thenI ?_ | refine thenE ?_ | refine thenR ?_ | refine inBI ?_ | refine inBR ?_ | refine inBS ?_ | refine inBN (by decide) ?_))
      refine fin1 (.inl rfl) (by (simp (disch := omega) only [go_sem, ↓reduceIte, Nat.reduceEqDiff, Nat.reduceAdd, Nat.reduceLeDiff, q1, q2, q3, hlen, e1, e2, e5, l2, c1, hi, idxA, Int.toNat_natCast]); try rfl) rfl ⟨?_, rfl⟩
      rw [hcm]
      have : v = -1 := by omega
      rw [this] at hv ⊢
      congr 1
      unfold leftV at hv ⊢
      split at hv
      · omega
      · rw [if_neg (by omega)]
  · have c1 : decide ((j : Int) < (xs.length : Int)) = false := by simpa using hlt
    have hjn : j = xs.length := by omega
    subst hjn
    repeat (first | (refine W_reg rfl fun G K hG hK => ?_; simp (disch := omega) only [go_sem, ↓reduceIte, Nat.reduceEqDiff, Nat.reduceAdd, Nat.reduceLeDiff, hG, q1, q2, q3, hlen, e1, e2, e5, l2, c1]; refine hK _ _ ?_; clear hK K hG G) | (refine W_end rfl fun G K hG hK => ?_; simp (disch := omega) only [go_sem, ↓reduceIte, Nat.reduceEqDiff, Nat.reduceAdd, Nat.reduceLeDiff, hG, q1, q2, q3, hlen, e1, e2, e5, l2, c1]; refine hK _ _ ?_; clear hK K hG G; repeat (first | refine thenI ?_ | refine thenE ?_ | refine thenR ?_ | refine inBI ?_ | refine inBR ?_ | refine inBS ?_ | refine inBN (by decide) ?_)) | refine W_seqS ?_ | refine W_seqC ?_ | refine W_seqB ?_ | refine W_block ?_ | (refine W_skip ?_; repeat (first | refine thenI ?_ | refine thenE ?_ | refine thenR ?_ | refine inBI ?_ | refine inBR ?_ | refine inBS ?_ | refine inBN (by decide) ?_)) | (refine W_condT ?hc ?_; (case hc => (simp (disch := omega) only [go_sem, ↓reduceIte, Nat.reduceEqDiff, Nat.reduceAdd, Nat.reduceLeDiff, q1, q2, q3, hlen, e1, e2, e5, l2, c1]; done))) | (refine W_condF ?hc ?_; (case hc => (simp (disch := omega) only [go_sem, ↓reduceIte, Nat.reduceEqDiff, Nat.reduceAdd, Nat.reduceLeDiff, q1, q2, q3, hlen, e1, e2, e5, l2, c1]; done))))
    refine W_exit ?_; repeat (first | refine thenI ?_ | refine thenE ?_ | refine thenR ?_ | refine inBI ?_ | refine inBR ?_ | refine inBS ?_ | refine inBN (by decide) ?_)
    repeat (first | (refine W_reg rfl fun G K hG hK => ?_; simp (disch := omega) only [go_sem, ↓reduceIte, Nat.reduceEqDiff, Nat.reduceAdd, Nat.reduceLeDiff, hG, q1, q2, q3, hlen, e1, e2, e5, l2, c1]; refine hK _ _ ?_; clear hK K hG G) | (refine W_end rfl fun G K hG hK => ?_; simp (disch := omega) only [go_sem, ↓reduceIte, Nat.reduceEqDiff, Nat.reduceAdd, Nat.reduceLeDiff, hG, q1, q2, q3, hlen, e1, e2, e5, l2, c1]; refine hK _ _ ?_; clear hK K hG G; repeat (first | refine thenI ?_ | refine thenE ?_ | refine thenR ?_ | refine inBI ?_ | refine inBR ?_ | refine inBS ?_ | refine inBN (by decide) ?_)) | refine W_seqS ?_ | refine W_seqC ?_ | refine W_seqB ?_ | refine W_block ?_ | (refine W_skip ?_; repeat (first | refine thenI ?_ | refine thenE ?_ | refine thenR ?_ | refine inBI ?_ | refine inBR ?_ | refine inBS ?_ | refine inBN (by decide) ?_)) | (refine W_condT ?hc ?_; (case hc => (simp (disch := omega) only [go_sem, ↓reduceIte, Nat.reduceEqDiff, Nat.reduceAdd, Nat.reduceLeDiff, q1, q2, q3, hlen, e1, e2, e5, l2, c1]; done))) | (refine W_condF ?hc ?_; (case hc => (simp (disch := omega) only [go_sem, ↓reduceIte, Nat.reduceEqDiff, Nat.reduceAdd, Nat.reduceLeDiff, q1, q2, q3, hlen, e1, e2, e5, l2, c1]; done))))
    refine W_ret ?_; try (repeat (first | refine thenI ?_ | refine thenE ?_ | refine thenR ?_ | refine inBI ?_ | refine inBR ?_ | refine inBS ?_ | refine inBN (by decide) ?_))
    refine fin1 (.inl rfl) (by (simp (disch := omega) only [go_sem, ↓reduceIte, Nat.reduceEqDiff, Nat.reduceAdd, Nat.reduceLeDiff, q1, q2, q3, hlen, e1, e2, e5, l2, c1]); try rfl) rfl ⟨by rw [hcm, hv, List.take_length], rfl⟩
theorem l3Node_of (k n : Int) (nm : ByteArray) (args : List T) (st : St) (s : Value) (hbig : nm.size ≤ 9223372036854775807) (hr : RowT st args s) : CallS Tryd.prog 38 [.agg #[.int .i64 k, .int .i64 n, .string nm, s]] st fun r st' => r = .bool (nodeOk k n nm args) ∧ st' = st := by
  refine CallS_of_W [] 47 Tryd.func38 rfl rfl rfl rfl (by simp) ?_
  have q1 := hr.notLoc.1
  have q2 := hr.notLoc.2
  have q3 := Row.cells1 hr
  have hlen : lenE Tryd.prog 29 s = some (.int .i64 args.length) := row_len hr Tryd.underlying29
  by_cases h1 : k = 1
  · have c1 : (k == 1) = true := by simpa using h1
    repeat (first | (refine W_reg rfl fun G K hG hK => ?_; simp (disch := omega) only [go_sem, ↓reduceIte, Nat.reduceEqDiff, Nat.reduceAdd, Nat.reduceLeDiff, hG, q1, q2, q3, hlen, c1]; refine hK _ _ ?_; clear hK K hG G) | (refine W_end rfl fun G K hG hK => ?_; simp (disch := omega) only [go_sem, ↓reduceIte, Nat.reduceEqDiff, Nat.reduceAdd, Nat.reduceLeDiff, hG, q1, q2, q3, hlen, c1]; refine hK _ _ ?_; clear hK K hG G; repeat (first | refine thenI ?_ | refine thenE ?_ | refine thenR ?_ | refine inBI ?_ | refine inBR ?_ | refine inBS ?_ | refine inBN (by decide) ?_)) | refine W_seqS ?_ | refine W_seqC ?_ | refine W_seqB ?_ | refine W_block ?_ | (refine W_skip ?_; repeat (first | refine thenI ?_ | refine thenE ?_ | refine thenR ?_ | refine inBI ?_ | refine inBR ?_ | refine inBS ?_ | refine inBN (by decide) ?_)) | (refine W_condT ?hc ?_; (case hc => (simp (disch := omega) only [go_sem, ↓reduceIte, Nat.reduceEqDiff, Nat.reduceAdd, Nat.reduceLeDiff, q1, q2, q3, hlen, c1]; done))) | (refine W_condF ?hc ?_; (case hc => (simp (disch := omega) only [go_sem, ↓reduceIte, Nat.reduceEqDiff, Nat.reduceAdd, Nat.reduceLeDiff, q1, q2, q3, hlen, c1]; done))))
    (repeat (first | refine W_seqS ?_ | refine W_seqC ?_ | refine W_seqB ?_ | refine W_block ?_)); refine W_reg rfl fun G K hG hK => ?_; simp (disch := omega) only [go_sem, ↓reduceIte, Nat.reduceEqDiff, Nat.reduceAdd, Nat.reduceLeDiff, hG, q1, q2, q3, hlen]
    refine w_call (specIsVar_ok nm hbig st) (by simp (disch := omega) only [go_sem, ↓reduceIte, Nat.reduceEqDiff, q1, q2, q3, hlen]) ?hl ?_
    case hl => first | rfl | (simp only [go_sem, List.all_cons, List.all_nil, Bool.not_false, Bool.and_self, q1, q2, q3, hlen]; done)
    rintro r_ st ⟨rfl, rfl⟩; refine ⟨fun e => (by cases e), ?_⟩
    cases g1 : isVar nm with
    | false =>
      simp (disch := omega) only [go_sem, ↓reduceIte, Nat.reduceEqDiff, Nat.reduceAdd, Nat.reduceLeDiff, hG, q1, q2, q3, hlen, g1]; refine hK _ _ ?_; clear hK K hG G; repeat (first | refine thenI ?_ | refine thenE ?_ | refine thenR ?_ | refine inBI ?_ | refine inBR ?_ | refine inBS ?_ | refine inBN (by decide) ?_)
      refine W_ret ?_; try (repeat (first | refine thenI ?_ | refine thenE ?_ | refine thenR ?_ | refine inBI ?_ | refine inBR ?_ | refine inBS ?_ | refine inBN (by decide) ?_))
      refine fin1 (.inl rfl) (by (simp (disch := omega) only [go_sem, ↓reduceIte, Nat.reduceEqDiff, Nat.reduceAdd, Nat.reduceLeDiff, q1, q2, q3, hlen]); try rfl) rfl ⟨by unfold nodeOk; rw [if_pos h1, g1]; rfl, rfl⟩
    | true =>
      cases g2 : (n == 0) with
      | false =>
        simp (disch := omega) only [go_sem, ↓reduceIte, Nat.reduceEqDiff, Nat.reduceAdd, Nat.reduceLeDiff, hG, q1, q2, q3, hlen, g1, g2]; refine hK _ _ ?_; clear hK K hG G; repeat (first | refine thenI ?_ | refine thenE ?_ | refine thenR ?_ | refine inBI ?_ | refine inBR ?_ | refine inBS ?_ | refine inBN (by decide) ?_)
        refine W_ret ?_; try (repeat (first | refine thenI ?_ | refine thenE ?_ | refine thenR ?_ | refine inBI ?_ | refine inBR ?_ | refine inBS ?_ | refine inBN (by decide) ?_))
        refine fin1 (.inl rfl) (by (simp (disch := omega) only [go_sem, ↓reduceIte, Nat.reduceEqDiff, Nat.reduceAdd, Nat.reduceLeDiff, q1, q2, q3, hlen]); try rfl) rfl ⟨by unfold nodeOk; rw [if_pos h1, g1, g2]; rfl, rfl⟩
      | true =>
        simp (disch := omega) only [go_sem, ↓reduceIte, Nat.reduceEqDiff, Nat.reduceAdd, Nat.reduceLeDiff, hG, q1, q2, q3, hlen, g1, g2]; refine hK _ _ ?_; clear hK K hG G; repeat (first | refine thenI ?_ | refine thenE ?_ | refine thenR ?_ | refine inBI ?_ | refine inBR ?_ | refine inBS ?_ | refine inBN (by decide) ?_)
        refine W_ret ?_; try (repeat (first | refine thenI ?_ | refine thenE ?_ | refine thenR ?_ | refine inBI ?_ | refine inBR ?_ | refine inBS ?_ | refine inBN (by decide) ?_))
        refine fin1 (.inl rfl) (by (simp (disch := omega) only [go_sem, ↓reduceIte, Nat.reduceEqDiff, Nat.reduceAdd, Nat.reduceLeDiff, q1, q2, q3, hlen]); try rfl) rfl ⟨by unfold nodeOk; rw [if_pos h1, g1, g2]; rfl, rfl⟩
  have c1 : (k == 1) = false := by simpa using h1
  by_cases h2 : k = 2
  · have c2 : (k == 2) = true := by simpa using h2
    repeat (first | (refine W_reg rfl fun G K hG hK => ?_; simp (disch := omega) only [go_sem, ↓reduceIte, Nat.reduceEqDiff, Nat.reduceAdd, Nat.reduceLeDiff, hG, q1, q2, q3, hlen, c1, c2]; refine hK _ _ ?_; clear hK K hG G) | (refine W_end rfl fun G K hG hK => ?_; simp (disch := omega) only [go_sem, ↓reduceIte, Nat.reduceEqDiff, Nat.reduceAdd, Nat.reduceLeDiff, hG, q1, q2, q3, hlen, c1, c2]; refine hK _ _ ?_; clear hK K hG G; repeat (first | refine thenI ?_ | refine thenE ?_ | refine thenR ?_ | refine inBI ?_ | refine inBR ?_ | refine inBS ?_ | refine inBN (by decide) ?_)) | refine W_seqS ?_ | refine W_seqC ?_ | refine W_seqB ?_ | refine W_block ?_ | (refine W_skip ?_; repeat (first | refine thenI ?_ | refine thenE ?_ | refine thenR ?_ | refine inBI ?_ | refine inBR ?_ | refine inBS ?_ | refine inBN (by decide) ?_)) | (refine W_condT ?hc ?_; (case hc => (simp (disch := omega) only [go_sem, ↓reduceIte, Nat.reduceEqDiff, Nat.reduceAdd, Nat.reduceLeDiff, q1, q2, q3, hlen, c1, c2]; done))) | (refine W_condF ?hc ?_; (case hc => (simp (disch := omega) only [go_sem, ↓reduceIte, Nat.reduceEqDiff, Nat.reduceAdd, Nat.reduceLeDiff, q1, q2, q3, hlen, c1, c2]; done))))
    (repeat (first | refine W_seqS ?_ | refine W_seqC ?_ | refine W_seqB ?_ | refine W_block ?_)); refine W_reg rfl fun G K hG hK => ?_; simp (disch := omega) only [go_sem, ↓reduceIte, Nat.reduceEqDiff, Nat.reduceAdd, Nat.reduceLeDiff, hG, q1, q2, q3, hlen]
    refine w_call (specIsName_ok nm hbig st) (by simp (disch := omega) only [go_sem, ↓reduceIte, Nat.reduceEqDiff, q1, q2, q3, hlen]) ?hl ?_
    case hl => first | rfl | (simp only [go_sem, List.all_cons, List.all_nil, Bool.not_false, Bool.and_self, q1, q2, q3, hlen]; done)
    rintro r_ st ⟨rfl, rfl⟩; refine ⟨fun e => (by cases e), ?_⟩
    cases g1 : isName nm with
    | false =>
      simp (disch := omega) only [go_sem, ↓reduceIte, Nat.reduceEqDiff, Nat.reduceAdd, Nat.reduceLeDiff, hG, q1, q2, q3, hlen, g1]; refine hK _ _ ?_; clear hK K hG G; repeat (first | refine thenI ?_ | refine thenE ?_ | refine thenR ?_ | refine inBI ?_ | refine inBR ?_ | refine inBS ?_ | refine inBN (by decide) ?_)
      refine W_ret ?_; try (repeat (first | refine thenI ?_ | refine thenE ?_ | refine thenR ?_ | refine inBI ?_ | refine inBR ?_ | refine inBS ?_ | refine inBN (by decide) ?_))
      refine fin1 (.inl rfl) (by (simp (disch := omega) only [go_sem, ↓reduceIte, Nat.reduceEqDiff, Nat.reduceAdd, Nat.reduceLeDiff, q1, q2, q3, hlen]); try rfl) rfl ⟨by unfold nodeOk; rw [if_neg h1, if_pos h2, g1]; rfl, rfl⟩
    | true =>
      simp (disch := omega) only [go_sem, ↓reduceIte, Nat.reduceEqDiff, Nat.reduceAdd, Nat.reduceLeDiff, hG, q1, q2, q3, hlen, g1]; refine hK _ _ ?_; clear hK K hG G; repeat (first | refine thenI ?_ | refine thenE ?_ | refine thenR ?_ | refine inBI ?_ | refine inBR ?_ | refine inBS ?_ | refine inBN (by decide) ?_)
      refine W_ret ?_; try (repeat (first | refine thenI ?_ | refine thenE ?_ | refine thenR ?_ | refine inBI ?_ | refine inBR ?_ | refine inBS ?_ | refine inBN (by decide) ?_))
      refine fin1 (.inl rfl) (by (simp (disch := omega) only [go_sem, ↓reduceIte, Nat.reduceEqDiff, Nat.reduceAdd, Nat.reduceLeDiff, q1, q2, q3, hlen]); try rfl) rfl ⟨by unfold nodeOk; rw [if_neg h1, if_pos h2, g1]; rfl, rfl⟩
  have c2 : (k == 2) = false := by simpa using h2
  by_cases h3 : k = 3
  · have c3 : (k == 3) = true := by simpa using h3
    cases g1 : (nm.toList == (⟨#[]⟩ : ByteArray).toList) with
    | false =>
      repeat (first | (refine W_reg rfl fun G K hG hK => ?_; simp (disch := omega) only [go_sem, ↓reduceIte, Nat.reduceEqDiff, Nat.reduceAdd, Nat.reduceLeDiff, hG, q1, q2, q3, hlen, c1, c2, c3, g1]; refine hK _ _ ?_; clear hK K hG G) | (refine W_end rfl fun G K hG hK => ?_; simp (disch := omega) only [go_sem, ↓reduceIte, Nat.reduceEqDiff, Nat.reduceAdd, Nat.reduceLeDiff, hG, q1, q2, q3, hlen, c1, c2, c3, g1]; refine hK _ _ ?_; clear hK K hG G; repeat (first | refine thenI ?_ | refine thenE ?_ | refine thenR ?_ | refine inBI ?_ | refine inBR ?_ | refine inBS ?_ | refine inBN (by decide) ?_)) | refine W_seqS ?_ | refine W_seqC ?_ | refine W_seqB ?_ | refine W_block ?_ | (refine W_skip ?_; repeat (first | refine thenI ?_ | refine thenE ?_ | refine thenR ?_ | refine inBI ?_ | refine inBR ?_ | refine inBS ?_ | refine inBN (by decide) ?_)) | (refine W_condT ?hc ?_; (case hc => (simp (disch := omega) only [go_sem, ↓reduceIte, Nat.reduceEqDiff, Nat.reduceAdd, Nat.reduceLeDiff, q1, q2, q3, hlen, c1, c2, c3, g1]; done))) | (refine W_condF ?hc ?_; (case hc => (simp (disch := omega) only [go_sem, ↓reduceIte, Nat.reduceEqDiff, Nat.reduceAdd, Nat.reduceLeDiff, q1, q2, q3, hlen, c1, c2, c3, g1]; done))))
      refine W_ret ?_; try (repeat (first | refine thenI ?_ | refine thenE ?_ | refine thenR ?_ | refine inBI ?_ | refine inBR ?_ | refine inBS ?_ | refine inBN (by decide) ?_))
      refine fin1 (.inl rfl) (by (simp (disch := omega) only [go_sem, ↓reduceIte, Nat.reduceEqDiff, Nat.reduceAdd, Nat.reduceLeDiff, q1, q2, q3, hlen]); try rfl) rfl ⟨by unfold nodeOk; rw [if_neg h1, if_neg h2, if_pos h3, g1]; rfl, rfl⟩
    | true =>
      repeat (first | (refine W_reg rfl fun G K hG hK => ?_; simp (disch := omega) only [go_sem, ↓reduceIte, Nat.reduceEqDiff, Nat.reduceAdd, Nat.reduceLeDiff, hG, q1, q2, q3, hlen, c1, c2, c3]; refine hK _ _ ?_; clear hK K hG G) | (refine W_end rfl fun G K hG hK => ?_; simp (disch := omega) only [go_sem, ↓reduceIte, Nat.reduceEqDiff, Nat.reduceAdd, Nat.reduceLeDiff, hG, q1, q2, q3, hlen, c1, c2, c3]; refine hK _ _ ?_; clear hK K hG G; repeat (first | refine thenI ?_ | refine thenE ?_ | refine thenR ?_ | refine inBI ?_ | refine inBR ?_ | refine inBS ?_ | refine inBN (by decide) ?_)) | refine W_seqS ?_ | refine W_seqC ?_ | refine W_seqB ?_ | refine W_block ?_ | (refine W_skip ?_; repeat (first | refine thenI ?_ | refine thenE ?_ | refine thenR ?_ | refine inBI ?_ | refine inBR ?_ | refine inBS ?_ | refine inBN (by decide) ?_)) | (refine W_condT ?hc ?_; (case hc => (simp (disch := omega) only [go_sem, ↓reduceIte, Nat.reduceEqDiff, Nat.reduceAdd, Nat.reduceLeDiff, q1, q2, q3, hlen, c1, c2, c3]; done))) | (refine W_condF ?hc ?_; (case hc => (simp (disch := omega) only [go_sem, ↓reduceIte, Nat.reduceEqDiff, Nat.reduceAdd, Nat.reduceLeDiff, q1, q2, q3, hlen, c1, c2, c3]; done))))
      (repeat (first | refine W_seqS ?_ | refine W_seqC ?_ | refine W_seqB ?_ | refine W_block ?_)); refine W_reg rfl fun G K hG hK => ?_; simp (disch := omega) only [go_sem, ↓reduceIte, Nat.reduceEqDiff, Nat.reduceAdd, Nat.reduceLeDiff, hG, q1, q2, q3, hlen, g1]
      refine w_call (l1In_ok n 0 3 st) (by simp (disch := omega) only [go_sem, ↓reduceIte, Nat.reduceEqDiff, q1, q2, q3, hlen]) ?hl ?_
      case hl => first | rfl | (simp only [go_sem, List.all_cons, List.all_nil, Bool.not_false, Bool.and_self, q1, q2, q3, hlen]; done)
      rintro r_ st ⟨rfl, rfl⟩; refine ⟨fun e => (by cases e), ?_⟩
      cases g2 : (decide (n ≥ 0) && decide (n ≤ 3)) with
      | false =>
        simp (disch := omega) only [go_sem, ↓reduceIte, Nat.reduceEqDiff, Nat.reduceAdd, Nat.reduceLeDiff, hG, q1, q2, q3, hlen, g1, g2]; refine hK _ _ ?_; clear hK K hG G; repeat (first | refine thenI ?_ | refine thenE ?_ | refine thenR ?_ | refine inBI ?_ | refine inBR ?_ | refine inBS ?_ | refine inBN (by decide) ?_)
        refine W_ret ?_; try (repeat (first | refine thenI ?_ | refine thenE ?_ | refine thenR ?_ | refine inBI ?_ | refine inBR ?_ | refine inBS ?_ | refine inBN (by decide) ?_))
        refine fin1 (.inl rfl) (by (simp (disch := omega) only [go_sem, ↓reduceIte, Nat.reduceEqDiff, Nat.reduceAdd, Nat.reduceLeDiff, q1, q2, q3, hlen]); try rfl) rfl ⟨by unfold nodeOk; rw [if_neg h1, if_neg h2, if_pos h3, g1, g2]; rfl, rfl⟩
      | true =>
        simp (disch := omega) only [go_sem, ↓reduceIte, Nat.reduceEqDiff, Nat.reduceAdd, Nat.reduceLeDiff, hG, q1, q2, q3, hlen, g1, g2]; refine hK _ _ ?_; clear hK K hG G; repeat (first | refine thenI ?_ | refine thenE ?_ | refine thenR ?_ | refine inBI ?_ | refine inBR ?_ | refine inBS ?_ | refine inBN (by decide) ?_)
        refine W_ret ?_; try (repeat (first | refine thenI ?_ | refine thenE ?_ | refine thenR ?_ | refine inBI ?_ | refine inBR ?_ | refine inBS ?_ | refine inBN (by decide) ?_))
        refine fin1 (.inl rfl) (by (simp (disch := omega) only [go_sem, ↓reduceIte, Nat.reduceEqDiff, Nat.reduceAdd, Nat.reduceLeDiff, q1, q2, q3, hlen]); try rfl) rfl ⟨by unfold nodeOk; rw [if_neg h1, if_neg h2, if_pos h3, g1, g2]; rfl, rfl⟩
  · have c3 : (k == 3) = false := by simpa using h3
    repeat (first | (refine W_reg rfl fun G K hG hK => ?_; simp (disch := omega) only [go_sem, ↓reduceIte, Nat.reduceEqDiff, Nat.reduceAdd, Nat.reduceLeDiff, hG, q1, q2, q3, hlen, c1, c2, c3]; refine hK _ _ ?_; clear hK K hG G) | (refine W_end rfl fun G K hG hK => ?_; simp (disch := omega) only [go_sem, ↓reduceIte, Nat.reduceEqDiff, Nat.reduceAdd, Nat.reduceLeDiff, hG, q1, q2, q3, hlen, c1, c2, c3]; refine hK _ _ ?_; clear hK K hG G; repeat (first | refine thenI ?_ | refine thenE ?_ | refine thenR ?_ | refine inBI ?_ | refine inBR ?_ | refine inBS ?_ | refine inBN (by decide) ?_)) | refine W_seqS ?_ | refine W_seqC ?_ | refine W_seqB ?_ | refine W_block ?_ | (refine W_skip ?_; repeat (first | refine thenI ?_ | refine thenE ?_ | refine thenR ?_ | refine inBI ?_ | refine inBR ?_ | refine inBS ?_ | refine inBN (by decide) ?_)) | (refine W_condT ?hc ?_; (case hc => (simp (disch := omega) only [go_sem, ↓reduceIte, Nat.reduceEqDiff, Nat.reduceAdd, Nat.reduceLeDiff, q1, q2, q3, hlen, c1, c2, c3]; done))) | (refine W_condF ?hc ?_; (case hc => (simp (disch := omega) only [go_sem, ↓reduceIte, Nat.reduceEqDiff, Nat.reduceAdd, Nat.reduceLeDiff, q1, q2, q3, hlen, c1, c2, c3]; done))))
    refine W_ret ?_; try (repeat (first | refine thenI ?_ | refine thenE ?_ | refine thenR ?_ | refine inBI ?_ | refine inBR ?_ | refine inBS ?_ | refine inBN (by decide) ?_))
    refine fin1 (.inl rfl) (by (simp (disch := omega) only [go_sem, ↓reduceIte, Nat.reduceEqDiff, Nat.reduceAdd, Nat.reduceLeDiff, q1, q2, q3, hlen]); try rfl) rfl ⟨by unfold nodeOk; rw [if_neg h1, if_neg h2, if_neg h3], rfl⟩
theorem nodesL_bad {xs : List T} {j : Nat} (h : j < xs.length) (hb : xs[j].nodes = false) : T.nodesL xs = false := by
  rw [T.nodesL_all]
  refine Bool.eq_false_iff.2 fun ha => ?_
  have := List.all_eq_true.1 ha _ (List.getElem_mem h)
  rw [hb] at this; cases this
theorem nodesL_take {xs : List T} {j : Nat} (h : j < xs.length) : T.nodesL (xs.take (j + 1)) = (T.nodesL (xs.take j) && xs[j].nodes) := by
  rw [List.take_succ_eq_append_getElem h, T.nodesL_all, T.nodesL_all, List.all_append]; simp
theorem l3All_ok : ∀ (t : T) (st : St) (cs : List Value), Lim 1073741824 t → LimN 1073741824 t → Enc st t cs →
    CallS Tryd.prog 30 [.agg cs.toArray] st fun r st' => r = .bool t.nodes ∧ st' = st := by
  refine T.ind fun k n nm xs ih st cs hl hn hE => ?_
  obtain ⟨s, rfl, hr⟩ := hE.open
  have hxl := hl.args.1
  have hnm := hn.args.1
  have hcm : (T.mk k n nm xs).nodes = (T.nodesL xs && nodeOk k n nm xs) := by simp only [T.nodes]
  refine CallS_of_W [] 20 Tryd.func30 rfl rfl rfl rfl (by simp) ?_
  have q1 := hr.notLoc.1
  have q2 := hr.notLoc.2
  have q3 := Row.cells1 hr
  have hlen : lenE Tryd.prog 29 s = some (.int .i64 xs.length) := row_len hr Tryd.underlying29
  repeat (first | (refine W_reg rfl fun G K hG hK => ?_; simp (disch := omega) only [go_sem, ↓reduceIte, Nat.reduceEqDiff, Nat.reduceAdd, Nat.reduceLeDiff, hG, q1, q2, q3, hlen]; refine hK _ _ ?_; clear hK K hG G) | (refine W_end rfl fun G K hG hK => ?_; simp (disch := omega) only [go_sem, ↓reduceIte, Nat.reduceEqDiff, Nat.reduceAdd, Nat.reduceLeDiff, hG, q1, q2, q3, hlen]; refine hK _ _ ?_; clear hK K hG G; repeat (first | refine thenI ?_ | refine thenE ?_ | refine thenR ?_ | refine inBI ?_ | refine inBR ?_ | refine inBS ?_ | refine inBN (by decide) ?_)) | refine W_seqS ?_ | refine W_seqC ?_ | refine W_seqB ?_ | refine W_block ?_ | (refine W_skip ?_; repeat (first | refine thenI ?_ | refine thenE ?_ | refine thenR ?_ | refine inBI ?_ | refine inBR ?_ | refine inBS ?_ | refine inBN (by decide) ?_)) | (refine W_condT ?hc ?_; (case hc => (simp (disch := omega) only [go_sem, ↓reduceIte, Nat.reduceEqDiff, Nat.reduceAdd, Nat.reduceLeDiff, q1, q2, q3, hlen]; done))) | (refine W_condF ?hc ?_; (case hc => (simp (disch := omega) only [go_sem, ↓reduceIte, Nat.reduceEqDiff, Nat.reduceAdd, Nat.reduceLeDiff, q1, q2, q3, hlen]; done))))
  refine W_loop (fun d fr st' => ∃ (j : Nat) , d = xs.length - j ∧ j ≤ xs.length ∧ (st' = st) ∧ (T.nodesL (xs.take j) = true) ∧ (fr.env 1 = .pointer (some ⟨1, 0, some 1⟩)) ∧ (fr.env 3 = .int .i64 j) ∧ (fr.loc 1 = (1, [.int .i64 k, .int .i64 n, .string nm, s]))) (xs.length) ?_ ?_
  · exact ⟨0, by omega, by omega, rfl, rfl, (by (simp (disch := omega) only [go_sem, ↓reduceIte, Nat.reduceEqDiff, Nat.reduceAdd, Nat.reduceLeDiff, q1, q2, q3, hlen]); try rfl), (by (simp (disch := omega) only [go_sem, ↓reduceIte, Nat.reduceEqDiff, Nat.reduceAdd, Nat.reduceLeDiff, q1, q2, q3, hlen]); try rfl), (by (simp (disch := omega) only [go_sem, ↓reduceIte, Nat.reduceEqDiff, Nat.reduceAdd, Nat.reduceLeDiff, q1, q2, q3, hlen]); try rfl)⟩
  rintro d ⟨env, loc⟩ st' ⟨j, hd, hj, hst, hall, e1, e3, l1⟩
  simp only at e1 e3 l1
  subst hst
  by_cases hlt : j < xs.length
  · have c1 : decide ((j : Int) < (xs.length : Int)) = true := by simpa using hlt
    have hi := idxOk hlt
    have hx : xs[j]? = some xs[j] := List.getElem?_eq_getElem hlt
    have htk : xs.take (j + 1) = xs.take j ++ [xs[j]] := List.take_succ_eq_append_getElem hlt
    obtain ⟨i, o, c, es, rfl, hcl, hE1, hcs⟩ := row_at hr hx
    have hld := fun loc => load_row (A := []) (loc := loc) ag31 sz31 hcl hcs
    repeat (first | (refine W_reg rfl fun G K hG hK => ?_; simp (disch := omega) only [go_sem, ↓reduceIte, Nat.reduceEqDiff, Nat.reduceAdd, Nat.reduceLeDiff, hG, q1, q2, q3, hlen, e1, e3, l1, c1, hi, idxA, Int.toNat_natCast]; refine hK _ _ ?_; clear hK K hG G) | (refine W_end rfl fun G K hG hK => ?_; simp (disch := omega) only [go_sem, ↓reduceIte, Nat.reduceEqDiff, Nat.reduceAdd, Nat.reduceLeDiff, hG, q1, q2, q3, hlen, e1, e3, l1, c1, hi, idxA, Int.toNat_natCast]; refine hK _ _ ?_; clear hK K hG G; repeat (first | refine thenI ?_ | refine thenE ?_ | refine thenR ?_ | refine inBI ?_ | refine inBR ?_ | refine inBS ?_ | refine inBN (by decide) ?_)) | refine W_seqS ?_ | refine W_seqC ?_ | refine W_seqB ?_ | refine W_block ?_ | (refine W_skip ?_; repeat (first | refine thenI ?_ | refine thenE ?_ | refine thenR ?_ | refine inBI ?_ | refine inBR ?_ | refine inBS ?_ | refine inBN (by decide) ?_)) | (refine W_condT ?hc ?_; (case hc => (simp (disch := omega) only [go_sem, ↓reduceIte, Nat.reduceEqDiff, Nat.reduceAdd, Nat.reduceLeDiff, q1, q2, q3, hlen, e1, e3, l1, c1, hi, idxA, Int.toNat_natCast]; done))) | (refine W_condF ?hc ?_; (case hc => (simp (disch := omega) only [go_sem, ↓reduceIte, Nat.reduceEqDiff, Nat.reduceAdd, Nat.reduceLeDiff, q1, q2, q3, hlen, e1, e3, l1, c1, hi, idxA, Int.toNat_natCast]; done))))
    (repeat (first | refine W_seqS ?_ | refine W_seqC ?_ | refine W_seqB ?_ | refine W_block ?_)); refine W_reg rfl fun G K hG hK => ?_; simp (disch := omega) only [go_sem, ↓reduceIte, Nat.reduceEqDiff, Nat.reduceAdd, Nat.reduceLeDiff, hG, q1, q2, q3, hlen, e1, e3, l1, c1, hi, idxA, Int.toNat_natCast, hld]
    refine w_call (ih xs[j] (List.getElem_mem hlt) st' es (hl.args.2 _ (List.getElem_mem hlt)) (hn.args.2 _ (List.getElem_mem hlt)) hE1) (by simp (disch := omega) only [go_sem, ↓reduceIte, Nat.reduceEqDiff, q1, q2, q3, hlen, e1, e3, l1, c1, hi, idxA, Int.toNat_natCast]) ?hl ?_
    case hl => first | rfl | (simp only [go_sem, List.all_cons, List.all_nil, Bool.not_false, Bool.and_self, q1, q2, q3, hlen, e1, e3, l1, c1, hi, idxA, Int.toNat_natCast]; done)
    rintro r_ st' ⟨rfl, rfl⟩; refine ⟨fun e => (by cases e), ?_⟩
    cases hb : xs[j].nodes with
    | false =>
      simp (disch := omega) only [go_sem, ↓reduceIte, Nat.reduceEqDiff, Nat.reduceAdd, Nat.reduceLeDiff, hG, q1, q2, q3, hlen, e1, e3, l1, c1, hi, idxA, Int.toNat_natCast]; refine hK _ _ ?_; clear hK K hG G; repeat (first | refine thenI ?_ | refine thenE ?_ | refine thenR ?_ | refine inBI ?_ | refine inBR ?_ | refine inBS ?_ | refine inBN (by decide) ?_)
      repeat (first | (refine W_reg rfl fun G K hG hK => ?_; simp (disch := omega) only [go_sem, ↓reduceIte, Nat.reduceEqDiff, Nat.reduceAdd, Nat.reduceLeDiff, hG, q1, q2, q3, hlen, e1, e3, l1, c1, hi, idxA, Int.toNat_natCast]; refine hK _ _ ?_; clear hK K hG G) | (refine W_end rfl fun G K hG hK => ?_; simp (disch := omega) only [go_sem, ↓reduceIte, Nat.reduceEqDiff, Nat.reduceAdd, Nat.reduceLeDiff, hG, q1, q2, q3, hlen, e1, e3, l1, c1, hi, idxA, Int.toNat_natCast]; refine hK _ _ ?_; clear hK K hG G; repeat (first | refine thenI ?_ | refine thenE ?_ | refine thenR ?_ | refine inBI ?_ | refine inBR ?_ | refine inBS ?_ | refine inBN (by decide) ?_)) | refine W_seqS ?_ | refine W_seqC ?_ | refine W_seqB ?_ | refine W_block ?_ | (refine W_skip ?_; repeat (first | refine thenI ?_ | refine thenE ?_ | refine thenR ?_ | refine inBI ?_ | refine inBR ?_ | refine inBS ?_ | refine inBN (by decide) ?_)) | (refine W_condT ?hc ?_; (case hc => (simp (disch := omega) only [go_sem, ↓reduceIte, Nat.reduceEqDiff, Nat.reduceAdd, Nat.reduceLeDiff, q1, q2, q3, hlen, e1, e3, l1, c1, hi, idxA, Int.toNat_natCast]; done))) | (refine W_condF ?hc ?_; (case hc => (simp (disch := omega) only [go_sem, ↓reduceIte, Nat.reduceEqDiff, Nat.reduceAdd, Nat.reduceLeDiff, q1, q2, q3, hlen, e1, e3, l1, c1, hi, idxA, Int.toNat_natCast]; done))))
      refine W_ret ?_; try (repeat (first | refine thenI ?_ | refine thenE ?_ | refine thenR ?_ | refine inBI ?_ | refine inBR ?_ | refine inBS ?_ | refine inBN (by decide) ?_))
      refine fin1 (.inl rfl) (by (simp (disch := omega) only [go_sem, ↓reduceIte, Nat.reduceEqDiff, Nat.reduceAdd, Nat.reduceLeDiff, q1, q2, q3, hlen, e1, e3, l1, c1, hi, idxA, Int.toNat_natCast]); try rfl) rfl ⟨by rw [hcm, nodesL_bad hlt hb]; rfl, rfl⟩
    | true =>
      simp (disch := omega) only [go_sem, ↓reduceIte, Nat.reduceEqDiff, Nat.reduceAdd, Nat.reduceLeDiff, hG, q1, q2, q3, hlen, e1, e3, l1, c1, hi, idxA, Int.toNat_natCast]; refine hK _ _ ?_; clear hK K hG G; repeat (first | refine thenI ?_ | refine thenE ?_ | refine thenR ?_ | refine inBI ?_ | refine inBR ?_ | refine inBS ?_ | refine inBN (by decide) ?_)
      repeat (first | (refine W_reg rfl fun G K hG hK => ?_; simp (disch := omega) only [go_sem, ↓reduceIte, Nat.reduceEqDiff, Nat.reduceAdd, Nat.reduceLeDiff, hG, q1, q2, q3, hlen, e1, e3, l1, c1, hi, idxA, Int.toNat_natCast]; refine hK _ _ ?_; clear hK K hG G) | (refine W_end rfl fun G K hG hK => ?_; simp (disch := omega) only [go_sem, ↓reduceIte, Nat.reduceEqDiff, Nat.reduceAdd, Nat.reduceLeDiff, hG, q1, q2, q3, hlen, e1, e3, l1, c1, hi, idxA, Int.toNat_natCast]; refine hK _ _ ?_; clear hK K hG G; repeat (first | refine thenI ?_ | refine thenE ?_ | refine thenR ?_ | refine inBI ?_ | refine inBR ?_ | refine inBS ?_ | refine inBN (by decide) ?_)) | refine W_seqS ?_ | refine W_seqC ?_ | refine W_seqB ?_ | refine W_block ?_ | (refine W_skip ?_; repeat (first | refine thenI ?_ | refine thenE ?_ | refine thenR ?_ | refine inBI ?_ | refine inBR ?_ | refine inBS ?_ | refine inBN (by decide) ?_)) | (refine W_condT ?hc ?_; (case hc => (simp (disch := omega) only [go_sem, ↓reduceIte, Nat.reduceEqDiff, Nat.reduceAdd, Nat.reduceLeDiff, q1, q2, q3, hlen, e1, e3, l1, c1, hi, idxA, Int.toNat_natCast]; done))) | (refine W_condF ?hc ?_; (case hc => (simp (disch := omega) only [go_sem, ↓reduceIte, Nat.reduceEqDiff, Nat.reduceAdd, Nat.reduceLeDiff, q1, q2, q3, hlen, e1, e3, l1, c1, hi, idxA, Int.toNat_natCast]; done))))
      refine ⟨xs.length - (j + 1), by omega, j + 1, rfl, by omega, rfl, by rw [nodesL_take hlt, hall, hb]; rfl, (by (simp (disch := omega) only [go_sem, ↓reduceIte, Nat.reduceEqDiff, Nat.reduceAdd, Nat.reduceLeDiff, q1, q2, q3, hlen, e1, e3, l1, c1, hi, idxA, Int.toNat_natCast]); try rfl), (by (simp (disch := omega) only [go_sem, ↓reduceIte, Nat.reduceEqDiff, Nat.reduceAdd, Nat.reduceLeDiff, q1, q2, q3, hlen, e1, e3, l1, c1, hi, idxA, Int.toNat_natCast]); try rfl), (by (simp (disch := omega) only [go_sem, ↓reduceIte, Nat.reduceEqDiff, Nat.reduceAdd, Nat.reduceLeDiff, q1, q2, q3, hlen, e1, e3, l1, c1, hi, idxA, Int.toNat_natCast]); try rfl)⟩
  · have c1 : decide ((j : Int) < (xs.length : Int)) = false := by simpa using hlt
    have hjn : j = xs.length := by omega
    subst hjn
    rw [List.take_length] at hall
    repeat (first | (refine W_reg rfl fun G K hG hK => ?_; simp (disch := omega) only [go_sem, ↓reduceIte, Nat.reduceEqDiff, Nat.reduceAdd, Nat.reduceLeDiff, hG, q1, q2, q3, hlen, e1, e3, l1, c1]; refine hK _ _ ?_; clear hK K hG G) | (refine W_end rfl fun G K hG hK => ?_; simp (disch := omega) only [go_sem, ↓reduceIte, Nat.reduceEqDiff, Nat.reduceAdd, Nat.reduceLeDiff, hG, q1, q2, q3, hlen, e1, e3, l1, c1]; refine hK _ _ ?_; clear hK K hG G; repeat (first | refine thenI ?_ | refine thenE ?_ | refine thenR ?_ | refine inBI ?_ | refine inBR ?_ | refine inBS ?_ | refine inBN (by decide) ?_)) | refine W_seqS ?_ | refine W_seqC ?_ | refine W_seqB ?_ | refine W_block ?_ | (refine W_skip ?_; repeat (first | refine thenI ?_ | refine thenE ?_ | refine thenR ?_ | refine inBI ?_ | refine inBR ?_ | refine inBS ?_ | refine inBN (by decide) ?_)) | (refine W_condT ?hc ?_; (case hc => (simp (disch := omega) only [go_sem, ↓reduceIte, Nat.reduceEqDiff, Nat.reduceAdd, Nat.reduceLeDiff, q1, q2, q3, hlen, e1, e3, l1, c1]; done))) | (refine W_condF ?hc ?_; (case hc => (simp (disch := omega) only [go_sem, ↓reduceIte, Nat.reduceEqDiff, Nat.reduceAdd, Nat.reduceLeDiff, q1, q2, q3, hlen, e1, e3, l1, c1]; done))))
    refine W_exit ?_; repeat (first | refine thenI ?_ | refine thenE ?_ | refine thenR ?_ | refine inBI ?_ | refine inBR ?_ | refine inBS ?_ | refine inBN (by decide) ?_)
    repeat (first | (refine W_reg rfl fun G K hG hK => ?_; simp (disch := omega) only [go_sem, ↓reduceIte, Nat.reduceEqDiff, Nat.reduceAdd, Nat.reduceLeDiff, hG, q1, q2, q3, hlen, e1, e3, l1, c1]; refine hK _ _ ?_; clear hK K hG G) | (refine W_end rfl fun G K hG hK => ?_; simp (disch := omega) only [go_sem, ↓reduceIte, Nat.reduceEqDiff, Nat.reduceAdd, Nat.reduceLeDiff, hG, q1, q2, q3, hlen, e1, e3, l1, c1]; refine hK _ _ ?_; clear hK K hG G; repeat (first | refine thenI ?_ | refine thenE ?_ | refine thenR ?_ | refine inBI ?_ | refine inBR ?_ | refine inBS ?_ | refine inBN (by decide) ?_)) | refine W_seqS ?_ | refine W_seqC ?_ | refine W_seqB ?_ | refine W_block ?_ | (refine W_skip ?_; repeat (first | refine thenI ?_ | refine thenE ?_ | refine thenR ?_ | refine inBI ?_ | refine inBR ?_ | refine inBS ?_ | refine inBN (by decide) ?_)) | (refine W_condT ?hc ?_; (case hc => (simp (disch := omega) only [go_sem, ↓reduceIte, Nat.reduceEqDiff, Nat.reduceAdd, Nat.reduceLeDiff, q1, q2, q3, hlen, e1, e3, l1, c1]; done))) | (refine W_condF ?hc ?_; (case hc => (simp (disch := omega) only [go_sem, ↓reduceIte, Nat.reduceEqDiff, Nat.reduceAdd, Nat.reduceLeDiff, q1, q2, q3, hlen, e1, e3, l1, c1]; done))))
    (repeat (first | refine W_seqS ?_ | refine W_seqC ?_ | refine W_seqB ?_ | refine W_block ?_)); refine W_reg rfl fun G K hG hK => ?_; simp (disch := omega) only [go_sem, ↓reduceIte, Nat.reduceEqDiff, Nat.reduceAdd, Nat.reduceLeDiff, hG, q1, q2, q3, hlen, e1, e3, l1, c1]
    refine w_call (l3Node_of k n nm xs st' s (by omega) hr) (by simp (disch := omega) only [go_sem, ↓reduceIte, Nat.reduceEqDiff, q1, q2, q3, hlen, e1, e3, l1, c1]) ?hl ?_
    case hl => first | rfl | (simp only [go_sem, List.all_cons, List.all_nil, Bool.not_false, Bool.and_self, q1, q2, q3, hlen, e1, e3, l1, c1]; done)
    rintro r_ st' ⟨rfl, rfl⟩; refine ⟨fun e => (by cases e), ?_⟩
    simp (disch := omega) only [go_sem, ↓reduceIte, Nat.reduceEqDiff, Nat.reduceAdd, Nat.reduceLeDiff, hG, q1, q2, q3, hlen, e1, e3, l1, c1]; refine hK _ _ ?_; clear hK K hG G; repeat (first | refine thenI ?_ | refine thenE ?_ | refine thenR ?_ | refine inBI ?_ | refine inBR ?_ | refine inBS ?_ | refine inBN (by decide) ?_)
    refine W_ret ?_; try (repeat (first | refine thenI ?_ | refine thenE ?_ | refine thenR ?_ | refine inBI ?_ | refine inBR ?_ | refine inBS ?_ | refine inBN (by decide) ?_))
    refine fin1 (.inl rfl) (by (simp (disch := omega) only [go_sem, ↓reduceIte, Nat.reduceEqDiff, Nat.reduceAdd, Nat.reduceLeDiff, q1, q2, q3, hlen, e1, e3, l1, c1]); try rfl) rfl ⟨by rw [hcm, hall]; rfl, rfl⟩
theorem isW_node {n : Int} {nm : ByteArray} {args : List T} : (T.mk 3 n nm args).isW = nodeOk 3 n nm args := by
  unfold T.isW nodeOk
  rw [if_neg (by omega), if_neg (by omega), if_pos rfl]
  simp only [beq_self_eq_true, Bool.true_and]
  generalize (decide (n ≥ 0) && decide (n ≤ 3)) = a
  generalize (nm.toList == (⟨#[]⟩ : ByteArray).toList) = b
  generalize ((args.length : Int) == 0) = c
  cases a <;> cases b <;> cases c <;> rfl
theorem areNodes_app (k n : Int) (nm : ByteArray) (xs : List T) (st : St) (s : Value) (h1 : ¬ k = 1) (h3 : ¬ k = 3) (h2 : k = 2) (hl : Lim 1073741824 (.mk k n nm xs)) (hr : RowT st xs s)
    (ih : ∀ x ∈ xs, ∀ (st : St) (cs : List Value), Lim 1073741824 x → Enc st x cs → CallS Tryd.prog 25 [.agg cs.toArray] st fun r st' => r = .bool x.nodes ∧ st' = st) :
    CallS Tryd.prog 25 [.agg #[.int .i64 k, .int .i64 n, .string nm, s]] st fun r st' => r = .bool (T.mk k n nm xs).nodes ∧ st' = st := by
  have hxl := hl.args.1
  have hcm : (T.mk k n nm xs).nodes = (T.nodesL xs && nodeOk k n nm xs) := by simp only [T.nodes]
  refine CallS_of_W [] 49 Tryd.func25 rfl rfl rfl rfl (by simp) ?_
  have q1 := hr.notLoc.1
  have q2 := hr.notLoc.2
  have q3 := Row.cells1 hr
  have hlen : lenE Tryd.prog 29 s = some (.int .i64 xs.length) := row_len hr Tryd.underlying29
  have c1 : (k == 1) = false := by simpa using h1
  have c3 : (k == 3) = false := by simpa using h3
  have c2 : (k == 2) = true := by simpa using h2
  have hno : nodeOk k n nm xs = (isName nm && (n == 0)) := by unfold nodeOk; rw [if_neg h1, if_pos h2]
  cases g2 : (n == 0) with
  | false =>
    have g3 : (n != 0) = true := by simpa [bne] using g2
    repeat (first | (refine W_reg rfl fun G K hG hK => ?_; simp (disch := omega) only [go_sem, ↓reduceIte, Nat.reduceEqDiff, Nat.reduceAdd, Nat.reduceLeDiff, hG, q1, q2, q3, hlen, c1, c2, c3, g3]; refine hK _ _ ?_; clear hK K hG G) | (refine W_end rfl fun G K hG hK => ?_; simp (disch := omega) only [go_sem, ↓reduceIte, Nat.reduceEqDiff, Nat.reduceAdd, Nat.reduceLeDiff, hG, q1, q2, q3, hlen, c1, c2, c3, g3]; refine hK _ _ ?_; clear hK K hG G; repeat (first | refine thenI ?_ | refine thenE ?_ | refine thenR ?_ | refine inBI ?_ | refine inBR ?_ | refine inBS ?_ | refine inBN (by decide) ?_)) | refine W_seqS ?_ | refine W_seqC ?_ | refine W_seqB ?_ | refine W_block ?_ | (refine W_skip ?_; repeat (first | refine thenI ?_ | refine thenE ?_ | refine thenR ?_ | refine inBI ?_ | refine inBR ?_ | refine inBS ?_ | refine inBN (by decide) ?_)) | (refine W_condT ?hc ?_; (case hc => (simp (disch := omega) only [go_sem, ↓reduceIte, Nat.reduceEqDiff, Nat.reduceAdd, Nat.reduceLeDiff, q1, q2, q3, hlen, c1, c2, c3, g3]; done))) | (refine W_condF ?hc ?_; (case hc => (simp (disch := omega) only [go_sem, ↓reduceIte, Nat.reduceEqDiff, Nat.reduceAdd, Nat.reduceLeDiff, q1, q2, q3, hlen, c1, c2, c3, g3]; done))))
    refine W_ret ?_; try (repeat (first | refine thenI ?_ | refine thenE ?_ | refine thenR ?_ | refine inBI ?_ | refine inBR ?_ | refine inBS ?_ | refine inBN (by decide) ?_))
    refine fin1 (.inl rfl) (by (simp (disch := omega) only [go_sem, ↓reduceIte, Nat.reduceEqDiff, Nat.reduceAdd, Nat.reduceLeDiff, q1, q2, q3, hlen]); try rfl) rfl ⟨by rw [hcm, hno, g2]; simp, rfl⟩
  | true =>
    have g3 : (n != 0) = false := by simpa [bne] using g2
    cases g1 : isName nm with
    | false =>
      repeat (first | (refine W_reg rfl fun G K hG hK => ?_; simp (disch := omega) only [go_sem, ↓reduceIte, Nat.reduceEqDiff, Nat.reduceAdd, Nat.reduceLeDiff, hG, q1, q2, q3, hlen, c1, c2, c3]; refine hK _ _ ?_; clear hK K hG G) | (refine W_end rfl fun G K hG hK => ?_; simp (disch := omega) only [go_sem, ↓reduceIte, Nat.reduceEqDiff, Nat.reduceAdd, Nat.reduceLeDiff, hG, q1, q2, q3, hlen, c1, c2, c3]; refine hK _ _ ?_; clear hK K hG G; repeat (first | refine thenI ?_ | refine thenE ?_ | refine thenR ?_ | refine inBI ?_ | refine inBR ?_ | refine inBS ?_ | refine inBN (by decide) ?_)) | refine W_seqS ?_ | refine W_seqC ?_ | refine W_seqB ?_ | refine W_block ?_ | (refine W_skip ?_; repeat (first | refine thenI ?_ | refine thenE ?_ | refine thenR ?_ | refine inBI ?_ | refine inBR ?_ | refine inBS ?_ | refine inBN (by decide) ?_)) | (refine W_condT ?hc ?_; (case hc => (simp (disch := omega) only [go_sem, ↓reduceIte, Nat.reduceEqDiff, Nat.reduceAdd, Nat.reduceLeDiff, q1, q2, q3, hlen, c1, c2, c3]; done))) | (refine W_condF ?hc ?_; (case hc => (simp (disch := omega) only [go_sem, ↓reduceIte, Nat.reduceEqDiff, Nat.reduceAdd, Nat.reduceLeDiff, q1, q2, q3, hlen, c1, c2, c3]; done))))
      (repeat (first | refine W_seqS ?_ | refine W_seqC ?_ | refine W_seqB ?_ | refine W_block ?_)); refine W_reg rfl fun G K hG hK => ?_; simp (disch := omega) only [go_sem, ↓reduceIte, Nat.reduceEqDiff, Nat.reduceAdd, Nat.reduceLeDiff, hG, q1, q2, q3, hlen, g3]
      refine w_call (implIsName_ok nm st) (by simp (disch := omega) only [go_sem, ↓reduceIte, Nat.reduceEqDiff, q1, q2, q3, hlen]) ?hl ?_
      case hl => first | rfl | (simp only [go_sem, List.all_cons, List.all_nil, Bool.not_false, Bool.and_self, q1, q2, q3, hlen]; done)
      rintro r_ st ⟨rfl, rfl⟩; refine ⟨fun e => (by cases e), ?_⟩
      simp (disch := omega) only [go_sem, ↓reduceIte, Nat.reduceEqDiff, Nat.reduceAdd, Nat.reduceLeDiff, hG, q1, q2, q3, hlen, g1]; refine hK _ _ ?_; clear hK K hG G; repeat (first | refine thenI ?_ | refine thenE ?_ | refine thenR ?_ | refine inBI ?_ | refine inBR ?_ | refine inBS ?_ | refine inBN (by decide) ?_)
      repeat (first | (refine W_reg rfl fun G K hG hK => ?_; simp (disch := omega) only [go_sem, ↓reduceIte, Nat.reduceEqDiff, Nat.reduceAdd, Nat.reduceLeDiff, hG, q1, q2, q3, hlen]; refine hK _ _ ?_; clear hK K hG G) | (refine W_end rfl fun G K hG hK => ?_; simp (disch := omega) only [go_sem, ↓reduceIte, Nat.reduceEqDiff, Nat.reduceAdd, Nat.reduceLeDiff, hG, q1, q2, q3, hlen]; refine hK _ _ ?_; clear hK K hG G; repeat (first | refine thenI ?_ | refine thenE ?_ | refine thenR ?_ | refine inBI ?_ | refine inBR ?_ | refine inBS ?_ | refine inBN (by decide) ?_)) | refine W_seqS ?_ | refine W_seqC ?_ | refine W_seqB ?_ | refine W_block ?_ | (refine W_skip ?_; repeat (first | refine thenI ?_ | refine thenE ?_ | refine thenR ?_ | refine inBI ?_ | refine inBR ?_ | refine inBS ?_ | refine inBN (by decide) ?_)) | (refine W_condT ?hc ?_; (case hc => (simp (disch := omega) only [go_sem, ↓reduceIte, Nat.reduceEqDiff, Nat.reduceAdd, Nat.reduceLeDiff, q1, q2, q3, hlen]; done))) | (refine W_condF ?hc ?_; (case hc => (simp (disch := omega) only [go_sem, ↓reduceIte, Nat.reduceEqDiff, Nat.reduceAdd, Nat.reduceLeDiff, q1, q2, q3, hlen]; done))))
      refine W_ret ?_; try (repeat (first | refine thenI ?_ | refine thenE ?_ | refine thenR ?_ | refine inBI ?_ | refine inBR ?_ | refine inBS ?_ | refine inBN (by decide) ?_))
      refine fin1 (.inl rfl) (by (simp (disch := omega) only [go_sem, ↓reduceIte, Nat.reduceEqDiff, Nat.reduceAdd, Nat.reduceLeDiff, q1, q2, q3, hlen]); try rfl) rfl ⟨by rw [hcm, hno, g1]; simp, rfl⟩
    | true =>
      repeat (first | (refine W_reg rfl fun G K hG hK => ?_; simp (disch := omega) only [go_sem, ↓reduceIte, Nat.reduceEqDiff, Nat.reduceAdd, Nat.reduceLeDiff, hG, q1, q2, q3, hlen, c1, c2, c3]; refine hK _ _ ?_; clear hK K hG G) | (refine W_end rfl fun G K hG hK => ?_; simp (disch := omega) only [go_sem, ↓reduceIte, Nat.reduceEqDiff, Nat.reduceAdd, Nat.reduceLeDiff, hG, q1, q2, q3, hlen, c1, c2, c3]; refine hK _ _ ?_; clear hK K hG G; repeat (first | refine thenI ?_ | refine thenE ?_ | refine thenR ?_ | refine inBI ?_ | refine inBR ?_ | refine inBS ?_ | refine inBN (by decide) ?_)) | refine W_seqS ?_ | refine W_seqC ?_ | refine W_seqB ?_ | refine W_block ?_ | (refine W_skip ?_; repeat (first | refine thenI ?_ | refine thenE ?_ | refine thenR ?_ | refine inBI ?_ | refine inBR ?_ | refine inBS ?_ | refine inBN (by decide) ?_)) | (refine W_condT ?hc ?_; (case hc => (simp (disch := omega) only [go_sem, ↓reduceIte, Nat.reduceEqDiff, Nat.reduceAdd, Nat.reduceLeDiff, q1, q2, q3, hlen, c1, c2, c3]; done))) | (refine W_condF ?hc ?_; (case hc => (simp (disch := omega) only [go_sem, ↓reduceIte, Nat.reduceEqDiff, Nat.reduceAdd, Nat.reduceLeDiff, q1, q2, q3, hlen, c1, c2, c3]; done))))
      (repeat (first | refine W_seqS ?_ | refine W_seqC ?_ | refine W_seqB ?_ | refine W_block ?_)); refine W_reg rfl fun G K hG hK => ?_; simp (disch := omega) only [go_sem, ↓reduceIte, Nat.reduceEqDiff, Nat.reduceAdd, Nat.reduceLeDiff, hG, q1, q2, q3, hlen, g3]
      refine w_call (implIsName_ok nm st) (by simp (disch := omega) only [go_sem, ↓reduceIte, Nat.reduceEqDiff, q1, q2, q3, hlen]) ?hl ?_
      case hl => first | rfl | (simp only [go_sem, List.all_cons, List.all_nil, Bool.not_false, Bool.and_self, q1, q2, q3, hlen]; done)
      rintro r_ st ⟨rfl, rfl⟩; refine ⟨fun e => (by cases e), ?_⟩
      simp (disch := omega) only [go_sem, ↓reduceIte, Nat.reduceEqDiff, Nat.reduceAdd, Nat.reduceLeDiff, hG, q1, q2, q3, hlen, g1]; refine hK _ _ ?_; clear hK K hG G; repeat (first | refine thenI ?_ | refine thenE ?_ | refine thenR ?_ | refine inBI ?_ | refine inBR ?_ | refine inBS ?_ | refine inBN (by decide) ?_)
      repeat (first | (refine W_reg rfl fun G K hG hK => ?_; simp (disch := omega) only [go_sem, ↓reduceIte, Nat.reduceEqDiff, Nat.reduceAdd, Nat.reduceLeDiff, hG, q1, q2, q3, hlen]; refine hK _ _ ?_; clear hK K hG G) | (refine W_end rfl fun G K hG hK => ?_; simp (disch := omega) only [go_sem, ↓reduceIte, Nat.reduceEqDiff, Nat.reduceAdd, Nat.reduceLeDiff, hG, q1, q2, q3, hlen]; refine hK _ _ ?_; clear hK K hG G; repeat (first | refine thenI ?_ | refine thenE ?_ | refine thenR ?_ | refine inBI ?_ | refine inBR ?_ | refine inBS ?_ | refine inBN (by decide) ?_)) | refine W_seqS ?_ | refine W_seqC ?_ | refine W_seqB ?_ | refine W_block ?_ | (refine W_skip ?_; repeat (first | refine thenI ?_ | refine thenE ?_ | refine thenR ?_ | refine inBI ?_ | refine inBR ?_ | refine inBS ?_ | refine inBN (by decide) ?_)) | (refine W_condT ?hc ?_; (case hc => (simp (disch := omega) only [go_sem, ↓reduceIte, Nat.reduceEqDiff, Nat.reduceAdd, Nat.reduceLeDiff, q1, q2, q3, hlen]; done))) | (refine W_condF ?hc ?_; (case hc => (simp (disch := omega) only [go_sem, ↓reduceIte, Nat.reduceEqDiff, Nat.reduceAdd, Nat.reduceLeDiff, q1, q2, q3, hlen]; done))))
      refine W_loop (fun d fr st' => ∃ (j : Nat) , d = xs.length - j ∧ j ≤ xs.length ∧ (st' = st) ∧ (T.nodesL (xs.take j) = true) ∧ (fr.env 39 = s) ∧ (fr.env 40 = .int .i64 xs.length) ∧ (fr.env 41 = .int .i64 j)) (xs.length) ?_ ?_
      · exact ⟨0, by omega, by omega, rfl, rfl, (by (simp (disch := omega) only [go_sem, ↓reduceIte, Nat.reduceEqDiff, Nat.reduceAdd, Nat.reduceLeDiff, q1, q2, q3, hlen]); try rfl), (by (simp (disch := omega) only [go_sem, ↓reduceIte, Nat.reduceEqDiff, Nat.reduceAdd, Nat.reduceLeDiff, q1, q2, q3, hlen]); try rfl), (by (simp (disch := omega) only [go_sem, ↓reduceIte, Nat.reduceEqDiff, Nat.reduceAdd, Nat.reduceLeDiff, q1, q2, q3, hlen]); try rfl)⟩
      rintro d ⟨env, loc⟩ st' ⟨j, hd, hj, hst, hall, e39, e40, e41⟩
      simp only at e39 e40 e41
      subst hst
      by_cases hlt : j < xs.length
      · have c1 : decide ((j : Int) < (xs.length : Int)) = true := by simpa using hlt
        have hi := idxOk hlt
        have hx : xs[j]? = some xs[j] := List.getElem?_eq_getElem hlt
        have htk : xs.take (j + 1) = xs.take j ++ [xs[j]] := List.take_succ_eq_append_getElem hlt
        obtain ⟨i, o, c, es, rfl, hcl, hE1, hcs⟩ := row_at hr hx
        have hld := fun loc => load_row (A := []) (loc := loc) ag31 sz31 hcl hcs
        obtain ⟨k1, n1, m1, s1, rfl, a1, a2, a3⟩ := hE1.args_cells
        repeat (first | (refine W_reg rfl fun G K hG hK => ?_; simp (disch := omega) only [go_sem, ↓reduceIte, Nat.reduceEqDiff, Nat.reduceAdd, Nat.reduceLeDiff, hG, q1, q2, q3, hlen, e39, e40, e41, c1, hi, idxA, Int.toNat_natCast, hld, a1, a2, a3]; refine hK _ _ ?_; clear hK K hG G) | (refine W_end rfl fun G K hG hK => ?_; simp (disch := omega) only [go_sem, ↓reduceIte, Nat.reduceEqDiff, Nat.reduceAdd, Nat.reduceLeDiff, hG, q1, q2, q3, hlen, e39, e40, e41, c1, hi, idxA, Int.toNat_natCast, hld, a1, a2, a3]; refine hK _ _ ?_; clear hK K hG G; repeat (first | refine thenI ?_ | refine thenE ?_ | refine thenR ?_ | refine inBI ?_ | refine inBR ?_ | refine inBS ?_ | refine inBN (by decide) ?_)) | refine W_seqS ?_ | refine W_seqC ?_ | refine W_seqB ?_ | refine W_block ?_ | (refine W_skip ?_; repeat (first | refine thenI ?_ | refine thenE ?_ | refine thenR ?_ | refine inBI ?_ | refine inBR ?_ | refine inBS ?_ | refine inBN (by decide) ?_)) | (refine W_condT ?hc ?_; (case hc => (simp (disch := omega) only [go_sem, ↓reduceIte, Nat.reduceEqDiff, Nat.reduceAdd, Nat.reduceLeDiff, q1, q2, q3, hlen, e39, e40, e41, c1, hi, idxA, Int.toNat_natCast, hld, a1, a2, a3]; done))) | (refine W_condF ?hc ?_; (case hc => (simp (disch := omega) only [go_sem, ↓reduceIte, Nat.reduceEqDiff, Nat.reduceAdd, Nat.reduceLeDiff, q1, q2, q3, hlen, e39, e40, e41, c1, hi, idxA, Int.toNat_natCast, hld, a1, a2, a3]; done))))
        (repeat (first | refine W_seqS ?_ | refine W_seqC ?_ | refine W_seqB ?_ | refine W_block ?_)); refine W_reg rfl fun G K hG hK => ?_; simp (disch := omega) only [go_sem, ↓reduceIte, Nat.reduceEqDiff, Nat.reduceAdd, Nat.reduceLeDiff, hG, q1, q2, q3, hlen, e39, e40, e41, c1, hi, idxA, Int.toNat_natCast, a1, a2, a3]
        refine w_call (ih xs[j] (List.getElem_mem hlt) st' _ (hl.args.2 _ (List.getElem_mem hlt)) hE1) (by simp (disch := omega) only [go_sem, ↓reduceIte, Nat.reduceEqDiff, q1, q2, q3, hlen, e39, e40, e41, c1, hi, idxA, Int.toNat_natCast, a1, a2, a3]) ?hl ?_
        case hl => first | rfl | (simp only [go_sem, List.all_cons, List.all_nil, Bool.not_false, Bool.and_self, q1, q2, q3, hlen, e39, e40, e41, c1, hi, idxA, Int.toNat_natCast, a1, a2, a3]; done)
        rintro r_ st' ⟨rfl, rfl⟩; refine ⟨fun e => (by cases e), ?_⟩
        cases hb : xs[j].nodes with
        | false =>
          simp (disch := omega) only [go_sem, ↓reduceIte, Nat.reduceEqDiff, Nat.reduceAdd, Nat.reduceLeDiff, hG, q1, q2, q3, hlen, e39, e40, e41, c1, hi, idxA, Int.toNat_natCast]; refine hK _ _ ?_; clear hK K hG G; repeat (first | refine thenI ?_ | refine thenE ?_ | refine thenR ?_ | refine inBI ?_ | refine inBR ?_ | refine inBS ?_ | refine inBN (by decide) ?_)
          repeat (first | (refine W_reg rfl fun G K hG hK => ?_; simp (disch := omega) only [go_sem, ↓reduceIte, Nat.reduceEqDiff, Nat.reduceAdd, Nat.reduceLeDiff, hG, q1, q2, q3, hlen, e39, e40, e41, c1, hi, idxA, Int.toNat_natCast]; refine hK _ _ ?_; clear hK K hG G) | (refine W_end rfl fun G K hG hK => ?_; simp (disch := omega) only [go_sem, ↓reduceIte, Nat.reduceEqDiff, Nat.reduceAdd, Nat.reduceLeDiff, hG, q1, q2, q3, hlen, e39, e40, e41, c1, hi, idxA, Int.toNat_natCast]; refine hK _ _ ?_; clear hK K hG G; repeat (first | refine thenI ?_ | refine thenE ?_ | refine thenR ?_ | refine inBI ?_ | refine inBR ?_ | refine inBS ?_ | refine inBN (by decide) ?_)) | refine W_seqS ?_ | refine W_seqC ?_ | refine W_seqB ?_ | refine W_block ?_ | (refine W_skip ?_; repeat (first | refine thenI ?_ | refine thenE ?_ | refine thenR ?_ | refine inBI ?_ | refine inBR ?_ | refine inBS ?_ | refine inBN (by decide) ?_)) | (refine W_condT ?hc ?_; (case hc => (simp (disch := omega) only [go_sem, ↓reduceIte, Nat.reduceEqDiff, Nat.reduceAdd, Nat.reduceLeDiff, q1, q2, q3, hlen, e39, e40, e41, c1, hi, idxA, Int.toNat_natCast]; done))) | (refine W_condF ?hc ?_; (case hc => (simp (disch := omega) only [go_sem, ↓reduceIte, Nat.reduceEqDiff, Nat.reduceAdd, Nat.reduceLeDiff, q1, q2, q3, hlen, e39, e40, e41, c1, hi, idxA, Int.toNat_natCast]; done))))
          refine W_ret ?_; try (repeat (first | refine thenI ?_ | refine thenE ?_ | refine thenR ?_ | refine inBI ?_ | refine inBR ?_ | refine inBS ?_ | refine inBN (by decide) ?_))
          refine fin1 (.inl rfl) (by (simp (disch := omega) only [go_sem, ↓reduceIte, Nat.reduceEqDiff, Nat.reduceAdd, Nat.reduceLeDiff, q1, q2, q3, hlen, e39, e40, e41, c1, hi, idxA, Int.toNat_natCast]); try rfl) rfl ⟨by rw [hcm, nodesL_bad hlt hb]; rfl, rfl⟩
        | true =>
          simp (disch := omega) only [go_sem, ↓reduceIte, Nat.reduceEqDiff, Nat.reduceAdd, Nat.reduceLeDiff, hG, q1, q2, q3, hlen, e39, e40, e41, c1, hi, idxA, Int.toNat_natCast]; refine hK _ _ ?_; clear hK K hG G; repeat (first | refine thenI ?_ | refine thenE ?_ | refine thenR ?_ | refine inBI ?_ | refine inBR ?_ | refine inBS ?_ | refine inBN (by decide) ?_)
          repeat (first | (refine W_reg rfl fun G K hG hK => ?_; simp (disch := omega) only [go_sem, ↓reduceIte, Nat.reduceEqDiff, Nat.reduceAdd, Nat.reduceLeDiff, hG, q1, q2, q3, hlen, e39, e40, e41, c1, hi, idxA, Int.toNat_natCast]; refine hK _ _ ?_; clear hK K hG G) | (refine W_end rfl fun G K hG hK => ?_; simp (disch := omega) only [go_sem, ↓reduceIte, Nat.reduceEqDiff, Nat.reduceAdd, Nat.reduceLeDiff, hG, q1, q2, q3, hlen, e39, e40, e41, c1, hi, idxA, Int.toNat_natCast]; refine hK _ _ ?_; clear hK K hG G; repeat (first | refine thenI ?_ | refine thenE ?_ | refine thenR ?_ | refine inBI ?_ | refine inBR ?_ | refine inBS ?_ | refine inBN (by decide) ?_)) | refine W_seqS ?_ | refine W_seqC ?_ | refine W_seqB ?_ | refine W_block ?_ | (refine W_skip ?_; repeat (first | refine thenI ?_ | refine thenE ?_ | refine thenR ?_ | refine inBI ?_ | refine inBR ?_ | refine inBS ?_ | refine inBN (by decide) ?_)) | (refine W_condT ?hc ?_; (case hc => (simp (disch := omega) only [go_sem, ↓reduceIte, Nat.reduceEqDiff, Nat.reduceAdd, Nat.reduceLeDiff, q1, q2, q3, hlen, e39, e40, e41, c1, hi, idxA, Int.toNat_natCast]; done))) | (refine W_condF ?hc ?_; (case hc => (simp (disch := omega) only [go_sem, ↓reduceIte, Nat.reduceEqDiff, Nat.reduceAdd, Nat.reduceLeDiff, q1, q2, q3, hlen, e39, e40, e41, c1, hi, idxA, Int.toNat_natCast]; done))))
          refine ⟨xs.length - (j + 1), by omega, j + 1, rfl, by omega, rfl, by rw [nodesL_take hlt, hall, hb]; rfl, (by (simp (disch := omega) only [go_sem, ↓reduceIte, Nat.reduceEqDiff, Nat.reduceAdd, Nat.reduceLeDiff, q1, q2, q3, hlen, e39, e40, e41, c1, hi, idxA, Int.toNat_natCast]); try rfl), (by (simp (disch := omega) only [go_sem, ↓reduceIte, Nat.reduceEqDiff, Nat.reduceAdd, Nat.reduceLeDiff, q1, q2, q3, hlen, e39, e40, e41, c1, hi, idxA, Int.toNat_natCast]); try rfl), (by (simp (disch := omega) only [go_sem, ↓reduceIte, Nat.reduceEqDiff, Nat.reduceAdd, Nat.reduceLeDiff, q1, q2, q3, hlen, e39, e40, e41, c1, hi, idxA, Int.toNat_natCast]); try rfl)⟩
      · have c1 : decide ((j : Int) < (xs.length : Int)) = false := by simpa using hlt
        have hjn : j = xs.length := by omega
        subst hjn
        rw [List.take_length] at hall
        repeat (first | (refine W_reg rfl fun G K hG hK => ?_; simp (disch := omega) only [go_sem, ↓reduceIte, Nat.reduceEqDiff, Nat.reduceAdd, Nat.reduceLeDiff, hG, q1, q2, q3, hlen, e39, e40, e41, c1]; refine hK _ _ ?_; clear hK K hG G) | (refine W_end rfl fun G K hG hK => ?_; simp (disch := omega) only [go_sem, ↓reduceIte, Nat.reduceEqDiff, Nat.reduceAdd, Nat.reduceLeDiff, hG, q1, q2, q3, hlen, e39, e40, e41, c1]; refine hK _ _ ?_; clear hK K hG G; repeat (first | refine thenI ?_ | refine thenE ?_ | refine thenR ?_ | refine inBI ?_ | refine inBR ?_ | refine inBS ?_ | refine inBN (by decide) ?_)) | refine W_seqS ?_ | refine W_seqC ?_ | refine W_seqB ?_ | refine W_block ?_ | (refine W_skip ?_; repeat (first | refine thenI ?_ | refine thenE ?_ | refine thenR ?_ | refine inBI ?_ | refine inBR ?_ | refine inBS ?_ | refine inBN (by decide) ?_)) | (refine W_condT ?hc ?_; (case hc => (simp (disch := omega) only [go_sem, ↓reduceIte, Nat.reduceEqDiff, Nat.reduceAdd, Nat.reduceLeDiff, q1, q2, q3, hlen, e39, e40, e41, c1]; done))) | (refine W_condF ?hc ?_; (case hc => (simp (disch := omega) only [go_sem, ↓reduceIte, Nat.reduceEqDiff, Nat.reduceAdd, Nat.reduceLeDiff, q1, q2, q3, hlen, e39, e40, e41, c1]; done))))
        refine W_exit ?_; repeat (first | refine thenI ?_ | refine thenE ?_ | refine thenR ?_ | refine inBI ?_ | refine inBR ?_ | refine inBS ?_ | refine inBN (by decide) ?_)
        repeat (first | (refine W_reg rfl fun G K hG hK => ?_; simp (disch := omega) only [go_sem, ↓reduceIte, Nat.reduceEqDiff, Nat.reduceAdd, Nat.reduceLeDiff, hG, q1, q2, q3, hlen, e39, e40, e41, c1]; refine hK _ _ ?_; clear hK K hG G) | (refine W_end rfl fun G K hG hK => ?_; simp (disch := omega) only [go_sem, ↓reduceIte, Nat.reduceEqDiff, Nat.reduceAdd, Nat.reduceLeDiff, hG, q1, q2, q3, hlen, e39, e40, e41, c1]; refine hK _ _ ?_; clear hK K hG G; repeat (first | refine thenI ?_ | refine thenE ?_ | refine thenR ?_ | refine inBI ?_ | refine inBR ?_ | refine inBS ?_ | refine inBN (by decide) ?_)) | refine W_seqS ?_ | refine W_seqC ?_ | refine W_seqB ?_ | refine W_block ?_ | (refine W_skip ?_; repeat (first | refine thenI ?_ | refine thenE ?_ | refine thenR ?_ | refine inBI ?_ | refine inBR ?_ | refine inBS ?_ | refine inBN (by decide) ?_)) | (refine W_condT ?hc ?_; (case hc => (simp (disch := omega) only [go_sem, ↓reduceIte, Nat.reduceEqDiff, Nat.reduceAdd, Nat.reduceLeDiff, q1, q2, q3, hlen, e39, e40, e41, c1]; done))) | (refine W_condF ?hc ?_; (case hc => (simp (disch := omega) only [go_sem, ↓reduceIte, Nat.reduceEqDiff, Nat.reduceAdd, Nat.reduceLeDiff, q1, q2, q3, hlen, e39, e40, e41, c1]; done))))
        refine W_ret ?_; try (repeat (first | refine thenI ?_ | refine thenE ?_ | refine thenR ?_ | refine inBI ?_ | refine inBR ?_ | refine inBS ?_ | refine inBN (by decide) ?_))
        refine fin1 (.inl rfl) (by (simp (disch := omega) only [go_sem, ↓reduceIte, Nat.reduceEqDiff, Nat.reduceAdd, Nat.reduceLeDiff, q1, q2, q3, hlen, e39, e40, e41, c1]); try rfl) rfl ⟨by rw [hcm, hno, hall, g1, g2]; rfl, rfl⟩
theorem areNodes_ok : ∀ (t : T) (st : St) (cs : List Value), Lim 1073741824 t → Enc st t cs →
    CallS Tryd.prog 25 [.agg cs.toArray] st fun r st' => r = .bool t.nodes ∧ st' = st := by
  refine T.ind fun k n nm xs ih st cs hl hE => ?_
  obtain ⟨s, rfl, hr⟩ := hE.open
  have hxl := hl.args.1
  have hcm : (T.mk k n nm xs).nodes = (T.nodesL xs && nodeOk k n nm xs) := by simp only [T.nodes]
  have hnil : ∀ {b : Bool}, nodeOk k n nm xs = b → (k = 1 ∨ k = 3) → (T.mk k n nm xs).nodes = b := fun {b} h hk => by
    rw [hcm, h]
    cases b with
    | false => simp
    | true =>
      have : xs = [] := by
        unfold nodeOk at h
        rcases hk with rfl | rfl
        · rw [if_pos rfl] at h
          simp only [Bool.and_eq_true, beq_iff_eq] at h
          exact List.eq_nil_of_length_eq_zero (by omega)
        · rw [if_neg (by omega), if_neg (by omega), if_pos rfl] at h
          simp only [Bool.and_eq_true, beq_iff_eq] at h
          exact List.eq_nil_of_length_eq_zero (by omega)
      subst this
      rfl
  by_cases h2 : k = 2
  · exact areNodes_app k n nm xs st s (by omega) (by omega) h2 hl hr ih
  refine CallS_of_W [] 49 Tryd.func25 rfl rfl rfl rfl (by simp) ?_
  have q1 := hr.notLoc.1
  have q2 := hr.notLoc.2
  have q3 := Row.cells1 hr
  have hlen : lenE Tryd.prog 29 s = some (.int .i64 xs.length) := row_len hr Tryd.underlying29
  by_cases h1 : k = 1
  · have c1 : (k == 1) = true := by simpa using h1
    have hno : nodeOk k n nm xs = (isVar nm && ((n == 0) && ((xs.length : Int) == 0))) := by unfold nodeOk; rw [if_pos h1]
    cases g2 : (n == 0) with
    | false =>
      repeat (first | (refine W_reg rfl fun G K hG hK => ?_; simp (disch := omega) only [go_sem, ↓reduceIte, Nat.reduceEqDiff, Nat.reduceAdd, Nat.reduceLeDiff, hG, q1, q2, q3, hlen, c1, g2]; refine hK _ _ ?_; clear hK K hG G) | (refine W_end rfl fun G K hG hK => ?_; simp (disch := omega) only [go_sem, ↓reduceIte, Nat.reduceEqDiff, Nat.reduceAdd, Nat.reduceLeDiff, hG, q1, q2, q3, hlen, c1, g2]; refine hK _ _ ?_; clear hK K hG G; repeat (first | refine thenI ?_ | refine thenE ?_ | refine thenR ?_ | refine inBI ?_ | refine inBR ?_ | refine inBS ?_ | refine inBN (by decide) ?_)) | refine W_seqS ?_ | refine W_seqC ?_ | refine W_seqB ?_ | refine W_block ?_ | (refine W_skip ?_; repeat (first | refine thenI ?_ | refine thenE ?_ | refine thenR ?_ | refine inBI ?_ | refine inBR ?_ | refine inBS ?_ | refine inBN (by decide) ?_)) | (refine W_condT ?hc ?_; (case hc => (simp (disch := omega) only [go_sem, ↓reduceIte, Nat.reduceEqDiff, Nat.reduceAdd, Nat.reduceLeDiff, q1, q2, q3, hlen, c1, g2]; done))) | (refine W_condF ?hc ?_; (case hc => (simp (disch := omega) only [go_sem, ↓reduceIte, Nat.reduceEqDiff, Nat.reduceAdd, Nat.reduceLeDiff, q1, q2, q3, hlen, c1, g2]; done))))
      refine W_ret ?_; try (repeat (first | refine thenI ?_ | refine thenE ?_ | refine thenR ?_ | refine inBI ?_ | refine inBR ?_ | refine inBS ?_ | refine inBN (by decide) ?_))
      refine fin1 (.inl rfl) (by (simp (disch := omega) only [go_sem, ↓reduceIte, Nat.reduceEqDiff, Nat.reduceAdd, Nat.reduceLeDiff, q1, q2, q3, hlen]); try rfl) rfl ⟨by rw [hnil (by rw [hno, g2]) (.inl h1)]; simp, rfl⟩
    | true =>
      cases g3 : ((xs.length : Int) == 0) with
      | false =>
        repeat (first | (refine W_reg rfl fun G K hG hK => ?_; simp (disch := omega) only [go_sem, ↓reduceIte, Nat.reduceEqDiff, Nat.reduceAdd, Nat.reduceLeDiff, hG, q1, q2, q3, hlen, c1, g2, g3]; refine hK _ _ ?_; clear hK K hG G) | (refine W_end rfl fun G K hG hK => ?_; simp (disch := omega) only [go_sem, ↓reduceIte, Nat.reduceEqDiff, Nat.reduceAdd, Nat.reduceLeDiff, hG, q1, q2, q3, hlen, c1, g2, g3]; refine hK _ _ ?_; clear hK K hG G; repeat (first | refine thenI ?_ | refine thenE ?_ | refine thenR ?_ | refine inBI ?_ | refine inBR ?_ | refine inBS ?_ | refine inBN (by decide) ?_)) | refine W_seqS ?_ | refine W_seqC ?_ | refine W_seqB ?_ | refine W_block ?_ | (refine W_skip ?_; repeat (first | refine thenI ?_ | refine thenE ?_ | refine thenR ?_ | refine inBI ?_ | refine inBR ?_ | refine inBS ?_ | refine inBN (by decide) ?_)) | (refine W_condT ?hc ?_; (case hc => (simp (disch := omega) only [go_sem, ↓reduceIte, Nat.reduceEqDiff, Nat.reduceAdd, Nat.reduceLeDiff, q1, q2, q3, hlen, c1, g2, g3]; done))) | (refine W_condF ?hc ?_; (case hc => (simp (disch := omega) only [go_sem, ↓reduceIte, Nat.reduceEqDiff, Nat.reduceAdd, Nat.reduceLeDiff, q1, q2, q3, hlen, c1, g2, g3]; done))))
        refine W_ret ?_; try (repeat (first | refine thenI ?_ | refine thenE ?_ | refine thenR ?_ | refine inBI ?_ | refine inBR ?_ | refine inBS ?_ | refine inBN (by decide) ?_))
        refine fin1 (.inl rfl) (by (simp (disch := omega) only [go_sem, ↓reduceIte, Nat.reduceEqDiff, Nat.reduceAdd, Nat.reduceLeDiff, q1, q2, q3, hlen]); try rfl) rfl ⟨by rw [hnil (by rw [hno, g2, g3]) (.inl h1)]; simp, rfl⟩
      | true =>
        repeat (first | (refine W_reg rfl fun G K hG hK => ?_; simp (disch := omega) only [go_sem, ↓reduceIte, Nat.reduceEqDiff, Nat.reduceAdd, Nat.reduceLeDiff, hG, q1, q2, q3, hlen, c1]; refine hK _ _ ?_; clear hK K hG G) | (refine W_end rfl fun G K hG hK => ?_; simp (disch := omega) only [go_sem, ↓reduceIte, Nat.reduceEqDiff, Nat.reduceAdd, Nat.reduceLeDiff, hG, q1, q2, q3, hlen, c1]; refine hK _ _ ?_; clear hK K hG G; repeat (first | refine thenI ?_ | refine thenE ?_ | refine thenR ?_ | refine inBI ?_ | refine inBR ?_ | refine inBS ?_ | refine inBN (by decide) ?_)) | refine W_seqS ?_ | refine W_seqC ?_ | refine W_seqB ?_ | refine W_block ?_ | (refine W_skip ?_; repeat (first | refine thenI ?_ | refine thenE ?_ | refine thenR ?_ | refine inBI ?_ | refine inBR ?_ | refine inBS ?_ | refine inBN (by decide) ?_)) | (refine W_condT ?hc ?_; (case hc => (simp (disch := omega) only [go_sem, ↓reduceIte, Nat.reduceEqDiff, Nat.reduceAdd, Nat.reduceLeDiff, q1, q2, q3, hlen, c1]; done))) | (refine W_condF ?hc ?_; (case hc => (simp (disch := omega) only [go_sem, ↓reduceIte, Nat.reduceEqDiff, Nat.reduceAdd, Nat.reduceLeDiff, q1, q2, q3, hlen, c1]; done))))
        (repeat (first | refine W_seqS ?_ | refine W_seqC ?_ | refine W_seqB ?_ | refine W_block ?_)); refine W_reg rfl fun G K hG hK => ?_; simp (disch := omega) only [go_sem, ↓reduceIte, Nat.reduceEqDiff, Nat.reduceAdd, Nat.reduceLeDiff, hG, q1, q2, q3, hlen, g2, g3]
        refine w_call (implIsVar_ok nm st) (by simp (disch := omega) only [go_sem, ↓reduceIte, Nat.reduceEqDiff, q1, q2, q3, hlen]) ?hl ?_
        case hl => first | rfl | (simp only [go_sem, List.all_cons, List.all_nil, Bool.not_false, Bool.and_self, q1, q2, q3, hlen]; done)
        rintro r_ st ⟨rfl, rfl⟩; refine ⟨fun e => (by cases e), ?_⟩
        simp (disch := omega) only [go_sem, ↓reduceIte, Nat.reduceEqDiff, Nat.reduceAdd, Nat.reduceLeDiff, hG, q1, q2, q3, hlen]; refine hK _ _ ?_; clear hK K hG G; repeat (first | refine thenI ?_ | refine thenE ?_ | refine thenR ?_ | refine inBI ?_ | refine inBR ?_ | refine inBS ?_ | refine inBN (by decide) ?_)
        refine W_ret ?_; try (repeat (first | refine thenI ?_ | refine thenE ?_ | refine thenR ?_ | refine inBI ?_ | refine inBR ?_ | refine inBS ?_ | refine inBN (by decide) ?_))
        refine fin1 (.inl rfl) (by (simp (disch := omega) only [go_sem, ↓reduceIte, Nat.reduceEqDiff, Nat.reduceAdd, Nat.reduceLeDiff, q1, q2, q3, hlen]); try rfl) rfl ⟨by rw [hnil (by rw [hno, g2, g3]) (.inl h1)]; simp, rfl⟩
  have c1 : (k == 1) = false := by simpa using h1
  by_cases h3 : k = 3
  · have c3 : (k == 3) = true := by simpa using h3
    repeat (first | (refine W_reg rfl fun G K hG hK => ?_; simp (disch := omega) only [go_sem, ↓reduceIte, Nat.reduceEqDiff, Nat.reduceAdd, Nat.reduceLeDiff, hG, q1, q2, q3, hlen, c1, c3]; refine hK _ _ ?_; clear hK K hG G) | (refine W_end rfl fun G K hG hK => ?_; simp (disch := omega) only [go_sem, ↓reduceIte, Nat.reduceEqDiff, Nat.reduceAdd, Nat.reduceLeDiff, hG, q1, q2, q3, hlen, c1, c3]; refine hK _ _ ?_; clear hK K hG G; repeat (first | refine thenI ?_ | refine thenE ?_ | refine thenR ?_ | refine inBI ?_ | refine inBR ?_ | refine inBS ?_ | refine inBN (by decide) ?_)) | refine W_seqS ?_ | refine W_seqC ?_ | refine W_seqB ?_ | refine W_block ?_ | (refine W_skip ?_; repeat (first | refine thenI ?_ | refine thenE ?_ | refine thenR ?_ | refine inBI ?_ | refine inBR ?_ | refine inBS ?_ | refine inBN (by decide) ?_)) | (refine W_condT ?hc ?_; (case hc => (simp (disch := omega) only [go_sem, ↓reduceIte, Nat.reduceEqDiff, Nat.reduceAdd, Nat.reduceLeDiff, q1, q2, q3, hlen, c1, c3]; done))) | (refine W_condF ?hc ?_; (case hc => (simp (disch := omega) only [go_sem, ↓reduceIte, Nat.reduceEqDiff, Nat.reduceAdd, Nat.reduceLeDiff, q1, q2, q3, hlen, c1, c3]; done))))
    (repeat (first | refine W_seqS ?_ | refine W_seqC ?_ | refine W_seqB ?_ | refine W_block ?_)); refine W_reg rfl fun G K hG hK => ?_; simp (disch := omega) only [go_sem, ↓reduceIte, Nat.reduceEqDiff, Nat.reduceAdd, Nat.reduceLeDiff, hG, q1, q2, q3, hlen]
    refine w_call (implIsW_of k n nm xs st s hr) (by simp (disch := omega) only [go_sem, ↓reduceIte, Nat.reduceEqDiff, q1, q2, q3, hlen]) ?hl ?_
    case hl => first | rfl | (simp only [go_sem, List.all_cons, List.all_nil, Bool.not_false, Bool.and_self, q1, q2, q3, hlen]; done)
    rintro r_ st ⟨rfl, rfl⟩; refine ⟨fun e => (by cases e), ?_⟩
    simp (disch := omega) only [go_sem, ↓reduceIte, Nat.reduceEqDiff, Nat.reduceAdd, Nat.reduceLeDiff, hG, q1, q2, q3, hlen]; refine hK _ _ ?_; clear hK K hG G; repeat (first | refine thenI ?_ | refine thenE ?_ | refine thenR ?_ | refine inBI ?_ | refine inBR ?_ | refine inBS ?_ | refine inBN (by decide) ?_)
    refine W_ret ?_; try (repeat (first | refine thenI ?_ | refine thenE ?_ | refine thenR ?_ | refine inBI ?_ | refine inBR ?_ | refine inBS ?_ | refine inBN (by decide) ?_))
    refine fin1 (.inl rfl) (by (simp (disch := omega) only [go_sem, ↓reduceIte, Nat.reduceEqDiff, Nat.reduceAdd, Nat.reduceLeDiff, q1, q2, q3, hlen]); try rfl) rfl ⟨by subst h3; rw [hnil isW_node.symm (.inr rfl)], rfl⟩
  have c3 : (k == 3) = false := by simpa using h3
  · have c2 : (k == 2) = false := by simpa using h2
    have hno : nodeOk k n nm xs = false := by unfold nodeOk; rw [if_neg h1, if_neg h2, if_neg h3]
    repeat (first | (refine W_reg rfl fun G K hG hK => ?_; simp (disch := omega) only [go_sem, ↓reduceIte, Nat.reduceEqDiff, Nat.reduceAdd, Nat.reduceLeDiff, hG, q1, q2, q3, hlen, c1, c2, c3]; refine hK _ _ ?_; clear hK K hG G) | (refine W_end rfl fun G K hG hK => ?_; simp (disch := omega) only [go_sem, ↓reduceIte, Nat.reduceEqDiff, Nat.reduceAdd, Nat.reduceLeDiff, hG, q1, q2, q3, hlen, c1, c2, c3]; refine hK _ _ ?_; clear hK K hG G; repeat (first | refine thenI ?_ | refine thenE ?_ | refine thenR ?_ | refine inBI ?_ | refine inBR ?_ | refine inBS ?_ | refine inBN (by decide) ?_)) | refine W_seqS ?_ | refine W_seqC ?_ | refine W_seqB ?_ | refine W_block ?_ | (refine W_skip ?_; repeat (first | refine thenI ?_ | refine thenE ?_ | refine thenR ?_ | refine inBI ?_ | refine inBR ?_ | refine inBS ?_ | refine inBN (by decide) ?_)) | (refine W_condT ?hc ?_; (case hc => (simp (disch := omega) only [go_sem, ↓reduceIte, Nat.reduceEqDiff, Nat.reduceAdd, Nat.reduceLeDiff, q1, q2, q3, hlen, c1, c2, c3]; done))) | (refine W_condF ?hc ?_; (case hc => (simp (disch := omega) only [go_sem, ↓reduceIte, Nat.reduceEqDiff, Nat.reduceAdd, Nat.reduceLeDiff, q1, q2, q3, hlen, c1, c2, c3]; done))))
    refine W_ret ?_; try (repeat (first | refine thenI ?_ | refine thenE ?_ | refine thenR ?_ | refine inBI ?_ | refine inBR ?_ | refine inBS ?_ | refine inBN (by decide) ?_))
    refine fin1 (.inl rfl) (by (simp (disch := omega) only [go_sem, ↓reduceIte, Nat.reduceEqDiff, Nat.reduceAdd, Nat.reduceLeDiff, q1, q2, q3, hlen]); try rfl) rfl ⟨by rw [hcm, hno]; simp, rfl⟩
theorem implValid_ok (t : T) (st : St) (cs : List Value) (hl : Lim 1073741824 t) (hc : t.count ≤ 4611686018427387904) (hd : t.depth ≤ 4611686018427387904) (hE : Enc st t cs) :
    CallS Tryd.prog 14 [.agg cs.toArray] st fun r st' => r = .bool t.valid ∧ st' = st := by
  refine CallS_of_W [] 15 Tryd.func14 rfl rfl rfl rfl (by simp) ?_
  obtain ⟨k1, n1, m1, s1, rfl, a1, a2, a3⟩ := hE.args_cells
  repeat (first | (refine W_reg rfl fun G K hG hK => ?_; simp (disch := omega) only [go_sem, ↓reduceIte, Nat.reduceEqDiff, Nat.reduceAdd, Nat.reduceLeDiff, hG, a1, a2, a3]; refine hK _ _ ?_; clear hK K hG G) | (refine W_end rfl fun G K hG hK => ?_; simp (disch := omega) only [go_sem, ↓reduceIte, Nat.reduceEqDiff, Nat.reduceAdd, Nat.reduceLeDiff, hG, a1, a2, a3]; refine hK _ _ ?_; clear hK K hG G; repeat (first | refine thenI ?_ | refine thenE ?_ | refine thenR ?_ | refine inBI ?_ | refine inBR ?_ | refine inBS ?_ | refine inBN (by decide) ?_)) | refine W_seqS ?_ | refine W_seqC ?_ | refine W_seqB ?_ | refine W_block ?_ | (refine W_skip ?_; repeat (first | refine thenI ?_ | refine thenE ?_ | refine thenR ?_ | refine inBI ?_ | refine inBR ?_ | refine inBS ?_ | refine inBN (by decide) ?_)) | (refine W_condT ?hc ?_; (case hc => (simp (disch := omega) only [go_sem, ↓reduceIte, Nat.reduceEqDiff, Nat.reduceAdd, Nat.reduceLeDiff, a1, a2, a3]; done))) | (refine W_condF ?hc ?_; (case hc => (simp (disch := omega) only [go_sem, ↓reduceIte, Nat.reduceEqDiff, Nat.reduceAdd, Nat.reduceLeDiff, a1, a2, a3]; done))))
  (repeat (first | refine W_seqS ?_ | refine W_seqC ?_ | refine W_seqB ?_ | refine W_block ?_)); refine W_reg rfl fun G K hG hK => ?_; simp (disch := omega) only [go_sem, ↓reduceIte, Nat.reduceEqDiff, Nat.reduceAdd, Nat.reduceLeDiff, hG, a1, a2, a3]
  refine w_call (implCount_ok t st _ hl hc hE) (by simp (disch := omega) only [go_sem, ↓reduceIte, Nat.reduceEqDiff, a1, a2, a3]) ?hl ?_
  case hl => first | rfl | (simp only [go_sem, List.all_cons, List.all_nil, Bool.not_false, Bool.and_self, a1, a2, a3]; done)
  rintro r_ st ⟨rfl, rfl⟩; refine ⟨fun e => (by cases e), ?_⟩
  by_cases h1 : t.count ≤ 60
  · have c1 : decide (((t.count : Nat) : Int) ≤ 60) = true := by simp; omega
    simp (disch := omega) only [go_sem, ↓reduceIte, Nat.reduceEqDiff, Nat.reduceAdd, Nat.reduceLeDiff, a1, a2, a3, hG, c1]
    refine w_call (implDepth_ok t st _ hl hd hE) (by simp (disch := omega) only [go_sem, ↓reduceIte, Nat.reduceEqDiff, a1, a2, a3]) ?hl ?_
    case hl => first | rfl | (simp only [go_sem, List.all_cons, List.all_nil, Bool.not_false, Bool.and_self, a1, a2, a3]; done)
    rintro r_ st ⟨rfl, rfl⟩; refine ⟨fun e => (by cases e), ?_⟩
    by_cases h2 : t.depth ≤ 16
    · have c2 : decide (((t.depth : Nat) : Int) ≤ 16) = true := by simp; omega
      simp (disch := omega) only [go_sem, ↓reduceIte, Nat.reduceEqDiff, Nat.reduceAdd, Nat.reduceLeDiff, a1, a2, a3, hG, c1, c2]
      refine w_call (areNodes_ok t st _ hl hE) (by simp (disch := omega) only [go_sem, ↓reduceIte, Nat.reduceEqDiff, a1, a2, a3]) ?hl ?_
      case hl => first | rfl | (simp only [go_sem, List.all_cons, List.all_nil, Bool.not_false, Bool.and_self, a1, a2, a3]; done)
      rintro r_ st ⟨rfl, rfl⟩; refine ⟨fun e => (by cases e), ?_⟩
      simp (disch := omega) only [go_sem, ↓reduceIte, Nat.reduceEqDiff, Nat.reduceAdd, Nat.reduceLeDiff, hG, a1, a2, a3]; refine hK _ _ ?_; clear hK K hG G; repeat (first | refine thenI ?_ | refine thenE ?_ | refine thenR ?_ | refine inBI ?_ | refine inBR ?_ | refine inBS ?_ | refine inBN (by decide) ?_)
      refine W_ret ?_; try (repeat (first | refine thenI ?_ | refine thenE ?_ | refine thenR ?_ | refine inBI ?_ | refine inBR ?_ | refine inBS ?_ | refine inBN (by decide) ?_))
      refine fin1 (.inl rfl) (by (simp (disch := omega) only [go_sem, ↓reduceIte, Nat.reduceEqDiff, Nat.reduceAdd, Nat.reduceLeDiff, a1, a2, a3]); try rfl) rfl ⟨by simp [T.valid, h1, h2], rfl⟩
    · have c2 : decide (((t.depth : Nat) : Int) ≤ 16) = false := by simp; omega
      simp (disch := omega) only [go_sem, ↓reduceIte, Nat.reduceEqDiff, Nat.reduceAdd, Nat.reduceLeDiff, hG, a1, a2, a3, c1, c2]; refine hK _ _ ?_; clear hK K hG G; repeat (first | refine thenI ?_ | refine thenE ?_ | refine thenR ?_ | refine inBI ?_ | refine inBR ?_ | refine inBS ?_ | refine inBN (by decide) ?_)
      refine W_ret ?_; try (repeat (first | refine thenI ?_ | refine thenE ?_ | refine thenR ?_ | refine inBI ?_ | refine inBR ?_ | refine inBS ?_ | refine inBN (by decide) ?_))
      refine fin1 (.inl rfl) (by (simp (disch := omega) only [go_sem, ↓reduceIte, Nat.reduceEqDiff, Nat.reduceAdd, Nat.reduceLeDiff, a1, a2, a3]); try rfl) rfl ⟨by simp [T.valid, h1, h2], rfl⟩
  · have c1 : decide (((t.count : Nat) : Int) ≤ 60) = false := by simp; omega
    simp (disch := omega) only [go_sem, ↓reduceIte, Nat.reduceEqDiff, Nat.reduceAdd, Nat.reduceLeDiff, hG, a1, a2, a3, c1]; refine hK _ _ ?_; clear hK K hG G; repeat (first | refine thenI ?_ | refine thenE ?_ | refine thenR ?_ | refine inBI ?_ | refine inBR ?_ | refine inBS ?_ | refine inBN (by decide) ?_)
    refine W_ret ?_; try (repeat (first | refine thenI ?_ | refine thenE ?_ | refine thenR ?_ | refine inBI ?_ | refine inBR ?_ | refine inBS ?_ | refine inBN (by decide) ?_))
    refine fin1 (.inl rfl) (by (simp (disch := omega) only [go_sem, ↓reduceIte, Nat.reduceEqDiff, Nat.reduceAdd, Nat.reduceLeDiff, a1, a2, a3]); try rfl) rfl ⟨by simp [T.valid, h1], rfl⟩
theorem specValid_ok (t : T) (st : St) (cs : List Value) (hl : Lim 1073741824 t) (hn : LimN 1073741824 t) (hd : t.depth ≤ 4611686018427387904) (hE : Enc st t cs) :
    CallS Tryd.prog 19 [.agg cs.toArray] st fun r st' => r = .bool t.valid ∧ st' = st := by
  refine CallS_of_W [] 15 Tryd.func19 rfl rfl rfl rfl (by simp) ?_
  obtain ⟨k1, n1, m1, s1, rfl, a1, a2, a3⟩ := hE.args_cells
  repeat (first | (refine W_reg rfl fun G K hG hK => ?_; simp (disch := omega) only [go_sem, ↓reduceIte, Nat.reduceEqDiff, Nat.reduceAdd, Nat.reduceLeDiff, hG, a1, a2, a3]; refine hK _ _ ?_; clear hK K hG G) | (refine W_end rfl fun G K hG hK => ?_; simp (disch := omega) only [go_sem, ↓reduceIte, Nat.reduceEqDiff, Nat.reduceAdd, Nat.reduceLeDiff, hG, a1, a2, a3]; refine hK _ _ ?_; clear hK K hG G; repeat (first | refine thenI ?_ | refine thenE ?_ | refine thenR ?_ | refine inBI ?_ | refine inBR ?_ | refine inBS ?_ | refine inBN (by decide) ?_)) | refine W_seqS ?_ | refine W_seqC ?_ | refine W_seqB ?_ | refine W_block ?_ | (refine W_skip ?_; repeat (first | refine thenI ?_ | refine thenE ?_ | refine thenR ?_ | refine inBI ?_ | refine inBR ?_ | refine inBS ?_ | refine inBN (by decide) ?_)) | (refine W_condT ?hc ?_; (case hc => (simp (disch := omega) only [go_sem, ↓reduceIte, Nat.reduceEqDiff, Nat.reduceAdd, Nat.reduceLeDiff, a1, a2, a3]; done))) | (refine W_condF ?hc ?_; (case hc => (simp (disch := omega) only [go_sem, ↓reduceIte, Nat.reduceEqDiff, Nat.reduceAdd, Nat.reduceLeDiff, a1, a2, a3]; done))))
  (repeat (first | refine W_seqS ?_ | refine W_seqC ?_ | refine W_seqB ?_ | refine W_block ?_)); refine W_reg rfl fun G K hG hK => ?_; simp (disch := omega) only [go_sem, ↓reduceIte, Nat.reduceEqDiff, Nat.reduceAdd, Nat.reduceLeDiff, hG, a1, a2, a3]
  refine w_call (l3Left_ok t 60 st _ (by omega) (by omega) hl hE) (by simp (disch := omega) only [go_sem, ↓reduceIte, Nat.reduceEqDiff, a1, a2, a3]) ?hl ?_
  case hl => first | rfl | (simp only [go_sem, List.all_cons, List.all_nil, Bool.not_false, Bool.and_self, a1, a2, a3]; done)
  rintro r_ st ⟨rfl, rfl⟩; refine ⟨fun e => (by cases e), ?_⟩
  by_cases h1 : t.count ≤ 60
  · have c1 : decide (leftV 60 t.count ≥ 0) = true := by unfold leftV; rw [if_pos (by omega)]; simp; omega
    simp (disch := omega) only [go_sem, ↓reduceIte, Nat.reduceEqDiff, Nat.reduceAdd, Nat.reduceLeDiff, a1, a2, a3, hG, c1]
    refine w_call (specDepth_ok t st _ hl hd hE) (by simp (disch := omega) only [go_sem, ↓reduceIte, Nat.reduceEqDiff, a1, a2, a3]) ?hl ?_
    case hl => first | rfl | (simp only [go_sem, List.all_cons, List.all_nil, Bool.not_false, Bool.and_self, a1, a2, a3]; done)
    rintro r_ st ⟨rfl, rfl⟩; refine ⟨fun e => (by cases e), ?_⟩
    by_cases h2 : t.depth ≤ 16
    · have c2 : decide (((t.depth : Nat) : Int) ≤ 16) = true := by simp; omega
      simp (disch := omega) only [go_sem, ↓reduceIte, Nat.reduceEqDiff, Nat.reduceAdd, Nat.reduceLeDiff, a1, a2, a3, hG, c1, c2]
      refine w_call (l3All_ok t st _ hl hn hE) (by simp (disch := omega) only [go_sem, ↓reduceIte, Nat.reduceEqDiff, a1, a2, a3]) ?hl ?_
      case hl => first | rfl | (simp only [go_sem, List.all_cons, List.all_nil, Bool.not_false, Bool.and_self, a1, a2, a3]; done)
      rintro r_ st ⟨rfl, rfl⟩; refine ⟨fun e => (by cases e), ?_⟩
      simp (disch := omega) only [go_sem, ↓reduceIte, Nat.reduceEqDiff, Nat.reduceAdd, Nat.reduceLeDiff, hG, a1, a2, a3]; refine hK _ _ ?_; clear hK K hG G; repeat (first | refine thenI ?_ | refine thenE ?_ | refine thenR ?_ | refine inBI ?_ | refine inBR ?_ | refine inBS ?_ | refine inBN (by decide) ?_)
      refine W_ret ?_; try (repeat (first | refine thenI ?_ | refine thenE ?_ | refine thenR ?_ | refine inBI ?_ | refine inBR ?_ | refine inBS ?_ | refine inBN (by decide) ?_))
      refine fin1 (.inl rfl) (by (simp (disch := omega) only [go_sem, ↓reduceIte, Nat.reduceEqDiff, Nat.reduceAdd, Nat.reduceLeDiff, a1, a2, a3]); try rfl) rfl ⟨by simp [T.valid, h1, h2], rfl⟩
    · have c2 : decide (((t.depth : Nat) : Int) ≤ 16) = false := by simp; omega
      simp (disch := omega) only [go_sem, ↓reduceIte, Nat.reduceEqDiff, Nat.reduceAdd, Nat.reduceLeDiff, hG, a1, a2, a3, c1, c2]; refine hK _ _ ?_; clear hK K hG G; repeat (first | refine thenI ?_ | refine thenE ?_ | refine thenR ?_ | refine inBI ?_ | refine inBR ?_ | refine inBS ?_ | refine inBN (by decide) ?_)
      refine W_ret ?_; try (repeat (first | refine thenI ?_ | refine thenE ?_ | refine thenR ?_ | refine inBI ?_ | refine inBR ?_ | refine inBS ?_ | refine inBN (by decide) ?_))
      refine fin1 (.inl rfl) (by (simp (disch := omega) only [go_sem, ↓reduceIte, Nat.reduceEqDiff, Nat.reduceAdd, Nat.reduceLeDiff, a1, a2, a3]); try rfl) rfl ⟨by simp [T.valid, h1, h2], rfl⟩
  · have c1 : decide (leftV 60 t.count ≥ 0) = false := by unfold leftV; rw [if_neg (by omega)]; rfl
    simp (disch := omega) only [go_sem, ↓reduceIte, Nat.reduceEqDiff, Nat.reduceAdd, Nat.reduceLeDiff, hG, a1, a2, a3, c1]; refine hK _ _ ?_; clear hK K hG G; repeat (first | refine thenI ?_ | refine thenE ?_ | refine thenR ?_ | refine inBI ?_ | refine inBR ?_ | refine inBS ?_ | refine inBN (by decide) ?_)
    refine W_ret ?_; try (repeat (first | refine thenI ?_ | refine thenE ?_ | refine thenR ?_ | refine inBI ?_ | refine inBR ?_ | refine inBS ?_ | refine inBN (by decide) ?_))
    refine fin1 (.inl rfl) (by (simp (disch := omega) only [go_sem, ↓reduceIte, Nat.reduceEqDiff, Nat.reduceAdd, Nat.reduceLeDiff, a1, a2, a3]); try rfl) rfl ⟨by simp [T.valid, h1], rfl⟩
end Go.Proofs.YtngkedafggfehaaDoor.AM


/- Contracts of the library, lifted: a world that grows; a block of which nothing is told. -/
namespace Go.Proofs.YtngkedafggfehaaDoor.AM
open Go Go.Proofs
set_option linter.unusedVariables false
set_option linter.unusedSimpArgs false

theorem HR.below {P : Program} {B : Base} {M : List ME} {st : St} {w w' : World} (h : HR P B M st w) (k : Go.RowKit.Below w.heap.size w w') : HR P B M st w' := by
  refine ⟨h.len, h.pre, fun i b m hb hm hs hfar => ?_, h.inj, fun i m hm => Nat.lt_of_lt_of_le (h.lt i m hm) k.size, h.old, fun i b m hb hs hm => ?_, k.os.trans h.os, k.tape.trans h.tape, k.output.trans h.output, Nat.le_trans h.size k.size, fun q hq hqm => ?_, h.tab, h.cov⟩
  · obtain ⟨c, h1, h2⟩ := h.blk i b m hb hm hs hfar
    exact ⟨c, h1.to (k.block _ (h.lt i m hm)), h2⟩
  · obtain ⟨h1, h2⟩ := h.ro i b m hb hs hm
    exact ⟨h1, (k.block _ (h.lt i m (h.pre i m hm))).trans h2⟩
  · exact (k.block q (Nat.lt_of_lt_of_le hq h.size)).trans (h.frame q hq hqm)
/-- A block of which nothing is told. -/
def farB : Blk := ⟨[], 0, 1⟩
theorem HR.far {P : Program} {B : Base} {M : List ME} {st : St} {w : World} {N n : Nat} (h : HR P B M st w) (hn : ∀ (i : Nat) m, M[i]? = some m → m.b < n) (h1 : n ≤ N) (h2 : N < w.heap.size) (h3 : B.w0.heap.size ≤ N) : HR P B (M ++ [⟨N, 0, 0, false⟩]) (st ++ [farB]) w := by
  have getM : ∀ (i : Nat) m, (M ++ [(⟨N, 0, 0, false⟩ : ME)])[i]? = some m → M[i]? = some m ∨ (i = st.length ∧ m = ⟨N, 0, 0, false⟩) := fun i m hm => by
    rcases Nat.lt_or_ge i M.length with hi | hi
    · rw [List.getElem?_append_left hi] at hm; exact .inl hm
    · rw [List.getElem?_append_right hi] at hm
      have h4 := (List.getElem?_eq_some_iff.1 hm).1
      simp only [List.length_singleton] at h4
      have h5 : i - M.length = 0 := by omega
      rw [h5] at hm
      simp only [List.getElem?_cons_zero, Option.some.injEq] at hm
      exact .inr ⟨by have := h.len; omega, hm.symm⟩
  have getS : ∀ (i : Nat) b, (st ++ [farB])[i]? = some b → st[i]? = some b ∨ (i = st.length ∧ b = farB) := fun i b hb => by
    rcases Nat.lt_or_ge i st.length with hi | hi
    · rw [List.getElem?_append_left hi] at hb; exact .inl hb
    · rw [List.getElem?_append_right hi] at hb
      have h4 := (List.getElem?_eq_some_iff.1 hb).1
      simp only [List.length_singleton] at h4
      have h5 : i - st.length = 0 := by omega
      rw [h5] at hb
      simp only [List.getElem?_cons_zero, Option.some.injEq] at hb
      exact .inr ⟨by omega, hb.symm⟩
  have hM := Mono.app M [(⟨N, 0, 0, false⟩ : ME)]
  have hin : ∀ (i : Nat) b m, st[i]? = some b → (M ++ [(⟨N, 0, 0, false⟩ : ME)])[i]? = some m → M[i]? = some m := fun i b m hb hm => by
    rcases getM i m hm with h4 | ⟨h4, _⟩
    · exact h4
    · have := (List.getElem?_eq_some_iff.1 hb).1; omega
  refine ⟨by simp [h.len], fun i m hm => hM i m (h.pre i m hm), fun i b m hb hm hs hfar => ?_, fun i j b b' m m' hb hb' hs hs' hm hm' e => ?_, fun i m hm => ?_, fun i m hm hlt => ?_, fun i b m hb hs hm => ?_, h.os, h.tape, h.output, h.size, h.frame, h.tab, h.cov⟩
  · rcases getS i b hb with hb | ⟨_, rfl⟩
    · obtain ⟨c, q1, q2, q3, q4, q5⟩ := h.blk i b m hb (hin i b m hb hm) hs hfar
      exact ⟨c, q1, q2, q3, q4.mono hM, q5⟩
    · exact absurd ⟨rfl, rfl⟩ hfar
  · rcases getS i b hb with hb | ⟨rfl, rfl⟩ <;> rcases getS j b' hb' with hb' | ⟨rfl, rfl⟩
    · exact h.inj i j b b' m m' hb hb' hs hs' (hin i b m hb hm) (hin j b' m' hb' hm') e
    · have h4 := hn i m (hin i b m hb hm)
      rcases getM st.length m' hm' with h5 | ⟨_, h5⟩
      · have := (List.getElem?_eq_some_iff.1 h5).1; have := h.len; omega
      · subst h5; simp only at e; omega
    · have h4 := hn j m' (hin j b' m' hb' hm')
      rcases getM st.length m hm with h5 | ⟨_, h5⟩
      · have := (List.getElem?_eq_some_iff.1 h5).1; have := h.len; omega
      · subst h5; simp only at e; omega
    · rfl
  · rcases getM i m hm with h4 | ⟨_, rfl⟩
    · exact h.lt i m h4
    · exact h2
  · rcases getM i m hm with h4 | ⟨_, rfl⟩
    · exact h.old i m h4 hlt
    · simp only at hlt; omega
  · obtain ⟨q1, q2⟩ := h.ro i b m hb hs hm
    exact ⟨by rw [List.getElem?_append_left (List.getElem?_eq_some_iff.1 q1).1]; exact q1, q2⟩
theorem VL.one' {M : List ME} {s : Value} {vals : Array Value} (h : VL M [s] vals) : ∃ v, vals = #[v] ∧ VR M s v := by
  have hl := h.len
  obtain ⟨l⟩ := vals
  match l, hl with
  | [v], _ => exact ⟨v, rfl, h.rel 0 s v rfl rfl⟩
theorem VL.two' {M : List ME} {s t : Value} {vals : Array Value} (h : VL M [s, t] vals) : ∃ v u, vals = #[v, u] ∧ VR M s v ∧ VR M t u := by
  have hl := h.len
  obtain ⟨l⟩ := vals
  match l, hl with
  | [v, u], _ => exact ⟨v, u, rfl, h.rel 0 s v rfl rfl, h.rel 1 t u rfl rfl⟩
end Go.Proofs.YtngkedafggfehaaDoor.AM


/- Whole numbers as texts: spec.FormatInt, strconv.Itoa, impl.FormatInt; the law FnExactFormatInt. -/
namespace Go.Proofs.YtngkedafggfehaaDoor.AM
open Go Go.Proofs Go.Lib
set_option linter.unusedVariables false
set_option linter.unusedSimpArgs false
set_option maxRecDepth 100000
attribute [local go_sem] List.map_cons List.map_nil List.all_cons List.all_nil Bool.and_self Option.map_some List.getElem?_toArray Option.bind_some gye_b gye_t gsk_b gsk_t gb1 gb2 gb3 gb4 bne_self_eq_false beq_self_eq_true w_guard w_nil stepV_some step_some step_some' w_move w_assign w_pick w_binOp w_unOp w_load w_fieldAddr w_indexAddr w_len w_max w_index ev_max max_int ev_index w_box w_alloc w_store w_field w_extract w_nilCheck w_convert w_buildSlice w_build ev_buildL fillL_nil fillL_cons bs0 bs1 ev_conv ev_bin ev_un ev_pick ev_load ev_fieldAddr ev_indexAddr ev_len ev_field ev_extract ev_nilCheck fr_tmp fr_int fr_bool fr_str fr_nil fr_func put_some put_none bin_lss bin_leq bin_gtr bin_geq bin_eql bin_neq bin_add bin_sub bin_mul bin_seql bin_sneq un_not pick_ ext_ loadA_p cellAt_l cellAt_h okPtr_l okPtr_h fadA_p allocA_l storeA_l cells_agg cells_int cells_str cells_sl cells_bool flat_i flat_s flat_b flat_sl flat_nil loc_agg loc_int loc_str loc_sl loc_bool loc_fn loc_ptr okv_agg okv_int okv_str okv_sl okv_bool cellsFrom splice upd_eval argEnv_zero argEnv_succ ne_eq Nat.add_one_ne_zero not_false_eq_true List.not_mem_nil and_self decide_true List.getElem?_cons_zero List.getElem?_cons_succ List.size_toArray List.length_cons List.length_nil List.take_succ_cons List.take_zero List.drop_succ_cons List.drop_zero List.cons_append List.nil_append List.drop_nil Bool.not_true Bool.not_false Bool.false_eq_true Nat.zero_add Nat.add_zero wrap_in List.toList_toArray List.mem_cons or_self or_false false_or
attribute [local go_sem] ag22 ag24 ag26 ag29 ag3 ag31 ag33 ag5 ag54 ag56 ag69 ag9 by31 by5 by9 el22 el29 el46 el54 of24_0 of24_1 of24_2 of24_3 of26_0 of26_1 of26_2 of31_0 of31_1 of31_2 of31_3 of33_0 of33_1 of33_2 of58_0 of58_1 ro5_1 ro9_1 ro9_3 ro9_4 sz22 sz24 sz26 sz29 sz3 sz31 sz33 sz5 sz54 sz56 sz69 sz9 ze31 ze33 ze5 ze58 ze68 ze81 ze9
-- AUTO

/-- The digits of a number that is not nought. -/
def digs (m : Nat) : List UInt8 := if m = 0 then [] else decDigits m
theorem digs_step {m : Nat} (h : m ≠ 0) : digs m = digs (m / 10) ++ [UInt8.ofNat (48 + m % 10)] := by
  unfold digs
  rw [if_neg h]
  by_cases h10 : m < 10
  · rw [if_pos (by omega), decDigits, dif_pos h10, show m % 10 = m by omega]; rfl
  · rw [if_neg (by omega), decDigits, dif_neg h10]
theorem wrap_digit : ∀ k : Nat, k < 10 → IntKind.u8.wrap (48 + (k : Int)) = (((UInt8.ofNat (48 + k)).toNat : Nat) : Int) := by decide
theorem getB2f {st : St} {y : Blk} : (st ++ [y])[st.length]? = some y := by rw [List.getElem?_append_right (Nat.le_refl _), Nat.sub_self]; rfl
theorem app_mk (c : UInt8) (o : ByteArray) : (⟨#[c]⟩ : ByteArray) ++ o = ⟨(c :: o.data.toList).toArray⟩ := by
  apply ByteArray.ext
  apply Array.ext'
  simp
theorem size_mk (l : List UInt8) : (⟨l.toArray⟩ : ByteArray).size = l.length := by
  show l.toArray.size = _
  simp
theorem nat_tdiv (m : Int) : (m.tdiv 10).natAbs = m.natAbs / 10 := by
  rw [Int.natAbs_tdiv]; rfl
theorem nat_tmod (m : Int) : (m.tmod 10).natAbs = m.natAbs % 10 := by
  rw [Int.natAbs_tmod]; rfl
theorem specFormatInt_ok (n : Int) (st : St) (h0 : -9223372036854775808 ≤ n) (h1 : n ≤ 9223372036854775807) :
    CallS Tryd.prog 31 [.int .i64 n] st fun r st2 => Ext st st2 ∧ r = .string ⟨(itoa n).toArray⟩ := by
  refine CallS_of_W [] 31 Tryd.func31 rfl rfl rfl rfl (by simp) ?_
  by_cases hn : n = 0
  · subst hn
    have e : (⟨(itoa 0).toArray⟩ : ByteArray) = ⟨#[48]⟩ := by
      have : itoa 0 = [48] := by decide +kernel
      rw [this]
    rw [e]
    repeat (first | (refine W_reg rfl fun G K hG hK => ?_; simp (disch := omega) only [go_sem, ↓reduceIte, Nat.reduceEqDiff, Nat.reduceAdd, Nat.reduceLeDiff, hG]; refine hK _ _ ?_; clear hK K hG G) | (refine W_end rfl fun G K hG hK => ?_; simp (disch := omega) only [go_sem, ↓reduceIte, Nat.reduceEqDiff, Nat.reduceAdd, Nat.reduceLeDiff, hG]; refine hK _ _ ?_; clear hK K hG G; repeat (first | refine thenI ?_ | refine thenE ?_ | refine thenR ?_ | refine inBI ?_ | refine inBR ?_ | refine inBS ?_ | refine inBN (by decide) ?_)) | refine W_seqS ?_ | refine W_seqC ?_ | refine W_seqB ?_ | refine W_block ?_ | (refine W_skip ?_; repeat (first | refine thenI ?_ | refine thenE ?_ | refine thenR ?_ | refine inBI ?_ | refine inBR ?_ | refine inBS ?_ | refine inBN (by decide) ?_)) | (refine W_condT ?hc ?_; (case hc => (simp (disch := omega) only [go_sem, ↓reduceIte, Nat.reduceEqDiff, Nat.reduceAdd, Nat.reduceLeDiff]; done))) | (refine W_condF ?hc ?_; (case hc => (simp (disch := omega) only [go_sem, ↓reduceIte, Nat.reduceEqDiff, Nat.reduceAdd, Nat.reduceLeDiff]; done))))
    refine W_ret ?_; try (repeat (first | refine thenI ?_ | refine thenE ?_ | refine thenR ?_ | refine inBI ?_ | refine inBR ?_ | refine inBS ?_ | refine inBN (by decide) ?_))
    refine fin1 (.inl rfl) (by (simp (disch := omega) only [go_sem, ↓reduceIte, Nat.reduceEqDiff, Nat.reduceAdd, Nat.reduceLeDiff]); try rfl) rfl ⟨Ext.refl _, rfl⟩
  have c0 : (n == 0) = false := by simpa using hn
  have hlen : ∀ m, m = n.natAbs → (decDigits m).length ≤ 20 := fun m hm => by
    rw [decDigits_length]
    exact nDigits_le20 m (by omega)
  repeat (first | (refine W_reg rfl fun G K hG hK => ?_; simp (disch := omega) only [go_sem, ↓reduceIte, Nat.reduceEqDiff, Nat.reduceAdd, Nat.reduceLeDiff, hG, c0]; refine hK _ _ ?_; clear hK K hG G) | (refine W_end rfl fun G K hG hK => ?_; simp (disch := omega) only [go_sem, ↓reduceIte, Nat.reduceEqDiff, Nat.reduceAdd, Nat.reduceLeDiff, hG, c0]; refine hK _ _ ?_; clear hK K hG G; repeat (first | refine thenI ?_ | refine thenE ?_ | refine thenR ?_ | refine inBI ?_ | refine inBR ?_ | refine inBS ?_ | refine inBN (by decide) ?_)) | refine W_seqS ?_ | refine W_seqC ?_ | refine W_seqB ?_ | refine W_block ?_ | (refine W_skip ?_; repeat (first | refine thenI ?_ | refine thenE ?_ | refine thenR ?_ | refine inBI ?_ | refine inBR ?_ | refine inBS ?_ | refine inBN (by decide) ?_)) | (refine W_condT ?hc ?_; (case hc => (simp (disch := omega) only [go_sem, ↓reduceIte, Nat.reduceEqDiff, Nat.reduceAdd, Nat.reduceLeDiff, c0]; done))) | (refine W_condF ?hc ?_; (case hc => (simp (disch := omega) only [go_sem, ↓reduceIte, Nat.reduceEqDiff, Nat.reduceAdd, Nat.reduceLeDiff, c0]; done))))
  refine W_loop (fun d fr st' => ∃ (j : Nat) (m : Int) (o : ByteArray), d = n.natAbs - j ∧ j ≤ n.natAbs ∧ (Ext st st') ∧ (m.natAbs ≤ n.natAbs - j) ∧ (digs m.natAbs ++ o.data.toList = digs n.natAbs) ∧ (fr.env 0 = .int .i64 m) ∧ (fr.env 3 = .bool (decide (n < 0))) ∧ (fr.env 4 = .string o)) (n.natAbs) ?_ ?_
  · exact ⟨0, n, ⟨#[]⟩, by omega, by omega, Ext.refl _, by omega, by simp, (by (simp (disch := omega) only [go_sem, ↓reduceIte, Nat.reduceEqDiff, Nat.reduceAdd, Nat.reduceLeDiff]); try rfl), (by (simp (disch := omega) only [go_sem, ↓reduceIte, Nat.reduceEqDiff, Nat.reduceAdd, Nat.reduceLeDiff]); try rfl), (by (simp (disch := omega) only [go_sem, ↓reduceIte, Nat.reduceEqDiff, Nat.reduceAdd, Nat.reduceLeDiff]); try rfl)⟩
  rintro d ⟨env, loc⟩ st' ⟨j, m, o, hd, hj, hext, hm, ho, e0, e3, e4⟩
  simp only at e0 e3 e4
  have hol : o.size ≤ 20 := by
    have h2 := congrArg List.length ho
    have h3 := hlen _ rfl
    have h4 : digs n.natAbs = decDigits n.natAbs := by unfold digs; rw [if_neg (by omega)]
    rw [h4, List.length_append] at h2
    have h5 : o.data.toList.length = o.size := by simp
    omega
  by_cases hm0 : m = 0
  · subst hm0
    have c1 : ((0 : Int) != 0) = false := by decide
    have ho2 : o.data.toList = decDigits n.natAbs := by
      have h4 : digs n.natAbs = decDigits n.natAbs := by unfold digs; rw [if_neg (by omega)]
      rw [h4] at ho
      have h5 : digs (0 : Int).natAbs = [] := rfl
      rw [h5, List.nil_append] at ho
      exact ho
    cases hneg : decide (n < 0) with
    | true =>
      have hn2 : n < 0 := by simpa using hneg
      have e : (⟨#[45]⟩ : ByteArray) ++ o = ⟨(itoa n).toArray⟩ := by
        rw [app_mk, ho2]; unfold itoa; rw [if_pos hn2]
      have hs : (⟨#[45]⟩ : ByteArray).size + o.size ≤ 2 ^ 62 := by
        have : (⟨#[45]⟩ : ByteArray).size = 1 := rfl
        omega
      have had : ∀ (x y : Operand), binE Tryd.prog .add 9 x y (.string ⟨#[45]⟩) (.string o) = some (.string (⟨#[45]⟩ ++ o)) := fun x y => bin_sadd hs
      rw [← e]
      repeat (first | (refine W_reg rfl fun G K hG hK => ?_; simp (disch := omega) only [go_sem, ↓reduceIte, Nat.reduceEqDiff, Nat.reduceAdd, Nat.reduceLeDiff, hG, e0, e3, e4, c1, hneg]; refine hK _ _ ?_; clear hK K hG G) | (refine W_end rfl fun G K hG hK => ?_; simp (disch := omega) only [go_sem, ↓reduceIte, Nat.reduceEqDiff, Nat.reduceAdd, Nat.reduceLeDiff, hG, e0, e3, e4, c1, hneg]; refine hK _ _ ?_; clear hK K hG G; repeat (first | refine thenI ?_ | refine thenE ?_ | refine thenR ?_ | refine inBI ?_ | refine inBR ?_ | refine inBS ?_ | refine inBN (by decide) ?_)) | refine W_seqS ?_ | refine W_seqC ?_ | refine W_seqB ?_ | refine W_block ?_ | (refine W_skip ?_; repeat (first | refine thenI ?_ | refine thenE ?_ | refine thenR ?_ | refine inBI ?_ | refine inBR ?_ | refine inBS ?_ | refine inBN (by decide) ?_)) | (refine W_condT ?hc ?_; (case hc => (simp (disch := omega) only [go_sem, ↓reduceIte, Nat.reduceEqDiff, Nat.reduceAdd, Nat.reduceLeDiff, e0, e3, e4, c1, hneg]; done))) | (refine W_condF ?hc ?_; (case hc => (simp (disch := omega) only [go_sem, ↓reduceIte, Nat.reduceEqDiff, Nat.reduceAdd, Nat.reduceLeDiff, e0, e3, e4, c1, hneg]; done))))
      refine W_exit ?_; repeat (first | refine thenI ?_ | refine thenE ?_ | refine thenR ?_ | refine inBI ?_ | refine inBR ?_ | refine inBS ?_ | refine inBN (by decide) ?_)
      repeat (first | (refine W_reg rfl fun G K hG hK => ?_; simp (disch := omega) only [go_sem, ↓reduceIte, Nat.reduceEqDiff, Nat.reduceAdd, Nat.reduceLeDiff, hG, e0, e3, e4, hneg, had]; refine hK _ _ ?_; clear hK K hG G) | (refine W_end rfl fun G K hG hK => ?_; simp (disch := omega) only [go_sem, ↓reduceIte, Nat.reduceEqDiff, Nat.reduceAdd, Nat.reduceLeDiff, hG, e0, e3, e4, hneg, had]; refine hK _ _ ?_; clear hK K hG G; repeat (first | refine thenI ?_ | refine thenE ?_ | refine thenR ?_ | refine inBI ?_ | refine inBR ?_ | refine inBS ?_ | refine inBN (by decide) ?_)) | refine W_seqS ?_ | refine W_seqC ?_ | refine W_seqB ?_ | refine W_block ?_ | (refine W_skip ?_; repeat (first | refine thenI ?_ | refine thenE ?_ | refine thenR ?_ | refine inBI ?_ | refine inBR ?_ | refine inBS ?_ | refine inBN (by decide) ?_)) | (refine W_condT ?hc ?_; (case hc => (simp (disch := omega) only [go_sem, ↓reduceIte, Nat.reduceEqDiff, Nat.reduceAdd, Nat.reduceLeDiff, e0, e3, e4, hneg, had]; done))) | (refine W_condF ?hc ?_; (case hc => (simp (disch := omega) only [go_sem, ↓reduceIte, Nat.reduceEqDiff, Nat.reduceAdd, Nat.reduceLeDiff, e0, e3, e4, hneg, had]; done))))
      refine W_ret ?_; try (repeat (first | refine thenI ?_ | refine thenE ?_ | refine thenR ?_ | refine inBI ?_ | refine inBR ?_ | refine inBS ?_ | refine inBN (by decide) ?_))
      refine fin1 (.inl rfl) (by (simp (disch := omega) only [go_sem, ↓reduceIte, Nat.reduceEqDiff, Nat.reduceAdd, Nat.reduceLeDiff, e0, e3, e4]); try rfl) rfl ⟨hext, rfl⟩
    | false =>
      have hn2 : ¬ n < 0 := by simpa using hneg
      have e : o = ⟨(itoa n).toArray⟩ := by
        have h6 : itoa n = o.data.toList := by
          rw [ho2]; unfold itoa; rw [if_neg hn2, show n.toNat = n.natAbs by omega]
        rw [h6]
      rw [← e]
      repeat (first | (refine W_reg rfl fun G K hG hK => ?_; simp (disch := omega) only [go_sem, ↓reduceIte, Nat.reduceEqDiff, Nat.reduceAdd, Nat.reduceLeDiff, hG, e0, e3, e4, c1, hneg]; refine hK _ _ ?_; clear hK K hG G) | (refine W_end rfl fun G K hG hK => ?_; simp (disch := omega) only [go_sem, ↓reduceIte, Nat.reduceEqDiff, Nat.reduceAdd, Nat.reduceLeDiff, hG, e0, e3, e4, c1, hneg]; refine hK _ _ ?_; clear hK K hG G; repeat (first | refine thenI ?_ | refine thenE ?_ | refine thenR ?_ | refine inBI ?_ | refine inBR ?_ | refine inBS ?_ | refine inBN (by decide) ?_)) | refine W_seqS ?_ | refine W_seqC ?_ | refine W_seqB ?_ | refine W_block ?_ | (refine W_skip ?_; repeat (first | refine thenI ?_ | refine thenE ?_ | refine thenR ?_ | refine inBI ?_ | refine inBR ?_ | refine inBS ?_ | refine inBN (by decide) ?_)) | (refine W_condT ?hc ?_; (case hc => (simp (disch := omega) only [go_sem, ↓reduceIte, Nat.reduceEqDiff, Nat.reduceAdd, Nat.reduceLeDiff, e0, e3, e4, c1, hneg]; done))) | (refine W_condF ?hc ?_; (case hc => (simp (disch := omega) only [go_sem, ↓reduceIte, Nat.reduceEqDiff, Nat.reduceAdd, Nat.reduceLeDiff, e0, e3, e4, c1, hneg]; done))))
      refine W_exit ?_; repeat (first | refine thenI ?_ | refine thenE ?_ | refine thenR ?_ | refine inBI ?_ | refine inBR ?_ | refine inBS ?_ | refine inBN (by decide) ?_)
      repeat (first | (refine W_reg rfl fun G K hG hK => ?_; simp (disch := omega) only [go_sem, ↓reduceIte, Nat.reduceEqDiff, Nat.reduceAdd, Nat.reduceLeDiff, hG, e0, e3, e4, hneg]; refine hK _ _ ?_; clear hK K hG G) | (refine W_end rfl fun G K hG hK => ?_; simp (disch := omega) only [go_sem, ↓reduceIte, Nat.reduceEqDiff, Nat.reduceAdd, Nat.reduceLeDiff, hG, e0, e3, e4, hneg]; refine hK _ _ ?_; clear hK K hG G; repeat (first | refine thenI ?_ | refine thenE ?_ | refine thenR ?_ | refine inBI ?_ | refine inBR ?_ | refine inBS ?_ | refine inBN (by decide) ?_)) | refine W_seqS ?_ | refine W_seqC ?_ | refine W_seqB ?_ | refine W_block ?_ | (refine W_skip ?_; repeat (first | refine thenI ?_ | refine thenE ?_ | refine thenR ?_ | refine inBI ?_ | refine inBR ?_ | refine inBS ?_ | refine inBN (by decide) ?_)) | (refine W_condT ?hc ?_; (case hc => (simp (disch := omega) only [go_sem, ↓reduceIte, Nat.reduceEqDiff, Nat.reduceAdd, Nat.reduceLeDiff, e0, e3, e4, hneg]; done))) | (refine W_condF ?hc ?_; (case hc => (simp (disch := omega) only [go_sem, ↓reduceIte, Nat.reduceEqDiff, Nat.reduceAdd, Nat.reduceLeDiff, e0, e3, e4, hneg]; done))))
      refine W_ret ?_; try (repeat (first | refine thenI ?_ | refine thenE ?_ | refine thenR ?_ | refine inBI ?_ | refine inBR ?_ | refine inBS ?_ | refine inBN (by decide) ?_))
      refine fin1 (.inl rfl) (by (simp (disch := omega) only [go_sem, ↓reduceIte, Nat.reduceEqDiff, Nat.reduceAdd, Nat.reduceLeDiff, e0, e3, e4]); try rfl) rfl ⟨hext, rfl⟩
  · have c1 : (m != 0) = true := by simpa using hm0
    have hk : m.natAbs % 10 < 10 := Nat.mod_lt _ (by omega)
    have hmod := nat_tmod m
    have hdiv := nat_tdiv m
    generalize hc : UInt8.ofNat (48 + m.natAbs % 10) = c at *
    have hwd : IntKind.u8.wrap (48 + ((m.natAbs % 10 : Nat) : Int)) = ((c.toNat : Nat) : Int) := by rw [← hc]; exact wrap_digit _ hk
    have hstep : digs m.natAbs = digs (m.tdiv 10).natAbs ++ [c] := by rw [digs_step (by omega), hdiv, hc]
    have hcell : ∀ (j : Nat) v, (strCells ⟨#[c]⟩)[j]? = some v → cell (st' ++ [(⟨[.int .u8 (c.toNat : Int)], 5, 0⟩ : Blk)]) st'.length (0 + j) = some v := fun j v hv => by
      rw [cell_of getB2f, Nat.zero_add]
      exact hv
    have hcv : ∀ (A : List Tmp) (loc : Nat → Nat × List Value), cvB Tryd.prog A 54 9 (.slice (some ⟨st'.length, 0, none⟩) 1 1) loc (st' ++ [(⟨[.int .u8 (c.toNat : Int)], 5, 0⟩ : Blk)]) = some (.string ⟨#[c]⟩) := fun A loc => cvB_str (q := ⟨#[c]⟩) Tryd.underlying54 Tryd.underlying5 Tryd.underlying9 hcell
    have hci : ∀ x : Int, cvI Tryd.prog 3 5 (.int .i64 x) = some (.int .u8 (IntKind.u8.wrap x)) := fun x => cvI_int Tryd.underlying3 Tryd.underlying5
    have hs : (⟨#[c]⟩ : ByteArray).size + o.size ≤ 2 ^ 62 := by
      have : (⟨#[c]⟩ : ByteArray).size = 1 := rfl
      omega
    have had : ∀ (x y : Operand), binE Tryd.prog .add 9 x y (.string ⟨#[c]⟩) (.string o) = some (.string (⟨#[c]⟩ ++ o)) := fun x y => bin_sadd hs
    have hq : IntKind.i64.wrap (m.tdiv 10) = m.tdiv 10 := wrap_in (by omega) (by omega)
    have hnext : digs (m.tdiv 10).natAbs ++ ((⟨#[c]⟩ : ByteArray) ++ o).data.toList = digs n.natAbs := by
      rw [app_mk, ← ho, hstep]
      simp
    by_cases hneg : m.tmod 10 < 0
    · have c2 : decide (m.tmod 10 < 0) = true := by simpa using hneg
      have hw1 : IntKind.i64.wrap (0 - m.tmod 10) = ((m.natAbs % 10 : Nat) : Int) := by rw [wrap_in (by omega) (by omega)]; omega
      have hw2 : IntKind.i64.wrap (48 + ((m.natAbs % 10 : Nat) : Int)) = 48 + ((m.natAbs % 10 : Nat) : Int) := wrap_in (by omega) (by omega)
      repeat (first | (refine W_reg rfl fun G K hG hK => ?_; simp (disch := omega) only [go_sem, ↓reduceIte, Nat.reduceEqDiff, Nat.reduceAdd, Nat.reduceLeDiff, hG, e0, e3, e4, c1, ne_rem, c2, hw1, hw2, ev_conv, hci, hwd, hcv, had, ne_quo, hq]; refine hK _ _ ?_; clear hK K hG G) | (refine W_end rfl fun G K hG hK => ?_; simp (disch := omega) only [go_sem, ↓reduceIte, Nat.reduceEqDiff, Nat.reduceAdd, Nat.reduceLeDiff, hG, e0, e3, e4, c1, ne_rem, c2, hw1, hw2, ev_conv, hci, hwd, hcv, had, ne_quo, hq]; refine hK _ _ ?_; clear hK K hG G; repeat (first | refine thenI ?_ | refine thenE ?_ | refine thenR ?_ | refine inBI ?_ | refine inBR ?_ | refine inBS ?_ | refine inBN (by decide) ?_)) | refine W_seqS ?_ | refine W_seqC ?_ | refine W_seqB ?_ | refine W_block ?_ | (refine W_skip ?_; repeat (first | refine thenI ?_ | refine thenE ?_ | refine thenR ?_ | refine inBI ?_ | refine inBR ?_ | refine inBS ?_ | refine inBN (by decide) ?_)) | (refine W_condT ?hc ?_; (case hc => (simp (disch := omega) only [go_sem, ↓reduceIte, Nat.reduceEqDiff, Nat.reduceAdd, Nat.reduceLeDiff, e0, e3, e4, c1, ne_rem, c2, hw1, hw2, ev_conv, hci, hwd, hcv, had, ne_quo, hq]; done))) | (refine W_condF ?hc ?_; (case hc => (simp (disch := omega) only [go_sem, ↓reduceIte, Nat.reduceEqDiff, Nat.reduceAdd, Nat.reduceLeDiff, e0, e3, e4, c1, ne_rem, c2, hw1, hw2, ev_conv, hci, hwd, hcv, had, ne_quo, hq]; done))))
      refine ⟨n.natAbs - (j + 1), by omega, j + 1, m.tdiv 10, _, rfl, by omega, hext.trans (Ext.app _ _), by omega, hnext, (by (simp (disch := omega) only [go_sem, ↓reduceIte, Nat.reduceEqDiff, Nat.reduceAdd, Nat.reduceLeDiff, e0, e3, e4]); try rfl), (by (simp (disch := omega) only [go_sem, ↓reduceIte, Nat.reduceEqDiff, Nat.reduceAdd, Nat.reduceLeDiff, e0, e3, e4]); try rfl), (by (simp (disch := omega) only [go_sem, ↓reduceIte, Nat.reduceEqDiff, Nat.reduceAdd, Nat.reduceLeDiff, e0, e3, e4]); try rfl)⟩
    · have c2 : decide (m.tmod 10 < 0) = false := by simpa using hneg
      have hw1 : m.tmod 10 = ((m.natAbs % 10 : Nat) : Int) := by omega
      have hw2 : IntKind.i64.wrap (48 + ((m.natAbs % 10 : Nat) : Int)) = 48 + ((m.natAbs % 10 : Nat) : Int) := wrap_in (by omega) (by omega)
      rw [hw1] at c2
      repeat (first | (refine W_reg rfl fun G K hG hK => ?_; simp (disch := omega) only [go_sem, ↓reduceIte, Nat.reduceEqDiff, Nat.reduceAdd, Nat.reduceLeDiff, hG, e0, e3, e4, c1, ne_rem, hw1, c2, hw2, ev_conv, hci, hwd, hcv, had, ne_quo, hq]; refine hK _ _ ?_; clear hK K hG G) | (refine W_end rfl fun G K hG hK => ?_; simp (disch := omega) only [go_sem, ↓reduceIte, Nat.reduceEqDiff, Nat.reduceAdd, Nat.reduceLeDiff, hG, e0, e3, e4, c1, ne_rem, hw1, c2, hw2, ev_conv, hci, hwd, hcv, had, ne_quo, hq]; refine hK _ _ ?_; clear hK K hG G; repeat (first | refine thenI ?_ | refine thenE ?_ | refine thenR ?_ | refine inBI ?_ | refine inBR ?_ | refine inBS ?_ | refine inBN (by decide) ?_)) | refine W_seqS ?_ | refine W_seqC ?_ | refine W_seqB ?_ | refine W_block ?_ | (refine W_skip ?_; repeat (first | refine thenI ?_ | refine thenE ?_ | refine thenR ?_ | refine inBI ?_ | refine inBR ?_ | refine inBS ?_ | refine inBN (by decide) ?_)) | (refine W_condT ?hc ?_; (case hc => (simp (disch := omega) only [go_sem, ↓reduceIte, Nat.reduceEqDiff, Nat.reduceAdd, Nat.reduceLeDiff, e0, e3, e4, c1, ne_rem, hw1, c2, hw2, ev_conv, hci, hwd, hcv, had, ne_quo, hq]; done))) | (refine W_condF ?hc ?_; (case hc => (simp (disch := omega) only [go_sem, ↓reduceIte, Nat.reduceEqDiff, Nat.reduceAdd, Nat.reduceLeDiff, e0, e3, e4, c1, ne_rem, hw1, c2, hw2, ev_conv, hci, hwd, hcv, had, ne_quo, hq]; done))))
      refine ⟨n.natAbs - (j + 1), by omega, j + 1, m.tdiv 10, _, rfl, by omega, hext.trans (Ext.app _ _), by omega, hnext, (by (simp (disch := omega) only [go_sem, ↓reduceIte, Nat.reduceEqDiff, Nat.reduceAdd, Nat.reduceLeDiff, e0, e3, e4]); try rfl), (by (simp (disch := omega) only [go_sem, ↓reduceIte, Nat.reduceEqDiff, Nat.reduceAdd, Nat.reduceLeDiff, e0, e3, e4]); try rfl), (by (simp (disch := omega) only [go_sem, ↓reduceIte, Nat.reduceEqDiff, Nat.reduceAdd, Nat.reduceLeDiff, e0, e3, e4]); try rfl)⟩
end Go.Proofs.YtngkedafggfehaaDoor.AM


/- The law FnExactFormatInt. -/
namespace Go.Proofs.YtngkedafggfehaaDoor.AM
open Go Go.Proofs Go.Lib
set_option linter.unusedVariables false
set_option linter.unusedSimpArgs false
set_option maxRecDepth 100000
attribute [local go_sem] List.map_cons List.map_nil List.all_cons List.all_nil Bool.and_self Option.map_some List.getElem?_toArray Option.bind_some gye_b gye_t gsk_b gsk_t gb1 gb2 gb3 gb4 bne_self_eq_false beq_self_eq_true w_guard w_nil stepV_some step_some step_some' w_move w_assign w_pick w_binOp w_unOp w_load w_fieldAddr w_indexAddr w_len w_max w_index ev_max max_int ev_index w_box w_alloc w_store w_field w_extract w_nilCheck w_convert w_buildSlice w_build ev_buildL fillL_nil fillL_cons bs0 bs1 ev_conv ev_bin ev_un ev_pick ev_load ev_fieldAddr ev_indexAddr ev_len ev_field ev_extract ev_nilCheck fr_tmp fr_int fr_bool fr_str fr_nil fr_func put_some put_none bin_lss bin_leq bin_gtr bin_geq bin_eql bin_neq bin_add bin_sub bin_mul bin_seql bin_sneq un_not pick_ ext_ loadA_p cellAt_l cellAt_h okPtr_l okPtr_h fadA_p allocA_l storeA_l cells_agg cells_int cells_str cells_sl cells_bool flat_i flat_s flat_b flat_sl flat_nil loc_agg loc_int loc_str loc_sl loc_bool loc_fn loc_ptr okv_agg okv_int okv_str okv_sl okv_bool cellsFrom splice upd_eval argEnv_zero argEnv_succ ne_eq Nat.add_one_ne_zero not_false_eq_true List.not_mem_nil and_self decide_true List.getElem?_cons_zero List.getElem?_cons_succ List.size_toArray List.length_cons List.length_nil List.take_succ_cons List.take_zero List.drop_succ_cons List.drop_zero List.cons_append List.nil_append List.drop_nil Bool.not_true Bool.not_false Bool.false_eq_true Nat.zero_add Nat.add_zero wrap_in List.toList_toArray List.mem_cons or_self or_false false_or
attribute [local go_sem] ag22 ag24 ag26 ag29 ag3 ag31 ag33 ag5 ag54 ag56 ag69 ag9 by31 by5 by9 el22 el29 el46 el54 of24_0 of24_1 of24_2 of24_3 of26_0 of26_1 of26_2 of31_0 of31_1 of31_2 of31_3 of33_0 of33_1 of33_2 of58_0 of58_1 ro5_1 ro9_1 ro9_3 ro9_4 sz22 sz24 sz26 sz29 sz3 sz31 sz33 sz5 sz54 sz56 sz69 sz9 ze31 ze33 ze5 ze58 ze68 ze81 ze9
-- AUTO

theorem int_bounds {z : Int} (h : (Lit.int .i64 z).wf = true) : -9223372036854775808 ≤ z ∧ z ≤ 9223372036854775807 := by
  have h2 : (decide (IntKind.i64.min ≤ z) && decide (z ≤ IntKind.i64.max)) = true := h
  rw [Bool.and_eq_true, decide_eq_true_eq, decide_eq_true_eq] at h2
  exact h2
theorem itoa_ok (n : Int) (st : St) (h0 : -9223372036854775808 ≤ n) (h1 : n ≤ 9223372036854775807) :
    CallS Tryd.prog 40 [.int .i64 n] st fun r st2 => r = .string ⟨(itoa n).toArray⟩ ∧ st2 = st := by
  refine ⟨⟨_, Tryd.func40, rfl, rfl⟩, fun M w vals hH hV => ?_⟩
  obtain ⟨v, rfl, hv⟩ := hV.one'
  obtain rfl := hv.flat_eq rfl
  have htab := hH.tab.pow (by decide +kernel)
  refine (Tryd.strconv_Itoa n h0 h1 w htab).mono fun e w' ⟨he, k, os, hw⟩ => ?_
  subst hw
  exact ⟨_, _, st, M, he, ⟨rfl, rfl⟩, .fl _ rfl, hH.below (below_grow _ w (Nat.le_refl _) k os)⟩
theorem implFormatInt_ok (n : Int) (st : St) (h0 : -9223372036854775808 ≤ n) (h1 : n ≤ 9223372036854775807) :
    CallS Tryd.prog 35 [.int .i64 n] st fun r st2 => r = .string ⟨(itoa n).toArray⟩ ∧ st2 = st := by
  refine CallS_of_W [] 5 Tryd.func35 rfl rfl rfl rfl (by simp) ?_
  repeat (first | (refine W_reg rfl fun G K hG hK => ?_; simp (disch := omega) only [go_sem, ↓reduceIte, Nat.reduceEqDiff, Nat.reduceAdd, Nat.reduceLeDiff, hG]; refine hK _ _ ?_; clear hK K hG G) | (refine W_end rfl fun G K hG hK => ?_; simp (disch := omega) only [go_sem, ↓reduceIte, Nat.reduceEqDiff, Nat.reduceAdd, Nat.reduceLeDiff, hG]; refine hK _ _ ?_; clear hK K hG G; repeat (first | refine thenI ?_ | refine thenE ?_ | refine thenR ?_ | refine inBI ?_ | refine inBR ?_ | refine inBS ?_ | refine inBN (by decide) ?_)) | refine W_seqS ?_ | refine W_seqC ?_ | refine W_seqB ?_ | refine W_block ?_ | (refine W_skip ?_; repeat (first | refine thenI ?_ | refine thenE ?_ | refine thenR ?_ | refine inBI ?_ | refine inBR ?_ | refine inBS ?_ | refine inBN (by decide) ?_)) | (refine W_condT ?hc ?_; (case hc => (simp (disch := omega) only [go_sem, ↓reduceIte, Nat.reduceEqDiff, Nat.reduceAdd, Nat.reduceLeDiff]; done))) | (refine W_condF ?hc ?_; (case hc => (simp (disch := omega) only [go_sem, ↓reduceIte, Nat.reduceEqDiff, Nat.reduceAdd, Nat.reduceLeDiff]; done))))
  (repeat (first | refine W_seqS ?_ | refine W_seqC ?_ | refine W_seqB ?_ | refine W_block ?_)); refine W_reg rfl fun G K hG hK => ?_; simp (disch := omega) only [go_sem, ↓reduceIte, Nat.reduceEqDiff, Nat.reduceAdd, Nat.reduceLeDiff, hG]
  refine w_call (itoa_ok n st h0 h1) (by simp (disch := omega) only [go_sem, ↓reduceIte, Nat.reduceEqDiff]) ?hl ?_
  case hl => first | rfl | (simp only [go_sem, List.all_cons, List.all_nil, Bool.not_false, Bool.and_self]; done)
  rintro r_ st ⟨rfl, rfl⟩; refine ⟨fun e => (by cases e), ?_⟩
  simp (disch := omega) only [go_sem, ↓reduceIte, Nat.reduceEqDiff, Nat.reduceAdd, Nat.reduceLeDiff, hG]; refine hK _ _ ?_; clear hK K hG G; repeat (first | refine thenI ?_ | refine thenE ?_ | refine thenR ?_ | refine inBI ?_ | refine inBR ?_ | refine inBS ?_ | refine inBN (by decide) ?_)
  refine W_ret ?_; try (repeat (first | refine thenI ?_ | refine thenE ?_ | refine thenR ?_ | refine inBI ?_ | refine inBR ?_ | refine inBS ?_ | refine inBN (by decide) ?_))
  refine fin1 (.inl rfl) (by (simp (disch := omega) only [go_sem, ↓reduceIte, Nat.reduceEqDiff, Nat.reduceAdd, Nat.reduceLeDiff]); try rfl) rfl ⟨rfl, rfl⟩
end Go.Proofs.YtngkedafggfehaaDoor.AM


/- Rows of numbers: laws.toIntS, laws.eqIntS, laws.markIntS, laws.heldIntS. -/
namespace Go.Proofs.YtngkedafggfehaaDoor.AM
open Go Go.Proofs
set_option linter.unusedVariables false
set_option linter.unusedSimpArgs false
set_option maxRecDepth 100000
attribute [local go_sem] List.map_cons List.map_nil List.all_cons List.all_nil Bool.and_self Option.map_some List.getElem?_toArray Option.bind_some gye_b gye_t gsk_b gsk_t gb1 gb2 gb3 gb4 bne_self_eq_false beq_self_eq_true w_guard w_nil stepV_some step_some step_some' w_move w_assign w_pick w_binOp w_unOp w_load w_fieldAddr w_indexAddr w_len w_max w_index ev_max max_int ev_index w_box w_alloc w_store w_field w_extract w_nilCheck w_convert w_buildSlice w_build ev_buildL fillL_nil fillL_cons bs0 bs1 ev_conv ev_bin ev_un ev_pick ev_load ev_fieldAddr ev_indexAddr ev_len ev_field ev_extract ev_nilCheck fr_tmp fr_int fr_bool fr_str fr_nil fr_func put_some put_none bin_lss bin_leq bin_gtr bin_geq bin_eql bin_neq bin_add bin_sub bin_mul bin_seql bin_sneq un_not pick_ ext_ loadA_p cellAt_l cellAt_h okPtr_l okPtr_h fadA_p allocA_l storeA_l cells_agg cells_int cells_str cells_sl cells_bool flat_i flat_s flat_b flat_sl flat_nil loc_agg loc_int loc_str loc_sl loc_bool loc_fn loc_ptr okv_agg okv_int okv_str okv_sl okv_bool cellsFrom splice upd_eval argEnv_zero argEnv_succ ne_eq Nat.add_one_ne_zero not_false_eq_true List.not_mem_nil and_self decide_true List.getElem?_cons_zero List.getElem?_cons_succ List.size_toArray List.length_cons List.length_nil List.take_succ_cons List.take_zero List.drop_succ_cons List.drop_zero List.cons_append List.nil_append List.drop_nil Bool.not_true Bool.not_false Bool.false_eq_true Nat.zero_add Nat.add_zero wrap_in List.toList_toArray List.mem_cons or_self or_false false_or
attribute [local go_sem] ag22 ag24 ag26 ag29 ag3 ag31 ag33 ag5 ag54 ag56 ag69 ag9 by31 by5 by9 el22 el29 el46 el54 of24_0 of24_1 of24_2 of24_3 of26_0 of26_1 of26_2 of31_0 of31_1 of31_2 of31_3 of33_0 of33_1 of33_2 of58_0 of58_1 ro5_1 ro9_1 ro9_3 ro9_4 sz22 sz24 sz26 sz29 sz3 sz31 sz33 sz5 sz54 sz56 sz69 sz9 ze31 ze33 ze5 ze58 ze68 ze81 ze9
-- AUTO

theorem row_atI {st : St} {xs : List Int} {s : Value} (h : Rw st xs s) {j : Nat} {x : Int} (hx : xs[j]? = some x) {n : Nat} (hn : xs.length = n := by rfl) : ∃ i o c, s = .slice (some ⟨i, o, none⟩) n c ∧ cell st i (o + j * 1) = some (.int .i64 x) := by
  subst hn
  obtain ⟨i, o, c, cs, rfl, _, rfl, hc⟩ := row_at h hx
  exact ⟨i, o, c, rfl, hc 0 _ rfl⟩

theorem mkL_ints (xs : List Int) (k : Nat) : (mkL xs k).2 = k + xs.length := by
  induction xs generalizing k with
  | nil => rfl
  | cons x xs ih => simp only [mkL, ih, List.length_cons, Marks.mk1]; omega

end Go.Proofs.YtngkedafggfehaaDoor.AM


/- A text is split at a byte. -/
namespace Go.Proofs.YtngkedafggfehaaDoor.AM
open Go Go.Proofs
set_option linter.unusedVariables false
set_option linter.unusedSimpArgs false

def splitL (c : UInt8) : List UInt8 → List (List UInt8)
  | [] => [[]]
  | x :: xs => if x = c then [] :: splitL c xs else match splitL c xs with
    | [] => [[x]]
    | h :: t => (x :: h) :: t
theorem splitL_noc {c : UInt8} : ∀ {xs : List UInt8}, c ∉ xs → splitL c xs = [xs]
  | [], _ => rfl
  | x :: xs, h => by
    have h1 : x ≠ c := fun e => h (by simp [e])
    have h2 : c ∉ xs := fun e => h (by simp [e])
    simp only [splitL, if_neg h1, splitL_noc h2]
theorem splitL_app {c : UInt8} {ys : List UInt8} : ∀ {xs : List UInt8}, c ∉ xs → splitL c (xs ++ c :: ys) = xs :: splitL c ys
  | [], _ => by simp [splitL]
  | x :: xs, h => by
    have h1 : x ≠ c := fun e => h (by simp [e])
    have h2 : c ∉ xs := fun e => h (by simp [e])
    simp only [List.cons_append, splitL, if_neg h1, splitL_app h2]
theorem splitL_pos (c : UInt8) (xs : List UInt8) : ∃ h t, splitL c xs = h :: t := by
  induction xs with
  | nil => exact ⟨_, _, rfl⟩
  | cons x xs ih =>
    obtain ⟨h, t, e⟩ := ih
    simp only [splitL, e]
    split
    · exact ⟨_, _, rfl⟩
    · exact ⟨_, _, rfl⟩
theorem splitL_each (c : UInt8) : ∀ (xs : List UInt8), ∀ p ∈ splitL c xs, c ∉ p
  | [], p, hp => by simp [splitL] at hp; simp [hp]
  | x :: xs, p, hp => by
    obtain ⟨h, t, e⟩ := splitL_pos c xs
    have ih := splitL_each c xs
    rw [e] at ih
    simp only [splitL, e] at hp
    split at hp
    · rcases List.mem_cons.1 hp with rfl | hp
      · simp
      · exact ih p hp
    · rename_i hx
      rcases List.mem_cons.1 hp with rfl | hp
      · intro hm
        rcases List.mem_cons.1 hm with e | hm
        · exact hx e.symm
        · exact ih h (by simp) hm
      · exact ih p (by simp [hp])
theorem splitL_len (c : UInt8) (xs : List UInt8) : (splitL c xs).length ≤ xs.length + 1 := by
  induction xs with
  | nil => simp [splitL]
  | cons x xs ih =>
    obtain ⟨h, t, e⟩ := splitL_pos c xs
    rw [e] at ih
    simp only [splitL, e, List.length_cons] at ih ⊢
    split <;> simp only [List.length_cons] <;> omega
theorem joinTail_split (c : UInt8) : ∀ (xs : List UInt8), Lib.join (splitL c xs) [c] = xs
  | [] => by simp [splitL, Lib.join_one]
  | x :: xs => by
    have ih := joinTail_split c xs
    obtain ⟨h, t, e⟩ := splitL_pos c xs
    rw [e, Lib.join_cons] at ih
    simp only [splitL, e]
    split
    · rename_i hx
      rw [Lib.join_cons]
      simp only [Lib.joinTail, List.map_cons, List.flatten_cons, List.nil_append, List.singleton_append, List.cons_append] at ih ⊢
      rw [hx]
      congr 1
    · rw [Lib.join_cons]
      simp only [List.cons_append]
      rw [ih]
def splitB (c : UInt8) (s : ByteArray) : List ByteArray := (splitL c s.data.toList).map fun l => ⟨l.toArray⟩
theorem splitB_join (c : UInt8) (s : ByteArray) : Lib.join ((splitB c s).map (·.data.toList)) [c] = s.data.toList := by
  unfold splitB
  rw [List.map_map]
  have : ((fun x : ByteArray => x.data.toList) ∘ fun l : List UInt8 => (⟨l.toArray⟩ : ByteArray)) = id := by funext l; simp
  rw [this, List.map_id, joinTail_split]
theorem splitB_each {c : UInt8} {s p : ByteArray} (h : p ∈ splitB c s) : (splitB c p).length = 1 := by
  obtain ⟨l, hl, rfl⟩ := List.mem_map.1 h
  have := splitL_each c _ l hl
  unfold splitB
  simp [splitL_noc this]
theorem splitL_size (c : UInt8) : ∀ (xs : List UInt8), ∀ p ∈ splitL c xs, p.length ≤ xs.length
  | [], p, hp => by simp [splitL] at hp; simp [hp]
  | x :: xs, p, hp => by
    obtain ⟨h, t, e⟩ := splitL_pos c xs
    have ih := splitL_size c xs
    rw [e] at ih
    simp only [splitL, e] at hp
    split at hp
    · rcases List.mem_cons.1 hp with rfl | hp
      · simp
      · have := ih p hp
        simp only [List.length_cons]; omega
    · rcases List.mem_cons.1 hp with rfl | hp
      · have := ih h (by simp)
        simp only [List.length_cons]; omega
      · have := ih p (by simp [hp])
        simp only [List.length_cons]; omega
theorem splitB_size {c : UInt8} {s p : ByteArray} (h : p ∈ splitB c s) : p.size ≤ s.size := by
  obtain ⟨l, hl, rfl⟩ := List.mem_map.1 h
  have := splitL_size c _ l hl
  show l.toArray.size ≤ s.size
  simpa using this
theorem splitB_len (c : UInt8) (s : ByteArray) : (splitB c s).length ≤ s.size + 1 := by
  unfold splitB
  have := splitL_len c s.data.toList
  rw [List.length_map]
  simpa using this
theorem extract_list (s : ByteArray) (f j : Nat) : (s.extract f j).data.toList = (s.data.toList.drop f).take (j - f) := by
  simp
theorem extract_mk (s : ByteArray) (f j : Nat) : s.extract f j = ⟨((s.data.toList.drop f).take (j - f)).toArray⟩ := by
  apply ByteArray.ext
  apply Array.ext'
  rw [extract_list]
/-- What stands after `j` steps: the parts so far, and where the next one begins. -/
def SplitI (c : UInt8) (s : ByteArray) (j f : Nat) (out : List ByteArray) : Prop :=
  if j = s.size + 1 then out = splitB c s else f ≤ j ∧ j ≤ s.size ∧ (∀ i, f ≤ i → i < j → s.data.toList[i]? ≠ some c) ∧ out ++ (splitL c (s.data.toList.drop f)).map (fun l => (⟨l.toArray⟩ : ByteArray)) = splitB c s ∧ out.length ≤ j
theorem SplitI.zero (c : UInt8) (s : ByteArray) : SplitI c s 0 0 [] := by
  unfold SplitI
  rw [if_neg (by omega)]
  exact ⟨Nat.le_refl _, Nat.zero_le _, fun i h1 h2 => by omega, by simp [splitB], by simp⟩
theorem SplitI.keep {c : UInt8} {s : ByteArray} {j f : Nat} {out : List ByteArray} (h : SplitI c s j f out) (hj : j < s.size) (hc : s.data.toList[j]? ≠ some c) : SplitI c s (j + 1) f out := by
  unfold SplitI at h ⊢
  rw [if_neg (by omega)] at h ⊢
  obtain ⟨h1, h2, h3, h4, h5⟩ := h
  exact ⟨by omega, by omega, fun i q1 q2 => by
    rcases Nat.lt_or_ge i j with h | h
    · exact h3 i q1 h
    · have : i = j := by omega
      subst this; exact hc, h4, by omega⟩
theorem noc_take {c : UInt8} {l : List UInt8} {f j : Nat} (h : ∀ i, f ≤ i → i < j → l[i]? ≠ some c) : c ∉ (l.drop f).take (j - f) := by
  intro hm
  obtain ⟨i, hi, he⟩ := List.getElem_of_mem hm
  have h1 : i < j - f := by simp at hi; omega
  refine h (f + i) (by omega) (by omega) ?_
  rw [List.getElem_take, List.getElem_drop] at he
  rw [← he]
  exact List.getElem?_eq_getElem _
theorem SplitI.cut {c : UInt8} {s : ByteArray} {j f : Nat} {out : List ByteArray} (h : SplitI c s j f out) (hj : j < s.size) (hc : s.data.toList[j]? = some c) : SplitI c s (j + 1) (j + 1) (out ++ [s.extract f j]) := by
  unfold SplitI at h ⊢
  rw [if_neg (by omega)] at h ⊢
  obtain ⟨h1, h2, h3, h4, h5⟩ := h
  have hlt : j < s.data.toList.length := by simpa using hj
  refine ⟨Nat.le_refl _, by omega, fun i q1 q2 => by omega, ?_, by simp; omega⟩
  have e : s.data.toList.drop f = (s.data.toList.drop f).take (j - f) ++ c :: s.data.toList.drop (j + 1) := by
    have e1 : (s.data.toList.drop f).drop (j - f) = c :: s.data.toList.drop (j + 1) := by
      rw [List.drop_drop, show f + (j - f) = j by omega, List.drop_eq_getElem_cons hlt]
      rw [List.getElem?_eq_getElem hlt] at hc
      rw [Option.some.inj hc]
    conv => lhs; rw [← List.take_append_drop (j - f) (s.data.toList.drop f)]
    rw [e1]
  rw [e, splitL_app (noc_take h3)] at h4
  rw [← h4, extract_mk]
  simp
theorem SplitI.last {c : UInt8} {s : ByteArray} {f : Nat} {out : List ByteArray} (h : SplitI c s s.size f out) (g : Nat) : SplitI c s (s.size + 1) g (out ++ [s.extract f s.size]) := by
  unfold SplitI at h ⊢
  rw [if_neg (by omega)] at h
  rw [if_pos rfl]
  obtain ⟨h1, h2, h3, h4, h5⟩ := h
  have hl : s.data.toList.length = s.size := by simp
  have e : s.data.toList.drop f = (s.data.toList.drop f).take (s.size - f) := by
    rw [List.take_of_length_le]; simp
  have h6 := noc_take h3
  rw [← e] at h6
  rw [splitL_noc h6] at h4
  rw [← h4, extract_mk, ← e]
  simp
theorem SplitI.done {c : UInt8} {s : ByteArray} {f : Nat} {out : List ByteArray} (h : SplitI c s (s.size + 1) f out) : out = splitB c s := by
  unfold SplitI at h
  rwa [if_pos rfl] at h
theorem SplitI.in {c : UInt8} {s : ByteArray} {j f : Nat} {out : List ByteArray} (h : SplitI c s j f out) (hj : j ≤ s.size) : f ≤ j ∧ out.length ≤ j := by
  unfold SplitI at h
  rw [if_neg (by omega)] at h
  exact ⟨h.1, h.2.2.2.2⟩
end Go.Proofs.YtngkedafggfehaaDoor.AM


/- A text is split at a byte, and joined: impl.SplitByte, spec.SplitByte, strings.Join, DrawSplitByte. -/
namespace Go.Proofs.YtngkedafggfehaaDoor.AM
open Go Go.Proofs
set_option linter.unusedVariables false
set_option linter.unusedSimpArgs false
set_option maxRecDepth 100000
attribute [local go_sem] List.map_cons List.map_nil List.all_cons List.all_nil Bool.and_self Option.map_some List.getElem?_toArray Option.bind_some gye_b gye_t gsk_b gsk_t gb1 gb2 gb3 gb4 bne_self_eq_false beq_self_eq_true w_guard w_nil stepV_some step_some step_some' w_move w_assign w_pick w_binOp w_unOp w_load w_fieldAddr w_indexAddr w_len w_max w_index ev_max max_int ev_index w_box w_alloc w_store w_field w_extract w_nilCheck w_convert w_buildSlice w_build ev_buildL fillL_nil fillL_cons bs0 bs1 ev_conv ev_bin ev_un ev_pick ev_load ev_fieldAddr ev_indexAddr ev_len ev_field ev_extract ev_nilCheck fr_tmp fr_int fr_bool fr_str fr_nil fr_func put_some put_none bin_lss bin_leq bin_gtr bin_geq bin_eql bin_neq bin_add bin_sub bin_mul bin_seql bin_sneq un_not pick_ ext_ loadA_p cellAt_l cellAt_h okPtr_l okPtr_h fadA_p allocA_l storeA_l cells_agg cells_int cells_str cells_sl cells_bool flat_i flat_s flat_b flat_sl flat_nil loc_agg loc_int loc_str loc_sl loc_bool loc_fn loc_ptr okv_agg okv_int okv_str okv_sl okv_bool cellsFrom splice upd_eval argEnv_zero argEnv_succ ne_eq Nat.add_one_ne_zero not_false_eq_true List.not_mem_nil and_self decide_true List.getElem?_cons_zero List.getElem?_cons_succ List.size_toArray List.length_cons List.length_nil List.take_succ_cons List.take_zero List.drop_succ_cons List.drop_zero List.cons_append List.nil_append List.drop_nil Bool.not_true Bool.not_false Bool.false_eq_true Nat.zero_add Nat.add_zero wrap_in List.toList_toArray List.mem_cons or_self or_false false_or
attribute [local go_sem] ag22 ag24 ag26 ag29 ag3 ag31 ag33 ag5 ag54 ag56 ag69 ag9 by31 by5 by9 el22 el29 el46 el54 of24_0 of24_1 of24_2 of24_3 of26_0 of26_1 of26_2 of31_0 of31_1 of31_2 of31_3 of33_0 of33_1 of33_2 of58_0 of58_1 ro5_1 ro9_1 ro9_3 ro9_4 sz22 sz24 sz26 sz29 sz3 sz31 sz33 sz5 sz54 sz56 sz69 sz9 ze31 ze33 ze5 ze58 ze68 ze81 ze9
-- AUTO

/-- A cell that stands, in the world. -/
theorem HR.cell {P : Program} {B : Base} {M : List ME} {st : St} {w : World} (h : HR P B M st w) {i j : Nat} {m : ME} {x : Value} (hm : M[i]? = some m) (hc : cell st i j = some x) : one x = true ∧ ∃ y, w.cell? ⟨m.b, j, none⟩ = some y ∧ VR M x y := by
  simp only [AM.cell] at hc
  split at hc
  · rename_i blk hb
    split at hc
    · cases hc
    · rename_i hst
      obtain ⟨c, ⟨q, hw, _⟩, _, _, hcr, _⟩ := h.blk i blk m hb hm hst (fun e => by rw [e.2] at hc; simp at hc)
      obtain ⟨h1x, y, hy, hv⟩ : one x = true ∧ ∃ y, c[j]? = some y ∧ VR M x y := by
        split at hc
        · rename_i h1
          cases hq : blk.cells[j]? with
          | none => rw [hq] at hc; cases hc
          | some v =>
            rw [hq] at hc
            simp only at hc
            by_cases hj : isJ v = true
            · rw [if_pos hj] at hc; cases hc
            · rw [if_neg hj] at hc
              obtain rfl := Option.some.inj hc
              exact (hcr j v hq).resolve_left fun e => hj e.2
        · rename_i h1
          exact (hcr.cr h1) j x hc
      exact ⟨h1x, y, by simp [World.cell?, hw, hy], hv⟩
  · cases hc
theorem join_ok (xs : List ByteArray) (sep : ByteArray) (st : St) (s : Value) (hbig : xs.length ≤ 1073741824) (hlen : (Lib.join (xs.map (·.data.toList)) sep.data.toList).length ≤ 140737488355328) (hr : Rw st xs s) :
    CallS Tryd.prog 41 [s, .string sep] st fun r st2 => r = .string ⟨(Lib.join (xs.map (·.data.toList)) sep.data.toList).toArray⟩ ∧ st2 = st := by
  refine ⟨⟨_, Tryd.func41, rfl, rfl⟩, fun M w vals hH hV => ?_⟩
  obtain ⟨v, u, rfl, hv, hu⟩ := hV.two'
  obtain rfl := hu.flat_eq rfl
  have hnil : ∀ a c, xs = [] → v = .slice a 0 c → Calls Tryd.prog 41 #[v, .string sep] w fun e w' => ∃ r v' st' M', e = .returned v' ∧ (r = .string ⟨(Lib.join (xs.map (·.data.toList)) sep.data.toList).toArray⟩ ∧ st' = st) ∧ VR M' r v' ∧ HR Tryd.prog ⟨w, M, st⟩ M' st' w' := by
    rintro a c rfl rfl
    refine (Tryd.strings_Join_none a c sep w).mono fun e w' ⟨he, hw⟩ => ?_
    subst hw
    exact ⟨_, _, st, M, he, ⟨rfl, rfl⟩, .fl _ rfl, hH⟩
  rcases hr with ⟨he, hx⟩ | ⟨i, o, c, rfl, hrow⟩
  · rcases he with rfl | rfl
    · exact hnil none 0 hx (hv.flat_eq rfl)
    · cases hv with
      | fl _ hf => simp [flat1] at hf
      | emp a => exact hnil (some a) 0 hx rfl
  · cases hv with
    | fl _ hf => simp [flat1] at hf
    | sl _ _ o' n k c' m hm hn hc =>
      rcases Nat.eq_zero_or_pos xs.length with h0 | hpos
      · exact hnil _ c' (List.eq_nil_of_length_eq_zero h0) (by rw [h0])
      have ho : o' = o := by
        rcases hc with ⟨h1, _⟩ | h1
        · exact h1
        · omega
      subst ho
      refine (Tryd.strings_Join m.b o' c' xs sep w (fun j x hx => ?_) (hH.lt i m hm) (by omega) hn hlen).mono fun e w' ⟨he, hw⟩ => ⟨_, _, st, M, he, ⟨rfl, rfl⟩, .fl _ rfl, hH.below hw⟩
      obtain ⟨cs, hcl, hE, hcs⟩ := hrow j x hx
      obtain rfl : cs = [.string x] := hE
      obtain ⟨_, y, hy, hvy⟩ := hH.cell hm (hcs 0 (.string x) rfl)
      have := hvy.flat_eq rfl
      subst this
      have e1 : o' + j * Kind.sz ByteArray + 0 = o' + j := by show o' + j * 1 + 0 = _; omega
      rw [e1] at hy
      exact hy
theorem implJoin_ok (xs : List ByteArray) (sep : ByteArray) (st : St) (s : Value) (hbig : xs.length ≤ 1073741824) (hlen : (Lib.join (xs.map (·.data.toList)) sep.data.toList).length ≤ 140737488355328) (hr : Rw st xs s) :
    CallS Tryd.prog 36 [s, .string sep] st fun r st2 => r = .string ⟨(Lib.join (xs.map (·.data.toList)) sep.data.toList).toArray⟩ ∧ st2 = st := by
  refine CallS_of_W [] 8 Tryd.func36 rfl rfl rfl rfl (by simp) ?_
  have q1 := hr.notLoc.1
  repeat (first | (refine W_reg rfl fun G K hG hK => ?_; simp (disch := omega) only [go_sem, ↓reduceIte, Nat.reduceEqDiff, Nat.reduceAdd, Nat.reduceLeDiff, hG, q1]; refine hK _ _ ?_; clear hK K hG G) | (refine W_end rfl fun G K hG hK => ?_; simp (disch := omega) only [go_sem, ↓reduceIte, Nat.reduceEqDiff, Nat.reduceAdd, Nat.reduceLeDiff, hG, q1]; refine hK _ _ ?_; clear hK K hG G; repeat (first | refine thenI ?_ | refine thenE ?_ | refine thenR ?_ | refine inBI ?_ | refine inBR ?_ | refine inBS ?_ | refine inBN (by decide) ?_)) | refine W_seqS ?_ | refine W_seqC ?_ | refine W_seqB ?_ | refine W_block ?_ | (refine W_skip ?_; repeat (first | refine thenI ?_ | refine thenE ?_ | refine thenR ?_ | refine inBI ?_ | refine inBR ?_ | refine inBS ?_ | refine inBN (by decide) ?_)) | (refine W_condT ?hc ?_; (case hc => (simp (disch := omega) only [go_sem, ↓reduceIte, Nat.reduceEqDiff, Nat.reduceAdd, Nat.reduceLeDiff, q1]; done))) | (refine W_condF ?hc ?_; (case hc => (simp (disch := omega) only [go_sem, ↓reduceIte, Nat.reduceEqDiff, Nat.reduceAdd, Nat.reduceLeDiff, q1]; done))))
  (repeat (first | refine W_seqS ?_ | refine W_seqC ?_ | refine W_seqB ?_ | refine W_block ?_)); refine W_reg rfl fun G K hG hK => ?_; simp (disch := omega) only [go_sem, ↓reduceIte, Nat.reduceEqDiff, Nat.reduceAdd, Nat.reduceLeDiff, hG, q1]
  refine w_call (join_ok xs sep st s hbig hlen hr) (by simp (disch := omega) only [go_sem, ↓reduceIte, Nat.reduceEqDiff, q1]) ?hl ?_
  case hl => first | rfl | (simp only [go_sem, List.all_cons, List.all_nil, Bool.not_false, Bool.and_self, q1]; done)
  rintro r_ st ⟨rfl, rfl⟩; refine ⟨fun e => (by cases e), ?_⟩
  simp (disch := omega) only [go_sem, ↓reduceIte, Nat.reduceEqDiff, Nat.reduceAdd, Nat.reduceLeDiff, hG, q1]; refine hK _ _ ?_; clear hK K hG G; repeat (first | refine thenI ?_ | refine thenE ?_ | refine thenR ?_ | refine inBI ?_ | refine inBR ?_ | refine inBS ?_ | refine inBN (by decide) ?_)
  refine W_ret ?_; try (repeat (first | refine thenI ?_ | refine thenE ?_ | refine thenR ?_ | refine inBI ?_ | refine inBR ?_ | refine inBS ?_ | refine inBN (by decide) ?_))
  refine fin1 (.inl rfl) (by (simp (disch := omega) only [go_sem, ↓reduceIte, Nat.reduceEqDiff, Nat.reduceAdd, Nat.reduceLeDiff, q1]); try rfl) rfl ⟨rfl, rfl⟩

end Go.Proofs.YtngkedafggfehaaDoor.AM


/- Positions as texts: spec.Join, impl.FormatPosition, spec.FormatPosition; the law FnExactFormatPosition. -/
namespace Go.Proofs.YtngkedafggfehaaDoor.AM
open Go Go.Proofs
set_option linter.unusedVariables false
set_option linter.unusedSimpArgs false
set_option maxRecDepth 100000
attribute [local go_sem] List.map_cons List.map_nil List.all_cons List.all_nil Bool.and_self Option.map_some List.getElem?_toArray Option.bind_some gye_b gye_t gsk_b gsk_t gb1 gb2 gb3 gb4 bne_self_eq_false beq_self_eq_true w_guard w_nil stepV_some step_some step_some' w_move w_assign w_pick w_binOp w_unOp w_load w_fieldAddr w_indexAddr w_len w_max w_index ev_max max_int ev_index w_box w_alloc w_store w_field w_extract w_nilCheck w_convert w_buildSlice w_build ev_buildL fillL_nil fillL_cons bs0 bs1 ev_conv ev_bin ev_un ev_pick ev_load ev_fieldAddr ev_indexAddr ev_len ev_field ev_extract ev_nilCheck fr_tmp fr_int fr_bool fr_str fr_nil fr_func put_some put_none bin_lss bin_leq bin_gtr bin_geq bin_eql bin_neq bin_add bin_sub bin_mul bin_seql bin_sneq un_not pick_ ext_ loadA_p cellAt_l cellAt_h okPtr_l okPtr_h fadA_p allocA_l storeA_l cells_agg cells_int cells_str cells_sl cells_bool flat_i flat_s flat_b flat_sl flat_nil loc_agg loc_int loc_str loc_sl loc_bool loc_fn loc_ptr okv_agg okv_int okv_str okv_sl okv_bool cellsFrom splice upd_eval argEnv_zero argEnv_succ ne_eq Nat.add_one_ne_zero not_false_eq_true List.not_mem_nil and_self decide_true List.getElem?_cons_zero List.getElem?_cons_succ List.size_toArray List.length_cons List.length_nil List.take_succ_cons List.take_zero List.drop_succ_cons List.drop_zero List.cons_append List.nil_append List.drop_nil Bool.not_true Bool.not_false Bool.false_eq_true Nat.zero_add Nat.add_zero wrap_in List.toList_toArray List.mem_cons or_self or_false false_or
attribute [local go_sem] ag22 ag24 ag26 ag29 ag3 ag31 ag33 ag5 ag54 ag56 ag69 ag9 by31 by5 by9 el22 el29 el46 el54 of24_0 of24_1 of24_2 of24_3 of26_0 of26_1 of26_2 of31_0 of31_1 of31_2 of31_3 of33_0 of33_1 of33_2 of58_0 of58_1 ro5_1 ro9_1 ro9_3 ro9_4 sz22 sz24 sz26 sz29 sz3 sz31 sz33 sz5 sz54 sz56 sz69 sz9 ze31 ze33 ze5 ze58 ze68 ze81 ze9
-- AUTO

instance : Kind UInt8 where
  sz := 1
  e := 5
  enc := fun _ n cs => cs = [.int .u8 n.toNat]
  own := fun _ n cs L => cs = [.int .u8 n.toNat] ∧ L = []
  enc_len := fun _ _ _ h => by rw [h]; rfl
  enc_ext := fun _ _ _ _ _ h => h
  own_len := fun _ _ _ _ h => by rw [h.1]; rfl
  own_lt := fun _ _ _ _ h => by rw [h.2]; intro i hi; cases hi
  own_frame := fun _ _ _ _ _ _ h => h
  own_enc := fun _ _ _ _ h => h.1
theorem rowO_bytes (st : St) : ∀ l : List UInt8, RowO (Kind.own (α := UInt8) st) l (l.map fun b => Value.int .u8 b.toNat) []
  | [] => .nil
  | b :: l => .cons b l [.int .u8 b.toNat] _ [] [] ⟨rfl, rfl⟩ (rowO_bytes st l)
theorem bytes_rowO {st : St} {l : List UInt8} {cs : List Value} {K : List Nat} (h : RowO (Kind.own (α := UInt8) st) l cs K) : cs = l.map fun b => Value.int .u8 b.toNat := by
  induction h with
  | nil => rfl
  | cons x xs cx cs Lx L h hs ih =>
    obtain ⟨rfl, rfl⟩ := h
    rw [ih]; rfl
theorem Sl.appStr {n0 : Nat} {st st2 : St} {xs : List UInt8} {w : ByteArray} {s : Value} {L : List Nat} (h : Sl st xs s L) (hf : Fresh n0 L) (hn0 : n0 ≤ st.length) (hext : Ext st st2) (hbd : xs.length + w.size ≤ 1099511627776) :
    ∃ s' st' L', appendA Tryd.prog 54 9 s (.string w) st2 = some (s', st') ∧ Sl st' (xs ++ w.data.toList) s' L' ∧ Fresh n0 L' ∧ Grow st2 s st' s' := by
  have hwl : w.data.toList.length = w.size := by simp
  have hn : newsA Tryd.prog 9 (0 + 1) (.string w) st2 = some (w.data.toList.length, strCells w) := by
    unfold newsA
    rw [Tryd.underlying9, hwl]
    rfl
  exact SliceO.app (E := Kind.own (α := UInt8)) (fun st st' x cs L => Kind.own_frame st st' x cs L) (fun st x cs L => Kind.own_lt st x cs L) (sz := 0) (fun st x cs L h => Kind.own_len st x cs L h) Tryd.underlying54 sz5 by5 ze5 rfl h hf hn0 hext hn (rowO_bytes st2 _) ⟨by simp, by simp⟩ (by omega) (by omega)
theorem join_snoc (ys : List (List UInt8)) (x sep : List UInt8) (h : ys ≠ []) : Lib.join (ys ++ [x]) sep = Lib.join ys sep ++ sep ++ x := by
  cases ys with
  | nil => exact absurd rfl h
  | cons y r =>
    rw [List.cons_append, Lib.join_cons, Lib.join_cons]
    simp [Lib.joinTail]
theorem Sl.conv {st : St} {o : List UInt8} {r : Value} {L : List Nat} (h : Sl st o r L) (ht : ∃ b, topId r = some b) (A : List Tmp) (loc : Nat → Nat × List Value) : flat r = false ∧ cvB Tryd.prog A 54 9 r loc st = some (.string ⟨o.toArray⟩) := by
  rcases h with ⟨rfl, _⟩ | ⟨i, c, cs, K, rfl, h1, h2, _⟩
  · obtain ⟨b, hb⟩ := ht; cases hb
  · refine ⟨rfl, ?_⟩
    have hsz : (⟨o.toArray⟩ : ByteArray).size = o.length := size_mk o
    have := cvB_str (P := Tryd.prog) (A := A) (loc := loc) (st := st) (t := 54) (u := 9) (e := 5) (q := ⟨o.toArray⟩) (b := i) (o := 0) (c := c) Tryd.underlying54 Tryd.underlying5 Tryd.underlying9 (fun j v hv => by
      rw [cell_of h1, Nat.zero_add, bytes_rowO h2]
      exact hv)
    rw [hsz] at this
    exact this
end Go.Proofs.YtngkedafggfehaaDoor.AM


/- Positions as texts: impl.FormatPosition, spec.FormatPosition; the law FnExactFormatPosition. -/
namespace Go.Proofs.YtngkedafggfehaaDoor.AM
open Go Go.Proofs
set_option linter.unusedVariables false
set_option linter.unusedSimpArgs false
set_option maxRecDepth 100000
attribute [local go_sem] List.map_cons List.map_nil List.all_cons List.all_nil Bool.and_self Option.map_some List.getElem?_toArray Option.bind_some gye_b gye_t gsk_b gsk_t gb1 gb2 gb3 gb4 bne_self_eq_false beq_self_eq_true w_guard w_nil stepV_some step_some step_some' w_move w_assign w_pick w_binOp w_unOp w_load w_fieldAddr w_indexAddr w_len w_max w_index ev_max max_int ev_index w_box w_alloc w_store w_field w_extract w_nilCheck w_convert w_buildSlice w_build ev_buildL fillL_nil fillL_cons bs0 bs1 ev_conv ev_bin ev_un ev_pick ev_load ev_fieldAddr ev_indexAddr ev_len ev_field ev_extract ev_nilCheck fr_tmp fr_int fr_bool fr_str fr_nil fr_func put_some put_none bin_lss bin_leq bin_gtr bin_geq bin_eql bin_neq bin_add bin_sub bin_mul bin_seql bin_sneq un_not pick_ ext_ loadA_p cellAt_l cellAt_h okPtr_l okPtr_h fadA_p allocA_l storeA_l cells_agg cells_int cells_str cells_sl cells_bool flat_i flat_s flat_b flat_sl flat_nil loc_agg loc_int loc_str loc_sl loc_bool loc_fn loc_ptr okv_agg okv_int okv_str okv_sl okv_bool cellsFrom splice upd_eval argEnv_zero argEnv_succ ne_eq Nat.add_one_ne_zero not_false_eq_true List.not_mem_nil and_self decide_true List.getElem?_cons_zero List.getElem?_cons_succ List.size_toArray List.length_cons List.length_nil List.take_succ_cons List.take_zero List.drop_succ_cons List.drop_zero List.cons_append List.nil_append List.drop_nil Bool.not_true Bool.not_false Bool.false_eq_true Nat.zero_add Nat.add_zero wrap_in List.toList_toArray List.mem_cons or_self or_false false_or
attribute [local go_sem] ag22 ag24 ag26 ag29 ag3 ag31 ag33 ag5 ag54 ag56 ag69 ag9 by31 by5 by9 el22 el29 el46 el54 of24_0 of24_1 of24_2 of24_3 of26_0 of26_1 of26_2 of31_0 of31_1 of31_2 of31_3 of33_0 of33_1 of33_2 of58_0 of58_1 ro5_1 ro9_1 ro9_3 ro9_4 sz22 sz24 sz26 sz29 sz3 sz31 sz33 sz5 sz54 sz56 sz69 sz9 ze31 ze33 ze5 ze58 ze68 ze81 ze9
-- AUTO

def itoaB (n : Int) : ByteArray := ⟨(Lib.itoa n).toArray⟩
/-- A position as a text. -/
def fmtPos (p : List Int) : ByteArray := if p = [] then ⟨#[116, 111, 112]⟩ else ⟨(Lib.join ((p.map itoaB).map (·.data.toList)) [46]).toArray⟩
def I64 (n : Int) : Prop := -9223372036854775808 ≤ n ∧ n ≤ 9223372036854775807
theorem itoaB_size {n : Int} (h : I64 n) : (itoaB n).size ≤ 30 := by
  have h1 := Lib.itoa_length_le n h.1 h.2
  unfold itoaB
  rw [size_mk]
  omega
theorem dotB : (⟨#[46]⟩ : ByteArray).data.toList = [46] := rfl
theorem pushS {st0 st : St} {xs : List ByteArray} {s : Value} {L : List Nat} {w : ByteArray} (h : Sl st xs s L) (hf : Fresh st0.length L) (hx : Ext st0 st) (hb : xs.length + 1 ≤ 1099511627776) :
    ∃ s' st' L', appendA Tryd.prog 46 46 s (.slice (some ⟨st.length, 0, none⟩) 1 1) (st ++ [⟨[.string w], 9, 0⟩]) = some (s', st') ∧ Sl st' (xs ++ [w]) s' L' ∧ Fresh st0.length L' ∧ Ext st0 st' := by
  obtain ⟨s', st', L', hap, h1, h2, h3⟩ := Sl.push (α := ByteArray) (t := 46) (u := 46) Tryd.underlying46 Tryd.underlying46 sz9 rfl by9 ze9 rfl h hf hx.length (Ext.refl st) (x := w) (cx := [.string w]) (Lx := []) ⟨rfl, rfl⟩ ⟨by simp, by simp⟩ (by omega) (by omega)
  exact ⟨s', st', L', hap, h1, h2, h3.away.ext_of hx (h.top hf)⟩
theorem join_le (l : List (List UInt8)) (sep : List UInt8) (B : Nat) (h : ∀ x ∈ l, x.length ≤ B) (hs : sep.length ≤ B) : (Lib.join l sep).length ≤ 2 * B * l.length := by
  cases l with
  | nil => simp [Lib.join_nil]
  | cons x r =>
    rw [Lib.join_cons, List.length_append]
    have hr : ∀ r : List (List UInt8), (∀ y ∈ r, y.length ≤ B) → (Lib.joinTail sep r).length ≤ 2 * B * r.length := by
      intro r
      induction r with
      | nil => intro _; simp [Lib.joinTail]
      | cons y r ih =>
        intro h
        have h1 := ih fun z hz => h z (by simp [hz])
        have h2 := h y (by simp)
        have e : Lib.joinTail sep (y :: r) = (sep ++ y) ++ Lib.joinTail sep r := by simp [Lib.joinTail]
        rw [e, List.length_append, List.length_append, List.length_cons, Nat.mul_add]
        omega
    have h1 := hr r fun y hy => h y (by simp [hy])
    have h2 := h x (by simp)
    rw [List.length_cons, Nat.mul_add]
    omega
end Go.Proofs.YtngkedafggfehaaDoor.AM

