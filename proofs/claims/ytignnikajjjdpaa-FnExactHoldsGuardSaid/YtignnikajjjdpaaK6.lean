/- Guards: laws.szGuard, toGuard, eqGuard, markGuard, heldGuard. -/
import Derived.Test.YtignnikajjjdpaaL0
import Derived.Test.YtignnikajjjdpaaC0
namespace Go.Proofs.Ytignnikajjjdpaa.AM
open Go Go.Proofs
set_option linter.unusedVariables false
set_option linter.unusedSimpArgs false
set_option maxRecDepth 100000
attribute [local go_sem] List.map_cons List.map_nil List.all_cons List.all_nil Bool.and_self Option.map_some List.getElem?_toArray Option.bind_some gye_b gye_t gsk_b gsk_t gb1 gb2 gb3 gb4 bne_self_eq_false beq_self_eq_true w_guard w_nil stepV_some step_some step_some' w_move w_assign w_pick w_binOp w_unOp w_load w_fieldAddr w_indexAddr w_len w_box w_alloc w_store w_field w_extract w_nilCheck w_convert w_buildSlice w_build ev_buildL fillL_nil fillL_cons bs0 bs1 ev_conv ev_bin ev_un ev_pick ev_load ev_fieldAddr ev_indexAddr ev_len ev_field ev_extract ev_nilCheck fr_tmp fr_int fr_bool fr_str fr_nil fr_func put_some put_none bin_lss bin_leq bin_gtr bin_geq bin_eql bin_neq bin_add bin_sub bin_mul bin_seql bin_sneq un_not pick_ ext_ loadA_p cellAt_l cellAt_h okPtr_l okPtr_h fadA_p allocA_l storeA_l cells_agg cells_int cells_str cells_sl cells_bool flat_i flat_s flat_b flat_sl flat_nil loc_agg loc_int loc_str loc_sl loc_bool loc_fn loc_ptr okv_agg okv_int okv_str okv_sl okv_bool cellsFrom splice upd_eval argEnv_zero argEnv_succ ne_eq Nat.add_one_ne_zero not_false_eq_true List.not_mem_nil and_self decide_true List.getElem?_cons_zero List.getElem?_cons_succ List.size_toArray List.length_cons List.length_nil List.take_succ_cons List.take_zero List.drop_succ_cons List.drop_zero List.cons_append List.nil_append List.drop_nil Bool.not_true Bool.not_false Bool.false_eq_true Nat.zero_add Nat.add_zero wrap_in List.toList_toArray List.mem_cons or_self or_false false_or
attribute [local go_sem] ag22 ag24 ag26 ag29 ag3 ag31 ag33 ag9 bu31 by31 by9 el22 el29 el46 of24_0 of24_1 of24_2 of24_3 of26_0 of26_1 of26_2 of31_0 of31_1 of31_2 of31_3 of33_0 of33_1 of33_2 ro31_1 ro9_0 ro9_1 sz22 sz24 sz26 sz29 sz3 sz31 sz33 sz9 ze31 ze33 ze9
-- AUTO

/-- A guard. -/
structure Grd where
  k : Int
  l : T
  r : T
def EncG (st : St) (g : Grd) (cs : List Value) : Prop := ∃ c1 c2, cs = .int .i64 g.k :: (c1 ++ c2) ∧ Enc st g.l c1 ∧ Enc st g.r c2
def OwnG (st : St) (g : Grd) (cs : List Value) (L : List Nat) : Prop := ∃ c1 c2 L1 L2, cs = .int .i64 g.k :: (c1 ++ c2) ∧ OwnT st g.l c1 L1 ∧ OwnT st g.r c2 L2 ∧ L = L1 ++ L2
def LensG (g : Grd) : Prop := Lens g.l ∧ Lens g.r
def LimG (B : Nat) (g : Grd) : Prop := Lim B g.l ∧ Lim B g.r
instance : Wt Grd := ⟨fun g => g.l.wt + g.r.wt⟩
def Grd.mk0 (g : Grd) (k : Nat) : Grd × Nat := (⟨g.k, (g.l.mk0 k).1, (g.r.mk0 (g.l.mk0 k).2).1⟩, (g.r.mk0 (g.l.mk0 k).2).2)
theorem Grd.lim_of {g : Grd} (h : Wt.wt g ≤ 1048576) : LimG 1073741824 g := by
  have : Wt.wt g = g.l.wt + g.r.wt := rfl
  exact ⟨Lim.of_wt _ (by omega), Lim.of_wt _ (by omega)⟩
theorem Grd.limN_of {g : Grd} (h : Wt.wt g ≤ 1048576) : LimN 1073741824 g.l ∧ LimN 1073741824 g.r := by
  have : Wt.wt g = g.l.wt + g.r.wt := rfl
  exact ⟨LimN.of_wt _ (by omega), LimN.of_wt _ (by omega)⟩
theorem Grd.lim_le {g : Grd} (h : LimG 1073741824 g) : LimG 4611686018427387904 g := ⟨Lim.le (by omega) _ h.1, Lim.le (by omega) _ h.2⟩
theorem Grd.mk0_wt (g : Grd) (k : Nat) : (g.mk0 k).2 ≤ k + 3 * Wt.wt g := by
  have h1 := T.mk0_wt g.l k
  have h2 := T.mk0_wt g.r (g.l.mk0 k).2
  have : Wt.wt g = g.l.wt + g.r.wt := rfl
  simp only [Grd.mk0]
  omega
theorem EncG.ext {st st' : St} {g : Grd} {cs : List Value} (h : EncG st g cs) (hx : Ext st st') : EncG st' g cs := by
  obtain ⟨c1, c2, rfl, h1, h2⟩ := h
  exact ⟨c1, c2, rfl, Enc.ext hx _ _ h1, Enc.ext hx _ _ h2⟩
theorem OwnG.enc {st : St} {g : Grd} {cs : List Value} {L : List Nat} (h : OwnG st g cs L) : EncG st g cs := by
  obtain ⟨c1, c2, L1, L2, rfl, h1, h2, rfl⟩ := h
  exact ⟨c1, c2, rfl, h1.enc, h2.enc⟩
theorem OwnG.ext {st st' : St} {g : Grd} {cs : List Value} {L : List Nat} (h : OwnG st g cs L) (hx : Ext st st') : OwnG st' g cs L := by
  obtain ⟨c1, c2, L1, L2, rfl, h1, h2, rfl⟩ := h
  exact ⟨c1, c2, L1, L2, rfl, h1.ext hx, h2.ext hx, rfl⟩
theorem OwnG.lt {st : St} {g : Grd} {cs : List Value} {L : List Nat} (h : OwnG st g cs L) : ∀ i ∈ L, i < st.length := by
  obtain ⟨c1, c2, L1, L2, rfl, h1, h2, rfl⟩ := h
  intro i hi
  rcases List.mem_append.1 hi with hi | hi
  · exact Own.lt _ _ _ h1 i hi
  · exact Own.lt _ _ _ h2 i hi
theorem OwnG.other {st st' : St} {g : Grd} {cs : List Value} {L K : List Nat} (h : OwnG st g cs L) (hot : ∀ i, i < st.length → i ∉ K → st'[i]? = st[i]?) (hd : ∀ i ∈ L, i ∉ K) : OwnG st' g cs L := by
  obtain ⟨c1, c2, L1, L2, rfl, h1, h2, rfl⟩ := h
  exact ⟨c1, c2, L1, L2, rfl, h1.other hot fun i hi => hd i (by simp [hi]), h2.other hot fun i hi => hd i (by simp [hi]), rfl⟩
theorem OwnG.apart {st : St} {g : Grd} {cs : List Value} {L K : List Nat} (h : OwnG st g cs L) (hf : Fresh st.length K) : ∀ i ∈ L, i ∉ K := fun i hi hk => by
  have h1 := h.lt i hi
  have h2 := hf.2 i hk
  omega
theorem EncG.arg_cells {st : St} {g : Grd} {cs : List Value} (h : EncG st g cs) : ∃ kl nl ml sl kr nr mr sr, cs = [.int .i64 g.k, .int .i64 kl, .int .i64 nl, .string ml, sl, .int .i64 kr, .int .i64 nr, .string mr, sr] ∧ isLoc sl = false ∧ okv sl = true ∧ isLoc sr = false ∧ okv sr = true := by
  obtain ⟨c1, c2, rfl, h1, h2⟩ := h
  obtain ⟨gk, ⟨kl, nl, ml, al⟩, ⟨kr, nr, mr, ar⟩⟩ := g
  obtain ⟨sl, rfl, hl⟩ := h1.open
  obtain ⟨sr, rfl, hr⟩ := h2.open
  exact ⟨kl, nl, ml, sl, kr, nr, mr, sr, rfl, hl.notLoc.1, hl.notLoc.2, hr.notLoc.1, hr.notLoc.2⟩
theorem OwnG.args_cells {st : St} {g : Grd} {cs : List Value} {L : List Nat} (h : OwnG st g cs L) : ∃ k kl nl ml sl kr nr mr sr, cs = [.int .i64 k, .int .i64 kl, .int .i64 nl, .string ml, sl, .int .i64 kr, .int .i64 nr, .string mr, sr] ∧ okv sl = true ∧ isLoc sl = false ∧ vc sl = #[sl] ∧ okv sr = true ∧ isLoc sr = false ∧ vc sr = #[sr] := by
  obtain ⟨c1, c2, L1, L2, rfl, h1, h2, rfl⟩ := h
  obtain ⟨kl, nl, ml, sl, rfl, a1, a2, a3⟩ := h1.args_cells
  obtain ⟨kr, nr, mr, sr, rfl, b1, b2, b3⟩ := h2.args_cells
  exact ⟨_, kl, nl, ml, sl, kr, nr, mr, sr, rfl, a1, a2, a3, b1, b2, b3⟩
/-- A guard's cells, and what of it they are. -/
theorem EncG.cells {st : St} {g : Grd} {cs : List Value} (h : EncG st g cs) : ∃ kl nl ml sl kr nr mr sr, cs = [.int .i64 g.k, .int .i64 kl, .int .i64 nl, .string ml, sl, .int .i64 kr, .int .i64 nr, .string mr, sr] ∧ Enc st g.l [.int .i64 kl, .int .i64 nl, .string ml, sl] ∧ Enc st g.r [.int .i64 kr, .int .i64 nr, .string mr, sr] ∧ isLoc sl = false ∧ okv sl = true ∧ isLoc sr = false ∧ okv sr = true := by
  obtain ⟨c1, c2, rfl, h1, h2⟩ := h
  obtain ⟨gk, ⟨kl, nl, ml, al⟩, ⟨kr, nr, mr, ar⟩⟩ := g
  obtain ⟨sl, rfl, hl⟩ := h1.open
  obtain ⟨sr, rfl, hr⟩ := h2.open
  exact ⟨kl, nl, ml, sl, kr, nr, mr, sr, rfl, h1, h2, hl.notLoc.1, hl.notLoc.2, hr.notLoc.1, hr.notLoc.2⟩

theorem szGuard_ok (g : Grd) (st : St) (cs : List Value) (left : Int) (hL : LensG g) (h0 : 0 ≤ left) (h1 : left ≤ 1073741824) (hE : EncG st g cs) :
    CallS Try.prog 4 [.agg cs.toArray, .int .i64 left] st fun r st' => r = .int .i64 (if (Wt.wt g : Int) ≤ left then left - (Wt.wt g : Nat) else -1) ∧ st' = st := by
  refine CallS_of_W [] 18 Try.func4 rfl rfl rfl rfl (by simp) ?_
  obtain ⟨kl, nl, ml, sl, kr, nr, mr, sr, rfl, El, Er, q1, q2, q3, q4⟩ := hE.cells
  have hw : Wt.wt g = g.l.wt + g.r.wt := rfl
  have d1 : decide ((-1 : Int) < 0) = true := by decide
  repeat (first | (refine W_reg rfl fun G K hG hK => ?_; simp (disch := omega) only [go_sem, ↓reduceIte, Nat.reduceEqDiff, Nat.reduceAdd, Nat.reduceLeDiff, hG, q1, q2, q3, q4, d1]; refine hK _ _ ?_; clear hK K hG G) | (refine W_end rfl fun G K hG hK => ?_; simp (disch := omega) only [go_sem, ↓reduceIte, Nat.reduceEqDiff, Nat.reduceAdd, Nat.reduceLeDiff, hG, q1, q2, q3, q4, d1]; refine hK _ _ ?_; clear hK K hG G; repeat (first | refine thenI ?_ | refine thenE ?_ | refine thenR ?_ | refine inBI ?_ | refine inBR ?_ | refine inBS ?_ | refine inBN (by decide) ?_)) | refine W_seqS ?_ | refine W_seqC ?_ | refine W_seqB ?_ | refine W_block ?_ | (refine W_skip ?_; repeat (first | refine thenI ?_ | refine thenE ?_ | refine thenR ?_ | refine inBI ?_ | refine inBR ?_ | refine inBS ?_ | refine inBN (by decide) ?_)) | (refine W_condT ?hc ?_; (case hc => (simp (disch := omega) only [go_sem, ↓reduceIte, Nat.reduceEqDiff, Nat.reduceAdd, Nat.reduceLeDiff, q1, q2, q3, q4, d1]; done))) | (refine W_condF ?hc ?_; (case hc => (simp (disch := omega) only [go_sem, ↓reduceIte, Nat.reduceEqDiff, Nat.reduceAdd, Nat.reduceLeDiff, q1, q2, q3, q4, d1]; done))))
  (repeat (first | refine W_seqS ?_ | refine W_seqC ?_ | refine W_seqB ?_ | refine W_block ?_)); refine W_reg rfl fun G K hG hK => ?_; simp (disch := omega) only [go_sem, ↓reduceIte, Nat.reduceEqDiff, Nat.reduceAdd, Nat.reduceLeDiff, hG, q1, q2, q3, q4, d1]
  refine w_call (szTerm_ok g.l st _ left hL.1 h0 h1 El) (by simp (disch := omega) only [go_sem, ↓reduceIte, Nat.reduceEqDiff, q1, q2, q3, q4, d1]) ?hl ?_
  case hl => first | rfl | (simp only [go_sem, List.all_cons, List.all_nil, Bool.not_false, Bool.and_self, q1, q2, q3, q4, d1]; done)
  rintro r_ st ⟨rfl, rfl⟩; refine ⟨fun e => (by cases e), ?_⟩
  simp (disch := omega) only [go_sem, ↓reduceIte, Nat.reduceEqDiff, Nat.reduceAdd, Nat.reduceLeDiff, hG, q1, q2, q3, q4, d1]; refine hK _ _ ?_; clear hK K hG G; repeat (first | refine thenI ?_ | refine thenE ?_ | refine thenR ?_ | refine inBI ?_ | refine inBR ?_ | refine inBS ?_ | refine inBN (by decide) ?_)
  by_cases hq : (g.l.wt : Int) ≤ left
  case neg =>
    rw [if_neg hq]
    repeat (first | (refine W_reg rfl fun G K hG hK => ?_; simp (disch := omega) only [go_sem, ↓reduceIte, Nat.reduceEqDiff, Nat.reduceAdd, Nat.reduceLeDiff, hG, q1, q2, q3, q4, d1]; refine hK _ _ ?_; clear hK K hG G) | (refine W_end rfl fun G K hG hK => ?_; simp (disch := omega) only [go_sem, ↓reduceIte, Nat.reduceEqDiff, Nat.reduceAdd, Nat.reduceLeDiff, hG, q1, q2, q3, q4, d1]; refine hK _ _ ?_; clear hK K hG G; repeat (first | refine thenI ?_ | refine thenE ?_ | refine thenR ?_ | refine inBI ?_ | refine inBR ?_ | refine inBS ?_ | refine inBN (by decide) ?_)) | refine W_seqS ?_ | refine W_seqC ?_ | refine W_seqB ?_ | refine W_block ?_ | (refine W_skip ?_; repeat (first | refine thenI ?_ | refine thenE ?_ | refine thenR ?_ | refine inBI ?_ | refine inBR ?_ | refine inBS ?_ | refine inBN (by decide) ?_)) | (refine W_condT ?hc ?_; (case hc => (simp (disch := omega) only [go_sem, ↓reduceIte, Nat.reduceEqDiff, Nat.reduceAdd, Nat.reduceLeDiff, q1, q2, q3, q4, d1]; done))) | (refine W_condF ?hc ?_; (case hc => (simp (disch := omega) only [go_sem, ↓reduceIte, Nat.reduceEqDiff, Nat.reduceAdd, Nat.reduceLeDiff, q1, q2, q3, q4, d1]; done))))
    refine W_ret ?_; try (repeat (first | refine thenI ?_ | refine thenE ?_ | refine thenR ?_ | refine inBI ?_ | refine inBR ?_ | refine inBS ?_ | refine inBN (by decide) ?_))
    refine fin1 (.inl rfl) (by (simp (disch := omega) only [go_sem, ↓reduceIte, Nat.reduceEqDiff, Nat.reduceAdd, Nat.reduceLeDiff, q1, q2, q3, q4, d1]); try rfl) rfl ⟨?_, rfl⟩
    rw [if_neg (by omega)]
  rw [if_pos hq]
  have c2 : decide (left - (g.l.wt : Int) < 0) = false := by simp; omega
  repeat (first | (refine W_reg rfl fun G K hG hK => ?_; simp (disch := omega) only [go_sem, ↓reduceIte, Nat.reduceEqDiff, Nat.reduceAdd, Nat.reduceLeDiff, hG, q1, q2, q3, q4, d1, c2]; refine hK _ _ ?_; clear hK K hG G) | (refine W_end rfl fun G K hG hK => ?_; simp (disch := omega) only [go_sem, ↓reduceIte, Nat.reduceEqDiff, Nat.reduceAdd, Nat.reduceLeDiff, hG, q1, q2, q3, q4, d1, c2]; refine hK _ _ ?_; clear hK K hG G; repeat (first | refine thenI ?_ | refine thenE ?_ | refine thenR ?_ | refine inBI ?_ | refine inBR ?_ | refine inBS ?_ | refine inBN (by decide) ?_)) | refine W_seqS ?_ | refine W_seqC ?_ | refine W_seqB ?_ | refine W_block ?_ | (refine W_skip ?_; repeat (first | refine thenI ?_ | refine thenE ?_ | refine thenR ?_ | refine inBI ?_ | refine inBR ?_ | refine inBS ?_ | refine inBN (by decide) ?_)) | (refine W_condT ?hc ?_; (case hc => (simp (disch := omega) only [go_sem, ↓reduceIte, Nat.reduceEqDiff, Nat.reduceAdd, Nat.reduceLeDiff, q1, q2, q3, q4, d1, c2]; done))) | (refine W_condF ?hc ?_; (case hc => (simp (disch := omega) only [go_sem, ↓reduceIte, Nat.reduceEqDiff, Nat.reduceAdd, Nat.reduceLeDiff, q1, q2, q3, q4, d1, c2]; done))))
  (repeat (first | refine W_seqS ?_ | refine W_seqC ?_ | refine W_seqB ?_ | refine W_block ?_)); refine W_reg rfl fun G K hG hK => ?_; simp (disch := omega) only [go_sem, ↓reduceIte, Nat.reduceEqDiff, Nat.reduceAdd, Nat.reduceLeDiff, hG, q1, q2, q3, q4, d1]
  refine w_call (szTerm_ok g.r st _ (left - g.l.wt) hL.2 (by omega) (by omega) Er) (by simp (disch := omega) only [go_sem, ↓reduceIte, Nat.reduceEqDiff, q1, q2, q3, q4, d1]) ?hl ?_
  case hl => first | rfl | (simp only [go_sem, List.all_cons, List.all_nil, Bool.not_false, Bool.and_self, q1, q2, q3, q4, d1]; done)
  rintro r_ st ⟨rfl, rfl⟩; refine ⟨fun e => (by cases e), ?_⟩
  simp (disch := omega) only [go_sem, ↓reduceIte, Nat.reduceEqDiff, Nat.reduceAdd, Nat.reduceLeDiff, hG, q1, q2, q3, q4, d1]; refine hK _ _ ?_; clear hK K hG G; repeat (first | refine thenI ?_ | refine thenE ?_ | refine thenR ?_ | refine inBI ?_ | refine inBR ?_ | refine inBS ?_ | refine inBN (by decide) ?_)
  by_cases hq2 : (g.r.wt : Int) ≤ left - g.l.wt
  case neg =>
    rw [if_neg hq2]
    repeat (first | (refine W_reg rfl fun G K hG hK => ?_; simp (disch := omega) only [go_sem, ↓reduceIte, Nat.reduceEqDiff, Nat.reduceAdd, Nat.reduceLeDiff, hG, q1, q2, q3, q4, d1]; refine hK _ _ ?_; clear hK K hG G) | (refine W_end rfl fun G K hG hK => ?_; simp (disch := omega) only [go_sem, ↓reduceIte, Nat.reduceEqDiff, Nat.reduceAdd, Nat.reduceLeDiff, hG, q1, q2, q3, q4, d1]; refine hK _ _ ?_; clear hK K hG G; repeat (first | refine thenI ?_ | refine thenE ?_ | refine thenR ?_ | refine inBI ?_ | refine inBR ?_ | refine inBS ?_ | refine inBN (by decide) ?_)) | refine W_seqS ?_ | refine W_seqC ?_ | refine W_seqB ?_ | refine W_block ?_ | (refine W_skip ?_; repeat (first | refine thenI ?_ | refine thenE ?_ | refine thenR ?_ | refine inBI ?_ | refine inBR ?_ | refine inBS ?_ | refine inBN (by decide) ?_)) | (refine W_condT ?hc ?_; (case hc => (simp (disch := omega) only [go_sem, ↓reduceIte, Nat.reduceEqDiff, Nat.reduceAdd, Nat.reduceLeDiff, q1, q2, q3, q4, d1]; done))) | (refine W_condF ?hc ?_; (case hc => (simp (disch := omega) only [go_sem, ↓reduceIte, Nat.reduceEqDiff, Nat.reduceAdd, Nat.reduceLeDiff, q1, q2, q3, q4, d1]; done))))
    refine W_ret ?_; try (repeat (first | refine thenI ?_ | refine thenE ?_ | refine thenR ?_ | refine inBI ?_ | refine inBR ?_ | refine inBS ?_ | refine inBN (by decide) ?_))
    refine fin1 (.inl rfl) (by (simp (disch := omega) only [go_sem, ↓reduceIte, Nat.reduceEqDiff, Nat.reduceAdd, Nat.reduceLeDiff, q1, q2, q3, q4, d1]); try rfl) rfl ⟨?_, rfl⟩
    rw [if_neg (by omega)]
  rw [if_pos hq2]
  have c3 : decide (left - (g.l.wt : Int) - (g.r.wt : Int) < 0) = false := by simp; omega
  repeat (first | (refine W_reg rfl fun G K hG hK => ?_; simp (disch := omega) only [go_sem, ↓reduceIte, Nat.reduceEqDiff, Nat.reduceAdd, Nat.reduceLeDiff, hG, q1, q2, q3, q4, d1, c3]; refine hK _ _ ?_; clear hK K hG G) | (refine W_end rfl fun G K hG hK => ?_; simp (disch := omega) only [go_sem, ↓reduceIte, Nat.reduceEqDiff, Nat.reduceAdd, Nat.reduceLeDiff, hG, q1, q2, q3, q4, d1, c3]; refine hK _ _ ?_; clear hK K hG G; repeat (first | refine thenI ?_ | refine thenE ?_ | refine thenR ?_ | refine inBI ?_ | refine inBR ?_ | refine inBS ?_ | refine inBN (by decide) ?_)) | refine W_seqS ?_ | refine W_seqC ?_ | refine W_seqB ?_ | refine W_block ?_ | (refine W_skip ?_; repeat (first | refine thenI ?_ | refine thenE ?_ | refine thenR ?_ | refine inBI ?_ | refine inBR ?_ | refine inBS ?_ | refine inBN (by decide) ?_)) | (refine W_condT ?hc ?_; (case hc => (simp (disch := omega) only [go_sem, ↓reduceIte, Nat.reduceEqDiff, Nat.reduceAdd, Nat.reduceLeDiff, q1, q2, q3, q4, d1, c3]; done))) | (refine W_condF ?hc ?_; (case hc => (simp (disch := omega) only [go_sem, ↓reduceIte, Nat.reduceEqDiff, Nat.reduceAdd, Nat.reduceLeDiff, q1, q2, q3, q4, d1, c3]; done))))
  refine W_ret ?_; try (repeat (first | refine thenI ?_ | refine thenE ?_ | refine thenR ?_ | refine inBI ?_ | refine inBR ?_ | refine inBS ?_ | refine inBN (by decide) ?_))
  refine fin1 (.inl rfl) (by (simp (disch := omega) only [go_sem, ↓reduceIte, Nat.reduceEqDiff, Nat.reduceAdd, Nat.reduceLeDiff, q1, q2, q3, q4, d1]); try rfl) rfl ⟨?_, rfl⟩
  have e : left - (g.l.wt : Int) - (g.r.wt : Int) = left - ((Wt.wt g : Nat) : Int) := by omega
  rw [if_pos (by omega), e]

theorem toGuard_ok (g : Grd) (st : St) (cs : List Value) (hl : LimG 1073741824 g) (hE : EncG st g cs) :
    CallS Try.prog 6 [.agg cs.toArray] st fun r st2 => Ext st st2 ∧ ∃ ds L, r = .agg ds.toArray ∧ OwnG st2 g ds L ∧ Fresh st.length L := by
  refine CallS_of_W [] 16 Try.func6 rfl rfl rfl rfl (by simp) ?_
  obtain ⟨kl, nl, ml, sl, kr, nr, mr, sr, rfl, El, Er, q1, q2, q3, q4⟩ := hE.cells
  repeat (first | (refine W_reg rfl fun G K hG hK => ?_; simp (disch := omega) only [go_sem, ↓reduceIte, Nat.reduceEqDiff, Nat.reduceAdd, Nat.reduceLeDiff, hG, q1, q2, q3, q4]; refine hK _ _ ?_; clear hK K hG G) | (refine W_end rfl fun G K hG hK => ?_; simp (disch := omega) only [go_sem, ↓reduceIte, Nat.reduceEqDiff, Nat.reduceAdd, Nat.reduceLeDiff, hG, q1, q2, q3, q4]; refine hK _ _ ?_; clear hK K hG G; repeat (first | refine thenI ?_ | refine thenE ?_ | refine thenR ?_ | refine inBI ?_ | refine inBR ?_ | refine inBS ?_ | refine inBN (by decide) ?_)) | refine W_seqS ?_ | refine W_seqC ?_ | refine W_seqB ?_ | refine W_block ?_ | (refine W_skip ?_; repeat (first | refine thenI ?_ | refine thenE ?_ | refine thenR ?_ | refine inBI ?_ | refine inBR ?_ | refine inBS ?_ | refine inBN (by decide) ?_)) | (refine W_condT ?hc ?_; (case hc => (simp (disch := omega) only [go_sem, ↓reduceIte, Nat.reduceEqDiff, Nat.reduceAdd, Nat.reduceLeDiff, q1, q2, q3, q4]; done))) | (refine W_condF ?hc ?_; (case hc => (simp (disch := omega) only [go_sem, ↓reduceIte, Nat.reduceEqDiff, Nat.reduceAdd, Nat.reduceLeDiff, q1, q2, q3, q4]; done))))
  (repeat (first | refine W_seqS ?_ | refine W_seqC ?_ | refine W_seqB ?_ | refine W_block ?_)); refine W_reg rfl fun G K hG hK => ?_; simp (disch := omega) only [go_sem, ↓reduceIte, Nat.reduceEqDiff, Nat.reduceAdd, Nat.reduceLeDiff, hG, q1, q2, q3, q4]
  refine w_call (toTerm_ok g.l st _ hl.1 El) (by simp (disch := omega) only [go_sem, ↓reduceIte, Nat.reduceEqDiff, q1, q2, q3, q4]) ?hl ?_
  case hl => first | rfl | (simp only [go_sem, List.all_cons, List.all_nil, Bool.not_false, Bool.and_self, q1, q2, q3, q4]; done)
  rintro r_ sa ⟨x1, d1, L1, rfl, o1, f1⟩; refine ⟨fun e => (by cases e), ?_⟩
  obtain ⟨k1, n1, m1, s1, rfl, a1, a2, a3⟩ := o1.args_cells
  simp (disch := omega) only [go_sem, ↓reduceIte, Nat.reduceEqDiff, Nat.reduceAdd, Nat.reduceLeDiff, hG, q1, q2, q3, q4, a1, a2, a3]; refine hK _ _ ?_; clear hK K hG G; repeat (first | refine thenI ?_ | refine thenE ?_ | refine thenR ?_ | refine inBI ?_ | refine inBR ?_ | refine inBS ?_ | refine inBN (by decide) ?_)
  (repeat (first | refine W_seqS ?_ | refine W_seqC ?_ | refine W_seqB ?_ | refine W_block ?_)); refine W_reg rfl fun G K hG hK => ?_; simp (disch := omega) only [go_sem, ↓reduceIte, Nat.reduceEqDiff, Nat.reduceAdd, Nat.reduceLeDiff, hG, q1, q2, q3, q4, a1, a2, a3]
  refine w_call (toTerm_ok g.r sa _ hl.2 (Enc.ext x1 _ _ Er)) (by simp (disch := omega) only [go_sem, ↓reduceIte, Nat.reduceEqDiff, q1, q2, q3, q4, a1, a2, a3]) ?hl ?_
  case hl => first | rfl | (simp only [go_sem, List.all_cons, List.all_nil, Bool.not_false, Bool.and_self, q1, q2, q3, q4, a1, a2, a3]; done)
  rintro r_ sb ⟨x2, d2, L2, rfl, o2, f2⟩; refine ⟨fun e => (by cases e), ?_⟩
  obtain ⟨k2, n2, m2, s2, rfl, b1, b2, b3⟩ := o2.args_cells
  simp (disch := omega) only [go_sem, ↓reduceIte, Nat.reduceEqDiff, Nat.reduceAdd, Nat.reduceLeDiff, hG, q1, q2, q3, q4, a1, a2, a3, b1, b2, b3]; refine hK _ _ ?_; clear hK K hG G; repeat (first | refine thenI ?_ | refine thenE ?_ | refine thenR ?_ | refine inBI ?_ | refine inBR ?_ | refine inBS ?_ | refine inBN (by decide) ?_)
  repeat (first | (refine W_reg rfl fun G K hG hK => ?_; simp (disch := omega) only [go_sem, ↓reduceIte, Nat.reduceEqDiff, Nat.reduceAdd, Nat.reduceLeDiff, hG, q1, q2, q3, q4, a1, a2, a3, b1, b2, b3]; refine hK _ _ ?_; clear hK K hG G) | (refine W_end rfl fun G K hG hK => ?_; simp (disch := omega) only [go_sem, ↓reduceIte, Nat.reduceEqDiff, Nat.reduceAdd, Nat.reduceLeDiff, hG, q1, q2, q3, q4, a1, a2, a3, b1, b2, b3]; refine hK _ _ ?_; clear hK K hG G; repeat (first | refine thenI ?_ | refine thenE ?_ | refine thenR ?_ | refine inBI ?_ | refine inBR ?_ | refine inBS ?_ | refine inBN (by decide) ?_)) | refine W_seqS ?_ | refine W_seqC ?_ | refine W_seqB ?_ | refine W_block ?_ | (refine W_skip ?_; repeat (first | refine thenI ?_ | refine thenE ?_ | refine thenR ?_ | refine inBI ?_ | refine inBR ?_ | refine inBS ?_ | refine inBN (by decide) ?_)) | (refine W_condT ?hc ?_; (case hc => (simp (disch := omega) only [go_sem, ↓reduceIte, Nat.reduceEqDiff, Nat.reduceAdd, Nat.reduceLeDiff, q1, q2, q3, q4, a1, a2, a3, b1, b2, b3]; done))) | (refine W_condF ?hc ?_; (case hc => (simp (disch := omega) only [go_sem, ↓reduceIte, Nat.reduceEqDiff, Nat.reduceAdd, Nat.reduceLeDiff, q1, q2, q3, q4, a1, a2, a3, b1, b2, b3]; done))))
  refine W_ret ?_; try (repeat (first | refine thenI ?_ | refine thenE ?_ | refine thenR ?_ | refine inBI ?_ | refine inBR ?_ | refine inBS ?_ | refine inBN (by decide) ?_))
  refine finC (.inl rfl) (by (simp (disch := omega) only [go_sem, ↓reduceIte, Nat.reduceEqDiff, Nat.reduceAdd, Nat.reduceLeDiff, q1, q2, q3, q4, a1, a2, a3, b1, b2, b3]); try rfl) ⟨x1.trans x2, [.int .i64 g.k, .int .i64 k1, .int .i64 n1, .string m1, s1, .int .i64 k2, .int .i64 n2, .string m2, s2], L1 ++ L2, rfl, ⟨_, _, L1, L2, rfl, o1.ext x2, o2, rfl⟩, ?_⟩
  exact ⟨List.nodup_append.2 ⟨f1.1, f2.1, fun a ha b hb e => o1.apart f2 a ha (e ▸ hb)⟩, fun i hi => by
    rcases List.mem_append.1 hi with hi | hi
    · exact f1.2 i hi
    · have := f2.2 i hi; have := x1.length; omega⟩

theorem eqGuard_ok (g : Grd) (st : St) (cs ds : List Value) (hl : LimG 4611686018427387904 g) (hE : EncG st g cs) (hE' : EncG st g ds) :
    CallS Try.prog 8 [.agg cs.toArray, .agg ds.toArray] st fun r st' => r = .bool true ∧ st' = st := by
  refine CallS_of_W [] 22 Try.func8 rfl rfl rfl rfl (by simp) ?_
  obtain ⟨kl, nl, ml, sl, kr, nr, mr, sr, rfl, El, Er, q1, q2, q3, q4⟩ := hE.cells
  obtain ⟨kl', nl', ml', sl', kr', nr', mr', sr', rfl, El', Er', q1', q2', q3', q4'⟩ := hE'.cells
  repeat (first | (refine W_reg rfl fun G K hG hK => ?_; simp (disch := omega) only [go_sem, ↓reduceIte, Nat.reduceEqDiff, Nat.reduceAdd, Nat.reduceLeDiff, hG, q1, q2, q3, q4, q1', q2', q3', q4']; refine hK _ _ ?_; clear hK K hG G) | (refine W_end rfl fun G K hG hK => ?_; simp (disch := omega) only [go_sem, ↓reduceIte, Nat.reduceEqDiff, Nat.reduceAdd, Nat.reduceLeDiff, hG, q1, q2, q3, q4, q1', q2', q3', q4']; refine hK _ _ ?_; clear hK K hG G; repeat (first | refine thenI ?_ | refine thenE ?_ | refine thenR ?_ | refine inBI ?_ | refine inBR ?_ | refine inBS ?_ | refine inBN (by decide) ?_)) | refine W_seqS ?_ | refine W_seqC ?_ | refine W_seqB ?_ | refine W_block ?_ | (refine W_skip ?_; repeat (first | refine thenI ?_ | refine thenE ?_ | refine thenR ?_ | refine inBI ?_ | refine inBR ?_ | refine inBS ?_ | refine inBN (by decide) ?_)) | (refine W_condT ?hc ?_; (case hc => (simp (disch := omega) only [go_sem, ↓reduceIte, Nat.reduceEqDiff, Nat.reduceAdd, Nat.reduceLeDiff, q1, q2, q3, q4, q1', q2', q3', q4']; done))) | (refine W_condF ?hc ?_; (case hc => (simp (disch := omega) only [go_sem, ↓reduceIte, Nat.reduceEqDiff, Nat.reduceAdd, Nat.reduceLeDiff, q1, q2, q3, q4, q1', q2', q3', q4']; done))))
  (repeat (first | refine W_seqS ?_ | refine W_seqC ?_ | refine W_seqB ?_ | refine W_block ?_)); refine W_reg rfl fun G K hG hK => ?_; simp (disch := omega) only [go_sem, ↓reduceIte, Nat.reduceEqDiff, Nat.reduceAdd, Nat.reduceLeDiff, hG, q1, q2, q3, q4, q1', q2', q3', q4']
  refine w_call (eqTerm_ok g.l st _ _ hl.1 El El') (by simp (disch := omega) only [go_sem, ↓reduceIte, Nat.reduceEqDiff, q1, q2, q3, q4, q1', q2', q3', q4']) ?hl ?_
  case hl => first | rfl | (simp only [go_sem, List.all_cons, List.all_nil, Bool.not_false, Bool.and_self, q1, q2, q3, q4, q1', q2', q3', q4']; done)
  rintro r_ st ⟨rfl, rfl⟩; refine ⟨fun e => (by cases e), ?_⟩
  simp (disch := omega) only [go_sem, ↓reduceIte, Nat.reduceEqDiff, Nat.reduceAdd, Nat.reduceLeDiff, hG, q1, q2, q3, q4, q1', q2', q3', q4']; refine hK _ _ ?_; clear hK K hG G; repeat (first | refine thenI ?_ | refine thenE ?_ | refine thenR ?_ | refine inBI ?_ | refine inBR ?_ | refine inBS ?_ | refine inBN (by decide) ?_)
  repeat (first | (refine W_reg rfl fun G K hG hK => ?_; simp (disch := omega) only [go_sem, ↓reduceIte, Nat.reduceEqDiff, Nat.reduceAdd, Nat.reduceLeDiff, hG, q1, q2, q3, q4, q1', q2', q3', q4']; refine hK _ _ ?_; clear hK K hG G) | (refine W_end rfl fun G K hG hK => ?_; simp (disch := omega) only [go_sem, ↓reduceIte, Nat.reduceEqDiff, Nat.reduceAdd, Nat.reduceLeDiff, hG, q1, q2, q3, q4, q1', q2', q3', q4']; refine hK _ _ ?_; clear hK K hG G; repeat (first | refine thenI ?_ | refine thenE ?_ | refine thenR ?_ | refine inBI ?_ | refine inBR ?_ | refine inBS ?_ | refine inBN (by decide) ?_)) | refine W_seqS ?_ | refine W_seqC ?_ | refine W_seqB ?_ | refine W_block ?_ | (refine W_skip ?_; repeat (first | refine thenI ?_ | refine thenE ?_ | refine thenR ?_ | refine inBI ?_ | refine inBR ?_ | refine inBS ?_ | refine inBN (by decide) ?_)) | (refine W_condT ?hc ?_; (case hc => (simp (disch := omega) only [go_sem, ↓reduceIte, Nat.reduceEqDiff, Nat.reduceAdd, Nat.reduceLeDiff, q1, q2, q3, q4, q1', q2', q3', q4']; done))) | (refine W_condF ?hc ?_; (case hc => (simp (disch := omega) only [go_sem, ↓reduceIte, Nat.reduceEqDiff, Nat.reduceAdd, Nat.reduceLeDiff, q1, q2, q3, q4, q1', q2', q3', q4']; done))))
  (repeat (first | refine W_seqS ?_ | refine W_seqC ?_ | refine W_seqB ?_ | refine W_block ?_)); refine W_reg rfl fun G K hG hK => ?_; simp (disch := omega) only [go_sem, ↓reduceIte, Nat.reduceEqDiff, Nat.reduceAdd, Nat.reduceLeDiff, hG, q1, q2, q3, q4, q1', q2', q3', q4']
  refine w_call (eqTerm_ok g.r st _ _ hl.2 Er Er') (by simp (disch := omega) only [go_sem, ↓reduceIte, Nat.reduceEqDiff, q1, q2, q3, q4, q1', q2', q3', q4']) ?hl ?_
  case hl => first | rfl | (simp only [go_sem, List.all_cons, List.all_nil, Bool.not_false, Bool.and_self, q1, q2, q3, q4, q1', q2', q3', q4']; done)
  rintro r_ st ⟨rfl, rfl⟩; refine ⟨fun e => (by cases e), ?_⟩
  simp (disch := omega) only [go_sem, ↓reduceIte, Nat.reduceEqDiff, Nat.reduceAdd, Nat.reduceLeDiff, hG, q1, q2, q3, q4, q1', q2', q3', q4']; refine hK _ _ ?_; clear hK K hG G; repeat (first | refine thenI ?_ | refine thenE ?_ | refine thenR ?_ | refine inBI ?_ | refine inBR ?_ | refine inBS ?_ | refine inBN (by decide) ?_)
  repeat (first | (refine W_reg rfl fun G K hG hK => ?_; simp (disch := omega) only [go_sem, ↓reduceIte, Nat.reduceEqDiff, Nat.reduceAdd, Nat.reduceLeDiff, hG, q1, q2, q3, q4, q1', q2', q3', q4']; refine hK _ _ ?_; clear hK K hG G) | (refine W_end rfl fun G K hG hK => ?_; simp (disch := omega) only [go_sem, ↓reduceIte, Nat.reduceEqDiff, Nat.reduceAdd, Nat.reduceLeDiff, hG, q1, q2, q3, q4, q1', q2', q3', q4']; refine hK _ _ ?_; clear hK K hG G; repeat (first | refine thenI ?_ | refine thenE ?_ | refine thenR ?_ | refine inBI ?_ | refine inBR ?_ | refine inBS ?_ | refine inBN (by decide) ?_)) | refine W_seqS ?_ | refine W_seqC ?_ | refine W_seqB ?_ | refine W_block ?_ | (refine W_skip ?_; repeat (first | refine thenI ?_ | refine thenE ?_ | refine thenR ?_ | refine inBI ?_ | refine inBR ?_ | refine inBS ?_ | refine inBN (by decide) ?_)) | (refine W_condT ?hc ?_; (case hc => (simp (disch := omega) only [go_sem, ↓reduceIte, Nat.reduceEqDiff, Nat.reduceAdd, Nat.reduceLeDiff, q1, q2, q3, q4, q1', q2', q3', q4']; done))) | (refine W_condF ?hc ?_; (case hc => (simp (disch := omega) only [go_sem, ↓reduceIte, Nat.reduceEqDiff, Nat.reduceAdd, Nat.reduceLeDiff, q1, q2, q3, q4, q1', q2', q3', q4']; done))))
  refine W_ret ?_; try (repeat (first | refine thenI ?_ | refine thenE ?_ | refine thenR ?_ | refine inBI ?_ | refine inBR ?_ | refine inBS ?_ | refine inBN (by decide) ?_))
  refine fin1 (.inl rfl) (by (simp (disch := omega) only [go_sem, ↓reduceIte, Nat.reduceEqDiff, Nat.reduceAdd, Nat.reduceLeDiff, q1, q2, q3, q4, q1', q2', q3', q4']); try rfl) rfl ⟨rfl, rfl⟩

end Go.Proofs.Ytignnikajjjdpaa.AM
