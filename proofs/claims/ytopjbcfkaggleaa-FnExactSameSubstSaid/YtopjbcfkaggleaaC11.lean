/- Bindings are found and applied: impl.bound, impl.FindBind, spec.l7At, spec.FindBind, impl.ApplySubst, spec.ApplySubst. -/
import Derived.Test.YtopjbcfkaggleaaC6
import Derived.Test.YtopjbcfkaggleaaK3
namespace Go.Proofs.Ytopjbcfkaggleaa.AM
open Go Go.Proofs
set_option linter.unusedVariables false
set_option linter.unusedSimpArgs false
set_option maxRecDepth 100000
attribute [local go_sem] List.map_cons List.map_nil List.all_cons List.all_nil Bool.and_self Option.map_some List.getElem?_toArray Option.bind_some gye_b gye_t gsk_b gsk_t gb1 gb2 gb3 gb4 bne_self_eq_false beq_self_eq_true w_guard w_nil stepV_some step_some step_some' w_move w_assign w_pick w_binOp w_unOp w_load w_fieldAddr w_indexAddr w_len w_box w_alloc w_store w_field w_extract w_nilCheck w_convert w_buildSlice w_build ev_buildL fillL_nil fillL_cons bs0 bs1 ev_conv ev_bin ev_un ev_pick ev_load ev_fieldAddr ev_indexAddr ev_len ev_field ev_extract ev_nilCheck fr_tmp fr_int fr_bool fr_str fr_nil fr_func put_some put_none bin_lss bin_leq bin_gtr bin_geq bin_eql bin_neq bin_add bin_sub bin_mul bin_seql bin_sneq un_not pick_ ext_ loadA_p cellAt_l cellAt_h okPtr_l okPtr_h fadA_p allocA_l storeA_l cells_agg cells_int cells_str cells_sl cells_bool flat_i flat_s flat_b flat_sl flat_nil loc_agg loc_int loc_str loc_sl loc_bool loc_fn loc_ptr okv_agg okv_int okv_str okv_sl okv_bool cellsFrom splice upd_eval argEnv_zero argEnv_succ ne_eq Nat.add_one_ne_zero not_false_eq_true List.not_mem_nil and_self decide_true List.getElem?_cons_zero List.getElem?_cons_succ List.size_toArray List.length_cons List.length_nil List.take_succ_cons List.take_zero List.drop_succ_cons List.drop_zero List.cons_append List.nil_append List.drop_nil Bool.not_true Bool.not_false Bool.false_eq_true Nat.zero_add Nat.add_zero wrap_in List.toList_toArray List.mem_cons or_self or_false false_or
attribute [local go_sem] ag25 ag29 ag3 ag31 ag33 ag34 ag36 ag39 ag9 bu36 by36 by39 el22 el25 el29 el34 el50 of31_0 of31_1 of31_2 of31_3 of33_0 of33_1 of36_0 of36_1 of36_2 of36_3 of39_0 of39_1 ro25_2 ro36_0 ro36_1 ro39_0 sz25 sz29 sz3 sz31 sz33 sz34 sz36 sz39 sz9 ze36 ze39
-- AUTO

def T.zero' : T := .mk 0 0 ⟨#[]⟩ []
theorem own_zero' {e : TypeId} (st : St) : Own e st T.zero' [.int .i64 0, .int .i64 0, .string ⟨#[]⟩, .slice none 0 0] [] := .nil _ _ _
theorem Lim.zero' {B : Nat} : Lim B T.zero' := .mk _ _ _ _ (by simp) (by simp)
/-- The term of the first binding of a name. -/
def findB (nm : ByteArray) : List Bnd → Option T
  | [] => none
  | b :: bs => if (b.nm.toList == nm.toList) = true then some b.tm else findB nm bs
def atB (nm : ByteArray) : List Bnd → Nat → Option Nat
  | [], _ => none
  | b :: bs, k => if (b.nm.toList == nm.toList) = true then some k else atB nm bs (k + 1)
theorem atB_spec (nm : ByteArray) : ∀ (bs : List Bnd) (k : Nat), match atB nm bs k with
    | some i => k ≤ i ∧ i < k + bs.length ∧ ∃ b, bs[i - k]? = some b ∧ findB nm bs = some b.tm
    | none => findB nm bs = none := by
  intro bs
  induction bs with
  | nil => intro k; rfl
  | cons b bs ih =>
    intro k
    simp only [atB, findB]
    by_cases h : (b.nm.toList == nm.toList) = true
    · simp only [h, if_true]
      exact ⟨Nat.le_refl _, by simp, b, by simp, rfl⟩
    · simp only [if_neg h]
      have := ih (k + 1)
      cases hq : atB nm bs (k + 1) with
      | none => rw [hq] at this; exact this
      | some i =>
        rw [hq] at this
        obtain ⟨h1, h2, b', h3, h4⟩ := this
        refine ⟨by omega, by simp; omega, b', ?_, h4⟩
        rw [show i - k = (i - (k + 1)) + 1 by omega]; simpa using h3
theorem findB_mem {nm : ByteArray} {bs : List Bnd} {t : T} (h : findB nm bs = some t) : ∃ b ∈ bs, b.tm = t := by
  induction bs with
  | nil => cases h
  | cons b bs ih =>
    simp only [findB] at h
    split at h
    · exact ⟨b, by simp, Option.some.inj h⟩
    · obtain ⟨b', h1, h2⟩ := ih h; exact ⟨b', by simp [h1], h2⟩
abbrev findD (nm : ByteArray) (bs : List Bnd) : T := (findB nm bs).getD T.zero'
theorem Lim.findD {B : Nat} {nm : ByteArray} {bs : List Bnd} (h : ∀ b ∈ bs, Lim B b.tm) : Lim B (findD nm bs) := by
  unfold AM.findD
  cases hf : findB nm bs with
  | none => exact .zero'
  | some t => obtain ⟨b, h1, rfl⟩ := findB_mem hf; exact h b h1

theorem bound_ok (bs : List Bnd) (nm : ByteArray) (st : St) (s : Value) (hbig : bs.length ≤ 4611686018427387904) (hr : Rw st bs s) :
    CallS Try.prog 29 [s, .string nm] st fun r st' => st' = st ∧ ∃ ds, r = .tuple #[.agg ds.toArray, .bool (findB nm bs).isSome] ∧ Enc st (findD nm bs) ds := by
  refine CallS_of_W [] 22 Try.func29 rfl rfl rfl rfl (by simp) ?_
  have hlen : lenE Try.prog 25 s = some (.int .i64 bs.length) := row_len hr Try.underlying25
  have n1 := hr.notLoc.1
  repeat (first | (refine W_reg rfl fun G K hG hK => ?_; simp (disch := omega) only [go_sem, ↓reduceIte, Nat.reduceEqDiff, Nat.reduceAdd, Nat.reduceLeDiff, hG, hlen]; refine hK _ _ ?_; clear hK K hG G) | (refine W_end rfl fun G K hG hK => ?_; simp (disch := omega) only [go_sem, ↓reduceIte, Nat.reduceEqDiff, Nat.reduceAdd, Nat.reduceLeDiff, hG, hlen]; refine hK _ _ ?_; clear hK K hG G; repeat (first | refine thenI ?_ | refine thenE ?_ | refine thenR ?_ | refine inBI ?_ | refine inBR ?_ | refine inBS ?_ | refine inBN (by decide) ?_)) | refine W_seqS ?_ | refine W_seqC ?_ | refine W_seqB ?_ | refine W_block ?_ | (refine W_skip ?_; repeat (first | refine thenI ?_ | refine thenE ?_ | refine thenR ?_ | refine inBI ?_ | refine inBR ?_ | refine inBS ?_ | refine inBN (by decide) ?_)) | (refine W_condT ?hc ?_; (case hc => (simp (disch := omega) only [go_sem, ↓reduceIte, Nat.reduceEqDiff, Nat.reduceAdd, Nat.reduceLeDiff, hlen]; done))) | (refine W_condF ?hc ?_; (case hc => (simp (disch := omega) only [go_sem, ↓reduceIte, Nat.reduceEqDiff, Nat.reduceAdd, Nat.reduceLeDiff, hlen]; done))))
  refine W_loop (fun d fr st' => ∃ (j : Nat) , d = bs.length - j ∧ j ≤ bs.length ∧ (st' = st) ∧ (findB nm (bs.drop j) = findB nm bs) ∧ (fr.env 1 = .string nm) ∧ (fr.env 4 = .pointer (some ⟨4, 0, some 1⟩)) ∧ (fr.env 8 = s) ∧ (fr.env 9 = .int .i64 bs.length) ∧ (fr.env 10 = .int .i64 j) ∧ ((fr.loc 4).1 = 1 ∧ (fr.loc 4).2.length = 4)) (bs.length) ?_ ?_
  · exact ⟨0, by omega, by omega, rfl, by rw [List.drop_zero], (by (simp (disch := omega) only [go_sem, ↓reduceIte, Nat.reduceEqDiff, Nat.reduceAdd, Nat.reduceLeDiff]); try rfl), (by (simp (disch := omega) only [go_sem, ↓reduceIte, Nat.reduceEqDiff, Nat.reduceAdd, Nat.reduceLeDiff]); try rfl), (by (simp (disch := omega) only [go_sem, ↓reduceIte, Nat.reduceEqDiff, Nat.reduceAdd, Nat.reduceLeDiff]); try rfl), (by (simp (disch := omega) only [go_sem, ↓reduceIte, Nat.reduceEqDiff, Nat.reduceAdd, Nat.reduceLeDiff]); try rfl), (by (simp (disch := omega) only [go_sem, ↓reduceIte, Nat.reduceEqDiff, Nat.reduceAdd, Nat.reduceLeDiff]); try rfl), ⟨(by (simp (disch := omega) only [go_sem, ↓reduceIte, Nat.reduceEqDiff, Nat.reduceAdd, Nat.reduceLeDiff]); try rfl), (by (simp (disch := omega) only [go_sem, ↓reduceIte, Nat.reduceEqDiff, Nat.reduceAdd, Nat.reduceLeDiff]); try rfl)⟩⟩
  rintro d ⟨env, loc⟩ st' ⟨j, hd, hj, hst, hfi, e1, e4, e8, e9, e10, ⟨l4, l4'⟩⟩
  simp only at e1 e4 e8 e9 e10 l4 l4'
  subst hst
  by_cases hlt : j < bs.length
  · have c1 : decide ((j : Int) < (bs.length : Int)) = true := by simpa using hlt
    have hi := idxOk hlt
    have hx : bs[j]? = some bs[j] := List.getElem?_eq_getElem hlt
    have htk : bs.take (j + 1) = bs.take j ++ [bs[j]] := List.take_succ_eq_append_getElem hlt
    obtain ⟨i, o, c, k, m, mm, args, sx, rfl, htm, hrx, hcs⟩ := row_atB hr hx
    have hld := fun loc => load_row (A := []) (loc := loc) ag39 sz39 rfl hcs
    have nx := hrx.notLoc.1
    have nx2 := hrx.notLoc.2
    rw [List.drop_eq_getElem_cons hlt] at hfi
    simp only [findB] at hfi
    cases hq : (bs[j].nm.toList == nm.toList) with
    | true =>
      repeat (first | (refine W_reg rfl fun G K hG hK => ?_; simp (disch := omega) only [go_sem, ↓reduceIte, Nat.reduceEqDiff, Nat.reduceAdd, Nat.reduceLeDiff, hG, e1, e4, e8, e9, e10, l4, l4', c1, hi, idxA, Int.toNat_natCast, hld, hq, nx, nx2]; refine hK _ _ ?_; clear hK K hG G) | (refine W_end rfl fun G K hG hK => ?_; simp (disch := omega) only [go_sem, ↓reduceIte, Nat.reduceEqDiff, Nat.reduceAdd, Nat.reduceLeDiff, hG, e1, e4, e8, e9, e10, l4, l4', c1, hi, idxA, Int.toNat_natCast, hld, hq, nx, nx2]; refine hK _ _ ?_; clear hK K hG G; repeat (first | refine thenI ?_ | refine thenE ?_ | refine thenR ?_ | refine inBI ?_ | refine inBR ?_ | refine inBS ?_ | refine inBN (by decide) ?_)) | refine W_seqS ?_ | refine W_seqC ?_ | refine W_seqB ?_ | refine W_block ?_ | (refine W_skip ?_; repeat (first | refine thenI ?_ | refine thenE ?_ | refine thenR ?_ | refine inBI ?_ | refine inBR ?_ | refine inBS ?_ | refine inBN (by decide) ?_)) | (refine W_condT ?hc ?_; (case hc => (simp (disch := omega) only [go_sem, ↓reduceIte, Nat.reduceEqDiff, Nat.reduceAdd, Nat.reduceLeDiff, e1, e4, e8, e9, e10, l4, l4', c1, hi, idxA, Int.toNat_natCast, hld, hq, nx, nx2]; done))) | (refine W_condF ?hc ?_; (case hc => (simp (disch := omega) only [go_sem, ↓reduceIte, Nat.reduceEqDiff, Nat.reduceAdd, Nat.reduceLeDiff, e1, e4, e8, e9, e10, l4, l4', c1, hi, idxA, Int.toNat_natCast, hld, hq, nx, nx2]; done))))
      rw [if_pos hq] at hfi
      refine W_ret ?_; try (repeat (first | refine thenI ?_ | refine thenE ?_ | refine thenR ?_ | refine inBI ?_ | refine inBR ?_ | refine inBS ?_ | refine inBN (by decide) ?_))
      refine finC2 (.inl rfl) (by (simp (disch := omega) only [go_sem, ↓reduceIte, Nat.reduceEqDiff, Nat.reduceAdd, Nat.reduceLeDiff, e1, e4, e8, e9, e10, l4, l4', c1, hi, idxA, Int.toNat_natCast, nx, nx2]); try rfl) (by (simp (disch := omega) only [go_sem, ↓reduceIte, Nat.reduceEqDiff, Nat.reduceAdd, Nat.reduceLeDiff, e1, e4, e8, e9, e10, l4, l4', c1, hi, idxA, Int.toNat_natCast]); try rfl) rfl ⟨rfl, [.int .i64 k, .int .i64 m, .string mm, sx], by rw [← hfi]; rfl, ?_⟩
      unfold findD
      rw [← hfi]
      show Enc st' bs[j].tm _
      rw [htm]
      exact Enc.close _ _ _ hrx
    | false =>
      rw [if_neg (by rw [hq]; simp)] at hfi
      repeat (first | (refine W_reg rfl fun G K hG hK => ?_; simp (disch := omega) only [go_sem, ↓reduceIte, Nat.reduceEqDiff, Nat.reduceAdd, Nat.reduceLeDiff, hG, e1, e4, e8, e9, e10, l4, l4', c1, hi, idxA, Int.toNat_natCast, hld, hq, nx, nx2]; refine hK _ _ ?_; clear hK K hG G) | (refine W_end rfl fun G K hG hK => ?_; simp (disch := omega) only [go_sem, ↓reduceIte, Nat.reduceEqDiff, Nat.reduceAdd, Nat.reduceLeDiff, hG, e1, e4, e8, e9, e10, l4, l4', c1, hi, idxA, Int.toNat_natCast, hld, hq, nx, nx2]; refine hK _ _ ?_; clear hK K hG G; repeat (first | refine thenI ?_ | refine thenE ?_ | refine thenR ?_ | refine inBI ?_ | refine inBR ?_ | refine inBS ?_ | refine inBN (by decide) ?_)) | refine W_seqS ?_ | refine W_seqC ?_ | refine W_seqB ?_ | refine W_block ?_ | (refine W_skip ?_; repeat (first | refine thenI ?_ | refine thenE ?_ | refine thenR ?_ | refine inBI ?_ | refine inBR ?_ | refine inBS ?_ | refine inBN (by decide) ?_)) | (refine W_condT ?hc ?_; (case hc => (simp (disch := omega) only [go_sem, ↓reduceIte, Nat.reduceEqDiff, Nat.reduceAdd, Nat.reduceLeDiff, e1, e4, e8, e9, e10, l4, l4', c1, hi, idxA, Int.toNat_natCast, hld, hq, nx, nx2]; done))) | (refine W_condF ?hc ?_; (case hc => (simp (disch := omega) only [go_sem, ↓reduceIte, Nat.reduceEqDiff, Nat.reduceAdd, Nat.reduceLeDiff, e1, e4, e8, e9, e10, l4, l4', c1, hi, idxA, Int.toNat_natCast, hld, hq, nx, nx2]; done))))
      refine ⟨bs.length - (j + 1), by omega, j + 1, rfl, by omega, rfl, hfi, (by (simp (disch := omega) only [go_sem, ↓reduceIte, Nat.reduceEqDiff, Nat.reduceAdd, Nat.reduceLeDiff, e1, e4, e8, e9, e10, l4, l4', c1, hi, idxA, Int.toNat_natCast]); try rfl), (by (simp (disch := omega) only [go_sem, ↓reduceIte, Nat.reduceEqDiff, Nat.reduceAdd, Nat.reduceLeDiff, e1, e4, e8, e9, e10, l4, l4', c1, hi, idxA, Int.toNat_natCast]); try rfl), (by (simp (disch := omega) only [go_sem, ↓reduceIte, Nat.reduceEqDiff, Nat.reduceAdd, Nat.reduceLeDiff, e1, e4, e8, e9, e10, l4, l4', c1, hi, idxA, Int.toNat_natCast]); try rfl), (by (simp (disch := omega) only [go_sem, ↓reduceIte, Nat.reduceEqDiff, Nat.reduceAdd, Nat.reduceLeDiff, e1, e4, e8, e9, e10, l4, l4', c1, hi, idxA, Int.toNat_natCast]); try rfl), (by (simp (disch := omega) only [go_sem, ↓reduceIte, Nat.reduceEqDiff, Nat.reduceAdd, Nat.reduceLeDiff, e1, e4, e8, e9, e10, l4, l4', c1, hi, idxA, Int.toNat_natCast]); try rfl), ⟨(by (simp (disch := omega) only [go_sem, ↓reduceIte, Nat.reduceEqDiff, Nat.reduceAdd, Nat.reduceLeDiff, e1, e4, e8, e9, e10, l4, l4', c1, hi, idxA, Int.toNat_natCast]); try rfl), (by (simp (disch := omega) only [go_sem, ↓reduceIte, Nat.reduceEqDiff, Nat.reduceAdd, Nat.reduceLeDiff, e1, e4, e8, e9, e10, l4, l4', c1, hi, idxA, Int.toNat_natCast]); try rfl)⟩⟩
  · have c1 : decide ((j : Int) < (bs.length : Int)) = false := by simpa using hlt
    have hjn : j = bs.length := by omega
    subst hjn
    rw [List.drop_length] at hfi
    repeat (first | (refine W_reg rfl fun G K hG hK => ?_; simp (disch := omega) only [go_sem, ↓reduceIte, Nat.reduceEqDiff, Nat.reduceAdd, Nat.reduceLeDiff, hG, e1, e4, e8, e9, e10, l4, l4', c1]; refine hK _ _ ?_; clear hK K hG G) | (refine W_end rfl fun G K hG hK => ?_; simp (disch := omega) only [go_sem, ↓reduceIte, Nat.reduceEqDiff, Nat.reduceAdd, Nat.reduceLeDiff, hG, e1, e4, e8, e9, e10, l4, l4', c1]; refine hK _ _ ?_; clear hK K hG G; repeat (first | refine thenI ?_ | refine thenE ?_ | refine thenR ?_ | refine inBI ?_ | refine inBR ?_ | refine inBS ?_ | refine inBN (by decide) ?_)) | refine W_seqS ?_ | refine W_seqC ?_ | refine W_seqB ?_ | refine W_block ?_ | (refine W_skip ?_; repeat (first | refine thenI ?_ | refine thenE ?_ | refine thenR ?_ | refine inBI ?_ | refine inBR ?_ | refine inBS ?_ | refine inBN (by decide) ?_)) | (refine W_condT ?hc ?_; (case hc => (simp (disch := omega) only [go_sem, ↓reduceIte, Nat.reduceEqDiff, Nat.reduceAdd, Nat.reduceLeDiff, e1, e4, e8, e9, e10, l4, l4', c1]; done))) | (refine W_condF ?hc ?_; (case hc => (simp (disch := omega) only [go_sem, ↓reduceIte, Nat.reduceEqDiff, Nat.reduceAdd, Nat.reduceLeDiff, e1, e4, e8, e9, e10, l4, l4', c1]; done))))
    refine W_exit ?_; repeat (first | refine thenI ?_ | refine thenE ?_ | refine thenR ?_ | refine inBI ?_ | refine inBR ?_ | refine inBS ?_ | refine inBN (by decide) ?_)
    repeat (first | (refine W_reg rfl fun G K hG hK => ?_; simp (disch := omega) only [go_sem, ↓reduceIte, Nat.reduceEqDiff, Nat.reduceAdd, Nat.reduceLeDiff, hG, e1, e4, e8, e9, e10, l4, l4', c1]; refine hK _ _ ?_; clear hK K hG G) | (refine W_end rfl fun G K hG hK => ?_; simp (disch := omega) only [go_sem, ↓reduceIte, Nat.reduceEqDiff, Nat.reduceAdd, Nat.reduceLeDiff, hG, e1, e4, e8, e9, e10, l4, l4', c1]; refine hK _ _ ?_; clear hK K hG G; repeat (first | refine thenI ?_ | refine thenE ?_ | refine thenR ?_ | refine inBI ?_ | refine inBR ?_ | refine inBS ?_ | refine inBN (by decide) ?_)) | refine W_seqS ?_ | refine W_seqC ?_ | refine W_seqB ?_ | refine W_block ?_ | (refine W_skip ?_; repeat (first | refine thenI ?_ | refine thenE ?_ | refine thenR ?_ | refine inBI ?_ | refine inBR ?_ | refine inBS ?_ | refine inBN (by decide) ?_)) | (refine W_condT ?hc ?_; (case hc => (simp (disch := omega) only [go_sem, ↓reduceIte, Nat.reduceEqDiff, Nat.reduceAdd, Nat.reduceLeDiff, e1, e4, e8, e9, e10, l4, l4', c1]; done))) | (refine W_condF ?hc ?_; (case hc => (simp (disch := omega) only [go_sem, ↓reduceIte, Nat.reduceEqDiff, Nat.reduceAdd, Nat.reduceLeDiff, e1, e4, e8, e9, e10, l4, l4', c1]; done))))
    refine W_ret ?_; try (repeat (first | refine thenI ?_ | refine thenE ?_ | refine thenR ?_ | refine inBI ?_ | refine inBR ?_ | refine inBS ?_ | refine inBN (by decide) ?_))
    refine finC2 (.inl rfl) (by (simp (disch := omega) only [go_sem, ↓reduceIte, Nat.reduceEqDiff, Nat.reduceAdd, Nat.reduceLeDiff, e1, e4, e8, e9, e10, l4, l4', c1]); try rfl) (by (simp (disch := omega) only [go_sem, ↓reduceIte, Nat.reduceEqDiff, Nat.reduceAdd, Nat.reduceLeDiff, e1, e4, e8, e9, e10, l4, l4', c1]); try rfl) rfl ⟨rfl, [.int .i64 0, .int .i64 0, .string ⟨#[]⟩, .slice none 0 0], by rw [← hfi]; rfl, ?_⟩
    unfold findD
    rw [← hfi]
    exact (own_zero' (e := 0) st').enc

theorem l7At_ok (bs : List Bnd) (nm : ByteArray) (st : St) (s : Value) (hbig : bs.length ≤ 4611686018427387904) (hr : Rw st bs s) :
    CallS Try.prog 26 [s, .string nm] st fun r st' => r = .int .i64 (match atB nm bs 0 with | some i => (i : Int) | none => -1) ∧ st' = st := by
  refine CallS_of_W [] 20 Try.func26 rfl rfl rfl rfl (by simp) ?_
  have hlen : lenE Try.prog 25 s = some (.int .i64 bs.length) := row_len hr Try.underlying25
  repeat (first | (refine W_reg rfl fun G K hG hK => ?_; simp (disch := omega) only [go_sem, ↓reduceIte, Nat.reduceEqDiff, Nat.reduceAdd, Nat.reduceLeDiff, hG, hlen]; refine hK _ _ ?_; clear hK K hG G) | (refine W_end rfl fun G K hG hK => ?_; simp (disch := omega) only [go_sem, ↓reduceIte, Nat.reduceEqDiff, Nat.reduceAdd, Nat.reduceLeDiff, hG, hlen]; refine hK _ _ ?_; clear hK K hG G; repeat (first | refine thenI ?_ | refine thenE ?_ | refine thenR ?_ | refine inBI ?_ | refine inBR ?_ | refine inBS ?_ | refine inBN (by decide) ?_)) | refine W_seqS ?_ | refine W_seqC ?_ | refine W_seqB ?_ | refine W_block ?_ | (refine W_skip ?_; repeat (first | refine thenI ?_ | refine thenE ?_ | refine thenR ?_ | refine inBI ?_ | refine inBR ?_ | refine inBS ?_ | refine inBN (by decide) ?_)) | (refine W_condT ?hc ?_; (case hc => (simp (disch := omega) only [go_sem, ↓reduceIte, Nat.reduceEqDiff, Nat.reduceAdd, Nat.reduceLeDiff, hlen]; done))) | (refine W_condF ?hc ?_; (case hc => (simp (disch := omega) only [go_sem, ↓reduceIte, Nat.reduceEqDiff, Nat.reduceAdd, Nat.reduceLeDiff, hlen]; done))))
  refine W_loop (fun d fr st' => ∃ (j : Nat) , d = bs.length - j ∧ j ≤ bs.length ∧ (st' = st) ∧ (atB nm (bs.drop j) j = atB nm bs 0) ∧ (fr.env 0 = s) ∧ (fr.env 1 = .string nm) ∧ (fr.env 5 = .int .i64 j)) (bs.length) ?_ ?_
  · exact ⟨0, by omega, by omega, rfl, by rw [List.drop_zero], (by (simp (disch := omega) only [go_sem, ↓reduceIte, Nat.reduceEqDiff, Nat.reduceAdd, Nat.reduceLeDiff, hlen]); try rfl), (by (simp (disch := omega) only [go_sem, ↓reduceIte, Nat.reduceEqDiff, Nat.reduceAdd, Nat.reduceLeDiff, hlen]); try rfl), (by (simp (disch := omega) only [go_sem, ↓reduceIte, Nat.reduceEqDiff, Nat.reduceAdd, Nat.reduceLeDiff, hlen]); try rfl)⟩
  rintro d ⟨env, loc⟩ st' ⟨j, hd, hj, hst, hfi, e0, e1, e5⟩
  simp only at e0 e1 e5
  subst hst
  by_cases hlt : j < bs.length
  · have c1 : decide ((j : Int) < (bs.length : Int)) = true := by simpa using hlt
    have hi := idxOk hlt
    have hx : bs[j]? = some bs[j] := List.getElem?_eq_getElem hlt
    have htk : bs.take (j + 1) = bs.take j ++ [bs[j]] := List.take_succ_eq_append_getElem hlt
    obtain ⟨i, o, c, k, m, mm, args, sx, rfl, htm, hrx, hcs⟩ := row_atB hr hx
    have q0 : cell st' i (o + j * 5) = some (.string bs[j].nm) := by have := hcs 0 _ rfl; simpa using this
    rw [List.drop_eq_getElem_cons hlt] at hfi
    simp only [atB] at hfi
    cases hq : (bs[j].nm.toList == nm.toList) with
    | true =>
      repeat (first | (refine W_reg rfl fun G K hG hK => ?_; simp (disch := omega) only [go_sem, ↓reduceIte, Nat.reduceEqDiff, Nat.reduceAdd, Nat.reduceLeDiff, hG, hlen, e0, e1, e5, c1, hi, idxA, Int.toNat_natCast, q0, hq]; refine hK _ _ ?_; clear hK K hG G) | (refine W_end rfl fun G K hG hK => ?_; simp (disch := omega) only [go_sem, ↓reduceIte, Nat.reduceEqDiff, Nat.reduceAdd, Nat.reduceLeDiff, hG, hlen, e0, e1, e5, c1, hi, idxA, Int.toNat_natCast, q0, hq]; refine hK _ _ ?_; clear hK K hG G; repeat (first | refine thenI ?_ | refine thenE ?_ | refine thenR ?_ | refine inBI ?_ | refine inBR ?_ | refine inBS ?_ | refine inBN (by decide) ?_)) | refine W_seqS ?_ | refine W_seqC ?_ | refine W_seqB ?_ | refine W_block ?_ | (refine W_skip ?_; repeat (first | refine thenI ?_ | refine thenE ?_ | refine thenR ?_ | refine inBI ?_ | refine inBR ?_ | refine inBS ?_ | refine inBN (by decide) ?_)) | (refine W_condT ?hc ?_; (case hc => (simp (disch := omega) only [go_sem, ↓reduceIte, Nat.reduceEqDiff, Nat.reduceAdd, Nat.reduceLeDiff, hlen, e0, e1, e5, c1, hi, idxA, Int.toNat_natCast, q0, hq]; done))) | (refine W_condF ?hc ?_; (case hc => (simp (disch := omega) only [go_sem, ↓reduceIte, Nat.reduceEqDiff, Nat.reduceAdd, Nat.reduceLeDiff, hlen, e0, e1, e5, c1, hi, idxA, Int.toNat_natCast, q0, hq]; done))))
      rw [if_pos hq] at hfi
      refine W_ret ?_; try (repeat (first | refine thenI ?_ | refine thenE ?_ | refine thenR ?_ | refine inBI ?_ | refine inBR ?_ | refine inBS ?_ | refine inBN (by decide) ?_))
      refine fin1 (.inl rfl) (by (simp (disch := omega) only [go_sem, ↓reduceIte, Nat.reduceEqDiff, Nat.reduceAdd, Nat.reduceLeDiff, hlen, e0, e1, e5, c1, hi, idxA, Int.toNat_natCast]); try rfl) rfl ⟨by rw [← hfi], rfl⟩
    | false =>
      rw [if_neg (by rw [hq]; simp)] at hfi
      repeat (first | (refine W_reg rfl fun G K hG hK => ?_; simp (disch := omega) only [go_sem, ↓reduceIte, Nat.reduceEqDiff, Nat.reduceAdd, Nat.reduceLeDiff, hG, hlen, e0, e1, e5, c1, hi, idxA, Int.toNat_natCast, q0, hq]; refine hK _ _ ?_; clear hK K hG G) | (refine W_end rfl fun G K hG hK => ?_; simp (disch := omega) only [go_sem, ↓reduceIte, Nat.reduceEqDiff, Nat.reduceAdd, Nat.reduceLeDiff, hG, hlen, e0, e1, e5, c1, hi, idxA, Int.toNat_natCast, q0, hq]; refine hK _ _ ?_; clear hK K hG G; repeat (first | refine thenI ?_ | refine thenE ?_ | refine thenR ?_ | refine inBI ?_ | refine inBR ?_ | refine inBS ?_ | refine inBN (by decide) ?_)) | refine W_seqS ?_ | refine W_seqC ?_ | refine W_seqB ?_ | refine W_block ?_ | (refine W_skip ?_; repeat (first | refine thenI ?_ | refine thenE ?_ | refine thenR ?_ | refine inBI ?_ | refine inBR ?_ | refine inBS ?_ | refine inBN (by decide) ?_)) | (refine W_condT ?hc ?_; (case hc => (simp (disch := omega) only [go_sem, ↓reduceIte, Nat.reduceEqDiff, Nat.reduceAdd, Nat.reduceLeDiff, hlen, e0, e1, e5, c1, hi, idxA, Int.toNat_natCast, q0, hq]; done))) | (refine W_condF ?hc ?_; (case hc => (simp (disch := omega) only [go_sem, ↓reduceIte, Nat.reduceEqDiff, Nat.reduceAdd, Nat.reduceLeDiff, hlen, e0, e1, e5, c1, hi, idxA, Int.toNat_natCast, q0, hq]; done))))
      refine ⟨bs.length - (j + 1), by omega, j + 1, rfl, by omega, rfl, hfi, (by (simp (disch := omega) only [go_sem, ↓reduceIte, Nat.reduceEqDiff, Nat.reduceAdd, Nat.reduceLeDiff, hlen, e0, e1, e5, c1, hi, idxA, Int.toNat_natCast]); try rfl), (by (simp (disch := omega) only [go_sem, ↓reduceIte, Nat.reduceEqDiff, Nat.reduceAdd, Nat.reduceLeDiff, hlen, e0, e1, e5, c1, hi, idxA, Int.toNat_natCast]); try rfl), (by (simp (disch := omega) only [go_sem, ↓reduceIte, Nat.reduceEqDiff, Nat.reduceAdd, Nat.reduceLeDiff, hlen, e0, e1, e5, c1, hi, idxA, Int.toNat_natCast]); try rfl)⟩
  · have c1 : decide ((j : Int) < (bs.length : Int)) = false := by simpa using hlt
    have hjn : j = bs.length := by omega
    subst hjn
    rw [List.drop_length] at hfi
    repeat (first | (refine W_reg rfl fun G K hG hK => ?_; simp (disch := omega) only [go_sem, ↓reduceIte, Nat.reduceEqDiff, Nat.reduceAdd, Nat.reduceLeDiff, hG, hlen, e0, e1, e5, c1]; refine hK _ _ ?_; clear hK K hG G) | (refine W_end rfl fun G K hG hK => ?_; simp (disch := omega) only [go_sem, ↓reduceIte, Nat.reduceEqDiff, Nat.reduceAdd, Nat.reduceLeDiff, hG, hlen, e0, e1, e5, c1]; refine hK _ _ ?_; clear hK K hG G; repeat (first | refine thenI ?_ | refine thenE ?_ | refine thenR ?_ | refine inBI ?_ | refine inBR ?_ | refine inBS ?_ | refine inBN (by decide) ?_)) | refine W_seqS ?_ | refine W_seqC ?_ | refine W_seqB ?_ | refine W_block ?_ | (refine W_skip ?_; repeat (first | refine thenI ?_ | refine thenE ?_ | refine thenR ?_ | refine inBI ?_ | refine inBR ?_ | refine inBS ?_ | refine inBN (by decide) ?_)) | (refine W_condT ?hc ?_; (case hc => (simp (disch := omega) only [go_sem, ↓reduceIte, Nat.reduceEqDiff, Nat.reduceAdd, Nat.reduceLeDiff, hlen, e0, e1, e5, c1]; done))) | (refine W_condF ?hc ?_; (case hc => (simp (disch := omega) only [go_sem, ↓reduceIte, Nat.reduceEqDiff, Nat.reduceAdd, Nat.reduceLeDiff, hlen, e0, e1, e5, c1]; done))))
    refine W_exit ?_; repeat (first | refine thenI ?_ | refine thenE ?_ | refine thenR ?_ | refine inBI ?_ | refine inBR ?_ | refine inBS ?_ | refine inBN (by decide) ?_)
    repeat (first | (refine W_reg rfl fun G K hG hK => ?_; simp (disch := omega) only [go_sem, ↓reduceIte, Nat.reduceEqDiff, Nat.reduceAdd, Nat.reduceLeDiff, hG, hlen, e0, e1, e5, c1]; refine hK _ _ ?_; clear hK K hG G) | (refine W_end rfl fun G K hG hK => ?_; simp (disch := omega) only [go_sem, ↓reduceIte, Nat.reduceEqDiff, Nat.reduceAdd, Nat.reduceLeDiff, hG, hlen, e0, e1, e5, c1]; refine hK _ _ ?_; clear hK K hG G; repeat (first | refine thenI ?_ | refine thenE ?_ | refine thenR ?_ | refine inBI ?_ | refine inBR ?_ | refine inBS ?_ | refine inBN (by decide) ?_)) | refine W_seqS ?_ | refine W_seqC ?_ | refine W_seqB ?_ | refine W_block ?_ | (refine W_skip ?_; repeat (first | refine thenI ?_ | refine thenE ?_ | refine thenR ?_ | refine inBI ?_ | refine inBR ?_ | refine inBS ?_ | refine inBN (by decide) ?_)) | (refine W_condT ?hc ?_; (case hc => (simp (disch := omega) only [go_sem, ↓reduceIte, Nat.reduceEqDiff, Nat.reduceAdd, Nat.reduceLeDiff, hlen, e0, e1, e5, c1]; done))) | (refine W_condF ?hc ?_; (case hc => (simp (disch := omega) only [go_sem, ↓reduceIte, Nat.reduceEqDiff, Nat.reduceAdd, Nat.reduceLeDiff, hlen, e0, e1, e5, c1]; done))))
    refine W_ret ?_; try (repeat (first | refine thenI ?_ | refine thenE ?_ | refine thenR ?_ | refine inBI ?_ | refine inBR ?_ | refine inBS ?_ | refine inBN (by decide) ?_))
    refine fin1 (.inl rfl) (by (simp (disch := omega) only [go_sem, ↓reduceIte, Nat.reduceEqDiff, Nat.reduceAdd, Nat.reduceLeDiff, hlen, e0, e1, e5, c1]); try rfl) rfl ⟨by rw [← hfi]; rfl, rfl⟩

theorem specFind_ok (bs : List Bnd) (nm : ByteArray) (st : St) (s : Value) (hbig : bs.length ≤ 4611686018427387904) (hl : ∀ b ∈ bs, Lim 1073741824 b.tm) (hr : Rw st bs s) :
    CallS Try.prog 19 [s, .string nm] st fun r st2 => Ext st st2 ∧ ∃ ds L, r = .tuple #[.agg ds.toArray, .bool (findB nm bs).isSome] ∧ OwnT st2 (findD nm bs) ds L ∧ Fresh st.length L := by
  refine CallS_of_W [] 19 Try.func19 rfl rfl rfl rfl (by simp) ?_
  have n1 := hr.notLoc.1
  have hsp := atB_spec nm bs 0
  repeat (first | (refine W_reg rfl fun G K hG hK => ?_; simp (disch := omega) only [go_sem, ↓reduceIte, Nat.reduceEqDiff, Nat.reduceAdd, Nat.reduceLeDiff, hG]; refine hK _ _ ?_; clear hK K hG G) | (refine W_end rfl fun G K hG hK => ?_; simp (disch := omega) only [go_sem, ↓reduceIte, Nat.reduceEqDiff, Nat.reduceAdd, Nat.reduceLeDiff, hG]; refine hK _ _ ?_; clear hK K hG G; repeat (first | refine thenI ?_ | refine thenE ?_ | refine thenR ?_ | refine inBI ?_ | refine inBR ?_ | refine inBS ?_ | refine inBN (by decide) ?_)) | refine W_seqS ?_ | refine W_seqC ?_ | refine W_seqB ?_ | refine W_block ?_ | (refine W_skip ?_; repeat (first | refine thenI ?_ | refine thenE ?_ | refine thenR ?_ | refine inBI ?_ | refine inBR ?_ | refine inBS ?_ | refine inBN (by decide) ?_)) | (refine W_condT ?hc ?_; (case hc => (simp (disch := omega) only [go_sem, ↓reduceIte, Nat.reduceEqDiff, Nat.reduceAdd, Nat.reduceLeDiff]; done))) | (refine W_condF ?hc ?_; (case hc => (simp (disch := omega) only [go_sem, ↓reduceIte, Nat.reduceEqDiff, Nat.reduceAdd, Nat.reduceLeDiff]; done))))
  (repeat (first | refine W_seqS ?_ | refine W_seqC ?_ | refine W_seqB ?_ | refine W_block ?_)); refine W_reg rfl fun G K hG hK => ?_; simp (disch := omega) only [go_sem, ↓reduceIte, Nat.reduceEqDiff, Nat.reduceAdd, Nat.reduceLeDiff, hG]
  refine w_call (l7At_ok bs nm st s hbig hr) (by simp (disch := omega) only [go_sem, ↓reduceIte, Nat.reduceEqDiff, n1]) ?hl ?_
  case hl => first | rfl | (simp only [go_sem, List.all_cons, List.all_nil, Bool.not_false, Bool.and_self, n1]; done)
  rintro r_ s_ ⟨rfl, rfl⟩; refine ⟨fun e => (by cases e), ?_⟩
  cases hq : atB nm bs 0 with
  | none =>
    rw [hq] at hsp
    simp (disch := omega) only [go_sem, ↓reduceIte, Nat.reduceEqDiff, Nat.reduceAdd, Nat.reduceLeDiff, hG, hq]; refine hK _ _ ?_; clear hK K hG G; repeat (first | refine thenI ?_ | refine thenE ?_ | refine thenR ?_ | refine inBI ?_ | refine inBR ?_ | refine inBS ?_ | refine inBN (by decide) ?_)
    have c1 : decide ((-1 : Int) < 0) = true := by decide
    repeat (first | (refine W_reg rfl fun G K hG hK => ?_; simp (disch := omega) only [go_sem, ↓reduceIte, Nat.reduceEqDiff, Nat.reduceAdd, Nat.reduceLeDiff, hG, c1]; refine hK _ _ ?_; clear hK K hG G) | (refine W_end rfl fun G K hG hK => ?_; simp (disch := omega) only [go_sem, ↓reduceIte, Nat.reduceEqDiff, Nat.reduceAdd, Nat.reduceLeDiff, hG, c1]; refine hK _ _ ?_; clear hK K hG G; repeat (first | refine thenI ?_ | refine thenE ?_ | refine thenR ?_ | refine inBI ?_ | refine inBR ?_ | refine inBS ?_ | refine inBN (by decide) ?_)) | refine W_seqS ?_ | refine W_seqC ?_ | refine W_seqB ?_ | refine W_block ?_ | (refine W_skip ?_; repeat (first | refine thenI ?_ | refine thenE ?_ | refine thenR ?_ | refine inBI ?_ | refine inBR ?_ | refine inBS ?_ | refine inBN (by decide) ?_)) | (refine W_condT ?hc ?_; (case hc => (simp (disch := omega) only [go_sem, ↓reduceIte, Nat.reduceEqDiff, Nat.reduceAdd, Nat.reduceLeDiff, c1]; done))) | (refine W_condF ?hc ?_; (case hc => (simp (disch := omega) only [go_sem, ↓reduceIte, Nat.reduceEqDiff, Nat.reduceAdd, Nat.reduceLeDiff, c1]; done))))
    refine W_ret ?_; try (repeat (first | refine thenI ?_ | refine thenE ?_ | refine thenR ?_ | refine inBI ?_ | refine inBR ?_ | refine inBS ?_ | refine inBN (by decide) ?_))
    refine finC2 (.inl rfl) (by (simp (disch := omega) only [go_sem, ↓reduceIte, Nat.reduceEqDiff, Nat.reduceAdd, Nat.reduceLeDiff]); try rfl) (by (simp (disch := omega) only [go_sem, ↓reduceIte, Nat.reduceEqDiff, Nat.reduceAdd, Nat.reduceLeDiff]); try rfl) rfl ⟨Ext.refl _, [.int .i64 0, .int .i64 0, .string ⟨#[]⟩, .slice none 0 0], [], by rw [hsp]; rfl, by unfold findD; rw [hsp]; exact own_zero' _, .nil _⟩
  | some i =>
    rw [hq] at hsp
    obtain ⟨_, hi1, b, hb, hfb⟩ := hsp
    rw [Nat.zero_add] at hi1
    rw [Nat.sub_zero] at hb
    obtain ⟨i2, o, c, k, m, mm, args, sx, rfl, htm, hrx, hcs⟩ := row_atB hr hb
    have hlb := hl b (List.mem_of_getElem? hb)
    have hld := fun loc => load_row (A := []) (loc := loc) (o := o + i * 5 + 1) (cs := [.int .i64 k, .int .i64 m, .string mm, sx]) (st := s_) (i := i2) ag36 sz36 rfl (fun q v hv => by
      have := hcs (q + 1) v (by simpa using hv)
      rwa [show o + i * 5 + (q + 1) = o + i * 5 + 1 + q by omega] at this)
    have nx := hrx.notLoc.1
    have nx2 := hrx.notLoc.2
    have hii := idxOk hi1
    have c1 : decide ((i : Int) < 0) = false := by simp
    have hE : Enc s_ b.tm [.int .i64 k, .int .i64 m, .string mm, sx] := by rw [htm]; exact Enc.close _ _ _ hrx
    simp (disch := omega) only [go_sem, ↓reduceIte, Nat.reduceEqDiff, Nat.reduceAdd, Nat.reduceLeDiff, hG]; refine hK _ _ ?_; clear hK K hG G; repeat (first | refine thenI ?_ | refine thenE ?_ | refine thenR ?_ | refine inBI ?_ | refine inBR ?_ | refine inBS ?_ | refine inBN (by decide) ?_)
    repeat (first | (refine W_reg rfl fun G K hG hK => ?_; simp (disch := omega) only [go_sem, ↓reduceIte, Nat.reduceEqDiff, Nat.reduceAdd, Nat.reduceLeDiff, hG, c1]; refine hK _ _ ?_; clear hK K hG G) | (refine W_end rfl fun G K hG hK => ?_; simp (disch := omega) only [go_sem, ↓reduceIte, Nat.reduceEqDiff, Nat.reduceAdd, Nat.reduceLeDiff, hG, c1]; refine hK _ _ ?_; clear hK K hG G; repeat (first | refine thenI ?_ | refine thenE ?_ | refine thenR ?_ | refine inBI ?_ | refine inBR ?_ | refine inBS ?_ | refine inBN (by decide) ?_)) | refine W_seqS ?_ | refine W_seqC ?_ | refine W_seqB ?_ | refine W_block ?_ | (refine W_skip ?_; repeat (first | refine thenI ?_ | refine thenE ?_ | refine thenR ?_ | refine inBI ?_ | refine inBR ?_ | refine inBS ?_ | refine inBN (by decide) ?_)) | (refine W_condT ?hc ?_; (case hc => (simp (disch := omega) only [go_sem, ↓reduceIte, Nat.reduceEqDiff, Nat.reduceAdd, Nat.reduceLeDiff, c1]; done))) | (refine W_condF ?hc ?_; (case hc => (simp (disch := omega) only [go_sem, ↓reduceIte, Nat.reduceEqDiff, Nat.reduceAdd, Nat.reduceLeDiff, c1]; done))))
    (repeat (first | refine W_seqS ?_ | refine W_seqC ?_ | refine W_seqB ?_ | refine W_block ?_)); refine W_reg rfl fun G K hG hK => ?_; simp (disch := omega) only [go_sem, ↓reduceIte, Nat.reduceEqDiff, Nat.reduceAdd, Nat.reduceLeDiff, hG, hii, idxA, Int.toNat_natCast, hld]
    refine w_call (l3Copy_ok b.tm _ _ hlb hE) (by simp (disch := omega) only [go_sem, ↓reduceIte, Nat.reduceEqDiff, nx]) ?hl ?_
    case hl => first | rfl | (simp only [go_sem, List.all_cons, List.all_nil, Bool.not_false, Bool.and_self, nx]; done)
    rintro r_ sb ⟨x1, es, L, rfl, ho, hf⟩; refine ⟨fun e => (by cases e), ?_⟩
    have ho2 := ho
    rw [htm] at ho2
    obtain ⟨so, rfl, hso⟩ := ho2.open
    simp (disch := omega) only [go_sem, ↓reduceIte, Nat.reduceEqDiff, Nat.reduceAdd, Nat.reduceLeDiff, hG]; refine hK _ _ ?_; clear hK K hG G; repeat (first | refine thenI ?_ | refine thenE ?_ | refine thenR ?_ | refine inBI ?_ | refine inBR ?_ | refine inBS ?_ | refine inBN (by decide) ?_)
    repeat (first | (refine W_reg rfl fun G K hG hK => ?_; simp (disch := omega) only [go_sem, ↓reduceIte, Nat.reduceEqDiff, Nat.reduceAdd, Nat.reduceLeDiff, hG]; refine hK _ _ ?_; clear hK K hG G) | (refine W_end rfl fun G K hG hK => ?_; simp (disch := omega) only [go_sem, ↓reduceIte, Nat.reduceEqDiff, Nat.reduceAdd, Nat.reduceLeDiff, hG]; refine hK _ _ ?_; clear hK K hG G; repeat (first | refine thenI ?_ | refine thenE ?_ | refine thenR ?_ | refine inBI ?_ | refine inBR ?_ | refine inBS ?_ | refine inBN (by decide) ?_)) | refine W_seqS ?_ | refine W_seqC ?_ | refine W_seqB ?_ | refine W_block ?_ | (refine W_skip ?_; repeat (first | refine thenI ?_ | refine thenE ?_ | refine thenR ?_ | refine inBI ?_ | refine inBR ?_ | refine inBS ?_ | refine inBN (by decide) ?_)) | (refine W_condT ?hc ?_; (case hc => (simp (disch := omega) only [go_sem, ↓reduceIte, Nat.reduceEqDiff, Nat.reduceAdd, Nat.reduceLeDiff]; done))) | (refine W_condF ?hc ?_; (case hc => (simp (disch := omega) only [go_sem, ↓reduceIte, Nat.reduceEqDiff, Nat.reduceAdd, Nat.reduceLeDiff]; done))))
    refine W_ret ?_; try (repeat (first | refine thenI ?_ | refine thenE ?_ | refine thenR ?_ | refine inBI ?_ | refine inBR ?_ | refine inBS ?_ | refine inBN (by decide) ?_))
    refine finC2 (.inl rfl) (by (simp (disch := omega) only [go_sem, ↓reduceIte, Nat.reduceEqDiff, Nat.reduceAdd, Nat.reduceLeDiff]); try rfl) (by (simp (disch := omega) only [go_sem, ↓reduceIte, Nat.reduceEqDiff, Nat.reduceAdd, Nat.reduceLeDiff]); try rfl) rfl ⟨x1, _, L, by rw [hfb]; rfl, by unfold findD; rw [hfb]; exact ho, hf⟩
end Go.Proofs.Ytopjbcfkaggleaa.AM
