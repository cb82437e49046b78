/- Whole numbers as texts: spec.FormatInt, strconv.Itoa, impl.FormatInt; the law FnExactFormatInt. -/
import Derived.Test.YtibcegfhllkdgaaDoorPLN
import Derived.Test.YtibcegfhllkdgaaDoorM1
import Derived.Test.YtibcegfhllkdgaaDoorDR1
import Derived.Test.YtibcegfhllkdgaaDoorShelf
namespace Go.Proofs.YtibcegfhllkdgaaDoor.AM
open Go Go.Proofs Go.Lib
set_option linter.unusedVariables false
set_option linter.unusedSimpArgs false
set_option maxRecDepth 100000
attribute [local go_sem] List.map_cons List.map_nil List.all_cons List.all_nil Bool.and_self Option.map_some List.getElem?_toArray Option.bind_some gye_b gye_t gsk_b gsk_t gb1 gb2 gb3 gb4 bne_self_eq_false beq_self_eq_true w_guard w_nil stepV_some step_some step_some' w_move w_assign w_pick w_binOp w_unOp w_load w_fieldAddr w_indexAddr w_len w_max w_index ev_max max_int ev_index w_box w_alloc w_store w_field w_extract w_nilCheck w_convert w_buildSlice w_build ev_buildL fillL_nil fillL_cons bs0 bs1 ev_conv ev_bin ev_un ev_pick ev_load ev_fieldAddr ev_indexAddr ev_len ev_field ev_extract ev_nilCheck fr_tmp fr_int fr_bool fr_str fr_nil fr_func put_some put_none bin_lss bin_leq bin_gtr bin_geq bin_eql bin_neq bin_add bin_sub bin_mul bin_seql bin_sneq un_not pick_ ext_ loadA_p cellAt_l cellAt_h okPtr_l okPtr_h fadA_p allocA_l storeA_l cells_agg cells_int cells_str cells_sl cells_bool flat_i flat_s flat_b flat_sl flat_nil loc_agg loc_int loc_str loc_sl loc_bool loc_fn loc_ptr okv_agg okv_int okv_str okv_sl okv_bool cellsFrom splice upd_eval argEnv_zero argEnv_succ ne_eq Nat.add_one_ne_zero not_false_eq_true List.not_mem_nil and_self decide_true List.getElem?_cons_zero List.getElem?_cons_succ List.size_toArray List.length_cons List.length_nil List.take_succ_cons List.take_zero List.drop_succ_cons List.drop_zero List.cons_append List.nil_append List.drop_nil Bool.not_true Bool.not_false Bool.false_eq_true Nat.zero_add Nat.add_zero wrap_in List.toList_toArray List.mem_cons or_self or_false false_or
attribute [local go_sem] ag27 ag5 by5 el24 ro5_1 sz27 sz5 ze26 ze36 ze5
-- AUTO

/-- The digits of a number that is not nought. -/
def digs (m : Nat) : List UInt8 := if m = 0 then [] else decDigits m
theorem digs_step {m : Nat} (h : m ≠ 0) : digs m = digs (m / 10) ++ [UInt8.ofNat (48 + m % 10)] := by
  unfold digs
  rw [if_neg h]
  by_cases h10 : m < 10
  · rw [if_pos (by omega), decDigits, dif_pos h10, show m % 10 = m by omega]; rfl
  · rw [if_neg (by omega), decDigits, dif_neg h10]
theorem wrap_digit : ∀ k : Nat, k < 10 → IntKind.u8.wrap (48 + (k : Int)) = (((UInt8.ofNat (48 + k)).toNat : Nat) : Int) := by decide
theorem getB2f {st : St} {y : Blk} : (st ++ [y])[st.length]? = some y := by rw [List.getElem?_append_right (Nat.le_refl _), Nat.sub_self]; rfl
theorem app_mk (c : UInt8) (o : ByteArray) : (⟨#[c]⟩ : ByteArray) ++ o = ⟨(c :: o.data.toList).toArray⟩ := by
  apply ByteArray.ext
  apply Array.ext'
  simp
theorem size_mk (l : List UInt8) : (⟨l.toArray⟩ : ByteArray).size = l.length := by
  show l.toArray.size = _
  simp
theorem nat_tdiv (m : Int) : (m.tdiv 10).natAbs = m.natAbs / 10 := by
  rw [Int.natAbs_tdiv]; rfl
theorem nat_tmod (m : Int) : (m.tmod 10).natAbs = m.natAbs % 10 := by
  rw [Int.natAbs_tmod]; rfl
theorem specFormatInt_ok (n : Int) (st : St) (h0 : -9223372036854775808 ≤ n) (h1 : n ≤ 9223372036854775807) :
    CallS Tryd.prog 4 [.int .i64 n] st fun r st2 => Ext st st2 ∧ r = .string ⟨(itoa n).toArray⟩ := by
  refine CallS_of_W [] 31 Tryd.func4 rfl rfl rfl rfl (by simp) ?_
  by_cases hn : n = 0
  · subst hn
    have e : (⟨(itoa 0).toArray⟩ : ByteArray) = ⟨#[48]⟩ := by
      have : itoa 0 = [48] := by decide +kernel
      rw [this]
    rw [e]
    repeat (first | (refine W_reg rfl fun G K hG hK => ?_; simp (disch := omega) only [go_sem, ↓reduceIte, Nat.reduceEqDiff, Nat.reduceAdd, Nat.reduceLeDiff, hG]; refine hK _ _ ?_; clear hK K hG G) | (refine W_end rfl fun G K hG hK => ?_; simp (disch := omega) only [go_sem, ↓reduceIte, Nat.reduceEqDiff, Nat.reduceAdd, Nat.reduceLeDiff, hG]; refine hK _ _ ?_; clear hK K hG G; repeat (first | refine thenI ?_ | refine thenE ?_ | refine thenR ?_ | refine inBI ?_ | refine inBR ?_ | refine inBS ?_ | refine inBN (by decide) ?_)) | refine W_seqS ?_ | refine W_seqC ?_ | refine W_seqB ?_ | refine W_block ?_ | (refine W_skip ?_; repeat (first | refine thenI ?_ | refine thenE ?_ | refine thenR ?_ | refine inBI ?_ | refine inBR ?_ | refine inBS ?_ | refine inBN (by decide) ?_)) | (refine W_condT ?hc ?_; (case hc => (simp (disch := omega) only [go_sem, ↓reduceIte, Nat.reduceEqDiff, Nat.reduceAdd, Nat.reduceLeDiff]; done))) | (refine W_condF ?hc ?_; (case hc => (simp (disch := omega) only [go_sem, ↓reduceIte, Nat.reduceEqDiff, Nat.reduceAdd, Nat.reduceLeDiff]; done))))
    refine W_ret ?_; try (repeat (first | refine thenI ?_ | refine thenE ?_ | refine thenR ?_ | refine inBI ?_ | refine inBR ?_ | refine inBS ?_ | refine inBN (by decide) ?_))
    refine fin1 (.inl rfl) (by (simp (disch := omega) only [go_sem, ↓reduceIte, Nat.reduceEqDiff, Nat.reduceAdd, Nat.reduceLeDiff]); try rfl) rfl ⟨Ext.refl _, rfl⟩
  have c0 : (n == 0) = false := by simpa using hn
  have hlen : ∀ m, m = n.natAbs → (decDigits m).length ≤ 20 := fun m hm => by
    rw [decDigits_length]
    exact nDigits_le20 m (by omega)
  repeat (first | (refine W_reg rfl fun G K hG hK => ?_; simp (disch := omega) only [go_sem, ↓reduceIte, Nat.reduceEqDiff, Nat.reduceAdd, Nat.reduceLeDiff, hG, c0]; refine hK _ _ ?_; clear hK K hG G) | (refine W_end rfl fun G K hG hK => ?_; simp (disch := omega) only [go_sem, ↓reduceIte, Nat.reduceEqDiff, Nat.reduceAdd, Nat.reduceLeDiff, hG, c0]; refine hK _ _ ?_; clear hK K hG G; repeat (first | refine thenI ?_ | refine thenE ?_ | refine thenR ?_ | refine inBI ?_ | refine inBR ?_ | refine inBS ?_ | refine inBN (by decide) ?_)) | refine W_seqS ?_ | refine W_seqC ?_ | refine W_seqB ?_ | refine W_block ?_ | (refine W_skip ?_; repeat (first | refine thenI ?_ | refine thenE ?_ | refine thenR ?_ | refine inBI ?_ | refine inBR ?_ | refine inBS ?_ | refine inBN (by decide) ?_)) | (refine W_condT ?hc ?_; (case hc => (simp (disch := omega) only [go_sem, ↓reduceIte, Nat.reduceEqDiff, Nat.reduceAdd, Nat.reduceLeDiff, c0]; done))) | (refine W_condF ?hc ?_; (case hc => (simp (disch := omega) only [go_sem, ↓reduceIte, Nat.reduceEqDiff, Nat.reduceAdd, Nat.reduceLeDiff, c0]; done))))
  refine W_loop (fun d fr st' => ∃ (j : Nat) (m : Int) (o : ByteArray), d = n.natAbs - j ∧ j ≤ n.natAbs ∧ (Ext st st') ∧ (m.natAbs ≤ n.natAbs - j) ∧ (digs m.natAbs ++ o.data.toList = digs n.natAbs) ∧ (fr.env 0 = .int .i64 m) ∧ (fr.env 3 = .bool (decide (n < 0))) ∧ (fr.env 4 = .string o)) (n.natAbs) ?_ ?_
  · exact ⟨0, n, ⟨#[]⟩, by omega, by omega, Ext.refl _, by omega, by simp, (by (simp (disch := omega) only [go_sem, ↓reduceIte, Nat.reduceEqDiff, Nat.reduceAdd, Nat.reduceLeDiff]); try rfl), (by (simp (disch := omega) only [go_sem, ↓reduceIte, Nat.reduceEqDiff, Nat.reduceAdd, Nat.reduceLeDiff]); try rfl), (by (simp (disch := omega) only [go_sem, ↓reduceIte, Nat.reduceEqDiff, Nat.reduceAdd, Nat.reduceLeDiff]); try rfl)⟩
  rintro d ⟨env, loc⟩ st' ⟨j, m, o, hd, hj, hext, hm, ho, e0, e3, e4⟩
  simp only at e0 e3 e4
  have hol : o.size ≤ 20 := by
    have h2 := congrArg List.length ho
    have h3 := hlen _ rfl
    have h4 : digs n.natAbs = decDigits n.natAbs := by unfold digs; rw [if_neg (by omega)]
    rw [h4, List.length_append] at h2
    have h5 : o.data.toList.length = o.size := by simp
    omega
  by_cases hm0 : m = 0
  · subst hm0
    have c1 : ((0 : Int) != 0) = false := by decide
    have ho2 : o.data.toList = decDigits n.natAbs := by
      have h4 : digs n.natAbs = decDigits n.natAbs := by unfold digs; rw [if_neg (by omega)]
      rw [h4] at ho
      have h5 : digs (0 : Int).natAbs = [] := rfl
      rw [h5, List.nil_append] at ho
      exact ho
    cases hneg : decide (n < 0) with
    | true =>
      have hn2 : n < 0 := by simpa using hneg
      have e : (⟨#[45]⟩ : ByteArray) ++ o = ⟨(itoa n).toArray⟩ := by
        rw [app_mk, ho2]; unfold itoa; rw [if_pos hn2]
      have hs : (⟨#[45]⟩ : ByteArray).size + o.size ≤ 2 ^ 62 := by
        have : (⟨#[45]⟩ : ByteArray).size = 1 := rfl
        omega
      have had : ∀ (x y : Operand), binE Tryd.prog .add 9 x y (.string ⟨#[45]⟩) (.string o) = some (.string (⟨#[45]⟩ ++ o)) := fun x y => bin_sadd hs
      rw [← e]
      repeat (first | (refine W_reg rfl fun G K hG hK => ?_; simp (disch := omega) only [go_sem, ↓reduceIte, Nat.reduceEqDiff, Nat.reduceAdd, Nat.reduceLeDiff, hG, e0, e3, e4, c1, hneg]; refine hK _ _ ?_; clear hK K hG G) | (refine W_end rfl fun G K hG hK => ?_; simp (disch := omega) only [go_sem, ↓reduceIte, Nat.reduceEqDiff, Nat.reduceAdd, Nat.reduceLeDiff, hG, e0, e3, e4, c1, hneg]; refine hK _ _ ?_; clear hK K hG G; repeat (first | refine thenI ?_ | refine thenE ?_ | refine thenR ?_ | refine inBI ?_ | refine inBR ?_ | refine inBS ?_ | refine inBN (by decide) ?_)) | refine W_seqS ?_ | refine W_seqC ?_ | refine W_seqB ?_ | refine W_block ?_ | (refine W_skip ?_; repeat (first | refine thenI ?_ | refine thenE ?_ | refine thenR ?_ | refine inBI ?_ | refine inBR ?_ | refine inBS ?_ | refine inBN (by decide) ?_)) | (refine W_condT ?hc ?_; (case hc => (simp (disch := omega) only [go_sem, ↓reduceIte, Nat.reduceEqDiff, Nat.reduceAdd, Nat.reduceLeDiff, e0, e3, e4, c1, hneg]; done))) | (refine W_condF ?hc ?_; (case hc => (simp (disch := omega) only [go_sem, ↓reduceIte, Nat.reduceEqDiff, Nat.reduceAdd, Nat.reduceLeDiff, e0, e3, e4, c1, hneg]; done))))
      refine W_exit ?_; repeat (first | refine thenI ?_ | refine thenE ?_ | refine thenR ?_ | refine inBI ?_ | refine inBR ?_ | refine inBS ?_ | refine inBN (by decide) ?_)
      repeat (first | (refine W_reg rfl fun G K hG hK => ?_; simp (disch := omega) only [go_sem, ↓reduceIte, Nat.reduceEqDiff, Nat.reduceAdd, Nat.reduceLeDiff, hG, e0, e3, e4, hneg, had]; refine hK _ _ ?_; clear hK K hG G) | (refine W_end rfl fun G K hG hK => ?_; simp (disch := omega) only [go_sem, ↓reduceIte, Nat.reduceEqDiff, Nat.reduceAdd, Nat.reduceLeDiff, hG, e0, e3, e4, hneg, had]; refine hK _ _ ?_; clear hK K hG G; repeat (first | refine thenI ?_ | refine thenE ?_ | refine thenR ?_ | refine inBI ?_ | refine inBR ?_ | refine inBS ?_ | refine inBN (by decide) ?_)) | refine W_seqS ?_ | refine W_seqC ?_ | refine W_seqB ?_ | refine W_block ?_ | (refine W_skip ?_; repeat (first | refine thenI ?_ | refine thenE ?_ | refine thenR ?_ | refine inBI ?_ | refine inBR ?_ | refine inBS ?_ | refine inBN (by decide) ?_)) | (refine W_condT ?hc ?_; (case hc => (simp (disch := omega) only [go_sem, ↓reduceIte, Nat.reduceEqDiff, Nat.reduceAdd, Nat.reduceLeDiff, e0, e3, e4, hneg, had]; done))) | (refine W_condF ?hc ?_; (case hc => (simp (disch := omega) only [go_sem, ↓reduceIte, Nat.reduceEqDiff, Nat.reduceAdd, Nat.reduceLeDiff, e0, e3, e4, hneg, had]; done))))
      refine W_ret ?_; try (repeat (first | refine thenI ?_ | refine thenE ?_ | refine thenR ?_ | refine inBI ?_ | refine inBR ?_ | refine inBS ?_ | refine inBN (by decide) ?_))
      refine fin1 (.inl rfl) (by (simp (disch := omega) only [go_sem, ↓reduceIte, Nat.reduceEqDiff, Nat.reduceAdd, Nat.reduceLeDiff, e0, e3, e4]); try rfl) rfl ⟨hext, rfl⟩
    | false =>
      have hn2 : ¬ n < 0 := by simpa using hneg
      have e : o = ⟨(itoa n).toArray⟩ := by
        have h6 : itoa n = o.data.toList := by
          rw [ho2]; unfold itoa; rw [if_neg hn2, show n.toNat = n.natAbs by omega]
        rw [h6]
      rw [← e]
      repeat (first | (refine W_reg rfl fun G K hG hK => ?_; simp (disch := omega) only [go_sem, ↓reduceIte, Nat.reduceEqDiff, Nat.reduceAdd, Nat.reduceLeDiff, hG, e0, e3, e4, c1, hneg]; refine hK _ _ ?_; clear hK K hG G) | (refine W_end rfl fun G K hG hK => ?_; simp (disch := omega) only [go_sem, ↓reduceIte, Nat.reduceEqDiff, Nat.reduceAdd, Nat.reduceLeDiff, hG, e0, e3, e4, c1, hneg]; refine hK _ _ ?_; clear hK K hG G; repeat (first | refine thenI ?_ | refine thenE ?_ | refine thenR ?_ | refine inBI ?_ | refine inBR ?_ | refine inBS ?_ | refine inBN (by decide) ?_)) | refine W_seqS ?_ | refine W_seqC ?_ | refine W_seqB ?_ | refine W_block ?_ | (refine W_skip ?_; repeat (first | refine thenI ?_ | refine thenE ?_ | refine thenR ?_ | refine inBI ?_ | refine inBR ?_ | refine inBS ?_ | refine inBN (by decide) ?_)) | (refine W_condT ?hc ?_; (case hc => (simp (disch := omega) only [go_sem, ↓reduceIte, Nat.reduceEqDiff, Nat.reduceAdd, Nat.reduceLeDiff, e0, e3, e4, c1, hneg]; done))) | (refine W_condF ?hc ?_; (case hc => (simp (disch := omega) only [go_sem, ↓reduceIte, Nat.reduceEqDiff, Nat.reduceAdd, Nat.reduceLeDiff, e0, e3, e4, c1, hneg]; done))))
      refine W_exit ?_; repeat (first | refine thenI ?_ | refine thenE ?_ | refine thenR ?_ | refine inBI ?_ | refine inBR ?_ | refine inBS ?_ | refine inBN (by decide) ?_)
      repeat (first | (refine W_reg rfl fun G K hG hK => ?_; simp (disch := omega) only [go_sem, ↓reduceIte, Nat.reduceEqDiff, Nat.reduceAdd, Nat.reduceLeDiff, hG, e0, e3, e4, hneg]; refine hK _ _ ?_; clear hK K hG G) | (refine W_end rfl fun G K hG hK => ?_; simp (disch := omega) only [go_sem, ↓reduceIte, Nat.reduceEqDiff, Nat.reduceAdd, Nat.reduceLeDiff, hG, e0, e3, e4, hneg]; refine hK _ _ ?_; clear hK K hG G; repeat (first | refine thenI ?_ | refine thenE ?_ | refine thenR ?_ | refine inBI ?_ | refine inBR ?_ | refine inBS ?_ | refine inBN (by decide) ?_)) | refine W_seqS ?_ | refine W_seqC ?_ | refine W_seqB ?_ | refine W_block ?_ | (refine W_skip ?_; repeat (first | refine thenI ?_ | refine thenE ?_ | refine thenR ?_ | refine inBI ?_ | refine inBR ?_ | refine inBS ?_ | refine inBN (by decide) ?_)) | (refine W_condT ?hc ?_; (case hc => (simp (disch := omega) only [go_sem, ↓reduceIte, Nat.reduceEqDiff, Nat.reduceAdd, Nat.reduceLeDiff, e0, e3, e4, hneg]; done))) | (refine W_condF ?hc ?_; (case hc => (simp (disch := omega) only [go_sem, ↓reduceIte, Nat.reduceEqDiff, Nat.reduceAdd, Nat.reduceLeDiff, e0, e3, e4, hneg]; done))))
      refine W_ret ?_; try (repeat (first | refine thenI ?_ | refine thenE ?_ | refine thenR ?_ | refine inBI ?_ | refine inBR ?_ | refine inBS ?_ | refine inBN (by decide) ?_))
      refine fin1 (.inl rfl) (by (simp (disch := omega) only [go_sem, ↓reduceIte, Nat.reduceEqDiff, Nat.reduceAdd, Nat.reduceLeDiff, e0, e3, e4]); try rfl) rfl ⟨hext, rfl⟩
  · have c1 : (m != 0) = true := by simpa using hm0
    have hk : m.natAbs % 10 < 10 := Nat.mod_lt _ (by omega)
    have hmod := nat_tmod m
    have hdiv := nat_tdiv m
    generalize hc : UInt8.ofNat (48 + m.natAbs % 10) = c at *
    have hwd : IntKind.u8.wrap (48 + ((m.natAbs % 10 : Nat) : Int)) = ((c.toNat : Nat) : Int) := by rw [← hc]; exact wrap_digit _ hk
    have hstep : digs m.natAbs = digs (m.tdiv 10).natAbs ++ [c] := by rw [digs_step (by omega), hdiv, hc]
    have hcell : ∀ (j : Nat) v, (strCells ⟨#[c]⟩)[j]? = some v → cell (st' ++ [(⟨[.int .u8 (c.toNat : Int)], 5, 0⟩ : Blk)]) st'.length (0 + j) = some v := fun j v hv => by
      rw [cell_of getB2f, Nat.zero_add]
      exact hv
    have hcv : ∀ (A : List Tmp) (loc : Nat → Nat × List Value), cvB Tryd.prog A 24 9 (.slice (some ⟨st'.length, 0, none⟩) 1 1) loc (st' ++ [(⟨[.int .u8 (c.toNat : Int)], 5, 0⟩ : Blk)]) = some (.string ⟨#[c]⟩) := fun A loc => cvB_str (q := ⟨#[c]⟩) Tryd.underlying24 Tryd.underlying5 Tryd.underlying9 hcell
    have hci : ∀ x : Int, cvI Tryd.prog 3 5 (.int .i64 x) = some (.int .u8 (IntKind.u8.wrap x)) := fun x => cvI_int Tryd.underlying3 Tryd.underlying5
    have hs : (⟨#[c]⟩ : ByteArray).size + o.size ≤ 2 ^ 62 := by
      have : (⟨#[c]⟩ : ByteArray).size = 1 := rfl
      omega
    have had : ∀ (x y : Operand), binE Tryd.prog .add 9 x y (.string ⟨#[c]⟩) (.string o) = some (.string (⟨#[c]⟩ ++ o)) := fun x y => bin_sadd hs
    have hq : IntKind.i64.wrap (m.tdiv 10) = m.tdiv 10 := wrap_in (by omega) (by omega)
    have hnext : digs (m.tdiv 10).natAbs ++ ((⟨#[c]⟩ : ByteArray) ++ o).data.toList = digs n.natAbs := by
      rw [app_mk, ← ho, hstep]
      simp
    by_cases hneg : m.tmod 10 < 0
    · have c2 : decide (m.tmod 10 < 0) = true := by simpa using hneg
      have hw1 : IntKind.i64.wrap (0 - m.tmod 10) = ((m.natAbs % 10 : Nat) : Int) := by rw [wrap_in (by omega) (by omega)]; omega
      have hw2 : IntKind.i64.wrap (48 + ((m.natAbs % 10 : Nat) : Int)) = 48 + ((m.natAbs % 10 : Nat) : Int) := wrap_in (by omega) (by omega)
      repeat (first | (refine W_reg rfl fun G K hG hK => ?_; simp (disch := omega) only [go_sem, ↓reduceIte, Nat.reduceEqDiff, Nat.reduceAdd, Nat.reduceLeDiff, hG, e0, e3, e4, c1, ne_rem, c2, hw1, hw2, ev_conv, hci, hwd, hcv, had, ne_quo, hq]; refine hK _ _ ?_; clear hK K hG G) | (refine W_end rfl fun G K hG hK => ?_; simp (disch := omega) only [go_sem, ↓reduceIte, Nat.reduceEqDiff, Nat.reduceAdd, Nat.reduceLeDiff, hG, e0, e3, e4, c1, ne_rem, c2, hw1, hw2, ev_conv, hci, hwd, hcv, had, ne_quo, hq]; refine hK _ _ ?_; clear hK K hG G; repeat (first | refine thenI ?_ | refine thenE ?_ | refine thenR ?_ | refine inBI ?_ | refine inBR ?_ | refine inBS ?_ | refine inBN (by decide) ?_)) | refine W_seqS ?_ | refine W_seqC ?_ | refine W_seqB ?_ | refine W_block ?_ | (refine W_skip ?_; repeat (first | refine thenI ?_ | refine thenE ?_ | refine thenR ?_ | refine inBI ?_ | refine inBR ?_ | refine inBS ?_ | refine inBN (by decide) ?_)) | (refine W_condT ?hc ?_; (case hc => (simp (disch := omega) only [go_sem, ↓reduceIte, Nat.reduceEqDiff, Nat.reduceAdd, Nat.reduceLeDiff, e0, e3, e4, c1, ne_rem, c2, hw1, hw2, ev_conv, hci, hwd, hcv, had, ne_quo, hq]; done))) | (refine W_condF ?hc ?_; (case hc => (simp (disch := omega) only [go_sem, ↓reduceIte, Nat.reduceEqDiff, Nat.reduceAdd, Nat.reduceLeDiff, e0, e3, e4, c1, ne_rem, c2, hw1, hw2, ev_conv, hci, hwd, hcv, had, ne_quo, hq]; done))))
      refine ⟨n.natAbs - (j + 1), by omega, j + 1, m.tdiv 10, _, rfl, by omega, hext.trans (Ext.app _ _), by omega, hnext, (by (simp (disch := omega) only [go_sem, ↓reduceIte, Nat.reduceEqDiff, Nat.reduceAdd, Nat.reduceLeDiff, e0, e3, e4]); try rfl), (by (simp (disch := omega) only [go_sem, ↓reduceIte, Nat.reduceEqDiff, Nat.reduceAdd, Nat.reduceLeDiff, e0, e3, e4]); try rfl), (by (simp (disch := omega) only [go_sem, ↓reduceIte, Nat.reduceEqDiff, Nat.reduceAdd, Nat.reduceLeDiff, e0, e3, e4]); try rfl)⟩
    · have c2 : decide (m.tmod 10 < 0) = false := by simpa using hneg
      have hw1 : m.tmod 10 = ((m.natAbs % 10 : Nat) : Int) := by omega
      have hw2 : IntKind.i64.wrap (48 + ((m.natAbs % 10 : Nat) : Int)) = 48 + ((m.natAbs % 10 : Nat) : Int) := wrap_in (by omega) (by omega)
      rw [hw1] at c2
      repeat (first | (refine W_reg rfl fun G K hG hK => ?_; simp (disch := omega) only [go_sem, ↓reduceIte, Nat.reduceEqDiff, Nat.reduceAdd, Nat.reduceLeDiff, hG, e0, e3, e4, c1, ne_rem, hw1, c2, hw2, ev_conv, hci, hwd, hcv, had, ne_quo, hq]; refine hK _ _ ?_; clear hK K hG G) | (refine W_end rfl fun G K hG hK => ?_; simp (disch := omega) only [go_sem, ↓reduceIte, Nat.reduceEqDiff, Nat.reduceAdd, Nat.reduceLeDiff, hG, e0, e3, e4, c1, ne_rem, hw1, c2, hw2, ev_conv, hci, hwd, hcv, had, ne_quo, hq]; refine hK _ _ ?_; clear hK K hG G; repeat (first | refine thenI ?_ | refine thenE ?_ | refine thenR ?_ | refine inBI ?_ | refine inBR ?_ | refine inBS ?_ | refine inBN (by decide) ?_)) | refine W_seqS ?_ | refine W_seqC ?_ | refine W_seqB ?_ | refine W_block ?_ | (refine W_skip ?_; repeat (first | refine thenI ?_ | refine thenE ?_ | refine thenR ?_ | refine inBI ?_ | refine inBR ?_ | refine inBS ?_ | refine inBN (by decide) ?_)) | (refine W_condT ?hc ?_; (case hc => (simp (disch := omega) only [go_sem, ↓reduceIte, Nat.reduceEqDiff, Nat.reduceAdd, Nat.reduceLeDiff, e0, e3, e4, c1, ne_rem, hw1, c2, hw2, ev_conv, hci, hwd, hcv, had, ne_quo, hq]; done))) | (refine W_condF ?hc ?_; (case hc => (simp (disch := omega) only [go_sem, ↓reduceIte, Nat.reduceEqDiff, Nat.reduceAdd, Nat.reduceLeDiff, e0, e3, e4, c1, ne_rem, hw1, c2, hw2, ev_conv, hci, hwd, hcv, had, ne_quo, hq]; done))))
      refine ⟨n.natAbs - (j + 1), by omega, j + 1, m.tdiv 10, _, rfl, by omega, hext.trans (Ext.app _ _), by omega, hnext, (by (simp (disch := omega) only [go_sem, ↓reduceIte, Nat.reduceEqDiff, Nat.reduceAdd, Nat.reduceLeDiff, e0, e3, e4]); try rfl), (by (simp (disch := omega) only [go_sem, ↓reduceIte, Nat.reduceEqDiff, Nat.reduceAdd, Nat.reduceLeDiff, e0, e3, e4]); try rfl), (by (simp (disch := omega) only [go_sem, ↓reduceIte, Nat.reduceEqDiff, Nat.reduceAdd, Nat.reduceLeDiff, e0, e3, e4]); try rfl)⟩
end Go.Proofs.YtibcegfhllkdgaaDoor.AM
