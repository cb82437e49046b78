/- My texts for the law, laid together (part 2): O3 F7 F8 F9 PL6 Q1 F17 K2 N2 C17. -/
import Derived.Test.YtpkjgjomiikofaaDoorG1
namespace Go.Proofs.YtpkjgjomiikofaaDoor.AM
open Go
attribute [local go_sem] List.map_cons List.map_nil List.all_cons List.all_nil Bool.and_self Option.map_some List.getElem?_toArray Option.bind_some gye_b gye_t gsk_b gsk_t gb1 gb2 gb3 gb4 bne_self_eq_false beq_self_eq_true w_guard w_nil stepV_some step_some step_some' w_move w_assign w_pick w_binOp w_unOp w_load w_fieldAddr w_indexAddr w_len w_max w_index ev_max max_int ev_index w_box w_alloc w_store w_field w_extract w_nilCheck w_convert w_buildSlice w_build ev_buildL fillL_nil fillL_cons bs0 bs1 ev_conv ev_bin ev_un ev_pick ev_load ev_fieldAddr ev_indexAddr ev_len ev_field ev_extract ev_nilCheck fr_tmp fr_int fr_bool fr_str fr_nil fr_func put_some put_none bin_lss bin_leq bin_gtr bin_geq bin_eql bin_neq bin_add bin_sub bin_mul bin_seql bin_sneq un_not pick_ ext_ loadA_p cellAt_l cellAt_h okPtr_l okPtr_h fadA_p allocA_l storeA_l cells_agg cells_int cells_str cells_sl cells_bool flat_i flat_s flat_b flat_sl flat_nil loc_agg loc_int loc_str loc_sl loc_bool loc_fn loc_ptr okv_agg okv_int okv_str okv_sl okv_bool cellsFrom splice upd_eval argEnv_zero argEnv_succ ne_eq Nat.add_one_ne_zero not_false_eq_true List.not_mem_nil and_self decide_true List.getElem?_cons_zero List.getElem?_cons_succ List.size_toArray List.length_cons List.length_nil List.take_succ_cons List.take_zero List.drop_succ_cons List.drop_zero List.cons_append List.nil_append List.drop_nil Bool.not_true Bool.not_false Bool.false_eq_true Nat.zero_add Nat.add_zero wrap_in List.toList_toArray List.mem_cons or_self or_false false_or
attribute [local go_sem] ag22 ag24 ag26 ag3 ag4 ag5 ag78 ag83 ag9 ag91 bu116 bu122 bu26 bu39 bu49 bu58 by26 by5 by9 el22 el24 el46 el53 of26_0 of26_1 of26_2 of26_3 of39_0 of49_0 of49_1 of49_2 of58_0 of58_1 of58_2 of80_0 of80_1 ro26_0 ro26_1 ro26_2 ro3_3 ro5_1 ro9_1 ro9_2 ro9_3 ro9_4 ro9_8 sz22 sz24 sz26 sz3 sz4 sz5 sz78 sz83 sz9 sz91 ze109 ze26 ze5 ze80 ze9 ze90
section
/- Names: impl.isNamed, IsName, IsVarName; spec.l2Lower, l2Digit, l2Rest, IsName, IsVarName. -/
open Go Go.Proofs
set_option linter.unusedVariables false
set_option linter.unusedSimpArgs false
set_option maxRecDepth 100000
-- AUTO

theorem drop_byte {s : ByteArray} {i : Nat} (h : i < s.size) : ∃ b r, s.data.toList.drop i = b :: r ∧ byteAt s i = (b.toNat : Int) ∧ s.data.toList.drop (i + 1) = r := by
  have h5 : i < s.data.toList.length := by simpa using h
  refine ⟨s.data.toList[i], s.data.toList.drop (i + 1), List.drop_eq_getElem_cons h5, ?_, rfl⟩
  unfold byteAt
  rw [List.getD_eq_getElem?_getD, List.getElem?_eq_getElem h5]
  rfl
theorem size_list (s : ByteArray) : s.size = s.data.toList.length := by simp
theorem nm_of {lo hi : Nat} {s : ByteArray} {b : UInt8} {r : List UInt8} (h : s.data.toList = b :: r) : isNm lo hi s.data.toList = ((decide (lo ≤ b.toNat) && decide (b.toNat ≤ hi)) && (r.all lowDig && decide (r.length ≤ 7))) := by rw [h]; rfl
theorem implNamed_ok (s : ByteArray) (lo hi : Nat) (st : St) : CallS Tryd.prog 55 [.string s, .int .u8 lo, .int .u8 hi] st fun r st' => r = .bool (isNm lo hi s.data.toList) ∧ st' = st := by
  refine CallS_of_W [] 56 Tryd.func55 rfl rfl rfl rfl (by simp) ?_
  have hlen : lenE Tryd.prog 9 (.string s) = some (.int .i64 s.size) := len_str Tryd.underlying9
  have hix := fun (k : IntKind) (i : Int) (h0 : 0 ≤ i) (h1 : i < s.size) => idxS (k := k) Tryd.underlying9 h0 h1
  by_cases h1 : s.size < 1
  · have c1 : decide ((s.size : Int) < 1) = true := by simp; omega
    repeat (first | (refine W_reg rfl fun G K hG hK => ?_; simp (disch := omega) only [go_sem, ↓reduceIte, Nat.reduceEqDiff, Nat.reduceAdd, Nat.reduceLeDiff, hG, hlen, hix, w_index, ev_index, c1]; refine hK _ _ ?_; clear hK K hG G) | (refine W_end rfl fun G K hG hK => ?_; simp (disch := omega) only [go_sem, ↓reduceIte, Nat.reduceEqDiff, Nat.reduceAdd, Nat.reduceLeDiff, hG, hlen, hix, w_index, ev_index, c1]; refine hK _ _ ?_; clear hK K hG G; repeat (first | refine thenI ?_ | refine thenE ?_ | refine thenR ?_ | refine inBI ?_ | refine inBR ?_ | refine inBS ?_ | refine inBN (by decide) ?_)) | refine W_seqS ?_ | refine W_seqC ?_ | refine W_seqB ?_ | refine W_block ?_ | (refine W_skip ?_; repeat (first | refine thenI ?_ | refine thenE ?_ | refine thenR ?_ | refine inBI ?_ | refine inBR ?_ | refine inBS ?_ | refine inBN (by decide) ?_)) | (refine W_condT ?hc ?_; (case hc => (simp (disch := omega) only [go_sem, ↓reduceIte, Nat.reduceEqDiff, Nat.reduceAdd, Nat.reduceLeDiff, hlen, hix, w_index, ev_index, c1]; done))) | (refine W_condF ?hc ?_; (case hc => (simp (disch := omega) only [go_sem, ↓reduceIte, Nat.reduceEqDiff, Nat.reduceAdd, Nat.reduceLeDiff, hlen, hix, w_index, ev_index, c1]; done))))
    have hn : s.data.toList = [] := List.eq_nil_of_length_eq_zero (by rw [← size_list]; omega)
    refine W_ret ?_; try (repeat (first | refine thenI ?_ | refine thenE ?_ | refine thenR ?_ | refine inBI ?_ | refine inBR ?_ | refine inBS ?_ | refine inBN (by decide) ?_))
    refine fin1 (.inl rfl) (by (simp (disch := omega) only [go_sem, ↓reduceIte, Nat.reduceEqDiff, Nat.reduceAdd, Nat.reduceLeDiff, hlen, hix, w_index, ev_index]); try rfl) rfl ⟨by rw [hn]; rfl, rfl⟩
  have c1 : decide ((s.size : Int) < 1) = false := by simp; omega
  obtain ⟨b, r, hb, hby, hr1⟩ := drop_byte (s := s) (i := 0) (by omega)
  rw [List.drop_zero] at hb
  have hby' : byteAt s (0 : Int).toNat = (b.toNat : Int) := hby
  have hsz : s.size = r.length + 1 := by rw [size_list, hb]; simp
  rw [nm_of hb]
  by_cases h2 : s.size > 8
  · have c2 : decide ((s.size : Int) > 8) = true := by simp; omega
    have h7 : ¬ r.length ≤ 7 := by omega
    repeat (first | (refine W_reg rfl fun G K hG hK => ?_; simp (disch := omega) only [go_sem, ↓reduceIte, Nat.reduceEqDiff, Nat.reduceAdd, Nat.reduceLeDiff, hG, hlen, hix, w_index, ev_index, c1, c2]; refine hK _ _ ?_; clear hK K hG G) | (refine W_end rfl fun G K hG hK => ?_; simp (disch := omega) only [go_sem, ↓reduceIte, Nat.reduceEqDiff, Nat.reduceAdd, Nat.reduceLeDiff, hG, hlen, hix, w_index, ev_index, c1, c2]; refine hK _ _ ?_; clear hK K hG G; repeat (first | refine thenI ?_ | refine thenE ?_ | refine thenR ?_ | refine inBI ?_ | refine inBR ?_ | refine inBS ?_ | refine inBN (by decide) ?_)) | refine W_seqS ?_ | refine W_seqC ?_ | refine W_seqB ?_ | refine W_block ?_ | (refine W_skip ?_; repeat (first | refine thenI ?_ | refine thenE ?_ | refine thenR ?_ | refine inBI ?_ | refine inBR ?_ | refine inBS ?_ | refine inBN (by decide) ?_)) | (refine W_condT ?hc ?_; (case hc => (simp (disch := omega) only [go_sem, ↓reduceIte, Nat.reduceEqDiff, Nat.reduceAdd, Nat.reduceLeDiff, hlen, hix, w_index, ev_index, c1, c2]; done))) | (refine W_condF ?hc ?_; (case hc => (simp (disch := omega) only [go_sem, ↓reduceIte, Nat.reduceEqDiff, Nat.reduceAdd, Nat.reduceLeDiff, hlen, hix, w_index, ev_index, c1, c2]; done))))
    refine W_ret ?_; try (repeat (first | refine thenI ?_ | refine thenE ?_ | refine thenR ?_ | refine inBI ?_ | refine inBR ?_ | refine inBS ?_ | refine inBN (by decide) ?_))
    refine fin1 (.inl rfl) (by (simp (disch := omega) only [go_sem, ↓reduceIte, Nat.reduceEqDiff, Nat.reduceAdd, Nat.reduceLeDiff, hlen, hix, w_index, ev_index]); try rfl) rfl ⟨by simp [h7], rfl⟩
  have c2 : decide ((s.size : Int) > 8) = false := by simp; omega
  have h7 : r.length ≤ 7 := by omega
  by_cases h3 : b.toNat < lo
  · have c3 : decide ((b.toNat : Int) < lo) = true := by simp; omega
    have h4 : ¬ lo ≤ b.toNat := by omega
    repeat (first | (refine W_reg rfl fun G K hG hK => ?_; simp (disch := omega) only [go_sem, ↓reduceIte, Nat.reduceEqDiff, Nat.reduceAdd, Nat.reduceLeDiff, hG, hlen, hix, w_index, ev_index, c1, c2, hby', c3]; refine hK _ _ ?_; clear hK K hG G) | (refine W_end rfl fun G K hG hK => ?_; simp (disch := omega) only [go_sem, ↓reduceIte, Nat.reduceEqDiff, Nat.reduceAdd, Nat.reduceLeDiff, hG, hlen, hix, w_index, ev_index, c1, c2, hby', c3]; refine hK _ _ ?_; clear hK K hG G; repeat (first | refine thenI ?_ | refine thenE ?_ | refine thenR ?_ | refine inBI ?_ | refine inBR ?_ | refine inBS ?_ | refine inBN (by decide) ?_)) | refine W_seqS ?_ | refine W_seqC ?_ | refine W_seqB ?_ | refine W_block ?_ | (refine W_skip ?_; repeat (first | refine thenI ?_ | refine thenE ?_ | refine thenR ?_ | refine inBI ?_ | refine inBR ?_ | refine inBS ?_ | refine inBN (by decide) ?_)) | (refine W_condT ?hc ?_; (case hc => (simp (disch := omega) only [go_sem, ↓reduceIte, Nat.reduceEqDiff, Nat.reduceAdd, Nat.reduceLeDiff, hlen, hix, w_index, ev_index, c1, c2, hby', c3]; done))) | (refine W_condF ?hc ?_; (case hc => (simp (disch := omega) only [go_sem, ↓reduceIte, Nat.reduceEqDiff, Nat.reduceAdd, Nat.reduceLeDiff, hlen, hix, w_index, ev_index, c1, c2, hby', c3]; done))))
    refine W_ret ?_; try (repeat (first | refine thenI ?_ | refine thenE ?_ | refine thenR ?_ | refine inBI ?_ | refine inBR ?_ | refine inBS ?_ | refine inBN (by decide) ?_))
    refine fin1 (.inl rfl) (by (simp (disch := omega) only [go_sem, ↓reduceIte, Nat.reduceEqDiff, Nat.reduceAdd, Nat.reduceLeDiff, hlen, hix, w_index, ev_index]); try rfl) rfl ⟨by simp [h4], rfl⟩
  have c3 : decide ((b.toNat : Int) < lo) = false := by simp; omega
  by_cases h4 : b.toNat > hi
  · have c4 : decide ((b.toNat : Int) > hi) = true := by simp; omega
    have h5 : ¬ b.toNat ≤ hi := by omega
    repeat (first | (refine W_reg rfl fun G K hG hK => ?_; simp (disch := omega) only [go_sem, ↓reduceIte, Nat.reduceEqDiff, Nat.reduceAdd, Nat.reduceLeDiff, hG, hlen, hix, w_index, ev_index, c1, c2, hby', c3, c4]; refine hK _ _ ?_; clear hK K hG G) | (refine W_end rfl fun G K hG hK => ?_; simp (disch := omega) only [go_sem, ↓reduceIte, Nat.reduceEqDiff, Nat.reduceAdd, Nat.reduceLeDiff, hG, hlen, hix, w_index, ev_index, c1, c2, hby', c3, c4]; refine hK _ _ ?_; clear hK K hG G; repeat (first | refine thenI ?_ | refine thenE ?_ | refine thenR ?_ | refine inBI ?_ | refine inBR ?_ | refine inBS ?_ | refine inBN (by decide) ?_)) | refine W_seqS ?_ | refine W_seqC ?_ | refine W_seqB ?_ | refine W_block ?_ | (refine W_skip ?_; repeat (first | refine thenI ?_ | refine thenE ?_ | refine thenR ?_ | refine inBI ?_ | refine inBR ?_ | refine inBS ?_ | refine inBN (by decide) ?_)) | (refine W_condT ?hc ?_; (case hc => (simp (disch := omega) only [go_sem, ↓reduceIte, Nat.reduceEqDiff, Nat.reduceAdd, Nat.reduceLeDiff, hlen, hix, w_index, ev_index, c1, c2, hby', c3, c4]; done))) | (refine W_condF ?hc ?_; (case hc => (simp (disch := omega) only [go_sem, ↓reduceIte, Nat.reduceEqDiff, Nat.reduceAdd, Nat.reduceLeDiff, hlen, hix, w_index, ev_index, c1, c2, hby', c3, c4]; done))))
    refine W_ret ?_; try (repeat (first | refine thenI ?_ | refine thenE ?_ | refine thenR ?_ | refine inBI ?_ | refine inBR ?_ | refine inBS ?_ | refine inBN (by decide) ?_))
    refine fin1 (.inl rfl) (by (simp (disch := omega) only [go_sem, ↓reduceIte, Nat.reduceEqDiff, Nat.reduceAdd, Nat.reduceLeDiff, hlen, hix, w_index, ev_index]); try rfl) rfl ⟨by simp [h5], rfl⟩
  have c4 : decide ((b.toNat : Int) > hi) = false := by simp; omega
  have g1 : lo ≤ b.toNat := by omega
  have g2 : b.toNat ≤ hi := by omega
  repeat (first | (refine W_reg rfl fun G K hG hK => ?_; simp (disch := omega) only [go_sem, ↓reduceIte, Nat.reduceEqDiff, Nat.reduceAdd, Nat.reduceLeDiff, hG, hlen, hix, w_index, ev_index, c1, c2, hby', c3, c4]; refine hK _ _ ?_; clear hK K hG G) | (refine W_end rfl fun G K hG hK => ?_; simp (disch := omega) only [go_sem, ↓reduceIte, Nat.reduceEqDiff, Nat.reduceAdd, Nat.reduceLeDiff, hG, hlen, hix, w_index, ev_index, c1, c2, hby', c3, c4]; refine hK _ _ ?_; clear hK K hG G; repeat (first | refine thenI ?_ | refine thenE ?_ | refine thenR ?_ | refine inBI ?_ | refine inBR ?_ | refine inBS ?_ | refine inBN (by decide) ?_)) | refine W_seqS ?_ | refine W_seqC ?_ | refine W_seqB ?_ | refine W_block ?_ | (refine W_skip ?_; repeat (first | refine thenI ?_ | refine thenE ?_ | refine thenR ?_ | refine inBI ?_ | refine inBR ?_ | refine inBS ?_ | refine inBN (by decide) ?_)) | (refine W_condT ?hc ?_; (case hc => (simp (disch := omega) only [go_sem, ↓reduceIte, Nat.reduceEqDiff, Nat.reduceAdd, Nat.reduceLeDiff, hlen, hix, w_index, ev_index, c1, c2, hby', c3, c4]; done))) | (refine W_condF ?hc ?_; (case hc => (simp (disch := omega) only [go_sem, ↓reduceIte, Nat.reduceEqDiff, Nat.reduceAdd, Nat.reduceLeDiff, hlen, hix, w_index, ev_index, c1, c2, hby', c3, c4]; done))))
  refine W_loop (fun d fr st' => ∃ (j : Nat) , d = r.length - j ∧ j ≤ r.length ∧ (st' = st) ∧ ((r.take j).all lowDig = true) ∧ (fr.env 0 = .string s) ∧ (fr.env 7 = .int .i64 ((j : Int) + 1))) (r.length) ?_ ?_
  · exact ⟨0, by omega, by omega, rfl, by simp, (by (simp (disch := omega) only [go_sem, ↓reduceIte, Nat.reduceEqDiff, Nat.reduceAdd, Nat.reduceLeDiff, hlen, hix, w_index, ev_index]); try rfl), (by (simp (disch := omega) only [go_sem, ↓reduceIte, Nat.reduceEqDiff, Nat.reduceAdd, Nat.reduceLeDiff, hlen, hix, w_index, ev_index]); try rfl)⟩
  rintro d ⟨env, loc⟩ st' ⟨j, hd, hj, hst, hall, e0, e7⟩
  simp only at e0 e7
  subst hst
  by_cases hlt : j < r.length
  · have d1 : decide ((j : Int) + 1 < (s.size : Int)) = true := by simp; omega
    obtain ⟨x, q, hx, hxb, hq⟩ := drop_byte (s := s) (i := j + 1) (by omega)
    have hxr : r[j]? = some x := by
      have : s.data.toList[j + 1]? = some x := by rw [← List.head?_drop, hx]; rfl
      rw [hb] at this
      simpa using this
    have hxj : r[j] = x := by rw [List.getElem?_eq_getElem hlt] at hxr; exact Option.some.inj hxr
    have htk : r.take (j + 1) = r.take j ++ [x] := by rw [List.take_succ_eq_append_getElem hlt, hxj]
    have hxb' : byteAt s ((j : Int) + 1).toNat = (x.toNat : Int) := by rw [show ((j : Int) + 1).toNat = j + 1 by omega]; exact hxb
    have hld : lowDig x = ((decide (97 ≤ x.toNat) && decide (x.toNat ≤ 122)) || (decide (48 ≤ x.toNat) && decide (x.toNat ≤ 57))) := rfl
    have bad : lowDig x = false → (r.all lowDig) = false := fun h => by
      refine Bool.eq_false_iff.2 fun ha => ?_
      have := List.all_eq_true.1 ha x (hxj ▸ List.getElem_mem hlt)
      rw [h] at this; cases this
    by_cases k1 : x.toNat < 97
    · have e1 : decide ((x.toNat : Int) < 97) = true := by simp; omega
      by_cases k3 : x.toNat < 48
      · have e3 : decide ((x.toNat : Int) < 48) = true := by simp; omega
        repeat (first | (refine W_reg rfl fun G K hG hK => ?_; simp (disch := omega) only [go_sem, ↓reduceIte, Nat.reduceEqDiff, Nat.reduceAdd, Nat.reduceLeDiff, hG, hlen, hix, w_index, ev_index, e0, e7, d1, hxb', e1, e3]; refine hK _ _ ?_; clear hK K hG G) | (refine W_end rfl fun G K hG hK => ?_; simp (disch := omega) only [go_sem, ↓reduceIte, Nat.reduceEqDiff, Nat.reduceAdd, Nat.reduceLeDiff, hG, hlen, hix, w_index, ev_index, e0, e7, d1, hxb', e1, e3]; refine hK _ _ ?_; clear hK K hG G; repeat (first | refine thenI ?_ | refine thenE ?_ | refine thenR ?_ | refine inBI ?_ | refine inBR ?_ | refine inBS ?_ | refine inBN (by decide) ?_)) | refine W_seqS ?_ | refine W_seqC ?_ | refine W_seqB ?_ | refine W_block ?_ | (refine W_skip ?_; repeat (first | refine thenI ?_ | refine thenE ?_ | refine thenR ?_ | refine inBI ?_ | refine inBR ?_ | refine inBS ?_ | refine inBN (by decide) ?_)) | (refine W_condT ?hc ?_; (case hc => (simp (disch := omega) only [go_sem, ↓reduceIte, Nat.reduceEqDiff, Nat.reduceAdd, Nat.reduceLeDiff, hlen, hix, w_index, ev_index, e0, e7, d1, hxb', e1, e3]; done))) | (refine W_condF ?hc ?_; (case hc => (simp (disch := omega) only [go_sem, ↓reduceIte, Nat.reduceEqDiff, Nat.reduceAdd, Nat.reduceLeDiff, hlen, hix, w_index, ev_index, e0, e7, d1, hxb', e1, e3]; done))))
        refine W_ret ?_; try (repeat (first | refine thenI ?_ | refine thenE ?_ | refine thenR ?_ | refine inBI ?_ | refine inBR ?_ | refine inBS ?_ | refine inBN (by decide) ?_))
        refine fin1 (.inl rfl) (by (simp (disch := omega) only [go_sem, ↓reduceIte, Nat.reduceEqDiff, Nat.reduceAdd, Nat.reduceLeDiff, hlen, hix, w_index, ev_index, e0, e7]); try rfl) rfl ⟨by rw [bad (by rw [hld]; simp; omega)]; simp, rfl⟩
      · have e3 : decide ((x.toNat : Int) < 48) = false := by simp; omega
        by_cases k4 : x.toNat > 57
        · have e4 : decide ((x.toNat : Int) > 57) = true := by simp; omega
          repeat (first | (refine W_reg rfl fun G K hG hK => ?_; simp (disch := omega) only [go_sem, ↓reduceIte, Nat.reduceEqDiff, Nat.reduceAdd, Nat.reduceLeDiff, hG, hlen, hix, w_index, ev_index, e0, e7, d1, hxb', e1, e3, e4]; refine hK _ _ ?_; clear hK K hG G) | (refine W_end rfl fun G K hG hK => ?_; simp (disch := omega) only [go_sem, ↓reduceIte, Nat.reduceEqDiff, Nat.reduceAdd, Nat.reduceLeDiff, hG, hlen, hix, w_index, ev_index, e0, e7, d1, hxb', e1, e3, e4]; refine hK _ _ ?_; clear hK K hG G; repeat (first | refine thenI ?_ | refine thenE ?_ | refine thenR ?_ | refine inBI ?_ | refine inBR ?_ | refine inBS ?_ | refine inBN (by decide) ?_)) | refine W_seqS ?_ | refine W_seqC ?_ | refine W_seqB ?_ | refine W_block ?_ | (refine W_skip ?_; repeat (first | refine thenI ?_ | refine thenE ?_ | refine thenR ?_ | refine inBI ?_ | refine inBR ?_ | refine inBS ?_ | refine inBN (by decide) ?_)) | (refine W_condT ?hc ?_; (case hc => (simp (disch := omega) only [go_sem, ↓reduceIte, Nat.reduceEqDiff, Nat.reduceAdd, Nat.reduceLeDiff, hlen, hix, w_index, ev_index, e0, e7, d1, hxb', e1, e3, e4]; done))) | (refine W_condF ?hc ?_; (case hc => (simp (disch := omega) only [go_sem, ↓reduceIte, Nat.reduceEqDiff, Nat.reduceAdd, Nat.reduceLeDiff, hlen, hix, w_index, ev_index, e0, e7, d1, hxb', e1, e3, e4]; done))))
          refine W_ret ?_; try (repeat (first | refine thenI ?_ | refine thenE ?_ | refine thenR ?_ | refine inBI ?_ | refine inBR ?_ | refine inBS ?_ | refine inBN (by decide) ?_))
          refine fin1 (.inl rfl) (by (simp (disch := omega) only [go_sem, ↓reduceIte, Nat.reduceEqDiff, Nat.reduceAdd, Nat.reduceLeDiff, hlen, hix, w_index, ev_index, e0, e7]); try rfl) rfl ⟨by rw [bad (by rw [hld]; simp; omega)]; simp, rfl⟩
        · have e4 : decide ((x.toNat : Int) > 57) = false := by simp; omega
          repeat (first | (refine W_reg rfl fun G K hG hK => ?_; simp (disch := omega) only [go_sem, ↓reduceIte, Nat.reduceEqDiff, Nat.reduceAdd, Nat.reduceLeDiff, hG, hlen, hix, w_index, ev_index, e0, e7, d1, hxb', e1, e3, e4]; refine hK _ _ ?_; clear hK K hG G) | (refine W_end rfl fun G K hG hK => ?_; simp (disch := omega) only [go_sem, ↓reduceIte, Nat.reduceEqDiff, Nat.reduceAdd, Nat.reduceLeDiff, hG, hlen, hix, w_index, ev_index, e0, e7, d1, hxb', e1, e3, e4]; refine hK _ _ ?_; clear hK K hG G; repeat (first | refine thenI ?_ | refine thenE ?_ | refine thenR ?_ | refine inBI ?_ | refine inBR ?_ | refine inBS ?_ | refine inBN (by decide) ?_)) | refine W_seqS ?_ | refine W_seqC ?_ | refine W_seqB ?_ | refine W_block ?_ | (refine W_skip ?_; repeat (first | refine thenI ?_ | refine thenE ?_ | refine thenR ?_ | refine inBI ?_ | refine inBR ?_ | refine inBS ?_ | refine inBN (by decide) ?_)) | (refine W_condT ?hc ?_; (case hc => (simp (disch := omega) only [go_sem, ↓reduceIte, Nat.reduceEqDiff, Nat.reduceAdd, Nat.reduceLeDiff, hlen, hix, w_index, ev_index, e0, e7, d1, hxb', e1, e3, e4]; done))) | (refine W_condF ?hc ?_; (case hc => (simp (disch := omega) only [go_sem, ↓reduceIte, Nat.reduceEqDiff, Nat.reduceAdd, Nat.reduceLeDiff, hlen, hix, w_index, ev_index, e0, e7, d1, hxb', e1, e3, e4]; done))))
          refine ⟨r.length - (j + 1), by omega, j + 1, rfl, by omega, rfl, by rw [htk, List.all_append, hall]; simp [hld]; omega, (by (simp (disch := omega) only [go_sem, ↓reduceIte, Nat.reduceEqDiff, Nat.reduceAdd, Nat.reduceLeDiff, hlen, hix, w_index, ev_index, e0, e7]); try rfl), (by (simp (disch := omega) only [go_sem, ↓reduceIte, Nat.reduceEqDiff, Nat.reduceAdd, Nat.reduceLeDiff, hlen, hix, w_index, ev_index, e0, e7]); try rfl)⟩
    · have e1 : decide ((x.toNat : Int) < 97) = false := by simp; omega
      by_cases k2 : x.toNat > 122
      · have e2 : decide ((x.toNat : Int) > 122) = true := by simp; omega
        have e3 : decide ((x.toNat : Int) < 48) = false := by simp; omega
        have e4 : decide ((x.toNat : Int) > 57) = true := by simp; omega
        repeat (first | (refine W_reg rfl fun G K hG hK => ?_; simp (disch := omega) only [go_sem, ↓reduceIte, Nat.reduceEqDiff, Nat.reduceAdd, Nat.reduceLeDiff, hG, hlen, hix, w_index, ev_index, e0, e7, d1, hxb', e1, e2, e3, e4]; refine hK _ _ ?_; clear hK K hG G) | (refine W_end rfl fun G K hG hK => ?_; simp (disch := omega) only [go_sem, ↓reduceIte, Nat.reduceEqDiff, Nat.reduceAdd, Nat.reduceLeDiff, hG, hlen, hix, w_index, ev_index, e0, e7, d1, hxb', e1, e2, e3, e4]; refine hK _ _ ?_; clear hK K hG G; repeat (first | refine thenI ?_ | refine thenE ?_ | refine thenR ?_ | refine inBI ?_ | refine inBR ?_ | refine inBS ?_ | refine inBN (by decide) ?_)) | refine W_seqS ?_ | refine W_seqC ?_ | refine W_seqB ?_ | refine W_block ?_ | (refine W_skip ?_; repeat (first | refine thenI ?_ | refine thenE ?_ | refine thenR ?_ | refine inBI ?_ | refine inBR ?_ | refine inBS ?_ | refine inBN (by decide) ?_)) | (refine W_condT ?hc ?_; (case hc => (simp (disch := omega) only [go_sem, ↓reduceIte, Nat.reduceEqDiff, Nat.reduceAdd, Nat.reduceLeDiff, hlen, hix, w_index, ev_index, e0, e7, d1, hxb', e1, e2, e3, e4]; done))) | (refine W_condF ?hc ?_; (case hc => (simp (disch := omega) only [go_sem, ↓reduceIte, Nat.reduceEqDiff, Nat.reduceAdd, Nat.reduceLeDiff, hlen, hix, w_index, ev_index, e0, e7, d1, hxb', e1, e2, e3, e4]; done))))
        refine W_ret ?_; try (repeat (first | refine thenI ?_ | refine thenE ?_ | refine thenR ?_ | refine inBI ?_ | refine inBR ?_ | refine inBS ?_ | refine inBN (by decide) ?_))
        refine fin1 (.inl rfl) (by (simp (disch := omega) only [go_sem, ↓reduceIte, Nat.reduceEqDiff, Nat.reduceAdd, Nat.reduceLeDiff, hlen, hix, w_index, ev_index, e0, e7]); try rfl) rfl ⟨by rw [bad (by rw [hld]; simp; omega)]; simp, rfl⟩
      · have e2 : decide ((x.toNat : Int) > 122) = false := by simp; omega
        repeat (first | (refine W_reg rfl fun G K hG hK => ?_; simp (disch := omega) only [go_sem, ↓reduceIte, Nat.reduceEqDiff, Nat.reduceAdd, Nat.reduceLeDiff, hG, hlen, hix, w_index, ev_index, e0, e7, d1, hxb', e1, e2]; refine hK _ _ ?_; clear hK K hG G) | (refine W_end rfl fun G K hG hK => ?_; simp (disch := omega) only [go_sem, ↓reduceIte, Nat.reduceEqDiff, Nat.reduceAdd, Nat.reduceLeDiff, hG, hlen, hix, w_index, ev_index, e0, e7, d1, hxb', e1, e2]; refine hK _ _ ?_; clear hK K hG G; repeat (first | refine thenI ?_ | refine thenE ?_ | refine thenR ?_ | refine inBI ?_ | refine inBR ?_ | refine inBS ?_ | refine inBN (by decide) ?_)) | refine W_seqS ?_ | refine W_seqC ?_ | refine W_seqB ?_ | refine W_block ?_ | (refine W_skip ?_; repeat (first | refine thenI ?_ | refine thenE ?_ | refine thenR ?_ | refine inBI ?_ | refine inBR ?_ | refine inBS ?_ | refine inBN (by decide) ?_)) | (refine W_condT ?hc ?_; (case hc => (simp (disch := omega) only [go_sem, ↓reduceIte, Nat.reduceEqDiff, Nat.reduceAdd, Nat.reduceLeDiff, hlen, hix, w_index, ev_index, e0, e7, d1, hxb', e1, e2]; done))) | (refine W_condF ?hc ?_; (case hc => (simp (disch := omega) only [go_sem, ↓reduceIte, Nat.reduceEqDiff, Nat.reduceAdd, Nat.reduceLeDiff, hlen, hix, w_index, ev_index, e0, e7, d1, hxb', e1, e2]; done))))
        refine ⟨r.length - (j + 1), by omega, j + 1, rfl, by omega, rfl, by rw [htk, List.all_append, hall]; simp [hld]; omega, (by (simp (disch := omega) only [go_sem, ↓reduceIte, Nat.reduceEqDiff, Nat.reduceAdd, Nat.reduceLeDiff, hlen, hix, w_index, ev_index, e0, e7]); try rfl), (by (simp (disch := omega) only [go_sem, ↓reduceIte, Nat.reduceEqDiff, Nat.reduceAdd, Nat.reduceLeDiff, hlen, hix, w_index, ev_index, e0, e7]); try rfl)⟩
  · have d1 : decide ((j : Int) + 1 < (s.size : Int)) = false := by simp; omega
    obtain rfl : j = r.length := by omega
    rw [List.take_length] at hall
    repeat (first | (refine W_reg rfl fun G K hG hK => ?_; simp (disch := omega) only [go_sem, ↓reduceIte, Nat.reduceEqDiff, Nat.reduceAdd, Nat.reduceLeDiff, hG, hlen, hix, w_index, ev_index, e0, e7, d1]; refine hK _ _ ?_; clear hK K hG G) | (refine W_end rfl fun G K hG hK => ?_; simp (disch := omega) only [go_sem, ↓reduceIte, Nat.reduceEqDiff, Nat.reduceAdd, Nat.reduceLeDiff, hG, hlen, hix, w_index, ev_index, e0, e7, d1]; refine hK _ _ ?_; clear hK K hG G; repeat (first | refine thenI ?_ | refine thenE ?_ | refine thenR ?_ | refine inBI ?_ | refine inBR ?_ | refine inBS ?_ | refine inBN (by decide) ?_)) | refine W_seqS ?_ | refine W_seqC ?_ | refine W_seqB ?_ | refine W_block ?_ | (refine W_skip ?_; repeat (first | refine thenI ?_ | refine thenE ?_ | refine thenR ?_ | refine inBI ?_ | refine inBR ?_ | refine inBS ?_ | refine inBN (by decide) ?_)) | (refine W_condT ?hc ?_; (case hc => (simp (disch := omega) only [go_sem, ↓reduceIte, Nat.reduceEqDiff, Nat.reduceAdd, Nat.reduceLeDiff, hlen, hix, w_index, ev_index, e0, e7, d1]; done))) | (refine W_condF ?hc ?_; (case hc => (simp (disch := omega) only [go_sem, ↓reduceIte, Nat.reduceEqDiff, Nat.reduceAdd, Nat.reduceLeDiff, hlen, hix, w_index, ev_index, e0, e7, d1]; done))))
    refine W_exit ?_; repeat (first | refine thenI ?_ | refine thenE ?_ | refine thenR ?_ | refine inBI ?_ | refine inBR ?_ | refine inBS ?_ | refine inBN (by decide) ?_)
    repeat (first | (refine W_reg rfl fun G K hG hK => ?_; simp (disch := omega) only [go_sem, ↓reduceIte, Nat.reduceEqDiff, Nat.reduceAdd, Nat.reduceLeDiff, hG, hlen, hix, w_index, ev_index, e0, e7]; refine hK _ _ ?_; clear hK K hG G) | (refine W_end rfl fun G K hG hK => ?_; simp (disch := omega) only [go_sem, ↓reduceIte, Nat.reduceEqDiff, Nat.reduceAdd, Nat.reduceLeDiff, hG, hlen, hix, w_index, ev_index, e0, e7]; refine hK _ _ ?_; clear hK K hG G; repeat (first | refine thenI ?_ | refine thenE ?_ | refine thenR ?_ | refine inBI ?_ | refine inBR ?_ | refine inBS ?_ | refine inBN (by decide) ?_)) | refine W_seqS ?_ | refine W_seqC ?_ | refine W_seqB ?_ | refine W_block ?_ | (refine W_skip ?_; repeat (first | refine thenI ?_ | refine thenE ?_ | refine thenR ?_ | refine inBI ?_ | refine inBR ?_ | refine inBS ?_ | refine inBN (by decide) ?_)) | (refine W_condT ?hc ?_; (case hc => (simp (disch := omega) only [go_sem, ↓reduceIte, Nat.reduceEqDiff, Nat.reduceAdd, Nat.reduceLeDiff, hlen, hix, w_index, ev_index, e0, e7]; done))) | (refine W_condF ?hc ?_; (case hc => (simp (disch := omega) only [go_sem, ↓reduceIte, Nat.reduceEqDiff, Nat.reduceAdd, Nat.reduceLeDiff, hlen, hix, w_index, ev_index, e0, e7]; done))))
    refine W_ret ?_; try (repeat (first | refine thenI ?_ | refine thenE ?_ | refine thenR ?_ | refine inBI ?_ | refine inBR ?_ | refine inBS ?_ | refine inBN (by decide) ?_))
    refine fin1 (.inl rfl) (by (simp (disch := omega) only [go_sem, ↓reduceIte, Nat.reduceEqDiff, Nat.reduceAdd, Nat.reduceLeDiff, hlen, hix, w_index, ev_index, e0, e7]); try rfl) rfl ⟨by simp [g1, g2, h7, hall], rfl⟩
theorem implIsName_ok (s : ByteArray) (st : St) : CallS Tryd.prog 39 [.string s] st fun r st' => r = .bool (isName s) ∧ st' = st := by
  refine CallS_of_W [] 5 Tryd.func39 rfl rfl rfl rfl (by simp) ?_
  repeat (first | (refine W_reg rfl fun G K hG hK => ?_; simp (disch := omega) only [go_sem, ↓reduceIte, Nat.reduceEqDiff, Nat.reduceAdd, Nat.reduceLeDiff, hG]; refine hK _ _ ?_; clear hK K hG G) | (refine W_end rfl fun G K hG hK => ?_; simp (disch := omega) only [go_sem, ↓reduceIte, Nat.reduceEqDiff, Nat.reduceAdd, Nat.reduceLeDiff, hG]; refine hK _ _ ?_; clear hK K hG G; repeat (first | refine thenI ?_ | refine thenE ?_ | refine thenR ?_ | refine inBI ?_ | refine inBR ?_ | refine inBS ?_ | refine inBN (by decide) ?_)) | refine W_seqS ?_ | refine W_seqC ?_ | refine W_seqB ?_ | refine W_block ?_ | (refine W_skip ?_; repeat (first | refine thenI ?_ | refine thenE ?_ | refine thenR ?_ | refine inBI ?_ | refine inBR ?_ | refine inBS ?_ | refine inBN (by decide) ?_)) | (refine W_condT ?hc ?_; (case hc => (simp (disch := omega) only [go_sem, ↓reduceIte, Nat.reduceEqDiff, Nat.reduceAdd, Nat.reduceLeDiff]; done))) | (refine W_condF ?hc ?_; (case hc => (simp (disch := omega) only [go_sem, ↓reduceIte, Nat.reduceEqDiff, Nat.reduceAdd, Nat.reduceLeDiff]; done))))
  (repeat (first | refine W_seqS ?_ | refine W_seqC ?_ | refine W_seqB ?_ | refine W_block ?_)); refine W_reg rfl fun G K hG hK => ?_; simp (disch := omega) only [go_sem, ↓reduceIte, Nat.reduceEqDiff, Nat.reduceAdd, Nat.reduceLeDiff, hG]
  refine w_call ((show CallS Tryd.prog _ [.string s, .int .u8 97, .int .u8 122] st _ from implNamed_ok s 97 122 st)) (by simp (disch := omega) only [go_sem, ↓reduceIte, Nat.reduceEqDiff]) ?hl ?_
  case hl => first | rfl | (simp only [go_sem, List.all_cons, List.all_nil, Bool.not_false, Bool.and_self]; done)
  rintro r_ st ⟨rfl, rfl⟩; refine ⟨fun e => (by cases e), ?_⟩
  simp (disch := omega) only [go_sem, ↓reduceIte, Nat.reduceEqDiff, Nat.reduceAdd, Nat.reduceLeDiff, hG]; refine hK _ _ ?_; clear hK K hG G; repeat (first | refine thenI ?_ | refine thenE ?_ | refine thenR ?_ | refine inBI ?_ | refine inBR ?_ | refine inBS ?_ | refine inBN (by decide) ?_)
  refine W_ret ?_; try (repeat (first | refine thenI ?_ | refine thenE ?_ | refine thenR ?_ | refine inBI ?_ | refine inBR ?_ | refine inBS ?_ | refine inBN (by decide) ?_))
  refine fin1 (.inl rfl) (by (simp (disch := omega) only [go_sem, ↓reduceIte, Nat.reduceEqDiff, Nat.reduceAdd, Nat.reduceLeDiff]); try rfl) rfl ⟨rfl, rfl⟩
theorem implIsVar_ok (s : ByteArray) (st : St) : CallS Tryd.prog 38 [.string s] st fun r st' => r = .bool (isVar s) ∧ st' = st := by
  refine CallS_of_W [] 5 Tryd.func38 rfl rfl rfl rfl (by simp) ?_
  repeat (first | (refine W_reg rfl fun G K hG hK => ?_; simp (disch := omega) only [go_sem, ↓reduceIte, Nat.reduceEqDiff, Nat.reduceAdd, Nat.reduceLeDiff, hG]; refine hK _ _ ?_; clear hK K hG G) | (refine W_end rfl fun G K hG hK => ?_; simp (disch := omega) only [go_sem, ↓reduceIte, Nat.reduceEqDiff, Nat.reduceAdd, Nat.reduceLeDiff, hG]; refine hK _ _ ?_; clear hK K hG G; repeat (first | refine thenI ?_ | refine thenE ?_ | refine thenR ?_ | refine inBI ?_ | refine inBR ?_ | refine inBS ?_ | refine inBN (by decide) ?_)) | refine W_seqS ?_ | refine W_seqC ?_ | refine W_seqB ?_ | refine W_block ?_ | (refine W_skip ?_; repeat (first | refine thenI ?_ | refine thenE ?_ | refine thenR ?_ | refine inBI ?_ | refine inBR ?_ | refine inBS ?_ | refine inBN (by decide) ?_)) | (refine W_condT ?hc ?_; (case hc => (simp (disch := omega) only [go_sem, ↓reduceIte, Nat.reduceEqDiff, Nat.reduceAdd, Nat.reduceLeDiff]; done))) | (refine W_condF ?hc ?_; (case hc => (simp (disch := omega) only [go_sem, ↓reduceIte, Nat.reduceEqDiff, Nat.reduceAdd, Nat.reduceLeDiff]; done))))
  (repeat (first | refine W_seqS ?_ | refine W_seqC ?_ | refine W_seqB ?_ | refine W_block ?_)); refine W_reg rfl fun G K hG hK => ?_; simp (disch := omega) only [go_sem, ↓reduceIte, Nat.reduceEqDiff, Nat.reduceAdd, Nat.reduceLeDiff, hG]
  refine w_call ((show CallS Tryd.prog _ [.string s, .int .u8 65, .int .u8 90] st _ from implNamed_ok s 65 90 st)) (by simp (disch := omega) only [go_sem, ↓reduceIte, Nat.reduceEqDiff]) ?hl ?_
  case hl => first | rfl | (simp only [go_sem, List.all_cons, List.all_nil, Bool.not_false, Bool.and_self]; done)
  rintro r_ st ⟨rfl, rfl⟩; refine ⟨fun e => (by cases e), ?_⟩
  simp (disch := omega) only [go_sem, ↓reduceIte, Nat.reduceEqDiff, Nat.reduceAdd, Nat.reduceLeDiff, hG]; refine hK _ _ ?_; clear hK K hG G; repeat (first | refine thenI ?_ | refine thenE ?_ | refine thenR ?_ | refine inBI ?_ | refine inBR ?_ | refine inBS ?_ | refine inBN (by decide) ?_)
  refine W_ret ?_; try (repeat (first | refine thenI ?_ | refine thenE ?_ | refine thenR ?_ | refine inBI ?_ | refine inBR ?_ | refine inBS ?_ | refine inBN (by decide) ?_))
  refine fin1 (.inl rfl) (by (simp (disch := omega) only [go_sem, ↓reduceIte, Nat.reduceEqDiff, Nat.reduceAdd, Nat.reduceLeDiff]); try rfl) rfl ⟨rfl, rfl⟩
theorem l2Lower_ok (x : Nat) (st : St) : CallS Tryd.prog 66 [.int .u8 x] st fun r st' => r = .bool (decide (97 ≤ x) && decide (x ≤ 122)) ∧ st' = st := by
  refine CallS_of_W [] 9 Tryd.func66 rfl rfl rfl rfl (by simp) ?_
  by_cases h1 : 97 ≤ x
  · have c1 : decide ((x : Int) ≥ 97) = true := by simp; omega
    by_cases h2 : x ≤ 122
    · have c2 : decide ((x : Int) ≤ 122) = true := by simp; omega
      repeat (first | (refine W_reg rfl fun G K hG hK => ?_; simp (disch := omega) only [go_sem, ↓reduceIte, Nat.reduceEqDiff, Nat.reduceAdd, Nat.reduceLeDiff, hG, c1, c2]; refine hK _ _ ?_; clear hK K hG G) | (refine W_end rfl fun G K hG hK => ?_; simp (disch := omega) only [go_sem, ↓reduceIte, Nat.reduceEqDiff, Nat.reduceAdd, Nat.reduceLeDiff, hG, c1, c2]; refine hK _ _ ?_; clear hK K hG G; repeat (first | refine thenI ?_ | refine thenE ?_ | refine thenR ?_ | refine inBI ?_ | refine inBR ?_ | refine inBS ?_ | refine inBN (by decide) ?_)) | refine W_seqS ?_ | refine W_seqC ?_ | refine W_seqB ?_ | refine W_block ?_ | (refine W_skip ?_; repeat (first | refine thenI ?_ | refine thenE ?_ | refine thenR ?_ | refine inBI ?_ | refine inBR ?_ | refine inBS ?_ | refine inBN (by decide) ?_)) | (refine W_condT ?hc ?_; (case hc => (simp (disch := omega) only [go_sem, ↓reduceIte, Nat.reduceEqDiff, Nat.reduceAdd, Nat.reduceLeDiff, c1, c2]; done))) | (refine W_condF ?hc ?_; (case hc => (simp (disch := omega) only [go_sem, ↓reduceIte, Nat.reduceEqDiff, Nat.reduceAdd, Nat.reduceLeDiff, c1, c2]; done))))
      refine W_ret ?_; try (repeat (first | refine thenI ?_ | refine thenE ?_ | refine thenR ?_ | refine inBI ?_ | refine inBR ?_ | refine inBS ?_ | refine inBN (by decide) ?_))
      refine fin1 (.inl rfl) (by (simp (disch := omega) only [go_sem, ↓reduceIte, Nat.reduceEqDiff, Nat.reduceAdd, Nat.reduceLeDiff]); try rfl) rfl ⟨by simp [h1, h2], rfl⟩
    · have c2 : decide ((x : Int) ≤ 122) = false := by simp; omega
      repeat (first | (refine W_reg rfl fun G K hG hK => ?_; simp (disch := omega) only [go_sem, ↓reduceIte, Nat.reduceEqDiff, Nat.reduceAdd, Nat.reduceLeDiff, hG, c1, c2]; refine hK _ _ ?_; clear hK K hG G) | (refine W_end rfl fun G K hG hK => ?_; simp (disch := omega) only [go_sem, ↓reduceIte, Nat.reduceEqDiff, Nat.reduceAdd, Nat.reduceLeDiff, hG, c1, c2]; refine hK _ _ ?_; clear hK K hG G; repeat (first | refine thenI ?_ | refine thenE ?_ | refine thenR ?_ | refine inBI ?_ | refine inBR ?_ | refine inBS ?_ | refine inBN (by decide) ?_)) | refine W_seqS ?_ | refine W_seqC ?_ | refine W_seqB ?_ | refine W_block ?_ | (refine W_skip ?_; repeat (first | refine thenI ?_ | refine thenE ?_ | refine thenR ?_ | refine inBI ?_ | refine inBR ?_ | refine inBS ?_ | refine inBN (by decide) ?_)) | (refine W_condT ?hc ?_; (case hc => (simp (disch := omega) only [go_sem, ↓reduceIte, Nat.reduceEqDiff, Nat.reduceAdd, Nat.reduceLeDiff, c1, c2]; done))) | (refine W_condF ?hc ?_; (case hc => (simp (disch := omega) only [go_sem, ↓reduceIte, Nat.reduceEqDiff, Nat.reduceAdd, Nat.reduceLeDiff, c1, c2]; done))))
      refine W_ret ?_; try (repeat (first | refine thenI ?_ | refine thenE ?_ | refine thenR ?_ | refine inBI ?_ | refine inBR ?_ | refine inBS ?_ | refine inBN (by decide) ?_))
      refine fin1 (.inl rfl) (by (simp (disch := omega) only [go_sem, ↓reduceIte, Nat.reduceEqDiff, Nat.reduceAdd, Nat.reduceLeDiff]); try rfl) rfl ⟨by simp [h1, h2], rfl⟩
  · have c1 : decide ((x : Int) ≥ 97) = false := by simp; omega
    repeat (first | (refine W_reg rfl fun G K hG hK => ?_; simp (disch := omega) only [go_sem, ↓reduceIte, Nat.reduceEqDiff, Nat.reduceAdd, Nat.reduceLeDiff, hG, c1]; refine hK _ _ ?_; clear hK K hG G) | (refine W_end rfl fun G K hG hK => ?_; simp (disch := omega) only [go_sem, ↓reduceIte, Nat.reduceEqDiff, Nat.reduceAdd, Nat.reduceLeDiff, hG, c1]; refine hK _ _ ?_; clear hK K hG G; repeat (first | refine thenI ?_ | refine thenE ?_ | refine thenR ?_ | refine inBI ?_ | refine inBR ?_ | refine inBS ?_ | refine inBN (by decide) ?_)) | refine W_seqS ?_ | refine W_seqC ?_ | refine W_seqB ?_ | refine W_block ?_ | (refine W_skip ?_; repeat (first | refine thenI ?_ | refine thenE ?_ | refine thenR ?_ | refine inBI ?_ | refine inBR ?_ | refine inBS ?_ | refine inBN (by decide) ?_)) | (refine W_condT ?hc ?_; (case hc => (simp (disch := omega) only [go_sem, ↓reduceIte, Nat.reduceEqDiff, Nat.reduceAdd, Nat.reduceLeDiff, c1]; done))) | (refine W_condF ?hc ?_; (case hc => (simp (disch := omega) only [go_sem, ↓reduceIte, Nat.reduceEqDiff, Nat.reduceAdd, Nat.reduceLeDiff, c1]; done))))
    refine W_ret ?_; try (repeat (first | refine thenI ?_ | refine thenE ?_ | refine thenR ?_ | refine inBI ?_ | refine inBR ?_ | refine inBS ?_ | refine inBN (by decide) ?_))
    refine fin1 (.inl rfl) (by (simp (disch := omega) only [go_sem, ↓reduceIte, Nat.reduceEqDiff, Nat.reduceAdd, Nat.reduceLeDiff]); try rfl) rfl ⟨by simp [h1], rfl⟩
theorem l2Digit_ok (x : Nat) (st : St) : CallS Tryd.prog 49 [.int .u8 x] st fun r st' => r = .bool (decide (48 ≤ x) && decide (x ≤ 57)) ∧ st' = st := by
  refine CallS_of_W [] 9 Tryd.func49 rfl rfl rfl rfl (by simp) ?_
  by_cases h1 : 48 ≤ x
  · have c1 : decide ((x : Int) ≥ 48) = true := by simp; omega
    by_cases h2 : x ≤ 57
    · have c2 : decide ((x : Int) ≤ 57) = true := by simp; omega
      repeat (first | (refine W_reg rfl fun G K hG hK => ?_; simp (disch := omega) only [go_sem, ↓reduceIte, Nat.reduceEqDiff, Nat.reduceAdd, Nat.reduceLeDiff, hG, c1, c2]; refine hK _ _ ?_; clear hK K hG G) | (refine W_end rfl fun G K hG hK => ?_; simp (disch := omega) only [go_sem, ↓reduceIte, Nat.reduceEqDiff, Nat.reduceAdd, Nat.reduceLeDiff, hG, c1, c2]; refine hK _ _ ?_; clear hK K hG G; repeat (first | refine thenI ?_ | refine thenE ?_ | refine thenR ?_ | refine inBI ?_ | refine inBR ?_ | refine inBS ?_ | refine inBN (by decide) ?_)) | refine W_seqS ?_ | refine W_seqC ?_ | refine W_seqB ?_ | refine W_block ?_ | (refine W_skip ?_; repeat (first | refine thenI ?_ | refine thenE ?_ | refine thenR ?_ | refine inBI ?_ | refine inBR ?_ | refine inBS ?_ | refine inBN (by decide) ?_)) | (refine W_condT ?hc ?_; (case hc => (simp (disch := omega) only [go_sem, ↓reduceIte, Nat.reduceEqDiff, Nat.reduceAdd, Nat.reduceLeDiff, c1, c2]; done))) | (refine W_condF ?hc ?_; (case hc => (simp (disch := omega) only [go_sem, ↓reduceIte, Nat.reduceEqDiff, Nat.reduceAdd, Nat.reduceLeDiff, c1, c2]; done))))
      refine W_ret ?_; try (repeat (first | refine thenI ?_ | refine thenE ?_ | refine thenR ?_ | refine inBI ?_ | refine inBR ?_ | refine inBS ?_ | refine inBN (by decide) ?_))
      refine fin1 (.inl rfl) (by (simp (disch := omega) only [go_sem, ↓reduceIte, Nat.reduceEqDiff, Nat.reduceAdd, Nat.reduceLeDiff]); try rfl) rfl ⟨by simp [h1, h2], rfl⟩
    · have c2 : decide ((x : Int) ≤ 57) = false := by simp; omega
      repeat (first | (refine W_reg rfl fun G K hG hK => ?_; simp (disch := omega) only [go_sem, ↓reduceIte, Nat.reduceEqDiff, Nat.reduceAdd, Nat.reduceLeDiff, hG, c1, c2]; refine hK _ _ ?_; clear hK K hG G) | (refine W_end rfl fun G K hG hK => ?_; simp (disch := omega) only [go_sem, ↓reduceIte, Nat.reduceEqDiff, Nat.reduceAdd, Nat.reduceLeDiff, hG, c1, c2]; refine hK _ _ ?_; clear hK K hG G; repeat (first | refine thenI ?_ | refine thenE ?_ | refine thenR ?_ | refine inBI ?_ | refine inBR ?_ | refine inBS ?_ | refine inBN (by decide) ?_)) | refine W_seqS ?_ | refine W_seqC ?_ | refine W_seqB ?_ | refine W_block ?_ | (refine W_skip ?_; repeat (first | refine thenI ?_ | refine thenE ?_ | refine thenR ?_ | refine inBI ?_ | refine inBR ?_ | refine inBS ?_ | refine inBN (by decide) ?_)) | (refine W_condT ?hc ?_; (case hc => (simp (disch := omega) only [go_sem, ↓reduceIte, Nat.reduceEqDiff, Nat.reduceAdd, Nat.reduceLeDiff, c1, c2]; done))) | (refine W_condF ?hc ?_; (case hc => (simp (disch := omega) only [go_sem, ↓reduceIte, Nat.reduceEqDiff, Nat.reduceAdd, Nat.reduceLeDiff, c1, c2]; done))))
      refine W_ret ?_; try (repeat (first | refine thenI ?_ | refine thenE ?_ | refine thenR ?_ | refine inBI ?_ | refine inBR ?_ | refine inBS ?_ | refine inBN (by decide) ?_))
      refine fin1 (.inl rfl) (by (simp (disch := omega) only [go_sem, ↓reduceIte, Nat.reduceEqDiff, Nat.reduceAdd, Nat.reduceLeDiff]); try rfl) rfl ⟨by simp [h1, h2], rfl⟩
  · have c1 : decide ((x : Int) ≥ 48) = false := by simp; omega
    repeat (first | (refine W_reg rfl fun G K hG hK => ?_; simp (disch := omega) only [go_sem, ↓reduceIte, Nat.reduceEqDiff, Nat.reduceAdd, Nat.reduceLeDiff, hG, c1]; refine hK _ _ ?_; clear hK K hG G) | (refine W_end rfl fun G K hG hK => ?_; simp (disch := omega) only [go_sem, ↓reduceIte, Nat.reduceEqDiff, Nat.reduceAdd, Nat.reduceLeDiff, hG, c1]; refine hK _ _ ?_; clear hK K hG G; repeat (first | refine thenI ?_ | refine thenE ?_ | refine thenR ?_ | refine inBI ?_ | refine inBR ?_ | refine inBS ?_ | refine inBN (by decide) ?_)) | refine W_seqS ?_ | refine W_seqC ?_ | refine W_seqB ?_ | refine W_block ?_ | (refine W_skip ?_; repeat (first | refine thenI ?_ | refine thenE ?_ | refine thenR ?_ | refine inBI ?_ | refine inBR ?_ | refine inBS ?_ | refine inBN (by decide) ?_)) | (refine W_condT ?hc ?_; (case hc => (simp (disch := omega) only [go_sem, ↓reduceIte, Nat.reduceEqDiff, Nat.reduceAdd, Nat.reduceLeDiff, c1]; done))) | (refine W_condF ?hc ?_; (case hc => (simp (disch := omega) only [go_sem, ↓reduceIte, Nat.reduceEqDiff, Nat.reduceAdd, Nat.reduceLeDiff, c1]; done))))
    refine W_ret ?_; try (repeat (first | refine thenI ?_ | refine thenE ?_ | refine thenR ?_ | refine inBI ?_ | refine inBR ?_ | refine inBS ?_ | refine inBN (by decide) ?_))
    refine fin1 (.inl rfl) (by (simp (disch := omega) only [go_sem, ↓reduceIte, Nat.reduceEqDiff, Nat.reduceAdd, Nat.reduceLeDiff]); try rfl) rfl ⟨by simp [h1], rfl⟩
theorem l2Rest_ok (s : ByteArray) (b : UInt8) (r : List UInt8) (hb : s.data.toList = b :: r) (hbig : s.size ≤ 9223372036854775807) (st : St) : CallS Tryd.prog 59 [.string s] st fun v st' => v = .bool (r.all lowDig && decide (r.length ≤ 7)) ∧ st' = st := by
  refine CallS_of_W [] 25 Tryd.func59 rfl rfl rfl rfl (by simp) ?_
  have hlen : lenE Tryd.prog 9 (.string s) = some (.int .i64 s.size) := len_str Tryd.underlying9
  have hix := fun (k : IntKind) (i : Int) (h0 : 0 ≤ i) (h1 : i < s.size) => idxS (k := k) Tryd.underlying9 h0 h1
  have hsz : s.size = r.length + 1 := by rw [size_list, hb]; simp
  repeat (first | (refine W_reg rfl fun G K hG hK => ?_; simp (disch := omega) only [go_sem, ↓reduceIte, Nat.reduceEqDiff, Nat.reduceAdd, Nat.reduceLeDiff, hG, hlen, hix, w_index, ev_index]; refine hK _ _ ?_; clear hK K hG G) | (refine W_end rfl fun G K hG hK => ?_; simp (disch := omega) only [go_sem, ↓reduceIte, Nat.reduceEqDiff, Nat.reduceAdd, Nat.reduceLeDiff, hG, hlen, hix, w_index, ev_index]; refine hK _ _ ?_; clear hK K hG G; repeat (first | refine thenI ?_ | refine thenE ?_ | refine thenR ?_ | refine inBI ?_ | refine inBR ?_ | refine inBS ?_ | refine inBN (by decide) ?_)) | refine W_seqS ?_ | refine W_seqC ?_ | refine W_seqB ?_ | refine W_block ?_ | (refine W_skip ?_; repeat (first | refine thenI ?_ | refine thenE ?_ | refine thenR ?_ | refine inBI ?_ | refine inBR ?_ | refine inBS ?_ | refine inBN (by decide) ?_)) | (refine W_condT ?hc ?_; (case hc => (simp (disch := omega) only [go_sem, ↓reduceIte, Nat.reduceEqDiff, Nat.reduceAdd, Nat.reduceLeDiff, hlen, hix, w_index, ev_index]; done))) | (refine W_condF ?hc ?_; (case hc => (simp (disch := omega) only [go_sem, ↓reduceIte, Nat.reduceEqDiff, Nat.reduceAdd, Nat.reduceLeDiff, hlen, hix, w_index, ev_index]; done))))
  refine W_loop (fun d fr st' => ∃ (j : Nat) , d = r.length - j ∧ j ≤ r.length ∧ (st' = st) ∧ ((r.take j).all lowDig = true) ∧ (fr.env 0 = .string s) ∧ (fr.env 3 = .int .i64 ((j : Int) + 1))) (r.length) ?_ ?_
  · exact ⟨0, by omega, by omega, rfl, by simp, (by (simp (disch := omega) only [go_sem, ↓reduceIte, Nat.reduceEqDiff, Nat.reduceAdd, Nat.reduceLeDiff, hlen, hix, w_index, ev_index]); try rfl), (by (simp (disch := omega) only [go_sem, ↓reduceIte, Nat.reduceEqDiff, Nat.reduceAdd, Nat.reduceLeDiff, hlen, hix, w_index, ev_index]); try rfl)⟩
  rintro d ⟨env, loc⟩ st' ⟨j, hd, hj, hst, hall, e0, e3⟩
  simp only at e0 e3
  subst hst
  by_cases hlt : j < r.length
  · have d1 : decide ((j : Int) + 1 < (s.size : Int)) = true := by simp; omega
    obtain ⟨x, q, hx, hxb, hq⟩ := drop_byte (s := s) (i := j + 1) (by omega)
    have hxr : r[j]? = some x := by
      have : s.data.toList[j + 1]? = some x := by rw [← List.head?_drop, hx]; rfl
      rw [hb] at this
      simpa using this
    have hxj : r[j] = x := by rw [List.getElem?_eq_getElem hlt] at hxr; exact Option.some.inj hxr
    have htk : r.take (j + 1) = r.take j ++ [x] := by rw [List.take_succ_eq_append_getElem hlt, hxj]
    have hxb' : byteAt s ((j : Int) + 1).toNat = (x.toNat : Int) := by rw [show ((j : Int) + 1).toNat = j + 1 by omega]; exact hxb
    have hld : lowDig x = ((decide (97 ≤ x.toNat) && decide (x.toNat ≤ 122)) || (decide (48 ≤ x.toNat) && decide (x.toNat ≤ 57))) := rfl
    have bad : lowDig x = false → (r.all lowDig) = false := fun h => by
      refine Bool.eq_false_iff.2 fun ha => ?_
      have := List.all_eq_true.1 ha x (hxj ▸ List.getElem_mem hlt)
      rw [h] at this; cases this
    cases k1 : (decide (97 ≤ x.toNat) && decide (x.toNat ≤ 122)) with
    | true =>
      repeat (first | (refine W_reg rfl fun G K hG hK => ?_; simp (disch := omega) only [go_sem, ↓reduceIte, Nat.reduceEqDiff, Nat.reduceAdd, Nat.reduceLeDiff, hG, hlen, hix, w_index, ev_index, e0, e3, d1]; refine hK _ _ ?_; clear hK K hG G) | (refine W_end rfl fun G K hG hK => ?_; simp (disch := omega) only [go_sem, ↓reduceIte, Nat.reduceEqDiff, Nat.reduceAdd, Nat.reduceLeDiff, hG, hlen, hix, w_index, ev_index, e0, e3, d1]; refine hK _ _ ?_; clear hK K hG G; repeat (first | refine thenI ?_ | refine thenE ?_ | refine thenR ?_ | refine inBI ?_ | refine inBR ?_ | refine inBS ?_ | refine inBN (by decide) ?_)) | refine W_seqS ?_ | refine W_seqC ?_ | refine W_seqB ?_ | refine W_block ?_ | (refine W_skip ?_; repeat (first | refine thenI ?_ | refine thenE ?_ | refine thenR ?_ | refine inBI ?_ | refine inBR ?_ | refine inBS ?_ | refine inBN (by decide) ?_)) | (refine W_condT ?hc ?_; (case hc => (simp (disch := omega) only [go_sem, ↓reduceIte, Nat.reduceEqDiff, Nat.reduceAdd, Nat.reduceLeDiff, hlen, hix, w_index, ev_index, e0, e3, d1]; done))) | (refine W_condF ?hc ?_; (case hc => (simp (disch := omega) only [go_sem, ↓reduceIte, Nat.reduceEqDiff, Nat.reduceAdd, Nat.reduceLeDiff, hlen, hix, w_index, ev_index, e0, e3, d1]; done))))
      (repeat (first | refine W_seqS ?_ | refine W_seqC ?_ | refine W_seqB ?_ | refine W_block ?_)); refine W_reg rfl fun G K hG hK => ?_; simp (disch := omega) only [go_sem, ↓reduceIte, Nat.reduceEqDiff, Nat.reduceAdd, Nat.reduceLeDiff, hG, hlen, hix, w_index, ev_index, e0, e3, hxb']
      refine w_call (l2Lower_ok x.toNat st') (by simp (disch := omega) only [go_sem, ↓reduceIte, Nat.reduceEqDiff, hlen, hix, w_index, ev_index, e0, e3, hxb']) ?hl ?_
      case hl => first | rfl | (simp only [go_sem, List.all_cons, List.all_nil, Bool.not_false, Bool.and_self, hlen, hix, w_index, ev_index, e0, e3, hxb']; done)
      rintro r_ st' ⟨rfl, rfl⟩; refine ⟨fun e => (by cases e), ?_⟩
      simp (disch := omega) only [go_sem, ↓reduceIte, Nat.reduceEqDiff, Nat.reduceAdd, Nat.reduceLeDiff, hG, hlen, hix, w_index, ev_index, e0, e3, k1]; refine hK _ _ ?_; clear hK K hG G; repeat (first | refine thenI ?_ | refine thenE ?_ | refine thenR ?_ | refine inBI ?_ | refine inBR ?_ | refine inBS ?_ | refine inBN (by decide) ?_)
      repeat (first | (refine W_reg rfl fun G K hG hK => ?_; simp (disch := omega) only [go_sem, ↓reduceIte, Nat.reduceEqDiff, Nat.reduceAdd, Nat.reduceLeDiff, hG, hlen, hix, w_index, ev_index, e0, e3]; refine hK _ _ ?_; clear hK K hG G) | (refine W_end rfl fun G K hG hK => ?_; simp (disch := omega) only [go_sem, ↓reduceIte, Nat.reduceEqDiff, Nat.reduceAdd, Nat.reduceLeDiff, hG, hlen, hix, w_index, ev_index, e0, e3]; refine hK _ _ ?_; clear hK K hG G; repeat (first | refine thenI ?_ | refine thenE ?_ | refine thenR ?_ | refine inBI ?_ | refine inBR ?_ | refine inBS ?_ | refine inBN (by decide) ?_)) | refine W_seqS ?_ | refine W_seqC ?_ | refine W_seqB ?_ | refine W_block ?_ | (refine W_skip ?_; repeat (first | refine thenI ?_ | refine thenE ?_ | refine thenR ?_ | refine inBI ?_ | refine inBR ?_ | refine inBS ?_ | refine inBN (by decide) ?_)) | (refine W_condT ?hc ?_; (case hc => (simp (disch := omega) only [go_sem, ↓reduceIte, Nat.reduceEqDiff, Nat.reduceAdd, Nat.reduceLeDiff, hlen, hix, w_index, ev_index, e0, e3]; done))) | (refine W_condF ?hc ?_; (case hc => (simp (disch := omega) only [go_sem, ↓reduceIte, Nat.reduceEqDiff, Nat.reduceAdd, Nat.reduceLeDiff, hlen, hix, w_index, ev_index, e0, e3]; done))))
      refine ⟨r.length - (j + 1), by omega, j + 1, rfl, by omega, rfl, by rw [htk, List.all_append, hall]; simp [hld, k1], (by (simp (disch := omega) only [go_sem, ↓reduceIte, Nat.reduceEqDiff, Nat.reduceAdd, Nat.reduceLeDiff, hlen, hix, w_index, ev_index, e0, e3]); try rfl), (by (simp (disch := omega) only [go_sem, ↓reduceIte, Nat.reduceEqDiff, Nat.reduceAdd, Nat.reduceLeDiff, hlen, hix, w_index, ev_index, e0, e3]); try rfl)⟩
    | false =>
      cases k2 : (decide (48 ≤ x.toNat) && decide (x.toNat ≤ 57)) with
      | true =>
        repeat (first | (refine W_reg rfl fun G K hG hK => ?_; simp (disch := omega) only [go_sem, ↓reduceIte, Nat.reduceEqDiff, Nat.reduceAdd, Nat.reduceLeDiff, hG, hlen, hix, w_index, ev_index, e0, e3, d1]; refine hK _ _ ?_; clear hK K hG G) | (refine W_end rfl fun G K hG hK => ?_; simp (disch := omega) only [go_sem, ↓reduceIte, Nat.reduceEqDiff, Nat.reduceAdd, Nat.reduceLeDiff, hG, hlen, hix, w_index, ev_index, e0, e3, d1]; refine hK _ _ ?_; clear hK K hG G; repeat (first | refine thenI ?_ | refine thenE ?_ | refine thenR ?_ | refine inBI ?_ | refine inBR ?_ | refine inBS ?_ | refine inBN (by decide) ?_)) | refine W_seqS ?_ | refine W_seqC ?_ | refine W_seqB ?_ | refine W_block ?_ | (refine W_skip ?_; repeat (first | refine thenI ?_ | refine thenE ?_ | refine thenR ?_ | refine inBI ?_ | refine inBR ?_ | refine inBS ?_ | refine inBN (by decide) ?_)) | (refine W_condT ?hc ?_; (case hc => (simp (disch := omega) only [go_sem, ↓reduceIte, Nat.reduceEqDiff, Nat.reduceAdd, Nat.reduceLeDiff, hlen, hix, w_index, ev_index, e0, e3, d1]; done))) | (refine W_condF ?hc ?_; (case hc => (simp (disch := omega) only [go_sem, ↓reduceIte, Nat.reduceEqDiff, Nat.reduceAdd, Nat.reduceLeDiff, hlen, hix, w_index, ev_index, e0, e3, d1]; done))))
        (repeat (first | refine W_seqS ?_ | refine W_seqC ?_ | refine W_seqB ?_ | refine W_block ?_)); refine W_reg rfl fun G K hG hK => ?_; simp (disch := omega) only [go_sem, ↓reduceIte, Nat.reduceEqDiff, Nat.reduceAdd, Nat.reduceLeDiff, hG, hlen, hix, w_index, ev_index, e0, e3, hxb']
        refine w_call (l2Lower_ok x.toNat st') (by simp (disch := omega) only [go_sem, ↓reduceIte, Nat.reduceEqDiff, hlen, hix, w_index, ev_index, e0, e3, hxb']) ?hl ?_
        case hl => first | rfl | (simp only [go_sem, List.all_cons, List.all_nil, Bool.not_false, Bool.and_self, hlen, hix, w_index, ev_index, e0, e3, hxb']; done)
        rintro r_ st' ⟨rfl, rfl⟩; refine ⟨fun e => (by cases e), ?_⟩
        simp (disch := omega) only [go_sem, ↓reduceIte, Nat.reduceEqDiff, Nat.reduceAdd, Nat.reduceLeDiff, hlen, hix, w_index, ev_index, e0, e3, hG, hxb', k1]
        refine w_call (l2Digit_ok x.toNat st') (by simp (disch := omega) only [go_sem, ↓reduceIte, Nat.reduceEqDiff, hlen, hix, w_index, ev_index, e0, e3, hxb']) ?hl ?_
        case hl => first | rfl | (simp only [go_sem, List.all_cons, List.all_nil, Bool.not_false, Bool.and_self, hlen, hix, w_index, ev_index, e0, e3, hxb']; done)
        rintro r_ st' ⟨rfl, rfl⟩; refine ⟨fun e => (by cases e), ?_⟩
        simp (disch := omega) only [go_sem, ↓reduceIte, Nat.reduceEqDiff, Nat.reduceAdd, Nat.reduceLeDiff, hG, hlen, hix, w_index, ev_index, e0, e3, k2]; refine hK _ _ ?_; clear hK K hG G; repeat (first | refine thenI ?_ | refine thenE ?_ | refine thenR ?_ | refine inBI ?_ | refine inBR ?_ | refine inBS ?_ | refine inBN (by decide) ?_)
        repeat (first | (refine W_reg rfl fun G K hG hK => ?_; simp (disch := omega) only [go_sem, ↓reduceIte, Nat.reduceEqDiff, Nat.reduceAdd, Nat.reduceLeDiff, hG, hlen, hix, w_index, ev_index, e0, e3]; refine hK _ _ ?_; clear hK K hG G) | (refine W_end rfl fun G K hG hK => ?_; simp (disch := omega) only [go_sem, ↓reduceIte, Nat.reduceEqDiff, Nat.reduceAdd, Nat.reduceLeDiff, hG, hlen, hix, w_index, ev_index, e0, e3]; refine hK _ _ ?_; clear hK K hG G; repeat (first | refine thenI ?_ | refine thenE ?_ | refine thenR ?_ | refine inBI ?_ | refine inBR ?_ | refine inBS ?_ | refine inBN (by decide) ?_)) | refine W_seqS ?_ | refine W_seqC ?_ | refine W_seqB ?_ | refine W_block ?_ | (refine W_skip ?_; repeat (first | refine thenI ?_ | refine thenE ?_ | refine thenR ?_ | refine inBI ?_ | refine inBR ?_ | refine inBS ?_ | refine inBN (by decide) ?_)) | (refine W_condT ?hc ?_; (case hc => (simp (disch := omega) only [go_sem, ↓reduceIte, Nat.reduceEqDiff, Nat.reduceAdd, Nat.reduceLeDiff, hlen, hix, w_index, ev_index, e0, e3]; done))) | (refine W_condF ?hc ?_; (case hc => (simp (disch := omega) only [go_sem, ↓reduceIte, Nat.reduceEqDiff, Nat.reduceAdd, Nat.reduceLeDiff, hlen, hix, w_index, ev_index, e0, e3]; done))))
        refine ⟨r.length - (j + 1), by omega, j + 1, rfl, by omega, rfl, by rw [htk, List.all_append, hall]; simp [hld, k1, k2], (by (simp (disch := omega) only [go_sem, ↓reduceIte, Nat.reduceEqDiff, Nat.reduceAdd, Nat.reduceLeDiff, hlen, hix, w_index, ev_index, e0, e3]); try rfl), (by (simp (disch := omega) only [go_sem, ↓reduceIte, Nat.reduceEqDiff, Nat.reduceAdd, Nat.reduceLeDiff, hlen, hix, w_index, ev_index, e0, e3]); try rfl)⟩
      | false =>
        repeat (first | (refine W_reg rfl fun G K hG hK => ?_; simp (disch := omega) only [go_sem, ↓reduceIte, Nat.reduceEqDiff, Nat.reduceAdd, Nat.reduceLeDiff, hG, hlen, hix, w_index, ev_index, e0, e3, d1]; refine hK _ _ ?_; clear hK K hG G) | (refine W_end rfl fun G K hG hK => ?_; simp (disch := omega) only [go_sem, ↓reduceIte, Nat.reduceEqDiff, Nat.reduceAdd, Nat.reduceLeDiff, hG, hlen, hix, w_index, ev_index, e0, e3, d1]; refine hK _ _ ?_; clear hK K hG G; repeat (first | refine thenI ?_ | refine thenE ?_ | refine thenR ?_ | refine inBI ?_ | refine inBR ?_ | refine inBS ?_ | refine inBN (by decide) ?_)) | refine W_seqS ?_ | refine W_seqC ?_ | refine W_seqB ?_ | refine W_block ?_ | (refine W_skip ?_; repeat (first | refine thenI ?_ | refine thenE ?_ | refine thenR ?_ | refine inBI ?_ | refine inBR ?_ | refine inBS ?_ | refine inBN (by decide) ?_)) | (refine W_condT ?hc ?_; (case hc => (simp (disch := omega) only [go_sem, ↓reduceIte, Nat.reduceEqDiff, Nat.reduceAdd, Nat.reduceLeDiff, hlen, hix, w_index, ev_index, e0, e3, d1]; done))) | (refine W_condF ?hc ?_; (case hc => (simp (disch := omega) only [go_sem, ↓reduceIte, Nat.reduceEqDiff, Nat.reduceAdd, Nat.reduceLeDiff, hlen, hix, w_index, ev_index, e0, e3, d1]; done))))
        (repeat (first | refine W_seqS ?_ | refine W_seqC ?_ | refine W_seqB ?_ | refine W_block ?_)); refine W_reg rfl fun G K hG hK => ?_; simp (disch := omega) only [go_sem, ↓reduceIte, Nat.reduceEqDiff, Nat.reduceAdd, Nat.reduceLeDiff, hG, hlen, hix, w_index, ev_index, e0, e3, hxb']
        refine w_call (l2Lower_ok x.toNat st') (by simp (disch := omega) only [go_sem, ↓reduceIte, Nat.reduceEqDiff, hlen, hix, w_index, ev_index, e0, e3, hxb']) ?hl ?_
        case hl => first | rfl | (simp only [go_sem, List.all_cons, List.all_nil, Bool.not_false, Bool.and_self, hlen, hix, w_index, ev_index, e0, e3, hxb']; done)
        rintro r_ st' ⟨rfl, rfl⟩; refine ⟨fun e => (by cases e), ?_⟩
        simp (disch := omega) only [go_sem, ↓reduceIte, Nat.reduceEqDiff, Nat.reduceAdd, Nat.reduceLeDiff, hlen, hix, w_index, ev_index, e0, e3, hG, hxb', k1]
        refine w_call (l2Digit_ok x.toNat st') (by simp (disch := omega) only [go_sem, ↓reduceIte, Nat.reduceEqDiff, hlen, hix, w_index, ev_index, e0, e3, hxb']) ?hl ?_
        case hl => first | rfl | (simp only [go_sem, List.all_cons, List.all_nil, Bool.not_false, Bool.and_self, hlen, hix, w_index, ev_index, e0, e3, hxb']; done)
        rintro r_ st' ⟨rfl, rfl⟩; refine ⟨fun e => (by cases e), ?_⟩
        simp (disch := omega) only [go_sem, ↓reduceIte, Nat.reduceEqDiff, Nat.reduceAdd, Nat.reduceLeDiff, hG, hlen, hix, w_index, ev_index, e0, e3, k2]; refine hK _ _ ?_; clear hK K hG G; repeat (first | refine thenI ?_ | refine thenE ?_ | refine thenR ?_ | refine inBI ?_ | refine inBR ?_ | refine inBS ?_ | refine inBN (by decide) ?_)
        repeat (first | (refine W_reg rfl fun G K hG hK => ?_; simp (disch := omega) only [go_sem, ↓reduceIte, Nat.reduceEqDiff, Nat.reduceAdd, Nat.reduceLeDiff, hG, hlen, hix, w_index, ev_index, e0, e3]; refine hK _ _ ?_; clear hK K hG G) | (refine W_end rfl fun G K hG hK => ?_; simp (disch := omega) only [go_sem, ↓reduceIte, Nat.reduceEqDiff, Nat.reduceAdd, Nat.reduceLeDiff, hG, hlen, hix, w_index, ev_index, e0, e3]; refine hK _ _ ?_; clear hK K hG G; repeat (first | refine thenI ?_ | refine thenE ?_ | refine thenR ?_ | refine inBI ?_ | refine inBR ?_ | refine inBS ?_ | refine inBN (by decide) ?_)) | refine W_seqS ?_ | refine W_seqC ?_ | refine W_seqB ?_ | refine W_block ?_ | (refine W_skip ?_; repeat (first | refine thenI ?_ | refine thenE ?_ | refine thenR ?_ | refine inBI ?_ | refine inBR ?_ | refine inBS ?_ | refine inBN (by decide) ?_)) | (refine W_condT ?hc ?_; (case hc => (simp (disch := omega) only [go_sem, ↓reduceIte, Nat.reduceEqDiff, Nat.reduceAdd, Nat.reduceLeDiff, hlen, hix, w_index, ev_index, e0, e3]; done))) | (refine W_condF ?hc ?_; (case hc => (simp (disch := omega) only [go_sem, ↓reduceIte, Nat.reduceEqDiff, Nat.reduceAdd, Nat.reduceLeDiff, hlen, hix, w_index, ev_index, e0, e3]; done))))
        refine W_ret ?_; try (repeat (first | refine thenI ?_ | refine thenE ?_ | refine thenR ?_ | refine inBI ?_ | refine inBR ?_ | refine inBS ?_ | refine inBN (by decide) ?_))
        refine fin1 (.inl rfl) (by (simp (disch := omega) only [go_sem, ↓reduceIte, Nat.reduceEqDiff, Nat.reduceAdd, Nat.reduceLeDiff, hlen, hix, w_index, ev_index, e0, e3]); try rfl) rfl ⟨by rw [bad (by rw [hld, k1, k2]; rfl)]; rfl, rfl⟩
  · have d1 : decide ((j : Int) + 1 < (s.size : Int)) = false := by simp; omega
    obtain rfl : j = r.length := by omega
    rw [List.take_length] at hall
    repeat (first | (refine W_reg rfl fun G K hG hK => ?_; simp (disch := omega) only [go_sem, ↓reduceIte, Nat.reduceEqDiff, Nat.reduceAdd, Nat.reduceLeDiff, hG, hlen, hix, w_index, ev_index, e0, e3, d1]; refine hK _ _ ?_; clear hK K hG G) | (refine W_end rfl fun G K hG hK => ?_; simp (disch := omega) only [go_sem, ↓reduceIte, Nat.reduceEqDiff, Nat.reduceAdd, Nat.reduceLeDiff, hG, hlen, hix, w_index, ev_index, e0, e3, d1]; refine hK _ _ ?_; clear hK K hG G; repeat (first | refine thenI ?_ | refine thenE ?_ | refine thenR ?_ | refine inBI ?_ | refine inBR ?_ | refine inBS ?_ | refine inBN (by decide) ?_)) | refine W_seqS ?_ | refine W_seqC ?_ | refine W_seqB ?_ | refine W_block ?_ | (refine W_skip ?_; repeat (first | refine thenI ?_ | refine thenE ?_ | refine thenR ?_ | refine inBI ?_ | refine inBR ?_ | refine inBS ?_ | refine inBN (by decide) ?_)) | (refine W_condT ?hc ?_; (case hc => (simp (disch := omega) only [go_sem, ↓reduceIte, Nat.reduceEqDiff, Nat.reduceAdd, Nat.reduceLeDiff, hlen, hix, w_index, ev_index, e0, e3, d1]; done))) | (refine W_condF ?hc ?_; (case hc => (simp (disch := omega) only [go_sem, ↓reduceIte, Nat.reduceEqDiff, Nat.reduceAdd, Nat.reduceLeDiff, hlen, hix, w_index, ev_index, e0, e3, d1]; done))))
    refine W_exit ?_; repeat (first | refine thenI ?_ | refine thenE ?_ | refine thenR ?_ | refine inBI ?_ | refine inBR ?_ | refine inBS ?_ | refine inBN (by decide) ?_)
    repeat (first | (refine W_reg rfl fun G K hG hK => ?_; simp (disch := omega) only [go_sem, ↓reduceIte, Nat.reduceEqDiff, Nat.reduceAdd, Nat.reduceLeDiff, hG, hlen, hix, w_index, ev_index, e0, e3]; refine hK _ _ ?_; clear hK K hG G) | (refine W_end rfl fun G K hG hK => ?_; simp (disch := omega) only [go_sem, ↓reduceIte, Nat.reduceEqDiff, Nat.reduceAdd, Nat.reduceLeDiff, hG, hlen, hix, w_index, ev_index, e0, e3]; refine hK _ _ ?_; clear hK K hG G; repeat (first | refine thenI ?_ | refine thenE ?_ | refine thenR ?_ | refine inBI ?_ | refine inBR ?_ | refine inBS ?_ | refine inBN (by decide) ?_)) | refine W_seqS ?_ | refine W_seqC ?_ | refine W_seqB ?_ | refine W_block ?_ | (refine W_skip ?_; repeat (first | refine thenI ?_ | refine thenE ?_ | refine thenR ?_ | refine inBI ?_ | refine inBR ?_ | refine inBS ?_ | refine inBN (by decide) ?_)) | (refine W_condT ?hc ?_; (case hc => (simp (disch := omega) only [go_sem, ↓reduceIte, Nat.reduceEqDiff, Nat.reduceAdd, Nat.reduceLeDiff, hlen, hix, w_index, ev_index, e0, e3]; done))) | (refine W_condF ?hc ?_; (case hc => (simp (disch := omega) only [go_sem, ↓reduceIte, Nat.reduceEqDiff, Nat.reduceAdd, Nat.reduceLeDiff, hlen, hix, w_index, ev_index, e0, e3]; done))))
    (repeat (first | refine W_seqS ?_ | refine W_seqC ?_ | refine W_seqB ?_ | refine W_block ?_)); refine W_reg rfl fun G K hG hK => ?_; simp (disch := omega) only [go_sem, ↓reduceIte, Nat.reduceEqDiff, Nat.reduceAdd, Nat.reduceLeDiff, hG, hlen, hix, w_index, ev_index, e0, e3]
    refine w_call (l1In_ok s.size 1 8 st') (by simp (disch := omega) only [go_sem, ↓reduceIte, Nat.reduceEqDiff, hlen, hix, w_index, ev_index, e0, e3]) ?hl ?_
    case hl => first | rfl | (simp only [go_sem, List.all_cons, List.all_nil, Bool.not_false, Bool.and_self, hlen, hix, w_index, ev_index, e0, e3]; done)
    rintro r_ st' ⟨rfl, rfl⟩; refine ⟨fun e => (by cases e), ?_⟩
    simp (disch := omega) only [go_sem, ↓reduceIte, Nat.reduceEqDiff, Nat.reduceAdd, Nat.reduceLeDiff, hG, hlen, hix, w_index, ev_index, e0, e3]; refine hK _ _ ?_; clear hK K hG G; repeat (first | refine thenI ?_ | refine thenE ?_ | refine thenR ?_ | refine inBI ?_ | refine inBR ?_ | refine inBS ?_ | refine inBN (by decide) ?_)
    refine W_ret ?_; try (repeat (first | refine thenI ?_ | refine thenE ?_ | refine thenR ?_ | refine inBI ?_ | refine inBR ?_ | refine inBS ?_ | refine inBN (by decide) ?_))
    refine fin1 (.inl rfl) (by (simp (disch := omega) only [go_sem, ↓reduceIte, Nat.reduceEqDiff, Nat.reduceAdd, Nat.reduceLeDiff, hlen, hix, w_index, ev_index, e0, e3]); try rfl) rfl ⟨?_, rfl⟩
    rw [hall]
    congr 1
    have e1 : decide ((s.size : Int) ≥ 1) = true := by simp; omega
    rw [e1]
    simp only [Bool.true_and]
    rw [decide_eq_decide]
    omega
theorem neq_empty {s : ByteArray} : (s.toList == (⟨#[]⟩ : ByteArray).toList) = s.data.toList.isEmpty := by
  rw [Lib.toList_data, Lib.toList_data]
  cases s.data.toList <;> rfl
theorem specIsName_ok (s : ByteArray) (hbig : s.size ≤ 9223372036854775807) (st : St) : CallS Tryd.prog 57 [.string s] st fun r st' => r = .bool (isName s) ∧ st' = st := by
  refine CallS_of_W [] 14 Tryd.func57 rfl rfl rfl rfl (by simp) ?_
  have hix := fun (k : IntKind) (i : Int) (h0 : 0 ≤ i) (h1 : i < s.size) => idxS (k := k) Tryd.underlying9 h0 h1
  cases hl : s.data.toList with
  | nil =>
    have c0 : ([] : List UInt8).isEmpty = true := rfl
    repeat (first | (refine W_reg rfl fun G K hG hK => ?_; simp (disch := omega) only [go_sem, ↓reduceIte, Nat.reduceEqDiff, Nat.reduceAdd, Nat.reduceLeDiff, hG, hix, w_index, ev_index, neq_empty, hl, c0]; refine hK _ _ ?_; clear hK K hG G) | (refine W_end rfl fun G K hG hK => ?_; simp (disch := omega) only [go_sem, ↓reduceIte, Nat.reduceEqDiff, Nat.reduceAdd, Nat.reduceLeDiff, hG, hix, w_index, ev_index, neq_empty, hl, c0]; refine hK _ _ ?_; clear hK K hG G; repeat (first | refine thenI ?_ | refine thenE ?_ | refine thenR ?_ | refine inBI ?_ | refine inBR ?_ | refine inBS ?_ | refine inBN (by decide) ?_)) | refine W_seqS ?_ | refine W_seqC ?_ | refine W_seqB ?_ | refine W_block ?_ | (refine W_skip ?_; repeat (first | refine thenI ?_ | refine thenE ?_ | refine thenR ?_ | refine inBI ?_ | refine inBR ?_ | refine inBS ?_ | refine inBN (by decide) ?_)) | (refine W_condT ?hc ?_; (case hc => (simp (disch := omega) only [go_sem, ↓reduceIte, Nat.reduceEqDiff, Nat.reduceAdd, Nat.reduceLeDiff, hix, w_index, ev_index, neq_empty, hl, c0]; done))) | (refine W_condF ?hc ?_; (case hc => (simp (disch := omega) only [go_sem, ↓reduceIte, Nat.reduceEqDiff, Nat.reduceAdd, Nat.reduceLeDiff, hix, w_index, ev_index, neq_empty, hl, c0]; done))))
    refine W_ret ?_; try (repeat (first | refine thenI ?_ | refine thenE ?_ | refine thenR ?_ | refine inBI ?_ | refine inBR ?_ | refine inBS ?_ | refine inBN (by decide) ?_))
    refine fin1 (.inl rfl) (by (simp (disch := omega) only [go_sem, ↓reduceIte, Nat.reduceEqDiff, Nat.reduceAdd, Nat.reduceLeDiff, hix, w_index, ev_index, neq_empty]); try rfl) rfl ⟨by unfold isName; rw [hl]; rfl, rfl⟩
  | cons b r =>
    have hsz : s.size = r.length + 1 := by rw [size_list, hl]; simp
    have c0 : (b :: r).isEmpty = false := rfl
    obtain ⟨b', r', hb, hby, hr1⟩ := drop_byte (s := s) (i := 0) (by omega)
    rw [List.drop_zero, hl] at hb
    cases hb
    have hby' : byteAt s (0 : Int).toNat = (b.toNat : Int) := hby
    have hnm : isName s = ((decide (97 ≤ b.toNat) && decide (b.toNat ≤ 122)) && (r.all lowDig && decide (r.length ≤ 7))) := nm_of hl
    cases k1 : (decide (97 ≤ b.toNat) && decide (b.toNat ≤ 122)) with
    | false =>
      repeat (first | (refine W_reg rfl fun G K hG hK => ?_; simp (disch := omega) only [go_sem, ↓reduceIte, Nat.reduceEqDiff, Nat.reduceAdd, Nat.reduceLeDiff, hG, hix, w_index, ev_index, neq_empty]; refine hK _ _ ?_; clear hK K hG G) | (refine W_end rfl fun G K hG hK => ?_; simp (disch := omega) only [go_sem, ↓reduceIte, Nat.reduceEqDiff, Nat.reduceAdd, Nat.reduceLeDiff, hG, hix, w_index, ev_index, neq_empty]; refine hK _ _ ?_; clear hK K hG G; repeat (first | refine thenI ?_ | refine thenE ?_ | refine thenR ?_ | refine inBI ?_ | refine inBR ?_ | refine inBS ?_ | refine inBN (by decide) ?_)) | refine W_seqS ?_ | refine W_seqC ?_ | refine W_seqB ?_ | refine W_block ?_ | (refine W_skip ?_; repeat (first | refine thenI ?_ | refine thenE ?_ | refine thenR ?_ | refine inBI ?_ | refine inBR ?_ | refine inBS ?_ | refine inBN (by decide) ?_)) | (refine W_condT ?hc ?_; (case hc => (simp (disch := omega) only [go_sem, ↓reduceIte, Nat.reduceEqDiff, Nat.reduceAdd, Nat.reduceLeDiff, hix, w_index, ev_index, neq_empty]; done))) | (refine W_condF ?hc ?_; (case hc => (simp (disch := omega) only [go_sem, ↓reduceIte, Nat.reduceEqDiff, Nat.reduceAdd, Nat.reduceLeDiff, hix, w_index, ev_index, neq_empty]; done))))
      (repeat (first | refine W_seqS ?_ | refine W_seqC ?_ | refine W_seqB ?_ | refine W_block ?_)); refine W_reg rfl fun G K hG hK => ?_; simp (disch := omega) only [go_sem, ↓reduceIte, Nat.reduceEqDiff, Nat.reduceAdd, Nat.reduceLeDiff, hG, hix, w_index, ev_index, neq_empty, hl, c0, hby']
      refine w_call (l2Lower_ok b.toNat st) (by simp (disch := omega) only [go_sem, ↓reduceIte, Nat.reduceEqDiff, hix, w_index, ev_index, neq_empty]) ?hl ?_
      case hl => first | rfl | (simp only [go_sem, List.all_cons, List.all_nil, Bool.not_false, Bool.and_self, hix, w_index, ev_index, neq_empty]; done)
      rintro r_ st ⟨rfl, rfl⟩; refine ⟨fun e => (by cases e), ?_⟩
      simp (disch := omega) only [go_sem, ↓reduceIte, Nat.reduceEqDiff, Nat.reduceAdd, Nat.reduceLeDiff, hG, hix, w_index, ev_index, neq_empty, k1]; refine hK _ _ ?_; clear hK K hG G; repeat (first | refine thenI ?_ | refine thenE ?_ | refine thenR ?_ | refine inBI ?_ | refine inBR ?_ | refine inBS ?_ | refine inBN (by decide) ?_)
      refine W_ret ?_; try (repeat (first | refine thenI ?_ | refine thenE ?_ | refine thenR ?_ | refine inBI ?_ | refine inBR ?_ | refine inBS ?_ | refine inBN (by decide) ?_))
      refine fin1 (.inl rfl) (by (simp (disch := omega) only [go_sem, ↓reduceIte, Nat.reduceEqDiff, Nat.reduceAdd, Nat.reduceLeDiff, hix, w_index, ev_index, neq_empty]); try rfl) rfl ⟨by rw [hnm, k1]; rfl, rfl⟩
    | true =>
      repeat (first | (refine W_reg rfl fun G K hG hK => ?_; simp (disch := omega) only [go_sem, ↓reduceIte, Nat.reduceEqDiff, Nat.reduceAdd, Nat.reduceLeDiff, hG, hix, w_index, ev_index, neq_empty]; refine hK _ _ ?_; clear hK K hG G) | (refine W_end rfl fun G K hG hK => ?_; simp (disch := omega) only [go_sem, ↓reduceIte, Nat.reduceEqDiff, Nat.reduceAdd, Nat.reduceLeDiff, hG, hix, w_index, ev_index, neq_empty]; refine hK _ _ ?_; clear hK K hG G; repeat (first | refine thenI ?_ | refine thenE ?_ | refine thenR ?_ | refine inBI ?_ | refine inBR ?_ | refine inBS ?_ | refine inBN (by decide) ?_)) | refine W_seqS ?_ | refine W_seqC ?_ | refine W_seqB ?_ | refine W_block ?_ | (refine W_skip ?_; repeat (first | refine thenI ?_ | refine thenE ?_ | refine thenR ?_ | refine inBI ?_ | refine inBR ?_ | refine inBS ?_ | refine inBN (by decide) ?_)) | (refine W_condT ?hc ?_; (case hc => (simp (disch := omega) only [go_sem, ↓reduceIte, Nat.reduceEqDiff, Nat.reduceAdd, Nat.reduceLeDiff, hix, w_index, ev_index, neq_empty]; done))) | (refine W_condF ?hc ?_; (case hc => (simp (disch := omega) only [go_sem, ↓reduceIte, Nat.reduceEqDiff, Nat.reduceAdd, Nat.reduceLeDiff, hix, w_index, ev_index, neq_empty]; done))))
      (repeat (first | refine W_seqS ?_ | refine W_seqC ?_ | refine W_seqB ?_ | refine W_block ?_)); refine W_reg rfl fun G K hG hK => ?_; simp (disch := omega) only [go_sem, ↓reduceIte, Nat.reduceEqDiff, Nat.reduceAdd, Nat.reduceLeDiff, hG, hix, w_index, ev_index, neq_empty, hl, c0, hby']
      refine w_call (l2Lower_ok b.toNat st) (by simp (disch := omega) only [go_sem, ↓reduceIte, Nat.reduceEqDiff, hix, w_index, ev_index, neq_empty]) ?hl ?_
      case hl => first | rfl | (simp only [go_sem, List.all_cons, List.all_nil, Bool.not_false, Bool.and_self, hix, w_index, ev_index, neq_empty]; done)
      rintro r_ st ⟨rfl, rfl⟩; refine ⟨fun e => (by cases e), ?_⟩
      simp (disch := omega) only [go_sem, ↓reduceIte, Nat.reduceEqDiff, Nat.reduceAdd, Nat.reduceLeDiff, hix, w_index, ev_index, neq_empty, hG, hl, c0, hby', k1]
      refine w_call (l2Rest_ok s b r hl hbig st) (by simp (disch := omega) only [go_sem, ↓reduceIte, Nat.reduceEqDiff, hix, w_index, ev_index, neq_empty]) ?hl ?_
      case hl => first | rfl | (simp only [go_sem, List.all_cons, List.all_nil, Bool.not_false, Bool.and_self, hix, w_index, ev_index, neq_empty]; done)
      rintro r_ st ⟨rfl, rfl⟩; refine ⟨fun e => (by cases e), ?_⟩
      simp (disch := omega) only [go_sem, ↓reduceIte, Nat.reduceEqDiff, Nat.reduceAdd, Nat.reduceLeDiff, hG, hix, w_index, ev_index, neq_empty]; refine hK _ _ ?_; clear hK K hG G; repeat (first | refine thenI ?_ | refine thenE ?_ | refine thenR ?_ | refine inBI ?_ | refine inBR ?_ | refine inBS ?_ | refine inBN (by decide) ?_)
      refine W_ret ?_; try (repeat (first | refine thenI ?_ | refine thenE ?_ | refine thenR ?_ | refine inBI ?_ | refine inBR ?_ | refine inBS ?_ | refine inBN (by decide) ?_))
      refine fin1 (.inl rfl) (by (simp (disch := omega) only [go_sem, ↓reduceIte, Nat.reduceEqDiff, Nat.reduceAdd, Nat.reduceLeDiff, hix, w_index, ev_index, neq_empty]); try rfl) rfl ⟨by rw [hnm, k1]; rfl, rfl⟩
theorem specIsVar_ok (s : ByteArray) (hbig : s.size ≤ 9223372036854775807) (st : St) : CallS Tryd.prog 48 [.string s] st fun r st' => r = .bool (isVar s) ∧ st' = st := by
  refine CallS_of_W [] 19 Tryd.func48 rfl rfl rfl rfl (by simp) ?_
  have hix := fun (k : IntKind) (i : Int) (h0 : 0 ≤ i) (h1 : i < s.size) => idxS (k := k) Tryd.underlying9 h0 h1
  cases hl : s.data.toList with
  | nil =>
    have c0 : ([] : List UInt8).isEmpty = true := rfl
    repeat (first | (refine W_reg rfl fun G K hG hK => ?_; simp (disch := omega) only [go_sem, ↓reduceIte, Nat.reduceEqDiff, Nat.reduceAdd, Nat.reduceLeDiff, hG, hix, w_index, ev_index, neq_empty, hl, c0]; refine hK _ _ ?_; clear hK K hG G) | (refine W_end rfl fun G K hG hK => ?_; simp (disch := omega) only [go_sem, ↓reduceIte, Nat.reduceEqDiff, Nat.reduceAdd, Nat.reduceLeDiff, hG, hix, w_index, ev_index, neq_empty, hl, c0]; refine hK _ _ ?_; clear hK K hG G; repeat (first | refine thenI ?_ | refine thenE ?_ | refine thenR ?_ | refine inBI ?_ | refine inBR ?_ | refine inBS ?_ | refine inBN (by decide) ?_)) | refine W_seqS ?_ | refine W_seqC ?_ | refine W_seqB ?_ | refine W_block ?_ | (refine W_skip ?_; repeat (first | refine thenI ?_ | refine thenE ?_ | refine thenR ?_ | refine inBI ?_ | refine inBR ?_ | refine inBS ?_ | refine inBN (by decide) ?_)) | (refine W_condT ?hc ?_; (case hc => (simp (disch := omega) only [go_sem, ↓reduceIte, Nat.reduceEqDiff, Nat.reduceAdd, Nat.reduceLeDiff, hix, w_index, ev_index, neq_empty, hl, c0]; done))) | (refine W_condF ?hc ?_; (case hc => (simp (disch := omega) only [go_sem, ↓reduceIte, Nat.reduceEqDiff, Nat.reduceAdd, Nat.reduceLeDiff, hix, w_index, ev_index, neq_empty, hl, c0]; done))))
    refine W_ret ?_; try (repeat (first | refine thenI ?_ | refine thenE ?_ | refine thenR ?_ | refine inBI ?_ | refine inBR ?_ | refine inBS ?_ | refine inBN (by decide) ?_))
    refine fin1 (.inl rfl) (by (simp (disch := omega) only [go_sem, ↓reduceIte, Nat.reduceEqDiff, Nat.reduceAdd, Nat.reduceLeDiff, hix, w_index, ev_index, neq_empty]); try rfl) rfl ⟨by unfold isVar; rw [hl]; rfl, rfl⟩
  | cons b r =>
    have hsz : s.size = r.length + 1 := by rw [size_list, hl]; simp
    have c0 : (b :: r).isEmpty = false := rfl
    obtain ⟨b', r', hb, hby, hr1⟩ := drop_byte (s := s) (i := 0) (by omega)
    rw [List.drop_zero, hl] at hb
    cases hb
    have hby' : byteAt s (0 : Int).toNat = (b.toNat : Int) := hby
    have hnm : isVar s = ((decide (65 ≤ b.toNat) && decide (b.toNat ≤ 90)) && (r.all lowDig && decide (r.length ≤ 7))) := nm_of hl
    by_cases h1 : 65 ≤ b.toNat
    · have c1 : decide ((b.toNat : Int) ≥ 65) = true := by simp; omega
      by_cases h2 : b.toNat ≤ 90
      · have c2 : decide ((b.toNat : Int) ≤ 90) = true := by simp; omega
        repeat (first | (refine W_reg rfl fun G K hG hK => ?_; simp (disch := omega) only [go_sem, ↓reduceIte, Nat.reduceEqDiff, Nat.reduceAdd, Nat.reduceLeDiff, hG, hix, w_index, ev_index, neq_empty]; refine hK _ _ ?_; clear hK K hG G) | (refine W_end rfl fun G K hG hK => ?_; simp (disch := omega) only [go_sem, ↓reduceIte, Nat.reduceEqDiff, Nat.reduceAdd, Nat.reduceLeDiff, hG, hix, w_index, ev_index, neq_empty]; refine hK _ _ ?_; clear hK K hG G; repeat (first | refine thenI ?_ | refine thenE ?_ | refine thenR ?_ | refine inBI ?_ | refine inBR ?_ | refine inBS ?_ | refine inBN (by decide) ?_)) | refine W_seqS ?_ | refine W_seqC ?_ | refine W_seqB ?_ | refine W_block ?_ | (refine W_skip ?_; repeat (first | refine thenI ?_ | refine thenE ?_ | refine thenR ?_ | refine inBI ?_ | refine inBR ?_ | refine inBS ?_ | refine inBN (by decide) ?_)) | (refine W_condT ?hc ?_; (case hc => (simp (disch := omega) only [go_sem, ↓reduceIte, Nat.reduceEqDiff, Nat.reduceAdd, Nat.reduceLeDiff, hix, w_index, ev_index, neq_empty]; done))) | (refine W_condF ?hc ?_; (case hc => (simp (disch := omega) only [go_sem, ↓reduceIte, Nat.reduceEqDiff, Nat.reduceAdd, Nat.reduceLeDiff, hix, w_index, ev_index, neq_empty]; done))))
        (repeat (first | refine W_seqS ?_ | refine W_seqC ?_ | refine W_seqB ?_ | refine W_block ?_)); refine W_reg rfl fun G K hG hK => ?_; simp (disch := omega) only [go_sem, ↓reduceIte, Nat.reduceEqDiff, Nat.reduceAdd, Nat.reduceLeDiff, hG, hix, w_index, ev_index, neq_empty, hl, c0, hby', c1, c2]
        refine w_call (l2Rest_ok s b r hl hbig st) (by simp (disch := omega) only [go_sem, ↓reduceIte, Nat.reduceEqDiff, hix, w_index, ev_index, neq_empty]) ?hl ?_
        case hl => first | rfl | (simp only [go_sem, List.all_cons, List.all_nil, Bool.not_false, Bool.and_self, hix, w_index, ev_index, neq_empty]; done)
        rintro r_ st ⟨rfl, rfl⟩; refine ⟨fun e => (by cases e), ?_⟩
        simp (disch := omega) only [go_sem, ↓reduceIte, Nat.reduceEqDiff, Nat.reduceAdd, Nat.reduceLeDiff, hG, hix, w_index, ev_index, neq_empty]; refine hK _ _ ?_; clear hK K hG G; repeat (first | refine thenI ?_ | refine thenE ?_ | refine thenR ?_ | refine inBI ?_ | refine inBR ?_ | refine inBS ?_ | refine inBN (by decide) ?_)
        refine W_ret ?_; try (repeat (first | refine thenI ?_ | refine thenE ?_ | refine thenR ?_ | refine inBI ?_ | refine inBR ?_ | refine inBS ?_ | refine inBN (by decide) ?_))
        refine fin1 (.inl rfl) (by (simp (disch := omega) only [go_sem, ↓reduceIte, Nat.reduceEqDiff, Nat.reduceAdd, Nat.reduceLeDiff, hix, w_index, ev_index, neq_empty]); try rfl) rfl ⟨by rw [hnm]; simp [h1, h2], rfl⟩
      · have c2 : decide ((b.toNat : Int) ≤ 90) = false := by simp; omega
        repeat (first | (refine W_reg rfl fun G K hG hK => ?_; simp (disch := omega) only [go_sem, ↓reduceIte, Nat.reduceEqDiff, Nat.reduceAdd, Nat.reduceLeDiff, hG, hix, w_index, ev_index, neq_empty, hl, c0, hby', c1, c2]; refine hK _ _ ?_; clear hK K hG G) | (refine W_end rfl fun G K hG hK => ?_; simp (disch := omega) only [go_sem, ↓reduceIte, Nat.reduceEqDiff, Nat.reduceAdd, Nat.reduceLeDiff, hG, hix, w_index, ev_index, neq_empty, hl, c0, hby', c1, c2]; refine hK _ _ ?_; clear hK K hG G; repeat (first | refine thenI ?_ | refine thenE ?_ | refine thenR ?_ | refine inBI ?_ | refine inBR ?_ | refine inBS ?_ | refine inBN (by decide) ?_)) | refine W_seqS ?_ | refine W_seqC ?_ | refine W_seqB ?_ | refine W_block ?_ | (refine W_skip ?_; repeat (first | refine thenI ?_ | refine thenE ?_ | refine thenR ?_ | refine inBI ?_ | refine inBR ?_ | refine inBS ?_ | refine inBN (by decide) ?_)) | (refine W_condT ?hc ?_; (case hc => (simp (disch := omega) only [go_sem, ↓reduceIte, Nat.reduceEqDiff, Nat.reduceAdd, Nat.reduceLeDiff, hix, w_index, ev_index, neq_empty, hl, c0, hby', c1, c2]; done))) | (refine W_condF ?hc ?_; (case hc => (simp (disch := omega) only [go_sem, ↓reduceIte, Nat.reduceEqDiff, Nat.reduceAdd, Nat.reduceLeDiff, hix, w_index, ev_index, neq_empty, hl, c0, hby', c1, c2]; done))))
        refine W_ret ?_; try (repeat (first | refine thenI ?_ | refine thenE ?_ | refine thenR ?_ | refine inBI ?_ | refine inBR ?_ | refine inBS ?_ | refine inBN (by decide) ?_))
        refine fin1 (.inl rfl) (by (simp (disch := omega) only [go_sem, ↓reduceIte, Nat.reduceEqDiff, Nat.reduceAdd, Nat.reduceLeDiff, hix, w_index, ev_index, neq_empty]); try rfl) rfl ⟨by rw [hnm]; simp [h1, h2], rfl⟩
    · have c1 : decide ((b.toNat : Int) ≥ 65) = false := by simp; omega
      repeat (first | (refine W_reg rfl fun G K hG hK => ?_; simp (disch := omega) only [go_sem, ↓reduceIte, Nat.reduceEqDiff, Nat.reduceAdd, Nat.reduceLeDiff, hG, hix, w_index, ev_index, neq_empty, hl, c0, hby', c1]; refine hK _ _ ?_; clear hK K hG G) | (refine W_end rfl fun G K hG hK => ?_; simp (disch := omega) only [go_sem, ↓reduceIte, Nat.reduceEqDiff, Nat.reduceAdd, Nat.reduceLeDiff, hG, hix, w_index, ev_index, neq_empty, hl, c0, hby', c1]; refine hK _ _ ?_; clear hK K hG G; repeat (first | refine thenI ?_ | refine thenE ?_ | refine thenR ?_ | refine inBI ?_ | refine inBR ?_ | refine inBS ?_ | refine inBN (by decide) ?_)) | refine W_seqS ?_ | refine W_seqC ?_ | refine W_seqB ?_ | refine W_block ?_ | (refine W_skip ?_; repeat (first | refine thenI ?_ | refine thenE ?_ | refine thenR ?_ | refine inBI ?_ | refine inBR ?_ | refine inBS ?_ | refine inBN (by decide) ?_)) | (refine W_condT ?hc ?_; (case hc => (simp (disch := omega) only [go_sem, ↓reduceIte, Nat.reduceEqDiff, Nat.reduceAdd, Nat.reduceLeDiff, hix, w_index, ev_index, neq_empty, hl, c0, hby', c1]; done))) | (refine W_condF ?hc ?_; (case hc => (simp (disch := omega) only [go_sem, ↓reduceIte, Nat.reduceEqDiff, Nat.reduceAdd, Nat.reduceLeDiff, hix, w_index, ev_index, neq_empty, hl, c0, hby', c1]; done))))
      refine W_ret ?_; try (repeat (first | refine thenI ?_ | refine thenE ?_ | refine thenR ?_ | refine inBI ?_ | refine inBR ?_ | refine inBS ?_ | refine inBN (by decide) ?_))
      refine fin1 (.inl rfl) (by (simp (disch := omega) only [go_sem, ↓reduceIte, Nat.reduceEqDiff, Nat.reduceAdd, Nat.reduceLeDiff, hix, w_index, ev_index, neq_empty]); try rfl) rfl ⟨by rw [hnm]; simp [h1], rfl⟩

end

section
/- Numbers are read: impl.whole, spec.l1Read, ParseInt, ParseNumber. -/
open Go Go.Proofs Go.Lib
set_option linter.unusedVariables false
set_option linter.unusedSimpArgs false
set_option maxRecDepth 100000
-- AUTO

theorem neq_nil1 {P : Program} {t u : TypeId} {m : Array (String × TypeId)} {x y : Operand} {p : Value} (hu : P.underlying t = some (.interface m)) (hp : flat (.iface u p) = false) : binE P .neq t x y (.iface u p) .nilIface = some (.bool true) := by
  have he : elemA P t = none := by unfold elemA; rw [hu]
  unfold binE
  rw [hp, he]
  simp only [Bool.false_and, Bool.false_eq_true, if_false]
  unfold eqNilI
  rw [hu]
theorem neq_nil2 {P : Program} {t : TypeId} {m : Array (String × TypeId)} {x : Operand} {v : Value} (hu : P.underlying t = some (.interface m)) : binE P .neq t x (.const v) .nilIface .nilIface = some (.bool false) := by
  have he : pureRun P (Op.equal t .nilIface .nilIface) = some true := by
    show pureRun P (Op.equalIn (9999 + 1) t .nilIface .nilIface) = _
    rw [Op.equalIn, pureRun_bind, pureRun_und hu]
    rfl
  have : binE P .neq t x (.const v) .nilIface .nilIface = flatRun P (do pure (.bool !(← Op.equal t .nilIface .nilIface))) := by cases x <;> rfl
  rw [this, flatRun, pureRun_bind, he]; rfl
theorem fr_ni {fr : Fr} : fr.ev (.const .nilIface) = .nilIface := rfl
/-- A number that was read, or not. -/
def NumQ (o : Option Int) (r : Value) : Prop := match o with
  | some v => r = .tuple #[.int .i64 v, .bool true]
  | none => r = .tuple #[.int .i64 0, .bool false]
theorem implWhole_ok (s : ByteArray) (lo hi : Int) (st : St) (hb : s.size ≤ 281474976710656) (h0 : -9223372036854775808 ≤ lo) (h1 : hi ≤ 9223372036854775807) :
    CallS Tryd.prog 54 [.string s, .int .i64 lo, .int .i64 hi] st fun r st2 => Ext st st2 ∧ NumQ (wholeN lo hi s.data.toList) r := by
  refine CallS_of_W [] 34 Tryd.func54 rfl rfl rfl rfl (by simp) ?_
  repeat (first | (refine W_reg rfl fun G K hG hK => ?_; simp (disch := omega) only [go_sem, ↓reduceIte, Nat.reduceEqDiff, Nat.reduceAdd, Nat.reduceLeDiff, hG, fr_ni]; refine hK _ _ ?_; clear hK K hG G) | (refine W_end rfl fun G K hG hK => ?_; simp (disch := omega) only [go_sem, ↓reduceIte, Nat.reduceEqDiff, Nat.reduceAdd, Nat.reduceLeDiff, hG, fr_ni]; refine hK _ _ ?_; clear hK K hG G; repeat (first | refine thenI ?_ | refine thenE ?_ | refine thenR ?_ | refine inBI ?_ | refine inBR ?_ | refine inBS ?_ | refine inBN (by decide) ?_)) | refine W_seqS ?_ | refine W_seqC ?_ | refine W_seqB ?_ | refine W_block ?_ | (refine W_skip ?_; repeat (first | refine thenI ?_ | refine thenE ?_ | refine thenR ?_ | refine inBI ?_ | refine inBR ?_ | refine inBS ?_ | refine inBN (by decide) ?_)) | (refine W_condT ?hc ?_; (case hc => (simp (disch := omega) only [go_sem, ↓reduceIte, Nat.reduceEqDiff, Nat.reduceAdd, Nat.reduceLeDiff, fr_ni]; done))) | (refine W_condF ?hc ?_; (case hc => (simp (disch := omega) only [go_sem, ↓reduceIte, Nat.reduceEqDiff, Nat.reduceAdd, Nat.reduceLeDiff, fr_ni]; done))))
  (repeat (first | refine W_seqS ?_ | refine W_seqC ?_ | refine W_seqB ?_ | refine W_block ?_)); refine W_reg rfl fun G K hG hK => ?_; simp (disch := omega) only [go_sem, ↓reduceIte, Nat.reduceEqDiff, Nat.reduceAdd, Nat.reduceLeDiff, hG, fr_ni]
  refine w_call (atoi_ok s st hb) (by simp (disch := omega) only [go_sem, ↓reduceIte, Nat.reduceEqDiff, fr_ni]) ?hl ?_
  case hl => first | rfl | (simp only [go_sem, List.all_cons, List.all_nil, Bool.not_false, Bool.and_self, fr_ni]; done)
  rintro r_ sa ⟨x1, hq⟩; refine ⟨fun e => (by cases e), ?_⟩
  cases ha : atoiAll s.data.toList with
  | ok v =>
    rw [ha] at hq
    simp only at hq
    subst hq
    have hn2 : ∀ x v, binE Tryd.prog .neq 83 x (.const v) .nilIface .nilIface = some (.bool false) := fun x v => neq_nil2 Tryd.underlying83
    have hwh : wholeN lo hi s.data.toList = if (lo ≤ v ∧ v ≤ hi) ∧ itoa v = s.data.toList then some v else none := by unfold wholeN; rw [ha]
    simp (disch := omega) only [go_sem, ↓reduceIte, Nat.reduceEqDiff, Nat.reduceAdd, Nat.reduceLeDiff, hG, fr_ni]; refine hK _ _ ?_; clear hK K hG G; repeat (first | refine thenI ?_ | refine thenE ?_ | refine thenR ?_ | refine inBI ?_ | refine inBR ?_ | refine inBS ?_ | refine inBN (by decide) ?_)
    rw [hwh]
    by_cases c1 : v < lo
    · have d1 : decide (v < lo) = true := by simpa using c1
      rw [if_neg (by omega)]
      repeat (first | (refine W_reg rfl fun G K hG hK => ?_; simp (disch := omega) only [go_sem, ↓reduceIte, Nat.reduceEqDiff, Nat.reduceAdd, Nat.reduceLeDiff, hG, fr_ni, hn2, d1]; refine hK _ _ ?_; clear hK K hG G) | (refine W_end rfl fun G K hG hK => ?_; simp (disch := omega) only [go_sem, ↓reduceIte, Nat.reduceEqDiff, Nat.reduceAdd, Nat.reduceLeDiff, hG, fr_ni, hn2, d1]; refine hK _ _ ?_; clear hK K hG G; repeat (first | refine thenI ?_ | refine thenE ?_ | refine thenR ?_ | refine inBI ?_ | refine inBR ?_ | refine inBS ?_ | refine inBN (by decide) ?_)) | refine W_seqS ?_ | refine W_seqC ?_ | refine W_seqB ?_ | refine W_block ?_ | (refine W_skip ?_; repeat (first | refine thenI ?_ | refine thenE ?_ | refine thenR ?_ | refine inBI ?_ | refine inBR ?_ | refine inBS ?_ | refine inBN (by decide) ?_)) | (refine W_condT ?hc ?_; (case hc => (simp (disch := omega) only [go_sem, ↓reduceIte, Nat.reduceEqDiff, Nat.reduceAdd, Nat.reduceLeDiff, fr_ni, hn2, d1]; done))) | (refine W_condF ?hc ?_; (case hc => (simp (disch := omega) only [go_sem, ↓reduceIte, Nat.reduceEqDiff, Nat.reduceAdd, Nat.reduceLeDiff, fr_ni, hn2, d1]; done))))
      refine W_ret ?_; try (repeat (first | refine thenI ?_ | refine thenE ?_ | refine thenR ?_ | refine inBI ?_ | refine inBR ?_ | refine inBS ?_ | refine inBN (by decide) ?_))
      refine fin2 (.inl rfl) (by (simp (disch := omega) only [go_sem, ↓reduceIte, Nat.reduceEqDiff, Nat.reduceAdd, Nat.reduceLeDiff, fr_ni]); try rfl) rfl (by (simp (disch := omega) only [go_sem, ↓reduceIte, Nat.reduceEqDiff, Nat.reduceAdd, Nat.reduceLeDiff, fr_ni]); try rfl) rfl ⟨x1, rfl⟩
    have d1 : decide (v < lo) = false := by simpa using c1
    by_cases c2 : v > hi
    · have d2 : decide (v > hi) = true := by simpa using c2
      rw [if_neg (by omega)]
      repeat (first | (refine W_reg rfl fun G K hG hK => ?_; simp (disch := omega) only [go_sem, ↓reduceIte, Nat.reduceEqDiff, Nat.reduceAdd, Nat.reduceLeDiff, hG, fr_ni, hn2, d1, d2]; refine hK _ _ ?_; clear hK K hG G) | (refine W_end rfl fun G K hG hK => ?_; simp (disch := omega) only [go_sem, ↓reduceIte, Nat.reduceEqDiff, Nat.reduceAdd, Nat.reduceLeDiff, hG, fr_ni, hn2, d1, d2]; refine hK _ _ ?_; clear hK K hG G; repeat (first | refine thenI ?_ | refine thenE ?_ | refine thenR ?_ | refine inBI ?_ | refine inBR ?_ | refine inBS ?_ | refine inBN (by decide) ?_)) | refine W_seqS ?_ | refine W_seqC ?_ | refine W_seqB ?_ | refine W_block ?_ | (refine W_skip ?_; repeat (first | refine thenI ?_ | refine thenE ?_ | refine thenR ?_ | refine inBI ?_ | refine inBR ?_ | refine inBS ?_ | refine inBN (by decide) ?_)) | (refine W_condT ?hc ?_; (case hc => (simp (disch := omega) only [go_sem, ↓reduceIte, Nat.reduceEqDiff, Nat.reduceAdd, Nat.reduceLeDiff, fr_ni, hn2, d1, d2]; done))) | (refine W_condF ?hc ?_; (case hc => (simp (disch := omega) only [go_sem, ↓reduceIte, Nat.reduceEqDiff, Nat.reduceAdd, Nat.reduceLeDiff, fr_ni, hn2, d1, d2]; done))))
      refine W_ret ?_; try (repeat (first | refine thenI ?_ | refine thenE ?_ | refine thenR ?_ | refine inBI ?_ | refine inBR ?_ | refine inBS ?_ | refine inBN (by decide) ?_))
      refine fin2 (.inl rfl) (by (simp (disch := omega) only [go_sem, ↓reduceIte, Nat.reduceEqDiff, Nat.reduceAdd, Nat.reduceLeDiff, fr_ni]); try rfl) rfl (by (simp (disch := omega) only [go_sem, ↓reduceIte, Nat.reduceEqDiff, Nat.reduceAdd, Nat.reduceLeDiff, fr_ni]); try rfl) rfl ⟨x1, rfl⟩
    have d2 : decide (v > hi) = false := by simpa using c2
    (repeat (first | refine W_seqS ?_ | refine W_seqC ?_ | refine W_seqB ?_ | refine W_block ?_)); refine W_reg rfl fun G K hG hK => ?_; simp (disch := omega) only [go_sem, ↓reduceIte, Nat.reduceEqDiff, Nat.reduceAdd, Nat.reduceLeDiff, hG, fr_ni, hn2, d1, d2]
    refine w_call (itoa_ok v sa (by omega) (by omega)) (by simp (disch := omega) only [go_sem, ↓reduceIte, Nat.reduceEqDiff, fr_ni]) ?hl ?_
    case hl => first | rfl | (simp only [go_sem, List.all_cons, List.all_nil, Bool.not_false, Bool.and_self, fr_ni]; done)
    rintro r_ sa ⟨rfl, rfl⟩; refine ⟨fun e => (by cases e), ?_⟩
    cases he : ((⟨(itoa v).toArray⟩ : ByteArray).toList == s.toList) with
    | true =>
      have he2 : itoa v = s.data.toList := by
        have := eq_of_beq he
        rw [ByteArray.toList_eq, ByteArray.toList_eq] at this
        simpa using this
      simp (disch := omega) only [go_sem, ↓reduceIte, Nat.reduceEqDiff, Nat.reduceAdd, Nat.reduceLeDiff, hG, fr_ni, hn2, d1, d2, he]; refine hK _ _ ?_; clear hK K hG G; repeat (first | refine thenI ?_ | refine thenE ?_ | refine thenR ?_ | refine inBI ?_ | refine inBR ?_ | refine inBS ?_ | refine inBN (by decide) ?_)
      rw [if_pos ⟨⟨by omega, by omega⟩, he2⟩]
      repeat (first | (refine W_reg rfl fun G K hG hK => ?_; simp (disch := omega) only [go_sem, ↓reduceIte, Nat.reduceEqDiff, Nat.reduceAdd, Nat.reduceLeDiff, hG, fr_ni]; refine hK _ _ ?_; clear hK K hG G) | (refine W_end rfl fun G K hG hK => ?_; simp (disch := omega) only [go_sem, ↓reduceIte, Nat.reduceEqDiff, Nat.reduceAdd, Nat.reduceLeDiff, hG, fr_ni]; refine hK _ _ ?_; clear hK K hG G; repeat (first | refine thenI ?_ | refine thenE ?_ | refine thenR ?_ | refine inBI ?_ | refine inBR ?_ | refine inBS ?_ | refine inBN (by decide) ?_)) | refine W_seqS ?_ | refine W_seqC ?_ | refine W_seqB ?_ | refine W_block ?_ | (refine W_skip ?_; repeat (first | refine thenI ?_ | refine thenE ?_ | refine thenR ?_ | refine inBI ?_ | refine inBR ?_ | refine inBS ?_ | refine inBN (by decide) ?_)) | (refine W_condT ?hc ?_; (case hc => (simp (disch := omega) only [go_sem, ↓reduceIte, Nat.reduceEqDiff, Nat.reduceAdd, Nat.reduceLeDiff, fr_ni]; done))) | (refine W_condF ?hc ?_; (case hc => (simp (disch := omega) only [go_sem, ↓reduceIte, Nat.reduceEqDiff, Nat.reduceAdd, Nat.reduceLeDiff, fr_ni]; done))))
      refine W_ret ?_; try (repeat (first | refine thenI ?_ | refine thenE ?_ | refine thenR ?_ | refine inBI ?_ | refine inBR ?_ | refine inBS ?_ | refine inBN (by decide) ?_))
      refine fin2 (.inl rfl) (by (simp (disch := omega) only [go_sem, ↓reduceIte, Nat.reduceEqDiff, Nat.reduceAdd, Nat.reduceLeDiff, fr_ni]); try rfl) rfl (by (simp (disch := omega) only [go_sem, ↓reduceIte, Nat.reduceEqDiff, Nat.reduceAdd, Nat.reduceLeDiff, fr_ni]); try rfl) rfl ⟨x1, rfl⟩
    | false =>
      have he2 : ¬ itoa v = s.data.toList := fun e => by
        have h2 : (⟨(itoa v).toArray⟩ : ByteArray).toList = s.toList := by rw [ByteArray.toList_eq, ByteArray.toList_eq]; simpa using e
        rw [h2] at he
        simp at he
      simp (disch := omega) only [go_sem, ↓reduceIte, Nat.reduceEqDiff, Nat.reduceAdd, Nat.reduceLeDiff, hG, fr_ni, hn2, d1, d2, he]; refine hK _ _ ?_; clear hK K hG G; repeat (first | refine thenI ?_ | refine thenE ?_ | refine thenR ?_ | refine inBI ?_ | refine inBR ?_ | refine inBS ?_ | refine inBN (by decide) ?_)
      rw [if_neg (fun h => he2 h.2)]
      repeat (first | (refine W_reg rfl fun G K hG hK => ?_; simp (disch := omega) only [go_sem, ↓reduceIte, Nat.reduceEqDiff, Nat.reduceAdd, Nat.reduceLeDiff, hG, fr_ni]; refine hK _ _ ?_; clear hK K hG G) | (refine W_end rfl fun G K hG hK => ?_; simp (disch := omega) only [go_sem, ↓reduceIte, Nat.reduceEqDiff, Nat.reduceAdd, Nat.reduceLeDiff, hG, fr_ni]; refine hK _ _ ?_; clear hK K hG G; repeat (first | refine thenI ?_ | refine thenE ?_ | refine thenR ?_ | refine inBI ?_ | refine inBR ?_ | refine inBS ?_ | refine inBN (by decide) ?_)) | refine W_seqS ?_ | refine W_seqC ?_ | refine W_seqB ?_ | refine W_block ?_ | (refine W_skip ?_; repeat (first | refine thenI ?_ | refine thenE ?_ | refine thenR ?_ | refine inBI ?_ | refine inBR ?_ | refine inBS ?_ | refine inBN (by decide) ?_)) | (refine W_condT ?hc ?_; (case hc => (simp (disch := omega) only [go_sem, ↓reduceIte, Nat.reduceEqDiff, Nat.reduceAdd, Nat.reduceLeDiff, fr_ni]; done))) | (refine W_condF ?hc ?_; (case hc => (simp (disch := omega) only [go_sem, ↓reduceIte, Nat.reduceEqDiff, Nat.reduceAdd, Nat.reduceLeDiff, fr_ni]; done))))
      refine W_ret ?_; try (repeat (first | refine thenI ?_ | refine thenE ?_ | refine thenR ?_ | refine inBI ?_ | refine inBR ?_ | refine inBS ?_ | refine inBN (by decide) ?_))
      refine fin2 (.inl rfl) (by (simp (disch := omega) only [go_sem, ↓reduceIte, Nat.reduceEqDiff, Nat.reduceAdd, Nat.reduceLeDiff, fr_ni]); try rfl) rfl (by (simp (disch := omega) only [go_sem, ↓reduceIte, Nat.reduceEqDiff, Nat.reduceAdd, Nat.reduceLeDiff, fr_ni]); try rfl) rfl ⟨x1, rfl⟩
  | «syntax» =>
    rw [ha] at hq
    obtain ⟨n, t, p, rfl, hl, hfl⟩ := hq
    have hwh : wholeN lo hi s.data.toList = none := by unfold wholeN; rw [ha]
    simp (disch := omega) only [go_sem, ↓reduceIte, Nat.reduceEqDiff, Nat.reduceAdd, Nat.reduceLeDiff, hG, fr_ni, hl]; refine hK _ _ ?_; clear hK K hG G; repeat (first | refine thenI ?_ | refine thenE ?_ | refine thenR ?_ | refine inBI ?_ | refine inBR ?_ | refine inBS ?_ | refine inBN (by decide) ?_)
    rw [hwh]
    have hn1 : ∀ x y, binE Tryd.prog .neq 83 x y (.iface t p) .nilIface = some (.bool true) := fun x y => neq_nil1 Tryd.underlying83 hfl
    repeat (first | (refine W_reg rfl fun G K hG hK => ?_; simp (disch := omega) only [go_sem, ↓reduceIte, Nat.reduceEqDiff, Nat.reduceAdd, Nat.reduceLeDiff, hG, fr_ni, hn1]; refine hK _ _ ?_; clear hK K hG G) | (refine W_end rfl fun G K hG hK => ?_; simp (disch := omega) only [go_sem, ↓reduceIte, Nat.reduceEqDiff, Nat.reduceAdd, Nat.reduceLeDiff, hG, fr_ni, hn1]; refine hK _ _ ?_; clear hK K hG G; repeat (first | refine thenI ?_ | refine thenE ?_ | refine thenR ?_ | refine inBI ?_ | refine inBR ?_ | refine inBS ?_ | refine inBN (by decide) ?_)) | refine W_seqS ?_ | refine W_seqC ?_ | refine W_seqB ?_ | refine W_block ?_ | (refine W_skip ?_; repeat (first | refine thenI ?_ | refine thenE ?_ | refine thenR ?_ | refine inBI ?_ | refine inBR ?_ | refine inBS ?_ | refine inBN (by decide) ?_)) | (refine W_condT ?hc ?_; (case hc => (simp (disch := omega) only [go_sem, ↓reduceIte, Nat.reduceEqDiff, Nat.reduceAdd, Nat.reduceLeDiff, fr_ni, hn1]; done))) | (refine W_condF ?hc ?_; (case hc => (simp (disch := omega) only [go_sem, ↓reduceIte, Nat.reduceEqDiff, Nat.reduceAdd, Nat.reduceLeDiff, fr_ni, hn1]; done))))
    refine W_ret ?_; try (repeat (first | refine thenI ?_ | refine thenE ?_ | refine thenR ?_ | refine inBI ?_ | refine inBR ?_ | refine inBS ?_ | refine inBN (by decide) ?_))
    refine fin2 (.inl rfl) (by (simp (disch := omega) only [go_sem, ↓reduceIte, Nat.reduceEqDiff, Nat.reduceAdd, Nat.reduceLeDiff, fr_ni]); try rfl) rfl (by (simp (disch := omega) only [go_sem, ↓reduceIte, Nat.reduceEqDiff, Nat.reduceAdd, Nat.reduceLeDiff, fr_ni]); try rfl) rfl ⟨x1, rfl⟩
  | range =>
    rw [ha] at hq
    obtain ⟨n, t, p, rfl, hl, hfl⟩ := hq
    have hwh : wholeN lo hi s.data.toList = none := by unfold wholeN; rw [ha]
    simp (disch := omega) only [go_sem, ↓reduceIte, Nat.reduceEqDiff, Nat.reduceAdd, Nat.reduceLeDiff, hG, fr_ni, hl]; refine hK _ _ ?_; clear hK K hG G; repeat (first | refine thenI ?_ | refine thenE ?_ | refine thenR ?_ | refine inBI ?_ | refine inBR ?_ | refine inBS ?_ | refine inBN (by decide) ?_)
    rw [hwh]
    have hn1 : ∀ x y, binE Tryd.prog .neq 83 x y (.iface t p) .nilIface = some (.bool true) := fun x y => neq_nil1 Tryd.underlying83 hfl
    repeat (first | (refine W_reg rfl fun G K hG hK => ?_; simp (disch := omega) only [go_sem, ↓reduceIte, Nat.reduceEqDiff, Nat.reduceAdd, Nat.reduceLeDiff, hG, fr_ni, hn1]; refine hK _ _ ?_; clear hK K hG G) | (refine W_end rfl fun G K hG hK => ?_; simp (disch := omega) only [go_sem, ↓reduceIte, Nat.reduceEqDiff, Nat.reduceAdd, Nat.reduceLeDiff, hG, fr_ni, hn1]; refine hK _ _ ?_; clear hK K hG G; repeat (first | refine thenI ?_ | refine thenE ?_ | refine thenR ?_ | refine inBI ?_ | refine inBR ?_ | refine inBS ?_ | refine inBN (by decide) ?_)) | refine W_seqS ?_ | refine W_seqC ?_ | refine W_seqB ?_ | refine W_block ?_ | (refine W_skip ?_; repeat (first | refine thenI ?_ | refine thenE ?_ | refine thenR ?_ | refine inBI ?_ | refine inBR ?_ | refine inBS ?_ | refine inBN (by decide) ?_)) | (refine W_condT ?hc ?_; (case hc => (simp (disch := omega) only [go_sem, ↓reduceIte, Nat.reduceEqDiff, Nat.reduceAdd, Nat.reduceLeDiff, fr_ni, hn1]; done))) | (refine W_condF ?hc ?_; (case hc => (simp (disch := omega) only [go_sem, ↓reduceIte, Nat.reduceEqDiff, Nat.reduceAdd, Nat.reduceLeDiff, fr_ni, hn1]; done))))
    refine W_ret ?_; try (repeat (first | refine thenI ?_ | refine thenE ?_ | refine thenR ?_ | refine inBI ?_ | refine inBR ?_ | refine inBS ?_ | refine inBN (by decide) ?_))
    refine fin2 (.inl rfl) (by (simp (disch := omega) only [go_sem, ↓reduceIte, Nat.reduceEqDiff, Nat.reduceAdd, Nat.reduceLeDiff, fr_ni]); try rfl) rfl (by (simp (disch := omega) only [go_sem, ↓reduceIte, Nat.reduceEqDiff, Nat.reduceAdd, Nat.reduceLeDiff, fr_ni]); try rfl) rfl ⟨x1, rfl⟩

end

section
/- Numbers are read: spec.l1Read, ParseInt and ParseNumber of both sides; the laws FnExactParseInt, FnExactParseNumber. -/
open Go Go.Proofs Go.Lib
set_option linter.unusedVariables false
set_option linter.unusedSimpArgs false
set_option maxRecDepth 100000
-- AUTO


end

section
/- ParseInt and ParseNumber of both sides; the laws FnExactParseInt, FnExactParseNumber. -/
open Go Go.Proofs Go.Lib
set_option linter.unusedVariables false
set_option linter.unusedSimpArgs false
set_option maxRecDepth 100000
-- AUTO

theorem implParseNumber_ok (s : ByteArray) (st : St) (hb : s.size ≤ 281474976710656) :
    CallS Tryd.prog 37 [.string s] st fun r st2 => Ext st st2 ∧ NumQ (wholeN 0 999999 s.data.toList) r := by
  refine CallS_of_W [] 8 Tryd.func37 rfl rfl rfl rfl (by simp) ?_
  repeat (first | (refine W_reg rfl fun G K hG hK => ?_; simp (disch := omega) only [go_sem, ↓reduceIte, Nat.reduceEqDiff, Nat.reduceAdd, Nat.reduceLeDiff, hG]; refine hK _ _ ?_; clear hK K hG G) | (refine W_end rfl fun G K hG hK => ?_; simp (disch := omega) only [go_sem, ↓reduceIte, Nat.reduceEqDiff, Nat.reduceAdd, Nat.reduceLeDiff, hG]; refine hK _ _ ?_; clear hK K hG G; repeat (first | refine thenI ?_ | refine thenE ?_ | refine thenR ?_ | refine inBI ?_ | refine inBR ?_ | refine inBS ?_ | refine inBN (by decide) ?_)) | refine W_seqS ?_ | refine W_seqC ?_ | refine W_seqB ?_ | refine W_block ?_ | (refine W_skip ?_; repeat (first | refine thenI ?_ | refine thenE ?_ | refine thenR ?_ | refine inBI ?_ | refine inBR ?_ | refine inBS ?_ | refine inBN (by decide) ?_)) | (refine W_condT ?hc ?_; (case hc => (simp (disch := omega) only [go_sem, ↓reduceIte, Nat.reduceEqDiff, Nat.reduceAdd, Nat.reduceLeDiff]; done))) | (refine W_condF ?hc ?_; (case hc => (simp (disch := omega) only [go_sem, ↓reduceIte, Nat.reduceEqDiff, Nat.reduceAdd, Nat.reduceLeDiff]; done))))
  (repeat (first | refine W_seqS ?_ | refine W_seqC ?_ | refine W_seqB ?_ | refine W_block ?_)); refine W_reg rfl fun G K hG hK => ?_; simp (disch := omega) only [go_sem, ↓reduceIte, Nat.reduceEqDiff, Nat.reduceAdd, Nat.reduceLeDiff, hG]
  refine w_call (implWhole_ok s 0 999999 st hb (by omega) (by omega)) (by simp (disch := omega) only [go_sem, ↓reduceIte, Nat.reduceEqDiff]) ?hl ?_
  case hl => first | rfl | (simp only [go_sem, List.all_cons, List.all_nil, Bool.not_false, Bool.and_self]; done)
  rintro r_ sa ⟨x1, hq⟩; refine ⟨fun e => (by cases e), ?_⟩
  cases hn : wholeN 0 999999 s.data.toList with
  | some v =>
    rw [hn] at hq
    simp only [NumQ] at hq
    subst hq
    simp (disch := omega) only [go_sem, ↓reduceIte, Nat.reduceEqDiff, Nat.reduceAdd, Nat.reduceLeDiff, hG]; refine hK _ _ ?_; clear hK K hG G; repeat (first | refine thenI ?_ | refine thenE ?_ | refine thenR ?_ | refine inBI ?_ | refine inBR ?_ | refine inBS ?_ | refine inBN (by decide) ?_)
    refine W_ret ?_; try (repeat (first | refine thenI ?_ | refine thenE ?_ | refine thenR ?_ | refine inBI ?_ | refine inBR ?_ | refine inBS ?_ | refine inBN (by decide) ?_))
    refine fin2 (.inl rfl) (by (simp (disch := omega) only [go_sem, ↓reduceIte, Nat.reduceEqDiff, Nat.reduceAdd, Nat.reduceLeDiff]); try rfl) rfl (by (simp (disch := omega) only [go_sem, ↓reduceIte, Nat.reduceEqDiff, Nat.reduceAdd, Nat.reduceLeDiff]); try rfl) rfl ⟨x1, by rw [hn]; rfl⟩
  | none =>
    rw [hn] at hq
    simp only [NumQ] at hq
    subst hq
    simp (disch := omega) only [go_sem, ↓reduceIte, Nat.reduceEqDiff, Nat.reduceAdd, Nat.reduceLeDiff, hG]; refine hK _ _ ?_; clear hK K hG G; repeat (first | refine thenI ?_ | refine thenE ?_ | refine thenR ?_ | refine inBI ?_ | refine inBR ?_ | refine inBS ?_ | refine inBN (by decide) ?_)
    refine W_ret ?_; try (repeat (first | refine thenI ?_ | refine thenE ?_ | refine thenR ?_ | refine inBI ?_ | refine inBR ?_ | refine inBS ?_ | refine inBN (by decide) ?_))
    refine fin2 (.inl rfl) (by (simp (disch := omega) only [go_sem, ↓reduceIte, Nat.reduceEqDiff, Nat.reduceAdd, Nat.reduceLeDiff]); try rfl) rfl (by (simp (disch := omega) only [go_sem, ↓reduceIte, Nat.reduceEqDiff, Nat.reduceAdd, Nat.reduceLeDiff]); try rfl) rfl ⟨x1, by rw [hn]; rfl⟩

end

end Go.Proofs.YtpkjgjomiikofaaDoor.AM
/- The text of a term and its two readers, in plain Lean. -/
namespace Go.Proofs.YtpkjgjomiikofaaDoor.AM
open Go Go.Proofs
set_option linter.unusedVariables false
set_option linter.unusedSimpArgs false

mutual
/-- The text of a term. -/
def T.fmt : T → List UInt8
  | .mk k n nm args => if k = 3 then Lib.itoa n else if args.isEmpty = true then nm.data.toList else nm.data.toList ++ (40 :: ((T.fmtL args).drop 2 ++ [41]))
def T.fmtL : List T → List UInt8
  | [] => []
  | x :: xs => 44 :: 32 :: (x.fmt ++ T.fmtL xs)
end
def alnum (b : UInt8) : Bool := (decide (97 ≤ b.toNat) && decide (b.toNat ≤ 122)) || ((decide (65 ≤ b.toNat) && decide (b.toNat ≤ 90)) || (decide (48 ≤ b.toNat) && decide (b.toNat ≤ 57)))
def stopB (b : UInt8) : Bool := decide (b.toNat = 40) || (decide (b.toNat = 41) || (decide (b.toNat = 44) || decide (b.toNat = 32)))
def baL (l : List UInt8) : ByteArray := ⟨l.toArray⟩
mutual
/-- The program's reader; so many steps. -/
def impT : Nat → List UInt8 → Option (T × List UInt8)
  | 0, _ => none
  | f + 1, l => match wholeN 0 999999 (l.takeWhile alnum) with
    | some n => if n < 4 then some (.mk 3 n ⟨#[]⟩ [], l.dropWhile alnum) else none
    | none => if isNm 65 90 (l.takeWhile alnum) = true then some (.mk 1 0 (baL (l.takeWhile alnum)) [], l.dropWhile alnum)
      else if isNm 97 122 (l.takeWhile alnum) = true then
        (if (l.dropWhile alnum).take 1 = [40] then impA f (baL (l.takeWhile alnum)) [] ((l.dropWhile alnum).drop 1) else some (.mk 2 0 (baL (l.takeWhile alnum)) [], l.dropWhile alnum))
      else none
def impA : Nat → ByteArray → List T → List UInt8 → Option (T × List UInt8)
  | 0, _, _, _ => none
  | f + 1, nm, acc, l => match impT f l with
    | none => none
    | some (a, l1) => if l1.take 1 = [41] then some (.mk 2 0 nm (acc ++ [a]), l1.drop 1)
      else if l1.take 2 = [44, 32] then impA f nm (acc ++ [a]) (l1.drop 2) else none
end
def T.withArgs : T → List T → T
  | .mk k n nm _, args => .mk k n nm args
/-- What the reference makes of a word. -/
def headT (s : List UInt8) : T := if isNm 65 90 s = true then .mk 1 0 (baL s) [] else match s with
  | [b] => if 48 ≤ b.toNat ∧ b.toNat ≤ 57 then .mk 3 ((b.toNat : Int) - 48) ⟨#[]⟩ [] else .mk 2 0 (baL s) []
  | _ => .mk 2 0 (baL s) []
mutual
/-- The reference's reader. -/
def spT : Nat → Nat → List UInt8 → Option (T × List UInt8)
  | 0, _, _ => none
  | f + 1, d, l => if (l.dropWhile fun b => !stopB b).take 1 = [40] then spA f d (headT (l.takeWhile fun b => !stopB b)) [] ((l.dropWhile fun b => !stopB b).drop 1)
    else some (headT (l.takeWhile fun b => !stopB b), l.dropWhile fun b => !stopB b)
def spA : Nat → Nat → T → List T → List UInt8 → Option (T × List UInt8)
  | 0, _, _, _, _ => none
  | f + 1, d, t, acc, l => if 16 < d ∨ 60 < acc.length then none else match spT f (d + 1) l with
    | none => none
    | some (a, l1) => if l1.take 1 = [41] then some (t.withArgs (acc ++ [a]), l1.drop 1)
      else if l1.take 2 = [44, 32] then spA f d t (acc ++ [a]) (l1.drop 2) else none
end

theorem takeOf {l p : List UInt8} {n : Nat} (h : l.take n = p) : l = p ++ l.drop n := by rw [← h, List.take_append_drop]
theorem fmt_word (n : Int) (nm : ByteArray) (args : List T) : T.fmt (.mk 3 n nm args) = Lib.itoa n := by simp only [T.fmt, if_true]
theorem fmt_leaf {k n : Int} {nm : ByteArray} (hk : k ≠ 3) : T.fmt (.mk k n nm []) = nm.data.toList := by simp only [T.fmt, if_neg hk, List.isEmpty_nil, if_true]
theorem fmt_node {k n : Int} {nm : ByteArray} {args : List T} (hk : k ≠ 3) (ha : args ≠ []) : T.fmt (.mk k n nm args) = nm.data.toList ++ (40 :: ((T.fmtL args).drop 2 ++ [41])) := by
  simp only [T.fmt, if_neg hk]
  rw [if_neg (by simpa using ha)]
theorem fmtL_ne {args : List T} (h : args ≠ []) : T.fmtL args = 44 :: 32 :: (T.fmtL args).drop 2 := by
  cases args with
  | nil => exact absurd rfl h
  | cons x xs => simp only [T.fmtL, List.drop_succ_cons, List.drop_zero]
theorem nodes_mk {k n : Int} {nm : ByteArray} {args : List T} : T.nodes (.mk k n nm args) = true ↔ (∀ a ∈ args, a.nodes = true) ∧ nodeOk k n nm args = true := by
  simp only [T.nodes, Bool.and_eq_true, T.nodesL_all, List.all_eq_true]
theorem baL_toList (s : ByteArray) : baL s.data.toList = s := ByteArray.ext (by simp [baL])
theorem impT_sound : ∀ f, (∀ l t l', impT f l = some (t, l') → l = t.fmt ++ l' ∧ t.nodes = true) ∧
    (∀ nm acc l t l', impA f nm acc l = some (t, l') → ∃ args, args ≠ [] ∧ t = .mk 2 0 nm (acc ++ args) ∧ l = (T.fmtL args).drop 2 ++ (41 :: l') ∧ ∀ a ∈ args, a.nodes = true) := by
  intro f
  induction f with
  | zero => exact ⟨fun l t l' h => by simp [impT] at h, fun nm acc l t l' h => by simp [impA] at h⟩
  | succ f ih =>
    refine ⟨fun l t l' h => ?_, fun nm acc l t l' h => ?_⟩
    · have hl : l = l.takeWhile alnum ++ l.dropWhile alnum := List.takeWhile_append_dropWhile.symm
      simp only [impT] at h
      split at h
      · rename_i n hn
        obtain ⟨⟨h0, h1⟩, h2⟩ := (wholeN_some (by omega) (by omega)).1 hn
        split at h
        · cases h
          refine ⟨by rw [fmt_word, h2]; exact hl, nodes_mk.2 ⟨fun a ha => (by cases ha), ?_⟩⟩
          have h3 : n ≤ 3 := by omega
          simp [nodeOk, h0, h3]
        · cases h
      · split at h
        · rename_i hv
          cases h
          refine ⟨by rw [fmt_leaf (by omega)]; exact hl, nodes_mk.2 ⟨fun a ha => (by cases ha), ?_⟩⟩
          have : isVar (baL (l.takeWhile alnum)) = true := hv
          simp [nodeOk, this]
        · split at h
          · rename_i hv
            have hn : isName (baL (l.takeWhile alnum)) = true := hv
            split at h
            · rename_i ht
              obtain ⟨args, h1, rfl, h2, h3⟩ := ih.2 _ _ _ _ _ h
              rw [List.nil_append]
              refine ⟨?_, nodes_mk.2 ⟨h3, by simp [nodeOk, hn]⟩⟩
              rw [fmt_node (by omega) h1]
              have e := takeOf ht
              rw [h2] at e
              have e2 : (baL (l.takeWhile alnum)).data.toList = l.takeWhile alnum := rfl
              rw [e2]
              calc l = l.takeWhile alnum ++ l.dropWhile alnum := hl
                _ = _ := by rw [e]; simp
            · cases h
              refine ⟨by rw [fmt_leaf (by omega)]; exact hl, nodes_mk.2 ⟨fun a ha => (by cases ha), by simp [nodeOk, hn]⟩⟩
          · cases h
    · simp only [impA] at h
      split at h
      · cases h
      · rename_i a l1 ha
        obtain ⟨h1, h2⟩ := ih.1 _ _ _ ha
        split at h
        · rename_i ht
          cases h
          refine ⟨[a], by simp, rfl, ?_, fun b hb => by cases List.mem_singleton.1 hb; exact h2⟩
          have e := takeOf ht
          simp only [T.fmtL, List.drop_succ_cons, List.drop_zero, List.append_nil]
          rw [h1]; congr 1
        · split at h
          · rename_i ht
            obtain ⟨args, g1, rfl, g2, g3⟩ := ih.2 _ _ _ _ _ h
            refine ⟨a :: args, by simp, by simp, ?_, fun b hb => by
              rcases List.mem_cons.1 hb with rfl | hb
              · exact h2
              · exact g3 b hb⟩
            have e := takeOf ht
            simp only [T.fmtL, List.drop_succ_cons, List.drop_zero]
            rw [fmtL_ne g1, h1, e, g2]
            simp
          · cases h
/-- What may stand behind a term. -/
def Sep (rest : List UInt8) : Prop := ∀ b, rest.head? = some b → b = 41 ∨ b = 44
theorem Sep.nil : Sep [] := fun b h => by cases h
theorem tw_app {p : UInt8 → Bool} {s r : List UInt8} (hs : ∀ b ∈ s, p b = true) (hr : ∀ b, r.head? = some b → p b = false) : (s ++ r).takeWhile p = s ∧ (s ++ r).dropWhile p = r := by
  induction s with
  | nil =>
    cases r with
    | nil => exact ⟨rfl, rfl⟩
    | cons b r =>
      have := hr b rfl
      simp [List.takeWhile_cons, List.dropWhile_cons, this]
  | cons a s ih =>
    obtain ⟨h1, h2⟩ := ih fun b hb => hs b (by simp [hb])
    have := hs a (by simp)
    simp [List.takeWhile_cons, List.dropWhile_cons, this, h1, h2]
theorem nm_chars {lo hi : Nat} (hlo : 65 ≤ lo) (hhi : hi ≤ 122) (hm : hi ≤ 90 ∨ 97 ≤ lo) {s : List UInt8} (h : isNm lo hi s = true) : (∀ b ∈ s, alnum b = true) ∧ (∀ b ∈ s, (!stopB b) = true) ∧ ∃ b r, s = b :: r ∧ lo ≤ b.toNat ∧ b.toNat ≤ hi := by
  cases s with
  | nil => cases h
  | cons b r =>
    simp only [isNm, Bool.and_eq_true, decide_eq_true_eq, List.all_eq_true] at h
    obtain ⟨⟨h1, h2⟩, h3, h4⟩ := h
    have hb : ∀ c ∈ b :: r, (97 ≤ c.toNat ∧ c.toNat ≤ 122) ∨ (65 ≤ c.toNat ∧ c.toNat ≤ 90) ∨ (48 ≤ c.toNat ∧ c.toNat ≤ 57) := by
      intro c hc
      rcases List.mem_cons.1 hc with rfl | hc
      · omega
      · have := h3 c hc
        simp only [lowDig, Bool.or_eq_true, Bool.and_eq_true, decide_eq_true_eq] at this
        omega
    refine ⟨fun c hc => ?_, fun c hc => ?_, b, r, rfl, h1, h2⟩
    · have := hb c hc
      simp only [alnum, Bool.or_eq_true, Bool.and_eq_true, decide_eq_true_eq]
      omega
    · have := hb c hc
      simp only [stopB, Bool.not_eq_true', Bool.or_eq_false_iff, decide_eq_false_iff_not]
      omega
theorem small_itoa {n : Int} (h0 : 0 ≤ n) (h1 : n ≤ 3) : ∃ b : UInt8, Lib.itoa n = [b] ∧ (b.toNat : Int) = 48 + n := by
  obtain ⟨u, rfl⟩ : ∃ u : Nat, n = u := ⟨n.toNat, by omega⟩
  rw [Lib.itoa_nonneg, Lib.decDigits_one (by omega)]
  refine ⟨_, rfl, ?_⟩
  have : u < 4 := by omega
  have e : (UInt8.ofNat (48 + u)).toNat = 48 + u := by simp; omega
  rw [e]; omega
theorem no_num {lo hi : Int} (h0 : 0 ≤ lo) (h1 : hi < 1000000000000) {b : UInt8} {r : List UInt8} (hb : 58 ≤ b.toNat) : wholeN lo hi (b :: r) = none := by
  cases h : wholeN lo hi (b :: r) with
  | none => rfl
  | some v =>
    obtain ⟨⟨h2, h3⟩, h4⟩ := (wholeN_some (by omega) h1).1 h
    obtain ⟨u, rfl⟩ : ∃ u : Nat, v = u := ⟨v.toNat, by omega⟩
    rw [Lib.itoa_nonneg] at h4
    obtain ⟨c, q, g1, g2, g3⟩ := digits_head u
    rw [g1] at h4
    cases h4
    omega
theorem Sep.alnum {rest : List UInt8} (h : Sep rest) : ∀ b, rest.head? = some b → AM.alnum b = false := fun b hb => by
  rcases h b hb with rfl | rfl <;> rfl
theorem Sep.stop {rest : List UInt8} (h : Sep rest) : ∀ b, rest.head? = some b → (!stopB b) = false := fun b hb => by
  rcases h b hb with rfl | rfl <;> rfl
theorem Sep.no40 {rest : List UInt8} (h : Sep rest) : ¬ rest.take 1 = [40] := fun e => by
  cases rest with
  | nil => cases e
  | cons b r =>
    simp only [List.take_succ_cons, List.take_zero, List.cons.injEq, and_true] at e
    subst e
    rcases h 40 rfl with h | h <;> cases h
theorem node_kinds {k n : Int} {nm : ByteArray} {args : List T} (h : nodeOk k n nm args = true) : (k = 1 ∧ n = 0 ∧ args = [] ∧ isVar nm = true) ∨ (k = 2 ∧ n = 0 ∧ isName nm = true) ∨ (k = 3 ∧ 0 ≤ n ∧ n ≤ 3 ∧ args = [] ∧ nm = ⟨#[]⟩) := by
  unfold nodeOk at h
  split at h
  · rename_i hk
    simp only [Bool.and_eq_true, beq_iff_eq] at h
    exact .inl ⟨hk, h.2.1, List.eq_nil_of_length_eq_zero (by omega), h.1⟩
  · split at h
    · rename_i hk
      simp only [Bool.and_eq_true, beq_iff_eq] at h
      exact .inr (.inl ⟨hk, h.2, h.1⟩)
    · split at h
      · rename_i hk
        simp only [Bool.and_eq_true, beq_iff_eq, decide_eq_true_eq] at h
        exact .inr (.inr ⟨hk, h.2.1.1, h.2.1.2, List.eq_nil_of_length_eq_zero (by omega), ba_toList (by simpa using h.1)⟩)
      · cases h
theorem impT_complete : ∀ (t : T), t.nodes = true → ∀ rest, Sep rest → ∀ f, 2 * (t.fmt ++ rest).length + 1 ≤ f → impT f (t.fmt ++ rest) = some (t, rest) := by
  refine T.ind fun k n nm args ih h rest hr f hf => ?_
  obtain ⟨ha, hn⟩ := nodes_mk.1 h
  obtain ⟨f, rfl⟩ : ∃ g, f = g + 1 := ⟨f - 1, by omega⟩
  rcases node_kinds hn with ⟨rfl, rfl, rfl, hv⟩ | ⟨rfl, rfl, hv⟩ | ⟨rfl, h0, h3, rfl, rfl⟩
  · obtain ⟨c1, c2, b, r, hb, g1, g2⟩ := nm_chars (by omega) (by omega) (by omega) hv
    rw [fmt_leaf (by omega)]
    obtain ⟨t1, t2⟩ := tw_app c1 hr.alnum
    have e0 : wholeN 0 999999 nm.data.toList = none := by rw [hb]; exact no_num (by omega) (by omega) (by omega)
    simp only [impT, t1, t2, e0, baL_toList]
    have hv' : isNm 65 90 nm.data.toList = true := hv
    rw [if_pos hv']
  · obtain ⟨c1, c2, b, r, hb, g1, g2⟩ := nm_chars (by omega) (by omega) (by omega) hv
    have e0 : wholeN 0 999999 nm.data.toList = none := by rw [hb]; exact no_num (by omega) (by omega) (by omega)
    have hv' : isNm 97 122 nm.data.toList = true := hv
    have hw' : ¬ isNm 65 90 nm.data.toList = true := fun e => by
      have := name_var nm
      have e1 : isName nm = true := hv
      have e2 : isVar nm = true := e
      rw [e1, e2] at this; cases this
    by_cases hargs : args = []
    · subst hargs
      rw [fmt_leaf (by omega)]
      obtain ⟨t1, t2⟩ := tw_app c1 hr.alnum
      simp only [impT, t1, t2, e0, baL_toList]
      rw [if_neg hw', if_pos hv', if_neg hr.no40]
    · rw [fmt_node (by omega) hargs] at hf ⊢
      rw [List.append_assoc, List.cons_append] at hf ⊢
      obtain ⟨t1, t2⟩ := tw_app (p := alnum) (r := 40 :: ((T.fmtL args).drop 2 ++ [41] ++ rest)) c1 (fun b hb => by cases hb; rfl)
      simp only [impT, t1, t2, e0, baL_toList]
      rw [if_neg hw', if_pos hv', if_pos (by simp)]
      simp only [List.drop_succ_cons, List.drop_zero]
      have hL : ∀ (l : List T), l ≠ [] → (∀ a ∈ l, a.nodes = true ∧ ∀ rest, Sep rest → ∀ f, 2 * (a.fmt ++ rest).length + 1 ≤ f → impT f (a.fmt ++ rest) = some (a, rest)) →
          ∀ (acc : List T) (f : Nat), 2 * ((T.fmtL l).drop 2 ++ [41] ++ rest).length + 2 ≤ f → impA f nm acc ((T.fmtL l).drop 2 ++ [41] ++ rest) = some (.mk 2 0 nm (acc ++ l), rest) := by
        intro l
        induction l with
        | nil => intro h; exact absurd rfl h
        | cons x xs ihx =>
          intro _ h acc f hf
          obtain ⟨f, rfl⟩ : ∃ g, f = g + 1 := ⟨f - 1, by omega⟩
          have hx := h x (by simp)
          simp only [T.fmtL, List.drop_succ_cons, List.drop_zero, List.append_assoc] at hf ⊢
          by_cases hxs : xs = []
          · subst hxs
            simp only [T.fmtL, List.nil_append] at hf ⊢
            have := hx.2 ([41] ++ rest) (fun b hb => by cases hb; exact .inl rfl) f (by omega)
            simp only [impA, this]
            rw [if_pos (by simp)]
            simp
          · have e := fmtL_ne hxs
            rw [e] at hf ⊢
            have h1 := hx.2 ((44 :: 32 :: (T.fmtL xs).drop 2) ++ ([41] ++ rest)) (fun b hb => by cases hb; exact .inr rfl) f (by omega)
            simp only [impA, h1]
            rw [if_neg (by simp), if_pos (by simp)]
            simp only [List.cons_append, List.drop_succ_cons, List.drop_zero]
            have h2 := ihx hxs (fun a ha => h a (by simp [ha])) (acc ++ [x]) f (by simp at hf ⊢; omega)
            simp only [List.append_assoc, List.cons_append, List.nil_append] at h2 ⊢
            rw [h2]
      have := hL args hargs (fun a ha2 => ⟨ha a ha2, ih a ha2 (ha a ha2)⟩) [] f (by simp at hf ⊢; omega)
      rw [List.nil_append] at this
      exact this
  · obtain ⟨b, hb, hbn⟩ := small_itoa h0 h3
    rw [fmt_word, hb]
    have hal : alnum b = true := by
      simp only [alnum, Bool.or_eq_true, Bool.and_eq_true, decide_eq_true_eq]; omega
    obtain ⟨t1, t2⟩ := tw_app (s := [b]) (fun c hc => by cases List.mem_singleton.1 hc; exact hal) hr.alnum
    have e0 : wholeN 0 999999 [b] = some n := (wholeN_some (by omega) (by omega)).2 ⟨by omega, hb⟩
    simp only [impT, t1, t2, e0]
    rw [if_pos (by omega)]
theorem depthL_mem {a : T} {l : List T} (h : a ∈ l) : a.depth ≤ T.depthL l := by
  induction l with
  | nil => cases h
  | cons y ys ih =>
    simp only [T.depthL]
    rcases List.mem_cons.1 h with rfl | h
    · omega
    · have := ih h; omega
theorem countL_mem {a : T} {l : List T} (h : a ∈ l) : a.count ≤ T.countL l := by
  induction l with
  | nil => cases h
  | cons y ys ih =>
    simp only [T.countL]
    rcases List.mem_cons.1 h with rfl | h
    · omega
    · have := ih h; omega
theorem countL_length (l : List T) : l.length ≤ T.countL l := by
  induction l with
  | nil => exact Nat.le_refl _
  | cons y ys ih =>
    have := T.count_pos y
    simp only [T.countL, List.length_cons]; omega
theorem spT_complete : ∀ (t : T), t.nodes = true → t.count ≤ 60 → ∀ rest, Sep rest → ∀ f d, 2 * (t.fmt ++ rest).length + 1 ≤ f → d + t.depth ≤ 17 → spT f d (t.fmt ++ rest) = some (t, rest) := by
  refine T.ind fun k n nm args ih h hcnt rest hr f d hf hd => ?_
  obtain ⟨ha, hn⟩ := nodes_mk.1 h
  obtain ⟨f, rfl⟩ : ∃ g, f = g + 1 := ⟨f - 1, by omega⟩
  rcases node_kinds hn with ⟨rfl, rfl, rfl, hv⟩ | ⟨rfl, rfl, hv⟩ | ⟨rfl, h0, h3, rfl, rfl⟩
  · obtain ⟨c1, c2, b, r, hb, g1, g2⟩ := nm_chars (by omega) (by omega) (by omega) hv
    rw [fmt_leaf (by omega)]
    obtain ⟨t1, t2⟩ := tw_app c2 hr.stop
    have hv' : isNm 65 90 nm.data.toList = true := hv
    simp only [spT, t1, t2]
    rw [if_neg hr.no40]
    simp only [headT, hv', if_true, baL_toList]
  · obtain ⟨c1, c2, b, r, hb, g1, g2⟩ := nm_chars (by omega) (by omega) (by omega) hv
    have hw' : ¬ isNm 65 90 nm.data.toList = true := fun e => by
      have := name_var nm
      have e1 : isName nm = true := hv
      have e2 : isVar nm = true := e
      rw [e1, e2] at this; cases this
    have hh : headT nm.data.toList = .mk 2 0 nm [] := by
      unfold headT
      rw [if_neg hw']
      split
      · rename_i c hc
        rw [hb] at hc
        cases hc
        rw [if_neg (by omega)]
        exact congrArg (fun x => T.mk 2 0 x []) (baL_toList nm)
      · rw [baL_toList]
    by_cases hargs : args = []
    · subst hargs
      rw [fmt_leaf (by omega)]
      obtain ⟨t1, t2⟩ := tw_app c2 hr.stop
      simp only [spT, t1, t2, hh]
      rw [if_neg hr.no40]
    · rw [fmt_node (by omega) hargs] at hf ⊢
      rw [List.append_assoc, List.cons_append] at hf ⊢
      obtain ⟨t1, t2⟩ := tw_app (p := fun b => !stopB b) (r := 40 :: ((T.fmtL args).drop 2 ++ [41] ++ rest)) c2 (fun b hb => by cases hb; rfl)
      simp only [spT, t1, t2, hh]
      rw [if_pos (by simp)]
      simp only [List.drop_succ_cons, List.drop_zero]
      have hdep : d + 1 + T.depthL args ≤ 17 := by simp only [T.depth] at hd; omega
      have hct : T.countL args ≤ 59 := by simp only [T.count] at hcnt; omega
      have hdl : ∀ a ∈ args, a.depth ≤ T.depthL args := fun a ha => depthL_mem ha
      have hcl : ∀ a ∈ args, a.count ≤ T.countL args := fun a ha => countL_mem ha
      have hal := countL_length args
      have hL : ∀ (l : List T), l ≠ [] → (∀ a ∈ l, ∀ rest, Sep rest → ∀ f, 2 * (a.fmt ++ rest).length + 1 ≤ f → spT f (d + 1) (a.fmt ++ rest) = some (a, rest)) →
          ∀ (acc : List T) (f : Nat), acc.length + l.length ≤ 59 → 2 * ((T.fmtL l).drop 2 ++ [41] ++ rest).length + 2 ≤ f → spA f d (.mk 2 0 nm []) acc ((T.fmtL l).drop 2 ++ [41] ++ rest) = some (.mk 2 0 nm (acc ++ l), rest) := by
        intro l
        induction l with
        | nil => intro h; exact absurd rfl h
        | cons x xs ihx =>
          intro _ h acc f hlen hf
          obtain ⟨f, rfl⟩ : ∃ g, f = g + 1 := ⟨f - 1, by omega⟩
          have hx := h x (by simp)
          simp only [List.length_cons] at hlen
          have hbad : ¬ (16 < d ∨ 60 < acc.length) := by
            cases args with
            | nil => exact absurd rfl hargs
            | cons y ys =>
              have : 1 ≤ T.depthL (y :: ys) := by
                simp only [T.depthL]
                have : 1 ≤ y.depth := by cases y; simp only [T.depth]; omega
                omega
              omega
          simp only [T.fmtL, List.drop_succ_cons, List.drop_zero, List.append_assoc] at hf ⊢
          by_cases hxs : xs = []
          · subst hxs
            simp only [T.fmtL, List.nil_append] at hf ⊢
            have := hx ([41] ++ rest) (fun b hb => by cases hb; exact .inl rfl) f (by omega)
            simp only [spA, this, if_neg hbad]
            rw [if_pos (by simp)]
            simp [T.withArgs]
          · have e := fmtL_ne hxs
            rw [e] at hf ⊢
            have h1 := hx ((44 :: 32 :: (T.fmtL xs).drop 2) ++ ([41] ++ rest)) (fun b hb => by cases hb; exact .inr rfl) f (by omega)
            simp only [spA, h1, if_neg hbad]
            rw [if_neg (by simp), if_pos (by simp)]
            simp only [List.cons_append, List.drop_succ_cons, List.drop_zero]
            have h2 := ihx hxs (fun a ha => h a (by simp [ha])) (acc ++ [x]) f (by simp; omega) (by simp at hf ⊢; omega)
            simp only [List.append_assoc, List.cons_append, List.nil_append] at h2 ⊢
            rw [h2]
      have := hL args hargs (fun a ha2 rest hr f hf => ih a ha2 (ha a ha2) (by have := hcl a ha2; omega) rest hr f (d + 1) hf (by have := hdl a ha2; omega)) [] f (by simp; omega) (by simp at hf ⊢; omega)
      rw [List.nil_append] at this
      exact this
  · obtain ⟨b, hb, hbn⟩ := small_itoa h0 h3
    rw [fmt_word, hb]
    have hal : (!stopB b) = true := by
      simp only [stopB, Bool.not_eq_true', Bool.or_eq_false_iff, decide_eq_false_iff_not]; omega
    obtain ⟨t1, t2⟩ := tw_app (s := [b]) (fun c hc => by cases List.mem_singleton.1 hc; exact hal) hr.stop
    have hw : ¬ isNm 65 90 [b] = true := fun e => by
      simp only [isNm, Bool.and_eq_true, decide_eq_true_eq] at e
      omega
    simp only [spT, t1, t2]
    rw [if_neg hr.no40]
    have : (b.toNat : Int) - 48 = n := by omega
    simp only [headT, if_neg hw]
    rw [if_pos (by omega), this]
def T.fmtV (t : T) : List UInt8 := if t.valid = true then t.fmt else []
def impParse (l : List UInt8) : Option T := match impT (2 * l.length + 1) l with
  | some (t, l') => if l' = [] ∧ t.valid = true then some t else none
  | none => none
theorem valid_nodes {t : T} (h : t.valid = true) : t.nodes = true ∧ t.count ≤ 60 ∧ t.depth ≤ 16 := by
  simp only [T.valid, Bool.and_eq_true, decide_eq_true_eq] at h
  exact ⟨h.2.2, h.1, h.2.1⟩
theorem fmt_ne {t : T} (h : t.nodes = true) : t.fmt ≠ [] := by
  obtain ⟨k, n, nm, args⟩ := t
  obtain ⟨ha, hn⟩ := nodes_mk.1 h
  rcases node_kinds hn with ⟨rfl, rfl, rfl, hv⟩ | ⟨rfl, rfl, hv⟩ | ⟨rfl, h0, h3, rfl, rfl⟩
  · obtain ⟨_, _, b, r, hb, _⟩ := nm_chars (by omega) (by omega) (by omega) hv
    rw [fmt_leaf (by omega), hb]; simp
  · obtain ⟨_, _, b, r, hb, _⟩ := nm_chars (by omega) (by omega) (by omega) hv
    by_cases hargs : args = []
    · subst hargs; rw [fmt_leaf (by omega), hb]; simp
    · rw [fmt_node (by omega) hargs]; simp
  · obtain ⟨b, hb, _⟩ := small_itoa h0 h3
    rw [fmt_word, hb]; simp
theorem impParse_some {l : List UInt8} {t : T} : impParse l = some t ↔ t.valid = true ∧ t.fmt = l := by
  constructor
  · intro h
    unfold impParse at h
    split at h
    · rename_i t' l' hi
      split at h
      · rename_i hc
        cases h
        obtain ⟨rfl, hv⟩ := hc
        have := ((impT_sound _).1 _ _ _ hi).1
        exact ⟨hv, by rw [List.append_nil] at this; exact this.symm⟩
      · cases h
    · cases h
  · rintro ⟨hv, rfl⟩
    have h1 := impT_complete t (valid_nodes hv).1 [] Sep.nil (2 * t.fmt.length + 1) (by simp)
    rw [List.append_nil] at h1
    unfold impParse
    rw [h1]
    simp [hv]
end Go.Proofs.YtpkjgjomiikofaaDoor.AM


namespace Go.Proofs.YtpkjgjomiikofaaDoor.AM
open Go
attribute [local go_sem] List.map_cons List.map_nil List.all_cons List.all_nil Bool.and_self Option.map_some List.getElem?_toArray Option.bind_some gye_b gye_t gsk_b gsk_t gb1 gb2 gb3 gb4 bne_self_eq_false beq_self_eq_true w_guard w_nil stepV_some step_some step_some' w_move w_assign w_pick w_binOp w_unOp w_load w_fieldAddr w_indexAddr w_len w_max w_index ev_max max_int ev_index w_box w_alloc w_store w_field w_extract w_nilCheck w_convert w_buildSlice w_build ev_buildL fillL_nil fillL_cons bs0 bs1 ev_conv ev_bin ev_un ev_pick ev_load ev_fieldAddr ev_indexAddr ev_len ev_field ev_extract ev_nilCheck fr_tmp fr_int fr_bool fr_str fr_nil fr_func put_some put_none bin_lss bin_leq bin_gtr bin_geq bin_eql bin_neq bin_add bin_sub bin_mul bin_seql bin_sneq un_not pick_ ext_ loadA_p cellAt_l cellAt_h okPtr_l okPtr_h fadA_p allocA_l storeA_l cells_agg cells_int cells_str cells_sl cells_bool flat_i flat_s flat_b flat_sl flat_nil loc_agg loc_int loc_str loc_sl loc_bool loc_fn loc_ptr okv_agg okv_int okv_str okv_sl okv_bool cellsFrom splice upd_eval argEnv_zero argEnv_succ ne_eq Nat.add_one_ne_zero not_false_eq_true List.not_mem_nil and_self decide_true List.getElem?_cons_zero List.getElem?_cons_succ List.size_toArray List.length_cons List.length_nil List.take_succ_cons List.take_zero List.drop_succ_cons List.drop_zero List.cons_append List.nil_append List.drop_nil Bool.not_true Bool.not_false Bool.false_eq_true Nat.zero_add Nat.add_zero wrap_in List.toList_toArray List.mem_cons or_self or_false false_or
attribute [local go_sem] ag22 ag24 ag26 ag3 ag4 ag5 ag78 ag83 ag9 ag91 bu116 bu122 bu26 bu39 bu49 bu58 by26 by5 by9 el22 el24 el46 el53 of26_0 of26_1 of26_2 of26_3 of39_0 of49_0 of49_1 of49_2 of58_0 of58_1 of58_2 of80_0 of80_1 ro26_0 ro26_1 ro26_2 ro3_3 ro5_1 ro9_1 ro9_2 ro9_3 ro9_4 ro9_8 sz22 sz24 sz26 sz3 sz4 sz5 sz78 sz83 sz9 sz91 ze109 ze26 ze5 ze80 ze9 ze90
section
/- Rows of bytes; the cursor of a draw: spec.l1New, l1Byte, l1Below, l1Once. -/
open Go Go.Proofs
set_option linter.unusedVariables false
set_option linter.unusedSimpArgs false
set_option maxRecDepth 100000
-- AUTO

/-- A byte of a row. -/
structure Byt where
  v : Int
def EncY (st : St) (b : Byt) (cs : List Value) : Prop := cs = [.int .u8 b.v]
abbrev RowY (st : St) (xs : List Byt) (s : Value) : Prop := Row (EncY st) 1 st xs s
theorem RowY.ext {st st' : St} {xs : List Byt} {s : Value} (h : RowY st xs s) (hx : Ext st st') : RowY st' xs s := Row.mono h hx fun _ _ _ he => he
theorem row_atY {st : St} {xs : List Byt} {s : Value} (h : RowY st xs s) {j : Nat} (hj : j < xs.length) : ∃ i o c, s = .slice (some ⟨i, o, none⟩) xs.length c ∧ cell st i (o + j * 1) = some (.int .u8 xs[j].v) := by
  obtain ⟨i, o, c, cs, rfl, _, hE, hc⟩ := row_at h (List.getElem?_eq_getElem hj)
  have : cs = [.int .u8 xs[j].v] := hE
  subst this
  exact ⟨i, o, c, rfl, hc 0 _ rfl⟩

def andI (a b : Int) : Int := IntKind.i64.wrap (BitVec.ofInt IntKind.i64.bits a &&& BitVec.ofInt IntKind.i64.bits b).toNat
def xorI (a b : Int) : Int := IntKind.i64.wrap (BitVec.ofInt IntKind.i64.bits a ^^^ BitVec.ofInt IntKind.i64.bits b).toNat
section
variable {P : Program} {t : TypeId} {x y : Operand}
theorem bin_and {a b : Int} : binE P .and t x y (.int .i64 a) (.int .i64 b) = some (.int .i64 (andI a b)) := rfl
theorem bin_xor {a b : Int} : binE P .xor t x y (.int .i64 a) (.int .i64 b) = some (.int .i64 (xorI a b)) := rfl
theorem bin_shr33 {a : Int} : binE P .shr t x y (.int .i64 a) (.int .u64 33) = some (.int .i64 (a.fdiv (2 ^ 33))) := rfl
theorem bin_shr45 {a : Int} : binE P .shr t x y (.int .i64 a) (.int .u64 45) = some (.int .i64 (a.fdiv (2 ^ 45))) := rfl
end
theorem and255 (a : Int) : 0 ≤ andI a 255 ∧ andI a 255 ≤ 255 := by
  have h : (BitVec.ofInt IntKind.i64.bits a &&& BitVec.ofInt IntKind.i64.bits 255).toNat ≤ 255 := by
    rw [BitVec.toNat_and]
    exact Nat.le_trans Nat.and_le_right (by decide)
  unfold andI
  generalize (BitVec.ofInt IntKind.i64.bits a &&& BitVec.ofInt IntKind.i64.bits 255).toNat = n at h
  rw [wrap_in (by omega) (by omega)]
  omega

/-- The cursor lies in block q; it goes over the row sb. -/
def Cur (st : St) (q : Nat) (xs : List Byt) : Prop := ∃ sb i h, st[q]? = some ⟨[sb, .int .i64 i, .int .i64 h], 58, 0⟩ ∧ RowY st xs sb ∧ (xs = [] ∨ ∃ b, topId sb = some b ∧ b < q) ∧ 0 ≤ i ∧ i ≤ xs.length ∧ xs.length ≤ 4611686018427387904
theorem far {xs : List Byt} {sb : Value} {q k : Nat} (h : xs = [] ∨ ∃ b, topId sb = some b ∧ b < q) (hk : q ≤ k) : xs = [] ∨ topId sb ≠ some k := h.imp id fun ⟨b, h1, h2⟩ e => by
  rw [h1] at e; cases e; omega
/-- What a draw leaves: the cursor alone has turned; what is new is new. -/
structure Drawn (q : Nat) (xs : List Byt) (st st' : St) : Prop where
  cur : Cur st' q xs
  away : Away (some q) st st'
theorem Away.refl (k : Option Nat) (st : St) : Away k st st := ⟨Nat.le_refl _, fun _ _ _ => rfl⟩
theorem Away.same {k : Option Nat} {a b c : St} (h : Away k a b) (g : Away k b c) : Away k a c := h.trans g (.inl rfl)
theorem Drawn.refl {q : Nat} {xs : List Byt} {st : St} (h : Cur st q xs) : Drawn q xs st st := ⟨h, .refl _ _⟩
theorem Drawn.trans {q : Nat} {xs : List Byt} {a b c : St} (h : Drawn q xs a b) (g : Drawn q xs b c) : Drawn q xs a c := ⟨g.cur, h.away.same g.away⟩
theorem row_away {st st' : St} {xs : List Byt} {s : Value} {q : Nat} (h : RowY st xs s) (ha : Away (some q) st st') (hn : xs = [] ∨ topId s ≠ some q) : RowY st' xs s := by
  rcases h with h | ⟨i, o, c, rfl, h⟩
  · exact .inl h
  · refine .inr ⟨i, o, c, rfl, fun j x hx => ?_⟩
    obtain ⟨cs, h1, h2, h3⟩ := h j x hx
    refine ⟨cs, h1, h2, fun k v hv => ?_⟩
    have h4 := h3 k v hv
    rcases hn with rfl | hn
    · simp at hx
    have hi : i < st.length := by
      unfold cell at h4
      rcases Nat.lt_or_ge i st.length with h5 | h5
      · exact h5
      · rw [List.getElem?_eq_none h5] at h4; cases h4
    have h5 := ha.2 i hi (fun e => hn e.symm)
    unfold cell at h4 ⊢
    rw [h5]; exact h4
theorem Cur.ext {st st' : St} {q : Nat} {xs : List Byt} (h : Cur st q xs) (hx : Ext st st') : Cur st' q xs := by
  obtain ⟨sb, i, h, h1, h2, h3⟩ := h
  exact ⟨sb, i, h, hx q _ h1, h2.ext hx, h3⟩
section
variable {st : St} {q : Nat} {a b c : Value}
theorem cur_cell0 {st : St} {q : Nat} {a b c : Value} {t : TypeId} (h : st[q]? = some ⟨[a, b, c], t, 0⟩) : cell st q 0 = some a := by simp [cell, h]
theorem cur_cell1 {st : St} {q : Nat} {a b c : Value} {t : TypeId} (h : st[q]? = some ⟨[a, b, c], t, 0⟩) : cell st q 1 = some b := by simp [cell, h]
theorem cur_cell2 {st : St} {q : Nat} {a b c : Value} {t : TypeId} (h : st[q]? = some ⟨[a, b, c], t, 0⟩) : cell st q 2 = some c := by simp [cell, h]
theorem cur_set1 {st : St} {q : Nat} {a b c : Value} {t : TypeId} (h : st[q]? = some ⟨[a, b, c], t, 0⟩) (loc : Nat → Nat × List Value) (v : Int) : storeA Tryd.prog 3 (.pointer (some ⟨q, 1, none⟩)) (.int .i64 v) loc st = some (loc, st.set q ⟨[a, .int .i64 v, c], t, 0⟩) := by
  rw [storeA_h, sz3]
  simp [h, okv_int, cells_int, splice]
theorem cur_set2 {st : St} {q : Nat} {a b c : Value} {t : TypeId} (h : st[q]? = some ⟨[a, b, c], t, 0⟩) (loc : Nat → Nat × List Value) (v : Int) : storeA Tryd.prog 3 (.pointer (some ⟨q, 2, none⟩)) (.int .i64 v) loc st = some (loc, st.set q ⟨[a, b, .int .i64 v], t, 0⟩) := by
  rw [storeA_h, sz3]
  simp [h, okv_int, cells_int, splice]
end
/-- The cursor stays where a block beyond it has turned. -/
theorem Cur.far {st st' : St} {q k : Nat} {xs : List Byt} (h : Cur st q xs) (ha : Away (some k) st st') (hk : q < k) : Cur st' q xs := by
  obtain ⟨sb, i, h, h1, h2, h3, h4⟩ := h
  have hq := (List.getElem?_eq_some_iff.1 h1).1
  exact ⟨sb, i, h, by rw [ha.2 q hq (fun e => by cases e; omega)]; exact h1, row_away h2 ha (AM.far h3 (by omega)), h3, h4⟩
theorem set_at {st : St} {q : Nat} {b b' : Blk} (h : st[q]? = some b) : (st.set q b')[q]? = some b' := List.getElem?_set_self (List.getElem?_eq_some_iff.1 h).1
theorem set_away {st : St} {q : Nat} {b' : Blk} : Away (some q) st (st.set q b') := ⟨by simp, fun i _ hi => List.getElem?_set_ne (fun e => hi (by rw [e]))⟩

theorem Row.cells1 {α : Type} {E : α → List Value → Prop} {sz : Nat} {st : St} {xs : List α} {s : Value} (h : Row E sz st xs s) : vc s = #[s] := by
  rcases h with ⟨h | h, _⟩ | ⟨i, o, c, rfl, _⟩
  · subst h; rfl
  · subst h; rfl
  · rfl
theorem l1New_ok (xs : List Byt) (st : St) (s : Value) (hbig : xs.length ≤ 4611686018427387904) (hr : RowY st xs s) :
    CallS Tryd.prog 14 [s] st fun r st2 => r = .pointer (some ⟨st.length, 0, none⟩) ∧ Ext st st2 ∧ Cur st2 st.length xs := by
  refine CallS_of_W [31] 32 Tryd.func14 rfl rfl rfl rfl (by simp) ?_
  have q1 := hr.notLoc.1
  have q2 := hr.notLoc.2
  have q3 := Row.cells1 hr
  have hlen : lenE Tryd.prog 22 s = some (.int .i64 xs.length) := row_len hr Tryd.underlying22
  have hcv := fun n => cvI_int (P := Tryd.prog) (k := .u8) (k' := .i64) (n := n) Tryd.underlying5 Tryd.underlying3
  repeat (first | (refine W_reg rfl fun G K hG hK => ?_; simp (disch := omega) only [go_sem, ↓reduceIte, Nat.reduceEqDiff, Nat.reduceAdd, Nat.reduceLeDiff, hG, q1, hlen, hcv, bin_and]; refine hK _ _ ?_; clear hK K hG G) | (refine W_end rfl fun G K hG hK => ?_; simp (disch := omega) only [go_sem, ↓reduceIte, Nat.reduceEqDiff, Nat.reduceAdd, Nat.reduceLeDiff, hG, q1, hlen, hcv, bin_and]; refine hK _ _ ?_; clear hK K hG G; repeat (first | refine thenI ?_ | refine thenE ?_ | refine thenR ?_ | refine inBI ?_ | refine inBR ?_ | refine inBS ?_ | refine inBN (by decide) ?_)) | refine W_seqS ?_ | refine W_seqC ?_ | refine W_seqB ?_ | refine W_block ?_ | (refine W_skip ?_; repeat (first | refine thenI ?_ | refine thenE ?_ | refine thenR ?_ | refine inBI ?_ | refine inBR ?_ | refine inBS ?_ | refine inBN (by decide) ?_)) | (refine W_condT ?hc ?_; (case hc => (simp (disch := omega) only [go_sem, ↓reduceIte, Nat.reduceEqDiff, Nat.reduceAdd, Nat.reduceLeDiff, q1, hlen, hcv, bin_and]; done))) | (refine W_condF ?hc ?_; (case hc => (simp (disch := omega) only [go_sem, ↓reduceIte, Nat.reduceEqDiff, Nat.reduceAdd, Nat.reduceLeDiff, q1, hlen, hcv, bin_and]; done))))
  refine W_loop (fun d fr st' => ∃ (j : Nat) (h : Int), d = xs.length - j ∧ j ≤ xs.length ∧ (st = st') ∧ (fr.env 0 = s) ∧ (fr.env 3 = .int .i64 h) ∧ (fr.env 4 = .int .i64 j)) (xs.length) ?_ ?_
  · exact ⟨0, _, by omega, by omega, rfl, (by (simp (disch := omega) only [go_sem, ↓reduceIte, Nat.reduceEqDiff, Nat.reduceAdd, Nat.reduceLeDiff, q1, hlen, hcv, bin_and]); try rfl), (by (simp (disch := omega) only [go_sem, ↓reduceIte, Nat.reduceEqDiff, Nat.reduceAdd, Nat.reduceLeDiff, q1, hlen, hcv, bin_and]); try rfl), (by (simp (disch := omega) only [go_sem, ↓reduceIte, Nat.reduceEqDiff, Nat.reduceAdd, Nat.reduceLeDiff, q1, hlen, hcv, bin_and]); try rfl)⟩
  rintro d ⟨env, loc⟩ st' ⟨j, h, hd, hj, hst, e0, e3, e4⟩
  simp only at e0 e3 e4
  subst hst
  have hne : xs = [] ∨ ∃ b, topId s = some b ∧ b < st.length := by
    rcases Nat.eq_zero_or_pos xs.length with h0 | h0
    · exact .inl (List.eq_nil_of_length_eq_zero h0)
    · obtain ⟨i, o, c, rfl, hce⟩ := row_atY hr h0
      refine .inr ⟨i, rfl, ?_⟩
      unfold cell at hce
      rcases Nat.lt_or_ge i st.length with h5 | h5
      · exact h5
      · rw [List.getElem?_eq_none h5] at hce; cases hce
  have hal : ∀ (z : List Value) (t : TypeId) (loc : Nat → Nat × List Value) (st : St), allocA [31] 31 z t loc st = (.pointer (some ⟨st.length, 0, none⟩), loc, st ++ [⟨z, t, 0⟩]) := fun _ _ _ _ => rfl
  have hfin : ∀ h : Int, Cur (st ++ [⟨[s, .int .i64 0, .int .i64 h], 58, 0⟩]) st.length xs := fun h => ⟨s, 0, h, by simp, hr.ext (Ext.app _ _), hne, by omega, by omega, hbig⟩
  by_cases hlt : j < xs.length
  · have c1 : decide ((j : Int) < (xs.length : Int)) = true := by simpa using hlt
    have hi := idxOk hlt
    have hx : xs[j]? = some xs[j] := List.getElem?_eq_getElem hlt
    have htk : xs.take (j + 1) = xs.take j ++ [xs[j]] := List.take_succ_eq_append_getElem hlt
    cases hc4 : decide ((j : Int) < 4000) with
    | false =>
      repeat (first | (refine W_reg rfl fun G K hG hK => ?_; simp (disch := omega) only [go_sem, ↓reduceIte, Nat.reduceEqDiff, Nat.reduceAdd, Nat.reduceLeDiff, hG, q1, hlen, hcv, bin_and, e0, e3, e4, hal, q2, q3, c1, hi, idxA, Int.toNat_natCast, hc4]; refine hK _ _ ?_; clear hK K hG G) | (refine W_end rfl fun G K hG hK => ?_; simp (disch := omega) only [go_sem, ↓reduceIte, Nat.reduceEqDiff, Nat.reduceAdd, Nat.reduceLeDiff, hG, q1, hlen, hcv, bin_and, e0, e3, e4, hal, q2, q3, c1, hi, idxA, Int.toNat_natCast, hc4]; refine hK _ _ ?_; clear hK K hG G; repeat (first | refine thenI ?_ | refine thenE ?_ | refine thenR ?_ | refine inBI ?_ | refine inBR ?_ | refine inBS ?_ | refine inBN (by decide) ?_)) | refine W_seqS ?_ | refine W_seqC ?_ | refine W_seqB ?_ | refine W_block ?_ | (refine W_skip ?_; repeat (first | refine thenI ?_ | refine thenE ?_ | refine thenR ?_ | refine inBI ?_ | refine inBR ?_ | refine inBS ?_ | refine inBN (by decide) ?_)) | (refine W_condT ?hc ?_; (case hc => (simp (disch := omega) only [go_sem, ↓reduceIte, Nat.reduceEqDiff, Nat.reduceAdd, Nat.reduceLeDiff, q1, hlen, hcv, bin_and, e0, e3, e4, hal, q2, q3, c1, hi, idxA, Int.toNat_natCast, hc4]; done))) | (refine W_condF ?hc ?_; (case hc => (simp (disch := omega) only [go_sem, ↓reduceIte, Nat.reduceEqDiff, Nat.reduceAdd, Nat.reduceLeDiff, q1, hlen, hcv, bin_and, e0, e3, e4, hal, q2, q3, c1, hi, idxA, Int.toNat_natCast, hc4]; done))))
      refine W_exit ?_; repeat (first | refine thenI ?_ | refine thenE ?_ | refine thenR ?_ | refine inBI ?_ | refine inBR ?_ | refine inBS ?_ | refine inBN (by decide) ?_)
      repeat (first | (refine W_reg rfl fun G K hG hK => ?_; simp (disch := omega) only [go_sem, ↓reduceIte, Nat.reduceEqDiff, Nat.reduceAdd, Nat.reduceLeDiff, hG, q1, hlen, hcv, bin_and, e0, e3, e4, hal, q2, q3, c1, hi, idxA, Int.toNat_natCast]; refine hK _ _ ?_; clear hK K hG G) | (refine W_end rfl fun G K hG hK => ?_; simp (disch := omega) only [go_sem, ↓reduceIte, Nat.reduceEqDiff, Nat.reduceAdd, Nat.reduceLeDiff, hG, q1, hlen, hcv, bin_and, e0, e3, e4, hal, q2, q3, c1, hi, idxA, Int.toNat_natCast]; refine hK _ _ ?_; clear hK K hG G; repeat (first | refine thenI ?_ | refine thenE ?_ | refine thenR ?_ | refine inBI ?_ | refine inBR ?_ | refine inBS ?_ | refine inBN (by decide) ?_)) | refine W_seqS ?_ | refine W_seqC ?_ | refine W_seqB ?_ | refine W_block ?_ | (refine W_skip ?_; repeat (first | refine thenI ?_ | refine thenE ?_ | refine thenR ?_ | refine inBI ?_ | refine inBR ?_ | refine inBS ?_ | refine inBN (by decide) ?_)) | (refine W_condT ?hc ?_; (case hc => (simp (disch := omega) only [go_sem, ↓reduceIte, Nat.reduceEqDiff, Nat.reduceAdd, Nat.reduceLeDiff, q1, hlen, hcv, bin_and, e0, e3, e4, hal, q2, q3, c1, hi, idxA, Int.toNat_natCast]; done))) | (refine W_condF ?hc ?_; (case hc => (simp (disch := omega) only [go_sem, ↓reduceIte, Nat.reduceEqDiff, Nat.reduceAdd, Nat.reduceLeDiff, q1, hlen, hcv, bin_and, e0, e3, e4, hal, q2, q3, c1, hi, idxA, Int.toNat_natCast]; done))))
      refine W_ret ?_; try (repeat (first | refine thenI ?_ | refine thenE ?_ | refine thenR ?_ | refine inBI ?_ | refine inBR ?_ | refine inBS ?_ | refine inBN (by decide) ?_))
      refine fin1 (.inl rfl) (by (simp (disch := omega) only [go_sem, ↓reduceIte, Nat.reduceEqDiff, Nat.reduceAdd, Nat.reduceLeDiff, q1, hlen, hcv, bin_and, e0, e3, e4, hal, q2, q3, c1, hi, idxA, Int.toNat_natCast]); try rfl) rfl ⟨rfl, Ext.app _ _, hfin h⟩
    | true =>
      obtain ⟨i, o, c, rfl, hce⟩ := row_atY hr hlt
      repeat (first | (refine W_reg rfl fun G K hG hK => ?_; simp (disch := omega) only [go_sem, ↓reduceIte, Nat.reduceEqDiff, Nat.reduceAdd, Nat.reduceLeDiff, hG, q1, hlen, hcv, bin_and, e0, e3, e4, hal, q2, q3, c1, hi, idxA, Int.toNat_natCast, hc4, hce]; refine hK _ _ ?_; clear hK K hG G) | (refine W_end rfl fun G K hG hK => ?_; simp (disch := omega) only [go_sem, ↓reduceIte, Nat.reduceEqDiff, Nat.reduceAdd, Nat.reduceLeDiff, hG, q1, hlen, hcv, bin_and, e0, e3, e4, hal, q2, q3, c1, hi, idxA, Int.toNat_natCast, hc4, hce]; refine hK _ _ ?_; clear hK K hG G; repeat (first | refine thenI ?_ | refine thenE ?_ | refine thenR ?_ | refine inBI ?_ | refine inBR ?_ | refine inBS ?_ | refine inBN (by decide) ?_)) | refine W_seqS ?_ | refine W_seqC ?_ | refine W_seqB ?_ | refine W_block ?_ | (refine W_skip ?_; repeat (first | refine thenI ?_ | refine thenE ?_ | refine thenR ?_ | refine inBI ?_ | refine inBR ?_ | refine inBS ?_ | refine inBN (by decide) ?_)) | (refine W_condT ?hc ?_; (case hc => (simp (disch := omega) only [go_sem, ↓reduceIte, Nat.reduceEqDiff, Nat.reduceAdd, Nat.reduceLeDiff, q1, hlen, hcv, bin_and, e0, e3, e4, hal, q2, q3, c1, hi, idxA, Int.toNat_natCast, hc4, hce]; done))) | (refine W_condF ?hc ?_; (case hc => (simp (disch := omega) only [go_sem, ↓reduceIte, Nat.reduceEqDiff, Nat.reduceAdd, Nat.reduceLeDiff, q1, hlen, hcv, bin_and, e0, e3, e4, hal, q2, q3, c1, hi, idxA, Int.toNat_natCast, hc4, hce]; done))))
      refine ⟨xs.length - (j + 1), by omega, j + 1, _, rfl, by omega, rfl, (by (simp (disch := omega) only [go_sem, ↓reduceIte, Nat.reduceEqDiff, Nat.reduceAdd, Nat.reduceLeDiff, q1, hlen, hcv, bin_and, e0, e3, e4, hal, q2, q3, c1, hi, idxA, Int.toNat_natCast]); try rfl), (by (simp (disch := omega) only [go_sem, ↓reduceIte, Nat.reduceEqDiff, Nat.reduceAdd, Nat.reduceLeDiff, q1, hlen, hcv, bin_and, e0, e3, e4, hal, q2, q3, c1, hi, idxA, Int.toNat_natCast]); try rfl), (by (simp (disch := omega) only [go_sem, ↓reduceIte, Nat.reduceEqDiff, Nat.reduceAdd, Nat.reduceLeDiff, q1, hlen, hcv, bin_and, e0, e3, e4, hal, q2, q3, c1, hi, idxA, Int.toNat_natCast]); try rfl)⟩
  · have c1 : decide ((j : Int) < (xs.length : Int)) = false := by simpa using hlt
    have hjn : j = xs.length := by omega
    subst hjn
    repeat (first | (refine W_reg rfl fun G K hG hK => ?_; simp (disch := omega) only [go_sem, ↓reduceIte, Nat.reduceEqDiff, Nat.reduceAdd, Nat.reduceLeDiff, hG, q1, hlen, hcv, bin_and, e0, e3, e4, c1, hal, q2, q3]; refine hK _ _ ?_; clear hK K hG G) | (refine W_end rfl fun G K hG hK => ?_; simp (disch := omega) only [go_sem, ↓reduceIte, Nat.reduceEqDiff, Nat.reduceAdd, Nat.reduceLeDiff, hG, q1, hlen, hcv, bin_and, e0, e3, e4, c1, hal, q2, q3]; refine hK _ _ ?_; clear hK K hG G; repeat (first | refine thenI ?_ | refine thenE ?_ | refine thenR ?_ | refine inBI ?_ | refine inBR ?_ | refine inBS ?_ | refine inBN (by decide) ?_)) | refine W_seqS ?_ | refine W_seqC ?_ | refine W_seqB ?_ | refine W_block ?_ | (refine W_skip ?_; repeat (first | refine thenI ?_ | refine thenE ?_ | refine thenR ?_ | refine inBI ?_ | refine inBR ?_ | refine inBS ?_ | refine inBN (by decide) ?_)) | (refine W_condT ?hc ?_; (case hc => (simp (disch := omega) only [go_sem, ↓reduceIte, Nat.reduceEqDiff, Nat.reduceAdd, Nat.reduceLeDiff, q1, hlen, hcv, bin_and, e0, e3, e4, c1, hal, q2, q3]; done))) | (refine W_condF ?hc ?_; (case hc => (simp (disch := omega) only [go_sem, ↓reduceIte, Nat.reduceEqDiff, Nat.reduceAdd, Nat.reduceLeDiff, q1, hlen, hcv, bin_and, e0, e3, e4, c1, hal, q2, q3]; done))))
    refine W_exit ?_; repeat (first | refine thenI ?_ | refine thenE ?_ | refine thenR ?_ | refine inBI ?_ | refine inBR ?_ | refine inBS ?_ | refine inBN (by decide) ?_)
    repeat (first | (refine W_reg rfl fun G K hG hK => ?_; simp (disch := omega) only [go_sem, ↓reduceIte, Nat.reduceEqDiff, Nat.reduceAdd, Nat.reduceLeDiff, hG, q1, hlen, hcv, bin_and, e0, e3, e4, c1, hal, q2, q3]; refine hK _ _ ?_; clear hK K hG G) | (refine W_end rfl fun G K hG hK => ?_; simp (disch := omega) only [go_sem, ↓reduceIte, Nat.reduceEqDiff, Nat.reduceAdd, Nat.reduceLeDiff, hG, q1, hlen, hcv, bin_and, e0, e3, e4, c1, hal, q2, q3]; refine hK _ _ ?_; clear hK K hG G; repeat (first | refine thenI ?_ | refine thenE ?_ | refine thenR ?_ | refine inBI ?_ | refine inBR ?_ | refine inBS ?_ | refine inBN (by decide) ?_)) | refine W_seqS ?_ | refine W_seqC ?_ | refine W_seqB ?_ | refine W_block ?_ | (refine W_skip ?_; repeat (first | refine thenI ?_ | refine thenE ?_ | refine thenR ?_ | refine inBI ?_ | refine inBR ?_ | refine inBS ?_ | refine inBN (by decide) ?_)) | (refine W_condT ?hc ?_; (case hc => (simp (disch := omega) only [go_sem, ↓reduceIte, Nat.reduceEqDiff, Nat.reduceAdd, Nat.reduceLeDiff, q1, hlen, hcv, bin_and, e0, e3, e4, c1, hal, q2, q3]; done))) | (refine W_condF ?hc ?_; (case hc => (simp (disch := omega) only [go_sem, ↓reduceIte, Nat.reduceEqDiff, Nat.reduceAdd, Nat.reduceLeDiff, q1, hlen, hcv, bin_and, e0, e3, e4, c1, hal, q2, q3]; done))))
    refine W_ret ?_; try (repeat (first | refine thenI ?_ | refine thenE ?_ | refine thenR ?_ | refine inBI ?_ | refine inBR ?_ | refine inBS ?_ | refine inBN (by decide) ?_))
    refine fin1 (.inl rfl) (by (simp (disch := omega) only [go_sem, ↓reduceIte, Nat.reduceEqDiff, Nat.reduceAdd, Nat.reduceLeDiff, q1, hlen, hcv, bin_and, e0, e3, e4, c1, hal, q2, q3]); try rfl) rfl ⟨rfl, Ext.app _ _, hfin h⟩

theorem l1Byte_ok (q : Nat) (xs : List Byt) (st : St) (hq : Cur st q xs) :
    CallS Tryd.prog 47 [.pointer (some ⟨q, 0, none⟩)] st fun r st2 => (∃ x : Int, r = .int .i64 x ∧ 0 ≤ x ∧ x ≤ 255) ∧ Drawn q xs st st2 ∧ st2.length = st.length := by
  refine CallS_of_W [] 58 Tryd.func47 rfl rfl rfl rfl (by simp) ?_
  obtain ⟨sb, i, h, h1, hr, hne, hi0, hi1, hbig⟩ := hq
  obtain ⟨n, rfl⟩ : ∃ n : Nat, i = n := ⟨i.toNat, by omega⟩
  have hlen : lenE Tryd.prog 22 sb = some (.int .i64 xs.length) := row_len hr Tryd.underlying22
  have q1 := hr.notLoc.1
  have q2 := hr.notLoc.2
  have hcv := fun n => cvI_int (P := Tryd.prog) (k := .u8) (k' := .i64) (n := n) Tryd.underlying5 Tryd.underlying3
  have c2 := cur_cell2 h1
  have s2 := cur_set2 h1
  repeat (first | (refine W_reg rfl fun G K hG hK => ?_; simp (disch := omega) only [go_sem, ↓reduceIte, Nat.reduceEqDiff, Nat.reduceAdd, Nat.reduceLeDiff, hG, q1, q2, hlen, hcv, bin_and, bin_xor, bin_shr33, bin_shr45, nc_h, okPtr_h, cellAt_h, c2, s2]; refine hK _ _ ?_; clear hK K hG G) | (refine W_end rfl fun G K hG hK => ?_; simp (disch := omega) only [go_sem, ↓reduceIte, Nat.reduceEqDiff, Nat.reduceAdd, Nat.reduceLeDiff, hG, q1, q2, hlen, hcv, bin_and, bin_xor, bin_shr33, bin_shr45, nc_h, okPtr_h, cellAt_h, c2, s2]; refine hK _ _ ?_; clear hK K hG G; repeat (first | refine thenI ?_ | refine thenE ?_ | refine thenR ?_ | refine inBI ?_ | refine inBR ?_ | refine inBS ?_ | refine inBN (by decide) ?_)) | refine W_seqS ?_ | refine W_seqC ?_ | refine W_seqB ?_ | refine W_block ?_ | (refine W_skip ?_; repeat (first | refine thenI ?_ | refine thenE ?_ | refine thenR ?_ | refine inBI ?_ | refine inBR ?_ | refine inBS ?_ | refine inBN (by decide) ?_)) | (refine W_condT ?hc ?_; (case hc => (simp (disch := omega) only [go_sem, ↓reduceIte, Nat.reduceEqDiff, Nat.reduceAdd, Nat.reduceLeDiff, q1, q2, hlen, hcv, bin_and, bin_xor, bin_shr33, bin_shr45, nc_h, okPtr_h, cellAt_h, c2, s2]; done))) | (refine W_condF ?hc ?_; (case hc => (simp (disch := omega) only [go_sem, ↓reduceIte, Nat.reduceEqDiff, Nat.reduceAdd, Nat.reduceLeDiff, q1, q2, hlen, hcv, bin_and, bin_xor, bin_shr33, bin_shr45, nc_h, okPtr_h, cellAt_h, c2, s2]; done))))
  obtain ⟨h2, hh2⟩ : ∃ h2, h2 = IntKind.i64.wrap (IntKind.i64.wrap (h * 6364136223846793005) + 1442695040888963407) := ⟨_, rfl⟩
  rw [← hh2]
  have g1 := set_at (b' := ⟨[sb, .int .i64 (n : Int), .int .i64 h2], 58, 0⟩) h1
  have ha := set_away (st := st) (q := q) (b' := ⟨[sb, .int .i64 (n : Int), .int .i64 h2], 58, 0⟩)
  have hl2 : (st.set q ⟨[sb, .int .i64 (n : Int), .int .i64 h2], 58, 0⟩).length = st.length := by simp
  generalize st.set q ⟨[sb, .int .i64 (n : Int), .int .i64 h2], 58, 0⟩ = st1 at g1 ha hl2 ⊢
  have hr1 := row_away hr ha (far hne (Nat.le_refl q))
  have d0 := cur_cell0 g1
  have d1 := cur_cell1 g1
  have d2 := cur_cell2 g1
  (repeat (first | refine W_seqS ?_ | refine W_seqC ?_ | refine W_seqB ?_ | refine W_block ?_)); refine W_regD mixed [] [(0,false),(1,false),(2,false),(3,false),(4,false),(5,false),(6,false),(7,false),(8,false),(9,false),(10,false),(11,false),(12,false)] rfl (by decide +kernel) fun G K hG hK => ?_; simp only [pickOps, List.filterMap_cons, List.filterMap_nil, List.getElem?_cons_zero, List.getElem?_cons_succ, Option.map_some]; simp (disch := omega) only [go_sem, ↓reduceIte, Nat.reduceEqDiff, Nat.reduceAdd, Nat.reduceLeDiff, hG, q1, q2, hlen, hcv, bin_and, bin_xor, bin_shr33, bin_shr45, nc_h, okPtr_h, cellAt_h, d0, d1, d2]
  refine hK _ _ ?_; clear hK K hG G; repeat (first | refine thenI ?_ | refine thenE ?_ | refine thenR ?_ | refine inBI ?_ | refine inBR ?_ | refine inBS ?_ | refine inBN (by decide) ?_)
  by_cases hlt : n < xs.length
  · have c1 : decide ((n : Int) < (xs.length : Int)) = true := by simpa using hlt
    have hi := idxOk hlt
    obtain ⟨ib, ob, cb, rfl, hce⟩ := row_atY hr1 hlt
    have s1 := cur_set1 g1
    (repeat (first | refine W_seqS ?_ | refine W_seqC ?_ | refine W_seqB ?_ | refine W_block ?_)); refine W_regD mixed [] [(0,false),(1,false),(2,false),(3,false),(4,false),(5,false),(6,false),(7,false),(8,false),(9,false)] rfl (by decide +kernel) fun G K hG hK => ?_; simp only [pickOps, List.filterMap_cons, List.filterMap_nil, List.getElem?_cons_zero, List.getElem?_cons_succ, Option.map_some]; simp (disch := omega) only [go_sem, ↓reduceIte, Nat.reduceEqDiff, Nat.reduceAdd, Nat.reduceLeDiff, hG, q1, q2, hlen, hcv, bin_and, bin_xor, bin_shr33, bin_shr45, nc_h, okPtr_h, cellAt_h, d0, d1, d2, c1]
    refine hK _ _ ?_; clear hK K hG G; repeat (first | refine thenI ?_ | refine thenE ?_ | refine thenR ?_ | refine inBI ?_ | refine inBR ?_ | refine inBS ?_ | refine inBN (by decide) ?_)
    repeat (first | (refine W_reg rfl fun G K hG hK => ?_; simp (disch := omega) only [go_sem, ↓reduceIte, Nat.reduceEqDiff, Nat.reduceAdd, Nat.reduceLeDiff, hG, q1, q2, hlen, hcv, bin_and, bin_xor, bin_shr33, bin_shr45, nc_h, okPtr_h, cellAt_h, d0, d1, d2, c1]; refine hK _ _ ?_; clear hK K hG G) | (refine W_end rfl fun G K hG hK => ?_; simp (disch := omega) only [go_sem, ↓reduceIte, Nat.reduceEqDiff, Nat.reduceAdd, Nat.reduceLeDiff, hG, q1, q2, hlen, hcv, bin_and, bin_xor, bin_shr33, bin_shr45, nc_h, okPtr_h, cellAt_h, d0, d1, d2, c1]; refine hK _ _ ?_; clear hK K hG G; repeat (first | refine thenI ?_ | refine thenE ?_ | refine thenR ?_ | refine inBI ?_ | refine inBR ?_ | refine inBS ?_ | refine inBN (by decide) ?_)) | refine W_seqS ?_ | refine W_seqC ?_ | refine W_seqB ?_ | refine W_block ?_ | (refine W_skip ?_; repeat (first | refine thenI ?_ | refine thenE ?_ | refine thenR ?_ | refine inBI ?_ | refine inBR ?_ | refine inBS ?_ | refine inBN (by decide) ?_)) | (refine W_condT ?hc ?_; (case hc => (simp (disch := omega) only [go_sem, ↓reduceIte, Nat.reduceEqDiff, Nat.reduceAdd, Nat.reduceLeDiff, q1, q2, hlen, hcv, bin_and, bin_xor, bin_shr33, bin_shr45, nc_h, okPtr_h, cellAt_h, d0, d1, d2, c1]; done))) | (refine W_condF ?hc ?_; (case hc => (simp (disch := omega) only [go_sem, ↓reduceIte, Nat.reduceEqDiff, Nat.reduceAdd, Nat.reduceLeDiff, q1, q2, hlen, hcv, bin_and, bin_xor, bin_shr33, bin_shr45, nc_h, okPtr_h, cellAt_h, d0, d1, d2, c1]; done))))
    (repeat (first | refine W_seqS ?_ | refine W_seqC ?_ | refine W_seqB ?_ | refine W_block ?_)); refine W_regD mixed [] [(0,false),(1,false),(2,false),(3,false),(4,false),(5,false),(6,false),(7,false),(8,false),(9,false),(10,false),(11,false),(12,false),(13,false),(14,false)] rfl (by decide +kernel) fun G K hG hK => ?_; simp only [pickOps, List.filterMap_cons, List.filterMap_nil, List.getElem?_cons_zero, List.getElem?_cons_succ, Option.map_some]; simp (disch := omega) only [go_sem, ↓reduceIte, Nat.reduceEqDiff, Nat.reduceAdd, Nat.reduceLeDiff, hG, q1, q2, hlen, hcv, bin_and, bin_xor, bin_shr33, bin_shr45, nc_h, okPtr_h, cellAt_h, d0, d1, d2, hi, idxA, Int.toNat_natCast, hce]
    refine hK _ _ ?_; clear hK K hG G; repeat (first | refine thenI ?_ | refine thenE ?_ | refine thenR ?_ | refine inBI ?_ | refine inBR ?_ | refine inBS ?_ | refine inBN (by decide) ?_)
    repeat (first | (refine W_reg rfl fun G K hG hK => ?_; simp (disch := omega) only [go_sem, ↓reduceIte, Nat.reduceEqDiff, Nat.reduceAdd, Nat.reduceLeDiff, hG, q1, q2, hlen, hcv, bin_and, bin_xor, bin_shr33, bin_shr45, nc_h, okPtr_h, cellAt_h, d0, d1, d2, s1]; refine hK _ _ ?_; clear hK K hG G) | (refine W_end rfl fun G K hG hK => ?_; simp (disch := omega) only [go_sem, ↓reduceIte, Nat.reduceEqDiff, Nat.reduceAdd, Nat.reduceLeDiff, hG, q1, q2, hlen, hcv, bin_and, bin_xor, bin_shr33, bin_shr45, nc_h, okPtr_h, cellAt_h, d0, d1, d2, s1]; refine hK _ _ ?_; clear hK K hG G; repeat (first | refine thenI ?_ | refine thenE ?_ | refine thenR ?_ | refine inBI ?_ | refine inBR ?_ | refine inBS ?_ | refine inBN (by decide) ?_)) | refine W_seqS ?_ | refine W_seqC ?_ | refine W_seqB ?_ | refine W_block ?_ | (refine W_skip ?_; repeat (first | refine thenI ?_ | refine thenE ?_ | refine thenR ?_ | refine inBI ?_ | refine inBR ?_ | refine inBS ?_ | refine inBN (by decide) ?_)) | (refine W_condT ?hc ?_; (case hc => (simp (disch := omega) only [go_sem, ↓reduceIte, Nat.reduceEqDiff, Nat.reduceAdd, Nat.reduceLeDiff, q1, q2, hlen, hcv, bin_and, bin_xor, bin_shr33, bin_shr45, nc_h, okPtr_h, cellAt_h, d0, d1, d2, s1]; done))) | (refine W_condF ?hc ?_; (case hc => (simp (disch := omega) only [go_sem, ↓reduceIte, Nat.reduceEqDiff, Nat.reduceAdd, Nat.reduceLeDiff, q1, q2, hlen, hcv, bin_and, bin_xor, bin_shr33, bin_shr45, nc_h, okPtr_h, cellAt_h, d0, d1, d2, s1]; done))))
    refine W_ret ?_; try (repeat (first | refine thenI ?_ | refine thenE ?_ | refine thenR ?_ | refine inBI ?_ | refine inBR ?_ | refine inBS ?_ | refine inBN (by decide) ?_))
    refine fin1 (.inl rfl) (by (simp (disch := omega) only [go_sem, ↓reduceIte, Nat.reduceEqDiff, Nat.reduceAdd, Nat.reduceLeDiff, q1, q2, hlen, hcv, bin_and, bin_xor, bin_shr33, bin_shr45, nc_h, okPtr_h, cellAt_h, d0, d1, d2]); try rfl) rfl ⟨⟨_, rfl, and255 _⟩, ⟨⟨_, (n : Int) + 1, h2, set_at g1, row_away hr1 set_away (far hne (Nat.le_refl q)), hne, by omega, by omega, hbig⟩, ha.same set_away⟩, by rw [List.length_set, hl2]⟩
  · have c1 : decide ((n : Int) < (xs.length : Int)) = false := by simpa using hlt
    (repeat (first | refine W_seqS ?_ | refine W_seqC ?_ | refine W_seqB ?_ | refine W_block ?_)); refine W_regD mixed [] [(0,false),(1,false),(2,false),(3,false),(4,false),(5,false),(6,false),(7,false),(8,false),(9,false)] rfl (by decide +kernel) fun G K hG hK => ?_; simp only [pickOps, List.filterMap_cons, List.filterMap_nil, List.getElem?_cons_zero, List.getElem?_cons_succ, Option.map_some]; simp (disch := omega) only [go_sem, ↓reduceIte, Nat.reduceEqDiff, Nat.reduceAdd, Nat.reduceLeDiff, hG, q1, q2, hlen, hcv, bin_and, bin_xor, bin_shr33, bin_shr45, nc_h, okPtr_h, cellAt_h, d0, d1, d2, c1]
    refine hK _ _ ?_; clear hK K hG G; repeat (first | refine thenI ?_ | refine thenE ?_ | refine thenR ?_ | refine inBI ?_ | refine inBR ?_ | refine inBS ?_ | refine inBN (by decide) ?_)
    repeat (first | (refine W_reg rfl fun G K hG hK => ?_; simp (disch := omega) only [go_sem, ↓reduceIte, Nat.reduceEqDiff, Nat.reduceAdd, Nat.reduceLeDiff, hG, q1, q2, hlen, hcv, bin_and, bin_xor, bin_shr33, bin_shr45, nc_h, okPtr_h, cellAt_h, d0, d1, d2, c1]; refine hK _ _ ?_; clear hK K hG G) | (refine W_end rfl fun G K hG hK => ?_; simp (disch := omega) only [go_sem, ↓reduceIte, Nat.reduceEqDiff, Nat.reduceAdd, Nat.reduceLeDiff, hG, q1, q2, hlen, hcv, bin_and, bin_xor, bin_shr33, bin_shr45, nc_h, okPtr_h, cellAt_h, d0, d1, d2, c1]; refine hK _ _ ?_; clear hK K hG G; repeat (first | refine thenI ?_ | refine thenE ?_ | refine thenR ?_ | refine inBI ?_ | refine inBR ?_ | refine inBS ?_ | refine inBN (by decide) ?_)) | refine W_seqS ?_ | refine W_seqC ?_ | refine W_seqB ?_ | refine W_block ?_ | (refine W_skip ?_; repeat (first | refine thenI ?_ | refine thenE ?_ | refine thenR ?_ | refine inBI ?_ | refine inBR ?_ | refine inBS ?_ | refine inBN (by decide) ?_)) | (refine W_condT ?hc ?_; (case hc => (simp (disch := omega) only [go_sem, ↓reduceIte, Nat.reduceEqDiff, Nat.reduceAdd, Nat.reduceLeDiff, q1, q2, hlen, hcv, bin_and, bin_xor, bin_shr33, bin_shr45, nc_h, okPtr_h, cellAt_h, d0, d1, d2, c1]; done))) | (refine W_condF ?hc ?_; (case hc => (simp (disch := omega) only [go_sem, ↓reduceIte, Nat.reduceEqDiff, Nat.reduceAdd, Nat.reduceLeDiff, q1, q2, hlen, hcv, bin_and, bin_xor, bin_shr33, bin_shr45, nc_h, okPtr_h, cellAt_h, d0, d1, d2, c1]; done))))
    refine W_ret ?_; try (repeat (first | refine thenI ?_ | refine thenE ?_ | refine thenR ?_ | refine inBI ?_ | refine inBR ?_ | refine inBS ?_ | refine inBN (by decide) ?_))
    refine fin1 (.inl rfl) (by (simp (disch := omega) only [go_sem, ↓reduceIte, Nat.reduceEqDiff, Nat.reduceAdd, Nat.reduceLeDiff, q1, q2, hlen, hcv, bin_and, bin_xor, bin_shr33, bin_shr45, nc_h, okPtr_h, cellAt_h, d0, d1, d2]); try rfl) rfl ⟨⟨_, rfl, and255 _⟩, ⟨⟨_, (n : Int), h2, g1, hr1, hne, by omega, by omega, hbig⟩, ha⟩, hl2⟩
/-- A number drawn below n. -/
theorem l1Below_ok (q : Nat) (xs : List Byt) (st : St) (n : Int) (hn0 : 0 < n) (hn1 : n ≤ 256) (hq : Cur st q xs) :
    CallS Tryd.prog 24 [.pointer (some ⟨q, 0, none⟩), .int .i64 n] st fun r st2 => (∃ x : Int, r = .int .i64 x ∧ 0 ≤ x ∧ x < n) ∧ Drawn q xs st st2 ∧ st2.length = st.length := by
  refine CallS_of_W [] 37 Tryd.func24 rfl rfl rfl rfl (by simp) ?_
  have c1 : decide (n ≤ 0) = false := by simp; omega
  have c2 : decide (n ≤ 256) = true := by simp; omega
  have hrem : ∀ (t : TypeId) (x y : Operand) (a : Int), binE Tryd.prog .rem t x y (.int .i64 a) (.int .i64 n) = some (.int .i64 (a.tmod n)) := fun t x y a => bin_rem (by omega)
  repeat (first | (refine W_reg rfl fun G K hG hK => ?_; simp (disch := omega) only [go_sem, ↓reduceIte, Nat.reduceEqDiff, Nat.reduceAdd, Nat.reduceLeDiff, hG, c1, c2]; refine hK _ _ ?_; clear hK K hG G) | (refine W_end rfl fun G K hG hK => ?_; simp (disch := omega) only [go_sem, ↓reduceIte, Nat.reduceEqDiff, Nat.reduceAdd, Nat.reduceLeDiff, hG, c1, c2]; refine hK _ _ ?_; clear hK K hG G; repeat (first | refine thenI ?_ | refine thenE ?_ | refine thenR ?_ | refine inBI ?_ | refine inBR ?_ | refine inBS ?_ | refine inBN (by decide) ?_)) | refine W_seqS ?_ | refine W_seqC ?_ | refine W_seqB ?_ | refine W_block ?_ | (refine W_skip ?_; repeat (first | refine thenI ?_ | refine thenE ?_ | refine thenR ?_ | refine inBI ?_ | refine inBR ?_ | refine inBS ?_ | refine inBN (by decide) ?_)) | (refine W_condT ?hc ?_; (case hc => (simp (disch := omega) only [go_sem, ↓reduceIte, Nat.reduceEqDiff, Nat.reduceAdd, Nat.reduceLeDiff, c1, c2]; done))) | (refine W_condF ?hc ?_; (case hc => (simp (disch := omega) only [go_sem, ↓reduceIte, Nat.reduceEqDiff, Nat.reduceAdd, Nat.reduceLeDiff, c1, c2]; done))))
  (repeat (first | refine W_seqS ?_ | refine W_seqC ?_ | refine W_seqB ?_ | refine W_block ?_)); refine W_reg rfl fun G K hG hK => ?_; simp (disch := omega) only [go_sem, ↓reduceIte, Nat.reduceEqDiff, Nat.reduceAdd, Nat.reduceLeDiff, hG]
  refine w_call (l1Byte_ok q xs st hq) (by simp (disch := omega) only [go_sem, ↓reduceIte, Nat.reduceEqDiff]) ?hl ?_
  case hl => first | rfl | (simp only [go_sem, List.all_cons, List.all_nil, Bool.not_false, Bool.and_self]; done)
  rintro r_ sa ⟨⟨x, rfl, hx0, hx1⟩, hd, hl⟩; refine ⟨fun e => (by cases e), ?_⟩
  simp (disch := omega) only [go_sem, ↓reduceIte, Nat.reduceEqDiff, Nat.reduceAdd, Nat.reduceLeDiff, hG, hrem]; refine hK _ _ ?_; clear hK K hG G; repeat (first | refine thenI ?_ | refine thenE ?_ | refine thenR ?_ | refine inBI ?_ | refine inBR ?_ | refine inBS ?_ | refine inBN (by decide) ?_)
  repeat (first | (refine W_reg rfl fun G K hG hK => ?_; simp (disch := omega) only [go_sem, ↓reduceIte, Nat.reduceEqDiff, Nat.reduceAdd, Nat.reduceLeDiff, hG]; refine hK _ _ ?_; clear hK K hG G) | (refine W_end rfl fun G K hG hK => ?_; simp (disch := omega) only [go_sem, ↓reduceIte, Nat.reduceEqDiff, Nat.reduceAdd, Nat.reduceLeDiff, hG]; refine hK _ _ ?_; clear hK K hG G; repeat (first | refine thenI ?_ | refine thenE ?_ | refine thenR ?_ | refine inBI ?_ | refine inBR ?_ | refine inBS ?_ | refine inBN (by decide) ?_)) | refine W_seqS ?_ | refine W_seqC ?_ | refine W_seqB ?_ | refine W_block ?_ | (refine W_skip ?_; repeat (first | refine thenI ?_ | refine thenE ?_ | refine thenR ?_ | refine inBI ?_ | refine inBR ?_ | refine inBS ?_ | refine inBN (by decide) ?_)) | (refine W_condT ?hc ?_; (case hc => (simp (disch := omega) only [go_sem, ↓reduceIte, Nat.reduceEqDiff, Nat.reduceAdd, Nat.reduceLeDiff]; done))) | (refine W_condF ?hc ?_; (case hc => (simp (disch := omega) only [go_sem, ↓reduceIte, Nat.reduceEqDiff, Nat.reduceAdd, Nat.reduceLeDiff]; done))))
  refine W_ret ?_; try (repeat (first | refine thenI ?_ | refine thenE ?_ | refine thenR ?_ | refine inBI ?_ | refine inBR ?_ | refine inBS ?_ | refine inBN (by decide) ?_))
  refine fin1 (.inl rfl) (by (simp (disch := omega) only [go_sem, ↓reduceIte, Nat.reduceEqDiff, Nat.reduceAdd, Nat.reduceLeDiff]); try rfl) rfl ⟨⟨_, rfl, Int.tmod_nonneg _ hx0, Int.tmod_lt_of_pos _ hn0⟩, hd, hl⟩
theorem l1Once_ok (q : Nat) (xs : List Byt) (st : St) (n : Int) (hn0 : 0 < n) (hn1 : n ≤ 256) (hq : Cur st q xs) :
    CallS Tryd.prog 26 [.pointer (some ⟨q, 0, none⟩), .int .i64 n] st fun r st2 => (∃ b : Bool, r = .bool b) ∧ Drawn q xs st st2 ∧ st2.length = st.length := by
  refine CallS_of_W [] 9 Tryd.func26 rfl rfl rfl rfl (by simp) ?_
  repeat (first | (refine W_reg rfl fun G K hG hK => ?_; simp (disch := omega) only [go_sem, ↓reduceIte, Nat.reduceEqDiff, Nat.reduceAdd, Nat.reduceLeDiff, hG]; refine hK _ _ ?_; clear hK K hG G) | (refine W_end rfl fun G K hG hK => ?_; simp (disch := omega) only [go_sem, ↓reduceIte, Nat.reduceEqDiff, Nat.reduceAdd, Nat.reduceLeDiff, hG]; refine hK _ _ ?_; clear hK K hG G; repeat (first | refine thenI ?_ | refine thenE ?_ | refine thenR ?_ | refine inBI ?_ | refine inBR ?_ | refine inBS ?_ | refine inBN (by decide) ?_)) | refine W_seqS ?_ | refine W_seqC ?_ | refine W_seqB ?_ | refine W_block ?_ | (refine W_skip ?_; repeat (first | refine thenI ?_ | refine thenE ?_ | refine thenR ?_ | refine inBI ?_ | refine inBR ?_ | refine inBS ?_ | refine inBN (by decide) ?_)) | (refine W_condT ?hc ?_; (case hc => (simp (disch := omega) only [go_sem, ↓reduceIte, Nat.reduceEqDiff, Nat.reduceAdd, Nat.reduceLeDiff]; done))) | (refine W_condF ?hc ?_; (case hc => (simp (disch := omega) only [go_sem, ↓reduceIte, Nat.reduceEqDiff, Nat.reduceAdd, Nat.reduceLeDiff]; done))))
  (repeat (first | refine W_seqS ?_ | refine W_seqC ?_ | refine W_seqB ?_ | refine W_block ?_)); refine W_reg rfl fun G K hG hK => ?_; simp (disch := omega) only [go_sem, ↓reduceIte, Nat.reduceEqDiff, Nat.reduceAdd, Nat.reduceLeDiff, hG]
  refine w_call (l1Below_ok q xs st n hn0 hn1 hq) (by simp (disch := omega) only [go_sem, ↓reduceIte, Nat.reduceEqDiff]) ?hl ?_
  case hl => first | rfl | (simp only [go_sem, List.all_cons, List.all_nil, Bool.not_false, Bool.and_self]; done)
  rintro r_ sa ⟨⟨x, rfl, hx0, hx1⟩, hd, hl⟩; refine ⟨fun e => (by cases e), ?_⟩
  simp (disch := omega) only [go_sem, ↓reduceIte, Nat.reduceEqDiff, Nat.reduceAdd, Nat.reduceLeDiff, hG]; refine hK _ _ ?_; clear hK K hG G; repeat (first | refine thenI ?_ | refine thenE ?_ | refine thenR ?_ | refine inBI ?_ | refine inBR ?_ | refine inBS ?_ | refine inBN (by decide) ?_)
  refine W_ret ?_; try (repeat (first | refine thenI ?_ | refine thenE ?_ | refine thenR ?_ | refine inBI ?_ | refine inBR ?_ | refine inBS ?_ | refine inBN (by decide) ?_))
  refine fin1 (.inl rfl) (by (simp (disch := omega) only [go_sem, ↓reduceIte, Nat.reduceEqDiff, Nat.reduceAdd, Nat.reduceLeDiff]); try rfl) rfl ⟨⟨_, rfl⟩, hd, hl⟩

end

section
/- A text that is read: impl.source, its sign and take. -/
open Go Go.Proofs Go.Lib
set_option linter.unusedVariables false
set_option linter.unusedSimpArgs false
set_option maxRecDepth 100000
-- AUTO

/-- What is left of the text. -/
def Src (st : St) (q : Nat) (w : ByteArray) : Prop := st[q]? = some ⟨[.string w], 39, 0⟩
theorem src_cell {st : St} {q : Nat} {w : ByteArray} (h : Src st q w) : cell st q 0 = some (.string w) := by simp [cell, show st[q]? = _ from h]
theorem src_set {st : St} {q : Nat} {w : ByteArray} (h : Src st q w) (loc : Nat → Nat × List Value) (v : ByteArray) : storeA Tryd.prog 9 (.pointer (some ⟨q, 0, none⟩)) (.string v) loc st = some (loc, st.set q ⟨[.string v], 39, 0⟩) := by
  unfold storeA
  simp [okv, sz9, show st[q]? = _ from h, vc, Value.cells, AM.splice]
theorem baL_size (l : List UInt8) : (baL l).size = l.length := size_mk l
theorem extract_h (w : ByteArray) (j : Nat) : w.extract 0 j = baL (w.data.toList.take j) := by
  apply ByteArray.ext
  apply Array.ext'
  rw [ext_toList]
  simp [baL]
theorem extract_l (w : ByteArray) (j : Nat) : w.extract j w.size = baL (w.data.toList.drop j) := by
  apply ByteArray.ext
  apply Array.ext'
  rw [ext_toList, List.take_of_length_le (by rw [List.length_drop, ← size_list]; omega)]
  simp [baL]
theorem tw_at {p : UInt8 → Bool} {l : List UInt8} {j : Nat} (h1 : ∀ x ∈ l.take j, p x = true) (h2 : ∀ x, l[j]? = some x → p x = false) : l.takeWhile p = l.take j ∧ l.dropWhile p = l.drop j := by
  have e : l = l.take j ++ l.drop j := (List.take_append_drop j l).symm
  have h3 := tw_app (p := p) (s := l.take j) (r := l.drop j) h1 (fun b hb => h2 b (by rw [← List.head?_drop]; exact hb))
  rw [← e] at h3
  exact h3
theorem sign_ok (q : Nat) (w : ByteArray) (st : St) (hb : w.size ≤ 1073741824) (hs : Src st q w) :
    CallS Tryd.prog 36 [.pointer (some ⟨q, 0, none⟩)] st fun r st2 => r = .string (baL (w.data.toList.takeWhile alnum)) ∧ Src st2 q (baL (w.data.toList.dropWhile alnum)) ∧ Away (some q) st st2 ∧ st2.length = st.length := by
  refine CallS_of_W [] 84 Tryd.func36 rfl rfl rfl rfl (by simp) ?_
  have hlen := (len_str Tryd.underlying9 : lenE Tryd.prog 9 (.string w) = some (.int .i64 w.size))
  have hix := fun (k : IntKind) (i : Int) (h0 : 0 ≤ i) (h1 : i < w.size) => idxS (s := w) (k := k) Tryd.underlying9 h0 h1
  have hsc := src_cell hs
  repeat (first | (refine W_reg rfl fun G K hG hK => ?_; simp (disch := omega) only [go_sem, ↓reduceIte, Nat.reduceEqDiff, Nat.reduceAdd, Nat.reduceLeDiff, hG, hlen, hix, w_index, ev_index, nc_h, okPtr_h, cellAt_h, hsc]; refine hK _ _ ?_; clear hK K hG G) | (refine W_end rfl fun G K hG hK => ?_; simp (disch := omega) only [go_sem, ↓reduceIte, Nat.reduceEqDiff, Nat.reduceAdd, Nat.reduceLeDiff, hG, hlen, hix, w_index, ev_index, nc_h, okPtr_h, cellAt_h, hsc]; refine hK _ _ ?_; clear hK K hG G; repeat (first | refine thenI ?_ | refine thenE ?_ | refine thenR ?_ | refine inBI ?_ | refine inBR ?_ | refine inBS ?_ | refine inBN (by decide) ?_)) | refine W_seqS ?_ | refine W_seqC ?_ | refine W_seqB ?_ | refine W_block ?_ | (refine W_skip ?_; repeat (first | refine thenI ?_ | refine thenE ?_ | refine thenR ?_ | refine inBI ?_ | refine inBR ?_ | refine inBS ?_ | refine inBN (by decide) ?_)) | (refine W_condT ?hc ?_; (case hc => (simp (disch := omega) only [go_sem, ↓reduceIte, Nat.reduceEqDiff, Nat.reduceAdd, Nat.reduceLeDiff, hlen, hix, w_index, ev_index, nc_h, okPtr_h, cellAt_h, hsc]; done))) | (refine W_condF ?hc ?_; (case hc => (simp (disch := omega) only [go_sem, ↓reduceIte, Nat.reduceEqDiff, Nat.reduceAdd, Nat.reduceLeDiff, hlen, hix, w_index, ev_index, nc_h, okPtr_h, cellAt_h, hsc]; done))))
  refine W_loop (fun d fr st' => ∃ (j : Nat) , d = w.size - j ∧ j ≤ w.size ∧ (st = st') ∧ ((∀ x ∈ w.data.toList.take j, alnum x = true)) ∧ (fr.env 0 = .pointer (some ⟨q, 0, none⟩)) ∧ (fr.env 3 = .int .i64 j)) (w.size) ?_ ?_
  · exact ⟨0, by omega, by omega, rfl, by simp, (by (simp (disch := omega) only [go_sem, ↓reduceIte, Nat.reduceEqDiff, Nat.reduceAdd, Nat.reduceLeDiff, hlen, hix, w_index, ev_index, nc_h, okPtr_h, cellAt_h, hsc]); try rfl), (by (simp (disch := omega) only [go_sem, ↓reduceIte, Nat.reduceEqDiff, Nat.reduceAdd, Nat.reduceLeDiff, hlen, hix, w_index, ev_index, nc_h, okPtr_h, cellAt_h, hsc]); try rfl)⟩
  rintro d ⟨env, loc⟩ st' ⟨j, hd, hj, hst, hal, e0, e3⟩
  simp only at e0 e3
  subst hst
  by_cases hlt : j < w.size
  · have c0 : decide ((j : Int) < (w.size : Int)) = true := decide_eq_true (by omega)
    obtain ⟨x, r, hx, hxb, hr1⟩ := drop_byte (s := w) (i := j) hlt
    have hxb' : byteAt w (j : Int).toNat = (x.toNat : Int) := hxb
    have hxj : w.data.toList[j]? = some x := by rw [← List.head?_drop, hx]; rfl
    have htk : w.data.toList.take (j + 1) = w.data.toList.take j ++ [x] := by
      have h5 : j < w.data.toList.length := by rw [← size_list]; exact hlt
      rw [List.take_succ_eq_append_getElem h5]
      congr 1
      rw [List.getElem?_eq_getElem h5] at hxj
      rw [Option.some.inj hxj]
    have hnx : alnum x = true → ∀ y ∈ w.data.toList.take (j + 1), alnum y = true := fun h y hy => by
      rw [htk] at hy
      rcases List.mem_append.1 hy with hy | hy
      · exact hal y hy
      · cases List.mem_singleton.1 hy; exact h
    by_cases p1 : (x.toNat : Int) ≥ 97
    · have dp1 : decide ((x.toNat : Int) ≥ 97) = true := decide_eq_true (by omega)
      by_cases p2 : (x.toNat : Int) ≤ 122
      · have dp2 : decide ((x.toNat : Int) ≤ 122) = true := decide_eq_true (by omega)
        have ha : alnum x = true := by unfold alnum; simp; omega
        repeat (first | (refine W_reg rfl fun G K hG hK => ?_; simp (disch := omega) only [go_sem, ↓reduceIte, Nat.reduceEqDiff, Nat.reduceAdd, Nat.reduceLeDiff, hG, hlen, hix, w_index, ev_index, nc_h, okPtr_h, cellAt_h, hsc, e0, e3, c0, hxb', dp1, dp2]; refine hK _ _ ?_; clear hK K hG G) | (refine W_end rfl fun G K hG hK => ?_; simp (disch := omega) only [go_sem, ↓reduceIte, Nat.reduceEqDiff, Nat.reduceAdd, Nat.reduceLeDiff, hG, hlen, hix, w_index, ev_index, nc_h, okPtr_h, cellAt_h, hsc, e0, e3, c0, hxb', dp1, dp2]; refine hK _ _ ?_; clear hK K hG G; repeat (first | refine thenI ?_ | refine thenE ?_ | refine thenR ?_ | refine inBI ?_ | refine inBR ?_ | refine inBS ?_ | refine inBN (by decide) ?_)) | refine W_seqS ?_ | refine W_seqC ?_ | refine W_seqB ?_ | refine W_block ?_ | (refine W_skip ?_; repeat (first | refine thenI ?_ | refine thenE ?_ | refine thenR ?_ | refine inBI ?_ | refine inBR ?_ | refine inBS ?_ | refine inBN (by decide) ?_)) | (refine W_condT ?hc ?_; (case hc => (simp (disch := omega) only [go_sem, ↓reduceIte, Nat.reduceEqDiff, Nat.reduceAdd, Nat.reduceLeDiff, hlen, hix, w_index, ev_index, nc_h, okPtr_h, cellAt_h, hsc, e0, e3, c0, hxb', dp1, dp2]; done))) | (refine W_condF ?hc ?_; (case hc => (simp (disch := omega) only [go_sem, ↓reduceIte, Nat.reduceEqDiff, Nat.reduceAdd, Nat.reduceLeDiff, hlen, hix, w_index, ev_index, nc_h, okPtr_h, cellAt_h, hsc, e0, e3, c0, hxb', dp1, dp2]; done))))
        refine ⟨w.size - (j + 1), by omega, j + 1, rfl, by omega, rfl, hnx ha, (by (simp (disch := omega) only [go_sem, ↓reduceIte, Nat.reduceEqDiff, Nat.reduceAdd, Nat.reduceLeDiff, hlen, hix, w_index, ev_index, nc_h, okPtr_h, cellAt_h, hsc, e0, e3, c0, hxb']); try rfl), (by (simp (disch := omega) only [go_sem, ↓reduceIte, Nat.reduceEqDiff, Nat.reduceAdd, Nat.reduceLeDiff, hlen, hix, w_index, ev_index, nc_h, okPtr_h, cellAt_h, hsc, e0, e3, c0, hxb']); try rfl)⟩
      · have dp2 : decide ((x.toNat : Int) ≤ 122) = false := decide_eq_false (by omega)
        have dp3 : decide ((x.toNat : Int) ≥ 65) = true := decide_eq_true (by omega)
        have dp4 : decide ((x.toNat : Int) ≤ 90) = false := decide_eq_false (by omega)
        have dp5 : decide ((x.toNat : Int) ≥ 48) = true := decide_eq_true (by omega)
        have dp6 : decide ((x.toNat : Int) ≤ 57) = false := decide_eq_false (by omega)
        have ha : alnum x = false := by unfold alnum; simp; omega
        have ht := tw_at (p := alnum) (j := j) hal (fun y hy => by rw [hxj] at hy; cases hy; exact ha)
        rw [ht.1, ht.2, ← extract_h, ← extract_l]
        have hsl1 : flatRun Tryd.prog (Instr.sliceAt 9 (.string w) none (some (.int .i64 (j : Int))) none) = some (.string (w.extract 0 j)) := by simpa using sliceS_h (P := Tryd.prog) (t := 9) (s := w) (k := .i64) (h := (j : Int)) Tryd.underlying9 (by omega) (by omega)
        have hsl2 : flatRun Tryd.prog (Instr.sliceAt 9 (.string w) (some (.int .i64 (j : Int))) none none) = some (.string (w.extract j w.size)) := by simpa using sliceS_l (P := Tryd.prog) (t := 9) (s := w) (k := .i64) (l := (j : Int)) Tryd.underlying9 (by omega) (by omega)
        have hset := src_set hs
        repeat (first | (refine W_reg rfl fun G K hG hK => ?_; simp (disch := omega) only [go_sem, ↓reduceIte, Nat.reduceEqDiff, Nat.reduceAdd, Nat.reduceLeDiff, hG, hlen, hix, w_index, ev_index, nc_h, okPtr_h, cellAt_h, hsc, e0, e3, c0, hxb', dp1, dp2, dp3, dp4, dp5, dp6]; refine hK _ _ ?_; clear hK K hG G) | (refine W_end rfl fun G K hG hK => ?_; simp (disch := omega) only [go_sem, ↓reduceIte, Nat.reduceEqDiff, Nat.reduceAdd, Nat.reduceLeDiff, hG, hlen, hix, w_index, ev_index, nc_h, okPtr_h, cellAt_h, hsc, e0, e3, c0, hxb', dp1, dp2, dp3, dp4, dp5, dp6]; refine hK _ _ ?_; clear hK K hG G; repeat (first | refine thenI ?_ | refine thenE ?_ | refine thenR ?_ | refine inBI ?_ | refine inBR ?_ | refine inBS ?_ | refine inBN (by decide) ?_)) | refine W_seqS ?_ | refine W_seqC ?_ | refine W_seqB ?_ | refine W_block ?_ | (refine W_skip ?_; repeat (first | refine thenI ?_ | refine thenE ?_ | refine thenR ?_ | refine inBI ?_ | refine inBR ?_ | refine inBS ?_ | refine inBN (by decide) ?_)) | (refine W_condT ?hc ?_; (case hc => (simp (disch := omega) only [go_sem, ↓reduceIte, Nat.reduceEqDiff, Nat.reduceAdd, Nat.reduceLeDiff, hlen, hix, w_index, ev_index, nc_h, okPtr_h, cellAt_h, hsc, e0, e3, c0, hxb', dp1, dp2, dp3, dp4, dp5, dp6]; done))) | (refine W_condF ?hc ?_; (case hc => (simp (disch := omega) only [go_sem, ↓reduceIte, Nat.reduceEqDiff, Nat.reduceAdd, Nat.reduceLeDiff, hlen, hix, w_index, ev_index, nc_h, okPtr_h, cellAt_h, hsc, e0, e3, c0, hxb', dp1, dp2, dp3, dp4, dp5, dp6]; done))))
        refine W_exit ?_; repeat (first | refine thenI ?_ | refine thenE ?_ | refine thenR ?_ | refine inBI ?_ | refine inBR ?_ | refine inBS ?_ | refine inBN (by decide) ?_)
        repeat (first | (refine W_reg rfl fun G K hG hK => ?_; simp (disch := omega) only [go_sem, ↓reduceIte, Nat.reduceEqDiff, Nat.reduceAdd, Nat.reduceLeDiff, hG, hlen, hix, w_index, ev_index, nc_h, okPtr_h, cellAt_h, hsc, e0, e3, c0, hxb', w_slice, ev_slice, hsl1, hsl2, hset, flat_s, flat_i, Option.all_some, Option.map_some, Option.all_none, Option.map_none]; refine hK _ _ ?_; clear hK K hG G) | (refine W_end rfl fun G K hG hK => ?_; simp (disch := omega) only [go_sem, ↓reduceIte, Nat.reduceEqDiff, Nat.reduceAdd, Nat.reduceLeDiff, hG, hlen, hix, w_index, ev_index, nc_h, okPtr_h, cellAt_h, hsc, e0, e3, c0, hxb', w_slice, ev_slice, hsl1, hsl2, hset, flat_s, flat_i, Option.all_some, Option.map_some, Option.all_none, Option.map_none]; refine hK _ _ ?_; clear hK K hG G; repeat (first | refine thenI ?_ | refine thenE ?_ | refine thenR ?_ | refine inBI ?_ | refine inBR ?_ | refine inBS ?_ | refine inBN (by decide) ?_)) | refine W_seqS ?_ | refine W_seqC ?_ | refine W_seqB ?_ | refine W_block ?_ | (refine W_skip ?_; repeat (first | refine thenI ?_ | refine thenE ?_ | refine thenR ?_ | refine inBI ?_ | refine inBR ?_ | refine inBS ?_ | refine inBN (by decide) ?_)) | (refine W_condT ?hc ?_; (case hc => (simp (disch := omega) only [go_sem, ↓reduceIte, Nat.reduceEqDiff, Nat.reduceAdd, Nat.reduceLeDiff, hlen, hix, w_index, ev_index, nc_h, okPtr_h, cellAt_h, hsc, e0, e3, c0, hxb', w_slice, ev_slice, hsl1, hsl2, hset, flat_s, flat_i, Option.all_some, Option.map_some, Option.all_none, Option.map_none]; done))) | (refine W_condF ?hc ?_; (case hc => (simp (disch := omega) only [go_sem, ↓reduceIte, Nat.reduceEqDiff, Nat.reduceAdd, Nat.reduceLeDiff, hlen, hix, w_index, ev_index, nc_h, okPtr_h, cellAt_h, hsc, e0, e3, c0, hxb', w_slice, ev_slice, hsl1, hsl2, hset, flat_s, flat_i, Option.all_some, Option.map_some, Option.all_none, Option.map_none]; done))))
        refine W_ret ?_; try (repeat (first | refine thenI ?_ | refine thenE ?_ | refine thenR ?_ | refine inBI ?_ | refine inBR ?_ | refine inBS ?_ | refine inBN (by decide) ?_))
        refine fin1 (.inl rfl) (by (simp (disch := omega) only [go_sem, ↓reduceIte, Nat.reduceEqDiff, Nat.reduceAdd, Nat.reduceLeDiff, hlen, hix, w_index, ev_index, nc_h, okPtr_h, cellAt_h, hsc, e0, e3, c0, hxb']); try rfl) rfl ⟨rfl, set_at hs, set_away, by simp⟩
    · have dp1 : decide ((x.toNat : Int) ≥ 97) = false := decide_eq_false (by omega)
      by_cases p3 : (x.toNat : Int) ≥ 65
      · have dp3 : decide ((x.toNat : Int) ≥ 65) = true := decide_eq_true (by omega)
        by_cases p4 : (x.toNat : Int) ≤ 90
        · have dp4 : decide ((x.toNat : Int) ≤ 90) = true := decide_eq_true (by omega)
          have ha : alnum x = true := by unfold alnum; simp; omega
          repeat (first | (refine W_reg rfl fun G K hG hK => ?_; simp (disch := omega) only [go_sem, ↓reduceIte, Nat.reduceEqDiff, Nat.reduceAdd, Nat.reduceLeDiff, hG, hlen, hix, w_index, ev_index, nc_h, okPtr_h, cellAt_h, hsc, e0, e3, c0, hxb', dp1, dp3, dp4]; refine hK _ _ ?_; clear hK K hG G) | (refine W_end rfl fun G K hG hK => ?_; simp (disch := omega) only [go_sem, ↓reduceIte, Nat.reduceEqDiff, Nat.reduceAdd, Nat.reduceLeDiff, hG, hlen, hix, w_index, ev_index, nc_h, okPtr_h, cellAt_h, hsc, e0, e3, c0, hxb', dp1, dp3, dp4]; refine hK _ _ ?_; clear hK K hG G; repeat (first | refine thenI ?_ | refine thenE ?_ | refine thenR ?_ | refine inBI ?_ | refine inBR ?_ | refine inBS ?_ | refine inBN (by decide) ?_)) | refine W_seqS ?_ | refine W_seqC ?_ | refine W_seqB ?_ | refine W_block ?_ | (refine W_skip ?_; repeat (first | refine thenI ?_ | refine thenE ?_ | refine thenR ?_ | refine inBI ?_ | refine inBR ?_ | refine inBS ?_ | refine inBN (by decide) ?_)) | (refine W_condT ?hc ?_; (case hc => (simp (disch := omega) only [go_sem, ↓reduceIte, Nat.reduceEqDiff, Nat.reduceAdd, Nat.reduceLeDiff, hlen, hix, w_index, ev_index, nc_h, okPtr_h, cellAt_h, hsc, e0, e3, c0, hxb', dp1, dp3, dp4]; done))) | (refine W_condF ?hc ?_; (case hc => (simp (disch := omega) only [go_sem, ↓reduceIte, Nat.reduceEqDiff, Nat.reduceAdd, Nat.reduceLeDiff, hlen, hix, w_index, ev_index, nc_h, okPtr_h, cellAt_h, hsc, e0, e3, c0, hxb', dp1, dp3, dp4]; done))))
          refine ⟨w.size - (j + 1), by omega, j + 1, rfl, by omega, rfl, hnx ha, (by (simp (disch := omega) only [go_sem, ↓reduceIte, Nat.reduceEqDiff, Nat.reduceAdd, Nat.reduceLeDiff, hlen, hix, w_index, ev_index, nc_h, okPtr_h, cellAt_h, hsc, e0, e3, c0, hxb']); try rfl), (by (simp (disch := omega) only [go_sem, ↓reduceIte, Nat.reduceEqDiff, Nat.reduceAdd, Nat.reduceLeDiff, hlen, hix, w_index, ev_index, nc_h, okPtr_h, cellAt_h, hsc, e0, e3, c0, hxb']); try rfl)⟩
        · have dp4 : decide ((x.toNat : Int) ≤ 90) = false := decide_eq_false (by omega)
          have dp5 : decide ((x.toNat : Int) ≥ 48) = true := decide_eq_true (by omega)
          have dp6 : decide ((x.toNat : Int) ≤ 57) = false := decide_eq_false (by omega)
          have ha : alnum x = false := by unfold alnum; simp; omega
          have ht := tw_at (p := alnum) (j := j) hal (fun y hy => by rw [hxj] at hy; cases hy; exact ha)
          rw [ht.1, ht.2, ← extract_h, ← extract_l]
          have hsl1 : flatRun Tryd.prog (Instr.sliceAt 9 (.string w) none (some (.int .i64 (j : Int))) none) = some (.string (w.extract 0 j)) := by simpa using sliceS_h (P := Tryd.prog) (t := 9) (s := w) (k := .i64) (h := (j : Int)) Tryd.underlying9 (by omega) (by omega)
          have hsl2 : flatRun Tryd.prog (Instr.sliceAt 9 (.string w) (some (.int .i64 (j : Int))) none none) = some (.string (w.extract j w.size)) := by simpa using sliceS_l (P := Tryd.prog) (t := 9) (s := w) (k := .i64) (l := (j : Int)) Tryd.underlying9 (by omega) (by omega)
          have hset := src_set hs
          repeat (first | (refine W_reg rfl fun G K hG hK => ?_; simp (disch := omega) only [go_sem, ↓reduceIte, Nat.reduceEqDiff, Nat.reduceAdd, Nat.reduceLeDiff, hG, hlen, hix, w_index, ev_index, nc_h, okPtr_h, cellAt_h, hsc, e0, e3, c0, hxb', dp1, dp3, dp4, dp5, dp6]; refine hK _ _ ?_; clear hK K hG G) | (refine W_end rfl fun G K hG hK => ?_; simp (disch := omega) only [go_sem, ↓reduceIte, Nat.reduceEqDiff, Nat.reduceAdd, Nat.reduceLeDiff, hG, hlen, hix, w_index, ev_index, nc_h, okPtr_h, cellAt_h, hsc, e0, e3, c0, hxb', dp1, dp3, dp4, dp5, dp6]; refine hK _ _ ?_; clear hK K hG G; repeat (first | refine thenI ?_ | refine thenE ?_ | refine thenR ?_ | refine inBI ?_ | refine inBR ?_ | refine inBS ?_ | refine inBN (by decide) ?_)) | refine W_seqS ?_ | refine W_seqC ?_ | refine W_seqB ?_ | refine W_block ?_ | (refine W_skip ?_; repeat (first | refine thenI ?_ | refine thenE ?_ | refine thenR ?_ | refine inBI ?_ | refine inBR ?_ | refine inBS ?_ | refine inBN (by decide) ?_)) | (refine W_condT ?hc ?_; (case hc => (simp (disch := omega) only [go_sem, ↓reduceIte, Nat.reduceEqDiff, Nat.reduceAdd, Nat.reduceLeDiff, hlen, hix, w_index, ev_index, nc_h, okPtr_h, cellAt_h, hsc, e0, e3, c0, hxb', dp1, dp3, dp4, dp5, dp6]; done))) | (refine W_condF ?hc ?_; (case hc => (simp (disch := omega) only [go_sem, ↓reduceIte, Nat.reduceEqDiff, Nat.reduceAdd, Nat.reduceLeDiff, hlen, hix, w_index, ev_index, nc_h, okPtr_h, cellAt_h, hsc, e0, e3, c0, hxb', dp1, dp3, dp4, dp5, dp6]; done))))
          refine W_exit ?_; repeat (first | refine thenI ?_ | refine thenE ?_ | refine thenR ?_ | refine inBI ?_ | refine inBR ?_ | refine inBS ?_ | refine inBN (by decide) ?_)
          repeat (first | (refine W_reg rfl fun G K hG hK => ?_; simp (disch := omega) only [go_sem, ↓reduceIte, Nat.reduceEqDiff, Nat.reduceAdd, Nat.reduceLeDiff, hG, hlen, hix, w_index, ev_index, nc_h, okPtr_h, cellAt_h, hsc, e0, e3, c0, hxb', w_slice, ev_slice, hsl1, hsl2, hset, flat_s, flat_i, Option.all_some, Option.map_some, Option.all_none, Option.map_none]; refine hK _ _ ?_; clear hK K hG G) | (refine W_end rfl fun G K hG hK => ?_; simp (disch := omega) only [go_sem, ↓reduceIte, Nat.reduceEqDiff, Nat.reduceAdd, Nat.reduceLeDiff, hG, hlen, hix, w_index, ev_index, nc_h, okPtr_h, cellAt_h, hsc, e0, e3, c0, hxb', w_slice, ev_slice, hsl1, hsl2, hset, flat_s, flat_i, Option.all_some, Option.map_some, Option.all_none, Option.map_none]; refine hK _ _ ?_; clear hK K hG G; repeat (first | refine thenI ?_ | refine thenE ?_ | refine thenR ?_ | refine inBI ?_ | refine inBR ?_ | refine inBS ?_ | refine inBN (by decide) ?_)) | refine W_seqS ?_ | refine W_seqC ?_ | refine W_seqB ?_ | refine W_block ?_ | (refine W_skip ?_; repeat (first | refine thenI ?_ | refine thenE ?_ | refine thenR ?_ | refine inBI ?_ | refine inBR ?_ | refine inBS ?_ | refine inBN (by decide) ?_)) | (refine W_condT ?hc ?_; (case hc => (simp (disch := omega) only [go_sem, ↓reduceIte, Nat.reduceEqDiff, Nat.reduceAdd, Nat.reduceLeDiff, hlen, hix, w_index, ev_index, nc_h, okPtr_h, cellAt_h, hsc, e0, e3, c0, hxb', w_slice, ev_slice, hsl1, hsl2, hset, flat_s, flat_i, Option.all_some, Option.map_some, Option.all_none, Option.map_none]; done))) | (refine W_condF ?hc ?_; (case hc => (simp (disch := omega) only [go_sem, ↓reduceIte, Nat.reduceEqDiff, Nat.reduceAdd, Nat.reduceLeDiff, hlen, hix, w_index, ev_index, nc_h, okPtr_h, cellAt_h, hsc, e0, e3, c0, hxb', w_slice, ev_slice, hsl1, hsl2, hset, flat_s, flat_i, Option.all_some, Option.map_some, Option.all_none, Option.map_none]; done))))
          refine W_ret ?_; try (repeat (first | refine thenI ?_ | refine thenE ?_ | refine thenR ?_ | refine inBI ?_ | refine inBR ?_ | refine inBS ?_ | refine inBN (by decide) ?_))
          refine fin1 (.inl rfl) (by (simp (disch := omega) only [go_sem, ↓reduceIte, Nat.reduceEqDiff, Nat.reduceAdd, Nat.reduceLeDiff, hlen, hix, w_index, ev_index, nc_h, okPtr_h, cellAt_h, hsc, e0, e3, c0, hxb']); try rfl) rfl ⟨rfl, set_at hs, set_away, by simp⟩
      · have dp3 : decide ((x.toNat : Int) ≥ 65) = false := decide_eq_false (by omega)
        by_cases p5 : (x.toNat : Int) ≥ 48
        · have dp5 : decide ((x.toNat : Int) ≥ 48) = true := decide_eq_true (by omega)
          by_cases p6 : (x.toNat : Int) ≤ 57
          · have dp6 : decide ((x.toNat : Int) ≤ 57) = true := decide_eq_true (by omega)
            have ha : alnum x = true := by unfold alnum; simp; omega
            repeat (first | (refine W_reg rfl fun G K hG hK => ?_; simp (disch := omega) only [go_sem, ↓reduceIte, Nat.reduceEqDiff, Nat.reduceAdd, Nat.reduceLeDiff, hG, hlen, hix, w_index, ev_index, nc_h, okPtr_h, cellAt_h, hsc, e0, e3, c0, hxb', dp1, dp3, dp5, dp6]; refine hK _ _ ?_; clear hK K hG G) | (refine W_end rfl fun G K hG hK => ?_; simp (disch := omega) only [go_sem, ↓reduceIte, Nat.reduceEqDiff, Nat.reduceAdd, Nat.reduceLeDiff, hG, hlen, hix, w_index, ev_index, nc_h, okPtr_h, cellAt_h, hsc, e0, e3, c0, hxb', dp1, dp3, dp5, dp6]; refine hK _ _ ?_; clear hK K hG G; repeat (first | refine thenI ?_ | refine thenE ?_ | refine thenR ?_ | refine inBI ?_ | refine inBR ?_ | refine inBS ?_ | refine inBN (by decide) ?_)) | refine W_seqS ?_ | refine W_seqC ?_ | refine W_seqB ?_ | refine W_block ?_ | (refine W_skip ?_; repeat (first | refine thenI ?_ | refine thenE ?_ | refine thenR ?_ | refine inBI ?_ | refine inBR ?_ | refine inBS ?_ | refine inBN (by decide) ?_)) | (refine W_condT ?hc ?_; (case hc => (simp (disch := omega) only [go_sem, ↓reduceIte, Nat.reduceEqDiff, Nat.reduceAdd, Nat.reduceLeDiff, hlen, hix, w_index, ev_index, nc_h, okPtr_h, cellAt_h, hsc, e0, e3, c0, hxb', dp1, dp3, dp5, dp6]; done))) | (refine W_condF ?hc ?_; (case hc => (simp (disch := omega) only [go_sem, ↓reduceIte, Nat.reduceEqDiff, Nat.reduceAdd, Nat.reduceLeDiff, hlen, hix, w_index, ev_index, nc_h, okPtr_h, cellAt_h, hsc, e0, e3, c0, hxb', dp1, dp3, dp5, dp6]; done))))
            refine ⟨w.size - (j + 1), by omega, j + 1, rfl, by omega, rfl, hnx ha, (by (simp (disch := omega) only [go_sem, ↓reduceIte, Nat.reduceEqDiff, Nat.reduceAdd, Nat.reduceLeDiff, hlen, hix, w_index, ev_index, nc_h, okPtr_h, cellAt_h, hsc, e0, e3, c0, hxb']); try rfl), (by (simp (disch := omega) only [go_sem, ↓reduceIte, Nat.reduceEqDiff, Nat.reduceAdd, Nat.reduceLeDiff, hlen, hix, w_index, ev_index, nc_h, okPtr_h, cellAt_h, hsc, e0, e3, c0, hxb']); try rfl)⟩
          · have dp6 : decide ((x.toNat : Int) ≤ 57) = false := decide_eq_false (by omega)
            have ha : alnum x = false := by unfold alnum; simp; omega
            have ht := tw_at (p := alnum) (j := j) hal (fun y hy => by rw [hxj] at hy; cases hy; exact ha)
            rw [ht.1, ht.2, ← extract_h, ← extract_l]
            have hsl1 : flatRun Tryd.prog (Instr.sliceAt 9 (.string w) none (some (.int .i64 (j : Int))) none) = some (.string (w.extract 0 j)) := by simpa using sliceS_h (P := Tryd.prog) (t := 9) (s := w) (k := .i64) (h := (j : Int)) Tryd.underlying9 (by omega) (by omega)
            have hsl2 : flatRun Tryd.prog (Instr.sliceAt 9 (.string w) (some (.int .i64 (j : Int))) none none) = some (.string (w.extract j w.size)) := by simpa using sliceS_l (P := Tryd.prog) (t := 9) (s := w) (k := .i64) (l := (j : Int)) Tryd.underlying9 (by omega) (by omega)
            have hset := src_set hs
            repeat (first | (refine W_reg rfl fun G K hG hK => ?_; simp (disch := omega) only [go_sem, ↓reduceIte, Nat.reduceEqDiff, Nat.reduceAdd, Nat.reduceLeDiff, hG, hlen, hix, w_index, ev_index, nc_h, okPtr_h, cellAt_h, hsc, e0, e3, c0, hxb', dp1, dp3, dp5, dp6]; refine hK _ _ ?_; clear hK K hG G) | (refine W_end rfl fun G K hG hK => ?_; simp (disch := omega) only [go_sem, ↓reduceIte, Nat.reduceEqDiff, Nat.reduceAdd, Nat.reduceLeDiff, hG, hlen, hix, w_index, ev_index, nc_h, okPtr_h, cellAt_h, hsc, e0, e3, c0, hxb', dp1, dp3, dp5, dp6]; refine hK _ _ ?_; clear hK K hG G; repeat (first | refine thenI ?_ | refine thenE ?_ | refine thenR ?_ | refine inBI ?_ | refine inBR ?_ | refine inBS ?_ | refine inBN (by decide) ?_)) | refine W_seqS ?_ | refine W_seqC ?_ | refine W_seqB ?_ | refine W_block ?_ | (refine W_skip ?_; repeat (first | refine thenI ?_ | refine thenE ?_ | refine thenR ?_ | refine inBI ?_ | refine inBR ?_ | refine inBS ?_ | refine inBN (by decide) ?_)) | (refine W_condT ?hc ?_; (case hc => (simp (disch := omega) only [go_sem, ↓reduceIte, Nat.reduceEqDiff, Nat.reduceAdd, Nat.reduceLeDiff, hlen, hix, w_index, ev_index, nc_h, okPtr_h, cellAt_h, hsc, e0, e3, c0, hxb', dp1, dp3, dp5, dp6]; done))) | (refine W_condF ?hc ?_; (case hc => (simp (disch := omega) only [go_sem, ↓reduceIte, Nat.reduceEqDiff, Nat.reduceAdd, Nat.reduceLeDiff, hlen, hix, w_index, ev_index, nc_h, okPtr_h, cellAt_h, hsc, e0, e3, c0, hxb', dp1, dp3, dp5, dp6]; done))))
            refine W_exit ?_; repeat (first | refine thenI ?_ | refine thenE ?_ | refine thenR ?_ | refine inBI ?_ | refine inBR ?_ | refine inBS ?_ | refine inBN (by decide) ?_)
            repeat (first | (refine W_reg rfl fun G K hG hK => ?_; simp (disch := omega) only [go_sem, ↓reduceIte, Nat.reduceEqDiff, Nat.reduceAdd, Nat.reduceLeDiff, hG, hlen, hix, w_index, ev_index, nc_h, okPtr_h, cellAt_h, hsc, e0, e3, c0, hxb', w_slice, ev_slice, hsl1, hsl2, hset, flat_s, flat_i, Option.all_some, Option.map_some, Option.all_none, Option.map_none]; refine hK _ _ ?_; clear hK K hG G) | (refine W_end rfl fun G K hG hK => ?_; simp (disch := omega) only [go_sem, ↓reduceIte, Nat.reduceEqDiff, Nat.reduceAdd, Nat.reduceLeDiff, hG, hlen, hix, w_index, ev_index, nc_h, okPtr_h, cellAt_h, hsc, e0, e3, c0, hxb', w_slice, ev_slice, hsl1, hsl2, hset, flat_s, flat_i, Option.all_some, Option.map_some, Option.all_none, Option.map_none]; refine hK _ _ ?_; clear hK K hG G; repeat (first | refine thenI ?_ | refine thenE ?_ | refine thenR ?_ | refine inBI ?_ | refine inBR ?_ | refine inBS ?_ | refine inBN (by decide) ?_)) | refine W_seqS ?_ | refine W_seqC ?_ | refine W_seqB ?_ | refine W_block ?_ | (refine W_skip ?_; repeat (first | refine thenI ?_ | refine thenE ?_ | refine thenR ?_ | refine inBI ?_ | refine inBR ?_ | refine inBS ?_ | refine inBN (by decide) ?_)) | (refine W_condT ?hc ?_; (case hc => (simp (disch := omega) only [go_sem, ↓reduceIte, Nat.reduceEqDiff, Nat.reduceAdd, Nat.reduceLeDiff, hlen, hix, w_index, ev_index, nc_h, okPtr_h, cellAt_h, hsc, e0, e3, c0, hxb', w_slice, ev_slice, hsl1, hsl2, hset, flat_s, flat_i, Option.all_some, Option.map_some, Option.all_none, Option.map_none]; done))) | (refine W_condF ?hc ?_; (case hc => (simp (disch := omega) only [go_sem, ↓reduceIte, Nat.reduceEqDiff, Nat.reduceAdd, Nat.reduceLeDiff, hlen, hix, w_index, ev_index, nc_h, okPtr_h, cellAt_h, hsc, e0, e3, c0, hxb', w_slice, ev_slice, hsl1, hsl2, hset, flat_s, flat_i, Option.all_some, Option.map_some, Option.all_none, Option.map_none]; done))))
            refine W_ret ?_; try (repeat (first | refine thenI ?_ | refine thenE ?_ | refine thenR ?_ | refine inBI ?_ | refine inBR ?_ | refine inBS ?_ | refine inBN (by decide) ?_))
            refine fin1 (.inl rfl) (by (simp (disch := omega) only [go_sem, ↓reduceIte, Nat.reduceEqDiff, Nat.reduceAdd, Nat.reduceLeDiff, hlen, hix, w_index, ev_index, nc_h, okPtr_h, cellAt_h, hsc, e0, e3, c0, hxb']); try rfl) rfl ⟨rfl, set_at hs, set_away, by simp⟩
        · have dp5 : decide ((x.toNat : Int) ≥ 48) = false := decide_eq_false (by omega)
          have ha : alnum x = false := by unfold alnum; simp; omega
          have ht := tw_at (p := alnum) (j := j) hal (fun y hy => by rw [hxj] at hy; cases hy; exact ha)
          rw [ht.1, ht.2, ← extract_h, ← extract_l]
          have hsl1 : flatRun Tryd.prog (Instr.sliceAt 9 (.string w) none (some (.int .i64 (j : Int))) none) = some (.string (w.extract 0 j)) := by simpa using sliceS_h (P := Tryd.prog) (t := 9) (s := w) (k := .i64) (h := (j : Int)) Tryd.underlying9 (by omega) (by omega)
          have hsl2 : flatRun Tryd.prog (Instr.sliceAt 9 (.string w) (some (.int .i64 (j : Int))) none none) = some (.string (w.extract j w.size)) := by simpa using sliceS_l (P := Tryd.prog) (t := 9) (s := w) (k := .i64) (l := (j : Int)) Tryd.underlying9 (by omega) (by omega)
          have hset := src_set hs
          repeat (first | (refine W_reg rfl fun G K hG hK => ?_; simp (disch := omega) only [go_sem, ↓reduceIte, Nat.reduceEqDiff, Nat.reduceAdd, Nat.reduceLeDiff, hG, hlen, hix, w_index, ev_index, nc_h, okPtr_h, cellAt_h, hsc, e0, e3, c0, hxb', dp1, dp3, dp5]; refine hK _ _ ?_; clear hK K hG G) | (refine W_end rfl fun G K hG hK => ?_; simp (disch := omega) only [go_sem, ↓reduceIte, Nat.reduceEqDiff, Nat.reduceAdd, Nat.reduceLeDiff, hG, hlen, hix, w_index, ev_index, nc_h, okPtr_h, cellAt_h, hsc, e0, e3, c0, hxb', dp1, dp3, dp5]; refine hK _ _ ?_; clear hK K hG G; repeat (first | refine thenI ?_ | refine thenE ?_ | refine thenR ?_ | refine inBI ?_ | refine inBR ?_ | refine inBS ?_ | refine inBN (by decide) ?_)) | refine W_seqS ?_ | refine W_seqC ?_ | refine W_seqB ?_ | refine W_block ?_ | (refine W_skip ?_; repeat (first | refine thenI ?_ | refine thenE ?_ | refine thenR ?_ | refine inBI ?_ | refine inBR ?_ | refine inBS ?_ | refine inBN (by decide) ?_)) | (refine W_condT ?hc ?_; (case hc => (simp (disch := omega) only [go_sem, ↓reduceIte, Nat.reduceEqDiff, Nat.reduceAdd, Nat.reduceLeDiff, hlen, hix, w_index, ev_index, nc_h, okPtr_h, cellAt_h, hsc, e0, e3, c0, hxb', dp1, dp3, dp5]; done))) | (refine W_condF ?hc ?_; (case hc => (simp (disch := omega) only [go_sem, ↓reduceIte, Nat.reduceEqDiff, Nat.reduceAdd, Nat.reduceLeDiff, hlen, hix, w_index, ev_index, nc_h, okPtr_h, cellAt_h, hsc, e0, e3, c0, hxb', dp1, dp3, dp5]; done))))
          refine W_exit ?_; repeat (first | refine thenI ?_ | refine thenE ?_ | refine thenR ?_ | refine inBI ?_ | refine inBR ?_ | refine inBS ?_ | refine inBN (by decide) ?_)
          repeat (first | (refine W_reg rfl fun G K hG hK => ?_; simp (disch := omega) only [go_sem, ↓reduceIte, Nat.reduceEqDiff, Nat.reduceAdd, Nat.reduceLeDiff, hG, hlen, hix, w_index, ev_index, nc_h, okPtr_h, cellAt_h, hsc, e0, e3, c0, hxb', w_slice, ev_slice, hsl1, hsl2, hset, flat_s, flat_i, Option.all_some, Option.map_some, Option.all_none, Option.map_none]; refine hK _ _ ?_; clear hK K hG G) | (refine W_end rfl fun G K hG hK => ?_; simp (disch := omega) only [go_sem, ↓reduceIte, Nat.reduceEqDiff, Nat.reduceAdd, Nat.reduceLeDiff, hG, hlen, hix, w_index, ev_index, nc_h, okPtr_h, cellAt_h, hsc, e0, e3, c0, hxb', w_slice, ev_slice, hsl1, hsl2, hset, flat_s, flat_i, Option.all_some, Option.map_some, Option.all_none, Option.map_none]; refine hK _ _ ?_; clear hK K hG G; repeat (first | refine thenI ?_ | refine thenE ?_ | refine thenR ?_ | refine inBI ?_ | refine inBR ?_ | refine inBS ?_ | refine inBN (by decide) ?_)) | refine W_seqS ?_ | refine W_seqC ?_ | refine W_seqB ?_ | refine W_block ?_ | (refine W_skip ?_; repeat (first | refine thenI ?_ | refine thenE ?_ | refine thenR ?_ | refine inBI ?_ | refine inBR ?_ | refine inBS ?_ | refine inBN (by decide) ?_)) | (refine W_condT ?hc ?_; (case hc => (simp (disch := omega) only [go_sem, ↓reduceIte, Nat.reduceEqDiff, Nat.reduceAdd, Nat.reduceLeDiff, hlen, hix, w_index, ev_index, nc_h, okPtr_h, cellAt_h, hsc, e0, e3, c0, hxb', w_slice, ev_slice, hsl1, hsl2, hset, flat_s, flat_i, Option.all_some, Option.map_some, Option.all_none, Option.map_none]; done))) | (refine W_condF ?hc ?_; (case hc => (simp (disch := omega) only [go_sem, ↓reduceIte, Nat.reduceEqDiff, Nat.reduceAdd, Nat.reduceLeDiff, hlen, hix, w_index, ev_index, nc_h, okPtr_h, cellAt_h, hsc, e0, e3, c0, hxb', w_slice, ev_slice, hsl1, hsl2, hset, flat_s, flat_i, Option.all_some, Option.map_some, Option.all_none, Option.map_none]; done))))
          refine W_ret ?_; try (repeat (first | refine thenI ?_ | refine thenE ?_ | refine thenR ?_ | refine inBI ?_ | refine inBR ?_ | refine inBS ?_ | refine inBN (by decide) ?_))
          refine fin1 (.inl rfl) (by (simp (disch := omega) only [go_sem, ↓reduceIte, Nat.reduceEqDiff, Nat.reduceAdd, Nat.reduceLeDiff, hlen, hix, w_index, ev_index, nc_h, okPtr_h, cellAt_h, hsc, e0, e3, c0, hxb']); try rfl) rfl ⟨rfl, set_at hs, set_away, by simp⟩
  · have c0 : decide ((j : Int) < (w.size : Int)) = false := decide_eq_false (by omega)
    have ht := tw_at (p := alnum) (j := j) hal (fun x hx => by
      have := (List.getElem?_eq_some_iff.1 hx).1
      rw [← size_list] at this
      omega)
    rw [ht.1, ht.2, ← extract_h, ← extract_l]
    have hsl1 : flatRun Tryd.prog (Instr.sliceAt 9 (.string w) none (some (.int .i64 (j : Int))) none) = some (.string (w.extract 0 j)) := by simpa using sliceS_h (P := Tryd.prog) (t := 9) (s := w) (k := .i64) (h := (j : Int)) Tryd.underlying9 (by omega) (by omega)
    have hsl2 : flatRun Tryd.prog (Instr.sliceAt 9 (.string w) (some (.int .i64 (j : Int))) none none) = some (.string (w.extract j w.size)) := by simpa using sliceS_l (P := Tryd.prog) (t := 9) (s := w) (k := .i64) (l := (j : Int)) Tryd.underlying9 (by omega) (by omega)
    have hset := src_set hs
    repeat (first | (refine W_reg rfl fun G K hG hK => ?_; simp (disch := omega) only [go_sem, ↓reduceIte, Nat.reduceEqDiff, Nat.reduceAdd, Nat.reduceLeDiff, hG, hlen, hix, w_index, ev_index, nc_h, okPtr_h, cellAt_h, hsc, e0, e3, c0, c0]; refine hK _ _ ?_; clear hK K hG G) | (refine W_end rfl fun G K hG hK => ?_; simp (disch := omega) only [go_sem, ↓reduceIte, Nat.reduceEqDiff, Nat.reduceAdd, Nat.reduceLeDiff, hG, hlen, hix, w_index, ev_index, nc_h, okPtr_h, cellAt_h, hsc, e0, e3, c0, c0]; refine hK _ _ ?_; clear hK K hG G; repeat (first | refine thenI ?_ | refine thenE ?_ | refine thenR ?_ | refine inBI ?_ | refine inBR ?_ | refine inBS ?_ | refine inBN (by decide) ?_)) | refine W_seqS ?_ | refine W_seqC ?_ | refine W_seqB ?_ | refine W_block ?_ | (refine W_skip ?_; repeat (first | refine thenI ?_ | refine thenE ?_ | refine thenR ?_ | refine inBI ?_ | refine inBR ?_ | refine inBS ?_ | refine inBN (by decide) ?_)) | (refine W_condT ?hc ?_; (case hc => (simp (disch := omega) only [go_sem, ↓reduceIte, Nat.reduceEqDiff, Nat.reduceAdd, Nat.reduceLeDiff, hlen, hix, w_index, ev_index, nc_h, okPtr_h, cellAt_h, hsc, e0, e3, c0, c0]; done))) | (refine W_condF ?hc ?_; (case hc => (simp (disch := omega) only [go_sem, ↓reduceIte, Nat.reduceEqDiff, Nat.reduceAdd, Nat.reduceLeDiff, hlen, hix, w_index, ev_index, nc_h, okPtr_h, cellAt_h, hsc, e0, e3, c0, c0]; done))))
    refine W_exit ?_; repeat (first | refine thenI ?_ | refine thenE ?_ | refine thenR ?_ | refine inBI ?_ | refine inBR ?_ | refine inBS ?_ | refine inBN (by decide) ?_)
    repeat (first | (refine W_reg rfl fun G K hG hK => ?_; simp (disch := omega) only [go_sem, ↓reduceIte, Nat.reduceEqDiff, Nat.reduceAdd, Nat.reduceLeDiff, hG, hlen, hix, w_index, ev_index, nc_h, okPtr_h, cellAt_h, hsc, e0, e3, c0, w_slice, ev_slice, hsl1, hsl2, hset, flat_s, flat_i, Option.all_some, Option.map_some, Option.all_none, Option.map_none]; refine hK _ _ ?_; clear hK K hG G) | (refine W_end rfl fun G K hG hK => ?_; simp (disch := omega) only [go_sem, ↓reduceIte, Nat.reduceEqDiff, Nat.reduceAdd, Nat.reduceLeDiff, hG, hlen, hix, w_index, ev_index, nc_h, okPtr_h, cellAt_h, hsc, e0, e3, c0, w_slice, ev_slice, hsl1, hsl2, hset, flat_s, flat_i, Option.all_some, Option.map_some, Option.all_none, Option.map_none]; refine hK _ _ ?_; clear hK K hG G; repeat (first | refine thenI ?_ | refine thenE ?_ | refine thenR ?_ | refine inBI ?_ | refine inBR ?_ | refine inBS ?_ | refine inBN (by decide) ?_)) | refine W_seqS ?_ | refine W_seqC ?_ | refine W_seqB ?_ | refine W_block ?_ | (refine W_skip ?_; repeat (first | refine thenI ?_ | refine thenE ?_ | refine thenR ?_ | refine inBI ?_ | refine inBR ?_ | refine inBS ?_ | refine inBN (by decide) ?_)) | (refine W_condT ?hc ?_; (case hc => (simp (disch := omega) only [go_sem, ↓reduceIte, Nat.reduceEqDiff, Nat.reduceAdd, Nat.reduceLeDiff, hlen, hix, w_index, ev_index, nc_h, okPtr_h, cellAt_h, hsc, e0, e3, c0, w_slice, ev_slice, hsl1, hsl2, hset, flat_s, flat_i, Option.all_some, Option.map_some, Option.all_none, Option.map_none]; done))) | (refine W_condF ?hc ?_; (case hc => (simp (disch := omega) only [go_sem, ↓reduceIte, Nat.reduceEqDiff, Nat.reduceAdd, Nat.reduceLeDiff, hlen, hix, w_index, ev_index, nc_h, okPtr_h, cellAt_h, hsc, e0, e3, c0, w_slice, ev_slice, hsl1, hsl2, hset, flat_s, flat_i, Option.all_some, Option.map_some, Option.all_none, Option.map_none]; done))))
    refine W_ret ?_; try (repeat (first | refine thenI ?_ | refine thenE ?_ | refine thenR ?_ | refine inBI ?_ | refine inBR ?_ | refine inBS ?_ | refine inBN (by decide) ?_))
    refine fin1 (.inl rfl) (by (simp (disch := omega) only [go_sem, ↓reduceIte, Nat.reduceEqDiff, Nat.reduceAdd, Nat.reduceLeDiff, hlen, hix, w_index, ev_index, nc_h, okPtr_h, cellAt_h, hsc, e0, e3, c0]); try rfl) rfl ⟨rfl, set_at hs, set_away, by simp⟩
/-- Does the text begin so? -/
def preB (w p : ByteArray) : Bool := decide (w.data.toList.take p.size = p.data.toList)
theorem ba_eqb {a b : ByteArray} : (a.toList == b.toList) = decide (a = b) := by
  rw [ByteArray.toList_eq, ByteArray.toList_eq]
  by_cases h : a = b
  · subst h; simp
  · have : ¬ a.data = b.data := fun e => h (ByteArray.ext e)
    simp [h, this]
theorem baL_list (l : List UInt8) : (baL l).data.toList = l := by simp [baL]
theorem preB_eq {w p : ByteArray} : ((baL (w.data.toList.take p.size)).toList == p.toList) = preB w p := by
  rw [ba_eqb]
  unfold preB
  by_cases h : w.data.toList.take p.size = p.data.toList
  · rw [decide_eq_true h, h, baL_toList]
    simp
  · rw [decide_eq_false h]
    exact decide_eq_false fun e => h (by rw [← e, baL_list]; rw [e])
theorem hasPre_ok (w p : ByteArray) (st : St) (hb : w.size ≤ 1073741824) (hb2 : p.size ≤ 1073741824) :
    CallS Tryd.prog 72 [.string w, .string p] st fun r st2 => r = .bool (preB w p) ∧ st2 = st := by
  refine CallS_of_W [] 18 Tryd.func72 rfl rfl rfl rfl (by simp) ?_
  have hlen := fun (s : ByteArray) => (len_str Tryd.underlying9 : lenE Tryd.prog 9 (.string s) = some (.int .i64 s.size))
  by_cases h : w.size ≥ p.size
  · have c1 : decide ((w.size : Int) ≥ (p.size : Int)) = true := decide_eq_true (by omega)
    have hsl : flatRun Tryd.prog (Instr.sliceAt 9 (.string w) none (some (.int .i64 (p.size : Int))) none) = some (.string (baL (w.data.toList.take p.size))) := by
      rw [← extract_h]
      simpa using sliceS_h (P := Tryd.prog) (t := 9) (s := w) (k := .i64) (h := (p.size : Int)) Tryd.underlying9 (by omega) (by omega)
    have he := preB_eq (w := w) (p := p)
    repeat (first | (refine W_reg rfl fun G K hG hK => ?_; simp (disch := omega) only [go_sem, ↓reduceIte, Nat.reduceEqDiff, Nat.reduceAdd, Nat.reduceLeDiff, hG, hlen, c1, w_slice, ev_slice, hsl, he, flat_s, flat_i, Option.all_some, Option.map_some, Option.all_none, Option.map_none]; refine hK _ _ ?_; clear hK K hG G) | (refine W_end rfl fun G K hG hK => ?_; simp (disch := omega) only [go_sem, ↓reduceIte, Nat.reduceEqDiff, Nat.reduceAdd, Nat.reduceLeDiff, hG, hlen, c1, w_slice, ev_slice, hsl, he, flat_s, flat_i, Option.all_some, Option.map_some, Option.all_none, Option.map_none]; refine hK _ _ ?_; clear hK K hG G; repeat (first | refine thenI ?_ | refine thenE ?_ | refine thenR ?_ | refine inBI ?_ | refine inBR ?_ | refine inBS ?_ | refine inBN (by decide) ?_)) | refine W_seqS ?_ | refine W_seqC ?_ | refine W_seqB ?_ | refine W_block ?_ | (refine W_skip ?_; repeat (first | refine thenI ?_ | refine thenE ?_ | refine thenR ?_ | refine inBI ?_ | refine inBR ?_ | refine inBS ?_ | refine inBN (by decide) ?_)) | (refine W_condT ?hc ?_; (case hc => (simp (disch := omega) only [go_sem, ↓reduceIte, Nat.reduceEqDiff, Nat.reduceAdd, Nat.reduceLeDiff, hlen, c1, w_slice, ev_slice, hsl, he, flat_s, flat_i, Option.all_some, Option.map_some, Option.all_none, Option.map_none]; done))) | (refine W_condF ?hc ?_; (case hc => (simp (disch := omega) only [go_sem, ↓reduceIte, Nat.reduceEqDiff, Nat.reduceAdd, Nat.reduceLeDiff, hlen, c1, w_slice, ev_slice, hsl, he, flat_s, flat_i, Option.all_some, Option.map_some, Option.all_none, Option.map_none]; done))))
    refine W_ret ?_; try (repeat (first | refine thenI ?_ | refine thenE ?_ | refine thenR ?_ | refine inBI ?_ | refine inBR ?_ | refine inBS ?_ | refine inBN (by decide) ?_))
    refine fin1 (.inl rfl) (by (simp (disch := omega) only [go_sem, ↓reduceIte, Nat.reduceEqDiff, Nat.reduceAdd, Nat.reduceLeDiff, hlen]); try rfl) rfl ⟨rfl, rfl⟩
  · have c1 : decide ((w.size : Int) ≥ (p.size : Int)) = false := decide_eq_false (by omega)
    repeat (first | (refine W_reg rfl fun G K hG hK => ?_; simp (disch := omega) only [go_sem, ↓reduceIte, Nat.reduceEqDiff, Nat.reduceAdd, Nat.reduceLeDiff, hG, hlen, c1]; refine hK _ _ ?_; clear hK K hG G) | (refine W_end rfl fun G K hG hK => ?_; simp (disch := omega) only [go_sem, ↓reduceIte, Nat.reduceEqDiff, Nat.reduceAdd, Nat.reduceLeDiff, hG, hlen, c1]; refine hK _ _ ?_; clear hK K hG G; repeat (first | refine thenI ?_ | refine thenE ?_ | refine thenR ?_ | refine inBI ?_ | refine inBR ?_ | refine inBS ?_ | refine inBN (by decide) ?_)) | refine W_seqS ?_ | refine W_seqC ?_ | refine W_seqB ?_ | refine W_block ?_ | (refine W_skip ?_; repeat (first | refine thenI ?_ | refine thenE ?_ | refine thenR ?_ | refine inBI ?_ | refine inBR ?_ | refine inBS ?_ | refine inBN (by decide) ?_)) | (refine W_condT ?hc ?_; (case hc => (simp (disch := omega) only [go_sem, ↓reduceIte, Nat.reduceEqDiff, Nat.reduceAdd, Nat.reduceLeDiff, hlen, c1]; done))) | (refine W_condF ?hc ?_; (case hc => (simp (disch := omega) only [go_sem, ↓reduceIte, Nat.reduceEqDiff, Nat.reduceAdd, Nat.reduceLeDiff, hlen, c1]; done))))
    refine W_ret ?_; try (repeat (first | refine thenI ?_ | refine thenE ?_ | refine thenR ?_ | refine inBI ?_ | refine inBR ?_ | refine inBS ?_ | refine inBN (by decide) ?_))
    refine fin1 (.inl rfl) (by (simp (disch := omega) only [go_sem, ↓reduceIte, Nat.reduceEqDiff, Nat.reduceAdd, Nat.reduceLeDiff, hlen]); try rfl) rfl ⟨?_, rfl⟩
    have : preB w p = false := decide_eq_false fun e => by
      have := congrArg List.length e
      rw [List.length_take, ← size_list, ← size_list] at this
      omega
    rw [this]
theorem preB_le {w p : ByteArray} (h : preB w p = true) : p.size ≤ w.size := by
  have := congrArg List.length (of_decide_eq_true h)
  rw [List.length_take, ← size_list, ← size_list] at this
  omega
/-- What is left behind a beginning. -/
def cutB (w p : ByteArray) : ByteArray := if preB w p = true then baL (w.data.toList.drop p.size) else w
theorem cutL_ok (w p : ByteArray) (st : St) (hb : w.size ≤ 1073741824) (hb2 : p.size ≤ 1073741824) :
    CallS Tryd.prog 65 [.string w, .string p] st fun r st2 => r = .tuple #[.string (cutB w p), .bool (preB w p)] ∧ st2 = st := by
  refine CallS_of_W [] 15 Tryd.func65 rfl rfl rfl rfl (by simp) ?_
  have hlen := fun (s : ByteArray) => (len_str Tryd.underlying9 : lenE Tryd.prog 9 (.string s) = some (.int .i64 s.size))
  repeat (first | (refine W_reg rfl fun G K hG hK => ?_; simp (disch := omega) only [go_sem, ↓reduceIte, Nat.reduceEqDiff, Nat.reduceAdd, Nat.reduceLeDiff, hG, hlen]; refine hK _ _ ?_; clear hK K hG G) | (refine W_end rfl fun G K hG hK => ?_; simp (disch := omega) only [go_sem, ↓reduceIte, Nat.reduceEqDiff, Nat.reduceAdd, Nat.reduceLeDiff, hG, hlen]; refine hK _ _ ?_; clear hK K hG G; repeat (first | refine thenI ?_ | refine thenE ?_ | refine thenR ?_ | refine inBI ?_ | refine inBR ?_ | refine inBS ?_ | refine inBN (by decide) ?_)) | refine W_seqS ?_ | refine W_seqC ?_ | refine W_seqB ?_ | refine W_block ?_ | (refine W_skip ?_; repeat (first | refine thenI ?_ | refine thenE ?_ | refine thenR ?_ | refine inBI ?_ | refine inBR ?_ | refine inBS ?_ | refine inBN (by decide) ?_)) | (refine W_condT ?hc ?_; (case hc => (simp (disch := omega) only [go_sem, ↓reduceIte, Nat.reduceEqDiff, Nat.reduceAdd, Nat.reduceLeDiff, hlen]; done))) | (refine W_condF ?hc ?_; (case hc => (simp (disch := omega) only [go_sem, ↓reduceIte, Nat.reduceEqDiff, Nat.reduceAdd, Nat.reduceLeDiff, hlen]; done))))
  (repeat (first | refine W_seqS ?_ | refine W_seqC ?_ | refine W_seqB ?_ | refine W_block ?_)); refine W_reg rfl fun G K hG hK => ?_; simp (disch := omega) only [go_sem, ↓reduceIte, Nat.reduceEqDiff, Nat.reduceAdd, Nat.reduceLeDiff, hG, hlen]
  refine w_call (hasPre_ok w p st hb hb2) (by simp (disch := omega) only [go_sem, ↓reduceIte, Nat.reduceEqDiff, hlen]) ?hl ?_
  case hl => first | rfl | (simp only [go_sem, List.all_cons, List.all_nil, Bool.not_false, Bool.and_self, hlen]; done)
  rintro r_ st ⟨rfl, rfl⟩; refine ⟨fun e => (by cases e), ?_⟩
  cases hp : preB w p with
  | false =>
    simp (disch := omega) only [go_sem, ↓reduceIte, Nat.reduceEqDiff, Nat.reduceAdd, Nat.reduceLeDiff, hG, hlen]; refine hK _ _ ?_; clear hK K hG G; repeat (first | refine thenI ?_ | refine thenE ?_ | refine thenR ?_ | refine inBI ?_ | refine inBR ?_ | refine inBS ?_ | refine inBN (by decide) ?_)
    repeat (first | (refine W_reg rfl fun G K hG hK => ?_; simp (disch := omega) only [go_sem, ↓reduceIte, Nat.reduceEqDiff, Nat.reduceAdd, Nat.reduceLeDiff, hG, hlen]; refine hK _ _ ?_; clear hK K hG G) | (refine W_end rfl fun G K hG hK => ?_; simp (disch := omega) only [go_sem, ↓reduceIte, Nat.reduceEqDiff, Nat.reduceAdd, Nat.reduceLeDiff, hG, hlen]; refine hK _ _ ?_; clear hK K hG G; repeat (first | refine thenI ?_ | refine thenE ?_ | refine thenR ?_ | refine inBI ?_ | refine inBR ?_ | refine inBS ?_ | refine inBN (by decide) ?_)) | refine W_seqS ?_ | refine W_seqC ?_ | refine W_seqB ?_ | refine W_block ?_ | (refine W_skip ?_; repeat (first | refine thenI ?_ | refine thenE ?_ | refine thenR ?_ | refine inBI ?_ | refine inBR ?_ | refine inBS ?_ | refine inBN (by decide) ?_)) | (refine W_condT ?hc ?_; (case hc => (simp (disch := omega) only [go_sem, ↓reduceIte, Nat.reduceEqDiff, Nat.reduceAdd, Nat.reduceLeDiff, hlen]; done))) | (refine W_condF ?hc ?_; (case hc => (simp (disch := omega) only [go_sem, ↓reduceIte, Nat.reduceEqDiff, Nat.reduceAdd, Nat.reduceLeDiff, hlen]; done))))
    refine W_ret ?_; try (repeat (first | refine thenI ?_ | refine thenE ?_ | refine thenR ?_ | refine inBI ?_ | refine inBR ?_ | refine inBS ?_ | refine inBN (by decide) ?_))
    refine fin2 (.inl rfl) (by (simp (disch := omega) only [go_sem, ↓reduceIte, Nat.reduceEqDiff, Nat.reduceAdd, Nat.reduceLeDiff, hlen]); try rfl) rfl (by (simp (disch := omega) only [go_sem, ↓reduceIte, Nat.reduceEqDiff, Nat.reduceAdd, Nat.reduceLeDiff, hlen]); try rfl) rfl ⟨by unfold cutB; rw [if_neg (by rw [hp]; simp), hp], rfl⟩
  | true =>
    have hle := preB_le hp
    have hsl : flatRun Tryd.prog (Instr.sliceAt 9 (.string w) (some (.int .i64 (p.size : Int))) none none) = some (.string (baL (w.data.toList.drop p.size))) := by
      rw [← extract_l]
      simpa using sliceS_l (P := Tryd.prog) (t := 9) (s := w) (k := .i64) (l := (p.size : Int)) Tryd.underlying9 (by omega) (by omega)
    simp (disch := omega) only [go_sem, ↓reduceIte, Nat.reduceEqDiff, Nat.reduceAdd, Nat.reduceLeDiff, hG, hlen]; refine hK _ _ ?_; clear hK K hG G; repeat (first | refine thenI ?_ | refine thenE ?_ | refine thenR ?_ | refine inBI ?_ | refine inBR ?_ | refine inBS ?_ | refine inBN (by decide) ?_)
    repeat (first | (refine W_reg rfl fun G K hG hK => ?_; simp (disch := omega) only [go_sem, ↓reduceIte, Nat.reduceEqDiff, Nat.reduceAdd, Nat.reduceLeDiff, hG, hlen, w_slice, ev_slice, hsl, flat_s, flat_i, Option.all_some, Option.map_some, Option.all_none, Option.map_none]; refine hK _ _ ?_; clear hK K hG G) | (refine W_end rfl fun G K hG hK => ?_; simp (disch := omega) only [go_sem, ↓reduceIte, Nat.reduceEqDiff, Nat.reduceAdd, Nat.reduceLeDiff, hG, hlen, w_slice, ev_slice, hsl, flat_s, flat_i, Option.all_some, Option.map_some, Option.all_none, Option.map_none]; refine hK _ _ ?_; clear hK K hG G; repeat (first | refine thenI ?_ | refine thenE ?_ | refine thenR ?_ | refine inBI ?_ | refine inBR ?_ | refine inBS ?_ | refine inBN (by decide) ?_)) | refine W_seqS ?_ | refine W_seqC ?_ | refine W_seqB ?_ | refine W_block ?_ | (refine W_skip ?_; repeat (first | refine thenI ?_ | refine thenE ?_ | refine thenR ?_ | refine inBI ?_ | refine inBR ?_ | refine inBS ?_ | refine inBN (by decide) ?_)) | (refine W_condT ?hc ?_; (case hc => (simp (disch := omega) only [go_sem, ↓reduceIte, Nat.reduceEqDiff, Nat.reduceAdd, Nat.reduceLeDiff, hlen, w_slice, ev_slice, hsl, flat_s, flat_i, Option.all_some, Option.map_some, Option.all_none, Option.map_none]; done))) | (refine W_condF ?hc ?_; (case hc => (simp (disch := omega) only [go_sem, ↓reduceIte, Nat.reduceEqDiff, Nat.reduceAdd, Nat.reduceLeDiff, hlen, w_slice, ev_slice, hsl, flat_s, flat_i, Option.all_some, Option.map_some, Option.all_none, Option.map_none]; done))))
    refine W_ret ?_; try (repeat (first | refine thenI ?_ | refine thenE ?_ | refine thenR ?_ | refine inBI ?_ | refine inBR ?_ | refine inBS ?_ | refine inBN (by decide) ?_))
    refine fin2 (.inl rfl) (by (simp (disch := omega) only [go_sem, ↓reduceIte, Nat.reduceEqDiff, Nat.reduceAdd, Nat.reduceLeDiff, hlen]); try rfl) rfl (by (simp (disch := omega) only [go_sem, ↓reduceIte, Nat.reduceEqDiff, Nat.reduceAdd, Nat.reduceLeDiff, hlen]); try rfl) rfl ⟨by unfold cutB; rw [if_pos hp, hp], rfl⟩
theorem cut_ok (w p : ByteArray) (st : St) (hb : w.size ≤ 1073741824) (hb2 : p.size ≤ 1073741824) :
    CallS Tryd.prog 56 [.string w, .string p] st fun r st2 => r = .tuple #[.string (cutB w p), .bool (preB w p)] ∧ st2 = st := by
  refine CallS_of_W [] 11 Tryd.func56 rfl rfl rfl rfl (by simp) ?_
  repeat (first | (refine W_reg rfl fun G K hG hK => ?_; simp (disch := omega) only [go_sem, ↓reduceIte, Nat.reduceEqDiff, Nat.reduceAdd, Nat.reduceLeDiff, hG]; refine hK _ _ ?_; clear hK K hG G) | (refine W_end rfl fun G K hG hK => ?_; simp (disch := omega) only [go_sem, ↓reduceIte, Nat.reduceEqDiff, Nat.reduceAdd, Nat.reduceLeDiff, hG]; refine hK _ _ ?_; clear hK K hG G; repeat (first | refine thenI ?_ | refine thenE ?_ | refine thenR ?_ | refine inBI ?_ | refine inBR ?_ | refine inBS ?_ | refine inBN (by decide) ?_)) | refine W_seqS ?_ | refine W_seqC ?_ | refine W_seqB ?_ | refine W_block ?_ | (refine W_skip ?_; repeat (first | refine thenI ?_ | refine thenE ?_ | refine thenR ?_ | refine inBI ?_ | refine inBR ?_ | refine inBS ?_ | refine inBN (by decide) ?_)) | (refine W_condT ?hc ?_; (case hc => (simp (disch := omega) only [go_sem, ↓reduceIte, Nat.reduceEqDiff, Nat.reduceAdd, Nat.reduceLeDiff]; done))) | (refine W_condF ?hc ?_; (case hc => (simp (disch := omega) only [go_sem, ↓reduceIte, Nat.reduceEqDiff, Nat.reduceAdd, Nat.reduceLeDiff]; done))))
  (repeat (first | refine W_seqS ?_ | refine W_seqC ?_ | refine W_seqB ?_ | refine W_block ?_)); refine W_reg rfl fun G K hG hK => ?_; simp (disch := omega) only [go_sem, ↓reduceIte, Nat.reduceEqDiff, Nat.reduceAdd, Nat.reduceLeDiff, hG]
  refine w_call (cutL_ok w p st hb hb2) (by simp (disch := omega) only [go_sem, ↓reduceIte, Nat.reduceEqDiff]) ?hl ?_
  case hl => first | rfl | (simp only [go_sem, List.all_cons, List.all_nil, Bool.not_false, Bool.and_self]; done)
  rintro r_ st ⟨rfl, rfl⟩; refine ⟨fun e => (by cases e), ?_⟩
  simp (disch := omega) only [go_sem, ↓reduceIte, Nat.reduceEqDiff, Nat.reduceAdd, Nat.reduceLeDiff, hG]; refine hK _ _ ?_; clear hK K hG G; repeat (first | refine thenI ?_ | refine thenE ?_ | refine thenR ?_ | refine inBI ?_ | refine inBR ?_ | refine inBS ?_ | refine inBN (by decide) ?_)
  refine W_ret ?_; try (repeat (first | refine thenI ?_ | refine thenE ?_ | refine thenR ?_ | refine inBI ?_ | refine inBR ?_ | refine inBS ?_ | refine inBN (by decide) ?_))
  refine fin2 (.inl rfl) (by (simp (disch := omega) only [go_sem, ↓reduceIte, Nat.reduceEqDiff, Nat.reduceAdd, Nat.reduceLeDiff]); try rfl) rfl (by (simp (disch := omega) only [go_sem, ↓reduceIte, Nat.reduceEqDiff, Nat.reduceAdd, Nat.reduceLeDiff]); try rfl) rfl ⟨rfl, rfl⟩
theorem take_ok (q : Nat) (w p : ByteArray) (st : St) (hb : w.size ≤ 1073741824) (hb2 : p.size ≤ 1073741824) (hs : Src st q w) :
    CallS Tryd.prog 40 [.pointer (some ⟨q, 0, none⟩), .string p] st fun r st2 => r = .bool (preB w p) ∧ Src st2 q (cutB w p) ∧ Away (some q) st st2 ∧ st2.length = st.length := by
  refine CallS_of_W [] 22 Tryd.func40 rfl rfl rfl rfl (by simp) ?_
  have hsc := src_cell hs
  have hset := src_set hs
  repeat (first | (refine W_reg rfl fun G K hG hK => ?_; simp (disch := omega) only [go_sem, ↓reduceIte, Nat.reduceEqDiff, Nat.reduceAdd, Nat.reduceLeDiff, hG, nc_h, okPtr_h, cellAt_h, hsc]; refine hK _ _ ?_; clear hK K hG G) | (refine W_end rfl fun G K hG hK => ?_; simp (disch := omega) only [go_sem, ↓reduceIte, Nat.reduceEqDiff, Nat.reduceAdd, Nat.reduceLeDiff, hG, nc_h, okPtr_h, cellAt_h, hsc]; refine hK _ _ ?_; clear hK K hG G; repeat (first | refine thenI ?_ | refine thenE ?_ | refine thenR ?_ | refine inBI ?_ | refine inBR ?_ | refine inBS ?_ | refine inBN (by decide) ?_)) | refine W_seqS ?_ | refine W_seqC ?_ | refine W_seqB ?_ | refine W_block ?_ | (refine W_skip ?_; repeat (first | refine thenI ?_ | refine thenE ?_ | refine thenR ?_ | refine inBI ?_ | refine inBR ?_ | refine inBS ?_ | refine inBN (by decide) ?_)) | (refine W_condT ?hc ?_; (case hc => (simp (disch := omega) only [go_sem, ↓reduceIte, Nat.reduceEqDiff, Nat.reduceAdd, Nat.reduceLeDiff, nc_h, okPtr_h, cellAt_h, hsc]; done))) | (refine W_condF ?hc ?_; (case hc => (simp (disch := omega) only [go_sem, ↓reduceIte, Nat.reduceEqDiff, Nat.reduceAdd, Nat.reduceLeDiff, nc_h, okPtr_h, cellAt_h, hsc]; done))))
  (repeat (first | refine W_seqS ?_ | refine W_seqC ?_ | refine W_seqB ?_ | refine W_block ?_)); refine W_reg rfl fun G K hG hK => ?_; simp (disch := omega) only [go_sem, ↓reduceIte, Nat.reduceEqDiff, Nat.reduceAdd, Nat.reduceLeDiff, hG, nc_h, okPtr_h, cellAt_h, hsc]
  refine w_call (cut_ok w p st hb hb2) (by simp (disch := omega) only [go_sem, ↓reduceIte, Nat.reduceEqDiff, nc_h, okPtr_h, cellAt_h, hsc]) ?hl ?_
  case hl => first | rfl | (simp only [go_sem, List.all_cons, List.all_nil, Bool.not_false, Bool.and_self, nc_h, okPtr_h, cellAt_h, hsc]; done)
  rintro r_ st ⟨rfl, rfl⟩; refine ⟨fun e => (by cases e), ?_⟩
  cases hp : preB w p with
  | false =>
    simp (disch := omega) only [go_sem, ↓reduceIte, Nat.reduceEqDiff, Nat.reduceAdd, Nat.reduceLeDiff, hG, nc_h, okPtr_h, cellAt_h, hsc]; refine hK _ _ ?_; clear hK K hG G; repeat (first | refine thenI ?_ | refine thenE ?_ | refine thenR ?_ | refine inBI ?_ | refine inBR ?_ | refine inBS ?_ | refine inBN (by decide) ?_)
    repeat (first | (refine W_reg rfl fun G K hG hK => ?_; simp (disch := omega) only [go_sem, ↓reduceIte, Nat.reduceEqDiff, Nat.reduceAdd, Nat.reduceLeDiff, hG, nc_h, okPtr_h, cellAt_h, hsc]; refine hK _ _ ?_; clear hK K hG G) | (refine W_end rfl fun G K hG hK => ?_; simp (disch := omega) only [go_sem, ↓reduceIte, Nat.reduceEqDiff, Nat.reduceAdd, Nat.reduceLeDiff, hG, nc_h, okPtr_h, cellAt_h, hsc]; refine hK _ _ ?_; clear hK K hG G; repeat (first | refine thenI ?_ | refine thenE ?_ | refine thenR ?_ | refine inBI ?_ | refine inBR ?_ | refine inBS ?_ | refine inBN (by decide) ?_)) | refine W_seqS ?_ | refine W_seqC ?_ | refine W_seqB ?_ | refine W_block ?_ | (refine W_skip ?_; repeat (first | refine thenI ?_ | refine thenE ?_ | refine thenR ?_ | refine inBI ?_ | refine inBR ?_ | refine inBS ?_ | refine inBN (by decide) ?_)) | (refine W_condT ?hc ?_; (case hc => (simp (disch := omega) only [go_sem, ↓reduceIte, Nat.reduceEqDiff, Nat.reduceAdd, Nat.reduceLeDiff, nc_h, okPtr_h, cellAt_h, hsc]; done))) | (refine W_condF ?hc ?_; (case hc => (simp (disch := omega) only [go_sem, ↓reduceIte, Nat.reduceEqDiff, Nat.reduceAdd, Nat.reduceLeDiff, nc_h, okPtr_h, cellAt_h, hsc]; done))))
    refine W_ret ?_; try (repeat (first | refine thenI ?_ | refine thenE ?_ | refine thenR ?_ | refine inBI ?_ | refine inBR ?_ | refine inBS ?_ | refine inBN (by decide) ?_))
    refine fin1 (.inl rfl) (by (simp (disch := omega) only [go_sem, ↓reduceIte, Nat.reduceEqDiff, Nat.reduceAdd, Nat.reduceLeDiff, nc_h, okPtr_h, cellAt_h, hsc]); try rfl) rfl ⟨by rw [hp], by unfold cutB; rw [if_neg (by rw [hp]; simp)]; exact hs, .refl _ _, rfl⟩
  | true =>
    simp (disch := omega) only [go_sem, ↓reduceIte, Nat.reduceEqDiff, Nat.reduceAdd, Nat.reduceLeDiff, hG, nc_h, okPtr_h, cellAt_h, hsc]; refine hK _ _ ?_; clear hK K hG G; repeat (first | refine thenI ?_ | refine thenE ?_ | refine thenR ?_ | refine inBI ?_ | refine inBR ?_ | refine inBS ?_ | refine inBN (by decide) ?_)
    repeat (first | (refine W_reg rfl fun G K hG hK => ?_; simp (disch := omega) only [go_sem, ↓reduceIte, Nat.reduceEqDiff, Nat.reduceAdd, Nat.reduceLeDiff, hG, nc_h, okPtr_h, cellAt_h, hsc, hset]; refine hK _ _ ?_; clear hK K hG G) | (refine W_end rfl fun G K hG hK => ?_; simp (disch := omega) only [go_sem, ↓reduceIte, Nat.reduceEqDiff, Nat.reduceAdd, Nat.reduceLeDiff, hG, nc_h, okPtr_h, cellAt_h, hsc, hset]; refine hK _ _ ?_; clear hK K hG G; repeat (first | refine thenI ?_ | refine thenE ?_ | refine thenR ?_ | refine inBI ?_ | refine inBR ?_ | refine inBS ?_ | refine inBN (by decide) ?_)) | refine W_seqS ?_ | refine W_seqC ?_ | refine W_seqB ?_ | refine W_block ?_ | (refine W_skip ?_; repeat (first | refine thenI ?_ | refine thenE ?_ | refine thenR ?_ | refine inBI ?_ | refine inBR ?_ | refine inBS ?_ | refine inBN (by decide) ?_)) | (refine W_condT ?hc ?_; (case hc => (simp (disch := omega) only [go_sem, ↓reduceIte, Nat.reduceEqDiff, Nat.reduceAdd, Nat.reduceLeDiff, nc_h, okPtr_h, cellAt_h, hsc, hset]; done))) | (refine W_condF ?hc ?_; (case hc => (simp (disch := omega) only [go_sem, ↓reduceIte, Nat.reduceEqDiff, Nat.reduceAdd, Nat.reduceLeDiff, nc_h, okPtr_h, cellAt_h, hsc, hset]; done))))
    refine W_ret ?_; try (repeat (first | refine thenI ?_ | refine thenE ?_ | refine thenR ?_ | refine inBI ?_ | refine inBR ?_ | refine inBS ?_ | refine inBN (by decide) ?_))
    refine fin1 (.inl rfl) (by (simp (disch := omega) only [go_sem, ↓reduceIte, Nat.reduceEqDiff, Nat.reduceAdd, Nat.reduceLeDiff, nc_h, okPtr_h, cellAt_h, hsc]); try rfl) rfl ⟨by rw [hp], set_at hs, set_away, by simp⟩

end

section
/- Rows of strings: laws.toStringS, laws.szStringS, laws.eqStringS, laws.markStringS, laws.heldStringS. -/
open Go Go.Proofs
set_option linter.unusedVariables false
set_option linter.unusedSimpArgs false
set_option maxRecDepth 100000
-- AUTO

theorem row_atS {st : St} {xs : List ByteArray} {s : Value} (h : Rw st xs s) {j : Nat} {x : ByteArray} (hx : xs[j]? = some x) {n : Nat} (hn : xs.length = n := by rfl) : ∃ i o c, s = .slice (some ⟨i, o, none⟩) n c ∧ cell st i (o + j * 1) = some (.string x) := by
  subst hn
  obtain ⟨i, o, c, cs, rfl, _, rfl, hc⟩ := row_at h hx
  exact ⟨i, o, c, rfl, hc 0 _ rfl⟩


end

section
/- Names are sorted: spec.SortNames. -/
open Go Go.Proofs
set_option linter.unusedVariables false
set_option linter.unusedSimpArgs false
set_option maxRecDepth 100000
-- AUTO

/-- A string is put behind a row of one's own. -/
theorem OwnS.step {n0 : Nat} {st st2 : St} {xs : List ByteArray} {s : Value} {L : List Nat} {x : ByteArray} (h : Sl st xs s L) (hf : Fresh n0 L) (hn0 : n0 ≤ st.length) (hext : Ext st st2) (hbd : xs.length + 1 ≤ 274877906944) :
    ∃ s' st' L', appendA Tryd.prog 46 46 s (.slice (some ⟨st2.length, 0, none⟩) 1 1) (st2 ++ [⟨[.string x], 9, 0⟩]) = some (s', st') ∧ Sl st' (xs ++ [x]) s' L' ∧ Fresh n0 L' ∧ Grow st s st' s' :=
  Sl.push (α := ByteArray) Tryd.underlying46 Tryd.underlying46 sz9 rfl by9 ze9 rfl h hf hn0 hext ⟨rfl, rfl⟩ (.nil _) (by omega) (by omega)
theorem OwnS.join {n0 : Nat} {st st2 : St} {xs ys : List ByteArray} {s y : Value} {L : List Nat} (h : Sl st xs s L) (hf : Fresh n0 L) (hn0 : n0 ≤ st.length) (hext : Ext st st2) (hy : Rw st2 ys y) (hbd : xs.length + ys.length ≤ 274877906944) :
    ∃ s' st' L', appendA Tryd.prog 46 46 s y st2 = some (s', st') ∧ Sl st' (xs ++ ys) s' L' ∧ Fresh n0 L' ∧ Grow st2 s st' s' :=
  Sl.appRow (α := ByteArray) Tryd.underlying46 Tryd.underlying46 sz9 rfl by9 ze9 rfl h hf hn0 hext hy (by omega) (by omega)

end

section
/- What a pattern's variables take: spec.l3Vars, spec.VarsOfTerm, spec.RestrictSubst, spec.MatchTerm, IsInstance and IsVariant on both sides. -/
open Go Go.Proofs
set_option linter.unusedVariables false
set_option linter.unusedSimpArgs false
set_option maxRecDepth 100000
-- AUTO

/-- A row stays where another block alone has turned. -/
theorem Sl.away {α : Type} [Kind α] {a b : St} {xs : List α} {s : Value} {L : List Nat} {k : Option Nat} {n m : Nat} (h : Sl a xs s L) (hw : Away k a b) (hL : ∀ i ∈ L, n ≤ i ∧ i < m) (hk : ∀ q, k = some q → q < n ∨ m ≤ q) : Sl b xs s L :=
  h.frame fun i hi => hw.2 i (h.lt i hi) fun e => by
    have h1 := hL i hi
    have h2 := hk i e
    omega

end

end Go.Proofs.YtpkjgjomiikofaaDoor.AM