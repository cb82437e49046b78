/- My texts for the law, laid together (part 2): F8 F9 Q1 K2 N2 C17 D5 E1 L0 C21 Q2 Q3 A19 C4 Q5 Q6 F13. -/
import Derived.Test.YtkocgcdakdoeiaaDoorG1
import Derived.Test.YtkocgcdakdoeiaaDoorA3
import Derived.ChangeOld
import Derived.ChangeArms
import Derived.DataReads
import Derived.Test.YtkocgcdakdoeiaaDoorA18
/- Numbers are read: spec.l1Read, ParseInt and ParseNumber of both sides; the laws FnExactParseInt, FnExactParseNumber. -/
namespace Go.Proofs.YtkocgcdakdoeiaaDoor.AM
open Go Go.Proofs Go.Lib
set_option linter.unusedVariables false
set_option linter.unusedSimpArgs false
set_option maxRecDepth 100000
attribute [local go_sem] List.map_cons List.map_nil List.all_cons List.all_nil Bool.and_self Option.map_some List.getElem?_toArray Option.bind_some gye_b gye_t gsk_b gsk_t gb1 gb2 gb3 gb4 bne_self_eq_false beq_self_eq_true w_guard w_nil stepV_some step_some step_some' w_move w_assign w_pick w_binOp w_unOp w_load w_fieldAddr w_indexAddr w_len w_max w_index ev_max max_int ev_index w_box w_alloc w_store w_field w_extract w_nilCheck w_convert w_buildSlice w_build ev_buildL fillL_nil fillL_cons bs0 bs1 ev_conv ev_bin ev_un ev_pick ev_load ev_fieldAddr ev_indexAddr ev_len ev_field ev_extract ev_nilCheck fr_tmp fr_int fr_bool fr_str fr_nil fr_func put_some put_none bin_lss bin_leq bin_gtr bin_geq bin_eql bin_neq bin_add bin_sub bin_mul bin_seql bin_sneq un_not pick_ ext_ loadA_p cellAt_l cellAt_h okPtr_l okPtr_h fadA_p allocA_l storeA_l cells_agg cells_int cells_str cells_sl cells_bool flat_i flat_s flat_b flat_sl flat_nil loc_agg loc_int loc_str loc_sl loc_bool loc_fn loc_ptr okv_agg okv_int okv_str okv_sl okv_bool cellsFrom splice upd_eval argEnv_zero argEnv_succ ne_eq Nat.add_one_ne_zero not_false_eq_true List.not_mem_nil and_self decide_true List.getElem?_cons_zero List.getElem?_cons_succ List.size_toArray List.length_cons List.length_nil List.take_succ_cons List.take_zero List.drop_succ_cons List.drop_zero List.cons_append List.nil_append List.drop_nil Bool.not_true Bool.not_false Bool.false_eq_true Nat.zero_add Nat.add_zero wrap_in List.toList_toArray List.mem_cons or_self or_false false_or
attribute [local go_sem] ag22 ag3 ag43 ag5 ag50 ag9 bu41 bu72 bu80 by5 el22 el35 el39 of41_0 of41_1 of41_2 ro3_12 ro5_1 ro9_12 sz22 sz3 sz43 sz5 sz50 sz9 ze49 ze5 ze65
-- AUTO

theorem dec_cons_no {m : Nat} {x : UInt8} {r : List UInt8} (h : x.toNat < 48 ∨ 57 < x.toNat) : decFrom m (x :: r) = none := by
  have : digitVal x = none := by unfold digitVal; rw [if_neg (by omega)]
  simp only [decFrom, this]
theorem dec_cons {m : Nat} {x : UInt8} {r : List UInt8} (h0 : 48 ≤ x.toNat) (h1 : x.toNat ≤ 57) : decFrom m (x :: r) = decFrom (m * 10 + (x.toNat - 48)) r := by
  have : digitVal x = some (x.toNat - 48) := by unfold digitVal; rw [if_pos ⟨h0, h1⟩]
  simp only [decFrom, this]
theorem pow_most {j most : Nat} (h : j ≤ most) (hm : most ≤ 12) : 10 ^ j ≤ 1000000000000 := by
  have h1 := Nat.pow_le_pow_right (n := 10) (by decide) (Nat.le_trans h hm)
  have e : (10 : Nat) ^ 12 = 1000000000000 := by decide
  omega
theorem l1Read_ok (s : ByteArray) (most : Nat) (st : St) (hm12 : most ≤ 12) (hb : s.size ≤ 281474976710656) :
    CallS Tryd.prog 18 [.string s, .int .i64 (most : Int)] st fun r st2 => Ext st st2 ∧ NumQ (readN most s.data.toList) r := by
  refine CallS_of_W [] 63 Tryd.func18 rfl rfl rfl rfl (by simp) ?_
  have hlenA := fun (s : ByteArray) => (len_str Tryd.underlying9 : lenE Tryd.prog 9 (.string s) = some (.int .i64 s.size))
  have hix := fun (s : ByteArray) (k : IntKind) (i : Int) (h0 : 0 ≤ i) (h1 : i < s.size) => idxS (k := k) Tryd.underlying9 h0 h1
  refine W_seq ?_
  refine W_to (fun fr st' => (st = st') ∧ (fr.env 0 = .string s) ∧ (fr.env 1 = .int .i64 (most : Int))) ?_ ?_
  · refine W_end rfl fun G K hG hK => ?_; simp (disch := omega) only [go_sem, ↓reduceIte, Nat.reduceEqDiff, Nat.reduceAdd, Nat.reduceLeDiff, hG, hlenA, hix, w_index, ev_index]
    refine hK _ _ ?_; clear hK K hG G; repeat (first | refine thenI ?_ | refine thenE ?_ | refine thenR ?_ | refine inBI ?_ | refine inBR ?_ | refine inBS ?_ | refine inBN (by decide) ?_)
    exact ⟨rfl, (by (simp (disch := omega) only [go_sem, ↓reduceIte, Nat.reduceEqDiff, Nat.reduceAdd, Nat.reduceLeDiff, hlenA, hix, w_index, ev_index]); try rfl), (by (simp (disch := omega) only [go_sem, ↓reduceIte, Nat.reduceEqDiff, Nat.reduceAdd, Nat.reduceLeDiff, hlenA, hix, w_index, ev_index]); try rfl)⟩
  rintro ⟨env, loc⟩ st' ⟨hst, e0, e1⟩
  simp only at e0 e1
  subst hst
  refine W_seq ?_
  refine W_to (fun fr st' => ∃ (bl : Bool), (st = st') ∧ (bl = decide (s.data.toList.head? = some 45)) ∧ (fr.env 0 = .string s) ∧ (fr.env 1 = .int .i64 (most : Int)) ∧ (fr.env 6 = .bool bl)) ?_ ?_
  · rcases Nat.eq_zero_or_pos s.size with h0 | h0
    · have c1 : decide ((s.size : Int) > 0) = false := decide_eq_false (by omega)
      have hn : s.data.toList = [] := List.eq_nil_of_length_eq_zero (by rw [← size_list]; exact h0)
      refine W_end rfl fun G K hG hK => ?_; simp (disch := omega) only [go_sem, ↓reduceIte, Nat.reduceEqDiff, Nat.reduceAdd, Nat.reduceLeDiff, hG, hlenA, hix, w_index, ev_index, e0, e1, c1]
      refine hK _ _ ?_; clear hK K hG G; repeat (first | refine thenI ?_ | refine thenE ?_ | refine thenR ?_ | refine inBI ?_ | refine inBR ?_ | refine inBS ?_ | refine inBN (by decide) ?_)
      exact ⟨false, rfl, (by rw [hn]; rfl), (by (simp (disch := omega) only [go_sem, ↓reduceIte, Nat.reduceEqDiff, Nat.reduceAdd, Nat.reduceLeDiff, hlenA, hix, w_index, ev_index, e0, e1]); try rfl), (by (simp (disch := omega) only [go_sem, ↓reduceIte, Nat.reduceEqDiff, Nat.reduceAdd, Nat.reduceLeDiff, hlenA, hix, w_index, ev_index, e0, e1]); try rfl), (by (simp (disch := omega) only [go_sem, ↓reduceIte, Nat.reduceEqDiff, Nat.reduceAdd, Nat.reduceLeDiff, hlenA, hix, w_index, ev_index, e0, e1]); try rfl)⟩
    have c1 : decide ((s.size : Int) > 0) = true := by simp; omega
    obtain ⟨b, r, hb0, hby, hr1⟩ := drop_byte (s := s) (i := 0) (by omega)
    rw [List.drop_zero] at hb0
    have hby' : byteAt s (0 : Int).toNat = (b.toNat : Int) := hby
    by_cases h45 : b = 45
    · have c2 : ((b.toNat : Int) == 45) = true := by rw [h45]; rfl
      refine W_end rfl fun G K hG hK => ?_; simp (disch := omega) only [go_sem, ↓reduceIte, Nat.reduceEqDiff, Nat.reduceAdd, Nat.reduceLeDiff, hG, hlenA, hix, w_index, ev_index, e0, e1, c1, hby', c2]
      refine hK _ _ ?_; clear hK K hG G; repeat (first | refine thenI ?_ | refine thenE ?_ | refine thenR ?_ | refine inBI ?_ | refine inBR ?_ | refine inBS ?_ | refine inBN (by decide) ?_)
      exact ⟨true, rfl, (by rw [hb0, h45]; rfl), (by (simp (disch := omega) only [go_sem, ↓reduceIte, Nat.reduceEqDiff, Nat.reduceAdd, Nat.reduceLeDiff, hlenA, hix, w_index, ev_index, e0, e1]); try rfl), (by (simp (disch := omega) only [go_sem, ↓reduceIte, Nat.reduceEqDiff, Nat.reduceAdd, Nat.reduceLeDiff, hlenA, hix, w_index, ev_index, e0, e1]); try rfl), (by (simp (disch := omega) only [go_sem, ↓reduceIte, Nat.reduceEqDiff, Nat.reduceAdd, Nat.reduceLeDiff, hlenA, hix, w_index, ev_index, e0, e1]); try rfl)⟩
    · have c2 : ((b.toNat : Int) == 45) = false := by
        simp only [beq_eq_false_iff_ne, ne_eq]
        intro h
        exact h45 (UInt8.toNat_inj.1 (by have : (45 : UInt8).toNat = 45 := rfl; omega))
      refine W_end rfl fun G K hG hK => ?_; simp (disch := omega) only [go_sem, ↓reduceIte, Nat.reduceEqDiff, Nat.reduceAdd, Nat.reduceLeDiff, hG, hlenA, hix, w_index, ev_index, e0, e1, c1, hby', c2]
      refine hK _ _ ?_; clear hK K hG G; repeat (first | refine thenI ?_ | refine thenE ?_ | refine thenR ?_ | refine inBI ?_ | refine inBR ?_ | refine inBS ?_ | refine inBN (by decide) ?_)
      exact ⟨false, rfl, (by rw [hb0]; simp [h45]), (by (simp (disch := omega) only [go_sem, ↓reduceIte, Nat.reduceEqDiff, Nat.reduceAdd, Nat.reduceLeDiff, hlenA, hix, w_index, ev_index, e0, e1]); try rfl), (by (simp (disch := omega) only [go_sem, ↓reduceIte, Nat.reduceEqDiff, Nat.reduceAdd, Nat.reduceLeDiff, hlenA, hix, w_index, ev_index, e0, e1]); try rfl), (by (simp (disch := omega) only [go_sem, ↓reduceIte, Nat.reduceEqDiff, Nat.reduceAdd, Nat.reduceLeDiff, hlenA, hix, w_index, ev_index, e0, e1]); try rfl)⟩
  clear e0 e1
  rintro ⟨env, loc⟩ st' ⟨bl, hst, hbl, e0, e1, e6⟩
  simp only at e0 e1 e6
  subst hst
  repeat (first | (refine W_reg rfl fun G K hG hK => ?_; simp (disch := omega) only [go_sem, ↓reduceIte, Nat.reduceEqDiff, Nat.reduceAdd, Nat.reduceLeDiff, hG, hlenA, hix, w_index, ev_index, e0, e1, e6]; refine hK _ _ ?_; clear hK K hG G) | (refine W_end rfl fun G K hG hK => ?_; simp (disch := omega) only [go_sem, ↓reduceIte, Nat.reduceEqDiff, Nat.reduceAdd, Nat.reduceLeDiff, hG, hlenA, hix, w_index, ev_index, e0, e1, e6]; refine hK _ _ ?_; clear hK K hG G; repeat (first | refine thenI ?_ | refine thenE ?_ | refine thenR ?_ | refine inBI ?_ | refine inBR ?_ | refine inBS ?_ | refine inBN (by decide) ?_)) | refine W_seqS ?_ | refine W_seqC ?_ | refine W_seqB ?_ | refine W_block ?_ | (refine W_skip ?_; repeat (first | refine thenI ?_ | refine thenE ?_ | refine thenR ?_ | refine inBI ?_ | refine inBR ?_ | refine inBS ?_ | refine inBN (by decide) ?_)) | (refine W_condT ?hc ?_; (case hc => (simp (disch := omega) only [go_sem, ↓reduceIte, Nat.reduceEqDiff, Nat.reduceAdd, Nat.reduceLeDiff, hlenA, hix, w_index, ev_index, e0, e1, e6]; done))) | (refine W_condF ?hc ?_; (case hc => (simp (disch := omega) only [go_sem, ↓reduceIte, Nat.reduceEqDiff, Nat.reduceAdd, Nat.reduceLeDiff, hlenA, hix, w_index, ev_index, e0, e1, e6]; done))))
  refine W_to (fun fr st' => ∃ (t : ByteArray), (st = st') ∧ (readN most s.data.toList = readM most bl t.data.toList s.data.toList) ∧ (t.size ≤ s.size) ∧ (fr.env 0 = .string s) ∧ (fr.env 1 = .int .i64 (most : Int)) ∧ (fr.env 6 = .bool bl) ∧ (fr.env 7 = .string t)) ?_ ?_
  · cases bl with
    | true =>
      have h45 : s.data.toList.head? = some 45 := by simpa using hbl.symm
      have h0 : 1 ≤ s.size := by
        rw [size_list]
        cases hl : s.data.toList with
        | nil => rw [hl] at h45; cases h45
        | cons _ _ => simp
      have hsl : flatRun Tryd.prog (Instr.sliceAt 9 (.string s) (some (.int .i64 1)) none none) = some (.string (s.extract 1 s.size)) := sliceS_l (P := Tryd.prog) (t := 9) (s := s) (k := .i64) (l := 1) Tryd.underlying9 (by omega) (by omega)
      have hxl : (s.extract 1 s.size).data.toList = s.data.toList.tail := by
        rw [ext_toList, List.drop_one, List.take_of_length_le (by rw [List.length_tail, ← size_list]; omega)]
      repeat (first | (refine W_reg rfl fun G K hG hK => ?_; simp (disch := omega) only [go_sem, ↓reduceIte, Nat.reduceEqDiff, Nat.reduceAdd, Nat.reduceLeDiff, hG, hlenA, hix, w_index, ev_index, e0, e1, e6, w_slice, ev_slice, hsl, flat_s, flat_i, Option.all_some, Option.map_some, Option.all_none, Option.map_none]; refine hK _ _ ?_; clear hK K hG G) | (refine W_end rfl fun G K hG hK => ?_; simp (disch := omega) only [go_sem, ↓reduceIte, Nat.reduceEqDiff, Nat.reduceAdd, Nat.reduceLeDiff, hG, hlenA, hix, w_index, ev_index, e0, e1, e6, w_slice, ev_slice, hsl, flat_s, flat_i, Option.all_some, Option.map_some, Option.all_none, Option.map_none]; refine hK _ _ ?_; clear hK K hG G; repeat (first | refine thenI ?_ | refine thenE ?_ | refine thenR ?_ | refine inBI ?_ | refine inBR ?_ | refine inBS ?_ | refine inBN (by decide) ?_)) | refine W_seqS ?_ | refine W_seqC ?_ | refine W_seqB ?_ | refine W_block ?_ | (refine W_skip ?_; repeat (first | refine thenI ?_ | refine thenE ?_ | refine thenR ?_ | refine inBI ?_ | refine inBR ?_ | refine inBS ?_ | refine inBN (by decide) ?_)) | (refine W_condT ?hc ?_; (case hc => (simp (disch := omega) only [go_sem, ↓reduceIte, Nat.reduceEqDiff, Nat.reduceAdd, Nat.reduceLeDiff, hlenA, hix, w_index, ev_index, e0, e1, e6, w_slice, ev_slice, hsl, flat_s, flat_i, Option.all_some, Option.map_some, Option.all_none, Option.map_none]; done))) | (refine W_condF ?hc ?_; (case hc => (simp (disch := omega) only [go_sem, ↓reduceIte, Nat.reduceEqDiff, Nat.reduceAdd, Nat.reduceLeDiff, hlenA, hix, w_index, ev_index, e0, e1, e6, w_slice, ev_slice, hsl, flat_s, flat_i, Option.all_some, Option.map_some, Option.all_none, Option.map_none]; done))))
      exact ⟨s.extract 1 s.size, rfl, (by unfold readN; rw [if_pos h45, hxl]), (by rw [size_list, hxl, List.length_tail, ← size_list]; omega), (by (simp (disch := omega) only [go_sem, ↓reduceIte, Nat.reduceEqDiff, Nat.reduceAdd, Nat.reduceLeDiff, hlenA, hix, w_index, ev_index, e0, e1, e6]); try rfl), (by (simp (disch := omega) only [go_sem, ↓reduceIte, Nat.reduceEqDiff, Nat.reduceAdd, Nat.reduceLeDiff, hlenA, hix, w_index, ev_index, e0, e1, e6]); try rfl), (by (simp (disch := omega) only [go_sem, ↓reduceIte, Nat.reduceEqDiff, Nat.reduceAdd, Nat.reduceLeDiff, hlenA, hix, w_index, ev_index, e0, e1, e6]); try rfl), (by (simp (disch := omega) only [go_sem, ↓reduceIte, Nat.reduceEqDiff, Nat.reduceAdd, Nat.reduceLeDiff, hlenA, hix, w_index, ev_index, e0, e1, e6]); try rfl)⟩
    | false =>
      have h45 : ¬ s.data.toList.head? = some 45 := by simpa using hbl.symm
      repeat (first | (refine W_reg rfl fun G K hG hK => ?_; simp (disch := omega) only [go_sem, ↓reduceIte, Nat.reduceEqDiff, Nat.reduceAdd, Nat.reduceLeDiff, hG, hlenA, hix, w_index, ev_index, e0, e1, e6]; refine hK _ _ ?_; clear hK K hG G) | (refine W_end rfl fun G K hG hK => ?_; simp (disch := omega) only [go_sem, ↓reduceIte, Nat.reduceEqDiff, Nat.reduceAdd, Nat.reduceLeDiff, hG, hlenA, hix, w_index, ev_index, e0, e1, e6]; refine hK _ _ ?_; clear hK K hG G; repeat (first | refine thenI ?_ | refine thenE ?_ | refine thenR ?_ | refine inBI ?_ | refine inBR ?_ | refine inBS ?_ | refine inBN (by decide) ?_)) | refine W_seqS ?_ | refine W_seqC ?_ | refine W_seqB ?_ | refine W_block ?_ | (refine W_skip ?_; repeat (first | refine thenI ?_ | refine thenE ?_ | refine thenR ?_ | refine inBI ?_ | refine inBR ?_ | refine inBS ?_ | refine inBN (by decide) ?_)) | (refine W_condT ?hc ?_; (case hc => (simp (disch := omega) only [go_sem, ↓reduceIte, Nat.reduceEqDiff, Nat.reduceAdd, Nat.reduceLeDiff, hlenA, hix, w_index, ev_index, e0, e1, e6]; done))) | (refine W_condF ?hc ?_; (case hc => (simp (disch := omega) only [go_sem, ↓reduceIte, Nat.reduceEqDiff, Nat.reduceAdd, Nat.reduceLeDiff, hlenA, hix, w_index, ev_index, e0, e1, e6]; done))))
      exact ⟨s, rfl, (by unfold readN; rw [if_neg h45]), Nat.le_refl _, (by (simp (disch := omega) only [go_sem, ↓reduceIte, Nat.reduceEqDiff, Nat.reduceAdd, Nat.reduceLeDiff, hlenA, hix, w_index, ev_index, e0, e1, e6]); try rfl), (by (simp (disch := omega) only [go_sem, ↓reduceIte, Nat.reduceEqDiff, Nat.reduceAdd, Nat.reduceLeDiff, hlenA, hix, w_index, ev_index, e0, e1, e6]); try rfl), (by (simp (disch := omega) only [go_sem, ↓reduceIte, Nat.reduceEqDiff, Nat.reduceAdd, Nat.reduceLeDiff, hlenA, hix, w_index, ev_index, e0, e1, e6]); try rfl), (by (simp (disch := omega) only [go_sem, ↓reduceIte, Nat.reduceEqDiff, Nat.reduceAdd, Nat.reduceLeDiff, hlenA, hix, w_index, ev_index, e0, e1, e6]); try rfl)⟩
  clear e0 e1 e6
  rintro ⟨env, loc⟩ st' ⟨t, hst, ht, hts, e0, e1, e6, e7⟩
  simp only at e0 e1 e6 e7
  rw [ht]
  subst hst
  clear ht
  have htl := size_list t
  by_cases h1 : t.size < 1
  · have c1 : decide ((t.size : Int) < 1) = true := by simp; omega
    repeat (first | (refine W_reg rfl fun G K hG hK => ?_; simp (disch := omega) only [go_sem, ↓reduceIte, Nat.reduceEqDiff, Nat.reduceAdd, Nat.reduceLeDiff, hG, hlenA, hix, w_index, ev_index, e0, e1, e6, e7, c1]; refine hK _ _ ?_; clear hK K hG G) | (refine W_end rfl fun G K hG hK => ?_; simp (disch := omega) only [go_sem, ↓reduceIte, Nat.reduceEqDiff, Nat.reduceAdd, Nat.reduceLeDiff, hG, hlenA, hix, w_index, ev_index, e0, e1, e6, e7, c1]; refine hK _ _ ?_; clear hK K hG G; repeat (first | refine thenI ?_ | refine thenE ?_ | refine thenR ?_ | refine inBI ?_ | refine inBR ?_ | refine inBS ?_ | refine inBN (by decide) ?_)) | refine W_seqS ?_ | refine W_seqC ?_ | refine W_seqB ?_ | refine W_block ?_ | (refine W_skip ?_; repeat (first | refine thenI ?_ | refine thenE ?_ | refine thenR ?_ | refine inBI ?_ | refine inBR ?_ | refine inBS ?_ | refine inBN (by decide) ?_)) | (refine W_condT ?hc ?_; (case hc => (simp (disch := omega) only [go_sem, ↓reduceIte, Nat.reduceEqDiff, Nat.reduceAdd, Nat.reduceLeDiff, hlenA, hix, w_index, ev_index, e0, e1, e6, e7, c1]; done))) | (refine W_condF ?hc ?_; (case hc => (simp (disch := omega) only [go_sem, ↓reduceIte, Nat.reduceEqDiff, Nat.reduceAdd, Nat.reduceLeDiff, hlenA, hix, w_index, ev_index, e0, e1, e6, e7, c1]; done))))
    refine W_ret ?_; try (repeat (first | refine thenI ?_ | refine thenE ?_ | refine thenR ?_ | refine inBI ?_ | refine inBR ?_ | refine inBS ?_ | refine inBN (by decide) ?_))
    refine fin2 (.inl rfl) (by (simp (disch := omega) only [go_sem, ↓reduceIte, Nat.reduceEqDiff, Nat.reduceAdd, Nat.reduceLeDiff, hlenA, hix, w_index, ev_index, e0, e1, e6, e7]); try rfl) rfl (by (simp (disch := omega) only [go_sem, ↓reduceIte, Nat.reduceEqDiff, Nat.reduceAdd, Nat.reduceLeDiff, hlenA, hix, w_index, ev_index, e0, e1, e6, e7]); try rfl) rfl ⟨Ext.refl _, by unfold readM; rw [if_pos (by omega)]; rfl⟩
  have c1 : decide ((t.size : Int) < 1) = false := by simp; omega
  by_cases h2 : t.size > most
  · have c2 : decide ((t.size : Int) > (most : Int)) = true := by simp; omega
    repeat (first | (refine W_reg rfl fun G K hG hK => ?_; simp (disch := omega) only [go_sem, ↓reduceIte, Nat.reduceEqDiff, Nat.reduceAdd, Nat.reduceLeDiff, hG, hlenA, hix, w_index, ev_index, e0, e1, e6, e7, c1, c2]; refine hK _ _ ?_; clear hK K hG G) | (refine W_end rfl fun G K hG hK => ?_; simp (disch := omega) only [go_sem, ↓reduceIte, Nat.reduceEqDiff, Nat.reduceAdd, Nat.reduceLeDiff, hG, hlenA, hix, w_index, ev_index, e0, e1, e6, e7, c1, c2]; refine hK _ _ ?_; clear hK K hG G; repeat (first | refine thenI ?_ | refine thenE ?_ | refine thenR ?_ | refine inBI ?_ | refine inBR ?_ | refine inBS ?_ | refine inBN (by decide) ?_)) | refine W_seqS ?_ | refine W_seqC ?_ | refine W_seqB ?_ | refine W_block ?_ | (refine W_skip ?_; repeat (first | refine thenI ?_ | refine thenE ?_ | refine thenR ?_ | refine inBI ?_ | refine inBR ?_ | refine inBS ?_ | refine inBN (by decide) ?_)) | (refine W_condT ?hc ?_; (case hc => (simp (disch := omega) only [go_sem, ↓reduceIte, Nat.reduceEqDiff, Nat.reduceAdd, Nat.reduceLeDiff, hlenA, hix, w_index, ev_index, e0, e1, e6, e7, c1, c2]; done))) | (refine W_condF ?hc ?_; (case hc => (simp (disch := omega) only [go_sem, ↓reduceIte, Nat.reduceEqDiff, Nat.reduceAdd, Nat.reduceLeDiff, hlenA, hix, w_index, ev_index, e0, e1, e6, e7, c1, c2]; done))))
    refine W_ret ?_; try (repeat (first | refine thenI ?_ | refine thenE ?_ | refine thenR ?_ | refine inBI ?_ | refine inBR ?_ | refine inBS ?_ | refine inBN (by decide) ?_))
    refine fin2 (.inl rfl) (by (simp (disch := omega) only [go_sem, ↓reduceIte, Nat.reduceEqDiff, Nat.reduceAdd, Nat.reduceLeDiff, hlenA, hix, w_index, ev_index, e0, e1, e6, e7]); try rfl) rfl (by (simp (disch := omega) only [go_sem, ↓reduceIte, Nat.reduceEqDiff, Nat.reduceAdd, Nat.reduceLeDiff, hlenA, hix, w_index, ev_index, e0, e1, e6, e7]); try rfl) rfl ⟨Ext.refl _, by unfold readM; rw [if_pos (by omega)]; rfl⟩
  have c2 : decide ((t.size : Int) > (most : Int)) = false := by simp; omega
  repeat (first | (refine W_reg rfl fun G K hG hK => ?_; simp (disch := omega) only [go_sem, ↓reduceIte, Nat.reduceEqDiff, Nat.reduceAdd, Nat.reduceLeDiff, hG, hlenA, hix, w_index, ev_index, e0, e1, e6, e7, c1, c2]; refine hK _ _ ?_; clear hK K hG G) | (refine W_end rfl fun G K hG hK => ?_; simp (disch := omega) only [go_sem, ↓reduceIte, Nat.reduceEqDiff, Nat.reduceAdd, Nat.reduceLeDiff, hG, hlenA, hix, w_index, ev_index, e0, e1, e6, e7, c1, c2]; refine hK _ _ ?_; clear hK K hG G; repeat (first | refine thenI ?_ | refine thenE ?_ | refine thenR ?_ | refine inBI ?_ | refine inBR ?_ | refine inBS ?_ | refine inBN (by decide) ?_)) | refine W_seqS ?_ | refine W_seqC ?_ | refine W_seqB ?_ | refine W_block ?_ | (refine W_skip ?_; repeat (first | refine thenI ?_ | refine thenE ?_ | refine thenR ?_ | refine inBI ?_ | refine inBR ?_ | refine inBS ?_ | refine inBN (by decide) ?_)) | (refine W_condT ?hc ?_; (case hc => (simp (disch := omega) only [go_sem, ↓reduceIte, Nat.reduceEqDiff, Nat.reduceAdd, Nat.reduceLeDiff, hlenA, hix, w_index, ev_index, e0, e1, e6, e7, c1, c2]; done))) | (refine W_condF ?hc ?_; (case hc => (simp (disch := omega) only [go_sem, ↓reduceIte, Nat.reduceEqDiff, Nat.reduceAdd, Nat.reduceLeDiff, hlenA, hix, w_index, ev_index, e0, e1, e6, e7, c1, c2]; done))))
  refine W_loop (fun d fr st' => ∃ (j : Nat) (m : Nat), d = t.size - j ∧ j ≤ t.size ∧ (st = st') ∧ (decFrom 0 t.data.toList = decFrom m (t.data.toList.drop j)) ∧ (m + 1 ≤ 10 ^ j) ∧ (fr.env 0 = .string s) ∧ (fr.env 6 = .bool bl) ∧ (fr.env 7 = .string t) ∧ (fr.env 8 = .int .i64 (m : Int)) ∧ (fr.env 9 = .int .i64 j)) (t.size) ?_ ?_
  · exact ⟨0, 0, by omega, by omega, rfl, by rw [List.drop_zero], by simp, (by (simp (disch := omega) only [go_sem, ↓reduceIte, Nat.reduceEqDiff, Nat.reduceAdd, Nat.reduceLeDiff, hlenA, hix, w_index, ev_index, e0, e1, e6, e7]); try rfl), (by (simp (disch := omega) only [go_sem, ↓reduceIte, Nat.reduceEqDiff, Nat.reduceAdd, Nat.reduceLeDiff, hlenA, hix, w_index, ev_index, e0, e1, e6, e7]); try rfl), (by (simp (disch := omega) only [go_sem, ↓reduceIte, Nat.reduceEqDiff, Nat.reduceAdd, Nat.reduceLeDiff, hlenA, hix, w_index, ev_index, e0, e1, e6, e7]); try rfl), (by (simp (disch := omega) only [go_sem, ↓reduceIte, Nat.reduceEqDiff, Nat.reduceAdd, Nat.reduceLeDiff, hlenA, hix, w_index, ev_index, e0, e1, e6, e7]); try rfl), (by (simp (disch := omega) only [go_sem, ↓reduceIte, Nat.reduceEqDiff, Nat.reduceAdd, Nat.reduceLeDiff, hlenA, hix, w_index, ev_index, e0, e1, e6, e7]); try rfl)⟩
  clear e0 e1 e6 e7
  rintro d ⟨env, loc⟩ st' ⟨j, m, hd, hj, hst2, hdec, hlt, e0, e6, e7, e8, e9⟩
  simp only at e0 e6 e7 e8 e9
  subst hst2
  have hp12 := pow_most (j := j) (most := most) (by omega) hm12
  by_cases hjt : j < t.size
  · have c3 : decide ((j : Int) < (t.size : Int)) = true := by simp; omega
    obtain ⟨x, r, hx, hxb, hr1⟩ := drop_byte (s := t) (i := j) hjt
    have hxb' : byteAt t (j : Int).toNat = (x.toNat : Int) := hxb
    rw [hx] at hdec
    by_cases d1 : x.toNat < 48
    · have c4 : decide ((x.toNat : Int) < 48) = true := by simp; omega
      repeat (first | (refine W_reg rfl fun G K hG hK => ?_; simp (disch := omega) only [go_sem, ↓reduceIte, Nat.reduceEqDiff, Nat.reduceAdd, Nat.reduceLeDiff, hG, hlenA, hix, w_index, ev_index, e0, e6, e7, e8, e9, c3, hxb', c4]; refine hK _ _ ?_; clear hK K hG G) | (refine W_end rfl fun G K hG hK => ?_; simp (disch := omega) only [go_sem, ↓reduceIte, Nat.reduceEqDiff, Nat.reduceAdd, Nat.reduceLeDiff, hG, hlenA, hix, w_index, ev_index, e0, e6, e7, e8, e9, c3, hxb', c4]; refine hK _ _ ?_; clear hK K hG G; repeat (first | refine thenI ?_ | refine thenE ?_ | refine thenR ?_ | refine inBI ?_ | refine inBR ?_ | refine inBS ?_ | refine inBN (by decide) ?_)) | refine W_seqS ?_ | refine W_seqC ?_ | refine W_seqB ?_ | refine W_block ?_ | (refine W_skip ?_; repeat (first | refine thenI ?_ | refine thenE ?_ | refine thenR ?_ | refine inBI ?_ | refine inBR ?_ | refine inBS ?_ | refine inBN (by decide) ?_)) | (refine W_condT ?hc ?_; (case hc => (simp (disch := omega) only [go_sem, ↓reduceIte, Nat.reduceEqDiff, Nat.reduceAdd, Nat.reduceLeDiff, hlenA, hix, w_index, ev_index, e0, e6, e7, e8, e9, c3, hxb', c4]; done))) | (refine W_condF ?hc ?_; (case hc => (simp (disch := omega) only [go_sem, ↓reduceIte, Nat.reduceEqDiff, Nat.reduceAdd, Nat.reduceLeDiff, hlenA, hix, w_index, ev_index, e0, e6, e7, e8, e9, c3, hxb', c4]; done))))
      refine W_ret ?_; try (repeat (first | refine thenI ?_ | refine thenE ?_ | refine thenR ?_ | refine inBI ?_ | refine inBR ?_ | refine inBS ?_ | refine inBN (by decide) ?_))
      refine fin2 (.inl rfl) (by (simp (disch := omega) only [go_sem, ↓reduceIte, Nat.reduceEqDiff, Nat.reduceAdd, Nat.reduceLeDiff, hlenA, hix, w_index, ev_index, e0, e6, e7, e8, e9]); try rfl) rfl (by (simp (disch := omega) only [go_sem, ↓reduceIte, Nat.reduceEqDiff, Nat.reduceAdd, Nat.reduceLeDiff, hlenA, hix, w_index, ev_index, e0, e6, e7, e8, e9]); try rfl) rfl ⟨Ext.refl _, by unfold readM; rw [if_neg (by omega), hdec, dec_cons_no (.inl d1)]; rfl⟩
    have c4 : decide ((x.toNat : Int) < 48) = false := by simp; omega
    by_cases d2 : x.toNat > 57
    · have c5 : decide ((x.toNat : Int) > 57) = true := by simp; omega
      repeat (first | (refine W_reg rfl fun G K hG hK => ?_; simp (disch := omega) only [go_sem, ↓reduceIte, Nat.reduceEqDiff, Nat.reduceAdd, Nat.reduceLeDiff, hG, hlenA, hix, w_index, ev_index, e0, e6, e7, e8, e9, c3, hxb', c4, c5]; refine hK _ _ ?_; clear hK K hG G) | (refine W_end rfl fun G K hG hK => ?_; simp (disch := omega) only [go_sem, ↓reduceIte, Nat.reduceEqDiff, Nat.reduceAdd, Nat.reduceLeDiff, hG, hlenA, hix, w_index, ev_index, e0, e6, e7, e8, e9, c3, hxb', c4, c5]; refine hK _ _ ?_; clear hK K hG G; repeat (first | refine thenI ?_ | refine thenE ?_ | refine thenR ?_ | refine inBI ?_ | refine inBR ?_ | refine inBS ?_ | refine inBN (by decide) ?_)) | refine W_seqS ?_ | refine W_seqC ?_ | refine W_seqB ?_ | refine W_block ?_ | (refine W_skip ?_; repeat (first | refine thenI ?_ | refine thenE ?_ | refine thenR ?_ | refine inBI ?_ | refine inBR ?_ | refine inBS ?_ | refine inBN (by decide) ?_)) | (refine W_condT ?hc ?_; (case hc => (simp (disch := omega) only [go_sem, ↓reduceIte, Nat.reduceEqDiff, Nat.reduceAdd, Nat.reduceLeDiff, hlenA, hix, w_index, ev_index, e0, e6, e7, e8, e9, c3, hxb', c4, c5]; done))) | (refine W_condF ?hc ?_; (case hc => (simp (disch := omega) only [go_sem, ↓reduceIte, Nat.reduceEqDiff, Nat.reduceAdd, Nat.reduceLeDiff, hlenA, hix, w_index, ev_index, e0, e6, e7, e8, e9, c3, hxb', c4, c5]; done))))
      refine W_ret ?_; try (repeat (first | refine thenI ?_ | refine thenE ?_ | refine thenR ?_ | refine inBI ?_ | refine inBR ?_ | refine inBS ?_ | refine inBN (by decide) ?_))
      refine fin2 (.inl rfl) (by (simp (disch := omega) only [go_sem, ↓reduceIte, Nat.reduceEqDiff, Nat.reduceAdd, Nat.reduceLeDiff, hlenA, hix, w_index, ev_index, e0, e6, e7, e8, e9]); try rfl) rfl (by (simp (disch := omega) only [go_sem, ↓reduceIte, Nat.reduceEqDiff, Nat.reduceAdd, Nat.reduceLeDiff, hlenA, hix, w_index, ev_index, e0, e6, e7, e8, e9]); try rfl) rfl ⟨Ext.refl _, by unfold readM; rw [if_neg (by omega), hdec, dec_cons_no (.inr d2)]; rfl⟩
    have c5 : decide ((x.toNat : Int) > 57) = false := by simp; omega
    rw [dec_cons (by omega) (by omega), ← hr1] at hdec
    have hw1 : IntKind.u8.wrap ((x.toNat : Int) - 48) = ((x.toNat - 48 : Nat) : Int) := by rw [wrap_u8 _ (by omega) (by omega)]; omega
    have hw2 : IntKind.i64.wrap ((x.toNat - 48 : Nat) : Int) = ((x.toNat - 48 : Nat) : Int) := wrap_in (by omega) (by omega)
    have hci : ∀ x : Int, cvI Tryd.prog 5 3 (.int .u8 x) = some (.int .i64 (IntKind.i64.wrap x)) := fun x => cvI_int Tryd.underlying5 Tryd.underlying3
    have hw3 : (10 : Int) * (m : Int) + ((x.toNat - 48 : Nat) : Int) = ((m * 10 + (x.toNat - 48) : Nat) : Int) := by omega
    have hnext : m * 10 + (x.toNat - 48) + 1 ≤ 10 ^ (j + 1) := by rw [Nat.pow_succ]; omega
    repeat (first | (refine W_reg rfl fun G K hG hK => ?_; simp (disch := omega) only [go_sem, ↓reduceIte, Nat.reduceEqDiff, Nat.reduceAdd, Nat.reduceLeDiff, hG, hlenA, hix, w_index, ev_index, e0, e6, e7, e8, e9, c3, hxb', c4, c5, hw1, ev_conv, hci, hw2, hw3]; refine hK _ _ ?_; clear hK K hG G) | (refine W_end rfl fun G K hG hK => ?_; simp (disch := omega) only [go_sem, ↓reduceIte, Nat.reduceEqDiff, Nat.reduceAdd, Nat.reduceLeDiff, hG, hlenA, hix, w_index, ev_index, e0, e6, e7, e8, e9, c3, hxb', c4, c5, hw1, ev_conv, hci, hw2, hw3]; refine hK _ _ ?_; clear hK K hG G; repeat (first | refine thenI ?_ | refine thenE ?_ | refine thenR ?_ | refine inBI ?_ | refine inBR ?_ | refine inBS ?_ | refine inBN (by decide) ?_)) | refine W_seqS ?_ | refine W_seqC ?_ | refine W_seqB ?_ | refine W_block ?_ | (refine W_skip ?_; repeat (first | refine thenI ?_ | refine thenE ?_ | refine thenR ?_ | refine inBI ?_ | refine inBR ?_ | refine inBS ?_ | refine inBN (by decide) ?_)) | (refine W_condT ?hc ?_; (case hc => (simp (disch := omega) only [go_sem, ↓reduceIte, Nat.reduceEqDiff, Nat.reduceAdd, Nat.reduceLeDiff, hlenA, hix, w_index, ev_index, e0, e6, e7, e8, e9, c3, hxb', c4, c5, hw1, ev_conv, hci, hw2, hw3]; done))) | (refine W_condF ?hc ?_; (case hc => (simp (disch := omega) only [go_sem, ↓reduceIte, Nat.reduceEqDiff, Nat.reduceAdd, Nat.reduceLeDiff, hlenA, hix, w_index, ev_index, e0, e6, e7, e8, e9, c3, hxb', c4, c5, hw1, ev_conv, hci, hw2, hw3]; done))))
    refine ⟨t.size - (j + 1), by omega, j + 1, m * 10 + (x.toNat - 48), rfl, by omega, rfl, hdec, hnext, (by (simp (disch := omega) only [go_sem, ↓reduceIte, Nat.reduceEqDiff, Nat.reduceAdd, Nat.reduceLeDiff, hlenA, hix, w_index, ev_index, e0, e6, e7, e8, e9]); try rfl), (by (simp (disch := omega) only [go_sem, ↓reduceIte, Nat.reduceEqDiff, Nat.reduceAdd, Nat.reduceLeDiff, hlenA, hix, w_index, ev_index, e0, e6, e7, e8, e9]); try rfl), (by (simp (disch := omega) only [go_sem, ↓reduceIte, Nat.reduceEqDiff, Nat.reduceAdd, Nat.reduceLeDiff, hlenA, hix, w_index, ev_index, e0, e6, e7, e8, e9]); try rfl), (by (simp (disch := omega) only [go_sem, ↓reduceIte, Nat.reduceEqDiff, Nat.reduceAdd, Nat.reduceLeDiff, hlenA, hix, w_index, ev_index, e0, e6, e7, e8, e9]); try rfl), (by (simp (disch := omega) only [go_sem, ↓reduceIte, Nat.reduceEqDiff, Nat.reduceAdd, Nat.reduceLeDiff, hlenA, hix, w_index, ev_index, e0, e6, e7, e8, e9]); try rfl)⟩
  · have c3 : decide ((j : Int) < (t.size : Int)) = false := by simp; omega
    have hd0 : t.data.toList.drop j = [] := List.drop_eq_nil_of_le (by omega)
    rw [hd0] at hdec
    have hrd : readM most bl t.data.toList s.data.toList = if itoa (if bl then -(m : Int) else m) = s.data.toList then some (if bl then -(m : Int) else m) else none := by
      unfold readM
      rw [if_neg (by omega), hdec]
      rfl
    rw [hrd]
    clear hrd
    repeat (first | (refine W_reg rfl fun G K hG hK => ?_; simp (disch := omega) only [go_sem, ↓reduceIte, Nat.reduceEqDiff, Nat.reduceAdd, Nat.reduceLeDiff, hG, hlenA, hix, w_index, ev_index, e0, e6, e7, e8, e9, c3]; refine hK _ _ ?_; clear hK K hG G) | (refine W_end rfl fun G K hG hK => ?_; simp (disch := omega) only [go_sem, ↓reduceIte, Nat.reduceEqDiff, Nat.reduceAdd, Nat.reduceLeDiff, hG, hlenA, hix, w_index, ev_index, e0, e6, e7, e8, e9, c3]; refine hK _ _ ?_; clear hK K hG G; repeat (first | refine thenI ?_ | refine thenE ?_ | refine thenR ?_ | refine inBI ?_ | refine inBR ?_ | refine inBS ?_ | refine inBN (by decide) ?_)) | refine W_seqS ?_ | refine W_seqC ?_ | refine W_seqB ?_ | refine W_block ?_ | (refine W_skip ?_; repeat (first | refine thenI ?_ | refine thenE ?_ | refine thenR ?_ | refine inBI ?_ | refine inBR ?_ | refine inBS ?_ | refine inBN (by decide) ?_)) | (refine W_condT ?hc ?_; (case hc => (simp (disch := omega) only [go_sem, ↓reduceIte, Nat.reduceEqDiff, Nat.reduceAdd, Nat.reduceLeDiff, hlenA, hix, w_index, ev_index, e0, e6, e7, e8, e9, c3]; done))) | (refine W_condF ?hc ?_; (case hc => (simp (disch := omega) only [go_sem, ↓reduceIte, Nat.reduceEqDiff, Nat.reduceAdd, Nat.reduceLeDiff, hlenA, hix, w_index, ev_index, e0, e6, e7, e8, e9, c3]; done))))
    refine W_exit ?_; repeat (first | refine thenI ?_ | refine thenE ?_ | refine thenR ?_ | refine inBI ?_ | refine inBR ?_ | refine inBS ?_ | refine inBN (by decide) ?_)
    repeat (first | (refine W_reg rfl fun G K hG hK => ?_; simp (disch := omega) only [go_sem, ↓reduceIte, Nat.reduceEqDiff, Nat.reduceAdd, Nat.reduceLeDiff, hG, hlenA, hix, w_index, ev_index, e0, e6, e7, e8, e9]; refine hK _ _ ?_; clear hK K hG G) | (refine W_end rfl fun G K hG hK => ?_; simp (disch := omega) only [go_sem, ↓reduceIte, Nat.reduceEqDiff, Nat.reduceAdd, Nat.reduceLeDiff, hG, hlenA, hix, w_index, ev_index, e0, e6, e7, e8, e9]; refine hK _ _ ?_; clear hK K hG G; repeat (first | refine thenI ?_ | refine thenE ?_ | refine thenR ?_ | refine inBI ?_ | refine inBR ?_ | refine inBS ?_ | refine inBN (by decide) ?_)) | refine W_seqS ?_ | refine W_seqC ?_ | refine W_seqB ?_ | refine W_block ?_ | (refine W_skip ?_; repeat (first | refine thenI ?_ | refine thenE ?_ | refine thenR ?_ | refine inBI ?_ | refine inBR ?_ | refine inBS ?_ | refine inBN (by decide) ?_)) | (refine W_condT ?hc ?_; (case hc => (simp (disch := omega) only [go_sem, ↓reduceIte, Nat.reduceEqDiff, Nat.reduceAdd, Nat.reduceLeDiff, hlenA, hix, w_index, ev_index, e0, e6, e7, e8, e9]; done))) | (refine W_condF ?hc ?_; (case hc => (simp (disch := omega) only [go_sem, ↓reduceIte, Nat.reduceEqDiff, Nat.reduceAdd, Nat.reduceLeDiff, hlenA, hix, w_index, ev_index, e0, e6, e7, e8, e9]; done))))
    refine W_to (fun fr st' => ∃ (v : Int), (st = st') ∧ (v = (if bl then -(m : Int) else m)) ∧ (fr.env 0 = .string s) ∧ (fr.env 8 = .int .i64 v)) ?_ ?_
    · cases bl with
      | true =>
        have hng : (0 : Int) - (m : Int) = -(m : Int) := by omega
        repeat (first | (refine W_reg rfl fun G K hG hK => ?_; simp (disch := omega) only [go_sem, ↓reduceIte, Nat.reduceEqDiff, Nat.reduceAdd, Nat.reduceLeDiff, hG, hlenA, hix, w_index, ev_index, e0, e6, e7, e8, e9, hng]; refine hK _ _ ?_; clear hK K hG G) | (refine W_end rfl fun G K hG hK => ?_; simp (disch := omega) only [go_sem, ↓reduceIte, Nat.reduceEqDiff, Nat.reduceAdd, Nat.reduceLeDiff, hG, hlenA, hix, w_index, ev_index, e0, e6, e7, e8, e9, hng]; refine hK _ _ ?_; clear hK K hG G; repeat (first | refine thenI ?_ | refine thenE ?_ | refine thenR ?_ | refine inBI ?_ | refine inBR ?_ | refine inBS ?_ | refine inBN (by decide) ?_)) | refine W_seqS ?_ | refine W_seqC ?_ | refine W_seqB ?_ | refine W_block ?_ | (refine W_skip ?_; repeat (first | refine thenI ?_ | refine thenE ?_ | refine thenR ?_ | refine inBI ?_ | refine inBR ?_ | refine inBS ?_ | refine inBN (by decide) ?_)) | (refine W_condT ?hc ?_; (case hc => (simp (disch := omega) only [go_sem, ↓reduceIte, Nat.reduceEqDiff, Nat.reduceAdd, Nat.reduceLeDiff, hlenA, hix, w_index, ev_index, e0, e6, e7, e8, e9, hng]; done))) | (refine W_condF ?hc ?_; (case hc => (simp (disch := omega) only [go_sem, ↓reduceIte, Nat.reduceEqDiff, Nat.reduceAdd, Nat.reduceLeDiff, hlenA, hix, w_index, ev_index, e0, e6, e7, e8, e9, hng]; done))))
        exact ⟨-(m : Int), rfl, rfl, (by (simp (disch := omega) only [go_sem, ↓reduceIte, Nat.reduceEqDiff, Nat.reduceAdd, Nat.reduceLeDiff, hlenA, hix, w_index, ev_index, e0, e6, e7, e8, e9]); try rfl), (by (simp (disch := omega) only [go_sem, ↓reduceIte, Nat.reduceEqDiff, Nat.reduceAdd, Nat.reduceLeDiff, hlenA, hix, w_index, ev_index, e0, e6, e7, e8, e9]); try rfl)⟩
      | false =>
        repeat (first | (refine W_reg rfl fun G K hG hK => ?_; simp (disch := omega) only [go_sem, ↓reduceIte, Nat.reduceEqDiff, Nat.reduceAdd, Nat.reduceLeDiff, hG, hlenA, hix, w_index, ev_index, e0, e6, e7, e8, e9]; refine hK _ _ ?_; clear hK K hG G) | (refine W_end rfl fun G K hG hK => ?_; simp (disch := omega) only [go_sem, ↓reduceIte, Nat.reduceEqDiff, Nat.reduceAdd, Nat.reduceLeDiff, hG, hlenA, hix, w_index, ev_index, e0, e6, e7, e8, e9]; refine hK _ _ ?_; clear hK K hG G; repeat (first | refine thenI ?_ | refine thenE ?_ | refine thenR ?_ | refine inBI ?_ | refine inBR ?_ | refine inBS ?_ | refine inBN (by decide) ?_)) | refine W_seqS ?_ | refine W_seqC ?_ | refine W_seqB ?_ | refine W_block ?_ | (refine W_skip ?_; repeat (first | refine thenI ?_ | refine thenE ?_ | refine thenR ?_ | refine inBI ?_ | refine inBR ?_ | refine inBS ?_ | refine inBN (by decide) ?_)) | (refine W_condT ?hc ?_; (case hc => (simp (disch := omega) only [go_sem, ↓reduceIte, Nat.reduceEqDiff, Nat.reduceAdd, Nat.reduceLeDiff, hlenA, hix, w_index, ev_index, e0, e6, e7, e8, e9]; done))) | (refine W_condF ?hc ?_; (case hc => (simp (disch := omega) only [go_sem, ↓reduceIte, Nat.reduceEqDiff, Nat.reduceAdd, Nat.reduceLeDiff, hlenA, hix, w_index, ev_index, e0, e6, e7, e8, e9]; done))))
        exact ⟨(m : Int), rfl, rfl, (by (simp (disch := omega) only [go_sem, ↓reduceIte, Nat.reduceEqDiff, Nat.reduceAdd, Nat.reduceLeDiff, hlenA, hix, w_index, ev_index, e0, e6, e7, e8, e9]); try rfl), (by (simp (disch := omega) only [go_sem, ↓reduceIte, Nat.reduceEqDiff, Nat.reduceAdd, Nat.reduceLeDiff, hlenA, hix, w_index, ev_index, e0, e6, e7, e8, e9]); try rfl)⟩
    clear e0 e6 e7 e8 e9
    rintro ⟨env, loc⟩ st' ⟨v, hst, hv, e0, e8⟩
    simp only at e0 e8
    rw [← hv]
    subst hst
    have hvb : -1000000000000 ≤ v ∧ v ≤ 1000000000000 := by subst hv; cases bl <;> simp <;> omega
    (repeat (first | refine W_seqS ?_ | refine W_seqC ?_ | refine W_seqB ?_ | refine W_block ?_)); refine W_reg rfl fun G K hG hK => ?_; simp (disch := omega) only [go_sem, ↓reduceIte, Nat.reduceEqDiff, Nat.reduceAdd, Nat.reduceLeDiff, hG, hlenA, hix, w_index, ev_index, e0, e8]
    refine w_call (specFormatInt_ok v st (by omega) (by omega)) (by simp (disch := omega) only [go_sem, ↓reduceIte, Nat.reduceEqDiff, hlenA, hix, w_index, ev_index, e0, e8]) ?hl ?_
    case hl => first | rfl | (simp only [go_sem, List.all_cons, List.all_nil, Bool.not_false, Bool.and_self, hlenA, hix, w_index, ev_index, e0, e8]; done)
    rintro r_ sa ⟨x1, rfl⟩; refine ⟨fun e => (by cases e), ?_⟩
    cases he : ((⟨(itoa v).toArray⟩ : ByteArray).toList == s.toList) with
    | true =>
      have he2 : itoa v = s.data.toList := by
        have := eq_of_beq he
        rw [ByteArray.toList_eq, ByteArray.toList_eq] at this
        simpa using this
      simp (disch := omega) only [go_sem, ↓reduceIte, Nat.reduceEqDiff, Nat.reduceAdd, Nat.reduceLeDiff, hG, hlenA, hix, w_index, ev_index, e0, e8, he]; refine hK _ _ ?_; clear hK K hG G; repeat (first | refine thenI ?_ | refine thenE ?_ | refine thenR ?_ | refine inBI ?_ | refine inBR ?_ | refine inBS ?_ | refine inBN (by decide) ?_)
      rw [if_pos he2]
      repeat (first | (refine W_reg rfl fun G K hG hK => ?_; simp (disch := omega) only [go_sem, ↓reduceIte, Nat.reduceEqDiff, Nat.reduceAdd, Nat.reduceLeDiff, hG, hlenA, hix, w_index, ev_index, e0, e8]; refine hK _ _ ?_; clear hK K hG G) | (refine W_end rfl fun G K hG hK => ?_; simp (disch := omega) only [go_sem, ↓reduceIte, Nat.reduceEqDiff, Nat.reduceAdd, Nat.reduceLeDiff, hG, hlenA, hix, w_index, ev_index, e0, e8]; refine hK _ _ ?_; clear hK K hG G; repeat (first | refine thenI ?_ | refine thenE ?_ | refine thenR ?_ | refine inBI ?_ | refine inBR ?_ | refine inBS ?_ | refine inBN (by decide) ?_)) | refine W_seqS ?_ | refine W_seqC ?_ | refine W_seqB ?_ | refine W_block ?_ | (refine W_skip ?_; repeat (first | refine thenI ?_ | refine thenE ?_ | refine thenR ?_ | refine inBI ?_ | refine inBR ?_ | refine inBS ?_ | refine inBN (by decide) ?_)) | (refine W_condT ?hc ?_; (case hc => (simp (disch := omega) only [go_sem, ↓reduceIte, Nat.reduceEqDiff, Nat.reduceAdd, Nat.reduceLeDiff, hlenA, hix, w_index, ev_index, e0, e8]; done))) | (refine W_condF ?hc ?_; (case hc => (simp (disch := omega) only [go_sem, ↓reduceIte, Nat.reduceEqDiff, Nat.reduceAdd, Nat.reduceLeDiff, hlenA, hix, w_index, ev_index, e0, e8]; done))))
      refine W_ret ?_; try (repeat (first | refine thenI ?_ | refine thenE ?_ | refine thenR ?_ | refine inBI ?_ | refine inBR ?_ | refine inBS ?_ | refine inBN (by decide) ?_))
      refine fin2 (.inl rfl) (by (simp (disch := omega) only [go_sem, ↓reduceIte, Nat.reduceEqDiff, Nat.reduceAdd, Nat.reduceLeDiff, hlenA, hix, w_index, ev_index, e0, e8]); try rfl) rfl (by (simp (disch := omega) only [go_sem, ↓reduceIte, Nat.reduceEqDiff, Nat.reduceAdd, Nat.reduceLeDiff, hlenA, hix, w_index, ev_index, e0, e8]); try rfl) rfl ⟨x1, rfl⟩
    | false =>
      have he2 : ¬ itoa v = s.data.toList := fun e => by
        have h2 : (⟨(itoa v).toArray⟩ : ByteArray).toList = s.toList := by rw [ByteArray.toList_eq, ByteArray.toList_eq]; simpa using e
        rw [h2] at he
        simp at he
      simp (disch := omega) only [go_sem, ↓reduceIte, Nat.reduceEqDiff, Nat.reduceAdd, Nat.reduceLeDiff, hG, hlenA, hix, w_index, ev_index, e0, e8, he]; refine hK _ _ ?_; clear hK K hG G; repeat (first | refine thenI ?_ | refine thenE ?_ | refine thenR ?_ | refine inBI ?_ | refine inBR ?_ | refine inBS ?_ | refine inBN (by decide) ?_)
      rw [if_neg he2]
      repeat (first | (refine W_reg rfl fun G K hG hK => ?_; simp (disch := omega) only [go_sem, ↓reduceIte, Nat.reduceEqDiff, Nat.reduceAdd, Nat.reduceLeDiff, hG, hlenA, hix, w_index, ev_index, e0, e8]; refine hK _ _ ?_; clear hK K hG G) | (refine W_end rfl fun G K hG hK => ?_; simp (disch := omega) only [go_sem, ↓reduceIte, Nat.reduceEqDiff, Nat.reduceAdd, Nat.reduceLeDiff, hG, hlenA, hix, w_index, ev_index, e0, e8]; refine hK _ _ ?_; clear hK K hG G; repeat (first | refine thenI ?_ | refine thenE ?_ | refine thenR ?_ | refine inBI ?_ | refine inBR ?_ | refine inBS ?_ | refine inBN (by decide) ?_)) | refine W_seqS ?_ | refine W_seqC ?_ | refine W_seqB ?_ | refine W_block ?_ | (refine W_skip ?_; repeat (first | refine thenI ?_ | refine thenE ?_ | refine thenR ?_ | refine inBI ?_ | refine inBR ?_ | refine inBS ?_ | refine inBN (by decide) ?_)) | (refine W_condT ?hc ?_; (case hc => (simp (disch := omega) only [go_sem, ↓reduceIte, Nat.reduceEqDiff, Nat.reduceAdd, Nat.reduceLeDiff, hlenA, hix, w_index, ev_index, e0, e8]; done))) | (refine W_condF ?hc ?_; (case hc => (simp (disch := omega) only [go_sem, ↓reduceIte, Nat.reduceEqDiff, Nat.reduceAdd, Nat.reduceLeDiff, hlenA, hix, w_index, ev_index, e0, e8]; done))))
      refine W_ret ?_; try (repeat (first | refine thenI ?_ | refine thenE ?_ | refine thenR ?_ | refine inBI ?_ | refine inBR ?_ | refine inBS ?_ | refine inBN (by decide) ?_))
      refine fin2 (.inl rfl) (by (simp (disch := omega) only [go_sem, ↓reduceIte, Nat.reduceEqDiff, Nat.reduceAdd, Nat.reduceLeDiff, hlenA, hix, w_index, ev_index, e0, e8]); try rfl) rfl (by (simp (disch := omega) only [go_sem, ↓reduceIte, Nat.reduceEqDiff, Nat.reduceAdd, Nat.reduceLeDiff, hlenA, hix, w_index, ev_index, e0, e8]); try rfl) rfl ⟨x1, rfl⟩
end Go.Proofs.YtkocgcdakdoeiaaDoor.AM


/- ParseInt and ParseNumber of both sides; the laws FnExactParseInt, FnExactParseNumber. -/
namespace Go.Proofs.YtkocgcdakdoeiaaDoor.AM
open Go Go.Proofs Go.Lib
set_option linter.unusedVariables false
set_option linter.unusedSimpArgs false
set_option maxRecDepth 100000
attribute [local go_sem] List.map_cons List.map_nil List.all_cons List.all_nil Bool.and_self Option.map_some List.getElem?_toArray Option.bind_some gye_b gye_t gsk_b gsk_t gb1 gb2 gb3 gb4 bne_self_eq_false beq_self_eq_true w_guard w_nil stepV_some step_some step_some' w_move w_assign w_pick w_binOp w_unOp w_load w_fieldAddr w_indexAddr w_len w_max w_index ev_max max_int ev_index w_box w_alloc w_store w_field w_extract w_nilCheck w_convert w_buildSlice w_build ev_buildL fillL_nil fillL_cons bs0 bs1 ev_conv ev_bin ev_un ev_pick ev_load ev_fieldAddr ev_indexAddr ev_len ev_field ev_extract ev_nilCheck fr_tmp fr_int fr_bool fr_str fr_nil fr_func put_some put_none bin_lss bin_leq bin_gtr bin_geq bin_eql bin_neq bin_add bin_sub bin_mul bin_seql bin_sneq un_not pick_ ext_ loadA_p cellAt_l cellAt_h okPtr_l okPtr_h fadA_p allocA_l storeA_l cells_agg cells_int cells_str cells_sl cells_bool flat_i flat_s flat_b flat_sl flat_nil loc_agg loc_int loc_str loc_sl loc_bool loc_fn loc_ptr okv_agg okv_int okv_str okv_sl okv_bool cellsFrom splice upd_eval argEnv_zero argEnv_succ ne_eq Nat.add_one_ne_zero not_false_eq_true List.not_mem_nil and_self decide_true List.getElem?_cons_zero List.getElem?_cons_succ List.size_toArray List.length_cons List.length_nil List.take_succ_cons List.take_zero List.drop_succ_cons List.drop_zero List.cons_append List.nil_append List.drop_nil Bool.not_true Bool.not_false Bool.false_eq_true Nat.zero_add Nat.add_zero wrap_in List.toList_toArray List.mem_cons or_self or_false false_or
attribute [local go_sem] ag22 ag3 ag43 ag5 ag50 ag9 bu41 bu72 bu80 by5 el22 el35 el39 of41_0 of41_1 of41_2 ro3_12 ro5_1 ro9_12 sz22 sz3 sz43 sz5 sz50 sz9 ze49 ze5 ze65
-- AUTO

theorem l1Read6_ok (s : ByteArray) (st : St) (hb : s.size ≤ 281474976710656) :
    CallS Tryd.prog 18 [.string s, .int .i64 6] st fun r st2 => Ext st st2 ∧ NumQ (readN 6 s.data.toList) r := l1Read_ok s 6 st (by omega) hb
theorem l1Read12_ok (s : ByteArray) (st : St) (hb : s.size ≤ 281474976710656) :
    CallS Tryd.prog 18 [.string s, .int .i64 12] st fun r st2 => Ext st st2 ∧ NumQ (readN 12 s.data.toList) r := l1Read_ok s 12 st (by omega) hb
theorem implParseInt_ok (s : ByteArray) (st : St) (hb : s.size ≤ 281474976710656) :
    CallS Tryd.prog 7 [.string s] st fun r st2 => Ext st st2 ∧ NumQ (wholeN (-999999999999) 999999999999 s.data.toList) r := by
  refine CallS_of_W [] 8 Tryd.func7 rfl rfl rfl rfl (by simp) ?_
  repeat (first | (refine W_reg rfl fun G K hG hK => ?_; simp (disch := omega) only [go_sem, ↓reduceIte, Nat.reduceEqDiff, Nat.reduceAdd, Nat.reduceLeDiff, hG]; refine hK _ _ ?_; clear hK K hG G) | (refine W_end rfl fun G K hG hK => ?_; simp (disch := omega) only [go_sem, ↓reduceIte, Nat.reduceEqDiff, Nat.reduceAdd, Nat.reduceLeDiff, hG]; refine hK _ _ ?_; clear hK K hG G; repeat (first | refine thenI ?_ | refine thenE ?_ | refine thenR ?_ | refine inBI ?_ | refine inBR ?_ | refine inBS ?_ | refine inBN (by decide) ?_)) | refine W_seqS ?_ | refine W_seqC ?_ | refine W_seqB ?_ | refine W_block ?_ | (refine W_skip ?_; repeat (first | refine thenI ?_ | refine thenE ?_ | refine thenR ?_ | refine inBI ?_ | refine inBR ?_ | refine inBS ?_ | refine inBN (by decide) ?_)) | (refine W_condT ?hc ?_; (case hc => (simp (disch := omega) only [go_sem, ↓reduceIte, Nat.reduceEqDiff, Nat.reduceAdd, Nat.reduceLeDiff]; done))) | (refine W_condF ?hc ?_; (case hc => (simp (disch := omega) only [go_sem, ↓reduceIte, Nat.reduceEqDiff, Nat.reduceAdd, Nat.reduceLeDiff]; done))))
  (repeat (first | refine W_seqS ?_ | refine W_seqC ?_ | refine W_seqB ?_ | refine W_block ?_)); refine W_reg rfl fun G K hG hK => ?_; simp (disch := omega) only [go_sem, ↓reduceIte, Nat.reduceEqDiff, Nat.reduceAdd, Nat.reduceLeDiff, hG]
  refine w_call (implWhole_ok s (-999999999999) 999999999999 st hb (by omega) (by omega)) (by simp (disch := omega) only [go_sem, ↓reduceIte, Nat.reduceEqDiff]) ?hl ?_
  case hl => first | rfl | (simp only [go_sem, List.all_cons, List.all_nil, Bool.not_false, Bool.and_self]; done)
  rintro r_ sa ⟨x1, hq⟩; refine ⟨fun e => (by cases e), ?_⟩
  cases hn : wholeN (-999999999999) 999999999999 s.data.toList with
  | some v =>
    rw [hn] at hq
    simp only [NumQ] at hq
    subst hq
    simp (disch := omega) only [go_sem, ↓reduceIte, Nat.reduceEqDiff, Nat.reduceAdd, Nat.reduceLeDiff, hG]; refine hK _ _ ?_; clear hK K hG G; repeat (first | refine thenI ?_ | refine thenE ?_ | refine thenR ?_ | refine inBI ?_ | refine inBR ?_ | refine inBS ?_ | refine inBN (by decide) ?_)
    refine W_ret ?_; try (repeat (first | refine thenI ?_ | refine thenE ?_ | refine thenR ?_ | refine inBI ?_ | refine inBR ?_ | refine inBS ?_ | refine inBN (by decide) ?_))
    refine fin2 (.inl rfl) (by (simp (disch := omega) only [go_sem, ↓reduceIte, Nat.reduceEqDiff, Nat.reduceAdd, Nat.reduceLeDiff]); try rfl) rfl (by (simp (disch := omega) only [go_sem, ↓reduceIte, Nat.reduceEqDiff, Nat.reduceAdd, Nat.reduceLeDiff]); try rfl) rfl ⟨x1, by rw [hn]; rfl⟩
  | none =>
    rw [hn] at hq
    simp only [NumQ] at hq
    subst hq
    simp (disch := omega) only [go_sem, ↓reduceIte, Nat.reduceEqDiff, Nat.reduceAdd, Nat.reduceLeDiff, hG]; refine hK _ _ ?_; clear hK K hG G; repeat (first | refine thenI ?_ | refine thenE ?_ | refine thenR ?_ | refine inBI ?_ | refine inBR ?_ | refine inBS ?_ | refine inBN (by decide) ?_)
    refine W_ret ?_; try (repeat (first | refine thenI ?_ | refine thenE ?_ | refine thenR ?_ | refine inBI ?_ | refine inBR ?_ | refine inBS ?_ | refine inBN (by decide) ?_))
    refine fin2 (.inl rfl) (by (simp (disch := omega) only [go_sem, ↓reduceIte, Nat.reduceEqDiff, Nat.reduceAdd, Nat.reduceLeDiff]); try rfl) rfl (by (simp (disch := omega) only [go_sem, ↓reduceIte, Nat.reduceEqDiff, Nat.reduceAdd, Nat.reduceLeDiff]); try rfl) rfl ⟨x1, by rw [hn]; rfl⟩
theorem specParseNumber_ok (s : ByteArray) (st : St) (hb : s.size ≤ 281474976710656) :
    CallS Tryd.prog 11 [.string s] st fun r st2 => Ext st st2 ∧ NumQ (wholeN 0 999999 s.data.toList) r := by
  rw [num_same]
  refine CallS_of_W [] 18 Tryd.func11 rfl rfl rfl rfl (by simp) ?_
  repeat (first | (refine W_reg rfl fun G K hG hK => ?_; simp (disch := omega) only [go_sem, ↓reduceIte, Nat.reduceEqDiff, Nat.reduceAdd, Nat.reduceLeDiff, hG]; refine hK _ _ ?_; clear hK K hG G) | (refine W_end rfl fun G K hG hK => ?_; simp (disch := omega) only [go_sem, ↓reduceIte, Nat.reduceEqDiff, Nat.reduceAdd, Nat.reduceLeDiff, hG]; refine hK _ _ ?_; clear hK K hG G; repeat (first | refine thenI ?_ | refine thenE ?_ | refine thenR ?_ | refine inBI ?_ | refine inBR ?_ | refine inBS ?_ | refine inBN (by decide) ?_)) | refine W_seqS ?_ | refine W_seqC ?_ | refine W_seqB ?_ | refine W_block ?_ | (refine W_skip ?_; repeat (first | refine thenI ?_ | refine thenE ?_ | refine thenR ?_ | refine inBI ?_ | refine inBR ?_ | refine inBS ?_ | refine inBN (by decide) ?_)) | (refine W_condT ?hc ?_; (case hc => (simp (disch := omega) only [go_sem, ↓reduceIte, Nat.reduceEqDiff, Nat.reduceAdd, Nat.reduceLeDiff]; done))) | (refine W_condF ?hc ?_; (case hc => (simp (disch := omega) only [go_sem, ↓reduceIte, Nat.reduceEqDiff, Nat.reduceAdd, Nat.reduceLeDiff]; done))))
  (repeat (first | refine W_seqS ?_ | refine W_seqC ?_ | refine W_seqB ?_ | refine W_block ?_)); refine W_reg rfl fun G K hG hK => ?_; simp (disch := omega) only [go_sem, ↓reduceIte, Nat.reduceEqDiff, Nat.reduceAdd, Nat.reduceLeDiff, hG]
  refine w_call (l1Read6_ok s st hb) (by simp (disch := omega) only [go_sem, ↓reduceIte, Nat.reduceEqDiff]) ?hl ?_
  case hl => first | rfl | (simp only [go_sem, List.all_cons, List.all_nil, Bool.not_false, Bool.and_self]; done)
  rintro r_ sa ⟨x1, hq⟩; refine ⟨fun e => (by cases e), ?_⟩
  cases hn : readN 6 s.data.toList with
  | some v =>
    rw [hn] at hq
    simp only [NumQ] at hq
    subst hq
    by_cases hv : v < 0
    · have c1 : decide (v < 0) = true := by simpa using hv
      have c2 : decide (0 ≤ v) = false := by simp; omega
      simp (disch := omega) only [go_sem, ↓reduceIte, Nat.reduceEqDiff, Nat.reduceAdd, Nat.reduceLeDiff, hG]; refine hK _ _ ?_; clear hK K hG G; repeat (first | refine thenI ?_ | refine thenE ?_ | refine thenR ?_ | refine inBI ?_ | refine inBR ?_ | refine inBS ?_ | refine inBN (by decide) ?_)
      repeat (first | (refine W_reg rfl fun G K hG hK => ?_; simp (disch := omega) only [go_sem, ↓reduceIte, Nat.reduceEqDiff, Nat.reduceAdd, Nat.reduceLeDiff, hG, c1]; refine hK _ _ ?_; clear hK K hG G) | (refine W_end rfl fun G K hG hK => ?_; simp (disch := omega) only [go_sem, ↓reduceIte, Nat.reduceEqDiff, Nat.reduceAdd, Nat.reduceLeDiff, hG, c1]; refine hK _ _ ?_; clear hK K hG G; repeat (first | refine thenI ?_ | refine thenE ?_ | refine thenR ?_ | refine inBI ?_ | refine inBR ?_ | refine inBS ?_ | refine inBN (by decide) ?_)) | refine W_seqS ?_ | refine W_seqC ?_ | refine W_seqB ?_ | refine W_block ?_ | (refine W_skip ?_; repeat (first | refine thenI ?_ | refine thenE ?_ | refine thenR ?_ | refine inBI ?_ | refine inBR ?_ | refine inBS ?_ | refine inBN (by decide) ?_)) | (refine W_condT ?hc ?_; (case hc => (simp (disch := omega) only [go_sem, ↓reduceIte, Nat.reduceEqDiff, Nat.reduceAdd, Nat.reduceLeDiff, c1]; done))) | (refine W_condF ?hc ?_; (case hc => (simp (disch := omega) only [go_sem, ↓reduceIte, Nat.reduceEqDiff, Nat.reduceAdd, Nat.reduceLeDiff, c1]; done))))
      refine W_ret ?_; try (repeat (first | refine thenI ?_ | refine thenE ?_ | refine thenR ?_ | refine inBI ?_ | refine inBR ?_ | refine inBS ?_ | refine inBN (by decide) ?_))
      refine fin2 (.inl rfl) (by (simp (disch := omega) only [go_sem, ↓reduceIte, Nat.reduceEqDiff, Nat.reduceAdd, Nat.reduceLeDiff]); try rfl) rfl (by (simp (disch := omega) only [go_sem, ↓reduceIte, Nat.reduceEqDiff, Nat.reduceAdd, Nat.reduceLeDiff]); try rfl) rfl ⟨x1, by rw [hn, Option.filter_some, c2]; rfl⟩
    · have c1 : decide (v < 0) = false := by simpa using hv
      have c2 : decide (0 ≤ v) = true := by simp; omega
      simp (disch := omega) only [go_sem, ↓reduceIte, Nat.reduceEqDiff, Nat.reduceAdd, Nat.reduceLeDiff, hG]; refine hK _ _ ?_; clear hK K hG G; repeat (first | refine thenI ?_ | refine thenE ?_ | refine thenR ?_ | refine inBI ?_ | refine inBR ?_ | refine inBS ?_ | refine inBN (by decide) ?_)
      repeat (first | (refine W_reg rfl fun G K hG hK => ?_; simp (disch := omega) only [go_sem, ↓reduceIte, Nat.reduceEqDiff, Nat.reduceAdd, Nat.reduceLeDiff, hG, c1]; refine hK _ _ ?_; clear hK K hG G) | (refine W_end rfl fun G K hG hK => ?_; simp (disch := omega) only [go_sem, ↓reduceIte, Nat.reduceEqDiff, Nat.reduceAdd, Nat.reduceLeDiff, hG, c1]; refine hK _ _ ?_; clear hK K hG G; repeat (first | refine thenI ?_ | refine thenE ?_ | refine thenR ?_ | refine inBI ?_ | refine inBR ?_ | refine inBS ?_ | refine inBN (by decide) ?_)) | refine W_seqS ?_ | refine W_seqC ?_ | refine W_seqB ?_ | refine W_block ?_ | (refine W_skip ?_; repeat (first | refine thenI ?_ | refine thenE ?_ | refine thenR ?_ | refine inBI ?_ | refine inBR ?_ | refine inBS ?_ | refine inBN (by decide) ?_)) | (refine W_condT ?hc ?_; (case hc => (simp (disch := omega) only [go_sem, ↓reduceIte, Nat.reduceEqDiff, Nat.reduceAdd, Nat.reduceLeDiff, c1]; done))) | (refine W_condF ?hc ?_; (case hc => (simp (disch := omega) only [go_sem, ↓reduceIte, Nat.reduceEqDiff, Nat.reduceAdd, Nat.reduceLeDiff, c1]; done))))
      refine W_ret ?_; try (repeat (first | refine thenI ?_ | refine thenE ?_ | refine thenR ?_ | refine inBI ?_ | refine inBR ?_ | refine inBS ?_ | refine inBN (by decide) ?_))
      refine fin2 (.inl rfl) (by (simp (disch := omega) only [go_sem, ↓reduceIte, Nat.reduceEqDiff, Nat.reduceAdd, Nat.reduceLeDiff]); try rfl) rfl (by (simp (disch := omega) only [go_sem, ↓reduceIte, Nat.reduceEqDiff, Nat.reduceAdd, Nat.reduceLeDiff]); try rfl) rfl ⟨x1, by rw [hn, Option.filter_some, c2]; rfl⟩
  | none =>
    rw [hn] at hq
    simp only [NumQ] at hq
    subst hq
    simp (disch := omega) only [go_sem, ↓reduceIte, Nat.reduceEqDiff, Nat.reduceAdd, Nat.reduceLeDiff, hG]; refine hK _ _ ?_; clear hK K hG G; repeat (first | refine thenI ?_ | refine thenE ?_ | refine thenR ?_ | refine inBI ?_ | refine inBR ?_ | refine inBS ?_ | refine inBN (by decide) ?_)
    repeat (first | (refine W_reg rfl fun G K hG hK => ?_; simp (disch := omega) only [go_sem, ↓reduceIte, Nat.reduceEqDiff, Nat.reduceAdd, Nat.reduceLeDiff, hG]; refine hK _ _ ?_; clear hK K hG G) | (refine W_end rfl fun G K hG hK => ?_; simp (disch := omega) only [go_sem, ↓reduceIte, Nat.reduceEqDiff, Nat.reduceAdd, Nat.reduceLeDiff, hG]; refine hK _ _ ?_; clear hK K hG G; repeat (first | refine thenI ?_ | refine thenE ?_ | refine thenR ?_ | refine inBI ?_ | refine inBR ?_ | refine inBS ?_ | refine inBN (by decide) ?_)) | refine W_seqS ?_ | refine W_seqC ?_ | refine W_seqB ?_ | refine W_block ?_ | (refine W_skip ?_; repeat (first | refine thenI ?_ | refine thenE ?_ | refine thenR ?_ | refine inBI ?_ | refine inBR ?_ | refine inBS ?_ | refine inBN (by decide) ?_)) | (refine W_condT ?hc ?_; (case hc => (simp (disch := omega) only [go_sem, ↓reduceIte, Nat.reduceEqDiff, Nat.reduceAdd, Nat.reduceLeDiff]; done))) | (refine W_condF ?hc ?_; (case hc => (simp (disch := omega) only [go_sem, ↓reduceIte, Nat.reduceEqDiff, Nat.reduceAdd, Nat.reduceLeDiff]; done))))
    refine W_ret ?_; try (repeat (first | refine thenI ?_ | refine thenE ?_ | refine thenR ?_ | refine inBI ?_ | refine inBR ?_ | refine inBS ?_ | refine inBN (by decide) ?_))
    refine fin2 (.inl rfl) (by (simp (disch := omega) only [go_sem, ↓reduceIte, Nat.reduceEqDiff, Nat.reduceAdd, Nat.reduceLeDiff]); try rfl) rfl (by (simp (disch := omega) only [go_sem, ↓reduceIte, Nat.reduceEqDiff, Nat.reduceAdd, Nat.reduceLeDiff]); try rfl) rfl ⟨x1, by rw [hn]; rfl⟩
theorem implParseNumber_ok (s : ByteArray) (st : St) (hb : s.size ≤ 281474976710656) :
    CallS Tryd.prog 10 [.string s] st fun r st2 => Ext st st2 ∧ NumQ (wholeN 0 999999 s.data.toList) r := by
  refine CallS_of_W [] 8 Tryd.func10 rfl rfl rfl rfl (by simp) ?_
  repeat (first | (refine W_reg rfl fun G K hG hK => ?_; simp (disch := omega) only [go_sem, ↓reduceIte, Nat.reduceEqDiff, Nat.reduceAdd, Nat.reduceLeDiff, hG]; refine hK _ _ ?_; clear hK K hG G) | (refine W_end rfl fun G K hG hK => ?_; simp (disch := omega) only [go_sem, ↓reduceIte, Nat.reduceEqDiff, Nat.reduceAdd, Nat.reduceLeDiff, hG]; refine hK _ _ ?_; clear hK K hG G; repeat (first | refine thenI ?_ | refine thenE ?_ | refine thenR ?_ | refine inBI ?_ | refine inBR ?_ | refine inBS ?_ | refine inBN (by decide) ?_)) | refine W_seqS ?_ | refine W_seqC ?_ | refine W_seqB ?_ | refine W_block ?_ | (refine W_skip ?_; repeat (first | refine thenI ?_ | refine thenE ?_ | refine thenR ?_ | refine inBI ?_ | refine inBR ?_ | refine inBS ?_ | refine inBN (by decide) ?_)) | (refine W_condT ?hc ?_; (case hc => (simp (disch := omega) only [go_sem, ↓reduceIte, Nat.reduceEqDiff, Nat.reduceAdd, Nat.reduceLeDiff]; done))) | (refine W_condF ?hc ?_; (case hc => (simp (disch := omega) only [go_sem, ↓reduceIte, Nat.reduceEqDiff, Nat.reduceAdd, Nat.reduceLeDiff]; done))))
  (repeat (first | refine W_seqS ?_ | refine W_seqC ?_ | refine W_seqB ?_ | refine W_block ?_)); refine W_reg rfl fun G K hG hK => ?_; simp (disch := omega) only [go_sem, ↓reduceIte, Nat.reduceEqDiff, Nat.reduceAdd, Nat.reduceLeDiff, hG]
  refine w_call (implWhole_ok s 0 999999 st hb (by omega) (by omega)) (by simp (disch := omega) only [go_sem, ↓reduceIte, Nat.reduceEqDiff]) ?hl ?_
  case hl => first | rfl | (simp only [go_sem, List.all_cons, List.all_nil, Bool.not_false, Bool.and_self]; done)
  rintro r_ sa ⟨x1, hq⟩; refine ⟨fun e => (by cases e), ?_⟩
  cases hn : wholeN 0 999999 s.data.toList with
  | some v =>
    rw [hn] at hq
    simp only [NumQ] at hq
    subst hq
    simp (disch := omega) only [go_sem, ↓reduceIte, Nat.reduceEqDiff, Nat.reduceAdd, Nat.reduceLeDiff, hG]; refine hK _ _ ?_; clear hK K hG G; repeat (first | refine thenI ?_ | refine thenE ?_ | refine thenR ?_ | refine inBI ?_ | refine inBR ?_ | refine inBS ?_ | refine inBN (by decide) ?_)
    refine W_ret ?_; try (repeat (first | refine thenI ?_ | refine thenE ?_ | refine thenR ?_ | refine inBI ?_ | refine inBR ?_ | refine inBS ?_ | refine inBN (by decide) ?_))
    refine fin2 (.inl rfl) (by (simp (disch := omega) only [go_sem, ↓reduceIte, Nat.reduceEqDiff, Nat.reduceAdd, Nat.reduceLeDiff]); try rfl) rfl (by (simp (disch := omega) only [go_sem, ↓reduceIte, Nat.reduceEqDiff, Nat.reduceAdd, Nat.reduceLeDiff]); try rfl) rfl ⟨x1, by rw [hn]; rfl⟩
  | none =>
    rw [hn] at hq
    simp only [NumQ] at hq
    subst hq
    simp (disch := omega) only [go_sem, ↓reduceIte, Nat.reduceEqDiff, Nat.reduceAdd, Nat.reduceLeDiff, hG]; refine hK _ _ ?_; clear hK K hG G; repeat (first | refine thenI ?_ | refine thenE ?_ | refine thenR ?_ | refine inBI ?_ | refine inBR ?_ | refine inBS ?_ | refine inBN (by decide) ?_)
    refine W_ret ?_; try (repeat (first | refine thenI ?_ | refine thenE ?_ | refine thenR ?_ | refine inBI ?_ | refine inBR ?_ | refine inBS ?_ | refine inBN (by decide) ?_))
    refine fin2 (.inl rfl) (by (simp (disch := omega) only [go_sem, ↓reduceIte, Nat.reduceEqDiff, Nat.reduceAdd, Nat.reduceLeDiff]); try rfl) rfl (by (simp (disch := omega) only [go_sem, ↓reduceIte, Nat.reduceEqDiff, Nat.reduceAdd, Nat.reduceLeDiff]); try rfl) rfl ⟨x1, by rw [hn]; rfl⟩
end Go.Proofs.YtkocgcdakdoeiaaDoor.AM


/- Rows of bytes; the cursor of a draw: spec.l1New, l1Byte, l1Below, l1Once. -/
namespace Go.Proofs.YtkocgcdakdoeiaaDoor.AM
open Go Go.Proofs
set_option linter.unusedVariables false
set_option linter.unusedSimpArgs false
set_option maxRecDepth 100000
attribute [local go_sem] List.map_cons List.map_nil List.all_cons List.all_nil Bool.and_self Option.map_some List.getElem?_toArray Option.bind_some gye_b gye_t gsk_b gsk_t gb1 gb2 gb3 gb4 bne_self_eq_false beq_self_eq_true w_guard w_nil stepV_some step_some step_some' w_move w_assign w_pick w_binOp w_unOp w_load w_fieldAddr w_indexAddr w_len w_max w_index ev_max max_int ev_index w_box w_alloc w_store w_field w_extract w_nilCheck w_convert w_buildSlice w_build ev_buildL fillL_nil fillL_cons bs0 bs1 ev_conv ev_bin ev_un ev_pick ev_load ev_fieldAddr ev_indexAddr ev_len ev_field ev_extract ev_nilCheck fr_tmp fr_int fr_bool fr_str fr_nil fr_func put_some put_none bin_lss bin_leq bin_gtr bin_geq bin_eql bin_neq bin_add bin_sub bin_mul bin_seql bin_sneq un_not pick_ ext_ loadA_p cellAt_l cellAt_h okPtr_l okPtr_h fadA_p allocA_l storeA_l cells_agg cells_int cells_str cells_sl cells_bool flat_i flat_s flat_b flat_sl flat_nil loc_agg loc_int loc_str loc_sl loc_bool loc_fn loc_ptr okv_agg okv_int okv_str okv_sl okv_bool cellsFrom splice upd_eval argEnv_zero argEnv_succ ne_eq Nat.add_one_ne_zero not_false_eq_true List.not_mem_nil and_self decide_true List.getElem?_cons_zero List.getElem?_cons_succ List.size_toArray List.length_cons List.length_nil List.take_succ_cons List.take_zero List.drop_succ_cons List.drop_zero List.cons_append List.nil_append List.drop_nil Bool.not_true Bool.not_false Bool.false_eq_true Nat.zero_add Nat.add_zero wrap_in List.toList_toArray List.mem_cons or_self or_false false_or
attribute [local go_sem] ag22 ag3 ag43 ag5 ag50 ag9 bu41 bu72 bu80 by5 el22 el35 el39 of41_0 of41_1 of41_2 ro3_12 ro5_1 ro9_12 sz22 sz3 sz43 sz5 sz50 sz9 ze49 ze5 ze65
-- AUTO

/-- A byte of a row. -/
structure Byt where
  v : Int
def EncY (st : St) (b : Byt) (cs : List Value) : Prop := cs = [.int .u8 b.v]
abbrev RowY (st : St) (xs : List Byt) (s : Value) : Prop := Row (EncY st) 1 st xs s
theorem RowY.ext {st st' : St} {xs : List Byt} {s : Value} (h : RowY st xs s) (hx : Ext st st') : RowY st' xs s := Row.mono h hx fun _ _ _ he => he
theorem row_atY {st : St} {xs : List Byt} {s : Value} (h : RowY st xs s) {j : Nat} (hj : j < xs.length) : ∃ i o c, s = .slice (some ⟨i, o, none⟩) xs.length c ∧ cell st i (o + j * 1) = some (.int .u8 xs[j].v) := by
  obtain ⟨i, o, c, cs, rfl, _, hE, hc⟩ := row_at h (List.getElem?_eq_getElem hj)
  have : cs = [.int .u8 xs[j].v] := hE
  subst this
  exact ⟨i, o, c, rfl, hc 0 _ rfl⟩

def andI (a b : Int) : Int := IntKind.i64.wrap (BitVec.ofInt IntKind.i64.bits a &&& BitVec.ofInt IntKind.i64.bits b).toNat
def xorI (a b : Int) : Int := IntKind.i64.wrap (BitVec.ofInt IntKind.i64.bits a ^^^ BitVec.ofInt IntKind.i64.bits b).toNat
section
variable {P : Program} {t : TypeId} {x y : Operand}
theorem bin_and {a b : Int} : binE P .and t x y (.int .i64 a) (.int .i64 b) = some (.int .i64 (andI a b)) := rfl
theorem bin_xor {a b : Int} : binE P .xor t x y (.int .i64 a) (.int .i64 b) = some (.int .i64 (xorI a b)) := rfl
theorem bin_shr33 {a : Int} : binE P .shr t x y (.int .i64 a) (.int .u64 33) = some (.int .i64 (a.fdiv (2 ^ 33))) := rfl
theorem bin_shr45 {a : Int} : binE P .shr t x y (.int .i64 a) (.int .u64 45) = some (.int .i64 (a.fdiv (2 ^ 45))) := rfl
end
theorem and255 (a : Int) : 0 ≤ andI a 255 ∧ andI a 255 ≤ 255 := by
  have h : (BitVec.ofInt IntKind.i64.bits a &&& BitVec.ofInt IntKind.i64.bits 255).toNat ≤ 255 := by
    rw [BitVec.toNat_and]
    exact Nat.le_trans Nat.and_le_right (by decide)
  unfold andI
  generalize (BitVec.ofInt IntKind.i64.bits a &&& BitVec.ofInt IntKind.i64.bits 255).toNat = n at h
  rw [wrap_in (by omega) (by omega)]
  omega

/-- The cursor lies in block q; it goes over the row sb. -/
def Cur (st : St) (q : Nat) (xs : List Byt) : Prop := ∃ sb i h, st[q]? = some ⟨[sb, .int .i64 i, .int .i64 h], 41, 0⟩ ∧ RowY st xs sb ∧ (xs = [] ∨ ∃ b, topId sb = some b ∧ b < q) ∧ 0 ≤ i ∧ i ≤ xs.length ∧ xs.length ≤ 4611686018427387904
theorem far {xs : List Byt} {sb : Value} {q k : Nat} (h : xs = [] ∨ ∃ b, topId sb = some b ∧ b < q) (hk : q ≤ k) : xs = [] ∨ topId sb ≠ some k := h.imp id fun ⟨b, h1, h2⟩ e => by
  rw [h1] at e; cases e; omega
/-- What a draw leaves: the cursor alone has turned; what is new is new. -/
structure Drawn (q : Nat) (xs : List Byt) (st st' : St) : Prop where
  cur : Cur st' q xs
  away : Away (some q) st st'
theorem Away.refl (k : Option Nat) (st : St) : Away k st st := ⟨Nat.le_refl _, fun _ _ _ => rfl⟩
theorem Away.same {k : Option Nat} {a b c : St} (h : Away k a b) (g : Away k b c) : Away k a c := h.trans g (.inl rfl)
theorem Drawn.refl {q : Nat} {xs : List Byt} {st : St} (h : Cur st q xs) : Drawn q xs st st := ⟨h, .refl _ _⟩
theorem Drawn.trans {q : Nat} {xs : List Byt} {a b c : St} (h : Drawn q xs a b) (g : Drawn q xs b c) : Drawn q xs a c := ⟨g.cur, h.away.same g.away⟩
theorem row_away {st st' : St} {xs : List Byt} {s : Value} {q : Nat} (h : RowY st xs s) (ha : Away (some q) st st') (hn : xs = [] ∨ topId s ≠ some q) : RowY st' xs s := by
  rcases h with h | ⟨i, o, c, rfl, h⟩
  · exact .inl h
  · refine .inr ⟨i, o, c, rfl, fun j x hx => ?_⟩
    obtain ⟨cs, h1, h2, h3⟩ := h j x hx
    refine ⟨cs, h1, h2, fun k v hv => ?_⟩
    have h4 := h3 k v hv
    rcases hn with rfl | hn
    · simp at hx
    have hi : i < st.length := by
      unfold cell at h4
      rcases Nat.lt_or_ge i st.length with h5 | h5
      · exact h5
      · rw [List.getElem?_eq_none h5] at h4; cases h4
    have h5 := ha.2 i hi (fun e => hn e.symm)
    unfold cell at h4 ⊢
    rw [h5]; exact h4
theorem Cur.ext {st st' : St} {q : Nat} {xs : List Byt} (h : Cur st q xs) (hx : Ext st st') : Cur st' q xs := by
  obtain ⟨sb, i, h, h1, h2, h3⟩ := h
  exact ⟨sb, i, h, hx q _ h1, h2.ext hx, h3⟩
section
variable {st : St} {q : Nat} {a b c : Value}
theorem cur_cell0 {st : St} {q : Nat} {a b c : Value} {t : TypeId} (h : st[q]? = some ⟨[a, b, c], t, 0⟩) : cell st q 0 = some a := by simp [cell, h]
theorem cur_cell1 {st : St} {q : Nat} {a b c : Value} {t : TypeId} (h : st[q]? = some ⟨[a, b, c], t, 0⟩) : cell st q 1 = some b := by simp [cell, h]
theorem cur_cell2 {st : St} {q : Nat} {a b c : Value} {t : TypeId} (h : st[q]? = some ⟨[a, b, c], t, 0⟩) : cell st q 2 = some c := by simp [cell, h]
theorem cur_set1 {st : St} {q : Nat} {a b c : Value} {t : TypeId} (h : st[q]? = some ⟨[a, b, c], t, 0⟩) (loc : Nat → Nat × List Value) (v : Int) : storeA Tryd.prog 3 (.pointer (some ⟨q, 1, none⟩)) (.int .i64 v) loc st = some (loc, st.set q ⟨[a, .int .i64 v, c], t, 0⟩) := by
  rw [storeA_h, sz3]
  simp [h, okv_int, cells_int, splice]
theorem cur_set2 {st : St} {q : Nat} {a b c : Value} {t : TypeId} (h : st[q]? = some ⟨[a, b, c], t, 0⟩) (loc : Nat → Nat × List Value) (v : Int) : storeA Tryd.prog 3 (.pointer (some ⟨q, 2, none⟩)) (.int .i64 v) loc st = some (loc, st.set q ⟨[a, b, .int .i64 v], t, 0⟩) := by
  rw [storeA_h, sz3]
  simp [h, okv_int, cells_int, splice]
end
/-- The cursor stays where a block beyond it has turned. -/
theorem Cur.far {st st' : St} {q k : Nat} {xs : List Byt} (h : Cur st q xs) (ha : Away (some k) st st') (hk : q < k) : Cur st' q xs := by
  obtain ⟨sb, i, h, h1, h2, h3, h4⟩ := h
  have hq := (List.getElem?_eq_some_iff.1 h1).1
  exact ⟨sb, i, h, by rw [ha.2 q hq (fun e => by cases e; omega)]; exact h1, row_away h2 ha (AM.far h3 (by omega)), h3, h4⟩
theorem set_at {st : St} {q : Nat} {b b' : Blk} (h : st[q]? = some b) : (st.set q b')[q]? = some b' := List.getElem?_set_self (List.getElem?_eq_some_iff.1 h).1
theorem set_away {st : St} {q : Nat} {b' : Blk} : Away (some q) st (st.set q b') := ⟨by simp, fun i _ hi => List.getElem?_set_ne (fun e => hi (by rw [e]))⟩

theorem Row.cells1 {α : Type} {E : α → List Value → Prop} {sz : Nat} {st : St} {xs : List α} {s : Value} (h : Row E sz st xs s) : vc s = #[s] := by
  rcases h with ⟨h | h, _⟩ | ⟨i, o, c, rfl, _⟩
  · subst h; rfl
  · subst h; rfl
  · rfl
theorem l1New_ok (xs : List Byt) (st : St) (s : Value) (hbig : xs.length ≤ 4611686018427387904) (hr : RowY st xs s) :
    CallS Tryd.prog 13 [s] st fun r st2 => r = .pointer (some ⟨st.length, 0, none⟩) ∧ Ext st st2 ∧ Cur st2 st.length xs := by
  refine CallS_of_W [31] 32 Tryd.func13 rfl rfl rfl rfl (by simp) ?_
  have q1 := hr.notLoc.1
  have q2 := hr.notLoc.2
  have q3 := Row.cells1 hr
  have hlen : lenE Tryd.prog 22 s = some (.int .i64 xs.length) := row_len hr Tryd.underlying22
  have hcv := fun n => cvI_int (P := Tryd.prog) (k := .u8) (k' := .i64) (n := n) Tryd.underlying5 Tryd.underlying3
  repeat (first | (refine W_reg rfl fun G K hG hK => ?_; simp (disch := omega) only [go_sem, ↓reduceIte, Nat.reduceEqDiff, Nat.reduceAdd, Nat.reduceLeDiff, hG, q1, hlen, hcv, bin_and]; refine hK _ _ ?_; clear hK K hG G) | (refine W_end rfl fun G K hG hK => ?_; simp (disch := omega) only [go_sem, ↓reduceIte, Nat.reduceEqDiff, Nat.reduceAdd, Nat.reduceLeDiff, hG, q1, hlen, hcv, bin_and]; refine hK _ _ ?_; clear hK K hG G; repeat (first | refine thenI ?_ | refine thenE ?_ | refine thenR ?_ | refine inBI ?_ | refine inBR ?_ | refine inBS ?_ | refine inBN (by decide) ?_)) | refine W_seqS ?_ | refine W_seqC ?_ | refine W_seqB ?_ | refine W_block ?_ | (refine W_skip ?_; repeat (first | refine thenI ?_ | refine thenE ?_ | refine thenR ?_ | refine inBI ?_ | refine inBR ?_ | refine inBS ?_ | refine inBN (by decide) ?_)) | (refine W_condT ?hc ?_; (case hc => (simp (disch := omega) only [go_sem, ↓reduceIte, Nat.reduceEqDiff, Nat.reduceAdd, Nat.reduceLeDiff, q1, hlen, hcv, bin_and]; done))) | (refine W_condF ?hc ?_; (case hc => (simp (disch := omega) only [go_sem, ↓reduceIte, Nat.reduceEqDiff, Nat.reduceAdd, Nat.reduceLeDiff, q1, hlen, hcv, bin_and]; done))))
  refine W_loop (fun d fr st' => ∃ (j : Nat) (h : Int), d = xs.length - j ∧ j ≤ xs.length ∧ (st = st') ∧ (fr.env 0 = s) ∧ (fr.env 3 = .int .i64 h) ∧ (fr.env 4 = .int .i64 j)) (xs.length) ?_ ?_
  · exact ⟨0, _, by omega, by omega, rfl, (by (simp (disch := omega) only [go_sem, ↓reduceIte, Nat.reduceEqDiff, Nat.reduceAdd, Nat.reduceLeDiff, q1, hlen, hcv, bin_and]); try rfl), (by (simp (disch := omega) only [go_sem, ↓reduceIte, Nat.reduceEqDiff, Nat.reduceAdd, Nat.reduceLeDiff, q1, hlen, hcv, bin_and]); try rfl), (by (simp (disch := omega) only [go_sem, ↓reduceIte, Nat.reduceEqDiff, Nat.reduceAdd, Nat.reduceLeDiff, q1, hlen, hcv, bin_and]); try rfl)⟩
  rintro d ⟨env, loc⟩ st' ⟨j, h, hd, hj, hst, e0, e3, e4⟩
  simp only at e0 e3 e4
  subst hst
  have hne : xs = [] ∨ ∃ b, topId s = some b ∧ b < st.length := by
    rcases Nat.eq_zero_or_pos xs.length with h0 | h0
    · exact .inl (List.eq_nil_of_length_eq_zero h0)
    · obtain ⟨i, o, c, rfl, hce⟩ := row_atY hr h0
      refine .inr ⟨i, rfl, ?_⟩
      unfold cell at hce
      rcases Nat.lt_or_ge i st.length with h5 | h5
      · exact h5
      · rw [List.getElem?_eq_none h5] at hce; cases hce
  have hal : ∀ (z : List Value) (t : TypeId) (loc : Nat → Nat × List Value) (st : St), allocA [31] 31 z t loc st = (.pointer (some ⟨st.length, 0, none⟩), loc, st ++ [⟨z, t, 0⟩]) := fun _ _ _ _ => rfl
  have hfin : ∀ h : Int, Cur (st ++ [⟨[s, .int .i64 0, .int .i64 h], 41, 0⟩]) st.length xs := fun h => ⟨s, 0, h, by simp, hr.ext (Ext.app _ _), hne, by omega, by omega, hbig⟩
  by_cases hlt : j < xs.length
  · have c1 : decide ((j : Int) < (xs.length : Int)) = true := by simpa using hlt
    have hi := idxOk hlt
    have hx : xs[j]? = some xs[j] := List.getElem?_eq_getElem hlt
    have htk : xs.take (j + 1) = xs.take j ++ [xs[j]] := List.take_succ_eq_append_getElem hlt
    cases hc4 : decide ((j : Int) < 4000) with
    | false =>
      repeat (first | (refine W_reg rfl fun G K hG hK => ?_; simp (disch := omega) only [go_sem, ↓reduceIte, Nat.reduceEqDiff, Nat.reduceAdd, Nat.reduceLeDiff, hG, q1, hlen, hcv, bin_and, e0, e3, e4, hal, q2, q3, c1, hi, idxA, Int.toNat_natCast, hc4]; refine hK _ _ ?_; clear hK K hG G) | (refine W_end rfl fun G K hG hK => ?_; simp (disch := omega) only [go_sem, ↓reduceIte, Nat.reduceEqDiff, Nat.reduceAdd, Nat.reduceLeDiff, hG, q1, hlen, hcv, bin_and, e0, e3, e4, hal, q2, q3, c1, hi, idxA, Int.toNat_natCast, hc4]; refine hK _ _ ?_; clear hK K hG G; repeat (first | refine thenI ?_ | refine thenE ?_ | refine thenR ?_ | refine inBI ?_ | refine inBR ?_ | refine inBS ?_ | refine inBN (by decide) ?_)) | refine W_seqS ?_ | refine W_seqC ?_ | refine W_seqB ?_ | refine W_block ?_ | (refine W_skip ?_; repeat (first | refine thenI ?_ | refine thenE ?_ | refine thenR ?_ | refine inBI ?_ | refine inBR ?_ | refine inBS ?_ | refine inBN (by decide) ?_)) | (refine W_condT ?hc ?_; (case hc => (simp (disch := omega) only [go_sem, ↓reduceIte, Nat.reduceEqDiff, Nat.reduceAdd, Nat.reduceLeDiff, q1, hlen, hcv, bin_and, e0, e3, e4, hal, q2, q3, c1, hi, idxA, Int.toNat_natCast, hc4]; done))) | (refine W_condF ?hc ?_; (case hc => (simp (disch := omega) only [go_sem, ↓reduceIte, Nat.reduceEqDiff, Nat.reduceAdd, Nat.reduceLeDiff, q1, hlen, hcv, bin_and, e0, e3, e4, hal, q2, q3, c1, hi, idxA, Int.toNat_natCast, hc4]; done))))
      refine W_exit ?_; repeat (first | refine thenI ?_ | refine thenE ?_ | refine thenR ?_ | refine inBI ?_ | refine inBR ?_ | refine inBS ?_ | refine inBN (by decide) ?_)
      repeat (first | (refine W_reg rfl fun G K hG hK => ?_; simp (disch := omega) only [go_sem, ↓reduceIte, Nat.reduceEqDiff, Nat.reduceAdd, Nat.reduceLeDiff, hG, q1, hlen, hcv, bin_and, e0, e3, e4, hal, q2, q3, c1, hi, idxA, Int.toNat_natCast]; refine hK _ _ ?_; clear hK K hG G) | (refine W_end rfl fun G K hG hK => ?_; simp (disch := omega) only [go_sem, ↓reduceIte, Nat.reduceEqDiff, Nat.reduceAdd, Nat.reduceLeDiff, hG, q1, hlen, hcv, bin_and, e0, e3, e4, hal, q2, q3, c1, hi, idxA, Int.toNat_natCast]; refine hK _ _ ?_; clear hK K hG G; repeat (first | refine thenI ?_ | refine thenE ?_ | refine thenR ?_ | refine inBI ?_ | refine inBR ?_ | refine inBS ?_ | refine inBN (by decide) ?_)) | refine W_seqS ?_ | refine W_seqC ?_ | refine W_seqB ?_ | refine W_block ?_ | (refine W_skip ?_; repeat (first | refine thenI ?_ | refine thenE ?_ | refine thenR ?_ | refine inBI ?_ | refine inBR ?_ | refine inBS ?_ | refine inBN (by decide) ?_)) | (refine W_condT ?hc ?_; (case hc => (simp (disch := omega) only [go_sem, ↓reduceIte, Nat.reduceEqDiff, Nat.reduceAdd, Nat.reduceLeDiff, q1, hlen, hcv, bin_and, e0, e3, e4, hal, q2, q3, c1, hi, idxA, Int.toNat_natCast]; done))) | (refine W_condF ?hc ?_; (case hc => (simp (disch := omega) only [go_sem, ↓reduceIte, Nat.reduceEqDiff, Nat.reduceAdd, Nat.reduceLeDiff, q1, hlen, hcv, bin_and, e0, e3, e4, hal, q2, q3, c1, hi, idxA, Int.toNat_natCast]; done))))
      refine W_ret ?_; try (repeat (first | refine thenI ?_ | refine thenE ?_ | refine thenR ?_ | refine inBI ?_ | refine inBR ?_ | refine inBS ?_ | refine inBN (by decide) ?_))
      refine fin1 (.inl rfl) (by (simp (disch := omega) only [go_sem, ↓reduceIte, Nat.reduceEqDiff, Nat.reduceAdd, Nat.reduceLeDiff, q1, hlen, hcv, bin_and, e0, e3, e4, hal, q2, q3, c1, hi, idxA, Int.toNat_natCast]); try rfl) rfl ⟨rfl, Ext.app _ _, hfin h⟩
    | true =>
      obtain ⟨i, o, c, rfl, hce⟩ := row_atY hr hlt
      repeat (first | (refine W_reg rfl fun G K hG hK => ?_; simp (disch := omega) only [go_sem, ↓reduceIte, Nat.reduceEqDiff, Nat.reduceAdd, Nat.reduceLeDiff, hG, q1, hlen, hcv, bin_and, e0, e3, e4, hal, q2, q3, c1, hi, idxA, Int.toNat_natCast, hc4, hce]; refine hK _ _ ?_; clear hK K hG G) | (refine W_end rfl fun G K hG hK => ?_; simp (disch := omega) only [go_sem, ↓reduceIte, Nat.reduceEqDiff, Nat.reduceAdd, Nat.reduceLeDiff, hG, q1, hlen, hcv, bin_and, e0, e3, e4, hal, q2, q3, c1, hi, idxA, Int.toNat_natCast, hc4, hce]; refine hK _ _ ?_; clear hK K hG G; repeat (first | refine thenI ?_ | refine thenE ?_ | refine thenR ?_ | refine inBI ?_ | refine inBR ?_ | refine inBS ?_ | refine inBN (by decide) ?_)) | refine W_seqS ?_ | refine W_seqC ?_ | refine W_seqB ?_ | refine W_block ?_ | (refine W_skip ?_; repeat (first | refine thenI ?_ | refine thenE ?_ | refine thenR ?_ | refine inBI ?_ | refine inBR ?_ | refine inBS ?_ | refine inBN (by decide) ?_)) | (refine W_condT ?hc ?_; (case hc => (simp (disch := omega) only [go_sem, ↓reduceIte, Nat.reduceEqDiff, Nat.reduceAdd, Nat.reduceLeDiff, q1, hlen, hcv, bin_and, e0, e3, e4, hal, q2, q3, c1, hi, idxA, Int.toNat_natCast, hc4, hce]; done))) | (refine W_condF ?hc ?_; (case hc => (simp (disch := omega) only [go_sem, ↓reduceIte, Nat.reduceEqDiff, Nat.reduceAdd, Nat.reduceLeDiff, q1, hlen, hcv, bin_and, e0, e3, e4, hal, q2, q3, c1, hi, idxA, Int.toNat_natCast, hc4, hce]; done))))
      refine ⟨xs.length - (j + 1), by omega, j + 1, _, rfl, by omega, rfl, (by (simp (disch := omega) only [go_sem, ↓reduceIte, Nat.reduceEqDiff, Nat.reduceAdd, Nat.reduceLeDiff, q1, hlen, hcv, bin_and, e0, e3, e4, hal, q2, q3, c1, hi, idxA, Int.toNat_natCast]); try rfl), (by (simp (disch := omega) only [go_sem, ↓reduceIte, Nat.reduceEqDiff, Nat.reduceAdd, Nat.reduceLeDiff, q1, hlen, hcv, bin_and, e0, e3, e4, hal, q2, q3, c1, hi, idxA, Int.toNat_natCast]); try rfl), (by (simp (disch := omega) only [go_sem, ↓reduceIte, Nat.reduceEqDiff, Nat.reduceAdd, Nat.reduceLeDiff, q1, hlen, hcv, bin_and, e0, e3, e4, hal, q2, q3, c1, hi, idxA, Int.toNat_natCast]); try rfl)⟩
  · have c1 : decide ((j : Int) < (xs.length : Int)) = false := by simpa using hlt
    have hjn : j = xs.length := by omega
    subst hjn
    repeat (first | (refine W_reg rfl fun G K hG hK => ?_; simp (disch := omega) only [go_sem, ↓reduceIte, Nat.reduceEqDiff, Nat.reduceAdd, Nat.reduceLeDiff, hG, q1, hlen, hcv, bin_and, e0, e3, e4, c1, hal, q2, q3]; refine hK _ _ ?_; clear hK K hG G) | (refine W_end rfl fun G K hG hK => ?_; simp (disch := omega) only [go_sem, ↓reduceIte, Nat.reduceEqDiff, Nat.reduceAdd, Nat.reduceLeDiff, hG, q1, hlen, hcv, bin_and, e0, e3, e4, c1, hal, q2, q3]; refine hK _ _ ?_; clear hK K hG G; repeat (first | refine thenI ?_ | refine thenE ?_ | refine thenR ?_ | refine inBI ?_ | refine inBR ?_ | refine inBS ?_ | refine inBN (by decide) ?_)) | refine W_seqS ?_ | refine W_seqC ?_ | refine W_seqB ?_ | refine W_block ?_ | (refine W_skip ?_; repeat (first | refine thenI ?_ | refine thenE ?_ | refine thenR ?_ | refine inBI ?_ | refine inBR ?_ | refine inBS ?_ | refine inBN (by decide) ?_)) | (refine W_condT ?hc ?_; (case hc => (simp (disch := omega) only [go_sem, ↓reduceIte, Nat.reduceEqDiff, Nat.reduceAdd, Nat.reduceLeDiff, q1, hlen, hcv, bin_and, e0, e3, e4, c1, hal, q2, q3]; done))) | (refine W_condF ?hc ?_; (case hc => (simp (disch := omega) only [go_sem, ↓reduceIte, Nat.reduceEqDiff, Nat.reduceAdd, Nat.reduceLeDiff, q1, hlen, hcv, bin_and, e0, e3, e4, c1, hal, q2, q3]; done))))
    refine W_exit ?_; repeat (first | refine thenI ?_ | refine thenE ?_ | refine thenR ?_ | refine inBI ?_ | refine inBR ?_ | refine inBS ?_ | refine inBN (by decide) ?_)
    repeat (first | (refine W_reg rfl fun G K hG hK => ?_; simp (disch := omega) only [go_sem, ↓reduceIte, Nat.reduceEqDiff, Nat.reduceAdd, Nat.reduceLeDiff, hG, q1, hlen, hcv, bin_and, e0, e3, e4, c1, hal, q2, q3]; refine hK _ _ ?_; clear hK K hG G) | (refine W_end rfl fun G K hG hK => ?_; simp (disch := omega) only [go_sem, ↓reduceIte, Nat.reduceEqDiff, Nat.reduceAdd, Nat.reduceLeDiff, hG, q1, hlen, hcv, bin_and, e0, e3, e4, c1, hal, q2, q3]; refine hK _ _ ?_; clear hK K hG G; repeat (first | refine thenI ?_ | refine thenE ?_ | refine thenR ?_ | refine inBI ?_ | refine inBR ?_ | refine inBS ?_ | refine inBN (by decide) ?_)) | refine W_seqS ?_ | refine W_seqC ?_ | refine W_seqB ?_ | refine W_block ?_ | (refine W_skip ?_; repeat (first | refine thenI ?_ | refine thenE ?_ | refine thenR ?_ | refine inBI ?_ | refine inBR ?_ | refine inBS ?_ | refine inBN (by decide) ?_)) | (refine W_condT ?hc ?_; (case hc => (simp (disch := omega) only [go_sem, ↓reduceIte, Nat.reduceEqDiff, Nat.reduceAdd, Nat.reduceLeDiff, q1, hlen, hcv, bin_and, e0, e3, e4, c1, hal, q2, q3]; done))) | (refine W_condF ?hc ?_; (case hc => (simp (disch := omega) only [go_sem, ↓reduceIte, Nat.reduceEqDiff, Nat.reduceAdd, Nat.reduceLeDiff, q1, hlen, hcv, bin_and, e0, e3, e4, c1, hal, q2, q3]; done))))
    refine W_ret ?_; try (repeat (first | refine thenI ?_ | refine thenE ?_ | refine thenR ?_ | refine inBI ?_ | refine inBR ?_ | refine inBS ?_ | refine inBN (by decide) ?_))
    refine fin1 (.inl rfl) (by (simp (disch := omega) only [go_sem, ↓reduceIte, Nat.reduceEqDiff, Nat.reduceAdd, Nat.reduceLeDiff, q1, hlen, hcv, bin_and, e0, e3, e4, c1, hal, q2, q3]); try rfl) rfl ⟨rfl, Ext.app _ _, hfin h⟩

theorem l1Byte_ok (q : Nat) (xs : List Byt) (st : St) (hq : Cur st q xs) :
    CallS Tryd.prog 23 [.pointer (some ⟨q, 0, none⟩)] st fun r st2 => (∃ x : Int, r = .int .i64 x ∧ 0 ≤ x ∧ x ≤ 255) ∧ Drawn q xs st st2 ∧ st2.length = st.length := by
  refine CallS_of_W [] 58 Tryd.func23 rfl rfl rfl rfl (by simp) ?_
  obtain ⟨sb, i, h, h1, hr, hne, hi0, hi1, hbig⟩ := hq
  obtain ⟨n, rfl⟩ : ∃ n : Nat, i = n := ⟨i.toNat, by omega⟩
  have hlen : lenE Tryd.prog 22 sb = some (.int .i64 xs.length) := row_len hr Tryd.underlying22
  have q1 := hr.notLoc.1
  have q2 := hr.notLoc.2
  have hcv := fun n => cvI_int (P := Tryd.prog) (k := .u8) (k' := .i64) (n := n) Tryd.underlying5 Tryd.underlying3
  have c2 := cur_cell2 h1
  have s2 := cur_set2 h1
  repeat (first | (refine W_reg rfl fun G K hG hK => ?_; simp (disch := omega) only [go_sem, ↓reduceIte, Nat.reduceEqDiff, Nat.reduceAdd, Nat.reduceLeDiff, hG, q1, q2, hlen, hcv, bin_and, bin_xor, bin_shr33, bin_shr45, nc_h, okPtr_h, cellAt_h, c2, s2]; refine hK _ _ ?_; clear hK K hG G) | (refine W_end rfl fun G K hG hK => ?_; simp (disch := omega) only [go_sem, ↓reduceIte, Nat.reduceEqDiff, Nat.reduceAdd, Nat.reduceLeDiff, hG, q1, q2, hlen, hcv, bin_and, bin_xor, bin_shr33, bin_shr45, nc_h, okPtr_h, cellAt_h, c2, s2]; refine hK _ _ ?_; clear hK K hG G; repeat (first | refine thenI ?_ | refine thenE ?_ | refine thenR ?_ | refine inBI ?_ | refine inBR ?_ | refine inBS ?_ | refine inBN (by decide) ?_)) | refine W_seqS ?_ | refine W_seqC ?_ | refine W_seqB ?_ | refine W_block ?_ | (refine W_skip ?_; repeat (first | refine thenI ?_ | refine thenE ?_ | refine thenR ?_ | refine inBI ?_ | refine inBR ?_ | refine inBS ?_ | refine inBN (by decide) ?_)) | (refine W_condT ?hc ?_; (case hc => (simp (disch := omega) only [go_sem, ↓reduceIte, Nat.reduceEqDiff, Nat.reduceAdd, Nat.reduceLeDiff, q1, q2, hlen, hcv, bin_and, bin_xor, bin_shr33, bin_shr45, nc_h, okPtr_h, cellAt_h, c2, s2]; done))) | (refine W_condF ?hc ?_; (case hc => (simp (disch := omega) only [go_sem, ↓reduceIte, Nat.reduceEqDiff, Nat.reduceAdd, Nat.reduceLeDiff, q1, q2, hlen, hcv, bin_and, bin_xor, bin_shr33, bin_shr45, nc_h, okPtr_h, cellAt_h, c2, s2]; done))))
  obtain ⟨h2, hh2⟩ : ∃ h2, h2 = IntKind.i64.wrap (IntKind.i64.wrap (h * 6364136223846793005) + 1442695040888963407) := ⟨_, rfl⟩
  rw [← hh2]
  have g1 := set_at (b' := ⟨[sb, .int .i64 (n : Int), .int .i64 h2], 41, 0⟩) h1
  have ha := set_away (st := st) (q := q) (b' := ⟨[sb, .int .i64 (n : Int), .int .i64 h2], 41, 0⟩)
  have hl2 : (st.set q ⟨[sb, .int .i64 (n : Int), .int .i64 h2], 41, 0⟩).length = st.length := by simp
  generalize st.set q ⟨[sb, .int .i64 (n : Int), .int .i64 h2], 41, 0⟩ = st1 at g1 ha hl2 ⊢
  have hr1 := row_away hr ha (far hne (Nat.le_refl q))
  have d0 := cur_cell0 g1
  have d1 := cur_cell1 g1
  have d2 := cur_cell2 g1
  (repeat (first | refine W_seqS ?_ | refine W_seqC ?_ | refine W_seqB ?_ | refine W_block ?_)); refine W_regD mixed [] [(0,false),(1,false),(2,false),(3,false),(4,false),(5,false),(6,false),(7,false),(8,false),(9,false),(10,false),(11,false),(12,false)] rfl (by decide +kernel) fun G K hG hK => ?_; simp only [pickOps, List.filterMap_cons, List.filterMap_nil, List.getElem?_cons_zero, List.getElem?_cons_succ, Option.map_some]; simp (disch := omega) only [go_sem, ↓reduceIte, Nat.reduceEqDiff, Nat.reduceAdd, Nat.reduceLeDiff, hG, q1, q2, hlen, hcv, bin_and, bin_xor, bin_shr33, bin_shr45, nc_h, okPtr_h, cellAt_h, d0, d1, d2]
  refine hK _ _ ?_; clear hK K hG G; repeat (first | refine thenI ?_ | refine thenE ?_ | refine thenR ?_ | refine inBI ?_ | refine inBR ?_ | refine inBS ?_ | refine inBN (by decide) ?_)
  by_cases hlt : n < xs.length
  · have c1 : decide ((n : Int) < (xs.length : Int)) = true := by simpa using hlt
    have hi := idxOk hlt
    obtain ⟨ib, ob, cb, rfl, hce⟩ := row_atY hr1 hlt
    have s1 := cur_set1 g1
    (repeat (first | refine W_seqS ?_ | refine W_seqC ?_ | refine W_seqB ?_ | refine W_block ?_)); refine W_regD mixed [] [(0,false),(1,false),(2,false),(3,false),(4,false),(5,false),(6,false),(7,false),(8,false),(9,false)] rfl (by decide +kernel) fun G K hG hK => ?_; simp only [pickOps, List.filterMap_cons, List.filterMap_nil, List.getElem?_cons_zero, List.getElem?_cons_succ, Option.map_some]; simp (disch := omega) only [go_sem, ↓reduceIte, Nat.reduceEqDiff, Nat.reduceAdd, Nat.reduceLeDiff, hG, q1, q2, hlen, hcv, bin_and, bin_xor, bin_shr33, bin_shr45, nc_h, okPtr_h, cellAt_h, d0, d1, d2, c1]
    refine hK _ _ ?_; clear hK K hG G; repeat (first | refine thenI ?_ | refine thenE ?_ | refine thenR ?_ | refine inBI ?_ | refine inBR ?_ | refine inBS ?_ | refine inBN (by decide) ?_)
    repeat (first | (refine W_reg rfl fun G K hG hK => ?_; simp (disch := omega) only [go_sem, ↓reduceIte, Nat.reduceEqDiff, Nat.reduceAdd, Nat.reduceLeDiff, hG, q1, q2, hlen, hcv, bin_and, bin_xor, bin_shr33, bin_shr45, nc_h, okPtr_h, cellAt_h, d0, d1, d2, c1]; refine hK _ _ ?_; clear hK K hG G) | (refine W_end rfl fun G K hG hK => ?_; simp (disch := omega) only [go_sem, ↓reduceIte, Nat.reduceEqDiff, Nat.reduceAdd, Nat.reduceLeDiff, hG, q1, q2, hlen, hcv, bin_and, bin_xor, bin_shr33, bin_shr45, nc_h, okPtr_h, cellAt_h, d0, d1, d2, c1]; refine hK _ _ ?_; clear hK K hG G; repeat (first | refine thenI ?_ | refine thenE ?_ | refine thenR ?_ | refine inBI ?_ | refine inBR ?_ | refine inBS ?_ | refine inBN (by decide) ?_)) | refine W_seqS ?_ | refine W_seqC ?_ | refine W_seqB ?_ | refine W_block ?_ | (refine W_skip ?_; repeat (first | refine thenI ?_ | refine thenE ?_ | refine thenR ?_ | refine inBI ?_ | refine inBR ?_ | refine inBS ?_ | refine inBN (by decide) ?_)) | (refine W_condT ?hc ?_; (case hc => (simp (disch := omega) only [go_sem, ↓reduceIte, Nat.reduceEqDiff, Nat.reduceAdd, Nat.reduceLeDiff, q1, q2, hlen, hcv, bin_and, bin_xor, bin_shr33, bin_shr45, nc_h, okPtr_h, cellAt_h, d0, d1, d2, c1]; done))) | (refine W_condF ?hc ?_; (case hc => (simp (disch := omega) only [go_sem, ↓reduceIte, Nat.reduceEqDiff, Nat.reduceAdd, Nat.reduceLeDiff, q1, q2, hlen, hcv, bin_and, bin_xor, bin_shr33, bin_shr45, nc_h, okPtr_h, cellAt_h, d0, d1, d2, c1]; done))))
    (repeat (first | refine W_seqS ?_ | refine W_seqC ?_ | refine W_seqB ?_ | refine W_block ?_)); refine W_regD mixed [] [(0,false),(1,false),(2,false),(3,false),(4,false),(5,false),(6,false),(7,false),(8,false),(9,false),(10,false),(11,false),(12,false),(13,false),(14,false)] rfl (by decide +kernel) fun G K hG hK => ?_; simp only [pickOps, List.filterMap_cons, List.filterMap_nil, List.getElem?_cons_zero, List.getElem?_cons_succ, Option.map_some]; simp (disch := omega) only [go_sem, ↓reduceIte, Nat.reduceEqDiff, Nat.reduceAdd, Nat.reduceLeDiff, hG, q1, q2, hlen, hcv, bin_and, bin_xor, bin_shr33, bin_shr45, nc_h, okPtr_h, cellAt_h, d0, d1, d2, hi, idxA, Int.toNat_natCast, hce]
    refine hK _ _ ?_; clear hK K hG G; repeat (first | refine thenI ?_ | refine thenE ?_ | refine thenR ?_ | refine inBI ?_ | refine inBR ?_ | refine inBS ?_ | refine inBN (by decide) ?_)
    repeat (first | (refine W_reg rfl fun G K hG hK => ?_; simp (disch := omega) only [go_sem, ↓reduceIte, Nat.reduceEqDiff, Nat.reduceAdd, Nat.reduceLeDiff, hG, q1, q2, hlen, hcv, bin_and, bin_xor, bin_shr33, bin_shr45, nc_h, okPtr_h, cellAt_h, d0, d1, d2, s1]; refine hK _ _ ?_; clear hK K hG G) | (refine W_end rfl fun G K hG hK => ?_; simp (disch := omega) only [go_sem, ↓reduceIte, Nat.reduceEqDiff, Nat.reduceAdd, Nat.reduceLeDiff, hG, q1, q2, hlen, hcv, bin_and, bin_xor, bin_shr33, bin_shr45, nc_h, okPtr_h, cellAt_h, d0, d1, d2, s1]; refine hK _ _ ?_; clear hK K hG G; repeat (first | refine thenI ?_ | refine thenE ?_ | refine thenR ?_ | refine inBI ?_ | refine inBR ?_ | refine inBS ?_ | refine inBN (by decide) ?_)) | refine W_seqS ?_ | refine W_seqC ?_ | refine W_seqB ?_ | refine W_block ?_ | (refine W_skip ?_; repeat (first | refine thenI ?_ | refine thenE ?_ | refine thenR ?_ | refine inBI ?_ | refine inBR ?_ | refine inBS ?_ | refine inBN (by decide) ?_)) | (refine W_condT ?hc ?_; (case hc => (simp (disch := omega) only [go_sem, ↓reduceIte, Nat.reduceEqDiff, Nat.reduceAdd, Nat.reduceLeDiff, q1, q2, hlen, hcv, bin_and, bin_xor, bin_shr33, bin_shr45, nc_h, okPtr_h, cellAt_h, d0, d1, d2, s1]; done))) | (refine W_condF ?hc ?_; (case hc => (simp (disch := omega) only [go_sem, ↓reduceIte, Nat.reduceEqDiff, Nat.reduceAdd, Nat.reduceLeDiff, q1, q2, hlen, hcv, bin_and, bin_xor, bin_shr33, bin_shr45, nc_h, okPtr_h, cellAt_h, d0, d1, d2, s1]; done))))
    refine W_ret ?_; try (repeat (first | refine thenI ?_ | refine thenE ?_ | refine thenR ?_ | refine inBI ?_ | refine inBR ?_ | refine inBS ?_ | refine inBN (by decide) ?_))
    refine fin1 (.inl rfl) (by (simp (disch := omega) only [go_sem, ↓reduceIte, Nat.reduceEqDiff, Nat.reduceAdd, Nat.reduceLeDiff, q1, q2, hlen, hcv, bin_and, bin_xor, bin_shr33, bin_shr45, nc_h, okPtr_h, cellAt_h, d0, d1, d2]); try rfl) rfl ⟨⟨_, rfl, and255 _⟩, ⟨⟨_, (n : Int) + 1, h2, set_at g1, row_away hr1 set_away (far hne (Nat.le_refl q)), hne, by omega, by omega, hbig⟩, ha.same set_away⟩, by rw [List.length_set, hl2]⟩
  · have c1 : decide ((n : Int) < (xs.length : Int)) = false := by simpa using hlt
    (repeat (first | refine W_seqS ?_ | refine W_seqC ?_ | refine W_seqB ?_ | refine W_block ?_)); refine W_regD mixed [] [(0,false),(1,false),(2,false),(3,false),(4,false),(5,false),(6,false),(7,false),(8,false),(9,false)] rfl (by decide +kernel) fun G K hG hK => ?_; simp only [pickOps, List.filterMap_cons, List.filterMap_nil, List.getElem?_cons_zero, List.getElem?_cons_succ, Option.map_some]; simp (disch := omega) only [go_sem, ↓reduceIte, Nat.reduceEqDiff, Nat.reduceAdd, Nat.reduceLeDiff, hG, q1, q2, hlen, hcv, bin_and, bin_xor, bin_shr33, bin_shr45, nc_h, okPtr_h, cellAt_h, d0, d1, d2, c1]
    refine hK _ _ ?_; clear hK K hG G; repeat (first | refine thenI ?_ | refine thenE ?_ | refine thenR ?_ | refine inBI ?_ | refine inBR ?_ | refine inBS ?_ | refine inBN (by decide) ?_)
    repeat (first | (refine W_reg rfl fun G K hG hK => ?_; simp (disch := omega) only [go_sem, ↓reduceIte, Nat.reduceEqDiff, Nat.reduceAdd, Nat.reduceLeDiff, hG, q1, q2, hlen, hcv, bin_and, bin_xor, bin_shr33, bin_shr45, nc_h, okPtr_h, cellAt_h, d0, d1, d2, c1]; refine hK _ _ ?_; clear hK K hG G) | (refine W_end rfl fun G K hG hK => ?_; simp (disch := omega) only [go_sem, ↓reduceIte, Nat.reduceEqDiff, Nat.reduceAdd, Nat.reduceLeDiff, hG, q1, q2, hlen, hcv, bin_and, bin_xor, bin_shr33, bin_shr45, nc_h, okPtr_h, cellAt_h, d0, d1, d2, c1]; refine hK _ _ ?_; clear hK K hG G; repeat (first | refine thenI ?_ | refine thenE ?_ | refine thenR ?_ | refine inBI ?_ | refine inBR ?_ | refine inBS ?_ | refine inBN (by decide) ?_)) | refine W_seqS ?_ | refine W_seqC ?_ | refine W_seqB ?_ | refine W_block ?_ | (refine W_skip ?_; repeat (first | refine thenI ?_ | refine thenE ?_ | refine thenR ?_ | refine inBI ?_ | refine inBR ?_ | refine inBS ?_ | refine inBN (by decide) ?_)) | (refine W_condT ?hc ?_; (case hc => (simp (disch := omega) only [go_sem, ↓reduceIte, Nat.reduceEqDiff, Nat.reduceAdd, Nat.reduceLeDiff, q1, q2, hlen, hcv, bin_and, bin_xor, bin_shr33, bin_shr45, nc_h, okPtr_h, cellAt_h, d0, d1, d2, c1]; done))) | (refine W_condF ?hc ?_; (case hc => (simp (disch := omega) only [go_sem, ↓reduceIte, Nat.reduceEqDiff, Nat.reduceAdd, Nat.reduceLeDiff, q1, q2, hlen, hcv, bin_and, bin_xor, bin_shr33, bin_shr45, nc_h, okPtr_h, cellAt_h, d0, d1, d2, c1]; done))))
    refine W_ret ?_; try (repeat (first | refine thenI ?_ | refine thenE ?_ | refine thenR ?_ | refine inBI ?_ | refine inBR ?_ | refine inBS ?_ | refine inBN (by decide) ?_))
    refine fin1 (.inl rfl) (by (simp (disch := omega) only [go_sem, ↓reduceIte, Nat.reduceEqDiff, Nat.reduceAdd, Nat.reduceLeDiff, q1, q2, hlen, hcv, bin_and, bin_xor, bin_shr33, bin_shr45, nc_h, okPtr_h, cellAt_h, d0, d1, d2]); try rfl) rfl ⟨⟨_, rfl, and255 _⟩, ⟨⟨_, (n : Int), h2, g1, hr1, hne, by omega, by omega, hbig⟩, ha⟩, hl2⟩
/-- A number drawn below n. -/
theorem l1Below_ok (q : Nat) (xs : List Byt) (st : St) (n : Int) (hn0 : 0 < n) (hn1 : n ≤ 256) (hq : Cur st q xs) :
    CallS Tryd.prog 19 [.pointer (some ⟨q, 0, none⟩), .int .i64 n] st fun r st2 => (∃ x : Int, r = .int .i64 x ∧ 0 ≤ x ∧ x < n) ∧ Drawn q xs st st2 ∧ st2.length = st.length := by
  refine CallS_of_W [] 37 Tryd.func19 rfl rfl rfl rfl (by simp) ?_
  have c1 : decide (n ≤ 0) = false := by simp; omega
  have c2 : decide (n ≤ 256) = true := by simp; omega
  have hrem : ∀ (t : TypeId) (x y : Operand) (a : Int), binE Tryd.prog .rem t x y (.int .i64 a) (.int .i64 n) = some (.int .i64 (a.tmod n)) := fun t x y a => bin_rem (by omega)
  repeat (first | (refine W_reg rfl fun G K hG hK => ?_; simp (disch := omega) only [go_sem, ↓reduceIte, Nat.reduceEqDiff, Nat.reduceAdd, Nat.reduceLeDiff, hG, c1, c2]; refine hK _ _ ?_; clear hK K hG G) | (refine W_end rfl fun G K hG hK => ?_; simp (disch := omega) only [go_sem, ↓reduceIte, Nat.reduceEqDiff, Nat.reduceAdd, Nat.reduceLeDiff, hG, c1, c2]; refine hK _ _ ?_; clear hK K hG G; repeat (first | refine thenI ?_ | refine thenE ?_ | refine thenR ?_ | refine inBI ?_ | refine inBR ?_ | refine inBS ?_ | refine inBN (by decide) ?_)) | refine W_seqS ?_ | refine W_seqC ?_ | refine W_seqB ?_ | refine W_block ?_ | (refine W_skip ?_; repeat (first | refine thenI ?_ | refine thenE ?_ | refine thenR ?_ | refine inBI ?_ | refine inBR ?_ | refine inBS ?_ | refine inBN (by decide) ?_)) | (refine W_condT ?hc ?_; (case hc => (simp (disch := omega) only [go_sem, ↓reduceIte, Nat.reduceEqDiff, Nat.reduceAdd, Nat.reduceLeDiff, c1, c2]; done))) | (refine W_condF ?hc ?_; (case hc => (simp (disch := omega) only [go_sem, ↓reduceIte, Nat.reduceEqDiff, Nat.reduceAdd, Nat.reduceLeDiff, c1, c2]; done))))
  (repeat (first | refine W_seqS ?_ | refine W_seqC ?_ | refine W_seqB ?_ | refine W_block ?_)); refine W_reg rfl fun G K hG hK => ?_; simp (disch := omega) only [go_sem, ↓reduceIte, Nat.reduceEqDiff, Nat.reduceAdd, Nat.reduceLeDiff, hG]
  refine w_call (l1Byte_ok q xs st hq) (by simp (disch := omega) only [go_sem, ↓reduceIte, Nat.reduceEqDiff]) ?hl ?_
  case hl => first | rfl | (simp only [go_sem, List.all_cons, List.all_nil, Bool.not_false, Bool.and_self]; done)
  rintro r_ sa ⟨⟨x, rfl, hx0, hx1⟩, hd, hl⟩; refine ⟨fun e => (by cases e), ?_⟩
  simp (disch := omega) only [go_sem, ↓reduceIte, Nat.reduceEqDiff, Nat.reduceAdd, Nat.reduceLeDiff, hG, hrem]; refine hK _ _ ?_; clear hK K hG G; repeat (first | refine thenI ?_ | refine thenE ?_ | refine thenR ?_ | refine inBI ?_ | refine inBR ?_ | refine inBS ?_ | refine inBN (by decide) ?_)
  repeat (first | (refine W_reg rfl fun G K hG hK => ?_; simp (disch := omega) only [go_sem, ↓reduceIte, Nat.reduceEqDiff, Nat.reduceAdd, Nat.reduceLeDiff, hG]; refine hK _ _ ?_; clear hK K hG G) | (refine W_end rfl fun G K hG hK => ?_; simp (disch := omega) only [go_sem, ↓reduceIte, Nat.reduceEqDiff, Nat.reduceAdd, Nat.reduceLeDiff, hG]; refine hK _ _ ?_; clear hK K hG G; repeat (first | refine thenI ?_ | refine thenE ?_ | refine thenR ?_ | refine inBI ?_ | refine inBR ?_ | refine inBS ?_ | refine inBN (by decide) ?_)) | refine W_seqS ?_ | refine W_seqC ?_ | refine W_seqB ?_ | refine W_block ?_ | (refine W_skip ?_; repeat (first | refine thenI ?_ | refine thenE ?_ | refine thenR ?_ | refine inBI ?_ | refine inBR ?_ | refine inBS ?_ | refine inBN (by decide) ?_)) | (refine W_condT ?hc ?_; (case hc => (simp (disch := omega) only [go_sem, ↓reduceIte, Nat.reduceEqDiff, Nat.reduceAdd, Nat.reduceLeDiff]; done))) | (refine W_condF ?hc ?_; (case hc => (simp (disch := omega) only [go_sem, ↓reduceIte, Nat.reduceEqDiff, Nat.reduceAdd, Nat.reduceLeDiff]; done))))
  refine W_ret ?_; try (repeat (first | refine thenI ?_ | refine thenE ?_ | refine thenR ?_ | refine inBI ?_ | refine inBR ?_ | refine inBS ?_ | refine inBN (by decide) ?_))
  refine fin1 (.inl rfl) (by (simp (disch := omega) only [go_sem, ↓reduceIte, Nat.reduceEqDiff, Nat.reduceAdd, Nat.reduceLeDiff]); try rfl) rfl ⟨⟨_, rfl, Int.tmod_nonneg _ hx0, Int.tmod_lt_of_pos _ hn0⟩, hd, hl⟩
theorem l1Once_ok (q : Nat) (xs : List Byt) (st : St) (n : Int) (hn0 : 0 < n) (hn1 : n ≤ 256) (hq : Cur st q xs) :
    CallS Tryd.prog 16 [.pointer (some ⟨q, 0, none⟩), .int .i64 n] st fun r st2 => (∃ b : Bool, r = .bool b) ∧ Drawn q xs st st2 ∧ st2.length = st.length := by
  refine CallS_of_W [] 9 Tryd.func16 rfl rfl rfl rfl (by simp) ?_
  repeat (first | (refine W_reg rfl fun G K hG hK => ?_; simp (disch := omega) only [go_sem, ↓reduceIte, Nat.reduceEqDiff, Nat.reduceAdd, Nat.reduceLeDiff, hG]; refine hK _ _ ?_; clear hK K hG G) | (refine W_end rfl fun G K hG hK => ?_; simp (disch := omega) only [go_sem, ↓reduceIte, Nat.reduceEqDiff, Nat.reduceAdd, Nat.reduceLeDiff, hG]; refine hK _ _ ?_; clear hK K hG G; repeat (first | refine thenI ?_ | refine thenE ?_ | refine thenR ?_ | refine inBI ?_ | refine inBR ?_ | refine inBS ?_ | refine inBN (by decide) ?_)) | refine W_seqS ?_ | refine W_seqC ?_ | refine W_seqB ?_ | refine W_block ?_ | (refine W_skip ?_; repeat (first | refine thenI ?_ | refine thenE ?_ | refine thenR ?_ | refine inBI ?_ | refine inBR ?_ | refine inBS ?_ | refine inBN (by decide) ?_)) | (refine W_condT ?hc ?_; (case hc => (simp (disch := omega) only [go_sem, ↓reduceIte, Nat.reduceEqDiff, Nat.reduceAdd, Nat.reduceLeDiff]; done))) | (refine W_condF ?hc ?_; (case hc => (simp (disch := omega) only [go_sem, ↓reduceIte, Nat.reduceEqDiff, Nat.reduceAdd, Nat.reduceLeDiff]; done))))
  (repeat (first | refine W_seqS ?_ | refine W_seqC ?_ | refine W_seqB ?_ | refine W_block ?_)); refine W_reg rfl fun G K hG hK => ?_; simp (disch := omega) only [go_sem, ↓reduceIte, Nat.reduceEqDiff, Nat.reduceAdd, Nat.reduceLeDiff, hG]
  refine w_call (l1Below_ok q xs st n hn0 hn1 hq) (by simp (disch := omega) only [go_sem, ↓reduceIte, Nat.reduceEqDiff]) ?hl ?_
  case hl => first | rfl | (simp only [go_sem, List.all_cons, List.all_nil, Bool.not_false, Bool.and_self]; done)
  rintro r_ sa ⟨⟨x, rfl, hx0, hx1⟩, hd, hl⟩; refine ⟨fun e => (by cases e), ?_⟩
  simp (disch := omega) only [go_sem, ↓reduceIte, Nat.reduceEqDiff, Nat.reduceAdd, Nat.reduceLeDiff, hG]; refine hK _ _ ?_; clear hK K hG G; repeat (first | refine thenI ?_ | refine thenE ?_ | refine thenR ?_ | refine inBI ?_ | refine inBR ?_ | refine inBS ?_ | refine inBN (by decide) ?_)
  refine W_ret ?_; try (repeat (first | refine thenI ?_ | refine thenE ?_ | refine thenR ?_ | refine inBI ?_ | refine inBR ?_ | refine inBS ?_ | refine inBN (by decide) ?_))
  refine fin1 (.inl rfl) (by (simp (disch := omega) only [go_sem, ↓reduceIte, Nat.reduceEqDiff, Nat.reduceAdd, Nat.reduceLeDiff]); try rfl) rfl ⟨⟨_, rfl⟩, hd, hl⟩
end Go.Proofs.YtkocgcdakdoeiaaDoor.AM


/- Rows of strings: laws.toStringS, laws.szStringS, laws.eqStringS, laws.markStringS, laws.heldStringS. -/
namespace Go.Proofs.YtkocgcdakdoeiaaDoor.AM
open Go Go.Proofs
set_option linter.unusedVariables false
set_option linter.unusedSimpArgs false
set_option maxRecDepth 100000
attribute [local go_sem] List.map_cons List.map_nil List.all_cons List.all_nil Bool.and_self Option.map_some List.getElem?_toArray Option.bind_some gye_b gye_t gsk_b gsk_t gb1 gb2 gb3 gb4 bne_self_eq_false beq_self_eq_true w_guard w_nil stepV_some step_some step_some' w_move w_assign w_pick w_binOp w_unOp w_load w_fieldAddr w_indexAddr w_len w_max w_index ev_max max_int ev_index w_box w_alloc w_store w_field w_extract w_nilCheck w_convert w_buildSlice w_build ev_buildL fillL_nil fillL_cons bs0 bs1 ev_conv ev_bin ev_un ev_pick ev_load ev_fieldAddr ev_indexAddr ev_len ev_field ev_extract ev_nilCheck fr_tmp fr_int fr_bool fr_str fr_nil fr_func put_some put_none bin_lss bin_leq bin_gtr bin_geq bin_eql bin_neq bin_add bin_sub bin_mul bin_seql bin_sneq un_not pick_ ext_ loadA_p cellAt_l cellAt_h okPtr_l okPtr_h fadA_p allocA_l storeA_l cells_agg cells_int cells_str cells_sl cells_bool flat_i flat_s flat_b flat_sl flat_nil loc_agg loc_int loc_str loc_sl loc_bool loc_fn loc_ptr okv_agg okv_int okv_str okv_sl okv_bool cellsFrom splice upd_eval argEnv_zero argEnv_succ ne_eq Nat.add_one_ne_zero not_false_eq_true List.not_mem_nil and_self decide_true List.getElem?_cons_zero List.getElem?_cons_succ List.size_toArray List.length_cons List.length_nil List.take_succ_cons List.take_zero List.drop_succ_cons List.drop_zero List.cons_append List.nil_append List.drop_nil Bool.not_true Bool.not_false Bool.false_eq_true Nat.zero_add Nat.add_zero wrap_in List.toList_toArray List.mem_cons or_self or_false false_or
attribute [local go_sem] ag22 ag3 ag43 ag5 ag50 ag9 bu41 bu72 bu80 by5 el22 el35 el39 of41_0 of41_1 of41_2 ro3_12 ro5_1 ro9_12 sz22 sz3 sz43 sz5 sz50 sz9 ze49 ze5 ze65
-- AUTO

theorem row_atS {st : St} {xs : List ByteArray} {s : Value} (h : Rw st xs s) {j : Nat} {x : ByteArray} (hx : xs[j]? = some x) {n : Nat} (hn : xs.length = n := by rfl) : ∃ i o c, s = .slice (some ⟨i, o, none⟩) n c ∧ cell st i (o + j * 1) = some (.string x) := by
  subst hn
  obtain ⟨i, o, c, cs, rfl, _, rfl, hc⟩ := row_at h hx
  exact ⟨i, o, c, rfl, hc 0 _ rfl⟩

theorem mkL_strs (xs : List ByteArray) (k : Nat) : (mkL xs k).2 = k + xs.length := by
  induction xs generalizing k with
  | nil => rfl
  | cons x xs ih => simp only [mkL, ih, List.length_cons, Marks.mk1]; omega

end Go.Proofs.YtkocgcdakdoeiaaDoor.AM


/- Names are sorted: spec.SortNames. -/
namespace Go.Proofs.YtkocgcdakdoeiaaDoor.AM
open Go Go.Proofs
set_option linter.unusedVariables false
set_option linter.unusedSimpArgs false
set_option maxRecDepth 100000
attribute [local go_sem] List.map_cons List.map_nil List.all_cons List.all_nil Bool.and_self Option.map_some List.getElem?_toArray Option.bind_some gye_b gye_t gsk_b gsk_t gb1 gb2 gb3 gb4 bne_self_eq_false beq_self_eq_true w_guard w_nil stepV_some step_some step_some' w_move w_assign w_pick w_binOp w_unOp w_load w_fieldAddr w_indexAddr w_len w_max w_index ev_max max_int ev_index w_box w_alloc w_store w_field w_extract w_nilCheck w_convert w_buildSlice w_build ev_buildL fillL_nil fillL_cons bs0 bs1 ev_conv ev_bin ev_un ev_pick ev_load ev_fieldAddr ev_indexAddr ev_len ev_field ev_extract ev_nilCheck fr_tmp fr_int fr_bool fr_str fr_nil fr_func put_some put_none bin_lss bin_leq bin_gtr bin_geq bin_eql bin_neq bin_add bin_sub bin_mul bin_seql bin_sneq un_not pick_ ext_ loadA_p cellAt_l cellAt_h okPtr_l okPtr_h fadA_p allocA_l storeA_l cells_agg cells_int cells_str cells_sl cells_bool flat_i flat_s flat_b flat_sl flat_nil loc_agg loc_int loc_str loc_sl loc_bool loc_fn loc_ptr okv_agg okv_int okv_str okv_sl okv_bool cellsFrom splice upd_eval argEnv_zero argEnv_succ ne_eq Nat.add_one_ne_zero not_false_eq_true List.not_mem_nil and_self decide_true List.getElem?_cons_zero List.getElem?_cons_succ List.size_toArray List.length_cons List.length_nil List.take_succ_cons List.take_zero List.drop_succ_cons List.drop_zero List.cons_append List.nil_append List.drop_nil Bool.not_true Bool.not_false Bool.false_eq_true Nat.zero_add Nat.add_zero wrap_in List.toList_toArray List.mem_cons or_self or_false false_or
attribute [local go_sem] ag22 ag3 ag43 ag5 ag50 ag9 bu41 bu72 bu80 by5 el22 el35 el39 of41_0 of41_1 of41_2 ro3_12 ro5_1 ro9_12 sz22 sz3 sz43 sz5 sz50 sz9 ze49 ze5 ze65
-- AUTO

theorem insB_drop {e : ByteArray} {acc : List ByteArray} {j : Nat} (hj : j < acc.length) : insB e (acc.drop j) = if Op.bytesLess acc[j].toList e.toList = true then acc[j] :: insB e (acc.drop (j + 1)) else if acc[j].toList = e.toList then acc.drop j else e :: acc.drop j := by
  rw [List.drop_eq_getElem_cons hj]; rfl
/-- Parts of a row. -/
theorem row_upto {α : Type} {E : α → List Value → Prop} {sz : Nat} {st : St} {xs : List α} {i o c : Nat} (h : Row E (sz + 1) st xs (.slice (some ⟨i, o, none⟩) xs.length c)) {P : Program} {t e : TypeId} (hu : P.underlying t = some (.slice e)) (hs : szA P e = some (sz + 1)) {k : Nat} (hk : k ≤ xs.length) :
    ∃ s', sliceA P t (.slice (some ⟨i, o, none⟩) xs.length c) none (some (.int .i64 k)) = some s' ∧ Row E (sz + 1) st (xs.take k) s' := by
  have he : elemA P t = some e := by unfold elemA; rw [hu]
  refine ⟨.slice (some ⟨i, o + 0 * (sz + 1), none⟩) (k - 0) (k - 0), ?_, ?_⟩
  · unfold sliceA
    simp only [he, hs, Int.toNat_natCast]
    rw [if_pos (by omega)]; rfl
  · rcases h with ⟨h0, rfl⟩ | ⟨i', o', c', he', h⟩
    · refine .inr ⟨i, o + 0 * (sz + 1), k - 0, by simp at hk; simp [hk], fun j x hx => by simp at hx⟩
    · cases he'
      refine .inr ⟨i, o + 0 * (sz + 1), k - 0, by simp; omega, fun j x hx => ?_⟩
      rw [List.getElem?_take] at hx
      split at hx
      · rw [Nat.zero_mul, Nat.add_zero]; exact h j x hx
      · cases hx
theorem row_from {α : Type} {E : α → List Value → Prop} {sz : Nat} {st : St} {xs : List α} {i o c : Nat} (h : Row E (sz + 1) st xs (.slice (some ⟨i, o, none⟩) xs.length c)) {P : Program} {t e : TypeId} (hu : P.underlying t = some (.slice e)) (hs : szA P e = some (sz + 1)) {k : Nat} (hk : k ≤ xs.length) :
    ∃ s', sliceA P t (.slice (some ⟨i, o, none⟩) xs.length c) (some (.int .i64 k)) none = some s' ∧ Row E (sz + 1) st (xs.drop k) s' := by
  have he : elemA P t = some e := by unfold elemA; rw [hu]
  refine ⟨.slice (some ⟨i, o + k * (sz + 1), none⟩) (xs.length - k) (xs.length - k), ?_, ?_⟩
  · unfold sliceA
    simp only [he, hs, Int.toNat_natCast]
    rw [if_pos (by omega)]
  · rcases h with ⟨h0, rfl⟩ | ⟨i', o', c', he', h⟩
    · exact .inr ⟨i, o + k * (sz + 1), _, by simp; rfl, fun j x hx => by simp at hx⟩
    · cases he'
      refine .inr ⟨i, o + k * (sz + 1), xs.length - k, by simp, fun j x hx => ?_⟩
      rw [List.getElem?_drop] at hx
      obtain ⟨cs, h1, h2, h3⟩ := h (k + j) x hx
      exact ⟨cs, h1, h2, by rwa [show o + k * (sz + 1) + j * (sz + 1) = o + (k + j) * (sz + 1) by rw [Nat.add_mul]; omega]⟩
theorem SliceO.topSome {α : Type} {E : α → List Value → List Nat → Prop} {e : TypeId} {st : St} {xs : List α} {s : Value} {L : List Nat} {n : Nat} (h : SliceO E e st xs s L) (hf : Fresh n L) (h0 : xs ≠ []) : ∃ m, n ≤ m ∧ topId s = some m := by
  rcases h with ⟨rfl, h, _⟩ | ⟨i, c, cs, K, rfl, _, _, rfl⟩
  · exact absurd h h0
  · exact ⟨i, hf.2 i (by simp), rfl⟩
theorem insB_nil {e : ByteArray} : insB e [] = [e] := rfl
end Go.Proofs.YtkocgcdakdoeiaaDoor.AM


/- What a pattern's variables take: spec.l3Vars, spec.VarsOfTerm, spec.RestrictSubst, spec.MatchTerm, IsInstance and IsVariant on both sides. -/
namespace Go.Proofs.YtkocgcdakdoeiaaDoor.AM
open Go Go.Proofs
set_option linter.unusedVariables false
set_option linter.unusedSimpArgs false
set_option maxRecDepth 100000
attribute [local go_sem] List.map_cons List.map_nil List.all_cons List.all_nil Bool.and_self Option.map_some List.getElem?_toArray Option.bind_some gye_b gye_t gsk_b gsk_t gb1 gb2 gb3 gb4 bne_self_eq_false beq_self_eq_true w_guard w_nil stepV_some step_some step_some' w_move w_assign w_pick w_binOp w_unOp w_load w_fieldAddr w_indexAddr w_len w_max w_index ev_max max_int ev_index w_box w_alloc w_store w_field w_extract w_nilCheck w_convert w_buildSlice w_build ev_buildL fillL_nil fillL_cons bs0 bs1 ev_conv ev_bin ev_un ev_pick ev_load ev_fieldAddr ev_indexAddr ev_len ev_field ev_extract ev_nilCheck fr_tmp fr_int fr_bool fr_str fr_nil fr_func put_some put_none bin_lss bin_leq bin_gtr bin_geq bin_eql bin_neq bin_add bin_sub bin_mul bin_seql bin_sneq un_not pick_ ext_ loadA_p cellAt_l cellAt_h okPtr_l okPtr_h fadA_p allocA_l storeA_l cells_agg cells_int cells_str cells_sl cells_bool flat_i flat_s flat_b flat_sl flat_nil loc_agg loc_int loc_str loc_sl loc_bool loc_fn loc_ptr okv_agg okv_int okv_str okv_sl okv_bool cellsFrom splice upd_eval argEnv_zero argEnv_succ ne_eq Nat.add_one_ne_zero not_false_eq_true List.not_mem_nil and_self decide_true List.getElem?_cons_zero List.getElem?_cons_succ List.size_toArray List.length_cons List.length_nil List.take_succ_cons List.take_zero List.drop_succ_cons List.drop_zero List.cons_append List.nil_append List.drop_nil Bool.not_true Bool.not_false Bool.false_eq_true Nat.zero_add Nat.add_zero wrap_in List.toList_toArray List.mem_cons or_self or_false false_or
attribute [local go_sem] ag22 ag3 ag43 ag5 ag50 ag9 bu41 bu72 bu80 by5 el22 el35 el39 of41_0 of41_1 of41_2 ro3_12 ro5_1 ro9_12 sz22 sz3 sz43 sz5 sz50 sz9 ze49 ze5 ze65
-- AUTO

mutual
def T.vars : T → List ByteArray
  | .mk k _ nm xs => (if (k == 1) = true then [nm] else []) ++ T.varsL xs
def T.varsL : List T → List ByteArray
  | [] => []
  | x :: xs => T.vars x ++ T.varsL xs
end
theorem T.vars_mk {k n : Int} {nm : ByteArray} {xs : List T} : T.vars (.mk k n nm xs) = (if (k == 1) = true then [nm] else []) ++ T.varsL xs := by simp only [T.vars]
theorem T.varsL_snoc (xs : List T) (x : T) : T.varsL (xs ++ [x]) = T.varsL xs ++ T.vars x := by
  induction xs with
  | nil => simp [T.varsL]
  | cons y ys ih => simp only [List.cons_append, T.varsL, ih, List.append_assoc]
theorem T.varsL_take {xs : List T} {j : Nat} (h : j < xs.length) : T.varsL (xs.take (j + 1)) = T.varsL (xs.take j) ++ T.vars xs[j] := by
  rw [List.take_succ_eq_append_getElem h, T.varsL_snoc]
theorem T.varsL_len0 : ∀ ys : List T, (∀ y ∈ ys, (T.vars y).length ≤ y.wt + 1) → (T.varsL ys).length ≤ T.wtL ys + ys.length := by
  intro ys
  induction ys with
  | nil => intro _; simp [T.varsL]
  | cons y ys ihy =>
    intro h
    have h1 := h y (by simp)
    have h2 := ihy fun z hz => h z (by simp [hz])
    simp only [T.varsL, List.length_append, T.wtL, List.length_cons]
    omega
theorem T.vars_len : ∀ t : T, (T.vars t).length ≤ t.wt + 1 := by
  refine T.ind fun k n nm xs ih => ?_
  have h1 := T.varsL_len0 xs ih
  rw [T.vars_mk]
  simp only [T.wt, List.length_append]
  split <;> simp <;> omega
theorem T.varsL_len (ys : List T) : (T.varsL ys).length ≤ T.wtL ys + ys.length := T.varsL_len0 ys fun y _ => T.vars_len y
theorem T.wtL_app (xs ys : List T) : T.wtL (xs ++ ys) = T.wtL xs + T.wtL ys := by
  induction xs with
  | nil => simp [T.wtL]
  | cons x xs ih => simp only [List.cons_append, T.wtL, ih]; omega
theorem T.vars_room {xs : List T} {j : Nat} (h : j < xs.length) : (T.varsL (xs.take j)).length + xs[j].wt + 1 ≤ T.wtL xs + xs.length := by
  have h1 := T.varsL_len (xs.take j)
  have h2 := T.wtL_app (xs.take j) (xs.drop j)
  rw [List.take_append_drop, List.drop_eq_getElem_cons h] at h2
  simp only [T.wtL] at h2
  simp only [List.length_take] at h1
  omega
/-- The bindings of some names. -/
def restr (bs : List Bnd) (ns : List ByteArray) : List Bnd := ns.filterMap fun n => (findB n bs).map fun t => ⟨n, t⟩
theorem restr_len (bs : List Bnd) (ns : List ByteArray) : (restr bs ns).length ≤ ns.length := List.length_filterMap_le _ _
theorem restr_none {bs : List Bnd} {ns : List ByteArray} {n : ByteArray} (h : (findB n bs).isSome = false) : restr bs (ns ++ [n]) = restr bs ns := by
  unfold restr
  rw [List.filterMap_append]
  cases hf : findB n bs with
  | none => simp [hf]
  | some t => rw [hf] at h; cases h
theorem restr_some {bs : List Bnd} {ns : List ByteArray} {n : ByteArray} (h : (findB n bs).isSome = true) : restr bs (ns ++ [n]) = restr bs ns ++ [⟨n, findD n bs⟩] := by
  unfold restr findD
  rw [List.filterMap_append]
  cases hf : findB n bs with
  | none => rw [hf] at h; cases h
  | some t => simp [hf]

/-- A row stays where another block alone has turned. -/
theorem Sl.away {α : Type} [Kind α] {a b : St} {xs : List α} {s : Value} {L : List Nat} {k : Option Nat} {n m : Nat} (h : Sl a xs s L) (hw : Away k a b) (hL : ∀ i ∈ L, n ≤ i ∧ i < m) (hk : ∀ q, k = some q → q < n ∨ m ≤ q) : Sl b xs s L :=
  h.frame fun i hi => hw.2 i (h.lt i hi) fun e => by
    have h1 := hL i hi
    have h2 := hk i e
    omega
/-- What spec.MatchTerm and impl.MatchTerm yield. -/
def T.mres (p t : T) : List Bnd := match T.matF p t [] with
  | some l => restr l (namesB (namesB (T.vars p)))
  | none => []
end Go.Proofs.YtkocgcdakdoeiaaDoor.AM


/- The whole world as an abstract store: what a law begins with. -/
namespace Go.Proofs.YtkocgcdakdoeiaaDoor.AM
open Go Go.RowKit
set_option linter.unusedVariables false
set_option linter.unusedSimpArgs false

def jv : Value := .pointer (some ⟨0, 0, some 0⟩)
/-- A world's value, if it can be told of. -/
def absV (n : Nat) (v : Value) : Value := match v with
  | .slice (some a) l c => if a.spot = none ∧ a.block < n ∧ l ≤ c then v else if l = 0 ∧ c = 0 then .slice (some ⟨0, 0, some 0⟩) 0 0 else jv
  | v => if flat1 v then v else jv
def absB (W : World) (i : Nat) : Blk := match W.heap[i]? with
  | some (.cells c t _) => ⟨c.toList.map (absV W.heap.size), t, 1⟩
  | _ => ⟨[], 0, 1⟩
def size0 (W : World) (i : Nat) : Nat := match W.heap[i]? with
  | some (.cells c _ _) => c.size
  | _ => 0
def absS (W : World) : St := (List.range W.heap.size).map (absB W)
def absM (W : World) : List ME := (List.range W.heap.size).map fun i => ⟨i, size0 W i, 0, false⟩

theorem absS_get {W : World} {i : Nat} {b : Blk} (h : (absS W)[i]? = some b) : i < W.heap.size ∧ b = absB W i := by
  unfold absS at h
  rw [List.getElem?_map] at h
  by_cases hi : i < W.heap.size
  · rw [List.getElem?_range hi] at h
    exact ⟨hi, (Option.some.inj h).symm⟩
  · rw [List.getElem?_eq_none (by simp; omega)] at h; cases h
theorem absS_of {W : World} {i : Nat} (hi : i < W.heap.size) : (absS W)[i]? = some (absB W i) := by
  unfold absS
  rw [List.getElem?_map, List.getElem?_range hi]; rfl
theorem absM_get {W : World} {i : Nat} {m : ME} (h : (absM W)[i]? = some m) : i < W.heap.size ∧ m = ⟨i, size0 W i, 0, false⟩ := by
  unfold absM at h
  rw [List.getElem?_map] at h
  by_cases hi : i < W.heap.size
  · rw [List.getElem?_range hi] at h
    exact ⟨hi, (Option.some.inj h).symm⟩
  · rw [List.getElem?_eq_none (by simp; omega)] at h; cases h
theorem absM_of {W : World} {i : Nat} (hi : i < W.heap.size) : (absM W)[i]? = some ⟨i, size0 W i, 0, false⟩ := by
  unfold absM
  rw [List.getElem?_map, List.getElem?_range hi]; rfl
theorem absB_stat (W : World) (i : Nat) : (absB W i).stat = 1 := by unfold absB; split <;> rfl

theorem absV_vr {W : World} {v : Value} (h : isJ (absV W.heap.size v) = false) : one (absV W.heap.size v) = true ∧ VR (absM W) (absV W.heap.size v) v := by
  unfold absV at h ⊢
  split
  · rename_i a l c
    split
    · rename_i hc
      obtain ⟨b, o, sp⟩ := a
      obtain ⟨hsp, hb, hl⟩ := hc
      simp only at hsp
      subst hsp
      exact ⟨rfl, .sl _ _ _ _ _ _ _ (absM_of hb) hl (.inl ⟨rfl, fun _ e => by cases e⟩)⟩
    · rename_i hc
      simp only [if_neg hc] at h
      split
      · rename_i h0
        obtain ⟨rfl, rfl⟩ := h0
        exact ⟨rfl, .emp a⟩
      · rename_i h0
        rw [if_neg h0] at h
        cases h
  · rename_i hx
    split
    · rename_i hf
      exact ⟨flat1_one hf, .fl _ hf⟩
    · rename_i hf
      split at h
      · rename_i a l c
        exact absurd rfl (hx a l c)
      · rw [if_neg hf] at h; cases h

theorem Tab.lt {P : Program} {w : World} (h : Tab P w) : ∀ nm ∈ tabNm, ∀ g, P.globalNamed nm = some g → g < w.heap.size := by
  have key : ∀ nm g cs, P.globalNamed nm = some g → w.var? P nm = some cs → g < w.heap.size := fun nm g cs hg hv => by
    unfold World.var? at hv
    simp only [hg, Option.bind_some] at hv
    rcases Nat.lt_or_ge g w.heap.size with h' | h'
    · exact h'
    · rw [Array.getElem?_eq_none h'] at hv; cases hv
  intro nm hn g hg
  simp only [tabNm, List.mem_cons, List.not_mem_nil, or_false] at hn
  have hne : P.globalNamed nm ≠ none := by rw [hg]; simp
  rcases hn with rfl | hn
  · exact key _ g _ hg (h.pow hne)
  · obtain ⟨tp, p, hv⟩ := h.err nm hn hne
    exact key _ g _ hg hv
theorem abs_cov {P : Program} {W : World} (h : Tab P W) : Cov P (absM W) (absS W) := fun nm hn g hg => by
  have hlt := h.lt nm hn g hg
  exact ⟨g, _, _, absM_of hlt, rfl, absS_of hlt, absB_stat W g⟩
theorem abs_hr (P : Program) (W : World) (hT : Tab P W) : HR P ⟨W, absM W, absS W⟩ (absM W) (absS W) W := by
  refine ⟨by simp [absM, absS], fun _ _ h => h, fun i b m hb hm h2 hfar => ?_, fun i j b b' m m' hb hb' _ _ hm hm' e => ?_, fun i m hm => ?_, fun i m hm _ => ⟨i, m, hm, rfl⟩, fun i b m hb _ hm => ⟨hb, rfl⟩, rfl, rfl, rfl, Nat.le_refl _, fun _ _ _ => rfl, hT, abs_cov hT⟩
  · obtain ⟨hi, rfl⟩ := absS_get hb
    obtain ⟨_, rfl⟩ := absM_get hm
    cases hh : W.heap[i]? with
    | none => exact absurd ⟨absB_stat W i, by simp [absB, hh]⟩ hfar
    | some o =>
      cases o with
      | cells c t q =>
        have e1 : absB W i = ⟨c.toList.map (absV W.heap.size), t, 1⟩ := by unfold absB; rw [hh]
        have e2 : size0 W i = c.size := by unfold size0; rw [hh]
        rw [e1, e2]
        refine ⟨c, ⟨q, hh, fun e => by cases e⟩, rfl, by simp, fun j x hx => ?_, fun e => by cases e⟩
        simp only [List.getElem?_map, Option.map_eq_some_iff] at hx
        obtain ⟨y, hy, rfl⟩ := hx
        cases hj : isJ (absV W.heap.size y) with
        | true => exact .inl ⟨rfl, rfl⟩
        | false =>
          obtain ⟨h2, h3⟩ := absV_vr hj
          exact .inr ⟨h2, y, by simpa using hy, h3⟩
      | _ => exact absurd ⟨absB_stat W i, by simp [absB, hh]⟩ hfar
  · obtain ⟨_, rfl⟩ := absM_get hm
    obtain ⟨_, rfl⟩ := absM_get hm'
    exact e
  · obtain ⟨hi, rfl⟩ := absM_get hm
    exact hi

/-- An argument, and what the store says of it. -/
def ArgS (W : World) (x v : Value) : Prop := (isJ (absV W.heap.size v) = false ∧ x = absV W.heap.size v) ∨ ∃ cs : List Value, v = .agg cs.toArray ∧ x = .agg (cs.map (absV W.heap.size)).toArray ∧ ∀ c ∈ cs, isJ (absV W.heap.size c) = false

/-- What holds of a call that begins at the whole world. -/
theorem CallS.enter {P : Program} {f : FuncId} {args : List Value} {vals : Array Value} {W : World} {Q : Value → St → Prop} (hT : Tab P W) (h : CallS P f args (absS W) Q) (hl : args.length = vals.size) (hv : ∀ (i : Nat) x v, args[i]? = some x → vals[i]? = some v → ArgS W x v) :
    Calls P f vals W fun e w' => ∃ r v st' M', e = .returned v ∧ Q r st' ∧ VR M' r v ∧ Below W.heap.size W w' := by
  refine (h.2 (absM W) W vals (abs_hr P W hT) ⟨hl, fun i x y hx hy => ?_⟩).mono fun e w' ⟨r, v, st', M', he, hq, hvr, hr⟩ => ⟨r, v, st', M', he, hq, hvr, hr.os, hr.tape, hr.output, hr.size, fun k hk => ?_⟩
  · rcases hv i x y hx hy with ⟨h1, rfl⟩ | ⟨cs, rfl, rfl, hcs⟩
    · exact (absV_vr h1).2
    · refine .agg _ _ (by simp) (fun i c hc => ?_) fun i c d hc hd => ?_
      · simp only [List.getElem?_toArray, List.getElem?_map, Option.map_eq_some_iff] at hc
        obtain ⟨d, hd, rfl⟩ := hc
        exact (absV_vr (hcs d (List.mem_of_getElem? hd))).1
      · simp only [List.getElem?_toArray, List.getElem?_map] at hc hd
        rw [hd] at hc
        obtain rfl := Option.some.inj hc
        exact (absV_vr (hcs d (List.mem_of_getElem? hd))).2
  · exact (hr.ro k _ _ (absS_of hk) (absB_stat W k) (absM_of hk)).2

inductive ArgsS (W : World) : List Value → List Value → Prop
  | nil : ArgsS W [] []
  | cons (x v : Value) (xs vs : List Value) (h : ArgS W x v) (hs : ArgsS W xs vs) : ArgsS W (x :: xs) (v :: vs)
theorem ArgsS.get {W : World} {xs vs : List Value} (h : ArgsS W xs vs) : xs.length = vs.length ∧ ∀ (i : Nat) x v, xs[i]? = some x → vs[i]? = some v → ArgS W x v := by
  induction h with
  | nil => exact ⟨rfl, fun i x v hx => by simp at hx⟩
  | cons x v xs vs h hs ih =>
    refine ⟨by simp [ih.1], fun i y u hy hu => ?_⟩
    cases i with
    | zero =>
      simp only [List.getElem?_cons_zero, Option.some.injEq] at hy hu
      subst hy; subst hu; exact h
    | succ i => exact ih.2 i y u (by simpa using hy) (by simpa using hu)
/-- A program that has none of these variables. -/
theorem noTab {P : Program} {W : World} (h1 : P.globalNamed "internal/strconv.uint64pow10" = none) (h2 : P.globalNamed "strconv.ErrSyntax" = none) (h3 : P.globalNamed "strconv.ErrRange" = none) : Tab P W :=
  ⟨fun h => absurd h1 h, fun nm hn h => by
    rcases hn with rfl | rfl
    · exact absurd h2 h
    · exact absurd h3 h⟩
theorem CallS.enters {P : Program} {f : FuncId} {args : List Value} {vals : List Value} {W : World} {b : Bool} (hT : Tab P W) (h : CallS P f args (absS W) fun r _ => r = .bool b) (hv : ArgsS W args vals) :
    Calls P f vals.toArray W fun e w' => e = .returned (.bool b) ∧ Below W.heap.size W w' :=
  (h.enter hT (by simpa using hv.get.1) fun i x v hx hv' => hv.get.2 i x v hx (by simpa using hv')).mono fun e w' ⟨r, v, st', M', he, hq, hvr, bel⟩ => by
    subst he; subst hq
    obtain rfl := hvr.flat_eq rfl
    exact ⟨rfl, bel⟩
theorem ArgS.flat {W : World} {v : Value} (h : isJ (absV W.heap.size v) = false) (e : absV W.heap.size v = v) : ArgS W v v := .inl ⟨h, e.symm⟩
theorem ArgS.int (W : World) (k : IntKind) (i : Int) : ArgS W (.int k i) (.int k i) := .inl ⟨rfl, rfl⟩
theorem ArgS.str (W : World) (s : ByteArray) : ArgS W (.string s) (.string s) := .inl ⟨rfl, rfl⟩
theorem ArgS.agg {W : World} {cs : Array Value} (h : ∀ c ∈ (Value.agg cs).cells.toList, isJ (absV W.heap.size c) = false) : ArgS W (.agg ((Value.agg cs).cells.toList.map (absV W.heap.size)).toArray) (.agg cs) := .inr ⟨cs.toList, rfl, rfl, h⟩

/-- A world's cell, read in the store. -/
theorem abs_cell {W : World} {b o : Nat} {v : Value} (h : W.cell? ⟨b, o, none⟩ = some v) (hj : isJ (absV W.heap.size v) = false) : cell (absS W) b o = some (absV W.heap.size v) := by
  unfold World.cell? at h
  simp only at h
  split at h
  · rename_i c t q hb
    have hi : b < W.heap.size := (Array.getElem?_eq_some_iff.1 hb).1
    simp only [Option.isSome_none, Bool.false_eq_true, if_false] at h
    have e1 : absB W b = ⟨c.toList.map (absV W.heap.size), t, 1⟩ := by unfold absB; rw [hb]
    unfold cell
    rw [absS_of hi, e1]
    have e3 : (c.toList.map (absV W.heap.size))[o]? = some (absV W.heap.size v) := by
      rw [List.getElem?_map, Array.getElem?_toList, h]; rfl
    simp only [e3]
    simp [hj]
  · cases h

/-- What a cell that was read holds can be told of. -/
def Told (W : World) (v : Value) : Prop := isJ (absV W.heap.size v) = false

theorem told_int (W : World) (k : IntKind) (i : Int) : Told W (.int k i) ∧ absV W.heap.size (.int k i) = .int k i := ⟨rfl, rfl⟩
theorem told_str (W : World) (s : ByteArray) : Told W (.string s) ∧ absV W.heap.size (.string s) = .string s := ⟨rfl, rfl⟩
theorem told_bool (W : World) (b : Bool) : Told W (.bool b) ∧ absV W.heap.size (.bool b) = .bool b := ⟨rfl, rfl⟩

theorem spot_of {w : World} {a : Addr} {n b : Nat} {cs : List Value} (h : w.cells? b a n = some cs) (hn : 0 < n) : a.spot = none := by
  obtain ⟨_, hl, hc⟩ := World.cells?_some h
  have h1 := hc 0 hn
  rw [List.getElem?_eq_getElem (by omega)] at h1
  obtain ⟨b, o, sp⟩ := a
  cases sp with
  | none => rfl
  | some s =>
    unfold World.cell? Addr.add at h1
    simp only at h1
    split at h1
    · split at h1 <;> simp_all
    · cases h1
theorem spot_add {a : Addr} {k : Nat} (hk : k = 0) (h : (a.add k).spot = none) : a.spot = none := by
  subst hk
  exact h

/-- A slice that was read: its elements, one by one. -/
theorem open_rowA {H : Type} {enc : TypeId × Value → H} {P : Program} {w : World} {α : Type} {E : α → List Value → Prop} {G : α → Prop} {t e : TypeId} {sz : Nat} (ht : P.underlying t = some (.slice e)) (hc : P.cellsOf e = sz) (hsz : 0 < sz) {fuel : Nat} {cs : List Value} {x : DataW H × List MemPlace}
    (h : DataW.trod enc P w 0 (fun _ => true) true fuel t cs = some x) (hel : ∀ n cs y, n < fuel → DataW.trod enc P w 0 (fun _ => true) true n e cs = some y → ∃ z, E z (cs.map (absV w.heap.size)) ∧ G z ∧ ∀ c ∈ cs, Told w c) :
    ∃ s, ∃ xs : List α, cs = [s] ∧ Told w s ∧ Row E sz (absS w) xs (absV w.heap.size s) ∧ xs.length ≤ maxLen ∧ ∀ z ∈ xs, G z := by
  have hlt := DataW.trod_lt _ _ _ _ h
  rcases DataW.trod_slice ht h with ⟨rfl, _⟩ | ⟨a, len, cap, elems, rest, n, rfl, rfl, rfl, _, hl, hm, hlen, hel2, hrest, _⟩
  · exact ⟨_, [], rfl, rfl, .inl ⟨.inl rfl, rfl⟩, Nat.zero_le _, by simp⟩
  · simp only [hc] at hel2 hlt hrest
    by_cases h0 : cap = 0
    · subst h0
      obtain rfl : len = 0 := by omega
      by_cases hq : a.spot = none ∧ a.block < w.heap.size ∧ 0 ≤ 0
      · obtain ⟨b, o, sp⟩ := a
        obtain ⟨hsp, hb, _⟩ := hq
        simp only at hsp hb
        subst hsp
        have e1 : absV w.heap.size (.slice (some ⟨b, o, none⟩) 0 0) = .slice (some ⟨b, o, none⟩) 0 0 := by unfold absV; simp only; rw [if_pos (by exact ⟨trivial, hb, Nat.le_refl _⟩)]
        refine ⟨_, [], rfl, by unfold Told; rw [e1]; rfl, ?_, Nat.zero_le _, by simp⟩
        rw [e1]
        exact .inr ⟨b, o, 0, rfl, by simp⟩
      · have e1 : absV w.heap.size (.slice (some a) 0 0) = .slice (some ⟨0, 0, some 0⟩) 0 0 := by unfold absV; simp only; rw [if_neg hq]; simp
        refine ⟨_, [], rfl, by unfold Told; rw [e1]; rfl, ?_, Nat.zero_le _, by simp⟩
        rw [e1]
        exact .inl ⟨.inr rfl, rfl⟩
    · have hrl := (hrest trivial).1
      have hb : a.block < w.heap.size := hlt (.cell a.block (a.off + 0)) (by
        refine List.mem_append_left _ ?_
        unfold MemPlace.row
        refine List.mem_map.2 ⟨0, List.mem_range.2 (Nat.mul_pos (by omega) hsz), rfl⟩)
      have hsp : a.spot = none := by
        by_cases hl0 : 0 < len
        · have h1 := hel2 0 hl0
          rw [List.getElem?_eq_getElem (by omega), Option.bind_eq_some_iff] at h1
          obtain ⟨c, hcs, _⟩ := h1
          exact spot_add (by first | (simp; done) | (rw [show len = 0 by omega]; simp)) (spot_of hcs hsz)
        · have h1 := (hrest trivial).2 0 (by omega)
          rw [List.getElem?_eq_getElem (by omega), Option.bind_eq_some_iff] at h1
          obtain ⟨c, hcs, _⟩ := h1
          exact spot_add (by first | (simp; done) | (rw [show len = 0 by omega]; simp)) (spot_of hcs hsz)
      obtain ⟨b, o, sp⟩ := a
      simp only at hsp hb
      subst hsp
      have e1 : absV w.heap.size (.slice (some ⟨b, o, none⟩) len cap) = .slice (some ⟨b, o, none⟩) len cap := by unfold absV; simp only; rw [if_pos (by exact ⟨trivial, hb, hl⟩)]
      have each : ∀ i : _root_.Fin len, ∃ z, G z ∧ ∃ c : List Value, c.length = sz ∧ E z c ∧ CellsAt (absS w) b (o + i.1 * sz) c := by
        intro i
        have hi := hel2 i.1 i.2
        rw [List.getElem?_eq_getElem (by rw [hlen]; exact i.2), Option.bind_eq_some_iff] at hi
        obtain ⟨c, hcs, hy⟩ := hi
        obtain ⟨z, hz, hG, htold⟩ := hel n c _ (Nat.lt_succ_self n) hy
        obtain ⟨_, hcl, hcc⟩ := World.cells?_some hcs
        refine ⟨z, hG, _, by simpa using hcl, hz, fun q v hv => ?_⟩
        simp only [List.getElem?_map, Option.map_eq_some_iff] at hv
        obtain ⟨u, hu, rfl⟩ := hv
        have hq : q < sz := by have := (List.getElem?_eq_some_iff.1 hu).1; omega
        have h2 := hcc q hq
        rw [addr_add, addr_add, hu] at h2
        exact abs_cell h2 (htold u (List.mem_of_getElem? hu))
      have hlen3 : (List.ofFn fun i : _root_.Fin len => Classical.choose (each i)).length = len := List.length_ofFn
      refine ⟨_, List.ofFn fun i : _root_.Fin len => Classical.choose (each i), rfl, by unfold Told; rw [e1]; rfl, ?_, by rw [hlen3]; omega, ?_⟩
      · rw [e1]
        refine .inr ⟨b, o, cap, by rw [hlen3], fun j x hj => ?_⟩
        have hjl : j < len := by have := (List.getElem?_eq_some_iff.1 hj).1; rwa [hlen3] at this
        obtain ⟨_, c, h1, h2, h3⟩ := Classical.choose_spec (each ⟨j, hjl⟩)
        have hp : Classical.choose (each ⟨j, hjl⟩) = x := by
          have := (List.getElem?_eq_some_iff.1 hj).2
          rw [List.getElem_ofFn] at this
          exact this
        rw [hp] at h2
        exact ⟨c, h1, h2, h3⟩
      · intro z hz
        rw [List.mem_ofFn] at hz
        obtain ⟨i, rfl⟩ := hz
        exact (Classical.choose_spec (each i)).1
end Go.Proofs.YtkocgcdakdoeiaaDoor.AM


/- What a law's arguments read as. -/
namespace Go.Proofs.YtkocgcdakdoeiaaDoor.AM
open Go Go.Proofs
set_option linter.unusedVariables false
set_option linter.unusedSimpArgs false

theorem list_S {α : Type} {l : List α} {n : Nat} (h : l.length = n + 1) : ∃ a l2, l = a :: l2 ∧ l2.length = n := by
  match l, h with
  | a :: l2, h => exact ⟨a, l2, rfl, by simpa using h⟩
theorem toldA_int {H : Type} {enc : TypeId × Value → H} {P : Program} {w : World} {t : TypeId} {k : IntKind} (ht : P.underlying t = some (.int k)) {fuel : Nat} {cs : List Value} {x : DataW H × List MemPlace} (h : DataW.trod enc P w 0 (fun _ => true) true fuel t cs = some x) :
    ∃ z, cs = [.int k z] ∧ (Lit.int k z).wf = true := by
  obtain ⟨n, rfl, _, hw⟩ := DataW.trod_int ht h
  exact ⟨n, rfl, hw⟩
theorem toldA_str {H : Type} {enc : TypeId × Value → H} {P : Program} {w : World} {t : TypeId} (ht : P.underlying t = some .string) {fuel : Nat} {cs : List Value} {x : DataW H × List MemPlace} (h : DataW.trod enc P w 0 (fun _ => true) true fuel t cs = some x) :
    ∃ z, cs = [.string z] ∧ z.size ≤ maxLen := by
  obtain ⟨n, rfl, _, hw⟩ := DataW.trod_string ht h
  exact ⟨n, rfl, hw⟩

end Go.Proofs.YtkocgcdakdoeiaaDoor.AM


/- What the laws of terms share. -/
namespace Go.Proofs.YtkocgcdakdoeiaaDoor.AM
open Go Go.Proofs
set_option linter.unusedVariables false
set_option linter.unusedSimpArgs false
set_option maxRecDepth 100000
attribute [local go_sem] List.map_cons List.map_nil List.all_cons List.all_nil Bool.and_self Option.map_some List.getElem?_toArray Option.bind_some gye_b gye_t gsk_b gsk_t gb1 gb2 gb3 gb4 bne_self_eq_false beq_self_eq_true w_guard w_nil stepV_some step_some step_some' w_move w_assign w_pick w_binOp w_unOp w_load w_fieldAddr w_indexAddr w_len w_max w_index ev_max max_int ev_index w_box w_alloc w_store w_field w_extract w_nilCheck w_convert w_buildSlice w_build ev_buildL fillL_nil fillL_cons bs0 bs1 ev_conv ev_bin ev_un ev_pick ev_load ev_fieldAddr ev_indexAddr ev_len ev_field ev_extract ev_nilCheck fr_tmp fr_int fr_bool fr_str fr_nil fr_func put_some put_none bin_lss bin_leq bin_gtr bin_geq bin_eql bin_neq bin_add bin_sub bin_mul bin_seql bin_sneq un_not pick_ ext_ loadA_p cellAt_l cellAt_h okPtr_l okPtr_h fadA_p allocA_l storeA_l cells_agg cells_int cells_str cells_sl cells_bool flat_i flat_s flat_b flat_sl flat_nil loc_agg loc_int loc_str loc_sl loc_bool loc_fn loc_ptr okv_agg okv_int okv_str okv_sl okv_bool cellsFrom splice upd_eval argEnv_zero argEnv_succ ne_eq Nat.add_one_ne_zero not_false_eq_true List.not_mem_nil and_self decide_true List.getElem?_cons_zero List.getElem?_cons_succ List.size_toArray List.length_cons List.length_nil List.take_succ_cons List.take_zero List.drop_succ_cons List.drop_zero List.cons_append List.nil_append List.drop_nil Bool.not_true Bool.not_false Bool.false_eq_true Nat.zero_add Nat.add_zero wrap_in List.toList_toArray List.mem_cons or_self or_false false_or
attribute [local go_sem] ag22 ag3 ag43 ag5 ag50 ag9 bu41 bu72 bu80 by5 el22 el35 el39 of41_0 of41_1 of41_2 ro3_12 ro5_1 ro9_12 sz22 sz3 sz43 sz5 sz50 sz9 ze49 ze5 ze65

theorem Own.ext {e : TypeId} {st st' : St} {t : T} {cs : List Value} {L : List Nat} (h : Own e st t cs L) (hx : Ext st st') : Own e st' t cs L := Own.frame _ _ _ (fun i hi => hx.get (Own.lt _ _ _ h i hi)) h
theorem Own.other {e : TypeId} {st st' : St} {t : T} {cs : List Value} {L K : List Nat} (h : Own e st t cs L) (hot : ∀ i, i < st.length → i ∉ K → st'[i]? = st[i]?) (hd : ∀ i ∈ L, i ∉ K) : Own e st' t cs L := Own.frame _ _ _ (fun i hi => hot i (Own.lt _ _ _ h i hi) (hd i hi)) h
theorem Own.apart {e : TypeId} {st : St} {t : T} {cs : List Value} {L K : List Nat} (h : Own e st t cs L) (hf : Fresh st.length K) : ∀ i ∈ L, i ∉ K := fun i hi hk => by
  have h1 := Own.lt _ _ _ h i hi
  have h2 := hf.2 i hk
  omega
theorem Enc.other {st st' : St} {K : List Nat} {n : Nat} (hK : ∀ i ∈ K, n ≤ i) (hot : ∀ i, i < st.length → i ∉ K → st'[i]? = st[i]?) {st0 : St} (hn : st0.length ≤ n) (hx : Ext st0 st) (t : T) (cs : List Value) (h : Enc st0 t cs) : Enc st' t cs :=
  Enc.ext (Ext.of_get fun i hi => by
    have := hx.length
    rw [hot i (by omega) (fun hm => by have := hK i hm; omega), hx.get hi]) t cs h
theorem Ext.other {st st' : St} {K : List Nat} {n : Nat} (hK : ∀ i ∈ K, n ≤ i) (hot : ∀ i, i < st.length → i ∉ K → st'[i]? = st[i]?) {st0 : St} (hn : st0.length ≤ n) (hx : Ext st0 st) : Ext st0 st' :=
  Ext.of_get fun i hi => by
    have := hx.length
    rw [hot i (by omega) (fun hm => by have := hK i hm; omega), hx.get hi]
theorem Lim.le {B C : Nat} (hb : B ≤ C) : ∀ t : T, Lim B t → Lim C t := by
  refine T.ind fun k n nm args ih h => ?_
  exact .mk _ _ _ _ (by have := h.args.1; omega) fun a ha => ih a ha (h.args.2 a ha)
theorem T.mkL_wt : ∀ (xs : List T) (k : Nat), (∀ x ∈ xs, ∀ k, (x.mk1 k).2 ≤ k + 3 + 3 * x.wt) → (T.mkL xs k).2 ≤ k + 3 * xs.length + 3 * T.wtL xs := by
  intro xs
  induction xs with
  | nil => intro k _; simp [T.mkL, T.wtL]
  | cons x xs ih =>
    intro k h
    have h1 := h x (by simp) k
    have h2 := ih (x.mk1 k).2 (fun y hy => h y (by simp [hy]))
    simp only [T.mkL, T.wtL, List.length_cons]
    omega
theorem T.mk1_wt : ∀ (t : T) (k : Nat), (t.mk1 k).2 ≤ k + 3 + 3 * t.wt := by
  refine T.ind fun k0 n nm args ih k => ?_
  have h := T.mkL_wt args (k + 3) ih
  simp only [T.mk1, T.wt]
  omega
theorem T.mk0_wt (t : T) (k : Nat) : (t.mk0 k).2 ≤ k + 3 * t.wt := by
  obtain ⟨k0, n, nm, args⟩ := t
  have h := T.mkL_wt args k (fun x _ k => T.mk1_wt x k)
  simp only [T.mk0, T.wt]
  omega
theorem T.mk0_ge (t : T) (k : Nat) : k ≤ (t.mk0 k).2 := by
  obtain ⟨k0, n, nm, args⟩ := t
  exact T.mkL_ge args k
end Go.Proofs.YtkocgcdakdoeiaaDoor.AM


/- Two substitutions do the same: SameSubst on both sides. -/
namespace Go.Proofs.YtkocgcdakdoeiaaDoor.AM
open Go Go.Proofs
set_option linter.unusedVariables false
set_option linter.unusedSimpArgs false
set_option maxRecDepth 100000
attribute [local go_sem] List.map_cons List.map_nil List.all_cons List.all_nil Bool.and_self Option.map_some List.getElem?_toArray Option.bind_some gye_b gye_t gsk_b gsk_t gb1 gb2 gb3 gb4 bne_self_eq_false beq_self_eq_true w_guard w_nil stepV_some step_some step_some' w_move w_assign w_pick w_binOp w_unOp w_load w_fieldAddr w_indexAddr w_len w_max w_index ev_max max_int ev_index w_box w_alloc w_store w_field w_extract w_nilCheck w_convert w_buildSlice w_build ev_buildL fillL_nil fillL_cons bs0 bs1 ev_conv ev_bin ev_un ev_pick ev_load ev_fieldAddr ev_indexAddr ev_len ev_field ev_extract ev_nilCheck fr_tmp fr_int fr_bool fr_str fr_nil fr_func put_some put_none bin_lss bin_leq bin_gtr bin_geq bin_eql bin_neq bin_add bin_sub bin_mul bin_seql bin_sneq un_not pick_ ext_ loadA_p cellAt_l cellAt_h okPtr_l okPtr_h fadA_p allocA_l storeA_l cells_agg cells_int cells_str cells_sl cells_bool flat_i flat_s flat_b flat_sl flat_nil loc_agg loc_int loc_str loc_sl loc_bool loc_fn loc_ptr okv_agg okv_int okv_str okv_sl okv_bool cellsFrom splice upd_eval argEnv_zero argEnv_succ ne_eq Nat.add_one_ne_zero not_false_eq_true List.not_mem_nil and_self decide_true List.getElem?_cons_zero List.getElem?_cons_succ List.size_toArray List.length_cons List.length_nil List.take_succ_cons List.take_zero List.drop_succ_cons List.drop_zero List.cons_append List.nil_append List.drop_nil Bool.not_true Bool.not_false Bool.false_eq_true Nat.zero_add Nat.add_zero wrap_in List.toList_toArray List.mem_cons or_self or_false false_or
attribute [local go_sem] ag22 ag3 ag43 ag5 ag50 ag9 bu41 bu72 bu80 by5 el22 el35 el39 of41_0 of41_1 of41_2 ro3_12 ro5_1 ro9_12 sz22 sz3 sz43 sz5 sz50 sz9 ze49 ze5 ze65
-- AUTO

def T.var (nm : ByteArray) : T := .mk 1 0 nm []
theorem T.var_enc (st : St) (nm : ByteArray) : Enc st (T.var nm) [.int .i64 1, .int .i64 0, .string nm, .slice none 0 0] := Enc.close _ _ _ (.inl ⟨.inl rfl, rfl⟩)
theorem T.var_lim (nm : ByteArray) : Lim 1073741824 (T.var nm) := .mk _ _ _ _ (by simp) (by simp)
def sameAt (xs ys : List Bnd) (b : Bnd) : Bool := T.eqv (T.sub xs (T.var b.nm)) (T.sub ys (T.var b.nm))
def same (xs ys : List Bnd) : Bool := (xs ++ ys).all (sameAt xs ys)
theorem same_no {xs ys : List Bnd} {j : Nat} (h : j < (xs ++ ys).length) (hq : sameAt xs ys (xs ++ ys)[j] = false) : same xs ys = false := by
  unfold same
  rw [List.all_eq_false]
  exact ⟨_, List.getElem_mem h, by rw [hq]; simp⟩
theorem same_yes {xs ys : List Bnd} (h : ∀ j, (hj : j < (xs ++ ys).length) → sameAt xs ys (xs ++ ys)[j] = true) : same xs ys = true := by
  unfold same
  rw [List.all_eq_true]
  intro b hb
  obtain ⟨j, hj, rfl⟩ := List.mem_iff_getElem.1 hb
  exact h j hj
end Go.Proofs.YtkocgcdakdoeiaaDoor.AM


/- List literals; l1Pick, l1PickInt, l3App. -/
namespace Go.Proofs.YtkocgcdakdoeiaaDoor.AM
open Go Go.Proofs
set_option linter.unusedVariables false
set_option linter.unusedSimpArgs false
set_option maxRecDepth 100000
attribute [local go_sem] List.map_cons List.map_nil List.all_cons List.all_nil Bool.and_self Option.map_some List.getElem?_toArray Option.bind_some gye_b gye_t gsk_b gsk_t gb1 gb2 gb3 gb4 bne_self_eq_false beq_self_eq_true w_guard w_nil stepV_some step_some step_some' w_move w_assign w_pick w_binOp w_unOp w_load w_fieldAddr w_indexAddr w_len w_max w_index ev_max max_int ev_index w_box w_alloc w_store w_field w_extract w_nilCheck w_convert w_buildSlice w_build ev_buildL fillL_nil fillL_cons bs0 bs1 ev_conv ev_bin ev_un ev_pick ev_load ev_fieldAddr ev_indexAddr ev_len ev_field ev_extract ev_nilCheck fr_tmp fr_int fr_bool fr_str fr_nil fr_func put_some put_none bin_lss bin_leq bin_gtr bin_geq bin_eql bin_neq bin_add bin_sub bin_mul bin_seql bin_sneq un_not pick_ ext_ loadA_p cellAt_l cellAt_h okPtr_l okPtr_h fadA_p allocA_l storeA_l cells_agg cells_int cells_str cells_sl cells_bool flat_i flat_s flat_b flat_sl flat_nil loc_agg loc_int loc_str loc_sl loc_bool loc_fn loc_ptr okv_agg okv_int okv_str okv_sl okv_bool cellsFrom splice upd_eval argEnv_zero argEnv_succ ne_eq Nat.add_one_ne_zero not_false_eq_true List.not_mem_nil and_self decide_true List.getElem?_cons_zero List.getElem?_cons_succ List.size_toArray List.length_cons List.length_nil List.take_succ_cons List.take_zero List.drop_succ_cons List.drop_zero List.cons_append List.nil_append List.drop_nil Bool.not_true Bool.not_false Bool.false_eq_true Nat.zero_add Nat.add_zero wrap_in List.toList_toArray List.mem_cons or_self or_false false_or
attribute [local go_sem] ag22 ag3 ag43 ag5 ag50 ag9 bu41 bu72 bu80 by5 el22 el35 el39 of41_0 of41_1 of41_2 ro3_12 ro5_1 ro9_12 sz22 sz3 sz43 sz5 sz50 sz9 ze49 ze5 ze65
-- AUTO

/-- The parts of a list literal are laid in. -/
def fillK (sz : Nat) : List Value → List (Nat × Value) → Option (List Value)
  | z, [] => some z
  | z, (i, v) :: rest => if (vc v).size = sz ∧ i * sz + sz ≤ z.length then fillK sz (splice z (i * sz) (vc v).toList) rest else none
theorem fillK_nil {sz : Nat} {z : List Value} : fillK sz z [] = some z := rfl
theorem fillK_cons {sz i : Nat} {z : List Value} {v : Value} {rest : List (Nat × Value)} : fillK sz z ((i, v) :: rest) = if (vc v).size = sz ∧ i * sz + sz ≤ z.length then fillK sz (splice z (i * sz) (vc v).toList) rest else none := rfl
theorem fill_K (sz : Nat) : ∀ (ps : List (Nat × Value)) (z : List Value), Instr.fill (fun i => some (i * sz, sz)) z.toArray ps = (fillK sz z ps).map List.toArray := by
  intro ps
  induction ps with
  | nil => intro z; rfl
  | cons p ps ih =>
    intro z
    obtain ⟨i, v⟩ := p
    unfold Instr.fill fillK
    simp only
    unfold vc
    by_cases h : v.cells.size = sz ∧ i * sz + sz ≤ z.length
    · rw [if_pos h, if_neg (by simp; omega)]
      rw [← ih]
      congr 1
      have := fold_splice v.cells.toList z.toArray (i * sz) 0 (by simp; omega)
      rw [← Array.foldl_toList]
      simpa [Array.toList_zipIdx] using this
    · rw [if_neg h, if_pos (by simp; omega)]
      rfl
theorem bsL {P : Program} {H : List Tmp} {ρ : Operand → Value} {loc : Nat → Nat × List Value} {st : St} {t : TypeId} {n : Nat} {ps : Array (Nat × Operand)} {d : Option Tmp} {ty : TypeId} {p : String} {af : Array Edge} {g : Option (Nat × Bool)} : evalEff P H ⟨d, .buildSlice t n ps, ty, p, af, g⟩ ρ loc st = (match elemA P t with
    | some e => (match rowA P e n, szA P e with
      | some row, some sz => if ps.toList.all (fun p => okv (ρ p.2)) then (fillK sz row (ps.toList.map fun p => (p.1, ρ p.2))).map (fun l => (Value.slice (some ⟨st.length, 0, none⟩) n n, loc, st ++ [⟨l, e, 0⟩])) else none
      | _, _ => none)
    | none => none) := by
  simp only [evalEff]
  cases elemA P t with
  | none => rfl
  | some e =>
    simp only
    cases rowA P e n with
    | none => rfl
    | some row =>
      cases szA P e with
      | none => rfl
      | some sz =>
        simp only
        have h1 : (ps.all fun p => okv (ρ p.2)) = ps.toList.all (fun p => okv (ρ p.2)) := by rw [Array.all_toList]
        have h2 : (ps.map fun (i, x) => (i, ρ x)).toList = ps.toList.map fun p => (p.1, ρ p.2) := by simp
        rw [h1, h2, fill_K, Option.map_map]
        split
        · cases fillK sz row (ps.toList.map fun p => (p.1, ρ p.2)) <;> rfl
        · rfl
/-- A row stays where another block alone has turned. -/
theorem rw_away {st st' : St} {xs : List ByteArray} {s : Value} {q : Nat} (h : Rw st xs s) (ha : Away (some q) st st') (hn : topId s ≠ some q) : Rw st' xs s := by
  rcases h with h | ⟨i, o, c, rfl, h⟩
  · exact .inl h
  · refine .inr ⟨i, o, c, rfl, fun j x hx => ?_⟩
    obtain ⟨cs, h1, h2, h3⟩ := h j x hx
    refine ⟨cs, h1, h2, fun k v hv => ?_⟩
    have h4 := h3 k v hv
    have hi : i < st.length := by
      unfold cell at h4
      rcases Nat.lt_or_ge i st.length with h5 | h5
      · exact h5
      · rw [List.getElem?_eq_none h5] at h4; cases h4
    have h5 := ha.2 i hi (fun e => hn e.symm)
    unfold cell at h4 ⊢
    rw [h5]; exact h4
theorem l1Pick_ok (q : Nat) (xs : List Byt) (st : St) (ns : List ByteArray) (s : Value) (hn0 : 0 < ns.length) (hn1 : ns.length ≤ 256) (hq : Cur st q xs) (hr : Rw st ns s) (hne : topId s ≠ some q) :
    CallS Tryd.prog 17 [.pointer (some ⟨q, 0, none⟩), s] st fun r st2 => (∃ w, r = .string w ∧ w ∈ ns) ∧ Drawn q xs st st2 ∧ st2.length = st.length := by
  refine CallS_of_W [] 12 Tryd.func17 rfl rfl rfl rfl (by simp) ?_
  have q1 := hr.notLoc.1
  have hlen : lenE Tryd.prog 35 s = some (.int .i64 ns.length) := row_len hr Tryd.underlying35
  repeat (first | (refine W_reg rfl fun G K hG hK => ?_; simp (disch := omega) only [go_sem, ↓reduceIte, Nat.reduceEqDiff, Nat.reduceAdd, Nat.reduceLeDiff, hG, q1, hlen]; refine hK _ _ ?_; clear hK K hG G) | (refine W_end rfl fun G K hG hK => ?_; simp (disch := omega) only [go_sem, ↓reduceIte, Nat.reduceEqDiff, Nat.reduceAdd, Nat.reduceLeDiff, hG, q1, hlen]; refine hK _ _ ?_; clear hK K hG G; repeat (first | refine thenI ?_ | refine thenE ?_ | refine thenR ?_ | refine inBI ?_ | refine inBR ?_ | refine inBS ?_ | refine inBN (by decide) ?_)) | refine W_seqS ?_ | refine W_seqC ?_ | refine W_seqB ?_ | refine W_block ?_ | (refine W_skip ?_; repeat (first | refine thenI ?_ | refine thenE ?_ | refine thenR ?_ | refine inBI ?_ | refine inBR ?_ | refine inBS ?_ | refine inBN (by decide) ?_)) | (refine W_condT ?hc ?_; (case hc => (simp (disch := omega) only [go_sem, ↓reduceIte, Nat.reduceEqDiff, Nat.reduceAdd, Nat.reduceLeDiff, q1, hlen]; done))) | (refine W_condF ?hc ?_; (case hc => (simp (disch := omega) only [go_sem, ↓reduceIte, Nat.reduceEqDiff, Nat.reduceAdd, Nat.reduceLeDiff, q1, hlen]; done))))
  (repeat (first | refine W_seqS ?_ | refine W_seqC ?_ | refine W_seqB ?_ | refine W_block ?_)); refine W_reg rfl fun G K hG hK => ?_; simp (disch := omega) only [go_sem, ↓reduceIte, Nat.reduceEqDiff, Nat.reduceAdd, Nat.reduceLeDiff, hG, q1, hlen]
  refine w_call (l1Below_ok q xs st (ns.length : Int) (by omega) (by omega) hq) (by simp (disch := omega) only [go_sem, ↓reduceIte, Nat.reduceEqDiff, q1, hlen]) ?hl ?_
  case hl => first | rfl | (simp only [go_sem, List.all_cons, List.all_nil, Bool.not_false, Bool.and_self, q1, hlen]; done)
  rintro r_ sa ⟨⟨x, rfl, hx0, hx1⟩, hd, hl⟩; refine ⟨fun e => (by cases e), ?_⟩
  obtain ⟨n, rfl⟩ : ∃ n : Nat, x = n := ⟨x.toNat, by omega⟩
  have hlt : n < ns.length := by omega
  obtain ⟨i, o, c, rfl, hce⟩ := row_atS (rw_away hr hd.away hne) (List.getElem?_eq_getElem hlt)
  have hi := idxOk hlt
  simp (disch := omega) only [go_sem, ↓reduceIte, Nat.reduceEqDiff, Nat.reduceAdd, Nat.reduceLeDiff, hG, q1, hlen, hi, idxA, Int.toNat_natCast, hce]; refine hK _ _ ?_; clear hK K hG G; repeat (first | refine thenI ?_ | refine thenE ?_ | refine thenR ?_ | refine inBI ?_ | refine inBR ?_ | refine inBS ?_ | refine inBN (by decide) ?_)
  refine W_ret ?_; try (repeat (first | refine thenI ?_ | refine thenE ?_ | refine thenR ?_ | refine inBI ?_ | refine inBR ?_ | refine inBS ?_ | refine inBN (by decide) ?_))
  refine fin1 (.inl rfl) (by (simp (disch := omega) only [go_sem, ↓reduceIte, Nat.reduceEqDiff, Nat.reduceAdd, Nat.reduceLeDiff, q1, hlen]); try rfl) rfl ⟨⟨_, rfl, List.getElem_mem hlt⟩, hd, hl⟩
end Go.Proofs.YtkocgcdakdoeiaaDoor.AM


/- Names drawn: l1Pick out of a list literal, l2Any, l2List, DrawSortNames. -/
namespace Go.Proofs.YtkocgcdakdoeiaaDoor.AM
open Go Go.Proofs
set_option linter.unusedVariables false
set_option linter.unusedSimpArgs false
set_option maxRecDepth 100000
attribute [local go_sem] List.map_cons List.map_nil List.all_cons List.all_nil Bool.and_self Option.map_some List.getElem?_toArray Option.bind_some gye_b gye_t gsk_b gsk_t gb1 gb2 gb3 gb4 bne_self_eq_false beq_self_eq_true w_guard w_nil stepV_some step_some step_some' w_move w_assign w_pick w_binOp w_unOp w_load w_fieldAddr w_indexAddr w_len w_max w_index ev_max max_int ev_index w_box w_alloc w_store w_field w_extract w_nilCheck w_convert w_buildSlice w_build ev_buildL fillL_nil fillL_cons bs0 bs1 ev_conv ev_bin ev_un ev_pick ev_load ev_fieldAddr ev_indexAddr ev_len ev_field ev_extract ev_nilCheck fr_tmp fr_int fr_bool fr_str fr_nil fr_func put_some put_none bin_lss bin_leq bin_gtr bin_geq bin_eql bin_neq bin_add bin_sub bin_mul bin_seql bin_sneq un_not pick_ ext_ loadA_p cellAt_l cellAt_h okPtr_l okPtr_h fadA_p allocA_l storeA_l cells_agg cells_int cells_str cells_sl cells_bool flat_i flat_s flat_b flat_sl flat_nil loc_agg loc_int loc_str loc_sl loc_bool loc_fn loc_ptr okv_agg okv_int okv_str okv_sl okv_bool cellsFrom splice upd_eval argEnv_zero argEnv_succ ne_eq Nat.add_one_ne_zero not_false_eq_true List.not_mem_nil and_self decide_true List.getElem?_cons_zero List.getElem?_cons_succ List.size_toArray List.length_cons List.length_nil List.take_succ_cons List.take_zero List.drop_succ_cons List.drop_zero List.cons_append List.nil_append List.drop_nil Bool.not_true Bool.not_false Bool.false_eq_true Nat.zero_add Nat.add_zero wrap_in List.toList_toArray List.mem_cons or_self or_false false_or
attribute [local go_sem] ag22 ag3 ag43 ag5 ag50 ag9 bu41 bu72 bu80 by5 el22 el35 el39 of41_0 of41_1 of41_2 ro3_12 ro5_1 ro9_12 sz22 sz3 sz43 sz5 sz50 sz9 ze49 ze5 ze65
-- AUTO

def isStrB : Value → Bool
  | .string _ => true
  | _ => false
def strB : Value → ByteArray
  | .string s => s
  | _ => ⟨#[]⟩
theorem strs_map {cs : List Value} (h : cs.all isStrB = true) : cs = (cs.map strB).map Value.string := by
  rw [List.map_map]
  refine ((List.map_congr_left fun v hv => ?_).trans (List.map_id cs)).symm
  have := List.all_eq_true.1 h v hv
  cases v <;> first | rfl | cases this
theorem row_last (st : St) (ns : List ByteArray) (t : TypeId) (n : Nat) : Rw (st ++ [⟨ns.map Value.string, t, 0⟩]) ns (.slice (some ⟨st.length, 0, none⟩) ns.length n) := .inr ⟨st.length, 0, n, rfl, fun j x hx => ⟨[.string x], rfl, rfl, fun k v hv => by
  have hk : k = 0 := by have := (List.getElem?_eq_some_iff.1 hv).1; simp at this; omega
  subst hk
  have hj := List.getElem?_eq_some_iff.1 hx
  obtain ⟨hj1, hj2⟩ := hj
  have : v = .string x := by simpa using hv.symm
  subst this
  simp [cell, hx, show Kind.sz ByteArray = 1 from rfl]⟩⟩
theorem l1Pick_lit (q : Nat) (xs : List Byt) (sa : St) (cs : List Value) (t : TypeId) (n : Nat) (hq : Cur sa q xs) (hs : cs.all isStrB = true) (h0 : 0 < cs.length) (h1 : cs.length ≤ 256) :
    CallS Tryd.prog 17 [.pointer (some ⟨q, 0, none⟩), .slice (some ⟨sa.length, 0, none⟩) cs.length n] (sa ++ [⟨cs, t, 0⟩]) fun r st2 => (∃ w, r = .string w ∧ .string w ∈ cs) ∧ Drawn q xs (sa ++ [⟨cs, t, 0⟩]) st2 ∧ st2.length = sa.length + 1 := by
  have hcs := strs_map hs
  have hlq : q < sa.length := by obtain ⟨_, _, _, h, _⟩ := hq; exact (List.getElem?_eq_some_iff.1 h).1
  have hr := row_last sa (cs.map strB) t n
  rw [← hcs, List.length_map] at hr
  refine (l1Pick_ok q xs _ (cs.map strB) _ (by simpa using h0) (by simpa using h1) (hq.ext (Ext.app _ _)) hr (fun e => by simp only [topId, Option.some.injEq] at e; omega)).mono fun r st2 ⟨⟨w, hw, hm⟩, hd, hl⟩ => ⟨⟨w, hw, ?_⟩, hd, by simpa using hl⟩
  rw [hcs]
  exact List.mem_map.2 ⟨w, hm, rfl⟩
/-- What new data a draw adds: the cursor's turn, and new blocks. -/
theorem Drawn.pre {q : Nat} {xs : List Byt} {a b c : St} (hx : Ext a b) (h : Drawn q xs b c) : Drawn q xs a c := ⟨h.cur, (Away.of_ext hx).trans h.away (by first | exact .inl rfl)⟩
theorem size_of_mem2 {w : ByteArray} {cs : List Value} {m : Nat} (h : Value.string w ∈ cs) (hs : cs.all (fun v => match v with | .string s => decide (s.size ≤ m) | _ => false) = true) : w.size ≤ m := by
  have := List.all_eq_true.1 hs _ h
  simpa using this
/-- Own data stay over a draw. -/
theorem Drawn.sl {α : Type} [Kind α] {q : Nat} {bs : List Byt} {n0 : Nat} {a b : St} {xs : List α} {s : Value} {L : List Nat} (h : Drawn q bs a b) (ho : Sl a xs s L) (hf : Fresh n0 L) (hq : q < n0) : Sl b xs s L :=
  ho.frame fun i hi => h.away.2 i (ho.lt i hi) fun e => by
    have := hf.2 i hi
    cases e; omega
theorem Drawn.grow {q : Nat} {bs : List Byt} {n0 : Nat} {a b c : St} {s s' : Value} (h : Drawn q bs a b) (hg : Grow b s c s') (hs : topId s = none ∨ ∃ m, n0 ≤ m ∧ topId s = some m) (hq : q < n0) (ha : n0 = a.length) : Drawn q bs a c := by
  subst ha
  have hl := h.away.1
  rcases hs with hs | ⟨m, hm, hs⟩
  · have hx := hg.away
    rw [hs] at hx
    exact ⟨h.cur.ext hx.ext, ⟨Nat.le_trans hl hx.1, fun i hi hne => by rw [hx.2 i (by omega) (by simp), h.away.2 i hi hne]⟩⟩
  · have hx := hg.away
    rw [hs] at hx
    exact ⟨h.cur.far hx (by omega), ⟨Nat.le_trans hl hx.1, fun i hi hne => by rw [hx.2 i (by omega) (fun e => by cases e; omega), h.away.2 i hi hne]⟩⟩
theorem big_ok (bs : List Byt) (st : St) (s : Value) (hr : RowY st bs s) : CallS Tryd.prog 4 [s] st fun r st2 => r = .bool (decide ((bs.length : Int) > 1048576)) ∧ st2 = st := by
  refine CallS_of_W [] 6 Tryd.func4 rfl rfl rfl rfl (by simp) ?_
  have q1 := hr.notLoc.1
  have hlen : lenE Tryd.prog 22 s = some (.int .i64 bs.length) := row_len hr Tryd.underlying22
  repeat (first | (refine W_reg rfl fun G K hG hK => ?_; simp (disch := omega) only [go_sem, ↓reduceIte, Nat.reduceEqDiff, Nat.reduceAdd, Nat.reduceLeDiff, hG, q1, hlen]; refine hK _ _ ?_; clear hK K hG G) | (refine W_end rfl fun G K hG hK => ?_; simp (disch := omega) only [go_sem, ↓reduceIte, Nat.reduceEqDiff, Nat.reduceAdd, Nat.reduceLeDiff, hG, q1, hlen]; refine hK _ _ ?_; clear hK K hG G; repeat (first | refine thenI ?_ | refine thenE ?_ | refine thenR ?_ | refine inBI ?_ | refine inBR ?_ | refine inBS ?_ | refine inBN (by decide) ?_)) | refine W_seqS ?_ | refine W_seqC ?_ | refine W_seqB ?_ | refine W_block ?_ | (refine W_skip ?_; repeat (first | refine thenI ?_ | refine thenE ?_ | refine thenR ?_ | refine inBI ?_ | refine inBR ?_ | refine inBS ?_ | refine inBN (by decide) ?_)) | (refine W_condT ?hc ?_; (case hc => (simp (disch := omega) only [go_sem, ↓reduceIte, Nat.reduceEqDiff, Nat.reduceAdd, Nat.reduceLeDiff, q1, hlen]; done))) | (refine W_condF ?hc ?_; (case hc => (simp (disch := omega) only [go_sem, ↓reduceIte, Nat.reduceEqDiff, Nat.reduceAdd, Nat.reduceLeDiff, q1, hlen]; done))))
  refine W_ret ?_; try (repeat (first | refine thenI ?_ | refine thenE ?_ | refine thenR ?_ | refine inBI ?_ | refine inBR ?_ | refine inBS ?_ | refine inBN (by decide) ?_))
  refine fin1 (.inl rfl) (by (simp (disch := omega) only [go_sem, ↓reduceIte, Nat.reduceEqDiff, Nat.reduceAdd, Nat.reduceLeDiff]); try rfl) rfl ⟨rfl, rfl⟩
theorem rwI_away {st st' : St} {xs : List Int} {s : Value} {q : Nat} (h : Rw st xs s) (ha : Away (some q) st st') (hn : topId s ≠ some q) : Rw st' xs s := by
  rcases h with h | ⟨i, o, c, rfl, h⟩
  · exact .inl h
  · refine .inr ⟨i, o, c, rfl, fun j x hx => ?_⟩
    obtain ⟨cs, h1, h2, h3⟩ := h j x hx
    refine ⟨cs, h1, h2, fun k v hv => ?_⟩
    have h4 := h3 k v hv
    have hi : i < st.length := by
      unfold cell at h4
      rcases Nat.lt_or_ge i st.length with h5 | h5
      · exact h5
      · rw [List.getElem?_eq_none h5] at h4; cases h4
    have h5 := ha.2 i hi (fun e => hn e.symm)
    unfold cell at h4 ⊢
    rw [h5]; exact h4
theorem l1PickInt_ok (q : Nat) (xs : List Byt) (st : St) (ns : List Int) (s : Value) (hn0 : 0 < ns.length) (hn1 : ns.length ≤ 256) (hq : Cur st q xs) (hr : Rw st ns s) (hne : topId s ≠ some q) :
    CallS Tryd.prog 20 [.pointer (some ⟨q, 0, none⟩), s] st fun r st2 => (∃ w, r = .int .i64 w ∧ w ∈ ns) ∧ Drawn q xs st st2 ∧ st2.length = st.length := by
  refine CallS_of_W [] 12 Tryd.func20 rfl rfl rfl rfl (by simp) ?_
  have q1 := hr.notLoc.1
  have hlen : lenE Tryd.prog 39 s = some (.int .i64 ns.length) := row_len hr Tryd.underlying39
  repeat (first | (refine W_reg rfl fun G K hG hK => ?_; simp (disch := omega) only [go_sem, ↓reduceIte, Nat.reduceEqDiff, Nat.reduceAdd, Nat.reduceLeDiff, hG, q1, hlen]; refine hK _ _ ?_; clear hK K hG G) | (refine W_end rfl fun G K hG hK => ?_; simp (disch := omega) only [go_sem, ↓reduceIte, Nat.reduceEqDiff, Nat.reduceAdd, Nat.reduceLeDiff, hG, q1, hlen]; refine hK _ _ ?_; clear hK K hG G; repeat (first | refine thenI ?_ | refine thenE ?_ | refine thenR ?_ | refine inBI ?_ | refine inBR ?_ | refine inBS ?_ | refine inBN (by decide) ?_)) | refine W_seqS ?_ | refine W_seqC ?_ | refine W_seqB ?_ | refine W_block ?_ | (refine W_skip ?_; repeat (first | refine thenI ?_ | refine thenE ?_ | refine thenR ?_ | refine inBI ?_ | refine inBR ?_ | refine inBS ?_ | refine inBN (by decide) ?_)) | (refine W_condT ?hc ?_; (case hc => (simp (disch := omega) only [go_sem, ↓reduceIte, Nat.reduceEqDiff, Nat.reduceAdd, Nat.reduceLeDiff, q1, hlen]; done))) | (refine W_condF ?hc ?_; (case hc => (simp (disch := omega) only [go_sem, ↓reduceIte, Nat.reduceEqDiff, Nat.reduceAdd, Nat.reduceLeDiff, q1, hlen]; done))))
  (repeat (first | refine W_seqS ?_ | refine W_seqC ?_ | refine W_seqB ?_ | refine W_block ?_)); refine W_reg rfl fun G K hG hK => ?_; simp (disch := omega) only [go_sem, ↓reduceIte, Nat.reduceEqDiff, Nat.reduceAdd, Nat.reduceLeDiff, hG, q1, hlen]
  refine w_call (l1Below_ok q xs st (ns.length : Int) (by omega) (by omega) hq) (by simp (disch := omega) only [go_sem, ↓reduceIte, Nat.reduceEqDiff, q1, hlen]) ?hl ?_
  case hl => first | rfl | (simp only [go_sem, List.all_cons, List.all_nil, Bool.not_false, Bool.and_self, q1, hlen]; done)
  rintro r_ sa ⟨⟨x, rfl, hx0, hx1⟩, hd, hl⟩; refine ⟨fun e => (by cases e), ?_⟩
  obtain ⟨n, rfl⟩ : ∃ n : Nat, x = n := ⟨x.toNat, by omega⟩
  have hlt : n < ns.length := by omega
  obtain ⟨i, o, c, cs, rfl, _, rfl, hc⟩ := row_at (rwI_away hr hd.away hne) (List.getElem?_eq_getElem hlt)
  have hce : cell sa i (o + n * 1) = some (.int .i64 ns[n]) := hc 0 _ rfl
  have hi := idxOk hlt
  simp (disch := omega) only [go_sem, ↓reduceIte, Nat.reduceEqDiff, Nat.reduceAdd, Nat.reduceLeDiff, hG, q1, hlen, hi, idxA, Int.toNat_natCast, hce]; refine hK _ _ ?_; clear hK K hG G; repeat (first | refine thenI ?_ | refine thenE ?_ | refine thenR ?_ | refine inBI ?_ | refine inBR ?_ | refine inBS ?_ | refine inBN (by decide) ?_)
  refine W_ret ?_; try (repeat (first | refine thenI ?_ | refine thenE ?_ | refine thenR ?_ | refine inBI ?_ | refine inBR ?_ | refine inBS ?_ | refine inBN (by decide) ?_))
  refine fin1 (.inl rfl) (by (simp (disch := omega) only [go_sem, ↓reduceIte, Nat.reduceEqDiff, Nat.reduceAdd, Nat.reduceLeDiff, q1, hlen]); try rfl) rfl ⟨⟨_, rfl, List.getElem_mem hlt⟩, hd, hl⟩
end Go.Proofs.YtkocgcdakdoeiaaDoor.AM


/- Regions that draw their order, walked in several orders; some pairs change places by what is known where they stand. -/
namespace Go.Proofs.YtkocgcdakdoeiaaDoor.AM
open Go
set_option linter.unusedVariables false
set_option linter.unusedSimpArgs false

/-- What is known goes on over an operation. -/
def Keeps (P : Program) (A H : List Tmp) (G : Nat → Option Tmp) (I : Fr → St → Prop) (a : Oper × Bool) : Prop := ∀ (R : List (Oper × Bool)) (K : Fr → St → Prop) (fr : Fr) (st : St), I fr st → WOps P A H G (a :: R) K fr st → WOps P A H G [a] (fun fr st => I fr st ∧ WOps P A H G R K fr st) fr st
/-- Two operations change places, by what is known. -/
def SwI (P : Program) (A H : List Tmp) (G : Nat → Option Tmp) (I : Fr → St → Prop) (a x : Oper × Bool) : Prop := ∀ (R : List (Oper × Bool)) (K : Fr → St → Prop) (fr : Fr) (st : St), I fr st → WOps P A H G (a :: x :: R) K fr st → WOps P A H G (x :: a :: R) K fr st
theorem WOps_unhead {P : Program} {A H : List Tmp} {G : Nat → Option Tmp} {ox : Oper × Bool} {R : List (Oper × Bool)} {K : Fr → St → Prop} {fr : Fr} {st : St} (h : WOps P A H G [ox] (fun fr st => WOps P A H G R K fr st) fr st) : WOps P A H G (ox :: R) K fr st := by
  obtain ⟨o, x⟩ := ox
  unfold WOps at h ⊢
  exact h
theorem hopI {P : Program} {A H : List Tmp} {G : Nat → Option Tmp} {I : Fr → St → Prop} {x : Oper × Bool} {rest : List (Oper × Bool)} {K : Fr → St → Prop} : ∀ (As : List (Oper × Bool)), (∀ a ∈ As, SwI P A H G I a x ∧ Keeps P A H G I a) → ∀ fr st, I fr st → WOps P A H G (As ++ x :: rest) K fr st → WOps P A H G (x :: (As ++ rest)) K fr st := by
  intro As
  induction As with
  | nil => intro _ fr st _ h; exact h
  | cons a As ih =>
    intro hs fr st hI h
    refine (hs a (by simp)).1 _ _ _ _ hI (WOps_unhead ?_)
    exact ((hs a (by simp)).2 _ _ _ _ hI h).mono fun fr st ⟨h1, h2⟩ => ih (fun b hb => hs b (by simp [hb])) fr st h1 h2
def swapOkL (SP : List (Nat × Nat)) (A H : List Tmp) (l : List Oper) (p q : Nat × Bool) : Bool := swapOk A H l p q || SP.contains (p.1, q.1)
/-- Pairs of operations whose order counts. -/
def exmL (SP : List (Nat × Nat)) (A H : List Tmp) (l : List Oper) (T : List (List Nat)) : List (Nat × Bool) → List (Nat × Nat)
  | [] => []
  | p :: rest => ((rest.filter fun q => !((T.getD q.1 []).contains p.1 || swapOkL SP A H l p q)).map fun q => (p.1, q.1)) ++ exmL SP A H l T rest
def keepOL (SP : List (Nat × Nat)) (A H : List Tmp) (l : List Oper) (done : List Nat) (x : Nat) (π : List (Nat × Bool)) : Bool := (exmL SP A H l (ancT l) π).all fun pq => pq.2 != x || done.contains pq.1
/-- Whatever is drawn, one of the orders goes with it. -/
def gameL (SP : List (Nat × Nat)) (A H : List Tmp) (l : List Oper) (E : List Nat) : Nat → List (List (Nat × Bool)) → List Nat → Bool
  | 0, act, done => !act.isEmpty && E.all fun e => done.contains e
  | k + 1, act, done => !act.isEmpty && E.all fun e => done.contains e || !(((ancT l).getD e []).filter E.contains).all (done.contains ·) || gameL SP A H l E k (goOn l e (act.filter (keepOL SP A H l done e))) (e :: done)
def inEL (SP : List (Nat × Nat)) (A H : List Tmp) (l : List Oper) (E : List Nat) (π : List (Nat × Bool)) : Bool := (exmL SP A H l (ancT l) π).all fun pq => E.contains pq.1 && E.contains pq.2
def chkML (SP : List (Nat × Nat)) (A H : List Tmp) (l : List Oper) (E : List Nat) (PS : List (List (Nat × Bool))) : Bool :=
  tabOk l (ancT l) && (List.range l.length).all (fun i => E.contains i || !((l[i]?).bind fun o => callOf o.op).isSome) && PS.all (fun π => chk1 l π && inEL SP A H l E π) && gameL SP A H l E E.length PS []

theorem exm_specL {SP : List (Nat × Nat)} {A H : List Tmp} {l : List Oper} {T : List (List Nat)} : ∀ {π : List (Nat × Bool)} (X : List (Nat × Bool)) (q : Nat × Bool) (Y : List (Nat × Bool)), π = X ++ q :: Y → ∀ p ∈ X, p.1 ∈ T.getD q.1 [] ∨ swapOkL SP A H l p q = true ∨ (p.1, q.1) ∈ exmL SP A H l T π := by
  intro π
  induction π with
  | nil => intro X q Y e; cases X <;> cases e
  | cons r π ih =>
    intro X q Y e p hp
    cases X with
    | nil => cases hp
    | cons r' X =>
      injection e with e1 e2
      subst e1
      cases hp with
      | head =>
        cases hb : ((T.getD q.1 []).contains r.1 || swapOkL SP A H l r q) with
        | true =>
          rcases Bool.or_eq_true_iff.1 hb with h | h
          · exact .inl (by simpa using h)
          · exact .inr (.inl h)
        | false =>
          refine .inr (.inr ?_)
          simp only [exmL]
          refine List.mem_append_left _ (List.mem_map.2 ⟨q, List.mem_filter.2 ⟨by rw [e2]; simp, by rw [hb]; rfl⟩, rfl⟩)
      | tail _ hp =>
        rcases ih X q Y e2 p hp with h | h | h
        · exact .inl h
        · exact .inr (.inl h)
        · exact .inr (.inr (by simp only [exmL]; exact List.mem_append_right _ h))

section
variable {P : Program} {A H : List Tmp} {G : Nat → Option Tmp}
theorem wpAny_soundML {I : Fr → St → Prop} {SP : List (Nat × Nat)} {n : Nat} {B : Base} {l : List Oper} {E : List Nat} (hKeep : ∀ o ∈ l, ∀ x, Keeps P A H G I (o, x)) (hSP : ∀ p q a x, (p, q) ∈ SP → l[p]? = some a → l[q]? = some x → ∀ fp fq, SwI P A H G I (a, fp) (x, fq)) (ctab : tabOk l (ancT l) = true) (ccall : ∀ i o, l[i]? = some o → i ∉ E → callOf o.op = none) (hd : ∀ o ∈ l, ∀ t, o.dst = some t → t < n)
    (hG : ∀ j, G j = (l.toArray[j]?).bind (·.dst)) {K : Fr → St → Prop} {Q : Exit → Act → World → Prop}
    (hQ : ∀ fr' st' M' L' a' w', K fr' st' → Rel P B M' L' n fr' st' a' w' → Q .normal a' w') :
    ∀ (fuel k : Nat) (act : List (List (Nat × Bool))) (done : List Nat) (listed : Array Bool) (fr : Fr) (st : St) (M : List ME) (L : Nat → Nat) (a : Act) (w : World), (∀ π ∈ act, chk1 l π = true ∧ inEL SP A H l E π = true) → gameL SP A H l E k act done = true → (∀ e ∈ E, e ∈ done ↔ listed.getD e false = true) →
      listed.size = l.length → (∀ π ∈ act, (rem π listed).length = fuel) → (∀ i, i < l.length → listed.getD i false = true → ∀ d ∈ deps l i, listed.getD d false = true) →
      Rel P B M L n fr st a w → I fr st → (∀ π ∈ act, WOps P A H G (pickOps l (rem π listed)) K fr st) → wpAny P .any l.toArray Q fuel listed a w := by
  intro fuel
  induction fuel with
  | zero =>
    intro k act done listed fr st M L a w hchk hgame hdone hsz hlen hcl R hI h
    obtain ⟨π, hπ⟩ : ∃ π, π ∈ act := by
      cases act with
      | nil => cases k <;> simp [gameL] at hgame
      | cons π _ => exact ⟨π, by simp⟩
    have hc := (hchk π hπ).1
    unfold chk1 at hc
    simp only [Bool.and_eq_true] at hc
    obtain ⟨⟨⟨c1, c2⟩, c3⟩, c5⟩ := hc
    have cover : ∀ i, i < l.length → ∃ p ∈ π, p.1 = i := by
      intro i hi
      have := List.all_eq_true.1 c2 i (by simpa using hi)
      simpa using this
    have hrem : rem π listed = [] := List.eq_nil_of_length_eq_zero (hlen π hπ)
    refine ⟨?_, ?_⟩
    · apply List.eq_nil_iff_forall_not_mem.2
      intro i hi
      obtain ⟨h1, h2, h3⟩ := mem_ready.1 hi
      obtain ⟨p, hp, rfl⟩ := cover i h1
      have : p ∈ rem π listed := mem_rem.2 ⟨hp, h2⟩
      rw [hrem] at this
      cases this
    · have := h π hπ
      rw [hrem] at this
      exact hQ _ _ _ _ _ _ this R
  | succ fuel ih =>
    intro k act done listed fr st M L a w hchk hgame hdone hsz hlen hcl R hI h
    refine ⟨fun hr => ?_, fun i hi => ?_⟩
    · -- something is ready
      exfalso
      obtain ⟨π, hπ⟩ : ∃ π, π ∈ act := by
        cases act with
        | nil => cases k <;> simp [gameL] at hgame
        | cons π _ => exact ⟨π, by simp⟩
      have hc := (hchk π hπ).1
      unfold chk1 at hc
      simp only [Bool.and_eq_true] at hc
      obtain ⟨⟨⟨c1, c2⟩, c3⟩, c5⟩ := hc
      have inl : ∀ p ∈ π, p.1 < l.length := fun p hp => by have := List.all_eq_true.1 c3 p hp; simpa using this
      have hlen := hlen π hπ
      have hex := rem_split (π := π) (listed := listed) (by intro e; rw [e] at hlen; cases hlen)
      obtain ⟨X, q, Y, e, h1, h2⟩ := hex
      have hq : q.1 < l.length := inl q (by rw [e]; simp)
      have : q.1 ∈ Region.ready .any l.toArray listed := by
        refine mem_ready.2 ⟨hq, h2, fun d hd => ?_⟩
        rcases topoOk_spec c5 X q Y e d hd with hd | ⟨p, hp, rfl⟩
        · cases hd
        · have h3 := h1 p hp
          have hp' : p.1 < listed.size := by rw [hsz]; exact inl p (by rw [e]; simp [hp])
          rw [getD_lt hp' false true]; exact h3
      rw [hr] at this
      cases this
    · obtain ⟨h1, h2, h3⟩ := mem_ready.1 hi
      obtain ⟨o, ho⟩ : ∃ o, l[i]? = some o := ⟨_, List.getElem?_eq_getElem h1⟩
      have hq' : i < listed.size := by rw [hsz]; exact h1
      -- the orders that go on, and the gameL that goes on
      obtain ⟨k', act', done', hact, hgame', hone, hdone', hkeep⟩ : ∃ k' act' done', (∀ π ∈ act', π ∈ act) ∧ gameL SP A H l E k' act' done' = true ∧ (callOf o.op = none ∨ ∃ π, act' = [π]) ∧ (∀ e ∈ E, e ∈ done' ↔ (e = i ∨ listed.getD e false = true)) ∧ ∀ π ∈ act', ∀ p, (p, i) ∈ exmL SP A H l (ancT l) π → listed.getD p false = true := by
        by_cases hE : i ∈ E
        · have hnd : i ∉ done := fun hh => by
            have := (hdone i hE).1 hh
            rw [getD_lt hq' false true] at this
            rw [h2] at this; cases this
          cases k with
          | zero =>
            exfalso
            simp only [gameL, Bool.and_eq_true] at hgame
            have := List.all_eq_true.1 hgame.2 i hE
            exact hnd (by simpa using this)
          | succ k =>
            simp only [gameL, Bool.and_eq_true] at hgame
            have h4 := List.all_eq_true.1 hgame.2 i hE
            simp only [Bool.or_eq_true, Bool.not_eq_true'] at h4
            have h5 : gameL SP A H l E k (goOn l i (act.filter (keepOL SP A H l done i))) (i :: done) = true := by
              rcases h4 with (h4 | h4) | h4
              · exact absurd (by simpa using h4) hnd
              · exfalso
                have h6 : (((ancT l).getD i []).filter E.contains).all (done.contains ·) = true := by
                  refine List.all_eq_true.2 fun d hdm => ?_
                  obtain ⟨hd1, hd2⟩ := List.mem_filter.1 hdm
                  have hl2 := tab_closed ctab (fun j => listed.getD j false = true) hcl i h1 h3 d hd1
                  have := (hdone d (by simpa using hd2)).2 hl2
                  simpa using this
                rw [h6] at h4
                cases h4
              · exact h4
            refine ⟨k, _, _, fun π hπ => (List.mem_filter.1 (goOn_sub π hπ)).1, h5, ?_, fun e he => ?_, fun π hπ p hp => ?_⟩
            · cases hcl2 : callOf o.op with
              | none => exact .inl rfl
              | some c =>
                refine .inr ?_
                have hgo : goOn l i (act.filter (keepOL SP A H l done i)) = (act.filter (keepOL SP A H l done i)).take 1 := by unfold goOn; rw [ho]; simp [hcl2]
                rw [hgo]
                rw [hgo] at h5
                cases hf : act.filter (keepOL SP A H l done i) with
                | nil => rw [hf] at h5; cases k <;> simp [gameL] at h5
                | cons π _ => exact ⟨π, rfl⟩
            · rw [List.mem_cons, hdone e he]
            · have hπ := goOn_sub π hπ
              have h6 := (List.mem_filter.1 hπ).2
              unfold keepOL at h6
              have h7 := List.all_eq_true.1 h6 _ hp
              simp only [bne_self_eq_false, Bool.false_or] at h7
              have hpE : p ∈ E := by
                have := (hchk π (List.mem_filter.1 hπ).1).2
                unfold inEL at this
                have := List.all_eq_true.1 this _ hp
                simp only [Bool.and_eq_true] at this
                simpa using this.1
              exact (hdone p hpE).1 (by simpa using h7)
        · refine ⟨k, act, done, fun _ h => h, hgame, .inl (ccall i o ho hE), fun e he => ⟨fun hh => .inr ((hdone e he).1 hh), fun hh => ?_⟩, fun π hπ p hp => ?_⟩
          · rcases hh with rfl | hh
            · exact absurd he hE
            · exact (hdone e he).2 hh
          · exfalso
            have := (hchk π hπ).2
            unfold inEL at this
            have := List.all_eq_true.1 this _ hp
            simp only [Bool.and_eq_true] at this
            exact hE (by simpa using this.2)
      have hgetD : ∀ (j : Nat) (b : Bool), j < listed.size → (listed.setIfInBounds i true).getD j b = if j = i then true else listed.getD j b := by
        intro j b hj
        simp only [Array.getD_eq_getD_getElem?, Array.getElem?_setIfInBounds]
        by_cases e : j = i
        · subst e; simp [hj]
        · simp [e, Ne.symm e]
      -- one step, for each order
      have hall : ∀ π ∈ act', ∃ x R', rem π (listed.setIfInBounds i true) = R' ∧ R'.length = fuel ∧ WOps P A H G ((o, x) :: pickOps l R') K fr st := by
        intro π hπ'
        have hπ := hact π hπ'
        have hc := (hchk π hπ).1
        unfold chk1 at hc
        simp only [Bool.and_eq_true] at hc
        obtain ⟨⟨⟨c1, c2⟩, c3⟩, c5⟩ := hc
        have cover : ∀ i, i < l.length → ∃ p ∈ π, p.1 = i := by
          intro i hi
          have := List.all_eq_true.1 c2 i (by simpa using hi)
          simpa using this
        have inl : ∀ p ∈ π, p.1 < l.length := fun p hp => by have := List.all_eq_true.1 c3 p hp; simpa using this
        have hlen := hlen π hπ
        have h := h π hπ
        have hex : ∃ X q Y, rem π listed = X ++ q :: Y ∧ q.1 = i ∧ ∃ X' Y', π = X' ++ q :: Y' ∧ (∀ p ∈ X, p ∈ X') := by
          obtain ⟨q, hq, rfl⟩ := cover i h1
          obtain ⟨X', Y', e⟩ := List.append_of_mem hq
          refine ⟨rem X' listed, q, rem Y' listed, ?_, rfl, X', Y', e, fun p hp => (List.mem_filter.1 hp).1⟩
          rw [e]
          unfold rem
          rw [List.filter_append, List.filter_cons, h2]
          rfl
        obtain ⟨X, q, Y, e, rfl, X', Y', e', hX⟩ := hex
        have hop' := hopI (P := P) (A := A) (H := H) (G := G) (I := I) (K := K) (x := (o, q.2)) (rest := pickOps l Y) (pickOps l X) (fun ax hax => by
          obtain ⟨p, hp, hpo, hpx⟩ := mem_pickOps hax
          have hno : listed.getD p.1 false ≠ true := fun hl2 => by
            have hmem : p ∈ rem π listed := by rw [e]; simp [hp]
            have := (mem_rem.1 hmem).2
            have hp' : p.1 < listed.size := by rw [hsz]; exact (List.getElem?_eq_some_iff.1 hpo).1
            rw [getD_lt hp' true false] at this
            exact absurd (hl2.symm.trans this) (by simp)
          have hsw : swapOkL SP A H l p q = true := by
            rcases exm_specL (SP := SP) (A := A) (H := H) (l := l) (T := ancT l) X' q Y' e' p (hX p hp) with ht | hs | hx
            · exact absurd (tab_closed ctab (fun i => listed.getD i false = true) hcl q.1 h1 h3 p.1 ht) hno
            · exact hs
            · exact absurd (hkeep π hπ' p.1 hx) hno
          obtain ⟨a1, a2⟩ := ax
          simp only at hpx hpo
          refine ⟨?_, hKeep a1 (List.mem_of_getElem? hpo) a2⟩
          unfold swapOkL at hsw
          rcases Bool.or_eq_true_iff.1 hsw with hs | hs
          · have := swapOk_spec hpo ho hs
            rw [hpx] at this
            exact fun R K fr st _ h => hop (ops := l.toArray) (x := (o, q.2)) (rest := R) hG [(a1, a2)] (fun c hc => by rw [List.mem_singleton.1 hc]; exact this) fr st h
          · exact hSP p.1 q.1 a1 o (by simpa using hs) hpo ho a2 q.2) fr st hI (by rw [e, pickOps_app, pickOps_cons ho] at h; exact h)
        have hrem' : ∀ Z : List (Nat × Bool), (∀ p ∈ Z, p.1 < l.length) → rem Z (listed.setIfInBounds q.1 true) = (rem Z listed).filter fun p => p.1 != q.1 := by
          intro Z hZ
          unfold rem
          rw [List.filter_filter]
          apply List.filter_congr
          intro p hp
          rw [hgetD p.1 true (by rw [hsz]; exact hZ p hp)]
          by_cases e : p.1 = q.1
          · simp [e]
          · simp [e]
        have hnd : (π.map (·.1)).Nodup := nodupB_spec c1.2
        have hXY : rem π (listed.setIfInBounds q.1 true) = X ++ Y := by
          rw [hrem' π inl, e]
          have hnd2 : ((X ++ q :: Y).map (·.1)).Nodup := by
            rw [← e]
            exact hnd.sublist (List.Sublist.map _ List.filter_sublist)
          rw [List.map_append, List.map_cons] at hnd2
          have hni := List.nodup_append.1 hnd2
          rw [List.filter_append, List.filter_cons]
          simp only [bne_self_eq_false, Bool.false_eq_true, if_false]
          congr 1
          · apply List.filter_eq_self.2
            intro p hp
            have : p.1 ≠ q.1 := fun e => hni.2.2 p.1 (List.mem_map.2 ⟨p, hp, rfl⟩) q.1 (by simp) e
            simpa using this
          · apply List.filter_eq_self.2
            intro p hp
            have : p.1 ≠ q.1 := fun e => (List.nodup_cons.1 hni.2.1).1 (e ▸ List.mem_map.2 ⟨p, hp, rfl⟩)
            simpa using this
        refine ⟨q.2, X ++ Y, hXY, ?_, by rw [pickOps_app]; exact hop'⟩
        rw [e] at hlen
        simp only [List.length_append, List.length_cons] at hlen ⊢
        omega
      obtain ⟨π0, hπ0⟩ : ∃ π, π ∈ act' := by
        cases act' with
        | nil => cases k' <;> simp [gameL] at hgame'
        | cons π _ => exact ⟨π, by simp⟩
      have hone2 : ∃ x, WOps P A H G [(o, x)] (fun fr st => ∀ π ∈ act', WOps P A H G (pickOps l (rem π (listed.setIfInBounds i true))) K fr st) fr st := by
        rcases hone with hn | ⟨π, rfl⟩
        · refine ⟨false, WOps_conj hn ⟨π0, hπ0⟩ fun π hπ => ?_⟩
          obtain ⟨x, R', h4, _, h5⟩ := hall π hπ
          exact ⟨x, by rw [h4]; exact WOps_head h5⟩
        · obtain ⟨x, R', h4, _, h5⟩ := hall π (by simp)
          refine ⟨x, (WOps_head h5).mono fun fr st hq π' hπ' => ?_⟩
          obtain rfl := List.mem_singleton.1 hπ'
          rw [h4]; exact hq
      obtain ⟨x, hw1⟩ := hone2
      have hw2 := hKeep o (List.mem_of_getElem? ho) x [] _ fr st hI hw1
      have hstep := step_sound (Q := Q) R hG (hd o (List.mem_of_getElem? ho)) hw2 (K' := wpAny P .any l.toArray Q fuel (listed.setIfInBounds i true)) fun fr' st' M' L' a' w' h' R' => by
        obtain ⟨hI', h'⟩ := h'
        rw [w_nil] at h'
        refine ih k' act' done' (listed.setIfInBounds i true) fr' st' M' L' a' w' (fun π hπ => hchk π (hact π hπ)) hgame' (fun e he => ?_) (by simpa using hsz) (fun π hπ => ?_) ?_ R' hI' h'
        · rw [hdone' e he]
          by_cases hel : e < listed.size
          · rw [hgetD e false hel]
            by_cases ee : e = i
            · simp [ee]
            · simp [ee]
          · have h6 : e ≠ i := by omega
            simp [h6, Array.getD, hel]
        · obtain ⟨x, R', h4, h5, _⟩ := hall π hπ
          rw [h4]; exact h5
        · intro j hj hjl d hdj
          have hdl : d < listed.size ∨ listed.size ≤ d := by omega
          have base : listed.getD d false = true := by
            rw [hgetD j false (by rw [hsz]; exact hj)] at hjl
            split at hjl
            · rename_i ej; subst ej; exact h3 d hdj
            · exact hcl j hj hjl d hdj
          rcases hdl with hdl | hdl
          · rw [hgetD d false hdl]
            by_cases ed : d = i
            · rw [if_pos ed]
            · rw [if_neg ed]; exact base
          · simp [Array.getD, Nat.not_lt.2 hdl] at base
      unfold wpOp
      have ho' : l.toArray[i]? = some o := by simpa using ho
      rw [ho']
      simp only
      split at hstep
      · rename_i hw; rw [if_pos hw]; exact .inl hstep
      · rename_i hw; rw [if_neg hw]; exact hstep

/-- A region that draws its order, walked in several orders. -/
theorem W_regionML {I : Fr → St → Prop} {n id : Nat} {Q : Ex → Fr → St → Prop} {fr : Fr} {st : St} (hm : P.follows .mixedOrders = true) {l : List Oper} (SP : List (Nat × Nat)) (A : List Tmp) (E : List Nat) (PS : List (List (Nat × Bool))) (hd : dstsLt n l = true) (hc : chkML SP A H l E PS = true) (hI : I fr st)
    (hKeep : ∀ G, (∀ j, G j = (l[j]?).bind (·.dst)) → ∀ o ∈ l, ∀ x, Keeps P A H G I (o, x)) (hSP : ∀ G, (∀ j, G j = (l[j]?).bind (·.dst)) → ∀ p q a x, (p, q) ∈ SP → l[p]? = some a → l[q]? = some x → ∀ fp fq, SwI P A H G I (a, fp) (x, fq))
    (h : ∀ G : Nat → Option Tmp, (∀ j, G j = (l[j]?).bind (·.dst)) → ∀ π ∈ PS, WOps P A H G (pickOps l π) (Q .normal) fr st) : W P H n (.region id l.toArray true) Q fr st := by
  intro B M L a w R
  refine wp_region_any hm ?_
  unfold chkML at hc
  simp only [Bool.and_eq_true] at hc
  obtain ⟨⟨⟨h1, h2⟩, h3⟩, h4⟩ := hc
  have hchk : ∀ π ∈ PS, chk1 l π = true ∧ inEL SP A H l E π = true := fun π hπ => by have := List.all_eq_true.1 h3 π hπ; simpa using this
  have hrem : ∀ π ∈ PS, rem π (Array.replicate l.length false) = π ∧ π.length = l.length := by
    intro π hπ
    have hc1 := (hchk π hπ).1
    unfold chk1 at hc1
    simp only [Bool.and_eq_true] at hc1
    refine ⟨List.filter_eq_self.2 fun p hp => ?_, by simpa using hc1.1.1.1.1⟩
    have := List.all_eq_true.1 hc1.1.2 p hp
    have hp' : p.1 < l.length := by simpa using this
    simp [Array.getD, hp']
  refine wpAny_soundML (I := I) (SP := SP) (G := fun j => (l[j]?).bind (·.dst)) (E := E) (hKeep _ fun _ => rfl) (hSP _ fun _ => rfl) h1 (fun i o ho hE => ?_) (dstsLt_of hd) (fun j => by simp) (Q := fun e a' w' => ∃ x fr' st' M' L', e = Ex.to x ∧ Q x fr' st' ∧ Rel P B M' L' n fr' st' a' w')
    (fun fr' st' M' L' a' w' hK R' => ⟨.normal, fr', st', M', L', rfl, hK, R'⟩) l.toArray.size E.length PS [] (Array.replicate l.toArray.size false) fr st M L a _ hchk h4 (fun e he => ?_) (by simp) (fun π hπ => ?_) ?_ R.drewAt hI (fun π hπ => ?_)
  · have := List.all_eq_true.1 h2 i (by simpa using (List.getElem?_eq_some_iff.1 ho).1)
    simp only [ho, Option.bind_some, Bool.or_eq_true, Bool.not_eq_true'] at this
    rcases this with h | h
    · exact absurd (by simpa using h) hE
    · simpa using h
  · constructor
    · intro hh; cases hh
    · intro hh
      have : (Array.replicate l.toArray.size false).getD e false = false := by
        simp only [Array.getD_eq_getD_getElem?, Array.getElem?_replicate]
        split <;> rfl
      rw [this] at hh; cases hh
  · simp only [List.size_toArray]; rw [(hrem π hπ).1, (hrem π hπ).2]
  · intro i hi hli
    simp [Array.getD, hi] at hli
  · simp only [List.size_toArray]; rw [(hrem π hπ).1]; exact h _ (fun _ => rfl) π hπ

end

section
variable {P : Program} {A H : List Tmp} {G : Nat → Option Tmp}
/-! Loads of local boxes. -/
/-- No pointer into the store. -/
def nonH : Value → Bool
  | .pointer (some ⟨_, _, none⟩) => false
  | _ => true
def ldL (Ls : List Tmp) : Op → Bool
  | .load _ (.tmp t) => Ls.contains t
  | .fieldAddr _ (.tmp t) _ => Ls.contains t
  | _ => false
def faL (Ls : List Tmp) : Op → Bool
  | .fieldAddr _ (.tmp t) _ => Ls.contains t
  | _ => false
def isApp : Op → Bool
  | .call { callee := .builtin .append, .. } => true
  | _ => false
/-- These slots point to local boxes. -/
def InvL (Ls : List Tmp) (fr : Fr) (_ : St) : Prop := ∀ t ∈ Ls, nonH (fr.env t) = true
def okL (Ls : List Tmp) (l : List Oper) (p q : Nat) : Bool := match l[p]?, l[q]? with
  | some a, some x => (ldL Ls a.op && (a.guard.isNone && x.guard.isNone)) && ((((callOf x.op).isSome || isApp x.op)) && a.apart l.toArray x)
  | _, _ => false
def spL (Ls : List Tmp) (l : List Oper) : List (Nat × Nat) := (List.range l.length).flatMap fun p => ((List.range l.length).filter fun q => okL Ls l p q).map fun q => (p, q)
def dstL (Ls : List Tmp) (o : Oper) : Bool := match o.dst with
  | some d => !Ls.contains d || (faL Ls o.op && o.guard.isNone)
  | none => true
def chkLL (Ls A H : List Tmp) (l : List Oper) (E : List Nat) (PS : List (List (Nat × Bool))) : Bool :=
  l.all (dstL Ls) && chkML (spL Ls l) A H l E PS
theorem spL_mem {Ls : List Tmp} {l : List Oper} {p q : Nat} (h : (p, q) ∈ spL Ls l) : okL Ls l p q = true := by
  unfold spL at h
  obtain ⟨p', _, h2⟩ := List.mem_flatMap.1 h
  obtain ⟨q', h3, h4⟩ := List.mem_map.1 h2
  cases h4
  exact (List.mem_filter.1 h3).2
theorem InvL.put {Ls : List Tmp} {fr : Fr} {st st' : St} (h : InvL Ls fr st) {d : Option Tmp} {v : Value} (hd : ∀ t, d = some t → t ∉ Ls ∨ nonH v = true) (l : Nat → Nat × List Value) : InvL Ls ⟨AM.put fr.env d v, l⟩ st' := fun t ht => by
  cases d with
  | none => exact h t ht
  | some d =>
    show nonH (upd fr.env d v t) = true
    by_cases e : t = d
    · subst e
      rw [upd_same]
      exact (hd _ rfl).resolve_left fun h => h ht
    · rw [upd_ne _ _ _ _ e]
      exact h t ht
theorem keepsL {Ls : List Tmp} {o : Oper} (hd : dstL Ls o = true) (x : Bool) : Keeps P A H G (InvL Ls) (o, x) := by
  intro R K fr st hI h
  by_cases hn : ∀ t, o.dst = some t → t ∉ Ls
  · have hput : ∀ v (l : Nat → Nat × List Value) s, InvL Ls ⟨AM.put fr.env o.dst v, l⟩ s := fun v l s => hI.put (fun t ht => .inl (hn t ht)) l
    unfold WOps at h ⊢
    split at h
    · exact h.elim
    · exact ⟨hput _ _ _, h⟩
    · split at h
      · obtain ⟨g, h1, h2, h3⟩ := h
        exact ⟨g, h1, h2, h3.mono fun r st' ⟨q1, q2⟩ => ⟨q1, hput _ _ _, q2⟩⟩
      · split at h
        · exact ⟨hput _ _ _, h⟩
        · exact h.elim
  · have hex : ∃ d, o.dst = some d ∧ d ∈ Ls := Classical.byContradiction fun h2 => hn fun t ht hL => h2 ⟨t, ht, hL⟩
    obtain ⟨d, hdd, hdL⟩ := hex
    unfold dstL at hd
    rw [hdd] at hd
    simp only [Bool.or_eq_true, Bool.and_eq_true, Bool.not_eq_true'] at hd
    have hfa : faL Ls o.op = true ∧ o.guard.isNone = true := by
      rcases hd with hd | hd
      · have : Ls.contains d = true := by simpa using hdL
        rw [this] at hd; cases hd
      · exact hd
    obtain ⟨hf, hg⟩ := hfa
    unfold faL at hf
    split at hf
    · rename_i ty t f hop
      have htL : t ∈ Ls := by simpa using hf
      have hcn : callOf o.op = none := by rw [hop]; rfl
      have ht := hI t htL
      rw [WOps_cons hg, hcn] at h ⊢
      simp only at h ⊢
      split at h
      · rename_i v l s hs
        obtain ⟨q1, q2, q3⟩ := stepVal_pure (.inr (by rw [hop]; rfl)) hs
        replace q2 := q2.symm; replace q3 := q3.symm
        subst q2; subst q3
        refine ⟨hI.put (fun t' _ => .inr ?_) _, h⟩
        rw [hop] at q1
        have q1' : (match fr.env t with
          | .pointer (some ⟨b, o, sp⟩) => (match offA P ty f with
            | some d => if okPtr A fr.loc b sp then some (Value.pointer (some ⟨b, o + d, sp⟩)) else none
            | none => none)
          | _ => none) = some v := q1
        split at q1'
        · rename_i b o' sp he
          rw [he] at ht
          split at q1'
          · split at q1'
            · cases q1'
              cases sp with
              | none => cases ht
              | some _ => rfl
            · cases q1'
          · cases q1'
        · cases q1'
      · exact h.elim
    · cases hf
theorem loadA_loc {t : TypeId} {p : Value} (h : nonH p = true) (loc : Nat → Nat × List Value) (st st' : St) : loadA P A t p loc st' = loadA P A t p loc st := by
  cases p with
  | pointer a =>
    cases a with
    | none => rfl
    | some ad =>
      obtain ⟨b, o, w⟩ := ad
      cases w with
      | none => cases h
      | some w => rw [loadA_p, loadA_p]; rfl
  | _ => rfl
theorem app_loc {o : Oper} (h : isApp o.op = true) {fr : Fr} {st : St} {v : Value} {l : Nat → Nat × List Value} {s : St} (hs : stepVal P A H o fr st = some (v, l, s)) : l = fr.loc := by
  unfold isApp at h
  split at h
  · rename_i c1 c2 hop
    unfold stepVal at hs
    rw [hop] at hs
    have e : ∀ ρ loc st, evalVal P A (.call { callee := .builtin .append, args := c1, argTypes := c2 }) ρ loc st = none := fun _ _ _ => rfl
    rw [e] at hs
    simp only at hs
    unfold evalEff at hs
    rw [hop] at hs
    simp only at hs
    split at hs
    · simp only [Option.map_eq_some_iff] at hs
      obtain ⟨r, _, hr⟩ := hs
      cases hr; rfl
    · cases hs
  · cases h
theorem swL {ops : Array Oper} {Ls : List Tmp} {a x : Oper} (hld : ldL Ls a.op = true) (hga : a.guard.isNone = true) (hgx : x.guard.isNone = true) (hx : (callOf x.op).isSome = true ∨ isApp x.op = true) (hap : a.apart ops x = true) (fa fx : Bool) : SwI P A H G (InvL Ls) (a, fa) (x, fx) := by
  intro R K fr st hI h
  obtain ⟨env, loc⟩ := fr
  have sp := Oper.apart_spec hap
  have hrd : isPure a.op = true ∨ isRd a.op = true := .inr (by
    unfold ldL at hld
    split at hld
    · rename_i e; rw [e]; rfl
    · rename_i e; rw [e]; rfl
    · cases hld)
  have hcn : callOf a.op = none := by
    unfold ldL at hld
    split at hld
    · rename_i e; rw [e]; rfl
    · rename_i e; rw [e]; rfl
    · cases hld
  have hev : ∀ (l : Nat → Nat × List Value) (s s' : St), evalVal P A a.op (Fr.ev ⟨env, loc⟩) l s' = evalVal P A a.op (Fr.ev ⟨env, loc⟩) l s := by
    intro l s s'
    unfold ldL at hld
    split at hld
    · rename_i ty t e
      rw [e]
      exact loadA_loc (hI t (by simpa using hld)) l s s'
    · rename_i e; rw [e]; rfl
    · cases hld
  have hxa : ∀ (v : Value) (l l' : Nat → Nat × List Value) (y : Operand), y ∈ x.op.operands → Fr.ev ⟨put env a.dst v, l⟩ y = Fr.ev ⟨env, l'⟩ y := fun v l l' y hy => ev_put fun d hd e => by
    subst e; exact sp.1 d hd (mem_looks hy)
  rw [WOps_cons hga, hcn] at h
  simp only at h
  split at h
  rotate_left
  · exact h.elim
  rename_i va l s hs
  obtain ⟨q1, q2, q3⟩ := stepVal_pure hrd hs
  replace q2 := q2.symm; replace q3 := q3.symm
  subst q2; subst q3
  simp only at h q1
  have back : ∀ (v : Value) (s' : St), WOps P A H G R K ⟨put (put env a.dst va) x.dst v, loc⟩ s' → WOps P A H G ((a, fa) :: R) K ⟨put env x.dst v, loc⟩ s' := by
    intro v s' hh
    rw [WOps_cons hga, hcn]
    simp only
    have e : evalVal P A a.op (Fr.ev ⟨put env x.dst v, loc⟩) loc s' = some va := by
      rw [evalVal_apart hap]
      exact (hev loc _ _).trans q1
    rw [stepVal_of e]
    rw [put_comm _ _ _ sp.2.1] at hh
    exact hh
  rw [WOps_cons hgx] at h ⊢
  cases hc : callOf x.op with
  | some fa' =>
    obtain ⟨f, args⟩ := fa'
    rw [hc] at h
    simp only at h ⊢
    obtain ⟨o1, o2⟩ := callOf_operands hc
    obtain ⟨g, h1, h2, h3⟩ := h
    refine ⟨g, ?_, ?_, ?_⟩
    · rw [← hxa va loc loc f o2]; exact h1
    · rw [← Array.all_toList] at h2 ⊢
      rw [List.all_eq_true] at h2 ⊢
      intro y hy
      have := h2 y hy
      rw [hxa va loc loc y (o1 y (by simpa using hy))] at this
      exact this
    · have e3 : args.toList.map (Fr.ev ⟨put env a.dst va, loc⟩) = args.toList.map (Fr.ev ⟨env, loc⟩) := List.map_congr_left fun y hy => hxa va loc loc y (o1 y (by simpa using hy))
      rw [e3] at h3
      exact h3.mono fun r st' ⟨p1, p2⟩ => ⟨p1, back r st' p2⟩
  | none =>
    rw [hc] at h
    simp only at h ⊢
    have hxapp : isApp x.op = true := by
      rcases hx with hx | hx
      · rw [hc] at hx; cases hx
      · exact hx
    split at h
    · rename_i v l s' hs'
      have e := stepVal_congr (P := P) (A := A) (H := H) (o := x) (fr := ⟨put env a.dst va, loc⟩) (fr' := ⟨env, loc⟩) (st := st) rfl fun y hy => (hxa va _ _ y hy).symm
      rw [e, hs']
      have := app_loc hxapp hs'
      simp only at this
      subst this
      exact back v s' h
    · exact h.elim
end
/-- A region that draws its order, walked in several orders; loads of the local boxes Ls may change places with calls and appends. -/
theorem W_regL {P : Program} {H : List Tmp} {n : Nat} {Q : Ex → Fr → St → Prop} {fr : Fr} {st : St} {id : Nat} {l : List Oper} {rest : Code} (hm : P.follows .mixedOrders = true) (Ls A : List Tmp) (E : List Nat) (PS : List (List (Nat × Bool))) (hd : dstsLt n l = true) (hc : chkLL Ls A H l E PS = true) (hI : ∀ t ∈ Ls, nonH (fr.env t) = true)
    (h : ∀ (G : Nat → Option Tmp) (K : Fr → St → Prop), (∀ j, G j = (l[j]?).bind (·.dst)) → (∀ fr st, W P H n rest Q fr st → K fr st) → ∀ π ∈ PS, WOps P A H G (pickOps l π) K fr st) : W P H n (.seq (.region id l.toArray true) rest) Q fr st := by
  unfold chkLL at hc
  obtain ⟨h1, h2⟩ := Bool.and_eq_true_iff.1 hc
  refine W_seq (W_regionML (I := InvL Ls) hm _ A E PS hd h2 hI (fun G hG o ho x => keepsL (List.all_eq_true.1 h1 o ho) x) (fun G hG p q a x hpq ha hx fp fq => ?_) fun G hG => h G _ hG fun _ _ h => h)
  have := spL_mem hpq
  unfold okL at this
  rw [ha, hx] at this
  simp only [Bool.and_eq_true, Bool.or_eq_true] at this
  obtain ⟨⟨g1, g2, g3⟩, g4, g5⟩ := this
  exact swL g1 g2 g3 g4 g5 fp fq
theorem W_endL {P : Program} {H : List Tmp} {n : Nat} {Q : Ex → Fr → St → Prop} {fr : Fr} {st : St} {id : Nat} {l : List Oper} (hm : P.follows .mixedOrders = true) (Ls A : List Tmp) (E : List Nat) (PS : List (List (Nat × Bool))) (hd : dstsLt n l = true) (hc : chkLL Ls A H l E PS = true) (hI : ∀ t ∈ Ls, nonH (fr.env t) = true)
    (h : ∀ (G : Nat → Option Tmp) (K : Fr → St → Prop), (∀ j, G j = (l[j]?).bind (·.dst)) → (∀ fr st, Q .normal fr st → K fr st) → ∀ π ∈ PS, WOps P A H G (pickOps l π) K fr st) : W P H n (.region id l.toArray true) Q fr st := by
  unfold chkLL at hc
  obtain ⟨h1, h2⟩ := Bool.and_eq_true_iff.1 hc
  refine W_regionML (I := InvL Ls) hm _ A E PS hd h2 hI (fun G hG o ho x => keepsL (List.all_eq_true.1 h1 o ho) x) (fun G hG p q a x hpq ha hx fp fq => ?_) fun G hG => h G _ hG fun _ _ h => h
  have := spL_mem hpq
  unfold okL at this
  rw [ha, hx] at this
  simp only [Bool.and_eq_true, Bool.or_eq_true] at this
  obtain ⟨⟨g1, g2, g3⟩, g4, g5⟩ := this
  exact swL g1 g2 g3 g4 g5 fp fq
theorem fm_nil {α : Type} {P : α → Prop} : ∀ x ∈ ([] : List α), P x := fun x hx => by cases hx
theorem fm_cons {α : Type} {P : α → Prop} {a : α} {l : List α} (h1 : P a) (h2 : ∀ x ∈ l, P x) : ∀ x ∈ a :: l, P x := fun x hx => by
  rcases List.mem_cons.1 hx with rfl | hx
  · exact h1
  · exact h2 x hx
end Go.Proofs.YtkocgcdakdoeiaaDoor.AM


/- ReduceWords. -/
namespace Go.Proofs.YtkocgcdakdoeiaaDoor.AM
open Go Go.Proofs
set_option linter.unusedVariables false
set_option linter.unusedSimpArgs false
set_option maxRecDepth 100000
attribute [local go_sem] List.map_cons List.map_nil List.all_cons List.all_nil Bool.and_self Option.map_some List.getElem?_toArray Option.bind_some gye_b gye_t gsk_b gsk_t gb1 gb2 gb3 gb4 bne_self_eq_false beq_self_eq_true w_guard w_nil stepV_some step_some step_some' w_move w_assign w_pick w_binOp w_unOp w_load w_fieldAddr w_indexAddr w_len w_max w_index ev_max max_int ev_index w_box w_alloc w_store w_field w_extract w_nilCheck w_convert w_buildSlice w_build ev_buildL fillL_nil fillL_cons bs0 bs1 ev_conv ev_bin ev_un ev_pick ev_load ev_fieldAddr ev_indexAddr ev_len ev_field ev_extract ev_nilCheck fr_tmp fr_int fr_bool fr_str fr_nil fr_func put_some put_none bin_lss bin_leq bin_gtr bin_geq bin_eql bin_neq bin_add bin_sub bin_mul bin_seql bin_sneq un_not pick_ ext_ loadA_p cellAt_l cellAt_h okPtr_l okPtr_h fadA_p allocA_l storeA_l cells_agg cells_int cells_str cells_sl cells_bool flat_i flat_s flat_b flat_sl flat_nil loc_agg loc_int loc_str loc_sl loc_bool loc_fn loc_ptr okv_agg okv_int okv_str okv_sl okv_bool cellsFrom splice upd_eval argEnv_zero argEnv_succ ne_eq Nat.add_one_ne_zero not_false_eq_true List.not_mem_nil and_self decide_true List.getElem?_cons_zero List.getElem?_cons_succ List.size_toArray List.length_cons List.length_nil List.take_succ_cons List.take_zero List.drop_succ_cons List.drop_zero List.cons_append List.nil_append List.drop_nil Bool.not_true Bool.not_false Bool.false_eq_true Nat.zero_add Nat.add_zero wrap_in List.toList_toArray List.mem_cons or_self or_false false_or
attribute [local go_sem] ag22 ag3 ag43 ag5 ag50 ag9 bu41 bu72 bu80 by5 el22 el35 el39 of41_0 of41_1 of41_2 ro3_12 ro5_1 ro9_12 sz22 sz3 sz43 sz5 sz50 sz9 ze49 ze5 ze65

def T.num : T → Int
  | .mk _ n _ _ => n
def word (v : Int) : T := .mk 3 v ⟨#[]⟩ []
/-- The last step of a reduction. -/
def redF (k n : Int) (nm : ByteArray) : List T → T
  | [x, y] => if (k == 2 && n == 0 && isB nm && x.isW && y.isW) = true then word (opW nm x.num y.num) else .mk k n nm [x, y]
  | ys => .mk k n nm ys
mutual
def T.red : T → T
  | .mk k n nm args => redF k n nm (T.redL args)
def T.redL : List T → List T
  | [] => []
  | x :: xs => x.red :: T.redL xs
end
theorem T.redL_map (xs : List T) : T.redL xs = xs.map T.red := by
  induction xs with
  | nil => rfl
  | cons x xs ih => simp only [T.redL, List.map_cons, ih]
theorem T.isW_num {t : T} (h : t.isW = true) : 0 ≤ t.num ∧ t.num ≤ 3 := by
  obtain ⟨k, n, nm, args⟩ := t
  simp only [T.isW, Bool.and_eq_true, decide_eq_true_eq] at h
  simp only [T.num]
  omega
theorem redF_no {k n : Int} {nm : ByteArray} {ys : List T} (h : k ≠ 2 ∨ n ≠ 0 ∨ isB nm = false ∨ ys.length ≠ 2) : redF k n nm ys = .mk k n nm ys := by
  unfold redF
  split
  · rw [if_neg]
    intro hh
    simp only [Bool.and_eq_true, beq_iff_eq] at hh
    rcases h with h | h | h | h
    · exact h hh.1.1.1.1
    · exact h hh.1.1.1.2
    · rw [h] at hh; simp at hh
    · simp at h
  · rfl
theorem redF_not {k n : Int} {nm : ByteArray} {x y : T} (h : x.isW = false ∨ y.isW = false) : redF k n nm [x, y] = .mk k n nm [x, y] := by
  show (if _ then _ else _) = _
  rw [if_neg]
  intro hh
  simp only [Bool.and_eq_true] at hh
  rcases h with h | h
  · rw [h] at hh; simp at hh
  · rw [h] at hh; simp at hh
theorem redF_yes {nm : ByteArray} {x y : T} (h3 : isB nm = true) (h1 : x.isW = true) (h2 : y.isW = true) : redF 2 0 nm [x, y] = word (opW nm x.num y.num) := by
  show (if _ then _ else _) = _
  rw [if_pos]
  simp [h1, h2, h3]
theorem own_word {e : TypeId} (st : St) (v : Int) : Own e st (word v) [.int .i64 3, .int .i64 v, .string ⟨#[]⟩, .slice none 0 0] [] := .nil _ _ _

end Go.Proofs.YtkocgcdakdoeiaaDoor.AM


/- Terms drawn: spec.l3Draw. -/
namespace Go.Proofs.YtkocgcdakdoeiaaDoor.AM
open Go Go.Proofs
set_option linter.unusedVariables false
set_option linter.unusedSimpArgs false
set_option maxRecDepth 100000
attribute [local go_sem] List.map_cons List.map_nil List.all_cons List.all_nil Bool.and_self Option.map_some List.getElem?_toArray Option.bind_some gye_b gye_t gsk_b gsk_t gb1 gb2 gb3 gb4 bne_self_eq_false beq_self_eq_true w_guard w_nil stepV_some step_some step_some' w_move w_assign w_pick w_binOp w_unOp w_load w_fieldAddr w_indexAddr w_len w_max w_index ev_max max_int ev_index w_box w_alloc w_store w_field w_extract w_nilCheck w_convert w_buildSlice w_build ev_buildL fillL_nil fillL_cons bs0 bs1 ev_conv ev_bin ev_un ev_pick ev_load ev_fieldAddr ev_indexAddr ev_len ev_field ev_extract ev_nilCheck fr_tmp fr_int fr_bool fr_str fr_nil fr_func put_some put_none bin_lss bin_leq bin_gtr bin_geq bin_eql bin_neq bin_add bin_sub bin_mul bin_seql bin_sneq un_not pick_ ext_ loadA_p cellAt_l cellAt_h okPtr_l okPtr_h fadA_p allocA_l storeA_l cells_agg cells_int cells_str cells_sl cells_bool flat_i flat_s flat_b flat_sl flat_nil loc_agg loc_int loc_str loc_sl loc_bool loc_fn loc_ptr okv_agg okv_int okv_str okv_sl okv_bool cellsFrom splice upd_eval argEnv_zero argEnv_succ ne_eq Nat.add_one_ne_zero not_false_eq_true List.not_mem_nil and_self decide_true List.getElem?_cons_zero List.getElem?_cons_succ List.size_toArray List.length_cons List.length_nil List.take_succ_cons List.take_zero List.drop_succ_cons List.drop_zero List.cons_append List.nil_append List.drop_nil Bool.not_true Bool.not_false Bool.false_eq_true Nat.zero_add Nat.add_zero wrap_in List.toList_toArray List.mem_cons or_self or_false false_or
attribute [local go_sem] ag22 ag3 ag43 ag5 ag50 ag9 bu41 bu72 bu80 by5 el22 el35 el39 of41_0 of41_1 of41_2 ro3_12 ro5_1 ro9_12 sz22 sz3 sz43 sz5 sz50 sz9 ze49 ze5 ze65
-- AUTO

theorem Drawn.ext2 {q : Nat} {xs : List Byt} {a b c : St} (h : Drawn q xs a b) (hx : Ext b c) : Drawn q xs a c := ⟨h.cur.ext hx, h.away.same (Away.of_ext hx)⟩
theorem Cur.lt {st : St} {q : Nat} {xs : List Byt} (h : Cur st q xs) : q < st.length := by obtain ⟨_, _, _, h, _⟩ := h; exact (List.getElem?_eq_some_iff.1 h).1
theorem Fresh.one {n k : Nat} (h : n ≤ k) : Fresh n [k] := ⟨by simp, fun i hi => by cases List.mem_singleton.1 hi; exact h⟩
theorem Fresh.cons {n k : Nat} {L : List Nat} (h : Fresh n L) (hlt : ∀ i ∈ L, i < k) (hk : n ≤ k) : Fresh n (k :: L) := ⟨List.nodup_cons.2 ⟨fun hm => by have := hlt k hm; omega, h.1⟩, fun i hi => by
  rcases List.mem_cons.1 hi with rfl | hi
  · exact hk
  · exact h.2 i hi⟩
theorem Fresh.app {n m : Nat} {L K : List Nat} (h : Fresh n L) (g : Fresh m K) (hlt : ∀ i ∈ L, i < m) (hn : n ≤ m) : Fresh n (L ++ K) := ⟨List.nodup_append.2 ⟨h.1, g.1, fun a ha b hb e => by
  subst e
  have h1 := hlt a ha
  have h2 := g.2 a hb
  omega⟩, fun i hi => by
  rcases List.mem_append.1 hi with hi | hi
  · exact h.2 i hi
  · have := g.2 i hi; omega⟩
theorem plain_var (nm : ByteArray) : Plain (.mk 1 0 nm []) := .mk _ _ _ _ (fun _ => ⟨rfl, rfl⟩) (fun a ha => by cases ha)
theorem plain_word (n : Int) (nm : ByteArray) : Plain (.mk 3 n nm []) := .mk _ _ _ _ (fun h => by cases h) (fun a ha => by cases ha)
theorem plain_app (n : Int) (nm : ByteArray) (args : List T) (h : ∀ a ∈ args, Plain a) : Plain (.mk 2 n nm args) := .mk _ _ _ _ (fun h => by cases h) h

def DrawP (d : Nat) (t : T) : Prop := Plain t ∧ t.wt + 3 ≤ 4 * 2 ^ d
theorem leaf_ok {d : Nat} {k n : Int} {nm : ByteArray} (hn : nm.size ≤ 1) (h : Plain (.mk k n nm [])) : DrawP d (.mk k n nm []) := ⟨h, by
  have : 1 ≤ 2 ^ d := Nat.one_le_two_pow
  simp only [T.wt, T.wtL, List.length_nil]; omega⟩
theorem size_of_mem {w : ByteArray} {cs : List Value} (h : Value.string w ∈ cs) (hs : cs.all (fun v => match v with | .string s => decide (s.size ≤ 1) | _ => false) = true) : w.size ≤ 1 := by
  have := List.all_eq_true.1 hs _ h
  simpa using this

end Go.Proofs.YtkocgcdakdoeiaaDoor.AM


/- Terms drawn, turned a little: spec.l3Bent. -/
namespace Go.Proofs.YtkocgcdakdoeiaaDoor.AM
open Go Go.Proofs
set_option linter.unusedVariables false
set_option linter.unusedSimpArgs false
set_option maxRecDepth 100000
attribute [local go_sem] List.map_cons List.map_nil List.all_cons List.all_nil Bool.and_self Option.map_some List.getElem?_toArray Option.bind_some gye_b gye_t gsk_b gsk_t gb1 gb2 gb3 gb4 bne_self_eq_false beq_self_eq_true w_guard w_nil stepV_some step_some step_some' w_move w_assign w_pick w_binOp w_unOp w_load w_fieldAddr w_indexAddr w_len w_max w_index ev_max max_int ev_index w_box w_alloc w_store w_field w_extract w_nilCheck w_convert w_buildSlice w_build ev_buildL fillL_nil fillL_cons bs0 bs1 ev_conv ev_bin ev_un ev_pick ev_load ev_fieldAddr ev_indexAddr ev_len ev_field ev_extract ev_nilCheck fr_tmp fr_int fr_bool fr_str fr_nil fr_func put_some put_none bin_lss bin_leq bin_gtr bin_geq bin_eql bin_neq bin_add bin_sub bin_mul bin_seql bin_sneq un_not pick_ ext_ loadA_p cellAt_l cellAt_h okPtr_l okPtr_h fadA_p allocA_l storeA_l cells_agg cells_int cells_str cells_sl cells_bool flat_i flat_s flat_b flat_sl flat_nil loc_agg loc_int loc_str loc_sl loc_bool loc_fn loc_ptr okv_agg okv_int okv_str okv_sl okv_bool cellsFrom splice upd_eval argEnv_zero argEnv_succ ne_eq Nat.add_one_ne_zero not_false_eq_true List.not_mem_nil and_self decide_true List.getElem?_cons_zero List.getElem?_cons_succ List.size_toArray List.length_cons List.length_nil List.take_succ_cons List.take_zero List.drop_succ_cons List.drop_zero List.cons_append List.nil_append List.drop_nil Bool.not_true Bool.not_false Bool.false_eq_true Nat.zero_add Nat.add_zero wrap_in List.toList_toArray List.mem_cons or_self or_false false_or
attribute [local go_sem] ag22 ag3 ag43 ag5 ag50 ag9 bu41 bu72 bu80 by5 el22 el35 el39 of41_0 of41_1 of41_2 ro3_12 ro5_1 ro9_12 sz22 sz3 sz43 sz5 sz50 sz9 ze49 ze5 ze65
-- AUTO

def BentP (t : T) : Prop := PlainB t ∧ t.wt ≤ 100
theorem Plain.args {k n : Int} {nm : ByteArray} {args : List T} (h : Plain (.mk k n nm args)) : ∀ a ∈ args, Plain a := by cases h; assumption
theorem bent_of {t : T} (h : DrawP 4 t) : BentP t := ⟨h.1.b, by have := h.2; omega⟩
theorem drawP_mono {d e : Nat} (hde : d ≤ e) {t : T} (h : DrawP d t) : DrawP e t := ⟨h.1, by
  have h1 := h.2
  have h2 : 2 ^ d ≤ 2 ^ e := Nat.pow_le_pow_right (by omega) hde
  omega⟩
theorem row_low {st st' : St} {xs : List Byt} {s : Value} {q : Nat} (h : RowY st xs s) (ha : ∀ i, i < q → st'[i]? = st[i]?) (hn : xs = [] ∨ ∃ b, topId s = some b ∧ b < q) : RowY st' xs s := by
  rcases h with h | ⟨i, o, c, rfl, h⟩
  · exact .inl h
  · refine .inr ⟨i, o, c, rfl, fun j x hx => ?_⟩
    obtain ⟨cs, h1, h2, h3⟩ := h j x hx
    refine ⟨cs, h1, h2, fun k v hv => ?_⟩
    have h4 := h3 k v hv
    rcases hn with rfl | ⟨b, hb, hlt⟩
    · simp at hx
    simp only [topId, Option.some.injEq] at hb
    subst hb
    unfold cell at h4 ⊢
    rw [ha i hlt]; exact h4
theorem Drawn.low {q n0 : Nat} {xs : List Byt} {a b c : St} (h : Drawn q xs a b) (hn : n0 = a.length) (hq : q < n0) (hc : ∀ i, i < n0 → c[i]? = b[i]?) (hl : b.length ≤ c.length) : Drawn q xs a c := by
  subst hn
  obtain ⟨sb, i, hh, h1, h2, h3, h4⟩ := h.cur
  exact ⟨⟨sb, i, hh, by rw [hc q hq]; exact h1, row_low h2 (fun i hi => hc i (by omega)) h3, h3, h4⟩, Nat.le_trans h.away.1 hl, fun i hi hne => by rw [hc i hi]; exact h.away.2 i hi hne⟩
theorem Own.args_slice {e : TypeId} {st : St} {k n : Int} {nm : ByteArray} {args : List T} {s : Value} {L : List Nat} (h : Own e st (.mk k n nm args) [.int .i64 k, .int .i64 n, .string nm, s] L) : SliceO (Own e st) e st args s L := by
  obtain ⟨s', h1, h2⟩ := h.open
  cases h1
  exact h2
def isIntB : Value → Bool
  | .int .i64 _ => true
  | _ => false
def intB : Value → Int
  | .int .i64 n => n
  | _ => 0
theorem ints_map {cs : List Value} (h : cs.all isIntB = true) : cs = (cs.map intB).map (Value.int .i64) := by
  rw [List.map_map]
  refine ((List.map_congr_left fun v hv => ?_).trans (List.map_id cs)).symm
  have := List.all_eq_true.1 h v hv
  unfold isIntB at this
  split at this
  · rfl
  · cases this
theorem row_lastI (st : St) (ns : List Int) (t : TypeId) (n : Nat) : Rw (st ++ [⟨ns.map (Value.int .i64), t, 0⟩]) ns (.slice (some ⟨st.length, 0, none⟩) ns.length n) := .inr ⟨st.length, 0, n, rfl, fun j x hx => ⟨[.int .i64 x], rfl, rfl, fun k v hv => by
  have hk : k = 0 := by have := (List.getElem?_eq_some_iff.1 hv).1; simp at this; omega
  subst hk
  obtain ⟨hj1, hj2⟩ := List.getElem?_eq_some_iff.1 hx
  have : v = .int .i64 x := by simpa using hv.symm
  subst this
  simp [cell, hx, show Kind.sz Int = 1 from rfl]⟩⟩
theorem l1PickInt_lit (q : Nat) (xs : List Byt) (sa : St) (cs : List Value) (t : TypeId) (n : Nat) (hq : Cur sa q xs) (hs : cs.all isIntB = true) (h0 : 0 < cs.length) (h1 : cs.length ≤ 256) :
    CallS Tryd.prog 20 [.pointer (some ⟨q, 0, none⟩), .slice (some ⟨sa.length, 0, none⟩) cs.length n] (sa ++ [⟨cs, t, 0⟩]) fun r st2 => (∃ w, r = .int .i64 w ∧ .int .i64 w ∈ cs) ∧ Drawn q xs (sa ++ [⟨cs, t, 0⟩]) st2 ∧ st2.length = sa.length + 1 := by
  have hcs := ints_map hs
  have hr := row_lastI sa (cs.map intB) t n
  rw [← hcs, List.length_map] at hr
  refine (l1PickInt_ok q xs _ (cs.map intB) _ (by simpa using h0) (by simpa using h1) (hq.ext (Ext.app _ _)) hr (fun e => by simp only [topId, Option.some.injEq] at e; have := hq.lt; omega)).mono fun r st2 ⟨⟨w, hw, hm⟩, hd, hl⟩ => ⟨⟨w, hw, ?_⟩, hd, by simpa using hl⟩
  rw [hcs]
  exact List.mem_map.2 ⟨w, hm, rfl⟩
theorem T.wtL_snoc (xs : List T) (x : T) : T.wtL (xs ++ [x]) = T.wtL xs + x.wt := by
  induction xs with
  | nil => simp [T.wtL]
  | cons y ys ih => simp only [List.cons_append, T.wtL, ih]; omega
end Go.Proofs.YtkocgcdakdoeiaaDoor.AM


/- Numbers drawn: l1Below beyond 256, l1Whole, DrawFormatInt, DrawParseNumber; the law FnNumbers. -/
namespace Go.Proofs.YtkocgcdakdoeiaaDoor.AM
open Go Go.Proofs Go.Lib
set_option linter.unusedVariables false
set_option linter.unusedSimpArgs false
set_option maxRecDepth 100000
attribute [local go_sem] List.map_cons List.map_nil List.all_cons List.all_nil Bool.and_self Option.map_some List.getElem?_toArray Option.bind_some gye_b gye_t gsk_b gsk_t gb1 gb2 gb3 gb4 bne_self_eq_false beq_self_eq_true w_guard w_nil stepV_some step_some step_some' w_move w_assign w_pick w_binOp w_unOp w_load w_fieldAddr w_indexAddr w_len w_max w_index ev_max max_int ev_index w_box w_alloc w_store w_field w_extract w_nilCheck w_convert w_buildSlice w_build ev_buildL fillL_nil fillL_cons bs0 bs1 ev_conv ev_bin ev_un ev_pick ev_load ev_fieldAddr ev_indexAddr ev_len ev_field ev_extract ev_nilCheck fr_tmp fr_int fr_bool fr_str fr_nil fr_func put_some put_none bin_lss bin_leq bin_gtr bin_geq bin_eql bin_neq bin_add bin_sub bin_mul bin_seql bin_sneq un_not pick_ ext_ loadA_p cellAt_l cellAt_h okPtr_l okPtr_h fadA_p allocA_l storeA_l cells_agg cells_int cells_str cells_sl cells_bool flat_i flat_s flat_b flat_sl flat_nil loc_agg loc_int loc_str loc_sl loc_bool loc_fn loc_ptr okv_agg okv_int okv_str okv_sl okv_bool cellsFrom splice upd_eval argEnv_zero argEnv_succ ne_eq Nat.add_one_ne_zero not_false_eq_true List.not_mem_nil and_self decide_true List.getElem?_cons_zero List.getElem?_cons_succ List.size_toArray List.length_cons List.length_nil List.take_succ_cons List.take_zero List.drop_succ_cons List.drop_zero List.cons_append List.nil_append List.drop_nil Bool.not_true Bool.not_false Bool.false_eq_true Nat.zero_add Nat.add_zero wrap_in List.toList_toArray List.mem_cons or_self or_false false_or
attribute [local go_sem] ag22 ag3 ag43 ag5 ag50 ag9 bu41 bu72 bu80 by5 el22 el35 el39 of41_0 of41_1 of41_2 ro3_12 ro5_1 ro9_12 sz22 sz3 sz43 sz5 sz50 sz9 ze49 ze5 ze65
-- AUTO

theorem l1BelowB_ok (q : Nat) (xs : List Byt) (st : St) (n : Int) (hn0 : 256 < n) (hn1 : n ≤ 1000000000) (hq : Cur st q xs) :
    CallS Tryd.prog 19 [.pointer (some ⟨q, 0, none⟩), .int .i64 n] st fun r st2 => (∃ x : Int, r = .int .i64 x ∧ 0 ≤ x ∧ x < n) ∧ Drawn q xs st st2 ∧ st2.length = st.length := by
  refine CallS_of_W [] 37 Tryd.func19 rfl rfl rfl rfl (by simp) ?_
  have c1 : decide (n ≤ 0) = false := by simp; omega
  have c2 : decide (n ≤ 256) = false := by simp; omega
  have hrem : ∀ (t : TypeId) (x y : Operand) (a : Int), binE Tryd.prog .rem t x y (.int .i64 a) (.int .i64 n) = some (.int .i64 (a.tmod n)) := fun t x y a => bin_rem (by omega)
  repeat (first | (refine W_reg rfl fun G K hG hK => ?_; simp (disch := omega) only [go_sem, ↓reduceIte, Nat.reduceEqDiff, Nat.reduceAdd, Nat.reduceLeDiff, hG, c1, c2]; refine hK _ _ ?_; clear hK K hG G) | (refine W_end rfl fun G K hG hK => ?_; simp (disch := omega) only [go_sem, ↓reduceIte, Nat.reduceEqDiff, Nat.reduceAdd, Nat.reduceLeDiff, hG, c1, c2]; refine hK _ _ ?_; clear hK K hG G; repeat (first | refine thenI ?_ | refine thenE ?_ | refine thenR ?_ | refine inBI ?_ | refine inBR ?_ | refine inBS ?_ | refine inBN (by decide) ?_)) | refine W_seqS ?_ | refine W_seqC ?_ | refine W_seqB ?_ | refine W_block ?_ | (refine W_skip ?_; repeat (first | refine thenI ?_ | refine thenE ?_ | refine thenR ?_ | refine inBI ?_ | refine inBR ?_ | refine inBS ?_ | refine inBN (by decide) ?_)) | (refine W_condT ?hc ?_; (case hc => (simp (disch := omega) only [go_sem, ↓reduceIte, Nat.reduceEqDiff, Nat.reduceAdd, Nat.reduceLeDiff, c1, c2]; done))) | (refine W_condF ?hc ?_; (case hc => (simp (disch := omega) only [go_sem, ↓reduceIte, Nat.reduceEqDiff, Nat.reduceAdd, Nat.reduceLeDiff, c1, c2]; done))))
  (repeat (first | refine W_seqS ?_ | refine W_seqC ?_ | refine W_seqB ?_ | refine W_block ?_)); refine W_reg rfl fun G K hG hK => ?_; simp (disch := omega) only [go_sem, ↓reduceIte, Nat.reduceEqDiff, Nat.reduceAdd, Nat.reduceLeDiff, hG]
  refine w_call (l1Byte_ok q xs st hq) (by simp (disch := omega) only [go_sem, ↓reduceIte, Nat.reduceEqDiff]) ?hl ?_
  case hl => first | rfl | (simp only [go_sem, List.all_cons, List.all_nil, Bool.not_false, Bool.and_self]; done)
  rintro r_ sa ⟨⟨x, rfl, hx0, hx1⟩, hd, hl⟩; refine ⟨fun e => (by cases e), ?_⟩
  simp (disch := omega) only [go_sem, ↓reduceIte, Nat.reduceEqDiff, Nat.reduceAdd, Nat.reduceLeDiff, hG]; refine hK _ _ ?_; clear hK K hG G; repeat (first | refine thenI ?_ | refine thenE ?_ | refine thenR ?_ | refine inBI ?_ | refine inBR ?_ | refine inBS ?_ | refine inBN (by decide) ?_)
  (repeat (first | refine W_seqS ?_ | refine W_seqC ?_ | refine W_seqB ?_ | refine W_block ?_)); refine W_reg rfl fun G K hG hK => ?_; simp (disch := omega) only [go_sem, ↓reduceIte, Nat.reduceEqDiff, Nat.reduceAdd, Nat.reduceLeDiff, hG]
  refine w_call (l1Byte_ok q xs sa hd.cur) (by simp (disch := omega) only [go_sem, ↓reduceIte, Nat.reduceEqDiff]) ?hl ?_
  case hl => first | rfl | (simp only [go_sem, List.all_cons, List.all_nil, Bool.not_false, Bool.and_self]; done)
  rintro r_ sb ⟨⟨y, rfl, hy0, hy1⟩, hd2, hl2⟩; refine ⟨fun e => (by cases e), ?_⟩
  simp (disch := omega) only [go_sem, ↓reduceIte, Nat.reduceEqDiff, Nat.reduceAdd, Nat.reduceLeDiff, hG]; refine hK _ _ ?_; clear hK K hG G; repeat (first | refine thenI ?_ | refine thenE ?_ | refine thenR ?_ | refine inBI ?_ | refine inBR ?_ | refine inBS ?_ | refine inBN (by decide) ?_)
  (repeat (first | refine W_seqS ?_ | refine W_seqC ?_ | refine W_seqB ?_ | refine W_block ?_)); refine W_reg rfl fun G K hG hK => ?_; simp (disch := omega) only [go_sem, ↓reduceIte, Nat.reduceEqDiff, Nat.reduceAdd, Nat.reduceLeDiff, hG]
  refine w_call (l1Byte_ok q xs sb hd2.cur) (by simp (disch := omega) only [go_sem, ↓reduceIte, Nat.reduceEqDiff]) ?hl ?_
  case hl => first | rfl | (simp only [go_sem, List.all_cons, List.all_nil, Bool.not_false, Bool.and_self]; done)
  rintro r_ sc ⟨⟨z, rfl, hz0, hz1⟩, hd3, hl3⟩; refine ⟨fun e => (by cases e), ?_⟩
  simp (disch := omega) only [go_sem, ↓reduceIte, Nat.reduceEqDiff, Nat.reduceAdd, Nat.reduceLeDiff, hG]; refine hK _ _ ?_; clear hK K hG G; repeat (first | refine thenI ?_ | refine thenE ?_ | refine thenR ?_ | refine inBI ?_ | refine inBR ?_ | refine inBS ?_ | refine inBN (by decide) ?_)
  (repeat (first | refine W_seqS ?_ | refine W_seqC ?_ | refine W_seqB ?_ | refine W_block ?_)); refine W_reg rfl fun G K hG hK => ?_; simp (disch := omega) only [go_sem, ↓reduceIte, Nat.reduceEqDiff, Nat.reduceAdd, Nat.reduceLeDiff, hG]
  refine w_call (l1Byte_ok q xs sc hd3.cur) (by simp (disch := omega) only [go_sem, ↓reduceIte, Nat.reduceEqDiff]) ?hl ?_
  case hl => first | rfl | (simp only [go_sem, List.all_cons, List.all_nil, Bool.not_false, Bool.and_self]; done)
  rintro r_ sd ⟨⟨w, rfl, hw0, hw1⟩, hd4, hl4⟩; refine ⟨fun e => (by cases e), ?_⟩
  simp (disch := omega) only [go_sem, ↓reduceIte, Nat.reduceEqDiff, Nat.reduceAdd, Nat.reduceLeDiff, hG]; refine hK _ _ ?_; clear hK K hG G; repeat (first | refine thenI ?_ | refine thenE ?_ | refine thenR ?_ | refine inBI ?_ | refine inBR ?_ | refine inBS ?_ | refine inBN (by decide) ?_)
  repeat (first | (refine W_reg rfl fun G K hG hK => ?_; simp (disch := omega) only [go_sem, ↓reduceIte, Nat.reduceEqDiff, Nat.reduceAdd, Nat.reduceLeDiff, hG, hrem]; refine hK _ _ ?_; clear hK K hG G) | (refine W_end rfl fun G K hG hK => ?_; simp (disch := omega) only [go_sem, ↓reduceIte, Nat.reduceEqDiff, Nat.reduceAdd, Nat.reduceLeDiff, hG, hrem]; refine hK _ _ ?_; clear hK K hG G; repeat (first | refine thenI ?_ | refine thenE ?_ | refine thenR ?_ | refine inBI ?_ | refine inBR ?_ | refine inBS ?_ | refine inBN (by decide) ?_)) | refine W_seqS ?_ | refine W_seqC ?_ | refine W_seqB ?_ | refine W_block ?_ | (refine W_skip ?_; repeat (first | refine thenI ?_ | refine thenE ?_ | refine thenR ?_ | refine inBI ?_ | refine inBR ?_ | refine inBS ?_ | refine inBN (by decide) ?_)) | (refine W_condT ?hc ?_; (case hc => (simp (disch := omega) only [go_sem, ↓reduceIte, Nat.reduceEqDiff, Nat.reduceAdd, Nat.reduceLeDiff, hrem]; done))) | (refine W_condF ?hc ?_; (case hc => (simp (disch := omega) only [go_sem, ↓reduceIte, Nat.reduceEqDiff, Nat.reduceAdd, Nat.reduceLeDiff, hrem]; done))))
  refine W_ret ?_; try (repeat (first | refine thenI ?_ | refine thenE ?_ | refine thenR ?_ | refine inBI ?_ | refine inBR ?_ | refine inBS ?_ | refine inBN (by decide) ?_))
  refine fin1 (.inl rfl) (by (simp (disch := omega) only [go_sem, ↓reduceIte, Nat.reduceEqDiff, Nat.reduceAdd, Nat.reduceLeDiff]); try rfl) rfl ⟨⟨_, rfl, Int.tmod_nonneg _ (by omega), Int.tmod_lt_of_pos _ (by omega)⟩, ((hd.trans hd2).trans hd3).trans hd4, by omega⟩
theorem i64_lit {cs : List Value} {w : Int} (h : Value.int .i64 w ∈ cs) (hs : cs.all (fun v => match v with | .int .i64 n => decide (-9223372036854775808 ≤ n) && decide (n ≤ 9223372036854775807) | _ => false) = true) : -9223372036854775808 ≤ w ∧ w ≤ 9223372036854775807 := by
  have := List.all_eq_true.1 hs _ h
  simpa using this
theorem l1Whole_ok (q : Nat) (xs : List Byt) (st : St) (hq : Cur st q xs) :
    CallS Tryd.prog 12 [.pointer (some ⟨q, 0, none⟩)] st fun r st2 => (∃ x : Int, r = .int .i64 x ∧ -9223372036854775808 ≤ x ∧ x ≤ 9223372036854775807) ∧ Drawn q xs st st2 := by
  refine CallS_of_W [] 17 Tryd.func12 rfl rfl rfl rfl (by simp) ?_
  repeat (first | (refine W_reg rfl fun G K hG hK => ?_; simp (disch := omega) only [go_sem, ↓reduceIte, Nat.reduceEqDiff, Nat.reduceAdd, Nat.reduceLeDiff, hG]; refine hK _ _ ?_; clear hK K hG G) | (refine W_end rfl fun G K hG hK => ?_; simp (disch := omega) only [go_sem, ↓reduceIte, Nat.reduceEqDiff, Nat.reduceAdd, Nat.reduceLeDiff, hG]; refine hK _ _ ?_; clear hK K hG G; repeat (first | refine thenI ?_ | refine thenE ?_ | refine thenR ?_ | refine inBI ?_ | refine inBR ?_ | refine inBS ?_ | refine inBN (by decide) ?_)) | refine W_seqS ?_ | refine W_seqC ?_ | refine W_seqB ?_ | refine W_block ?_ | (refine W_skip ?_; repeat (first | refine thenI ?_ | refine thenE ?_ | refine thenR ?_ | refine inBI ?_ | refine inBR ?_ | refine inBS ?_ | refine inBN (by decide) ?_)) | (refine W_condT ?hc ?_; (case hc => (simp (disch := omega) only [go_sem, ↓reduceIte, Nat.reduceEqDiff, Nat.reduceAdd, Nat.reduceLeDiff]; done))) | (refine W_condF ?hc ?_; (case hc => (simp (disch := omega) only [go_sem, ↓reduceIte, Nat.reduceEqDiff, Nat.reduceAdd, Nat.reduceLeDiff]; done))))
  (repeat (first | refine W_seqS ?_ | refine W_seqC ?_ | refine W_seqB ?_ | refine W_block ?_)); refine W_reg rfl fun G K hG hK => ?_; simp (disch := omega) only [go_sem, ↓reduceIte, Nat.reduceEqDiff, Nat.reduceAdd, Nat.reduceLeDiff, hG]
  refine w_call (l1Below_ok q xs st 3 (by omega) (by omega) hq) (by simp (disch := omega) only [go_sem, ↓reduceIte, Nat.reduceEqDiff]) ?hl ?_
  case hl => first | rfl | (simp only [go_sem, List.all_cons, List.all_nil, Bool.not_false, Bool.and_self]; done)
  rintro r_ sa ⟨⟨x, rfl, hx0, hx1⟩, hd, hl⟩; refine ⟨fun e => (by cases e), ?_⟩
  simp (disch := omega) only [go_sem, ↓reduceIte, Nat.reduceEqDiff, Nat.reduceAdd, Nat.reduceLeDiff, hG]; refine hK _ _ ?_; clear hK K hG G; repeat (first | refine thenI ?_ | refine thenE ?_ | refine thenR ?_ | refine inBI ?_ | refine inBR ?_ | refine inBS ?_ | refine inBN (by decide) ?_)
  have v10 : ((1 : Int) == 0) = false := by decide
  have v20 : ((2 : Int) == 0) = false := by decide
  have v21 : ((2 : Int) == 1) = false := by decide
  have hx : x = 0 ∨ x = 1 ∨ x = 2 := by omega
  rcases hx with rfl | rfl | rfl
  · repeat (first | (refine W_reg rfl fun G K hG hK => ?_; simp (disch := omega) only [go_sem, ↓reduceIte, Nat.reduceEqDiff, Nat.reduceAdd, Nat.reduceLeDiff, hG, v10, v20, v21]; refine hK _ _ ?_; clear hK K hG G) | (refine W_end rfl fun G K hG hK => ?_; simp (disch := omega) only [go_sem, ↓reduceIte, Nat.reduceEqDiff, Nat.reduceAdd, Nat.reduceLeDiff, hG, v10, v20, v21]; refine hK _ _ ?_; clear hK K hG G; repeat (first | refine thenI ?_ | refine thenE ?_ | refine thenR ?_ | refine inBI ?_ | refine inBR ?_ | refine inBS ?_ | refine inBN (by decide) ?_)) | refine W_seqS ?_ | refine W_seqC ?_ | refine W_seqB ?_ | refine W_block ?_ | (refine W_skip ?_; repeat (first | refine thenI ?_ | refine thenE ?_ | refine thenR ?_ | refine inBI ?_ | refine inBR ?_ | refine inBS ?_ | refine inBN (by decide) ?_)) | (refine W_condT ?hc ?_; (case hc => (simp (disch := omega) only [go_sem, ↓reduceIte, Nat.reduceEqDiff, Nat.reduceAdd, Nat.reduceLeDiff, v10, v20, v21]; done))) | (refine W_condF ?hc ?_; (case hc => (simp (disch := omega) only [go_sem, ↓reduceIte, Nat.reduceEqDiff, Nat.reduceAdd, Nat.reduceLeDiff, v10, v20, v21]; done))))
    (repeat (first | refine W_seqS ?_ | refine W_seqC ?_ | refine W_seqB ?_ | refine W_block ?_)); refine W_reg rfl fun G K hG hK => ?_; simp (disch := omega) only [go_sem, ↓reduceIte, Nat.reduceEqDiff, Nat.reduceAdd, Nat.reduceLeDiff, hG, v10, v20, v21, bsL, fillK_cons, fillK_nil, Nat.reduceMul]
    refine w_call (l1PickInt_lit q xs sa _ _ 12 hd.cur rfl (by simp) (by simp)) (by simp (disch := omega) only [go_sem, ↓reduceIte, Nat.reduceEqDiff, v10, v20, v21]) ?hl ?_
    case hl => first | rfl | (simp only [go_sem, List.all_cons, List.all_nil, Bool.not_false, Bool.and_self, v10, v20, v21]; done)
    rintro r_ sb ⟨⟨w, rfl, hw⟩, hd2, hl2⟩; refine ⟨fun e => (by cases e), ?_⟩
    simp (disch := omega) only [go_sem, ↓reduceIte, Nat.reduceEqDiff, Nat.reduceAdd, Nat.reduceLeDiff, hG, v10, v20, v21]; refine hK _ _ ?_; clear hK K hG G; repeat (first | refine thenI ?_ | refine thenE ?_ | refine thenR ?_ | refine inBI ?_ | refine inBR ?_ | refine inBS ?_ | refine inBN (by decide) ?_)
    have hb := i64_lit hw (by decide)
    refine W_ret ?_; try (repeat (first | refine thenI ?_ | refine thenE ?_ | refine thenR ?_ | refine inBI ?_ | refine inBR ?_ | refine inBS ?_ | refine inBN (by decide) ?_))
    refine fin1 (.inl rfl) (by (simp (disch := omega) only [go_sem, ↓reduceIte, Nat.reduceEqDiff, Nat.reduceAdd, Nat.reduceLeDiff, v10, v20, v21]); try rfl) rfl ⟨⟨w, rfl, hb.1, hb.2⟩, hd.trans (.pre (Ext.app _ _) hd2)⟩
  · repeat (first | (refine W_reg rfl fun G K hG hK => ?_; simp (disch := omega) only [go_sem, ↓reduceIte, Nat.reduceEqDiff, Nat.reduceAdd, Nat.reduceLeDiff, hG, v10, v20, v21]; refine hK _ _ ?_; clear hK K hG G) | (refine W_end rfl fun G K hG hK => ?_; simp (disch := omega) only [go_sem, ↓reduceIte, Nat.reduceEqDiff, Nat.reduceAdd, Nat.reduceLeDiff, hG, v10, v20, v21]; refine hK _ _ ?_; clear hK K hG G; repeat (first | refine thenI ?_ | refine thenE ?_ | refine thenR ?_ | refine inBI ?_ | refine inBR ?_ | refine inBS ?_ | refine inBN (by decide) ?_)) | refine W_seqS ?_ | refine W_seqC ?_ | refine W_seqB ?_ | refine W_block ?_ | (refine W_skip ?_; repeat (first | refine thenI ?_ | refine thenE ?_ | refine thenR ?_ | refine inBI ?_ | refine inBR ?_ | refine inBS ?_ | refine inBN (by decide) ?_)) | (refine W_condT ?hc ?_; (case hc => (simp (disch := omega) only [go_sem, ↓reduceIte, Nat.reduceEqDiff, Nat.reduceAdd, Nat.reduceLeDiff, v10, v20, v21]; done))) | (refine W_condF ?hc ?_; (case hc => (simp (disch := omega) only [go_sem, ↓reduceIte, Nat.reduceEqDiff, Nat.reduceAdd, Nat.reduceLeDiff, v10, v20, v21]; done))))
    (repeat (first | refine W_seqS ?_ | refine W_seqC ?_ | refine W_seqB ?_ | refine W_block ?_)); refine W_reg rfl fun G K hG hK => ?_; simp (disch := omega) only [go_sem, ↓reduceIte, Nat.reduceEqDiff, Nat.reduceAdd, Nat.reduceLeDiff, hG, v10, v20, v21]
    refine w_call (l1BelowB_ok q xs sa 1000000 (by omega) (by omega) hd.cur) (by simp (disch := omega) only [go_sem, ↓reduceIte, Nat.reduceEqDiff, v10, v20, v21]) ?hl ?_
    case hl => first | rfl | (simp only [go_sem, List.all_cons, List.all_nil, Bool.not_false, Bool.and_self, v10, v20, v21]; done)
    rintro r_ sb ⟨⟨w, rfl, hw0, hw1⟩, hd2, hl2⟩; refine ⟨fun e => (by cases e), ?_⟩
    simp (disch := omega) only [go_sem, ↓reduceIte, Nat.reduceEqDiff, Nat.reduceAdd, Nat.reduceLeDiff, hG, v10, v20, v21]; refine hK _ _ ?_; clear hK K hG G; repeat (first | refine thenI ?_ | refine thenE ?_ | refine thenR ?_ | refine inBI ?_ | refine inBR ?_ | refine inBS ?_ | refine inBN (by decide) ?_)
    refine W_ret ?_; try (repeat (first | refine thenI ?_ | refine thenE ?_ | refine thenR ?_ | refine inBI ?_ | refine inBR ?_ | refine inBS ?_ | refine inBN (by decide) ?_))
    refine fin1 (.inl rfl) (by (simp (disch := omega) only [go_sem, ↓reduceIte, Nat.reduceEqDiff, Nat.reduceAdd, Nat.reduceLeDiff, v10, v20, v21]); try rfl) rfl ⟨⟨_, rfl, by omega, by omega⟩, hd.trans hd2⟩
  · repeat (first | (refine W_reg rfl fun G K hG hK => ?_; simp (disch := omega) only [go_sem, ↓reduceIte, Nat.reduceEqDiff, Nat.reduceAdd, Nat.reduceLeDiff, hG, v10, v20, v21]; refine hK _ _ ?_; clear hK K hG G) | (refine W_end rfl fun G K hG hK => ?_; simp (disch := omega) only [go_sem, ↓reduceIte, Nat.reduceEqDiff, Nat.reduceAdd, Nat.reduceLeDiff, hG, v10, v20, v21]; refine hK _ _ ?_; clear hK K hG G; repeat (first | refine thenI ?_ | refine thenE ?_ | refine thenR ?_ | refine inBI ?_ | refine inBR ?_ | refine inBS ?_ | refine inBN (by decide) ?_)) | refine W_seqS ?_ | refine W_seqC ?_ | refine W_seqB ?_ | refine W_block ?_ | (refine W_skip ?_; repeat (first | refine thenI ?_ | refine thenE ?_ | refine thenR ?_ | refine inBI ?_ | refine inBR ?_ | refine inBS ?_ | refine inBN (by decide) ?_)) | (refine W_condT ?hc ?_; (case hc => (simp (disch := omega) only [go_sem, ↓reduceIte, Nat.reduceEqDiff, Nat.reduceAdd, Nat.reduceLeDiff, v10, v20, v21]; done))) | (refine W_condF ?hc ?_; (case hc => (simp (disch := omega) only [go_sem, ↓reduceIte, Nat.reduceEqDiff, Nat.reduceAdd, Nat.reduceLeDiff, v10, v20, v21]; done))))
    (repeat (first | refine W_seqS ?_ | refine W_seqC ?_ | refine W_seqB ?_ | refine W_block ?_)); refine W_reg rfl fun G K hG hK => ?_; simp (disch := omega) only [go_sem, ↓reduceIte, Nat.reduceEqDiff, Nat.reduceAdd, Nat.reduceLeDiff, hG, v10, v20, v21]
    refine w_call (l1Below_ok q xs sa 20 (by omega) (by omega) hd.cur) (by simp (disch := omega) only [go_sem, ↓reduceIte, Nat.reduceEqDiff, v10, v20, v21]) ?hl ?_
    case hl => first | rfl | (simp only [go_sem, List.all_cons, List.all_nil, Bool.not_false, Bool.and_self, v10, v20, v21]; done)
    rintro r_ sb ⟨⟨w, rfl, hw0, hw1⟩, hd2, hl2⟩; refine ⟨fun e => (by cases e), ?_⟩
    simp (disch := omega) only [go_sem, ↓reduceIte, Nat.reduceEqDiff, Nat.reduceAdd, Nat.reduceLeDiff, hG, v10, v20, v21]; refine hK _ _ ?_; clear hK K hG G; repeat (first | refine thenI ?_ | refine thenE ?_ | refine thenR ?_ | refine inBI ?_ | refine inBR ?_ | refine inBS ?_ | refine inBN (by decide) ?_)
    refine W_ret ?_; try (repeat (first | refine thenI ?_ | refine thenE ?_ | refine thenR ?_ | refine inBI ?_ | refine inBR ?_ | refine inBS ?_ | refine inBN (by decide) ?_))
    refine fin1 (.inl rfl) (by (simp (disch := omega) only [go_sem, ↓reduceIte, Nat.reduceEqDiff, Nat.reduceAdd, Nat.reduceLeDiff, v10, v20, v21]); try rfl) rfl ⟨⟨_, rfl, by omega, by omega⟩, hd.trans hd2⟩
theorem drawInt_ok (bs : List Byt) (st : St) (s : Value) (hbig : bs.length ≤ 4611686018427387904) (hr : RowY st bs s) :
    CallS Tryd.prog 5 [s] st fun r st2 => Ext st st2 ∧ ∃ x : Int, r = .int .i64 x ∧ -9223372036854775808 ≤ x ∧ x ≤ 9223372036854775807 := by
  refine CallS_of_W [] 6 Tryd.func5 rfl rfl rfl rfl (by simp) ?_
  have q1 := hr.notLoc.1
  repeat (first | (refine W_reg rfl fun G K hG hK => ?_; simp (disch := omega) only [go_sem, ↓reduceIte, Nat.reduceEqDiff, Nat.reduceAdd, Nat.reduceLeDiff, hG, q1]; refine hK _ _ ?_; clear hK K hG G) | (refine W_end rfl fun G K hG hK => ?_; simp (disch := omega) only [go_sem, ↓reduceIte, Nat.reduceEqDiff, Nat.reduceAdd, Nat.reduceLeDiff, hG, q1]; refine hK _ _ ?_; clear hK K hG G; repeat (first | refine thenI ?_ | refine thenE ?_ | refine thenR ?_ | refine inBI ?_ | refine inBR ?_ | refine inBS ?_ | refine inBN (by decide) ?_)) | refine W_seqS ?_ | refine W_seqC ?_ | refine W_seqB ?_ | refine W_block ?_ | (refine W_skip ?_; repeat (first | refine thenI ?_ | refine thenE ?_ | refine thenR ?_ | refine inBI ?_ | refine inBR ?_ | refine inBS ?_ | refine inBN (by decide) ?_)) | (refine W_condT ?hc ?_; (case hc => (simp (disch := omega) only [go_sem, ↓reduceIte, Nat.reduceEqDiff, Nat.reduceAdd, Nat.reduceLeDiff, q1]; done))) | (refine W_condF ?hc ?_; (case hc => (simp (disch := omega) only [go_sem, ↓reduceIte, Nat.reduceEqDiff, Nat.reduceAdd, Nat.reduceLeDiff, q1]; done))))
  (repeat (first | refine W_seqS ?_ | refine W_seqC ?_ | refine W_seqB ?_ | refine W_block ?_)); refine W_reg rfl fun G K hG hK => ?_; simp (disch := omega) only [go_sem, ↓reduceIte, Nat.reduceEqDiff, Nat.reduceAdd, Nat.reduceLeDiff, hG, q1]
  refine w_call (l1New_ok bs st s hbig hr) (by simp (disch := omega) only [go_sem, ↓reduceIte, Nat.reduceEqDiff, q1]) ?hl ?_
  case hl => first | rfl | (simp only [go_sem, List.all_cons, List.all_nil, Bool.not_false, Bool.and_self, q1]; done)
  rintro r_ sa ⟨rfl, x1, hc⟩; refine ⟨fun e => (by cases e), ?_⟩
  simp (disch := omega) only [go_sem, ↓reduceIte, Nat.reduceEqDiff, Nat.reduceAdd, Nat.reduceLeDiff, q1]
  refine w_call (l1Whole_ok st.length bs sa hc) (by simp (disch := omega) only [go_sem, ↓reduceIte, Nat.reduceEqDiff, q1]) ?hl ?_
  case hl => first | rfl | (simp only [go_sem, List.all_cons, List.all_nil, Bool.not_false, Bool.and_self, q1]; done)
  rintro r_ sb ⟨⟨x, rfl, h0, h1⟩, hd⟩; refine ⟨fun e => (by cases e), ?_⟩
  simp (disch := omega) only [go_sem, ↓reduceIte, Nat.reduceEqDiff, Nat.reduceAdd, Nat.reduceLeDiff, hG, q1]; refine hK _ _ ?_; clear hK K hG G; repeat (first | refine thenI ?_ | refine thenE ?_ | refine thenR ?_ | refine inBI ?_ | refine inBR ?_ | refine inBS ?_ | refine inBN (by decide) ?_)
  refine W_ret ?_; try (repeat (first | refine thenI ?_ | refine thenE ?_ | refine thenR ?_ | refine inBI ?_ | refine inBR ?_ | refine inBS ?_ | refine inBN (by decide) ?_))
  refine fin1 (.inl rfl) (by (simp (disch := omega) only [go_sem, ↓reduceIte, Nat.reduceEqDiff, Nat.reduceAdd, Nat.reduceLeDiff, q1]); try rfl) rfl ⟨hd.away.ext_of x1 (.inr ⟨_, Nat.le_refl _, rfl⟩), x, rfl, h0, h1⟩
theorem size_lit {w : ByteArray} {cs : List Value} (h : Value.string w ∈ cs) (hs : cs.all (fun v => match v with | .string s => decide (s.size ≤ 30) | _ => false) = true) : w.size ≤ 30 := by
  have := List.all_eq_true.1 hs _ h
  simpa using this
theorem itoa_size {n : Int} (h0 : -9223372036854775808 ≤ n) (h1 : n ≤ 9223372036854775807) : (⟨(itoa n).toArray⟩ : ByteArray).size ≤ 30 := by
  have := Lib.itoa_length_le n h0 h1
  rw [size_mk]
  omega
theorem drawNum_ok (bs : List Byt) (st : St) (s : Value) (hbig : bs.length ≤ 4611686018427387904) (hr : RowY st bs s) :
    CallS Tryd.prog 9 [s] st fun r st2 => Ext st st2 ∧ ∃ w : ByteArray, r = .string w ∧ w.size ≤ 30 := by
  refine CallS_of_W [] 14 Tryd.func9 rfl rfl rfl rfl (by simp) ?_
  have q1 := hr.notLoc.1
  repeat (first | (refine W_reg rfl fun G K hG hK => ?_; simp (disch := omega) only [go_sem, ↓reduceIte, Nat.reduceEqDiff, Nat.reduceAdd, Nat.reduceLeDiff, hG, q1]; refine hK _ _ ?_; clear hK K hG G) | (refine W_end rfl fun G K hG hK => ?_; simp (disch := omega) only [go_sem, ↓reduceIte, Nat.reduceEqDiff, Nat.reduceAdd, Nat.reduceLeDiff, hG, q1]; refine hK _ _ ?_; clear hK K hG G; repeat (first | refine thenI ?_ | refine thenE ?_ | refine thenR ?_ | refine inBI ?_ | refine inBR ?_ | refine inBS ?_ | refine inBN (by decide) ?_)) | refine W_seqS ?_ | refine W_seqC ?_ | refine W_seqB ?_ | refine W_block ?_ | (refine W_skip ?_; repeat (first | refine thenI ?_ | refine thenE ?_ | refine thenR ?_ | refine inBI ?_ | refine inBR ?_ | refine inBS ?_ | refine inBN (by decide) ?_)) | (refine W_condT ?hc ?_; (case hc => (simp (disch := omega) only [go_sem, ↓reduceIte, Nat.reduceEqDiff, Nat.reduceAdd, Nat.reduceLeDiff, q1]; done))) | (refine W_condF ?hc ?_; (case hc => (simp (disch := omega) only [go_sem, ↓reduceIte, Nat.reduceEqDiff, Nat.reduceAdd, Nat.reduceLeDiff, q1]; done))))
  (repeat (first | refine W_seqS ?_ | refine W_seqC ?_ | refine W_seqB ?_ | refine W_block ?_)); refine W_reg rfl fun G K hG hK => ?_; simp (disch := omega) only [go_sem, ↓reduceIte, Nat.reduceEqDiff, Nat.reduceAdd, Nat.reduceLeDiff, hG, q1]
  refine w_call (l1New_ok bs st s hbig hr) (by simp (disch := omega) only [go_sem, ↓reduceIte, Nat.reduceEqDiff, q1]) ?hl ?_
  case hl => first | rfl | (simp only [go_sem, List.all_cons, List.all_nil, Bool.not_false, Bool.and_self, q1]; done)
  rintro r_ sa ⟨rfl, x1, hc⟩; refine ⟨fun e => (by cases e), ?_⟩
  simp (disch := omega) only [go_sem, ↓reduceIte, Nat.reduceEqDiff, Nat.reduceAdd, Nat.reduceLeDiff, hG, q1]; refine hK _ _ ?_; clear hK K hG G; repeat (first | refine thenI ?_ | refine thenE ?_ | refine thenR ?_ | refine inBI ?_ | refine inBR ?_ | refine inBS ?_ | refine inBN (by decide) ?_)
  (repeat (first | refine W_seqS ?_ | refine W_seqC ?_ | refine W_seqB ?_ | refine W_block ?_)); refine W_reg rfl fun G K hG hK => ?_; simp (disch := omega) only [go_sem, ↓reduceIte, Nat.reduceEqDiff, Nat.reduceAdd, Nat.reduceLeDiff, hG, q1]
  refine w_call (l1Once_ok st.length bs sa 2 (by omega) (by omega) hc) (by simp (disch := omega) only [go_sem, ↓reduceIte, Nat.reduceEqDiff, q1]) ?hl ?_
  case hl => first | rfl | (simp only [go_sem, List.all_cons, List.all_nil, Bool.not_false, Bool.and_self, q1]; done)
  rintro r_ sb ⟨⟨b, rfl⟩, hd, hl⟩; refine ⟨fun e => (by cases e), ?_⟩
  simp (disch := omega) only [go_sem, ↓reduceIte, Nat.reduceEqDiff, Nat.reduceAdd, Nat.reduceLeDiff, hG, q1]; refine hK _ _ ?_; clear hK K hG G; repeat (first | refine thenI ?_ | refine thenE ?_ | refine thenR ?_ | refine inBI ?_ | refine inBR ?_ | refine inBS ?_ | refine inBN (by decide) ?_)
  cases b with
  | true =>
    repeat (first | (refine W_reg rfl fun G K hG hK => ?_; simp (disch := omega) only [go_sem, ↓reduceIte, Nat.reduceEqDiff, Nat.reduceAdd, Nat.reduceLeDiff, hG, q1]; refine hK _ _ ?_; clear hK K hG G) | (refine W_end rfl fun G K hG hK => ?_; simp (disch := omega) only [go_sem, ↓reduceIte, Nat.reduceEqDiff, Nat.reduceAdd, Nat.reduceLeDiff, hG, q1]; refine hK _ _ ?_; clear hK K hG G; repeat (first | refine thenI ?_ | refine thenE ?_ | refine thenR ?_ | refine inBI ?_ | refine inBR ?_ | refine inBS ?_ | refine inBN (by decide) ?_)) | refine W_seqS ?_ | refine W_seqC ?_ | refine W_seqB ?_ | refine W_block ?_ | (refine W_skip ?_; repeat (first | refine thenI ?_ | refine thenE ?_ | refine thenR ?_ | refine inBI ?_ | refine inBR ?_ | refine inBS ?_ | refine inBN (by decide) ?_)) | (refine W_condT ?hc ?_; (case hc => (simp (disch := omega) only [go_sem, ↓reduceIte, Nat.reduceEqDiff, Nat.reduceAdd, Nat.reduceLeDiff, q1]; done))) | (refine W_condF ?hc ?_; (case hc => (simp (disch := omega) only [go_sem, ↓reduceIte, Nat.reduceEqDiff, Nat.reduceAdd, Nat.reduceLeDiff, q1]; done))))
    (repeat (first | refine W_seqS ?_ | refine W_seqC ?_ | refine W_seqB ?_ | refine W_block ?_)); refine W_reg rfl fun G K hG hK => ?_; simp (disch := omega) only [go_sem, ↓reduceIte, Nat.reduceEqDiff, Nat.reduceAdd, Nat.reduceLeDiff, hG, q1]
    refine w_call (l1Whole_ok st.length bs sb hd.cur) (by simp (disch := omega) only [go_sem, ↓reduceIte, Nat.reduceEqDiff, q1]) ?hl ?_
    case hl => first | rfl | (simp only [go_sem, List.all_cons, List.all_nil, Bool.not_false, Bool.and_self, q1]; done)
    rintro r_ sc ⟨⟨x, rfl, h0, h1⟩, hd2⟩; refine ⟨fun e => (by cases e), ?_⟩
    simp (disch := omega) only [go_sem, ↓reduceIte, Nat.reduceEqDiff, Nat.reduceAdd, Nat.reduceLeDiff, q1]
    refine w_call (specFormatInt_ok x sc h0 h1) (by simp (disch := omega) only [go_sem, ↓reduceIte, Nat.reduceEqDiff, q1]) ?hl ?_
    case hl => first | rfl | (simp only [go_sem, List.all_cons, List.all_nil, Bool.not_false, Bool.and_self, q1]; done)
    rintro r_ sd ⟨x2, rfl⟩; refine ⟨fun e => (by cases e), ?_⟩
    simp (disch := omega) only [go_sem, ↓reduceIte, Nat.reduceEqDiff, Nat.reduceAdd, Nat.reduceLeDiff, hG, q1]; refine hK _ _ ?_; clear hK K hG G; repeat (first | refine thenI ?_ | refine thenE ?_ | refine thenR ?_ | refine inBI ?_ | refine inBR ?_ | refine inBS ?_ | refine inBN (by decide) ?_)
    refine W_ret ?_; try (repeat (first | refine thenI ?_ | refine thenE ?_ | refine thenR ?_ | refine inBI ?_ | refine inBR ?_ | refine inBS ?_ | refine inBN (by decide) ?_))
    refine fin1 (.inl rfl) (by (simp (disch := omega) only [go_sem, ↓reduceIte, Nat.reduceEqDiff, Nat.reduceAdd, Nat.reduceLeDiff, q1]); try rfl) rfl ⟨((hd.trans hd2).away.ext_of x1 (.inr ⟨_, Nat.le_refl _, rfl⟩)).trans x2, _, rfl, itoa_size h0 h1⟩
  | false =>
    repeat (first | (refine W_reg rfl fun G K hG hK => ?_; simp (disch := omega) only [go_sem, ↓reduceIte, Nat.reduceEqDiff, Nat.reduceAdd, Nat.reduceLeDiff, hG, q1]; refine hK _ _ ?_; clear hK K hG G) | (refine W_end rfl fun G K hG hK => ?_; simp (disch := omega) only [go_sem, ↓reduceIte, Nat.reduceEqDiff, Nat.reduceAdd, Nat.reduceLeDiff, hG, q1]; refine hK _ _ ?_; clear hK K hG G; repeat (first | refine thenI ?_ | refine thenE ?_ | refine thenR ?_ | refine inBI ?_ | refine inBR ?_ | refine inBS ?_ | refine inBN (by decide) ?_)) | refine W_seqS ?_ | refine W_seqC ?_ | refine W_seqB ?_ | refine W_block ?_ | (refine W_skip ?_; repeat (first | refine thenI ?_ | refine thenE ?_ | refine thenR ?_ | refine inBI ?_ | refine inBR ?_ | refine inBS ?_ | refine inBN (by decide) ?_)) | (refine W_condT ?hc ?_; (case hc => (simp (disch := omega) only [go_sem, ↓reduceIte, Nat.reduceEqDiff, Nat.reduceAdd, Nat.reduceLeDiff, q1]; done))) | (refine W_condF ?hc ?_; (case hc => (simp (disch := omega) only [go_sem, ↓reduceIte, Nat.reduceEqDiff, Nat.reduceAdd, Nat.reduceLeDiff, q1]; done))))
    (repeat (first | refine W_seqS ?_ | refine W_seqC ?_ | refine W_seqB ?_ | refine W_block ?_)); refine W_reg rfl fun G K hG hK => ?_; simp (disch := omega) only [go_sem, ↓reduceIte, Nat.reduceEqDiff, Nat.reduceAdd, Nat.reduceLeDiff, hG, q1, bsL, fillK_cons, fillK_nil, Nat.reduceMul]
    refine w_call (l1Pick_lit st.length bs sb _ _ 12 hd.cur rfl (by simp) (by simp)) (by simp (disch := omega) only [go_sem, ↓reduceIte, Nat.reduceEqDiff, q1]) ?hl ?_
    case hl => first | rfl | (simp only [go_sem, List.all_cons, List.all_nil, Bool.not_false, Bool.and_self, q1]; done)
    rintro r_ sc ⟨⟨w, rfl, hw⟩, hd2, hl2⟩; refine ⟨fun e => (by cases e), ?_⟩
    simp (disch := omega) only [go_sem, ↓reduceIte, Nat.reduceEqDiff, Nat.reduceAdd, Nat.reduceLeDiff, hG, q1]; refine hK _ _ ?_; clear hK K hG G; repeat (first | refine thenI ?_ | refine thenE ?_ | refine thenR ?_ | refine inBI ?_ | refine inBR ?_ | refine inBS ?_ | refine inBN (by decide) ?_)
    refine W_ret ?_; try (repeat (first | refine thenI ?_ | refine thenE ?_ | refine thenR ?_ | refine inBI ?_ | refine inBR ?_ | refine inBS ?_ | refine inBN (by decide) ?_))
    refine fin1 (.inl rfl) (by (simp (disch := omega) only [go_sem, ↓reduceIte, Nat.reduceEqDiff, Nat.reduceAdd, Nat.reduceLeDiff, q1]); try rfl) rfl ⟨(hd.trans (.pre (Ext.app _ _) hd2)).away.ext_of x1 (.inr ⟨_, Nat.le_refl _, rfl⟩), w, rfl, size_lit hw (by decide)⟩
end Go.Proofs.YtkocgcdakdoeiaaDoor.AM

