/- Words: spec.l1In, the built-in operators, the tests for words, their operations. -/
import Derived.Test.YtjdokceabfaklaaC0
namespace Go.Proofs.Ytjdokceabfaklaa.AM
open Go Go.Proofs
set_option linter.unusedVariables false
set_option linter.unusedSimpArgs false
set_option maxRecDepth 100000
attribute [local go_sem] List.map_cons List.map_nil List.all_cons List.all_nil Bool.and_self Option.map_some List.getElem?_toArray Option.bind_some gye_b gye_t gsk_b gsk_t gb1 gb2 gb3 gb4 bne_self_eq_false beq_self_eq_true w_guard w_nil stepV_some step_some step_some' w_move w_assign w_pick w_binOp w_unOp w_load w_fieldAddr w_indexAddr w_len w_box w_alloc w_store w_field w_extract w_nilCheck w_convert w_buildSlice w_build ev_buildL fillL_nil fillL_cons bs0 bs1 ev_conv ev_bin ev_un ev_pick ev_load ev_fieldAddr ev_indexAddr ev_len ev_field ev_extract ev_nilCheck fr_tmp fr_int fr_bool fr_str fr_nil fr_func put_some put_none bin_lss bin_leq bin_gtr bin_geq bin_eql bin_neq bin_add bin_sub bin_mul bin_seql bin_sneq un_not pick_ ext_ loadA_p cellAt_l cellAt_h okPtr_l okPtr_h fadA_p allocA_l storeA_l cells_agg cells_int cells_str cells_sl cells_bool flat_i flat_s flat_b flat_sl flat_nil loc_agg loc_int loc_str loc_sl loc_bool loc_fn loc_ptr okv_agg okv_int okv_str okv_sl okv_bool cellsFrom splice upd_eval argEnv_zero argEnv_succ ne_eq Nat.add_one_ne_zero not_false_eq_true List.not_mem_nil and_self decide_true List.getElem?_cons_zero List.getElem?_cons_succ List.size_toArray List.length_cons List.length_nil List.take_succ_cons List.take_zero List.drop_succ_cons List.drop_zero List.cons_append List.nil_append List.drop_nil Bool.not_true Bool.not_false Bool.false_eq_true Nat.zero_add Nat.add_zero wrap_in List.toList_toArray List.mem_cons or_self or_false false_or
attribute [local go_sem] ag22 ag24 ag27 ag29 ag3 ag9 bu29 by29 by3 el22 el25 el27 el50 of24_0 of24_1 of24_2 of24_3 of29_0 of29_1 of29_2 of29_3 ro29_0 ro29_1 ro5_1 sz22 sz24 sz27 sz29 sz3 sz5 sz9 ze29 ze3

theorem l1In_ok (a b c : Int) (st : St) : CallS Try.prog 25 [.int .i64 a, .int .i64 b, .int .i64 c] st fun r st' => r = .bool (decide (a ≥ b) && decide (a ≤ c)) ∧ st' = st := by
  refine CallS_of_W [] 15 Try.func25 rfl rfl rfl rfl (by simp) ?_
  by_cases h : a ≥ b
  · have c1 : decide (a ≥ b) = true := by simpa using h
    repeat (first | (refine W_reg rfl fun G K hG hK => ?_; simp (disch := omega) only [go_sem, ↓reduceIte, Nat.reduceEqDiff, Nat.reduceAdd, Nat.reduceLeDiff, hG, c1]; refine hK _ _ ?_; clear hK K hG G) | (refine W_end rfl fun G K hG hK => ?_; simp (disch := omega) only [go_sem, ↓reduceIte, Nat.reduceEqDiff, Nat.reduceAdd, Nat.reduceLeDiff, hG, c1]; refine hK _ _ ?_; clear hK K hG G; repeat (first | refine thenI ?_ | refine thenE ?_ | refine thenR ?_ | refine inBI ?_ | refine inBR ?_ | refine inBS ?_ | refine inBN (by decide) ?_)) | refine W_seqS ?_ | refine W_seqC ?_ | refine W_seqB ?_ | refine W_block ?_ | (refine W_skip ?_; repeat (first | refine thenI ?_ | refine thenE ?_ | refine thenR ?_ | refine inBI ?_ | refine inBR ?_ | refine inBS ?_ | refine inBN (by decide) ?_)) | (refine W_condT ?hc ?_; (case hc => (simp (disch := omega) only [go_sem, ↓reduceIte, Nat.reduceEqDiff, Nat.reduceAdd, Nat.reduceLeDiff, c1]; done))) | (refine W_condF ?hc ?_; (case hc => (simp (disch := omega) only [go_sem, ↓reduceIte, Nat.reduceEqDiff, Nat.reduceAdd, Nat.reduceLeDiff, c1]; done))))
    refine W_ret ?_; try (repeat (first | refine thenI ?_ | refine thenE ?_ | refine thenR ?_ | refine inBI ?_ | refine inBR ?_ | refine inBS ?_ | refine inBN (by decide) ?_))
    refine fin1 (.inl rfl) (by (simp (disch := omega) only [go_sem, ↓reduceIte, Nat.reduceEqDiff, Nat.reduceAdd, Nat.reduceLeDiff]); try rfl) rfl ⟨by rw [c1, Bool.true_and], rfl⟩
  · have c1 : decide (a ≥ b) = false := by simpa using h
    repeat (first | (refine W_reg rfl fun G K hG hK => ?_; simp (disch := omega) only [go_sem, ↓reduceIte, Nat.reduceEqDiff, Nat.reduceAdd, Nat.reduceLeDiff, hG, c1]; refine hK _ _ ?_; clear hK K hG G) | (refine W_end rfl fun G K hG hK => ?_; simp (disch := omega) only [go_sem, ↓reduceIte, Nat.reduceEqDiff, Nat.reduceAdd, Nat.reduceLeDiff, hG, c1]; refine hK _ _ ?_; clear hK K hG G; repeat (first | refine thenI ?_ | refine thenE ?_ | refine thenR ?_ | refine inBI ?_ | refine inBR ?_ | refine inBS ?_ | refine inBN (by decide) ?_)) | refine W_seqS ?_ | refine W_seqC ?_ | refine W_seqB ?_ | refine W_block ?_ | (refine W_skip ?_; repeat (first | refine thenI ?_ | refine thenE ?_ | refine thenR ?_ | refine inBI ?_ | refine inBR ?_ | refine inBS ?_ | refine inBN (by decide) ?_)) | (refine W_condT ?hc ?_; (case hc => (simp (disch := omega) only [go_sem, ↓reduceIte, Nat.reduceEqDiff, Nat.reduceAdd, Nat.reduceLeDiff, c1]; done))) | (refine W_condF ?hc ?_; (case hc => (simp (disch := omega) only [go_sem, ↓reduceIte, Nat.reduceEqDiff, Nat.reduceAdd, Nat.reduceLeDiff, c1]; done))))
    refine W_ret ?_; try (repeat (first | refine thenI ?_ | refine thenE ?_ | refine thenR ?_ | refine inBI ?_ | refine inBR ?_ | refine inBS ?_ | refine inBN (by decide) ?_))
    refine fin1 (.inl rfl) (by (simp (disch := omega) only [go_sem, ↓reduceIte, Nat.reduceEqDiff, Nat.reduceAdd, Nat.reduceLeDiff]); try rfl) rfl ⟨by rw [c1, Bool.false_and], rfl⟩

def plusB : ByteArray := ⟨#[112, 108, 117, 115]⟩
def minusB : ByteArray := ⟨#[109, 105, 110, 117, 115]⟩
def timesB : ByteArray := ⟨#[116, 105, 109, 101, 115]⟩
def isB (s : ByteArray) : Bool := s.toList == plusB.toList || (s.toList == minusB.toList || s.toList == timesB.toList)
/-- A word: one of the four. -/
def T.isW : T → Bool
  | .mk k n nm args => (k == 3) && (decide (n ≥ 0) && decide (n ≤ 3)) && (nm.toList == (⟨#[]⟩ : ByteArray).toList) && ((args.length : Int) == 0)
def opW (f : ByteArray) (a b : Int) : Int := if (f.toList == plusB.toList) = true then (a + b).tmod 4 else if (f.toList == minusB.toList) = true then (a - b + 4).tmod 4 else (a * b).tmod 4
theorem op_facts : ∀ a b : _root_.Fin 4, ((((a.1 : Int) + b.1).tmod 4 + 4).tmod 4 = ((a.1 : Int) + b.1).tmod 4 ∧ (((a.1 : Int) - b.1).tmod 4 + 4).tmod 4 = ((a.1 : Int) - b.1 + 4).tmod 4 ∧ (((a.1 : Int) * b.1).tmod 4 + 4).tmod 4 = ((a.1 : Int) * b.1).tmod 4 ∧
    IntKind.i64.wrap ((a.1 : Int) + b.1) = (a.1 : Int) + b.1 ∧ IntKind.i64.wrap ((a.1 : Int) - b.1) = (a.1 : Int) - b.1 ∧ IntKind.i64.wrap ((a.1 : Int) * b.1) = (a.1 : Int) * b.1 ∧ IntKind.i64.wrap ((a.1 : Int) - b.1 + 4) = (a.1 : Int) - b.1 + 4 ∧
    IntKind.i64.wrap (((a.1 : Int) + b.1).tmod 4 + 4) = ((a.1 : Int) + b.1).tmod 4 + 4 ∧ IntKind.i64.wrap (((a.1 : Int) - b.1).tmod 4 + 4) = ((a.1 : Int) - b.1).tmod 4 + 4 ∧ IntKind.i64.wrap (((a.1 : Int) * b.1).tmod 4 + 4) = ((a.1 : Int) * b.1).tmod 4 + 4) := by decide +kernel
theorem op_factsI (a b : Int) (ha : 0 ≤ a ∧ a ≤ 3) (hb : 0 ≤ b ∧ b ≤ 3) : (((a + b).tmod 4 + 4).tmod 4 = (a + b).tmod 4 ∧ ((a - b).tmod 4 + 4).tmod 4 = (a - b + 4).tmod 4 ∧ ((a * b).tmod 4 + 4).tmod 4 = (a * b).tmod 4 ∧
    IntKind.i64.wrap (a + b) = a + b ∧ IntKind.i64.wrap (a - b) = a - b ∧ IntKind.i64.wrap (a * b) = a * b ∧ IntKind.i64.wrap (a - b + 4) = a - b + 4 ∧
    IntKind.i64.wrap ((a + b).tmod 4 + 4) = (a + b).tmod 4 + 4 ∧ IntKind.i64.wrap ((a - b).tmod 4 + 4) = (a - b).tmod 4 + 4 ∧ IntKind.i64.wrap ((a * b).tmod 4 + 4) = (a * b).tmod 4 + 4) := by
  have h := op_facts ⟨a.toNat, by omega⟩ ⟨b.toNat, by omega⟩
  have e1 : ((a.toNat : Nat) : Int) = a := by omega
  have e2 : ((b.toNat : Nat) : Int) = b := by omega
  simp only [e1, e2] at h
  exact h
theorem rem4 {k : IntKind} {P : Program} {t : TypeId} {x y : Operand} {a : Int} : binE P .rem t x y (.int k a) (.int k 4) = some (.int k (a.tmod 4)) := bin_rem (by decide)
end Go.Proofs.Ytjdokceabfaklaa.AM
