/- The marks: laws.markText. -/
import Derived.Test.YtehebodcpmofoaaD3
import Derived.Test.YtehebodcpmofoaaAF
namespace Go.Proofs.Ytehebodcpmofoaa.AM
open Go Go.Proofs
set_option linter.unusedVariables false
set_option linter.unusedSimpArgs false
set_option maxRecDepth 100000
attribute [local go_sem] List.map_cons List.map_nil List.all_cons List.all_nil Bool.and_self Option.map_some List.getElem?_toArray Option.bind_some gye_b gye_t gsk_b gsk_t gb1 gb2 gb3 gb4 bne_self_eq_false beq_self_eq_true w_guard w_nil stepV_some step_some step_some' w_move w_assign w_pick w_binOp w_unOp w_load w_fieldAddr w_indexAddr w_len w_box w_alloc w_store w_field w_extract w_nilCheck w_convert w_buildSlice w_build ev_buildL fillL_nil fillL_cons bs0 bs1 ev_conv ev_bin ev_un ev_pick ev_load ev_fieldAddr ev_indexAddr ev_len ev_field ev_extract ev_nilCheck fr_tmp fr_int fr_bool fr_str fr_nil fr_func put_some put_none bin_lss bin_leq bin_gtr bin_geq bin_eql bin_neq bin_add bin_sub bin_mul bin_seql bin_sneq un_not pick_ ext_ loadA_p cellAt_l cellAt_h okPtr_l okPtr_h fadA_p allocA_l storeA_l cells_agg cells_int cells_str cells_sl cells_bool flat_i flat_s flat_b flat_sl flat_nil loc_agg loc_int loc_str loc_sl loc_bool loc_fn loc_ptr okv_agg okv_int okv_str okv_sl okv_bool cellsFrom splice upd_eval argEnv_zero argEnv_succ ne_eq Nat.add_one_ne_zero not_false_eq_true List.not_mem_nil and_self decide_true List.getElem?_cons_zero List.getElem?_cons_succ List.size_toArray List.length_cons List.length_nil List.take_succ_cons List.take_zero List.drop_succ_cons List.drop_zero List.cons_append List.nil_append List.drop_nil Bool.not_true Bool.not_false Bool.false_eq_true Nat.zero_add Nat.add_zero wrap_in List.toList_toArray List.mem_cons or_self or_false false_or
attribute [local go_sem] ag22 ag24 ag29 ag3 ag31 ag46 ag75 ag9 bu31 bu46 by31 by46 by9 el22 el26 el29 el41 el55 of24_0 of24_1 of24_2 of24_3 of31_0 of31_1 of31_2 of31_3 of46_0 of46_1 ro31_0 ro31_1 ro46_0 ro46_1 ro5_1 ro9_0 ro9_1 sz22 sz24 sz29 sz3 sz31 sz46 sz5 sz75 sz9 ze3 ze31 ze46 ze75 ze9

def digitB (k : Nat) : ByteArray := ⟨#[UInt8.ofNat (48 + k % 10)]⟩
def mtF : Nat → Nat → ByteArray → ByteArray
  | 0, _, acc => acc
  | f + 1, k, acc => if k = 0 then acc else mtF f (k / 10) (digitB k ++ acc)
/-- A mark's text. -/
def mtext (k : Nat) : ByteArray := if k = 0 then ⟨#[109, 48]⟩ else (⟨#[109]⟩ : ByteArray) ++ mtF (k + 1) k ⟨#[]⟩

theorem digit_cell (k : Nat) : Value.int .u8 (IntKind.u8.wrap (48 + (k : Int).tmod 10)) = .int .u8 ((UInt8.ofNat (48 + k % 10)).toNat : Int) := by
  have h1 : (k : Int).tmod 10 = ((k % 10 : Nat) : Int) := by rw [Int.tmod_eq_emod_of_nonneg (by omega)]; omega
  rw [h1]
  have h2 : IntKind.u8.wrap (48 + ((k % 10 : Nat) : Int)) = ((48 + k % 10 : Nat) : Int) := by
    unfold IntKind.wrap
    have hb : IntKind.u8.bits = 8 := rfl
    have hs : IntKind.u8.signed = false := rfl
    simp only [hb, hs, Bool.false_and, Bool.false_eq_true, if_false]
    omega
  rw [h2]
  congr 1
  have : (UInt8.ofNat (48 + k % 10)).toNat = 48 + k % 10 := by
    rw [UInt8.toNat_ofNat']; omega
  rw [this]
theorem app_size (a b : ByteArray) : (a ++ b).size = a.size + b.size := by simp
theorem ne_rem {k : IntKind} {P : Program} {t : TypeId} {x y : Operand} {a : Int} : binE P .rem t x y (.int k a) (.int k 10) = some (.int k (a.tmod 10)) := bin_rem (by decide)
theorem ne_quo {k : IntKind} {P : Program} {t : TypeId} {x y : Operand} {a : Int} : binE P .quo t x y (.int k a) (.int k 10) = some (.int k (k.wrap (a.tdiv 10))) := bin_quo (by decide)

theorem markText_ok (k : Nat) (st : St) (hk : k ≤ 4611686018427380000) : CallS Try.prog 24 [.int .i64 k] st fun r st2 => Ext st st2 ∧ r = .string (mtext k) := by
  refine CallS_of_W [] 20 Try.func24 rfl rfl rfl rfl (by simp) ?_
  by_cases h0 : k = 0
  · have c1 : decide ((k : Int) ≤ 0) = true := by simp; omega
    repeat (first | (refine W_reg rfl fun G K hG hK => ?_; simp (disch := omega) only [go_sem, ↓reduceIte, Nat.reduceEqDiff, Nat.reduceAdd, Nat.reduceLeDiff, hG, c1]; refine hK _ _ ?_; clear hK K hG G) | (refine W_end rfl fun G K hG hK => ?_; simp (disch := omega) only [go_sem, ↓reduceIte, Nat.reduceEqDiff, Nat.reduceAdd, Nat.reduceLeDiff, hG, c1]; refine hK _ _ ?_; clear hK K hG G; repeat (first | refine thenI ?_ | refine thenE ?_ | refine thenR ?_ | refine inBI ?_ | refine inBR ?_ | refine inBS ?_ | refine inBN (by decide) ?_)) | refine W_seqS ?_ | refine W_seqC ?_ | refine W_seqB ?_ | refine W_block ?_ | (refine W_skip ?_; repeat (first | refine thenI ?_ | refine thenE ?_ | refine thenR ?_ | refine inBI ?_ | refine inBR ?_ | refine inBS ?_ | refine inBN (by decide) ?_)) | (refine W_condT ?hc ?_; (case hc => (simp (disch := omega) only [go_sem, ↓reduceIte, Nat.reduceEqDiff, Nat.reduceAdd, Nat.reduceLeDiff, c1]; done))) | (refine W_condF ?hc ?_; (case hc => (simp (disch := omega) only [go_sem, ↓reduceIte, Nat.reduceEqDiff, Nat.reduceAdd, Nat.reduceLeDiff, c1]; done))))
    refine W_ret ?_; try (repeat (first | refine thenI ?_ | refine thenE ?_ | refine thenR ?_ | refine inBI ?_ | refine inBR ?_ | refine inBS ?_ | refine inBN (by decide) ?_))
    refine fin1 (.inl rfl) (by (simp (disch := omega) only [go_sem, ↓reduceIte, Nat.reduceEqDiff, Nat.reduceAdd, Nat.reduceLeDiff]); try rfl) rfl ⟨Ext.refl _, by unfold mtext; rw [if_pos h0]⟩
  have c1 : decide ((k : Int) ≤ 0) = false := by simp; omega
  repeat (first | (refine W_reg rfl fun G K hG hK => ?_; simp (disch := omega) only [go_sem, ↓reduceIte, Nat.reduceEqDiff, Nat.reduceAdd, Nat.reduceLeDiff, hG, c1]; refine hK _ _ ?_; clear hK K hG G) | (refine W_end rfl fun G K hG hK => ?_; simp (disch := omega) only [go_sem, ↓reduceIte, Nat.reduceEqDiff, Nat.reduceAdd, Nat.reduceLeDiff, hG, c1]; refine hK _ _ ?_; clear hK K hG G; repeat (first | refine thenI ?_ | refine thenE ?_ | refine thenR ?_ | refine inBI ?_ | refine inBR ?_ | refine inBS ?_ | refine inBN (by decide) ?_)) | refine W_seqS ?_ | refine W_seqC ?_ | refine W_seqB ?_ | refine W_block ?_ | (refine W_skip ?_; repeat (first | refine thenI ?_ | refine thenE ?_ | refine thenR ?_ | refine inBI ?_ | refine inBR ?_ | refine inBS ?_ | refine inBN (by decide) ?_)) | (refine W_condT ?hc ?_; (case hc => (simp (disch := omega) only [go_sem, ↓reduceIte, Nat.reduceEqDiff, Nat.reduceAdd, Nat.reduceLeDiff, c1]; done))) | (refine W_condF ?hc ?_; (case hc => (simp (disch := omega) only [go_sem, ↓reduceIte, Nat.reduceEqDiff, Nat.reduceAdd, Nat.reduceLeDiff, c1]; done))))
  refine W_loop (fun d fr st' => ∃ (j f : Nat) (acc : ByteArray), d = j ∧ j ≤ 4611686018427380000 ∧ j < f ∧ acc.size + j ≤ k ∧ mtF f j acc = mtF (k + 1) k ⟨#[]⟩ ∧ Ext st st' ∧ fr.env 0 = .int .i64 j ∧ fr.env 3 = .string acc) k ?_ ?_
  · exact ⟨k, k + 1, ⟨#[]⟩, rfl, hk, by omega, by simp [ByteArray.size], rfl, Ext.refl _, (by (simp (disch := omega) only [go_sem, ↓reduceIte, Nat.reduceEqDiff, Nat.reduceAdd, Nat.reduceLeDiff]); try rfl), (by (simp (disch := omega) only [go_sem, ↓reduceIte, Nat.reduceEqDiff, Nat.reduceAdd, Nat.reduceLeDiff]); try rfl)⟩
  rintro d ⟨env, loc⟩ st' ⟨j, f, acc, rfl, hj, hf, hsz, hm, hext, e0, e3⟩
  simp only at e0 e3
  by_cases hlt : 0 < d
  · have c2 : decide ((d : Int) > 0) = true := by simp; omega
    obtain ⟨f, rfl⟩ : ∃ g, f = g + 1 := ⟨f - 1, by omega⟩
    have hq : (d : Int).tdiv 10 = ((d / 10 : Nat) : Int) := by rw [Int.tdiv_eq_ediv_of_nonneg (by omega)]; omega
    have hr1 : (d : Int).tmod 10 ≤ 9 ∧ 0 ≤ (d : Int).tmod 10 := by rw [Int.tmod_eq_emod_of_nonneg (by omega)]; omega
    have hci : ∀ n : Int, cvI Try.prog 3 5 (.int .i64 n) = some (.int .u8 (IntKind.u8.wrap n)) := fun n => cvI_int Try.underlying3 Try.underlying5
    have hfl : ∀ (i o n c : Nat), flat (.slice (some ⟨i, o, none⟩) n c) = false := fun _ _ _ _ => rfl
    have hfi : ∀ (k : IntKind) (n : Int), flat (.int k n) = true := fun _ _ => rfl
    have hcb : cvB Try.prog [] 55 9 (.slice (some ⟨st'.length, 0, none⟩) 1 1) loc (st' ++ [⟨[.int .u8 (IntKind.u8.wrap (48 + (d : Int).tmod 10))], 5, 0⟩]) = some (.string (digitB d)) := by
      rw [digit_cell]
      have := cvB_str (A := []) (loc := loc) (st := st' ++ [⟨[.int .u8 ((UInt8.ofNat (48 + d % 10)).toNat : Int)], 5, 0⟩]) (q := digitB d) (b := st'.length) (o := 0) (c := 1) Try.underlying55 Try.underlying5 Try.underlying9 (fun j v hv => by
        unfold cell; simp; simpa [strCells, digitB] using hv)
      exact this
    have hadd : ∀ (t : TypeId) (x y : Operand), binE Try.prog .add t x y (.string (digitB d)) (.string acc) = some (.string (digitB d ++ acc)) := fun t x y => bin_sadd (by have : (digitB d).size = 1 := rfl; omega)
    repeat (first | (refine W_reg rfl fun G K hG hK => ?_; simp (disch := omega) only [go_sem, ↓reduceIte, Nat.reduceEqDiff, Nat.reduceAdd, Nat.reduceLeDiff, hG, e0, e3, c2, ne_rem, ne_quo, hci, hcb, hadd, hq, List.toList_toArray]; refine hK _ _ ?_; clear hK K hG G) | (refine W_end rfl fun G K hG hK => ?_; simp (disch := omega) only [go_sem, ↓reduceIte, Nat.reduceEqDiff, Nat.reduceAdd, Nat.reduceLeDiff, hG, e0, e3, c2, ne_rem, ne_quo, hci, hcb, hadd, hq, List.toList_toArray]; refine hK _ _ ?_; clear hK K hG G; repeat (first | refine thenI ?_ | refine thenE ?_ | refine thenR ?_ | refine inBI ?_ | refine inBR ?_ | refine inBS ?_ | refine inBN (by decide) ?_)) | refine W_seqS ?_ | refine W_seqC ?_ | refine W_seqB ?_ | refine W_block ?_ | (refine W_skip ?_; repeat (first | refine thenI ?_ | refine thenE ?_ | refine thenR ?_ | refine inBI ?_ | refine inBR ?_ | refine inBS ?_ | refine inBN (by decide) ?_)) | (refine W_condT ?hc ?_; (case hc => (simp (disch := omega) only [go_sem, ↓reduceIte, Nat.reduceEqDiff, Nat.reduceAdd, Nat.reduceLeDiff, e0, e3, c2, ne_rem, ne_quo, hci, hcb, hadd, hq, List.toList_toArray]; done))) | (refine W_condF ?hc ?_; (case hc => (simp (disch := omega) only [go_sem, ↓reduceIte, Nat.reduceEqDiff, Nat.reduceAdd, Nat.reduceLeDiff, e0, e3, c2, ne_rem, ne_quo, hci, hcb, hadd, hq, List.toList_toArray]; done))))
    have hdz : d ≠ 0 := by omega
    refine ⟨d / 10, by omega, d / 10, f, digitB d ++ acc, rfl, by omega, by omega, ?_, ?_, ?_, (by (simp (disch := omega) only [go_sem, ↓reduceIte, Nat.reduceEqDiff, Nat.reduceAdd, Nat.reduceLeDiff]); try rfl), (by (simp (disch := omega) only [go_sem, ↓reduceIte, Nat.reduceEqDiff, Nat.reduceAdd, Nat.reduceLeDiff]); try rfl)⟩
    · rw [app_size]
      have : (digitB d).size = 1 := rfl
      omega
    · rw [← hm]; simp only [mtF]; rw [if_neg hdz]
    · exact hext.trans (Ext.app _ _)
  · have hd0 : d = 0 := by omega
    subst hd0
    obtain ⟨f, rfl⟩ : ∃ g, f = g + 1 := ⟨f - 1, by omega⟩
    have c2 : decide (((0 : Nat) : Int) > 0) = false := by simp
    have hm' : acc = mtF (k + 1) k ⟨#[]⟩ := by rw [← hm]; simp only [mtF, if_true]
    have hadd : ∀ (t : TypeId) (x y : Operand), binE Try.prog .add t x y (.string ⟨#[109]⟩) (.string acc) = some (.string (⟨#[109]⟩ ++ acc)) := fun t x y => bin_sadd (by have : (⟨#[109]⟩ : ByteArray).size = 1 := rfl; omega)
    repeat (first | (refine W_reg rfl fun G K hG hK => ?_; simp (disch := omega) only [go_sem, ↓reduceIte, Nat.reduceEqDiff, Nat.reduceAdd, Nat.reduceLeDiff, hG, e0, e3, c2]; refine hK _ _ ?_; clear hK K hG G) | (refine W_end rfl fun G K hG hK => ?_; simp (disch := omega) only [go_sem, ↓reduceIte, Nat.reduceEqDiff, Nat.reduceAdd, Nat.reduceLeDiff, hG, e0, e3, c2]; refine hK _ _ ?_; clear hK K hG G; repeat (first | refine thenI ?_ | refine thenE ?_ | refine thenR ?_ | refine inBI ?_ | refine inBR ?_ | refine inBS ?_ | refine inBN (by decide) ?_)) | refine W_seqS ?_ | refine W_seqC ?_ | refine W_seqB ?_ | refine W_block ?_ | (refine W_skip ?_; repeat (first | refine thenI ?_ | refine thenE ?_ | refine thenR ?_ | refine inBI ?_ | refine inBR ?_ | refine inBS ?_ | refine inBN (by decide) ?_)) | (refine W_condT ?hc ?_; (case hc => (simp (disch := omega) only [go_sem, ↓reduceIte, Nat.reduceEqDiff, Nat.reduceAdd, Nat.reduceLeDiff, e0, e3, c2]; done))) | (refine W_condF ?hc ?_; (case hc => (simp (disch := omega) only [go_sem, ↓reduceIte, Nat.reduceEqDiff, Nat.reduceAdd, Nat.reduceLeDiff, e0, e3, c2]; done))))
    refine W_exit ?_; repeat (first | refine thenI ?_ | refine thenE ?_ | refine thenR ?_ | refine inBI ?_ | refine inBR ?_ | refine inBS ?_ | refine inBN (by decide) ?_)
    repeat (first | (refine W_reg rfl fun G K hG hK => ?_; simp (disch := omega) only [go_sem, ↓reduceIte, Nat.reduceEqDiff, Nat.reduceAdd, Nat.reduceLeDiff, hG, e3, hadd]; refine hK _ _ ?_; clear hK K hG G) | (refine W_end rfl fun G K hG hK => ?_; simp (disch := omega) only [go_sem, ↓reduceIte, Nat.reduceEqDiff, Nat.reduceAdd, Nat.reduceLeDiff, hG, e3, hadd]; refine hK _ _ ?_; clear hK K hG G; repeat (first | refine thenI ?_ | refine thenE ?_ | refine thenR ?_ | refine inBI ?_ | refine inBR ?_ | refine inBS ?_ | refine inBN (by decide) ?_)) | refine W_seqS ?_ | refine W_seqC ?_ | refine W_seqB ?_ | refine W_block ?_ | (refine W_skip ?_; repeat (first | refine thenI ?_ | refine thenE ?_ | refine thenR ?_ | refine inBI ?_ | refine inBR ?_ | refine inBS ?_ | refine inBN (by decide) ?_)) | (refine W_condT ?hc ?_; (case hc => (simp (disch := omega) only [go_sem, ↓reduceIte, Nat.reduceEqDiff, Nat.reduceAdd, Nat.reduceLeDiff, e3, hadd]; done))) | (refine W_condF ?hc ?_; (case hc => (simp (disch := omega) only [go_sem, ↓reduceIte, Nat.reduceEqDiff, Nat.reduceAdd, Nat.reduceLeDiff, e3, hadd]; done))))
    refine W_ret ?_; try (repeat (first | refine thenI ?_ | refine thenE ?_ | refine thenR ?_ | refine inBI ?_ | refine inBR ?_ | refine inBS ?_ | refine inBN (by decide) ?_))
    refine fin1 (.inl rfl) (by (simp (disch := omega) only [go_sem, ↓reduceIte, Nat.reduceEqDiff, Nat.reduceAdd, Nat.reduceLeDiff]); try rfl) rfl ⟨hext, by unfold mtext; rw [if_neg h0, ← hm']⟩
end Go.Proofs.Ytehebodcpmofoaa.AM
