/- My texts for the law, laid together (part 6): C25 C26 PL5 PL9 DV O22 E7 ZFnSorts. -/
import Derived.Test.YtdijnohbbgbklaaG5
import Derived.Laws.StructEq
import Derived.Test.YtdijnohbbgbklaaRows
import Derived.WalkKit
import Derived.ProofKit
import Derived.OpenShut
import Derived.ShutString
import Derived.ChangeOld
import Derived.Below
import Derived.SizedLaws
import Derived.Carry
namespace Go.Proofs.Ytdijnohbbgbklaa.AM
open Go
attribute [local go_sem] List.map_cons List.map_nil List.all_cons List.all_nil Bool.and_self Option.map_some List.getElem?_toArray Option.bind_some gye_b gye_t gsk_b gsk_t gb1 gb2 gb3 gb4 bne_self_eq_false beq_self_eq_true w_guard w_nil stepV_some step_some step_some' w_move w_assign w_pick w_binOp w_unOp w_load w_fieldAddr w_indexAddr w_len w_max w_index ev_max max_int ev_index w_box w_alloc w_store w_field w_extract w_nilCheck w_convert w_buildSlice w_build ev_buildL fillL_nil fillL_cons bs0 bs1 ev_conv ev_bin ev_un ev_pick ev_load ev_fieldAddr ev_indexAddr ev_len ev_field ev_extract ev_nilCheck fr_tmp fr_int fr_bool fr_str fr_nil fr_func put_some put_none bin_lss bin_leq bin_gtr bin_geq bin_eql bin_neq bin_add bin_sub bin_mul bin_seql bin_sneq un_not pick_ ext_ loadA_p cellAt_l cellAt_h okPtr_l okPtr_h fadA_p allocA_l storeA_l cells_agg cells_int cells_str cells_sl cells_bool flat_i flat_s flat_b flat_sl flat_nil loc_agg loc_int loc_str loc_sl loc_bool loc_fn loc_ptr okv_agg okv_int okv_str okv_sl okv_bool cellsFrom splice upd_eval argEnv_zero argEnv_succ ne_eq Nat.add_one_ne_zero not_false_eq_true List.not_mem_nil and_self decide_true List.getElem?_cons_zero List.getElem?_cons_succ List.size_toArray List.length_cons List.length_nil List.take_succ_cons List.take_zero List.drop_succ_cons List.drop_zero List.cons_append List.nil_append List.drop_nil Bool.not_true Bool.not_false Bool.false_eq_true Nat.zero_add Nat.add_zero wrap_in List.toList_toArray List.mem_cons or_self or_false false_or
attribute [local go_sem] ag103 ag22 ag24 ag25 ag27 ag28 ag3 ag30 ag37 ag5 ag54 ag9 bu27 bu30 bu37 bu54 bu67 by30 by37 by54 by9 el22 el24 el25 el28 el33 el52 of27_0 of27_1 of30_0 of30_1 of30_2 of30_3 of37_0 of37_1 of54_0 of54_1 of54_2 of67_0 of67_1 of67_2 ro3_3 ro3_4 ro30_0 ro30_1 ro30_2 ro37_0 ro37_1 ro37_4 ro54_1 ro54_7 ro9_0 ro9_1 ro9_2 ro9_3 ro9_4 ro9_5 sz103 sz22 sz24 sz25 sz27 sz28 sz3 sz30 sz37 sz5 sz54 sz9 ze103 ze27 ze3 ze30 ze37 ze54 ze9
section
/- Sorts inferred, the reference: spec.l6Infer. -/
open Go Go.Proofs
set_option linter.unusedVariables false
set_option linter.unusedSimpArgs false
set_option maxRecDepth 100000
-- AUTO

set_option maxHeartbeats 1000000 in
theorem specInf_ok (g : Sgn) (hlg : LimS 1073741824 g) : ∀ (t : T) (w : ByteArray) (s0 st : St) (cg ct : List Value) (vs : List VSort) (s : Value) (L : List Nat), Lim 1073741824 t → vs.length + t.wt + 1 ≤ 1073741824 → Ext s0 st → EncS s0 g cg → Enc s0 t ct → Sl st vs s L → Fresh s0.length L →
  CallS Try.prog 20 [.agg cg.toArray, .agg ct.toArray, .string w, s] st (InfQ s0 st s (T.inferF g t w vs)) := by
 refine T.ind fun k n nm args ih w s0 st cg ct vs s L hlt0 hB hx0 hG hE hs hf => ?_
 have hG' := hG
 obtain ⟨sa, ua, rfl, ha, hu⟩ := hG
 obtain ⟨s1, rfl, hr⟩ := hE.open
 refine CallS_of_W [] 93 Try.func20 rfl rfl rfl rfl (by simp) ?_
 have q1 := hr.notLoc.1
 have q2 := hr.notLoc.2
 have q3 := ha.notLoc.1
 have q4 := ha.notLoc.2
 have q5 := hu.notLoc.1
 have q6 := hu.notLoc.2
 have q7 := hs.loc
 have hlen : lenE Try.prog 28 s1 = some (.int .i64 args.length) := row_len hr Try.underlying28
 have hwt : (T.mk k n nm args).wt = nm.size + args.length + T.wtL args := by simp only [T.wt]
 have hal := hlt0.args.1
 cases hk : (k == 1) with
 | true =>
  rw [T.inferF_var hk]
  have hlv : lenE Try.prog 33 s = some (.int .i64 vs.length) := row_len hs.row Try.underlying33
  repeat (first | with_reducible (first | refine thenI ?_ | refine thenE ?_ | refine thenR ?_ | refine inBI ?_ | refine inBR ?_ | refine inBS ?_ | refine inBN (by decide) ?_) | refine W_seqS ?_ | refine W_seqC ?_ | refine W_seqB ?_ | refine W_block ?_ | refine W_skip ?_ | (apply W_condB; (case hc => (simp (disch := omega) only [go_sem, ↓reduceIte, Nat.reduceEqDiff, q1, q2, q3, q4, q5, q6, q7, hlen, hlv, hk]); rfl); first | refine qzT ?_ | refine qzF ?_) | ((first | refine W_reg rfl fun G K hG hK => ?_ | refine W_end rfl fun G K hG hK => ?_); simp (disch := omega) only [go_sem, ↓reduceIte, Nat.reduceEqDiff, hG, q1, q2, q3, q4, q5, q6, q7, hlen, hlv, hk]; refine hK _ _ ?_; clear hK K hG G))
  refine W_loop (fun d fr st' => ∃ (j : Nat) , d = vs.length - j ∧ j ≤ vs.length ∧ (st' = st) ∧ (lookV nm vs = lookV nm (vs.drop j)) ∧ (fr.env 2 = .string w) ∧ (fr.env 3 = s) ∧ (fr.env 5 = .pointer (some ⟨5, 0, some 1⟩)) ∧ (fr.env 10 = .int .i64 j) ∧ (fr.loc 5 = (1, [.int .i64 k, .int .i64 n, .string nm, s1]))) (vs.length) ?_ ?_
  ·exact ⟨0, by omega, by omega, rfl, by simp, (by refine ⟨?_, ?_, ?_, ?_, ?_⟩ <;> ((simp (disch := omega) only [go_sem, ↓reduceIte, Nat.reduceEqDiff, q1, q2, q3, q4, q5, q6, q7, hlen, hlv]); try rfl))⟩
  rintro d ⟨env, loc⟩ st' ⟨j, hd, hj, hst, hfd, e2, e3, e5, e10, l5⟩
  simp only at e2 e3 e5 e10 l5
  subst hst
  by_cases hlt : j < vs.length
  ·have c1 : decide ((j : Int) < (vs.length : Int)) = true := by simpa using hlt
   have hi := idxOk hlt
   have hx : vs[j]? = some vs[j] := List.getElem?_eq_getElem hlt
   have htk : vs.take (j + 1) = vs.take j ++ [vs[j]] := List.take_succ_eq_append_getElem hlt
   obtain ⟨i, o, c, hse, hcs⟩ := row_atV hs.row hx
   have hc0 : cell st' i (o + j * 2) = some (.string vs[j].nm) := by have := hcs 0 _ rfl; rwa [Nat.add_zero] at this
   have hc1 : cell st' i (o + j * 2 + 1) = some (.string vs[j].srt) := hcs 1 _ rfl
   rw [List.drop_eq_getElem_cons hlt] at hfd
   unfold lookV at hfd ⊢
   rw [List.find?_cons] at hfd
   cases hn : (vs[j].nm.toList == nm.toList) with
   | true =>
    rw [hn] at hfd
    simp only at hfd
    rw [hfd]
    subst hse
    repeat (first | with_reducible (first | refine thenI ?_ | refine thenE ?_ | refine thenR ?_ | refine inBI ?_ | refine inBR ?_ | refine inBS ?_ | refine inBN (by decide) ?_) | refine W_seqS ?_ | refine W_seqC ?_ | refine W_seqB ?_ | refine W_block ?_ | refine W_skip ?_ | (apply W_condB; (case hc => (simp (disch := omega) only [go_sem, ↓reduceIte, Nat.reduceEqDiff, q1, q2, q3, q4, q5, q6, q7, hlen, hlv, e2, e3, e5, e10, l5, c1, hi, idxA, Int.toNat_natCast]); rfl); first | refine qzT ?_ | refine qzF ?_) | ((first | refine W_reg rfl fun G K hG hK => ?_ | refine W_end rfl fun G K hG hK => ?_); simp (disch := omega) only [go_sem, ↓reduceIte, Nat.reduceEqDiff, hG, q1, q2, q3, q4, q5, q6, q7, hlen, hlv, e2, e3, e5, e10, l5, c1, hi, idxA, Int.toNat_natCast]; refine hK _ _ ?_; clear hK K hG G))
    (repeat (first | refine W_seqS ?_ | refine W_seqC ?_ | refine W_seqB ?_ | refine W_block ?_)); refine W_regD mixed [] [(0,false),(1,false),(2,false),(3,false),(4,false),(5,false),(6,false),(7,false)] rfl (by decide +kernel) fun G K hG hK => ?_; simp only [pickOps, List.filterMap_cons, List.filterMap_nil, List.getElem?_cons_zero, List.getElem?_cons_succ, Option.map_some]; simp (disch := omega) only [go_sem, ↓reduceIte, Nat.reduceEqDiff, hG, q1, q2, q3, q4, q5, q6, q7, hlen, hlv, e2, e3, e5, e10, l5, c1, hi, idxA, Int.toNat_natCast, hc0, ag9, hn]
    refine hK _ _ ?_; clear hK K hG G; repeat (with_reducible first | refine thenI ?_ | refine thenE ?_ | refine thenR ?_ | refine inBI ?_ | refine inBR ?_ | refine inBS ?_ | refine inBN (by decide) ?_)
    repeat (first | with_reducible (first | refine thenI ?_ | refine thenE ?_ | refine thenR ?_ | refine inBI ?_ | refine inBR ?_ | refine inBS ?_ | refine inBN (by decide) ?_) | refine W_seqS ?_ | refine W_seqC ?_ | refine W_seqB ?_ | refine W_block ?_ | refine W_skip ?_ | (apply W_condB; (case hc => (simp (disch := omega) only [go_sem, ↓reduceIte, Nat.reduceEqDiff, q1, q2, q3, q4, q5, q6, q7, hlen, hlv, e2, e3, e5, e10, l5, c1, hi, idxA, Int.toNat_natCast, hn]); rfl); first | refine qzT ?_ | refine qzF ?_) | ((first | refine W_reg rfl fun G K hG hK => ?_ | refine W_end rfl fun G K hG hK => ?_); simp (disch := omega) only [go_sem, ↓reduceIte, Nat.reduceEqDiff, hG, q1, q2, q3, q4, q5, q6, q7, hlen, hlv, e2, e3, e5, e10, l5, c1, hi, idxA, Int.toNat_natCast, hn]; refine hK _ _ ?_; clear hK K hG G))
    (repeat (first | refine W_seqS ?_ | refine W_seqC ?_ | refine W_seqB ?_ | refine W_block ?_)); refine W_regD mixed [] [(0,false),(1,false),(2,false),(3,false),(4,false),(5,false),(6,false),(7,false),(8,false),(9,false)] rfl (by decide +kernel) fun G K hG hK => ?_; simp only [pickOps, List.filterMap_cons, List.filterMap_nil, List.getElem?_cons_zero, List.getElem?_cons_succ, Option.map_some]; simp (disch := omega) only [go_sem, ↓reduceIte, Nat.reduceEqDiff, hG, q1, q2, q3, q4, q5, q6, q7, hlen, hlv, e2, e3, e5, e10, l5, c1, hi, idxA, Int.toNat_natCast, hc1, ag9]
    refine hK _ _ ?_; clear hK K hG G; repeat (with_reducible first | refine thenI ?_ | refine thenE ?_ | refine thenR ?_ | refine inBI ?_ | refine inBR ?_ | refine inBS ?_ | refine inBN (by decide) ?_)
    repeat (first | with_reducible (first | refine thenI ?_ | refine thenE ?_ | refine thenR ?_ | refine inBI ?_ | refine inBR ?_ | refine inBS ?_ | refine inBN (by decide) ?_) | refine W_seqS ?_ | refine W_seqC ?_ | refine W_seqB ?_ | refine W_block ?_ | refine W_skip ?_ | (apply W_condB; (case hc => (simp (disch := omega) only [go_sem, ↓reduceIte, Nat.reduceEqDiff, q1, q2, q3, q4, q5, q6, q7, hlen, hlv, e2, e3, e5, e10, l5, c1, hi, idxA, Int.toNat_natCast]); rfl); first | refine qzT ?_ | refine qzF ?_) | ((first | refine W_reg rfl fun G K hG hK => ?_ | refine W_end rfl fun G K hG hK => ?_); simp (disch := omega) only [go_sem, ↓reduceIte, Nat.reduceEqDiff, hG, q1, q2, q3, q4, q5, q6, q7, hlen, hlv, e2, e3, e5, e10, l5, c1, hi, idxA, Int.toNat_natCast]; refine hK _ _ ?_; clear hK K hG G))
    cases hsrt : (vs[j].srt.toList == w.toList) with
    | true =>
     refine W_ret ?_; try (repeat (with_reducible first | refine thenI ?_ | refine thenE ?_ | refine thenR ?_ | refine inBI ?_ | refine inBR ?_ | refine inBS ?_ | refine inBN (by decide) ?_))
     refine fin2 (.inl rfl) (by (simp (disch := omega) only [go_sem, ↓reduceIte, Nat.reduceEqDiff, q1, q2, q3, q4, q5, q6, q7, hlen, hlv, e2, e3, e5, e10, l5, c1, hi, idxA, Int.toNat_natCast]); try rfl) rfl (by (simp (disch := omega) only [go_sem, ↓reduceIte, Nat.reduceEqDiff, q1, q2, q3, q4, q5, q6, q7, hlen, hlv, e2, e3, e5, e10, l5, c1, hi, idxA, Int.toNat_natCast]); try rfl) rfl ⟨hx0, (by simp only [hsrt, if_true]; exact ⟨_, L, rfl, hs, hf, Grow.refl _ _⟩)⟩
    | false =>
     refine W_ret ?_; try (repeat (with_reducible first | refine thenI ?_ | refine thenE ?_ | refine thenR ?_ | refine inBI ?_ | refine inBR ?_ | refine inBS ?_ | refine inBN (by decide) ?_))
     refine fin2 (.inl rfl) (by (simp (disch := omega) only [go_sem, ↓reduceIte, Nat.reduceEqDiff, q1, q2, q3, q4, q5, q6, q7, hlen, hlv, e2, e3, e5, e10, l5, c1, hi, idxA, Int.toNat_natCast]); try rfl) rfl (by (simp (disch := omega) only [go_sem, ↓reduceIte, Nat.reduceEqDiff, q1, q2, q3, q4, q5, q6, q7, hlen, hlv, e2, e3, e5, e10, l5, c1, hi, idxA, Int.toNat_natCast]); try rfl) rfl ⟨hx0, (by simp only [hsrt, Bool.false_eq_true, if_false]; exact ⟨_, rfl, rfl⟩)⟩
   | false =>
    rw [hn] at hfd
    simp only at hfd
    subst hse
    repeat (first | with_reducible (first | refine thenI ?_ | refine thenE ?_ | refine thenR ?_ | refine inBI ?_ | refine inBR ?_ | refine inBS ?_ | refine inBN (by decide) ?_) | refine W_seqS ?_ | refine W_seqC ?_ | refine W_seqB ?_ | refine W_block ?_ | refine W_skip ?_ | (apply W_condB; (case hc => (simp (disch := omega) only [go_sem, ↓reduceIte, Nat.reduceEqDiff, q1, q2, q3, q4, q5, q6, q7, hlen, hlv, e2, e3, e5, e10, l5, c1, hi, idxA, Int.toNat_natCast]); rfl); first | refine qzT ?_ | refine qzF ?_) | ((first | refine W_reg rfl fun G K hG hK => ?_ | refine W_end rfl fun G K hG hK => ?_); simp (disch := omega) only [go_sem, ↓reduceIte, Nat.reduceEqDiff, hG, q1, q2, q3, q4, q5, q6, q7, hlen, hlv, e2, e3, e5, e10, l5, c1, hi, idxA, Int.toNat_natCast]; refine hK _ _ ?_; clear hK K hG G))
    (repeat (first | refine W_seqS ?_ | refine W_seqC ?_ | refine W_seqB ?_ | refine W_block ?_)); refine W_regD mixed [] [(0,false),(1,false),(2,false),(3,false),(4,false),(5,false),(6,false),(7,false)] rfl (by decide +kernel) fun G K hG hK => ?_; simp only [pickOps, List.filterMap_cons, List.filterMap_nil, List.getElem?_cons_zero, List.getElem?_cons_succ, Option.map_some]; simp (disch := omega) only [go_sem, ↓reduceIte, Nat.reduceEqDiff, hG, q1, q2, q3, q4, q5, q6, q7, hlen, hlv, e2, e3, e5, e10, l5, c1, hi, idxA, Int.toNat_natCast, hc0, ag9, hn]
    refine hK _ _ ?_; clear hK K hG G; repeat (with_reducible first | refine thenI ?_ | refine thenE ?_ | refine thenR ?_ | refine inBI ?_ | refine inBR ?_ | refine inBS ?_ | refine inBN (by decide) ?_)
    repeat (first | with_reducible (first | refine thenI ?_ | refine thenE ?_ | refine thenR ?_ | refine inBI ?_ | refine inBR ?_ | refine inBS ?_ | refine inBN (by decide) ?_) | refine W_seqS ?_ | refine W_seqC ?_ | refine W_seqB ?_ | refine W_block ?_ | refine W_skip ?_ | (apply W_condB; (case hc => (simp (disch := omega) only [go_sem, ↓reduceIte, Nat.reduceEqDiff, q1, q2, q3, q4, q5, q6, q7, hlen, hlv, e2, e3, e5, e10, l5, c1, hi, idxA, Int.toNat_natCast, hn]); rfl); first | refine qzT ?_ | refine qzF ?_) | ((first | refine W_reg rfl fun G K hG hK => ?_ | refine W_end rfl fun G K hG hK => ?_); simp (disch := omega) only [go_sem, ↓reduceIte, Nat.reduceEqDiff, hG, q1, q2, q3, q4, q5, q6, q7, hlen, hlv, e2, e3, e5, e10, l5, c1, hi, idxA, Int.toNat_natCast, hn]; refine hK _ _ ?_; clear hK K hG G))
    refine ⟨vs.length - (j + 1), by omega, j + 1, rfl, by omega, rfl, hfd, (by refine ⟨?_, ?_, ?_, ?_, ?_⟩ <;> ((simp (disch := omega) only [go_sem, ↓reduceIte, Nat.reduceEqDiff, q1, q2, q3, q4, q5, q6, q7, hlen, hlv, e2, e3, e5, e10, l5, c1, hi, idxA, Int.toNat_natCast]); try rfl))⟩
  ·have c1 : decide ((j : Int) < (vs.length : Int)) = false := by simpa using hlt
   have hjn : j = vs.length := by omega
   subst hjn
   rw [List.drop_length] at hfd
   have hfd2 : lookV nm vs = none := hfd
   rw [hfd2]
   obtain ⟨r', sb, L', hap0, hown', hfr', hg⟩ := Sl.push (α := VSort) (t := 33) (u := 33) Try.underlying33 Try.underlying33 sz37 rfl by37 ze37 rfl hs hf hx0.length (Ext.refl st') (x := (⟨nm, w⟩ : VSort)) (cx := [.string nm, .string w]) (Lx := []) ⟨rfl, rfl⟩ ⟨by simp, by simp⟩ (by omega) (by omega)
   have hap : appendA Try.prog 33 33 s (.slice (some ⟨st'.length, 0, none⟩) 1 1) (st' ++ [⟨[.string nm, .string w], 37, 0⟩]) = some (r', sb) := hap0
   have ol' := hown'.loc
   repeat (first | with_reducible (first | refine thenI ?_ | refine thenE ?_ | refine thenR ?_ | refine inBI ?_ | refine inBR ?_ | refine inBS ?_ | refine inBN (by decide) ?_) | refine W_seqS ?_ | refine W_seqC ?_ | refine W_seqB ?_ | refine W_block ?_ | refine W_skip ?_ | (apply W_condB; (case hc => (simp (disch := omega) only [go_sem, ↓reduceIte, Nat.reduceEqDiff, q1, q2, q3, q4, q5, q6, q7, hlen, hlv, e2, e3, e5, e10, l5, c1]); rfl); first | refine qzT ?_ | refine qzF ?_) | ((first | refine W_reg rfl fun G K hG hK => ?_ | refine W_end rfl fun G K hG hK => ?_); simp (disch := omega) only [go_sem, ↓reduceIte, Nat.reduceEqDiff, hG, q1, q2, q3, q4, q5, q6, q7, hlen, hlv, e2, e3, e5, e10, l5, c1]; refine hK _ _ ?_; clear hK K hG G))
   refine W_exit ?_; repeat (with_reducible first | refine thenI ?_ | refine thenE ?_ | refine thenR ?_ | refine inBI ?_ | refine inBR ?_ | refine inBS ?_ | refine inBN (by decide) ?_)
   repeat (first | with_reducible (first | refine thenI ?_ | refine thenE ?_ | refine thenR ?_ | refine inBI ?_ | refine inBR ?_ | refine inBS ?_ | refine inBN (by decide) ?_) | refine W_seqS ?_ | refine W_seqC ?_ | refine W_seqB ?_ | refine W_block ?_ | refine W_skip ?_ | (apply W_condB; (case hc => (simp (disch := omega) only [go_sem, ↓reduceIte, Nat.reduceEqDiff, q1, q2, q3, q4, q5, q6, q7, hlen, hlv, e2, e3, e5, e10, l5, c1]); rfl); first | refine qzT ?_ | refine qzF ?_) | ((first | refine W_reg rfl fun G K hG hK => ?_ | refine W_end rfl fun G K hG hK => ?_); simp (disch := omega) only [go_sem, ↓reduceIte, Nat.reduceEqDiff, hG, q1, q2, q3, q4, q5, q6, q7, hlen, hlv, e2, e3, e5, e10, l5, c1]; refine hK _ _ ?_; clear hK K hG G))
   (repeat (first | refine W_seqS ?_ | refine W_seqC ?_ | refine W_seqB ?_ | refine W_block ?_)); refine W_reg rfl fun G K hG hK => ?_; simp (disch := omega) only [go_sem, ↓reduceIte, Nat.reduceEqDiff, hG, q1, q2, q3, q4, q5, q6, q7, hlen, hlv, e2, e3, e5, e10, l5, c1, w_append, hap, ol', Nat.reduceAdd, Nat.reduceLeDiff]
   refine hK _ _ ?_; clear hK K hG G; repeat (with_reducible first | refine thenI ?_ | refine thenE ?_ | refine thenR ?_ | refine inBI ?_ | refine inBR ?_ | refine inBS ?_ | refine inBN (by decide) ?_)
   repeat (first | with_reducible (first | refine thenI ?_ | refine thenE ?_ | refine thenR ?_ | refine inBI ?_ | refine inBR ?_ | refine inBS ?_ | refine inBN (by decide) ?_) | refine W_seqS ?_ | refine W_seqC ?_ | refine W_seqB ?_ | refine W_block ?_ | refine W_skip ?_ | (apply W_condB; (case hc => (simp (disch := omega) only [go_sem, ↓reduceIte, Nat.reduceEqDiff, q1, q2, q3, q4, q5, q6, q7, hlen, hlv, e2, e3, e5, e10, l5, c1]); rfl); first | refine qzT ?_ | refine qzF ?_) | ((first | refine W_reg rfl fun G K hG hK => ?_ | refine W_end rfl fun G K hG hK => ?_); simp (disch := omega) only [go_sem, ↓reduceIte, Nat.reduceEqDiff, hG, q1, q2, q3, q4, q5, q6, q7, hlen, hlv, e2, e3, e5, e10, l5, c1]; refine hK _ _ ?_; clear hK K hG G))
   refine W_ret ?_; try (repeat (with_reducible first | refine thenI ?_ | refine thenE ?_ | refine thenR ?_ | refine inBI ?_ | refine inBR ?_ | refine inBS ?_ | refine inBN (by decide) ?_))
   refine fin2 (.inl rfl) (by (simp (disch := omega) only [go_sem, ↓reduceIte, Nat.reduceEqDiff, q1, q2, q3, q4, q5, q6, q7, hlen, hlv, e2, e3, e5, e10, l5, c1]); try rfl) ol' (by (simp (disch := omega) only [go_sem, ↓reduceIte, Nat.reduceEqDiff, q1, q2, q3, q4, q5, q6, q7, hlen, hlv, e2, e3, e5, e10, l5, c1]); try rfl) rfl ⟨hg.away.ext_of hx0 (hs.top hf), r', L', rfl, hown', hfr', hg⟩
 | false =>
  rw [T.inferF_app hk]
  repeat (first | with_reducible (first | refine thenI ?_ | refine thenE ?_ | refine thenR ?_ | refine inBI ?_ | refine inBR ?_ | refine inBS ?_ | refine inBN (by decide) ?_) | refine W_seqS ?_ | refine W_seqC ?_ | refine W_seqB ?_ | refine W_block ?_ | refine W_skip ?_ | (apply W_condB; (case hc => (simp (disch := omega) only [go_sem, ↓reduceIte, Nat.reduceEqDiff, q1, q2, q3, q4, q5, q6, q7, hlen, hk]); rfl); first | refine qzT ?_ | refine qzF ?_) | ((first | refine W_reg rfl fun G K hG hK => ?_ | refine W_end rfl fun G K hG hK => ?_); simp (disch := omega) only [go_sem, ↓reduceIte, Nat.reduceEqDiff, hG, q1, q2, q3, q4, q5, q6, q7, hlen, hk]; refine hK _ _ ?_; clear hK K hG G))
  refine W_to (fun fr st' => ∃ (so : Value) (no : ByteArray) (mo : ByteArray) (Lo : List Nat), (Ext st st') ∧ (Sl st' (opOf g k nm).args so Lo) ∧ (Fresh st.length Lo) ∧ (fr.env 3 = s) ∧ (fr.env 4 = .pointer (some ⟨4, 0, some 1⟩)) ∧ (fr.env 5 = .pointer (some ⟨5, 0, some 1⟩)) ∧ (fr.env 11 = .pointer (some ⟨11, 0, some 1⟩)) ∧ (fr.loc 4 = (1, [sa, ua])) ∧ (fr.loc 5 = (1, [.int .i64 k, .int .i64 n, .string nm, s1])) ∧ (fr.loc 11 = (1, [.string no, so, .string mo]))) ?_ ?_
  ·cases hk2 : (k == 2) with
   | true =>
    have ho2 : opOf g k nm = (findOp g nm).1 := by unfold opOf; rw [hk2]; rfl
    rw [ho2]
    repeat (first | with_reducible (first | refine thenI ?_ | refine thenE ?_ | refine thenR ?_ | refine inBI ?_ | refine inBR ?_ | refine inBS ?_ | refine inBN (by decide) ?_) | refine W_seqS ?_ | refine W_seqC ?_ | refine W_seqB ?_ | refine W_block ?_ | refine W_skip ?_ | (apply W_condB; (case hc => (simp (disch := omega) only [go_sem, ↓reduceIte, Nat.reduceEqDiff, q1, q2, q3, q4, q5, q6, q7, hlen, hk, hk2]); rfl); first | refine qzT ?_ | refine qzF ?_) | ((first | refine W_reg rfl fun G K hG hK => ?_ | refine W_end rfl fun G K hG hK => ?_); simp (disch := omega) only [go_sem, ↓reduceIte, Nat.reduceEqDiff, hG, q1, q2, q3, q4, q5, q6, q7, hlen, hk, hk2]; refine hK _ _ ?_; clear hK K hG G))
    refine W_end rfl fun G K hG hK => ?_; simp (disch := omega) only [go_sem, ↓reduceIte, Nat.reduceEqDiff, hG, q1, q2, q3, q4, q5, q6, q7, hlen]
    refine w_call (specFindOp_ok g nm st _ hlg (hG'.ext hx0)) (by simp (disch := omega) only [go_sem, ↓reduceIte, Nat.reduceEqDiff, q1, q2, q3, q4, q5, q6, q7, hlen]) ?hl ?_
    case hl => first | rfl | (simp only [go_sem, List.all_cons, List.all_nil, Bool.not_false, Bool.and_self, q1, q2, q3, q4, q5, q6, q7, hlen]; done)
    rintro r_ sb ⟨x1, ds, Lo, rfl, ho, hfo⟩; refine ⟨fun e => (by cases e), ?_⟩
    obtain ⟨so, rfl, hso⟩ := ho
    have a1 := hso.okv
    have a2 := hso.loc
    have a3 := hso.cells
    simp (disch := omega) only [go_sem, ↓reduceIte, Nat.reduceEqDiff, hG, q1, q2, q3, q4, q5, q6, q7, hlen, a1, a2, a3]; refine hK _ _ ?_; clear hK K hG G; repeat (with_reducible first | refine thenI ?_ | refine thenE ?_ | refine thenR ?_ | refine inBI ?_ | refine inBR ?_ | refine inBS ?_ | refine inBN (by decide) ?_)
    exact ⟨so, _, _, Lo, x1, hso, hfo, (by refine ⟨?_, ?_, ?_, ?_, ?_, ?_, ?_⟩ <;> ((simp (disch := omega) only [go_sem, ↓reduceIte, Nat.reduceEqDiff, q1, q2, q3, q4, q5, q6, q7, hlen]); try rfl))⟩
   | false =>
    have ho2 : opOf g k nm = Opr.zero := by unfold opOf; rw [hk2]; rfl
    rw [ho2]
    repeat (first | with_reducible (first | refine thenI ?_ | refine thenE ?_ | refine thenR ?_ | refine inBI ?_ | refine inBR ?_ | refine inBS ?_ | refine inBN (by decide) ?_) | refine W_seqS ?_ | refine W_seqC ?_ | refine W_seqB ?_ | refine W_block ?_ | refine W_skip ?_ | (apply W_condB; (case hc => (simp (disch := omega) only [go_sem, ↓reduceIte, Nat.reduceEqDiff, q1, q2, q3, q4, q5, q6, q7, hlen, hk, hk2]); rfl); first | refine qzT ?_ | refine qzF ?_) | ((first | refine W_reg rfl fun G K hG hK => ?_ | refine W_end rfl fun G K hG hK => ?_); simp (disch := omega) only [go_sem, ↓reduceIte, Nat.reduceEqDiff, hG, q1, q2, q3, q4, q5, q6, q7, hlen, hk, hk2]; refine hK _ _ ?_; clear hK K hG G))
    exact ⟨.slice none 0 0, ⟨#[]⟩, ⟨#[]⟩, [], Ext.refl _, Sl.nil _, .nil _, (by refine ⟨?_, ?_, ?_, ?_, ?_, ?_, ?_⟩ <;> ((simp (disch := omega) only [go_sem, ↓reduceIte, Nat.reduceEqDiff, q1, q2, q3, q4, q5, q6, q7, hlen]); try rfl))⟩
  rintro ⟨env, loc⟩ st' ⟨so, no, mo, Lo, hxs, hso, hfo, e3, e4, e5, e11, l4, l5, l11⟩
  simp only at e3 e4 e5 e11 l4 l5 l11
  have ho1 := hso.okv
  have ho2 := hso.loc
  have hlo : lenE Try.prog 24 so = some (.int .i64 (opOf g k nm).args.length) := row_len hso.row Try.underlying24
  generalize (opOf g k nm).args = os at hso hlo
  generalize hsA : st' = sA at hxs hso
  have hs1 := hs.ext hxs
  have hdis := hs.topOff hfo
  repeat (first | with_reducible (first | refine thenI ?_ | refine thenE ?_ | refine thenR ?_ | refine inBI ?_ | refine inBR ?_ | refine inBS ?_ | refine inBN (by decide) ?_) | refine W_seqS ?_ | refine W_seqC ?_ | refine W_seqB ?_ | refine W_block ?_ | refine W_skip ?_ | (apply W_condB; (case hc => (simp (disch := omega) only [go_sem, ↓reduceIte, Nat.reduceEqDiff, q1, q2, q3, q4, q5, q6, q7, hlen, e3, e4, e5, e11, l4, l5, l11, ho1, ho2, hlo]); rfl); first | refine qzT ?_ | refine qzF ?_) | ((first | refine W_reg rfl fun G K hG hK => ?_ | refine W_end rfl fun G K hG hK => ?_); simp (disch := omega) only [go_sem, ↓reduceIte, Nat.reduceEqDiff, hG, q1, q2, q3, q4, q5, q6, q7, hlen, e3, e4, e5, e11, l4, l5, l11, ho1, ho2, hlo]; refine hK _ _ ?_; clear hK K hG G))
  refine W_loop (fun d fr st' => ∃ (j : Nat) (vs1 : List VSort) (r : Value) (L1 : List Nat), d = args.length - j ∧ j ≤ args.length ∧ (Grow sA s st' r) ∧ (Sl st' vs1 r L1) ∧ (Fresh s0.length L1) ∧ (T.inferL g (args.drop j) (os.drop j) vs1 = T.inferL g args os vs) ∧ (vs1.length + T.wtL (args.drop j) + (args.length - j) + 1 ≤ 1073741824) ∧ (fr.env 3 = r) ∧ (fr.env 4 = .pointer (some ⟨4, 0, some 1⟩)) ∧ (fr.env 5 = .pointer (some ⟨5, 0, some 1⟩)) ∧ (fr.env 11 = .pointer (some ⟨11, 0, some 1⟩)) ∧ (fr.env 12 = .int .i64 j) ∧ (fr.loc 4 = (1, [sa, ua])) ∧ (fr.loc 5 = (1, [.int .i64 k, .int .i64 n, .string nm, s1])) ∧ (fr.loc 11 = (1, [.string no, so, .string mo]))) (args.length) ?_ ?_
  ·exact ⟨0, vs, s, L, by omega, by omega, Grow.refl _ _, hs1, hf, by simp, by simp only [List.drop_zero]; omega, (by refine ⟨?_, ?_, ?_, ?_, ?_, ?_, ?_, ?_⟩ <;> ((simp (disch := omega) only [go_sem, ↓reduceIte, Nat.reduceEqDiff, q1, q2, q3, q4, q5, q6, q7, hlen, e3, e4, e5, e11, l4, l5, l11, ho1, ho2, hlo]); try rfl))⟩
  clear e3 e4 e5 e11 l4 l5 l11
  rintro d ⟨env, loc⟩ st' ⟨j, vs1, r, L1, hd, hj, hgr, hown, hfr, hinf, hln, e3, e4, e5, e11, e12, l4, l5, l11⟩
  simp only at e3 e4 e5 e11 e12 l4 l5 l11
  by_cases hlt : j < args.length
  ·have c1 : decide ((j : Int) < (args.length : Int)) = true := by simpa using hlt
   have hi := idxOk hlt
   have hx : args[j]? = some args[j] := List.getElem?_eq_getElem hlt
   have htk : args.take (j + 1) = args.take j ++ [args[j]] := List.take_succ_eq_append_getElem hlt
   obtain ⟨i, o, c, cs, rfl, hcl, hE', hcs⟩ := row_at hr hx
   have hext : Ext s0 st' := hgr.away.ext_of (hx0.trans hxs) (hs.top hf)
   have hld := fun loc => load_row (A := []) (loc := loc) ag30 sz30 hcl (hcs.ext hext)
   obtain ⟨v0, v1, v2, v3, rfl⟩ : ∃ v0 v1 v2 v3, cs = [v0, v1, v2, v3] := by
    match cs, hcl with
    | [v0, v1, v2, v3], _ => exact ⟨v0, v1, v2, v3, rfl⟩
   obtain ⟨ka, na, ma, sa', hce, c1', c2', c3'⟩ := hE'.args_cells
   cases hce
   have ol := hown.loc
   have hwd := T.wtL_drop hx
   obtain ⟨hsoS, _⟩ := hso.growA hgr hdis
   have hil := T.inferF_len g args[j]
   rw [List.drop_eq_getElem_cons hlt] at hinf
   simp only [T.inferL] at hinf
   by_cases hja : j < os.length
   ·have c9 : decide ((j : Int) < (os.length : Int)) = true := by simpa using hja
    obtain ⟨i2, o2, c2, hse2, hce2⟩ := row_atS hsoS.row (List.getElem?_eq_getElem hja)
    have hi2 := idxOk hja
    have hhd : (os.drop j).headD emptyB = os[j] := by rw [List.drop_eq_getElem_cons hja]; rfl
    rw [hhd] at hinf
    have htl : (os.drop j).tail = os.drop (j + 1) := by rw [List.tail_drop]
    rw [htl] at hinf
    subst hse2
    repeat (first | with_reducible (first | refine thenI ?_ | refine thenE ?_ | refine thenR ?_ | refine inBI ?_ | refine inBR ?_ | refine inBS ?_ | refine inBN (by decide) ?_) | refine W_seqS ?_ | refine W_seqC ?_ | refine W_seqB ?_ | refine W_block ?_ | refine W_skip ?_ | (apply W_condB; (case hc => (simp (disch := omega) only [go_sem, ↓reduceIte, Nat.reduceEqDiff, q1, q2, q3, q4, q5, q6, q7, hlen, ho1, ho2, hlo, e3, e4, e5, e11, e12, l4, l5, l11, c1, hi, idxA, Int.toNat_natCast, ol, c1', c2', c3', c9, hce2, hi2, ag9]); rfl); first | refine qzT ?_ | refine qzF ?_) | ((first | refine W_reg rfl fun G K hG hK => ?_ | refine W_end rfl fun G K hG hK => ?_); simp (disch := omega) only [go_sem, ↓reduceIte, Nat.reduceEqDiff, hG, q1, q2, q3, q4, q5, q6, q7, hlen, ho1, ho2, hlo, e3, e4, e5, e11, e12, l4, l5, l11, c1, hi, idxA, Int.toNat_natCast, ol, c1', c2', c3', c9, hce2, hi2, ag9]; refine hK _ _ ?_; clear hK K hG G))
    (repeat (first | refine W_seqS ?_ | refine W_seqC ?_ | refine W_seqB ?_ | refine W_block ?_)); refine W_regD mixed [] [(0,false),(1,false),(2,false),(3,false),(4,false),(5,false),(6,false),(7,false),(8,false),(9,false),(10,false),(11,false),(12,false),(13,false)] rfl (by decide +kernel) fun G K hG hK => ?_; simp only [pickOps, List.filterMap_cons, List.filterMap_nil, List.getElem?_cons_zero, List.getElem?_cons_succ, Option.map_some]; simp (disch := omega) only [go_sem, ↓reduceIte, Nat.reduceEqDiff, hG, q1, q2, q3, q4, q5, q6, q7, hlen, ho1, ho2, hlo, e3, e4, e5, e11, e12, l4, l5, l11, c1, hi, idxA, Int.toNat_natCast, ol, c1', c2', c3', hld]
    refine w_call (ih args[j] (List.getElem_mem hlt) os[j] s0 st' _ _ vs1 r L1 (hlt0.args.2 _ (List.getElem_mem hlt)) (by omega) hext hG' hE' hown hfr) (by simp (disch := omega) only [go_sem, ↓reduceIte, Nat.reduceEqDiff, q1, q2, q3, q4, q5, q6, q7, hlen, ho1, ho2, hlo, e3, e4, e5, e11, e12, l4, l5, l11, c1, hi, idxA, Int.toNat_natCast, ol, c1', c2', c3']) ?hl ?_
    case hl => first | rfl | (simp only [go_sem, List.all_cons, List.all_nil, Bool.not_false, Bool.and_self, q1, q2, q3, q4, q5, q6, q7, hlen, ho1, ho2, hlo, e3, e4, e5, e11, e12, l4, l5, l11, c1, hi, idxA, Int.toNat_natCast, ol, c1', c2', c3']; done)
    rintro r_ sb ⟨x1, hres⟩; refine ⟨fun e => (by cases e), ?_⟩
    cases hmf : T.inferF g args[j] os[j] vs1 with
    | none =>
     rw [hmf] at hres hinf
     obtain ⟨v, hv, rfl⟩ := hres
     simp (disch := omega) only [go_sem, ↓reduceIte, Nat.reduceEqDiff, hG, q1, q2, q3, q4, q5, q6, q7, hlen, ho1, ho2, hlo, e3, e4, e5, e11, e12, l4, l5, l11, c1, hi, idxA, Int.toNat_natCast, ol, c1', c2', c3', hv]; refine hK _ _ ?_; clear hK K hG G; repeat (with_reducible first | refine thenI ?_ | refine thenE ?_ | refine thenR ?_ | refine inBI ?_ | refine inBR ?_ | refine inBS ?_ | refine inBN (by decide) ?_)
     repeat (first | with_reducible (first | refine thenI ?_ | refine thenE ?_ | refine thenR ?_ | refine inBI ?_ | refine inBR ?_ | refine inBS ?_ | refine inBN (by decide) ?_) | refine W_seqS ?_ | refine W_seqC ?_ | refine W_seqB ?_ | refine W_block ?_ | refine W_skip ?_ | (apply W_condB; (case hc => (simp (disch := omega) only [go_sem, ↓reduceIte, Nat.reduceEqDiff, q1, q2, q3, q4, q5, q6, q7, hlen, ho1, ho2, hlo, e3, e4, e5, e11, e12, l4, l5, l11, c1, hi, idxA, Int.toNat_natCast, ol, c1', c2', c3', hv]); rfl); first | refine qzT ?_ | refine qzF ?_) | ((first | refine W_reg rfl fun G K hG hK => ?_ | refine W_end rfl fun G K hG hK => ?_); simp (disch := omega) only [go_sem, ↓reduceIte, Nat.reduceEqDiff, hG, q1, q2, q3, q4, q5, q6, q7, hlen, ho1, ho2, hlo, e3, e4, e5, e11, e12, l4, l5, l11, c1, hi, idxA, Int.toNat_natCast, ol, c1', c2', c3', hv]; refine hK _ _ ?_; clear hK K hG G))
     rw [← hinf]
     refine W_ret ?_; try (repeat (with_reducible first | refine thenI ?_ | refine thenE ?_ | refine thenR ?_ | refine inBI ?_ | refine inBR ?_ | refine inBS ?_ | refine inBN (by decide) ?_))
     refine fin2 (.inl rfl) (by (simp (disch := omega) only [go_sem, ↓reduceIte, Nat.reduceEqDiff, q1, q2, q3, q4, q5, q6, q7, hlen, ho1, ho2, hlo, e3, e4, e5, e11, e12, l4, l5, l11, c1, hi, idxA, Int.toNat_natCast, ol, c1', c2', c3']); try rfl) rfl (by (simp (disch := omega) only [go_sem, ↓reduceIte, Nat.reduceEqDiff, q1, q2, q3, q4, q5, q6, q7, hlen, ho1, ho2, hlo, e3, e4, e5, e11, e12, l4, l5, l11, c1, hi, idxA, Int.toNat_natCast, ol, c1', c2', c3']); try rfl) rfl ⟨x1.trans (Ext.app _ _), _, rfl, rfl⟩
    | some l2 =>
     rw [hmf] at hres hinf
     obtain ⟨v, L2, rfl, hown2, hfr2, hg2⟩ := hres
     have ov := hown2.loc
     have hl2 := hil _ _ _ hmf
     simp (disch := omega) only [go_sem, ↓reduceIte, Nat.reduceEqDiff, hG, q1, q2, q3, q4, q5, q6, q7, hlen, ho1, ho2, hlo, e3, e4, e5, e11, e12, l4, l5, l11, c1, hi, idxA, Int.toNat_natCast, ol, c1', c2', c3', ov]; refine hK _ _ ?_; clear hK K hG G; repeat (with_reducible first | refine thenI ?_ | refine thenE ?_ | refine thenR ?_ | refine inBI ?_ | refine inBR ?_ | refine inBS ?_ | refine inBN (by decide) ?_)
     repeat (first | with_reducible (first | refine thenI ?_ | refine thenE ?_ | refine thenR ?_ | refine inBI ?_ | refine inBR ?_ | refine inBS ?_ | refine inBN (by decide) ?_) | refine W_seqS ?_ | refine W_seqC ?_ | refine W_seqB ?_ | refine W_block ?_ | refine W_skip ?_ | (apply W_condB; (case hc => (simp (disch := omega) only [go_sem, ↓reduceIte, Nat.reduceEqDiff, q1, q2, q3, q4, q5, q6, q7, hlen, ho1, ho2, hlo, e3, e4, e5, e11, e12, l4, l5, l11, c1, hi, idxA, Int.toNat_natCast, ol, c1', c2', c3', ov]); rfl); first | refine qzT ?_ | refine qzF ?_) | ((first | refine W_reg rfl fun G K hG hK => ?_ | refine W_end rfl fun G K hG hK => ?_); simp (disch := omega) only [go_sem, ↓reduceIte, Nat.reduceEqDiff, hG, q1, q2, q3, q4, q5, q6, q7, hlen, ho1, ho2, hlo, e3, e4, e5, e11, e12, l4, l5, l11, c1, hi, idxA, Int.toNat_natCast, ol, c1', c2', c3', ov]; refine hK _ _ ?_; clear hK K hG G))
     refine ⟨args.length - (j + 1), by omega, j + 1, l2, v, L2, rfl, by omega, hgr.trans hg2, hown2, hfr2, hinf, by omega, (by refine ⟨?_, ?_, ?_, ?_, ?_, ?_, ?_, ?_⟩ <;> ((simp (disch := omega) only [go_sem, ↓reduceIte, Nat.reduceEqDiff, q1, q2, q3, q4, q5, q6, q7, hlen, ho1, ho2, hlo, e3, e4, e5, e11, e12, l4, l5, l11, c1, hi, idxA, Int.toNat_natCast, ol, c1', c2', c3']); try rfl))⟩
   ·have c9 : decide ((j : Int) < (os.length : Int)) = false := by simpa using hja
    have hhd : (os.drop j).headD emptyB = (⟨#[]⟩ : ByteArray) := by rw [List.drop_eq_nil_of_le (by omega)]; rfl
    rw [hhd] at hinf
    have htl : (os.drop j).tail = os.drop (j + 1) := by rw [List.tail_drop]
    rw [htl] at hinf
    repeat (first | with_reducible (first | refine thenI ?_ | refine thenE ?_ | refine thenR ?_ | refine inBI ?_ | refine inBR ?_ | refine inBS ?_ | refine inBN (by decide) ?_) | refine W_seqS ?_ | refine W_seqC ?_ | refine W_seqB ?_ | refine W_block ?_ | refine W_skip ?_ | (apply W_condB; (case hc => (simp (disch := omega) only [go_sem, ↓reduceIte, Nat.reduceEqDiff, q1, q2, q3, q4, q5, q6, q7, hlen, ho1, ho2, hlo, e3, e4, e5, e11, e12, l4, l5, l11, c1, hi, idxA, Int.toNat_natCast, ol, c1', c2', c3', c9]); rfl); first | refine qzT ?_ | refine qzF ?_) | ((first | refine W_reg rfl fun G K hG hK => ?_ | refine W_end rfl fun G K hG hK => ?_); simp (disch := omega) only [go_sem, ↓reduceIte, Nat.reduceEqDiff, hG, q1, q2, q3, q4, q5, q6, q7, hlen, ho1, ho2, hlo, e3, e4, e5, e11, e12, l4, l5, l11, c1, hi, idxA, Int.toNat_natCast, ol, c1', c2', c3', c9]; refine hK _ _ ?_; clear hK K hG G))
    (repeat (first | refine W_seqS ?_ | refine W_seqC ?_ | refine W_seqB ?_ | refine W_block ?_)); refine W_regD mixed [] [(0,false),(1,false),(2,false),(3,false),(4,false),(5,false),(6,false),(7,false),(8,false),(9,false),(10,false),(11,false),(12,false),(13,false)] rfl (by decide +kernel) fun G K hG hK => ?_; simp only [pickOps, List.filterMap_cons, List.filterMap_nil, List.getElem?_cons_zero, List.getElem?_cons_succ, Option.map_some]; simp (disch := omega) only [go_sem, ↓reduceIte, Nat.reduceEqDiff, hG, q1, q2, q3, q4, q5, q6, q7, hlen, ho1, ho2, hlo, e3, e4, e5, e11, e12, l4, l5, l11, c1, hi, idxA, Int.toNat_natCast, ol, c1', c2', c3', hld]
    refine w_call (ih args[j] (List.getElem_mem hlt) (⟨#[]⟩ : ByteArray) s0 st' _ _ vs1 r L1 (hlt0.args.2 _ (List.getElem_mem hlt)) (by omega) hext hG' hE' hown hfr) (by simp (disch := omega) only [go_sem, ↓reduceIte, Nat.reduceEqDiff, q1, q2, q3, q4, q5, q6, q7, hlen, ho1, ho2, hlo, e3, e4, e5, e11, e12, l4, l5, l11, c1, hi, idxA, Int.toNat_natCast, ol, c1', c2', c3']) ?hl ?_
    case hl => first | rfl | (simp only [go_sem, List.all_cons, List.all_nil, Bool.not_false, Bool.and_self, q1, q2, q3, q4, q5, q6, q7, hlen, ho1, ho2, hlo, e3, e4, e5, e11, e12, l4, l5, l11, c1, hi, idxA, Int.toNat_natCast, ol, c1', c2', c3']; done)
    rintro r_ sb ⟨x1, hres⟩; refine ⟨fun e => (by cases e), ?_⟩
    cases hmf : T.inferF g args[j] (⟨#[]⟩ : ByteArray) vs1 with
    | none =>
     rw [hmf] at hres hinf
     obtain ⟨v, hv, rfl⟩ := hres
     simp (disch := omega) only [go_sem, ↓reduceIte, Nat.reduceEqDiff, hG, q1, q2, q3, q4, q5, q6, q7, hlen, ho1, ho2, hlo, e3, e4, e5, e11, e12, l4, l5, l11, c1, hi, idxA, Int.toNat_natCast, ol, c1', c2', c3', hv]; refine hK _ _ ?_; clear hK K hG G; repeat (with_reducible first | refine thenI ?_ | refine thenE ?_ | refine thenR ?_ | refine inBI ?_ | refine inBR ?_ | refine inBS ?_ | refine inBN (by decide) ?_)
     repeat (first | with_reducible (first | refine thenI ?_ | refine thenE ?_ | refine thenR ?_ | refine inBI ?_ | refine inBR ?_ | refine inBS ?_ | refine inBN (by decide) ?_) | refine W_seqS ?_ | refine W_seqC ?_ | refine W_seqB ?_ | refine W_block ?_ | refine W_skip ?_ | (apply W_condB; (case hc => (simp (disch := omega) only [go_sem, ↓reduceIte, Nat.reduceEqDiff, q1, q2, q3, q4, q5, q6, q7, hlen, ho1, ho2, hlo, e3, e4, e5, e11, e12, l4, l5, l11, c1, hi, idxA, Int.toNat_natCast, ol, c1', c2', c3', hv]); rfl); first | refine qzT ?_ | refine qzF ?_) | ((first | refine W_reg rfl fun G K hG hK => ?_ | refine W_end rfl fun G K hG hK => ?_); simp (disch := omega) only [go_sem, ↓reduceIte, Nat.reduceEqDiff, hG, q1, q2, q3, q4, q5, q6, q7, hlen, ho1, ho2, hlo, e3, e4, e5, e11, e12, l4, l5, l11, c1, hi, idxA, Int.toNat_natCast, ol, c1', c2', c3', hv]; refine hK _ _ ?_; clear hK K hG G))
     rw [← hinf]
     refine W_ret ?_; try (repeat (with_reducible first | refine thenI ?_ | refine thenE ?_ | refine thenR ?_ | refine inBI ?_ | refine inBR ?_ | refine inBS ?_ | refine inBN (by decide) ?_))
     refine fin2 (.inl rfl) (by (simp (disch := omega) only [go_sem, ↓reduceIte, Nat.reduceEqDiff, q1, q2, q3, q4, q5, q6, q7, hlen, ho1, ho2, hlo, e3, e4, e5, e11, e12, l4, l5, l11, c1, hi, idxA, Int.toNat_natCast, ol, c1', c2', c3']); try rfl) rfl (by (simp (disch := omega) only [go_sem, ↓reduceIte, Nat.reduceEqDiff, q1, q2, q3, q4, q5, q6, q7, hlen, ho1, ho2, hlo, e3, e4, e5, e11, e12, l4, l5, l11, c1, hi, idxA, Int.toNat_natCast, ol, c1', c2', c3']); try rfl) rfl ⟨x1.trans (Ext.app _ _), _, rfl, rfl⟩
    | some l2 =>
     rw [hmf] at hres hinf
     obtain ⟨v, L2, rfl, hown2, hfr2, hg2⟩ := hres
     have ov := hown2.loc
     have hl2 := hil _ _ _ hmf
     simp (disch := omega) only [go_sem, ↓reduceIte, Nat.reduceEqDiff, hG, q1, q2, q3, q4, q5, q6, q7, hlen, ho1, ho2, hlo, e3, e4, e5, e11, e12, l4, l5, l11, c1, hi, idxA, Int.toNat_natCast, ol, c1', c2', c3', ov]; refine hK _ _ ?_; clear hK K hG G; repeat (with_reducible first | refine thenI ?_ | refine thenE ?_ | refine thenR ?_ | refine inBI ?_ | refine inBR ?_ | refine inBS ?_ | refine inBN (by decide) ?_)
     repeat (first | with_reducible (first | refine thenI ?_ | refine thenE ?_ | refine thenR ?_ | refine inBI ?_ | refine inBR ?_ | refine inBS ?_ | refine inBN (by decide) ?_) | refine W_seqS ?_ | refine W_seqC ?_ | refine W_seqB ?_ | refine W_block ?_ | refine W_skip ?_ | (apply W_condB; (case hc => (simp (disch := omega) only [go_sem, ↓reduceIte, Nat.reduceEqDiff, q1, q2, q3, q4, q5, q6, q7, hlen, ho1, ho2, hlo, e3, e4, e5, e11, e12, l4, l5, l11, c1, hi, idxA, Int.toNat_natCast, ol, c1', c2', c3', ov]); rfl); first | refine qzT ?_ | refine qzF ?_) | ((first | refine W_reg rfl fun G K hG hK => ?_ | refine W_end rfl fun G K hG hK => ?_); simp (disch := omega) only [go_sem, ↓reduceIte, Nat.reduceEqDiff, hG, q1, q2, q3, q4, q5, q6, q7, hlen, ho1, ho2, hlo, e3, e4, e5, e11, e12, l4, l5, l11, c1, hi, idxA, Int.toNat_natCast, ol, c1', c2', c3', ov]; refine hK _ _ ?_; clear hK K hG G))
     refine ⟨args.length - (j + 1), by omega, j + 1, l2, v, L2, rfl, by omega, hgr.trans hg2, hown2, hfr2, hinf, by omega, (by refine ⟨?_, ?_, ?_, ?_, ?_, ?_, ?_, ?_⟩ <;> ((simp (disch := omega) only [go_sem, ↓reduceIte, Nat.reduceEqDiff, q1, q2, q3, q4, q5, q6, q7, hlen, ho1, ho2, hlo, e3, e4, e5, e11, e12, l4, l5, l11, c1, hi, idxA, Int.toNat_natCast, ol, c1', c2', c3']); try rfl))⟩
  ·have c1 : decide ((j : Int) < (args.length : Int)) = false := by simpa using hlt
   have hjn : j = args.length := by omega
   subst hjn
   have hnil : args.drop args.length = [] := List.drop_length
   rw [hnil] at hinf
   simp only [T.inferL] at hinf
   have ol := hown.loc
   repeat (first | with_reducible (first | refine thenI ?_ | refine thenE ?_ | refine thenR ?_ | refine inBI ?_ | refine inBR ?_ | refine inBS ?_ | refine inBN (by decide) ?_) | refine W_seqS ?_ | refine W_seqC ?_ | refine W_seqB ?_ | refine W_block ?_ | refine W_skip ?_ | (apply W_condB; (case hc => (simp (disch := omega) only [go_sem, ↓reduceIte, Nat.reduceEqDiff, q1, q2, q3, q4, q5, q6, q7, hlen, ho1, ho2, hlo, e3, e4, e5, e11, e12, l4, l5, l11, c1]); rfl); first | refine qzT ?_ | refine qzF ?_) | ((first | refine W_reg rfl fun G K hG hK => ?_ | refine W_end rfl fun G K hG hK => ?_); simp (disch := omega) only [go_sem, ↓reduceIte, Nat.reduceEqDiff, hG, q1, q2, q3, q4, q5, q6, q7, hlen, ho1, ho2, hlo, e3, e4, e5, e11, e12, l4, l5, l11, c1]; refine hK _ _ ?_; clear hK K hG G))
   refine W_exit ?_; repeat (with_reducible first | refine thenI ?_ | refine thenE ?_ | refine thenR ?_ | refine inBI ?_ | refine inBR ?_ | refine inBS ?_ | refine inBN (by decide) ?_)
   repeat (first | with_reducible (first | refine thenI ?_ | refine thenE ?_ | refine thenR ?_ | refine inBI ?_ | refine inBR ?_ | refine inBS ?_ | refine inBN (by decide) ?_) | refine W_seqS ?_ | refine W_seqC ?_ | refine W_seqB ?_ | refine W_block ?_ | refine W_skip ?_ | (apply W_condB; (case hc => (simp (disch := omega) only [go_sem, ↓reduceIte, Nat.reduceEqDiff, q1, q2, q3, q4, q5, q6, q7, hlen, ho1, ho2, hlo, e3, e4, e5, e11, e12, l4, l5, l11, c1]); rfl); first | refine qzT ?_ | refine qzF ?_) | ((first | refine W_reg rfl fun G K hG hK => ?_ | refine W_end rfl fun G K hG hK => ?_); simp (disch := omega) only [go_sem, ↓reduceIte, Nat.reduceEqDiff, hG, q1, q2, q3, q4, q5, q6, q7, hlen, ho1, ho2, hlo, e3, e4, e5, e11, e12, l4, l5, l11, c1]; refine hK _ _ ?_; clear hK K hG G))
   rw [← hinf]
   refine W_ret ?_; try (repeat (with_reducible first | refine thenI ?_ | refine thenE ?_ | refine thenR ?_ | refine inBI ?_ | refine inBR ?_ | refine inBS ?_ | refine inBN (by decide) ?_))
   refine fin2 (.inl rfl) (by (simp (disch := omega) only [go_sem, ↓reduceIte, Nat.reduceEqDiff, q1, q2, q3, q4, q5, q6, q7, hlen, ho1, ho2, hlo, e3, e4, e5, e11, e12, l4, l5, l11, c1]); try rfl) ol (by (simp (disch := omega) only [go_sem, ↓reduceIte, Nat.reduceEqDiff, q1, q2, q3, q4, q5, q6, q7, hlen, ho1, ho2, hlo, e3, e4, e5, e11, e12, l4, l5, l11, c1]); try rfl) rfl ⟨hgr.away.ext_of (hx0.trans hxs) (hs.top hf), r, L1, rfl, hown, hfr, (Grow.of_ext hxs s).trans hgr⟩

end

section
/- Sorts of terms: impl.SortOf, spec.l6Var, spec.SortOf; impl.InferVars, spec.InferVars. -/
open Go Go.Proofs
set_option linter.unusedVariables false
set_option linter.unusedSimpArgs false
set_option maxRecDepth 100000
-- AUTO

theorem l6Var_ok (vs : List VSort) (nm : ByteArray) (st : St) (v : Value) (hb : vs.length ≤ 1073741824) (hV : Rw st vs v) :
  CallS Try.prog 24 [v, .string nm] st fun r st2 => r = .string (lookS nm vs) ∧ st2 = st := by
 refine CallS_of_W [] 24 Try.func24 rfl rfl rfl rfl (by simp) ?_
 have hlv : lenE Try.prog 33 v = some (.int .i64 vs.length) := row_len hV Try.underlying33
 have q7 := hV.notLoc.1
 repeat (first | with_reducible (first | refine thenI ?_ | refine thenE ?_ | refine thenR ?_ | refine inBI ?_ | refine inBR ?_ | refine inBS ?_ | refine inBN (by decide) ?_) | refine W_seqS ?_ | refine W_seqC ?_ | refine W_seqB ?_ | refine W_block ?_ | refine W_skip ?_ | (apply W_condB; (case hc => (simp (disch := omega) only [go_sem, ↓reduceIte, Nat.reduceEqDiff, hlv, q7]); rfl); first | refine qzT ?_ | refine qzF ?_) | ((first | refine W_reg rfl fun G K hG hK => ?_ | refine W_end rfl fun G K hG hK => ?_); simp (disch := omega) only [go_sem, ↓reduceIte, Nat.reduceEqDiff, hG, hlv, q7]; refine hK _ _ ?_; clear hK K hG G))
 refine W_loop (fun d fr st' => ∃ (j : Nat) , d = vs.length - j ∧ j ≤ vs.length ∧ (st' = st) ∧ (lookV nm vs = lookV nm (vs.drop j)) ∧ (fr.env 0 = v) ∧ (fr.env 1 = .string nm) ∧ (fr.env 5 = .int .i64 j)) (vs.length) ?_ ?_
 ·exact ⟨0, by omega, by omega, rfl, by simp, (by refine ⟨?_, ?_, ?_⟩ <;> ((simp (disch := omega) only [go_sem, ↓reduceIte, Nat.reduceEqDiff, hlv, q7]); try rfl))⟩
 rintro d ⟨env, loc⟩ st' ⟨j, hd, hj, hst, hfd, e0, e1, e5⟩
 simp only at e0 e1 e5
 subst hst
 by_cases hlt : j < vs.length
 ·have c1 : decide ((j : Int) < (vs.length : Int)) = true := by simpa using hlt
  have hi := idxOk hlt
  have hx : vs[j]? = some vs[j] := List.getElem?_eq_getElem hlt
  have htk : vs.take (j + 1) = vs.take j ++ [vs[j]] := List.take_succ_eq_append_getElem hlt
  obtain ⟨i, o, c, rfl, hcs⟩ := row_atV hV hx
  have hc0 : cell st' i (o + j * 2) = some (.string vs[j].nm) := by have := hcs 0 _ rfl; rwa [Nat.add_zero] at this
  have hc1 : cell st' i (o + j * 2 + 1) = some (.string vs[j].srt) := hcs 1 _ rfl
  rw [List.drop_eq_getElem_cons hlt] at hfd
  cases hn : (vs[j].nm.toList == nm.toList) with
  | true =>
   have hf : lookS nm vs = vs[j].srt := by
    unfold lookS; rw [hfd]; unfold lookV; rw [List.find?_cons, hn]
   rw [hf]
   repeat (first | with_reducible (first | refine thenI ?_ | refine thenE ?_ | refine thenR ?_ | refine inBI ?_ | refine inBR ?_ | refine inBS ?_ | refine inBN (by decide) ?_) | refine W_seqS ?_ | refine W_seqC ?_ | refine W_seqB ?_ | refine W_block ?_ | refine W_skip ?_ | (apply W_condB; (case hc => (simp (disch := omega) only [go_sem, ↓reduceIte, Nat.reduceEqDiff, hlv, q7, e0, e1, e5, c1, hi, idxA, Int.toNat_natCast, hc0, hc1, ag9, hn]); rfl); first | refine qzT ?_ | refine qzF ?_) | ((first | refine W_reg rfl fun G K hG hK => ?_ | refine W_end rfl fun G K hG hK => ?_); simp (disch := omega) only [go_sem, ↓reduceIte, Nat.reduceEqDiff, hG, hlv, q7, e0, e1, e5, c1, hi, idxA, Int.toNat_natCast, hc0, hc1, ag9, hn]; refine hK _ _ ?_; clear hK K hG G))
   refine W_ret ?_; try (repeat (with_reducible first | refine thenI ?_ | refine thenE ?_ | refine thenR ?_ | refine inBI ?_ | refine inBR ?_ | refine inBS ?_ | refine inBN (by decide) ?_))
   refine fin1 (.inl rfl) (by (simp (disch := omega) only [go_sem, ↓reduceIte, Nat.reduceEqDiff, hlv, q7, e0, e1, e5, c1, hi, idxA, Int.toNat_natCast]); try rfl) rfl ⟨rfl, rfl⟩
  | false =>
   have hf : lookV nm vs = lookV nm (vs.drop (j + 1)) := by
    rw [hfd]; unfold lookV; rw [List.find?_cons, hn]
   repeat (first | with_reducible (first | refine thenI ?_ | refine thenE ?_ | refine thenR ?_ | refine inBI ?_ | refine inBR ?_ | refine inBS ?_ | refine inBN (by decide) ?_) | refine W_seqS ?_ | refine W_seqC ?_ | refine W_seqB ?_ | refine W_block ?_ | refine W_skip ?_ | (apply W_condB; (case hc => (simp (disch := omega) only [go_sem, ↓reduceIte, Nat.reduceEqDiff, hlv, q7, e0, e1, e5, c1, hi, idxA, Int.toNat_natCast, hc0, ag9, hn]); rfl); first | refine qzT ?_ | refine qzF ?_) | ((first | refine W_reg rfl fun G K hG hK => ?_ | refine W_end rfl fun G K hG hK => ?_); simp (disch := omega) only [go_sem, ↓reduceIte, Nat.reduceEqDiff, hG, hlv, q7, e0, e1, e5, c1, hi, idxA, Int.toNat_natCast, hc0, ag9, hn]; refine hK _ _ ?_; clear hK K hG G))
   refine ⟨vs.length - (j + 1), by omega, j + 1, rfl, by omega, rfl, hf, (by refine ⟨?_, ?_, ?_⟩ <;> ((simp (disch := omega) only [go_sem, ↓reduceIte, Nat.reduceEqDiff, hlv, q7, e0, e1, e5, c1, hi, idxA, Int.toNat_natCast]); try rfl))⟩
 ·have c1 : decide ((j : Int) < (vs.length : Int)) = false := by simpa using hlt
  have hjn : j = vs.length := by omega
  subst hjn
  rw [List.drop_length] at hfd
  have hf : lookS nm vs = ⟨#[]⟩ := by unfold lookS; rw [hfd]; rfl
  rw [hf]
  repeat (first | with_reducible (first | refine thenI ?_ | refine thenE ?_ | refine thenR ?_ | refine inBI ?_ | refine inBR ?_ | refine inBS ?_ | refine inBN (by decide) ?_) | refine W_seqS ?_ | refine W_seqC ?_ | refine W_seqB ?_ | refine W_block ?_ | refine W_skip ?_ | (apply W_condB; (case hc => (simp (disch := omega) only [go_sem, ↓reduceIte, Nat.reduceEqDiff, hlv, q7, e0, e1, e5, c1]); rfl); first | refine qzT ?_ | refine qzF ?_) | ((first | refine W_reg rfl fun G K hG hK => ?_ | refine W_end rfl fun G K hG hK => ?_); simp (disch := omega) only [go_sem, ↓reduceIte, Nat.reduceEqDiff, hG, hlv, q7, e0, e1, e5, c1]; refine hK _ _ ?_; clear hK K hG G))
  refine W_exit ?_; repeat (with_reducible first | refine thenI ?_ | refine thenE ?_ | refine thenR ?_ | refine inBI ?_ | refine inBR ?_ | refine inBS ?_ | refine inBN (by decide) ?_)
  repeat (first | with_reducible (first | refine thenI ?_ | refine thenE ?_ | refine thenR ?_ | refine inBI ?_ | refine inBR ?_ | refine inBS ?_ | refine inBN (by decide) ?_) | refine W_seqS ?_ | refine W_seqC ?_ | refine W_seqB ?_ | refine W_block ?_ | refine W_skip ?_ | (apply W_condB; (case hc => (simp (disch := omega) only [go_sem, ↓reduceIte, Nat.reduceEqDiff, hlv, q7, e0, e1, e5, c1]); rfl); first | refine qzT ?_ | refine qzF ?_) | ((first | refine W_reg rfl fun G K hG hK => ?_ | refine W_end rfl fun G K hG hK => ?_); simp (disch := omega) only [go_sem, ↓reduceIte, Nat.reduceEqDiff, hG, hlv, q7, e0, e1, e5, c1]; refine hK _ _ ?_; clear hK K hG G))
  refine W_ret ?_; try (repeat (with_reducible first | refine thenI ?_ | refine thenE ?_ | refine thenR ?_ | refine inBI ?_ | refine inBR ?_ | refine inBS ?_ | refine inBN (by decide) ?_))
  refine fin1 (.inl rfl) (by (simp (disch := omega) only [go_sem, ↓reduceIte, Nat.reduceEqDiff, hlv, q7, e0, e1, e5, c1]); try rfl) rfl ⟨rfl, rfl⟩
set_option maxHeartbeats 1000000 in
theorem implSortOf_ok (g : Sgn) (hlg : LimS 1073741824 g) (vs : List VSort) (v : Value) (hvb : vs.length ≤ 1073741824) : ∀ (t : T) (st : St) (cg ct : List Value), Lim 1073741824 t → EncS st g cg → Enc st t ct → Rw st vs v →
  CallS Try.prog 9 [.agg cg.toArray, .agg ct.toArray, v] st fun r st2 => Ext st st2 ∧ r = .string (T.sortOf g vs t) := by
 refine T.ind fun k n nm args ih st cg ct hlt0 hG hE hV => ?_
 have hG' := hG
 obtain ⟨sa, ua, rfl, ha, hu⟩ := hG
 obtain ⟨s1, rfl, hr⟩ := hE.open
 refine CallS_of_W [] 80 Try.func9 rfl rfl rfl rfl (by simp) ?_
 have q1 := hr.notLoc.1
 have q2 := hr.notLoc.2
 have q3 := ha.notLoc.1
 have q4 := ha.notLoc.2
 have q5 := hu.notLoc.1
 have q6 := hu.notLoc.2
 have q7 := hV.notLoc.1
 have hlen : lenE Try.prog 28 s1 = some (.int .i64 args.length) := row_len hr Try.underlying28
 have hlv : lenE Try.prog 33 v = some (.int .i64 vs.length) := row_len hV Try.underlying33
 have hal := hlt0.args.1
 cases h3 : (k == 3) with
 | true =>
  rw [T.sortOf_word h3]
  repeat (first | with_reducible (first | refine thenI ?_ | refine thenE ?_ | refine thenR ?_ | refine inBI ?_ | refine inBR ?_ | refine inBS ?_ | refine inBN (by decide) ?_) | refine W_seqS ?_ | refine W_seqC ?_ | refine W_seqB ?_ | refine W_block ?_ | refine W_skip ?_ | (apply W_condB; (case hc => (simp (disch := omega) only [go_sem, ↓reduceIte, Nat.reduceEqDiff, q1, q2, q3, q4, q5, q6, q7, hlen, hlv, h3]); rfl); first | refine qzT ?_ | refine qzF ?_) | ((first | refine W_reg rfl fun G K hG hK => ?_ | refine W_end rfl fun G K hG hK => ?_); simp (disch := omega) only [go_sem, ↓reduceIte, Nat.reduceEqDiff, hG, q1, q2, q3, q4, q5, q6, q7, hlen, hlv, h3]; refine hK _ _ ?_; clear hK K hG G))
  refine W_ret ?_; try (repeat (with_reducible first | refine thenI ?_ | refine thenE ?_ | refine thenR ?_ | refine inBI ?_ | refine inBR ?_ | refine inBS ?_ | refine inBN (by decide) ?_))
  refine fin1 (.inl rfl) (by (simp (disch := omega) only [go_sem, ↓reduceIte, Nat.reduceEqDiff, q1, q2, q3, q4, q5, q6, q7, hlen, hlv]); try rfl) rfl ⟨Ext.refl _, rfl⟩
 | false =>
 cases h1 : (k == 1) with
 | true =>
  rw [T.sortOf_var h3 h1]
  repeat (first | with_reducible (first | refine thenI ?_ | refine thenE ?_ | refine thenR ?_ | refine inBI ?_ | refine inBR ?_ | refine inBS ?_ | refine inBN (by decide) ?_) | refine W_seqS ?_ | refine W_seqC ?_ | refine W_seqB ?_ | refine W_block ?_ | refine W_skip ?_ | (apply W_condB; (case hc => (simp (disch := omega) only [go_sem, ↓reduceIte, Nat.reduceEqDiff, q1, q2, q3, q4, q5, q6, q7, hlen, hlv, h3, h1]); rfl); first | refine qzT ?_ | refine qzF ?_) | ((first | refine W_reg rfl fun G K hG hK => ?_ | refine W_end rfl fun G K hG hK => ?_); simp (disch := omega) only [go_sem, ↓reduceIte, Nat.reduceEqDiff, hG, q1, q2, q3, q4, q5, q6, q7, hlen, hlv, h3, h1]; refine hK _ _ ?_; clear hK K hG G))
  refine W_loop (fun d fr st' => ∃ (j : Nat) , d = vs.length - j ∧ j ≤ vs.length ∧ (st' = st) ∧ (lookV nm vs = lookV nm (vs.drop j)) ∧ (fr.env 4 = .pointer (some ⟨4, 0, some 1⟩)) ∧ (fr.env 20 = v) ∧ (fr.env 21 = .int .i64 vs.length) ∧ (fr.env 22 = .int .i64 j) ∧ (fr.loc 4 = (1, [.int .i64 k, .int .i64 n, .string nm, s1]))) (vs.length) ?_ ?_
  ·exact ⟨0, by omega, by omega, rfl, by simp, (by refine ⟨?_, ?_, ?_, ?_, ?_⟩ <;> ((simp (disch := omega) only [go_sem, ↓reduceIte, Nat.reduceEqDiff, q1, q2, q3, q4, q5, q6, q7, hlen, hlv]); try rfl))⟩
  rintro d ⟨env, loc⟩ st' ⟨j, hd, hj, hst, hfd, e4, e20, e21, e22, l4⟩
  simp only at e4 e20 e21 e22 l4
  subst hst
  by_cases hlt : j < vs.length
  ·have c1 : decide ((j : Int) < (vs.length : Int)) = true := by simpa using hlt
   have hi := idxOk hlt
   have hx : vs[j]? = some vs[j] := List.getElem?_eq_getElem hlt
   have htk : vs.take (j + 1) = vs.take j ++ [vs[j]] := List.take_succ_eq_append_getElem hlt
   obtain ⟨i, o, c, hse, hcs⟩ := row_atV hV hx
   have hld := fun loc => load_row (A := []) (loc := loc) ag37 sz37 rfl hcs
   rw [List.drop_eq_getElem_cons hlt] at hfd
   subst hse
   cases hn : (vs[j].nm.toList == nm.toList) with
   | true =>
    have hf : lookS nm vs = vs[j].srt := by
     unfold lookS; rw [hfd]; unfold lookV; rw [List.find?_cons, hn]
    rw [hf]
    repeat (first | with_reducible (first | refine thenI ?_ | refine thenE ?_ | refine thenR ?_ | refine inBI ?_ | refine inBR ?_ | refine inBS ?_ | refine inBN (by decide) ?_) | refine W_seqS ?_ | refine W_seqC ?_ | refine W_seqB ?_ | refine W_block ?_ | refine W_skip ?_ | (apply W_condB; (case hc => (simp (disch := omega) only [go_sem, ↓reduceIte, Nat.reduceEqDiff, q1, q2, q3, q4, q5, q6, q7, hlen, hlv, e4, e20, e21, e22, l4, c1, hi, idxA, Int.toNat_natCast, hld, hn]); rfl); first | refine qzT ?_ | refine qzF ?_) | ((first | refine W_reg rfl fun G K hG hK => ?_ | refine W_end rfl fun G K hG hK => ?_); simp (disch := omega) only [go_sem, ↓reduceIte, Nat.reduceEqDiff, hG, q1, q2, q3, q4, q5, q6, q7, hlen, hlv, e4, e20, e21, e22, l4, c1, hi, idxA, Int.toNat_natCast, hld, hn]; refine hK _ _ ?_; clear hK K hG G))
    refine W_ret ?_; try (repeat (with_reducible first | refine thenI ?_ | refine thenE ?_ | refine thenR ?_ | refine inBI ?_ | refine inBR ?_ | refine inBS ?_ | refine inBN (by decide) ?_))
    refine fin1 (.inl rfl) (by (simp (disch := omega) only [go_sem, ↓reduceIte, Nat.reduceEqDiff, q1, q2, q3, q4, q5, q6, q7, hlen, hlv, e4, e20, e21, e22, l4, c1, hi, idxA, Int.toNat_natCast]); try rfl) rfl ⟨Ext.refl _, rfl⟩
   | false =>
    have hf : lookV nm vs = lookV nm (vs.drop (j + 1)) := by
     rw [hfd]; unfold lookV; rw [List.find?_cons, hn]
    repeat (first | with_reducible (first | refine thenI ?_ | refine thenE ?_ | refine thenR ?_ | refine inBI ?_ | refine inBR ?_ | refine inBS ?_ | refine inBN (by decide) ?_) | refine W_seqS ?_ | refine W_seqC ?_ | refine W_seqB ?_ | refine W_block ?_ | refine W_skip ?_ | (apply W_condB; (case hc => (simp (disch := omega) only [go_sem, ↓reduceIte, Nat.reduceEqDiff, q1, q2, q3, q4, q5, q6, q7, hlen, hlv, e4, e20, e21, e22, l4, c1, hi, idxA, Int.toNat_natCast, hld, hn]); rfl); first | refine qzT ?_ | refine qzF ?_) | ((first | refine W_reg rfl fun G K hG hK => ?_ | refine W_end rfl fun G K hG hK => ?_); simp (disch := omega) only [go_sem, ↓reduceIte, Nat.reduceEqDiff, hG, q1, q2, q3, q4, q5, q6, q7, hlen, hlv, e4, e20, e21, e22, l4, c1, hi, idxA, Int.toNat_natCast, hld, hn]; refine hK _ _ ?_; clear hK K hG G))
    refine ⟨vs.length - (j + 1), by omega, j + 1, rfl, by omega, rfl, hf, (by refine ⟨?_, ?_, ?_, ?_, ?_⟩ <;> ((simp (disch := omega) only [go_sem, ↓reduceIte, Nat.reduceEqDiff, q1, q2, q3, q4, q5, q6, q7, hlen, hlv, e4, e20, e21, e22, l4, c1, hi, idxA, Int.toNat_natCast]); try rfl))⟩
  ·have c1 : decide ((j : Int) < (vs.length : Int)) = false := by simpa using hlt
   have hjn : j = vs.length := by omega
   subst hjn
   rw [List.drop_length] at hfd
   have hf : lookS nm vs = ⟨#[]⟩ := by unfold lookS; rw [hfd]; rfl
   rw [hf]
   repeat (first | with_reducible (first | refine thenI ?_ | refine thenE ?_ | refine thenR ?_ | refine inBI ?_ | refine inBR ?_ | refine inBS ?_ | refine inBN (by decide) ?_) | refine W_seqS ?_ | refine W_seqC ?_ | refine W_seqB ?_ | refine W_block ?_ | refine W_skip ?_ | (apply W_condB; (case hc => (simp (disch := omega) only [go_sem, ↓reduceIte, Nat.reduceEqDiff, q1, q2, q3, q4, q5, q6, q7, hlen, hlv, e4, e20, e21, e22, l4, c1]); rfl); first | refine qzT ?_ | refine qzF ?_) | ((first | refine W_reg rfl fun G K hG hK => ?_ | refine W_end rfl fun G K hG hK => ?_); simp (disch := omega) only [go_sem, ↓reduceIte, Nat.reduceEqDiff, hG, q1, q2, q3, q4, q5, q6, q7, hlen, hlv, e4, e20, e21, e22, l4, c1]; refine hK _ _ ?_; clear hK K hG G))
   refine W_exit ?_; repeat (with_reducible first | refine thenI ?_ | refine thenE ?_ | refine thenR ?_ | refine inBI ?_ | refine inBR ?_ | refine inBS ?_ | refine inBN (by decide) ?_)
   repeat (first | with_reducible (first | refine thenI ?_ | refine thenE ?_ | refine thenR ?_ | refine inBI ?_ | refine inBR ?_ | refine inBS ?_ | refine inBN (by decide) ?_) | refine W_seqS ?_ | refine W_seqC ?_ | refine W_seqB ?_ | refine W_block ?_ | refine W_skip ?_ | (apply W_condB; (case hc => (simp (disch := omega) only [go_sem, ↓reduceIte, Nat.reduceEqDiff, q1, q2, q3, q4, q5, q6, q7, hlen, hlv, e4, e20, e21, e22, l4, c1]); rfl); first | refine qzT ?_ | refine qzF ?_) | ((first | refine W_reg rfl fun G K hG hK => ?_ | refine W_end rfl fun G K hG hK => ?_); simp (disch := omega) only [go_sem, ↓reduceIte, Nat.reduceEqDiff, hG, q1, q2, q3, q4, q5, q6, q7, hlen, hlv, e4, e20, e21, e22, l4, c1]; refine hK _ _ ?_; clear hK K hG G))
   refine W_ret ?_; try (repeat (with_reducible first | refine thenI ?_ | refine thenE ?_ | refine thenR ?_ | refine inBI ?_ | refine inBR ?_ | refine inBS ?_ | refine inBN (by decide) ?_))
   refine fin1 (.inl rfl) (by (simp (disch := omega) only [go_sem, ↓reduceIte, Nat.reduceEqDiff, q1, q2, q3, q4, q5, q6, q7, hlen, hlv, e4, e20, e21, e22, l4, c1]); try rfl) rfl ⟨Ext.refl _, rfl⟩
 | false =>
 cases h2 : (k == 2) with
 | false =>
  rw [T.sortOf_none h3 h1 h2]
  repeat (first | with_reducible (first | refine thenI ?_ | refine thenE ?_ | refine thenR ?_ | refine inBI ?_ | refine inBR ?_ | refine inBS ?_ | refine inBN (by decide) ?_) | refine W_seqS ?_ | refine W_seqC ?_ | refine W_seqB ?_ | refine W_block ?_ | refine W_skip ?_ | (apply W_condB; (case hc => (simp (disch := omega) only [go_sem, ↓reduceIte, Nat.reduceEqDiff, q1, q2, q3, q4, q5, q6, q7, hlen, hlv, h3, h1, h2]); rfl); first | refine qzT ?_ | refine qzF ?_) | ((first | refine W_reg rfl fun G K hG hK => ?_ | refine W_end rfl fun G K hG hK => ?_); simp (disch := omega) only [go_sem, ↓reduceIte, Nat.reduceEqDiff, hG, q1, q2, q3, q4, q5, q6, q7, hlen, hlv, h3, h1, h2]; refine hK _ _ ?_; clear hK K hG G))
  refine W_ret ?_; try (repeat (with_reducible first | refine thenI ?_ | refine thenE ?_ | refine thenR ?_ | refine inBI ?_ | refine inBR ?_ | refine inBS ?_ | refine inBN (by decide) ?_))
  refine fin1 (.inl rfl) (by (simp (disch := omega) only [go_sem, ↓reduceIte, Nat.reduceEqDiff, q1, q2, q3, q4, q5, q6, q7, hlen, hlv]); try rfl) rfl ⟨Ext.refl _, rfl⟩
 | true =>
  rw [T.sortOf_app h3 h1 h2]
  repeat (first | with_reducible (first | refine thenI ?_ | refine thenE ?_ | refine thenR ?_ | refine inBI ?_ | refine inBR ?_ | refine inBS ?_ | refine inBN (by decide) ?_) | refine W_seqS ?_ | refine W_seqC ?_ | refine W_seqB ?_ | refine W_block ?_ | refine W_skip ?_ | (apply W_condB; (case hc => (simp (disch := omega) only [go_sem, ↓reduceIte, Nat.reduceEqDiff, q1, q2, q3, q4, q5, q6, q7, hlen, hlv, h3, h1, h2]); rfl); first | refine qzT ?_ | refine qzF ?_) | ((first | refine W_reg rfl fun G K hG hK => ?_ | refine W_end rfl fun G K hG hK => ?_); simp (disch := omega) only [go_sem, ↓reduceIte, Nat.reduceEqDiff, hG, q1, q2, q3, q4, q5, q6, q7, hlen, hlv, h3, h1, h2]; refine hK _ _ ?_; clear hK K hG G))
  (repeat (first | refine W_seqS ?_ | refine W_seqC ?_ | refine W_seqB ?_ | refine W_block ?_)); refine W_reg rfl fun G K hG hK => ?_; simp (disch := omega) only [go_sem, ↓reduceIte, Nat.reduceEqDiff, hG, q1, q2, q3, q4, q5, q6, q7, hlen, hlv]
  refine w_call (implFindOp_ok g nm st _ hlg hG') (by simp (disch := omega) only [go_sem, ↓reduceIte, Nat.reduceEqDiff, q1, q2, q3, q4, q5, q6, q7, hlen, hlv]) ?hl ?_
  case hl => first | rfl | (simp only [go_sem, List.all_cons, List.all_nil, Bool.not_false, Bool.and_self, q1, q2, q3, q4, q5, q6, q7, hlen, hlv]; done)
  rintro r_ sA ⟨x1, ds, Lo, rfl, ho, hfo⟩; refine ⟨fun e => (by cases e), ?_⟩
  obtain ⟨so, rfl, hso⟩ := ho
  have a1 := hso.okv
  have a2 := hso.loc
  have a3 := hso.cells
  have hlo : lenE Try.prog 24 so = some (.int .i64 (findOp g nm).1.args.length) := row_len hso.row Try.underlying24
  simp (disch := omega) only [go_sem, ↓reduceIte, Nat.reduceEqDiff, hG, q1, q2, q3, q4, q5, q6, q7, hlen, hlv, a1, a2, a3]; refine hK _ _ ?_; clear hK K hG G; repeat (with_reducible first | refine thenI ?_ | refine thenE ?_ | refine thenR ?_ | refine inBI ?_ | refine inBR ?_ | refine inBS ?_ | refine inBN (by decide) ?_)
  generalize findOp g nm = fo at hso hlo
  obtain ⟨⟨no, os, mo⟩, fb⟩ := fo
  simp only at hso hlo
  cases fb with
  | false =>
   simp only [Bool.false_eq_true, if_false]
   repeat (first | with_reducible (first | refine thenI ?_ | refine thenE ?_ | refine thenR ?_ | refine inBI ?_ | refine inBR ?_ | refine inBS ?_ | refine inBN (by decide) ?_) | refine W_seqS ?_ | refine W_seqC ?_ | refine W_seqB ?_ | refine W_block ?_ | refine W_skip ?_ | (apply W_condB; (case hc => (simp (disch := omega) only [go_sem, ↓reduceIte, Nat.reduceEqDiff, q1, q2, q3, q4, q5, q6, q7, hlen, hlv, a1, a2, a3, hlo]); rfl); first | refine qzT ?_ | refine qzF ?_) | ((first | refine W_reg rfl fun G K hG hK => ?_ | refine W_end rfl fun G K hG hK => ?_); simp (disch := omega) only [go_sem, ↓reduceIte, Nat.reduceEqDiff, hG, q1, q2, q3, q4, q5, q6, q7, hlen, hlv, a1, a2, a3, hlo]; refine hK _ _ ?_; clear hK K hG G))
   refine W_ret ?_; try (repeat (with_reducible first | refine thenI ?_ | refine thenE ?_ | refine thenR ?_ | refine inBI ?_ | refine inBR ?_ | refine inBS ?_ | refine inBN (by decide) ?_))
   refine fin1 (.inl rfl) (by (simp (disch := omega) only [go_sem, ↓reduceIte, Nat.reduceEqDiff, q1, q2, q3, q4, q5, q6, q7, hlen, hlv, a1, a2, a3, hlo]); try rfl) rfl ⟨x1, rfl⟩
  | true =>
  simp only [if_true]
  cases hc : ((os.length : Int) == (args.length : Int)) with
  | false =>
   have c8 : ((os.length : Int) != (args.length : Int)) = true := by simp only [bne, hc]; rfl
   simp only [Bool.false_eq_true, if_false]
   repeat (first | with_reducible (first | refine thenI ?_ | refine thenE ?_ | refine thenR ?_ | refine inBI ?_ | refine inBR ?_ | refine inBS ?_ | refine inBN (by decide) ?_) | refine W_seqS ?_ | refine W_seqC ?_ | refine W_seqB ?_ | refine W_block ?_ | refine W_skip ?_ | (apply W_condB; (case hc => (simp (disch := omega) only [go_sem, ↓reduceIte, Nat.reduceEqDiff, q1, q2, q3, q4, q5, q6, q7, hlen, hlv, a1, a2, a3, hlo, c8]); rfl); first | refine qzT ?_ | refine qzF ?_) | ((first | refine W_reg rfl fun G K hG hK => ?_ | refine W_end rfl fun G K hG hK => ?_); simp (disch := omega) only [go_sem, ↓reduceIte, Nat.reduceEqDiff, hG, q1, q2, q3, q4, q5, q6, q7, hlen, hlv, a1, a2, a3, hlo, c8]; refine hK _ _ ?_; clear hK K hG G))
   refine W_ret ?_; try (repeat (with_reducible first | refine thenI ?_ | refine thenE ?_ | refine thenR ?_ | refine inBI ?_ | refine inBR ?_ | refine inBS ?_ | refine inBN (by decide) ?_))
   refine fin1 (.inl rfl) (by (simp (disch := omega) only [go_sem, ↓reduceIte, Nat.reduceEqDiff, q1, q2, q3, q4, q5, q6, q7, hlen, hlv, a1, a2, a3, hlo]); try rfl) rfl ⟨x1, rfl⟩
  | true =>
  have hol : os.length = args.length := by have h := eq_of_beq hc; omega
  have c8 : ((os.length : Int) != (args.length : Int)) = false := by simp only [bne, hc]; rfl
  simp only [if_true]
  repeat (first | with_reducible (first | refine thenI ?_ | refine thenE ?_ | refine thenR ?_ | refine inBI ?_ | refine inBR ?_ | refine inBS ?_ | refine inBN (by decide) ?_) | refine W_seqS ?_ | refine W_seqC ?_ | refine W_seqB ?_ | refine W_block ?_ | refine W_skip ?_ | (apply W_condB; (case hc => (simp (disch := omega) only [go_sem, ↓reduceIte, Nat.reduceEqDiff, q1, q2, q3, q4, q5, q6, q7, hlen, hlv, a1, a2, a3, hlo, c8]); rfl); first | refine qzT ?_ | refine qzF ?_) | ((first | refine W_reg rfl fun G K hG hK => ?_ | refine W_end rfl fun G K hG hK => ?_); simp (disch := omega) only [go_sem, ↓reduceIte, Nat.reduceEqDiff, hG, q1, q2, q3, q4, q5, q6, q7, hlen, hlv, a1, a2, a3, hlo, c8]; refine hK _ _ ?_; clear hK K hG G))
  refine W_loop (fun d fr st' => ∃ (j : Nat) , d = args.length - j ∧ j ≤ args.length ∧ (Ext sA st') ∧ (okSorts ((T.sortsL g vs args).drop j) (os.drop j) = okSorts (T.sortsL g vs args) os) ∧ (fr.env 2 = v) ∧ (fr.env 3 = .pointer (some ⟨3, 0, some 1⟩)) ∧ (fr.env 4 = .pointer (some ⟨4, 0, some 1⟩)) ∧ (fr.env 9 = .pointer (some ⟨9, 0, some 1⟩)) ∧ (fr.env 55 = s1) ∧ (fr.env 56 = .int .i64 args.length) ∧ (fr.env 57 = .int .i64 j) ∧ (fr.loc 3 = (1, [sa, ua])) ∧ (fr.loc 4 = (1, [.int .i64 k, .int .i64 n, .string nm, s1])) ∧ (fr.loc 9 = (1, [.string no, so, .string mo]))) (args.length) ?_ ?_
  ·exact ⟨0, by omega, by omega, Ext.refl _, by simp, (by refine ⟨?_, ?_, ?_, ?_, ?_, ?_, ?_, ?_, ?_, ?_⟩ <;> ((simp (disch := omega) only [go_sem, ↓reduceIte, Nat.reduceEqDiff, q1, q2, q3, q4, q5, q6, q7, hlen, hlv, a1, a2, a3, hlo]); try rfl))⟩
  rintro d ⟨env, loc⟩ st' ⟨j, hd, hj, hext, hok, e2, e3, e4, e9, e55, e56, e57, l3, l4, l9⟩
  simp only at e2 e3 e4 e9 e55 e56 e57 l3 l4 l9
  by_cases hlt : j < args.length
  ·have c1 : decide ((j : Int) < (args.length : Int)) = true := by simpa using hlt
   have hi := idxOk hlt
   have hx : args[j]? = some args[j] := List.getElem?_eq_getElem hlt
   have htk : args.take (j + 1) = args.take j ++ [args[j]] := List.take_succ_eq_append_getElem hlt
   obtain ⟨i, o, c, cs, rfl, hcl, hE', hcs⟩ := row_at hr hx
   have hx2 := x1.trans hext
   have hld := fun loc => load_row (A := []) (loc := loc) ag30 sz30 hcl (hcs.ext hx2)
   obtain ⟨ka, na, ma, sa', rfl, c1', c2', c3'⟩ := hE'.args_cells
   have hjo : j < os.length := by omega
   have hjs : j < (T.sortsL g vs args).length := by rw [T.sortsL_map, List.length_map]; exact hlt
   have hsj : (T.sortsL g vs args)[j] = T.sortOf g vs args[j] := by
    have : (T.sortsL g vs args)[j]? = some (T.sortOf g vs args[j]) := by rw [T.sortsL_map, List.getElem?_map, hx]; rfl
    rw [List.getElem?_eq_getElem hjs] at this
    exact Option.some.inj this
   obtain ⟨i2, o2, c2, hse2, hce2⟩ := row_atS (hso.row.ext hext) (List.getElem?_eq_getElem hjo)
   have hi2 := idxOk hjo
   rw [okSorts_step hjs hjo, hsj] at hok
   subst hse2
   repeat (first | with_reducible (first | refine thenI ?_ | refine thenE ?_ | refine thenR ?_ | refine inBI ?_ | refine inBR ?_ | refine inBS ?_ | refine inBN (by decide) ?_) | refine W_seqS ?_ | refine W_seqC ?_ | refine W_seqB ?_ | refine W_block ?_ | refine W_skip ?_ | (apply W_condB; (case hc => (simp (disch := omega) only [go_sem, ↓reduceIte, Nat.reduceEqDiff, q1, q2, q3, q4, q5, q6, q7, hlen, hlv, a1, a2, a3, hlo, e2, e3, e4, e9, e55, e56, e57, l3, l4, l9, c1, hi, idxA, Int.toNat_natCast, c1', c2', c3', hld]); rfl); first | refine qzT ?_ | refine qzF ?_) | ((first | refine W_reg rfl fun G K hG hK => ?_ | refine W_end rfl fun G K hG hK => ?_); simp (disch := omega) only [go_sem, ↓reduceIte, Nat.reduceEqDiff, hG, q1, q2, q3, q4, q5, q6, q7, hlen, hlv, a1, a2, a3, hlo, e2, e3, e4, e9, e55, e56, e57, l3, l4, l9, c1, hi, idxA, Int.toNat_natCast, c1', c2', c3', hld]; refine hK _ _ ?_; clear hK K hG G))
   (repeat (first | refine W_seqS ?_ | refine W_seqC ?_ | refine W_seqB ?_ | refine W_block ?_)); refine W_reg rfl fun G K hG hK => ?_; simp (disch := omega) only [go_sem, ↓reduceIte, Nat.reduceEqDiff, hG, q1, q2, q3, q4, q5, q6, q7, hlen, hlv, a1, a2, a3, hlo, e2, e3, e4, e9, e55, e56, e57, l3, l4, l9, c1, hi, idxA, Int.toNat_natCast, c1', c2', c3']
   refine w_call (ih args[j] (List.getElem_mem hlt) st' _ _ (hlt0.args.2 _ (List.getElem_mem hlt)) (hG'.ext hx2) (Enc.ext hx2 _ _ hE') (hV.ext hx2)) (by simp (disch := omega) only [go_sem, ↓reduceIte, Nat.reduceEqDiff, q1, q2, q3, q4, q5, q6, q7, hlen, hlv, a1, a2, a3, hlo, e2, e3, e4, e9, e55, e56, e57, l3, l4, l9, c1, hi, idxA, Int.toNat_natCast, c1', c2', c3']) ?hl ?_
   case hl => first | rfl | (simp only [go_sem, List.all_cons, List.all_nil, Bool.not_false, Bool.and_self, q1, q2, q3, q4, q5, q6, q7, hlen, hlv, a1, a2, a3, hlo, e2, e3, e4, e9, e55, e56, e57, l3, l4, l9, c1, hi, idxA, Int.toNat_natCast, c1', c2', c3']; done)
   rintro r_ sb ⟨x3, rfl⟩; refine ⟨fun e => (by cases e), ?_⟩
   simp (disch := omega) only [go_sem, ↓reduceIte, Nat.reduceEqDiff, hG, q1, q2, q3, q4, q5, q6, q7, hlen, hlv, a1, a2, a3, hlo, e2, e3, e4, e9, e55, e56, e57, l3, l4, l9, c1, hi, idxA, Int.toNat_natCast, c1', c2', c3']; refine hK _ _ ?_; clear hK K hG G; repeat (with_reducible first | refine thenI ?_ | refine thenE ?_ | refine thenR ?_ | refine inBI ?_ | refine inBR ?_ | refine inBS ?_ | refine inBN (by decide) ?_)
   have hce3 : cell sb i2 (o2 + j * 1) = _ := cell_ext x3 hce2
   cases he : ((T.sortOf g vs args[j]).toList == (⟨#[]⟩ : ByteArray).toList) with
   | true =>
    have he2 : ((T.sortOf g vs args[j]).toList == emptyB.toList) = true := he
    rw [he2] at hok
    simp only [Bool.not_true, Bool.false_and] at hok
    rw [← hok]
    simp only [Bool.false_eq_true, if_false]
    repeat (first | with_reducible (first | refine thenI ?_ | refine thenE ?_ | refine thenR ?_ | refine inBI ?_ | refine inBR ?_ | refine inBS ?_ | refine inBN (by decide) ?_) | refine W_seqS ?_ | refine W_seqC ?_ | refine W_seqB ?_ | refine W_block ?_ | refine W_skip ?_ | (apply W_condB; (case hc => (simp (disch := omega) only [go_sem, ↓reduceIte, Nat.reduceEqDiff, q1, q2, q3, q4, q5, q6, q7, hlen, hlv, a1, a2, a3, hlo, e2, e3, e4, e9, e55, e56, e57, l3, l4, l9, c1, hi, idxA, Int.toNat_natCast, c1', c2', c3', he]); rfl); first | refine qzT ?_ | refine qzF ?_) | ((first | refine W_reg rfl fun G K hG hK => ?_ | refine W_end rfl fun G K hG hK => ?_); simp (disch := omega) only [go_sem, ↓reduceIte, Nat.reduceEqDiff, hG, q1, q2, q3, q4, q5, q6, q7, hlen, hlv, a1, a2, a3, hlo, e2, e3, e4, e9, e55, e56, e57, l3, l4, l9, c1, hi, idxA, Int.toNat_natCast, c1', c2', c3', he]; refine hK _ _ ?_; clear hK K hG G))
    refine W_ret ?_; try (repeat (with_reducible first | refine thenI ?_ | refine thenE ?_ | refine thenR ?_ | refine inBI ?_ | refine inBR ?_ | refine inBS ?_ | refine inBN (by decide) ?_))
    refine fin1 (.inl rfl) (by (simp (disch := omega) only [go_sem, ↓reduceIte, Nat.reduceEqDiff, q1, q2, q3, q4, q5, q6, q7, hlen, hlv, a1, a2, a3, hlo, e2, e3, e4, e9, e55, e56, e57, l3, l4, l9, c1, hi, idxA, Int.toNat_natCast, c1', c2', c3']); try rfl) rfl ⟨hx2.trans x3, rfl⟩
   | false =>
    have he2 : ((T.sortOf g vs args[j]).toList == emptyB.toList) = false := he
    rw [he2] at hok
    simp only [Bool.not_false, Bool.true_and] at hok
    cases hq : ((T.sortOf g vs args[j]).toList == os[j].toList) with
    | false =>
     rw [hq] at hok
     simp only [Bool.false_and] at hok
     rw [← hok]
     simp only [Bool.false_eq_true, if_false]
     repeat (first | with_reducible (first | refine thenI ?_ | refine thenE ?_ | refine thenR ?_ | refine inBI ?_ | refine inBR ?_ | refine inBS ?_ | refine inBN (by decide) ?_) | refine W_seqS ?_ | refine W_seqC ?_ | refine W_seqB ?_ | refine W_block ?_ | refine W_skip ?_ | (apply W_condB; (case hc => (simp (disch := omega) only [go_sem, ↓reduceIte, Nat.reduceEqDiff, q1, q2, q3, q4, q5, q6, q7, hlen, hlv, a1, a2, a3, hlo, e2, e3, e4, e9, e55, e56, e57, l3, l4, l9, c1, hi, idxA, Int.toNat_natCast, c1', c2', c3', he, hq, hce3, hi2, ag9]); rfl); first | refine qzT ?_ | refine qzF ?_) | ((first | refine W_reg rfl fun G K hG hK => ?_ | refine W_end rfl fun G K hG hK => ?_); simp (disch := omega) only [go_sem, ↓reduceIte, Nat.reduceEqDiff, hG, q1, q2, q3, q4, q5, q6, q7, hlen, hlv, a1, a2, a3, hlo, e2, e3, e4, e9, e55, e56, e57, l3, l4, l9, c1, hi, idxA, Int.toNat_natCast, c1', c2', c3', he, hq, hce3, hi2, ag9]; refine hK _ _ ?_; clear hK K hG G))
     refine W_ret ?_; try (repeat (with_reducible first | refine thenI ?_ | refine thenE ?_ | refine thenR ?_ | refine inBI ?_ | refine inBR ?_ | refine inBS ?_ | refine inBN (by decide) ?_))
     refine fin1 (.inl rfl) (by (simp (disch := omega) only [go_sem, ↓reduceIte, Nat.reduceEqDiff, q1, q2, q3, q4, q5, q6, q7, hlen, hlv, a1, a2, a3, hlo, e2, e3, e4, e9, e55, e56, e57, l3, l4, l9, c1, hi, idxA, Int.toNat_natCast, c1', c2', c3']); try rfl) rfl ⟨hx2.trans x3, rfl⟩
    | true =>
     rw [hq] at hok
     simp only [Bool.true_and] at hok
     repeat (first | with_reducible (first | refine thenI ?_ | refine thenE ?_ | refine thenR ?_ | refine inBI ?_ | refine inBR ?_ | refine inBS ?_ | refine inBN (by decide) ?_) | refine W_seqS ?_ | refine W_seqC ?_ | refine W_seqB ?_ | refine W_block ?_ | refine W_skip ?_ | (apply W_condB; (case hc => (simp (disch := omega) only [go_sem, ↓reduceIte, Nat.reduceEqDiff, q1, q2, q3, q4, q5, q6, q7, hlen, hlv, a1, a2, a3, hlo, e2, e3, e4, e9, e55, e56, e57, l3, l4, l9, c1, hi, idxA, Int.toNat_natCast, c1', c2', c3', he, hq, hce3, hi2, ag9]); rfl); first | refine qzT ?_ | refine qzF ?_) | ((first | refine W_reg rfl fun G K hG hK => ?_ | refine W_end rfl fun G K hG hK => ?_); simp (disch := omega) only [go_sem, ↓reduceIte, Nat.reduceEqDiff, hG, q1, q2, q3, q4, q5, q6, q7, hlen, hlv, a1, a2, a3, hlo, e2, e3, e4, e9, e55, e56, e57, l3, l4, l9, c1, hi, idxA, Int.toNat_natCast, c1', c2', c3', he, hq, hce3, hi2, ag9]; refine hK _ _ ?_; clear hK K hG G))
     refine ⟨args.length - (j + 1), by omega, j + 1, rfl, by omega, hext.trans x3, hok, (by refine ⟨?_, ?_, ?_, ?_, ?_, ?_, ?_, ?_, ?_, ?_⟩ <;> ((simp (disch := omega) only [go_sem, ↓reduceIte, Nat.reduceEqDiff, q1, q2, q3, q4, q5, q6, q7, hlen, hlv, a1, a2, a3, hlo, e2, e3, e4, e9, e55, e56, e57, l3, l4, l9, c1, hi, idxA, Int.toNat_natCast, c1', c2', c3']); try rfl))⟩
  ·have c1 : decide ((j : Int) < (args.length : Int)) = false := by simpa using hlt
   have hjn : j = args.length := by omega
   subst hjn
   have h4 : (T.sortsL g vs args).drop args.length = [] := List.drop_eq_nil_of_le (by rw [T.sortsL_map, List.length_map]; omega)
   rw [h4] at hok
   rw [← hok]
   have h5 : okSorts [] (os.drop args.length) = true := rfl
   rw [h5]
   simp only [if_true]
   repeat (first | with_reducible (first | refine thenI ?_ | refine thenE ?_ | refine thenR ?_ | refine inBI ?_ | refine inBR ?_ | refine inBS ?_ | refine inBN (by decide) ?_) | refine W_seqS ?_ | refine W_seqC ?_ | refine W_seqB ?_ | refine W_block ?_ | refine W_skip ?_ | (apply W_condB; (case hc => (simp (disch := omega) only [go_sem, ↓reduceIte, Nat.reduceEqDiff, q1, q2, q3, q4, q5, q6, q7, hlen, hlv, a1, a2, a3, hlo, e2, e3, e4, e9, e55, e56, e57, l3, l4, l9, c1]); rfl); first | refine qzT ?_ | refine qzF ?_) | ((first | refine W_reg rfl fun G K hG hK => ?_ | refine W_end rfl fun G K hG hK => ?_); simp (disch := omega) only [go_sem, ↓reduceIte, Nat.reduceEqDiff, hG, q1, q2, q3, q4, q5, q6, q7, hlen, hlv, a1, a2, a3, hlo, e2, e3, e4, e9, e55, e56, e57, l3, l4, l9, c1]; refine hK _ _ ?_; clear hK K hG G))
   refine W_exit ?_; repeat (with_reducible first | refine thenI ?_ | refine thenE ?_ | refine thenR ?_ | refine inBI ?_ | refine inBR ?_ | refine inBS ?_ | refine inBN (by decide) ?_)
   repeat (first | with_reducible (first | refine thenI ?_ | refine thenE ?_ | refine thenR ?_ | refine inBI ?_ | refine inBR ?_ | refine inBS ?_ | refine inBN (by decide) ?_) | refine W_seqS ?_ | refine W_seqC ?_ | refine W_seqB ?_ | refine W_block ?_ | refine W_skip ?_ | (apply W_condB; (case hc => (simp (disch := omega) only [go_sem, ↓reduceIte, Nat.reduceEqDiff, q1, q2, q3, q4, q5, q6, q7, hlen, hlv, a1, a2, a3, hlo, e2, e3, e4, e9, e55, e56, e57, l3, l4, l9, c1]); rfl); first | refine qzT ?_ | refine qzF ?_) | ((first | refine W_reg rfl fun G K hG hK => ?_ | refine W_end rfl fun G K hG hK => ?_); simp (disch := omega) only [go_sem, ↓reduceIte, Nat.reduceEqDiff, hG, q1, q2, q3, q4, q5, q6, q7, hlen, hlv, a1, a2, a3, hlo, e2, e3, e4, e9, e55, e56, e57, l3, l4, l9, c1]; refine hK _ _ ?_; clear hK K hG G))
   refine W_ret ?_; try (repeat (with_reducible first | refine thenI ?_ | refine thenE ?_ | refine thenR ?_ | refine inBI ?_ | refine inBR ?_ | refine inBS ?_ | refine inBN (by decide) ?_))
   refine fin1 (.inl rfl) (by (simp (disch := omega) only [go_sem, ↓reduceIte, Nat.reduceEqDiff, q1, q2, q3, q4, q5, q6, q7, hlen, hlv, a1, a2, a3, hlo, e2, e3, e4, e9, e55, e56, e57, l3, l4, l9, c1]); try rfl) rfl ⟨x1.trans hext, rfl⟩
set_option maxHeartbeats 1000000 in
theorem specSortOf_ok (g : Sgn) (hlg : LimS 1073741824 g) (vs : List VSort) (v : Value) (hvb : vs.length ≤ 1073741824) : ∀ (t : T) (st : St) (cg ct : List Value), Lim 1073741824 t → EncS st g cg → Enc st t ct → Rw st vs v →
  CallS Try.prog 10 [.agg cg.toArray, .agg ct.toArray, v] st fun r st2 => Ext st st2 ∧ r = .string (T.sortOf g vs t) := by
 refine T.ind fun k n nm args ih st cg ct hlt0 hG hE hV => ?_
 have hG' := hG
 obtain ⟨sa, ua, rfl, ha, hu⟩ := hG
 obtain ⟨s1, rfl, hr⟩ := hE.open
 refine CallS_of_W [] 71 Try.func10 rfl rfl rfl rfl (by simp) ?_
 have q1 := hr.notLoc.1
 have q2 := hr.notLoc.2
 have q3 := ha.notLoc.1
 have q4 := ha.notLoc.2
 have q5 := hu.notLoc.1
 have q6 := hu.notLoc.2
 have q7 := hV.notLoc.1
 have hlen : lenE Try.prog 28 s1 = some (.int .i64 args.length) := row_len hr Try.underlying28
 have hal := hlt0.args.1
 cases h3 : (k == 3) with
 | true =>
  rw [T.sortOf_word h3]
  repeat (first | with_reducible (first | refine thenI ?_ | refine thenE ?_ | refine thenR ?_ | refine inBI ?_ | refine inBR ?_ | refine inBS ?_ | refine inBN (by decide) ?_) | refine W_seqS ?_ | refine W_seqC ?_ | refine W_seqB ?_ | refine W_block ?_ | refine W_skip ?_ | (apply W_condB; (case hc => (simp (disch := omega) only [go_sem, ↓reduceIte, Nat.reduceEqDiff, q1, q2, q3, q4, q5, q6, q7, hlen, h3]); rfl); first | refine qzT ?_ | refine qzF ?_) | ((first | refine W_reg rfl fun G K hG hK => ?_ | refine W_end rfl fun G K hG hK => ?_); simp (disch := omega) only [go_sem, ↓reduceIte, Nat.reduceEqDiff, hG, q1, q2, q3, q4, q5, q6, q7, hlen, h3]; refine hK _ _ ?_; clear hK K hG G))
  refine W_ret ?_; try (repeat (with_reducible first | refine thenI ?_ | refine thenE ?_ | refine thenR ?_ | refine inBI ?_ | refine inBR ?_ | refine inBS ?_ | refine inBN (by decide) ?_))
  refine fin1 (.inl rfl) (by (simp (disch := omega) only [go_sem, ↓reduceIte, Nat.reduceEqDiff, q1, q2, q3, q4, q5, q6, q7, hlen]); try rfl) rfl ⟨Ext.refl _, rfl⟩
 | false =>
 cases h1 : (k == 1) with
 | true =>
  rw [T.sortOf_var h3 h1]
  repeat (first | with_reducible (first | refine thenI ?_ | refine thenE ?_ | refine thenR ?_ | refine inBI ?_ | refine inBR ?_ | refine inBS ?_ | refine inBN (by decide) ?_) | refine W_seqS ?_ | refine W_seqC ?_ | refine W_seqB ?_ | refine W_block ?_ | refine W_skip ?_ | (apply W_condB; (case hc => (simp (disch := omega) only [go_sem, ↓reduceIte, Nat.reduceEqDiff, q1, q2, q3, q4, q5, q6, q7, hlen, h3, h1]); rfl); first | refine qzT ?_ | refine qzF ?_) | ((first | refine W_reg rfl fun G K hG hK => ?_ | refine W_end rfl fun G K hG hK => ?_); simp (disch := omega) only [go_sem, ↓reduceIte, Nat.reduceEqDiff, hG, q1, q2, q3, q4, q5, q6, q7, hlen, h3, h1]; refine hK _ _ ?_; clear hK K hG G))
  (repeat (first | refine W_seqS ?_ | refine W_seqC ?_ | refine W_seqB ?_ | refine W_block ?_)); refine W_reg rfl fun G K hG hK => ?_; simp (disch := omega) only [go_sem, ↓reduceIte, Nat.reduceEqDiff, hG, q1, q2, q3, q4, q5, q6, q7, hlen]
  refine w_call (l6Var_ok vs nm st v hvb hV) (by simp (disch := omega) only [go_sem, ↓reduceIte, Nat.reduceEqDiff, q1, q2, q3, q4, q5, q6, q7, hlen]) ?hl ?_
  case hl => first | rfl | (simp only [go_sem, List.all_cons, List.all_nil, Bool.not_false, Bool.and_self, q1, q2, q3, q4, q5, q6, q7, hlen]; done)
  rintro r_ st ⟨rfl, rfl⟩; refine ⟨fun e => (by cases e), ?_⟩
  simp (disch := omega) only [go_sem, ↓reduceIte, Nat.reduceEqDiff, hG, q1, q2, q3, q4, q5, q6, q7, hlen]; refine hK _ _ ?_; clear hK K hG G; repeat (with_reducible first | refine thenI ?_ | refine thenE ?_ | refine thenR ?_ | refine inBI ?_ | refine inBR ?_ | refine inBS ?_ | refine inBN (by decide) ?_)
  repeat (first | with_reducible (first | refine thenI ?_ | refine thenE ?_ | refine thenR ?_ | refine inBI ?_ | refine inBR ?_ | refine inBS ?_ | refine inBN (by decide) ?_) | refine W_seqS ?_ | refine W_seqC ?_ | refine W_seqB ?_ | refine W_block ?_ | refine W_skip ?_ | (apply W_condB; (case hc => (simp (disch := omega) only [go_sem, ↓reduceIte, Nat.reduceEqDiff, q1, q2, q3, q4, q5, q6, q7, hlen]); rfl); first | refine qzT ?_ | refine qzF ?_) | ((first | refine W_reg rfl fun G K hG hK => ?_ | refine W_end rfl fun G K hG hK => ?_); simp (disch := omega) only [go_sem, ↓reduceIte, Nat.reduceEqDiff, hG, q1, q2, q3, q4, q5, q6, q7, hlen]; refine hK _ _ ?_; clear hK K hG G))
  refine W_ret ?_; try (repeat (with_reducible first | refine thenI ?_ | refine thenE ?_ | refine thenR ?_ | refine inBI ?_ | refine inBR ?_ | refine inBS ?_ | refine inBN (by decide) ?_))
  refine fin1 (.inl rfl) (by (simp (disch := omega) only [go_sem, ↓reduceIte, Nat.reduceEqDiff, q1, q2, q3, q4, q5, q6, q7, hlen]); try rfl) rfl ⟨Ext.refl _, rfl⟩
 | false =>
 cases h2 : (k == 2) with
 | false =>
  rw [T.sortOf_none h3 h1 h2]
  repeat (first | with_reducible (first | refine thenI ?_ | refine thenE ?_ | refine thenR ?_ | refine inBI ?_ | refine inBR ?_ | refine inBS ?_ | refine inBN (by decide) ?_) | refine W_seqS ?_ | refine W_seqC ?_ | refine W_seqB ?_ | refine W_block ?_ | refine W_skip ?_ | (apply W_condB; (case hc => (simp (disch := omega) only [go_sem, ↓reduceIte, Nat.reduceEqDiff, q1, q2, q3, q4, q5, q6, q7, hlen, h3, h1, h2]); rfl); first | refine qzT ?_ | refine qzF ?_) | ((first | refine W_reg rfl fun G K hG hK => ?_ | refine W_end rfl fun G K hG hK => ?_); simp (disch := omega) only [go_sem, ↓reduceIte, Nat.reduceEqDiff, hG, q1, q2, q3, q4, q5, q6, q7, hlen, h3, h1, h2]; refine hK _ _ ?_; clear hK K hG G))
  refine W_ret ?_; try (repeat (with_reducible first | refine thenI ?_ | refine thenE ?_ | refine thenR ?_ | refine inBI ?_ | refine inBR ?_ | refine inBS ?_ | refine inBN (by decide) ?_))
  refine fin1 (.inl rfl) (by (simp (disch := omega) only [go_sem, ↓reduceIte, Nat.reduceEqDiff, q1, q2, q3, q4, q5, q6, q7, hlen]); try rfl) rfl ⟨Ext.refl _, rfl⟩
 | true =>
  rw [T.sortOf_app h3 h1 h2]
  repeat (first | with_reducible (first | refine thenI ?_ | refine thenE ?_ | refine thenR ?_ | refine inBI ?_ | refine inBR ?_ | refine inBS ?_ | refine inBN (by decide) ?_) | refine W_seqS ?_ | refine W_seqC ?_ | refine W_seqB ?_ | refine W_block ?_ | refine W_skip ?_ | (apply W_condB; (case hc => (simp (disch := omega) only [go_sem, ↓reduceIte, Nat.reduceEqDiff, q1, q2, q3, q4, q5, q6, q7, hlen, h3, h1, h2]); rfl); first | refine qzT ?_ | refine qzF ?_) | ((first | refine W_reg rfl fun G K hG hK => ?_ | refine W_end rfl fun G K hG hK => ?_); simp (disch := omega) only [go_sem, ↓reduceIte, Nat.reduceEqDiff, hG, q1, q2, q3, q4, q5, q6, q7, hlen, h3, h1, h2]; refine hK _ _ ?_; clear hK K hG G))
  (repeat (first | refine W_seqS ?_ | refine W_seqC ?_ | refine W_seqB ?_ | refine W_block ?_)); refine W_reg rfl fun G K hG hK => ?_; simp (disch := omega) only [go_sem, ↓reduceIte, Nat.reduceEqDiff, hG, q1, q2, q3, q4, q5, q6, q7, hlen]
  refine w_call (specFindOp_ok g nm st _ hlg hG') (by simp (disch := omega) only [go_sem, ↓reduceIte, Nat.reduceEqDiff, q1, q2, q3, q4, q5, q6, q7, hlen]) ?hl ?_
  case hl => first | rfl | (simp only [go_sem, List.all_cons, List.all_nil, Bool.not_false, Bool.and_self, q1, q2, q3, q4, q5, q6, q7, hlen]; done)
  rintro r_ sA ⟨x1, ds, Lo, rfl, ho, hfo⟩; refine ⟨fun e => (by cases e), ?_⟩
  obtain ⟨so, rfl, hso⟩ := ho
  have a1 := hso.okv
  have a2 := hso.loc
  have a3 := hso.cells
  have hlo : lenE Try.prog 24 so = some (.int .i64 (findOp g nm).1.args.length) := row_len hso.row Try.underlying24
  simp (disch := omega) only [go_sem, ↓reduceIte, Nat.reduceEqDiff, hG, q1, q2, q3, q4, q5, q6, q7, hlen, a1, a2, a3]; refine hK _ _ ?_; clear hK K hG G; repeat (with_reducible first | refine thenI ?_ | refine thenE ?_ | refine thenR ?_ | refine inBI ?_ | refine inBR ?_ | refine inBS ?_ | refine inBN (by decide) ?_)
  generalize findOp g nm = fo at hso hlo
  obtain ⟨⟨no, os, mo⟩, fb⟩ := fo
  simp only at hso hlo
  cases fb with
  | false =>
   simp only [Bool.false_eq_true, if_false]
   repeat (first | with_reducible (first | refine thenI ?_ | refine thenE ?_ | refine thenR ?_ | refine inBI ?_ | refine inBR ?_ | refine inBS ?_ | refine inBN (by decide) ?_) | refine W_seqS ?_ | refine W_seqC ?_ | refine W_seqB ?_ | refine W_block ?_ | refine W_skip ?_ | (apply W_condB; (case hc => (simp (disch := omega) only [go_sem, ↓reduceIte, Nat.reduceEqDiff, q1, q2, q3, q4, q5, q6, q7, hlen, a1, a2, a3, hlo]); rfl); first | refine qzT ?_ | refine qzF ?_) | ((first | refine W_reg rfl fun G K hG hK => ?_ | refine W_end rfl fun G K hG hK => ?_); simp (disch := omega) only [go_sem, ↓reduceIte, Nat.reduceEqDiff, hG, q1, q2, q3, q4, q5, q6, q7, hlen, a1, a2, a3, hlo]; refine hK _ _ ?_; clear hK K hG G))
   refine W_ret ?_; try (repeat (with_reducible first | refine thenI ?_ | refine thenE ?_ | refine thenR ?_ | refine inBI ?_ | refine inBR ?_ | refine inBS ?_ | refine inBN (by decide) ?_))
   refine fin1 (.inl rfl) (by (simp (disch := omega) only [go_sem, ↓reduceIte, Nat.reduceEqDiff, q1, q2, q3, q4, q5, q6, q7, hlen, a1, a2, a3, hlo]); try rfl) rfl ⟨x1, rfl⟩
  | true =>
  simp only [if_true]
  cases hc : ((os.length : Int) == (args.length : Int)) with
  | false =>
   have c8 : ((os.length : Int) != (args.length : Int)) = true := by simp only [bne, hc]; rfl
   simp only [Bool.false_eq_true, if_false]
   repeat (first | with_reducible (first | refine thenI ?_ | refine thenE ?_ | refine thenR ?_ | refine inBI ?_ | refine inBR ?_ | refine inBS ?_ | refine inBN (by decide) ?_) | refine W_seqS ?_ | refine W_seqC ?_ | refine W_seqB ?_ | refine W_block ?_ | refine W_skip ?_ | (apply W_condB; (case hc => (simp (disch := omega) only [go_sem, ↓reduceIte, Nat.reduceEqDiff, q1, q2, q3, q4, q5, q6, q7, hlen, a1, a2, a3, hlo, c8]); rfl); first | refine qzT ?_ | refine qzF ?_) | ((first | refine W_reg rfl fun G K hG hK => ?_ | refine W_end rfl fun G K hG hK => ?_); simp (disch := omega) only [go_sem, ↓reduceIte, Nat.reduceEqDiff, hG, q1, q2, q3, q4, q5, q6, q7, hlen, a1, a2, a3, hlo, c8]; refine hK _ _ ?_; clear hK K hG G))
   refine W_ret ?_; try (repeat (with_reducible first | refine thenI ?_ | refine thenE ?_ | refine thenR ?_ | refine inBI ?_ | refine inBR ?_ | refine inBS ?_ | refine inBN (by decide) ?_))
   refine fin1 (.inl rfl) (by (simp (disch := omega) only [go_sem, ↓reduceIte, Nat.reduceEqDiff, q1, q2, q3, q4, q5, q6, q7, hlen, a1, a2, a3, hlo]); try rfl) rfl ⟨x1, rfl⟩
  | true =>
  have hol : os.length = args.length := by have h := eq_of_beq hc; omega
  have c8 : ((os.length : Int) != (args.length : Int)) = false := by simp only [bne, hc]; rfl
  simp only [if_true]
  repeat (first | with_reducible (first | refine thenI ?_ | refine thenE ?_ | refine thenR ?_ | refine inBI ?_ | refine inBR ?_ | refine inBS ?_ | refine inBN (by decide) ?_) | refine W_seqS ?_ | refine W_seqC ?_ | refine W_seqB ?_ | refine W_block ?_ | refine W_skip ?_ | (apply W_condB; (case hc => (simp (disch := omega) only [go_sem, ↓reduceIte, Nat.reduceEqDiff, q1, q2, q3, q4, q5, q6, q7, hlen, a1, a2, a3, hlo, c8]); rfl); first | refine qzT ?_ | refine qzF ?_) | ((first | refine W_reg rfl fun G K hG hK => ?_ | refine W_end rfl fun G K hG hK => ?_); simp (disch := omega) only [go_sem, ↓reduceIte, Nat.reduceEqDiff, hG, q1, q2, q3, q4, q5, q6, q7, hlen, a1, a2, a3, hlo, c8]; refine hK _ _ ?_; clear hK K hG G))
  refine W_loop (fun d fr st' => ∃ (j : Nat) , d = args.length - j ∧ j ≤ args.length ∧ (Ext sA st') ∧ (okSorts ((T.sortsL g vs args).drop j) (os.drop j) = okSorts (T.sortsL g vs args) os) ∧ (fr.env 2 = v) ∧ (fr.env 3 = .pointer (some ⟨3, 0, some 1⟩)) ∧ (fr.env 4 = .pointer (some ⟨4, 0, some 1⟩)) ∧ (fr.env 7 = .pointer (some ⟨7, 0, some 1⟩)) ∧ (fr.env 9 = .int .i64 j) ∧ (fr.loc 3 = (1, [sa, ua])) ∧ (fr.loc 4 = (1, [.int .i64 k, .int .i64 n, .string nm, s1])) ∧ (fr.loc 7 = (1, [.string no, so, .string mo]))) (args.length) ?_ ?_
  ·exact ⟨0, by omega, by omega, Ext.refl _, by simp, (by refine ⟨?_, ?_, ?_, ?_, ?_, ?_, ?_, ?_⟩ <;> ((simp (disch := omega) only [go_sem, ↓reduceIte, Nat.reduceEqDiff, q1, q2, q3, q4, q5, q6, q7, hlen, a1, a2, a3, hlo]); try rfl))⟩
  rintro d ⟨env, loc⟩ st' ⟨j, hd, hj, hext, hok, e2, e3, e4, e7, e9, l3, l4, l7⟩
  simp only at e2 e3 e4 e7 e9 l3 l4 l7
  by_cases hlt : j < args.length
  ·have c1 : decide ((j : Int) < (args.length : Int)) = true := by simpa using hlt
   have hi := idxOk hlt
   have hx : args[j]? = some args[j] := List.getElem?_eq_getElem hlt
   have htk : args.take (j + 1) = args.take j ++ [args[j]] := List.take_succ_eq_append_getElem hlt
   obtain ⟨i, o, c, cs, rfl, hcl, hE', hcs⟩ := row_at hr hx
   have hx2 := x1.trans hext
   have hld := fun loc => load_row (A := []) (loc := loc) ag30 sz30 hcl (hcs.ext hx2)
   obtain ⟨ka, na, ma, sa', rfl, c1', c2', c3'⟩ := hE'.args_cells
   have hjo : j < os.length := by omega
   have hjs : j < (T.sortsL g vs args).length := by rw [T.sortsL_map, List.length_map]; exact hlt
   have hsj : (T.sortsL g vs args)[j] = T.sortOf g vs args[j] := by
    have : (T.sortsL g vs args)[j]? = some (T.sortOf g vs args[j]) := by rw [T.sortsL_map, List.getElem?_map, hx]; rfl
    rw [List.getElem?_eq_getElem hjs] at this
    exact Option.some.inj this
   obtain ⟨i2, o2, c2, hse2, hce2⟩ := row_atS (hso.row.ext hext) (List.getElem?_eq_getElem hjo)
   have hi2 := idxOk hjo
   rw [okSorts_step hjs hjo, hsj] at hok
   subst hse2
   repeat (first | with_reducible (first | refine thenI ?_ | refine thenE ?_ | refine thenR ?_ | refine inBI ?_ | refine inBR ?_ | refine inBS ?_ | refine inBN (by decide) ?_) | refine W_seqS ?_ | refine W_seqC ?_ | refine W_seqB ?_ | refine W_block ?_ | refine W_skip ?_ | (apply W_condB; (case hc => (simp (disch := omega) only [go_sem, ↓reduceIte, Nat.reduceEqDiff, q1, q2, q3, q4, q5, q6, q7, hlen, a1, a2, a3, hlo, e2, e3, e4, e7, e9, l3, l4, l7, c1, hi, idxA, Int.toNat_natCast, c1', c2', c3']); rfl); first | refine qzT ?_ | refine qzF ?_) | ((first | refine W_reg rfl fun G K hG hK => ?_ | refine W_end rfl fun G K hG hK => ?_); simp (disch := omega) only [go_sem, ↓reduceIte, Nat.reduceEqDiff, hG, q1, q2, q3, q4, q5, q6, q7, hlen, a1, a2, a3, hlo, e2, e3, e4, e7, e9, l3, l4, l7, c1, hi, idxA, Int.toNat_natCast, c1', c2', c3']; refine hK _ _ ?_; clear hK K hG G))
   (repeat (first | refine W_seqS ?_ | refine W_seqC ?_ | refine W_seqB ?_ | refine W_block ?_)); refine W_regD mixed [] [(0,false),(1,false),(2,false),(3,false),(4,false),(5,false),(6,false),(8,false),(9,false),(10,false),(11,false),(12,false),(7,true),(13,false),(14,false),(15,false),(16,false),(17,false),(18,false),(19,false),(20,false),(21,false)] rfl (by decide +kernel) fun G K hG hK => ?_; simp only [pickOps, List.filterMap_cons, List.filterMap_nil, List.getElem?_cons_zero, List.getElem?_cons_succ, Option.map_some]; simp (disch := omega) only [go_sem, ↓reduceIte, Nat.reduceEqDiff, hG, q1, q2, q3, q4, q5, q6, q7, hlen, a1, a2, a3, hlo, e2, e3, e4, e7, e9, l3, l4, l7, c1, hi, idxA, Int.toNat_natCast, c1', c2', c3', hld, hce2, hi2, ag9]
   refine w_call (ih args[j] (List.getElem_mem hlt) st' _ _ (hlt0.args.2 _ (List.getElem_mem hlt)) (hG'.ext hx2) (Enc.ext hx2 _ _ hE') (hV.ext hx2)) (by simp (disch := omega) only [go_sem, ↓reduceIte, Nat.reduceEqDiff, q1, q2, q3, q4, q5, q6, q7, hlen, a1, a2, a3, hlo, e2, e3, e4, e7, e9, l3, l4, l7, c1, hi, idxA, Int.toNat_natCast, c1', c2', c3']) ?hl ?_
   case hl => first | rfl | (simp only [go_sem, List.all_cons, List.all_nil, Bool.not_false, Bool.and_self, q1, q2, q3, q4, q5, q6, q7, hlen, a1, a2, a3, hlo, e2, e3, e4, e7, e9, l3, l4, l7, c1, hi, idxA, Int.toNat_natCast, c1', c2', c3']; done)
   rintro r_ sb ⟨x3, rfl⟩; refine ⟨fun e => x3, ?_⟩
   have hce3 : cell sb i2 (o2 + j * 1) = _ := cell_ext x3 hce2
   cases hq : ((T.sortOf g vs args[j]).toList == os[j].toList) with
   | false =>
    rw [hq] at hok
    simp only [Bool.false_and, Bool.and_false] at hok
    simp (disch := omega) only [go_sem, ↓reduceIte, Nat.reduceEqDiff, hG, q1, q2, q3, q4, q5, q6, q7, hlen, a1, a2, a3, hlo, e2, e3, e4, e7, e9, l3, l4, l7, c1, hi, idxA, Int.toNat_natCast, c1', c2', c3', hq]; refine hK _ _ ?_; clear hK K hG G; repeat (with_reducible first | refine thenI ?_ | refine thenE ?_ | refine thenR ?_ | refine inBI ?_ | refine inBR ?_ | refine inBS ?_ | refine inBN (by decide) ?_)
    rw [← hok]
    simp only [Bool.false_eq_true, if_false]
    repeat (first | with_reducible (first | refine thenI ?_ | refine thenE ?_ | refine thenR ?_ | refine inBI ?_ | refine inBR ?_ | refine inBS ?_ | refine inBN (by decide) ?_) | refine W_seqS ?_ | refine W_seqC ?_ | refine W_seqB ?_ | refine W_block ?_ | refine W_skip ?_ | (apply W_condB; (case hc => (simp (disch := omega) only [go_sem, ↓reduceIte, Nat.reduceEqDiff, q1, q2, q3, q4, q5, q6, q7, hlen, a1, a2, a3, hlo, e2, e3, e4, e7, e9, l3, l4, l7, c1, hi, idxA, Int.toNat_natCast, c1', c2', c3']); rfl); first | refine qzT ?_ | refine qzF ?_) | ((first | refine W_reg rfl fun G K hG hK => ?_ | refine W_end rfl fun G K hG hK => ?_); simp (disch := omega) only [go_sem, ↓reduceIte, Nat.reduceEqDiff, hG, q1, q2, q3, q4, q5, q6, q7, hlen, a1, a2, a3, hlo, e2, e3, e4, e7, e9, l3, l4, l7, c1, hi, idxA, Int.toNat_natCast, c1', c2', c3']; refine hK _ _ ?_; clear hK K hG G))
    refine W_ret ?_; try (repeat (with_reducible first | refine thenI ?_ | refine thenE ?_ | refine thenR ?_ | refine inBI ?_ | refine inBR ?_ | refine inBS ?_ | refine inBN (by decide) ?_))
    refine fin1 (.inl rfl) (by (simp (disch := omega) only [go_sem, ↓reduceIte, Nat.reduceEqDiff, q1, q2, q3, q4, q5, q6, q7, hlen, a1, a2, a3, hlo, e2, e3, e4, e7, e9, l3, l4, l7, c1, hi, idxA, Int.toNat_natCast, c1', c2', c3']); try rfl) rfl ⟨hx2.trans x3, rfl⟩
   | true =>
    rw [hq] at hok
    have hqe : (T.sortOf g vs args[j]).toList = os[j].toList := by simpa using hq
    rw [hqe] at hok
    simp only [Bool.true_and] at hok
    cases he : (os[j].toList == (⟨#[]⟩ : ByteArray).toList) with
    | true =>
     have he2 : (os[j].toList == emptyB.toList) = true := he
     rw [he2] at hok
     simp only [Bool.not_true, Bool.false_and] at hok
     simp (disch := omega) only [go_sem, ↓reduceIte, Nat.reduceEqDiff, hG, q1, q2, q3, q4, q5, q6, q7, hlen, a1, a2, a3, hlo, e2, e3, e4, e7, e9, l3, l4, l7, c1, hi, idxA, Int.toNat_natCast, c1', c2', c3', hq, he, hce3, hi2, ag9]; refine hK _ _ ?_; clear hK K hG G; repeat (with_reducible first | refine thenI ?_ | refine thenE ?_ | refine thenR ?_ | refine inBI ?_ | refine inBR ?_ | refine inBS ?_ | refine inBN (by decide) ?_)
     rw [← hok]
     simp only [Bool.false_eq_true, if_false]
     repeat (first | with_reducible (first | refine thenI ?_ | refine thenE ?_ | refine thenR ?_ | refine inBI ?_ | refine inBR ?_ | refine inBS ?_ | refine inBN (by decide) ?_) | refine W_seqS ?_ | refine W_seqC ?_ | refine W_seqB ?_ | refine W_block ?_ | refine W_skip ?_ | (apply W_condB; (case hc => (simp (disch := omega) only [go_sem, ↓reduceIte, Nat.reduceEqDiff, q1, q2, q3, q4, q5, q6, q7, hlen, a1, a2, a3, hlo, e2, e3, e4, e7, e9, l3, l4, l7, c1, hi, idxA, Int.toNat_natCast, c1', c2', c3']); rfl); first | refine qzT ?_ | refine qzF ?_) | ((first | refine W_reg rfl fun G K hG hK => ?_ | refine W_end rfl fun G K hG hK => ?_); simp (disch := omega) only [go_sem, ↓reduceIte, Nat.reduceEqDiff, hG, q1, q2, q3, q4, q5, q6, q7, hlen, a1, a2, a3, hlo, e2, e3, e4, e7, e9, l3, l4, l7, c1, hi, idxA, Int.toNat_natCast, c1', c2', c3']; refine hK _ _ ?_; clear hK K hG G))
     refine W_ret ?_; try (repeat (with_reducible first | refine thenI ?_ | refine thenE ?_ | refine thenR ?_ | refine inBI ?_ | refine inBR ?_ | refine inBS ?_ | refine inBN (by decide) ?_))
     refine fin1 (.inl rfl) (by (simp (disch := omega) only [go_sem, ↓reduceIte, Nat.reduceEqDiff, q1, q2, q3, q4, q5, q6, q7, hlen, a1, a2, a3, hlo, e2, e3, e4, e7, e9, l3, l4, l7, c1, hi, idxA, Int.toNat_natCast, c1', c2', c3']); try rfl) rfl ⟨hx2.trans x3, rfl⟩
    | false =>
     have he2 : (os[j].toList == emptyB.toList) = false := he
     rw [he2] at hok
     simp only [Bool.not_false, Bool.true_and] at hok
     simp (disch := omega) only [go_sem, ↓reduceIte, Nat.reduceEqDiff, hG, q1, q2, q3, q4, q5, q6, q7, hlen, a1, a2, a3, hlo, e2, e3, e4, e7, e9, l3, l4, l7, c1, hi, idxA, Int.toNat_natCast, c1', c2', c3', hq, he, hce3, hi2, ag9]; refine hK _ _ ?_; clear hK K hG G; repeat (with_reducible first | refine thenI ?_ | refine thenE ?_ | refine thenR ?_ | refine inBI ?_ | refine inBR ?_ | refine inBS ?_ | refine inBN (by decide) ?_)
     repeat (first | with_reducible (first | refine thenI ?_ | refine thenE ?_ | refine thenR ?_ | refine inBI ?_ | refine inBR ?_ | refine inBS ?_ | refine inBN (by decide) ?_) | refine W_seqS ?_ | refine W_seqC ?_ | refine W_seqB ?_ | refine W_block ?_ | refine W_skip ?_ | (apply W_condB; (case hc => (simp (disch := omega) only [go_sem, ↓reduceIte, Nat.reduceEqDiff, q1, q2, q3, q4, q5, q6, q7, hlen, a1, a2, a3, hlo, e2, e3, e4, e7, e9, l3, l4, l7, c1, hi, idxA, Int.toNat_natCast, c1', c2', c3']); rfl); first | refine qzT ?_ | refine qzF ?_) | ((first | refine W_reg rfl fun G K hG hK => ?_ | refine W_end rfl fun G K hG hK => ?_); simp (disch := omega) only [go_sem, ↓reduceIte, Nat.reduceEqDiff, hG, q1, q2, q3, q4, q5, q6, q7, hlen, a1, a2, a3, hlo, e2, e3, e4, e7, e9, l3, l4, l7, c1, hi, idxA, Int.toNat_natCast, c1', c2', c3']; refine hK _ _ ?_; clear hK K hG G))
     refine ⟨args.length - (j + 1), by omega, j + 1, rfl, by omega, hext.trans x3, hok, (by refine ⟨?_, ?_, ?_, ?_, ?_, ?_, ?_, ?_⟩ <;> ((simp (disch := omega) only [go_sem, ↓reduceIte, Nat.reduceEqDiff, q1, q2, q3, q4, q5, q6, q7, hlen, a1, a2, a3, hlo, e2, e3, e4, e7, e9, l3, l4, l7, c1, hi, idxA, Int.toNat_natCast, c1', c2', c3']); try rfl))⟩
  ·have c1 : decide ((j : Int) < (args.length : Int)) = false := by simpa using hlt
   have hjn : j = args.length := by omega
   subst hjn
   have h4 : (T.sortsL g vs args).drop args.length = [] := List.drop_eq_nil_of_le (by rw [T.sortsL_map, List.length_map]; omega)
   rw [h4] at hok
   rw [← hok]
   have h5 : okSorts [] (os.drop args.length) = true := rfl
   rw [h5]
   simp only [if_true]
   repeat (first | with_reducible (first | refine thenI ?_ | refine thenE ?_ | refine thenR ?_ | refine inBI ?_ | refine inBR ?_ | refine inBS ?_ | refine inBN (by decide) ?_) | refine W_seqS ?_ | refine W_seqC ?_ | refine W_seqB ?_ | refine W_block ?_ | refine W_skip ?_ | (apply W_condB; (case hc => (simp (disch := omega) only [go_sem, ↓reduceIte, Nat.reduceEqDiff, q1, q2, q3, q4, q5, q6, q7, hlen, a1, a2, a3, hlo, e2, e3, e4, e7, e9, l3, l4, l7, c1]); rfl); first | refine qzT ?_ | refine qzF ?_) | ((first | refine W_reg rfl fun G K hG hK => ?_ | refine W_end rfl fun G K hG hK => ?_); simp (disch := omega) only [go_sem, ↓reduceIte, Nat.reduceEqDiff, hG, q1, q2, q3, q4, q5, q6, q7, hlen, a1, a2, a3, hlo, e2, e3, e4, e7, e9, l3, l4, l7, c1]; refine hK _ _ ?_; clear hK K hG G))
   refine W_exit ?_; repeat (with_reducible first | refine thenI ?_ | refine thenE ?_ | refine thenR ?_ | refine inBI ?_ | refine inBR ?_ | refine inBS ?_ | refine inBN (by decide) ?_)
   repeat (first | with_reducible (first | refine thenI ?_ | refine thenE ?_ | refine thenR ?_ | refine inBI ?_ | refine inBR ?_ | refine inBS ?_ | refine inBN (by decide) ?_) | refine W_seqS ?_ | refine W_seqC ?_ | refine W_seqB ?_ | refine W_block ?_ | refine W_skip ?_ | (apply W_condB; (case hc => (simp (disch := omega) only [go_sem, ↓reduceIte, Nat.reduceEqDiff, q1, q2, q3, q4, q5, q6, q7, hlen, a1, a2, a3, hlo, e2, e3, e4, e7, e9, l3, l4, l7, c1]); rfl); first | refine qzT ?_ | refine qzF ?_) | ((first | refine W_reg rfl fun G K hG hK => ?_ | refine W_end rfl fun G K hG hK => ?_); simp (disch := omega) only [go_sem, ↓reduceIte, Nat.reduceEqDiff, hG, q1, q2, q3, q4, q5, q6, q7, hlen, a1, a2, a3, hlo, e2, e3, e4, e7, e9, l3, l4, l7, c1]; refine hK _ _ ?_; clear hK K hG G))
   refine W_ret ?_; try (repeat (with_reducible first | refine thenI ?_ | refine thenE ?_ | refine thenR ?_ | refine inBI ?_ | refine inBR ?_ | refine inBS ?_ | refine inBN (by decide) ?_))
   refine fin1 (.inl rfl) (by (simp (disch := omega) only [go_sem, ↓reduceIte, Nat.reduceEqDiff, q1, q2, q3, q4, q5, q6, q7, hlen, a1, a2, a3, hlo, e2, e3, e4, e7, e9, l3, l4, l7, c1]); try rfl) rfl ⟨x1.trans hext, rfl⟩
theorem implInferVars_ok (g : Sgn) (t : T) (w : ByteArray) (st : St) (cg ct : List Value) (hlg : LimS 1073741824 g) (hlt : Lim 1073741824 t) (hB : t.wt + 1 ≤ 1073741824) (hG : EncS st g cg) (hE : Enc st t ct) :
  CallS Try.prog 6 [.agg cg.toArray, .agg ct.toArray, .string w] st fun r st2 => Ext st st2 ∧ ∃ v L, r = .tuple #[v, .bool (inferV g t w).2] ∧ Sl st2 (inferV g t w).1 v L ∧ Fresh st.length L := by
 have hG' := hG
 obtain ⟨sa, ua, rfl, ha, hu⟩ := hG
 obtain ⟨k, n, m, s1, rfl, q1, q2, q8⟩ := hE.args_cells
 refine CallS_of_W [] 32 Try.func6 rfl rfl rfl rfl (by simp) ?_
 have q3 := ha.notLoc.1
 have q4 := ha.notLoc.2
 have q5 := hu.notLoc.1
 have q6 := hu.notLoc.2
 repeat (first | with_reducible (first | refine thenI ?_ | refine thenE ?_ | refine thenR ?_ | refine inBI ?_ | refine inBR ?_ | refine inBS ?_ | refine inBN (by decide) ?_) | refine W_seqS ?_ | refine W_seqC ?_ | refine W_seqB ?_ | refine W_block ?_ | refine W_skip ?_ | (apply W_condB; (case hc => (simp (disch := omega) only [go_sem, ↓reduceIte, Nat.reduceEqDiff, q1, q2, q3, q4, q5, q6, q8]); rfl); first | refine qzT ?_ | refine qzF ?_) | ((first | refine W_reg rfl fun G K hG hK => ?_ | refine W_end rfl fun G K hG hK => ?_); simp (disch := omega) only [go_sem, ↓reduceIte, Nat.reduceEqDiff, hG, q1, q2, q3, q4, q5, q6, q8]; refine hK _ _ ?_; clear hK K hG G))
 (repeat (first | refine W_seqS ?_ | refine W_seqC ?_ | refine W_seqB ?_ | refine W_block ?_)); refine W_reg rfl fun G K hG hK => ?_; simp (disch := omega) only [go_sem, ↓reduceIte, Nat.reduceEqDiff, hG, q1, q2, q3, q4, q5, q6, q8]
 refine w_call (implInf_ok g hlg t w st st _ _ [] (.slice none 0 0) [] hlt (by simp; omega) (Ext.refl _) hG' hE (Sl.nil _) (.nil _)) (by simp (disch := omega) only [go_sem, ↓reduceIte, Nat.reduceEqDiff, q1, q2, q3, q4, q5, q6, q8]) ?hl ?_
 case hl => first | rfl | (simp only [go_sem, List.all_cons, List.all_nil, Bool.not_false, Bool.and_self, q1, q2, q3, q4, q5, q6, q8]; done)
 rintro r_ sb ⟨x1, hres⟩; refine ⟨fun e => (by cases e), ?_⟩
 cases hmf : T.inferF g t w [] with
 | none =>
  rw [hmf] at hres
  obtain ⟨v, hv, rfl⟩ := hres
  have hiv : inferV g t w = ([], false) := by unfold inferV; rw [hmf]
  simp (disch := omega) only [go_sem, ↓reduceIte, Nat.reduceEqDiff, hG, q1, q2, q3, q4, q5, q6, q8, hv]; refine hK _ _ ?_; clear hK K hG G; repeat (with_reducible first | refine thenI ?_ | refine thenE ?_ | refine thenR ?_ | refine inBI ?_ | refine inBR ?_ | refine inBS ?_ | refine inBN (by decide) ?_)
  rw [hiv]
  repeat (first | with_reducible (first | refine thenI ?_ | refine thenE ?_ | refine thenR ?_ | refine inBI ?_ | refine inBR ?_ | refine inBS ?_ | refine inBN (by decide) ?_) | refine W_seqS ?_ | refine W_seqC ?_ | refine W_seqB ?_ | refine W_block ?_ | refine W_skip ?_ | (apply W_condB; (case hc => (simp (disch := omega) only [go_sem, ↓reduceIte, Nat.reduceEqDiff, q1, q2, q3, q4, q5, q6, q8]); rfl); first | refine qzT ?_ | refine qzF ?_) | ((first | refine W_reg rfl fun G K hG hK => ?_ | refine W_end rfl fun G K hG hK => ?_); simp (disch := omega) only [go_sem, ↓reduceIte, Nat.reduceEqDiff, hG, q1, q2, q3, q4, q5, q6, q8]; refine hK _ _ ?_; clear hK K hG G))
  refine W_ret ?_; try (repeat (with_reducible first | refine thenI ?_ | refine thenE ?_ | refine thenR ?_ | refine inBI ?_ | refine inBR ?_ | refine inBS ?_ | refine inBN (by decide) ?_))
  refine fin2 (.inl rfl) (by (simp (disch := omega) only [go_sem, ↓reduceIte, Nat.reduceEqDiff, q1, q2, q3, q4, q5, q6, q8]); try rfl) rfl (by (simp (disch := omega) only [go_sem, ↓reduceIte, Nat.reduceEqDiff, q1, q2, q3, q4, q5, q6, q8]); try rfl) rfl ⟨x1, _, [], rfl, Sl.nil _, .nil _⟩
 | some vs =>
  rw [hmf] at hres
  obtain ⟨v, L, rfl, hs, hf, hg⟩ := hres
  have ov := hs.loc
  have hvl := T.inferF_len g t w [] vs hmf
  simp only [List.length_nil, Nat.zero_add] at hvl
  simp (disch := omega) only [go_sem, ↓reduceIte, Nat.reduceEqDiff, hG, q1, q2, q3, q4, q5, q6, q8, ov]; refine hK _ _ ?_; clear hK K hG G; repeat (with_reducible first | refine thenI ?_ | refine thenE ?_ | refine thenR ?_ | refine inBI ?_ | refine inBR ?_ | refine inBS ?_ | refine inBN (by decide) ?_)
  cases hw : (w.toList == (⟨#[]⟩ : ByteArray).toList) with
  | true =>
   have hiv : inferV g t w = ([], false) := by
    have h2 : (w.toList == emptyB.toList) = true := hw
    unfold inferV; rw [hmf]; simp only [h2, if_true]
   rw [hiv]
   repeat (first | with_reducible (first | refine thenI ?_ | refine thenE ?_ | refine thenR ?_ | refine inBI ?_ | refine inBR ?_ | refine inBS ?_ | refine inBN (by decide) ?_) | refine W_seqS ?_ | refine W_seqC ?_ | refine W_seqB ?_ | refine W_block ?_ | refine W_skip ?_ | (apply W_condB; (case hc => (simp (disch := omega) only [go_sem, ↓reduceIte, Nat.reduceEqDiff, q1, q2, q3, q4, q5, q6, q8, ov, hw]); rfl); first | refine qzT ?_ | refine qzF ?_) | ((first | refine W_reg rfl fun G K hG hK => ?_ | refine W_end rfl fun G K hG hK => ?_); simp (disch := omega) only [go_sem, ↓reduceIte, Nat.reduceEqDiff, hG, q1, q2, q3, q4, q5, q6, q8, ov, hw]; refine hK _ _ ?_; clear hK K hG G))
   refine W_ret ?_; try (repeat (with_reducible first | refine thenI ?_ | refine thenE ?_ | refine thenR ?_ | refine inBI ?_ | refine inBR ?_ | refine inBS ?_ | refine inBN (by decide) ?_))
   refine fin2 (.inl rfl) (by (simp (disch := omega) only [go_sem, ↓reduceIte, Nat.reduceEqDiff, q1, q2, q3, q4, q5, q6, q8, ov]); try rfl) rfl (by (simp (disch := omega) only [go_sem, ↓reduceIte, Nat.reduceEqDiff, q1, q2, q3, q4, q5, q6, q8, ov]); try rfl) rfl ⟨x1, _, [], rfl, Sl.nil _, .nil _⟩
  | false =>
   have h2 : (w.toList == emptyB.toList) = false := hw
   (repeat (first | refine W_seqS ?_ | refine W_seqC ?_ | refine W_seqB ?_ | refine W_block ?_)); refine W_reg rfl fun G K hG hK => ?_; simp (disch := omega) only [go_sem, ↓reduceIte, Nat.reduceEqDiff, hG, q1, q2, q3, q4, q5, q6, q8, ov, hw]
   refine w_call (implSortOf_ok g hlg vs v (by omega) t sb _ _ hlt (hG'.ext x1) (Enc.ext x1 _ _ hE) hs.row) (by simp (disch := omega) only [go_sem, ↓reduceIte, Nat.reduceEqDiff, q1, q2, q3, q4, q5, q6, q8, ov]) ?hl ?_
   case hl => first | rfl | (simp only [go_sem, List.all_cons, List.all_nil, Bool.not_false, Bool.and_self, q1, q2, q3, q4, q5, q6, q8, ov]; done)
   rintro r_ sc ⟨x2, rfl⟩; refine ⟨fun e => (by cases e), ?_⟩
   cases hq : ((T.sortOf g vs t).toList == w.toList) with
   | true =>
    have hiv : inferV g t w = (vs, true) := by
     unfold inferV; rw [hmf]; simp only [h2, hq, Bool.false_eq_true, if_false, if_true]
    simp (disch := omega) only [go_sem, ↓reduceIte, Nat.reduceEqDiff, hG, q1, q2, q3, q4, q5, q6, q8, ov, hw, hq]; refine hK _ _ ?_; clear hK K hG G; repeat (with_reducible first | refine thenI ?_ | refine thenE ?_ | refine thenR ?_ | refine inBI ?_ | refine inBR ?_ | refine inBS ?_ | refine inBN (by decide) ?_)
    rw [hiv]
    repeat (first | with_reducible (first | refine thenI ?_ | refine thenE ?_ | refine thenR ?_ | refine inBI ?_ | refine inBR ?_ | refine inBS ?_ | refine inBN (by decide) ?_) | refine W_seqS ?_ | refine W_seqC ?_ | refine W_seqB ?_ | refine W_block ?_ | refine W_skip ?_ | (apply W_condB; (case hc => (simp (disch := omega) only [go_sem, ↓reduceIte, Nat.reduceEqDiff, q1, q2, q3, q4, q5, q6, q8, ov]); rfl); first | refine qzT ?_ | refine qzF ?_) | ((first | refine W_reg rfl fun G K hG hK => ?_ | refine W_end rfl fun G K hG hK => ?_); simp (disch := omega) only [go_sem, ↓reduceIte, Nat.reduceEqDiff, hG, q1, q2, q3, q4, q5, q6, q8, ov]; refine hK _ _ ?_; clear hK K hG G))
    refine W_ret ?_; try (repeat (with_reducible first | refine thenI ?_ | refine thenE ?_ | refine thenR ?_ | refine inBI ?_ | refine inBR ?_ | refine inBS ?_ | refine inBN (by decide) ?_))
    refine fin2 (.inl rfl) (by (simp (disch := omega) only [go_sem, ↓reduceIte, Nat.reduceEqDiff, q1, q2, q3, q4, q5, q6, q8, ov]); try rfl) ov (by (simp (disch := omega) only [go_sem, ↓reduceIte, Nat.reduceEqDiff, q1, q2, q3, q4, q5, q6, q8, ov]); try rfl) rfl ⟨x1.trans x2, _, L, rfl, hs.ext x2, hf⟩
   | false =>
    have hiv : inferV g t w = ([], false) := by
     unfold inferV; rw [hmf]; simp only [h2, hq, Bool.false_eq_true, if_false]
    simp (disch := omega) only [go_sem, ↓reduceIte, Nat.reduceEqDiff, hG, q1, q2, q3, q4, q5, q6, q8, ov, hw, hq]; refine hK _ _ ?_; clear hK K hG G; repeat (with_reducible first | refine thenI ?_ | refine thenE ?_ | refine thenR ?_ | refine inBI ?_ | refine inBR ?_ | refine inBS ?_ | refine inBN (by decide) ?_)
    rw [hiv]
    repeat (first | with_reducible (first | refine thenI ?_ | refine thenE ?_ | refine thenR ?_ | refine inBI ?_ | refine inBR ?_ | refine inBS ?_ | refine inBN (by decide) ?_) | refine W_seqS ?_ | refine W_seqC ?_ | refine W_seqB ?_ | refine W_block ?_ | refine W_skip ?_ | (apply W_condB; (case hc => (simp (disch := omega) only [go_sem, ↓reduceIte, Nat.reduceEqDiff, q1, q2, q3, q4, q5, q6, q8, ov]); rfl); first | refine qzT ?_ | refine qzF ?_) | ((first | refine W_reg rfl fun G K hG hK => ?_ | refine W_end rfl fun G K hG hK => ?_); simp (disch := omega) only [go_sem, ↓reduceIte, Nat.reduceEqDiff, hG, q1, q2, q3, q4, q5, q6, q8, ov]; refine hK _ _ ?_; clear hK K hG G))
    refine W_ret ?_; try (repeat (with_reducible first | refine thenI ?_ | refine thenE ?_ | refine thenR ?_ | refine inBI ?_ | refine inBR ?_ | refine inBS ?_ | refine inBN (by decide) ?_))
    refine fin2 (.inl rfl) (by (simp (disch := omega) only [go_sem, ↓reduceIte, Nat.reduceEqDiff, q1, q2, q3, q4, q5, q6, q8, ov]); try rfl) rfl (by (simp (disch := omega) only [go_sem, ↓reduceIte, Nat.reduceEqDiff, q1, q2, q3, q4, q5, q6, q8, ov]); try rfl) rfl ⟨x1.trans x2, _, [], rfl, Sl.nil _, .nil _⟩
theorem specInferVars_ok (g : Sgn) (t : T) (w : ByteArray) (st : St) (cg ct : List Value) (hlg : LimS 1073741824 g) (hlt : Lim 1073741824 t) (hB : t.wt + 1 ≤ 1073741824) (hG : EncS st g cg) (hE : Enc st t ct) :
  CallS Try.prog 7 [.agg cg.toArray, .agg ct.toArray, .string w] st fun r st2 => Ext st st2 ∧ ∃ v L, r = .tuple #[v, .bool (inferV g t w).2] ∧ Sl st2 (inferV g t w).1 v L ∧ Fresh st.length L := by
 have hG' := hG
 obtain ⟨sa, ua, rfl, ha, hu⟩ := hG
 obtain ⟨k, n, m, s1, rfl, q1, q2, q8⟩ := hE.args_cells
 refine CallS_of_W [] 34 Try.func7 rfl rfl rfl rfl (by simp) ?_
 have q3 := ha.notLoc.1
 have q4 := ha.notLoc.2
 have q5 := hu.notLoc.1
 have q6 := hu.notLoc.2
 repeat (first | with_reducible (first | refine thenI ?_ | refine thenE ?_ | refine thenR ?_ | refine inBI ?_ | refine inBR ?_ | refine inBS ?_ | refine inBN (by decide) ?_) | refine W_seqS ?_ | refine W_seqC ?_ | refine W_seqB ?_ | refine W_block ?_ | refine W_skip ?_ | (apply W_condB; (case hc => (simp (disch := omega) only [go_sem, ↓reduceIte, Nat.reduceEqDiff, q1, q2, q3, q4, q5, q6, q8]); rfl); first | refine qzT ?_ | refine qzF ?_) | ((first | refine W_reg rfl fun G K hG hK => ?_ | refine W_end rfl fun G K hG hK => ?_); simp (disch := omega) only [go_sem, ↓reduceIte, Nat.reduceEqDiff, hG, q1, q2, q3, q4, q5, q6, q8]; refine hK _ _ ?_; clear hK K hG G))
 (repeat (first | refine W_seqS ?_ | refine W_seqC ?_ | refine W_seqB ?_ | refine W_block ?_)); refine W_reg rfl fun G K hG hK => ?_; simp (disch := omega) only [go_sem, ↓reduceIte, Nat.reduceEqDiff, hG, q1, q2, q3, q4, q5, q6, q8]
 refine w_call (specInf_ok g hlg t w st _ _ _ [] (.slice (some ⟨st.length, 0, none⟩) 0 0) [st.length] hlt (by simp; omega) (Ext.app _ _) hG' hE (Sl.empty (α := VSort) st) ⟨by simp, by simp⟩) (by simp (disch := omega) only [go_sem, ↓reduceIte, Nat.reduceEqDiff, q1, q2, q3, q4, q5, q6, q8]) ?hl ?_
 case hl => first | rfl | (simp only [go_sem, List.all_cons, List.all_nil, Bool.not_false, Bool.and_self, q1, q2, q3, q4, q5, q6, q8]; done)
 rintro r_ sb ⟨x1, hres⟩; refine ⟨fun e => (by cases e), ?_⟩
 cases hmf : T.inferF g t w [] with
 | none =>
  rw [hmf] at hres
  obtain ⟨v, hv, rfl⟩ := hres
  have hiv : inferV g t w = ([], false) := by unfold inferV; rw [hmf]
  simp (disch := omega) only [go_sem, ↓reduceIte, Nat.reduceEqDiff, hG, q1, q2, q3, q4, q5, q6, q8, hv]; refine hK _ _ ?_; clear hK K hG G; repeat (with_reducible first | refine thenI ?_ | refine thenE ?_ | refine thenR ?_ | refine inBI ?_ | refine inBR ?_ | refine inBS ?_ | refine inBN (by decide) ?_)
  rw [hiv]
  repeat (first | with_reducible (first | refine thenI ?_ | refine thenE ?_ | refine thenR ?_ | refine inBI ?_ | refine inBR ?_ | refine inBS ?_ | refine inBN (by decide) ?_) | refine W_seqS ?_ | refine W_seqC ?_ | refine W_seqB ?_ | refine W_block ?_ | refine W_skip ?_ | (apply W_condB; (case hc => (simp (disch := omega) only [go_sem, ↓reduceIte, Nat.reduceEqDiff, q1, q2, q3, q4, q5, q6, q8]); rfl); first | refine qzT ?_ | refine qzF ?_) | ((first | refine W_reg rfl fun G K hG hK => ?_ | refine W_end rfl fun G K hG hK => ?_); simp (disch := omega) only [go_sem, ↓reduceIte, Nat.reduceEqDiff, hG, q1, q2, q3, q4, q5, q6, q8]; refine hK _ _ ?_; clear hK K hG G))
  refine W_ret ?_; try (repeat (with_reducible first | refine thenI ?_ | refine thenE ?_ | refine thenR ?_ | refine inBI ?_ | refine inBR ?_ | refine inBS ?_ | refine inBN (by decide) ?_))
  refine fin2 (.inl rfl) (by (simp (disch := omega) only [go_sem, ↓reduceIte, Nat.reduceEqDiff, q1, q2, q3, q4, q5, q6, q8]); try rfl) rfl (by (simp (disch := omega) only [go_sem, ↓reduceIte, Nat.reduceEqDiff, q1, q2, q3, q4, q5, q6, q8]); try rfl) rfl ⟨x1.trans (Ext.app _ _), _, [sb.length], rfl, Sl.empty (α := VSort) sb, ⟨by simp, by simpa using x1.length⟩⟩
 | some vs =>
  rw [hmf] at hres
  obtain ⟨v, L, rfl, hs, hf, hg⟩ := hres
  have ov := hs.loc
  have hvl := T.inferF_len g t w [] vs hmf
  simp only [List.length_nil, Nat.zero_add] at hvl
  simp (disch := omega) only [go_sem, ↓reduceIte, Nat.reduceEqDiff, hG, q1, q2, q3, q4, q5, q6, q8, ov]; refine hK _ _ ?_; clear hK K hG G; repeat (with_reducible first | refine thenI ?_ | refine thenE ?_ | refine thenR ?_ | refine inBI ?_ | refine inBR ?_ | refine inBS ?_ | refine inBN (by decide) ?_)
  cases hw : (w.toList == (⟨#[]⟩ : ByteArray).toList) with
  | true =>
   have hiv : inferV g t w = ([], false) := by
    have h2 : (w.toList == emptyB.toList) = true := hw
    unfold inferV; rw [hmf]; simp only [h2, if_true]
   rw [hiv]
   repeat (first | with_reducible (first | refine thenI ?_ | refine thenE ?_ | refine thenR ?_ | refine inBI ?_ | refine inBR ?_ | refine inBS ?_ | refine inBN (by decide) ?_) | refine W_seqS ?_ | refine W_seqC ?_ | refine W_seqB ?_ | refine W_block ?_ | refine W_skip ?_ | (apply W_condB; (case hc => (simp (disch := omega) only [go_sem, ↓reduceIte, Nat.reduceEqDiff, q1, q2, q3, q4, q5, q6, q8, ov, hw]); rfl); first | refine qzT ?_ | refine qzF ?_) | ((first | refine W_reg rfl fun G K hG hK => ?_ | refine W_end rfl fun G K hG hK => ?_); simp (disch := omega) only [go_sem, ↓reduceIte, Nat.reduceEqDiff, hG, q1, q2, q3, q4, q5, q6, q8, ov, hw]; refine hK _ _ ?_; clear hK K hG G))
   refine W_ret ?_; try (repeat (with_reducible first | refine thenI ?_ | refine thenE ?_ | refine thenR ?_ | refine inBI ?_ | refine inBR ?_ | refine inBS ?_ | refine inBN (by decide) ?_))
   refine fin2 (.inl rfl) (by (simp (disch := omega) only [go_sem, ↓reduceIte, Nat.reduceEqDiff, q1, q2, q3, q4, q5, q6, q8, ov]); try rfl) rfl (by (simp (disch := omega) only [go_sem, ↓reduceIte, Nat.reduceEqDiff, q1, q2, q3, q4, q5, q6, q8, ov]); try rfl) rfl ⟨x1.trans (Ext.app _ _), _, [sb.length], rfl, Sl.empty (α := VSort) sb, ⟨by simp, by simpa using x1.length⟩⟩
  | false =>
   have h2 : (w.toList == emptyB.toList) = false := hw
   (repeat (first | refine W_seqS ?_ | refine W_seqC ?_ | refine W_seqB ?_ | refine W_block ?_)); refine W_reg rfl fun G K hG hK => ?_; simp (disch := omega) only [go_sem, ↓reduceIte, Nat.reduceEqDiff, hG, q1, q2, q3, q4, q5, q6, q8, ov, hw]
   refine w_call (specSortOf_ok g hlg vs v (by omega) t sb _ _ hlt (hG'.ext x1) (Enc.ext x1 _ _ hE) hs.row) (by simp (disch := omega) only [go_sem, ↓reduceIte, Nat.reduceEqDiff, q1, q2, q3, q4, q5, q6, q8, ov]) ?hl ?_
   case hl => first | rfl | (simp only [go_sem, List.all_cons, List.all_nil, Bool.not_false, Bool.and_self, q1, q2, q3, q4, q5, q6, q8, ov]; done)
   rintro r_ sc ⟨x2, rfl⟩; refine ⟨fun e => (by cases e), ?_⟩
   cases hq : ((T.sortOf g vs t).toList == w.toList) with
   | true =>
    have hiv : inferV g t w = (vs, true) := by
     unfold inferV; rw [hmf]; simp only [h2, hq, Bool.false_eq_true, if_false, if_true]
    simp (disch := omega) only [go_sem, ↓reduceIte, Nat.reduceEqDiff, hG, q1, q2, q3, q4, q5, q6, q8, ov, hw, hq]; refine hK _ _ ?_; clear hK K hG G; repeat (with_reducible first | refine thenI ?_ | refine thenE ?_ | refine thenR ?_ | refine inBI ?_ | refine inBR ?_ | refine inBS ?_ | refine inBN (by decide) ?_)
    rw [hiv]
    repeat (first | with_reducible (first | refine thenI ?_ | refine thenE ?_ | refine thenR ?_ | refine inBI ?_ | refine inBR ?_ | refine inBS ?_ | refine inBN (by decide) ?_) | refine W_seqS ?_ | refine W_seqC ?_ | refine W_seqB ?_ | refine W_block ?_ | refine W_skip ?_ | (apply W_condB; (case hc => (simp (disch := omega) only [go_sem, ↓reduceIte, Nat.reduceEqDiff, q1, q2, q3, q4, q5, q6, q8, ov]); rfl); first | refine qzT ?_ | refine qzF ?_) | ((first | refine W_reg rfl fun G K hG hK => ?_ | refine W_end rfl fun G K hG hK => ?_); simp (disch := omega) only [go_sem, ↓reduceIte, Nat.reduceEqDiff, hG, q1, q2, q3, q4, q5, q6, q8, ov]; refine hK _ _ ?_; clear hK K hG G))
    refine W_ret ?_; try (repeat (with_reducible first | refine thenI ?_ | refine thenE ?_ | refine thenR ?_ | refine inBI ?_ | refine inBR ?_ | refine inBS ?_ | refine inBN (by decide) ?_))
    refine fin2 (.inl rfl) (by (simp (disch := omega) only [go_sem, ↓reduceIte, Nat.reduceEqDiff, q1, q2, q3, q4, q5, q6, q8, ov]); try rfl) ov (by (simp (disch := omega) only [go_sem, ↓reduceIte, Nat.reduceEqDiff, q1, q2, q3, q4, q5, q6, q8, ov]); try rfl) rfl ⟨x1.trans x2, _, L, rfl, hs.ext x2, hf⟩
   | false =>
    have hiv : inferV g t w = ([], false) := by
     unfold inferV; rw [hmf]; simp only [h2, hq, Bool.false_eq_true, if_false]
    simp (disch := omega) only [go_sem, ↓reduceIte, Nat.reduceEqDiff, hG, q1, q2, q3, q4, q5, q6, q8, ov, hw, hq]; refine hK _ _ ?_; clear hK K hG G; repeat (with_reducible first | refine thenI ?_ | refine thenE ?_ | refine thenR ?_ | refine inBI ?_ | refine inBR ?_ | refine inBS ?_ | refine inBN (by decide) ?_)
    rw [hiv]
    repeat (first | with_reducible (first | refine thenI ?_ | refine thenE ?_ | refine thenR ?_ | refine inBI ?_ | refine inBR ?_ | refine inBS ?_ | refine inBN (by decide) ?_) | refine W_seqS ?_ | refine W_seqC ?_ | refine W_seqB ?_ | refine W_block ?_ | refine W_skip ?_ | (apply W_condB; (case hc => (simp (disch := omega) only [go_sem, ↓reduceIte, Nat.reduceEqDiff, q1, q2, q3, q4, q5, q6, q8, ov]); rfl); first | refine qzT ?_ | refine qzF ?_) | ((first | refine W_reg rfl fun G K hG hK => ?_ | refine W_end rfl fun G K hG hK => ?_); simp (disch := omega) only [go_sem, ↓reduceIte, Nat.reduceEqDiff, hG, q1, q2, q3, q4, q5, q6, q8, ov]; refine hK _ _ ?_; clear hK K hG G))
    refine W_ret ?_; try (repeat (with_reducible first | refine thenI ?_ | refine thenE ?_ | refine thenR ?_ | refine inBI ?_ | refine inBR ?_ | refine inBS ?_ | refine inBN (by decide) ?_))
    refine fin2 (.inl rfl) (by (simp (disch := omega) only [go_sem, ↓reduceIte, Nat.reduceEqDiff, q1, q2, q3, q4, q5, q6, q8, ov]); try rfl) rfl (by (simp (disch := omega) only [go_sem, ↓reduceIte, Nat.reduceEqDiff, q1, q2, q3, q4, q5, q6, q8, ov]); try rfl) rfl ⟨(x1.trans x2).trans (Ext.app _ _), _, [sc.length], rfl, Sl.empty (α := VSort) sc, ⟨by simp, by simpa using (x1.trans x2).length⟩⟩

end

end Go.Proofs.Ytdijnohbbgbklaa.AM
/- Unification, in plain Lean: it comes to an end, and its terms stay within limits. -/
namespace Go.Proofs.Ytdijnohbbgbklaa.AM
open Go Go.Proofs
set_option linter.unusedVariables false
set_option linter.unusedSimpArgs false

instance : DecidableEq ByteArray := fun a b => decidable_of_iff (a.data = b.data) ⟨ByteArray.ext, fun h => by rw [h]⟩
instance (nm : ByteArray) (l : List ByteArray) : Decidable (nm ∈ l) := decidable_of_iff (l.any (fun v => decide (v = nm)) = true) (by simp)

/-! One equation is treated. -/
theorem nodup_len {α : Type} [DecidableEq α] : ∀ (l V : List α), l.Nodup → (∀ x ∈ l, x ∈ V) → l.length ≤ V.length := by
 intro l
 induction l with
 | nil => intro V _ _; simp
 | cons x xs ih =>
  intro V hn hV
  have h1 := List.nodup_cons.1 hn
  have hx := hV x (by simp)
  have h2 := ih (V.erase x) h1.2 fun y hy => (List.mem_erase_of_ne (fun e => by subst e; exact h1.1 hy)).2 (hV y (by simp [hy]))
  rw [List.length_erase_of_mem hx] at h2
  have : 1 ≤ V.length := List.length_pos_of_mem hx
  simp only [List.length_cons]; omega
end Go.Proofs.Ytdijnohbbgbklaa.AM


/- The variables whose sorts are inferred are the term's variables. -/
namespace Go.Proofs.Ytdijnohbbgbklaa.AM
open Go Go.Proofs
set_option linter.unusedVariables false
set_option linter.unusedSimpArgs false

theorem lookV_none {nm : ByteArray} {vs : List VSort} : lookV nm vs = none ↔ nm ∉ vs.map VSort.nm := by
 unfold lookV
 rw [List.find?_eq_none]
 constructor
 ·intro h hm
  obtain ⟨v, hv, rfl⟩ := List.mem_map.1 hm
  exact h v hv (by simp)
 ·intro h v hv e
  exact h (List.mem_map.2 ⟨v, hv, ba_toList e⟩)
theorem T.inferF_names (g : Sgn) : ∀ (t : T) (w : ByteArray) (vs vs' : List VSort), t.nodes = true → T.inferF g t w vs = some vs' → (vs.map VSort.nm).Nodup → (vs'.map VSort.nm).Nodup ∧ ∀ x, x ∈ vs'.map VSort.nm ↔ (x ∈ vs.map VSort.nm ∨ x ∈ T.vars t) := by
 refine T.ind fun k n nm args ih w vs vs' hv h hn => ?_
 simp only [T.nodes, Bool.and_eq_true] at hv
 rw [T.vars_mk]
 cases hk : (k == 1) with
 | true =>
  have hargs : args = [] := by
   have h1 : k = 1 := by simpa using hk
   subst h1
   have h2 := hv.2
   unfold nodeOk at h2
   rw [if_pos rfl] at h2
   simp only [Bool.and_eq_true] at h2
   have h3 : ((args.length : Int) == 0) = true := h2.2.2
   exact List.eq_nil_of_length_eq_zero (by simpa using h3)
  subst hargs
  rw [T.inferF_var hk] at h
  simp only [if_true, T.varsL, List.append_nil, List.mem_singleton]
  cases hl : lookV nm vs with
  | some v =>
   rw [hl] at h
   simp only at h
   have hin : nm ∈ vs.map VSort.nm := Classical.byContradiction fun h2 => by rw [lookV_none.2 h2] at hl; cases hl
   split at h
   ·cases h
    exact ⟨hn, fun x => ⟨.inl, fun h => h.elim id fun e => e ▸ hin⟩⟩
   ·cases h
  | none =>
   rw [hl] at h
   cases h
   have hout := lookV_none.1 hl
   rw [List.map_append]
   refine ⟨List.nodup_append.2 ⟨hn, by simp, fun a ha b hb e => ?_⟩, fun x => by simp⟩
   simp at hb
   subst hb; subst e
   exact hout ha
 | false =>
  rw [T.inferF_app hk] at h
  simp only [Bool.false_eq_true, if_false, List.nil_append]
  have hL : ∀ (xs : List T) (ws : List ByteArray) (vs : List VSort), (∀ a ∈ xs, a ∈ args) → T.nodesL xs = true → T.inferL g xs ws vs = some vs' → (vs.map VSort.nm).Nodup → (vs'.map VSort.nm).Nodup ∧ ∀ x, x ∈ vs'.map VSort.nm ↔ (x ∈ vs.map VSort.nm ∨ x ∈ T.varsL xs) := by
   intro xs
   induction xs with
   | nil => intro ws vs _ _ h hn; simp only [T.inferL, Option.some.injEq] at h; subst h; exact ⟨hn, fun x => by simp [T.varsL]⟩
   | cons x xs ihx =>
    intro ws vs hm hv h hn
    simp only [T.nodesL, Bool.and_eq_true] at hv
    simp only [T.inferL] at h
    split at h
    ·cases h
    ·rename_i vs2 h2
     obtain ⟨a1, a2⟩ := ih x (hm x (by simp)) _ _ _ hv.1 h2 hn
     obtain ⟨b1, b2⟩ := ihx _ _ (fun a ha => hm a (by simp [ha])) hv.2 h a1
     refine ⟨b1, fun y => ?_⟩
     rw [b2, a2]
     simp only [T.varsL, List.mem_append, or_assoc]
  exact hL args _ vs (fun a ha => ha) hv.1 h hn
theorem mem_namesB2 {l : List ByteArray} {nm : ByteArray} : nm ∈ namesB l ↔ nm ∈ l := by
 have key : ∀ m : List ByteArray, nm.data.toList ∈ chs m ↔ nm ∈ m := fun m => by
  unfold chs
  rw [List.mem_map]
  constructor
  ·rintro ⟨x, hx, he⟩
   have : x = nm := ByteArray.ext (Array.ext' he)
   exact this ▸ hx
  ·intro h; exact ⟨nm, h, rfl⟩
 rw [← key, ← key, names_mem]
theorem unchs_nodup {l : List ByteArray} : (namesB l).Nodup := by
 have h2 : (chs (namesB l)).Nodup := strict_nodup (names_strict l)
 unfold chs at h2
 exact (List.pairwise_map.1 h2).imp fun h e => h (by rw [e])
/-- A valid term's inferred variables are as many as its variables. -/
theorem inferV_valid {g : Sgn} {t : T} {w : ByteArray} (hv : t.nodes = true) (hok : (inferV g t w).2 = true) : (inferV g t w).1.length = (namesB (T.vars t)).length := by
 unfold inferV at hok ⊢
 split at hok
 ·cases hok
 ·rename_i vs h
  obtain ⟨h1, h2⟩ := T.inferF_names g t w [] vs hv h (by simp)
  have key : vs.length = (namesB (T.vars t)).length := by
   have e1 := nodup_len (vs.map VSort.nm) (namesB (T.vars t)) h1 fun x hx => mem_namesB2.2 (by simpa using (h2 x).1 hx)
   have e2 := nodup_len (namesB (T.vars t)) (vs.map VSort.nm) unchs_nodup fun x hx => (h2 x).2 (.inr (mem_namesB2.1 hx))
   rw [List.length_map] at e1 e2
   omega
  split at hok
  ·cases hok
  ·split at hok
   ·rename_i a b; rw [if_neg a, if_pos b]; exact key
   ·cases hok
end Go.Proofs.Ytdijnohbbgbklaa.AM


/- Two structs of strings are compared. -/
namespace Go.Proofs.Ytdijnohbbgbklaa.AM
open Go Go.Proofs
set_option linter.unusedVariables false
set_option linter.unusedSimpArgs false
variable {P : Program}

theorem pureRun_program : pureRun P program = some P := rfl
theorem pureRun_ite {α : Type} {c : Prop} [Decidable c] {s u : Sem α} : pureRun P (if c then s else u) = if c then pureRun P s else pureRun P u := by split <;> rfl
theorem pr_struct (d : Nat) (t : TypeId) (xs ys : Array Value) (ht : P.underlying t = some (.struct (P.fieldsOf t))) (hp : P.stoodInHeld t = false) :
  pureRun P (Op.equalIn (d + 1) t (.agg xs) (.agg ys)) = pureRun P (Op.eqFields d xs ys (P.fieldsOf t).toList) := by
 simp only [Op.equalIn, pureRun_bind, pureRun_und ht, Option.bind_some, pureRun_program, hp, Bool.false_eq_true, if_false]
 rw [← Array.forIn_toList]
 generalize (P.fieldsOf t).toList = fs
 clear ht
 induction fs with
 | nil => simp [Op.eqFields, pureRun_pure]
 | cons f fs ih =>
  simp only [List.forIn_cons, Op.eqFields, pureRun_bind, pureRun_ite]
  split
  ·cases pureRun P (part f.type xs f.offset) with
   | none => rfl
   | some a =>
    simp only [Option.bind_some]
    cases pureRun P (part f.type ys f.offset) with
    | none => rfl
    | some b =>
     simp only [Option.bind_some]
     cases pureRun P (Op.equalIn d f.type a b) with
     | none => rfl
     | some r =>
      cases r
      ·simp only [Option.bind_some, Bool.not_false, if_true, pureRun_pure]
      ·simp only [Option.bind_some, Bool.not_true, Bool.false_eq_true, if_false, pureRun_pure]
       exact ih
  ·simp only [pureRun_pure, Option.bind_some]
   exact ih
theorem pr_string (d : Nat) (t : TypeId) (a b : ByteArray) (h : P.underlying t = some .string) : pureRun P (Op.equalIn (d + 1) t (.string a) (.string b)) = some (a.toList == b.toList) := by
 rw [Op.equalIn, pureRun_bind, pureRun_und h, Option.bind_some, ← beq_toListBytes]
 rfl
theorem pr_guard (op : BinOp) (t : TypeId) (x y : Operand) (xs ys : Array Value) (hm : P.eqGuardType P.depth t = false) : pureRun P (eqGuard op t x y (.agg xs) (.agg ys)) = some () := by
 cases op <;> simp [eqGuard, pureRun_bind, pureRun_program, pureRun_pure, hm]
theorem pr_part (t : TypeId) (xs : Array Value) (o : Nat) (v : Value) (h : pureRun P (isAgg t) = some false) (hx : xs[o]? = some v) : pureRun P (part t xs o) = some v := by
 unfold part
 rw [pureRun_bind, h, Option.bind_some]
 simp only [Bool.false_eq_true, if_false, hx]
 rfl
theorem agg_string : pureRun Try.prog (isAgg 9) = some false := by decide +kernel
theorem neqV_same (x y : Operand) (a b : ByteArray) : binE Try.prog .neq 37 x y (.agg #[.string a, .string b]) (.agg #[.string a, .string b]) = some (.bool false) := by
 have ht : Try.prog.underlying 37 = some (.struct (Try.prog.fieldsOf 37)) := by unfold Program.fieldsOf; rw [Try.underlying37]
 have h1 : binE Try.prog .neq 37 x y (.agg #[.string a, .string b]) (.agg #[.string a, .string b]) = flatRun Try.prog (do eqGuard .neq 37 x y (.agg #[.string a, .string b]) (.agg #[.string a, .string b]); pure (.bool !(← Op.equal 37 (.agg #[.string a, .string b]) (.agg #[.string a, .string b])))) := by
  unfold binE
  have h0 : (flat (Value.agg #[Value.string a, Value.string b]) && flat (Value.agg #[Value.string a, Value.string b])) = true := by simp [flat, flat1]
  rw [if_pos h0]
  simp only [binOp]
 have h2 : pureRun Try.prog (Op.equal 37 (.agg #[.string a, .string b]) (.agg #[.string a, .string b])) = some true := by
  show pureRun Try.prog (Op.equalIn (9999 + 1) _ _ _) = _
  rw [pr_struct 9999 _ _ _ ht (by decide +kernel)]
  unfold Program.fieldsOf
  rw [Try.underlying37]
  simp only [Op.eqFields]
  have k0 := pr_part 9 #[Value.string a, Value.string b] 0 (.string a) agg_string rfl
  have k1 := pr_part 9 #[Value.string a, Value.string b] 1 (.string b) agg_string rfl
  simp [pureRun_bind, k0, k1, pr_string 9998 _ _ _ Try.underlying9, pureRun_pure, Op.eqFields]
 rw [h1, flatRun, pureRun_bind, pr_guard _ _ _ _ _ _ (by decide +kernel), Option.bind_some, pureRun_bind, h2]
 rfl
end Go.Proofs.Ytdijnohbbgbklaa.AM


namespace Go.Proofs.Ytdijnohbbgbklaa.AM
open Go
attribute [local go_sem] List.map_cons List.map_nil List.all_cons List.all_nil Bool.and_self Option.map_some List.getElem?_toArray Option.bind_some gye_b gye_t gsk_b gsk_t gb1 gb2 gb3 gb4 bne_self_eq_false beq_self_eq_true w_guard w_nil stepV_some step_some step_some' w_move w_assign w_pick w_binOp w_unOp w_load w_fieldAddr w_indexAddr w_len w_max w_index ev_max max_int ev_index w_box w_alloc w_store w_field w_extract w_nilCheck w_convert w_buildSlice w_build ev_buildL fillL_nil fillL_cons bs0 bs1 ev_conv ev_bin ev_un ev_pick ev_load ev_fieldAddr ev_indexAddr ev_len ev_field ev_extract ev_nilCheck fr_tmp fr_int fr_bool fr_str fr_nil fr_func put_some put_none bin_lss bin_leq bin_gtr bin_geq bin_eql bin_neq bin_add bin_sub bin_mul bin_seql bin_sneq un_not pick_ ext_ loadA_p cellAt_l cellAt_h okPtr_l okPtr_h fadA_p allocA_l storeA_l cells_agg cells_int cells_str cells_sl cells_bool flat_i flat_s flat_b flat_sl flat_nil loc_agg loc_int loc_str loc_sl loc_bool loc_fn loc_ptr okv_agg okv_int okv_str okv_sl okv_bool cellsFrom splice upd_eval argEnv_zero argEnv_succ ne_eq Nat.add_one_ne_zero not_false_eq_true List.not_mem_nil and_self decide_true List.getElem?_cons_zero List.getElem?_cons_succ List.size_toArray List.length_cons List.length_nil List.take_succ_cons List.take_zero List.drop_succ_cons List.drop_zero List.cons_append List.nil_append List.drop_nil Bool.not_true Bool.not_false Bool.false_eq_true Nat.zero_add Nat.add_zero wrap_in List.toList_toArray List.mem_cons or_self or_false false_or
attribute [local go_sem] ag103 ag22 ag24 ag25 ag27 ag28 ag3 ag30 ag37 ag5 ag54 ag9 bu27 bu30 bu37 bu54 bu67 by30 by37 by54 by9 el22 el24 el25 el28 el33 el52 of27_0 of27_1 of30_0 of30_1 of30_2 of30_3 of37_0 of37_1 of54_0 of54_1 of54_2 of67_0 of67_1 of67_2 ro3_3 ro3_4 ro30_0 ro30_1 ro30_2 ro37_0 ro37_1 ro37_4 ro54_1 ro54_7 ro9_0 ro9_1 ro9_2 ro9_3 ro9_4 ro9_5 sz103 sz22 sz24 sz25 sz27 sz28 sz3 sz30 sz37 sz5 sz54 sz9 ze103 ze27 ze3 ze30 ze37 ze54 ze9
section
/- The law FnSorts. -/
open Go Go.Proofs
set_option linter.unusedVariables false
set_option linter.unusedSimpArgs false
set_option maxRecDepth 100000
-- AUTO

theorem inferV_sort {g : Sgn} {t : T} {w : ByteArray} {vs : List VSort} (h : inferV g t w = (vs, true)) : ((T.sortOf g vs t).toList == w.toList) = true := by
 unfold inferV at h
 split at h
 ·cases h
 ·split at h
  ·cases h
  ·split at h
   ·rename_i h2
    injection h with h3 h4
    subst h3
    exact h2
   ·cases h
set_option maxHeartbeats 2000000 in
set_option maxHeartbeats 1000000 in
theorem wFnSorts (st : St) (bs : List Byt) (s : Value) (hr : RowY st bs s) (hN : bs.length ≤ maxLen) : CallS Try.prog 3 [s] st fun r _ => r = .bool true := by
 refine CallS_of_W [] 106 Try.func3 rfl rfl rfl rfl (by simp) ?_
 have q1 := hr.notLoc.1
 have bne1 : ∀ (x y : Operand) (a b : Bool), binE Try.prog .neq 4 x y (.bool a) (.bool b) = some (.bool !(a == b)) := fun x y a b => bin_bneq Try.underlying4
 repeat (first | with_reducible (first | refine thenI ?_ | refine thenE ?_ | refine thenR ?_ | refine inBI ?_ | refine inBR ?_ | refine inBS ?_ | refine inBN (by decide) ?_) | refine W_seqS ?_ | refine W_seqC ?_ | refine W_seqB ?_ | refine W_block ?_ | refine W_skip ?_ | (apply W_condB; (case hc => (simp (disch := omega) only [go_sem, ↓reduceIte, Nat.reduceEqDiff, q1, bne1]); rfl); first | refine qzT ?_ | refine qzF ?_) | ((first | refine W_reg rfl fun G K hG hK => ?_ | refine W_end rfl fun G K hG hK => ?_); simp (disch := omega) only [go_sem, ↓reduceIte, Nat.reduceEqDiff, hG, q1, bne1]; refine hK _ _ ?_; clear hK K hG G))
 (repeat (first | refine W_seqS ?_ | refine W_seqC ?_ | refine W_seqB ?_ | refine W_block ?_)); refine W_reg rfl fun G K hG hK => ?_; simp (disch := omega) only [go_sem, ↓reduceIte, Nat.reduceEqDiff, hG, q1, bne1]
 refine w_call (big_ok bs st s hr) (by simp (disch := omega) only [go_sem, ↓reduceIte, Nat.reduceEqDiff, q1, bne1]) ?hl ?_
 case hl => first | rfl | (simp only [go_sem, List.all_cons, List.all_nil, Bool.not_false, Bool.and_self, q1, bne1]; done)
 rintro r_ st ⟨rfl, rfl⟩; refine ⟨fun e => (by cases e), ?_⟩
 simp (disch := omega) only [go_sem, ↓reduceIte, Nat.reduceEqDiff, hG, q1, bne1]; refine hK _ _ ?_; clear hK K hG G; repeat (with_reducible first | refine thenI ?_ | refine thenE ?_ | refine thenR ?_ | refine inBI ?_ | refine inBR ?_ | refine inBS ?_ | refine inBN (by decide) ?_)
 cases hb : decide ((bs.length : Int) > 1048576) with
 | true =>
  repeat (first | with_reducible (first | refine thenI ?_ | refine thenE ?_ | refine thenR ?_ | refine inBI ?_ | refine inBR ?_ | refine inBS ?_ | refine inBN (by decide) ?_) | refine W_seqS ?_ | refine W_seqC ?_ | refine W_seqB ?_ | refine W_block ?_ | refine W_skip ?_ | (apply W_condB; (case hc => (simp (disch := omega) only [go_sem, ↓reduceIte, Nat.reduceEqDiff, q1, bne1]); rfl); first | refine qzT ?_ | refine qzF ?_) | ((first | refine W_reg rfl fun G K hG hK => ?_ | refine W_end rfl fun G K hG hK => ?_); simp (disch := omega) only [go_sem, ↓reduceIte, Nat.reduceEqDiff, hG, q1, bne1]; refine hK _ _ ?_; clear hK K hG G))
  refine W_ret ?_; try (repeat (with_reducible first | refine thenI ?_ | refine thenE ?_ | refine thenR ?_ | refine inBI ?_ | refine inBR ?_ | refine inBS ?_ | refine inBN (by decide) ?_))
  refine fin1 (.inl rfl) (by (simp (disch := omega) only [go_sem, ↓reduceIte, Nat.reduceEqDiff, q1, bne1]); try rfl) rfl rfl
 | false =>
 have hbig : bs.length ≤ 4611686018427387904 := by simp at hb; omega
 repeat (first | with_reducible (first | refine thenI ?_ | refine thenE ?_ | refine thenR ?_ | refine inBI ?_ | refine inBR ?_ | refine inBS ?_ | refine inBN (by decide) ?_) | refine W_seqS ?_ | refine W_seqC ?_ | refine W_seqB ?_ | refine W_block ?_ | refine W_skip ?_ | (apply W_condB; (case hc => (simp (disch := omega) only [go_sem, ↓reduceIte, Nat.reduceEqDiff, q1, bne1]); rfl); first | refine qzT ?_ | refine qzF ?_) | ((first | refine W_reg rfl fun G K hG hK => ?_ | refine W_end rfl fun G K hG hK => ?_); simp (disch := omega) only [go_sem, ↓reduceIte, Nat.reduceEqDiff, hG, q1, bne1]; refine hK _ _ ?_; clear hK K hG G))
 (repeat (first | refine W_seqS ?_ | refine W_seqC ?_ | refine W_seqB ?_ | refine W_block ?_)); refine W_reg rfl fun G K hG hK => ?_; simp (disch := omega) only [go_sem, ↓reduceIte, Nat.reduceEqDiff, hG, q1, bne1]
 refine w_call (drawInferVars_ok bs st s hbig hr) (by simp (disch := omega) only [go_sem, ↓reduceIte, Nat.reduceEqDiff, q1, bne1]) ?hl ?_
 case hl => first | rfl | (simp only [go_sem, List.all_cons, List.all_nil, Bool.not_false, Bool.and_self, q1, bne1]; done)
 rintro r_ sa ⟨x1, g, t, cg, ct, w, rfl, hE, hP, hT, hA⟩; refine ⟨fun e => (by cases e), ?_⟩
 have hl := hP.lim
 have hA' : t.wt ≤ 1048576 := hA
 have hlmt := Lim.of_wt (B := 1073741824) t (by omega)
 have hln := LimN.of_wt (B := 1073741824) t (by omega)
 have hdp := Nat.le_trans (T.depth_count t) (T.count_wt t)
 have hvb := inferV_len g t w
 obtain ⟨vs, ok, hiv⟩ : ∃ vs ok, inferV g t w = (vs, ok) := ⟨_, _, rfl⟩
 obtain ⟨s1, u1, rfl, a1, a2, a3, a4⟩ := hE.arg_cells
 have a5 : vc s1 = #[s1] := by obtain ⟨_, _, e, h1, h2⟩ := hE; cases e; exact Row.cells1 h1
 have a6 : vc u1 = #[u1] := by obtain ⟨_, _, e, h1, h2⟩ := hE; cases e; exact Row.cells1 h2
 obtain ⟨k, n, m, s2, rfl, a7, a8, a9⟩ := hT.args_cells
 simp (disch := omega) only [go_sem, ↓reduceIte, Nat.reduceEqDiff, hG, q1, bne1, a1, a2, a3, a4, a5, a6, a7, a8, a9]; refine hK _ _ ?_; clear hK K hG G; repeat (with_reducible first | refine thenI ?_ | refine thenE ?_ | refine thenR ?_ | refine inBI ?_ | refine inBR ?_ | refine inBS ?_ | refine inBN (by decide) ?_)
 have hI := implInferVars_ok g t w sa _ _ hl hlmt (by omega) hE hT
 rw [hiv] at hI hvb
 dsimp only at hI hvb
 (repeat (first | refine W_seqS ?_ | refine W_seqC ?_ | refine W_seqB ?_ | refine W_block ?_)); refine W_reg rfl fun G K hG hK => ?_; simp (disch := omega) only [go_sem, ↓reduceIte, Nat.reduceEqDiff, hG, q1, bne1, a1, a2, a3, a4, a5, a6, a7, a8, a9]
 refine w_call (hI) (by simp (disch := omega) only [go_sem, ↓reduceIte, Nat.reduceEqDiff, q1, bne1, a1, a2, a3, a4, a5, a6, a7, a8, a9]) ?hl ?_
 case hl => first | rfl | (simp only [go_sem, List.all_cons, List.all_nil, Bool.not_false, Bool.and_self, q1, bne1, a1, a2, a3, a4, a5, a6, a7, a8, a9]; done)
 rintro r_ sb ⟨x2, v2, L2, rfl, hs2, hf2⟩; refine ⟨fun e => (by cases e), ?_⟩
 have b1 := hs2.okv
 have b2 := hs2.loc
 have b3 := hs2.cells
 simp (disch := omega) only [go_sem, ↓reduceIte, Nat.reduceEqDiff, hG, q1, bne1, a1, a2, a3, a4, a5, a6, a7, a8, a9, b1, b2, b3]; refine hK _ _ ?_; clear hK K hG G; repeat (with_reducible first | refine thenI ?_ | refine thenE ?_ | refine thenR ?_ | refine inBI ?_ | refine inBR ?_ | refine inBS ?_ | refine inBN (by decide) ?_)
 have hS := specInferVars_ok g t w sb _ _ hl hlmt (by omega) (hE.ext x2) (Enc.ext x2 _ _ hT)
 rw [hiv] at hS
 dsimp only at hS
 (repeat (first | refine W_seqS ?_ | refine W_seqC ?_ | refine W_seqB ?_ | refine W_block ?_)); refine W_reg rfl fun G K hG hK => ?_; simp (disch := omega) only [go_sem, ↓reduceIte, Nat.reduceEqDiff, hG, q1, bne1, a1, a2, a3, a4, a5, a6, a7, a8, a9, b1, b2, b3]
 refine w_call (hS) (by simp (disch := omega) only [go_sem, ↓reduceIte, Nat.reduceEqDiff, q1, bne1, a1, a2, a3, a4, a5, a6, a7, a8, a9, b1, b2, b3]) ?hl ?_
 case hl => first | rfl | (simp only [go_sem, List.all_cons, List.all_nil, Bool.not_false, Bool.and_self, q1, bne1, a1, a2, a3, a4, a5, a6, a7, a8, a9, b1, b2, b3]; done)
 rintro r_ sc ⟨x3, v3, L3, rfl, hs3, hf3⟩; refine ⟨fun e => (by cases e), ?_⟩
 have d1 := hs3.okv
 have d2 := hs3.loc
 have d3 := hs3.cells
 simp (disch := omega) only [go_sem, ↓reduceIte, Nat.reduceEqDiff, hG, q1, bne1, a1, a2, a3, a4, a5, a6, a7, a8, a9, b1, b2, b3, d1, d2, d3]; refine hK _ _ ?_; clear hK K hG G; repeat (with_reducible first | refine thenI ?_ | refine thenE ?_ | refine thenR ?_ | refine inBI ?_ | refine inBR ?_ | refine inBS ?_ | refine inBN (by decide) ?_)
 have hr3 : RowY sc bs s := hr.ext ((x1.trans x2).trans x3)
 have hw2 : Rw sc vs v2 := hs2.row.ext x3
 have hw3 : Rw sc vs v3 := hs3.row
 have hw20 := hw2
 have hlen2 : lenE Try.prog 33 v2 = some (.int .i64 vs.length) := row_len hw2 Try.underlying33
 have hlen3 : lenE Try.prog 33 v3 = some (.int .i64 vs.length) := row_len hw3 Try.underlying33
 have f1 : (!(ok == ok)) = false := by simp
 (repeat (first | refine W_seqS ?_ | refine W_seqC ?_ | refine W_seqB ?_ | refine W_block ?_)); refine W_reg rfl fun G K hG hK => ?_; simp (disch := omega) only [go_sem, ↓reduceIte, Nat.reduceEqDiff, hG, q1, bne1, a1, a2, a3, a4, a5, a6, a7, a8, a9, b1, b2, b3, d1, d2, d3, hlen2, hlen3, f1]
 refine hK _ _ ?_; clear hK K hG G; repeat (with_reducible first | refine thenI ?_ | refine thenE ?_ | refine thenR ?_ | refine inBI ?_ | refine inBR ?_ | refine inBS ?_ | refine inBN (by decide) ?_)
 repeat (first | with_reducible (first | refine thenI ?_ | refine thenE ?_ | refine thenR ?_ | refine inBI ?_ | refine inBR ?_ | refine inBS ?_ | refine inBN (by decide) ?_) | refine W_seqS ?_ | refine W_seqC ?_ | refine W_seqB ?_ | refine W_block ?_ | refine W_skip ?_ | (apply W_condB; (case hc => (simp (disch := omega) only [go_sem, ↓reduceIte, Nat.reduceEqDiff, q1, bne1, a1, a2, a3, a4, a5, a6, a7, a8, a9, b1, b2, b3, d1, d2, d3, hlen2, hlen3]); rfl); first | refine qzT ?_ | refine qzF ?_) | ((first | refine W_reg rfl fun G K hG hK => ?_ | refine W_end rfl fun G K hG hK => ?_); simp (disch := omega) only [go_sem, ↓reduceIte, Nat.reduceEqDiff, hG, q1, bne1, a1, a2, a3, a4, a5, a6, a7, a8, a9, b1, b2, b3, d1, d2, d3, hlen2, hlen3]; refine hK _ _ ?_; clear hK K hG G))
 refine W_loop (fun d fr st' => ∃ (j : Nat) , d = vs.length - j ∧ j ≤ vs.length ∧ (sc = st') ∧ (fr.env 0 = s) ∧ (fr.env 3 = .pointer (some ⟨3, 0, some 1⟩)) ∧ (fr.env 4 = .pointer (some ⟨4, 0, some 1⟩)) ∧ (fr.env 5 = .string w) ∧ (fr.env 6 = v2) ∧ (fr.env 7 = .bool ok) ∧ (fr.env 8 = v3) ∧ (fr.env 10 = .int .i64 j) ∧ (fr.loc 3 = (1, [s1, u1])) ∧ (fr.loc 4 = (1, [.int .i64 k, .int .i64 n, .string m, s2])) ∧ ((fr.loc 11).1 = 0) ∧ ((fr.loc 12).1 = 0)) (vs.length) ?_ ?_
 ·exact ⟨0, by omega, by omega, rfl, (by refine ⟨?_, ?_, ?_, ?_, ?_, ?_, ?_, ?_, ?_, ?_, ?_, ?_⟩ <;> ((simp (disch := omega) only [go_sem, ↓reduceIte, Nat.reduceEqDiff, q1, bne1, a1, a2, a3, a4, a5, a6, a7, a8, a9, b1, b2, b3, d1, d2, d3, hlen2, hlen3]); try rfl))⟩
 rintro d ⟨env, loc⟩ st' ⟨j, hd, hj, hst, e0, e3, e4, e5, e6, e7, e8, e10, l3, l4, l11, l12⟩
 simp only at e0 e3 e4 e5 e6 e7 e8 e10 l3 l4 l11 l12
 subst hst
 by_cases hlt : j < vs.length
 ·have c1 : decide ((j : Int) < (vs.length : Int)) = true := by simpa using hlt
  have hi := idxOk hlt
  have hx : vs[j]? = some vs[j] := List.getElem?_eq_getElem hlt
  have htk : vs.take (j + 1) = vs.take j ++ [vs[j]] := List.take_succ_eq_append_getElem hlt
  obtain ⟨i, o, c, rfl, hcs⟩ := row_atV hw2 hx
  obtain ⟨i', o', c', rfl, hcs'⟩ := row_atV hw3 hx
  have hld := fun loc => load_row (A := []) (loc := loc) ag37 sz37 rfl hcs
  have hld' := fun loc => load_row (A := []) (loc := loc) ag37 sz37 rfl hcs'
  repeat (first | with_reducible (first | refine thenI ?_ | refine thenE ?_ | refine thenR ?_ | refine inBI ?_ | refine inBR ?_ | refine inBS ?_ | refine inBN (by decide) ?_) | refine W_seqS ?_ | refine W_seqC ?_ | refine W_seqB ?_ | refine W_block ?_ | refine W_skip ?_ | (apply W_condB; (case hc => (simp (disch := omega) only [go_sem, ↓reduceIte, Nat.reduceEqDiff, q1, bne1, a1, a2, a3, a4, a5, a6, a7, a8, a9, b1, b2, b3, d1, d2, d3, hlen2, hlen3, e0, e3, e4, e5, e6, e7, e8, e10, l3, l4, l11, l12, c1, hi, idxA, Int.toNat_natCast]); rfl); first | refine qzT ?_ | refine qzF ?_) | ((first | refine W_reg rfl fun G K hG hK => ?_ | refine W_end rfl fun G K hG hK => ?_); simp (disch := omega) only [go_sem, ↓reduceIte, Nat.reduceEqDiff, hG, q1, bne1, a1, a2, a3, a4, a5, a6, a7, a8, a9, b1, b2, b3, d1, d2, d3, hlen2, hlen3, e0, e3, e4, e5, e6, e7, e8, e10, l3, l4, l11, l12, c1, hi, idxA, Int.toNat_natCast]; refine hK _ _ ?_; clear hK K hG G))
  (repeat (first | refine W_seqS ?_ | refine W_seqC ?_ | refine W_seqB ?_ | refine W_block ?_)); refine W_regD mixed [] [(0,false),(1,false),(2,false),(3,false),(4,false),(5,false),(6,false),(7,false),(8,false)] rfl (by decide +kernel) fun G K hG hK => ?_; simp only [pickOps, List.filterMap_cons, List.filterMap_nil, List.getElem?_cons_zero, List.getElem?_cons_succ, Option.map_some]; simp (disch := omega) only [go_sem, ↓reduceIte, Nat.reduceEqDiff, hG, q1, bne1, a1, a2, a3, a4, a5, a6, a7, a8, a9, b1, b2, b3, d1, d2, d3, hlen2, hlen3, e0, e3, e4, e5, e6, e7, e8, e10, l3, l4, l11, l12, c1, hi, idxA, Int.toNat_natCast, hld, hld', neqV_same]
  refine hK _ _ ?_; clear hK K hG G; repeat (with_reducible first | refine thenI ?_ | refine thenE ?_ | refine thenR ?_ | refine inBI ?_ | refine inBR ?_ | refine inBS ?_ | refine inBN (by decide) ?_)
  repeat (first | with_reducible (first | refine thenI ?_ | refine thenE ?_ | refine thenR ?_ | refine inBI ?_ | refine inBR ?_ | refine inBS ?_ | refine inBN (by decide) ?_) | refine W_seqS ?_ | refine W_seqC ?_ | refine W_seqB ?_ | refine W_block ?_ | refine W_skip ?_ | (apply W_condB; (case hc => (simp (disch := omega) only [go_sem, ↓reduceIte, Nat.reduceEqDiff, q1, bne1, a1, a2, a3, a4, a5, a6, a7, a8, a9, b1, b2, b3, d1, d2, d3, hlen2, hlen3, e0, e3, e4, e5, e6, e7, e8, e10, l3, l4, l11, l12, c1, hi, idxA, Int.toNat_natCast]); rfl); first | refine qzT ?_ | refine qzF ?_) | ((first | refine W_reg rfl fun G K hG hK => ?_ | refine W_end rfl fun G K hG hK => ?_); simp (disch := omega) only [go_sem, ↓reduceIte, Nat.reduceEqDiff, hG, q1, bne1, a1, a2, a3, a4, a5, a6, a7, a8, a9, b1, b2, b3, d1, d2, d3, hlen2, hlen3, e0, e3, e4, e5, e6, e7, e8, e10, l3, l4, l11, l12, c1, hi, idxA, Int.toNat_natCast]; refine hK _ _ ?_; clear hK K hG G))
  refine ⟨vs.length - (j + 1), by omega, j + 1, rfl, by omega, rfl, (by refine ⟨?_, ?_, ?_, ?_, ?_, ?_, ?_, ?_, ?_, ?_, ?_, ?_⟩ <;> ((simp (disch := omega) only [go_sem, ↓reduceIte, Nat.reduceEqDiff, q1, bne1, a1, a2, a3, a4, a5, a6, a7, a8, a9, b1, b2, b3, d1, d2, d3, hlen2, hlen3, e0, e3, e4, e5, e6, e7, e8, e10, l3, l4, l11, l12, c1, hi, idxA, Int.toNat_natCast]); try rfl))⟩
 ·have c1 : decide ((j : Int) < (vs.length : Int)) = false := by simpa using hlt
  have hjn : j = vs.length := by omega
  subst hjn
  repeat (first | with_reducible (first | refine thenI ?_ | refine thenE ?_ | refine thenR ?_ | refine inBI ?_ | refine inBR ?_ | refine inBS ?_ | refine inBN (by decide) ?_) | refine W_seqS ?_ | refine W_seqC ?_ | refine W_seqB ?_ | refine W_block ?_ | refine W_skip ?_ | (apply W_condB; (case hc => (simp (disch := omega) only [go_sem, ↓reduceIte, Nat.reduceEqDiff, q1, bne1, a1, a2, a3, a4, a5, a6, a7, a8, a9, b1, b2, b3, d1, d2, d3, hlen2, hlen3, e0, e3, e4, e5, e6, e7, e8, e10, l3, l4, l11, l12, c1]); rfl); first | refine qzT ?_ | refine qzF ?_) | ((first | refine W_reg rfl fun G K hG hK => ?_ | refine W_end rfl fun G K hG hK => ?_); simp (disch := omega) only [go_sem, ↓reduceIte, Nat.reduceEqDiff, hG, q1, bne1, a1, a2, a3, a4, a5, a6, a7, a8, a9, b1, b2, b3, d1, d2, d3, hlen2, hlen3, e0, e3, e4, e5, e6, e7, e8, e10, l3, l4, l11, l12, c1]; refine hK _ _ ?_; clear hK K hG G))
  refine W_exit ?_; repeat (with_reducible first | refine thenI ?_ | refine thenE ?_ | refine thenR ?_ | refine inBI ?_ | refine inBR ?_ | refine inBS ?_ | refine inBN (by decide) ?_)
  (repeat (first | refine W_seqS ?_ | refine W_seqC ?_ | refine W_seqB ?_ | refine W_block ?_)); refine W_reg rfl fun G K hG hK => ?_; simp (disch := omega) only [go_sem, ↓reduceIte, Nat.reduceEqDiff, hG, q1, bne1, a1, a2, a3, a4, a5, a6, a7, a8, a9, b1, b2, b3, d1, d2, d3, hlen2, hlen3, e0, e3, e4, e5, e6, e7, e8, e10, l3, l4, l11, l12, c1]
  refine w_call (drawSortOf_ok bs sc s hbig hr3) (by simp (disch := omega) only [go_sem, ↓reduceIte, Nat.reduceEqDiff, q1, bne1, a1, a2, a3, a4, a5, a6, a7, a8, a9, b1, b2, b3, d1, d2, d3, hlen2, hlen3, e0, e3, e4, e5, e6, e7, e8, e10, l3, l4, l11, l12, c1]) ?hl ?_
  case hl => first | rfl | (simp only [go_sem, List.all_cons, List.all_nil, Bool.not_false, Bool.and_self, q1, bne1, a1, a2, a3, a4, a5, a6, a7, a8, a9, b1, b2, b3, d1, d2, d3, hlen2, hlen3, e0, e3, e4, e5, e6, e7, e8, e10, l3, l4, l11, l12, c1]; done)
  rintro r_ sd ⟨x4, g2, t2, cg2, ct2, vs2, v4, rfl, hE2, hP2, hT2, hA2, hV2, hl2⟩; refine ⟨fun e => (by cases e), ?_⟩
  have hl' := hP2.lim
  have hA2' : t2.wt ≤ 1048576 := hA2
  have hlt2 := Lim.of_wt (B := 1073741824) t2 (by omega)
  obtain ⟨s5, u5, rfl, j1, j2, j3, j4⟩ := hE2.arg_cells
  have j5 : vc s5 = #[s5] := by obtain ⟨_, _, e, h1, h2⟩ := hE2; cases e; exact Row.cells1 h1
  have j6 : vc u5 = #[u5] := by obtain ⟨_, _, e, h1, h2⟩ := hE2; cases e; exact Row.cells1 h2
  obtain ⟨k2, n2, m2, s6, rfl, j7, j8, j9⟩ := hT2.args_cells
  have r1 := hV2.notLoc.1
  have r2 := hV2.notLoc.2
  have r3 := Row.cells1 hV2
  simp (disch := omega) only [go_sem, ↓reduceIte, Nat.reduceEqDiff, hG, q1, bne1, a1, a2, a3, a4, a5, a6, a7, a8, a9, b1, b2, b3, d1, d2, d3, hlen2, hlen3, e0, e3, e4, e5, e6, e7, e8, e10, l3, l4, l11, l12, c1, j1, j2, j3, j4, j5, j6, j7, j8, j9, r1, r2, r3]; refine hK _ _ ?_; clear hK K hG G; repeat (with_reducible first | refine thenI ?_ | refine thenE ?_ | refine thenR ?_ | refine inBI ?_ | refine inBR ?_ | refine inBS ?_ | refine inBN (by decide) ?_)
  (repeat (first | refine W_seqS ?_ | refine W_seqC ?_ | refine W_seqB ?_ | refine W_block ?_)); refine W_regD mixed [] [(0,false),(1,false),(2,false),(4,false),(5,false),(6,false),(3,true),(7,true),(8,false),(9,false),(10,false),(12,false),(11,true),(13,true),(14,false),(15,false)] rfl (by decide +kernel) fun G K hG hK => ?_; simp only [pickOps, List.filterMap_cons, List.filterMap_nil, List.getElem?_cons_zero, List.getElem?_cons_succ, Option.map_some]; simp (disch := omega) only [go_sem, ↓reduceIte, Nat.reduceEqDiff, hG, q1, bne1, a1, a2, a3, a4, a5, a6, a7, a8, a9, b1, b2, b3, d1, d2, d3, hlen2, hlen3, e0, e3, e4, e5, e6, e7, e8, e10, l3, l4, l11, l12, c1, j1, j2, j3, j4, j5, j6, j7, j8, j9, r1, r2, r3]
  refine w_call (implSortOf_ok g2 hl' vs2 v4 (by omega) t2 sd _ _ hlt2 hE2 hT2 hV2) (by simp (disch := omega) only [go_sem, ↓reduceIte, Nat.reduceEqDiff, q1, bne1, a1, a2, a3, a4, a5, a6, a7, a8, a9, b1, b2, b3, d1, d2, d3, hlen2, hlen3, e0, e3, e4, e5, e6, e7, e8, e10, l3, l4, l11, l12, c1, j1, j2, j3, j4, j5, j6, j7, j8, j9, r1, r2, r3]) ?hl ?_
  case hl => first | rfl | (simp only [go_sem, List.all_cons, List.all_nil, Bool.not_false, Bool.and_self, q1, bne1, a1, a2, a3, a4, a5, a6, a7, a8, a9, b1, b2, b3, d1, d2, d3, hlen2, hlen3, e0, e3, e4, e5, e6, e7, e8, e10, l3, l4, l11, l12, c1, j1, j2, j3, j4, j5, j6, j7, j8, j9, r1, r2, r3]; done)
  rintro r_ se ⟨y1, rfl⟩; refine ⟨fun e => y1, ?_⟩
  refine w_call (specSortOf_ok g2 hl' vs2 v4 (by omega) t2 se _ _ hlt2 (hE2.ext y1) (Enc.ext y1 _ _ hT2) (hV2.ext y1)) (by simp (disch := omega) only [go_sem, ↓reduceIte, Nat.reduceEqDiff, q1, bne1, a1, a2, a3, a4, a5, a6, a7, a8, a9, b1, b2, b3, d1, d2, d3, hlen2, hlen3, e0, e3, e4, e5, e6, e7, e8, e10, l3, l4, l11, l12, c1, j1, j2, j3, j4, j5, j6, j7, j8, j9, r1, r2, r3]) ?hl ?_
  case hl => first | rfl | (simp only [go_sem, List.all_cons, List.all_nil, Bool.not_false, Bool.and_self, q1, bne1, a1, a2, a3, a4, a5, a6, a7, a8, a9, b1, b2, b3, d1, d2, d3, hlen2, hlen3, e0, e3, e4, e5, e6, e7, e8, e10, l3, l4, l11, l12, c1, j1, j2, j3, j4, j5, j6, j7, j8, j9, r1, r2, r3]; done)
  rintro r_ sf ⟨y2, rfl⟩; refine ⟨fun e => y2, ?_⟩
  have f4 : (!((T.sortOf g2 vs2 t2).toList == (T.sortOf g2 vs2 t2).toList)) = false := by simp
  simp (disch := omega) only [go_sem, ↓reduceIte, Nat.reduceEqDiff, q1, bne1, a1, a2, a3, a4, a5, a6, a7, a8, a9, b1, b2, b3, d1, d2, d3, hlen2, hlen3, e0, e3, e4, e5, e6, e7, e8, e10, l3, l4, l11, l12, c1, j1, j2, j3, j4, j5, j6, j7, j8, j9, r1, r2, r3, hG, f4]
  refine w_call (implValidS_ok g2 sf _ hl' (hE2.ext (y1.trans y2))) (by simp (disch := omega) only [go_sem, ↓reduceIte, Nat.reduceEqDiff, q1, bne1, a1, a2, a3, a4, a5, a6, a7, a8, a9, b1, b2, b3, d1, d2, d3, hlen2, hlen3, e0, e3, e4, e5, e6, e7, e8, e10, l3, l4, l11, l12, c1, j1, j2, j3, j4, j5, j6, j7, j8, j9, r1, r2, r3, f4]) ?hl ?_
  case hl => first | rfl | (simp only [go_sem, List.all_cons, List.all_nil, Bool.not_false, Bool.and_self, q1, bne1, a1, a2, a3, a4, a5, a6, a7, a8, a9, b1, b2, b3, d1, d2, d3, hlen2, hlen3, e0, e3, e4, e5, e6, e7, e8, e10, l3, l4, l11, l12, c1, j1, j2, j3, j4, j5, j6, j7, j8, j9, r1, r2, r3, f4]; done)
  rintro r_ sg ⟨y3, rfl⟩; refine ⟨fun e => y3, ?_⟩
  simp (disch := omega) only [go_sem, ↓reduceIte, Nat.reduceEqDiff, q1, bne1, a1, a2, a3, a4, a5, a6, a7, a8, a9, b1, b2, b3, d1, d2, d3, hlen2, hlen3, e0, e3, e4, e5, e6, e7, e8, e10, l3, l4, l11, l12, c1, j1, j2, j3, j4, j5, j6, j7, j8, j9, r1, r2, r3, hG, f4]
  refine w_call (specValidS_ok g2 sg _ hl' hP2.2.2.2 (fun o ho => (hP2.2.2.1 o ho).2) (hE2.ext ((y1.trans y2).trans y3))) (by simp (disch := omega) only [go_sem, ↓reduceIte, Nat.reduceEqDiff, q1, bne1, a1, a2, a3, a4, a5, a6, a7, a8, a9, b1, b2, b3, d1, d2, d3, hlen2, hlen3, e0, e3, e4, e5, e6, e7, e8, e10, l3, l4, l11, l12, c1, j1, j2, j3, j4, j5, j6, j7, j8, j9, r1, r2, r3, f4]) ?hl ?_
  case hl => first | rfl | (simp only [go_sem, List.all_cons, List.all_nil, Bool.not_false, Bool.and_self, q1, bne1, a1, a2, a3, a4, a5, a6, a7, a8, a9, b1, b2, b3, d1, d2, d3, hlen2, hlen3, e0, e3, e4, e5, e6, e7, e8, e10, l3, l4, l11, l12, c1, j1, j2, j3, j4, j5, j6, j7, j8, j9, r1, r2, r3, f4]; done)
  rintro r_ sh ⟨y4, rfl⟩; refine ⟨fun e => y4, ?_⟩
  have f5 : (!(validS g2 == validS g2)) = false := by simp
  simp (disch := omega) only [go_sem, ↓reduceIte, Nat.reduceEqDiff, hG, q1, bne1, a1, a2, a3, a4, a5, a6, a7, a8, a9, b1, b2, b3, d1, d2, d3, hlen2, hlen3, e0, e3, e4, e5, e6, e7, e8, e10, l3, l4, l11, l12, c1, j1, j2, j3, j4, j5, j6, j7, j8, j9, r1, r2, r3, f4, f5]; refine hK _ _ ?_; clear hK K hG G; repeat (with_reducible first | refine thenI ?_ | refine thenE ?_ | refine thenR ?_ | refine inBI ?_ | refine inBR ?_ | refine inBS ?_ | refine inBN (by decide) ?_)
  repeat (first | with_reducible (first | refine thenI ?_ | refine thenE ?_ | refine thenR ?_ | refine inBI ?_ | refine inBR ?_ | refine inBS ?_ | refine inBN (by decide) ?_) | refine W_seqS ?_ | refine W_seqC ?_ | refine W_seqB ?_ | refine W_block ?_ | refine W_skip ?_ | (apply W_condB; (case hc => (simp (disch := omega) only [go_sem, ↓reduceIte, Nat.reduceEqDiff, q1, bne1, a1, a2, a3, a4, a5, a6, a7, a8, a9, b1, b2, b3, d1, d2, d3, hlen2, hlen3, e0, e3, e4, e5, e6, e7, e8, e10, l3, l4, l11, l12, c1, j1, j2, j3, j4, j5, j6, j7, j8, j9, r1, r2, r3]); rfl); first | refine qzT ?_ | refine qzF ?_) | ((first | refine W_reg rfl fun G K hG hK => ?_ | refine W_end rfl fun G K hG hK => ?_); simp (disch := omega) only [go_sem, ↓reduceIte, Nat.reduceEqDiff, hG, q1, bne1, a1, a2, a3, a4, a5, a6, a7, a8, a9, b1, b2, b3, d1, d2, d3, hlen2, hlen3, e0, e3, e4, e5, e6, e7, e8, e10, l3, l4, l11, l12, c1, j1, j2, j3, j4, j5, j6, j7, j8, j9, r1, r2, r3]; refine hK _ _ ?_; clear hK K hG G))
  have xx : Ext sa sh := ((((x2.trans x3).trans x4).trans (y1.trans y2)).trans (y3.trans y4))
  have xb : Ext sc sh := ((x4.trans (y1.trans y2)).trans (y3.trans y4))
  cases ok with
  | false =>
   (repeat (first | refine W_seqS ?_ | refine W_seqC ?_ | refine W_seqB ?_ | refine W_block ?_)); refine W_reg rfl fun G K hG hK => ?_; simp (disch := omega) only [go_sem, ↓reduceIte, Nat.reduceEqDiff, hG, q1, bne1, a1, a2, a3, a4, a5, a6, a7, a8, a9, b1, b2, b3, d1, d2, d3, hlen2, hlen3, e0, e3, e4, e5, e6, e7, e8, e10, l3, l4, l11, l12, c1, j1, j2, j3, j4, j5, j6, j7, j8, j9, r1, r2, r3]
   refine hK _ _ ?_; clear hK K hG G; repeat (with_reducible first | refine thenI ?_ | refine thenE ?_ | refine thenR ?_ | refine inBI ?_ | refine inBR ?_ | refine inBS ?_ | refine inBN (by decide) ?_)
   refine W_ret ?_; try (repeat (with_reducible first | refine thenI ?_ | refine thenE ?_ | refine thenR ?_ | refine inBI ?_ | refine inBR ?_ | refine inBS ?_ | refine inBN (by decide) ?_))
   refine fin1 (.inl rfl) (by (simp (disch := omega) only [go_sem, ↓reduceIte, Nat.reduceEqDiff, q1, bne1, a1, a2, a3, a4, a5, a6, a7, a8, a9, b1, b2, b3, d1, d2, d3, hlen2, hlen3, e0, e3, e4, e5, e6, e7, e8, e10, l3, l4, l11, l12, c1, j1, j2, j3, j4, j5, j6, j7, j8, j9, r1, r2, r3]); try rfl) rfl rfl
  | true =>
   have f6 := inferV_sort hiv
   (repeat (first | refine W_seqS ?_ | refine W_seqC ?_ | refine W_seqB ?_ | refine W_block ?_)); refine W_reg rfl fun G K hG hK => ?_; simp (disch := omega) only [go_sem, ↓reduceIte, Nat.reduceEqDiff, hG, q1, bne1, a1, a2, a3, a4, a5, a6, a7, a8, a9, b1, b2, b3, d1, d2, d3, hlen2, hlen3, e0, e3, e4, e5, e6, e7, e8, e10, l3, l4, l11, l12, c1, j1, j2, j3, j4, j5, j6, j7, j8, j9, r1, r2, r3]
   refine w_call (implSortOf_ok g hl vs v2 (by omega) t sh _ _ hlmt (hE.ext xx) (Enc.ext xx _ _ hT) (hw20.ext xb)) (by simp (disch := omega) only [go_sem, ↓reduceIte, Nat.reduceEqDiff, q1, bne1, a1, a2, a3, a4, a5, a6, a7, a8, a9, b1, b2, b3, d1, d2, d3, hlen2, hlen3, e0, e3, e4, e5, e6, e7, e8, e10, l3, l4, l11, l12, c1, j1, j2, j3, j4, j5, j6, j7, j8, j9, r1, r2, r3]) ?hl ?_
   case hl => first | rfl | (simp only [go_sem, List.all_cons, List.all_nil, Bool.not_false, Bool.and_self, q1, bne1, a1, a2, a3, a4, a5, a6, a7, a8, a9, b1, b2, b3, d1, d2, d3, hlen2, hlen3, e0, e3, e4, e5, e6, e7, e8, e10, l3, l4, l11, l12, c1, j1, j2, j3, j4, j5, j6, j7, j8, j9, r1, r2, r3]; done)
   rintro r_ si ⟨z1, rfl⟩; refine ⟨fun e => (by cases e), ?_⟩
   have xi := xx.trans z1
   simp (disch := omega) only [go_sem, ↓reduceIte, Nat.reduceEqDiff, q1, bne1, a1, a2, a3, a4, a5, a6, a7, a8, a9, b1, b2, b3, d1, d2, d3, hlen2, hlen3, e0, e3, e4, e5, e6, e7, e8, e10, l3, l4, l11, l12, c1, j1, j2, j3, j4, j5, j6, j7, j8, j9, r1, r2, r3, hG, f6]
   refine w_call (specValid_ok t si _ hlmt hln (by omega) (Enc.ext xi _ _ hT)) (by simp (disch := omega) only [go_sem, ↓reduceIte, Nat.reduceEqDiff, q1, bne1, a1, a2, a3, a4, a5, a6, a7, a8, a9, b1, b2, b3, d1, d2, d3, hlen2, hlen3, e0, e3, e4, e5, e6, e7, e8, e10, l3, l4, l11, l12, c1, j1, j2, j3, j4, j5, j6, j7, j8, j9, r1, r2, r3, f6]) ?hl ?_
   case hl => first | rfl | (simp only [go_sem, List.all_cons, List.all_nil, Bool.not_false, Bool.and_self, q1, bne1, a1, a2, a3, a4, a5, a6, a7, a8, a9, b1, b2, b3, d1, d2, d3, hlen2, hlen3, e0, e3, e4, e5, e6, e7, e8, e10, l3, l4, l11, l12, c1, j1, j2, j3, j4, j5, j6, j7, j8, j9, r1, r2, r3, f6]; done)
   rintro r_ si ⟨rfl, rfl⟩; refine ⟨fun e => (by cases e), ?_⟩
   cases hv : t.valid with
   | false =>
    simp (disch := omega) only [go_sem, ↓reduceIte, Nat.reduceEqDiff, hG, q1, bne1, a1, a2, a3, a4, a5, a6, a7, a8, a9, b1, b2, b3, d1, d2, d3, hlen2, hlen3, e0, e3, e4, e5, e6, e7, e8, e10, l3, l4, l11, l12, c1, j1, j2, j3, j4, j5, j6, j7, j8, j9, r1, r2, r3, f6]; refine hK _ _ ?_; clear hK K hG G; repeat (with_reducible first | refine thenI ?_ | refine thenE ?_ | refine thenR ?_ | refine inBI ?_ | refine inBR ?_ | refine inBS ?_ | refine inBN (by decide) ?_)
    refine W_ret ?_; try (repeat (with_reducible first | refine thenI ?_ | refine thenE ?_ | refine thenR ?_ | refine inBI ?_ | refine inBR ?_ | refine inBS ?_ | refine inBN (by decide) ?_))
    refine fin1 (.inl rfl) (by (simp (disch := omega) only [go_sem, ↓reduceIte, Nat.reduceEqDiff, q1, bne1, a1, a2, a3, a4, a5, a6, a7, a8, a9, b1, b2, b3, d1, d2, d3, hlen2, hlen3, e0, e3, e4, e5, e6, e7, e8, e10, l3, l4, l11, l12, c1, j1, j2, j3, j4, j5, j6, j7, j8, j9, r1, r2, r3]); try rfl) rfl rfl
   | true =>
    have hnd : t.nodes = true := by unfold T.valid at hv; simp only [Bool.and_eq_true] at hv; exact hv.2.2
    have hf := inferV_valid (g := g) (w := w) hnd (by rw [hiv])
    rw [hiv] at hf
    dsimp only at hf
    simp (disch := omega) only [go_sem, ↓reduceIte, Nat.reduceEqDiff, q1, bne1, a1, a2, a3, a4, a5, a6, a7, a8, a9, b1, b2, b3, d1, d2, d3, hlen2, hlen3, e0, e3, e4, e5, e6, e7, e8, e10, l3, l4, l11, l12, c1, j1, j2, j3, j4, j5, j6, j7, j8, j9, r1, r2, r3, hG, f6]
    refine w_call (specVarsOf_ok t si _ hlmt (by omega) (Enc.ext xi _ _ hT)) (by simp (disch := omega) only [go_sem, ↓reduceIte, Nat.reduceEqDiff, q1, bne1, a1, a2, a3, a4, a5, a6, a7, a8, a9, b1, b2, b3, d1, d2, d3, hlen2, hlen3, e0, e3, e4, e5, e6, e7, e8, e10, l3, l4, l11, l12, c1, j1, j2, j3, j4, j5, j6, j7, j8, j9, r1, r2, r3, f6]) ?hl ?_
    case hl => first | rfl | (simp only [go_sem, List.all_cons, List.all_nil, Bool.not_false, Bool.and_self, q1, bne1, a1, a2, a3, a4, a5, a6, a7, a8, a9, b1, b2, b3, d1, d2, d3, hlen2, hlen3, e0, e3, e4, e5, e6, e7, e8, e10, l3, l4, l11, l12, c1, j1, j2, j3, j4, j5, j6, j7, j8, j9, r1, r2, r3, f6]; done)
    rintro r_ sj ⟨z2, L5, hs5, hf5⟩; refine ⟨fun e => (by cases e), ?_⟩
    have k1 := hs5.loc
    have hlen5 : lenE Try.prog 24 r_ = some (.int .i64 vs.length) := by rw [hf]; exact row_len hs5.row Try.underlying24
    simp (disch := omega) only [go_sem, ↓reduceIte, Nat.reduceEqDiff, hG, q1, bne1, a1, a2, a3, a4, a5, a6, a7, a8, a9, b1, b2, b3, d1, d2, d3, hlen2, hlen3, e0, e3, e4, e5, e6, e7, e8, e10, l3, l4, l11, l12, c1, j1, j2, j3, j4, j5, j6, j7, j8, j9, r1, r2, r3, f6, k1, hlen5]; refine hK _ _ ?_; clear hK K hG G; repeat (with_reducible first | refine thenI ?_ | refine thenE ?_ | refine thenR ?_ | refine inBI ?_ | refine inBR ?_ | refine inBS ?_ | refine inBN (by decide) ?_)
    refine W_ret ?_; try (repeat (with_reducible first | refine thenI ?_ | refine thenE ?_ | refine thenR ?_ | refine inBI ?_ | refine inBR ?_ | refine inBS ?_ | refine inBN (by decide) ?_))
    refine fin1 (.inl rfl) (by (simp (disch := omega) only [go_sem, ↓reduceIte, Nat.reduceEqDiff, q1, bne1, a1, a2, a3, a4, a5, a6, a7, a8, a9, b1, b2, b3, d1, d2, d3, hlen2, hlen3, e0, e3, e4, e5, e6, e7, e8, e10, l3, l4, l11, l12, c1, j1, j2, j3, j4, j5, j6, j7, j8, j9, r1, r2, r3]); try rfl) rfl rfl

end

end Go.Proofs.Ytdijnohbbgbklaa.AM
/- Arguments: rows of bytes. -/
namespace Go.Proofs.Ytdijnohbbgbklaa.AM
open Go Go.Proofs
set_option linter.unusedVariables false
theorem open_bytes {H : Type} {enc : TypeId × Value → H} {w : World} (fuel : Nat) (cs : List Value) (x : DataW H × List MemPlace) (h : DataW.trod enc Try.prog w 0 (fun _ => true) true fuel 22 cs = some x) :
  ∃ s, ∃ xs : List Byt, cs = [s] ∧ Told w s ∧ RowY (absS w) xs (absV w.heap.size s) ∧ xs.length ≤ maxLen ∧ ∀ z ∈ xs, (Lit.int .u8 z.v).wf = true :=
 open_rowA (E := EncY (absS w)) (G := fun z : Byt => (Lit.int .u8 z.v).wf = true) (sz := 1) Try.underlying22 (by kernel_rfl) (by omega) h fun n_ cs_ y_ hn_ hy_ => by
  obtain ⟨z, rfl, hw⟩ := toldA_int Try.underlying5 hy_
  exact ⟨⟨z⟩, rfl, hw, fun c hc => by cases List.mem_singleton.1 hc; rfl⟩
end Go.Proofs.Ytdijnohbbgbklaa.AM


/- The law FnSorts, for every input: it returns true; the input reads as it did. -/
namespace Go.Proofs.Ytdijnohbbgbklaa.fnSorts
open Go Go.Proofs Go.ChangeShapes Go.WideShapes Go.ChangeAt Go.RowKit Go.Proofs.Ytdijnohbbgbklaa.AM
open Go.ChangeMaps (open_string shut_string)
set_option linter.unusedVariables false
set_option linter.unusedSimpArgs false
theorem own : ownKnob Try.prog.godebug = none := by kernel_rfl
theorem laidOut : laidOutB Try.prog = true := by kernel_rfl
set_option maxRecDepth 100000 in
theorem lifted (os : Os) (started : os.Started) (H : Type) (enc : TypeId × Value → H) :
    ReturnsInHanded {} Try.checked os 3 .any (Rows.fnSortsSpec.pre6 enc Try.prog Try.f3 Rows.fnSortsRow.domain false) (Rows.fnSortsSpec.post enc Try.prog Try.f3 false true false false) := by
  refine returnsInHanded_of_change_sized (C := Try.checked) own started (by kernel_rfl) Try.func3
    (ChangeSpec.witness6 (enc := enc) (C := Try.checked) false ⟨#[], #[.slice none 0 0], []⟩ 8 (by kernel_rfl) (by kernel_rfl) (by kernel_rfl) (by kernel_rfl)) ?_
  intro W base args ds gs before hval0 hW hcnd hsz0 _
  have hval : ∀ (j : Nat) t v, Try.f3.params[j]? = some t → args[j]? = some v → Value.okWide Try.prog W .any base t v := hval0
  have hW' := hW
  obtain ⟨p, q, hA0, hV, rfl, hfz, hnd⟩ := hW
  have hA : DataW.TrodAll enc Try.prog W 0 (fun _ => true) true Try.f3.params.toList args.toList ds p := hA0
  rw [Try.params3] at hA hval
  obtain ⟨v0, vs0, d0, ds0, p0, q0, hargs, rfl, rfl, h0, r0⟩ := trodAll_cons hA
  obtain ⟨rfl, rfl, rfl⟩ := trodAll_nil r0
  obtain rfl : args = #[v0] := by cases args; simp_all
  obtain ⟨rfl, rfl⟩ := trodVars_none hV
  have k0 := h0
  have lt0 : ∀ x ∈ p0, x.block < W.heap.size := by obtain ⟨m, hm⟩ := k0; exact DataW.trod_lt m _ _ _ hm
  obtain ⟨ad0, len0, cap0, rfl⟩ := okWide_slice Try.underlying22 (hval 0 22 v0 rfl rfl)
  obtain ⟨fuel0, hf0⟩ := h0
  obtain ⟨s0, xs0, hs0, T0, R0, N0, G0⟩ := open_bytes fuel0 _ _ hf0
  obtain rfl : _ = s0 := (List.cons.inj hs0).1
  have hc := wFnSorts (absS W) xs0 _ R0 N0
  clear hA0 hval0 hcnd hsz0 hval hA
  refine (hc.enters (noTab (by decide +kernel) (by decide +kernel) (by decide +kernel)) (.cons _ _ _ _ (.inl ⟨T0, rfl⟩) .nil)).mono fun e W' ⟨he, bel⟩ => ?_
  subst he
  exact ⟨_, rfl, _, _, _, [], _, [], hW', trodAll_mk1 (shut_bool Try.underlying4 _), (trodAll_cons_mk (Below.trod laidOut (by kernel_rfl) (of_decide_eq_true (by kernel_rfl)) k0 bel lt0) trodAll_mk0), rfl, bel.frame _, fun h => by cases h⟩
theorem over : Rows.fnSortsRow.holds Try.pinned (OpenSpec.ofChange Rows.fnSortsSpec) :=
  OpenClaim.holds_of_wide 3 Try.f3 rfl rfl rfl rfl rfl rfl rfl ⟨rfl, rfl, rfl, rfl, rfl⟩ rfl rfl rfl rfl rfl (by kernel_rfl) Try.func3 (by kernel_rfl)
    (of_decide_eq_true (by kernel_rfl)) (by unfold Func.isWrapper; first | (rw [if_pos (by decide +kernel)]; kernel_rfl) | (rw [if_neg (by decide +kernel)]; exact ⟨rfl, rfl⟩))
    (fun os started H enc _ => lifted os started H enc)
theorem proved : Rows.FnSortsSaid := over
end Go.Proofs.Ytdijnohbbgbklaa.fnSorts
namespace Go.Proofs.Ytdijnohbbgbklaa
/-- The row, under a short name, for the claim. -/
theorem fnSorts_holds : Rows.FnSortsSaid := fnSorts.proved
end Go.Proofs.Ytdijnohbbgbklaa

