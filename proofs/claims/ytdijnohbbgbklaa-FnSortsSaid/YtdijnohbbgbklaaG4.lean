/- My texts for the law, laid together (part 4): O9 O17 K8 O18 S1 PL4 O3 K7 K4 C23 O19. -/
import Derived.Test.YtdijnohbbgbklaaG3
import Derived.Lib.Strings
namespace Go.Proofs.Ytdijnohbbgbklaa.AM
open Go
attribute [local go_sem] List.map_cons List.map_nil List.all_cons List.all_nil Bool.and_self Option.map_some List.getElem?_toArray Option.bind_some gye_b gye_t gsk_b gsk_t gb1 gb2 gb3 gb4 bne_self_eq_false beq_self_eq_true w_guard w_nil stepV_some step_some step_some' w_move w_assign w_pick w_binOp w_unOp w_load w_fieldAddr w_indexAddr w_len w_max w_index ev_max max_int ev_index w_box w_alloc w_store w_field w_extract w_nilCheck w_convert w_buildSlice w_build ev_buildL fillL_nil fillL_cons bs0 bs1 ev_conv ev_bin ev_un ev_pick ev_load ev_fieldAddr ev_indexAddr ev_len ev_field ev_extract ev_nilCheck fr_tmp fr_int fr_bool fr_str fr_nil fr_func put_some put_none bin_lss bin_leq bin_gtr bin_geq bin_eql bin_neq bin_add bin_sub bin_mul bin_seql bin_sneq un_not pick_ ext_ loadA_p cellAt_l cellAt_h okPtr_l okPtr_h fadA_p allocA_l storeA_l cells_agg cells_int cells_str cells_sl cells_bool flat_i flat_s flat_b flat_sl flat_nil loc_agg loc_int loc_str loc_sl loc_bool loc_fn loc_ptr okv_agg okv_int okv_str okv_sl okv_bool cellsFrom splice upd_eval argEnv_zero argEnv_succ ne_eq Nat.add_one_ne_zero not_false_eq_true List.not_mem_nil and_self decide_true List.getElem?_cons_zero List.getElem?_cons_succ List.size_toArray List.length_cons List.length_nil List.take_succ_cons List.take_zero List.drop_succ_cons List.drop_zero List.cons_append List.nil_append List.drop_nil Bool.not_true Bool.not_false Bool.false_eq_true Nat.zero_add Nat.add_zero wrap_in List.toList_toArray List.mem_cons or_self or_false false_or
attribute [local go_sem] ag103 ag22 ag24 ag25 ag27 ag28 ag3 ag30 ag37 ag5 ag54 ag9 bu27 bu30 bu37 bu54 bu67 by30 by37 by54 by9 el22 el24 el25 el28 el33 el52 of27_0 of27_1 of30_0 of30_1 of30_2 of30_3 of37_0 of37_1 of54_0 of54_1 of54_2 of67_0 of67_1 of67_2 ro3_3 ro3_4 ro30_0 ro30_1 ro30_2 ro37_0 ro37_1 ro37_4 ro54_1 ro54_7 ro9_0 ro9_1 ro9_2 ro9_3 ro9_4 ro9_5 sz103 sz22 sz24 sz25 sz27 sz28 sz3 sz30 sz37 sz5 sz54 sz9 ze103 ze27 ze3 ze30 ze37 ze54 ze9
section
/- Terms of a sort drawn: l6Term; guards drawn: l9Draw, l9Bent; DrawReduceWords, DrawHoldsGuard. -/
open Go Go.Proofs
set_option linter.unusedVariables false
set_option linter.unusedSimpArgs false
set_option maxRecDepth 100000
-- AUTO

def WordP (d : Nat) (t : T) : Prop := Plain t ∧ t.wt + 7 ≤ 4 * 2 ^ d
def EP (d : Nat) (t : T) : Prop := Plain t ∧ t.wt + 7 ≤ 8 * 2 ^ d
theorem two_le {d : Nat} (h : 1 ≤ d) : 2 ≤ 2 ^ d := by
 obtain ⟨e, rfl⟩ : ∃ e, d = e + 1 := ⟨d - 1, by omega⟩
 have : 1 ≤ 2 ^ e := Nat.one_le_two_pow
 rw [Nat.pow_succ]; omega
theorem word_leaf {d : Nat} {k n : Int} {nm : ByteArray} (hd : 1 ≤ d) (hn : nm.size ≤ 1) (h : Plain (.mk k n nm [])) : WordP d (.mk k n nm []) := ⟨h, by
 have := two_le hd
 simp only [T.wt, T.wtL, List.length_nil]; omega⟩
theorem e_leaf {d : Nat} {k n : Int} {nm : ByteArray} (hd : 1 ≤ d) (hn : nm.size ≤ 1) (h : Plain (.mk k n nm [])) : EP d (.mk k n nm []) := ⟨h, by
 have := two_le hd
 simp only [T.wt, T.wtL, List.length_nil]; omega⟩
theorem l6Word_of (q : Nat) (xs : List Byt) (g : Bool) (d : Nat) (hd1 : 1 ≤ d) (hd10 : d ≤ 10) (st : St) (hq : Cur st q xs)
  (ih : ∀ e, d = e + 1 → 1 ≤ e → ∀ st, Cur st q xs → CallS Try.prog 43 [.pointer (some ⟨q, 0, none⟩), .string ⟨#[119, 111, 114, 100]⟩, .int .i64 (e : Nat), .bool g] st (DrawT q xs st (WordP e))) :
  CallS Try.prog 43 [.pointer (some ⟨q, 0, none⟩), .string ⟨#[119, 111, 114, 100]⟩, .int .i64 (d : Nat), .bool g] st (DrawT q xs st (WordP d)) := by
 refine CallS_of_W [] 101 Try.func43 rfl rfl rfl rfl (by simp) ?_
 repeat (first | with_reducible (first | refine thenI ?_ | refine thenE ?_ | refine thenR ?_ | refine inBI ?_ | refine inBR ?_ | refine inBS ?_ | refine inBN (by decide) ?_) | refine W_seqS ?_ | refine W_seqC ?_ | refine W_seqB ?_ | refine W_block ?_ | refine W_skip ?_ | (apply W_condB; (case hc => (simp (disch := omega) only [go_sem, ↓reduceIte, Nat.reduceEqDiff]); rfl); first | refine qzT ?_ | refine qzF ?_) | ((first | refine W_reg rfl fun G K hG hK => ?_ | refine W_end rfl fun G K hG hK => ?_); simp (disch := omega) only [go_sem, ↓reduceIte, Nat.reduceEqDiff, hG]; refine hK _ _ ?_; clear hK K hG G))
 refine W_seq ?_
 refine W_to (fun fr st' => ∃ (b : Bool), (Drawn q xs st st') ∧ (fr.env 0 = .pointer (some ⟨q, 0, none⟩)) ∧ (fr.env 2 = .int .i64 (d : Nat)) ∧ (fr.env 3 = .bool g) ∧ (fr.env 8 = .pointer (some ⟨8, 0, some 1⟩)) ∧ (fr.env 18 = .bool b) ∧ ((fr.loc 8).1 = 1 ∧ (fr.loc 8).2.length = 4) ∧ ((fr.loc 9).1 = 0)) ?_ ?_
 ·cases g with
  | true =>
   repeat (first | with_reducible (first | refine thenI ?_ | refine thenE ?_ | refine thenR ?_ | refine inBI ?_ | refine inBR ?_ | refine inBS ?_ | refine inBN (by decide) ?_) | refine W_seqS ?_ | refine W_seqC ?_ | refine W_seqB ?_ | refine W_block ?_ | refine W_skip ?_ | (apply W_condB; (case hc => (simp (disch := omega) only [go_sem, ↓reduceIte, Nat.reduceEqDiff]); rfl); first | refine qzT ?_ | refine qzF ?_) | ((first | refine W_reg rfl fun G K hG hK => ?_ | refine W_end rfl fun G K hG hK => ?_); simp (disch := omega) only [go_sem, ↓reduceIte, Nat.reduceEqDiff, hG]; refine hK _ _ ?_; clear hK K hG G))
   exact ⟨false, .refl hq, (by refine ⟨?_, ?_, ?_, ?_, ?_, ⟨?_, ?_⟩, ?_⟩ <;> ((simp (disch := omega) only [go_sem, ↓reduceIte, Nat.reduceEqDiff]); try rfl))⟩
  | false =>
   refine W_end rfl fun G K hG hK => ?_; simp (disch := omega) only [go_sem, ↓reduceIte, Nat.reduceEqDiff, hG]
   refine w_call (l1Once_ok q xs st 2 (by omega) (by omega) hq) (by simp (disch := omega) only [go_sem, ↓reduceIte, Nat.reduceEqDiff]) ?hl ?_
   case hl => first | rfl | (simp only [go_sem, List.all_cons, List.all_nil, Bool.not_false, Bool.and_self]; done)
   rintro r_ sa ⟨⟨b, rfl⟩, hd, hl⟩; refine ⟨fun e => (by cases e), ?_⟩
   simp (disch := omega) only [go_sem, ↓reduceIte, Nat.reduceEqDiff, hG]; refine hK _ _ ?_; clear hK K hG G; repeat (with_reducible first | refine thenI ?_ | refine thenE ?_ | refine thenR ?_ | refine inBI ?_ | refine inBR ?_ | refine inBS ?_ | refine inBN (by decide) ?_)
   exact ⟨b, hd, (by refine ⟨?_, ?_, ?_, ?_, ?_, ⟨?_, ?_⟩, ?_⟩ <;> ((simp (disch := omega) only [go_sem, ↓reduceIte, Nat.reduceEqDiff]); try rfl))⟩
 rintro ⟨env, loc⟩ st' ⟨b, hdr, e0, e2, e3, e8, e18, ⟨l8, l8'⟩, l9⟩
 simp only at e0 e2 e3 e8 e18 l8 l8' l9
 cases b with
 | true =>
  repeat (first | with_reducible (first | refine thenI ?_ | refine thenE ?_ | refine thenR ?_ | refine inBI ?_ | refine inBR ?_ | refine inBS ?_ | refine inBN (by decide) ?_) | refine W_seqS ?_ | refine W_seqC ?_ | refine W_seqB ?_ | refine W_block ?_ | refine W_skip ?_ | (apply W_condB; (case hc => (simp (disch := omega) only [go_sem, ↓reduceIte, Nat.reduceEqDiff, e0, e2, e3, e8, e18, l8, l8', l9]); rfl); first | refine qzT ?_ | refine qzF ?_) | ((first | refine W_reg rfl fun G K hG hK => ?_ | refine W_end rfl fun G K hG hK => ?_); simp (disch := omega) only [go_sem, ↓reduceIte, Nat.reduceEqDiff, hG, e0, e2, e3, e8, e18, l8, l8', l9]; refine hK _ _ ?_; clear hK K hG G))
  (repeat (first | refine W_seqS ?_ | refine W_seqC ?_ | refine W_seqB ?_ | refine W_block ?_)); refine W_reg rfl fun G K hG hK => ?_; simp (disch := omega) only [go_sem, ↓reduceIte, Nat.reduceEqDiff, Nat.reduceAdd, Nat.reduceLeDiff, hG, e0, e2, e3, e8, e18, l8, l8', l9, bsL, fillK_cons, fillK_nil, Nat.reduceMul]
  refine w_call (l1Pick_lit q xs st' _ _ 2 hdr.cur rfl (by simp) (by simp)) (by simp (disch := omega) only [go_sem, ↓reduceIte, Nat.reduceEqDiff, e0, e2, e3, e8, e18, l8, l8', l9]) ?hl ?_
  case hl => first | rfl | (simp only [go_sem, List.all_cons, List.all_nil, Bool.not_false, Bool.and_self, e0, e2, e3, e8, e18, l8, l8', l9]; done)
  rintro r_ sa ⟨⟨w, rfl, hw⟩, hd, hl⟩; refine ⟨fun e => (by cases e), ?_⟩
  simp (disch := omega) only [go_sem, ↓reduceIte, Nat.reduceEqDiff, e0, e2, e3, e8, e18, l8, l8', l9]
  refine w_call (l3Var_ok w sa) (by simp (disch := omega) only [go_sem, ↓reduceIte, Nat.reduceEqDiff, e0, e2, e3, e8, e18, l8, l8', l9]) ?hl ?_
  case hl => first | rfl | (simp only [go_sem, List.all_cons, List.all_nil, Bool.not_false, Bool.and_self, e0, e2, e3, e8, e18, l8, l8', l9]; done)
  rintro r_ sb ⟨rfl, rfl⟩; refine ⟨fun e => (by cases e), ?_⟩
  simp (disch := omega) only [go_sem, ↓reduceIte, Nat.reduceEqDiff, hG, e0, e2, e3, e8, e18, l8, l8', l9]; refine hK _ _ ?_; clear hK K hG G; repeat (with_reducible first | refine thenI ?_ | refine thenE ?_ | refine thenR ?_ | refine inBI ?_ | refine inBR ?_ | refine inBS ?_ | refine inBN (by decide) ?_)
  refine W_ret ?_; try (repeat (with_reducible first | refine thenI ?_ | refine thenE ?_ | refine thenR ?_ | refine inBI ?_ | refine inBR ?_ | refine inBS ?_ | refine inBN (by decide) ?_))
  refine finC (.inl rfl) (by (simp (disch := omega) only [go_sem, ↓reduceIte, Nat.reduceEqDiff, e0, e2, e3, e8, e18, l8, l8', l9]); try rfl) ⟨hdr.trans (.pre (Ext.app _ _) hd), .mk 1 0 w [], [_, _, _, _], [], rfl, .nil _ _ _, .nil _, word_leaf hd1 (size_of_mem hw rfl) (plain_var w)⟩
 | false =>
  repeat (first | with_reducible (first | refine thenI ?_ | refine thenE ?_ | refine thenR ?_ | refine inBI ?_ | refine inBR ?_ | refine inBS ?_ | refine inBN (by decide) ?_) | refine W_seqS ?_ | refine W_seqC ?_ | refine W_seqB ?_ | refine W_block ?_ | refine W_skip ?_ | (apply W_condB; (case hc => (simp (disch := omega) only [go_sem, ↓reduceIte, Nat.reduceEqDiff, e0, e2, e3, e8, e18, l8, l8', l9]); rfl); first | refine qzT ?_ | refine qzF ?_) | ((first | refine W_reg rfl fun G K hG hK => ?_ | refine W_end rfl fun G K hG hK => ?_); simp (disch := omega) only [go_sem, ↓reduceIte, Nat.reduceEqDiff, hG, e0, e2, e3, e8, e18, l8, l8', l9]; refine hK _ _ ?_; clear hK K hG G))
  refine W_seq ?_
  refine W_to (fun fr st' => ∃ (b : Bool), (Drawn q xs st st') ∧ (b = true → 1 < d) ∧ (fr.env 0 = .pointer (some ⟨q, 0, none⟩)) ∧ (fr.env 2 = .int .i64 (d : Nat)) ∧ (fr.env 3 = .bool g) ∧ (fr.env 8 = .pointer (some ⟨8, 0, some 1⟩)) ∧ (fr.env 28 = .bool b) ∧ ((fr.loc 8).1 = 1 ∧ (fr.loc 8).2.length = 4) ∧ ((fr.loc 9).1 = 0)) ?_ ?_
  ·by_cases h1 : d > 1
   ·have c1 : decide ((d : Int) > 1) = true := by simp; omega
    refine W_end rfl fun G K hG hK => ?_; simp (disch := omega) only [go_sem, ↓reduceIte, Nat.reduceEqDiff, hG, e0, e2, e3, e8, e18, l8, l8', l9, c1]
    refine w_call (l1Once_ok q xs _ 3 (by omega) (by omega) hdr.cur) (by simp (disch := omega) only [go_sem, ↓reduceIte, Nat.reduceEqDiff, e0, e2, e3, e8, e18, l8, l8', l9]) ?hl ?_
    case hl => first | rfl | (simp only [go_sem, List.all_cons, List.all_nil, Bool.not_false, Bool.and_self, e0, e2, e3, e8, e18, l8, l8', l9]; done)
    rintro r_ sa ⟨⟨b, rfl⟩, hd, hl⟩; refine ⟨fun e => (by cases e), ?_⟩
    simp (disch := omega) only [go_sem, ↓reduceIte, Nat.reduceEqDiff, hG, e0, e2, e3, e8, e18, l8, l8', l9]; refine hK _ _ ?_; clear hK K hG G; repeat (with_reducible first | refine thenI ?_ | refine thenE ?_ | refine thenR ?_ | refine inBI ?_ | refine inBR ?_ | refine inBS ?_ | refine inBN (by decide) ?_)
    exact ⟨b, hdr.trans hd, fun _ => h1, (by refine ⟨?_, ?_, ?_, ?_, ?_, ⟨?_, ?_⟩, ?_⟩ <;> ((simp (disch := omega) only [go_sem, ↓reduceIte, Nat.reduceEqDiff, e0, e2, e3, e8, e18, l8, l8', l9]); try rfl))⟩
   ·have c1 : decide ((d : Int) > 1) = false := by simp; omega
    repeat (first | with_reducible (first | refine thenI ?_ | refine thenE ?_ | refine thenR ?_ | refine inBI ?_ | refine inBR ?_ | refine inBS ?_ | refine inBN (by decide) ?_) | refine W_seqS ?_ | refine W_seqC ?_ | refine W_seqB ?_ | refine W_block ?_ | refine W_skip ?_ | (apply W_condB; (case hc => (simp (disch := omega) only [go_sem, ↓reduceIte, Nat.reduceEqDiff, e0, e2, e3, e8, e18, l8, l8', l9, c1]); rfl); first | refine qzT ?_ | refine qzF ?_) | ((first | refine W_reg rfl fun G K hG hK => ?_ | refine W_end rfl fun G K hG hK => ?_); simp (disch := omega) only [go_sem, ↓reduceIte, Nat.reduceEqDiff, hG, e0, e2, e3, e8, e18, l8, l8', l9, c1]; refine hK _ _ ?_; clear hK K hG G))
    exact ⟨false, hdr, fun h => (by cases h), (by refine ⟨?_, ?_, ?_, ?_, ?_, ⟨?_, ?_⟩, ?_⟩ <;> ((simp (disch := omega) only [go_sem, ↓reduceIte, Nat.reduceEqDiff, e0, e2, e3, e8, e18, l8, l8', l9]); try rfl))⟩
  clear e0 e2 e3 e8 e18 l8 l8' l9
  rintro ⟨env, loc⟩ st' ⟨b, hdr2, hb, e0, e2, e3, e8, e28, ⟨l8, l8'⟩, l9⟩
  simp only at e0 e2 e3 e8 e28 l8 l8' l9
  cases b with
  | true =>
   have he := hb rfl
   obtain ⟨e, rfl⟩ : ∃ e, d = e + 1 := ⟨d - 1, by omega⟩
   have hsub : ((e + 1 : Nat) : Int) - 1 = (e : Nat) := by omega
   repeat (first | with_reducible (first | refine thenI ?_ | refine thenE ?_ | refine thenR ?_ | refine inBI ?_ | refine inBR ?_ | refine inBS ?_ | refine inBN (by decide) ?_) | refine W_seqS ?_ | refine W_seqC ?_ | refine W_seqB ?_ | refine W_block ?_ | refine W_skip ?_ | (apply W_condB; (case hc => (simp (disch := omega) only [go_sem, ↓reduceIte, Nat.reduceEqDiff, e0, e2, e3, e8, e28, l8, l8', l9]); rfl); first | refine qzT ?_ | refine qzF ?_) | ((first | refine W_reg rfl fun G K hG hK => ?_ | refine W_end rfl fun G K hG hK => ?_); simp (disch := omega) only [go_sem, ↓reduceIte, Nat.reduceEqDiff, hG, e0, e2, e3, e8, e28, l8, l8', l9]; refine hK _ _ ?_; clear hK K hG G))
   (repeat (first | refine W_seqS ?_ | refine W_seqC ?_ | refine W_seqB ?_ | refine W_block ?_)); refine W_reg rfl fun G K hG hK => ?_; simp (disch := omega) only [go_sem, ↓reduceIte, Nat.reduceEqDiff, hG, e0, e2, e3, e8, e28, l8, l8', l9, hsub]
   refine w_call (ih e rfl (by omega) _ hdr2.cur) (by simp (disch := omega) only [go_sem, ↓reduceIte, Nat.reduceEqDiff, e0, e2, e3, e8, e28, l8, l8', l9, hsub]) ?hl ?_
   case hl => first | rfl | (simp only [go_sem, List.all_cons, List.all_nil, Bool.not_false, Bool.and_self, e0, e2, e3, e8, e28, l8, l8', l9, hsub]; done)
   rintro r_ sb ⟨hd2, t, ds, L, rfl, ho, hf, hp⟩; refine ⟨fun e => (by cases e), ?_⟩
   obtain ⟨k1, n1, m1, s1, rfl, a1, a2, a3⟩ := ho.args_cells
   simp (disch := omega) only [go_sem, ↓reduceIte, Nat.reduceEqDiff, hG, e0, e2, e3, e8, e28, l8, l8', l9, a1, a2, a3]; refine hK _ _ ?_; clear hK K hG G; repeat (with_reducible first | refine thenI ?_ | refine thenE ?_ | refine thenR ?_ | refine inBI ?_ | refine inBR ?_ | refine inBS ?_ | refine inBN (by decide) ?_)
   have hdr3 := hdr2.trans hd2
   (repeat (first | refine W_seqS ?_ | refine W_seqC ?_ | refine W_seqB ?_ | refine W_block ?_)); refine W_regL mixed [9] [] [2, 8, 9] [[(3, false), (0, false), (4, false), (5, false), (6, false), (7, false), (1, false), (2, false), (8, false), (9, false), (10, false)]] rfl (by decide +kernel) (by intro t ht; simp only [List.mem_cons, List.not_mem_nil, or_false] at ht; (rcases ht with rfl) <;> (first | rfl | (simp only [e0, e2, e3, e8, e28, l8, l8', l9]; done) | (simp only [e0, e2, e3, e8, e28, l8, l8', l9]; rfl))) fun G K hG hK => (fm_cons ?_ fm_nil)
   simp only [pickOps, List.filterMap_cons, List.filterMap_nil, List.getElem?_cons_zero, List.getElem?_cons_succ, Option.map_some]; simp (disch := omega) only [go_sem, ↓reduceIte, Nat.reduceEqDiff, Nat.reduceAdd, Nat.reduceLeDiff, hG, e0, e2, e3, e8, e28, l8, l8', l9, bsL, fillK_cons, fillK_nil, Nat.reduceMul, hsub, a1, a2, a3]
   refine w_call (l1Pick_lit q xs sb _ _ 3 hdr3.cur rfl (by simp) (by simp)) (by simp (disch := omega) only [go_sem, ↓reduceIte, Nat.reduceEqDiff, e0, e2, e3, e8, e28, l8, l8', l9]) ?hl ?_
   case hl => first | rfl | (simp only [go_sem, List.all_cons, List.all_nil, Bool.not_false, Bool.and_self, e0, e2, e3, e8, e28, l8, l8', l9]; done)
   rintro r_ sc ⟨⟨w, rfl, hw⟩, hd3, hl3⟩; refine ⟨fun e => (by cases e), ?_⟩
   simp (disch := omega) only [go_sem, ↓reduceIte, Nat.reduceEqDiff, e0, e2, e3, e8, e28, l8, l8', l9, a1, a2, a3, hsub]
   refine w_call (ih e rfl (by omega) sc hd3.cur) (by simp (disch := omega) only [go_sem, ↓reduceIte, Nat.reduceEqDiff, e0, e2, e3, e8, e28, l8, l8', l9, hsub]) ?hl ?_
   case hl => first | rfl | (simp only [go_sem, List.all_cons, List.all_nil, Bool.not_false, Bool.and_self, e0, e2, e3, e8, e28, l8, l8', l9, hsub]; done)
   rintro r_ sd ⟨hd4, t2, ds2, L2, rfl, ho2, hf2, hp2⟩; refine ⟨fun e => (by cases e), ?_⟩
   have hdr4 := Drawn.pre (Ext.app _ _) (hd3.trans hd4)
   have hl0 := Nat.le_trans hdr2.away.1 hd2.away.1
   have hoA := hdr4.own ho hf (Nat.lt_of_lt_of_le hq.lt hdr2.away.1)
   simp (disch := omega) only [go_sem, ↓reduceIte, Nat.reduceEqDiff, e0, e2, e3, e8, e28, l8, l8', l9, a1, a2, a3]
   refine w_call (l3Pair_ok w t t2 sd [.int .i64 k1, .int .i64 n1, .string m1, s1] ds2 L L2 hoA ho2) (by simp (disch := omega) only [go_sem, ↓reduceIte, Nat.reduceEqDiff, e0, e2, e3, e8, e28, l8, l8', l9, a1, a2, a3]) ?hl ?_
   case hl => first | rfl | (simp only [go_sem, List.all_cons, List.all_nil, Bool.not_false, Bool.and_self, e0, e2, e3, e8, e28, l8, l8', l9, a1, a2, a3]; done)
   rintro r_ se ⟨x1, es, rfl, ho3⟩; refine ⟨fun e => (by cases e), ?_⟩
   obtain ⟨k3, n3, m3, s3, rfl, b1, b2, b3⟩ := ho3.args_cells
   simp (disch := omega) only [go_sem, ↓reduceIte, Nat.reduceEqDiff, hG, e0, e2, e3, e8, e28, l8, l8', l9, b1, b2, b3]; refine hK _ _ ?_; clear hK K hG G; repeat (with_reducible first | refine thenI ?_ | refine thenE ?_ | refine thenR ?_ | refine inBI ?_ | refine inBR ?_ | refine inBS ?_ | refine inBN (by decide) ?_)
   have hlt := Own.lt _ _ _ ho
   have hll := hdr4.away.1
   have hl5 := hd4.away.1
   refine W_ret ?_; try (repeat (with_reducible first | refine thenI ?_ | refine thenE ?_ | refine thenR ?_ | refine inBI ?_ | refine inBR ?_ | refine inBS ?_ | refine inBN (by decide) ?_))
   refine finC (.inl rfl) (by (simp (disch := omega) only [go_sem, ↓reduceIte, Nat.reduceEqDiff, e0, e2, e3, e8, e28, l8, l8', l9, b1, b2, b3]); try rfl) ⟨((hdr3.trans hdr4).ext2 x1), _, [_, _, _, _], _, rfl, ho3, ((hf.mono hdr2.away.1).app hf2 (fun i hi => by have := hlt i hi; omega) (by omega)).cons (fun i hi => ?_) (by omega), plain_app 0 _ _ (fun a ha => ?_), ?_⟩
   ·rcases List.mem_append.1 hi with hi | hi
    ·have := hlt i hi; omega
    ·exact Own.lt _ _ _ ho2 i hi
   ·rcases List.mem_cons.1 ha with rfl | ha
    ·exact hp.1
    ·cases List.mem_singleton.1 ha; exact hp2.1
   ·have h1 := hp.2
    have h2 := hp2.2
    have h3 := size_of_mem2 (m := 5) hw rfl
    simp only [T.wt, T.wtL, List.length_cons, List.length_nil, Nat.pow_succ]
    omega
  | false =>
   repeat (first | with_reducible (first | refine thenI ?_ | refine thenE ?_ | refine thenR ?_ | refine inBI ?_ | refine inBR ?_ | refine inBS ?_ | refine inBN (by decide) ?_) | refine W_seqS ?_ | refine W_seqC ?_ | refine W_seqB ?_ | refine W_block ?_ | refine W_skip ?_ | (apply W_condB; (case hc => (simp (disch := omega) only [go_sem, ↓reduceIte, Nat.reduceEqDiff, e0, e2, e3, e8, e28, l8, l8', l9]); rfl); first | refine qzT ?_ | refine qzF ?_) | ((first | refine W_reg rfl fun G K hG hK => ?_ | refine W_end rfl fun G K hG hK => ?_); simp (disch := omega) only [go_sem, ↓reduceIte, Nat.reduceEqDiff, hG, e0, e2, e3, e8, e28, l8, l8', l9]; refine hK _ _ ?_; clear hK K hG G))
   (repeat (first | refine W_seqS ?_ | refine W_seqC ?_ | refine W_seqB ?_ | refine W_block ?_)); refine W_reg rfl fun G K hG hK => ?_; simp (disch := omega) only [go_sem, ↓reduceIte, Nat.reduceEqDiff, hG, e0, e2, e3, e8, e28, l8, l8', l9]
   refine w_call (l1Below_ok q xs _ 4 (by omega) (by omega) hdr2.cur) (by simp (disch := omega) only [go_sem, ↓reduceIte, Nat.reduceEqDiff, e0, e2, e3, e8, e28, l8, l8', l9]) ?hl ?_
   case hl => first | rfl | (simp only [go_sem, List.all_cons, List.all_nil, Bool.not_false, Bool.and_self, e0, e2, e3, e8, e28, l8, l8', l9]; done)
   rintro r_ sb ⟨⟨x, rfl, hx0, hx1⟩, hd2, hl⟩; refine ⟨fun e => (by cases e), ?_⟩
   simp (disch := omega) only [go_sem, ↓reduceIte, Nat.reduceEqDiff, e0, e2, e3, e8, e28, l8, l8', l9]
   refine w_call (l3Word_ok x sb) (by simp (disch := omega) only [go_sem, ↓reduceIte, Nat.reduceEqDiff, e0, e2, e3, e8, e28, l8, l8', l9]) ?hl ?_
   case hl => first | rfl | (simp only [go_sem, List.all_cons, List.all_nil, Bool.not_false, Bool.and_self, e0, e2, e3, e8, e28, l8, l8', l9]; done)
   rintro r_ sc ⟨rfl, rfl⟩; refine ⟨fun e => (by cases e), ?_⟩
   simp (disch := omega) only [go_sem, ↓reduceIte, Nat.reduceEqDiff, hG, e0, e2, e3, e8, e28, l8, l8', l9]; refine hK _ _ ?_; clear hK K hG G; repeat (with_reducible first | refine thenI ?_ | refine thenE ?_ | refine thenR ?_ | refine inBI ?_ | refine inBR ?_ | refine inBS ?_ | refine inBN (by decide) ?_)
   refine W_ret ?_; try (repeat (with_reducible first | refine thenI ?_ | refine thenE ?_ | refine thenR ?_ | refine inBI ?_ | refine inBR ?_ | refine inBS ?_ | refine inBN (by decide) ?_))
   refine finC (.inl rfl) (by (simp (disch := omega) only [go_sem, ↓reduceIte, Nat.reduceEqDiff, e0, e2, e3, e8, e28, l8, l8', l9]); try rfl) ⟨hdr2.trans hd2, .mk 3 x ⟨#[]⟩ [], [_, _, _, _], [], rfl, .nil _ _ _, .nil _, word_leaf hd1 (by decide) (plain_word x _)⟩
theorem l6Word_ok (q : Nat) (xs : List Byt) (g : Bool) : ∀ (d : Nat), 1 ≤ d → d ≤ 10 → ∀ (st : St), Cur st q xs → CallS Try.prog 43 [.pointer (some ⟨q, 0, none⟩), .string ⟨#[119, 111, 114, 100]⟩, .int .i64 (d : Nat), .bool g] st (DrawT q xs st (WordP d)) := by
 intro d
 induction d with
 | zero => intro h1; omega
 | succ d ih => intro h1 h st hq; exact l6Word_of q xs g (d + 1) h1 h st hq fun e he h1 st hq => (by
  obtain rfl : d = e := by omega
  exact ih h1 (by omega) st hq)
theorem l6Word1_ok (q : Nat) (xs : List Byt) (g : Bool) (st : St) (hq : Cur st q xs) : CallS Try.prog 43 [.pointer (some ⟨q, 0, none⟩), .string ⟨#[119, 111, 114, 100]⟩, .int .i64 1, .bool g] st (DrawT q xs st (WordP 1)) := l6Word_ok q xs g 1 (by omega) (by omega) st hq
theorem l6Word4_ok (q : Nat) (xs : List Byt) (g : Bool) (st : St) (hq : Cur st q xs) : CallS Try.prog 43 [.pointer (some ⟨q, 0, none⟩), .string ⟨#[119, 111, 114, 100]⟩, .int .i64 4, .bool g] st (DrawT q xs st (WordP 4)) := l6Word_ok q xs g 4 (by omega) (by omega) st hq

theorem l6E_of (q : Nat) (xs : List Byt) (g : Bool) (sn : ByteArray) (hsn : (sn.toList == (⟨#[119, 111, 114, 100]⟩ : ByteArray).toList) = false) (d : Nat) (hd1 : 1 ≤ d) (hd10 : d ≤ 10) (st : St) (hq : Cur st q xs)
  (ih : ∀ e, d = e + 1 → 1 ≤ e → ∀ st, Cur st q xs → CallS Try.prog 43 [.pointer (some ⟨q, 0, none⟩), .string ⟨#[101]⟩, .int .i64 (e : Nat), .bool g] st (DrawT q xs st (EP e))) :
  CallS Try.prog 43 [.pointer (some ⟨q, 0, none⟩), .string sn, .int .i64 (d : Nat), .bool g] st (DrawT q xs st (EP d)) := by
 refine CallS_of_W [] 101 Try.func43 rfl rfl rfl rfl (by simp) ?_
 repeat (first | with_reducible (first | refine thenI ?_ | refine thenE ?_ | refine thenR ?_ | refine inBI ?_ | refine inBR ?_ | refine inBS ?_ | refine inBN (by decide) ?_) | refine W_seqS ?_ | refine W_seqC ?_ | refine W_seqB ?_ | refine W_block ?_ | refine W_skip ?_ | (apply W_condB; (case hc => (simp (disch := omega) only [go_sem, ↓reduceIte, Nat.reduceEqDiff, hsn]); rfl); first | refine qzT ?_ | refine qzF ?_) | ((first | refine W_reg rfl fun G K hG hK => ?_ | refine W_end rfl fun G K hG hK => ?_); simp (disch := omega) only [go_sem, ↓reduceIte, Nat.reduceEqDiff, hG, hsn]; refine hK _ _ ?_; clear hK K hG G))
 refine W_seq ?_
 refine W_to (fun fr st' => ∃ (b : Bool), (Drawn q xs st st') ∧ (b = false → 2 ≤ d) ∧ (fr.env 0 = .pointer (some ⟨q, 0, none⟩)) ∧ (fr.env 2 = .int .i64 (d : Nat)) ∧ (fr.env 3 = .bool g) ∧ (fr.env 8 = .pointer (some ⟨8, 0, some 1⟩)) ∧ (fr.env 52 = .bool b) ∧ ((fr.loc 8).1 = 1 ∧ (fr.loc 8).2.length = 4) ∧ ((fr.loc 10).1 = 0)) ?_ ?_
 ·by_cases h2 : d < 2
  ·have c1 : decide ((d : Int) < 2) = true := by simp; omega
   repeat (first | with_reducible (first | refine thenI ?_ | refine thenE ?_ | refine thenR ?_ | refine inBI ?_ | refine inBR ?_ | refine inBS ?_ | refine inBN (by decide) ?_) | refine W_seqS ?_ | refine W_seqC ?_ | refine W_seqB ?_ | refine W_block ?_ | refine W_skip ?_ | (apply W_condB; (case hc => (simp (disch := omega) only [go_sem, ↓reduceIte, Nat.reduceEqDiff, c1]); rfl); first | refine qzT ?_ | refine qzF ?_) | ((first | refine W_reg rfl fun G K hG hK => ?_ | refine W_end rfl fun G K hG hK => ?_); simp (disch := omega) only [go_sem, ↓reduceIte, Nat.reduceEqDiff, hG, c1]; refine hK _ _ ?_; clear hK K hG G))
   exact ⟨true, .refl hq, fun h => (by cases h), (by refine ⟨?_, ?_, ?_, ?_, ?_, ⟨?_, ?_⟩, ?_⟩ <;> ((simp (disch := omega) only [go_sem, ↓reduceIte, Nat.reduceEqDiff]); try rfl))⟩
  ·have c1 : decide ((d : Int) < 2) = false := by simp; omega
   refine W_end rfl fun G K hG hK => ?_; simp (disch := omega) only [go_sem, ↓reduceIte, Nat.reduceEqDiff, hG, c1]
   refine w_call (l1Once_ok q xs st 5 (by omega) (by omega) hq) (by simp (disch := omega) only [go_sem, ↓reduceIte, Nat.reduceEqDiff]) ?hl ?_
   case hl => first | rfl | (simp only [go_sem, List.all_cons, List.all_nil, Bool.not_false, Bool.and_self]; done)
   rintro r_ sa ⟨⟨b, rfl⟩, hd, hl⟩; refine ⟨fun e => (by cases e), ?_⟩
   simp (disch := omega) only [go_sem, ↓reduceIte, Nat.reduceEqDiff, hG]; refine hK _ _ ?_; clear hK K hG G; repeat (with_reducible first | refine thenI ?_ | refine thenE ?_ | refine thenR ?_ | refine inBI ?_ | refine inBR ?_ | refine inBS ?_ | refine inBN (by decide) ?_)
   exact ⟨b, hd, fun _ => (by omega), (by refine ⟨?_, ?_, ?_, ?_, ?_, ⟨?_, ?_⟩, ?_⟩ <;> ((simp (disch := omega) only [go_sem, ↓reduceIte, Nat.reduceEqDiff]); try rfl))⟩
 rintro ⟨env, loc⟩ st' ⟨b, hdr, hb, e0, e2, e3, e8, e52, ⟨l8, l8'⟩, l10⟩
 simp only at e0 e2 e3 e8 e52 l8 l8' l10
 cases b with
 | true =>
  repeat (first | with_reducible (first | refine thenI ?_ | refine thenE ?_ | refine thenR ?_ | refine inBI ?_ | refine inBR ?_ | refine inBS ?_ | refine inBN (by decide) ?_) | refine W_seqS ?_ | refine W_seqC ?_ | refine W_seqB ?_ | refine W_block ?_ | refine W_skip ?_ | (apply W_condB; (case hc => (simp (disch := omega) only [go_sem, ↓reduceIte, Nat.reduceEqDiff, e0, e2, e3, e8, e52, l8, l8', l10]); rfl); first | refine qzT ?_ | refine qzF ?_) | ((first | refine W_reg rfl fun G K hG hK => ?_ | refine W_end rfl fun G K hG hK => ?_); simp (disch := omega) only [go_sem, ↓reduceIte, Nat.reduceEqDiff, hG, e0, e2, e3, e8, e52, l8, l8', l10]; refine hK _ _ ?_; clear hK K hG G))
  refine W_seq ?_
  refine W_to (fun fr st' => ∃ (b : Bool), (Drawn q xs st st') ∧ (fr.env 0 = .pointer (some ⟨q, 0, none⟩)) ∧ (fr.env 3 = .bool g) ∧ (fr.env 8 = .pointer (some ⟨8, 0, some 1⟩)) ∧ (fr.env 58 = .bool b) ∧ ((fr.loc 8).1 = 1 ∧ (fr.loc 8).2.length = 4)) ?_ ?_
  ·cases g with
   | true =>
    repeat (first | with_reducible (first | refine thenI ?_ | refine thenE ?_ | refine thenR ?_ | refine inBI ?_ | refine inBR ?_ | refine inBS ?_ | refine inBN (by decide) ?_) | refine W_seqS ?_ | refine W_seqC ?_ | refine W_seqB ?_ | refine W_block ?_ | refine W_skip ?_ | (apply W_condB; (case hc => (simp (disch := omega) only [go_sem, ↓reduceIte, Nat.reduceEqDiff, e0, e2, e3, e8, e52, l8, l8', l10]); rfl); first | refine qzT ?_ | refine qzF ?_) | ((first | refine W_reg rfl fun G K hG hK => ?_ | refine W_end rfl fun G K hG hK => ?_); simp (disch := omega) only [go_sem, ↓reduceIte, Nat.reduceEqDiff, hG, e0, e2, e3, e8, e52, l8, l8', l10]; refine hK _ _ ?_; clear hK K hG G))
    exact ⟨false, hdr, (by refine ⟨?_, ?_, ?_, ?_, ⟨?_, ?_⟩⟩ <;> ((simp (disch := omega) only [go_sem, ↓reduceIte, Nat.reduceEqDiff, e0, e2, e3, e8, e52, l8, l8', l10]); try rfl))⟩
   | false =>
    refine W_end rfl fun G K hG hK => ?_; simp (disch := omega) only [go_sem, ↓reduceIte, Nat.reduceEqDiff, hG, e0, e2, e3, e8, e52, l8, l8', l10]
    refine w_call (l1Once_ok q xs _ 2 (by omega) (by omega) hdr.cur) (by simp (disch := omega) only [go_sem, ↓reduceIte, Nat.reduceEqDiff, e0, e2, e3, e8, e52, l8, l8', l10]) ?hl ?_
    case hl => first | rfl | (simp only [go_sem, List.all_cons, List.all_nil, Bool.not_false, Bool.and_self, e0, e2, e3, e8, e52, l8, l8', l10]; done)
    rintro r_ sa ⟨⟨b, rfl⟩, hd, hl⟩; refine ⟨fun e => (by cases e), ?_⟩
    simp (disch := omega) only [go_sem, ↓reduceIte, Nat.reduceEqDiff, hG, e0, e2, e3, e8, e52, l8, l8', l10]; refine hK _ _ ?_; clear hK K hG G; repeat (with_reducible first | refine thenI ?_ | refine thenE ?_ | refine thenR ?_ | refine inBI ?_ | refine inBR ?_ | refine inBS ?_ | refine inBN (by decide) ?_)
    exact ⟨b, hdr.trans hd, (by refine ⟨?_, ?_, ?_, ?_, ⟨?_, ?_⟩⟩ <;> ((simp (disch := omega) only [go_sem, ↓reduceIte, Nat.reduceEqDiff, e0, e2, e3, e8, e52, l8, l8', l10]); try rfl))⟩
  clear e0 e2 e3 e8 e52 l8 l8' l10
  rintro ⟨env, loc⟩ st' ⟨b, hdr2, e0, e3, e8, e58, ⟨l8, l8'⟩⟩
  simp only at e0 e3 e8 e58 l8 l8'
  cases b with
  | true =>
   repeat (first | with_reducible (first | refine thenI ?_ | refine thenE ?_ | refine thenR ?_ | refine inBI ?_ | refine inBR ?_ | refine inBS ?_ | refine inBN (by decide) ?_) | refine W_seqS ?_ | refine W_seqC ?_ | refine W_seqB ?_ | refine W_block ?_ | refine W_skip ?_ | (apply W_condB; (case hc => (simp (disch := omega) only [go_sem, ↓reduceIte, Nat.reduceEqDiff, e0, e3, e8, e58, l8, l8']); rfl); first | refine qzT ?_ | refine qzF ?_) | ((first | refine W_reg rfl fun G K hG hK => ?_ | refine W_end rfl fun G K hG hK => ?_); simp (disch := omega) only [go_sem, ↓reduceIte, Nat.reduceEqDiff, hG, e0, e3, e8, e58, l8, l8']; refine hK _ _ ?_; clear hK K hG G))
   (repeat (first | refine W_seqS ?_ | refine W_seqC ?_ | refine W_seqB ?_ | refine W_block ?_)); refine W_reg rfl fun G K hG hK => ?_; simp (disch := omega) only [go_sem, ↓reduceIte, Nat.reduceEqDiff, Nat.reduceAdd, Nat.reduceLeDiff, hG, e0, e3, e8, e58, l8, l8', bsL, fillK_cons, fillK_nil, Nat.reduceMul]
   refine w_call (l1Pick_lit q xs st' _ _ 2 hdr2.cur rfl (by simp) (by simp)) (by simp (disch := omega) only [go_sem, ↓reduceIte, Nat.reduceEqDiff, e0, e3, e8, e58, l8, l8']) ?hl ?_
   case hl => first | rfl | (simp only [go_sem, List.all_cons, List.all_nil, Bool.not_false, Bool.and_self, e0, e3, e8, e58, l8, l8']; done)
   rintro r_ sa ⟨⟨w, rfl, hw⟩, hd, hl⟩; refine ⟨fun e => (by cases e), ?_⟩
   simp (disch := omega) only [go_sem, ↓reduceIte, Nat.reduceEqDiff, e0, e3, e8, e58, l8, l8']
   refine w_call (l3Var_ok w sa) (by simp (disch := omega) only [go_sem, ↓reduceIte, Nat.reduceEqDiff, e0, e3, e8, e58, l8, l8']) ?hl ?_
   case hl => first | rfl | (simp only [go_sem, List.all_cons, List.all_nil, Bool.not_false, Bool.and_self, e0, e3, e8, e58, l8, l8']; done)
   rintro r_ sb ⟨rfl, rfl⟩; refine ⟨fun e => (by cases e), ?_⟩
   simp (disch := omega) only [go_sem, ↓reduceIte, Nat.reduceEqDiff, hG, e0, e3, e8, e58, l8, l8']; refine hK _ _ ?_; clear hK K hG G; repeat (with_reducible first | refine thenI ?_ | refine thenE ?_ | refine thenR ?_ | refine inBI ?_ | refine inBR ?_ | refine inBS ?_ | refine inBN (by decide) ?_)
   refine W_ret ?_; try (repeat (with_reducible first | refine thenI ?_ | refine thenE ?_ | refine thenR ?_ | refine inBI ?_ | refine inBR ?_ | refine inBS ?_ | refine inBN (by decide) ?_))
   refine finC (.inl rfl) (by (simp (disch := omega) only [go_sem, ↓reduceIte, Nat.reduceEqDiff, e0, e3, e8, e58, l8, l8']); try rfl) ⟨hdr2.trans (.pre (Ext.app _ _) hd), .mk 1 0 w [], [_, _, _, _], [], rfl, .nil _ _ _, .nil _, e_leaf hd1 (size_of_mem hw rfl) (plain_var w)⟩
  | false =>
   repeat (first | with_reducible (first | refine thenI ?_ | refine thenE ?_ | refine thenR ?_ | refine inBI ?_ | refine inBR ?_ | refine inBS ?_ | refine inBN (by decide) ?_) | refine W_seqS ?_ | refine W_seqC ?_ | refine W_seqB ?_ | refine W_block ?_ | refine W_skip ?_ | (apply W_condB; (case hc => (simp (disch := omega) only [go_sem, ↓reduceIte, Nat.reduceEqDiff, e0, e3, e8, e58, l8, l8']); rfl); first | refine qzT ?_ | refine qzF ?_) | ((first | refine W_reg rfl fun G K hG hK => ?_ | refine W_end rfl fun G K hG hK => ?_); simp (disch := omega) only [go_sem, ↓reduceIte, Nat.reduceEqDiff, hG, e0, e3, e8, e58, l8, l8']; refine hK _ _ ?_; clear hK K hG G))
   (repeat (first | refine W_seqS ?_ | refine W_seqC ?_ | refine W_seqB ?_ | refine W_block ?_)); refine W_reg rfl fun G K hG hK => ?_; simp (disch := omega) only [go_sem, ↓reduceIte, Nat.reduceEqDiff, hG, e0, e3, e8, e58, l8, l8']
   refine w_call (l1Once_ok q xs _ 2 (by omega) (by omega) hdr2.cur) (by simp (disch := omega) only [go_sem, ↓reduceIte, Nat.reduceEqDiff, e0, e3, e8, e58, l8, l8']) ?hl ?_
   case hl => first | rfl | (simp only [go_sem, List.all_cons, List.all_nil, Bool.not_false, Bool.and_self, e0, e3, e8, e58, l8, l8']; done)
   rintro r_ sa ⟨⟨b, rfl⟩, hd, hl⟩; refine ⟨fun e => (by cases e), ?_⟩
   simp (disch := omega) only [go_sem, ↓reduceIte, Nat.reduceEqDiff, hG, e0, e3, e8, e58, l8, l8']; refine hK _ _ ?_; clear hK K hG G; repeat (with_reducible first | refine thenI ?_ | refine thenE ?_ | refine thenR ?_ | refine inBI ?_ | refine inBR ?_ | refine inBS ?_ | refine inBN (by decide) ?_)
   have hdr3 := hdr2.trans hd
   cases b with
   | true =>
    repeat (first | with_reducible (first | refine thenI ?_ | refine thenE ?_ | refine thenR ?_ | refine inBI ?_ | refine inBR ?_ | refine inBS ?_ | refine inBN (by decide) ?_) | refine W_seqS ?_ | refine W_seqC ?_ | refine W_seqB ?_ | refine W_block ?_ | refine W_skip ?_ | (apply W_condB; (case hc => (simp (disch := omega) only [go_sem, ↓reduceIte, Nat.reduceEqDiff, e0, e3, e8, e58, l8, l8']); rfl); first | refine qzT ?_ | refine qzF ?_) | ((first | refine W_reg rfl fun G K hG hK => ?_ | refine W_end rfl fun G K hG hK => ?_); simp (disch := omega) only [go_sem, ↓reduceIte, Nat.reduceEqDiff, hG, e0, e3, e8, e58, l8, l8']; refine hK _ _ ?_; clear hK K hG G))
    (repeat (first | refine W_seqS ?_ | refine W_seqC ?_ | refine W_seqB ?_ | refine W_block ?_)); refine W_reg rfl fun G K hG hK => ?_; simp (disch := omega) only [go_sem, ↓reduceIte, Nat.reduceEqDiff, hG, e0, e3, e8, e58, l8, l8']
    refine w_call (l6Word1_ok q xs g sa hdr3.cur) (by simp (disch := omega) only [go_sem, ↓reduceIte, Nat.reduceEqDiff, e0, e3, e8, e58, l8, l8']) ?hl ?_
    case hl => first | rfl | (simp only [go_sem, List.all_cons, List.all_nil, Bool.not_false, Bool.and_self, e0, e3, e8, e58, l8, l8']; done)
    rintro r_ sb ⟨hd2, t, ds, L, rfl, ho, hf, hp⟩; refine ⟨fun e => (by cases e), ?_⟩
    simp (disch := omega) only [go_sem, ↓reduceIte, Nat.reduceEqDiff, e0, e3, e8, e58, l8, l8']
    refine w_call (l3One_ok ⟨#[110, 117, 109]⟩ t sb ds L ho) (by simp (disch := omega) only [go_sem, ↓reduceIte, Nat.reduceEqDiff, e0, e3, e8, e58, l8, l8']) ?hl ?_
    case hl => first | rfl | (simp only [go_sem, List.all_cons, List.all_nil, Bool.not_false, Bool.and_self, e0, e3, e8, e58, l8, l8']; done)
    rintro r_ sc ⟨x1, es, rfl, ho2⟩; refine ⟨fun e => (by cases e), ?_⟩
    obtain ⟨k1, n1, m1, s1, rfl, a1, a2, a3⟩ := ho2.args_cells
    simp (disch := omega) only [go_sem, ↓reduceIte, Nat.reduceEqDiff, hG, e0, e3, e8, e58, l8, l8', a1, a2, a3]; refine hK _ _ ?_; clear hK K hG G; repeat (with_reducible first | refine thenI ?_ | refine thenE ?_ | refine thenR ?_ | refine inBI ?_ | refine inBR ?_ | refine inBS ?_ | refine inBN (by decide) ?_)
    refine W_ret ?_; try (repeat (with_reducible first | refine thenI ?_ | refine thenE ?_ | refine thenR ?_ | refine inBI ?_ | refine inBR ?_ | refine inBS ?_ | refine inBN (by decide) ?_))
    refine finC (.inl rfl) (by (simp (disch := omega) only [go_sem, ↓reduceIte, Nat.reduceEqDiff, e0, e3, e8, e58, l8, l8', a1, a2, a3]); try rfl) ⟨(hdr3.trans hd2).ext2 x1, _, [_, _, _, _], _, rfl, ho2, (hf.mono hdr3.away.1).cons (Own.lt _ _ _ ho) (hdr3.trans hd2).away.1, plain_app 0 _ _ (fun a ha => by cases List.mem_singleton.1 ha; exact hp.1), ?_⟩
    have h0 := hp.2
    have h1 := two_le hd1
    simp only [T.wt, T.wtL, List.length_cons, List.length_nil]
    have h2 : (⟨#[110, 117, 109]⟩ : ByteArray).size = 3 := rfl
    omega
   | false =>
    repeat (first | with_reducible (first | refine thenI ?_ | refine thenE ?_ | refine thenR ?_ | refine inBI ?_ | refine inBR ?_ | refine inBS ?_ | refine inBN (by decide) ?_) | refine W_seqS ?_ | refine W_seqC ?_ | refine W_seqB ?_ | refine W_block ?_ | refine W_skip ?_ | (apply W_condB; (case hc => (simp (disch := omega) only [go_sem, ↓reduceIte, Nat.reduceEqDiff, e0, e3, e8, e58, l8, l8']); rfl); first | refine qzT ?_ | refine qzF ?_) | ((first | refine W_reg rfl fun G K hG hK => ?_ | refine W_end rfl fun G K hG hK => ?_); simp (disch := omega) only [go_sem, ↓reduceIte, Nat.reduceEqDiff, hG, e0, e3, e8, e58, l8, l8']; refine hK _ _ ?_; clear hK K hG G))
    (repeat (first | refine W_seqS ?_ | refine W_seqC ?_ | refine W_seqB ?_ | refine W_block ?_)); refine W_reg rfl fun G K hG hK => ?_; simp (disch := omega) only [go_sem, ↓reduceIte, Nat.reduceEqDiff, Nat.reduceAdd, Nat.reduceLeDiff, hG, e0, e3, e8, e58, l8, l8', bsL, fillK_cons, fillK_nil, Nat.reduceMul]
    refine w_call (l1Pick_lit q xs sa _ _ 2 hdr3.cur rfl (by simp) (by simp)) (by simp (disch := omega) only [go_sem, ↓reduceIte, Nat.reduceEqDiff, e0, e3, e8, e58, l8, l8']) ?hl ?_
    case hl => first | rfl | (simp only [go_sem, List.all_cons, List.all_nil, Bool.not_false, Bool.and_self, e0, e3, e8, e58, l8, l8']; done)
    rintro r_ sb ⟨⟨w, rfl, hw⟩, hd2, hl2⟩; refine ⟨fun e => (by cases e), ?_⟩
    simp (disch := omega) only [go_sem, ↓reduceIte, Nat.reduceEqDiff, e0, e3, e8, e58, l8, l8']
    refine w_call (l3App_ok w (.slice (some ⟨sb.length, 0, none⟩) 0 0) (sb ++ [⟨[], 30, 0⟩]) rfl rfl rfl) (by simp (disch := omega) only [go_sem, ↓reduceIte, Nat.reduceEqDiff, e0, e3, e8, e58, l8, l8']) ?hl ?_
    case hl => first | rfl | (simp only [go_sem, List.all_cons, List.all_nil, Bool.not_false, Bool.and_self, e0, e3, e8, e58, l8, l8']; done)
    rintro r_ sc ⟨rfl, rfl⟩; refine ⟨fun e => (by cases e), ?_⟩
    simp (disch := omega) only [go_sem, ↓reduceIte, Nat.reduceEqDiff, hG, e0, e3, e8, e58, l8, l8']; refine hK _ _ ?_; clear hK K hG G; repeat (with_reducible first | refine thenI ?_ | refine thenE ?_ | refine thenR ?_ | refine inBI ?_ | refine inBR ?_ | refine inBS ?_ | refine inBN (by decide) ?_)
    refine W_ret ?_; try (repeat (with_reducible first | refine thenI ?_ | refine thenE ?_ | refine thenR ?_ | refine inBI ?_ | refine inBR ?_ | refine inBS ?_ | refine inBN (by decide) ?_))
    refine finC (.inl rfl) (by (simp (disch := omega) only [go_sem, ↓reduceIte, Nat.reduceEqDiff, e0, e3, e8, e58, l8, l8']); try rfl) ⟨(hdr3.trans (.pre (Ext.app _ _) hd2)).ext2 (Ext.app _ _), .mk 2 0 w [], [_, _, _, _], [sb.length], rfl, Own.close _ _ _ (.inr ⟨sb.length, 0, [], [], rfl, by simp, .nil, rfl⟩), .one (Nat.le_trans hdr3.away.1 (by rw [hl2]; omega)), e_leaf hd1 (size_of_mem hw rfl) (plain_app 0 w [] (fun a ha => by cases ha))⟩
 | false =>
  have he := hb rfl
  obtain ⟨e, rfl⟩ : ∃ e, d = e + 1 := ⟨d - 1, by omega⟩
  have hsub : ((e + 1 : Nat) : Int) - 1 = (e : Nat) := by omega
  repeat (first | with_reducible (first | refine thenI ?_ | refine thenE ?_ | refine thenR ?_ | refine inBI ?_ | refine inBR ?_ | refine inBS ?_ | refine inBN (by decide) ?_) | refine W_seqS ?_ | refine W_seqC ?_ | refine W_seqB ?_ | refine W_block ?_ | refine W_skip ?_ | (apply W_condB; (case hc => (simp (disch := omega) only [go_sem, ↓reduceIte, Nat.reduceEqDiff, e0, e3, e8, l8, l8', e2, e52, l10]); rfl); first | refine qzT ?_ | refine qzF ?_) | ((first | refine W_reg rfl fun G K hG hK => ?_ | refine W_end rfl fun G K hG hK => ?_); simp (disch := omega) only [go_sem, ↓reduceIte, Nat.reduceEqDiff, hG, e0, e3, e8, l8, l8', e2, e52, l10]; refine hK _ _ ?_; clear hK K hG G))
  (repeat (first | refine W_seqS ?_ | refine W_seqC ?_ | refine W_seqB ?_ | refine W_block ?_)); refine W_reg rfl fun G K hG hK => ?_; simp (disch := omega) only [go_sem, ↓reduceIte, Nat.reduceEqDiff, hG, e0, e3, e8, l8, l8', e2, e52, l10, hsub]
  refine w_call (ih e rfl (by omega) _ hdr.cur) (by simp (disch := omega) only [go_sem, ↓reduceIte, Nat.reduceEqDiff, e0, e3, e8, l8, l8', e2, e52, l10, hsub]) ?hl ?_
  case hl => first | rfl | (simp only [go_sem, List.all_cons, List.all_nil, Bool.not_false, Bool.and_self, e0, e3, e8, l8, l8', e2, e52, l10, hsub]; done)
  rintro r_ sb ⟨hd2, t, ds, L, rfl, ho, hf, hp⟩; refine ⟨fun e => (by cases e), ?_⟩
  obtain ⟨k1, n1, m1, s1, rfl, a1, a2, a3⟩ := ho.args_cells
  simp (disch := omega) only [go_sem, ↓reduceIte, Nat.reduceEqDiff, hG, e0, e3, e8, l8, l8', e2, e52, l10, a1, a2, a3]; refine hK _ _ ?_; clear hK K hG G; repeat (with_reducible first | refine thenI ?_ | refine thenE ?_ | refine thenR ?_ | refine inBI ?_ | refine inBR ?_ | refine inBS ?_ | refine inBN (by decide) ?_)
  have hdr2 := hdr.trans hd2
  (repeat (first | refine W_seqS ?_ | refine W_seqC ?_ | refine W_seqB ?_ | refine W_block ?_)); refine W_reg rfl fun G K hG hK => ?_; simp (disch := omega) only [go_sem, ↓reduceIte, Nat.reduceEqDiff, hG, e0, e3, e8, l8, l8', e2, e52, l10, a1, a2, a3]
  refine w_call (l1Below_ok q xs sb 3 (by omega) (by omega) hdr2.cur) (by simp (disch := omega) only [go_sem, ↓reduceIte, Nat.reduceEqDiff, e0, e3, e8, l8, l8', e2, e52, l10, a1, a2, a3]) ?hl ?_
  case hl => first | rfl | (simp only [go_sem, List.all_cons, List.all_nil, Bool.not_false, Bool.and_self, e0, e3, e8, l8, l8', e2, e52, l10, a1, a2, a3]; done)
  rintro r_ sc ⟨⟨x, rfl, hx0, hx1⟩, hd3, hl3⟩; refine ⟨fun e => (by cases e), ?_⟩
  simp (disch := omega) only [go_sem, ↓reduceIte, Nat.reduceEqDiff, hG, e0, e3, e8, l8, l8', e2, e52, l10, a1, a2, a3]; refine hK _ _ ?_; clear hK K hG G; repeat (with_reducible first | refine thenI ?_ | refine thenE ?_ | refine thenR ?_ | refine inBI ?_ | refine inBR ?_ | refine inBS ?_ | refine inBN (by decide) ?_)
  have hdr3 := hdr2.trans hd3
  have hq0 : q < st'.length := Nat.lt_of_lt_of_le hq.lt hdr.away.1
  have ho' := hd3.own ho hf hq0
  have hlt := Own.lt _ _ _ ho'
  have hsz : (⟨#[103]⟩ : ByteArray).size = 1 ∧ (⟨#[104]⟩ : ByteArray).size = 1 ∧ (⟨#[102]⟩ : ByteArray).size = 1 := ⟨rfl, rfl, rfl⟩
  have hone : 1 ≤ 2 ^ e := Nat.one_le_two_pow
  have v10 : ((1 : Int) == 0) = false := by decide
  have v20 : ((2 : Int) == 0) = false := by decide
  have v21 : ((2 : Int) == 1) = false := by decide
  have hx : x = 0 ∨ x = 1 ∨ x = 2 := by omega
  rcases hx with rfl | rfl | rfl
  ·repeat (first | with_reducible (first | refine thenI ?_ | refine thenE ?_ | refine thenR ?_ | refine inBI ?_ | refine inBR ?_ | refine inBS ?_ | refine inBN (by decide) ?_) | refine W_seqS ?_ | refine W_seqC ?_ | refine W_seqB ?_ | refine W_block ?_ | refine W_skip ?_ | (apply W_condB; (case hc => (simp (disch := omega) only [go_sem, ↓reduceIte, Nat.reduceEqDiff, e0, e3, e8, l8, l8', e2, e52, l10, a1, a2, a3, v10, v20, v21]); rfl); first | refine qzT ?_ | refine qzF ?_) | ((first | refine W_reg rfl fun G K hG hK => ?_ | refine W_end rfl fun G K hG hK => ?_); simp (disch := omega) only [go_sem, ↓reduceIte, Nat.reduceEqDiff, hG, e0, e3, e8, l8, l8', e2, e52, l10, a1, a2, a3, v10, v20, v21]; refine hK _ _ ?_; clear hK K hG G))
   (repeat (first | refine W_seqS ?_ | refine W_seqC ?_ | refine W_seqB ?_ | refine W_block ?_)); refine W_reg rfl fun G K hG hK => ?_; simp (disch := omega) only [go_sem, ↓reduceIte, Nat.reduceEqDiff, hG, e0, e3, e8, l8, l8', e2, e52, l10, a1, a2, a3, v10, v20, v21]
   refine w_call (l3One_ok ⟨#[103]⟩ t sc [.int .i64 k1, .int .i64 n1, .string m1, s1] L ho') (by simp (disch := omega) only [go_sem, ↓reduceIte, Nat.reduceEqDiff, e0, e3, e8, l8, l8', e2, e52, l10, a1, a2, a3, v10, v20, v21]) ?hl ?_
   case hl => first | rfl | (simp only [go_sem, List.all_cons, List.all_nil, Bool.not_false, Bool.and_self, e0, e3, e8, l8, l8', e2, e52, l10, a1, a2, a3, v10, v20, v21]; done)
   rintro r_ sd ⟨x1, es, rfl, ho2⟩; refine ⟨fun e => (by cases e), ?_⟩
   obtain ⟨k2, n2, m2, s2, rfl, b1, b2, b3⟩ := ho2.args_cells
   simp (disch := omega) only [go_sem, ↓reduceIte, Nat.reduceEqDiff, hG, e0, e3, e8, l8, l8', e2, e52, l10, a1, a2, a3, v10, v20, v21, b1, b2, b3]; refine hK _ _ ?_; clear hK K hG G; repeat (with_reducible first | refine thenI ?_ | refine thenE ?_ | refine thenR ?_ | refine inBI ?_ | refine inBR ?_ | refine inBS ?_ | refine inBN (by decide) ?_)
   refine W_ret ?_; try (repeat (with_reducible first | refine thenI ?_ | refine thenE ?_ | refine thenR ?_ | refine inBI ?_ | refine inBR ?_ | refine inBS ?_ | refine inBN (by decide) ?_))
   refine finC (.inl rfl) (by (simp (disch := omega) only [go_sem, ↓reduceIte, Nat.reduceEqDiff, e0, e3, e8, l8, l8', e2, e52, l10, a1, a2, a3, v10, v20, v21, b1, b2, b3]); try rfl) ⟨hdr3.ext2 x1, _, [_, _, _, _], _, rfl, ho2, (hf.mono hdr.away.1).cons hlt hdr3.away.1, plain_app 0 _ _ (fun a ha => by cases List.mem_singleton.1 ha; exact hp.1), ?_⟩
   have := hp.2
   simp only [T.wt, T.wtL, List.length_cons, List.length_nil, Nat.pow_succ]
   omega
  ·repeat (first | with_reducible (first | refine thenI ?_ | refine thenE ?_ | refine thenR ?_ | refine inBI ?_ | refine inBR ?_ | refine inBS ?_ | refine inBN (by decide) ?_) | refine W_seqS ?_ | refine W_seqC ?_ | refine W_seqB ?_ | refine W_block ?_ | refine W_skip ?_ | (apply W_condB; (case hc => (simp (disch := omega) only [go_sem, ↓reduceIte, Nat.reduceEqDiff, e0, e3, e8, l8, l8', e2, e52, l10, a1, a2, a3, v10, v20, v21]); rfl); first | refine qzT ?_ | refine qzF ?_) | ((first | refine W_reg rfl fun G K hG hK => ?_ | refine W_end rfl fun G K hG hK => ?_); simp (disch := omega) only [go_sem, ↓reduceIte, Nat.reduceEqDiff, hG, e0, e3, e8, l8, l8', e2, e52, l10, a1, a2, a3, v10, v20, v21]; refine hK _ _ ?_; clear hK K hG G))
   (repeat (first | refine W_seqS ?_ | refine W_seqC ?_ | refine W_seqB ?_ | refine W_block ?_)); refine W_regL mixed [10] [] [5, 6] [[(0, false), (1, false), (2, false), (3, false), (4, false), (5, false), (6, false), (7, false)]] rfl (by decide +kernel) (by intro t ht; simp only [List.mem_cons, List.not_mem_nil, or_false] at ht; (rcases ht with rfl) <;> (first | rfl | (simp only [e0, e3, e8, l8, l8', e2, e52, l10, a1, a2, a3, v10, v20, v21]; done) | (simp only [e0, e3, e8, l8, l8', e2, e52, l10, a1, a2, a3, v10, v20, v21]; rfl))) fun G K hG hK => (fm_cons ?_ fm_nil)
   simp only [pickOps, List.filterMap_cons, List.filterMap_nil, List.getElem?_cons_zero, List.getElem?_cons_succ, Option.map_some]; simp (disch := omega) only [go_sem, ↓reduceIte, Nat.reduceEqDiff, hG, e0, e3, e8, l8, l8', e2, e52, l10, a1, a2, a3, v10, v20, v21, hsub]
   refine w_call (l6Word_ok q xs g e (by omega) (by omega) sc hdr3.cur) (by simp (disch := omega) only [go_sem, ↓reduceIte, Nat.reduceEqDiff, e0, e3, e8, l8, l8', e2, e52, l10, a1, a2, a3, v10, v20, v21, hsub]) ?hl ?_
   case hl => first | rfl | (simp only [go_sem, List.all_cons, List.all_nil, Bool.not_false, Bool.and_self, e0, e3, e8, l8, l8', e2, e52, l10, a1, a2, a3, v10, v20, v21, hsub]; done)
   rintro r_ sd ⟨hd4, t2, ds2, L2, rfl, ho2, hf2, hp2⟩; refine ⟨fun e => (by cases e), ?_⟩
   have hoA := hd4.own ho' hf hq0
   simp (disch := omega) only [go_sem, ↓reduceIte, Nat.reduceEqDiff, e0, e3, e8, l8, l8', e2, e52, l10, a1, a2, a3, v10, v20, v21]
   refine w_call (l3Pair_ok ⟨#[104]⟩ t t2 sd [.int .i64 k1, .int .i64 n1, .string m1, s1] ds2 L L2 hoA ho2) (by simp (disch := omega) only [go_sem, ↓reduceIte, Nat.reduceEqDiff, e0, e3, e8, l8, l8', e2, e52, l10, a1, a2, a3, v10, v20, v21]) ?hl ?_
   case hl => first | rfl | (simp only [go_sem, List.all_cons, List.all_nil, Bool.not_false, Bool.and_self, e0, e3, e8, l8, l8', e2, e52, l10, a1, a2, a3, v10, v20, v21]; done)
   rintro r_ se ⟨x1, es, rfl, ho3⟩; refine ⟨fun e => (by cases e), ?_⟩
   obtain ⟨k3, n3, m3, s3, rfl, b1, b2, b3⟩ := ho3.args_cells
   simp (disch := omega) only [go_sem, ↓reduceIte, Nat.reduceEqDiff, hG, e0, e3, e8, l8, l8', e2, e52, l10, a1, a2, a3, v10, v20, v21, b1, b2, b3]; refine hK _ _ ?_; clear hK K hG G; repeat (with_reducible first | refine thenI ?_ | refine thenE ?_ | refine thenR ?_ | refine inBI ?_ | refine inBR ?_ | refine inBS ?_ | refine inBN (by decide) ?_)
   have hl5 := hd4.away.1
   have hl6 := hdr3.away.1
   refine W_ret ?_; try (repeat (with_reducible first | refine thenI ?_ | refine thenE ?_ | refine thenR ?_ | refine inBI ?_ | refine inBR ?_ | refine inBS ?_ | refine inBN (by decide) ?_))
   refine finC (.inl rfl) (by (simp (disch := omega) only [go_sem, ↓reduceIte, Nat.reduceEqDiff, e0, e3, e8, l8, l8', e2, e52, l10, a1, a2, a3, v10, v20, v21, b1, b2, b3]); try rfl) ⟨((hdr3.trans hd4).ext2 x1), _, [_, _, _, _], _, rfl, ho3, ((hf.mono hdr.away.1).app hf2 hlt hl6).cons (fun i hi => ?_) (by omega), plain_app 0 _ _ (fun a ha => ?_), ?_⟩
   ·rcases List.mem_append.1 hi with hi | hi
    ·have := hlt i hi; omega
    ·exact Own.lt _ _ _ ho2 i hi
   ·rcases List.mem_cons.1 ha with rfl | ha
    ·exact hp.1
    ·cases List.mem_singleton.1 ha; exact hp2.1
   ·have h1 := hp.2
    have h2 := hp2.2
    simp only [T.wt, T.wtL, List.length_cons, List.length_nil, Nat.pow_succ]
    omega
  ·repeat (first | with_reducible (first | refine thenI ?_ | refine thenE ?_ | refine thenR ?_ | refine inBI ?_ | refine inBR ?_ | refine inBS ?_ | refine inBN (by decide) ?_) | refine W_seqS ?_ | refine W_seqC ?_ | refine W_seqB ?_ | refine W_block ?_ | refine W_skip ?_ | (apply W_condB; (case hc => (simp (disch := omega) only [go_sem, ↓reduceIte, Nat.reduceEqDiff, e0, e3, e8, l8, l8', e2, e52, l10, a1, a2, a3, v10, v20, v21]); rfl); first | refine qzT ?_ | refine qzF ?_) | ((first | refine W_reg rfl fun G K hG hK => ?_ | refine W_end rfl fun G K hG hK => ?_); simp (disch := omega) only [go_sem, ↓reduceIte, Nat.reduceEqDiff, hG, e0, e3, e8, l8, l8', e2, e52, l10, a1, a2, a3, v10, v20, v21]; refine hK _ _ ?_; clear hK K hG G))
   (repeat (first | refine W_seqS ?_ | refine W_seqC ?_ | refine W_seqB ?_ | refine W_block ?_)); refine W_regL mixed [10] [] [5, 6] [[(0, false), (1, false), (2, false), (3, false), (4, false), (5, false), (6, false), (7, false)]] rfl (by decide +kernel) (by intro t ht; simp only [List.mem_cons, List.not_mem_nil, or_false] at ht; (rcases ht with rfl) <;> (first | rfl | (simp only [e0, e3, e8, l8, l8', e2, e52, l10, a1, a2, a3, v10, v20, v21]; done) | (simp only [e0, e3, e8, l8, l8', e2, e52, l10, a1, a2, a3, v10, v20, v21]; rfl))) fun G K hG hK => (fm_cons ?_ fm_nil)
   simp only [pickOps, List.filterMap_cons, List.filterMap_nil, List.getElem?_cons_zero, List.getElem?_cons_succ, Option.map_some]; simp (disch := omega) only [go_sem, ↓reduceIte, Nat.reduceEqDiff, hG, e0, e3, e8, l8, l8', e2, e52, l10, a1, a2, a3, v10, v20, v21, hsub]
   refine w_call (ih e rfl (by omega) sc hdr3.cur) (by simp (disch := omega) only [go_sem, ↓reduceIte, Nat.reduceEqDiff, e0, e3, e8, l8, l8', e2, e52, l10, a1, a2, a3, v10, v20, v21, hsub]) ?hl ?_
   case hl => first | rfl | (simp only [go_sem, List.all_cons, List.all_nil, Bool.not_false, Bool.and_self, e0, e3, e8, l8, l8', e2, e52, l10, a1, a2, a3, v10, v20, v21, hsub]; done)
   rintro r_ sd ⟨hd4, t2, ds2, L2, rfl, ho2, hf2, hp2⟩; refine ⟨fun e => (by cases e), ?_⟩
   have hoA := hd4.own ho' hf hq0
   simp (disch := omega) only [go_sem, ↓reduceIte, Nat.reduceEqDiff, e0, e3, e8, l8, l8', e2, e52, l10, a1, a2, a3, v10, v20, v21]
   refine w_call (l3Pair_ok ⟨#[102]⟩ t t2 sd [.int .i64 k1, .int .i64 n1, .string m1, s1] ds2 L L2 hoA ho2) (by simp (disch := omega) only [go_sem, ↓reduceIte, Nat.reduceEqDiff, e0, e3, e8, l8, l8', e2, e52, l10, a1, a2, a3, v10, v20, v21]) ?hl ?_
   case hl => first | rfl | (simp only [go_sem, List.all_cons, List.all_nil, Bool.not_false, Bool.and_self, e0, e3, e8, l8, l8', e2, e52, l10, a1, a2, a3, v10, v20, v21]; done)
   rintro r_ se ⟨x1, es, rfl, ho3⟩; refine ⟨fun e => (by cases e), ?_⟩
   obtain ⟨k3, n3, m3, s3, rfl, b1, b2, b3⟩ := ho3.args_cells
   simp (disch := omega) only [go_sem, ↓reduceIte, Nat.reduceEqDiff, hG, e0, e3, e8, l8, l8', e2, e52, l10, a1, a2, a3, v10, v20, v21, b1, b2, b3]; refine hK _ _ ?_; clear hK K hG G; repeat (with_reducible first | refine thenI ?_ | refine thenE ?_ | refine thenR ?_ | refine inBI ?_ | refine inBR ?_ | refine inBS ?_ | refine inBN (by decide) ?_)
   have hl5 := hd4.away.1
   have hl6 := hdr3.away.1
   refine W_ret ?_; try (repeat (with_reducible first | refine thenI ?_ | refine thenE ?_ | refine thenR ?_ | refine inBI ?_ | refine inBR ?_ | refine inBS ?_ | refine inBN (by decide) ?_))
   refine finC (.inl rfl) (by (simp (disch := omega) only [go_sem, ↓reduceIte, Nat.reduceEqDiff, e0, e3, e8, l8, l8', e2, e52, l10, a1, a2, a3, v10, v20, v21, b1, b2, b3]); try rfl) ⟨((hdr3.trans hd4).ext2 x1), _, [_, _, _, _], _, rfl, ho3, ((hf.mono hdr.away.1).app hf2 hlt hl6).cons (fun i hi => ?_) (by omega), plain_app 0 _ _ (fun a ha => ?_), ?_⟩
   ·rcases List.mem_append.1 hi with hi | hi
    ·have := hlt i hi; omega
    ·exact Own.lt _ _ _ ho2 i hi
   ·rcases List.mem_cons.1 ha with rfl | ha
    ·exact hp.1
    ·cases List.mem_singleton.1 ha; exact hp2.1
   ·have h1 := hp.2
    have h2 := hp2.2
    simp only [T.wt, T.wtL, List.length_cons, List.length_nil, Nat.pow_succ]
    omega
theorem e_ne_word : ((⟨#[101]⟩ : ByteArray).toList == (⟨#[119, 111, 114, 100]⟩ : ByteArray).toList) = false := by decide +kernel
theorem l6E_ok (q : Nat) (xs : List Byt) (g : Bool) : ∀ (d : Nat), 1 ≤ d → d ≤ 10 → ∀ (st : St), Cur st q xs → CallS Try.prog 43 [.pointer (some ⟨q, 0, none⟩), .string ⟨#[101]⟩, .int .i64 (d : Nat), .bool g] st (DrawT q xs st (EP d)) := by
 intro d
 induction d with
 | zero => intro h1; omega
 | succ d ih => intro h1 h st hq; exact l6E_of q xs g _ e_ne_word (d + 1) h1 h st hq fun e he h1 st hq => (by
  obtain rfl : d = e := by omega
  exact ih h1 (by omega) st hq)
theorem l6E4_ok (q : Nat) (xs : List Byt) (g : Bool) (st : St) (hq : Cur st q xs) : CallS Try.prog 43 [.pointer (some ⟨q, 0, none⟩), .string ⟨#[101]⟩, .int .i64 4, .bool g] st (DrawT q xs st (EP 4)) := l6E_ok q xs g 4 (by omega) (by omega) st hq

end

section
/- Terms of the wrong and the right sort drawn: l6Any; DrawInferVars. -/
open Go Go.Proofs
set_option linter.unusedVariables false
set_option linter.unusedSimpArgs false
set_option maxRecDepth 100000
-- AUTO

def AnyP (t : T) : Prop := t.wt ≤ 1048576
theorem l6Any_ok (q : Nat) (xs : List Byt) (st : St) (hq : Cur st q xs) : CallS Try.prog 17 [.pointer (some ⟨q, 0, none⟩)] st (DrawT q xs st AnyP) := by
 refine CallS_of_W [] 14 Try.func17 rfl rfl rfl rfl (by simp) ?_
 repeat (first | with_reducible (first | refine thenI ?_ | refine thenE ?_ | refine thenR ?_ | refine inBI ?_ | refine inBR ?_ | refine inBS ?_ | refine inBN (by decide) ?_) | refine W_seqS ?_ | refine W_seqC ?_ | refine W_seqB ?_ | refine W_block ?_ | refine W_skip ?_ | (apply W_condB; (case hc => (simp (disch := omega) only [go_sem, ↓reduceIte, Nat.reduceEqDiff]); rfl); first | refine qzT ?_ | refine qzF ?_) | ((first | refine W_reg rfl fun G K hG hK => ?_ | refine W_end rfl fun G K hG hK => ?_); simp (disch := omega) only [go_sem, ↓reduceIte, Nat.reduceEqDiff, hG]; refine hK _ _ ?_; clear hK K hG G))
 (repeat (first | refine W_seqS ?_ | refine W_seqC ?_ | refine W_seqB ?_ | refine W_block ?_)); refine W_reg rfl fun G K hG hK => ?_; simp (disch := omega) only [go_sem, ↓reduceIte, Nat.reduceEqDiff, hG]
 refine w_call (l1Once_ok q xs st 4 (by omega) (by omega) hq) (by simp (disch := omega) only [go_sem, ↓reduceIte, Nat.reduceEqDiff]) ?hl ?_
 case hl => first | rfl | (simp only [go_sem, List.all_cons, List.all_nil, Bool.not_false, Bool.and_self]; done)
 rintro r_ sa ⟨⟨b, rfl⟩, hd, hl⟩; refine ⟨fun e => (by cases e), ?_⟩
 simp (disch := omega) only [go_sem, ↓reduceIte, Nat.reduceEqDiff, hG]; refine hK _ _ ?_; clear hK K hG G; repeat (with_reducible first | refine thenI ?_ | refine thenE ?_ | refine thenR ?_ | refine inBI ?_ | refine inBR ?_ | refine inBS ?_ | refine inBN (by decide) ?_)
 cases b with
 | true =>
  repeat (first | with_reducible (first | refine thenI ?_ | refine thenE ?_ | refine thenR ?_ | refine inBI ?_ | refine inBR ?_ | refine inBS ?_ | refine inBN (by decide) ?_) | refine W_seqS ?_ | refine W_seqC ?_ | refine W_seqB ?_ | refine W_block ?_ | refine W_skip ?_ | (apply W_condB; (case hc => (simp (disch := omega) only [go_sem, ↓reduceIte, Nat.reduceEqDiff]); rfl); first | refine qzT ?_ | refine qzF ?_) | ((first | refine W_reg rfl fun G K hG hK => ?_ | refine W_end rfl fun G K hG hK => ?_); simp (disch := omega) only [go_sem, ↓reduceIte, Nat.reduceEqDiff, hG]; refine hK _ _ ?_; clear hK K hG G))
  (repeat (first | refine W_seqS ?_ | refine W_seqC ?_ | refine W_seqB ?_ | refine W_block ?_)); refine W_reg rfl fun G K hG hK => ?_; simp (disch := omega) only [go_sem, ↓reduceIte, Nat.reduceEqDiff, hG]
  refine w_call (l3Bent_ok q xs sa hd.cur) (by simp (disch := omega) only [go_sem, ↓reduceIte, Nat.reduceEqDiff]) ?hl ?_
  case hl => first | rfl | (simp only [go_sem, List.all_cons, List.all_nil, Bool.not_false, Bool.and_self]; done)
  rintro r_ sb ⟨hd2, t, ds, L, rfl, ho, hf, hp⟩; refine ⟨fun e => (by cases e), ?_⟩
  obtain ⟨k, n, m, s1, rfl, a1, a2, a3⟩ := ho.args_cells
  simp (disch := omega) only [go_sem, ↓reduceIte, Nat.reduceEqDiff, hG, a1, a2, a3]; refine hK _ _ ?_; clear hK K hG G; repeat (with_reducible first | refine thenI ?_ | refine thenE ?_ | refine thenR ?_ | refine inBI ?_ | refine inBR ?_ | refine inBS ?_ | refine inBN (by decide) ?_)
  refine W_ret ?_; try (repeat (with_reducible first | refine thenI ?_ | refine thenE ?_ | refine thenR ?_ | refine inBI ?_ | refine inBR ?_ | refine inBS ?_ | refine inBN (by decide) ?_))
  refine finC (.inl rfl) (by (simp (disch := omega) only [go_sem, ↓reduceIte, Nat.reduceEqDiff, a1, a2, a3]); try rfl) ⟨hd.trans hd2, t, [_, _, _, _], L, rfl, ho, hf.mono hd.away.1, by have := hp.2; unfold AnyP; omega⟩
 | false =>
  repeat (first | with_reducible (first | refine thenI ?_ | refine thenE ?_ | refine thenR ?_ | refine inBI ?_ | refine inBR ?_ | refine inBS ?_ | refine inBN (by decide) ?_) | refine W_seqS ?_ | refine W_seqC ?_ | refine W_seqB ?_ | refine W_block ?_ | refine W_skip ?_ | (apply W_condB; (case hc => (simp (disch := omega) only [go_sem, ↓reduceIte, Nat.reduceEqDiff]); rfl); first | refine qzT ?_ | refine qzF ?_) | ((first | refine W_reg rfl fun G K hG hK => ?_ | refine W_end rfl fun G K hG hK => ?_); simp (disch := omega) only [go_sem, ↓reduceIte, Nat.reduceEqDiff, hG]; refine hK _ _ ?_; clear hK K hG G))
  (repeat (first | refine W_seqS ?_ | refine W_seqC ?_ | refine W_seqB ?_ | refine W_block ?_)); refine W_reg rfl fun G K hG hK => ?_; simp (disch := omega) only [go_sem, ↓reduceIte, Nat.reduceEqDiff, Nat.reduceAdd, Nat.reduceLeDiff, hG, bsL, fillK_cons, fillK_nil, Nat.reduceMul]
  refine w_call (l1Pick_ok q xs _ [⟨#[101]⟩, ⟨#[101]⟩, ⟨#[119, 111, 114, 100]⟩] _ (by decide) (by decide) (hd.cur.ext (Ext.app _ _)) (row_last sa [⟨#[101]⟩, ⟨#[101]⟩, ⟨#[119, 111, 114, 100]⟩] 9 3) (fun e => by have := hd.cur.lt; simp only [topId, Option.some.injEq] at e; omega)) (by simp (disch := omega) only [go_sem, ↓reduceIte, Nat.reduceEqDiff]) ?hl ?_
  case hl => first | rfl | (simp only [go_sem, List.all_cons, List.all_nil, Bool.not_false, Bool.and_self]; done)
  rintro r_ sb ⟨⟨w, rfl, hw⟩, hd2, hl2⟩; refine ⟨fun e => (by cases e), ?_⟩
  have hdp := hd.trans (Drawn.pre (Ext.app _ _) hd2)
  simp (disch := omega) only [go_sem, ↓reduceIte, Nat.reduceEqDiff]
  refine w_call (l1Once_ok q xs sb 3 (by omega) (by omega) hd2.cur) (by simp (disch := omega) only [go_sem, ↓reduceIte, Nat.reduceEqDiff]) ?hl ?_
  case hl => first | rfl | (simp only [go_sem, List.all_cons, List.all_nil, Bool.not_false, Bool.and_self]; done)
  rintro r_ sc ⟨⟨g, rfl⟩, hd3, hl3⟩; refine ⟨fun e => (by cases e), ?_⟩
  have hdq := hdp.trans hd3
  simp (disch := omega) only [go_sem, ↓reduceIte, Nat.reduceEqDiff]
  have hcall : CallS Try.prog 43 [.pointer (some ⟨q, 0, none⟩), .string w, .int .i64 4, .bool g] sc (DrawT q xs sc AnyP) := by
   have h4 : w = ⟨#[101]⟩ ∨ w = ⟨#[119, 111, 114, 100]⟩ := by simp at hw; rcases hw with h | h <;> simp [h]
   rcases h4 with rfl | rfl
   ·exact (l6E4_ok q xs g sc hd3.cur).mono fun r st2 ⟨h1, t, ds, L, h2, h3, h5, h6⟩ => ⟨h1, t, ds, L, h2, h3, h5, by have := h6.2; unfold AnyP; omega⟩
   ·exact (l6Word4_ok q xs g sc hd3.cur).mono fun r st2 ⟨h1, t, ds, L, h2, h3, h5, h6⟩ => ⟨h1, t, ds, L, h2, h3, h5, by have := h6.2; unfold AnyP; omega⟩
  refine w_call (hcall) (by simp (disch := omega) only [go_sem, ↓reduceIte, Nat.reduceEqDiff]) ?hl ?_
  case hl => first | rfl | (simp only [go_sem, List.all_cons, List.all_nil, Bool.not_false, Bool.and_self]; done)
  rintro r_ sd ⟨hd4, t, ds, L, rfl, ho, hf, hp⟩; refine ⟨fun e => (by cases e), ?_⟩
  obtain ⟨k, n, m, s1, rfl, a1, a2, a3⟩ := ho.args_cells
  simp (disch := omega) only [go_sem, ↓reduceIte, Nat.reduceEqDiff, hG, a1, a2, a3]; refine hK _ _ ?_; clear hK K hG G; repeat (with_reducible first | refine thenI ?_ | refine thenE ?_ | refine thenR ?_ | refine inBI ?_ | refine inBR ?_ | refine inBS ?_ | refine inBN (by decide) ?_)
  refine W_ret ?_; try (repeat (with_reducible first | refine thenI ?_ | refine thenE ?_ | refine thenR ?_ | refine inBI ?_ | refine inBR ?_ | refine inBS ?_ | refine inBN (by decide) ?_))
  refine finC (.inl rfl) (by (simp (disch := omega) only [go_sem, ↓reduceIte, Nat.reduceEqDiff, a1, a2, a3]); try rfl) ⟨hdq.trans hd4, t, [_, _, _, _], L, rfl, ho, hf.mono hdq.away.1, hp⟩
theorem finCCT {P : Program} {st : St} {F : Value → St → Prop} {env : Nat → Value} {loc : Nat → Nat × List Value} {a b c : Tmp} {t u : TypeId} {x : Ex} (hx : x = .ret ∨ x = .normal) {v v' v'' : Value} (hv : loadA P [] t (env a) loc st = some v) (hv' : loadA P [] u (env b) loc st = some v') (hw : env c = v'') (hl : isLoc v'' = false) (hq : F (.tuple #[v, v', v'']) st) : Fin P [.cell a t, .cell b u, .tmp c] F x ⟨env, loc⟩ st := by
 have h : ∃ r, resA P [.cell a t, .cell b u, .tmp c] ⟨env, loc⟩ st = some r ∧ F r st := ⟨.tuple #[v, v', v''], by simp [resA, resL, resV, hv, hv', hw, hl], hq⟩
 rcases hx with rfl | rfl <;> exact h
theorem drawInferVars_ok (bs : List Byt) (st : St) (s : Value) (hbig : bs.length ≤ 4611686018427387904) (hr : RowY st bs s) : CallS Try.prog 5 [s] st fun r st2 => Ext st st2 ∧ ∃ g t cg ct w, r = .tuple #[.agg cg.toArray, .agg ct.toArray, .string w] ∧ EncS st2 g cg ∧ SgP g ∧ Enc st2 t ct ∧ AnyP t := by
 refine CallS_of_W [] 15 Try.func5 rfl rfl rfl rfl (by simp) ?_
 have q1 := hr.notLoc.1
 repeat (first | with_reducible (first | refine thenI ?_ | refine thenE ?_ | refine thenR ?_ | refine inBI ?_ | refine inBR ?_ | refine inBS ?_ | refine inBN (by decide) ?_) | refine W_seqS ?_ | refine W_seqC ?_ | refine W_seqB ?_ | refine W_block ?_ | refine W_skip ?_ | (apply W_condB; (case hc => (simp (disch := omega) only [go_sem, ↓reduceIte, Nat.reduceEqDiff, q1]); rfl); first | refine qzT ?_ | refine qzF ?_) | ((first | refine W_reg rfl fun G K hG hK => ?_ | refine W_end rfl fun G K hG hK => ?_); simp (disch := omega) only [go_sem, ↓reduceIte, Nat.reduceEqDiff, hG, q1]; refine hK _ _ ?_; clear hK K hG G))
 (repeat (first | refine W_seqS ?_ | refine W_seqC ?_ | refine W_seqB ?_ | refine W_block ?_)); refine W_reg rfl fun G K hG hK => ?_; simp (disch := omega) only [go_sem, ↓reduceIte, Nat.reduceEqDiff, hG, q1]
 refine w_call (l1New_ok bs st s hbig hr) (by simp (disch := omega) only [go_sem, ↓reduceIte, Nat.reduceEqDiff, q1]) ?hl ?_
 case hl => first | rfl | (simp only [go_sem, List.all_cons, List.all_nil, Bool.not_false, Bool.and_self, q1]; done)
 rintro r_ sa ⟨rfl, x1, hc⟩; refine ⟨fun e => (by cases e), ?_⟩
 simp (disch := omega) only [go_sem, ↓reduceIte, Nat.reduceEqDiff, hG, q1]; refine hK _ _ ?_; clear hK K hG G; repeat (with_reducible first | refine thenI ?_ | refine thenE ?_ | refine thenR ?_ | refine inBI ?_ | refine inBR ?_ | refine inBS ?_ | refine inBN (by decide) ?_)
 (repeat (first | refine W_seqS ?_ | refine W_seqC ?_ | refine W_seqB ?_ | refine W_block ?_)); refine W_reg rfl fun G K hG hK => ?_; simp (disch := omega) only [go_sem, ↓reduceIte, Nat.reduceEqDiff, hG, q1]
 refine w_call (l6Bent_ok st.length bs sa hc) (by simp (disch := omega) only [go_sem, ↓reduceIte, Nat.reduceEqDiff, q1]) ?hl ?_
 case hl => first | rfl | (simp only [go_sem, List.all_cons, List.all_nil, Bool.not_false, Bool.and_self, q1]; done)
 rintro r_ sb ⟨hd, g, s1, u1, rfl, hs, hu, hp⟩; refine ⟨fun e => (by cases e), ?_⟩
 have a1 := hs.notLoc.1
 have a2 := hs.notLoc.2
 have a3 := Row.cells1 hs
 have a4 := hu.notLoc.1
 have a5 := hu.notLoc.2
 have a6 := Row.cells1 hu
 simp (disch := omega) only [go_sem, ↓reduceIte, Nat.reduceEqDiff, q1, a1, a2, a3, a4, a5, a6]
 refine w_call (l6Any_ok st.length bs sb hd.cur) (by simp (disch := omega) only [go_sem, ↓reduceIte, Nat.reduceEqDiff, q1, a1, a2, a3, a4, a5, a6]) ?hl ?_
 case hl => first | rfl | (simp only [go_sem, List.all_cons, List.all_nil, Bool.not_false, Bool.and_self, q1, a1, a2, a3, a4, a5, a6]; done)
 rintro r_ sc ⟨hd2, t, ds, L, rfl, ho, hf, hpt⟩; refine ⟨fun e => (by cases e), ?_⟩
 obtain ⟨k, n, m, s2, rfl, b1, b2, b3⟩ := ho.args_cells
 simp (disch := omega) only [go_sem, ↓reduceIte, Nat.reduceEqDiff, Nat.reduceAdd, Nat.reduceLeDiff, q1, bsL, fillK_cons, fillK_nil, Nat.reduceMul, a1, a2, a3, a4, a5, a6, b1, b2, b3]
 refine w_call (l1Pick_lit st.length bs sc _ _ 5 hd2.cur rfl (by simp) (by simp)) (by simp (disch := omega) only [go_sem, ↓reduceIte, Nat.reduceEqDiff, q1, a1, a2, a3, a4, a5, a6, b1, b2, b3]) ?hl ?_
 case hl => first | rfl | (simp only [go_sem, List.all_cons, List.all_nil, Bool.not_false, Bool.and_self, q1, a1, a2, a3, a4, a5, a6, b1, b2, b3]; done)
 rintro r_ sd ⟨⟨w, rfl, hw⟩, hd3, hl3⟩; refine ⟨fun e => (by cases e), ?_⟩
 have hdp := Drawn.pre (Ext.app sc _) hd3
 simp (disch := omega) only [go_sem, ↓reduceIte, Nat.reduceEqDiff, hG, q1, a1, a2, a3, a4, a5, a6, b1, b2, b3]; refine hK _ _ ?_; clear hK K hG G; repeat (with_reducible first | refine thenI ?_ | refine thenE ?_ | refine thenR ?_ | refine inBI ?_ | refine inBR ?_ | refine inBS ?_ | refine inBN (by decide) ?_)
 have hx := (bl_away hd2.away).trans (bl_away hdp.away)
 have hlq : st.length < sb.length := by have := hc.lt; have := hd.away.1; omega
 have ho2 := hdp.own ho hf hlq
 refine W_ret ?_; try (repeat (with_reducible first | refine thenI ?_ | refine thenE ?_ | refine thenR ?_ | refine inBI ?_ | refine inBR ?_ | refine inBS ?_ | refine inBN (by decide) ?_))
 refine finCCT (.inl rfl) (by (simp (disch := omega) only [go_sem, ↓reduceIte, Nat.reduceEqDiff, q1, a1, a2, a3, a4, a5, a6, b1, b2, b3]); try rfl) (by (simp (disch := omega) only [go_sem, ↓reduceIte, Nat.reduceEqDiff, q1, a1, a2, a3, a4, a5, a6, b1, b2, b3]); try rfl) (by (simp (disch := omega) only [go_sem, ↓reduceIte, Nat.reduceEqDiff, q1]); try rfl) rfl ⟨((hd.trans hd2).trans hdp).away.ext_of x1 (.inr ⟨_, Nat.le_refl _, rfl⟩), g, t, [s1, u1], [_, _, _, _], w, rfl, ⟨s1, u1, rfl, rwS_ci ci_bl (hs.ext hx), rwO_ci ci_bl (hu.ext hx)⟩, hp, ho2.enc, hpt⟩

end

section
/- Sorts of variables: laws.eqVarSort, eqVarSortS, markVarSortS, heldVarSortS. -/
open Go Go.Proofs
set_option linter.unusedVariables false
set_option linter.unusedSimpArgs false
set_option maxRecDepth 100000
-- AUTO

/-- A variable and its sort. -/
structure VSort where
 nm : ByteArray
 srt : ByteArray
instance : Kind VSort where
 sz := 2
 e := 37
 enc := fun _ v cs => cs = [.string v.nm, .string v.srt]
 own := fun _ v cs L => cs = [.string v.nm, .string v.srt] ∧ L = []
 enc_len := fun _ _ _ h => by rw [h]; rfl
 enc_ext := fun _ _ _ _ _ h => h
 own_len := fun _ _ _ _ h => by rw [h.1]; rfl
 own_lt := fun _ _ _ _ h => by rw [h.2]; intro i hi; cases hi
 own_frame := fun _ _ _ _ _ _ h => h
 own_enc := fun _ _ _ _ h => h.1
instance : Marks VSort where
 mk1 := fun v k => (⟨mtext k, mtext (k + 1)⟩, k + 2)
 mk1_ge := fun v k => by simp only; omega
theorem row_atV {st : St} {xs : List VSort} {s : Value} (h : Rw st xs s) {j : Nat} {x : VSort} (hx : xs[j]? = some x) {n : Nat} (hn : xs.length = n := by rfl) : ∃ i o c, s = .slice (some ⟨i, o, none⟩) n c ∧ CellsAt st i (o + j * 2) [.string x.nm, .string x.srt] := by
 subst hn
 obtain ⟨i, o, c, cs, rfl, _, hE, hc⟩ := row_at h hx
 obtain rfl : cs = [.string x.nm, .string x.srt] := hE
 exact ⟨i, o, c, rfl, hc⟩

end

section
/- l6Vars, DrawSortOf. -/
open Go Go.Proofs
set_option linter.unusedVariables false
set_option linter.unusedSimpArgs false
set_option maxRecDepth 100000
-- AUTO

def vars0 : List VSort := [⟨⟨#[88]⟩, bE⟩, ⟨⟨#[89]⟩, bE⟩, ⟨⟨#[78]⟩, bW⟩, ⟨⟨#[77]⟩, bW⟩]
def vars0C : List Value := [.string ⟨#[88]⟩, .string bE, .string ⟨#[89]⟩, .string bE, .string ⟨#[78]⟩, .string bW, .string ⟨#[77]⟩, .string bW]
theorem l6Vars_ok (st : St) : CallS Try.prog 21 [] st fun r st2 => r = .slice (some ⟨st.length, 0, none⟩) 4 4 ∧ st2 = st ++ [⟨vars0C, 37, 0⟩] := by
 refine CallS_of_W [] 6 Try.func21 rfl rfl rfl rfl (by simp) ?_
 repeat (first | with_reducible (first | refine thenI ?_ | refine thenE ?_ | refine thenR ?_ | refine inBI ?_ | refine inBR ?_ | refine inBS ?_ | refine inBN (by decide) ?_) | refine W_seqS ?_ | refine W_seqC ?_ | refine W_seqB ?_ | refine W_block ?_ | refine W_skip ?_ | (apply W_condB; (case hc => (simp (disch := omega) only [go_sem, ↓reduceIte, Nat.reduceEqDiff]); rfl); first | refine qzT ?_ | refine qzF ?_) | ((first | refine W_reg rfl fun G K hG hK => ?_ | refine W_end rfl fun G K hG hK => ?_); simp (disch := omega) only [go_sem, ↓reduceIte, Nat.reduceEqDiff, hG]; refine hK _ _ ?_; clear hK K hG G))
 (repeat (first | refine W_seqS ?_ | refine W_seqC ?_ | refine W_seqB ?_ | refine W_block ?_)); refine W_reg rfl fun G K hG hK => ?_; simp (disch := omega) only [go_sem, ↓reduceIte, Nat.reduceEqDiff, Nat.reduceAdd, Nat.reduceLeDiff, hG, bsL, fillK_cons, fillK_nil, Nat.reduceMul]
 refine hK _ _ ?_; clear hK K hG G; repeat (with_reducible first | refine thenI ?_ | refine thenE ?_ | refine thenR ?_ | refine inBI ?_ | refine inBR ?_ | refine inBS ?_ | refine inBN (by decide) ?_)
 refine W_ret ?_; try (repeat (with_reducible first | refine thenI ?_ | refine thenE ?_ | refine thenR ?_ | refine inBI ?_ | refine inBR ?_ | refine inBS ?_ | refine inBN (by decide) ?_))
 refine fin1 (.inl rfl) (by (simp (disch := omega) only [go_sem, ↓reduceIte, Nat.reduceEqDiff]); try rfl) rfl ⟨rfl, rfl⟩
theorem vars0_row (st : St) : Rw (st ++ [(⟨vars0C, 37, 0⟩ : Blk)]) vars0 (.slice (some ⟨st.length, 0, none⟩) 4 4) := by
 have h : Sl (st ++ [(⟨vars0C, 37, 0⟩ : Blk)]) vars0 (.slice (some ⟨st.length, 0, none⟩) 4 4) [st.length] :=
  .inr ⟨st.length, 4, vars0C, [], rfl, by simp; rfl, RowO.cons _ _ [_, _] _ [] [] ⟨rfl, rfl⟩ (RowO.cons _ _ [_, _] _ [] [] ⟨rfl, rfl⟩ (RowO.cons _ _ [_, _] _ [] [] ⟨rfl, rfl⟩ (RowO.cons _ _ [_, _] _ [] [] ⟨rfl, rfl⟩ .nil))), rfl⟩
 exact h.row
theorem litI {q : Nat} {st : St} (ns : List Int) (hq : q < st.length) : Rw (bl q (st ++ [(⟨ns.map (Value.int .i64), 3, 0⟩ : Blk)])) ns (.slice (some ⟨st.length, 0, none⟩) ns.length ns.length) ∧ q < st.length := ⟨row_bl (row_lastI st ns 3 ns.length) fun e => by simp only [topId, Option.some.injEq] at e; omega, hq⟩
theorem rwI_ci {s s' : St} (hc : CI s s') {xs : List Int} {v : Value} (h : Rw s xs v) : Rw s' xs v := Row.ci h hc fun _ _ _ he => he
theorem rwV_ci {s s' : St} (hc : CI s s') {xs : List VSort} {v : Value} (h : Rw s xs v) : Rw s' xs v := Row.ci h hc fun _ _ _ he => he
theorem lit_pickI {q : Nat} {xs : List Byt} {S : St} {ns : List Int} {i n m : Nat} (hn : 0 < ns.length) (hn2 : ns.length ≤ 256) (hc : Cur S q xs) (h : Rw (bl q S) ns (.slice (some ⟨i, 0, none⟩) n m)) (hi : q < i) : CallS Try.prog 22 [.pointer (some ⟨q, 0, none⟩), .slice (some ⟨i, 0, none⟩) n m] S fun r st2 => (∃ w, r = .int .i64 w ∧ w ∈ ns) ∧ Drawn q xs S st2 :=
 (l1PickInt_ok q xs S ns _ hn hn2 hc (rwI_ci ci_bl h) (fun e => by simp only [topId, Option.some.injEq] at e; omega)).mono fun r st2 ⟨⟨w, hw, hm⟩, hd, _⟩ => ⟨⟨w, hw, hm⟩, hd⟩
theorem varsBl {q : Nat} {st : St} (hq : q < st.length) : Rw (bl q (st ++ [(⟨vars0C, 37, 0⟩ : Blk)])) vars0 (.slice (some ⟨st.length, 0, none⟩) 4 4) := row_bl (vars0_row st) fun e => by simp only [topId, Option.some.injEq] at e; omega
theorem vars_take {q : Nat} {S : St} {i : Nat} {y : Int} (h : Rw (bl q S) vars0 (.slice (some ⟨i, 0, none⟩) 4 4)) (hy : y ∈ ([4, 4, 2, 0] : List Int)) :
  ∃ k : Nat, (vars0.take k).length ≤ 4 ∧ sliceA Try.prog 33 (.slice (some ⟨i, 0, none⟩) 4 4) none (some (.int .i64 y)) = some (.slice (some ⟨i, 0, none⟩) k k) ∧ Rw (bl q S) (vars0.take k) (.slice (some ⟨i, 0, none⟩) k k) := by
 have hy2 : 0 ≤ y ∧ y ≤ 4 := by simp at hy; omega
 obtain ⟨k, rfl⟩ : ∃ k : Nat, y = k := ⟨y.toNat, by omega⟩
 obtain ⟨g1, g2⟩ := row_take2 (sz := 1) (P := Try.prog) (t := 33) h Try.underlying33 sz37 (k := k) (show k ≤ 4 by omega)
 exact ⟨k, by rw [List.length_take]; exact Nat.min_le_right _ _, g1, g2⟩
set_option maxHeartbeats 4000000 in
theorem drawSortOf_ok (bs : List Byt) (st : St) (s : Value) (hbig : bs.length ≤ 4611686018427387904) (hr : RowY st bs s) : CallS Try.prog 8 [s] st fun r st2 => Ext st st2 ∧ ∃ g t cg ct vs v, r = .tuple #[.agg cg.toArray, .agg ct.toArray, v] ∧ EncS st2 g cg ∧ SgP g ∧ Enc st2 t ct ∧ AnyP t ∧ Rw st2 (vs : List VSort) v ∧ vs.length ≤ 4 := by
 refine CallS_of_W [] 17 Try.func8 rfl rfl rfl rfl (by simp) ?_
 have q1 := hr.notLoc.1
 repeat (first | with_reducible (first | refine thenI ?_ | refine thenE ?_ | refine thenR ?_ | refine inBI ?_ | refine inBR ?_ | refine inBS ?_ | refine inBN (by decide) ?_) | refine W_seqS ?_ | refine W_seqC ?_ | refine W_seqB ?_ | refine W_block ?_ | refine W_skip ?_ | (apply W_condB; (case hc => (simp (disch := omega) only [go_sem, ↓reduceIte, Nat.reduceEqDiff, q1]); rfl); first | refine qzT ?_ | refine qzF ?_) | ((first | refine W_reg rfl fun G K hG hK => ?_ | refine W_end rfl fun G K hG hK => ?_); simp (disch := omega) only [go_sem, ↓reduceIte, Nat.reduceEqDiff, hG, q1]; refine hK _ _ ?_; clear hK K hG G))
 (repeat (first | refine W_seqS ?_ | refine W_seqC ?_ | refine W_seqB ?_ | refine W_block ?_)); refine W_reg rfl fun G K hG hK => ?_; simp (disch := omega) only [go_sem, ↓reduceIte, Nat.reduceEqDiff, hG, q1]
 refine w_call (l1New_ok bs st s hbig hr) (by simp (disch := omega) only [go_sem, ↓reduceIte, Nat.reduceEqDiff, q1]) ?hl ?_
 case hl => first | rfl | (simp only [go_sem, List.all_cons, List.all_nil, Bool.not_false, Bool.and_self, q1]; done)
 rintro r_ sa ⟨rfl, x1, hc⟩; refine ⟨fun e => (by cases e), ?_⟩
 simp (disch := omega) only [go_sem, ↓reduceIte, Nat.reduceEqDiff, hG, q1]; refine hK _ _ ?_; clear hK K hG G; repeat (with_reducible first | refine thenI ?_ | refine thenE ?_ | refine thenR ?_ | refine inBI ?_ | refine inBR ?_ | refine inBS ?_ | refine inBN (by decide) ?_)
 refine W_seq ?_
 refine W_to (fun fr st' => ∃ (g : Sgn) (t : T) (s1 u1 s2 : Value) (k n : Int) (m : ByteArray) (vs : List VSort) (v : Value), (Ext st st') ∧ (EncS st' g [s1, u1]) ∧ (SgP g) ∧ (Enc st' t [.int .i64 k, .int .i64 n, .string m, s2]) ∧ (AnyP t) ∧ (Rw st' vs v) ∧ (vs.length ≤ 4) ∧ (isLoc s1 = false) ∧ (okv s1 = true) ∧ (isLoc u1 = false) ∧ (okv u1 = true) ∧ (isLoc s2 = false) ∧ (okv s2 = true) ∧ (isLoc v = false) ∧ (vc s1 = #[s1]) ∧ (vc u1 = #[u1]) ∧ (vc s2 = #[s2]) ∧ (fr.env 2 = .pointer (some ⟨2, 0, some 1⟩)) ∧ (fr.env 3 = .pointer (some ⟨3, 0, some 1⟩)) ∧ (fr.env 4 = v) ∧ (fr.loc 2 = (1, [s1, u1])) ∧ (fr.loc 3 = (1, [.int .i64 k, .int .i64 n, .string m, s2]))) ?_ ?_
 ·have hd : Drawn st.length bs sa sa := .refl hc
  have hlq := hc.lt
  refine W_endT mixed [] [] rfl (by decide +kernel) (by intro t ht; cases ht) fun G K F hG hK hF hE => ?_
  refine hF _ [0] _ _ (by decide +kernel) (fm_cons ?_ fm_nil)
  simp only [pickOps, List.filterMap_cons, List.filterMap_nil, List.getElem?_cons_zero, List.getElem?_cons_succ, Option.map_some]; simp (disch := omega) only [go_sem, ↓reduceIte, Nat.reduceEqDiff, hG, q1]
  refine hF _ [2] _ _ (by decide +kernel) (fm_cons ?_ fm_nil)
  simp only [pickOps, List.filterMap_cons, List.filterMap_nil, List.getElem?_cons_zero, List.getElem?_cons_succ, Option.map_some]; simp (disch := omega) only [go_sem, ↓reduceIte, Nat.reduceEqDiff, hG, q1]
  refine hF _ [5] _ _ (by decide +kernel) (fm_cons ?_ fm_nil)
  simp only [pickOps, List.filterMap_cons, List.filterMap_nil, List.getElem?_cons_zero, List.getElem?_cons_succ, Option.map_some]; simp (disch := omega) only [go_sem, ↓reduceIte, Nat.reduceEqDiff, hG, q1]
  refine hF _ [1, 6] _ _ (by decide +kernel) (fm_cons ?_ (fm_cons ?_ fm_nil))
  ·simp only [pickOps, List.filterMap_cons, List.filterMap_nil, List.getElem?_cons_zero, List.getElem?_cons_succ, Option.map_some]
   refine w_call (l6Bent_ok st.length bs _ hd.cur) (by simp (disch := omega) only [go_sem, ↓reduceIte, Nat.reduceEqDiff, q1]) ?hl ?_
   case hl => first | rfl | (simp only [go_sem, List.all_cons, List.all_nil, Bool.not_false, Bool.and_self, q1]; done)
   rintro r_ s1_ ⟨hdr, g, s1, u1, rfl, hs, hu, hp⟩; refine ⟨fun e => (by cases e), ?_⟩
   have a1 := hs.notLoc.1
   have a2 := hs.notLoc.2
   have a3 := Row.cells1 hs
   have a4 := hu.notLoc.1
   have a5 := hu.notLoc.2
   have a6 := Row.cells1 hu
   have hd := hd.trans hdr
   simp (disch := omega) only [go_sem, ↓reduceIte, Nat.reduceEqDiff, q1, a1, a2, a3, a4, a5, a6]
   refine hF _ [3, 6] _ _ (by decide +kernel) (fm_cons ?_ (fm_cons ?_ fm_nil))
   ·simp only [pickOps, List.filterMap_cons, List.filterMap_nil, List.getElem?_cons_zero, List.getElem?_cons_succ, Option.map_some]
    have hl3 := hd.cur.lt
    refine w_call (l6Any_ok st.length bs _ hd.cur) (by simp (disch := omega) only [go_sem, ↓reduceIte, Nat.reduceEqDiff, q1, a1, a2, a3, a4, a5, a6]) ?hl ?_
    case hl => first | rfl | (simp only [go_sem, List.all_cons, List.all_nil, Bool.not_false, Bool.and_self, q1, a1, a2, a3, a4, a5, a6]; done)
    rintro r_ s3_ ⟨hdr, t, ds, L, rfl, ho, hf, hpt⟩; refine ⟨fun e => (by cases e), ?_⟩
    obtain ⟨k, n, m, s2, rfl, b1, b2, b3⟩ := ho.args_cells
    have hs := hs.ext (bl_away hdr.away)
    have hu := hu.ext (bl_away hdr.away)
    have hd := hd.trans hdr
    simp (disch := omega) only [go_sem, ↓reduceIte, Nat.reduceEqDiff, q1, a1, a2, a3, a4, a5, a6, b1, b2, b3]
    refine hF _ [4, 6] _ _ (by decide +kernel) (fm_cons ?_ (fm_cons ?_ fm_nil))
    ·simp only [pickOps, List.filterMap_cons, List.filterMap_nil, List.getElem?_cons_zero, List.getElem?_cons_succ, Option.map_some]
     have hl4 := hd.cur.lt
     refine w_call (l6Vars_ok _) (by simp (disch := omega) only [go_sem, ↓reduceIte, Nat.reduceEqDiff, q1, a1, a2, a3, a4, a5, a6, b1, b2, b3]) ?hl ?_
     case hl => first | rfl | (simp only [go_sem, List.all_cons, List.all_nil, Bool.not_false, Bool.and_self, q1, a1, a2, a3, a4, a5, a6, b1, b2, b3]; done)
     rintro r_ s4_ ⟨rfl, rfl⟩; refine ⟨fun e => (by cases e), ?_⟩
     have hs := hs.ext (bl_away (Away.of_ext (Ext.app _ [(⟨vars0C, 37, 0⟩ : Blk)])))
     have hu := hu.ext (bl_away (Away.of_ext (Ext.app _ [(⟨vars0C, 37, 0⟩ : Blk)])))
     have ho := ho.ext (Ext.app _ [(⟨vars0C, 37, 0⟩ : Blk)])
     have hv := varsBl hl4
     have hd := hd.ext2 (Ext.app _ [(⟨vars0C, 37, 0⟩ : Blk)])
     simp (disch := omega) only [go_sem, ↓reduceIte, Nat.reduceEqDiff, q1, a1, a2, a3, a4, a5, a6, b1, b2, b3]
     refine hF _ [6] _ _ (by decide +kernel) (fm_cons ?_ fm_nil)
     ·simp only [pickOps, List.filterMap_cons, List.filterMap_nil, List.getElem?_cons_zero, List.getElem?_cons_succ, Option.map_some]; simp (disch := omega) only [go_sem, ↓reduceIte, Nat.reduceEqDiff, Nat.reduceAdd, Nat.reduceLeDiff, hG, q1, bsL, fillK_cons, fillK_nil, Nat.reduceMul, a1, a2, a3, a4, a5, a6, b1, b2, b3]
      obtain ⟨r6, i6⟩ := litI (q := st.length) [4, 4, 2, 0] hd.cur.lt
      have hs := hs.ext (bl_away (Away.of_ext (Ext.app _ [(⟨[.int .i64 4, .int .i64 4, .int .i64 2, .int .i64 0], 3, 0⟩ : Blk)])))
      have hu := hu.ext (bl_away (Away.of_ext (Ext.app _ [(⟨[.int .i64 4, .int .i64 4, .int .i64 2, .int .i64 0], 3, 0⟩ : Blk)])))
      have hv := hv.ext (bl_away (Away.of_ext (Ext.app _ [(⟨[.int .i64 4, .int .i64 4, .int .i64 2, .int .i64 0], 3, 0⟩ : Blk)])))
      have ho := ho.ext (Ext.app _ [(⟨[.int .i64 4, .int .i64 4, .int .i64 2, .int .i64 0], 3, 0⟩ : Blk)])
      have hd := hd.ext2 (Ext.app _ [(⟨[.int .i64 4, .int .i64 4, .int .i64 2, .int .i64 0], 3, 0⟩ : Blk)])
      refine hF _ [7] _ _ (by decide +kernel) (fm_cons ?_ fm_nil)
      ·simp only [pickOps, List.filterMap_cons, List.filterMap_nil, List.getElem?_cons_zero, List.getElem?_cons_succ, Option.map_some]
       refine w_call (lit_pickI (by decide) (by decide) hd.cur r6 i6) (by simp (disch := omega) only [go_sem, ↓reduceIte, Nat.reduceEqDiff, q1, a1, a2, a3, a4, a5, a6, b1, b2, b3]) ?hl ?_
       case hl => first | rfl | (simp only [go_sem, List.all_cons, List.all_nil, Bool.not_false, Bool.and_self, q1, a1, a2, a3, a4, a5, a6, b1, b2, b3]; done)
       rintro r_ s7_ ⟨⟨y, rfl, hy⟩, hdr⟩; refine ⟨fun e => (by cases e), ?_⟩
       have hs := hs.ext (bl_away hdr.away)
       have hu := hu.ext (bl_away hdr.away)
       have hv := hv.ext (bl_away hdr.away)
       have ho := hdr.own ho hf hl3
       have hd := hd.trans hdr
       simp (disch := omega) only [go_sem, ↓reduceIte, Nat.reduceEqDiff, q1, a1, a2, a3, a4, a5, a6, b1, b2, b3]
       obtain ⟨kk, hkk, htk, hv⟩ := vars_take hv hy
       refine hF _ [8] _ _ (by decide +kernel) (fm_cons ?_ fm_nil)
       simp only [pickOps, List.filterMap_cons, List.filterMap_nil, List.getElem?_cons_zero, List.getElem?_cons_succ, Option.map_some]; simp (disch := omega) only [go_sem, ↓reduceIte, Nat.reduceEqDiff, hG, q1, w_slice, ev_slice, htk, flat_i, Bool.false_and, Option.all_some, Option.map_some, Option.all_none, Option.map_none, a1, a2, a3, a4, a5, a6, b1, b2, b3]
       refine hF _ [9] _ _ (by decide +kernel) (fm_cons ?_ fm_nil)
       simp only [pickOps, List.filterMap_cons, List.filterMap_nil, List.getElem?_cons_zero, List.getElem?_cons_succ, Option.map_some]; simp (disch := omega) only [go_sem, ↓reduceIte, Nat.reduceEqDiff, hG, q1, a1, a2, a3, a4, a5, a6, b1, b2, b3]
       refine hF _ [10] _ _ (by decide +kernel) (fm_cons ?_ fm_nil)
       simp only [pickOps, List.filterMap_cons, List.filterMap_nil, List.getElem?_cons_zero, List.getElem?_cons_succ, Option.map_some]; simp (disch := omega) only [go_sem, ↓reduceIte, Nat.reduceEqDiff, hG, q1, a1, a2, a3, a4, a5, a6, b1, b2, b3]
       refine hF _ [11] _ _ (by decide +kernel) (fm_cons ?_ fm_nil)
       simp only [pickOps, List.filterMap_cons, List.filterMap_nil, List.getElem?_cons_zero, List.getElem?_cons_succ, Option.map_some]; simp (disch := omega) only [go_sem, ↓reduceIte, Nat.reduceEqDiff, hG, q1, a1, a2, a3, a4, a5, a6, b1, b2, b3]
       refine hE _ _ _ (by decide +kernel) (hK _ _ ?_)
       exact ⟨g, t, s1, u1, s2, k, n, m, vars0.take kk, .slice (some ⟨_, 0, none⟩) kk kk, hd.away.ext_of x1 (.inr ⟨_, Nat.le_refl _, rfl⟩), ⟨s1, u1, rfl, rwS_ci ci_bl hs, rwO_ci ci_bl hu⟩, hp, ho.enc, hpt, rwV_ci ci_bl hv, hkk, a1, a2, a4, a5, b2, b1, rfl, a3, a6, b3, (by refine ⟨?_, ?_, ?_, ?_, ?_⟩ <;> ((simp (disch := omega) only [go_sem, ↓reduceIte, Nat.reduceEqDiff, q1]); try rfl))⟩
    ·simp only [pickOps, List.filterMap_cons, List.filterMap_nil, List.getElem?_cons_zero, List.getElem?_cons_succ, Option.map_some]; simp (disch := omega) only [go_sem, ↓reduceIte, Nat.reduceEqDiff, Nat.reduceAdd, Nat.reduceLeDiff, hG, q1, bsL, fillK_cons, fillK_nil, Nat.reduceMul, a1, a2, a3, a4, a5, a6, b1, b2, b3]
     obtain ⟨r6, i6⟩ := litI (q := st.length) [4, 4, 2, 0] hd.cur.lt
     have hs := hs.ext (bl_away (Away.of_ext (Ext.app _ [(⟨[.int .i64 4, .int .i64 4, .int .i64 2, .int .i64 0], 3, 0⟩ : Blk)])))
     have hu := hu.ext (bl_away (Away.of_ext (Ext.app _ [(⟨[.int .i64 4, .int .i64 4, .int .i64 2, .int .i64 0], 3, 0⟩ : Blk)])))
     have ho := ho.ext (Ext.app _ [(⟨[.int .i64 4, .int .i64 4, .int .i64 2, .int .i64 0], 3, 0⟩ : Blk)])
     have hd := hd.ext2 (Ext.app _ [(⟨[.int .i64 4, .int .i64 4, .int .i64 2, .int .i64 0], 3, 0⟩ : Blk)])
     refine hF _ [4] _ _ (by decide +kernel) (fm_cons ?_ fm_nil)
     ·simp only [pickOps, List.filterMap_cons, List.filterMap_nil, List.getElem?_cons_zero, List.getElem?_cons_succ, Option.map_some]
      have hl4 := hd.cur.lt
      refine w_call (l6Vars_ok _) (by simp (disch := omega) only [go_sem, ↓reduceIte, Nat.reduceEqDiff, q1, a1, a2, a3, a4, a5, a6, b1, b2, b3]) ?hl ?_
      case hl => first | rfl | (simp only [go_sem, List.all_cons, List.all_nil, Bool.not_false, Bool.and_self, q1, a1, a2, a3, a4, a5, a6, b1, b2, b3]; done)
      rintro r_ s4_ ⟨rfl, rfl⟩; refine ⟨fun e => (by cases e), ?_⟩
      have hs := hs.ext (bl_away (Away.of_ext (Ext.app _ [(⟨vars0C, 37, 0⟩ : Blk)])))
      have hu := hu.ext (bl_away (Away.of_ext (Ext.app _ [(⟨vars0C, 37, 0⟩ : Blk)])))
      have r6 := r6.ext (bl_away (Away.of_ext (Ext.app _ [(⟨vars0C, 37, 0⟩ : Blk)])))
      have ho := ho.ext (Ext.app _ [(⟨vars0C, 37, 0⟩ : Blk)])
      have hv := varsBl hl4
      have hd := hd.ext2 (Ext.app _ [(⟨vars0C, 37, 0⟩ : Blk)])
      simp (disch := omega) only [go_sem, ↓reduceIte, Nat.reduceEqDiff, q1, a1, a2, a3, a4, a5, a6, b1, b2, b3]
      refine hF _ [7] _ _ (by decide +kernel) (fm_cons ?_ fm_nil)
      ·simp only [pickOps, List.filterMap_cons, List.filterMap_nil, List.getElem?_cons_zero, List.getElem?_cons_succ, Option.map_some]
       refine w_call (lit_pickI (by decide) (by decide) hd.cur r6 i6) (by simp (disch := omega) only [go_sem, ↓reduceIte, Nat.reduceEqDiff, q1, a1, a2, a3, a4, a5, a6, b1, b2, b3]) ?hl ?_
       case hl => first | rfl | (simp only [go_sem, List.all_cons, List.all_nil, Bool.not_false, Bool.and_self, q1, a1, a2, a3, a4, a5, a6, b1, b2, b3]; done)
       rintro r_ s7_ ⟨⟨y, rfl, hy⟩, hdr⟩; refine ⟨fun e => (by cases e), ?_⟩
       have hs := hs.ext (bl_away hdr.away)
       have hu := hu.ext (bl_away hdr.away)
       have hv := hv.ext (bl_away hdr.away)
       have ho := hdr.own ho hf hl3
       have hd := hd.trans hdr
       simp (disch := omega) only [go_sem, ↓reduceIte, Nat.reduceEqDiff, q1, a1, a2, a3, a4, a5, a6, b1, b2, b3]
       obtain ⟨kk, hkk, htk, hv⟩ := vars_take hv hy
       refine hF _ [8] _ _ (by decide +kernel) (fm_cons ?_ fm_nil)
       simp only [pickOps, List.filterMap_cons, List.filterMap_nil, List.getElem?_cons_zero, List.getElem?_cons_succ, Option.map_some]; simp (disch := omega) only [go_sem, ↓reduceIte, Nat.reduceEqDiff, hG, q1, w_slice, ev_slice, htk, flat_i, Bool.false_and, Option.all_some, Option.map_some, Option.all_none, Option.map_none, a1, a2, a3, a4, a5, a6, b1, b2, b3]
       refine hF _ [9] _ _ (by decide +kernel) (fm_cons ?_ fm_nil)
       simp only [pickOps, List.filterMap_cons, List.filterMap_nil, List.getElem?_cons_zero, List.getElem?_cons_succ, Option.map_some]; simp (disch := omega) only [go_sem, ↓reduceIte, Nat.reduceEqDiff, hG, q1, a1, a2, a3, a4, a5, a6, b1, b2, b3]
       refine hF _ [10] _ _ (by decide +kernel) (fm_cons ?_ fm_nil)
       simp only [pickOps, List.filterMap_cons, List.filterMap_nil, List.getElem?_cons_zero, List.getElem?_cons_succ, Option.map_some]; simp (disch := omega) only [go_sem, ↓reduceIte, Nat.reduceEqDiff, hG, q1, a1, a2, a3, a4, a5, a6, b1, b2, b3]
       refine hF _ [11] _ _ (by decide +kernel) (fm_cons ?_ fm_nil)
       simp only [pickOps, List.filterMap_cons, List.filterMap_nil, List.getElem?_cons_zero, List.getElem?_cons_succ, Option.map_some]; simp (disch := omega) only [go_sem, ↓reduceIte, Nat.reduceEqDiff, hG, q1, a1, a2, a3, a4, a5, a6, b1, b2, b3]
       refine hE _ _ _ (by decide +kernel) (hK _ _ ?_)
       exact ⟨g, t, s1, u1, s2, k, n, m, vars0.take kk, .slice (some ⟨_, 0, none⟩) kk kk, hd.away.ext_of x1 (.inr ⟨_, Nat.le_refl _, rfl⟩), ⟨s1, u1, rfl, rwS_ci ci_bl hs, rwO_ci ci_bl hu⟩, hp, ho.enc, hpt, rwV_ci ci_bl hv, hkk, a1, a2, a4, a5, b2, b1, rfl, a3, a6, b3, (by refine ⟨?_, ?_, ?_, ?_, ?_⟩ <;> ((simp (disch := omega) only [go_sem, ↓reduceIte, Nat.reduceEqDiff, q1]); try rfl))⟩
   ·simp only [pickOps, List.filterMap_cons, List.filterMap_nil, List.getElem?_cons_zero, List.getElem?_cons_succ, Option.map_some]; simp (disch := omega) only [go_sem, ↓reduceIte, Nat.reduceEqDiff, Nat.reduceAdd, Nat.reduceLeDiff, hG, q1, bsL, fillK_cons, fillK_nil, Nat.reduceMul, a1, a2, a3, a4, a5, a6]
    obtain ⟨r6, i6⟩ := litI (q := st.length) [4, 4, 2, 0] hd.cur.lt
    have hs := hs.ext (bl_away (Away.of_ext (Ext.app _ [(⟨[.int .i64 4, .int .i64 4, .int .i64 2, .int .i64 0], 3, 0⟩ : Blk)])))
    have hu := hu.ext (bl_away (Away.of_ext (Ext.app _ [(⟨[.int .i64 4, .int .i64 4, .int .i64 2, .int .i64 0], 3, 0⟩ : Blk)])))
    have hd := hd.ext2 (Ext.app _ [(⟨[.int .i64 4, .int .i64 4, .int .i64 2, .int .i64 0], 3, 0⟩ : Blk)])
    refine hF _ [3] _ _ (by decide +kernel) (fm_cons ?_ fm_nil)
    ·simp only [pickOps, List.filterMap_cons, List.filterMap_nil, List.getElem?_cons_zero, List.getElem?_cons_succ, Option.map_some]
     have hl3 := hd.cur.lt
     refine w_call (l6Any_ok st.length bs _ hd.cur) (by simp (disch := omega) only [go_sem, ↓reduceIte, Nat.reduceEqDiff, q1, a1, a2, a3, a4, a5, a6]) ?hl ?_
     case hl => first | rfl | (simp only [go_sem, List.all_cons, List.all_nil, Bool.not_false, Bool.and_self, q1, a1, a2, a3, a4, a5, a6]; done)
     rintro r_ s3_ ⟨hdr, t, ds, L, rfl, ho, hf, hpt⟩; refine ⟨fun e => (by cases e), ?_⟩
     obtain ⟨k, n, m, s2, rfl, b1, b2, b3⟩ := ho.args_cells
     have hs := hs.ext (bl_away hdr.away)
     have hu := hu.ext (bl_away hdr.away)
     have r6 := r6.ext (bl_away hdr.away)
     have hd := hd.trans hdr
     simp (disch := omega) only [go_sem, ↓reduceIte, Nat.reduceEqDiff, q1, a1, a2, a3, a4, a5, a6, b1, b2, b3]
     refine hF _ [4] _ _ (by decide +kernel) (fm_cons ?_ fm_nil)
     ·simp only [pickOps, List.filterMap_cons, List.filterMap_nil, List.getElem?_cons_zero, List.getElem?_cons_succ, Option.map_some]
      have hl4 := hd.cur.lt
      refine w_call (l6Vars_ok _) (by simp (disch := omega) only [go_sem, ↓reduceIte, Nat.reduceEqDiff, q1, a1, a2, a3, a4, a5, a6, b1, b2, b3]) ?hl ?_
      case hl => first | rfl | (simp only [go_sem, List.all_cons, List.all_nil, Bool.not_false, Bool.and_self, q1, a1, a2, a3, a4, a5, a6, b1, b2, b3]; done)
      rintro r_ s4_ ⟨rfl, rfl⟩; refine ⟨fun e => (by cases e), ?_⟩
      have hs := hs.ext (bl_away (Away.of_ext (Ext.app _ [(⟨vars0C, 37, 0⟩ : Blk)])))
      have hu := hu.ext (bl_away (Away.of_ext (Ext.app _ [(⟨vars0C, 37, 0⟩ : Blk)])))
      have r6 := r6.ext (bl_away (Away.of_ext (Ext.app _ [(⟨vars0C, 37, 0⟩ : Blk)])))
      have ho := ho.ext (Ext.app _ [(⟨vars0C, 37, 0⟩ : Blk)])
      have hv := varsBl hl4
      have hd := hd.ext2 (Ext.app _ [(⟨vars0C, 37, 0⟩ : Blk)])
      simp (disch := omega) only [go_sem, ↓reduceIte, Nat.reduceEqDiff, q1, a1, a2, a3, a4, a5, a6, b1, b2, b3]
      refine hF _ [7] _ _ (by decide +kernel) (fm_cons ?_ fm_nil)
      ·simp only [pickOps, List.filterMap_cons, List.filterMap_nil, List.getElem?_cons_zero, List.getElem?_cons_succ, Option.map_some]
       refine w_call (lit_pickI (by decide) (by decide) hd.cur r6 i6) (by simp (disch := omega) only [go_sem, ↓reduceIte, Nat.reduceEqDiff, q1, a1, a2, a3, a4, a5, a6, b1, b2, b3]) ?hl ?_
       case hl => first | rfl | (simp only [go_sem, List.all_cons, List.all_nil, Bool.not_false, Bool.and_self, q1, a1, a2, a3, a4, a5, a6, b1, b2, b3]; done)
       rintro r_ s7_ ⟨⟨y, rfl, hy⟩, hdr⟩; refine ⟨fun e => (by cases e), ?_⟩
       have hs := hs.ext (bl_away hdr.away)
       have hu := hu.ext (bl_away hdr.away)
       have hv := hv.ext (bl_away hdr.away)
       have ho := hdr.own ho hf hl3
       have hd := hd.trans hdr
       simp (disch := omega) only [go_sem, ↓reduceIte, Nat.reduceEqDiff, q1, a1, a2, a3, a4, a5, a6, b1, b2, b3]
       obtain ⟨kk, hkk, htk, hv⟩ := vars_take hv hy
       refine hF _ [8] _ _ (by decide +kernel) (fm_cons ?_ fm_nil)
       simp only [pickOps, List.filterMap_cons, List.filterMap_nil, List.getElem?_cons_zero, List.getElem?_cons_succ, Option.map_some]; simp (disch := omega) only [go_sem, ↓reduceIte, Nat.reduceEqDiff, hG, q1, w_slice, ev_slice, htk, flat_i, Bool.false_and, Option.all_some, Option.map_some, Option.all_none, Option.map_none, a1, a2, a3, a4, a5, a6, b1, b2, b3]
       refine hF _ [9] _ _ (by decide +kernel) (fm_cons ?_ fm_nil)
       simp only [pickOps, List.filterMap_cons, List.filterMap_nil, List.getElem?_cons_zero, List.getElem?_cons_succ, Option.map_some]; simp (disch := omega) only [go_sem, ↓reduceIte, Nat.reduceEqDiff, hG, q1, a1, a2, a3, a4, a5, a6, b1, b2, b3]
       refine hF _ [10] _ _ (by decide +kernel) (fm_cons ?_ fm_nil)
       simp only [pickOps, List.filterMap_cons, List.filterMap_nil, List.getElem?_cons_zero, List.getElem?_cons_succ, Option.map_some]; simp (disch := omega) only [go_sem, ↓reduceIte, Nat.reduceEqDiff, hG, q1, a1, a2, a3, a4, a5, a6, b1, b2, b3]
       refine hF _ [11] _ _ (by decide +kernel) (fm_cons ?_ fm_nil)
       simp only [pickOps, List.filterMap_cons, List.filterMap_nil, List.getElem?_cons_zero, List.getElem?_cons_succ, Option.map_some]; simp (disch := omega) only [go_sem, ↓reduceIte, Nat.reduceEqDiff, hG, q1, a1, a2, a3, a4, a5, a6, b1, b2, b3]
       refine hE _ _ _ (by decide +kernel) (hK _ _ ?_)
       exact ⟨g, t, s1, u1, s2, k, n, m, vars0.take kk, .slice (some ⟨_, 0, none⟩) kk kk, hd.away.ext_of x1 (.inr ⟨_, Nat.le_refl _, rfl⟩), ⟨s1, u1, rfl, rwS_ci ci_bl hs, rwO_ci ci_bl hu⟩, hp, ho.enc, hpt, rwV_ci ci_bl hv, hkk, a1, a2, a4, a5, b2, b1, rfl, a3, a6, b3, (by refine ⟨?_, ?_, ?_, ?_, ?_⟩ <;> ((simp (disch := omega) only [go_sem, ↓reduceIte, Nat.reduceEqDiff, q1]); try rfl))⟩
  ·simp only [pickOps, List.filterMap_cons, List.filterMap_nil, List.getElem?_cons_zero, List.getElem?_cons_succ, Option.map_some]; simp (disch := omega) only [go_sem, ↓reduceIte, Nat.reduceEqDiff, Nat.reduceAdd, Nat.reduceLeDiff, hG, q1, bsL, fillK_cons, fillK_nil, Nat.reduceMul]
   obtain ⟨r6, i6⟩ := litI (q := st.length) [4, 4, 2, 0] hd.cur.lt
   have hd := hd.ext2 (Ext.app _ [(⟨[.int .i64 4, .int .i64 4, .int .i64 2, .int .i64 0], 3, 0⟩ : Blk)])
   refine hF _ [1] _ _ (by decide +kernel) (fm_cons ?_ fm_nil)
   ·simp only [pickOps, List.filterMap_cons, List.filterMap_nil, List.getElem?_cons_zero, List.getElem?_cons_succ, Option.map_some]
    refine w_call (l6Bent_ok st.length bs _ hd.cur) (by simp (disch := omega) only [go_sem, ↓reduceIte, Nat.reduceEqDiff, q1]) ?hl ?_
    case hl => first | rfl | (simp only [go_sem, List.all_cons, List.all_nil, Bool.not_false, Bool.and_self, q1]; done)
    rintro r_ s1_ ⟨hdr, g, s1, u1, rfl, hs, hu, hp⟩; refine ⟨fun e => (by cases e), ?_⟩
    have a1 := hs.notLoc.1
    have a2 := hs.notLoc.2
    have a3 := Row.cells1 hs
    have a4 := hu.notLoc.1
    have a5 := hu.notLoc.2
    have a6 := Row.cells1 hu
    have r6 := r6.ext (bl_away hdr.away)
    have hd := hd.trans hdr
    simp (disch := omega) only [go_sem, ↓reduceIte, Nat.reduceEqDiff, q1, a1, a2, a3, a4, a5, a6]
    refine hF _ [3] _ _ (by decide +kernel) (fm_cons ?_ fm_nil)
    ·simp only [pickOps, List.filterMap_cons, List.filterMap_nil, List.getElem?_cons_zero, List.getElem?_cons_succ, Option.map_some]
     have hl3 := hd.cur.lt
     refine w_call (l6Any_ok st.length bs _ hd.cur) (by simp (disch := omega) only [go_sem, ↓reduceIte, Nat.reduceEqDiff, q1, a1, a2, a3, a4, a5, a6]) ?hl ?_
     case hl => first | rfl | (simp only [go_sem, List.all_cons, List.all_nil, Bool.not_false, Bool.and_self, q1, a1, a2, a3, a4, a5, a6]; done)
     rintro r_ s3_ ⟨hdr, t, ds, L, rfl, ho, hf, hpt⟩; refine ⟨fun e => (by cases e), ?_⟩
     obtain ⟨k, n, m, s2, rfl, b1, b2, b3⟩ := ho.args_cells
     have hs := hs.ext (bl_away hdr.away)
     have hu := hu.ext (bl_away hdr.away)
     have r6 := r6.ext (bl_away hdr.away)
     have hd := hd.trans hdr
     simp (disch := omega) only [go_sem, ↓reduceIte, Nat.reduceEqDiff, q1, a1, a2, a3, a4, a5, a6, b1, b2, b3]
     refine hF _ [4] _ _ (by decide +kernel) (fm_cons ?_ fm_nil)
     ·simp only [pickOps, List.filterMap_cons, List.filterMap_nil, List.getElem?_cons_zero, List.getElem?_cons_succ, Option.map_some]
      have hl4 := hd.cur.lt
      refine w_call (l6Vars_ok _) (by simp (disch := omega) only [go_sem, ↓reduceIte, Nat.reduceEqDiff, q1, a1, a2, a3, a4, a5, a6, b1, b2, b3]) ?hl ?_
      case hl => first | rfl | (simp only [go_sem, List.all_cons, List.all_nil, Bool.not_false, Bool.and_self, q1, a1, a2, a3, a4, a5, a6, b1, b2, b3]; done)
      rintro r_ s4_ ⟨rfl, rfl⟩; refine ⟨fun e => (by cases e), ?_⟩
      have hs := hs.ext (bl_away (Away.of_ext (Ext.app _ [(⟨vars0C, 37, 0⟩ : Blk)])))
      have hu := hu.ext (bl_away (Away.of_ext (Ext.app _ [(⟨vars0C, 37, 0⟩ : Blk)])))
      have r6 := r6.ext (bl_away (Away.of_ext (Ext.app _ [(⟨vars0C, 37, 0⟩ : Blk)])))
      have ho := ho.ext (Ext.app _ [(⟨vars0C, 37, 0⟩ : Blk)])
      have hv := varsBl hl4
      have hd := hd.ext2 (Ext.app _ [(⟨vars0C, 37, 0⟩ : Blk)])
      simp (disch := omega) only [go_sem, ↓reduceIte, Nat.reduceEqDiff, q1, a1, a2, a3, a4, a5, a6, b1, b2, b3]
      refine hF _ [7] _ _ (by decide +kernel) (fm_cons ?_ fm_nil)
      ·simp only [pickOps, List.filterMap_cons, List.filterMap_nil, List.getElem?_cons_zero, List.getElem?_cons_succ, Option.map_some]
       refine w_call (lit_pickI (by decide) (by decide) hd.cur r6 i6) (by simp (disch := omega) only [go_sem, ↓reduceIte, Nat.reduceEqDiff, q1, a1, a2, a3, a4, a5, a6, b1, b2, b3]) ?hl ?_
       case hl => first | rfl | (simp only [go_sem, List.all_cons, List.all_nil, Bool.not_false, Bool.and_self, q1, a1, a2, a3, a4, a5, a6, b1, b2, b3]; done)
       rintro r_ s7_ ⟨⟨y, rfl, hy⟩, hdr⟩; refine ⟨fun e => (by cases e), ?_⟩
       have hs := hs.ext (bl_away hdr.away)
       have hu := hu.ext (bl_away hdr.away)
       have hv := hv.ext (bl_away hdr.away)
       have ho := hdr.own ho hf hl3
       have hd := hd.trans hdr
       simp (disch := omega) only [go_sem, ↓reduceIte, Nat.reduceEqDiff, q1, a1, a2, a3, a4, a5, a6, b1, b2, b3]
       obtain ⟨kk, hkk, htk, hv⟩ := vars_take hv hy
       refine hF _ [8] _ _ (by decide +kernel) (fm_cons ?_ fm_nil)
       simp only [pickOps, List.filterMap_cons, List.filterMap_nil, List.getElem?_cons_zero, List.getElem?_cons_succ, Option.map_some]; simp (disch := omega) only [go_sem, ↓reduceIte, Nat.reduceEqDiff, hG, q1, w_slice, ev_slice, htk, flat_i, Bool.false_and, Option.all_some, Option.map_some, Option.all_none, Option.map_none, a1, a2, a3, a4, a5, a6, b1, b2, b3]
       refine hF _ [9] _ _ (by decide +kernel) (fm_cons ?_ fm_nil)
       simp only [pickOps, List.filterMap_cons, List.filterMap_nil, List.getElem?_cons_zero, List.getElem?_cons_succ, Option.map_some]; simp (disch := omega) only [go_sem, ↓reduceIte, Nat.reduceEqDiff, hG, q1, a1, a2, a3, a4, a5, a6, b1, b2, b3]
       refine hF _ [10] _ _ (by decide +kernel) (fm_cons ?_ fm_nil)
       simp only [pickOps, List.filterMap_cons, List.filterMap_nil, List.getElem?_cons_zero, List.getElem?_cons_succ, Option.map_some]; simp (disch := omega) only [go_sem, ↓reduceIte, Nat.reduceEqDiff, hG, q1, a1, a2, a3, a4, a5, a6, b1, b2, b3]
       refine hF _ [11] _ _ (by decide +kernel) (fm_cons ?_ fm_nil)
       simp only [pickOps, List.filterMap_cons, List.filterMap_nil, List.getElem?_cons_zero, List.getElem?_cons_succ, Option.map_some]; simp (disch := omega) only [go_sem, ↓reduceIte, Nat.reduceEqDiff, hG, q1, a1, a2, a3, a4, a5, a6, b1, b2, b3]
       refine hE _ _ _ (by decide +kernel) (hK _ _ ?_)
       exact ⟨g, t, s1, u1, s2, k, n, m, vars0.take kk, .slice (some ⟨_, 0, none⟩) kk kk, hd.away.ext_of x1 (.inr ⟨_, Nat.le_refl _, rfl⟩), ⟨s1, u1, rfl, rwS_ci ci_bl hs, rwO_ci ci_bl hu⟩, hp, ho.enc, hpt, rwV_ci ci_bl hv, hkk, a1, a2, a4, a5, b2, b1, rfl, a3, a6, b3, (by refine ⟨?_, ?_, ?_, ?_, ?_⟩ <;> ((simp (disch := omega) only [go_sem, ↓reduceIte, Nat.reduceEqDiff, q1]); try rfl))⟩
 rintro ⟨env, loc⟩ st' ⟨g, t, s1, u1, s2, k, n, m, vs, v, hx, hE, hp, hT, hpt, hV, hvl, o1, o2, o3, o4, o5, o6, o7, o8, o9, o10, e2, e3, e4, l2, l3⟩
 simp only at e2 e3 e4 l2 l3
 refine W_ret ?_; try (repeat (with_reducible first | refine thenI ?_ | refine thenE ?_ | refine thenR ?_ | refine inBI ?_ | refine inBR ?_ | refine inBS ?_ | refine inBN (by decide) ?_))
 refine finCCT (.inl rfl) (by (simp (disch := omega) only [go_sem, ↓reduceIte, Nat.reduceEqDiff, q1, e2, e3, e4, l2, l3, o1, o2, o3, o4, o5, o6, o7, o8, o9, o10]); try rfl) (by (simp (disch := omega) only [go_sem, ↓reduceIte, Nat.reduceEqDiff, q1, e2, e3, e4, l2, l3, o1, o2, o3, o4, o5, o6, o7, o8, o9, o10]); try rfl) (by (simp (disch := omega) only [go_sem, ↓reduceIte, Nat.reduceEqDiff, q1, e2, e3, e4, l2, l3, o1, o2, o3, o4, o5, o6, o7, o8, o9, o10]); try rfl) o7 ⟨hx, g, t, [s1, u1], [_, _, _, _], vs, v, rfl, hE, hp, hT, hpt, hV, hvl⟩

end

end Go.Proofs.Ytdijnohbbgbklaa.AM
/- Strings: a byte, a part. -/
namespace Go.Proofs.Ytdijnohbbgbklaa.AM
open Go Go.Proofs
set_option linter.unusedVariables false
set_option linter.unusedSimpArgs false

def byteAt (s : ByteArray) (i : Nat) : Int := ((s.data.toList.getD i 0).toNat : Int)
section
variable {P : Program} {t : TypeId} {s : ByteArray}
theorem idxS (ht : P.underlying t = some .string) {k : IntKind} {i : Int} (h0 : 0 ≤ i) (h1 : i < s.size) : flatRun P (Instr.index t (.string s) (.int k i)) = some (.int .u8 (byteAt s i.toNat)) := by
 have h2 : i.toNat < s.size := by omega
 have h3 : (if 0 ≤ i then s[i.toNat]? else none) = some s[i.toNat] := by rw [if_pos h0, ByteArray.getElem?_lt' s _ h2]
 have h4 : ((s[i.toNat]).toNat : Int) = byteAt s i.toNat := by
  unfold byteAt
  have h5 : i.toNat < s.data.toList.length := by simpa using h2
  rw [List.getD_eq_getElem?_getD, List.getElem?_eq_getElem h5]
  simp [ByteArray.getElem_eq_getElem_data]
 have hc : pureRun P (Instr.index t (.string s) (.int k i)) = some (.int .u8 (byteAt s i.toNat)) := by
  unfold Instr.index
  rw [pureRun_bind]
  show (some (k, i)).bind _ = _
  simp only [Option.bind_some]
  rw [pureRun_bind, pureRun_und ht]
  simp only [Option.bind_some]
  rw [h3, ← h4]
  rfl
 unfold flatRun
 rw [hc]; rfl
end
end Go.Proofs.Ytdijnohbbgbklaa.AM


/- Nodes, depth, names, validity of terms, in plain Lean. -/
namespace Go.Proofs.Ytdijnohbbgbklaa.AM
open Go Go.Proofs
set_option linter.unusedVariables false
set_option linter.unusedSimpArgs false

mutual
def T.depth : T → Nat
 | .mk _ _ _ args => 1 + T.depthL args
def T.depthL : List T → Nat
 | [] => 0
 | x :: xs => max x.depth (T.depthL xs)
end
theorem T.countL_app (xs ys : List T) : T.countL (xs ++ ys) = T.countL xs + T.countL ys := by
 induction xs with
 | nil => simp [T.countL]
 | cons x xs ih => simp only [List.cons_append, T.countL, ih]; omega
theorem T.depthL_app (xs ys : List T) : T.depthL (xs ++ ys) = max (T.depthL xs) (T.depthL ys) := by
 induction xs with
 | nil => simp [T.depthL]
 | cons x xs ih => simp only [List.cons_append, T.depthL, ih]; omega
theorem T.depth_count : ∀ t : T, t.depth ≤ t.count := by
 refine T.ind fun k n nm args ih => ?_
 have hL : ∀ l : List T, (∀ a ∈ l, a.depth ≤ a.count) → T.depthL l ≤ T.countL l := by
  intro l
  induction l with
  | nil => intro _; exact Nat.le_refl _
  | cons x xs ihx =>
   intro h
   have h1 := h x (by simp)
   have h2 := ihx fun a ha => h a (by simp [ha])
   simp only [T.depthL, T.countL]; omega
 have := hL args ih
 simp only [T.depth, T.count]; omega
theorem T.count_wt : ∀ t : T, t.count ≤ t.wt + 1 := by
 refine T.ind fun k n nm args ih => ?_
 have hL : ∀ l : List T, (∀ a ∈ l, a.count ≤ a.wt + 1) → T.countL l ≤ T.wtL l + l.length := by
  intro l
  induction l with
  | nil => intro _; exact Nat.le_refl _
  | cons x xs ihx =>
   intro h
   have h1 := h x (by simp)
   have h2 := ihx fun a ha => h a (by simp [ha])
   simp only [T.wtL, T.countL, List.length_cons]; omega
 have := hL args ih
 simp only [T.wt, T.count]; omega
/-- A small letter, or a digit. -/
def lowDig (b : UInt8) : Bool := (decide (97 ≤ b.toNat) && decide (b.toNat ≤ 122)) || (decide (48 ≤ b.toNat) && decide (b.toNat ≤ 57))
/-- A name: 1 to 8 bytes, the first between two letters, the others small letters and digits. -/
def isNm (lo hi : Nat) : List UInt8 → Bool
 | [] => false
 | b :: bs => (decide (lo ≤ b.toNat) && decide (b.toNat ≤ hi)) && (bs.all lowDig && decide (bs.length ≤ 7))
def isName (s : ByteArray) : Bool := isNm 97 122 s.data.toList
def isVar (s : ByteArray) : Bool := isNm 65 90 s.data.toList
def nodeOk (k n : Int) (nm : ByteArray) (args : List T) : Bool :=
 if k = 1 then isVar nm && ((n == 0) && ((args.length : Int) == 0))
 else if k = 2 then isName nm && (n == 0)
 else if k = 3 then (nm.toList == (⟨#[]⟩ : ByteArray).toList) && ((decide (n ≥ 0) && decide (n ≤ 3)) && ((args.length : Int) == 0))
 else false
mutual
def T.nodes : T → Bool
 | .mk k n nm args => T.nodesL args && nodeOk k n nm args
def T.nodesL : List T → Bool
 | [] => true
 | x :: xs => x.nodes && T.nodesL xs
end
theorem T.nodesL_all (xs : List T) : T.nodesL xs = xs.all T.nodes := by
 induction xs with
 | nil => rfl
 | cons x xs ih => simp only [T.nodesL, List.all_cons, ih]
def T.valid (t : T) : Bool := decide (t.count ≤ 60) && (decide (t.depth ≤ 16) && t.nodes)
end Go.Proofs.Ytdijnohbbgbklaa.AM


namespace Go.Proofs.Ytdijnohbbgbklaa.AM
open Go
attribute [local go_sem] List.map_cons List.map_nil List.all_cons List.all_nil Bool.and_self Option.map_some List.getElem?_toArray Option.bind_some gye_b gye_t gsk_b gsk_t gb1 gb2 gb3 gb4 bne_self_eq_false beq_self_eq_true w_guard w_nil stepV_some step_some step_some' w_move w_assign w_pick w_binOp w_unOp w_load w_fieldAddr w_indexAddr w_len w_max w_index ev_max max_int ev_index w_box w_alloc w_store w_field w_extract w_nilCheck w_convert w_buildSlice w_build ev_buildL fillL_nil fillL_cons bs0 bs1 ev_conv ev_bin ev_un ev_pick ev_load ev_fieldAddr ev_indexAddr ev_len ev_field ev_extract ev_nilCheck fr_tmp fr_int fr_bool fr_str fr_nil fr_func put_some put_none bin_lss bin_leq bin_gtr bin_geq bin_eql bin_neq bin_add bin_sub bin_mul bin_seql bin_sneq un_not pick_ ext_ loadA_p cellAt_l cellAt_h okPtr_l okPtr_h fadA_p allocA_l storeA_l cells_agg cells_int cells_str cells_sl cells_bool flat_i flat_s flat_b flat_sl flat_nil loc_agg loc_int loc_str loc_sl loc_bool loc_fn loc_ptr okv_agg okv_int okv_str okv_sl okv_bool cellsFrom splice upd_eval argEnv_zero argEnv_succ ne_eq Nat.add_one_ne_zero not_false_eq_true List.not_mem_nil and_self decide_true List.getElem?_cons_zero List.getElem?_cons_succ List.size_toArray List.length_cons List.length_nil List.take_succ_cons List.take_zero List.drop_succ_cons List.drop_zero List.cons_append List.nil_append List.drop_nil Bool.not_true Bool.not_false Bool.false_eq_true Nat.zero_add Nat.add_zero wrap_in List.toList_toArray List.mem_cons or_self or_false false_or
attribute [local go_sem] ag103 ag22 ag24 ag25 ag27 ag28 ag3 ag30 ag37 ag5 ag54 ag9 bu27 bu30 bu37 bu54 bu67 by30 by37 by54 by9 el22 el24 el25 el28 el33 el52 of27_0 of27_1 of30_0 of30_1 of30_2 of30_3 of37_0 of37_1 of54_0 of54_1 of54_2 of67_0 of67_1 of67_2 ro3_3 ro3_4 ro30_0 ro30_1 ro30_2 ro37_0 ro37_1 ro37_4 ro54_1 ro54_7 ro9_0 ro9_1 ro9_2 ro9_3 ro9_4 ro9_5 sz103 sz22 sz24 sz25 sz27 sz28 sz3 sz30 sz37 sz5 sz54 sz9 ze103 ze27 ze3 ze30 ze37 ze54 ze9
section
/- Names: impl.isNamed, IsName, IsVarName; spec.l2Lower, l2Digit, l2Rest, IsName, IsVarName. -/
open Go Go.Proofs
set_option linter.unusedVariables false
set_option linter.unusedSimpArgs false
set_option maxRecDepth 100000
-- AUTO

theorem drop_byte {s : ByteArray} {i : Nat} (h : i < s.size) : ∃ b r, s.data.toList.drop i = b :: r ∧ byteAt s i = (b.toNat : Int) ∧ s.data.toList.drop (i + 1) = r := by
 have h5 : i < s.data.toList.length := by simpa using h
 refine ⟨s.data.toList[i], s.data.toList.drop (i + 1), List.drop_eq_getElem_cons h5, ?_, rfl⟩
 unfold byteAt
 rw [List.getD_eq_getElem?_getD, List.getElem?_eq_getElem h5]
 rfl
theorem size_list (s : ByteArray) : s.size = s.data.toList.length := by simp
theorem nm_of {lo hi : Nat} {s : ByteArray} {b : UInt8} {r : List UInt8} (h : s.data.toList = b :: r) : isNm lo hi s.data.toList = ((decide (lo ≤ b.toNat) && decide (b.toNat ≤ hi)) && (r.all lowDig && decide (r.length ≤ 7))) := by rw [h]; rfl
theorem implNamed_ok (s : ByteArray) (lo hi : Nat) (st : St) : CallS Try.prog 47 [.string s, .int .u8 lo, .int .u8 hi] st fun r st' => r = .bool (isNm lo hi s.data.toList) ∧ st' = st := by
 refine CallS_of_W [] 56 Try.func47 rfl rfl rfl rfl (by simp) ?_
 have hlen : lenE Try.prog 9 (.string s) = some (.int .i64 s.size) := len_str Try.underlying9
 have hix := fun (k : IntKind) (i : Int) (h0 : 0 ≤ i) (h1 : i < s.size) => idxS (k := k) Try.underlying9 h0 h1
 by_cases h1 : s.size < 1
 ·have c1 : decide ((s.size : Int) < 1) = true := by simp; omega
  repeat (first | with_reducible (first | refine thenI ?_ | refine thenE ?_ | refine thenR ?_ | refine inBI ?_ | refine inBR ?_ | refine inBS ?_ | refine inBN (by decide) ?_) | refine W_seqS ?_ | refine W_seqC ?_ | refine W_seqB ?_ | refine W_block ?_ | refine W_skip ?_ | (apply W_condB; (case hc => (simp (disch := omega) only [go_sem, ↓reduceIte, Nat.reduceEqDiff, hlen, hix, w_index, ev_index, c1]); rfl); first | refine qzT ?_ | refine qzF ?_) | ((first | refine W_reg rfl fun G K hG hK => ?_ | refine W_end rfl fun G K hG hK => ?_); simp (disch := omega) only [go_sem, ↓reduceIte, Nat.reduceEqDiff, hG, hlen, hix, w_index, ev_index, c1]; refine hK _ _ ?_; clear hK K hG G))
  have hn : s.data.toList = [] := List.eq_nil_of_length_eq_zero (by rw [← size_list]; omega)
  refine W_ret ?_; try (repeat (with_reducible first | refine thenI ?_ | refine thenE ?_ | refine thenR ?_ | refine inBI ?_ | refine inBR ?_ | refine inBS ?_ | refine inBN (by decide) ?_))
  refine fin1 (.inl rfl) (by (simp (disch := omega) only [go_sem, ↓reduceIte, Nat.reduceEqDiff, hlen, hix, w_index, ev_index]); try rfl) rfl ⟨by rw [hn]; rfl, rfl⟩
 have c1 : decide ((s.size : Int) < 1) = false := by simp; omega
 obtain ⟨b, r, hb, hby, hr1⟩ := drop_byte (s := s) (i := 0) (by omega)
 rw [List.drop_zero] at hb
 have hby' : byteAt s (0 : Int).toNat = (b.toNat : Int) := hby
 have hsz : s.size = r.length + 1 := by rw [size_list, hb]; simp
 rw [nm_of hb]
 by_cases h2 : s.size > 8
 ·have c2 : decide ((s.size : Int) > 8) = true := by simp; omega
  have h7 : ¬ r.length ≤ 7 := by omega
  repeat (first | with_reducible (first | refine thenI ?_ | refine thenE ?_ | refine thenR ?_ | refine inBI ?_ | refine inBR ?_ | refine inBS ?_ | refine inBN (by decide) ?_) | refine W_seqS ?_ | refine W_seqC ?_ | refine W_seqB ?_ | refine W_block ?_ | refine W_skip ?_ | (apply W_condB; (case hc => (simp (disch := omega) only [go_sem, ↓reduceIte, Nat.reduceEqDiff, hlen, hix, w_index, ev_index, c1, c2]); rfl); first | refine qzT ?_ | refine qzF ?_) | ((first | refine W_reg rfl fun G K hG hK => ?_ | refine W_end rfl fun G K hG hK => ?_); simp (disch := omega) only [go_sem, ↓reduceIte, Nat.reduceEqDiff, hG, hlen, hix, w_index, ev_index, c1, c2]; refine hK _ _ ?_; clear hK K hG G))
  refine W_ret ?_; try (repeat (with_reducible first | refine thenI ?_ | refine thenE ?_ | refine thenR ?_ | refine inBI ?_ | refine inBR ?_ | refine inBS ?_ | refine inBN (by decide) ?_))
  refine fin1 (.inl rfl) (by (simp (disch := omega) only [go_sem, ↓reduceIte, Nat.reduceEqDiff, hlen, hix, w_index, ev_index]); try rfl) rfl ⟨by simp [h7], rfl⟩
 have c2 : decide ((s.size : Int) > 8) = false := by simp; omega
 have h7 : r.length ≤ 7 := by omega
 by_cases h3 : b.toNat < lo
 ·have c3 : decide ((b.toNat : Int) < lo) = true := by simp; omega
  have h4 : ¬ lo ≤ b.toNat := by omega
  repeat (first | with_reducible (first | refine thenI ?_ | refine thenE ?_ | refine thenR ?_ | refine inBI ?_ | refine inBR ?_ | refine inBS ?_ | refine inBN (by decide) ?_) | refine W_seqS ?_ | refine W_seqC ?_ | refine W_seqB ?_ | refine W_block ?_ | refine W_skip ?_ | (apply W_condB; (case hc => (simp (disch := omega) only [go_sem, ↓reduceIte, Nat.reduceEqDiff, hlen, hix, w_index, ev_index, c1, c2, hby', c3]); rfl); first | refine qzT ?_ | refine qzF ?_) | ((first | refine W_reg rfl fun G K hG hK => ?_ | refine W_end rfl fun G K hG hK => ?_); simp (disch := omega) only [go_sem, ↓reduceIte, Nat.reduceEqDiff, hG, hlen, hix, w_index, ev_index, c1, c2, hby', c3]; refine hK _ _ ?_; clear hK K hG G))
  refine W_ret ?_; try (repeat (with_reducible first | refine thenI ?_ | refine thenE ?_ | refine thenR ?_ | refine inBI ?_ | refine inBR ?_ | refine inBS ?_ | refine inBN (by decide) ?_))
  refine fin1 (.inl rfl) (by (simp (disch := omega) only [go_sem, ↓reduceIte, Nat.reduceEqDiff, hlen, hix, w_index, ev_index]); try rfl) rfl ⟨by simp [h4], rfl⟩
 have c3 : decide ((b.toNat : Int) < lo) = false := by simp; omega
 by_cases h4 : b.toNat > hi
 ·have c4 : decide ((b.toNat : Int) > hi) = true := by simp; omega
  have h5 : ¬ b.toNat ≤ hi := by omega
  repeat (first | with_reducible (first | refine thenI ?_ | refine thenE ?_ | refine thenR ?_ | refine inBI ?_ | refine inBR ?_ | refine inBS ?_ | refine inBN (by decide) ?_) | refine W_seqS ?_ | refine W_seqC ?_ | refine W_seqB ?_ | refine W_block ?_ | refine W_skip ?_ | (apply W_condB; (case hc => (simp (disch := omega) only [go_sem, ↓reduceIte, Nat.reduceEqDiff, hlen, hix, w_index, ev_index, c1, c2, hby', c3, c4]); rfl); first | refine qzT ?_ | refine qzF ?_) | ((first | refine W_reg rfl fun G K hG hK => ?_ | refine W_end rfl fun G K hG hK => ?_); simp (disch := omega) only [go_sem, ↓reduceIte, Nat.reduceEqDiff, hG, hlen, hix, w_index, ev_index, c1, c2, hby', c3, c4]; refine hK _ _ ?_; clear hK K hG G))
  refine W_ret ?_; try (repeat (with_reducible first | refine thenI ?_ | refine thenE ?_ | refine thenR ?_ | refine inBI ?_ | refine inBR ?_ | refine inBS ?_ | refine inBN (by decide) ?_))
  refine fin1 (.inl rfl) (by (simp (disch := omega) only [go_sem, ↓reduceIte, Nat.reduceEqDiff, hlen, hix, w_index, ev_index]); try rfl) rfl ⟨by simp [h5], rfl⟩
 have c4 : decide ((b.toNat : Int) > hi) = false := by simp; omega
 have g1 : lo ≤ b.toNat := by omega
 have g2 : b.toNat ≤ hi := by omega
 repeat (first | with_reducible (first | refine thenI ?_ | refine thenE ?_ | refine thenR ?_ | refine inBI ?_ | refine inBR ?_ | refine inBS ?_ | refine inBN (by decide) ?_) | refine W_seqS ?_ | refine W_seqC ?_ | refine W_seqB ?_ | refine W_block ?_ | refine W_skip ?_ | (apply W_condB; (case hc => (simp (disch := omega) only [go_sem, ↓reduceIte, Nat.reduceEqDiff, hlen, hix, w_index, ev_index, c1, c2, hby', c3, c4]); rfl); first | refine qzT ?_ | refine qzF ?_) | ((first | refine W_reg rfl fun G K hG hK => ?_ | refine W_end rfl fun G K hG hK => ?_); simp (disch := omega) only [go_sem, ↓reduceIte, Nat.reduceEqDiff, hG, hlen, hix, w_index, ev_index, c1, c2, hby', c3, c4]; refine hK _ _ ?_; clear hK K hG G))
 refine W_loop (fun d fr st' => ∃ (j : Nat) , d = r.length - j ∧ j ≤ r.length ∧ (st' = st) ∧ ((r.take j).all lowDig = true) ∧ (fr.env 0 = .string s) ∧ (fr.env 7 = .int .i64 ((j : Int) + 1))) (r.length) ?_ ?_
 ·exact ⟨0, by omega, by omega, rfl, by simp, (by refine ⟨?_, ?_⟩ <;> ((simp (disch := omega) only [go_sem, ↓reduceIte, Nat.reduceEqDiff, hlen, hix, w_index, ev_index]); try rfl))⟩
 rintro d ⟨env, loc⟩ st' ⟨j, hd, hj, hst, hall, e0, e7⟩
 simp only at e0 e7
 subst hst
 by_cases hlt : j < r.length
 ·have d1 : decide ((j : Int) + 1 < (s.size : Int)) = true := by simp; omega
  obtain ⟨x, q, hx, hxb, hq⟩ := drop_byte (s := s) (i := j + 1) (by omega)
  have hxr : r[j]? = some x := by
   have : s.data.toList[j + 1]? = some x := by rw [← List.head?_drop, hx]; rfl
   rw [hb] at this
   simpa using this
  have hxj : r[j] = x := by rw [List.getElem?_eq_getElem hlt] at hxr; exact Option.some.inj hxr
  have htk : r.take (j + 1) = r.take j ++ [x] := by rw [List.take_succ_eq_append_getElem hlt, hxj]
  have hxb' : byteAt s ((j : Int) + 1).toNat = (x.toNat : Int) := by rw [show ((j : Int) + 1).toNat = j + 1 by omega]; exact hxb
  have hld : lowDig x = ((decide (97 ≤ x.toNat) && decide (x.toNat ≤ 122)) || (decide (48 ≤ x.toNat) && decide (x.toNat ≤ 57))) := rfl
  have bad : lowDig x = false → (r.all lowDig) = false := fun h => by
   refine Bool.eq_false_iff.2 fun ha => ?_
   have := List.all_eq_true.1 ha x (hxj ▸ List.getElem_mem hlt)
   rw [h] at this; cases this
  by_cases k1 : x.toNat < 97
  ·have e1 : decide ((x.toNat : Int) < 97) = true := by simp; omega
   by_cases k3 : x.toNat < 48
   ·have e3 : decide ((x.toNat : Int) < 48) = true := by simp; omega
    repeat (first | with_reducible (first | refine thenI ?_ | refine thenE ?_ | refine thenR ?_ | refine inBI ?_ | refine inBR ?_ | refine inBS ?_ | refine inBN (by decide) ?_) | refine W_seqS ?_ | refine W_seqC ?_ | refine W_seqB ?_ | refine W_block ?_ | refine W_skip ?_ | (apply W_condB; (case hc => (simp (disch := omega) only [go_sem, ↓reduceIte, Nat.reduceEqDiff, hlen, hix, w_index, ev_index, e0, e7, d1, hxb', e1, e3]); rfl); first | refine qzT ?_ | refine qzF ?_) | ((first | refine W_reg rfl fun G K hG hK => ?_ | refine W_end rfl fun G K hG hK => ?_); simp (disch := omega) only [go_sem, ↓reduceIte, Nat.reduceEqDiff, hG, hlen, hix, w_index, ev_index, e0, e7, d1, hxb', e1, e3]; refine hK _ _ ?_; clear hK K hG G))
    refine W_ret ?_; try (repeat (with_reducible first | refine thenI ?_ | refine thenE ?_ | refine thenR ?_ | refine inBI ?_ | refine inBR ?_ | refine inBS ?_ | refine inBN (by decide) ?_))
    refine fin1 (.inl rfl) (by (simp (disch := omega) only [go_sem, ↓reduceIte, Nat.reduceEqDiff, hlen, hix, w_index, ev_index, e0, e7]); try rfl) rfl ⟨by rw [bad (by rw [hld]; simp; omega)]; simp, rfl⟩
   ·have e3 : decide ((x.toNat : Int) < 48) = false := by simp; omega
    by_cases k4 : x.toNat > 57
    ·have e4 : decide ((x.toNat : Int) > 57) = true := by simp; omega
     repeat (first | with_reducible (first | refine thenI ?_ | refine thenE ?_ | refine thenR ?_ | refine inBI ?_ | refine inBR ?_ | refine inBS ?_ | refine inBN (by decide) ?_) | refine W_seqS ?_ | refine W_seqC ?_ | refine W_seqB ?_ | refine W_block ?_ | refine W_skip ?_ | (apply W_condB; (case hc => (simp (disch := omega) only [go_sem, ↓reduceIte, Nat.reduceEqDiff, hlen, hix, w_index, ev_index, e0, e7, d1, hxb', e1, e3, e4]); rfl); first | refine qzT ?_ | refine qzF ?_) | ((first | refine W_reg rfl fun G K hG hK => ?_ | refine W_end rfl fun G K hG hK => ?_); simp (disch := omega) only [go_sem, ↓reduceIte, Nat.reduceEqDiff, hG, hlen, hix, w_index, ev_index, e0, e7, d1, hxb', e1, e3, e4]; refine hK _ _ ?_; clear hK K hG G))
     refine W_ret ?_; try (repeat (with_reducible first | refine thenI ?_ | refine thenE ?_ | refine thenR ?_ | refine inBI ?_ | refine inBR ?_ | refine inBS ?_ | refine inBN (by decide) ?_))
     refine fin1 (.inl rfl) (by (simp (disch := omega) only [go_sem, ↓reduceIte, Nat.reduceEqDiff, hlen, hix, w_index, ev_index, e0, e7]); try rfl) rfl ⟨by rw [bad (by rw [hld]; simp; omega)]; simp, rfl⟩
    ·have e4 : decide ((x.toNat : Int) > 57) = false := by simp; omega
     repeat (first | with_reducible (first | refine thenI ?_ | refine thenE ?_ | refine thenR ?_ | refine inBI ?_ | refine inBR ?_ | refine inBS ?_ | refine inBN (by decide) ?_) | refine W_seqS ?_ | refine W_seqC ?_ | refine W_seqB ?_ | refine W_block ?_ | refine W_skip ?_ | (apply W_condB; (case hc => (simp (disch := omega) only [go_sem, ↓reduceIte, Nat.reduceEqDiff, hlen, hix, w_index, ev_index, e0, e7, d1, hxb', e1, e3, e4]); rfl); first | refine qzT ?_ | refine qzF ?_) | ((first | refine W_reg rfl fun G K hG hK => ?_ | refine W_end rfl fun G K hG hK => ?_); simp (disch := omega) only [go_sem, ↓reduceIte, Nat.reduceEqDiff, hG, hlen, hix, w_index, ev_index, e0, e7, d1, hxb', e1, e3, e4]; refine hK _ _ ?_; clear hK K hG G))
     refine ⟨r.length - (j + 1), by omega, j + 1, rfl, by omega, rfl, by rw [htk, List.all_append, hall]; simp [hld]; omega, (by refine ⟨?_, ?_⟩ <;> ((simp (disch := omega) only [go_sem, ↓reduceIte, Nat.reduceEqDiff, hlen, hix, w_index, ev_index, e0, e7]); try rfl))⟩
  ·have e1 : decide ((x.toNat : Int) < 97) = false := by simp; omega
   by_cases k2 : x.toNat > 122
   ·have e2 : decide ((x.toNat : Int) > 122) = true := by simp; omega
    have e3 : decide ((x.toNat : Int) < 48) = false := by simp; omega
    have e4 : decide ((x.toNat : Int) > 57) = true := by simp; omega
    repeat (first | with_reducible (first | refine thenI ?_ | refine thenE ?_ | refine thenR ?_ | refine inBI ?_ | refine inBR ?_ | refine inBS ?_ | refine inBN (by decide) ?_) | refine W_seqS ?_ | refine W_seqC ?_ | refine W_seqB ?_ | refine W_block ?_ | refine W_skip ?_ | (apply W_condB; (case hc => (simp (disch := omega) only [go_sem, ↓reduceIte, Nat.reduceEqDiff, hlen, hix, w_index, ev_index, e0, e7, d1, hxb', e1, e2, e3, e4]); rfl); first | refine qzT ?_ | refine qzF ?_) | ((first | refine W_reg rfl fun G K hG hK => ?_ | refine W_end rfl fun G K hG hK => ?_); simp (disch := omega) only [go_sem, ↓reduceIte, Nat.reduceEqDiff, hG, hlen, hix, w_index, ev_index, e0, e7, d1, hxb', e1, e2, e3, e4]; refine hK _ _ ?_; clear hK K hG G))
    refine W_ret ?_; try (repeat (with_reducible first | refine thenI ?_ | refine thenE ?_ | refine thenR ?_ | refine inBI ?_ | refine inBR ?_ | refine inBS ?_ | refine inBN (by decide) ?_))
    refine fin1 (.inl rfl) (by (simp (disch := omega) only [go_sem, ↓reduceIte, Nat.reduceEqDiff, hlen, hix, w_index, ev_index, e0, e7]); try rfl) rfl ⟨by rw [bad (by rw [hld]; simp; omega)]; simp, rfl⟩
   ·have e2 : decide ((x.toNat : Int) > 122) = false := by simp; omega
    repeat (first | with_reducible (first | refine thenI ?_ | refine thenE ?_ | refine thenR ?_ | refine inBI ?_ | refine inBR ?_ | refine inBS ?_ | refine inBN (by decide) ?_) | refine W_seqS ?_ | refine W_seqC ?_ | refine W_seqB ?_ | refine W_block ?_ | refine W_skip ?_ | (apply W_condB; (case hc => (simp (disch := omega) only [go_sem, ↓reduceIte, Nat.reduceEqDiff, hlen, hix, w_index, ev_index, e0, e7, d1, hxb', e1, e2]); rfl); first | refine qzT ?_ | refine qzF ?_) | ((first | refine W_reg rfl fun G K hG hK => ?_ | refine W_end rfl fun G K hG hK => ?_); simp (disch := omega) only [go_sem, ↓reduceIte, Nat.reduceEqDiff, hG, hlen, hix, w_index, ev_index, e0, e7, d1, hxb', e1, e2]; refine hK _ _ ?_; clear hK K hG G))
    refine ⟨r.length - (j + 1), by omega, j + 1, rfl, by omega, rfl, by rw [htk, List.all_append, hall]; simp [hld]; omega, (by refine ⟨?_, ?_⟩ <;> ((simp (disch := omega) only [go_sem, ↓reduceIte, Nat.reduceEqDiff, hlen, hix, w_index, ev_index, e0, e7]); try rfl))⟩
 ·have d1 : decide ((j : Int) + 1 < (s.size : Int)) = false := by simp; omega
  obtain rfl : j = r.length := by omega
  rw [List.take_length] at hall
  repeat (first | with_reducible (first | refine thenI ?_ | refine thenE ?_ | refine thenR ?_ | refine inBI ?_ | refine inBR ?_ | refine inBS ?_ | refine inBN (by decide) ?_) | refine W_seqS ?_ | refine W_seqC ?_ | refine W_seqB ?_ | refine W_block ?_ | refine W_skip ?_ | (apply W_condB; (case hc => (simp (disch := omega) only [go_sem, ↓reduceIte, Nat.reduceEqDiff, hlen, hix, w_index, ev_index, e0, e7, d1]); rfl); first | refine qzT ?_ | refine qzF ?_) | ((first | refine W_reg rfl fun G K hG hK => ?_ | refine W_end rfl fun G K hG hK => ?_); simp (disch := omega) only [go_sem, ↓reduceIte, Nat.reduceEqDiff, hG, hlen, hix, w_index, ev_index, e0, e7, d1]; refine hK _ _ ?_; clear hK K hG G))
  refine W_exit ?_; repeat (with_reducible first | refine thenI ?_ | refine thenE ?_ | refine thenR ?_ | refine inBI ?_ | refine inBR ?_ | refine inBS ?_ | refine inBN (by decide) ?_)
  repeat (first | with_reducible (first | refine thenI ?_ | refine thenE ?_ | refine thenR ?_ | refine inBI ?_ | refine inBR ?_ | refine inBS ?_ | refine inBN (by decide) ?_) | refine W_seqS ?_ | refine W_seqC ?_ | refine W_seqB ?_ | refine W_block ?_ | refine W_skip ?_ | (apply W_condB; (case hc => (simp (disch := omega) only [go_sem, ↓reduceIte, Nat.reduceEqDiff, hlen, hix, w_index, ev_index, e0, e7]); rfl); first | refine qzT ?_ | refine qzF ?_) | ((first | refine W_reg rfl fun G K hG hK => ?_ | refine W_end rfl fun G K hG hK => ?_); simp (disch := omega) only [go_sem, ↓reduceIte, Nat.reduceEqDiff, hG, hlen, hix, w_index, ev_index, e0, e7]; refine hK _ _ ?_; clear hK K hG G))
  refine W_ret ?_; try (repeat (with_reducible first | refine thenI ?_ | refine thenE ?_ | refine thenR ?_ | refine inBI ?_ | refine inBR ?_ | refine inBS ?_ | refine inBN (by decide) ?_))
  refine fin1 (.inl rfl) (by (simp (disch := omega) only [go_sem, ↓reduceIte, Nat.reduceEqDiff, hlen, hix, w_index, ev_index, e0, e7]); try rfl) rfl ⟨by simp [g1, g2, h7, hall], rfl⟩
theorem implIsName_ok (s : ByteArray) (st : St) : CallS Try.prog 27 [.string s] st fun r st' => r = .bool (isName s) ∧ st' = st := by
 refine CallS_of_W [] 5 Try.func27 rfl rfl rfl rfl (by simp) ?_
 repeat (first | with_reducible (first | refine thenI ?_ | refine thenE ?_ | refine thenR ?_ | refine inBI ?_ | refine inBR ?_ | refine inBS ?_ | refine inBN (by decide) ?_) | refine W_seqS ?_ | refine W_seqC ?_ | refine W_seqB ?_ | refine W_block ?_ | refine W_skip ?_ | (apply W_condB; (case hc => (simp (disch := omega) only [go_sem, ↓reduceIte, Nat.reduceEqDiff]); rfl); first | refine qzT ?_ | refine qzF ?_) | ((first | refine W_reg rfl fun G K hG hK => ?_ | refine W_end rfl fun G K hG hK => ?_); simp (disch := omega) only [go_sem, ↓reduceIte, Nat.reduceEqDiff, hG]; refine hK _ _ ?_; clear hK K hG G))
 (repeat (first | refine W_seqS ?_ | refine W_seqC ?_ | refine W_seqB ?_ | refine W_block ?_)); refine W_reg rfl fun G K hG hK => ?_; simp (disch := omega) only [go_sem, ↓reduceIte, Nat.reduceEqDiff, hG]
 refine w_call ((show CallS Try.prog _ [.string s, .int .u8 97, .int .u8 122] st _ from implNamed_ok s 97 122 st)) (by simp (disch := omega) only [go_sem, ↓reduceIte, Nat.reduceEqDiff]) ?hl ?_
 case hl => first | rfl | (simp only [go_sem, List.all_cons, List.all_nil, Bool.not_false, Bool.and_self]; done)
 rintro r_ st ⟨rfl, rfl⟩; refine ⟨fun e => (by cases e), ?_⟩
 simp (disch := omega) only [go_sem, ↓reduceIte, Nat.reduceEqDiff, hG]; refine hK _ _ ?_; clear hK K hG G; repeat (with_reducible first | refine thenI ?_ | refine thenE ?_ | refine thenR ?_ | refine inBI ?_ | refine inBR ?_ | refine inBS ?_ | refine inBN (by decide) ?_)
 refine W_ret ?_; try (repeat (with_reducible first | refine thenI ?_ | refine thenE ?_ | refine thenR ?_ | refine inBI ?_ | refine inBR ?_ | refine inBS ?_ | refine inBN (by decide) ?_))
 refine fin1 (.inl rfl) (by (simp (disch := omega) only [go_sem, ↓reduceIte, Nat.reduceEqDiff]); try rfl) rfl ⟨rfl, rfl⟩
theorem l2Lower_ok (x : Nat) (st : St) : CallS Try.prog 49 [.int .u8 x] st fun r st' => r = .bool (decide (97 ≤ x) && decide (x ≤ 122)) ∧ st' = st := by
 refine CallS_of_W [] 9 Try.func49 rfl rfl rfl rfl (by simp) ?_
 by_cases h1 : 97 ≤ x
 ·have c1 : decide ((x : Int) ≥ 97) = true := by simp; omega
  by_cases h2 : x ≤ 122
  ·have c2 : decide ((x : Int) ≤ 122) = true := by simp; omega
   repeat (first | with_reducible (first | refine thenI ?_ | refine thenE ?_ | refine thenR ?_ | refine inBI ?_ | refine inBR ?_ | refine inBS ?_ | refine inBN (by decide) ?_) | refine W_seqS ?_ | refine W_seqC ?_ | refine W_seqB ?_ | refine W_block ?_ | refine W_skip ?_ | (apply W_condB; (case hc => (simp (disch := omega) only [go_sem, ↓reduceIte, Nat.reduceEqDiff, c1, c2]); rfl); first | refine qzT ?_ | refine qzF ?_) | ((first | refine W_reg rfl fun G K hG hK => ?_ | refine W_end rfl fun G K hG hK => ?_); simp (disch := omega) only [go_sem, ↓reduceIte, Nat.reduceEqDiff, hG, c1, c2]; refine hK _ _ ?_; clear hK K hG G))
   refine W_ret ?_; try (repeat (with_reducible first | refine thenI ?_ | refine thenE ?_ | refine thenR ?_ | refine inBI ?_ | refine inBR ?_ | refine inBS ?_ | refine inBN (by decide) ?_))
   refine fin1 (.inl rfl) (by (simp (disch := omega) only [go_sem, ↓reduceIte, Nat.reduceEqDiff]); try rfl) rfl ⟨by simp [h1, h2], rfl⟩
  ·have c2 : decide ((x : Int) ≤ 122) = false := by simp; omega
   repeat (first | with_reducible (first | refine thenI ?_ | refine thenE ?_ | refine thenR ?_ | refine inBI ?_ | refine inBR ?_ | refine inBS ?_ | refine inBN (by decide) ?_) | refine W_seqS ?_ | refine W_seqC ?_ | refine W_seqB ?_ | refine W_block ?_ | refine W_skip ?_ | (apply W_condB; (case hc => (simp (disch := omega) only [go_sem, ↓reduceIte, Nat.reduceEqDiff, c1, c2]); rfl); first | refine qzT ?_ | refine qzF ?_) | ((first | refine W_reg rfl fun G K hG hK => ?_ | refine W_end rfl fun G K hG hK => ?_); simp (disch := omega) only [go_sem, ↓reduceIte, Nat.reduceEqDiff, hG, c1, c2]; refine hK _ _ ?_; clear hK K hG G))
   refine W_ret ?_; try (repeat (with_reducible first | refine thenI ?_ | refine thenE ?_ | refine thenR ?_ | refine inBI ?_ | refine inBR ?_ | refine inBS ?_ | refine inBN (by decide) ?_))
   refine fin1 (.inl rfl) (by (simp (disch := omega) only [go_sem, ↓reduceIte, Nat.reduceEqDiff]); try rfl) rfl ⟨by simp [h1, h2], rfl⟩
 ·have c1 : decide ((x : Int) ≥ 97) = false := by simp; omega
  repeat (first | with_reducible (first | refine thenI ?_ | refine thenE ?_ | refine thenR ?_ | refine inBI ?_ | refine inBR ?_ | refine inBS ?_ | refine inBN (by decide) ?_) | refine W_seqS ?_ | refine W_seqC ?_ | refine W_seqB ?_ | refine W_block ?_ | refine W_skip ?_ | (apply W_condB; (case hc => (simp (disch := omega) only [go_sem, ↓reduceIte, Nat.reduceEqDiff, c1]); rfl); first | refine qzT ?_ | refine qzF ?_) | ((first | refine W_reg rfl fun G K hG hK => ?_ | refine W_end rfl fun G K hG hK => ?_); simp (disch := omega) only [go_sem, ↓reduceIte, Nat.reduceEqDiff, hG, c1]; refine hK _ _ ?_; clear hK K hG G))
  refine W_ret ?_; try (repeat (with_reducible first | refine thenI ?_ | refine thenE ?_ | refine thenR ?_ | refine inBI ?_ | refine inBR ?_ | refine inBS ?_ | refine inBN (by decide) ?_))
  refine fin1 (.inl rfl) (by (simp (disch := omega) only [go_sem, ↓reduceIte, Nat.reduceEqDiff]); try rfl) rfl ⟨by simp [h1], rfl⟩
theorem l2Digit_ok (x : Nat) (st : St) : CallS Try.prog 64 [.int .u8 x] st fun r st' => r = .bool (decide (48 ≤ x) && decide (x ≤ 57)) ∧ st' = st := by
 refine CallS_of_W [] 9 Try.func64 rfl rfl rfl rfl (by simp) ?_
 by_cases h1 : 48 ≤ x
 ·have c1 : decide ((x : Int) ≥ 48) = true := by simp; omega
  by_cases h2 : x ≤ 57
  ·have c2 : decide ((x : Int) ≤ 57) = true := by simp; omega
   repeat (first | with_reducible (first | refine thenI ?_ | refine thenE ?_ | refine thenR ?_ | refine inBI ?_ | refine inBR ?_ | refine inBS ?_ | refine inBN (by decide) ?_) | refine W_seqS ?_ | refine W_seqC ?_ | refine W_seqB ?_ | refine W_block ?_ | refine W_skip ?_ | (apply W_condB; (case hc => (simp (disch := omega) only [go_sem, ↓reduceIte, Nat.reduceEqDiff, c1, c2]); rfl); first | refine qzT ?_ | refine qzF ?_) | ((first | refine W_reg rfl fun G K hG hK => ?_ | refine W_end rfl fun G K hG hK => ?_); simp (disch := omega) only [go_sem, ↓reduceIte, Nat.reduceEqDiff, hG, c1, c2]; refine hK _ _ ?_; clear hK K hG G))
   refine W_ret ?_; try (repeat (with_reducible first | refine thenI ?_ | refine thenE ?_ | refine thenR ?_ | refine inBI ?_ | refine inBR ?_ | refine inBS ?_ | refine inBN (by decide) ?_))
   refine fin1 (.inl rfl) (by (simp (disch := omega) only [go_sem, ↓reduceIte, Nat.reduceEqDiff]); try rfl) rfl ⟨by simp [h1, h2], rfl⟩
  ·have c2 : decide ((x : Int) ≤ 57) = false := by simp; omega
   repeat (first | with_reducible (first | refine thenI ?_ | refine thenE ?_ | refine thenR ?_ | refine inBI ?_ | refine inBR ?_ | refine inBS ?_ | refine inBN (by decide) ?_) | refine W_seqS ?_ | refine W_seqC ?_ | refine W_seqB ?_ | refine W_block ?_ | refine W_skip ?_ | (apply W_condB; (case hc => (simp (disch := omega) only [go_sem, ↓reduceIte, Nat.reduceEqDiff, c1, c2]); rfl); first | refine qzT ?_ | refine qzF ?_) | ((first | refine W_reg rfl fun G K hG hK => ?_ | refine W_end rfl fun G K hG hK => ?_); simp (disch := omega) only [go_sem, ↓reduceIte, Nat.reduceEqDiff, hG, c1, c2]; refine hK _ _ ?_; clear hK K hG G))
   refine W_ret ?_; try (repeat (with_reducible first | refine thenI ?_ | refine thenE ?_ | refine thenR ?_ | refine inBI ?_ | refine inBR ?_ | refine inBS ?_ | refine inBN (by decide) ?_))
   refine fin1 (.inl rfl) (by (simp (disch := omega) only [go_sem, ↓reduceIte, Nat.reduceEqDiff]); try rfl) rfl ⟨by simp [h1, h2], rfl⟩
 ·have c1 : decide ((x : Int) ≥ 48) = false := by simp; omega
  repeat (first | with_reducible (first | refine thenI ?_ | refine thenE ?_ | refine thenR ?_ | refine inBI ?_ | refine inBR ?_ | refine inBS ?_ | refine inBN (by decide) ?_) | refine W_seqS ?_ | refine W_seqC ?_ | refine W_seqB ?_ | refine W_block ?_ | refine W_skip ?_ | (apply W_condB; (case hc => (simp (disch := omega) only [go_sem, ↓reduceIte, Nat.reduceEqDiff, c1]); rfl); first | refine qzT ?_ | refine qzF ?_) | ((first | refine W_reg rfl fun G K hG hK => ?_ | refine W_end rfl fun G K hG hK => ?_); simp (disch := omega) only [go_sem, ↓reduceIte, Nat.reduceEqDiff, hG, c1]; refine hK _ _ ?_; clear hK K hG G))
  refine W_ret ?_; try (repeat (with_reducible first | refine thenI ?_ | refine thenE ?_ | refine thenR ?_ | refine inBI ?_ | refine inBR ?_ | refine inBS ?_ | refine inBN (by decide) ?_))
  refine fin1 (.inl rfl) (by (simp (disch := omega) only [go_sem, ↓reduceIte, Nat.reduceEqDiff]); try rfl) rfl ⟨by simp [h1], rfl⟩
theorem l2Rest_ok (s : ByteArray) (b : UInt8) (r : List UInt8) (hb : s.data.toList = b :: r) (hbig : s.size ≤ 9223372036854775807) (st : St) : CallS Try.prog 50 [.string s] st fun v st' => v = .bool (r.all lowDig && decide (r.length ≤ 7)) ∧ st' = st := by
 refine CallS_of_W [] 25 Try.func50 rfl rfl rfl rfl (by simp) ?_
 have hlen : lenE Try.prog 9 (.string s) = some (.int .i64 s.size) := len_str Try.underlying9
 have hix := fun (k : IntKind) (i : Int) (h0 : 0 ≤ i) (h1 : i < s.size) => idxS (k := k) Try.underlying9 h0 h1
 have hsz : s.size = r.length + 1 := by rw [size_list, hb]; simp
 repeat (first | with_reducible (first | refine thenI ?_ | refine thenE ?_ | refine thenR ?_ | refine inBI ?_ | refine inBR ?_ | refine inBS ?_ | refine inBN (by decide) ?_) | refine W_seqS ?_ | refine W_seqC ?_ | refine W_seqB ?_ | refine W_block ?_ | refine W_skip ?_ | (apply W_condB; (case hc => (simp (disch := omega) only [go_sem, ↓reduceIte, Nat.reduceEqDiff, hlen, hix, w_index, ev_index]); rfl); first | refine qzT ?_ | refine qzF ?_) | ((first | refine W_reg rfl fun G K hG hK => ?_ | refine W_end rfl fun G K hG hK => ?_); simp (disch := omega) only [go_sem, ↓reduceIte, Nat.reduceEqDiff, hG, hlen, hix, w_index, ev_index]; refine hK _ _ ?_; clear hK K hG G))
 refine W_loop (fun d fr st' => ∃ (j : Nat) , d = r.length - j ∧ j ≤ r.length ∧ (st' = st) ∧ ((r.take j).all lowDig = true) ∧ (fr.env 0 = .string s) ∧ (fr.env 3 = .int .i64 ((j : Int) + 1))) (r.length) ?_ ?_
 ·exact ⟨0, by omega, by omega, rfl, by simp, (by refine ⟨?_, ?_⟩ <;> ((simp (disch := omega) only [go_sem, ↓reduceIte, Nat.reduceEqDiff, hlen, hix, w_index, ev_index]); try rfl))⟩
 rintro d ⟨env, loc⟩ st' ⟨j, hd, hj, hst, hall, e0, e3⟩
 simp only at e0 e3
 subst hst
 by_cases hlt : j < r.length
 ·have d1 : decide ((j : Int) + 1 < (s.size : Int)) = true := by simp; omega
  obtain ⟨x, q, hx, hxb, hq⟩ := drop_byte (s := s) (i := j + 1) (by omega)
  have hxr : r[j]? = some x := by
   have : s.data.toList[j + 1]? = some x := by rw [← List.head?_drop, hx]; rfl
   rw [hb] at this
   simpa using this
  have hxj : r[j] = x := by rw [List.getElem?_eq_getElem hlt] at hxr; exact Option.some.inj hxr
  have htk : r.take (j + 1) = r.take j ++ [x] := by rw [List.take_succ_eq_append_getElem hlt, hxj]
  have hxb' : byteAt s ((j : Int) + 1).toNat = (x.toNat : Int) := by rw [show ((j : Int) + 1).toNat = j + 1 by omega]; exact hxb
  have hld : lowDig x = ((decide (97 ≤ x.toNat) && decide (x.toNat ≤ 122)) || (decide (48 ≤ x.toNat) && decide (x.toNat ≤ 57))) := rfl
  have bad : lowDig x = false → (r.all lowDig) = false := fun h => by
   refine Bool.eq_false_iff.2 fun ha => ?_
   have := List.all_eq_true.1 ha x (hxj ▸ List.getElem_mem hlt)
   rw [h] at this; cases this
  cases k1 : (decide (97 ≤ x.toNat) && decide (x.toNat ≤ 122)) with
  | true =>
   repeat (first | with_reducible (first | refine thenI ?_ | refine thenE ?_ | refine thenR ?_ | refine inBI ?_ | refine inBR ?_ | refine inBS ?_ | refine inBN (by decide) ?_) | refine W_seqS ?_ | refine W_seqC ?_ | refine W_seqB ?_ | refine W_block ?_ | refine W_skip ?_ | (apply W_condB; (case hc => (simp (disch := omega) only [go_sem, ↓reduceIte, Nat.reduceEqDiff, hlen, hix, w_index, ev_index, e0, e3, d1]); rfl); first | refine qzT ?_ | refine qzF ?_) | ((first | refine W_reg rfl fun G K hG hK => ?_ | refine W_end rfl fun G K hG hK => ?_); simp (disch := omega) only [go_sem, ↓reduceIte, Nat.reduceEqDiff, hG, hlen, hix, w_index, ev_index, e0, e3, d1]; refine hK _ _ ?_; clear hK K hG G))
   (repeat (first | refine W_seqS ?_ | refine W_seqC ?_ | refine W_seqB ?_ | refine W_block ?_)); refine W_reg rfl fun G K hG hK => ?_; simp (disch := omega) only [go_sem, ↓reduceIte, Nat.reduceEqDiff, hG, hlen, hix, w_index, ev_index, e0, e3, hxb']
   refine w_call (l2Lower_ok x.toNat st') (by simp (disch := omega) only [go_sem, ↓reduceIte, Nat.reduceEqDiff, hlen, hix, w_index, ev_index, e0, e3, hxb']) ?hl ?_
   case hl => first | rfl | (simp only [go_sem, List.all_cons, List.all_nil, Bool.not_false, Bool.and_self, hlen, hix, w_index, ev_index, e0, e3, hxb']; done)
   rintro r_ st' ⟨rfl, rfl⟩; refine ⟨fun e => (by cases e), ?_⟩
   simp (disch := omega) only [go_sem, ↓reduceIte, Nat.reduceEqDiff, hG, hlen, hix, w_index, ev_index, e0, e3, k1]; refine hK _ _ ?_; clear hK K hG G; repeat (with_reducible first | refine thenI ?_ | refine thenE ?_ | refine thenR ?_ | refine inBI ?_ | refine inBR ?_ | refine inBS ?_ | refine inBN (by decide) ?_)
   repeat (first | with_reducible (first | refine thenI ?_ | refine thenE ?_ | refine thenR ?_ | refine inBI ?_ | refine inBR ?_ | refine inBS ?_ | refine inBN (by decide) ?_) | refine W_seqS ?_ | refine W_seqC ?_ | refine W_seqB ?_ | refine W_block ?_ | refine W_skip ?_ | (apply W_condB; (case hc => (simp (disch := omega) only [go_sem, ↓reduceIte, Nat.reduceEqDiff, hlen, hix, w_index, ev_index, e0, e3]); rfl); first | refine qzT ?_ | refine qzF ?_) | ((first | refine W_reg rfl fun G K hG hK => ?_ | refine W_end rfl fun G K hG hK => ?_); simp (disch := omega) only [go_sem, ↓reduceIte, Nat.reduceEqDiff, hG, hlen, hix, w_index, ev_index, e0, e3]; refine hK _ _ ?_; clear hK K hG G))
   refine ⟨r.length - (j + 1), by omega, j + 1, rfl, by omega, rfl, by rw [htk, List.all_append, hall]; simp [hld, k1], (by refine ⟨?_, ?_⟩ <;> ((simp (disch := omega) only [go_sem, ↓reduceIte, Nat.reduceEqDiff, hlen, hix, w_index, ev_index, e0, e3]); try rfl))⟩
  | false =>
   cases k2 : (decide (48 ≤ x.toNat) && decide (x.toNat ≤ 57)) with
   | true =>
    repeat (first | with_reducible (first | refine thenI ?_ | refine thenE ?_ | refine thenR ?_ | refine inBI ?_ | refine inBR ?_ | refine inBS ?_ | refine inBN (by decide) ?_) | refine W_seqS ?_ | refine W_seqC ?_ | refine W_seqB ?_ | refine W_block ?_ | refine W_skip ?_ | (apply W_condB; (case hc => (simp (disch := omega) only [go_sem, ↓reduceIte, Nat.reduceEqDiff, hlen, hix, w_index, ev_index, e0, e3, d1]); rfl); first | refine qzT ?_ | refine qzF ?_) | ((first | refine W_reg rfl fun G K hG hK => ?_ | refine W_end rfl fun G K hG hK => ?_); simp (disch := omega) only [go_sem, ↓reduceIte, Nat.reduceEqDiff, hG, hlen, hix, w_index, ev_index, e0, e3, d1]; refine hK _ _ ?_; clear hK K hG G))
    (repeat (first | refine W_seqS ?_ | refine W_seqC ?_ | refine W_seqB ?_ | refine W_block ?_)); refine W_reg rfl fun G K hG hK => ?_; simp (disch := omega) only [go_sem, ↓reduceIte, Nat.reduceEqDiff, hG, hlen, hix, w_index, ev_index, e0, e3, hxb']
    refine w_call (l2Lower_ok x.toNat st') (by simp (disch := omega) only [go_sem, ↓reduceIte, Nat.reduceEqDiff, hlen, hix, w_index, ev_index, e0, e3, hxb']) ?hl ?_
    case hl => first | rfl | (simp only [go_sem, List.all_cons, List.all_nil, Bool.not_false, Bool.and_self, hlen, hix, w_index, ev_index, e0, e3, hxb']; done)
    rintro r_ st' ⟨rfl, rfl⟩; refine ⟨fun e => (by cases e), ?_⟩
    simp (disch := omega) only [go_sem, ↓reduceIte, Nat.reduceEqDiff, hlen, hix, w_index, ev_index, e0, e3, hG, hxb', k1]
    refine w_call (l2Digit_ok x.toNat st') (by simp (disch := omega) only [go_sem, ↓reduceIte, Nat.reduceEqDiff, hlen, hix, w_index, ev_index, e0, e3, hxb']) ?hl ?_
    case hl => first | rfl | (simp only [go_sem, List.all_cons, List.all_nil, Bool.not_false, Bool.and_self, hlen, hix, w_index, ev_index, e0, e3, hxb']; done)
    rintro r_ st' ⟨rfl, rfl⟩; refine ⟨fun e => (by cases e), ?_⟩
    simp (disch := omega) only [go_sem, ↓reduceIte, Nat.reduceEqDiff, hG, hlen, hix, w_index, ev_index, e0, e3, k2]; refine hK _ _ ?_; clear hK K hG G; repeat (with_reducible first | refine thenI ?_ | refine thenE ?_ | refine thenR ?_ | refine inBI ?_ | refine inBR ?_ | refine inBS ?_ | refine inBN (by decide) ?_)
    repeat (first | with_reducible (first | refine thenI ?_ | refine thenE ?_ | refine thenR ?_ | refine inBI ?_ | refine inBR ?_ | refine inBS ?_ | refine inBN (by decide) ?_) | refine W_seqS ?_ | refine W_seqC ?_ | refine W_seqB ?_ | refine W_block ?_ | refine W_skip ?_ | (apply W_condB; (case hc => (simp (disch := omega) only [go_sem, ↓reduceIte, Nat.reduceEqDiff, hlen, hix, w_index, ev_index, e0, e3]); rfl); first | refine qzT ?_ | refine qzF ?_) | ((first | refine W_reg rfl fun G K hG hK => ?_ | refine W_end rfl fun G K hG hK => ?_); simp (disch := omega) only [go_sem, ↓reduceIte, Nat.reduceEqDiff, hG, hlen, hix, w_index, ev_index, e0, e3]; refine hK _ _ ?_; clear hK K hG G))
    refine ⟨r.length - (j + 1), by omega, j + 1, rfl, by omega, rfl, by rw [htk, List.all_append, hall]; simp [hld, k1, k2], (by refine ⟨?_, ?_⟩ <;> ((simp (disch := omega) only [go_sem, ↓reduceIte, Nat.reduceEqDiff, hlen, hix, w_index, ev_index, e0, e3]); try rfl))⟩
   | false =>
    repeat (first | with_reducible (first | refine thenI ?_ | refine thenE ?_ | refine thenR ?_ | refine inBI ?_ | refine inBR ?_ | refine inBS ?_ | refine inBN (by decide) ?_) | refine W_seqS ?_ | refine W_seqC ?_ | refine W_seqB ?_ | refine W_block ?_ | refine W_skip ?_ | (apply W_condB; (case hc => (simp (disch := omega) only [go_sem, ↓reduceIte, Nat.reduceEqDiff, hlen, hix, w_index, ev_index, e0, e3, d1]); rfl); first | refine qzT ?_ | refine qzF ?_) | ((first | refine W_reg rfl fun G K hG hK => ?_ | refine W_end rfl fun G K hG hK => ?_); simp (disch := omega) only [go_sem, ↓reduceIte, Nat.reduceEqDiff, hG, hlen, hix, w_index, ev_index, e0, e3, d1]; refine hK _ _ ?_; clear hK K hG G))
    (repeat (first | refine W_seqS ?_ | refine W_seqC ?_ | refine W_seqB ?_ | refine W_block ?_)); refine W_reg rfl fun G K hG hK => ?_; simp (disch := omega) only [go_sem, ↓reduceIte, Nat.reduceEqDiff, hG, hlen, hix, w_index, ev_index, e0, e3, hxb']
    refine w_call (l2Lower_ok x.toNat st') (by simp (disch := omega) only [go_sem, ↓reduceIte, Nat.reduceEqDiff, hlen, hix, w_index, ev_index, e0, e3, hxb']) ?hl ?_
    case hl => first | rfl | (simp only [go_sem, List.all_cons, List.all_nil, Bool.not_false, Bool.and_self, hlen, hix, w_index, ev_index, e0, e3, hxb']; done)
    rintro r_ st' ⟨rfl, rfl⟩; refine ⟨fun e => (by cases e), ?_⟩
    simp (disch := omega) only [go_sem, ↓reduceIte, Nat.reduceEqDiff, hlen, hix, w_index, ev_index, e0, e3, hG, hxb', k1]
    refine w_call (l2Digit_ok x.toNat st') (by simp (disch := omega) only [go_sem, ↓reduceIte, Nat.reduceEqDiff, hlen, hix, w_index, ev_index, e0, e3, hxb']) ?hl ?_
    case hl => first | rfl | (simp only [go_sem, List.all_cons, List.all_nil, Bool.not_false, Bool.and_self, hlen, hix, w_index, ev_index, e0, e3, hxb']; done)
    rintro r_ st' ⟨rfl, rfl⟩; refine ⟨fun e => (by cases e), ?_⟩
    simp (disch := omega) only [go_sem, ↓reduceIte, Nat.reduceEqDiff, hG, hlen, hix, w_index, ev_index, e0, e3, k2]; refine hK _ _ ?_; clear hK K hG G; repeat (with_reducible first | refine thenI ?_ | refine thenE ?_ | refine thenR ?_ | refine inBI ?_ | refine inBR ?_ | refine inBS ?_ | refine inBN (by decide) ?_)
    repeat (first | with_reducible (first | refine thenI ?_ | refine thenE ?_ | refine thenR ?_ | refine inBI ?_ | refine inBR ?_ | refine inBS ?_ | refine inBN (by decide) ?_) | refine W_seqS ?_ | refine W_seqC ?_ | refine W_seqB ?_ | refine W_block ?_ | refine W_skip ?_ | (apply W_condB; (case hc => (simp (disch := omega) only [go_sem, ↓reduceIte, Nat.reduceEqDiff, hlen, hix, w_index, ev_index, e0, e3]); rfl); first | refine qzT ?_ | refine qzF ?_) | ((first | refine W_reg rfl fun G K hG hK => ?_ | refine W_end rfl fun G K hG hK => ?_); simp (disch := omega) only [go_sem, ↓reduceIte, Nat.reduceEqDiff, hG, hlen, hix, w_index, ev_index, e0, e3]; refine hK _ _ ?_; clear hK K hG G))
    refine W_ret ?_; try (repeat (with_reducible first | refine thenI ?_ | refine thenE ?_ | refine thenR ?_ | refine inBI ?_ | refine inBR ?_ | refine inBS ?_ | refine inBN (by decide) ?_))
    refine fin1 (.inl rfl) (by (simp (disch := omega) only [go_sem, ↓reduceIte, Nat.reduceEqDiff, hlen, hix, w_index, ev_index, e0, e3]); try rfl) rfl ⟨by rw [bad (by rw [hld, k1, k2]; rfl)]; rfl, rfl⟩
 ·have d1 : decide ((j : Int) + 1 < (s.size : Int)) = false := by simp; omega
  obtain rfl : j = r.length := by omega
  rw [List.take_length] at hall
  repeat (first | with_reducible (first | refine thenI ?_ | refine thenE ?_ | refine thenR ?_ | refine inBI ?_ | refine inBR ?_ | refine inBS ?_ | refine inBN (by decide) ?_) | refine W_seqS ?_ | refine W_seqC ?_ | refine W_seqB ?_ | refine W_block ?_ | refine W_skip ?_ | (apply W_condB; (case hc => (simp (disch := omega) only [go_sem, ↓reduceIte, Nat.reduceEqDiff, hlen, hix, w_index, ev_index, e0, e3, d1]); rfl); first | refine qzT ?_ | refine qzF ?_) | ((first | refine W_reg rfl fun G K hG hK => ?_ | refine W_end rfl fun G K hG hK => ?_); simp (disch := omega) only [go_sem, ↓reduceIte, Nat.reduceEqDiff, hG, hlen, hix, w_index, ev_index, e0, e3, d1]; refine hK _ _ ?_; clear hK K hG G))
  refine W_exit ?_; repeat (with_reducible first | refine thenI ?_ | refine thenE ?_ | refine thenR ?_ | refine inBI ?_ | refine inBR ?_ | refine inBS ?_ | refine inBN (by decide) ?_)
  repeat (first | with_reducible (first | refine thenI ?_ | refine thenE ?_ | refine thenR ?_ | refine inBI ?_ | refine inBR ?_ | refine inBS ?_ | refine inBN (by decide) ?_) | refine W_seqS ?_ | refine W_seqC ?_ | refine W_seqB ?_ | refine W_block ?_ | refine W_skip ?_ | (apply W_condB; (case hc => (simp (disch := omega) only [go_sem, ↓reduceIte, Nat.reduceEqDiff, hlen, hix, w_index, ev_index, e0, e3]); rfl); first | refine qzT ?_ | refine qzF ?_) | ((first | refine W_reg rfl fun G K hG hK => ?_ | refine W_end rfl fun G K hG hK => ?_); simp (disch := omega) only [go_sem, ↓reduceIte, Nat.reduceEqDiff, hG, hlen, hix, w_index, ev_index, e0, e3]; refine hK _ _ ?_; clear hK K hG G))
  (repeat (first | refine W_seqS ?_ | refine W_seqC ?_ | refine W_seqB ?_ | refine W_block ?_)); refine W_reg rfl fun G K hG hK => ?_; simp (disch := omega) only [go_sem, ↓reduceIte, Nat.reduceEqDiff, hG, hlen, hix, w_index, ev_index, e0, e3]
  refine w_call (l1In_ok s.size 1 8 st') (by simp (disch := omega) only [go_sem, ↓reduceIte, Nat.reduceEqDiff, hlen, hix, w_index, ev_index, e0, e3]) ?hl ?_
  case hl => first | rfl | (simp only [go_sem, List.all_cons, List.all_nil, Bool.not_false, Bool.and_self, hlen, hix, w_index, ev_index, e0, e3]; done)
  rintro r_ st' ⟨rfl, rfl⟩; refine ⟨fun e => (by cases e), ?_⟩
  simp (disch := omega) only [go_sem, ↓reduceIte, Nat.reduceEqDiff, hG, hlen, hix, w_index, ev_index, e0, e3]; refine hK _ _ ?_; clear hK K hG G; repeat (with_reducible first | refine thenI ?_ | refine thenE ?_ | refine thenR ?_ | refine inBI ?_ | refine inBR ?_ | refine inBS ?_ | refine inBN (by decide) ?_)
  refine W_ret ?_; try (repeat (with_reducible first | refine thenI ?_ | refine thenE ?_ | refine thenR ?_ | refine inBI ?_ | refine inBR ?_ | refine inBS ?_ | refine inBN (by decide) ?_))
  refine fin1 (.inl rfl) (by (simp (disch := omega) only [go_sem, ↓reduceIte, Nat.reduceEqDiff, hlen, hix, w_index, ev_index, e0, e3]); try rfl) rfl ⟨?_, rfl⟩
  rw [hall]
  congr 1
  have e1 : decide ((s.size : Int) ≥ 1) = true := by simp; omega
  rw [e1]
  simp only [Bool.true_and]
  rw [decide_eq_decide]
  omega
theorem neq_empty {s : ByteArray} : (s.toList == (⟨#[]⟩ : ByteArray).toList) = s.data.toList.isEmpty := by
 rw [Lib.toList_data, Lib.toList_data]
 cases s.data.toList <;> rfl
theorem specIsName_ok (s : ByteArray) (hbig : s.size ≤ 9223372036854775807) (st : St) : CallS Try.prog 31 [.string s] st fun r st' => r = .bool (isName s) ∧ st' = st := by
 refine CallS_of_W [] 14 Try.func31 rfl rfl rfl rfl (by simp) ?_
 have hix := fun (k : IntKind) (i : Int) (h0 : 0 ≤ i) (h1 : i < s.size) => idxS (k := k) Try.underlying9 h0 h1
 cases hl : s.data.toList with
 | nil =>
  have c0 : ([] : List UInt8).isEmpty = true := rfl
  repeat (first | with_reducible (first | refine thenI ?_ | refine thenE ?_ | refine thenR ?_ | refine inBI ?_ | refine inBR ?_ | refine inBS ?_ | refine inBN (by decide) ?_) | refine W_seqS ?_ | refine W_seqC ?_ | refine W_seqB ?_ | refine W_block ?_ | refine W_skip ?_ | (apply W_condB; (case hc => (simp (disch := omega) only [go_sem, ↓reduceIte, Nat.reduceEqDiff, hix, w_index, ev_index, neq_empty, hl, c0]); rfl); first | refine qzT ?_ | refine qzF ?_) | ((first | refine W_reg rfl fun G K hG hK => ?_ | refine W_end rfl fun G K hG hK => ?_); simp (disch := omega) only [go_sem, ↓reduceIte, Nat.reduceEqDiff, hG, hix, w_index, ev_index, neq_empty, hl, c0]; refine hK _ _ ?_; clear hK K hG G))
  refine W_ret ?_; try (repeat (with_reducible first | refine thenI ?_ | refine thenE ?_ | refine thenR ?_ | refine inBI ?_ | refine inBR ?_ | refine inBS ?_ | refine inBN (by decide) ?_))
  refine fin1 (.inl rfl) (by (simp (disch := omega) only [go_sem, ↓reduceIte, Nat.reduceEqDiff, hix, w_index, ev_index, neq_empty]); try rfl) rfl ⟨by unfold isName; rw [hl]; rfl, rfl⟩
 | cons b r =>
  have hsz : s.size = r.length + 1 := by rw [size_list, hl]; simp
  have c0 : (b :: r).isEmpty = false := rfl
  obtain ⟨b', r', hb, hby, hr1⟩ := drop_byte (s := s) (i := 0) (by omega)
  rw [List.drop_zero, hl] at hb
  cases hb
  have hby' : byteAt s (0 : Int).toNat = (b.toNat : Int) := hby
  have hnm : isName s = ((decide (97 ≤ b.toNat) && decide (b.toNat ≤ 122)) && (r.all lowDig && decide (r.length ≤ 7))) := nm_of hl
  cases k1 : (decide (97 ≤ b.toNat) && decide (b.toNat ≤ 122)) with
  | false =>
   repeat (first | with_reducible (first | refine thenI ?_ | refine thenE ?_ | refine thenR ?_ | refine inBI ?_ | refine inBR ?_ | refine inBS ?_ | refine inBN (by decide) ?_) | refine W_seqS ?_ | refine W_seqC ?_ | refine W_seqB ?_ | refine W_block ?_ | refine W_skip ?_ | (apply W_condB; (case hc => (simp (disch := omega) only [go_sem, ↓reduceIte, Nat.reduceEqDiff, hix, w_index, ev_index, neq_empty]); rfl); first | refine qzT ?_ | refine qzF ?_) | ((first | refine W_reg rfl fun G K hG hK => ?_ | refine W_end rfl fun G K hG hK => ?_); simp (disch := omega) only [go_sem, ↓reduceIte, Nat.reduceEqDiff, hG, hix, w_index, ev_index, neq_empty]; refine hK _ _ ?_; clear hK K hG G))
   (repeat (first | refine W_seqS ?_ | refine W_seqC ?_ | refine W_seqB ?_ | refine W_block ?_)); refine W_reg rfl fun G K hG hK => ?_; simp (disch := omega) only [go_sem, ↓reduceIte, Nat.reduceEqDiff, hG, hix, w_index, ev_index, neq_empty, hl, c0, hby']
   refine w_call (l2Lower_ok b.toNat st) (by simp (disch := omega) only [go_sem, ↓reduceIte, Nat.reduceEqDiff, hix, w_index, ev_index, neq_empty]) ?hl ?_
   case hl => first | rfl | (simp only [go_sem, List.all_cons, List.all_nil, Bool.not_false, Bool.and_self, hix, w_index, ev_index, neq_empty]; done)
   rintro r_ st ⟨rfl, rfl⟩; refine ⟨fun e => (by cases e), ?_⟩
   simp (disch := omega) only [go_sem, ↓reduceIte, Nat.reduceEqDiff, hG, hix, w_index, ev_index, neq_empty, k1]; refine hK _ _ ?_; clear hK K hG G; repeat (with_reducible first | refine thenI ?_ | refine thenE ?_ | refine thenR ?_ | refine inBI ?_ | refine inBR ?_ | refine inBS ?_ | refine inBN (by decide) ?_)
   refine W_ret ?_; try (repeat (with_reducible first | refine thenI ?_ | refine thenE ?_ | refine thenR ?_ | refine inBI ?_ | refine inBR ?_ | refine inBS ?_ | refine inBN (by decide) ?_))
   refine fin1 (.inl rfl) (by (simp (disch := omega) only [go_sem, ↓reduceIte, Nat.reduceEqDiff, hix, w_index, ev_index, neq_empty]); try rfl) rfl ⟨by rw [hnm, k1]; rfl, rfl⟩
  | true =>
   repeat (first | with_reducible (first | refine thenI ?_ | refine thenE ?_ | refine thenR ?_ | refine inBI ?_ | refine inBR ?_ | refine inBS ?_ | refine inBN (by decide) ?_) | refine W_seqS ?_ | refine W_seqC ?_ | refine W_seqB ?_ | refine W_block ?_ | refine W_skip ?_ | (apply W_condB; (case hc => (simp (disch := omega) only [go_sem, ↓reduceIte, Nat.reduceEqDiff, hix, w_index, ev_index, neq_empty]); rfl); first | refine qzT ?_ | refine qzF ?_) | ((first | refine W_reg rfl fun G K hG hK => ?_ | refine W_end rfl fun G K hG hK => ?_); simp (disch := omega) only [go_sem, ↓reduceIte, Nat.reduceEqDiff, hG, hix, w_index, ev_index, neq_empty]; refine hK _ _ ?_; clear hK K hG G))
   (repeat (first | refine W_seqS ?_ | refine W_seqC ?_ | refine W_seqB ?_ | refine W_block ?_)); refine W_reg rfl fun G K hG hK => ?_; simp (disch := omega) only [go_sem, ↓reduceIte, Nat.reduceEqDiff, hG, hix, w_index, ev_index, neq_empty, hl, c0, hby']
   refine w_call (l2Lower_ok b.toNat st) (by simp (disch := omega) only [go_sem, ↓reduceIte, Nat.reduceEqDiff, hix, w_index, ev_index, neq_empty]) ?hl ?_
   case hl => first | rfl | (simp only [go_sem, List.all_cons, List.all_nil, Bool.not_false, Bool.and_self, hix, w_index, ev_index, neq_empty]; done)
   rintro r_ st ⟨rfl, rfl⟩; refine ⟨fun e => (by cases e), ?_⟩
   simp (disch := omega) only [go_sem, ↓reduceIte, Nat.reduceEqDiff, hix, w_index, ev_index, neq_empty, hG, hl, c0, hby', k1]
   refine w_call (l2Rest_ok s b r hl hbig st) (by simp (disch := omega) only [go_sem, ↓reduceIte, Nat.reduceEqDiff, hix, w_index, ev_index, neq_empty]) ?hl ?_
   case hl => first | rfl | (simp only [go_sem, List.all_cons, List.all_nil, Bool.not_false, Bool.and_self, hix, w_index, ev_index, neq_empty]; done)
   rintro r_ st ⟨rfl, rfl⟩; refine ⟨fun e => (by cases e), ?_⟩
   simp (disch := omega) only [go_sem, ↓reduceIte, Nat.reduceEqDiff, hG, hix, w_index, ev_index, neq_empty]; refine hK _ _ ?_; clear hK K hG G; repeat (with_reducible first | refine thenI ?_ | refine thenE ?_ | refine thenR ?_ | refine inBI ?_ | refine inBR ?_ | refine inBS ?_ | refine inBN (by decide) ?_)
   refine W_ret ?_; try (repeat (with_reducible first | refine thenI ?_ | refine thenE ?_ | refine thenR ?_ | refine inBI ?_ | refine inBR ?_ | refine inBS ?_ | refine inBN (by decide) ?_))
   refine fin1 (.inl rfl) (by (simp (disch := omega) only [go_sem, ↓reduceIte, Nat.reduceEqDiff, hix, w_index, ev_index, neq_empty]); try rfl) rfl ⟨by rw [hnm, k1]; rfl, rfl⟩
theorem specIsVar_ok (s : ByteArray) (hbig : s.size ≤ 9223372036854775807) (st : St) : CallS Try.prog 66 [.string s] st fun r st' => r = .bool (isVar s) ∧ st' = st := by
 refine CallS_of_W [] 19 Try.func66 rfl rfl rfl rfl (by simp) ?_
 have hix := fun (k : IntKind) (i : Int) (h0 : 0 ≤ i) (h1 : i < s.size) => idxS (k := k) Try.underlying9 h0 h1
 cases hl : s.data.toList with
 | nil =>
  have c0 : ([] : List UInt8).isEmpty = true := rfl
  repeat (first | with_reducible (first | refine thenI ?_ | refine thenE ?_ | refine thenR ?_ | refine inBI ?_ | refine inBR ?_ | refine inBS ?_ | refine inBN (by decide) ?_) | refine W_seqS ?_ | refine W_seqC ?_ | refine W_seqB ?_ | refine W_block ?_ | refine W_skip ?_ | (apply W_condB; (case hc => (simp (disch := omega) only [go_sem, ↓reduceIte, Nat.reduceEqDiff, hix, w_index, ev_index, neq_empty, hl, c0]); rfl); first | refine qzT ?_ | refine qzF ?_) | ((first | refine W_reg rfl fun G K hG hK => ?_ | refine W_end rfl fun G K hG hK => ?_); simp (disch := omega) only [go_sem, ↓reduceIte, Nat.reduceEqDiff, hG, hix, w_index, ev_index, neq_empty, hl, c0]; refine hK _ _ ?_; clear hK K hG G))
  refine W_ret ?_; try (repeat (with_reducible first | refine thenI ?_ | refine thenE ?_ | refine thenR ?_ | refine inBI ?_ | refine inBR ?_ | refine inBS ?_ | refine inBN (by decide) ?_))
  refine fin1 (.inl rfl) (by (simp (disch := omega) only [go_sem, ↓reduceIte, Nat.reduceEqDiff, hix, w_index, ev_index, neq_empty]); try rfl) rfl ⟨by unfold isVar; rw [hl]; rfl, rfl⟩
 | cons b r =>
  have hsz : s.size = r.length + 1 := by rw [size_list, hl]; simp
  have c0 : (b :: r).isEmpty = false := rfl
  obtain ⟨b', r', hb, hby, hr1⟩ := drop_byte (s := s) (i := 0) (by omega)
  rw [List.drop_zero, hl] at hb
  cases hb
  have hby' : byteAt s (0 : Int).toNat = (b.toNat : Int) := hby
  have hnm : isVar s = ((decide (65 ≤ b.toNat) && decide (b.toNat ≤ 90)) && (r.all lowDig && decide (r.length ≤ 7))) := nm_of hl
  by_cases h1 : 65 ≤ b.toNat
  ·have c1 : decide ((b.toNat : Int) ≥ 65) = true := by simp; omega
   by_cases h2 : b.toNat ≤ 90
   ·have c2 : decide ((b.toNat : Int) ≤ 90) = true := by simp; omega
    repeat (first | with_reducible (first | refine thenI ?_ | refine thenE ?_ | refine thenR ?_ | refine inBI ?_ | refine inBR ?_ | refine inBS ?_ | refine inBN (by decide) ?_) | refine W_seqS ?_ | refine W_seqC ?_ | refine W_seqB ?_ | refine W_block ?_ | refine W_skip ?_ | (apply W_condB; (case hc => (simp (disch := omega) only [go_sem, ↓reduceIte, Nat.reduceEqDiff, hix, w_index, ev_index, neq_empty]); rfl); first | refine qzT ?_ | refine qzF ?_) | ((first | refine W_reg rfl fun G K hG hK => ?_ | refine W_end rfl fun G K hG hK => ?_); simp (disch := omega) only [go_sem, ↓reduceIte, Nat.reduceEqDiff, hG, hix, w_index, ev_index, neq_empty]; refine hK _ _ ?_; clear hK K hG G))
    (repeat (first | refine W_seqS ?_ | refine W_seqC ?_ | refine W_seqB ?_ | refine W_block ?_)); refine W_reg rfl fun G K hG hK => ?_; simp (disch := omega) only [go_sem, ↓reduceIte, Nat.reduceEqDiff, hG, hix, w_index, ev_index, neq_empty, hl, c0, hby', c1, c2]
    refine w_call (l2Rest_ok s b r hl hbig st) (by simp (disch := omega) only [go_sem, ↓reduceIte, Nat.reduceEqDiff, hix, w_index, ev_index, neq_empty]) ?hl ?_
    case hl => first | rfl | (simp only [go_sem, List.all_cons, List.all_nil, Bool.not_false, Bool.and_self, hix, w_index, ev_index, neq_empty]; done)
    rintro r_ st ⟨rfl, rfl⟩; refine ⟨fun e => (by cases e), ?_⟩
    simp (disch := omega) only [go_sem, ↓reduceIte, Nat.reduceEqDiff, hG, hix, w_index, ev_index, neq_empty]; refine hK _ _ ?_; clear hK K hG G; repeat (with_reducible first | refine thenI ?_ | refine thenE ?_ | refine thenR ?_ | refine inBI ?_ | refine inBR ?_ | refine inBS ?_ | refine inBN (by decide) ?_)
    refine W_ret ?_; try (repeat (with_reducible first | refine thenI ?_ | refine thenE ?_ | refine thenR ?_ | refine inBI ?_ | refine inBR ?_ | refine inBS ?_ | refine inBN (by decide) ?_))
    refine fin1 (.inl rfl) (by (simp (disch := omega) only [go_sem, ↓reduceIte, Nat.reduceEqDiff, hix, w_index, ev_index, neq_empty]); try rfl) rfl ⟨by rw [hnm]; simp [h1, h2], rfl⟩
   ·have c2 : decide ((b.toNat : Int) ≤ 90) = false := by simp; omega
    repeat (first | with_reducible (first | refine thenI ?_ | refine thenE ?_ | refine thenR ?_ | refine inBI ?_ | refine inBR ?_ | refine inBS ?_ | refine inBN (by decide) ?_) | refine W_seqS ?_ | refine W_seqC ?_ | refine W_seqB ?_ | refine W_block ?_ | refine W_skip ?_ | (apply W_condB; (case hc => (simp (disch := omega) only [go_sem, ↓reduceIte, Nat.reduceEqDiff, hix, w_index, ev_index, neq_empty, hl, c0, hby', c1, c2]); rfl); first | refine qzT ?_ | refine qzF ?_) | ((first | refine W_reg rfl fun G K hG hK => ?_ | refine W_end rfl fun G K hG hK => ?_); simp (disch := omega) only [go_sem, ↓reduceIte, Nat.reduceEqDiff, hG, hix, w_index, ev_index, neq_empty, hl, c0, hby', c1, c2]; refine hK _ _ ?_; clear hK K hG G))
    refine W_ret ?_; try (repeat (with_reducible first | refine thenI ?_ | refine thenE ?_ | refine thenR ?_ | refine inBI ?_ | refine inBR ?_ | refine inBS ?_ | refine inBN (by decide) ?_))
    refine fin1 (.inl rfl) (by (simp (disch := omega) only [go_sem, ↓reduceIte, Nat.reduceEqDiff, hix, w_index, ev_index, neq_empty]); try rfl) rfl ⟨by rw [hnm]; simp [h1, h2], rfl⟩
  ·have c1 : decide ((b.toNat : Int) ≥ 65) = false := by simp; omega
   repeat (first | with_reducible (first | refine thenI ?_ | refine thenE ?_ | refine thenR ?_ | refine inBI ?_ | refine inBR ?_ | refine inBS ?_ | refine inBN (by decide) ?_) | refine W_seqS ?_ | refine W_seqC ?_ | refine W_seqB ?_ | refine W_block ?_ | refine W_skip ?_ | (apply W_condB; (case hc => (simp (disch := omega) only [go_sem, ↓reduceIte, Nat.reduceEqDiff, hix, w_index, ev_index, neq_empty, hl, c0, hby', c1]); rfl); first | refine qzT ?_ | refine qzF ?_) | ((first | refine W_reg rfl fun G K hG hK => ?_ | refine W_end rfl fun G K hG hK => ?_); simp (disch := omega) only [go_sem, ↓reduceIte, Nat.reduceEqDiff, hG, hix, w_index, ev_index, neq_empty, hl, c0, hby', c1]; refine hK _ _ ?_; clear hK K hG G))
   refine W_ret ?_; try (repeat (with_reducible first | refine thenI ?_ | refine thenE ?_ | refine thenR ?_ | refine inBI ?_ | refine inBR ?_ | refine inBS ?_ | refine inBN (by decide) ?_))
   refine fin1 (.inl rfl) (by (simp (disch := omega) only [go_sem, ↓reduceIte, Nat.reduceEqDiff, hix, w_index, ev_index, neq_empty]); try rfl) rfl ⟨by rw [hnm]; simp [h1], rfl⟩

end

section
/- Operations and signatures: laws.szOp, szOpS, szSignature, toOp, toOpS, toSignature, eqOp, eqOpS, eqSignature, markOp, markOpS, markSignature, heldOp. -/
open Go Go.Proofs
set_option linter.unusedVariables false
set_option linter.unusedSimpArgs false
set_option maxRecDepth 100000
-- AUTO


end

section
/- slices.Clone. -/
open Go Go.Proofs
set_option linter.unusedVariables false
set_option linter.unusedSimpArgs false
set_option maxRecDepth 100000
-- AUTO

theorem cloneS_ok (xs : List ByteArray) (st : St) (s : Value) (hbig : xs.length ≤ 1099511627776) (hr : Rw st xs s) :
  CallS Try.prog 29 [s] st fun r st2 => Ext st st2 ∧ ∃ L, Sl st2 xs r L ∧ Fresh st.length L := by
 refine CallS_of_W [] 8 Try.func29 rfl rfl rfl rfl (by simp) ?_
 obtain ⟨b, hb, hb2⟩ := row_nil hr Try.underlying24
 have n1 := hr.notLoc.1
 cases b with
 | true =>
  obtain ⟨rfl, rfl⟩ := hb2 rfl
  repeat (first | with_reducible (first | refine thenI ?_ | refine thenE ?_ | refine thenR ?_ | refine inBI ?_ | refine inBR ?_ | refine inBS ?_ | refine inBN (by decide) ?_) | refine W_seqS ?_ | refine W_seqC ?_ | refine W_seqB ?_ | refine W_block ?_ | refine W_skip ?_ | (apply W_condB; (case hc => (simp (disch := omega) only [go_sem, ↓reduceIte, Nat.reduceEqDiff, hb]); rfl); first | refine qzT ?_ | refine qzF ?_) | ((first | refine W_reg rfl fun G K hG hK => ?_ | refine W_end rfl fun G K hG hK => ?_); simp (disch := omega) only [go_sem, ↓reduceIte, Nat.reduceEqDiff, hG, hb]; refine hK _ _ ?_; clear hK K hG G))
  refine W_ret ?_; try (repeat (with_reducible first | refine thenI ?_ | refine thenE ?_ | refine thenR ?_ | refine inBI ?_ | refine inBR ?_ | refine inBS ?_ | refine inBN (by decide) ?_))
  refine fin1 (.inl rfl) (by (simp (disch := omega) only [go_sem, ↓reduceIte, Nat.reduceEqDiff]); try rfl) rfl ⟨Ext.refl _, [], Sl.nil _, .nil _⟩
 | false =>
  obtain ⟨s', st', L', hap, hs', hf', hx', _⟩ := Sl.freshRow (t := 24) (u := 24) Try.underlying24 Try.underlying24 sz9 rfl by9 ze9 rfl hr (by omega) (by omega)
  have hap : appendA Try.prog 24 24 (.slice (some ⟨st.length, 0, none⟩) 0 0) s (st ++ [⟨[], 9, 0⟩]) = some (s', st') := hap
  repeat (first | with_reducible (first | refine thenI ?_ | refine thenE ?_ | refine thenR ?_ | refine inBI ?_ | refine inBR ?_ | refine inBS ?_ | refine inBN (by decide) ?_) | refine W_seqS ?_ | refine W_seqC ?_ | refine W_seqB ?_ | refine W_block ?_ | refine W_skip ?_ | (apply W_condB; (case hc => (simp (disch := omega) only [go_sem, ↓reduceIte, Nat.reduceEqDiff, hb]); rfl); first | refine qzT ?_ | refine qzF ?_) | ((first | refine W_reg rfl fun G K hG hK => ?_ | refine W_end rfl fun G K hG hK => ?_); simp (disch := omega) only [go_sem, ↓reduceIte, Nat.reduceEqDiff, hG, hb]; refine hK _ _ ?_; clear hK K hG G))
  repeat (first | with_reducible (first | refine thenI ?_ | refine thenE ?_ | refine thenR ?_ | refine inBI ?_ | refine inBR ?_ | refine inBS ?_ | refine inBN (by decide) ?_) | refine W_seqS ?_ | refine W_seqC ?_ | refine W_seqB ?_ | refine W_block ?_ | refine W_skip ?_ | (apply W_condB; (case hc => (simp (disch := omega) only [go_sem, ↓reduceIte, Nat.reduceEqDiff, w_append, hap]); rfl); first | refine qzT ?_ | refine qzF ?_) | ((first | refine W_reg rfl fun G K hG hK => ?_ | refine W_end rfl fun G K hG hK => ?_); simp (disch := omega) only [go_sem, ↓reduceIte, Nat.reduceEqDiff, hG, w_append, hap]; refine hK _ _ ?_; clear hK K hG G))
  refine W_ret ?_; try (repeat (with_reducible first | refine thenI ?_ | refine thenE ?_ | refine thenR ?_ | refine inBI ?_ | refine inBR ?_ | refine inBS ?_ | refine inBN (by decide) ?_))
  refine fin1 (.inl rfl) (by (simp (disch := omega) only [go_sem, ↓reduceIte, Nat.reduceEqDiff]); try rfl) hs'.loc ⟨hx', L', hs', hf'⟩

end

section
/- Operations are found: impl.copyOp, impl.FindOp, spec.FindOp. -/
open Go Go.Proofs
set_option linter.unusedVariables false
set_option linter.unusedSimpArgs false
set_option maxRecDepth 100000
-- AUTO

def wordB : ByteArray := ⟨#[119, 111, 114, 100]⟩
def Opr.zero : Opr := ⟨⟨#[]⟩, [], ⟨#[]⟩⟩
def findOp (g : Sgn) (nm : ByteArray) : Opr × Bool := if isB nm then (⟨nm, [wordB, wordB], wordB⟩, true) else match g.ops.find? fun o => o.nm.toList == nm.toList with
 | some o => (o, true)
 | none => (Opr.zero, false)
theorem own_word2 {st : St} : Sl (st ++ [(⟨[.string wordB, .string wordB], 9, 0⟩ : Blk)]) [wordB, wordB] (.slice (some ⟨st.length, 0, none⟩) 2 2) [st.length] :=
 .inr ⟨st.length, 2, [.string wordB, .string wordB], [], rfl, by rw [List.getElem?_append_right (Nat.le_refl _), Nat.sub_self]; rfl, .cons wordB _ [.string wordB] _ [] [] ⟨rfl, rfl⟩ (.cons wordB _ [.string wordB] _ [] [] ⟨rfl, rfl⟩ .nil), rfl⟩
theorem copyOp_ok (b : Opr) (st : St) (cs : List Value) (hl : b.args.length ≤ 1073741824) (h : EncO st b cs) :
  CallS Try.prog 44 [.agg cs.toArray] st fun r st2 => Ext st st2 ∧ ∃ ds L, r = .agg ds.toArray ∧ OwnO st2 b ds L ∧ Fresh st.length L := by
 refine CallS_of_W [] 11 Try.func44 rfl rfl rfl rfl (by simp) ?_
 obtain ⟨s, rfl, hr⟩ := h
 have n1 := hr.notLoc.1
 have n2 := hr.notLoc.2
 repeat (first | with_reducible (first | refine thenI ?_ | refine thenE ?_ | refine thenR ?_ | refine inBI ?_ | refine inBR ?_ | refine inBS ?_ | refine inBN (by decide) ?_) | refine W_seqS ?_ | refine W_seqC ?_ | refine W_seqB ?_ | refine W_block ?_ | refine W_skip ?_ | (apply W_condB; (case hc => (simp (disch := omega) only [go_sem, ↓reduceIte, Nat.reduceEqDiff, n1, n2]); rfl); first | refine qzT ?_ | refine qzF ?_) | ((first | refine W_reg rfl fun G K hG hK => ?_ | refine W_end rfl fun G K hG hK => ?_); simp (disch := omega) only [go_sem, ↓reduceIte, Nat.reduceEqDiff, hG, n1, n2]; refine hK _ _ ?_; clear hK K hG G))
 (repeat (first | refine W_seqS ?_ | refine W_seqC ?_ | refine W_seqB ?_ | refine W_block ?_)); refine W_regD mixed [] [(0,false),(1,false),(2,false),(3,false),(5,false),(6,false),(4,true),(7,false),(8,false)] rfl (by decide +kernel) fun G K hG hK => ?_; simp only [pickOps, List.filterMap_cons, List.filterMap_nil, List.getElem?_cons_zero, List.getElem?_cons_succ, Option.map_some]; simp (disch := omega) only [go_sem, ↓reduceIte, Nat.reduceEqDiff, hG, n1, n2]
 refine w_call (cloneS_ok b.args st s (by omega) hr) (by simp (disch := omega) only [go_sem, ↓reduceIte, Nat.reduceEqDiff, n1, n2]) ?hl ?_
 case hl => first | rfl | (simp only [go_sem, List.all_cons, List.all_nil, Bool.not_false, Bool.and_self, n1, n2]; done)
 rintro rv sa ⟨hx, L, ho, hf⟩; refine ⟨fun e => hx, ?_⟩
 have a1 := ho.okv
 have a2 := ho.loc
 have a3 := ho.cells
 simp (disch := omega) only [go_sem, ↓reduceIte, Nat.reduceEqDiff, hG, n1, n2, a1, a2, a3]; refine hK _ _ ?_; clear hK K hG G; repeat (with_reducible first | refine thenI ?_ | refine thenE ?_ | refine thenR ?_ | refine inBI ?_ | refine inBR ?_ | refine inBS ?_ | refine inBN (by decide) ?_)
 refine W_ret ?_; try (repeat (with_reducible first | refine thenI ?_ | refine thenE ?_ | refine thenR ?_ | refine inBI ?_ | refine inBR ?_ | refine inBS ?_ | refine inBN (by decide) ?_))
 refine finC (.inl rfl) (by (simp (disch := omega) only [go_sem, ↓reduceIte, Nat.reduceEqDiff, n1, n2, a1, a2, a3]); try rfl) ⟨hx, [.string b.nm, rv, .string b.res], L, rfl, ⟨_, rfl, ho⟩, hf⟩
theorem implFindOp_ok (g : Sgn) (nm : ByteArray) (st : St) (cs : List Value) (hl : LimS 1073741824 g) (hE : EncS st g cs) :
  CallS Try.prog 23 [.agg cs.toArray, .string nm] st fun r st2 => Ext st st2 ∧ ∃ ds L, r = .tuple #[.agg ds.toArray, .bool (findOp g nm).2] ∧ OwnO st2 (findOp g nm).1 ds L ∧ Fresh st.length L := by
 refine CallS_of_W [] 28 Try.func23 rfl rfl rfl rfl (by simp) ?_
 obtain ⟨s, u, rfl, hs, hu⟩ := hE
 have q1 := hs.notLoc.1
 have q2 := hs.notLoc.2
 have q3 := hu.notLoc.1
 have q4 := hu.notLoc.2
 have hlen : lenE Try.prog 25 u = some (.int .i64 g.ops.length) := row_len hu Try.underlying25
 have hg2 := hl.2.1
 repeat (first | with_reducible (first | refine thenI ?_ | refine thenE ?_ | refine thenR ?_ | refine inBI ?_ | refine inBR ?_ | refine inBS ?_ | refine inBN (by decide) ?_) | refine W_seqS ?_ | refine W_seqC ?_ | refine W_seqB ?_ | refine W_block ?_ | refine W_skip ?_ | (apply W_condB; (case hc => (simp (disch := omega) only [go_sem, ↓reduceIte, Nat.reduceEqDiff, q1, q2, q3, q4, hlen]); rfl); first | refine qzT ?_ | refine qzF ?_) | ((first | refine W_reg rfl fun G K hG hK => ?_ | refine W_end rfl fun G K hG hK => ?_); simp (disch := omega) only [go_sem, ↓reduceIte, Nat.reduceEqDiff, hG, q1, q2, q3, q4, hlen]; refine hK _ _ ?_; clear hK K hG G))
 (repeat (first | refine W_seqS ?_ | refine W_seqC ?_ | refine W_seqB ?_ | refine W_block ?_)); refine W_reg rfl fun G K hG hK => ?_; simp (disch := omega) only [go_sem, ↓reduceIte, Nat.reduceEqDiff, hG, q1, q2, q3, q4, hlen]
 refine w_call (implIsB_ok nm st) (by simp (disch := omega) only [go_sem, ↓reduceIte, Nat.reduceEqDiff, q1, q2, q3, q4, hlen]) ?hl ?_
 case hl => first | rfl | (simp only [go_sem, List.all_cons, List.all_nil, Bool.not_false, Bool.and_self, q1, q2, q3, q4, hlen]; done)
 rintro r_ st ⟨rfl, rfl⟩; refine ⟨fun e => (by cases e), ?_⟩
 simp (disch := omega) only [go_sem, ↓reduceIte, Nat.reduceEqDiff, hG, q1, q2, q3, q4, hlen]; refine hK _ _ ?_; clear hK K hG G; repeat (with_reducible first | refine thenI ?_ | refine thenE ?_ | refine thenR ?_ | refine inBI ?_ | refine inBR ?_ | refine inBS ?_ | refine inBN (by decide) ?_)
 cases hb : isB nm with
 | true =>
  have hf : findOp g nm = (⟨nm, [wordB, wordB], wordB⟩, true) := by unfold findOp; rw [hb]; rfl
  rw [hf]
  repeat (first | with_reducible (first | refine thenI ?_ | refine thenE ?_ | refine thenR ?_ | refine inBI ?_ | refine inBR ?_ | refine inBS ?_ | refine inBN (by decide) ?_) | refine W_seqS ?_ | refine W_seqC ?_ | refine W_seqB ?_ | refine W_block ?_ | refine W_skip ?_ | (apply W_condB; (case hc => (simp (disch := omega) only [go_sem, ↓reduceIte, Nat.reduceEqDiff, q1, q2, q3, q4, hlen]); rfl); first | refine qzT ?_ | refine qzF ?_) | ((first | refine W_reg rfl fun G K hG hK => ?_ | refine W_end rfl fun G K hG hK => ?_); simp (disch := omega) only [go_sem, ↓reduceIte, Nat.reduceEqDiff, hG, q1, q2, q3, q4, hlen]; refine hK _ _ ?_; clear hK K hG G))
  (repeat (first | refine W_seqS ?_ | refine W_seqC ?_ | refine W_seqB ?_ | refine W_block ?_)); refine W_reg rfl fun G K hG hK => ?_; simp (disch := omega) only [go_sem, ↓reduceIte, Nat.reduceEqDiff, Nat.reduceAdd, Nat.reduceLeDiff, hG, q1, q2, q3, q4, hlen, bsL, fillK_cons, fillK_nil, Nat.reduceMul]
  refine hK _ _ ?_; clear hK K hG G; repeat (with_reducible first | refine thenI ?_ | refine thenE ?_ | refine thenR ?_ | refine inBI ?_ | refine inBR ?_ | refine inBS ?_ | refine inBN (by decide) ?_)
  repeat (first | with_reducible (first | refine thenI ?_ | refine thenE ?_ | refine thenR ?_ | refine inBI ?_ | refine inBR ?_ | refine inBS ?_ | refine inBN (by decide) ?_) | refine W_seqS ?_ | refine W_seqC ?_ | refine W_seqB ?_ | refine W_block ?_ | refine W_skip ?_ | (apply W_condB; (case hc => (simp (disch := omega) only [go_sem, ↓reduceIte, Nat.reduceEqDiff, q1, q2, q3, q4, hlen]); rfl); first | refine qzT ?_ | refine qzF ?_) | ((first | refine W_reg rfl fun G K hG hK => ?_ | refine W_end rfl fun G K hG hK => ?_); simp (disch := omega) only [go_sem, ↓reduceIte, Nat.reduceEqDiff, hG, q1, q2, q3, q4, hlen]; refine hK _ _ ?_; clear hK K hG G))
  refine W_ret ?_; try (repeat (with_reducible first | refine thenI ?_ | refine thenE ?_ | refine thenR ?_ | refine inBI ?_ | refine inBR ?_ | refine inBS ?_ | refine inBN (by decide) ?_))
  refine finC2 (.inl rfl) (by (simp (disch := omega) only [go_sem, ↓reduceIte, Nat.reduceEqDiff, q1, q2, q3, q4, hlen]); try rfl) (by (simp (disch := omega) only [go_sem, ↓reduceIte, Nat.reduceEqDiff, q1, q2, q3, q4, hlen]); try rfl) rfl ⟨Ext.app _ _, [.string nm, .slice (some ⟨st.length, 0, none⟩) 2 2, .string wordB], [st.length], rfl, ⟨_, rfl, own_word2⟩, ⟨by simp, by simp⟩⟩
 | false =>
  have hf : findOp g nm = match g.ops.find? fun o => o.nm.toList == nm.toList with
   | some o => (o, true)
   | none => (Opr.zero, false) := by unfold findOp; rw [hb]; rfl
  rw [hf]
  repeat (first | with_reducible (first | refine thenI ?_ | refine thenE ?_ | refine thenR ?_ | refine inBI ?_ | refine inBR ?_ | refine inBS ?_ | refine inBN (by decide) ?_) | refine W_seqS ?_ | refine W_seqC ?_ | refine W_seqB ?_ | refine W_block ?_ | refine W_skip ?_ | (apply W_condB; (case hc => (simp (disch := omega) only [go_sem, ↓reduceIte, Nat.reduceEqDiff, q1, q2, q3, q4, hlen]); rfl); first | refine qzT ?_ | refine qzF ?_) | ((first | refine W_reg rfl fun G K hG hK => ?_ | refine W_end rfl fun G K hG hK => ?_); simp (disch := omega) only [go_sem, ↓reduceIte, Nat.reduceEqDiff, hG, q1, q2, q3, q4, hlen]; refine hK _ _ ?_; clear hK K hG G))
  refine W_loop (fun d fr st' => ∃ (j : Nat) , d = g.ops.length - j ∧ j ≤ g.ops.length ∧ (st' = st) ∧ ((g.ops.find? fun o => o.nm.toList == nm.toList) = (g.ops.drop j).find? fun o => o.nm.toList == nm.toList) ∧ (fr.env 1 = .string nm) ∧ (fr.env 2 = .pointer (some ⟨2, 0, some 1⟩)) ∧ (fr.env 4 = .pointer (some ⟨4, 0, some 1⟩)) ∧ (fr.env 14 = u) ∧ (fr.env 15 = .int .i64 g.ops.length) ∧ (fr.env 16 = .int .i64 j) ∧ (fr.loc 2 = (1, [s, u])) ∧ ((fr.loc 4).1 = 1 ∧ (fr.loc 4).2.length = 3)) (g.ops.length) ?_ ?_
  ·exact ⟨0, by omega, by omega, rfl, by simp, (by refine ⟨?_, ?_, ?_, ?_, ?_, ?_, ?_, ⟨?_, ?_⟩⟩ <;> ((simp (disch := omega) only [go_sem, ↓reduceIte, Nat.reduceEqDiff, q1, q2, q3, q4, hlen]); try rfl))⟩
  rintro d ⟨env, loc⟩ st' ⟨j, hd, hj, hst, hfd, e1, e2, e4, e14, e15, e16, l2, ⟨l4, l4'⟩⟩
  simp only at e1 e2 e4 e14 e15 e16 l2 l4 l4'
  subst hst
  by_cases hlt : j < g.ops.length
  ·have c1 : decide ((j : Int) < (g.ops.length : Int)) = true := by simpa using hlt
   have hi := idxOk hlt
   have hx : g.ops[j]? = some g.ops[j] := List.getElem?_eq_getElem hlt
   have htk : g.ops.take (j + 1) = g.ops.take j ++ [g.ops[j]] := List.take_succ_eq_append_getElem hlt
   obtain ⟨i, o, c, sx, rfl, hrx, hcs⟩ := row_atO hu hx
   have hld := fun loc => load_row (A := []) (loc := loc) ag54 sz54 rfl hcs
   have nx := hrx.notLoc.1
   have nx2 := hrx.notLoc.2
   have nx3 := Row.cells1 hrx
   rw [List.drop_eq_getElem_cons hlt, List.find?_cons] at hfd
   cases hn : (g.ops[j].nm.toList == nm.toList) with
   | true =>
    rw [hn] at hfd
    simp only at hfd
    rw [hfd]
    repeat (first | with_reducible (first | refine thenI ?_ | refine thenE ?_ | refine thenR ?_ | refine inBI ?_ | refine inBR ?_ | refine inBS ?_ | refine inBN (by decide) ?_) | refine W_seqS ?_ | refine W_seqC ?_ | refine W_seqB ?_ | refine W_block ?_ | refine W_skip ?_ | (apply W_condB; (case hc => (simp (disch := omega) only [go_sem, ↓reduceIte, Nat.reduceEqDiff, q1, q2, q3, q4, hlen, e1, e2, e4, e14, e15, e16, l2, l4, l4', c1, hi, idxA, Int.toNat_natCast, nx, nx2, nx3, hld, hn]); rfl); first | refine qzT ?_ | refine qzF ?_) | ((first | refine W_reg rfl fun G K hG hK => ?_ | refine W_end rfl fun G K hG hK => ?_); simp (disch := omega) only [go_sem, ↓reduceIte, Nat.reduceEqDiff, hG, q1, q2, q3, q4, hlen, e1, e2, e4, e14, e15, e16, l2, l4, l4', c1, hi, idxA, Int.toNat_natCast, nx, nx2, nx3, hld, hn]; refine hK _ _ ?_; clear hK K hG G))
    (repeat (first | refine W_seqS ?_ | refine W_seqC ?_ | refine W_seqB ?_ | refine W_block ?_)); refine W_reg rfl fun G K hG hK => ?_; simp (disch := omega) only [go_sem, ↓reduceIte, Nat.reduceEqDiff, hG, q1, q2, q3, q4, hlen, e1, e2, e4, e14, e15, e16, l2, l4, l4', c1, hi, idxA, Int.toNat_natCast, nx, nx2, nx3]
    refine w_call (copyOp_ok g.ops[j] st' _ (hl.2.2 _ (List.getElem_mem hlt)) ⟨_, rfl, hrx⟩) (by simp (disch := omega) only [go_sem, ↓reduceIte, Nat.reduceEqDiff, q1, q2, q3, q4, hlen, e1, e2, e4, e14, e15, e16, l2, l4, l4', c1, hi, idxA, Int.toNat_natCast, nx, nx2, nx3]) ?hl ?_
    case hl => first | rfl | (simp only [go_sem, List.all_cons, List.all_nil, Bool.not_false, Bool.and_self, q1, q2, q3, q4, hlen, e1, e2, e4, e14, e15, e16, l2, l4, l4', c1, hi, idxA, Int.toNat_natCast, nx, nx2, nx3]; done)
    rintro r_ sa ⟨x1, ds, L, rfl, ho, hff⟩; refine ⟨fun e => (by cases e), ?_⟩
    obtain ⟨n', s', m', rfl, a1, a2, a3⟩ := ho.args_cells
    simp (disch := omega) only [go_sem, ↓reduceIte, Nat.reduceEqDiff, hG, q1, q2, q3, q4, hlen, e1, e2, e4, e14, e15, e16, l2, l4, l4', c1, hi, idxA, Int.toNat_natCast, nx, nx2, nx3, a1, a2, a3]; refine hK _ _ ?_; clear hK K hG G; repeat (with_reducible first | refine thenI ?_ | refine thenE ?_ | refine thenR ?_ | refine inBI ?_ | refine inBR ?_ | refine inBS ?_ | refine inBN (by decide) ?_)
    refine W_ret ?_; try (repeat (with_reducible first | refine thenI ?_ | refine thenE ?_ | refine thenR ?_ | refine inBI ?_ | refine inBR ?_ | refine inBS ?_ | refine inBN (by decide) ?_))
    refine finC2 (.inl rfl) (by (simp (disch := omega) only [go_sem, ↓reduceIte, Nat.reduceEqDiff, q1, q2, q3, q4, hlen, e1, e2, e4, e14, e15, e16, l2, l4, l4', c1, hi, idxA, Int.toNat_natCast, nx, nx2, nx3, a1, a2, a3]); try rfl) (by (simp (disch := omega) only [go_sem, ↓reduceIte, Nat.reduceEqDiff, q1, q2, q3, q4, hlen, e1, e2, e4, e14, e15, e16, l2, l4, l4', c1, hi, idxA, Int.toNat_natCast, nx, nx2, nx3]); try rfl) rfl ⟨x1, _, L, rfl, ho, hff⟩
   | false =>
    rw [hn] at hfd
    simp only at hfd
    repeat (first | with_reducible (first | refine thenI ?_ | refine thenE ?_ | refine thenR ?_ | refine inBI ?_ | refine inBR ?_ | refine inBS ?_ | refine inBN (by decide) ?_) | refine W_seqS ?_ | refine W_seqC ?_ | refine W_seqB ?_ | refine W_block ?_ | refine W_skip ?_ | (apply W_condB; (case hc => (simp (disch := omega) only [go_sem, ↓reduceIte, Nat.reduceEqDiff, q1, q2, q3, q4, hlen, e1, e2, e4, e14, e15, e16, l2, l4, l4', c1, hi, idxA, Int.toNat_natCast, nx, nx2, nx3, hld, hn]); rfl); first | refine qzT ?_ | refine qzF ?_) | ((first | refine W_reg rfl fun G K hG hK => ?_ | refine W_end rfl fun G K hG hK => ?_); simp (disch := omega) only [go_sem, ↓reduceIte, Nat.reduceEqDiff, hG, q1, q2, q3, q4, hlen, e1, e2, e4, e14, e15, e16, l2, l4, l4', c1, hi, idxA, Int.toNat_natCast, nx, nx2, nx3, hld, hn]; refine hK _ _ ?_; clear hK K hG G))
    refine ⟨g.ops.length - (j + 1), by omega, j + 1, rfl, by omega, rfl, hfd, (by refine ⟨?_, ?_, ?_, ?_, ?_, ?_, ?_, ⟨?_, ?_⟩⟩ <;> ((simp (disch := omega) only [go_sem, ↓reduceIte, Nat.reduceEqDiff, q1, q2, q3, q4, hlen, e1, e2, e4, e14, e15, e16, l2, l4, l4', c1, hi, idxA, Int.toNat_natCast, nx, nx2, nx3]); try rfl))⟩
  ·have c1 : decide ((j : Int) < (g.ops.length : Int)) = false := by simpa using hlt
   have hjn : j = g.ops.length := by omega
   subst hjn
   rw [List.drop_length] at hfd
   simp only [List.find?_nil] at hfd
   rw [hfd]
   repeat (first | with_reducible (first | refine thenI ?_ | refine thenE ?_ | refine thenR ?_ | refine inBI ?_ | refine inBR ?_ | refine inBS ?_ | refine inBN (by decide) ?_) | refine W_seqS ?_ | refine W_seqC ?_ | refine W_seqB ?_ | refine W_block ?_ | refine W_skip ?_ | (apply W_condB; (case hc => (simp (disch := omega) only [go_sem, ↓reduceIte, Nat.reduceEqDiff, q1, q2, q3, q4, hlen, e1, e2, e4, e14, e15, e16, l2, l4, l4', c1]); rfl); first | refine qzT ?_ | refine qzF ?_) | ((first | refine W_reg rfl fun G K hG hK => ?_ | refine W_end rfl fun G K hG hK => ?_); simp (disch := omega) only [go_sem, ↓reduceIte, Nat.reduceEqDiff, hG, q1, q2, q3, q4, hlen, e1, e2, e4, e14, e15, e16, l2, l4, l4', c1]; refine hK _ _ ?_; clear hK K hG G))
   refine W_exit ?_; repeat (with_reducible first | refine thenI ?_ | refine thenE ?_ | refine thenR ?_ | refine inBI ?_ | refine inBR ?_ | refine inBS ?_ | refine inBN (by decide) ?_)
   repeat (first | with_reducible (first | refine thenI ?_ | refine thenE ?_ | refine thenR ?_ | refine inBI ?_ | refine inBR ?_ | refine inBS ?_ | refine inBN (by decide) ?_) | refine W_seqS ?_ | refine W_seqC ?_ | refine W_seqB ?_ | refine W_block ?_ | refine W_skip ?_ | (apply W_condB; (case hc => (simp (disch := omega) only [go_sem, ↓reduceIte, Nat.reduceEqDiff, q1, q2, q3, q4, hlen, e1, e2, e4, e14, e15, e16, l2, l4, l4', c1]); rfl); first | refine qzT ?_ | refine qzF ?_) | ((first | refine W_reg rfl fun G K hG hK => ?_ | refine W_end rfl fun G K hG hK => ?_); simp (disch := omega) only [go_sem, ↓reduceIte, Nat.reduceEqDiff, hG, q1, q2, q3, q4, hlen, e1, e2, e4, e14, e15, e16, l2, l4, l4', c1]; refine hK _ _ ?_; clear hK K hG G))
   refine W_ret ?_; try (repeat (with_reducible first | refine thenI ?_ | refine thenE ?_ | refine thenR ?_ | refine inBI ?_ | refine inBR ?_ | refine inBS ?_ | refine inBN (by decide) ?_))
   refine finC2 (.inl rfl) (by (simp (disch := omega) only [go_sem, ↓reduceIte, Nat.reduceEqDiff, q1, q2, q3, q4, hlen, e1, e2, e4, e14, e15, e16, l2, l4, l4', c1]); try rfl) (by (simp (disch := omega) only [go_sem, ↓reduceIte, Nat.reduceEqDiff, q1, q2, q3, q4, hlen, e1, e2, e4, e14, e15, e16, l2, l4, l4', c1]); try rfl) rfl ⟨Ext.refl _, [.string ⟨#[]⟩, .slice none 0 0, .string ⟨#[]⟩], [], rfl, ⟨_, rfl, Sl.nil _⟩, .nil _⟩
theorem specFindOp_ok (g : Sgn) (nm : ByteArray) (st : St) (cs : List Value) (hl : LimS 1073741824 g) (hE : EncS st g cs) :
  CallS Try.prog 25 [.agg cs.toArray, .string nm] st fun r st2 => Ext st st2 ∧ ∃ ds L, r = .tuple #[.agg ds.toArray, .bool (findOp g nm).2] ∧ OwnO st2 (findOp g nm).1 ds L ∧ Fresh st.length L := by
 refine CallS_of_W [] 40 Try.func25 rfl rfl rfl rfl (by simp) ?_
 obtain ⟨s, u, rfl, hs, hu⟩ := hE
 have q1 := hs.notLoc.1
 have q2 := hs.notLoc.2
 have q3 := hu.notLoc.1
 have q4 := hu.notLoc.2
 have hlen : lenE Try.prog 25 u = some (.int .i64 g.ops.length) := row_len hu Try.underlying25
 have hg2 := hl.2.1
 repeat (first | with_reducible (first | refine thenI ?_ | refine thenE ?_ | refine thenR ?_ | refine inBI ?_ | refine inBR ?_ | refine inBS ?_ | refine inBN (by decide) ?_) | refine W_seqS ?_ | refine W_seqC ?_ | refine W_seqB ?_ | refine W_block ?_ | refine W_skip ?_ | (apply W_condB; (case hc => (simp (disch := omega) only [go_sem, ↓reduceIte, Nat.reduceEqDiff, q1, q2, q3, q4, hlen]); rfl); first | refine qzT ?_ | refine qzF ?_) | ((first | refine W_reg rfl fun G K hG hK => ?_ | refine W_end rfl fun G K hG hK => ?_); simp (disch := omega) only [go_sem, ↓reduceIte, Nat.reduceEqDiff, hG, q1, q2, q3, q4, hlen]; refine hK _ _ ?_; clear hK K hG G))
 (repeat (first | refine W_seqS ?_ | refine W_seqC ?_ | refine W_seqB ?_ | refine W_block ?_)); refine W_reg rfl fun G K hG hK => ?_; simp (disch := omega) only [go_sem, ↓reduceIte, Nat.reduceEqDiff, hG, q1, q2, q3, q4, hlen]
 refine w_call (specIsB_ok nm st) (by simp (disch := omega) only [go_sem, ↓reduceIte, Nat.reduceEqDiff, q1, q2, q3, q4, hlen]) ?hl ?_
 case hl => first | rfl | (simp only [go_sem, List.all_cons, List.all_nil, Bool.not_false, Bool.and_self, q1, q2, q3, q4, hlen]; done)
 rintro r_ st ⟨rfl, rfl⟩; refine ⟨fun e => (by cases e), ?_⟩
 simp (disch := omega) only [go_sem, ↓reduceIte, Nat.reduceEqDiff, hG, q1, q2, q3, q4, hlen]; refine hK _ _ ?_; clear hK K hG G; repeat (with_reducible first | refine thenI ?_ | refine thenE ?_ | refine thenR ?_ | refine inBI ?_ | refine inBR ?_ | refine inBS ?_ | refine inBN (by decide) ?_)
 cases hb : isB nm with
 | true =>
  have hf : findOp g nm = (⟨nm, [wordB, wordB], wordB⟩, true) := by unfold findOp; rw [hb]; rfl
  rw [hf]
  repeat (first | with_reducible (first | refine thenI ?_ | refine thenE ?_ | refine thenR ?_ | refine inBI ?_ | refine inBR ?_ | refine inBS ?_ | refine inBN (by decide) ?_) | refine W_seqS ?_ | refine W_seqC ?_ | refine W_seqB ?_ | refine W_block ?_ | refine W_skip ?_ | (apply W_condB; (case hc => (simp (disch := omega) only [go_sem, ↓reduceIte, Nat.reduceEqDiff, q1, q2, q3, q4, hlen]); rfl); first | refine qzT ?_ | refine qzF ?_) | ((first | refine W_reg rfl fun G K hG hK => ?_ | refine W_end rfl fun G K hG hK => ?_); simp (disch := omega) only [go_sem, ↓reduceIte, Nat.reduceEqDiff, hG, q1, q2, q3, q4, hlen]; refine hK _ _ ?_; clear hK K hG G))
  (repeat (first | refine W_seqS ?_ | refine W_seqC ?_ | refine W_seqB ?_ | refine W_block ?_)); refine W_reg rfl fun G K hG hK => ?_; simp (disch := omega) only [go_sem, ↓reduceIte, Nat.reduceEqDiff, Nat.reduceAdd, Nat.reduceLeDiff, hG, q1, q2, q3, q4, hlen, bsL, fillK_cons, fillK_nil, Nat.reduceMul]
  refine hK _ _ ?_; clear hK K hG G; repeat (with_reducible first | refine thenI ?_ | refine thenE ?_ | refine thenR ?_ | refine inBI ?_ | refine inBR ?_ | refine inBS ?_ | refine inBN (by decide) ?_)
  repeat (first | with_reducible (first | refine thenI ?_ | refine thenE ?_ | refine thenR ?_ | refine inBI ?_ | refine inBR ?_ | refine inBS ?_ | refine inBN (by decide) ?_) | refine W_seqS ?_ | refine W_seqC ?_ | refine W_seqB ?_ | refine W_block ?_ | refine W_skip ?_ | (apply W_condB; (case hc => (simp (disch := omega) only [go_sem, ↓reduceIte, Nat.reduceEqDiff, q1, q2, q3, q4, hlen]); rfl); first | refine qzT ?_ | refine qzF ?_) | ((first | refine W_reg rfl fun G K hG hK => ?_ | refine W_end rfl fun G K hG hK => ?_); simp (disch := omega) only [go_sem, ↓reduceIte, Nat.reduceEqDiff, hG, q1, q2, q3, q4, hlen]; refine hK _ _ ?_; clear hK K hG G))
  refine W_ret ?_; try (repeat (with_reducible first | refine thenI ?_ | refine thenE ?_ | refine thenR ?_ | refine inBI ?_ | refine inBR ?_ | refine inBS ?_ | refine inBN (by decide) ?_))
  refine finC2 (.inl rfl) (by (simp (disch := omega) only [go_sem, ↓reduceIte, Nat.reduceEqDiff, q1, q2, q3, q4, hlen]); try rfl) (by (simp (disch := omega) only [go_sem, ↓reduceIte, Nat.reduceEqDiff, q1, q2, q3, q4, hlen]); try rfl) rfl ⟨Ext.app _ _, [.string nm, .slice (some ⟨st.length, 0, none⟩) 2 2, .string wordB], [st.length], rfl, ⟨_, rfl, own_word2⟩, ⟨by simp, by simp⟩⟩
 | false =>
  have hf : findOp g nm = match g.ops.find? fun o => o.nm.toList == nm.toList with
   | some o => (o, true)
   | none => (Opr.zero, false) := by unfold findOp; rw [hb]; rfl
  rw [hf]
  repeat (first | with_reducible (first | refine thenI ?_ | refine thenE ?_ | refine thenR ?_ | refine inBI ?_ | refine inBR ?_ | refine inBS ?_ | refine inBN (by decide) ?_) | refine W_seqS ?_ | refine W_seqC ?_ | refine W_seqB ?_ | refine W_block ?_ | refine W_skip ?_ | (apply W_condB; (case hc => (simp (disch := omega) only [go_sem, ↓reduceIte, Nat.reduceEqDiff, q1, q2, q3, q4, hlen]); rfl); first | refine qzT ?_ | refine qzF ?_) | ((first | refine W_reg rfl fun G K hG hK => ?_ | refine W_end rfl fun G K hG hK => ?_); simp (disch := omega) only [go_sem, ↓reduceIte, Nat.reduceEqDiff, hG, q1, q2, q3, q4, hlen]; refine hK _ _ ?_; clear hK K hG G))
  refine W_loop (fun d fr st' => ∃ (j : Nat) , d = g.ops.length - j ∧ j ≤ g.ops.length ∧ (st' = st) ∧ ((g.ops.find? fun o => o.nm.toList == nm.toList) = (g.ops.drop j).find? fun o => o.nm.toList == nm.toList) ∧ (fr.env 1 = .string nm) ∧ (fr.env 2 = .pointer (some ⟨2, 0, some 1⟩)) ∧ (fr.env 4 = .pointer (some ⟨4, 0, some 1⟩)) ∧ (fr.env 6 = .int .i64 j) ∧ (fr.loc 2 = (1, [s, u])) ∧ ((fr.loc 4).1 = 1 ∧ (fr.loc 4).2.length = 3)) (g.ops.length) ?_ ?_
  ·exact ⟨0, by omega, by omega, rfl, by simp, (by refine ⟨?_, ?_, ?_, ?_, ?_, ⟨?_, ?_⟩⟩ <;> ((simp (disch := omega) only [go_sem, ↓reduceIte, Nat.reduceEqDiff, q1, q2, q3, q4, hlen]); try rfl))⟩
  rintro d ⟨env, loc⟩ st' ⟨j, hd, hj, hst, hfd, e1, e2, e4, e6, l2, ⟨l4, l4'⟩⟩
  simp only at e1 e2 e4 e6 l2 l4 l4'
  subst hst
  by_cases hlt : j < g.ops.length
  ·have c1 : decide ((j : Int) < (g.ops.length : Int)) = true := by simpa using hlt
   have hi := idxOk hlt
   have hx : g.ops[j]? = some g.ops[j] := List.getElem?_eq_getElem hlt
   have htk : g.ops.take (j + 1) = g.ops.take j ++ [g.ops[j]] := List.take_succ_eq_append_getElem hlt
   obtain ⟨i, o, c, sx, rfl, hrx, hcs⟩ := row_atO hu hx
   have hld := fun loc => load_row (A := []) (loc := loc) ag54 sz54 rfl hcs
   have hc0 : cell st' i (o + j * 3) = some (.string g.ops[j].nm) := by have := hcs 0 _ rfl; rwa [Nat.add_zero] at this
   have nx := hrx.notLoc.1
   have nx2 := hrx.notLoc.2
   have nx3 := Row.cells1 hrx
   rw [List.drop_eq_getElem_cons hlt, List.find?_cons] at hfd
   cases hn : (g.ops[j].nm.toList == nm.toList) with
   | true =>
    rw [hn] at hfd
    simp only at hfd
    rw [hfd]
    have h0 : Sl (α := ByteArray) (st' ++ [(⟨[], 9, 0⟩ : Blk)]) [] (.slice (some ⟨st'.length, 0, none⟩) 0 0) [st'.length] := Sl.empty (α := ByteArray) st'
    obtain ⟨s1, sB, L1, h1, h2, h3, h4⟩ := Sl.appRow (α := ByteArray) (t := 24) (u := 24) (n0 := st'.length) Try.underlying24 Try.underlying24 sz9 rfl by9 ze9 rfl h0 ⟨by simp, by simp⟩ (by simp) (Ext.refl _) (hrx.ext (Ext.app _ _)) (by have := hl.2.2 _ (List.getElem_mem hlt); simp; omega) (by have := hl.2.2 _ (List.getElem_mem hlt); simp; omega)
    rw [List.nil_append] at h2
    have a1 := h2.okv
    have a2 := h2.loc
    have a3 := h2.cells
    repeat (first | with_reducible (first | refine thenI ?_ | refine thenE ?_ | refine thenR ?_ | refine inBI ?_ | refine inBR ?_ | refine inBS ?_ | refine inBN (by decide) ?_) | refine W_seqS ?_ | refine W_seqC ?_ | refine W_seqB ?_ | refine W_block ?_ | refine W_skip ?_ | (apply W_condB; (case hc => (simp (disch := omega) only [go_sem, ↓reduceIte, Nat.reduceEqDiff, q1, q2, q3, q4, hlen, e1, e2, e4, e6, l2, l4, l4', c1, hi, idxA, Int.toNat_natCast, nx, nx2, nx3, hld, hc0, ag9, hn, w_append, h1, a1, a2, a3]); rfl); first | refine qzT ?_ | refine qzF ?_) | ((first | refine W_reg rfl fun G K hG hK => ?_ | refine W_end rfl fun G K hG hK => ?_); simp (disch := omega) only [go_sem, ↓reduceIte, Nat.reduceEqDiff, hG, q1, q2, q3, q4, hlen, e1, e2, e4, e6, l2, l4, l4', c1, hi, idxA, Int.toNat_natCast, nx, nx2, nx3, hld, hc0, ag9, hn, w_append, h1, a1, a2, a3]; refine hK _ _ ?_; clear hK K hG G))
    refine W_ret ?_; try (repeat (with_reducible first | refine thenI ?_ | refine thenE ?_ | refine thenR ?_ | refine inBI ?_ | refine inBR ?_ | refine inBS ?_ | refine inBN (by decide) ?_))
    refine finC2 (.inl rfl) (by (simp (disch := omega) only [go_sem, ↓reduceIte, Nat.reduceEqDiff, q1, q2, q3, q4, hlen, e1, e2, e4, e6, l2, l4, l4', c1, hi, idxA, Int.toNat_natCast, nx, nx2, nx3, a1, a2, a3]); try rfl) (by (simp (disch := omega) only [go_sem, ↓reduceIte, Nat.reduceEqDiff, q1, q2, q3, q4, hlen, e1, e2, e4, e6, l2, l4, l4', c1, hi, idxA, Int.toNat_natCast, nx, nx2, nx3]); try rfl) rfl ⟨h4.away.ext_of (Ext.app _ _) (.inr ⟨_, Nat.le_refl _, rfl⟩), [.string g.ops[j].nm, s1, .string g.ops[j].res], L1, rfl, ⟨_, rfl, h2⟩, h3⟩
   | false =>
    rw [hn] at hfd
    simp only at hfd
    repeat (first | with_reducible (first | refine thenI ?_ | refine thenE ?_ | refine thenR ?_ | refine inBI ?_ | refine inBR ?_ | refine inBS ?_ | refine inBN (by decide) ?_) | refine W_seqS ?_ | refine W_seqC ?_ | refine W_seqB ?_ | refine W_block ?_ | refine W_skip ?_ | (apply W_condB; (case hc => (simp (disch := omega) only [go_sem, ↓reduceIte, Nat.reduceEqDiff, q1, q2, q3, q4, hlen, e1, e2, e4, e6, l2, l4, l4', c1, hi, idxA, Int.toNat_natCast, nx, nx2, nx3, hc0, ag9, hn]); rfl); first | refine qzT ?_ | refine qzF ?_) | ((first | refine W_reg rfl fun G K hG hK => ?_ | refine W_end rfl fun G K hG hK => ?_); simp (disch := omega) only [go_sem, ↓reduceIte, Nat.reduceEqDiff, hG, q1, q2, q3, q4, hlen, e1, e2, e4, e6, l2, l4, l4', c1, hi, idxA, Int.toNat_natCast, nx, nx2, nx3, hc0, ag9, hn]; refine hK _ _ ?_; clear hK K hG G))
    refine ⟨g.ops.length - (j + 1), by omega, j + 1, rfl, by omega, rfl, hfd, (by refine ⟨?_, ?_, ?_, ?_, ?_, ⟨?_, ?_⟩⟩ <;> ((simp (disch := omega) only [go_sem, ↓reduceIte, Nat.reduceEqDiff, q1, q2, q3, q4, hlen, e1, e2, e4, e6, l2, l4, l4', c1, hi, idxA, Int.toNat_natCast, nx, nx2, nx3]); try rfl))⟩
  ·have c1 : decide ((j : Int) < (g.ops.length : Int)) = false := by simpa using hlt
   have hjn : j = g.ops.length := by omega
   subst hjn
   rw [List.drop_length] at hfd
   simp only [List.find?_nil] at hfd
   rw [hfd]
   repeat (first | with_reducible (first | refine thenI ?_ | refine thenE ?_ | refine thenR ?_ | refine inBI ?_ | refine inBR ?_ | refine inBS ?_ | refine inBN (by decide) ?_) | refine W_seqS ?_ | refine W_seqC ?_ | refine W_seqB ?_ | refine W_block ?_ | refine W_skip ?_ | (apply W_condB; (case hc => (simp (disch := omega) only [go_sem, ↓reduceIte, Nat.reduceEqDiff, q1, q2, q3, q4, hlen, e1, e2, e4, e6, l2, l4, l4', c1]); rfl); first | refine qzT ?_ | refine qzF ?_) | ((first | refine W_reg rfl fun G K hG hK => ?_ | refine W_end rfl fun G K hG hK => ?_); simp (disch := omega) only [go_sem, ↓reduceIte, Nat.reduceEqDiff, hG, q1, q2, q3, q4, hlen, e1, e2, e4, e6, l2, l4, l4', c1]; refine hK _ _ ?_; clear hK K hG G))
   refine W_exit ?_; repeat (with_reducible first | refine thenI ?_ | refine thenE ?_ | refine thenR ?_ | refine inBI ?_ | refine inBR ?_ | refine inBS ?_ | refine inBN (by decide) ?_)
   repeat (first | with_reducible (first | refine thenI ?_ | refine thenE ?_ | refine thenR ?_ | refine inBI ?_ | refine inBR ?_ | refine inBS ?_ | refine inBN (by decide) ?_) | refine W_seqS ?_ | refine W_seqC ?_ | refine W_seqB ?_ | refine W_block ?_ | refine W_skip ?_ | (apply W_condB; (case hc => (simp (disch := omega) only [go_sem, ↓reduceIte, Nat.reduceEqDiff, q1, q2, q3, q4, hlen, e1, e2, e4, e6, l2, l4, l4', c1]); rfl); first | refine qzT ?_ | refine qzF ?_) | ((first | refine W_reg rfl fun G K hG hK => ?_ | refine W_end rfl fun G K hG hK => ?_); simp (disch := omega) only [go_sem, ↓reduceIte, Nat.reduceEqDiff, hG, q1, q2, q3, q4, hlen, e1, e2, e4, e6, l2, l4, l4', c1]; refine hK _ _ ?_; clear hK K hG G))
   refine W_ret ?_; try (repeat (with_reducible first | refine thenI ?_ | refine thenE ?_ | refine thenR ?_ | refine inBI ?_ | refine inBR ?_ | refine inBS ?_ | refine inBN (by decide) ?_))
   refine finC2 (.inl rfl) (by (simp (disch := omega) only [go_sem, ↓reduceIte, Nat.reduceEqDiff, q1, q2, q3, q4, hlen, e1, e2, e4, e6, l2, l4, l4', c1]); try rfl) (by (simp (disch := omega) only [go_sem, ↓reduceIte, Nat.reduceEqDiff, q1, q2, q3, q4, hlen, e1, e2, e4, e6, l2, l4, l4', c1]); try rfl) rfl ⟨Ext.refl _, [.string ⟨#[]⟩, .slice none 0 0, .string ⟨#[]⟩], [], rfl, ⟨_, rfl, Sl.nil _⟩, .nil _⟩

end

section
/- Valid signatures, the reference: l6Sort, l6Op. -/
open Go Go.Proofs
set_option linter.unusedVariables false
set_option linter.unusedSimpArgs false
set_option maxRecDepth 100000
-- AUTO

theorem specIndex_ok (xs : List ByteArray) (w : ByteArray) (st : St) (s : Value) (hbig : xs.length ≤ 1073741824) (hr : Rw st xs s) :
  CallS Try.prog 52 [s, .string w] st fun r st2 => (∃ k : Int, r = .int .i64 k ∧ ((w ∈ xs ∧ 0 ≤ k) ∨ (w ∉ xs ∧ k = -1))) ∧ st2 = st := by
 refine CallS_of_W [] 19 Try.func52 rfl rfl rfl rfl (by simp) ?_
 have q1 := hr.notLoc.1
 have hlen : lenE Try.prog 24 s = some (.int .i64 xs.length) := row_len hr Try.underlying24
 repeat (first | with_reducible (first | refine thenI ?_ | refine thenE ?_ | refine thenR ?_ | refine inBI ?_ | refine inBR ?_ | refine inBS ?_ | refine inBN (by decide) ?_) | refine W_seqS ?_ | refine W_seqC ?_ | refine W_seqB ?_ | refine W_block ?_ | refine W_skip ?_ | (apply W_condB; (case hc => (simp (disch := omega) only [go_sem, ↓reduceIte, Nat.reduceEqDiff, q1, hlen]); rfl); first | refine qzT ?_ | refine qzF ?_) | ((first | refine W_reg rfl fun G K hG hK => ?_ | refine W_end rfl fun G K hG hK => ?_); simp (disch := omega) only [go_sem, ↓reduceIte, Nat.reduceEqDiff, hG, q1, hlen]; refine hK _ _ ?_; clear hK K hG G))
 refine W_loop (fun d fr st' => ∃ (j : Nat) , d = xs.length - j ∧ j ≤ xs.length ∧ (st = st') ∧ ((∀ x ∈ xs.take j, x ≠ w)) ∧ (fr.env 0 = s) ∧ (fr.env 1 = .string w) ∧ (fr.env 5 = .int .i64 j)) (xs.length) ?_ ?_
 ·exact ⟨0, by omega, by omega, rfl, by simp, (by refine ⟨?_, ?_, ?_⟩ <;> ((simp (disch := omega) only [go_sem, ↓reduceIte, Nat.reduceEqDiff, q1, hlen]); try rfl))⟩
 rintro d ⟨env, loc⟩ st' ⟨j, hd, hj, hst, hno, e0, e1, e5⟩
 simp only at e0 e1 e5
 subst hst
 by_cases hlt : j < xs.length
 ·have c1 : decide ((j : Int) < (xs.length : Int)) = true := by simpa using hlt
  have hi := idxOk hlt
  have hx : xs[j]? = some xs[j] := List.getElem?_eq_getElem hlt
  have htk : xs.take (j + 1) = xs.take j ++ [xs[j]] := List.take_succ_eq_append_getElem hlt
  obtain ⟨i, o, c, rfl, hce⟩ := row_atS hr hx
  cases hq : (xs[j].toList == w.toList) with
  | true =>
   have hw : xs[j] = w := by
    have h : xs[j].toList = w.toList := by simpa using hq
    rw [Lib.toList_data, Lib.toList_data] at h
    exact ByteArray.ext (Array.ext' h)
   repeat (first | with_reducible (first | refine thenI ?_ | refine thenE ?_ | refine thenR ?_ | refine inBI ?_ | refine inBR ?_ | refine inBS ?_ | refine inBN (by decide) ?_) | refine W_seqS ?_ | refine W_seqC ?_ | refine W_seqB ?_ | refine W_block ?_ | refine W_skip ?_ | (apply W_condB; (case hc => (simp (disch := omega) only [go_sem, ↓reduceIte, Nat.reduceEqDiff, q1, hlen, e0, e1, e5, c1, hi, idxA, Int.toNat_natCast, hce, hq]); rfl); first | refine qzT ?_ | refine qzF ?_) | ((first | refine W_reg rfl fun G K hG hK => ?_ | refine W_end rfl fun G K hG hK => ?_); simp (disch := omega) only [go_sem, ↓reduceIte, Nat.reduceEqDiff, hG, q1, hlen, e0, e1, e5, c1, hi, idxA, Int.toNat_natCast, hce, hq]; refine hK _ _ ?_; clear hK K hG G))
   refine W_ret ?_; try (repeat (with_reducible first | refine thenI ?_ | refine thenE ?_ | refine thenR ?_ | refine inBI ?_ | refine inBR ?_ | refine inBS ?_ | refine inBN (by decide) ?_))
   refine fin1 (.inl rfl) (by (simp (disch := omega) only [go_sem, ↓reduceIte, Nat.reduceEqDiff, q1, hlen, e0, e1, e5, c1, hi, idxA, Int.toNat_natCast]); try rfl) rfl ⟨⟨_, rfl, .inl ⟨hw ▸ List.getElem_mem hlt, by omega⟩⟩, rfl⟩
  | false =>
   have hw : xs[j] ≠ w := fun e => by rw [e] at hq; simp at hq
   have hno' : ∀ x ∈ xs.take (j + 1), x ≠ w := by
    rw [htk]
    intro x hx
    rcases List.mem_append.1 hx with h | h
    ·exact hno x h
    ·rw [List.mem_singleton.1 h]; exact hw
   repeat (first | with_reducible (first | refine thenI ?_ | refine thenE ?_ | refine thenR ?_ | refine inBI ?_ | refine inBR ?_ | refine inBS ?_ | refine inBN (by decide) ?_) | refine W_seqS ?_ | refine W_seqC ?_ | refine W_seqB ?_ | refine W_block ?_ | refine W_skip ?_ | (apply W_condB; (case hc => (simp (disch := omega) only [go_sem, ↓reduceIte, Nat.reduceEqDiff, q1, hlen, e0, e1, e5, c1, hi, idxA, Int.toNat_natCast, hce, hq]); rfl); first | refine qzT ?_ | refine qzF ?_) | ((first | refine W_reg rfl fun G K hG hK => ?_ | refine W_end rfl fun G K hG hK => ?_); simp (disch := omega) only [go_sem, ↓reduceIte, Nat.reduceEqDiff, hG, q1, hlen, e0, e1, e5, c1, hi, idxA, Int.toNat_natCast, hce, hq]; refine hK _ _ ?_; clear hK K hG G))
   refine ⟨xs.length - (j + 1), by omega, j + 1, rfl, by omega, rfl, hno', (by refine ⟨?_, ?_, ?_⟩ <;> ((simp (disch := omega) only [go_sem, ↓reduceIte, Nat.reduceEqDiff, q1, hlen, e0, e1, e5, c1, hi, idxA, Int.toNat_natCast]); try rfl))⟩
 ·have c1 : decide ((j : Int) < (xs.length : Int)) = false := by simpa using hlt
  have hjn : j = xs.length := by omega
  subst hjn
  rw [List.take_length] at hno
  repeat (first | with_reducible (first | refine thenI ?_ | refine thenE ?_ | refine thenR ?_ | refine inBI ?_ | refine inBR ?_ | refine inBS ?_ | refine inBN (by decide) ?_) | refine W_seqS ?_ | refine W_seqC ?_ | refine W_seqB ?_ | refine W_block ?_ | refine W_skip ?_ | (apply W_condB; (case hc => (simp (disch := omega) only [go_sem, ↓reduceIte, Nat.reduceEqDiff, q1, hlen, e0, e1, e5, c1]); rfl); first | refine qzT ?_ | refine qzF ?_) | ((first | refine W_reg rfl fun G K hG hK => ?_ | refine W_end rfl fun G K hG hK => ?_); simp (disch := omega) only [go_sem, ↓reduceIte, Nat.reduceEqDiff, hG, q1, hlen, e0, e1, e5, c1]; refine hK _ _ ?_; clear hK K hG G))
  refine W_exit ?_; repeat (with_reducible first | refine thenI ?_ | refine thenE ?_ | refine thenR ?_ | refine inBI ?_ | refine inBR ?_ | refine inBS ?_ | refine inBN (by decide) ?_)
  repeat (first | with_reducible (first | refine thenI ?_ | refine thenE ?_ | refine thenR ?_ | refine inBI ?_ | refine inBR ?_ | refine inBS ?_ | refine inBN (by decide) ?_) | refine W_seqS ?_ | refine W_seqC ?_ | refine W_seqB ?_ | refine W_block ?_ | refine W_skip ?_ | (apply W_condB; (case hc => (simp (disch := omega) only [go_sem, ↓reduceIte, Nat.reduceEqDiff, q1, hlen, e0, e1, e5, c1]); rfl); first | refine qzT ?_ | refine qzF ?_) | ((first | refine W_reg rfl fun G K hG hK => ?_ | refine W_end rfl fun G K hG hK => ?_); simp (disch := omega) only [go_sem, ↓reduceIte, Nat.reduceEqDiff, hG, q1, hlen, e0, e1, e5, c1]; refine hK _ _ ?_; clear hK K hG G))
  refine W_ret ?_; try (repeat (with_reducible first | refine thenI ?_ | refine thenE ?_ | refine thenR ?_ | refine inBI ?_ | refine inBR ?_ | refine inBS ?_ | refine inBN (by decide) ?_))
  refine fin1 (.inl rfl) (by (simp (disch := omega) only [go_sem, ↓reduceIte, Nat.reduceEqDiff, q1, hlen, e0, e1, e5, c1]); try rfl) rfl ⟨⟨_, rfl, .inr ⟨fun h => hno w h rfl, rfl⟩⟩, rfl⟩

/-- A sort that may be named. -/
def sortOk (g : Sgn) (w : ByteArray) : Bool := w.toList == wordB.toList || g.sorts.any fun x => x.toList == w.toList
theorem l6Sort_ok (g : Sgn) (w : ByteArray) (st : St) (cs : List Value) (hl : LimS 1073741824 g) (hE : EncS st g cs) :
  CallS Try.prog 51 [.agg cs.toArray, .string w] st fun r st2 => r = .bool (sortOk g w) ∧ st2 = st := by
 obtain ⟨s, u, rfl, hs, hu⟩ := hE
 refine CallS_of_W [] 14 Try.func51 rfl rfl rfl rfl (by simp) ?_
 have p1 := hs.notLoc.1
 have p2 := hs.notLoc.2
 have p3 := hu.notLoc.1
 have p4 := hu.notLoc.2
 have hb := hl.1
 repeat (first | with_reducible (first | refine thenI ?_ | refine thenE ?_ | refine thenR ?_ | refine inBI ?_ | refine inBR ?_ | refine inBS ?_ | refine inBN (by decide) ?_) | refine W_seqS ?_ | refine W_seqC ?_ | refine W_seqB ?_ | refine W_block ?_ | refine W_skip ?_ | (apply W_condB; (case hc => (simp (disch := omega) only [go_sem, ↓reduceIte, Nat.reduceEqDiff, p1, p2, p3, p4]); rfl); first | refine qzT ?_ | refine qzF ?_) | ((first | refine W_reg rfl fun G K hG hK => ?_ | refine W_end rfl fun G K hG hK => ?_); simp (disch := omega) only [go_sem, ↓reduceIte, Nat.reduceEqDiff, hG, p1, p2, p3, p4]; refine hK _ _ ?_; clear hK K hG G))
 cases hw : (w.toList == wordB.toList) with
 | true =>
  have hw' : (w.toList == (⟨#[119, 111, 114, 100]⟩ : ByteArray).toList) = true := hw
  repeat (first | with_reducible (first | refine thenI ?_ | refine thenE ?_ | refine thenR ?_ | refine inBI ?_ | refine inBR ?_ | refine inBS ?_ | refine inBN (by decide) ?_) | refine W_seqS ?_ | refine W_seqC ?_ | refine W_seqB ?_ | refine W_block ?_ | refine W_skip ?_ | (apply W_condB; (case hc => (simp (disch := omega) only [go_sem, ↓reduceIte, Nat.reduceEqDiff, p1, p2, p3, p4, hw']); rfl); first | refine qzT ?_ | refine qzF ?_) | ((first | refine W_reg rfl fun G K hG hK => ?_ | refine W_end rfl fun G K hG hK => ?_); simp (disch := omega) only [go_sem, ↓reduceIte, Nat.reduceEqDiff, hG, p1, p2, p3, p4, hw']; refine hK _ _ ?_; clear hK K hG G))
  refine W_ret ?_; try (repeat (with_reducible first | refine thenI ?_ | refine thenE ?_ | refine thenR ?_ | refine inBI ?_ | refine inBR ?_ | refine inBS ?_ | refine inBN (by decide) ?_))
  refine fin1 (.inl rfl) (by (simp (disch := omega) only [go_sem, ↓reduceIte, Nat.reduceEqDiff, p1, p2, p3, p4]); try rfl) rfl ⟨by unfold sortOk; rw [hw]; rfl, rfl⟩
 | false =>
  have hw' : (w.toList == (⟨#[119, 111, 114, 100]⟩ : ByteArray).toList) = false := hw
  (repeat (first | refine W_seqS ?_ | refine W_seqC ?_ | refine W_seqB ?_ | refine W_block ?_)); refine W_reg rfl fun G K hG hK => ?_; simp (disch := omega) only [go_sem, ↓reduceIte, Nat.reduceEqDiff, hG, p1, p2, p3, p4, hw']
  refine w_call (specIndex_ok g.sorts w st s hb hs) (by simp (disch := omega) only [go_sem, ↓reduceIte, Nat.reduceEqDiff, p1, p2, p3, p4, hw']) ?hl ?_
  case hl => first | rfl | (simp only [go_sem, List.all_cons, List.all_nil, Bool.not_false, Bool.and_self, p1, p2, p3, p4, hw']; done)
  rintro r_ st ⟨⟨k, rfl, hk⟩, rfl⟩; refine ⟨fun e => (by cases e), ?_⟩
  rcases hk with ⟨hin, hk0⟩ | ⟨hout, rfl⟩
  ·have c1 : decide (k ≥ 0) = true := decide_eq_true hk0
   simp (disch := omega) only [go_sem, ↓reduceIte, Nat.reduceEqDiff, hG, p1, p2, p3, p4, c1, hw']; refine hK _ _ ?_; clear hK K hG G; repeat (with_reducible first | refine thenI ?_ | refine thenE ?_ | refine thenR ?_ | refine inBI ?_ | refine inBR ?_ | refine inBS ?_ | refine inBN (by decide) ?_)
   refine W_ret ?_; try (repeat (with_reducible first | refine thenI ?_ | refine thenE ?_ | refine thenR ?_ | refine inBI ?_ | refine inBR ?_ | refine inBS ?_ | refine inBN (by decide) ?_))
   refine fin1 (.inl rfl) (by (simp (disch := omega) only [go_sem, ↓reduceIte, Nat.reduceEqDiff, p1, p2, p3, p4]); try rfl) rfl ⟨by unfold sortOk; rw [hw, List.any_eq_true.2 ⟨w, hin, by simp⟩]; rfl, rfl⟩
  ·have c1 : decide ((-1 : Int) ≥ 0) = false := by decide
   simp (disch := omega) only [go_sem, ↓reduceIte, Nat.reduceEqDiff, hG, p1, p2, p3, p4, c1, hw']; refine hK _ _ ?_; clear hK K hG G; repeat (with_reducible first | refine thenI ?_ | refine thenE ?_ | refine thenR ?_ | refine inBI ?_ | refine inBR ?_ | refine inBS ?_ | refine inBN (by decide) ?_)
   refine W_ret ?_; try (repeat (with_reducible first | refine thenI ?_ | refine thenE ?_ | refine thenR ?_ | refine inBI ?_ | refine inBR ?_ | refine inBS ?_ | refine inBN (by decide) ?_))
   refine fin1 (.inl rfl) (by (simp (disch := omega) only [go_sem, ↓reduceIte, Nat.reduceEqDiff, p1, p2, p3, p4]); try rfl) rfl ⟨by unfold sortOk; rw [hw, List.any_eq_false.2 fun x hx e => hout (by have h9 := ba_toList (a := x) (b := w) e; rw [← h9]; exact hx)]; rfl, rfl⟩
/-- An operation that may stand in a signature. -/
def opArgs (g : Sgn) (o : Opr) : Bool := o.args.all (sortOk g)
def opOk (g : Sgn) (o : Opr) : Bool := opArgs g o && (isName o.nm && (!isB o.nm && (decide ((o.args.length : Int) ≤ 3) && sortOk g o.res)))
theorem l6Op_ok (g : Sgn) (o : Opr) (st : St) (cs ds : List Value) (hl : LimS 1073741824 g) (hE : EncS st g cs) (hO : EncO st o ds) (hal : o.args.length ≤ 1073741824) (hnm : o.nm.size ≤ 8) :
  CallS Try.prog 32 [.agg cs.toArray, .agg ds.toArray] st fun r st2 => r = .bool (opOk g o) ∧ st2 = st := by
 have hE0 := hE
 obtain ⟨s, u, rfl, hs, hu⟩ := hE
 obtain ⟨sx, rfl, hxr⟩ := hO
 refine CallS_of_W [] 42 Try.func32 rfl rfl rfl rfl (by simp) ?_
 have p1 := hs.notLoc.1
 have p2 := hs.notLoc.2
 have p3 := hu.notLoc.1
 have p4 := hu.notLoc.2
 have p5 := hxr.notLoc.1
 have p6 := hxr.notLoc.2
 have hlen : lenE Try.prog 24 sx = some (.int .i64 o.args.length) := row_len hxr Try.underlying24
 repeat (first | with_reducible (first | refine thenI ?_ | refine thenE ?_ | refine thenR ?_ | refine inBI ?_ | refine inBR ?_ | refine inBS ?_ | refine inBN (by decide) ?_) | refine W_seqS ?_ | refine W_seqC ?_ | refine W_seqB ?_ | refine W_block ?_ | refine W_skip ?_ | (apply W_condB; (case hc => (simp (disch := omega) only [go_sem, ↓reduceIte, Nat.reduceEqDiff, p1, p2, p3, p4, p5, p6, hlen]); rfl); first | refine qzT ?_ | refine qzF ?_) | ((first | refine W_reg rfl fun G K hG hK => ?_ | refine W_end rfl fun G K hG hK => ?_); simp (disch := omega) only [go_sem, ↓reduceIte, Nat.reduceEqDiff, hG, p1, p2, p3, p4, p5, p6, hlen]; refine hK _ _ ?_; clear hK K hG G))
 refine W_loop (fun d fr st' => ∃ (j : Nat) , d = o.args.length - j ∧ j ≤ o.args.length ∧ (st = st') ∧ ((∀ x ∈ o.args.take j, sortOk g x = true)) ∧ (fr.env 2 = .pointer (some ⟨2, 0, some 1⟩)) ∧ (fr.env 3 = .pointer (some ⟨3, 0, some 1⟩)) ∧ (fr.env 5 = .int .i64 j) ∧ (fr.loc 2 = (1, [s, u])) ∧ (fr.loc 3 = (1, [.string o.nm, sx, .string o.res]))) (o.args.length) ?_ ?_
 ·exact ⟨0, by omega, by omega, rfl, by simp, (by refine ⟨?_, ?_, ?_, ?_, ?_⟩ <;> ((simp (disch := omega) only [go_sem, ↓reduceIte, Nat.reduceEqDiff, p1, p2, p3, p4, p5, p6, hlen]); try rfl))⟩
 rintro d ⟨env, loc⟩ st' ⟨j, hd, hj, hst, hall, e2, e3, e5, l2, l3⟩
 simp only at e2 e3 e5 l2 l3
 subst hst
 by_cases hlt : j < o.args.length
 ·have c1 : decide ((j : Int) < (o.args.length : Int)) = true := by simpa using hlt
  have hi := idxOk hlt
  have hx : o.args[j]? = some o.args[j] := List.getElem?_eq_getElem hlt
  have htk : o.args.take (j + 1) = o.args.take j ++ [o.args[j]] := List.take_succ_eq_append_getElem hlt
  obtain ⟨i, oo, c, rfl, hce⟩ := row_atS hxr hx
  repeat (first | with_reducible (first | refine thenI ?_ | refine thenE ?_ | refine thenR ?_ | refine inBI ?_ | refine inBR ?_ | refine inBS ?_ | refine inBN (by decide) ?_) | refine W_seqS ?_ | refine W_seqC ?_ | refine W_seqB ?_ | refine W_block ?_ | refine W_skip ?_ | (apply W_condB; (case hc => (simp (disch := omega) only [go_sem, ↓reduceIte, Nat.reduceEqDiff, p1, p2, p3, p4, p5, p6, hlen, e2, e3, e5, l2, l3, c1, hi, idxA, Int.toNat_natCast, hce]); rfl); first | refine qzT ?_ | refine qzF ?_) | ((first | refine W_reg rfl fun G K hG hK => ?_ | refine W_end rfl fun G K hG hK => ?_); simp (disch := omega) only [go_sem, ↓reduceIte, Nat.reduceEqDiff, hG, p1, p2, p3, p4, p5, p6, hlen, e2, e3, e5, l2, l3, c1, hi, idxA, Int.toNat_natCast, hce]; refine hK _ _ ?_; clear hK K hG G))
  (repeat (first | refine W_seqS ?_ | refine W_seqC ?_ | refine W_seqB ?_ | refine W_block ?_)); refine W_regD mixed [] [(0,false),(1,false),(2,false),(3,false),(4,false),(5,false),(6,false),(7,false)] rfl (by decide +kernel) fun G K hG hK => ?_; simp only [pickOps, List.filterMap_cons, List.filterMap_nil, List.getElem?_cons_zero, List.getElem?_cons_succ, Option.map_some]; simp (disch := omega) only [go_sem, ↓reduceIte, Nat.reduceEqDiff, hG, p1, p2, p3, p4, p5, p6, hlen, e2, e3, e5, l2, l3, c1, hi, idxA, Int.toNat_natCast, hce]
  refine w_call (l6Sort_ok g o.args[j] st _ hl hE0) (by simp (disch := omega) only [go_sem, ↓reduceIte, Nat.reduceEqDiff, p1, p2, p3, p4, p5, p6, hlen, e2, e3, e5, l2, l3, c1, hi, idxA, Int.toNat_natCast, hce]) ?hl ?_
  case hl => first | rfl | (simp only [go_sem, List.all_cons, List.all_nil, Bool.not_false, Bool.and_self, p1, p2, p3, p4, p5, p6, hlen, e2, e3, e5, l2, l3, c1, hi, idxA, Int.toNat_natCast, hce]; done)
  rintro r_ st ⟨rfl, rfl⟩; refine ⟨fun e => (by cases e), ?_⟩
  cases hso : sortOk g o.args[j] with
  | false =>
   have hbad : opOk g o = false := by
    unfold opOk opArgs
    rw [List.all_eq_false.2 ⟨o.args[j], List.getElem_mem hlt, by rw [hso]; simp⟩]
    rfl
   simp (disch := omega) only [go_sem, ↓reduceIte, Nat.reduceEqDiff, hG, p1, p2, p3, p4, p5, p6, hlen, e2, e3, e5, l2, l3, c1, hi, idxA, Int.toNat_natCast, hce]; refine hK _ _ ?_; clear hK K hG G; repeat (with_reducible first | refine thenI ?_ | refine thenE ?_ | refine thenR ?_ | refine inBI ?_ | refine inBR ?_ | refine inBS ?_ | refine inBN (by decide) ?_)
   repeat (first | with_reducible (first | refine thenI ?_ | refine thenE ?_ | refine thenR ?_ | refine inBI ?_ | refine inBR ?_ | refine inBS ?_ | refine inBN (by decide) ?_) | refine W_seqS ?_ | refine W_seqC ?_ | refine W_seqB ?_ | refine W_block ?_ | refine W_skip ?_ | (apply W_condB; (case hc => (simp (disch := omega) only [go_sem, ↓reduceIte, Nat.reduceEqDiff, p1, p2, p3, p4, p5, p6, hlen, e2, e3, e5, l2, l3, c1, hi, idxA, Int.toNat_natCast]); rfl); first | refine qzT ?_ | refine qzF ?_) | ((first | refine W_reg rfl fun G K hG hK => ?_ | refine W_end rfl fun G K hG hK => ?_); simp (disch := omega) only [go_sem, ↓reduceIte, Nat.reduceEqDiff, hG, p1, p2, p3, p4, p5, p6, hlen, e2, e3, e5, l2, l3, c1, hi, idxA, Int.toNat_natCast]; refine hK _ _ ?_; clear hK K hG G))
   refine W_ret ?_; try (repeat (with_reducible first | refine thenI ?_ | refine thenE ?_ | refine thenR ?_ | refine inBI ?_ | refine inBR ?_ | refine inBS ?_ | refine inBN (by decide) ?_))
   refine fin1 (.inl rfl) (by (simp (disch := omega) only [go_sem, ↓reduceIte, Nat.reduceEqDiff, p1, p2, p3, p4, p5, p6, hlen, e2, e3, e5, l2, l3, c1, hi, idxA, Int.toNat_natCast]); try rfl) rfl ⟨by rw [hbad], rfl⟩
  | true =>
   have hall2 : ∀ x ∈ o.args.take (j + 1), sortOk g x = true := fun x hx => by
    rw [htk] at hx
    rcases List.mem_append.1 hx with h | h
    ·exact hall x h
    ·cases List.mem_singleton.1 h; exact hso
   simp (disch := omega) only [go_sem, ↓reduceIte, Nat.reduceEqDiff, hG, p1, p2, p3, p4, p5, p6, hlen, e2, e3, e5, l2, l3, c1, hi, idxA, Int.toNat_natCast, hce]; refine hK _ _ ?_; clear hK K hG G; repeat (with_reducible first | refine thenI ?_ | refine thenE ?_ | refine thenR ?_ | refine inBI ?_ | refine inBR ?_ | refine inBS ?_ | refine inBN (by decide) ?_)
   repeat (first | with_reducible (first | refine thenI ?_ | refine thenE ?_ | refine thenR ?_ | refine inBI ?_ | refine inBR ?_ | refine inBS ?_ | refine inBN (by decide) ?_) | refine W_seqS ?_ | refine W_seqC ?_ | refine W_seqB ?_ | refine W_block ?_ | refine W_skip ?_ | (apply W_condB; (case hc => (simp (disch := omega) only [go_sem, ↓reduceIte, Nat.reduceEqDiff, p1, p2, p3, p4, p5, p6, hlen, e2, e3, e5, l2, l3, c1, hi, idxA, Int.toNat_natCast]); rfl); first | refine qzT ?_ | refine qzF ?_) | ((first | refine W_reg rfl fun G K hG hK => ?_ | refine W_end rfl fun G K hG hK => ?_); simp (disch := omega) only [go_sem, ↓reduceIte, Nat.reduceEqDiff, hG, p1, p2, p3, p4, p5, p6, hlen, e2, e3, e5, l2, l3, c1, hi, idxA, Int.toNat_natCast]; refine hK _ _ ?_; clear hK K hG G))
   refine ⟨o.args.length - (j + 1), by omega, j + 1, rfl, by omega, rfl, hall2, (by refine ⟨?_, ?_, ?_, ?_, ?_⟩ <;> ((simp (disch := omega) only [go_sem, ↓reduceIte, Nat.reduceEqDiff, p1, p2, p3, p4, p5, p6, hlen, e2, e3, e5, l2, l3, c1, hi, idxA, Int.toNat_natCast]); try rfl))⟩
 ·have c1 : decide ((j : Int) < (o.args.length : Int)) = false := by simpa using hlt
  have hjn : j = o.args.length := by omega
  subst hjn
  rw [List.take_length] at hall
  have hA : opArgs g o = true := List.all_eq_true.2 hall
  repeat (first | with_reducible (first | refine thenI ?_ | refine thenE ?_ | refine thenR ?_ | refine inBI ?_ | refine inBR ?_ | refine inBS ?_ | refine inBN (by decide) ?_) | refine W_seqS ?_ | refine W_seqC ?_ | refine W_seqB ?_ | refine W_block ?_ | refine W_skip ?_ | (apply W_condB; (case hc => (simp (disch := omega) only [go_sem, ↓reduceIte, Nat.reduceEqDiff, p1, p2, p3, p4, p5, p6, hlen, e2, e3, e5, l2, l3, c1]); rfl); first | refine qzT ?_ | refine qzF ?_) | ((first | refine W_reg rfl fun G K hG hK => ?_ | refine W_end rfl fun G K hG hK => ?_); simp (disch := omega) only [go_sem, ↓reduceIte, Nat.reduceEqDiff, hG, p1, p2, p3, p4, p5, p6, hlen, e2, e3, e5, l2, l3, c1]; refine hK _ _ ?_; clear hK K hG G))
  refine W_exit ?_; repeat (with_reducible first | refine thenI ?_ | refine thenE ?_ | refine thenR ?_ | refine inBI ?_ | refine inBR ?_ | refine inBS ?_ | refine inBN (by decide) ?_)
  (repeat (first | refine W_seqS ?_ | refine W_seqC ?_ | refine W_seqB ?_ | refine W_block ?_)); refine W_reg rfl fun G K hG hK => ?_; simp (disch := omega) only [go_sem, ↓reduceIte, Nat.reduceEqDiff, hG, p1, p2, p3, p4, p5, p6, hlen, e2, e3, e5, l2, l3, c1]
  refine w_call (specIsName_ok o.nm (by omega) st) (by simp (disch := omega) only [go_sem, ↓reduceIte, Nat.reduceEqDiff, p1, p2, p3, p4, p5, p6, hlen, e2, e3, e5, l2, l3, c1]) ?hl ?_
  case hl => first | rfl | (simp only [go_sem, List.all_cons, List.all_nil, Bool.not_false, Bool.and_self, p1, p2, p3, p4, p5, p6, hlen, e2, e3, e5, l2, l3, c1]; done)
  rintro r_ st ⟨rfl, rfl⟩; refine ⟨fun e => (by cases e), ?_⟩
  have hres : opOk g o = (isName o.nm && (!isB o.nm && (decide ((o.args.length : Int) ≤ 3) && sortOk g o.res))) := by unfold opOk; rw [hA]; rfl
  cases h1 : isName o.nm with
  | false =>
   simp (disch := omega) only [go_sem, ↓reduceIte, Nat.reduceEqDiff, hG, p1, p2, p3, p4, p5, p6, hlen, e2, e3, e5, l2, l3, c1]; refine hK _ _ ?_; clear hK K hG G; repeat (with_reducible first | refine thenI ?_ | refine thenE ?_ | refine thenR ?_ | refine inBI ?_ | refine inBR ?_ | refine inBS ?_ | refine inBN (by decide) ?_)
   refine W_ret ?_; try (repeat (with_reducible first | refine thenI ?_ | refine thenE ?_ | refine thenR ?_ | refine inBI ?_ | refine inBR ?_ | refine inBS ?_ | refine inBN (by decide) ?_))
   refine fin1 (.inl rfl) (by (simp (disch := omega) only [go_sem, ↓reduceIte, Nat.reduceEqDiff, p1, p2, p3, p4, p5, p6, hlen, e2, e3, e5, l2, l3, c1]); try rfl) rfl ⟨by rw [hres, h1]; rfl, rfl⟩
  | true =>
   simp (disch := omega) only [go_sem, ↓reduceIte, Nat.reduceEqDiff, p1, p2, p3, p4, p5, p6, hlen, e2, e3, e5, l2, l3, c1, hG]
   refine w_call (specIsB_ok o.nm st) (by simp (disch := omega) only [go_sem, ↓reduceIte, Nat.reduceEqDiff, p1, p2, p3, p4, p5, p6, hlen, e2, e3, e5, l2, l3, c1]) ?hl ?_
   case hl => first | rfl | (simp only [go_sem, List.all_cons, List.all_nil, Bool.not_false, Bool.and_self, p1, p2, p3, p4, p5, p6, hlen, e2, e3, e5, l2, l3, c1]; done)
   rintro r_ st ⟨rfl, rfl⟩; refine ⟨fun e => (by cases e), ?_⟩
   cases h2 : isB o.nm with
   | true =>
    simp (disch := omega) only [go_sem, ↓reduceIte, Nat.reduceEqDiff, hG, p1, p2, p3, p4, p5, p6, hlen, e2, e3, e5, l2, l3, c1]; refine hK _ _ ?_; clear hK K hG G; repeat (with_reducible first | refine thenI ?_ | refine thenE ?_ | refine thenR ?_ | refine inBI ?_ | refine inBR ?_ | refine inBS ?_ | refine inBN (by decide) ?_)
    refine W_ret ?_; try (repeat (with_reducible first | refine thenI ?_ | refine thenE ?_ | refine thenR ?_ | refine inBI ?_ | refine inBR ?_ | refine inBS ?_ | refine inBN (by decide) ?_))
    refine fin1 (.inl rfl) (by (simp (disch := omega) only [go_sem, ↓reduceIte, Nat.reduceEqDiff, p1, p2, p3, p4, p5, p6, hlen, e2, e3, e5, l2, l3, c1]); try rfl) rfl ⟨by rw [hres, h1, h2]; rfl, rfl⟩
   | false =>
    by_cases h3 : (o.args.length : Int) ≤ 3
    ·have c3 : decide ((o.args.length : Int) ≤ 3) = true := decide_eq_true h3
     simp (disch := omega) only [go_sem, ↓reduceIte, Nat.reduceEqDiff, p1, p2, p3, p4, p5, p6, hlen, e2, e3, e5, l2, l3, c1, hG, c3]
     refine w_call (l6Sort_ok g o.res st _ hl hE0) (by simp (disch := omega) only [go_sem, ↓reduceIte, Nat.reduceEqDiff, p1, p2, p3, p4, p5, p6, hlen, e2, e3, e5, l2, l3, c1, c3]) ?hl ?_
     case hl => first | rfl | (simp only [go_sem, List.all_cons, List.all_nil, Bool.not_false, Bool.and_self, p1, p2, p3, p4, p5, p6, hlen, e2, e3, e5, l2, l3, c1, c3]; done)
     rintro r_ st ⟨rfl, rfl⟩; refine ⟨fun e => (by cases e), ?_⟩
     simp (disch := omega) only [go_sem, ↓reduceIte, Nat.reduceEqDiff, hG, p1, p2, p3, p4, p5, p6, hlen, e2, e3, e5, l2, l3, c1, c3]; refine hK _ _ ?_; clear hK K hG G; repeat (with_reducible first | refine thenI ?_ | refine thenE ?_ | refine thenR ?_ | refine inBI ?_ | refine inBR ?_ | refine inBS ?_ | refine inBN (by decide) ?_)
     refine W_ret ?_; try (repeat (with_reducible first | refine thenI ?_ | refine thenE ?_ | refine thenR ?_ | refine inBI ?_ | refine inBR ?_ | refine inBS ?_ | refine inBN (by decide) ?_))
     refine fin1 (.inl rfl) (by (simp (disch := omega) only [go_sem, ↓reduceIte, Nat.reduceEqDiff, p1, p2, p3, p4, p5, p6, hlen, e2, e3, e5, l2, l3, c1]); try rfl) rfl ⟨by rw [hres, h1, h2, c3]; simp, rfl⟩
    ·have c3 : decide ((o.args.length : Int) ≤ 3) = false := decide_eq_false h3
     simp (disch := omega) only [go_sem, ↓reduceIte, Nat.reduceEqDiff, hG, p1, p2, p3, p4, p5, p6, hlen, e2, e3, e5, l2, l3, c1, c3]; refine hK _ _ ?_; clear hK K hG G; repeat (with_reducible first | refine thenI ?_ | refine thenE ?_ | refine thenR ?_ | refine inBI ?_ | refine inBR ?_ | refine inBS ?_ | refine inBN (by decide) ?_)
     refine W_ret ?_; try (repeat (with_reducible first | refine thenI ?_ | refine thenE ?_ | refine thenR ?_ | refine inBI ?_ | refine inBR ?_ | refine inBS ?_ | refine inBN (by decide) ?_))
     refine fin1 (.inl rfl) (by (simp (disch := omega) only [go_sem, ↓reduceIte, Nat.reduceEqDiff, p1, p2, p3, p4, p5, p6, hlen, e2, e3, e5, l2, l3, c1]); try rfl) rfl ⟨by rw [hres, h1, h2, c3]; rfl, rfl⟩

end

end Go.Proofs.Ytdijnohbbgbklaa.AM