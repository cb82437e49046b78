/- My texts for the law, laid together (part 3): F18 D5 E1 L0 C21 Q2 Q3 A19 C4 Q5 Q6 PL1 O1 O2. -/
import Derived.Test.YtpkjgjomiikofaaDoorG2
import Derived.Test.YtpkjgjomiikofaaDoorA3
import Derived.ChangeOld
import Derived.ChangeArms
import Derived.DataReads
import Derived.Test.YtpkjgjomiikofaaDoorA18
import Derived.Sort.Walk0
import Derived.Lib.Strings
namespace Go.Proofs.YtpkjgjomiikofaaDoor.AM
open Go
attribute [local go_sem] List.map_cons List.map_nil List.all_cons List.all_nil Bool.and_self Option.map_some List.getElem?_toArray Option.bind_some gye_b gye_t gsk_b gsk_t gb1 gb2 gb3 gb4 bne_self_eq_false beq_self_eq_true w_guard w_nil stepV_some step_some step_some' w_move w_assign w_pick w_binOp w_unOp w_load w_fieldAddr w_indexAddr w_len w_max w_index ev_max max_int ev_index w_box w_alloc w_store w_field w_extract w_nilCheck w_convert w_buildSlice w_build ev_buildL fillL_nil fillL_cons bs0 bs1 ev_conv ev_bin ev_un ev_pick ev_load ev_fieldAddr ev_indexAddr ev_len ev_field ev_extract ev_nilCheck fr_tmp fr_int fr_bool fr_str fr_nil fr_func put_some put_none bin_lss bin_leq bin_gtr bin_geq bin_eql bin_neq bin_add bin_sub bin_mul bin_seql bin_sneq un_not pick_ ext_ loadA_p cellAt_l cellAt_h okPtr_l okPtr_h fadA_p allocA_l storeA_l cells_agg cells_int cells_str cells_sl cells_bool flat_i flat_s flat_b flat_sl flat_nil loc_agg loc_int loc_str loc_sl loc_bool loc_fn loc_ptr okv_agg okv_int okv_str okv_sl okv_bool cellsFrom splice upd_eval argEnv_zero argEnv_succ ne_eq Nat.add_one_ne_zero not_false_eq_true List.not_mem_nil and_self decide_true List.getElem?_cons_zero List.getElem?_cons_succ List.size_toArray List.length_cons List.length_nil List.take_succ_cons List.take_zero List.drop_succ_cons List.drop_zero List.cons_append List.nil_append List.drop_nil Bool.not_true Bool.not_false Bool.false_eq_true Nat.zero_add Nat.add_zero wrap_in List.toList_toArray List.mem_cons or_self or_false false_or
attribute [local go_sem] ag22 ag24 ag26 ag3 ag4 ag5 ag78 ag83 ag9 ag91 bu116 bu122 bu26 bu39 bu49 bu58 by26 by5 by9 el22 el24 el46 el53 of26_0 of26_1 of26_2 of26_3 of39_0 of49_0 of49_1 of49_2 of58_0 of58_1 of58_2 of80_0 of80_1 ro26_0 ro26_1 ro26_2 ro3_3 ro5_1 ro9_1 ro9_2 ro9_3 ro9_4 ro9_8 sz22 sz24 sz26 sz3 sz4 sz5 sz78 sz83 sz9 sz91 ze109 ze26 ze5 ze80 ze9 ze90
section
/- The program's reader of terms: source.term. -/
open Go Go.Proofs Go.Lib
set_option linter.unusedVariables false
set_option linter.unusedSimpArgs false
set_option maxRecDepth 100000
-- AUTO

/-- From some number of steps on, the reader answers so. -/
def EvT (l : List UInt8) (res : Option (T × List UInt8)) : Prop := ∃ f0, ∀ f, f0 ≤ f → impT f l = res
def EvA (nm : ByteArray) (acc : List T) (l : List UInt8) (res : Option (T × List UInt8)) : Prop := ∃ f0, ∀ f, f0 ≤ f → impA f nm acc l = res
theorem EvT.of {l : List UInt8} {res : Option (T × List UInt8)} (h : ∀ f, impT (f + 1) l = res) : EvT l res := ⟨1, fun f hf => by
  obtain ⟨g, rfl⟩ : ∃ g, f = g + 1 := ⟨f - 1, by omega⟩
  exact h g⟩
theorem EvT.word {l : List UInt8} {n : Int} (h : wholeN 0 999999 (l.takeWhile alnum) = some n) : EvT l (if n < 4 then some (.mk 3 n ⟨#[]⟩ [], l.dropWhile alnum) else none) := .of fun f => by rw [impT, h]
theorem EvT.var {l : List UInt8} (h : wholeN 0 999999 (l.takeWhile alnum) = none) (h1 : isNm 65 90 (l.takeWhile alnum) = true) : EvT l (some (.mk 1 0 (baL (l.takeWhile alnum)) [], l.dropWhile alnum)) := .of fun f => by rw [impT, h]; simp only; rw [if_pos h1]
theorem EvT.bad {l : List UInt8} (h : wholeN 0 999999 (l.takeWhile alnum) = none) (h1 : isNm 65 90 (l.takeWhile alnum) = false) (h2 : isNm 97 122 (l.takeWhile alnum) = false) : EvT l none := .of fun f => by rw [impT, h]; simp only; rw [if_neg (by rw [h1]; simp), if_neg (by rw [h2]; simp)]
theorem EvT.leaf {l : List UInt8} (h : wholeN 0 999999 (l.takeWhile alnum) = none) (h1 : isNm 65 90 (l.takeWhile alnum) = false) (h2 : isNm 97 122 (l.takeWhile alnum) = true) (h3 : ¬ (l.dropWhile alnum).take 1 = [40]) :
    EvT l (some (.mk 2 0 (baL (l.takeWhile alnum)) [], l.dropWhile alnum)) := .of fun f => by rw [impT, h]; simp only; rw [if_neg (by rw [h1]; simp), if_pos h2, if_neg h3]
theorem EvT.node {l : List UInt8} (h : wholeN 0 999999 (l.takeWhile alnum) = none) (h1 : isNm 65 90 (l.takeWhile alnum) = false) (h2 : isNm 97 122 (l.takeWhile alnum) = true) (h3 : (l.dropWhile alnum).take 1 = [40])
    {res : Option (T × List UInt8)} (ha : EvA (baL (l.takeWhile alnum)) [] ((l.dropWhile alnum).drop 1) res) : EvT l res := by
  obtain ⟨f0, hf0⟩ := ha
  refine ⟨f0 + 1, fun f hf => ?_⟩
  obtain ⟨g, rfl⟩ : ∃ g, f = g + 1 := ⟨f - 1, by omega⟩
  rw [impT, h]
  simp only
  rw [if_neg (by rw [h1]; simp), if_pos h2, if_pos h3]
  exact hf0 g (by omega)
theorem EvA.none {nm : ByteArray} {acc : List T} {l : List UInt8} (h : EvT l none) : EvA nm acc l none := by
  obtain ⟨f0, hf0⟩ := h
  refine ⟨f0 + 1, fun f hf => ?_⟩
  obtain ⟨g, rfl⟩ : ∃ g, f = g + 1 := ⟨f - 1, by omega⟩
  rw [impA, hf0 g (by omega)]
theorem EvA.close {nm : ByteArray} {acc : List T} {l l1 : List UInt8} {a : T} (h : EvT l (some (a, l1))) (h1 : l1.take 1 = [41]) : EvA nm acc l (some (.mk 2 0 nm (acc ++ [a]), l1.drop 1)) := by
  obtain ⟨f0, hf0⟩ := h
  refine ⟨f0 + 1, fun f hf => ?_⟩
  obtain ⟨g, rfl⟩ : ∃ g, f = g + 1 := ⟨f - 1, by omega⟩
  rw [impA, hf0 g (by omega)]
  simp only
  rw [if_pos h1]
theorem EvA.bad {nm : ByteArray} {acc : List T} {l l1 : List UInt8} {a : T} (h : EvT l (some (a, l1))) (h1 : ¬ l1.take 1 = [41]) (h2 : ¬ l1.take 2 = [44, 32]) : EvA nm acc l .none := by
  obtain ⟨f0, hf0⟩ := h
  refine ⟨f0 + 1, fun f hf => ?_⟩
  obtain ⟨g, rfl⟩ : ∃ g, f = g + 1 := ⟨f - 1, by omega⟩
  rw [impA, hf0 g (by omega)]
  simp only
  rw [if_neg h1, if_neg h2]
theorem EvA.next {nm : ByteArray} {acc : List T} {l l1 : List UInt8} {a : T} (h : EvT l (some (a, l1))) (h1 : ¬ l1.take 1 = [41]) (h2 : l1.take 2 = [44, 32]) {res : Option (T × List UInt8)} (hr : EvA nm (acc ++ [a]) (l1.drop 2) res) : EvA nm acc l res := by
  obtain ⟨f0, hf0⟩ := h
  obtain ⟨f1, hf1⟩ := hr
  refine ⟨f0 + f1 + 1, fun f hf => ?_⟩
  obtain ⟨g, rfl⟩ : ∃ g, f = g + 1 := ⟨f - 1, by omega⟩
  rw [impA, hf0 g (by omega)]
  simp only
  rw [if_neg h1, if_pos h2]
  exact hf1 g (by omega)
theorem pre40 {w : ByteArray} : preB w ⟨#[40]⟩ = decide (w.data.toList.take 1 = [40]) := rfl
theorem cutB_yes {w p : ByteArray} (h : preB w p = true) : (cutB w p).data.toList = w.data.toList.drop p.size := by unfold cutB; rw [if_pos h, baL_list]
theorem cutB_no {w p : ByteArray} (h : preB w p = false) : cutB w p = w := by unfold cutB; rw [if_neg (by rw [h]; simp)]
theorem tw_split (p : UInt8 → Bool) (l : List UInt8) : (l.takeWhile p).length + (l.dropWhile p).length = l.length := by
  rw [← List.length_append, List.takeWhile_append_dropWhile]
theorem nm_pos {lo hi : Nat} {l : List UInt8} (h : isNm lo hi l = true) : 1 ≤ l.length := by
  cases l with
  | nil => cases h
  | cons _ _ => simp
theorem num_pos {lo hi v : Int} {l : List UInt8} (hlo : -1000000000000 < lo) (hhi : hi < 1000000000000) (h : wholeN lo hi l = some v) : 1 ≤ l.length := by
  cases l with
  | nil =>
    have h1 := ((wholeN_some hlo hhi).1 h).2
    have h2 := atoi_itoa v
    rw [h1] at h2
    cases h2
  | cons _ _ => simp
/-- The store as it was, but for the cursor. -/
theorem Away.mid {q : Nat} {a b : St} (h : Away (some q) a b) : ∃ m : St, Away (some q) a m ∧ Ext m b ∧ m.length = a.length := by
  have hl : (b.take a.length).length = a.length := by rw [List.length_take, Nat.min_eq_left h.1]
  refine ⟨b.take a.length, ⟨by omega, fun i hi hq => ?_⟩, fun i x hx => ?_, hl⟩
  · rw [List.getElem?_take, if_pos hi]
    exact h.2 i hi hq
  · rw [List.getElem?_take] at hx
    split at hx
    · exact hx
    · cases hx
theorem Src.ext {a b : St} {q : Nat} {w : ByteArray} (h : Src a q w) (hx : Ext a b) : Src b q w := hx _ _ h
theorem Src.lt {a : St} {q : Nat} {w : ByteArray} (h : Src a q w) : q < a.length := (List.getElem?_eq_some_iff.1 h).1
/-- What source.term answers. -/
def TermQ (q : Nat) (w : ByteArray) (st : St) (r : Value) (st2 : St) : Prop := ∃ (res : Option (T × List UInt8)) (w' : ByteArray), EvT w.data.toList res ∧ Src st2 q w' ∧ Away (some q) st st2 ∧ match res with
  | some (t, l') => w'.data.toList = l' ∧ l'.length < w.size ∧ ∃ ds L, r = .tuple #[.agg ds.toArray, .bool true] ∧ OwnT st2 t ds L ∧ Fresh st.length L
  | none => ∃ k n, r = .tuple #[.agg #[.int .i64 k, .int .i64 n, .string ⟨#[]⟩, .slice none 0 0], .bool false]
set_option maxHeartbeats 1000000 in
theorem term_ok : ∀ (N : Nat) (q : Nat) (w : ByteArray) (st : St), w.size < N → w.size ≤ 1073741824 → Src st q w →
    CallS Tryd.prog 17 [.pointer (some ⟨q, 0, none⟩)] st (TermQ q w st) := by
  intro N
  induction N with
  | zero => intro q w st h; omega
  | succ N ih =>
  intro q w st hN hb hs
  refine CallS_of_W [] 57 Tryd.func17 rfl rfl rfl rfl (by simp) ?_
  have hql := hs.lt
  repeat (first | (refine W_reg rfl fun G K hG hK => ?_; simp (disch := omega) only [go_sem, ↓reduceIte, Nat.reduceEqDiff, Nat.reduceAdd, Nat.reduceLeDiff, hG]; refine hK _ _ ?_; clear hK K hG G) | (refine W_end rfl fun G K hG hK => ?_; simp (disch := omega) only [go_sem, ↓reduceIte, Nat.reduceEqDiff, Nat.reduceAdd, Nat.reduceLeDiff, hG]; refine hK _ _ ?_; clear hK K hG G; repeat (first | refine thenI ?_ | refine thenE ?_ | refine thenR ?_ | refine inBI ?_ | refine inBR ?_ | refine inBS ?_ | refine inBN (by decide) ?_)) | refine W_seqS ?_ | refine W_seqC ?_ | refine W_seqB ?_ | refine W_block ?_ | (refine W_skip ?_; repeat (first | refine thenI ?_ | refine thenE ?_ | refine thenR ?_ | refine inBI ?_ | refine inBR ?_ | refine inBS ?_ | refine inBN (by decide) ?_)) | (refine W_condT ?hc ?_; (case hc => (simp (disch := omega) only [go_sem, ↓reduceIte, Nat.reduceEqDiff, Nat.reduceAdd, Nat.reduceLeDiff]; done))) | (refine W_condF ?hc ?_; (case hc => (simp (disch := omega) only [go_sem, ↓reduceIte, Nat.reduceEqDiff, Nat.reduceAdd, Nat.reduceLeDiff]; done))))
  (repeat (first | refine W_seqS ?_ | refine W_seqC ?_ | refine W_seqB ?_ | refine W_block ?_)); refine W_reg rfl fun G K hG hK => ?_; simp (disch := omega) only [go_sem, ↓reduceIte, Nat.reduceEqDiff, Nat.reduceAdd, Nat.reduceLeDiff, hG]
  refine w_call (sign_ok q w st hb hs) (by simp (disch := omega) only [go_sem, ↓reduceIte, Nat.reduceEqDiff]) ?hl ?_
  case hl => first | rfl | (simp only [go_sem, List.all_cons, List.all_nil, Bool.not_false, Bool.and_self]; done)
  rintro r_ sa ⟨rfl, s1, aw1, l1⟩; refine ⟨fun e => (by cases e), ?_⟩
  simp (disch := omega) only [go_sem, ↓reduceIte, Nat.reduceEqDiff, Nat.reduceAdd, Nat.reduceLeDiff, hG]; refine hK _ _ ?_; clear hK K hG G; repeat (first | refine thenI ?_ | refine thenE ?_ | refine thenR ?_ | refine inBI ?_ | refine inBR ?_ | refine inBS ?_ | refine inBN (by decide) ?_)
  have hsp := tw_split alnum w.data.toList
  have hwl := size_list w
  have hz1 : (baL (w.data.toList.takeWhile alnum)).size ≤ 1073741824 := by rw [baL_size]; omega
  have hz2 : (baL (w.data.toList.dropWhile alnum)).size ≤ 1073741824 := by rw [baL_size]; omega
  (repeat (first | refine W_seqS ?_ | refine W_seqC ?_ | refine W_seqB ?_ | refine W_block ?_)); refine W_reg rfl fun G K hG hK => ?_; simp (disch := omega) only [go_sem, ↓reduceIte, Nat.reduceEqDiff, Nat.reduceAdd, Nat.reduceLeDiff, hG]
  refine w_call (implParseNumber_ok (baL (w.data.toList.takeWhile alnum)) sa (by omega)) (by simp (disch := omega) only [go_sem, ↓reduceIte, Nat.reduceEqDiff]) ?hl ?_
  case hl => first | rfl | (simp only [go_sem, List.all_cons, List.all_nil, Bool.not_false, Bool.and_self]; done)
  rintro r_ sb ⟨x2, hq⟩; refine ⟨fun e => (by cases e), ?_⟩
  rw [baL_list] at hq
  have s2 := s1.ext x2
  have aw2 : Away (some q) st sb := aw1.trans (Away.of_ext (k := some q) x2) (.inl rfl)
  cases hn : wholeN 0 999999 (w.data.toList.takeWhile alnum) with
  | some v =>
    rw [hn] at hq
    simp only [NumQ] at hq
    subst hq
    have hps := num_pos (by omega) (by omega) hn
    simp (disch := omega) only [go_sem, ↓reduceIte, Nat.reduceEqDiff, Nat.reduceAdd, Nat.reduceLeDiff, hG]; refine hK _ _ ?_; clear hK K hG G; repeat (first | refine thenI ?_ | refine thenE ?_ | refine thenR ?_ | refine inBI ?_ | refine inBR ?_ | refine inBS ?_ | refine inBN (by decide) ?_)
    by_cases h4 : v < 4
    · have c1 : decide (v < 4) = true := decide_eq_true h4
      repeat (first | (refine W_reg rfl fun G K hG hK => ?_; simp (disch := omega) only [go_sem, ↓reduceIte, Nat.reduceEqDiff, Nat.reduceAdd, Nat.reduceLeDiff, hG, c1]; refine hK _ _ ?_; clear hK K hG G) | (refine W_end rfl fun G K hG hK => ?_; simp (disch := omega) only [go_sem, ↓reduceIte, Nat.reduceEqDiff, Nat.reduceAdd, Nat.reduceLeDiff, hG, c1]; refine hK _ _ ?_; clear hK K hG G; repeat (first | refine thenI ?_ | refine thenE ?_ | refine thenR ?_ | refine inBI ?_ | refine inBR ?_ | refine inBS ?_ | refine inBN (by decide) ?_)) | refine W_seqS ?_ | refine W_seqC ?_ | refine W_seqB ?_ | refine W_block ?_ | (refine W_skip ?_; repeat (first | refine thenI ?_ | refine thenE ?_ | refine thenR ?_ | refine inBI ?_ | refine inBR ?_ | refine inBS ?_ | refine inBN (by decide) ?_)) | (refine W_condT ?hc ?_; (case hc => (simp (disch := omega) only [go_sem, ↓reduceIte, Nat.reduceEqDiff, Nat.reduceAdd, Nat.reduceLeDiff, c1]; done))) | (refine W_condF ?hc ?_; (case hc => (simp (disch := omega) only [go_sem, ↓reduceIte, Nat.reduceEqDiff, Nat.reduceAdd, Nat.reduceLeDiff, c1]; done))))
      refine W_ret ?_; try (repeat (first | refine thenI ?_ | refine thenE ?_ | refine thenR ?_ | refine inBI ?_ | refine inBR ?_ | refine inBS ?_ | refine inBN (by decide) ?_))
      refine finC2 (.inl rfl) (by (simp (disch := omega) only [go_sem, ↓reduceIte, Nat.reduceEqDiff, Nat.reduceAdd, Nat.reduceLeDiff]); try rfl) (by (simp (disch := omega) only [go_sem, ↓reduceIte, Nat.reduceEqDiff, Nat.reduceAdd, Nat.reduceLeDiff]); try rfl) rfl ⟨_, _, .word hn, s2, aw2, ?_⟩
      rw [if_pos h4]
      exact ⟨baL_list _, by omega, [_, _, _, _], [], rfl, .nil _ _ _, .nil _⟩
    · have c1 : decide (v < 4) = false := decide_eq_false h4
      repeat (first | (refine W_reg rfl fun G K hG hK => ?_; simp (disch := omega) only [go_sem, ↓reduceIte, Nat.reduceEqDiff, Nat.reduceAdd, Nat.reduceLeDiff, hG, c1]; refine hK _ _ ?_; clear hK K hG G) | (refine W_end rfl fun G K hG hK => ?_; simp (disch := omega) only [go_sem, ↓reduceIte, Nat.reduceEqDiff, Nat.reduceAdd, Nat.reduceLeDiff, hG, c1]; refine hK _ _ ?_; clear hK K hG G; repeat (first | refine thenI ?_ | refine thenE ?_ | refine thenR ?_ | refine inBI ?_ | refine inBR ?_ | refine inBS ?_ | refine inBN (by decide) ?_)) | refine W_seqS ?_ | refine W_seqC ?_ | refine W_seqB ?_ | refine W_block ?_ | (refine W_skip ?_; repeat (first | refine thenI ?_ | refine thenE ?_ | refine thenR ?_ | refine inBI ?_ | refine inBR ?_ | refine inBS ?_ | refine inBN (by decide) ?_)) | (refine W_condT ?hc ?_; (case hc => (simp (disch := omega) only [go_sem, ↓reduceIte, Nat.reduceEqDiff, Nat.reduceAdd, Nat.reduceLeDiff, c1]; done))) | (refine W_condF ?hc ?_; (case hc => (simp (disch := omega) only [go_sem, ↓reduceIte, Nat.reduceEqDiff, Nat.reduceAdd, Nat.reduceLeDiff, c1]; done))))
      refine W_ret ?_; try (repeat (first | refine thenI ?_ | refine thenE ?_ | refine thenR ?_ | refine inBI ?_ | refine inBR ?_ | refine inBS ?_ | refine inBN (by decide) ?_))
      refine finC2 (.inl rfl) (by (simp (disch := omega) only [go_sem, ↓reduceIte, Nat.reduceEqDiff, Nat.reduceAdd, Nat.reduceLeDiff]); try rfl) (by (simp (disch := omega) only [go_sem, ↓reduceIte, Nat.reduceEqDiff, Nat.reduceAdd, Nat.reduceLeDiff]); try rfl) rfl ⟨_, _, .word hn, s2, aw2, ?_⟩
      rw [if_neg h4]
      exact ⟨_, _, rfl⟩
  | none =>
  rw [hn] at hq
  simp only [NumQ] at hq
  subst hq
  simp (disch := omega) only [go_sem, ↓reduceIte, Nat.reduceEqDiff, Nat.reduceAdd, Nat.reduceLeDiff, hG]; refine hK _ _ ?_; clear hK K hG G; repeat (first | refine thenI ?_ | refine thenE ?_ | refine thenR ?_ | refine inBI ?_ | refine inBR ?_ | refine inBS ?_ | refine inBN (by decide) ?_)
  repeat (first | (refine W_reg rfl fun G K hG hK => ?_; simp (disch := omega) only [go_sem, ↓reduceIte, Nat.reduceEqDiff, Nat.reduceAdd, Nat.reduceLeDiff, hG]; refine hK _ _ ?_; clear hK K hG G) | (refine W_end rfl fun G K hG hK => ?_; simp (disch := omega) only [go_sem, ↓reduceIte, Nat.reduceEqDiff, Nat.reduceAdd, Nat.reduceLeDiff, hG]; refine hK _ _ ?_; clear hK K hG G; repeat (first | refine thenI ?_ | refine thenE ?_ | refine thenR ?_ | refine inBI ?_ | refine inBR ?_ | refine inBS ?_ | refine inBN (by decide) ?_)) | refine W_seqS ?_ | refine W_seqC ?_ | refine W_seqB ?_ | refine W_block ?_ | (refine W_skip ?_; repeat (first | refine thenI ?_ | refine thenE ?_ | refine thenR ?_ | refine inBI ?_ | refine inBR ?_ | refine inBS ?_ | refine inBN (by decide) ?_)) | (refine W_condT ?hc ?_; (case hc => (simp (disch := omega) only [go_sem, ↓reduceIte, Nat.reduceEqDiff, Nat.reduceAdd, Nat.reduceLeDiff]; done))) | (refine W_condF ?hc ?_; (case hc => (simp (disch := omega) only [go_sem, ↓reduceIte, Nat.reduceEqDiff, Nat.reduceAdd, Nat.reduceLeDiff]; done))))
  (repeat (first | refine W_seqS ?_ | refine W_seqC ?_ | refine W_seqB ?_ | refine W_block ?_)); refine W_reg rfl fun G K hG hK => ?_; simp (disch := omega) only [go_sem, ↓reduceIte, Nat.reduceEqDiff, Nat.reduceAdd, Nat.reduceLeDiff, hG]
  refine w_call (implIsVar_ok (baL (w.data.toList.takeWhile alnum)) sb) (by simp (disch := omega) only [go_sem, ↓reduceIte, Nat.reduceEqDiff]) ?hl ?_
  case hl => first | rfl | (simp only [go_sem, List.all_cons, List.all_nil, Bool.not_false, Bool.and_self]; done)
  rintro r_ sb ⟨rfl, rfl⟩; refine ⟨fun e => (by cases e), ?_⟩
  have hv : isVar (baL (w.data.toList.takeWhile alnum)) = isNm 65 90 (w.data.toList.takeWhile alnum) := by unfold isVar; rw [baL_list]
  have hm : isName (baL (w.data.toList.takeWhile alnum)) = isNm 97 122 (w.data.toList.takeWhile alnum) := by unfold isName; rw [baL_list]
  rw [hv]
  cases hv1 : isNm 65 90 (w.data.toList.takeWhile alnum) with
  | true =>
    have hps := nm_pos hv1
    simp (disch := omega) only [go_sem, ↓reduceIte, Nat.reduceEqDiff, Nat.reduceAdd, Nat.reduceLeDiff, hG]; refine hK _ _ ?_; clear hK K hG G; repeat (first | refine thenI ?_ | refine thenE ?_ | refine thenR ?_ | refine inBI ?_ | refine inBR ?_ | refine inBS ?_ | refine inBN (by decide) ?_)
    repeat (first | (refine W_reg rfl fun G K hG hK => ?_; simp (disch := omega) only [go_sem, ↓reduceIte, Nat.reduceEqDiff, Nat.reduceAdd, Nat.reduceLeDiff, hG]; refine hK _ _ ?_; clear hK K hG G) | (refine W_end rfl fun G K hG hK => ?_; simp (disch := omega) only [go_sem, ↓reduceIte, Nat.reduceEqDiff, Nat.reduceAdd, Nat.reduceLeDiff, hG]; refine hK _ _ ?_; clear hK K hG G; repeat (first | refine thenI ?_ | refine thenE ?_ | refine thenR ?_ | refine inBI ?_ | refine inBR ?_ | refine inBS ?_ | refine inBN (by decide) ?_)) | refine W_seqS ?_ | refine W_seqC ?_ | refine W_seqB ?_ | refine W_block ?_ | (refine W_skip ?_; repeat (first | refine thenI ?_ | refine thenE ?_ | refine thenR ?_ | refine inBI ?_ | refine inBR ?_ | refine inBS ?_ | refine inBN (by decide) ?_)) | (refine W_condT ?hc ?_; (case hc => (simp (disch := omega) only [go_sem, ↓reduceIte, Nat.reduceEqDiff, Nat.reduceAdd, Nat.reduceLeDiff]; done))) | (refine W_condF ?hc ?_; (case hc => (simp (disch := omega) only [go_sem, ↓reduceIte, Nat.reduceEqDiff, Nat.reduceAdd, Nat.reduceLeDiff]; done))))
    refine W_ret ?_; try (repeat (first | refine thenI ?_ | refine thenE ?_ | refine thenR ?_ | refine inBI ?_ | refine inBR ?_ | refine inBS ?_ | refine inBN (by decide) ?_))
    refine finC2 (.inl rfl) (by (simp (disch := omega) only [go_sem, ↓reduceIte, Nat.reduceEqDiff, Nat.reduceAdd, Nat.reduceLeDiff]); try rfl) (by (simp (disch := omega) only [go_sem, ↓reduceIte, Nat.reduceEqDiff, Nat.reduceAdd, Nat.reduceLeDiff]); try rfl) rfl ⟨_, _, .var hn hv1, s2, aw2, baL_list _, by omega, [_, _, _, _], [], rfl, .nil _ _ _, .nil _⟩
  | false =>
  simp (disch := omega) only [go_sem, ↓reduceIte, Nat.reduceEqDiff, Nat.reduceAdd, Nat.reduceLeDiff, hG]; refine hK _ _ ?_; clear hK K hG G; repeat (first | refine thenI ?_ | refine thenE ?_ | refine thenR ?_ | refine inBI ?_ | refine inBR ?_ | refine inBS ?_ | refine inBN (by decide) ?_)
  repeat (first | (refine W_reg rfl fun G K hG hK => ?_; simp (disch := omega) only [go_sem, ↓reduceIte, Nat.reduceEqDiff, Nat.reduceAdd, Nat.reduceLeDiff, hG]; refine hK _ _ ?_; clear hK K hG G) | (refine W_end rfl fun G K hG hK => ?_; simp (disch := omega) only [go_sem, ↓reduceIte, Nat.reduceEqDiff, Nat.reduceAdd, Nat.reduceLeDiff, hG]; refine hK _ _ ?_; clear hK K hG G; repeat (first | refine thenI ?_ | refine thenE ?_ | refine thenR ?_ | refine inBI ?_ | refine inBR ?_ | refine inBS ?_ | refine inBN (by decide) ?_)) | refine W_seqS ?_ | refine W_seqC ?_ | refine W_seqB ?_ | refine W_block ?_ | (refine W_skip ?_; repeat (first | refine thenI ?_ | refine thenE ?_ | refine thenR ?_ | refine inBI ?_ | refine inBR ?_ | refine inBS ?_ | refine inBN (by decide) ?_)) | (refine W_condT ?hc ?_; (case hc => (simp (disch := omega) only [go_sem, ↓reduceIte, Nat.reduceEqDiff, Nat.reduceAdd, Nat.reduceLeDiff]; done))) | (refine W_condF ?hc ?_; (case hc => (simp (disch := omega) only [go_sem, ↓reduceIte, Nat.reduceEqDiff, Nat.reduceAdd, Nat.reduceLeDiff]; done))))
  (repeat (first | refine W_seqS ?_ | refine W_seqC ?_ | refine W_seqB ?_ | refine W_block ?_)); refine W_reg rfl fun G K hG hK => ?_; simp (disch := omega) only [go_sem, ↓reduceIte, Nat.reduceEqDiff, Nat.reduceAdd, Nat.reduceLeDiff, hG]
  refine w_call (implIsName_ok (baL (w.data.toList.takeWhile alnum)) sb) (by simp (disch := omega) only [go_sem, ↓reduceIte, Nat.reduceEqDiff]) ?hl ?_
  case hl => first | rfl | (simp only [go_sem, List.all_cons, List.all_nil, Bool.not_false, Bool.and_self]; done)
  rintro r_ sb ⟨rfl, rfl⟩; refine ⟨fun e => (by cases e), ?_⟩
  rw [hm]
  cases hm1 : isNm 97 122 (w.data.toList.takeWhile alnum) with
  | false =>
    simp (disch := omega) only [go_sem, ↓reduceIte, Nat.reduceEqDiff, Nat.reduceAdd, Nat.reduceLeDiff, hG]; refine hK _ _ ?_; clear hK K hG G; repeat (first | refine thenI ?_ | refine thenE ?_ | refine thenR ?_ | refine inBI ?_ | refine inBR ?_ | refine inBS ?_ | refine inBN (by decide) ?_)
    repeat (first | (refine W_reg rfl fun G K hG hK => ?_; simp (disch := omega) only [go_sem, ↓reduceIte, Nat.reduceEqDiff, Nat.reduceAdd, Nat.reduceLeDiff, hG]; refine hK _ _ ?_; clear hK K hG G) | (refine W_end rfl fun G K hG hK => ?_; simp (disch := omega) only [go_sem, ↓reduceIte, Nat.reduceEqDiff, Nat.reduceAdd, Nat.reduceLeDiff, hG]; refine hK _ _ ?_; clear hK K hG G; repeat (first | refine thenI ?_ | refine thenE ?_ | refine thenR ?_ | refine inBI ?_ | refine inBR ?_ | refine inBS ?_ | refine inBN (by decide) ?_)) | refine W_seqS ?_ | refine W_seqC ?_ | refine W_seqB ?_ | refine W_block ?_ | (refine W_skip ?_; repeat (first | refine thenI ?_ | refine thenE ?_ | refine thenR ?_ | refine inBI ?_ | refine inBR ?_ | refine inBS ?_ | refine inBN (by decide) ?_)) | (refine W_condT ?hc ?_; (case hc => (simp (disch := omega) only [go_sem, ↓reduceIte, Nat.reduceEqDiff, Nat.reduceAdd, Nat.reduceLeDiff]; done))) | (refine W_condF ?hc ?_; (case hc => (simp (disch := omega) only [go_sem, ↓reduceIte, Nat.reduceEqDiff, Nat.reduceAdd, Nat.reduceLeDiff]; done))))
    refine W_ret ?_; try (repeat (first | refine thenI ?_ | refine thenE ?_ | refine thenR ?_ | refine inBI ?_ | refine inBR ?_ | refine inBS ?_ | refine inBN (by decide) ?_))
    refine finC2 (.inl rfl) (by (simp (disch := omega) only [go_sem, ↓reduceIte, Nat.reduceEqDiff, Nat.reduceAdd, Nat.reduceLeDiff]); try rfl) (by (simp (disch := omega) only [go_sem, ↓reduceIte, Nat.reduceEqDiff, Nat.reduceAdd, Nat.reduceLeDiff]); try rfl) rfl ⟨_, _, .bad hn hv1 hm1, s2, aw2, _, _, rfl⟩
  | true =>
  have hps := nm_pos hm1
  simp (disch := omega) only [go_sem, ↓reduceIte, Nat.reduceEqDiff, Nat.reduceAdd, Nat.reduceLeDiff, hG]; refine hK _ _ ?_; clear hK K hG G; repeat (first | refine thenI ?_ | refine thenE ?_ | refine thenR ?_ | refine inBI ?_ | refine inBR ?_ | refine inBS ?_ | refine inBN (by decide) ?_)
  repeat (first | (refine W_reg rfl fun G K hG hK => ?_; simp (disch := omega) only [go_sem, ↓reduceIte, Nat.reduceEqDiff, Nat.reduceAdd, Nat.reduceLeDiff, hG]; refine hK _ _ ?_; clear hK K hG G) | (refine W_end rfl fun G K hG hK => ?_; simp (disch := omega) only [go_sem, ↓reduceIte, Nat.reduceEqDiff, Nat.reduceAdd, Nat.reduceLeDiff, hG]; refine hK _ _ ?_; clear hK K hG G; repeat (first | refine thenI ?_ | refine thenE ?_ | refine thenR ?_ | refine inBI ?_ | refine inBR ?_ | refine inBS ?_ | refine inBN (by decide) ?_)) | refine W_seqS ?_ | refine W_seqC ?_ | refine W_seqB ?_ | refine W_block ?_ | (refine W_skip ?_; repeat (first | refine thenI ?_ | refine thenE ?_ | refine thenR ?_ | refine inBI ?_ | refine inBR ?_ | refine inBS ?_ | refine inBN (by decide) ?_)) | (refine W_condT ?hc ?_; (case hc => (simp (disch := omega) only [go_sem, ↓reduceIte, Nat.reduceEqDiff, Nat.reduceAdd, Nat.reduceLeDiff]; done))) | (refine W_condF ?hc ?_; (case hc => (simp (disch := omega) only [go_sem, ↓reduceIte, Nat.reduceEqDiff, Nat.reduceAdd, Nat.reduceLeDiff]; done))))
  (repeat (first | refine W_seqS ?_ | refine W_seqC ?_ | refine W_seqB ?_ | refine W_block ?_)); refine W_reg rfl fun G K hG hK => ?_; simp (disch := omega) only [go_sem, ↓reduceIte, Nat.reduceEqDiff, Nat.reduceAdd, Nat.reduceLeDiff, hG]
  refine w_call (take_ok q (baL (w.data.toList.dropWhile alnum)) ⟨#[40]⟩ sb hz2 (by decide) s2) (by simp (disch := omega) only [go_sem, ↓reduceIte, Nat.reduceEqDiff]) ?hl ?_
  case hl => first | rfl | (simp only [go_sem, List.all_cons, List.all_nil, Bool.not_false, Bool.and_self]; done)
  rintro r_ sc ⟨rfl, s3, aw3, l3⟩; refine ⟨fun e => (by cases e), ?_⟩
  have aw3 : Away (some q) st sc := aw2.trans aw3 (.inl rfl)
  cases hp : preB (baL (w.data.toList.dropWhile alnum)) ⟨#[40]⟩ with
  | false =>
    have hp2 : ¬ (w.data.toList.dropWhile alnum).take 1 = [40] := by
      rw [pre40, baL_list] at hp
      exact of_decide_eq_false hp
    rw [cutB_no hp] at s3
    simp (disch := omega) only [go_sem, ↓reduceIte, Nat.reduceEqDiff, Nat.reduceAdd, Nat.reduceLeDiff, hG]; refine hK _ _ ?_; clear hK K hG G; repeat (first | refine thenI ?_ | refine thenE ?_ | refine thenR ?_ | refine inBI ?_ | refine inBR ?_ | refine inBS ?_ | refine inBN (by decide) ?_)
    repeat (first | (refine W_reg rfl fun G K hG hK => ?_; simp (disch := omega) only [go_sem, ↓reduceIte, Nat.reduceEqDiff, Nat.reduceAdd, Nat.reduceLeDiff, hG]; refine hK _ _ ?_; clear hK K hG G) | (refine W_end rfl fun G K hG hK => ?_; simp (disch := omega) only [go_sem, ↓reduceIte, Nat.reduceEqDiff, Nat.reduceAdd, Nat.reduceLeDiff, hG]; refine hK _ _ ?_; clear hK K hG G; repeat (first | refine thenI ?_ | refine thenE ?_ | refine thenR ?_ | refine inBI ?_ | refine inBR ?_ | refine inBS ?_ | refine inBN (by decide) ?_)) | refine W_seqS ?_ | refine W_seqC ?_ | refine W_seqB ?_ | refine W_block ?_ | (refine W_skip ?_; repeat (first | refine thenI ?_ | refine thenE ?_ | refine thenR ?_ | refine inBI ?_ | refine inBR ?_ | refine inBS ?_ | refine inBN (by decide) ?_)) | (refine W_condT ?hc ?_; (case hc => (simp (disch := omega) only [go_sem, ↓reduceIte, Nat.reduceEqDiff, Nat.reduceAdd, Nat.reduceLeDiff]; done))) | (refine W_condF ?hc ?_; (case hc => (simp (disch := omega) only [go_sem, ↓reduceIte, Nat.reduceEqDiff, Nat.reduceAdd, Nat.reduceLeDiff]; done))))
    refine W_ret ?_; try (repeat (first | refine thenI ?_ | refine thenE ?_ | refine thenR ?_ | refine inBI ?_ | refine inBR ?_ | refine inBS ?_ | refine inBN (by decide) ?_))
    refine finC2 (.inl rfl) (by (simp (disch := omega) only [go_sem, ↓reduceIte, Nat.reduceEqDiff, Nat.reduceAdd, Nat.reduceLeDiff]); try rfl) (by (simp (disch := omega) only [go_sem, ↓reduceIte, Nat.reduceEqDiff, Nat.reduceAdd, Nat.reduceLeDiff]); try rfl) rfl ⟨_, _, .leaf hn hv1 hm1 hp2, s3, aw3, baL_list _, by omega, [_, _, _, _], [], rfl, .nil _ _ _, .nil _⟩
  | true =>
  have hp2 : (w.data.toList.dropWhile alnum).take 1 = [40] := by
    rw [pre40, baL_list] at hp
    exact of_decide_eq_true hp
  have hcl := cutB_yes hp
  rw [baL_list, show (⟨#[40]⟩ : ByteArray).size = 1 from rfl] at hcl
  have hd1 : 1 ≤ (w.data.toList.dropWhile alnum).length := by
    have := congrArg List.length hp2
    simp only [List.length_take, List.length_cons, List.length_nil] at this
    omega
  have hsz : (cutB (baL (w.data.toList.dropWhile alnum)) ⟨#[40]⟩).size + 2 ≤ w.size := by
    rw [size_list, hcl, List.length_drop]
    omega
  simp (disch := omega) only [go_sem, ↓reduceIte, Nat.reduceEqDiff, Nat.reduceAdd, Nat.reduceLeDiff, hG]; refine hK _ _ ?_; clear hK K hG G; repeat (first | refine thenI ?_ | refine thenE ?_ | refine thenR ?_ | refine inBI ?_ | refine inBR ?_ | refine inBS ?_ | refine inBN (by decide) ?_)
  obtain ⟨nm, hnm⟩ : ∃ nm, nm = baL (w.data.toList.takeWhile alnum) := ⟨_, rfl⟩
  have hnf := hnm.symm
  repeat (first | (refine W_reg rfl fun G K hG hK => ?_; simp (disch := omega) only [go_sem, ↓reduceIte, Nat.reduceEqDiff, Nat.reduceAdd, Nat.reduceLeDiff, hG, hnf]; refine hK _ _ ?_; clear hK K hG G) | (refine W_end rfl fun G K hG hK => ?_; simp (disch := omega) only [go_sem, ↓reduceIte, Nat.reduceEqDiff, Nat.reduceAdd, Nat.reduceLeDiff, hG, hnf]; refine hK _ _ ?_; clear hK K hG G; repeat (first | refine thenI ?_ | refine thenE ?_ | refine thenR ?_ | refine inBI ?_ | refine inBR ?_ | refine inBS ?_ | refine inBN (by decide) ?_)) | refine W_seqS ?_ | refine W_seqC ?_ | refine W_seqB ?_ | refine W_block ?_ | (refine W_skip ?_; repeat (first | refine thenI ?_ | refine thenE ?_ | refine thenR ?_ | refine inBI ?_ | refine inBR ?_ | refine inBS ?_ | refine inBN (by decide) ?_)) | (refine W_condT ?hc ?_; (case hc => (simp (disch := omega) only [go_sem, ↓reduceIte, Nat.reduceEqDiff, Nat.reduceAdd, Nat.reduceLeDiff, hnf]; done))) | (refine W_condF ?hc ?_; (case hc => (simp (disch := omega) only [go_sem, ↓reduceIte, Nat.reduceEqDiff, Nat.reduceAdd, Nat.reduceLeDiff, hnf]; done))))
  refine W_loop (fun d fr st' => ∃ (j : Nat) (acc : List T) (r : Value) (L : List Nat) (u : ByteArray), d = w.size - j ∧ j ≤ w.size ∧ (Src st' q u) ∧ (Away (some q) st st') ∧ (Sl st' acc r L) ∧ (Fresh st.length L) ∧ (u.size + j + 2 ≤ w.size) ∧ (acc.length ≤ j) ∧ ((∀ res, EvA nm acc u.data.toList res → EvT w.data.toList res)) ∧ (fr.env 0 = .pointer (some ⟨q, 0, none⟩)) ∧ (fr.env 2 = .pointer (some ⟨2, 0, some 1⟩)) ∧ (fr.env 7 = .pointer (some ⟨7, 0, some 1⟩)) ∧ ((fr.loc 2).1 = 1 ∧ (fr.loc 2).2.length = 4) ∧ (fr.loc 7 = (1, [.int .i64 2, .int .i64 0, .string nm, r]))) (w.size) ?_ ?_
  · exact ⟨0, [], _, _, _, by omega, by omega, s3, aw3, Sl.nil _, .nil _, by omega, by simp, fun res h => .node hn hv1 hm1 hp2 (by rw [← hnm, ← hcl]; exact h), (by (simp (disch := omega) only [go_sem, ↓reduceIte, Nat.reduceEqDiff, Nat.reduceAdd, Nat.reduceLeDiff, hnf]); try rfl), (by (simp (disch := omega) only [go_sem, ↓reduceIte, Nat.reduceEqDiff, Nat.reduceAdd, Nat.reduceLeDiff, hnf]); try rfl), (by (simp (disch := omega) only [go_sem, ↓reduceIte, Nat.reduceEqDiff, Nat.reduceAdd, Nat.reduceLeDiff, hnf]); try rfl), ⟨(by (simp (disch := omega) only [go_sem, ↓reduceIte, Nat.reduceEqDiff, Nat.reduceAdd, Nat.reduceLeDiff, hnf]); try rfl), (by (simp (disch := omega) only [go_sem, ↓reduceIte, Nat.reduceEqDiff, Nat.reduceAdd, Nat.reduceLeDiff, hnf]); try rfl)⟩, (by (simp (disch := omega) only [go_sem, ↓reduceIte, Nat.reduceEqDiff, Nat.reduceAdd, Nat.reduceLeDiff, hnf]); try rfl)⟩
  rintro d ⟨env, loc⟩ st' ⟨j, acc, r, L, u, hd, hj, hsrc, haw, hown, hfr, hlen, hacc, hE, e0, e2, e7, ⟨l2, l2'⟩, l7⟩
  simp only at e0 e2 e7 l2 l2' l7
  have ol := hown.loc
  have ok := hown.okv
  have oc := hown.cells
  have hL1 := hown.lt
  have hst := haw.1
  repeat (first | (refine W_reg rfl fun G K hG hK => ?_; simp (disch := omega) only [go_sem, ↓reduceIte, Nat.reduceEqDiff, Nat.reduceAdd, Nat.reduceLeDiff, hG, e0, e2, e7, l2, l2', l7]; refine hK _ _ ?_; clear hK K hG G) | (refine W_end rfl fun G K hG hK => ?_; simp (disch := omega) only [go_sem, ↓reduceIte, Nat.reduceEqDiff, Nat.reduceAdd, Nat.reduceLeDiff, hG, e0, e2, e7, l2, l2', l7]; refine hK _ _ ?_; clear hK K hG G; repeat (first | refine thenI ?_ | refine thenE ?_ | refine thenR ?_ | refine inBI ?_ | refine inBR ?_ | refine inBS ?_ | refine inBN (by decide) ?_)) | refine W_seqS ?_ | refine W_seqC ?_ | refine W_seqB ?_ | refine W_block ?_ | (refine W_skip ?_; repeat (first | refine thenI ?_ | refine thenE ?_ | refine thenR ?_ | refine inBI ?_ | refine inBR ?_ | refine inBS ?_ | refine inBN (by decide) ?_)) | (refine W_condT ?hc ?_; (case hc => (simp (disch := omega) only [go_sem, ↓reduceIte, Nat.reduceEqDiff, Nat.reduceAdd, Nat.reduceLeDiff, e0, e2, e7, l2, l2', l7]; done))) | (refine W_condF ?hc ?_; (case hc => (simp (disch := omega) only [go_sem, ↓reduceIte, Nat.reduceEqDiff, Nat.reduceAdd, Nat.reduceLeDiff, e0, e2, e7, l2, l2', l7]; done))))
  (repeat (first | refine W_seqS ?_ | refine W_seqC ?_ | refine W_seqB ?_ | refine W_block ?_)); refine W_reg rfl fun G K hG hK => ?_; simp (disch := omega) only [go_sem, ↓reduceIte, Nat.reduceEqDiff, Nat.reduceAdd, Nat.reduceLeDiff, hG, e0, e2, e7, l2, l2', l7]
  refine w_call (ih q u st' (by omega) (by omega) hsrc) (by simp (disch := omega) only [go_sem, ↓reduceIte, Nat.reduceEqDiff, e0, e2, e7, l2, l2', l7]) ?hl ?_
  case hl => first | rfl | (simp only [go_sem, List.all_cons, List.all_nil, Bool.not_false, Bool.and_self, e0, e2, e7, l2, l2', l7]; done)
  rintro r_ sd ⟨res, u1, hev, hs1, ha1, hm1'⟩; refine ⟨fun e => (by cases e), ?_⟩
  have aw4 : Away (some q) st sd := haw.trans ha1 (.inl rfl)
  cases res with
  | none =>
    obtain ⟨k0, n0, rfl⟩ := hm1'
    simp (disch := omega) only [go_sem, ↓reduceIte, Nat.reduceEqDiff, Nat.reduceAdd, Nat.reduceLeDiff, hG, e0, e2, e7, l2, l2', l7]; refine hK _ _ ?_; clear hK K hG G; repeat (first | refine thenI ?_ | refine thenE ?_ | refine thenR ?_ | refine inBI ?_ | refine inBR ?_ | refine inBS ?_ | refine inBN (by decide) ?_)
    repeat (first | (refine W_reg rfl fun G K hG hK => ?_; simp (disch := omega) only [go_sem, ↓reduceIte, Nat.reduceEqDiff, Nat.reduceAdd, Nat.reduceLeDiff, hG, e0, e2, e7, l2, l2', l7]; refine hK _ _ ?_; clear hK K hG G) | (refine W_end rfl fun G K hG hK => ?_; simp (disch := omega) only [go_sem, ↓reduceIte, Nat.reduceEqDiff, Nat.reduceAdd, Nat.reduceLeDiff, hG, e0, e2, e7, l2, l2', l7]; refine hK _ _ ?_; clear hK K hG G; repeat (first | refine thenI ?_ | refine thenE ?_ | refine thenR ?_ | refine inBI ?_ | refine inBR ?_ | refine inBS ?_ | refine inBN (by decide) ?_)) | refine W_seqS ?_ | refine W_seqC ?_ | refine W_seqB ?_ | refine W_block ?_ | (refine W_skip ?_; repeat (first | refine thenI ?_ | refine thenE ?_ | refine thenR ?_ | refine inBI ?_ | refine inBR ?_ | refine inBS ?_ | refine inBN (by decide) ?_)) | (refine W_condT ?hc ?_; (case hc => (simp (disch := omega) only [go_sem, ↓reduceIte, Nat.reduceEqDiff, Nat.reduceAdd, Nat.reduceLeDiff, e0, e2, e7, l2, l2', l7]; done))) | (refine W_condF ?hc ?_; (case hc => (simp (disch := omega) only [go_sem, ↓reduceIte, Nat.reduceEqDiff, Nat.reduceAdd, Nat.reduceLeDiff, e0, e2, e7, l2, l2', l7]; done))))
    refine W_ret ?_; try (repeat (first | refine thenI ?_ | refine thenE ?_ | refine thenR ?_ | refine inBI ?_ | refine inBR ?_ | refine inBS ?_ | refine inBN (by decide) ?_))
    refine finC2 (.inl rfl) (by (simp (disch := omega) only [go_sem, ↓reduceIte, Nat.reduceEqDiff, Nat.reduceAdd, Nat.reduceLeDiff, e0, e2, e7, l2, l2', l7]); try rfl) (by (simp (disch := omega) only [go_sem, ↓reduceIte, Nat.reduceEqDiff, Nat.reduceAdd, Nat.reduceLeDiff, e0, e2, e7, l2, l2', l7]); try rfl) rfl ⟨_, _, hE _ (.none hev), hs1, aw4, _, _, rfl⟩
  | some p1 =>
  obtain ⟨a, l1'⟩ := p1
  obtain ⟨rfl, hlt, ds, Lx, rfl, hox, hfx⟩ := hm1'
  obtain ⟨k1, n1, m1, z1, rfl, b1, b2, b3⟩ := hox.args_cells
  have hu1 := size_list u1
  rw [← hu1] at hlt
  simp (disch := omega) only [go_sem, ↓reduceIte, Nat.reduceEqDiff, Nat.reduceAdd, Nat.reduceLeDiff, hG, e0, e2, e7, l2, l2', l7, b1, b2, b3]; refine hK _ _ ?_; clear hK K hG G; repeat (first | refine thenI ?_ | refine thenE ?_ | refine thenR ?_ | refine inBI ?_ | refine inBR ?_ | refine inBS ?_ | refine inBN (by decide) ?_)
  obtain ⟨mid, ham, hem, hml⟩ := ha1.mid
  have hown2 : Sl mid acc r L := hown.away ham (n := st.length) (m := st'.length) (fun i hi => ⟨hfr.2 i hi, hL1 i hi⟩) (fun x hx => by cases hx; exact .inl hql)
  obtain ⟨r', se, L', hap, hown', hfr', hl3, hoth⟩ := Own.step hown2 hfr (by omega) hem hox (by rw [hml]; exact hfx) (by omega)
  have hownS : Sl se (acc ++ [a]) r' L' := hown'
  have ol' := hownS.loc
  have ok' := hownS.okv
  have oc' := hownS.cells
  have s5 : Src se q u1 := (hoth q hql).trans hs1
  have aw5 : Away (some q) st se := ⟨by have := aw4.1; omega, fun i hi hne => (hoth i hi).trans (aw4.2 i hi hne)⟩
  repeat (first | (refine W_reg rfl fun G K hG hK => ?_; simp (disch := omega) only [go_sem, ↓reduceIte, Nat.reduceEqDiff, Nat.reduceAdd, Nat.reduceLeDiff, hG, e0, e2, e7, l2, l2', l7, b1, b2, b3, ol, ok, oc, w_append, hap, ol', ok', oc']; refine hK _ _ ?_; clear hK K hG G) | (refine W_end rfl fun G K hG hK => ?_; simp (disch := omega) only [go_sem, ↓reduceIte, Nat.reduceEqDiff, Nat.reduceAdd, Nat.reduceLeDiff, hG, e0, e2, e7, l2, l2', l7, b1, b2, b3, ol, ok, oc, w_append, hap, ol', ok', oc']; refine hK _ _ ?_; clear hK K hG G; repeat (first | refine thenI ?_ | refine thenE ?_ | refine thenR ?_ | refine inBI ?_ | refine inBR ?_ | refine inBS ?_ | refine inBN (by decide) ?_)) | refine W_seqS ?_ | refine W_seqC ?_ | refine W_seqB ?_ | refine W_block ?_ | (refine W_skip ?_; repeat (first | refine thenI ?_ | refine thenE ?_ | refine thenR ?_ | refine inBI ?_ | refine inBR ?_ | refine inBS ?_ | refine inBN (by decide) ?_)) | (refine W_condT ?hc ?_; (case hc => (simp (disch := omega) only [go_sem, ↓reduceIte, Nat.reduceEqDiff, Nat.reduceAdd, Nat.reduceLeDiff, e0, e2, e7, l2, l2', l7, b1, b2, b3, ol, ok, oc, w_append, hap, ol', ok', oc']; done))) | (refine W_condF ?hc ?_; (case hc => (simp (disch := omega) only [go_sem, ↓reduceIte, Nat.reduceEqDiff, Nat.reduceAdd, Nat.reduceLeDiff, e0, e2, e7, l2, l2', l7, b1, b2, b3, ol, ok, oc, w_append, hap, ol', ok', oc']; done))))
  (repeat (first | refine W_seqS ?_ | refine W_seqC ?_ | refine W_seqB ?_ | refine W_block ?_)); refine W_reg rfl fun G K hG hK => ?_; simp (disch := omega) only [go_sem, ↓reduceIte, Nat.reduceEqDiff, Nat.reduceAdd, Nat.reduceLeDiff, hG, e0, e2, e7, l2, l2', l7, b1, b2, b3]
  refine w_call (take_ok q u1 ⟨#[41]⟩ se (by omega) (by decide) s5) (by simp (disch := omega) only [go_sem, ↓reduceIte, Nat.reduceEqDiff, e0, e2, e7, l2, l2', l7, b1, b2, b3]) ?hl ?_
  case hl => first | rfl | (simp only [go_sem, List.all_cons, List.all_nil, Bool.not_false, Bool.and_self, e0, e2, e7, l2, l2', l7, b1, b2, b3]; done)
  rintro r_ sf ⟨rfl, s6, aw6, l6⟩; refine ⟨fun e => (by cases e), ?_⟩
  have aw7 : Away (some q) st sf := aw5.trans aw6 (.inl rfl)
  have hL2 := hownS.lt
  have hown3 : Sl sf (acc ++ [a]) r' L' := hownS.away aw6 (n := st.length) (m := se.length) (fun i hi => ⟨hfr'.2 i hi, hL2 i hi⟩) (fun x hx => by cases hx; exact .inl hql)
  cases hp1 : preB u1 ⟨#[41]⟩ with
  | true =>
    have hp3 : u1.data.toList.take 1 = [41] := of_decide_eq_true hp1
    have hd3 := cutB_yes hp1
    simp (disch := omega) only [go_sem, ↓reduceIte, Nat.reduceEqDiff, Nat.reduceAdd, Nat.reduceLeDiff, hG, e0, e2, e7, l2, l2', l7, b1, b2, b3]; refine hK _ _ ?_; clear hK K hG G; repeat (first | refine thenI ?_ | refine thenE ?_ | refine thenR ?_ | refine inBI ?_ | refine inBR ?_ | refine inBS ?_ | refine inBN (by decide) ?_)
    repeat (first | (refine W_reg rfl fun G K hG hK => ?_; simp (disch := omega) only [go_sem, ↓reduceIte, Nat.reduceEqDiff, Nat.reduceAdd, Nat.reduceLeDiff, hG, e0, e2, e7, l2, l2', l7, b1, b2, b3, ol', ok', oc']; refine hK _ _ ?_; clear hK K hG G) | (refine W_end rfl fun G K hG hK => ?_; simp (disch := omega) only [go_sem, ↓reduceIte, Nat.reduceEqDiff, Nat.reduceAdd, Nat.reduceLeDiff, hG, e0, e2, e7, l2, l2', l7, b1, b2, b3, ol', ok', oc']; refine hK _ _ ?_; clear hK K hG G; repeat (first | refine thenI ?_ | refine thenE ?_ | refine thenR ?_ | refine inBI ?_ | refine inBR ?_ | refine inBS ?_ | refine inBN (by decide) ?_)) | refine W_seqS ?_ | refine W_seqC ?_ | refine W_seqB ?_ | refine W_block ?_ | (refine W_skip ?_; repeat (first | refine thenI ?_ | refine thenE ?_ | refine thenR ?_ | refine inBI ?_ | refine inBR ?_ | refine inBS ?_ | refine inBN (by decide) ?_)) | (refine W_condT ?hc ?_; (case hc => (simp (disch := omega) only [go_sem, ↓reduceIte, Nat.reduceEqDiff, Nat.reduceAdd, Nat.reduceLeDiff, e0, e2, e7, l2, l2', l7, b1, b2, b3, ol', ok', oc']; done))) | (refine W_condF ?hc ?_; (case hc => (simp (disch := omega) only [go_sem, ↓reduceIte, Nat.reduceEqDiff, Nat.reduceAdd, Nat.reduceLeDiff, e0, e2, e7, l2, l2', l7, b1, b2, b3, ol', ok', oc']; done))))
    refine W_ret ?_; try (repeat (first | refine thenI ?_ | refine thenE ?_ | refine thenR ?_ | refine inBI ?_ | refine inBR ?_ | refine inBS ?_ | refine inBN (by decide) ?_))
    refine finC2 (.inl rfl) (by (simp (disch := omega) only [go_sem, ↓reduceIte, Nat.reduceEqDiff, Nat.reduceAdd, Nat.reduceLeDiff, e0, e2, e7, l2, l2', l7, b1, b2, b3, ol', ok', oc']); try rfl) (by (simp (disch := omega) only [go_sem, ↓reduceIte, Nat.reduceEqDiff, Nat.reduceAdd, Nat.reduceLeDiff, e0, e2, e7, l2, l2', l7, b1, b2, b3]); try rfl) rfl ⟨_, _, hE _ (.close hev hp3), s6, aw7, hd3, by rw [List.length_drop]; omega, [_, _, _, _], L', rfl, Own.close _ _ _ hown3, hfr'⟩
  | false =>
  have hp3 : ¬ u1.data.toList.take 1 = [41] := of_decide_eq_false hp1
  rw [cutB_no hp1] at s6
  simp (disch := omega) only [go_sem, ↓reduceIte, Nat.reduceEqDiff, Nat.reduceAdd, Nat.reduceLeDiff, hG, e0, e2, e7, l2, l2', l7, b1, b2, b3]; refine hK _ _ ?_; clear hK K hG G; repeat (first | refine thenI ?_ | refine thenE ?_ | refine thenR ?_ | refine inBI ?_ | refine inBR ?_ | refine inBS ?_ | refine inBN (by decide) ?_)
  repeat (first | (refine W_reg rfl fun G K hG hK => ?_; simp (disch := omega) only [go_sem, ↓reduceIte, Nat.reduceEqDiff, Nat.reduceAdd, Nat.reduceLeDiff, hG, e0, e2, e7, l2, l2', l7, b1, b2, b3]; refine hK _ _ ?_; clear hK K hG G) | (refine W_end rfl fun G K hG hK => ?_; simp (disch := omega) only [go_sem, ↓reduceIte, Nat.reduceEqDiff, Nat.reduceAdd, Nat.reduceLeDiff, hG, e0, e2, e7, l2, l2', l7, b1, b2, b3]; refine hK _ _ ?_; clear hK K hG G; repeat (first | refine thenI ?_ | refine thenE ?_ | refine thenR ?_ | refine inBI ?_ | refine inBR ?_ | refine inBS ?_ | refine inBN (by decide) ?_)) | refine W_seqS ?_ | refine W_seqC ?_ | refine W_seqB ?_ | refine W_block ?_ | (refine W_skip ?_; repeat (first | refine thenI ?_ | refine thenE ?_ | refine thenR ?_ | refine inBI ?_ | refine inBR ?_ | refine inBS ?_ | refine inBN (by decide) ?_)) | (refine W_condT ?hc ?_; (case hc => (simp (disch := omega) only [go_sem, ↓reduceIte, Nat.reduceEqDiff, Nat.reduceAdd, Nat.reduceLeDiff, e0, e2, e7, l2, l2', l7, b1, b2, b3]; done))) | (refine W_condF ?hc ?_; (case hc => (simp (disch := omega) only [go_sem, ↓reduceIte, Nat.reduceEqDiff, Nat.reduceAdd, Nat.reduceLeDiff, e0, e2, e7, l2, l2', l7, b1, b2, b3]; done))))
  (repeat (first | refine W_seqS ?_ | refine W_seqC ?_ | refine W_seqB ?_ | refine W_block ?_)); refine W_reg rfl fun G K hG hK => ?_; simp (disch := omega) only [go_sem, ↓reduceIte, Nat.reduceEqDiff, Nat.reduceAdd, Nat.reduceLeDiff, hG, e0, e2, e7, l2, l2', l7, b1, b2, b3]
  refine w_call (take_ok q u1 ⟨#[44, 32]⟩ sf (by omega) (by decide) s6) (by simp (disch := omega) only [go_sem, ↓reduceIte, Nat.reduceEqDiff, e0, e2, e7, l2, l2', l7, b1, b2, b3]) ?hl ?_
  case hl => first | rfl | (simp only [go_sem, List.all_cons, List.all_nil, Bool.not_false, Bool.and_self, e0, e2, e7, l2, l2', l7, b1, b2, b3]; done)
  rintro r_ sg ⟨rfl, s7, aw8, l8⟩; refine ⟨fun e => (by cases e), ?_⟩
  have aw9 : Away (some q) st sg := aw7.trans aw8 (.inl rfl)
  have hL3 := hown3.lt
  have hown4 : Sl sg (acc ++ [a]) r' L' := hown3.away aw8 (n := st.length) (m := sf.length) (fun i hi => ⟨hfr'.2 i hi, hL3 i hi⟩) (fun x hx => by cases hx; exact .inl hql)
  cases hp2' : preB u1 ⟨#[44, 32]⟩ with
  | false =>
    have hp4 : ¬ u1.data.toList.take 2 = [44, 32] := of_decide_eq_false hp2'
    simp (disch := omega) only [go_sem, ↓reduceIte, Nat.reduceEqDiff, Nat.reduceAdd, Nat.reduceLeDiff, hG, e0, e2, e7, l2, l2', l7, b1, b2, b3]; refine hK _ _ ?_; clear hK K hG G; repeat (first | refine thenI ?_ | refine thenE ?_ | refine thenR ?_ | refine inBI ?_ | refine inBR ?_ | refine inBS ?_ | refine inBN (by decide) ?_)
    repeat (first | (refine W_reg rfl fun G K hG hK => ?_; simp (disch := omega) only [go_sem, ↓reduceIte, Nat.reduceEqDiff, Nat.reduceAdd, Nat.reduceLeDiff, hG, e0, e2, e7, l2, l2', l7, b1, b2, b3]; refine hK _ _ ?_; clear hK K hG G) | (refine W_end rfl fun G K hG hK => ?_; simp (disch := omega) only [go_sem, ↓reduceIte, Nat.reduceEqDiff, Nat.reduceAdd, Nat.reduceLeDiff, hG, e0, e2, e7, l2, l2', l7, b1, b2, b3]; refine hK _ _ ?_; clear hK K hG G; repeat (first | refine thenI ?_ | refine thenE ?_ | refine thenR ?_ | refine inBI ?_ | refine inBR ?_ | refine inBS ?_ | refine inBN (by decide) ?_)) | refine W_seqS ?_ | refine W_seqC ?_ | refine W_seqB ?_ | refine W_block ?_ | (refine W_skip ?_; repeat (first | refine thenI ?_ | refine thenE ?_ | refine thenR ?_ | refine inBI ?_ | refine inBR ?_ | refine inBS ?_ | refine inBN (by decide) ?_)) | (refine W_condT ?hc ?_; (case hc => (simp (disch := omega) only [go_sem, ↓reduceIte, Nat.reduceEqDiff, Nat.reduceAdd, Nat.reduceLeDiff, e0, e2, e7, l2, l2', l7, b1, b2, b3]; done))) | (refine W_condF ?hc ?_; (case hc => (simp (disch := omega) only [go_sem, ↓reduceIte, Nat.reduceEqDiff, Nat.reduceAdd, Nat.reduceLeDiff, e0, e2, e7, l2, l2', l7, b1, b2, b3]; done))))
    refine W_ret ?_; try (repeat (first | refine thenI ?_ | refine thenE ?_ | refine thenR ?_ | refine inBI ?_ | refine inBR ?_ | refine inBS ?_ | refine inBN (by decide) ?_))
    refine finC2 (.inl rfl) (by (simp (disch := omega) only [go_sem, ↓reduceIte, Nat.reduceEqDiff, Nat.reduceAdd, Nat.reduceLeDiff, e0, e2, e7, l2, l2', l7, b1, b2, b3]); try rfl) (by (simp (disch := omega) only [go_sem, ↓reduceIte, Nat.reduceEqDiff, Nat.reduceAdd, Nat.reduceLeDiff, e0, e2, e7, l2, l2', l7, b1, b2, b3]); try rfl) rfl ⟨_, _, hE _ (.bad hev hp3 hp4), s7, aw9, _, _, rfl⟩
  | true =>
    have hp4 : u1.data.toList.take 2 = [44, 32] := of_decide_eq_true hp2'
    have hd4 := cutB_yes hp2'
    have hz4 : (cutB u1 ⟨#[44, 32]⟩).size ≤ u1.size := by rw [size_list, hd4, List.length_drop, ← hu1]; omega
    simp (disch := omega) only [go_sem, ↓reduceIte, Nat.reduceEqDiff, Nat.reduceAdd, Nat.reduceLeDiff, hG, e0, e2, e7, l2, l2', l7, b1, b2, b3]; refine hK _ _ ?_; clear hK K hG G; repeat (first | refine thenI ?_ | refine thenE ?_ | refine thenR ?_ | refine inBI ?_ | refine inBR ?_ | refine inBS ?_ | refine inBN (by decide) ?_)
    repeat (first | (refine W_reg rfl fun G K hG hK => ?_; simp (disch := omega) only [go_sem, ↓reduceIte, Nat.reduceEqDiff, Nat.reduceAdd, Nat.reduceLeDiff, hG, e0, e2, e7, l2, l2', l7, b1, b2, b3, ol', ok', oc']; refine hK _ _ ?_; clear hK K hG G) | (refine W_end rfl fun G K hG hK => ?_; simp (disch := omega) only [go_sem, ↓reduceIte, Nat.reduceEqDiff, Nat.reduceAdd, Nat.reduceLeDiff, hG, e0, e2, e7, l2, l2', l7, b1, b2, b3, ol', ok', oc']; refine hK _ _ ?_; clear hK K hG G; repeat (first | refine thenI ?_ | refine thenE ?_ | refine thenR ?_ | refine inBI ?_ | refine inBR ?_ | refine inBS ?_ | refine inBN (by decide) ?_)) | refine W_seqS ?_ | refine W_seqC ?_ | refine W_seqB ?_ | refine W_block ?_ | (refine W_skip ?_; repeat (first | refine thenI ?_ | refine thenE ?_ | refine thenR ?_ | refine inBI ?_ | refine inBR ?_ | refine inBS ?_ | refine inBN (by decide) ?_)) | (refine W_condT ?hc ?_; (case hc => (simp (disch := omega) only [go_sem, ↓reduceIte, Nat.reduceEqDiff, Nat.reduceAdd, Nat.reduceLeDiff, e0, e2, e7, l2, l2', l7, b1, b2, b3, ol', ok', oc']; done))) | (refine W_condF ?hc ?_; (case hc => (simp (disch := omega) only [go_sem, ↓reduceIte, Nat.reduceEqDiff, Nat.reduceAdd, Nat.reduceLeDiff, e0, e2, e7, l2, l2', l7, b1, b2, b3, ol', ok', oc']; done))))
    refine ⟨w.size - (j + 1), by omega, j + 1, acc ++ [a], r', L', _, rfl, by omega, s7, aw9, hown4, hfr', by omega, by simp; omega, fun res h => hE _ (.next hev hp3 hp4 (by rw [hd4] at h; exact h)), (by (simp (disch := omega) only [go_sem, ↓reduceIte, Nat.reduceEqDiff, Nat.reduceAdd, Nat.reduceLeDiff, e0, e2, e7, l2, l2', l7, b1, b2, b3]); try rfl), (by (simp (disch := omega) only [go_sem, ↓reduceIte, Nat.reduceEqDiff, Nat.reduceAdd, Nat.reduceLeDiff, e0, e2, e7, l2, l2', l7, b1, b2, b3]); try rfl), (by (simp (disch := omega) only [go_sem, ↓reduceIte, Nat.reduceEqDiff, Nat.reduceAdd, Nat.reduceLeDiff, e0, e2, e7, l2, l2', l7, b1, b2, b3]); try rfl), ⟨(by (simp (disch := omega) only [go_sem, ↓reduceIte, Nat.reduceEqDiff, Nat.reduceAdd, Nat.reduceLeDiff, e0, e2, e7, l2, l2', l7, b1, b2, b3]); try rfl), (by (simp (disch := omega) only [go_sem, ↓reduceIte, Nat.reduceEqDiff, Nat.reduceAdd, Nat.reduceLeDiff, e0, e2, e7, l2, l2', l7, b1, b2, b3]); try rfl)⟩, (by (simp (disch := omega) only [go_sem, ↓reduceIte, Nat.reduceEqDiff, Nat.reduceAdd, Nat.reduceLeDiff, e0, e2, e7, l2, l2', l7, b1, b2, b3]); try rfl)⟩

end

end Go.Proofs.YtpkjgjomiikofaaDoor.AM
/- The whole world as an abstract store: what a law begins with. -/
namespace Go.Proofs.YtpkjgjomiikofaaDoor.AM
open Go Go.RowKit
set_option linter.unusedVariables false
set_option linter.unusedSimpArgs false

def jv : Value := .pointer (some ⟨0, 0, some 0⟩)
/-- A world's value, if it can be told of. -/
def absV (n : Nat) (v : Value) : Value := match v with
  | .slice (some a) l c => if a.spot = none ∧ a.block < n ∧ l ≤ c then v else if l = 0 ∧ c = 0 then .slice (some ⟨0, 0, some 0⟩) 0 0 else jv
  | v => if flat1 v then v else jv
def absB (W : World) (i : Nat) : Blk := match W.heap[i]? with
  | some (.cells c t _) => ⟨c.toList.map (absV W.heap.size), t, 1⟩
  | _ => ⟨[], 0, 1⟩
def size0 (W : World) (i : Nat) : Nat := match W.heap[i]? with
  | some (.cells c _ _) => c.size
  | _ => 0
def absS (W : World) : St := (List.range W.heap.size).map (absB W)
def absM (W : World) : List ME := (List.range W.heap.size).map fun i => ⟨i, size0 W i, 0, false⟩

theorem absS_get {W : World} {i : Nat} {b : Blk} (h : (absS W)[i]? = some b) : i < W.heap.size ∧ b = absB W i := by
  unfold absS at h
  rw [List.getElem?_map] at h
  by_cases hi : i < W.heap.size
  · rw [List.getElem?_range hi] at h
    exact ⟨hi, (Option.some.inj h).symm⟩
  · rw [List.getElem?_eq_none (by simp; omega)] at h; cases h
theorem absS_of {W : World} {i : Nat} (hi : i < W.heap.size) : (absS W)[i]? = some (absB W i) := by
  unfold absS
  rw [List.getElem?_map, List.getElem?_range hi]; rfl
theorem absM_get {W : World} {i : Nat} {m : ME} (h : (absM W)[i]? = some m) : i < W.heap.size ∧ m = ⟨i, size0 W i, 0, false⟩ := by
  unfold absM at h
  rw [List.getElem?_map] at h
  by_cases hi : i < W.heap.size
  · rw [List.getElem?_range hi] at h
    exact ⟨hi, (Option.some.inj h).symm⟩
  · rw [List.getElem?_eq_none (by simp; omega)] at h; cases h
theorem absM_of {W : World} {i : Nat} (hi : i < W.heap.size) : (absM W)[i]? = some ⟨i, size0 W i, 0, false⟩ := by
  unfold absM
  rw [List.getElem?_map, List.getElem?_range hi]; rfl
theorem absB_stat (W : World) (i : Nat) : (absB W i).stat = 1 := by unfold absB; split <;> rfl

theorem absV_vr {W : World} {v : Value} (h : isJ (absV W.heap.size v) = false) : one (absV W.heap.size v) = true ∧ VR (absM W) (absV W.heap.size v) v := by
  unfold absV at h ⊢
  split
  · rename_i a l c
    split
    · rename_i hc
      obtain ⟨b, o, sp⟩ := a
      obtain ⟨hsp, hb, hl⟩ := hc
      simp only at hsp
      subst hsp
      exact ⟨rfl, .sl _ _ _ _ _ _ _ (absM_of hb) hl (.inl ⟨rfl, fun _ e => by cases e⟩)⟩
    · rename_i hc
      simp only [if_neg hc] at h
      split
      · rename_i h0
        obtain ⟨rfl, rfl⟩ := h0
        exact ⟨rfl, .emp a⟩
      · rename_i h0
        rw [if_neg h0] at h
        cases h
  · rename_i hx
    split
    · rename_i hf
      exact ⟨flat1_one hf, .fl _ hf⟩
    · rename_i hf
      split at h
      · rename_i a l c
        exact absurd rfl (hx a l c)
      · rw [if_neg hf] at h; cases h

theorem Tab.lt {P : Program} {w : World} (h : Tab P w) : ∀ nm ∈ tabNm, ∀ g, P.globalNamed nm = some g → g < w.heap.size := by
  have key : ∀ nm g cs, P.globalNamed nm = some g → w.var? P nm = some cs → g < w.heap.size := fun nm g cs hg hv => by
    unfold World.var? at hv
    simp only [hg, Option.bind_some] at hv
    rcases Nat.lt_or_ge g w.heap.size with h' | h'
    · exact h'
    · rw [Array.getElem?_eq_none h'] at hv; cases hv
  intro nm hn g hg
  simp only [tabNm, List.mem_cons, List.not_mem_nil, or_false] at hn
  have hne : P.globalNamed nm ≠ none := by rw [hg]; simp
  rcases hn with rfl | hn
  · exact key _ g _ hg (h.pow hne)
  · obtain ⟨tp, p, hv⟩ := h.err nm hn hne
    exact key _ g _ hg hv
theorem abs_cov {P : Program} {W : World} (h : Tab P W) : Cov P (absM W) (absS W) := fun nm hn g hg => by
  have hlt := h.lt nm hn g hg
  exact ⟨g, _, _, absM_of hlt, rfl, absS_of hlt, absB_stat W g⟩
theorem abs_hr (P : Program) (W : World) (hT : Tab P W) : HR P ⟨W, absM W, absS W⟩ (absM W) (absS W) W := by
  refine ⟨by simp [absM, absS], fun _ _ h => h, fun i b m hb hm h2 hfar => ?_, fun i j b b' m m' hb hb' _ _ hm hm' e => ?_, fun i m hm => ?_, fun i m hm _ => ⟨i, m, hm, rfl⟩, fun i b m hb _ hm => ⟨hb, rfl⟩, rfl, rfl, rfl, Nat.le_refl _, fun _ _ _ => rfl, hT, abs_cov hT⟩
  · obtain ⟨hi, rfl⟩ := absS_get hb
    obtain ⟨_, rfl⟩ := absM_get hm
    cases hh : W.heap[i]? with
    | none => exact absurd ⟨absB_stat W i, by simp [absB, hh]⟩ hfar
    | some o =>
      cases o with
      | cells c t q =>
        have e1 : absB W i = ⟨c.toList.map (absV W.heap.size), t, 1⟩ := by unfold absB; rw [hh]
        have e2 : size0 W i = c.size := by unfold size0; rw [hh]
        rw [e1, e2]
        refine ⟨c, ⟨q, hh, fun e => by cases e⟩, rfl, by simp, fun j x hx => ?_, fun e => by cases e⟩
        simp only [List.getElem?_map, Option.map_eq_some_iff] at hx
        obtain ⟨y, hy, rfl⟩ := hx
        cases hj : isJ (absV W.heap.size y) with
        | true => exact .inl ⟨rfl, rfl⟩
        | false =>
          obtain ⟨h2, h3⟩ := absV_vr hj
          exact .inr ⟨h2, y, by simpa using hy, h3⟩
      | _ => exact absurd ⟨absB_stat W i, by simp [absB, hh]⟩ hfar
  · obtain ⟨_, rfl⟩ := absM_get hm
    obtain ⟨_, rfl⟩ := absM_get hm'
    exact e
  · obtain ⟨hi, rfl⟩ := absM_get hm
    exact hi

/-- An argument, and what the store says of it. -/
def ArgS (W : World) (x v : Value) : Prop := (isJ (absV W.heap.size v) = false ∧ x = absV W.heap.size v) ∨ ∃ cs : List Value, v = .agg cs.toArray ∧ x = .agg (cs.map (absV W.heap.size)).toArray ∧ ∀ c ∈ cs, isJ (absV W.heap.size c) = false

/-- What holds of a call that begins at the whole world. -/
theorem CallS.enter {P : Program} {f : FuncId} {args : List Value} {vals : Array Value} {W : World} {Q : Value → St → Prop} (hT : Tab P W) (h : CallS P f args (absS W) Q) (hl : args.length = vals.size) (hv : ∀ (i : Nat) x v, args[i]? = some x → vals[i]? = some v → ArgS W x v) :
    Calls P f vals W fun e w' => ∃ r v st' M', e = .returned v ∧ Q r st' ∧ VR M' r v ∧ Below W.heap.size W w' := by
  refine (h.2 (absM W) W vals (abs_hr P W hT) ⟨hl, fun i x y hx hy => ?_⟩).mono fun e w' ⟨r, v, st', M', he, hq, hvr, hr⟩ => ⟨r, v, st', M', he, hq, hvr, hr.os, hr.tape, hr.output, hr.size, fun k hk => ?_⟩
  · rcases hv i x y hx hy with ⟨h1, rfl⟩ | ⟨cs, rfl, rfl, hcs⟩
    · exact (absV_vr h1).2
    · refine .agg _ _ (by simp) (fun i c hc => ?_) fun i c d hc hd => ?_
      · simp only [List.getElem?_toArray, List.getElem?_map, Option.map_eq_some_iff] at hc
        obtain ⟨d, hd, rfl⟩ := hc
        exact (absV_vr (hcs d (List.mem_of_getElem? hd))).1
      · simp only [List.getElem?_toArray, List.getElem?_map] at hc hd
        rw [hd] at hc
        obtain rfl := Option.some.inj hc
        exact (absV_vr (hcs d (List.mem_of_getElem? hd))).2
  · exact (hr.ro k _ _ (absS_of hk) (absB_stat W k) (absM_of hk)).2

inductive ArgsS (W : World) : List Value → List Value → Prop
  | nil : ArgsS W [] []
  | cons (x v : Value) (xs vs : List Value) (h : ArgS W x v) (hs : ArgsS W xs vs) : ArgsS W (x :: xs) (v :: vs)
theorem ArgsS.get {W : World} {xs vs : List Value} (h : ArgsS W xs vs) : xs.length = vs.length ∧ ∀ (i : Nat) x v, xs[i]? = some x → vs[i]? = some v → ArgS W x v := by
  induction h with
  | nil => exact ⟨rfl, fun i x v hx => by simp at hx⟩
  | cons x v xs vs h hs ih =>
    refine ⟨by simp [ih.1], fun i y u hy hu => ?_⟩
    cases i with
    | zero =>
      simp only [List.getElem?_cons_zero, Option.some.injEq] at hy hu
      subst hy; subst hu; exact h
    | succ i => exact ih.2 i y u (by simpa using hy) (by simpa using hu)
theorem CallS.enters {P : Program} {f : FuncId} {args : List Value} {vals : List Value} {W : World} {b : Bool} (hT : Tab P W) (h : CallS P f args (absS W) fun r _ => r = .bool b) (hv : ArgsS W args vals) :
    Calls P f vals.toArray W fun e w' => e = .returned (.bool b) ∧ Below W.heap.size W w' :=
  (h.enter hT (by simpa using hv.get.1) fun i x v hx hv' => hv.get.2 i x v hx (by simpa using hv')).mono fun e w' ⟨r, v, st', M', he, hq, hvr, bel⟩ => by
    subst he; subst hq
    obtain rfl := hvr.flat_eq rfl
    exact ⟨rfl, bel⟩
theorem ArgS.int (W : World) (k : IntKind) (i : Int) : ArgS W (.int k i) (.int k i) := .inl ⟨rfl, rfl⟩
theorem ArgS.agg {W : World} {cs : Array Value} (h : ∀ c ∈ (Value.agg cs).cells.toList, isJ (absV W.heap.size c) = false) : ArgS W (.agg ((Value.agg cs).cells.toList.map (absV W.heap.size)).toArray) (.agg cs) := .inr ⟨cs.toList, rfl, rfl, h⟩

/-- A world's cell, read in the store. -/
theorem abs_cell {W : World} {b o : Nat} {v : Value} (h : W.cell? ⟨b, o, none⟩ = some v) (hj : isJ (absV W.heap.size v) = false) : cell (absS W) b o = some (absV W.heap.size v) := by
  unfold World.cell? at h
  simp only at h
  split at h
  · rename_i c t q hb
    have hi : b < W.heap.size := (Array.getElem?_eq_some_iff.1 hb).1
    simp only [Option.isSome_none, Bool.false_eq_true, if_false] at h
    have e1 : absB W b = ⟨c.toList.map (absV W.heap.size), t, 1⟩ := by unfold absB; rw [hb]
    unfold cell
    rw [absS_of hi, e1]
    have e3 : (c.toList.map (absV W.heap.size))[o]? = some (absV W.heap.size v) := by
      rw [List.getElem?_map, Array.getElem?_toList, h]; rfl
    simp only [e3]
    simp [hj]
  · cases h

/-- What a cell that was read holds can be told of. -/
def Told (W : World) (v : Value) : Prop := isJ (absV W.heap.size v) = false

theorem spot_of {w : World} {a : Addr} {n b : Nat} {cs : List Value} (h : w.cells? b a n = some cs) (hn : 0 < n) : a.spot = none := by
  obtain ⟨_, hl, hc⟩ := World.cells?_some h
  have h1 := hc 0 hn
  rw [List.getElem?_eq_getElem (by omega)] at h1
  obtain ⟨b, o, sp⟩ := a
  cases sp with
  | none => rfl
  | some s =>
    unfold World.cell? Addr.add at h1
    simp only at h1
    split at h1
    · split at h1 <;> simp_all
    · cases h1
theorem spot_add {a : Addr} {k : Nat} (hk : k = 0) (h : (a.add k).spot = none) : a.spot = none := by
  subst hk
  exact h

/-- A slice that was read: its elements, one by one. -/
theorem open_rowA {H : Type} {enc : TypeId × Value → H} {P : Program} {w : World} {α : Type} {E : α → List Value → Prop} {G : α → Prop} {t e : TypeId} {sz : Nat} (ht : P.underlying t = some (.slice e)) (hc : P.cellsOf e = sz) (hsz : 0 < sz) {fuel : Nat} {cs : List Value} {x : DataW H × List MemPlace}
    (h : DataW.trod enc P w 0 (fun _ => true) true fuel t cs = some x) (hel : ∀ n cs y, n < fuel → DataW.trod enc P w 0 (fun _ => true) true n e cs = some y → ∃ z, E z (cs.map (absV w.heap.size)) ∧ G z ∧ ∀ c ∈ cs, Told w c) :
    ∃ s, ∃ xs : List α, cs = [s] ∧ Told w s ∧ Row E sz (absS w) xs (absV w.heap.size s) ∧ xs.length ≤ maxLen ∧ ∀ z ∈ xs, G z := by
  have hlt := DataW.trod_lt _ _ _ _ h
  rcases DataW.trod_slice ht h with ⟨rfl, _⟩ | ⟨a, len, cap, elems, rest, n, rfl, rfl, rfl, _, hl, hm, hlen, hel2, hrest, _⟩
  · exact ⟨_, [], rfl, rfl, .inl ⟨.inl rfl, rfl⟩, Nat.zero_le _, by simp⟩
  · simp only [hc] at hel2 hlt hrest
    by_cases h0 : cap = 0
    · subst h0
      obtain rfl : len = 0 := by omega
      by_cases hq : a.spot = none ∧ a.block < w.heap.size ∧ 0 ≤ 0
      · obtain ⟨b, o, sp⟩ := a
        obtain ⟨hsp, hb, _⟩ := hq
        simp only at hsp hb
        subst hsp
        have e1 : absV w.heap.size (.slice (some ⟨b, o, none⟩) 0 0) = .slice (some ⟨b, o, none⟩) 0 0 := by unfold absV; simp only; rw [if_pos (by exact ⟨trivial, hb, Nat.le_refl _⟩)]
        refine ⟨_, [], rfl, by unfold Told; rw [e1]; rfl, ?_, Nat.zero_le _, by simp⟩
        rw [e1]
        exact .inr ⟨b, o, 0, rfl, by simp⟩
      · have e1 : absV w.heap.size (.slice (some a) 0 0) = .slice (some ⟨0, 0, some 0⟩) 0 0 := by unfold absV; simp only; rw [if_neg hq]; simp
        refine ⟨_, [], rfl, by unfold Told; rw [e1]; rfl, ?_, Nat.zero_le _, by simp⟩
        rw [e1]
        exact .inl ⟨.inr rfl, rfl⟩
    · have hrl := (hrest trivial).1
      have hb : a.block < w.heap.size := hlt (.cell a.block (a.off + 0)) (by
        refine List.mem_append_left _ ?_
        unfold MemPlace.row
        refine List.mem_map.2 ⟨0, List.mem_range.2 (Nat.mul_pos (by omega) hsz), rfl⟩)
      have hsp : a.spot = none := by
        by_cases hl0 : 0 < len
        · have h1 := hel2 0 hl0
          rw [List.getElem?_eq_getElem (by omega), Option.bind_eq_some_iff] at h1
          obtain ⟨c, hcs, _⟩ := h1
          exact spot_add (by first | (simp; done) | (rw [show len = 0 by omega]; simp)) (spot_of hcs hsz)
        · have h1 := (hrest trivial).2 0 (by omega)
          rw [List.getElem?_eq_getElem (by omega), Option.bind_eq_some_iff] at h1
          obtain ⟨c, hcs, _⟩ := h1
          exact spot_add (by first | (simp; done) | (rw [show len = 0 by omega]; simp)) (spot_of hcs hsz)
      obtain ⟨b, o, sp⟩ := a
      simp only at hsp hb
      subst hsp
      have e1 : absV w.heap.size (.slice (some ⟨b, o, none⟩) len cap) = .slice (some ⟨b, o, none⟩) len cap := by unfold absV; simp only; rw [if_pos (by exact ⟨trivial, hb, hl⟩)]
      have each : ∀ i : _root_.Fin len, ∃ z, G z ∧ ∃ c : List Value, c.length = sz ∧ E z c ∧ CellsAt (absS w) b (o + i.1 * sz) c := by
        intro i
        have hi := hel2 i.1 i.2
        rw [List.getElem?_eq_getElem (by rw [hlen]; exact i.2), Option.bind_eq_some_iff] at hi
        obtain ⟨c, hcs, hy⟩ := hi
        obtain ⟨z, hz, hG, htold⟩ := hel n c _ (Nat.lt_succ_self n) hy
        obtain ⟨_, hcl, hcc⟩ := World.cells?_some hcs
        refine ⟨z, hG, _, by simpa using hcl, hz, fun q v hv => ?_⟩
        simp only [List.getElem?_map, Option.map_eq_some_iff] at hv
        obtain ⟨u, hu, rfl⟩ := hv
        have hq : q < sz := by have := (List.getElem?_eq_some_iff.1 hu).1; omega
        have h2 := hcc q hq
        rw [addr_add, addr_add, hu] at h2
        exact abs_cell h2 (htold u (List.mem_of_getElem? hu))
      have hlen3 : (List.ofFn fun i : _root_.Fin len => Classical.choose (each i)).length = len := List.length_ofFn
      refine ⟨_, List.ofFn fun i : _root_.Fin len => Classical.choose (each i), rfl, by unfold Told; rw [e1]; rfl, ?_, by rw [hlen3]; omega, ?_⟩
      · rw [e1]
        refine .inr ⟨b, o, cap, by rw [hlen3], fun j x hj => ?_⟩
        have hjl : j < len := by have := (List.getElem?_eq_some_iff.1 hj).1; rwa [hlen3] at this
        obtain ⟨_, c, h1, h2, h3⟩ := Classical.choose_spec (each ⟨j, hjl⟩)
        have hp : Classical.choose (each ⟨j, hjl⟩) = x := by
          have := (List.getElem?_eq_some_iff.1 hj).2
          rw [List.getElem_ofFn] at this
          exact this
        rw [hp] at h2
        exact ⟨c, h1, h2, h3⟩
      · intro z hz
        rw [List.mem_ofFn] at hz
        obtain ⟨i, rfl⟩ := hz
        exact (Classical.choose_spec (each i)).1
end Go.Proofs.YtpkjgjomiikofaaDoor.AM


/- What a law's arguments read as. -/
namespace Go.Proofs.YtpkjgjomiikofaaDoor.AM
open Go Go.Proofs
set_option linter.unusedVariables false
set_option linter.unusedSimpArgs false

theorem toldA_int {H : Type} {enc : TypeId × Value → H} {P : Program} {w : World} {t : TypeId} {k : IntKind} (ht : P.underlying t = some (.int k)) {fuel : Nat} {cs : List Value} {x : DataW H × List MemPlace} (h : DataW.trod enc P w 0 (fun _ => true) true fuel t cs = some x) :
    ∃ z, cs = [.int k z] ∧ (Lit.int k z).wf = true := by
  obtain ⟨n, rfl, _, hw⟩ := DataW.trod_int ht h
  exact ⟨n, rfl, hw⟩
end Go.Proofs.YtpkjgjomiikofaaDoor.AM


namespace Go.Proofs.YtpkjgjomiikofaaDoor.AM
open Go
attribute [local go_sem] List.map_cons List.map_nil List.all_cons List.all_nil Bool.and_self Option.map_some List.getElem?_toArray Option.bind_some gye_b gye_t gsk_b gsk_t gb1 gb2 gb3 gb4 bne_self_eq_false beq_self_eq_true w_guard w_nil stepV_some step_some step_some' w_move w_assign w_pick w_binOp w_unOp w_load w_fieldAddr w_indexAddr w_len w_max w_index ev_max max_int ev_index w_box w_alloc w_store w_field w_extract w_nilCheck w_convert w_buildSlice w_build ev_buildL fillL_nil fillL_cons bs0 bs1 ev_conv ev_bin ev_un ev_pick ev_load ev_fieldAddr ev_indexAddr ev_len ev_field ev_extract ev_nilCheck fr_tmp fr_int fr_bool fr_str fr_nil fr_func put_some put_none bin_lss bin_leq bin_gtr bin_geq bin_eql bin_neq bin_add bin_sub bin_mul bin_seql bin_sneq un_not pick_ ext_ loadA_p cellAt_l cellAt_h okPtr_l okPtr_h fadA_p allocA_l storeA_l cells_agg cells_int cells_str cells_sl cells_bool flat_i flat_s flat_b flat_sl flat_nil loc_agg loc_int loc_str loc_sl loc_bool loc_fn loc_ptr okv_agg okv_int okv_str okv_sl okv_bool cellsFrom splice upd_eval argEnv_zero argEnv_succ ne_eq Nat.add_one_ne_zero not_false_eq_true List.not_mem_nil and_self decide_true List.getElem?_cons_zero List.getElem?_cons_succ List.size_toArray List.length_cons List.length_nil List.take_succ_cons List.take_zero List.drop_succ_cons List.drop_zero List.cons_append List.nil_append List.drop_nil Bool.not_true Bool.not_false Bool.false_eq_true Nat.zero_add Nat.add_zero wrap_in List.toList_toArray List.mem_cons or_self or_false false_or
attribute [local go_sem] ag22 ag24 ag26 ag3 ag4 ag5 ag78 ag83 ag9 ag91 bu116 bu122 bu26 bu39 bu49 bu58 by26 by5 by9 el22 el24 el46 el53 of26_0 of26_1 of26_2 of26_3 of39_0 of49_0 of49_1 of49_2 of58_0 of58_1 of58_2 of80_0 of80_1 ro26_0 ro26_1 ro26_2 ro3_3 ro5_1 ro9_1 ro9_2 ro9_3 ro9_4 ro9_8 sz22 sz24 sz26 sz3 sz4 sz5 sz78 sz83 sz9 sz91 ze109 ze26 ze5 ze80 ze9 ze90
section
/- What the laws of terms share. -/
open Go Go.Proofs
set_option linter.unusedVariables false
set_option linter.unusedSimpArgs false
set_option maxRecDepth 100000

theorem Own.ext {e : TypeId} {st st' : St} {t : T} {cs : List Value} {L : List Nat} (h : Own e st t cs L) (hx : Ext st st') : Own e st' t cs L := Own.frame _ _ _ (fun i hi => hx.get (Own.lt _ _ _ h i hi)) h
theorem Own.apart {e : TypeId} {st : St} {t : T} {cs : List Value} {L K : List Nat} (h : Own e st t cs L) (hf : Fresh st.length K) : ∀ i ∈ L, i ∉ K := fun i hi hk => by
  have h1 := Own.lt _ _ _ h i hi
  have h2 := hf.2 i hk
  omega

end

section
/- Two substitutions do the same: SameSubst on both sides. -/
open Go Go.Proofs
set_option linter.unusedVariables false
set_option linter.unusedSimpArgs false
set_option maxRecDepth 100000
-- AUTO

def T.var (nm : ByteArray) : T := .mk 1 0 nm []
def sameAt (xs ys : List Bnd) (b : Bnd) : Bool := T.eqv (T.sub xs (T.var b.nm)) (T.sub ys (T.var b.nm))
def same (xs ys : List Bnd) : Bool := (xs ++ ys).all (sameAt xs ys)
theorem l3Var_ok (nm : ByteArray) (st : St) : CallS Tryd.prog 44 [.string nm] st fun r st2 => r = .agg #[.int .i64 1, .int .i64 0, .string nm, .slice none 0 0] ∧ st2 = st := by
  refine CallS_of_W [] 5 Tryd.func44 rfl rfl rfl rfl (by simp) ?_
  repeat (first | (refine W_reg rfl fun G K hG hK => ?_; simp (disch := omega) only [go_sem, ↓reduceIte, Nat.reduceEqDiff, Nat.reduceAdd, Nat.reduceLeDiff, hG]; refine hK _ _ ?_; clear hK K hG G) | (refine W_end rfl fun G K hG hK => ?_; simp (disch := omega) only [go_sem, ↓reduceIte, Nat.reduceEqDiff, Nat.reduceAdd, Nat.reduceLeDiff, hG]; refine hK _ _ ?_; clear hK K hG G; repeat (first | refine thenI ?_ | refine thenE ?_ | refine thenR ?_ | refine inBI ?_ | refine inBR ?_ | refine inBS ?_ | refine inBN (by decide) ?_)) | refine W_seqS ?_ | refine W_seqC ?_ | refine W_seqB ?_ | refine W_block ?_ | (refine W_skip ?_; repeat (first | refine thenI ?_ | refine thenE ?_ | refine thenR ?_ | refine inBI ?_ | refine inBR ?_ | refine inBS ?_ | refine inBN (by decide) ?_)) | (refine W_condT ?hc ?_; (case hc => (simp (disch := omega) only [go_sem, ↓reduceIte, Nat.reduceEqDiff, Nat.reduceAdd, Nat.reduceLeDiff]; done))) | (refine W_condF ?hc ?_; (case hc => (simp (disch := omega) only [go_sem, ↓reduceIte, Nat.reduceEqDiff, Nat.reduceAdd, Nat.reduceLeDiff]; done))))
  refine W_ret ?_; try (repeat (first | refine thenI ?_ | refine thenE ?_ | refine thenR ?_ | refine inBI ?_ | refine inBR ?_ | refine inBS ?_ | refine inBN (by decide) ?_))
  refine finC (.inl rfl) (by (simp (disch := omega) only [go_sem, ↓reduceIte, Nat.reduceEqDiff, Nat.reduceAdd, Nat.reduceLeDiff]); try rfl) ⟨rfl, rfl⟩


end

section
/- List literals; l1Pick, l1PickInt, l3App. -/
open Go Go.Proofs
set_option linter.unusedVariables false
set_option linter.unusedSimpArgs false
set_option maxRecDepth 100000
-- AUTO

/-- The parts of a list literal are laid in. -/
def fillK (sz : Nat) : List Value → List (Nat × Value) → Option (List Value)
  | z, [] => some z
  | z, (i, v) :: rest => if (vc v).size = sz ∧ i * sz + sz ≤ z.length then fillK sz (splice z (i * sz) (vc v).toList) rest else none
theorem fillK_nil {sz : Nat} {z : List Value} : fillK sz z [] = some z := rfl
theorem fillK_cons {sz i : Nat} {z : List Value} {v : Value} {rest : List (Nat × Value)} : fillK sz z ((i, v) :: rest) = if (vc v).size = sz ∧ i * sz + sz ≤ z.length then fillK sz (splice z (i * sz) (vc v).toList) rest else none := rfl
theorem fill_K (sz : Nat) : ∀ (ps : List (Nat × Value)) (z : List Value), Instr.fill (fun i => some (i * sz, sz)) z.toArray ps = (fillK sz z ps).map List.toArray := by
  intro ps
  induction ps with
  | nil => intro z; rfl
  | cons p ps ih =>
    intro z
    obtain ⟨i, v⟩ := p
    unfold Instr.fill fillK
    simp only
    unfold vc
    by_cases h : v.cells.size = sz ∧ i * sz + sz ≤ z.length
    · rw [if_pos h, if_neg (by simp; omega)]
      rw [← ih]
      congr 1
      have := fold_splice v.cells.toList z.toArray (i * sz) 0 (by simp; omega)
      rw [← Array.foldl_toList]
      simpa [Array.toList_zipIdx] using this
    · rw [if_neg h, if_pos (by simp; omega)]
      rfl
theorem bsL {P : Program} {H : List Tmp} {ρ : Operand → Value} {loc : Nat → Nat × List Value} {st : St} {t : TypeId} {n : Nat} {ps : Array (Nat × Operand)} {d : Option Tmp} {ty : TypeId} {p : String} {af : Array Edge} {g : Option (Nat × Bool)} : evalEff P H ⟨d, .buildSlice t n ps, ty, p, af, g⟩ ρ loc st = (match elemA P t with
    | some e => (match rowA P e n, szA P e with
      | some row, some sz => if ps.toList.all (fun p => okv (ρ p.2)) then (fillK sz row (ps.toList.map fun p => (p.1, ρ p.2))).map (fun l => (Value.slice (some ⟨st.length, 0, none⟩) n n, loc, st ++ [⟨l, e, 0⟩])) else none
      | _, _ => none)
    | none => none) := by
  simp only [evalEff]
  cases elemA P t with
  | none => rfl
  | some e =>
    simp only
    cases rowA P e n with
    | none => rfl
    | some row =>
      cases szA P e with
      | none => rfl
      | some sz =>
        simp only
        have h1 : (ps.all fun p => okv (ρ p.2)) = ps.toList.all (fun p => okv (ρ p.2)) := by rw [Array.all_toList]
        have h2 : (ps.map fun (i, x) => (i, ρ x)).toList = ps.toList.map fun p => (p.1, ρ p.2) := by simp
        rw [h1, h2, fill_K, Option.map_map]
        split
        · cases fillK sz row (ps.toList.map fun p => (p.1, ρ p.2)) <;> rfl
        · rfl
/-- A row stays where another block alone has turned. -/
theorem rw_away {st st' : St} {xs : List ByteArray} {s : Value} {q : Nat} (h : Rw st xs s) (ha : Away (some q) st st') (hn : topId s ≠ some q) : Rw st' xs s := by
  rcases h with h | ⟨i, o, c, rfl, h⟩
  · exact .inl h
  · refine .inr ⟨i, o, c, rfl, fun j x hx => ?_⟩
    obtain ⟨cs, h1, h2, h3⟩ := h j x hx
    refine ⟨cs, h1, h2, fun k v hv => ?_⟩
    have h4 := h3 k v hv
    have hi : i < st.length := by
      unfold cell at h4
      rcases Nat.lt_or_ge i st.length with h5 | h5
      · exact h5
      · rw [List.getElem?_eq_none h5] at h4; cases h4
    have h5 := ha.2 i hi (fun e => hn e.symm)
    unfold cell at h4 ⊢
    rw [h5]; exact h4
theorem l1Pick_ok (q : Nat) (xs : List Byt) (st : St) (ns : List ByteArray) (s : Value) (hn0 : 0 < ns.length) (hn1 : ns.length ≤ 256) (hq : Cur st q xs) (hr : Rw st ns s) (hne : topId s ≠ some q) :
    CallS Tryd.prog 28 [.pointer (some ⟨q, 0, none⟩), s] st fun r st2 => (∃ w, r = .string w ∧ w ∈ ns) ∧ Drawn q xs st st2 ∧ st2.length = st.length := by
  refine CallS_of_W [] 12 Tryd.func28 rfl rfl rfl rfl (by simp) ?_
  have q1 := hr.notLoc.1
  have hlen : lenE Tryd.prog 46 s = some (.int .i64 ns.length) := row_len hr Tryd.underlying46
  repeat (first | (refine W_reg rfl fun G K hG hK => ?_; simp (disch := omega) only [go_sem, ↓reduceIte, Nat.reduceEqDiff, Nat.reduceAdd, Nat.reduceLeDiff, hG, q1, hlen]; refine hK _ _ ?_; clear hK K hG G) | (refine W_end rfl fun G K hG hK => ?_; simp (disch := omega) only [go_sem, ↓reduceIte, Nat.reduceEqDiff, Nat.reduceAdd, Nat.reduceLeDiff, hG, q1, hlen]; refine hK _ _ ?_; clear hK K hG G; repeat (first | refine thenI ?_ | refine thenE ?_ | refine thenR ?_ | refine inBI ?_ | refine inBR ?_ | refine inBS ?_ | refine inBN (by decide) ?_)) | refine W_seqS ?_ | refine W_seqC ?_ | refine W_seqB ?_ | refine W_block ?_ | (refine W_skip ?_; repeat (first | refine thenI ?_ | refine thenE ?_ | refine thenR ?_ | refine inBI ?_ | refine inBR ?_ | refine inBS ?_ | refine inBN (by decide) ?_)) | (refine W_condT ?hc ?_; (case hc => (simp (disch := omega) only [go_sem, ↓reduceIte, Nat.reduceEqDiff, Nat.reduceAdd, Nat.reduceLeDiff, q1, hlen]; done))) | (refine W_condF ?hc ?_; (case hc => (simp (disch := omega) only [go_sem, ↓reduceIte, Nat.reduceEqDiff, Nat.reduceAdd, Nat.reduceLeDiff, q1, hlen]; done))))
  (repeat (first | refine W_seqS ?_ | refine W_seqC ?_ | refine W_seqB ?_ | refine W_block ?_)); refine W_reg rfl fun G K hG hK => ?_; simp (disch := omega) only [go_sem, ↓reduceIte, Nat.reduceEqDiff, Nat.reduceAdd, Nat.reduceLeDiff, hG, q1, hlen]
  refine w_call (l1Below_ok q xs st (ns.length : Int) (by omega) (by omega) hq) (by simp (disch := omega) only [go_sem, ↓reduceIte, Nat.reduceEqDiff, q1, hlen]) ?hl ?_
  case hl => first | rfl | (simp only [go_sem, List.all_cons, List.all_nil, Bool.not_false, Bool.and_self, q1, hlen]; done)
  rintro r_ sa ⟨⟨x, rfl, hx0, hx1⟩, hd, hl⟩; refine ⟨fun e => (by cases e), ?_⟩
  obtain ⟨n, rfl⟩ : ∃ n : Nat, x = n := ⟨x.toNat, by omega⟩
  have hlt : n < ns.length := by omega
  obtain ⟨i, o, c, rfl, hce⟩ := row_atS (rw_away hr hd.away hne) (List.getElem?_eq_getElem hlt)
  have hi := idxOk hlt
  simp (disch := omega) only [go_sem, ↓reduceIte, Nat.reduceEqDiff, Nat.reduceAdd, Nat.reduceLeDiff, hG, q1, hlen, hi, idxA, Int.toNat_natCast, hce]; refine hK _ _ ?_; clear hK K hG G; repeat (first | refine thenI ?_ | refine thenE ?_ | refine thenR ?_ | refine inBI ?_ | refine inBR ?_ | refine inBS ?_ | refine inBN (by decide) ?_)
  refine W_ret ?_; try (repeat (first | refine thenI ?_ | refine thenE ?_ | refine thenR ?_ | refine inBI ?_ | refine inBR ?_ | refine inBS ?_ | refine inBN (by decide) ?_))
  refine fin1 (.inl rfl) (by (simp (disch := omega) only [go_sem, ↓reduceIte, Nat.reduceEqDiff, Nat.reduceAdd, Nat.reduceLeDiff, q1, hlen]); try rfl) rfl ⟨⟨_, rfl, List.getElem_mem hlt⟩, hd, hl⟩
theorem l3App_ok (nm : ByteArray) (s : Value) (st : St) (h1 : isLoc s = false) (h2 : okv s = true) (h3 : vc s = #[s]) :
    CallS Tryd.prog 45 [.string nm, s] st fun r st2 => r = .agg #[.int .i64 2, .int .i64 0, .string nm, s] ∧ st2 = st := by
  refine CallS_of_W [] 8 Tryd.func45 rfl rfl rfl rfl (by simp) ?_
  repeat (first | (refine W_reg rfl fun G K hG hK => ?_; simp (disch := omega) only [go_sem, ↓reduceIte, Nat.reduceEqDiff, Nat.reduceAdd, Nat.reduceLeDiff, hG, h1, h2, h3]; refine hK _ _ ?_; clear hK K hG G) | (refine W_end rfl fun G K hG hK => ?_; simp (disch := omega) only [go_sem, ↓reduceIte, Nat.reduceEqDiff, Nat.reduceAdd, Nat.reduceLeDiff, hG, h1, h2, h3]; refine hK _ _ ?_; clear hK K hG G; repeat (first | refine thenI ?_ | refine thenE ?_ | refine thenR ?_ | refine inBI ?_ | refine inBR ?_ | refine inBS ?_ | refine inBN (by decide) ?_)) | refine W_seqS ?_ | refine W_seqC ?_ | refine W_seqB ?_ | refine W_block ?_ | (refine W_skip ?_; repeat (first | refine thenI ?_ | refine thenE ?_ | refine thenR ?_ | refine inBI ?_ | refine inBR ?_ | refine inBS ?_ | refine inBN (by decide) ?_)) | (refine W_condT ?hc ?_; (case hc => (simp (disch := omega) only [go_sem, ↓reduceIte, Nat.reduceEqDiff, Nat.reduceAdd, Nat.reduceLeDiff, h1, h2, h3]; done))) | (refine W_condF ?hc ?_; (case hc => (simp (disch := omega) only [go_sem, ↓reduceIte, Nat.reduceEqDiff, Nat.reduceAdd, Nat.reduceLeDiff, h1, h2, h3]; done))))
  refine W_ret ?_; try (repeat (first | refine thenI ?_ | refine thenE ?_ | refine thenR ?_ | refine inBI ?_ | refine inBR ?_ | refine inBS ?_ | refine inBN (by decide) ?_))
  refine finC (.inl rfl) (by (simp (disch := omega) only [go_sem, ↓reduceIte, Nat.reduceEqDiff, Nat.reduceAdd, Nat.reduceLeDiff, h1, h2, h3]); try rfl) ⟨rfl, rfl⟩
theorem l3One_ok (nm : ByteArray) (t : T) (st : St) (cs : List Value) (L : List Nat) (ho : OwnT st t cs L) :
    CallS Tryd.prog 30 [.string nm, .agg cs.toArray] st fun r st2 => Ext st st2 ∧ ∃ ds, r = .agg ds.toArray ∧ OwnT st2 (.mk 2 0 nm [t]) ds (st.length :: L) := by
  refine CallS_of_W [] 9 Tryd.func30 rfl rfl rfl rfl (by simp) ?_
  obtain ⟨k, n, m, s, rfl, a1, a2, a3⟩ := ho.args_cells
  repeat (first | (refine W_reg rfl fun G K hG hK => ?_; simp (disch := omega) only [go_sem, ↓reduceIte, Nat.reduceEqDiff, Nat.reduceAdd, Nat.reduceLeDiff, hG, a1, a2, a3]; refine hK _ _ ?_; clear hK K hG G) | (refine W_end rfl fun G K hG hK => ?_; simp (disch := omega) only [go_sem, ↓reduceIte, Nat.reduceEqDiff, Nat.reduceAdd, Nat.reduceLeDiff, hG, a1, a2, a3]; refine hK _ _ ?_; clear hK K hG G; repeat (first | refine thenI ?_ | refine thenE ?_ | refine thenR ?_ | refine inBI ?_ | refine inBR ?_ | refine inBS ?_ | refine inBN (by decide) ?_)) | refine W_seqS ?_ | refine W_seqC ?_ | refine W_seqB ?_ | refine W_block ?_ | (refine W_skip ?_; repeat (first | refine thenI ?_ | refine thenE ?_ | refine thenR ?_ | refine inBI ?_ | refine inBR ?_ | refine inBS ?_ | refine inBN (by decide) ?_)) | (refine W_condT ?hc ?_; (case hc => (simp (disch := omega) only [go_sem, ↓reduceIte, Nat.reduceEqDiff, Nat.reduceAdd, Nat.reduceLeDiff, a1, a2, a3]; done))) | (refine W_condF ?hc ?_; (case hc => (simp (disch := omega) only [go_sem, ↓reduceIte, Nat.reduceEqDiff, Nat.reduceAdd, Nat.reduceLeDiff, a1, a2, a3]; done))))
  (repeat (first | refine W_seqS ?_ | refine W_seqC ?_ | refine W_seqB ?_ | refine W_block ?_)); refine W_reg rfl fun G K hG hK => ?_; simp (disch := omega) only [go_sem, ↓reduceIte, Nat.reduceEqDiff, Nat.reduceAdd, Nat.reduceLeDiff, hG, a1, a2, a3]
  refine w_call (l3App_ok nm (.slice (some ⟨st.length, 0, none⟩) 1 1) (st ++ [⟨[.int .i64 k, .int .i64 n, .string m, s], 26, 0⟩]) rfl rfl rfl) (by simp (disch := omega) only [go_sem, ↓reduceIte, Nat.reduceEqDiff, a1, a2, a3]) ?hl ?_
  case hl => first | rfl | (simp only [go_sem, List.all_cons, List.all_nil, Bool.not_false, Bool.and_self, a1, a2, a3]; done)
  rintro r_ sa ⟨rfl, rfl⟩; refine ⟨fun e => (by cases e), ?_⟩
  simp (disch := omega) only [go_sem, ↓reduceIte, Nat.reduceEqDiff, Nat.reduceAdd, Nat.reduceLeDiff, hG, a1, a2, a3]; refine hK _ _ ?_; clear hK K hG G; repeat (first | refine thenI ?_ | refine thenE ?_ | refine thenR ?_ | refine inBI ?_ | refine inBR ?_ | refine inBS ?_ | refine inBN (by decide) ?_)
  refine W_ret ?_; try (repeat (first | refine thenI ?_ | refine thenE ?_ | refine thenR ?_ | refine inBI ?_ | refine inBR ?_ | refine inBS ?_ | refine inBN (by decide) ?_))
  refine finC (.inl rfl) (by (simp (disch := omega) only [go_sem, ↓reduceIte, Nat.reduceEqDiff, Nat.reduceAdd, Nat.reduceLeDiff, a1, a2, a3]); try rfl) ⟨Ext.app _ _, [_, _, _, _], rfl, Own.close _ _ _ (.inr ⟨st.length, 1, _, L, rfl, by simp, RowO.one (Own.ext ho (Ext.app _ _)), rfl⟩)⟩
theorem l3Pair_ok (nm : ByteArray) (t u : T) (st : St) (cs ds : List Value) (L K : List Nat) (ho : OwnT st t cs L) (hp : OwnT st u ds K) :
    CallS Tryd.prog 46 [.string nm, .agg cs.toArray, .agg ds.toArray] st fun r st2 => Ext st st2 ∧ ∃ es, r = .agg es.toArray ∧ OwnT st2 (.mk 2 0 nm [t, u]) es (st.length :: (L ++ K)) := by
  refine CallS_of_W [] 12 Tryd.func46 rfl rfl rfl rfl (by simp) ?_
  obtain ⟨k, n, m, s, rfl, a1, a2, a3⟩ := ho.args_cells
  obtain ⟨k', n', m', s', rfl, b1, b2, b3⟩ := hp.args_cells
  repeat (first | (refine W_reg rfl fun G K hG hK => ?_; simp (disch := omega) only [go_sem, ↓reduceIte, Nat.reduceEqDiff, Nat.reduceAdd, Nat.reduceLeDiff, hG, a1, a2, a3, b1, b2, b3]; refine hK _ _ ?_; clear hK K hG G) | (refine W_end rfl fun G K hG hK => ?_; simp (disch := omega) only [go_sem, ↓reduceIte, Nat.reduceEqDiff, Nat.reduceAdd, Nat.reduceLeDiff, hG, a1, a2, a3, b1, b2, b3]; refine hK _ _ ?_; clear hK K hG G; repeat (first | refine thenI ?_ | refine thenE ?_ | refine thenR ?_ | refine inBI ?_ | refine inBR ?_ | refine inBS ?_ | refine inBN (by decide) ?_)) | refine W_seqS ?_ | refine W_seqC ?_ | refine W_seqB ?_ | refine W_block ?_ | (refine W_skip ?_; repeat (first | refine thenI ?_ | refine thenE ?_ | refine thenR ?_ | refine inBI ?_ | refine inBR ?_ | refine inBS ?_ | refine inBN (by decide) ?_)) | (refine W_condT ?hc ?_; (case hc => (simp (disch := omega) only [go_sem, ↓reduceIte, Nat.reduceEqDiff, Nat.reduceAdd, Nat.reduceLeDiff, a1, a2, a3, b1, b2, b3]; done))) | (refine W_condF ?hc ?_; (case hc => (simp (disch := omega) only [go_sem, ↓reduceIte, Nat.reduceEqDiff, Nat.reduceAdd, Nat.reduceLeDiff, a1, a2, a3, b1, b2, b3]; done))))
  (repeat (first | refine W_seqS ?_ | refine W_seqC ?_ | refine W_seqB ?_ | refine W_block ?_)); refine W_reg rfl fun G K hG hK => ?_; simp (disch := omega) only [go_sem, ↓reduceIte, Nat.reduceEqDiff, Nat.reduceAdd, Nat.reduceLeDiff, hG, a1, a2, a3, b1, b2, b3, bsL, fillK_cons, fillK_nil, Nat.reduceMul]
  refine w_call (l3App_ok nm (.slice (some ⟨st.length, 0, none⟩) 2 2) (st ++ [⟨[.int .i64 k, .int .i64 n, .string m, s, .int .i64 k', .int .i64 n', .string m', s'], 26, 0⟩]) rfl rfl rfl) (by simp (disch := omega) only [go_sem, ↓reduceIte, Nat.reduceEqDiff, a1, a2, a3, b1, b2, b3]) ?hl ?_
  case hl => first | rfl | (simp only [go_sem, List.all_cons, List.all_nil, Bool.not_false, Bool.and_self, a1, a2, a3, b1, b2, b3]; done)
  rintro r_ sa ⟨rfl, rfl⟩; refine ⟨fun e => (by cases e), ?_⟩
  simp (disch := omega) only [go_sem, ↓reduceIte, Nat.reduceEqDiff, Nat.reduceAdd, Nat.reduceLeDiff, hG, a1, a2, a3, b1, b2, b3]; refine hK _ _ ?_; clear hK K hG G; repeat (first | refine thenI ?_ | refine thenE ?_ | refine thenR ?_ | refine inBI ?_ | refine inBR ?_ | refine inBS ?_ | refine inBN (by decide) ?_)
  refine W_ret ?_; try (repeat (first | refine thenI ?_ | refine thenE ?_ | refine thenR ?_ | refine inBI ?_ | refine inBR ?_ | refine inBS ?_ | refine inBN (by decide) ?_))
  refine finC (.inl rfl) (by (simp (disch := omega) only [go_sem, ↓reduceIte, Nat.reduceEqDiff, Nat.reduceAdd, Nat.reduceLeDiff, a1, a2, a3, b1, b2, b3]); try rfl) ⟨Ext.app _ _, [_, _, _, _], rfl, Own.close _ _ _ (.inr ⟨st.length, 2, _, L ++ K, rfl, by simp, RowO.cons t [u] [.int .i64 k, .int .i64 n, .string m, s] _ L K (Own.ext ho (Ext.app _ _)) (RowO.one (Own.ext hp (Ext.app _ _))), rfl⟩)⟩

end

section
/- Names drawn: l1Pick out of a list literal, l2Any, l2List, DrawSortNames. -/
open Go Go.Proofs
set_option linter.unusedVariables false
set_option linter.unusedSimpArgs false
set_option maxRecDepth 100000
-- AUTO

def isStrB : Value → Bool
  | .string _ => true
  | _ => false
def strB : Value → ByteArray
  | .string s => s
  | _ => ⟨#[]⟩
theorem strs_map {cs : List Value} (h : cs.all isStrB = true) : cs = (cs.map strB).map Value.string := by
  rw [List.map_map]
  refine ((List.map_congr_left fun v hv => ?_).trans (List.map_id cs)).symm
  have := List.all_eq_true.1 h v hv
  cases v <;> first | rfl | cases this
theorem row_last (st : St) (ns : List ByteArray) (t : TypeId) (n : Nat) : Rw (st ++ [⟨ns.map Value.string, t, 0⟩]) ns (.slice (some ⟨st.length, 0, none⟩) ns.length n) := .inr ⟨st.length, 0, n, rfl, fun j x hx => ⟨[.string x], rfl, rfl, fun k v hv => by
  have hk : k = 0 := by have := (List.getElem?_eq_some_iff.1 hv).1; simp at this; omega
  subst hk
  have hj := List.getElem?_eq_some_iff.1 hx
  obtain ⟨hj1, hj2⟩ := hj
  have : v = .string x := by simpa using hv.symm
  subst this
  simp [cell, hx, show Kind.sz ByteArray = 1 from rfl]⟩⟩
theorem l1Pick_lit (q : Nat) (xs : List Byt) (sa : St) (cs : List Value) (t : TypeId) (n : Nat) (hq : Cur sa q xs) (hs : cs.all isStrB = true) (h0 : 0 < cs.length) (h1 : cs.length ≤ 256) :
    CallS Tryd.prog 28 [.pointer (some ⟨q, 0, none⟩), .slice (some ⟨sa.length, 0, none⟩) cs.length n] (sa ++ [⟨cs, t, 0⟩]) fun r st2 => (∃ w, r = .string w ∧ .string w ∈ cs) ∧ Drawn q xs (sa ++ [⟨cs, t, 0⟩]) st2 ∧ st2.length = sa.length + 1 := by
  have hcs := strs_map hs
  have hlq : q < sa.length := by obtain ⟨_, _, _, h, _⟩ := hq; exact (List.getElem?_eq_some_iff.1 h).1
  have hr := row_last sa (cs.map strB) t n
  rw [← hcs, List.length_map] at hr
  refine (l1Pick_ok q xs _ (cs.map strB) _ (by simpa using h0) (by simpa using h1) (hq.ext (Ext.app _ _)) hr (fun e => by simp only [topId, Option.some.injEq] at e; omega)).mono fun r st2 ⟨⟨w, hw, hm⟩, hd, hl⟩ => ⟨⟨w, hw, ?_⟩, hd, by simpa using hl⟩
  rw [hcs]
  exact List.mem_map.2 ⟨w, hm, rfl⟩
/-- What new data a draw adds: the cursor's turn, and new blocks. -/
theorem Drawn.pre {q : Nat} {xs : List Byt} {a b c : St} (hx : Ext a b) (h : Drawn q xs b c) : Drawn q xs a c := ⟨h.cur, (Away.of_ext hx).trans h.away (by first | exact .inl rfl)⟩
theorem size_of_mem2 {w : ByteArray} {cs : List Value} {m : Nat} (h : Value.string w ∈ cs) (hs : cs.all (fun v => match v with | .string s => decide (s.size ≤ m) | _ => false) = true) : w.size ≤ m := by
  have := List.all_eq_true.1 hs _ h
  simpa using this
/-- Own data stay over a draw. -/
theorem Drawn.sl {α : Type} [Kind α] {q : Nat} {bs : List Byt} {n0 : Nat} {a b : St} {xs : List α} {s : Value} {L : List Nat} (h : Drawn q bs a b) (ho : Sl a xs s L) (hf : Fresh n0 L) (hq : q < n0) : Sl b xs s L :=
  ho.frame fun i hi => h.away.2 i (ho.lt i hi) fun e => by
    have := hf.2 i hi
    cases e; omega
theorem big_ok (bs : List Byt) (st : St) (s : Value) (hr : RowY st bs s) : CallS Tryd.prog 4 [s] st fun r st2 => r = .bool (decide ((bs.length : Int) > 1048576)) ∧ st2 = st := by
  refine CallS_of_W [] 6 Tryd.func4 rfl rfl rfl rfl (by simp) ?_
  have q1 := hr.notLoc.1
  have hlen : lenE Tryd.prog 22 s = some (.int .i64 bs.length) := row_len hr Tryd.underlying22
  repeat (first | (refine W_reg rfl fun G K hG hK => ?_; simp (disch := omega) only [go_sem, ↓reduceIte, Nat.reduceEqDiff, Nat.reduceAdd, Nat.reduceLeDiff, hG, q1, hlen]; refine hK _ _ ?_; clear hK K hG G) | (refine W_end rfl fun G K hG hK => ?_; simp (disch := omega) only [go_sem, ↓reduceIte, Nat.reduceEqDiff, Nat.reduceAdd, Nat.reduceLeDiff, hG, q1, hlen]; refine hK _ _ ?_; clear hK K hG G; repeat (first | refine thenI ?_ | refine thenE ?_ | refine thenR ?_ | refine inBI ?_ | refine inBR ?_ | refine inBS ?_ | refine inBN (by decide) ?_)) | refine W_seqS ?_ | refine W_seqC ?_ | refine W_seqB ?_ | refine W_block ?_ | (refine W_skip ?_; repeat (first | refine thenI ?_ | refine thenE ?_ | refine thenR ?_ | refine inBI ?_ | refine inBR ?_ | refine inBS ?_ | refine inBN (by decide) ?_)) | (refine W_condT ?hc ?_; (case hc => (simp (disch := omega) only [go_sem, ↓reduceIte, Nat.reduceEqDiff, Nat.reduceAdd, Nat.reduceLeDiff, q1, hlen]; done))) | (refine W_condF ?hc ?_; (case hc => (simp (disch := omega) only [go_sem, ↓reduceIte, Nat.reduceEqDiff, Nat.reduceAdd, Nat.reduceLeDiff, q1, hlen]; done))))
  refine W_ret ?_; try (repeat (first | refine thenI ?_ | refine thenE ?_ | refine thenR ?_ | refine inBI ?_ | refine inBR ?_ | refine inBS ?_ | refine inBN (by decide) ?_))
  refine fin1 (.inl rfl) (by (simp (disch := omega) only [go_sem, ↓reduceIte, Nat.reduceEqDiff, Nat.reduceAdd, Nat.reduceLeDiff]); try rfl) rfl ⟨rfl, rfl⟩
theorem rwI_away {st st' : St} {xs : List Int} {s : Value} {q : Nat} (h : Rw st xs s) (ha : Away (some q) st st') (hn : topId s ≠ some q) : Rw st' xs s := by
  rcases h with h | ⟨i, o, c, rfl, h⟩
  · exact .inl h
  · refine .inr ⟨i, o, c, rfl, fun j x hx => ?_⟩
    obtain ⟨cs, h1, h2, h3⟩ := h j x hx
    refine ⟨cs, h1, h2, fun k v hv => ?_⟩
    have h4 := h3 k v hv
    have hi : i < st.length := by
      unfold cell at h4
      rcases Nat.lt_or_ge i st.length with h5 | h5
      · exact h5
      · rw [List.getElem?_eq_none h5] at h4; cases h4
    have h5 := ha.2 i hi (fun e => hn e.symm)
    unfold cell at h4 ⊢
    rw [h5]; exact h4
theorem l1PickInt_ok (q : Nat) (xs : List Byt) (st : St) (ns : List Int) (s : Value) (hn0 : 0 < ns.length) (hn1 : ns.length ≤ 256) (hq : Cur st q xs) (hr : Rw st ns s) (hne : topId s ≠ some q) :
    CallS Tryd.prog 27 [.pointer (some ⟨q, 0, none⟩), s] st fun r st2 => (∃ w, r = .int .i64 w ∧ w ∈ ns) ∧ Drawn q xs st st2 ∧ st2.length = st.length := by
  refine CallS_of_W [] 12 Tryd.func27 rfl rfl rfl rfl (by simp) ?_
  have q1 := hr.notLoc.1
  have hlen : lenE Tryd.prog 53 s = some (.int .i64 ns.length) := row_len hr Tryd.underlying53
  repeat (first | (refine W_reg rfl fun G K hG hK => ?_; simp (disch := omega) only [go_sem, ↓reduceIte, Nat.reduceEqDiff, Nat.reduceAdd, Nat.reduceLeDiff, hG, q1, hlen]; refine hK _ _ ?_; clear hK K hG G) | (refine W_end rfl fun G K hG hK => ?_; simp (disch := omega) only [go_sem, ↓reduceIte, Nat.reduceEqDiff, Nat.reduceAdd, Nat.reduceLeDiff, hG, q1, hlen]; refine hK _ _ ?_; clear hK K hG G; repeat (first | refine thenI ?_ | refine thenE ?_ | refine thenR ?_ | refine inBI ?_ | refine inBR ?_ | refine inBS ?_ | refine inBN (by decide) ?_)) | refine W_seqS ?_ | refine W_seqC ?_ | refine W_seqB ?_ | refine W_block ?_ | (refine W_skip ?_; repeat (first | refine thenI ?_ | refine thenE ?_ | refine thenR ?_ | refine inBI ?_ | refine inBR ?_ | refine inBS ?_ | refine inBN (by decide) ?_)) | (refine W_condT ?hc ?_; (case hc => (simp (disch := omega) only [go_sem, ↓reduceIte, Nat.reduceEqDiff, Nat.reduceAdd, Nat.reduceLeDiff, q1, hlen]; done))) | (refine W_condF ?hc ?_; (case hc => (simp (disch := omega) only [go_sem, ↓reduceIte, Nat.reduceEqDiff, Nat.reduceAdd, Nat.reduceLeDiff, q1, hlen]; done))))
  (repeat (first | refine W_seqS ?_ | refine W_seqC ?_ | refine W_seqB ?_ | refine W_block ?_)); refine W_reg rfl fun G K hG hK => ?_; simp (disch := omega) only [go_sem, ↓reduceIte, Nat.reduceEqDiff, Nat.reduceAdd, Nat.reduceLeDiff, hG, q1, hlen]
  refine w_call (l1Below_ok q xs st (ns.length : Int) (by omega) (by omega) hq) (by simp (disch := omega) only [go_sem, ↓reduceIte, Nat.reduceEqDiff, q1, hlen]) ?hl ?_
  case hl => first | rfl | (simp only [go_sem, List.all_cons, List.all_nil, Bool.not_false, Bool.and_self, q1, hlen]; done)
  rintro r_ sa ⟨⟨x, rfl, hx0, hx1⟩, hd, hl⟩; refine ⟨fun e => (by cases e), ?_⟩
  obtain ⟨n, rfl⟩ : ∃ n : Nat, x = n := ⟨x.toNat, by omega⟩
  have hlt : n < ns.length := by omega
  obtain ⟨i, o, c, cs, rfl, _, rfl, hc⟩ := row_at (rwI_away hr hd.away hne) (List.getElem?_eq_getElem hlt)
  have hce : cell sa i (o + n * 1) = some (.int .i64 ns[n]) := hc 0 _ rfl
  have hi := idxOk hlt
  simp (disch := omega) only [go_sem, ↓reduceIte, Nat.reduceEqDiff, Nat.reduceAdd, Nat.reduceLeDiff, hG, q1, hlen, hi, idxA, Int.toNat_natCast, hce]; refine hK _ _ ?_; clear hK K hG G; repeat (first | refine thenI ?_ | refine thenE ?_ | refine thenR ?_ | refine inBI ?_ | refine inBR ?_ | refine inBS ?_ | refine inBN (by decide) ?_)
  refine W_ret ?_; try (repeat (first | refine thenI ?_ | refine thenE ?_ | refine thenR ?_ | refine inBI ?_ | refine inBR ?_ | refine inBS ?_ | refine inBN (by decide) ?_))
  refine fin1 (.inl rfl) (by (simp (disch := omega) only [go_sem, ↓reduceIte, Nat.reduceEqDiff, Nat.reduceAdd, Nat.reduceLeDiff, q1, hlen]); try rfl) rfl ⟨⟨_, rfl, List.getElem_mem hlt⟩, hd, hl⟩

end

end Go.Proofs.YtpkjgjomiikofaaDoor.AM
/- Regions that draw their order, walked in several orders; some pairs change places by what is known where they stand. -/
namespace Go.Proofs.YtpkjgjomiikofaaDoor.AM
open Go
set_option linter.unusedVariables false
set_option linter.unusedSimpArgs false

/-- What is known goes on over an operation. -/
def Keeps (P : Program) (A H : List Tmp) (G : Nat → Option Tmp) (I : Fr → St → Prop) (a : Oper × Bool) : Prop := ∀ (R : List (Oper × Bool)) (K : Fr → St → Prop) (fr : Fr) (st : St), I fr st → WOps P A H G (a :: R) K fr st → WOps P A H G [a] (fun fr st => I fr st ∧ WOps P A H G R K fr st) fr st
/-- Two operations change places, by what is known. -/
def SwI (P : Program) (A H : List Tmp) (G : Nat → Option Tmp) (I : Fr → St → Prop) (a x : Oper × Bool) : Prop := ∀ (R : List (Oper × Bool)) (K : Fr → St → Prop) (fr : Fr) (st : St), I fr st → WOps P A H G (a :: x :: R) K fr st → WOps P A H G (x :: a :: R) K fr st
theorem WOps_unhead {P : Program} {A H : List Tmp} {G : Nat → Option Tmp} {ox : Oper × Bool} {R : List (Oper × Bool)} {K : Fr → St → Prop} {fr : Fr} {st : St} (h : WOps P A H G [ox] (fun fr st => WOps P A H G R K fr st) fr st) : WOps P A H G (ox :: R) K fr st := by
  obtain ⟨o, x⟩ := ox
  unfold WOps at h ⊢
  exact h
theorem hopI {P : Program} {A H : List Tmp} {G : Nat → Option Tmp} {I : Fr → St → Prop} {x : Oper × Bool} {rest : List (Oper × Bool)} {K : Fr → St → Prop} : ∀ (As : List (Oper × Bool)), (∀ a ∈ As, SwI P A H G I a x ∧ Keeps P A H G I a) → ∀ fr st, I fr st → WOps P A H G (As ++ x :: rest) K fr st → WOps P A H G (x :: (As ++ rest)) K fr st := by
  intro As
  induction As with
  | nil => intro _ fr st _ h; exact h
  | cons a As ih =>
    intro hs fr st hI h
    refine (hs a (by simp)).1 _ _ _ _ hI (WOps_unhead ?_)
    exact ((hs a (by simp)).2 _ _ _ _ hI h).mono fun fr st ⟨h1, h2⟩ => ih (fun b hb => hs b (by simp [hb])) fr st h1 h2
def swapOkL (SP : List (Nat × Nat)) (A H : List Tmp) (l : List Oper) (p q : Nat × Bool) : Bool := swapOk A H l p q || SP.contains (p.1, q.1)
/-- Pairs of operations whose order counts. -/
def exmL (SP : List (Nat × Nat)) (A H : List Tmp) (l : List Oper) (T : List (List Nat)) : List (Nat × Bool) → List (Nat × Nat)
  | [] => []
  | p :: rest => ((rest.filter fun q => !((T.getD q.1 []).contains p.1 || swapOkL SP A H l p q)).map fun q => (p.1, q.1)) ++ exmL SP A H l T rest
def keepOL (SP : List (Nat × Nat)) (A H : List Tmp) (l : List Oper) (done : List Nat) (x : Nat) (π : List (Nat × Bool)) : Bool := (exmL SP A H l (ancT l) π).all fun pq => pq.2 != x || done.contains pq.1
/-- Whatever is drawn, one of the orders goes with it. -/
def gameL (SP : List (Nat × Nat)) (A H : List Tmp) (l : List Oper) (E : List Nat) : Nat → List (List (Nat × Bool)) → List Nat → Bool
  | 0, act, done => !act.isEmpty && E.all fun e => done.contains e
  | k + 1, act, done => !act.isEmpty && E.all fun e => done.contains e || !(((ancT l).getD e []).filter E.contains).all (done.contains ·) || gameL SP A H l E k (goOn l e (act.filter (keepOL SP A H l done e))) (e :: done)
def inEL (SP : List (Nat × Nat)) (A H : List Tmp) (l : List Oper) (E : List Nat) (π : List (Nat × Bool)) : Bool := (exmL SP A H l (ancT l) π).all fun pq => E.contains pq.1 && E.contains pq.2
def chkML (SP : List (Nat × Nat)) (A H : List Tmp) (l : List Oper) (E : List Nat) (PS : List (List (Nat × Bool))) : Bool :=
  tabOk l (ancT l) && (List.range l.length).all (fun i => E.contains i || !((l[i]?).bind fun o => callOf o.op).isSome) && PS.all (fun π => chk1 l π && inEL SP A H l E π) && gameL SP A H l E E.length PS []

theorem exm_specL {SP : List (Nat × Nat)} {A H : List Tmp} {l : List Oper} {T : List (List Nat)} : ∀ {π : List (Nat × Bool)} (X : List (Nat × Bool)) (q : Nat × Bool) (Y : List (Nat × Bool)), π = X ++ q :: Y → ∀ p ∈ X, p.1 ∈ T.getD q.1 [] ∨ swapOkL SP A H l p q = true ∨ (p.1, q.1) ∈ exmL SP A H l T π := by
  intro π
  induction π with
  | nil => intro X q Y e; cases X <;> cases e
  | cons r π ih =>
    intro X q Y e p hp
    cases X with
    | nil => cases hp
    | cons r' X =>
      injection e with e1 e2
      subst e1
      cases hp with
      | head =>
        cases hb : ((T.getD q.1 []).contains r.1 || swapOkL SP A H l r q) with
        | true =>
          rcases Bool.or_eq_true_iff.1 hb with h | h
          · exact .inl (by simpa using h)
          · exact .inr (.inl h)
        | false =>
          refine .inr (.inr ?_)
          simp only [exmL]
          refine List.mem_append_left _ (List.mem_map.2 ⟨q, List.mem_filter.2 ⟨by rw [e2]; simp, by rw [hb]; rfl⟩, rfl⟩)
      | tail _ hp =>
        rcases ih X q Y e2 p hp with h | h | h
        · exact .inl h
        · exact .inr (.inl h)
        · exact .inr (.inr (by simp only [exmL]; exact List.mem_append_right _ h))

section
variable {P : Program} {A H : List Tmp} {G : Nat → Option Tmp}
theorem wpAny_soundML {I : Fr → St → Prop} {SP : List (Nat × Nat)} {n : Nat} {B : Base} {l : List Oper} {E : List Nat} (hKeep : ∀ o ∈ l, ∀ x, Keeps P A H G I (o, x)) (hSP : ∀ p q a x, (p, q) ∈ SP → l[p]? = some a → l[q]? = some x → ∀ fp fq, SwI P A H G I (a, fp) (x, fq)) (ctab : tabOk l (ancT l) = true) (ccall : ∀ i o, l[i]? = some o → i ∉ E → callOf o.op = none) (hd : ∀ o ∈ l, ∀ t, o.dst = some t → t < n)
    (hG : ∀ j, G j = (l.toArray[j]?).bind (·.dst)) {K : Fr → St → Prop} {Q : Exit → Act → World → Prop}
    (hQ : ∀ fr' st' M' L' a' w', K fr' st' → Rel P B M' L' n fr' st' a' w' → Q .normal a' w') :
    ∀ (fuel k : Nat) (act : List (List (Nat × Bool))) (done : List Nat) (listed : Array Bool) (fr : Fr) (st : St) (M : List ME) (L : Nat → Nat) (a : Act) (w : World), (∀ π ∈ act, chk1 l π = true ∧ inEL SP A H l E π = true) → gameL SP A H l E k act done = true → (∀ e ∈ E, e ∈ done ↔ listed.getD e false = true) →
      listed.size = l.length → (∀ π ∈ act, (rem π listed).length = fuel) → (∀ i, i < l.length → listed.getD i false = true → ∀ d ∈ deps l i, listed.getD d false = true) →
      Rel P B M L n fr st a w → I fr st → (∀ π ∈ act, WOps P A H G (pickOps l (rem π listed)) K fr st) → wpAny P .any l.toArray Q fuel listed a w := by
  intro fuel
  induction fuel with
  | zero =>
    intro k act done listed fr st M L a w hchk hgame hdone hsz hlen hcl R hI h
    obtain ⟨π, hπ⟩ : ∃ π, π ∈ act := by
      cases act with
      | nil => cases k <;> simp [gameL] at hgame
      | cons π _ => exact ⟨π, by simp⟩
    have hc := (hchk π hπ).1
    unfold chk1 at hc
    simp only [Bool.and_eq_true] at hc
    obtain ⟨⟨⟨c1, c2⟩, c3⟩, c5⟩ := hc
    have cover : ∀ i, i < l.length → ∃ p ∈ π, p.1 = i := by
      intro i hi
      have := List.all_eq_true.1 c2 i (by simpa using hi)
      simpa using this
    have hrem : rem π listed = [] := List.eq_nil_of_length_eq_zero (hlen π hπ)
    refine ⟨?_, ?_⟩
    · apply List.eq_nil_iff_forall_not_mem.2
      intro i hi
      obtain ⟨h1, h2, h3⟩ := mem_ready.1 hi
      obtain ⟨p, hp, rfl⟩ := cover i h1
      have : p ∈ rem π listed := mem_rem.2 ⟨hp, h2⟩
      rw [hrem] at this
      cases this
    · have := h π hπ
      rw [hrem] at this
      exact hQ _ _ _ _ _ _ this R
  | succ fuel ih =>
    intro k act done listed fr st M L a w hchk hgame hdone hsz hlen hcl R hI h
    refine ⟨fun hr => ?_, fun i hi => ?_⟩
    · -- something is ready
      exfalso
      obtain ⟨π, hπ⟩ : ∃ π, π ∈ act := by
        cases act with
        | nil => cases k <;> simp [gameL] at hgame
        | cons π _ => exact ⟨π, by simp⟩
      have hc := (hchk π hπ).1
      unfold chk1 at hc
      simp only [Bool.and_eq_true] at hc
      obtain ⟨⟨⟨c1, c2⟩, c3⟩, c5⟩ := hc
      have inl : ∀ p ∈ π, p.1 < l.length := fun p hp => by have := List.all_eq_true.1 c3 p hp; simpa using this
      have hlen := hlen π hπ
      have hex := rem_split (π := π) (listed := listed) (by intro e; rw [e] at hlen; cases hlen)
      obtain ⟨X, q, Y, e, h1, h2⟩ := hex
      have hq : q.1 < l.length := inl q (by rw [e]; simp)
      have : q.1 ∈ Region.ready .any l.toArray listed := by
        refine mem_ready.2 ⟨hq, h2, fun d hd => ?_⟩
        rcases topoOk_spec c5 X q Y e d hd with hd | ⟨p, hp, rfl⟩
        · cases hd
        · have h3 := h1 p hp
          have hp' : p.1 < listed.size := by rw [hsz]; exact inl p (by rw [e]; simp [hp])
          rw [getD_lt hp' false true]; exact h3
      rw [hr] at this
      cases this
    · obtain ⟨h1, h2, h3⟩ := mem_ready.1 hi
      obtain ⟨o, ho⟩ : ∃ o, l[i]? = some o := ⟨_, List.getElem?_eq_getElem h1⟩
      have hq' : i < listed.size := by rw [hsz]; exact h1
      -- the orders that go on, and the gameL that goes on
      obtain ⟨k', act', done', hact, hgame', hone, hdone', hkeep⟩ : ∃ k' act' done', (∀ π ∈ act', π ∈ act) ∧ gameL SP A H l E k' act' done' = true ∧ (callOf o.op = none ∨ ∃ π, act' = [π]) ∧ (∀ e ∈ E, e ∈ done' ↔ (e = i ∨ listed.getD e false = true)) ∧ ∀ π ∈ act', ∀ p, (p, i) ∈ exmL SP A H l (ancT l) π → listed.getD p false = true := by
        by_cases hE : i ∈ E
        · have hnd : i ∉ done := fun hh => by
            have := (hdone i hE).1 hh
            rw [getD_lt hq' false true] at this
            rw [h2] at this; cases this
          cases k with
          | zero =>
            exfalso
            simp only [gameL, Bool.and_eq_true] at hgame
            have := List.all_eq_true.1 hgame.2 i hE
            exact hnd (by simpa using this)
          | succ k =>
            simp only [gameL, Bool.and_eq_true] at hgame
            have h4 := List.all_eq_true.1 hgame.2 i hE
            simp only [Bool.or_eq_true, Bool.not_eq_true'] at h4
            have h5 : gameL SP A H l E k (goOn l i (act.filter (keepOL SP A H l done i))) (i :: done) = true := by
              rcases h4 with (h4 | h4) | h4
              · exact absurd (by simpa using h4) hnd
              · exfalso
                have h6 : (((ancT l).getD i []).filter E.contains).all (done.contains ·) = true := by
                  refine List.all_eq_true.2 fun d hdm => ?_
                  obtain ⟨hd1, hd2⟩ := List.mem_filter.1 hdm
                  have hl2 := tab_closed ctab (fun j => listed.getD j false = true) hcl i h1 h3 d hd1
                  have := (hdone d (by simpa using hd2)).2 hl2
                  simpa using this
                rw [h6] at h4
                cases h4
              · exact h4
            refine ⟨k, _, _, fun π hπ => (List.mem_filter.1 (goOn_sub π hπ)).1, h5, ?_, fun e he => ?_, fun π hπ p hp => ?_⟩
            · cases hcl2 : callOf o.op with
              | none => exact .inl rfl
              | some c =>
                refine .inr ?_
                have hgo : goOn l i (act.filter (keepOL SP A H l done i)) = (act.filter (keepOL SP A H l done i)).take 1 := by unfold goOn; rw [ho]; simp [hcl2]
                rw [hgo]
                rw [hgo] at h5
                cases hf : act.filter (keepOL SP A H l done i) with
                | nil => rw [hf] at h5; cases k <;> simp [gameL] at h5
                | cons π _ => exact ⟨π, rfl⟩
            · rw [List.mem_cons, hdone e he]
            · have hπ := goOn_sub π hπ
              have h6 := (List.mem_filter.1 hπ).2
              unfold keepOL at h6
              have h7 := List.all_eq_true.1 h6 _ hp
              simp only [bne_self_eq_false, Bool.false_or] at h7
              have hpE : p ∈ E := by
                have := (hchk π (List.mem_filter.1 hπ).1).2
                unfold inEL at this
                have := List.all_eq_true.1 this _ hp
                simp only [Bool.and_eq_true] at this
                simpa using this.1
              exact (hdone p hpE).1 (by simpa using h7)
        · refine ⟨k, act, done, fun _ h => h, hgame, .inl (ccall i o ho hE), fun e he => ⟨fun hh => .inr ((hdone e he).1 hh), fun hh => ?_⟩, fun π hπ p hp => ?_⟩
          · rcases hh with rfl | hh
            · exact absurd he hE
            · exact (hdone e he).2 hh
          · exfalso
            have := (hchk π hπ).2
            unfold inEL at this
            have := List.all_eq_true.1 this _ hp
            simp only [Bool.and_eq_true] at this
            exact hE (by simpa using this.2)
      have hgetD : ∀ (j : Nat) (b : Bool), j < listed.size → (listed.setIfInBounds i true).getD j b = if j = i then true else listed.getD j b := by
        intro j b hj
        simp only [Array.getD_eq_getD_getElem?, Array.getElem?_setIfInBounds]
        by_cases e : j = i
        · subst e; simp [hj]
        · simp [e, Ne.symm e]
      -- one step, for each order
      have hall : ∀ π ∈ act', ∃ x R', rem π (listed.setIfInBounds i true) = R' ∧ R'.length = fuel ∧ WOps P A H G ((o, x) :: pickOps l R') K fr st := by
        intro π hπ'
        have hπ := hact π hπ'
        have hc := (hchk π hπ).1
        unfold chk1 at hc
        simp only [Bool.and_eq_true] at hc
        obtain ⟨⟨⟨c1, c2⟩, c3⟩, c5⟩ := hc
        have cover : ∀ i, i < l.length → ∃ p ∈ π, p.1 = i := by
          intro i hi
          have := List.all_eq_true.1 c2 i (by simpa using hi)
          simpa using this
        have inl : ∀ p ∈ π, p.1 < l.length := fun p hp => by have := List.all_eq_true.1 c3 p hp; simpa using this
        have hlen := hlen π hπ
        have h := h π hπ
        have hex : ∃ X q Y, rem π listed = X ++ q :: Y ∧ q.1 = i ∧ ∃ X' Y', π = X' ++ q :: Y' ∧ (∀ p ∈ X, p ∈ X') := by
          obtain ⟨q, hq, rfl⟩ := cover i h1
          obtain ⟨X', Y', e⟩ := List.append_of_mem hq
          refine ⟨rem X' listed, q, rem Y' listed, ?_, rfl, X', Y', e, fun p hp => (List.mem_filter.1 hp).1⟩
          rw [e]
          unfold rem
          rw [List.filter_append, List.filter_cons, h2]
          rfl
        obtain ⟨X, q, Y, e, rfl, X', Y', e', hX⟩ := hex
        have hop' := hopI (P := P) (A := A) (H := H) (G := G) (I := I) (K := K) (x := (o, q.2)) (rest := pickOps l Y) (pickOps l X) (fun ax hax => by
          obtain ⟨p, hp, hpo, hpx⟩ := mem_pickOps hax
          have hno : listed.getD p.1 false ≠ true := fun hl2 => by
            have hmem : p ∈ rem π listed := by rw [e]; simp [hp]
            have := (mem_rem.1 hmem).2
            have hp' : p.1 < listed.size := by rw [hsz]; exact (List.getElem?_eq_some_iff.1 hpo).1
            rw [getD_lt hp' true false] at this
            exact absurd (hl2.symm.trans this) (by simp)
          have hsw : swapOkL SP A H l p q = true := by
            rcases exm_specL (SP := SP) (A := A) (H := H) (l := l) (T := ancT l) X' q Y' e' p (hX p hp) with ht | hs | hx
            · exact absurd (tab_closed ctab (fun i => listed.getD i false = true) hcl q.1 h1 h3 p.1 ht) hno
            · exact hs
            · exact absurd (hkeep π hπ' p.1 hx) hno
          obtain ⟨a1, a2⟩ := ax
          simp only at hpx hpo
          refine ⟨?_, hKeep a1 (List.mem_of_getElem? hpo) a2⟩
          unfold swapOkL at hsw
          rcases Bool.or_eq_true_iff.1 hsw with hs | hs
          · have := swapOk_spec hpo ho hs
            rw [hpx] at this
            exact fun R K fr st _ h => hop (ops := l.toArray) (x := (o, q.2)) (rest := R) hG [(a1, a2)] (fun c hc => by rw [List.mem_singleton.1 hc]; exact this) fr st h
          · exact hSP p.1 q.1 a1 o (by simpa using hs) hpo ho a2 q.2) fr st hI (by rw [e, pickOps_app, pickOps_cons ho] at h; exact h)
        have hrem' : ∀ Z : List (Nat × Bool), (∀ p ∈ Z, p.1 < l.length) → rem Z (listed.setIfInBounds q.1 true) = (rem Z listed).filter fun p => p.1 != q.1 := by
          intro Z hZ
          unfold rem
          rw [List.filter_filter]
          apply List.filter_congr
          intro p hp
          rw [hgetD p.1 true (by rw [hsz]; exact hZ p hp)]
          by_cases e : p.1 = q.1
          · simp [e]
          · simp [e]
        have hnd : (π.map (·.1)).Nodup := nodupB_spec c1.2
        have hXY : rem π (listed.setIfInBounds q.1 true) = X ++ Y := by
          rw [hrem' π inl, e]
          have hnd2 : ((X ++ q :: Y).map (·.1)).Nodup := by
            rw [← e]
            exact hnd.sublist (List.Sublist.map _ List.filter_sublist)
          rw [List.map_append, List.map_cons] at hnd2
          have hni := List.nodup_append.1 hnd2
          rw [List.filter_append, List.filter_cons]
          simp only [bne_self_eq_false, Bool.false_eq_true, if_false]
          congr 1
          · apply List.filter_eq_self.2
            intro p hp
            have : p.1 ≠ q.1 := fun e => hni.2.2 p.1 (List.mem_map.2 ⟨p, hp, rfl⟩) q.1 (by simp) e
            simpa using this
          · apply List.filter_eq_self.2
            intro p hp
            have : p.1 ≠ q.1 := fun e => (List.nodup_cons.1 hni.2.1).1 (e ▸ List.mem_map.2 ⟨p, hp, rfl⟩)
            simpa using this
        refine ⟨q.2, X ++ Y, hXY, ?_, by rw [pickOps_app]; exact hop'⟩
        rw [e] at hlen
        simp only [List.length_append, List.length_cons] at hlen ⊢
        omega
      obtain ⟨π0, hπ0⟩ : ∃ π, π ∈ act' := by
        cases act' with
        | nil => cases k' <;> simp [gameL] at hgame'
        | cons π _ => exact ⟨π, by simp⟩
      have hone2 : ∃ x, WOps P A H G [(o, x)] (fun fr st => ∀ π ∈ act', WOps P A H G (pickOps l (rem π (listed.setIfInBounds i true))) K fr st) fr st := by
        rcases hone with hn | ⟨π, rfl⟩
        · refine ⟨false, WOps_conj hn ⟨π0, hπ0⟩ fun π hπ => ?_⟩
          obtain ⟨x, R', h4, _, h5⟩ := hall π hπ
          exact ⟨x, by rw [h4]; exact WOps_head h5⟩
        · obtain ⟨x, R', h4, _, h5⟩ := hall π (by simp)
          refine ⟨x, (WOps_head h5).mono fun fr st hq π' hπ' => ?_⟩
          obtain rfl := List.mem_singleton.1 hπ'
          rw [h4]; exact hq
      obtain ⟨x, hw1⟩ := hone2
      have hw2 := hKeep o (List.mem_of_getElem? ho) x [] _ fr st hI hw1
      have hstep := step_sound (Q := Q) R hG (hd o (List.mem_of_getElem? ho)) hw2 (K' := wpAny P .any l.toArray Q fuel (listed.setIfInBounds i true)) fun fr' st' M' L' a' w' h' R' => by
        obtain ⟨hI', h'⟩ := h'
        rw [w_nil] at h'
        refine ih k' act' done' (listed.setIfInBounds i true) fr' st' M' L' a' w' (fun π hπ => hchk π (hact π hπ)) hgame' (fun e he => ?_) (by simpa using hsz) (fun π hπ => ?_) ?_ R' hI' h'
        · rw [hdone' e he]
          by_cases hel : e < listed.size
          · rw [hgetD e false hel]
            by_cases ee : e = i
            · simp [ee]
            · simp [ee]
          · have h6 : e ≠ i := by omega
            simp [h6, Array.getD, hel]
        · obtain ⟨x, R', h4, h5, _⟩ := hall π hπ
          rw [h4]; exact h5
        · intro j hj hjl d hdj
          have hdl : d < listed.size ∨ listed.size ≤ d := by omega
          have base : listed.getD d false = true := by
            rw [hgetD j false (by rw [hsz]; exact hj)] at hjl
            split at hjl
            · rename_i ej; subst ej; exact h3 d hdj
            · exact hcl j hj hjl d hdj
          rcases hdl with hdl | hdl
          · rw [hgetD d false hdl]
            by_cases ed : d = i
            · rw [if_pos ed]
            · rw [if_neg ed]; exact base
          · simp [Array.getD, Nat.not_lt.2 hdl] at base
      unfold wpOp
      have ho' : l.toArray[i]? = some o := by simpa using ho
      rw [ho']
      simp only
      split at hstep
      · rename_i hw; rw [if_pos hw]; exact .inl hstep
      · rename_i hw; rw [if_neg hw]; exact hstep

/-- A region that draws its order, walked in several orders. -/
theorem W_regionML {I : Fr → St → Prop} {n id : Nat} {Q : Ex → Fr → St → Prop} {fr : Fr} {st : St} (hm : P.follows .mixedOrders = true) {l : List Oper} (SP : List (Nat × Nat)) (A : List Tmp) (E : List Nat) (PS : List (List (Nat × Bool))) (hd : dstsLt n l = true) (hc : chkML SP A H l E PS = true) (hI : I fr st)
    (hKeep : ∀ G, (∀ j, G j = (l[j]?).bind (·.dst)) → ∀ o ∈ l, ∀ x, Keeps P A H G I (o, x)) (hSP : ∀ G, (∀ j, G j = (l[j]?).bind (·.dst)) → ∀ p q a x, (p, q) ∈ SP → l[p]? = some a → l[q]? = some x → ∀ fp fq, SwI P A H G I (a, fp) (x, fq))
    (h : ∀ G : Nat → Option Tmp, (∀ j, G j = (l[j]?).bind (·.dst)) → ∀ π ∈ PS, WOps P A H G (pickOps l π) (Q .normal) fr st) : W P H n (.region id l.toArray true) Q fr st := by
  intro B M L a w R
  refine wp_region_any hm ?_
  unfold chkML at hc
  simp only [Bool.and_eq_true] at hc
  obtain ⟨⟨⟨h1, h2⟩, h3⟩, h4⟩ := hc
  have hchk : ∀ π ∈ PS, chk1 l π = true ∧ inEL SP A H l E π = true := fun π hπ => by have := List.all_eq_true.1 h3 π hπ; simpa using this
  have hrem : ∀ π ∈ PS, rem π (Array.replicate l.length false) = π ∧ π.length = l.length := by
    intro π hπ
    have hc1 := (hchk π hπ).1
    unfold chk1 at hc1
    simp only [Bool.and_eq_true] at hc1
    refine ⟨List.filter_eq_self.2 fun p hp => ?_, by simpa using hc1.1.1.1.1⟩
    have := List.all_eq_true.1 hc1.1.2 p hp
    have hp' : p.1 < l.length := by simpa using this
    simp [Array.getD, hp']
  refine wpAny_soundML (I := I) (SP := SP) (G := fun j => (l[j]?).bind (·.dst)) (E := E) (hKeep _ fun _ => rfl) (hSP _ fun _ => rfl) h1 (fun i o ho hE => ?_) (dstsLt_of hd) (fun j => by simp) (Q := fun e a' w' => ∃ x fr' st' M' L', e = Ex.to x ∧ Q x fr' st' ∧ Rel P B M' L' n fr' st' a' w')
    (fun fr' st' M' L' a' w' hK R' => ⟨.normal, fr', st', M', L', rfl, hK, R'⟩) l.toArray.size E.length PS [] (Array.replicate l.toArray.size false) fr st M L a _ hchk h4 (fun e he => ?_) (by simp) (fun π hπ => ?_) ?_ R.drewAt hI (fun π hπ => ?_)
  · have := List.all_eq_true.1 h2 i (by simpa using (List.getElem?_eq_some_iff.1 ho).1)
    simp only [ho, Option.bind_some, Bool.or_eq_true, Bool.not_eq_true'] at this
    rcases this with h | h
    · exact absurd (by simpa using h) hE
    · simpa using h
  · constructor
    · intro hh; cases hh
    · intro hh
      have : (Array.replicate l.toArray.size false).getD e false = false := by
        simp only [Array.getD_eq_getD_getElem?, Array.getElem?_replicate]
        split <;> rfl
      rw [this] at hh; cases hh
  · simp only [List.size_toArray]; rw [(hrem π hπ).1, (hrem π hπ).2]
  · intro i hi hli
    simp [Array.getD, hi] at hli
  · simp only [List.size_toArray]; rw [(hrem π hπ).1]; exact h _ (fun _ => rfl) π hπ

end

section
variable {P : Program} {A H : List Tmp} {G : Nat → Option Tmp}
/-! Loads of local boxes. -/
/-- No pointer into the store. -/
def nonH : Value → Bool
  | .pointer (some ⟨_, _, none⟩) => false
  | _ => true
def ldL (Ls : List Tmp) : Op → Bool
  | .load _ (.tmp t) => Ls.contains t
  | .fieldAddr _ (.tmp t) _ => Ls.contains t
  | _ => false
def faL (Ls : List Tmp) : Op → Bool
  | .fieldAddr _ (.tmp t) _ => Ls.contains t
  | _ => false
def isApp : Op → Bool
  | .call { callee := .builtin .append, .. } => true
  | _ => false
/-- These slots point to local boxes. -/
def InvL (Ls : List Tmp) (fr : Fr) (_ : St) : Prop := ∀ t ∈ Ls, nonH (fr.env t) = true
def okL (Ls : List Tmp) (l : List Oper) (p q : Nat) : Bool := match l[p]?, l[q]? with
  | some a, some x => (ldL Ls a.op && (a.guard.isNone && x.guard.isNone)) && ((((callOf x.op).isSome || isApp x.op)) && a.apart l.toArray x)
  | _, _ => false
def spL (Ls : List Tmp) (l : List Oper) : List (Nat × Nat) := (List.range l.length).flatMap fun p => ((List.range l.length).filter fun q => okL Ls l p q).map fun q => (p, q)
def dstL (Ls : List Tmp) (o : Oper) : Bool := match o.dst with
  | some d => !Ls.contains d || (faL Ls o.op && o.guard.isNone)
  | none => true
def chkLL (Ls A H : List Tmp) (l : List Oper) (E : List Nat) (PS : List (List (Nat × Bool))) : Bool :=
  l.all (dstL Ls) && chkML (spL Ls l) A H l E PS
theorem spL_mem {Ls : List Tmp} {l : List Oper} {p q : Nat} (h : (p, q) ∈ spL Ls l) : okL Ls l p q = true := by
  unfold spL at h
  obtain ⟨p', _, h2⟩ := List.mem_flatMap.1 h
  obtain ⟨q', h3, h4⟩ := List.mem_map.1 h2
  cases h4
  exact (List.mem_filter.1 h3).2
theorem InvL.put {Ls : List Tmp} {fr : Fr} {st st' : St} (h : InvL Ls fr st) {d : Option Tmp} {v : Value} (hd : ∀ t, d = some t → t ∉ Ls ∨ nonH v = true) (l : Nat → Nat × List Value) : InvL Ls ⟨AM.put fr.env d v, l⟩ st' := fun t ht => by
  cases d with
  | none => exact h t ht
  | some d =>
    show nonH (upd fr.env d v t) = true
    by_cases e : t = d
    · subst e
      rw [upd_same]
      exact (hd _ rfl).resolve_left fun h => h ht
    · rw [upd_ne _ _ _ _ e]
      exact h t ht
theorem keepsL {Ls : List Tmp} {o : Oper} (hd : dstL Ls o = true) (x : Bool) : Keeps P A H G (InvL Ls) (o, x) := by
  intro R K fr st hI h
  by_cases hn : ∀ t, o.dst = some t → t ∉ Ls
  · have hput : ∀ v (l : Nat → Nat × List Value) s, InvL Ls ⟨AM.put fr.env o.dst v, l⟩ s := fun v l s => hI.put (fun t ht => .inl (hn t ht)) l
    unfold WOps at h ⊢
    split at h
    · exact h.elim
    · exact ⟨hput _ _ _, h⟩
    · split at h
      · obtain ⟨g, h1, h2, h3⟩ := h
        exact ⟨g, h1, h2, h3.mono fun r st' ⟨q1, q2⟩ => ⟨q1, hput _ _ _, q2⟩⟩
      · split at h
        · exact ⟨hput _ _ _, h⟩
        · exact h.elim
  · have hex : ∃ d, o.dst = some d ∧ d ∈ Ls := Classical.byContradiction fun h2 => hn fun t ht hL => h2 ⟨t, ht, hL⟩
    obtain ⟨d, hdd, hdL⟩ := hex
    unfold dstL at hd
    rw [hdd] at hd
    simp only [Bool.or_eq_true, Bool.and_eq_true, Bool.not_eq_true'] at hd
    have hfa : faL Ls o.op = true ∧ o.guard.isNone = true := by
      rcases hd with hd | hd
      · have : Ls.contains d = true := by simpa using hdL
        rw [this] at hd; cases hd
      · exact hd
    obtain ⟨hf, hg⟩ := hfa
    unfold faL at hf
    split at hf
    · rename_i ty t f hop
      have htL : t ∈ Ls := by simpa using hf
      have hcn : callOf o.op = none := by rw [hop]; rfl
      have ht := hI t htL
      rw [WOps_cons hg, hcn] at h ⊢
      simp only at h ⊢
      split at h
      · rename_i v l s hs
        obtain ⟨q1, q2, q3⟩ := stepVal_pure (.inr (by rw [hop]; rfl)) hs
        replace q2 := q2.symm; replace q3 := q3.symm
        subst q2; subst q3
        refine ⟨hI.put (fun t' _ => .inr ?_) _, h⟩
        rw [hop] at q1
        have q1' : (match fr.env t with
          | .pointer (some ⟨b, o, sp⟩) => (match offA P ty f with
            | some d => if okPtr A fr.loc b sp then some (Value.pointer (some ⟨b, o + d, sp⟩)) else none
            | none => none)
          | _ => none) = some v := q1
        split at q1'
        · rename_i b o' sp he
          rw [he] at ht
          split at q1'
          · split at q1'
            · cases q1'
              cases sp with
              | none => cases ht
              | some _ => rfl
            · cases q1'
          · cases q1'
        · cases q1'
      · exact h.elim
    · cases hf
theorem loadA_loc {t : TypeId} {p : Value} (h : nonH p = true) (loc : Nat → Nat × List Value) (st st' : St) : loadA P A t p loc st' = loadA P A t p loc st := by
  cases p with
  | pointer a =>
    cases a with
    | none => rfl
    | some ad =>
      obtain ⟨b, o, w⟩ := ad
      cases w with
      | none => cases h
      | some w => rw [loadA_p, loadA_p]; rfl
  | _ => rfl
theorem app_loc {o : Oper} (h : isApp o.op = true) {fr : Fr} {st : St} {v : Value} {l : Nat → Nat × List Value} {s : St} (hs : stepVal P A H o fr st = some (v, l, s)) : l = fr.loc := by
  unfold isApp at h
  split at h
  · rename_i c1 c2 hop
    unfold stepVal at hs
    rw [hop] at hs
    have e : ∀ ρ loc st, evalVal P A (.call { callee := .builtin .append, args := c1, argTypes := c2 }) ρ loc st = none := fun _ _ _ => rfl
    rw [e] at hs
    simp only at hs
    unfold evalEff at hs
    rw [hop] at hs
    simp only at hs
    split at hs
    · simp only [Option.map_eq_some_iff] at hs
      obtain ⟨r, _, hr⟩ := hs
      cases hr; rfl
    · cases hs
  · cases h
theorem swL {ops : Array Oper} {Ls : List Tmp} {a x : Oper} (hld : ldL Ls a.op = true) (hga : a.guard.isNone = true) (hgx : x.guard.isNone = true) (hx : (callOf x.op).isSome = true ∨ isApp x.op = true) (hap : a.apart ops x = true) (fa fx : Bool) : SwI P A H G (InvL Ls) (a, fa) (x, fx) := by
  intro R K fr st hI h
  obtain ⟨env, loc⟩ := fr
  have sp := Oper.apart_spec hap
  have hrd : isPure a.op = true ∨ isRd a.op = true := .inr (by
    unfold ldL at hld
    split at hld
    · rename_i e; rw [e]; rfl
    · rename_i e; rw [e]; rfl
    · cases hld)
  have hcn : callOf a.op = none := by
    unfold ldL at hld
    split at hld
    · rename_i e; rw [e]; rfl
    · rename_i e; rw [e]; rfl
    · cases hld
  have hev : ∀ (l : Nat → Nat × List Value) (s s' : St), evalVal P A a.op (Fr.ev ⟨env, loc⟩) l s' = evalVal P A a.op (Fr.ev ⟨env, loc⟩) l s := by
    intro l s s'
    unfold ldL at hld
    split at hld
    · rename_i ty t e
      rw [e]
      exact loadA_loc (hI t (by simpa using hld)) l s s'
    · rename_i e; rw [e]; rfl
    · cases hld
  have hxa : ∀ (v : Value) (l l' : Nat → Nat × List Value) (y : Operand), y ∈ x.op.operands → Fr.ev ⟨put env a.dst v, l⟩ y = Fr.ev ⟨env, l'⟩ y := fun v l l' y hy => ev_put fun d hd e => by
    subst e; exact sp.1 d hd (mem_looks hy)
  rw [WOps_cons hga, hcn] at h
  simp only at h
  split at h
  rotate_left
  · exact h.elim
  rename_i va l s hs
  obtain ⟨q1, q2, q3⟩ := stepVal_pure hrd hs
  replace q2 := q2.symm; replace q3 := q3.symm
  subst q2; subst q3
  simp only at h q1
  have back : ∀ (v : Value) (s' : St), WOps P A H G R K ⟨put (put env a.dst va) x.dst v, loc⟩ s' → WOps P A H G ((a, fa) :: R) K ⟨put env x.dst v, loc⟩ s' := by
    intro v s' hh
    rw [WOps_cons hga, hcn]
    simp only
    have e : evalVal P A a.op (Fr.ev ⟨put env x.dst v, loc⟩) loc s' = some va := by
      rw [evalVal_apart hap]
      exact (hev loc _ _).trans q1
    rw [stepVal_of e]
    rw [put_comm _ _ _ sp.2.1] at hh
    exact hh
  rw [WOps_cons hgx] at h ⊢
  cases hc : callOf x.op with
  | some fa' =>
    obtain ⟨f, args⟩ := fa'
    rw [hc] at h
    simp only at h ⊢
    obtain ⟨o1, o2⟩ := callOf_operands hc
    obtain ⟨g, h1, h2, h3⟩ := h
    refine ⟨g, ?_, ?_, ?_⟩
    · rw [← hxa va loc loc f o2]; exact h1
    · rw [← Array.all_toList] at h2 ⊢
      rw [List.all_eq_true] at h2 ⊢
      intro y hy
      have := h2 y hy
      rw [hxa va loc loc y (o1 y (by simpa using hy))] at this
      exact this
    · have e3 : args.toList.map (Fr.ev ⟨put env a.dst va, loc⟩) = args.toList.map (Fr.ev ⟨env, loc⟩) := List.map_congr_left fun y hy => hxa va loc loc y (o1 y (by simpa using hy))
      rw [e3] at h3
      exact h3.mono fun r st' ⟨p1, p2⟩ => ⟨p1, back r st' p2⟩
  | none =>
    rw [hc] at h
    simp only at h ⊢
    have hxapp : isApp x.op = true := by
      rcases hx with hx | hx
      · rw [hc] at hx; cases hx
      · exact hx
    split at h
    · rename_i v l s' hs'
      have e := stepVal_congr (P := P) (A := A) (H := H) (o := x) (fr := ⟨put env a.dst va, loc⟩) (fr' := ⟨env, loc⟩) (st := st) rfl fun y hy => (hxa va _ _ y hy).symm
      rw [e, hs']
      have := app_loc hxapp hs'
      simp only at this
      subst this
      exact back v s' h
    · exact h.elim
end
/-- A region that draws its order, walked in several orders; loads of the local boxes Ls may change places with calls and appends. -/
theorem W_regL {P : Program} {H : List Tmp} {n : Nat} {Q : Ex → Fr → St → Prop} {fr : Fr} {st : St} {id : Nat} {l : List Oper} {rest : Code} (hm : P.follows .mixedOrders = true) (Ls A : List Tmp) (E : List Nat) (PS : List (List (Nat × Bool))) (hd : dstsLt n l = true) (hc : chkLL Ls A H l E PS = true) (hI : ∀ t ∈ Ls, nonH (fr.env t) = true)
    (h : ∀ (G : Nat → Option Tmp) (K : Fr → St → Prop), (∀ j, G j = (l[j]?).bind (·.dst)) → (∀ fr st, W P H n rest Q fr st → K fr st) → ∀ π ∈ PS, WOps P A H G (pickOps l π) K fr st) : W P H n (.seq (.region id l.toArray true) rest) Q fr st := by
  unfold chkLL at hc
  obtain ⟨h1, h2⟩ := Bool.and_eq_true_iff.1 hc
  refine W_seq (W_regionML (I := InvL Ls) hm _ A E PS hd h2 hI (fun G hG o ho x => keepsL (List.all_eq_true.1 h1 o ho) x) (fun G hG p q a x hpq ha hx fp fq => ?_) fun G hG => h G _ hG fun _ _ h => h)
  have := spL_mem hpq
  unfold okL at this
  rw [ha, hx] at this
  simp only [Bool.and_eq_true, Bool.or_eq_true] at this
  obtain ⟨⟨g1, g2, g3⟩, g4, g5⟩ := this
  exact swL g1 g2 g3 g4 g5 fp fq
theorem fm_nil {α : Type} {P : α → Prop} : ∀ x ∈ ([] : List α), P x := fun x hx => by cases hx
theorem fm_cons {α : Type} {P : α → Prop} {a : α} {l : List α} (h1 : P a) (h2 : ∀ x ∈ l, P x) : ∀ x ∈ a :: l, P x := fun x hx => by
  rcases List.mem_cons.1 hx with rfl | hx
  · exact h1
  · exact h2 x hx
end Go.Proofs.YtpkjgjomiikofaaDoor.AM


namespace Go.Proofs.YtpkjgjomiikofaaDoor.AM
open Go
attribute [local go_sem] List.map_cons List.map_nil List.all_cons List.all_nil Bool.and_self Option.map_some List.getElem?_toArray Option.bind_some gye_b gye_t gsk_b gsk_t gb1 gb2 gb3 gb4 bne_self_eq_false beq_self_eq_true w_guard w_nil stepV_some step_some step_some' w_move w_assign w_pick w_binOp w_unOp w_load w_fieldAddr w_indexAddr w_len w_max w_index ev_max max_int ev_index w_box w_alloc w_store w_field w_extract w_nilCheck w_convert w_buildSlice w_build ev_buildL fillL_nil fillL_cons bs0 bs1 ev_conv ev_bin ev_un ev_pick ev_load ev_fieldAddr ev_indexAddr ev_len ev_field ev_extract ev_nilCheck fr_tmp fr_int fr_bool fr_str fr_nil fr_func put_some put_none bin_lss bin_leq bin_gtr bin_geq bin_eql bin_neq bin_add bin_sub bin_mul bin_seql bin_sneq un_not pick_ ext_ loadA_p cellAt_l cellAt_h okPtr_l okPtr_h fadA_p allocA_l storeA_l cells_agg cells_int cells_str cells_sl cells_bool flat_i flat_s flat_b flat_sl flat_nil loc_agg loc_int loc_str loc_sl loc_bool loc_fn loc_ptr okv_agg okv_int okv_str okv_sl okv_bool cellsFrom splice upd_eval argEnv_zero argEnv_succ ne_eq Nat.add_one_ne_zero not_false_eq_true List.not_mem_nil and_self decide_true List.getElem?_cons_zero List.getElem?_cons_succ List.size_toArray List.length_cons List.length_nil List.take_succ_cons List.take_zero List.drop_succ_cons List.drop_zero List.cons_append List.nil_append List.drop_nil Bool.not_true Bool.not_false Bool.false_eq_true Nat.zero_add Nat.add_zero wrap_in List.toList_toArray List.mem_cons or_self or_false false_or
attribute [local go_sem] ag22 ag24 ag26 ag3 ag4 ag5 ag78 ag83 ag9 ag91 bu116 bu122 bu26 bu39 bu49 bu58 by26 by5 by9 el22 el24 el46 el53 of26_0 of26_1 of26_2 of26_3 of39_0 of49_0 of49_1 of49_2 of58_0 of58_1 of58_2 of80_0 of80_1 ro26_0 ro26_1 ro26_2 ro3_3 ro5_1 ro9_1 ro9_2 ro9_3 ro9_4 ro9_8 sz22 sz24 sz26 sz3 sz4 sz5 sz78 sz83 sz9 sz91 ze109 ze26 ze5 ze80 ze9 ze90
section
/- ReduceWords. -/
open Go Go.Proofs
set_option linter.unusedVariables false
set_option linter.unusedSimpArgs false
set_option maxRecDepth 100000

theorem l3Word_ok (v : Int) (st : St) : CallS Tryd.prog 29 [.int .i64 v] st fun r st' => r = .agg #[.int .i64 3, .int .i64 v, .string ⟨#[]⟩, .slice none 0 0] ∧ st' = st := by
  refine CallS_of_W [] 5 Tryd.func29 rfl rfl rfl rfl (by simp) ?_
  repeat (first | (refine W_reg rfl fun G K hG hK => ?_; simp (disch := omega) only [go_sem, ↓reduceIte, Nat.reduceEqDiff, Nat.reduceAdd, Nat.reduceLeDiff, hG]; refine hK _ _ ?_; clear hK K hG G) | (refine W_end rfl fun G K hG hK => ?_; simp (disch := omega) only [go_sem, ↓reduceIte, Nat.reduceEqDiff, Nat.reduceAdd, Nat.reduceLeDiff, hG]; refine hK _ _ ?_; clear hK K hG G; repeat (first | refine thenI ?_ | refine thenE ?_ | refine thenR ?_ | refine inBI ?_ | refine inBR ?_ | refine inBS ?_ | refine inBN (by decide) ?_)) | refine W_seqS ?_ | refine W_seqC ?_ | refine W_seqB ?_ | refine W_block ?_ | (refine W_skip ?_; repeat (first | refine thenI ?_ | refine thenE ?_ | refine thenR ?_ | refine inBI ?_ | refine inBR ?_ | refine inBS ?_ | refine inBN (by decide) ?_)) | (refine W_condT ?hc ?_; (case hc => (simp (disch := omega) only [go_sem, ↓reduceIte, Nat.reduceEqDiff, Nat.reduceAdd, Nat.reduceLeDiff]; done))) | (refine W_condF ?hc ?_; (case hc => (simp (disch := omega) only [go_sem, ↓reduceIte, Nat.reduceEqDiff, Nat.reduceAdd, Nat.reduceLeDiff]; done))))
  refine W_ret ?_; try (repeat (first | refine thenI ?_ | refine thenE ?_ | refine thenR ?_ | refine inBI ?_ | refine inBR ?_ | refine inBS ?_ | refine inBN (by decide) ?_))
  refine finC (.inl rfl) (by (simp (disch := omega) only [go_sem, ↓reduceIte, Nat.reduceEqDiff, Nat.reduceAdd, Nat.reduceLeDiff]); try rfl) ⟨rfl, rfl⟩


end

section
/- Terms drawn: spec.l3Draw. -/
open Go Go.Proofs
set_option linter.unusedVariables false
set_option linter.unusedSimpArgs false
set_option maxRecDepth 100000
-- AUTO

/-- A term drawn: the cursor turned, the term's memory new. -/
def DrawT (q : Nat) (xs : List Byt) (st : St) (R : T → Prop) (r : Value) (st2 : St) : Prop := Drawn q xs st st2 ∧ ∃ t ds L, r = .agg ds.toArray ∧ OwnT st2 t ds L ∧ Fresh st.length L ∧ R t
theorem Drawn.own {q : Nat} {bs : List Byt} {n0 : Nat} {a b : St} {t : T} {cs : List Value} {L : List Nat} (h : Drawn q bs a b) (ho : OwnT a t cs L) (hf : Fresh n0 L) (hq : q < n0) : OwnT b t cs L :=
  Own.frame _ _ _ (fun i hi => h.away.2 i (Own.lt _ _ _ ho i hi) fun e => by
    have := hf.2 i hi
    cases e; omega) ho
theorem Drawn.enc {q : Nat} {bs : List Byt} {n0 : Nat} {a b : St} {t : T} {cs : List Value} {L : List Nat} (h : Drawn q bs a b) (ho : OwnT a t cs L) (hf : Fresh n0 L) (hq : q < n0) : Enc b t cs := Own.enc _ _ _ (h.own ho hf hq)
theorem Drawn.ext2 {q : Nat} {xs : List Byt} {a b c : St} (h : Drawn q xs a b) (hx : Ext b c) : Drawn q xs a c := ⟨h.cur.ext hx, h.away.same (Away.of_ext hx)⟩
theorem Cur.lt {st : St} {q : Nat} {xs : List Byt} (h : Cur st q xs) : q < st.length := by obtain ⟨_, _, _, h, _⟩ := h; exact (List.getElem?_eq_some_iff.1 h).1
theorem Fresh.one {n k : Nat} (h : n ≤ k) : Fresh n [k] := ⟨by simp, fun i hi => by cases List.mem_singleton.1 hi; exact h⟩
theorem Fresh.cons {n k : Nat} {L : List Nat} (h : Fresh n L) (hlt : ∀ i ∈ L, i < k) (hk : n ≤ k) : Fresh n (k :: L) := ⟨List.nodup_cons.2 ⟨fun hm => by have := hlt k hm; omega, h.1⟩, fun i hi => by
  rcases List.mem_cons.1 hi with rfl | hi
  · exact hk
  · exact h.2 i hi⟩
theorem Fresh.app {n m : Nat} {L K : List Nat} (h : Fresh n L) (g : Fresh m K) (hlt : ∀ i ∈ L, i < m) (hn : n ≤ m) : Fresh n (L ++ K) := ⟨List.nodup_append.2 ⟨h.1, g.1, fun a ha b hb e => by
  subst e
  have h1 := hlt a ha
  have h2 := g.2 a hb
  omega⟩, fun i hi => by
  rcases List.mem_append.1 hi with hi | hi
  · exact h.2 i hi
  · have := g.2 i hi; omega⟩
theorem plain_var (nm : ByteArray) : Plain (.mk 1 0 nm []) := .mk _ _ _ _ (fun _ => ⟨rfl, rfl⟩) (fun a ha => by cases ha)
theorem plain_word (n : Int) (nm : ByteArray) : Plain (.mk 3 n nm []) := .mk _ _ _ _ (fun h => by cases h) (fun a ha => by cases ha)
theorem plain_app (n : Int) (nm : ByteArray) (args : List T) (h : ∀ a ∈ args, Plain a) : Plain (.mk 2 n nm args) := .mk _ _ _ _ (fun h => by cases h) h

def DrawP (d : Nat) (t : T) : Prop := Plain t ∧ t.wt + 3 ≤ 4 * 2 ^ d
theorem leaf_ok {d : Nat} {k n : Int} {nm : ByteArray} (hn : nm.size ≤ 1) (h : Plain (.mk k n nm [])) : DrawP d (.mk k n nm []) := ⟨h, by
  have : 1 ≤ 2 ^ d := Nat.one_le_two_pow
  simp only [T.wt, T.wtL, List.length_nil]; omega⟩
theorem size_of_mem {w : ByteArray} {cs : List Value} (h : Value.string w ∈ cs) (hs : cs.all (fun v => match v with | .string s => decide (s.size ≤ 1) | _ => false) = true) : w.size ≤ 1 := by
  have := List.all_eq_true.1 hs _ h
  simpa using this

theorem l3Draw_of (q : Nat) (xs : List Byt) (g : Bool) (d : Nat) (hd10 : d ≤ 10) (st : St) (hq : Cur st q xs)
    (ih : ∀ e, d = e + 1 → ∀ st, Cur st q xs → CallS Tryd.prog 23 [.pointer (some ⟨q, 0, none⟩), .int .i64 (e : Nat), .bool g] st (DrawT q xs st (DrawP e))) :
    CallS Tryd.prog 23 [.pointer (some ⟨q, 0, none⟩), .int .i64 (d : Nat), .bool g] st (DrawT q xs st (DrawP d)) := by
  refine CallS_of_W [] 57 Tryd.func23 rfl rfl rfl rfl (by simp) ?_
  repeat (first | (refine W_reg rfl fun G K hG hK => ?_; simp (disch := omega) only [go_sem, ↓reduceIte, Nat.reduceEqDiff, Nat.reduceAdd, Nat.reduceLeDiff, hG]; refine hK _ _ ?_; clear hK K hG G) | (refine W_end rfl fun G K hG hK => ?_; simp (disch := omega) only [go_sem, ↓reduceIte, Nat.reduceEqDiff, Nat.reduceAdd, Nat.reduceLeDiff, hG]; refine hK _ _ ?_; clear hK K hG G; repeat (first | refine thenI ?_ | refine thenE ?_ | refine thenR ?_ | refine inBI ?_ | refine inBR ?_ | refine inBS ?_ | refine inBN (by decide) ?_)) | refine W_seqS ?_ | refine W_seqC ?_ | refine W_seqB ?_ | refine W_block ?_ | (refine W_skip ?_; repeat (first | refine thenI ?_ | refine thenE ?_ | refine thenR ?_ | refine inBI ?_ | refine inBR ?_ | refine inBS ?_ | refine inBN (by decide) ?_)) | (refine W_condT ?hc ?_; (case hc => (simp (disch := omega) only [go_sem, ↓reduceIte, Nat.reduceEqDiff, Nat.reduceAdd, Nat.reduceLeDiff]; done))) | (refine W_condF ?hc ?_; (case hc => (simp (disch := omega) only [go_sem, ↓reduceIte, Nat.reduceEqDiff, Nat.reduceAdd, Nat.reduceLeDiff]; done))))
  refine W_seq ?_
  refine W_to (fun fr st' => ∃ (b : Bool), (Drawn q xs st st') ∧ (b = false → 2 ≤ d) ∧ (fr.env 0 = .pointer (some ⟨q, 0, none⟩)) ∧ (fr.env 1 = .int .i64 (d : Nat)) ∧ (fr.env 2 = .bool g) ∧ (fr.env 6 = .pointer (some ⟨6, 0, some 1⟩)) ∧ (fr.env 13 = .bool b) ∧ ((fr.loc 6).1 = 1 ∧ (fr.loc 6).2.length = 4) ∧ ((fr.loc 7).1 = 0)) ?_ ?_
  · by_cases h2 : d < 2
    · have c1 : decide ((d : Int) < 2) = true := by simp; omega
      repeat (first | (refine W_reg rfl fun G K hG hK => ?_; simp (disch := omega) only [go_sem, ↓reduceIte, Nat.reduceEqDiff, Nat.reduceAdd, Nat.reduceLeDiff, hG, c1]; refine hK _ _ ?_; clear hK K hG G) | (refine W_end rfl fun G K hG hK => ?_; simp (disch := omega) only [go_sem, ↓reduceIte, Nat.reduceEqDiff, Nat.reduceAdd, Nat.reduceLeDiff, hG, c1]; refine hK _ _ ?_; clear hK K hG G; repeat (first | refine thenI ?_ | refine thenE ?_ | refine thenR ?_ | refine inBI ?_ | refine inBR ?_ | refine inBS ?_ | refine inBN (by decide) ?_)) | refine W_seqS ?_ | refine W_seqC ?_ | refine W_seqB ?_ | refine W_block ?_ | (refine W_skip ?_; repeat (first | refine thenI ?_ | refine thenE ?_ | refine thenR ?_ | refine inBI ?_ | refine inBR ?_ | refine inBS ?_ | refine inBN (by decide) ?_)) | (refine W_condT ?hc ?_; (case hc => (simp (disch := omega) only [go_sem, ↓reduceIte, Nat.reduceEqDiff, Nat.reduceAdd, Nat.reduceLeDiff, c1]; done))) | (refine W_condF ?hc ?_; (case hc => (simp (disch := omega) only [go_sem, ↓reduceIte, Nat.reduceEqDiff, Nat.reduceAdd, Nat.reduceLeDiff, c1]; done))))
      exact ⟨true, .refl hq, fun h => (by cases h), (by (simp (disch := omega) only [go_sem, ↓reduceIte, Nat.reduceEqDiff, Nat.reduceAdd, Nat.reduceLeDiff]); try rfl), (by (simp (disch := omega) only [go_sem, ↓reduceIte, Nat.reduceEqDiff, Nat.reduceAdd, Nat.reduceLeDiff]); try rfl), (by (simp (disch := omega) only [go_sem, ↓reduceIte, Nat.reduceEqDiff, Nat.reduceAdd, Nat.reduceLeDiff]); try rfl), (by (simp (disch := omega) only [go_sem, ↓reduceIte, Nat.reduceEqDiff, Nat.reduceAdd, Nat.reduceLeDiff]); try rfl), (by (simp (disch := omega) only [go_sem, ↓reduceIte, Nat.reduceEqDiff, Nat.reduceAdd, Nat.reduceLeDiff]); try rfl), ⟨(by (simp (disch := omega) only [go_sem, ↓reduceIte, Nat.reduceEqDiff, Nat.reduceAdd, Nat.reduceLeDiff]); try rfl), (by (simp (disch := omega) only [go_sem, ↓reduceIte, Nat.reduceEqDiff, Nat.reduceAdd, Nat.reduceLeDiff]); try rfl)⟩, (by (simp (disch := omega) only [go_sem, ↓reduceIte, Nat.reduceEqDiff, Nat.reduceAdd, Nat.reduceLeDiff]); try rfl)⟩
    · have c1 : decide ((d : Int) < 2) = false := by simp; omega
      refine W_end rfl fun G K hG hK => ?_; simp (disch := omega) only [go_sem, ↓reduceIte, Nat.reduceEqDiff, Nat.reduceAdd, Nat.reduceLeDiff, hG, c1]
      refine w_call (l1Once_ok q xs st 4 (by omega) (by omega) hq) (by simp (disch := omega) only [go_sem, ↓reduceIte, Nat.reduceEqDiff]) ?hl ?_
      case hl => first | rfl | (simp only [go_sem, List.all_cons, List.all_nil, Bool.not_false, Bool.and_self]; done)
      rintro r_ sa ⟨⟨b, rfl⟩, hd, hl⟩; refine ⟨fun e => (by cases e), ?_⟩
      simp (disch := omega) only [go_sem, ↓reduceIte, Nat.reduceEqDiff, Nat.reduceAdd, Nat.reduceLeDiff, hG]; refine hK _ _ ?_; clear hK K hG G; repeat (first | refine thenI ?_ | refine thenE ?_ | refine thenR ?_ | refine inBI ?_ | refine inBR ?_ | refine inBS ?_ | refine inBN (by decide) ?_)
      exact ⟨b, hd, fun _ => (by omega), (by (simp (disch := omega) only [go_sem, ↓reduceIte, Nat.reduceEqDiff, Nat.reduceAdd, Nat.reduceLeDiff]); try rfl), (by (simp (disch := omega) only [go_sem, ↓reduceIte, Nat.reduceEqDiff, Nat.reduceAdd, Nat.reduceLeDiff]); try rfl), (by (simp (disch := omega) only [go_sem, ↓reduceIte, Nat.reduceEqDiff, Nat.reduceAdd, Nat.reduceLeDiff]); try rfl), (by (simp (disch := omega) only [go_sem, ↓reduceIte, Nat.reduceEqDiff, Nat.reduceAdd, Nat.reduceLeDiff]); try rfl), (by (simp (disch := omega) only [go_sem, ↓reduceIte, Nat.reduceEqDiff, Nat.reduceAdd, Nat.reduceLeDiff]); try rfl), ⟨(by (simp (disch := omega) only [go_sem, ↓reduceIte, Nat.reduceEqDiff, Nat.reduceAdd, Nat.reduceLeDiff]); try rfl), (by (simp (disch := omega) only [go_sem, ↓reduceIte, Nat.reduceEqDiff, Nat.reduceAdd, Nat.reduceLeDiff]); try rfl)⟩, (by (simp (disch := omega) only [go_sem, ↓reduceIte, Nat.reduceEqDiff, Nat.reduceAdd, Nat.reduceLeDiff]); try rfl)⟩
  rintro ⟨env, loc⟩ st' ⟨b, hdr, hb, e0, e1, e2, e6, e13, ⟨l6, l6'⟩, l7⟩
  simp only at e0 e1 e2 e6 e13 l6 l6' l7
  cases b with
  | true =>
    repeat (first | (refine W_reg rfl fun G K hG hK => ?_; simp (disch := omega) only [go_sem, ↓reduceIte, Nat.reduceEqDiff, Nat.reduceAdd, Nat.reduceLeDiff, hG, e0, e1, e2, e6, e13, l6, l6', l7]; refine hK _ _ ?_; clear hK K hG G) | (refine W_end rfl fun G K hG hK => ?_; simp (disch := omega) only [go_sem, ↓reduceIte, Nat.reduceEqDiff, Nat.reduceAdd, Nat.reduceLeDiff, hG, e0, e1, e2, e6, e13, l6, l6', l7]; refine hK _ _ ?_; clear hK K hG G; repeat (first | refine thenI ?_ | refine thenE ?_ | refine thenR ?_ | refine inBI ?_ | refine inBR ?_ | refine inBS ?_ | refine inBN (by decide) ?_)) | refine W_seqS ?_ | refine W_seqC ?_ | refine W_seqB ?_ | refine W_block ?_ | (refine W_skip ?_; repeat (first | refine thenI ?_ | refine thenE ?_ | refine thenR ?_ | refine inBI ?_ | refine inBR ?_ | refine inBS ?_ | refine inBN (by decide) ?_)) | (refine W_condT ?hc ?_; (case hc => (simp (disch := omega) only [go_sem, ↓reduceIte, Nat.reduceEqDiff, Nat.reduceAdd, Nat.reduceLeDiff, e0, e1, e2, e6, e13, l6, l6', l7]; done))) | (refine W_condF ?hc ?_; (case hc => (simp (disch := omega) only [go_sem, ↓reduceIte, Nat.reduceEqDiff, Nat.reduceAdd, Nat.reduceLeDiff, e0, e1, e2, e6, e13, l6, l6', l7]; done))))
    refine W_seq ?_
    refine W_to (fun fr st' => ∃ (b : Bool), (Drawn q xs st st') ∧ (fr.env 0 = .pointer (some ⟨q, 0, none⟩)) ∧ (fr.env 6 = .pointer (some ⟨6, 0, some 1⟩)) ∧ (fr.env 19 = .bool b) ∧ ((fr.loc 6).1 = 1 ∧ (fr.loc 6).2.length = 4)) ?_ ?_
    · cases g with
      | true =>
        repeat (first | (refine W_reg rfl fun G K hG hK => ?_; simp (disch := omega) only [go_sem, ↓reduceIte, Nat.reduceEqDiff, Nat.reduceAdd, Nat.reduceLeDiff, hG, e0, e1, e2, e6, e13, l6, l6', l7]; refine hK _ _ ?_; clear hK K hG G) | (refine W_end rfl fun G K hG hK => ?_; simp (disch := omega) only [go_sem, ↓reduceIte, Nat.reduceEqDiff, Nat.reduceAdd, Nat.reduceLeDiff, hG, e0, e1, e2, e6, e13, l6, l6', l7]; refine hK _ _ ?_; clear hK K hG G; repeat (first | refine thenI ?_ | refine thenE ?_ | refine thenR ?_ | refine inBI ?_ | refine inBR ?_ | refine inBS ?_ | refine inBN (by decide) ?_)) | refine W_seqS ?_ | refine W_seqC ?_ | refine W_seqB ?_ | refine W_block ?_ | (refine W_skip ?_; repeat (first | refine thenI ?_ | refine thenE ?_ | refine thenR ?_ | refine inBI ?_ | refine inBR ?_ | refine inBS ?_ | refine inBN (by decide) ?_)) | (refine W_condT ?hc ?_; (case hc => (simp (disch := omega) only [go_sem, ↓reduceIte, Nat.reduceEqDiff, Nat.reduceAdd, Nat.reduceLeDiff, e0, e1, e2, e6, e13, l6, l6', l7]; done))) | (refine W_condF ?hc ?_; (case hc => (simp (disch := omega) only [go_sem, ↓reduceIte, Nat.reduceEqDiff, Nat.reduceAdd, Nat.reduceLeDiff, e0, e1, e2, e6, e13, l6, l6', l7]; done))))
        exact ⟨false, hdr, (by (simp (disch := omega) only [go_sem, ↓reduceIte, Nat.reduceEqDiff, Nat.reduceAdd, Nat.reduceLeDiff, e0, e1, e2, e6, e13, l6, l6', l7]); try rfl), (by (simp (disch := omega) only [go_sem, ↓reduceIte, Nat.reduceEqDiff, Nat.reduceAdd, Nat.reduceLeDiff, e0, e1, e2, e6, e13, l6, l6', l7]); try rfl), (by (simp (disch := omega) only [go_sem, ↓reduceIte, Nat.reduceEqDiff, Nat.reduceAdd, Nat.reduceLeDiff, e0, e1, e2, e6, e13, l6, l6', l7]); try rfl), ⟨(by (simp (disch := omega) only [go_sem, ↓reduceIte, Nat.reduceEqDiff, Nat.reduceAdd, Nat.reduceLeDiff, e0, e1, e2, e6, e13, l6, l6', l7]); try rfl), (by (simp (disch := omega) only [go_sem, ↓reduceIte, Nat.reduceEqDiff, Nat.reduceAdd, Nat.reduceLeDiff, e0, e1, e2, e6, e13, l6, l6', l7]); try rfl)⟩⟩
      | false =>
        refine W_end rfl fun G K hG hK => ?_; simp (disch := omega) only [go_sem, ↓reduceIte, Nat.reduceEqDiff, Nat.reduceAdd, Nat.reduceLeDiff, hG, e0, e1, e2, e6, e13, l6, l6', l7]
        refine w_call (l1Once_ok q xs _ 2 (by omega) (by omega) hdr.cur) (by simp (disch := omega) only [go_sem, ↓reduceIte, Nat.reduceEqDiff, e0, e1, e2, e6, e13, l6, l6', l7]) ?hl ?_
        case hl => first | rfl | (simp only [go_sem, List.all_cons, List.all_nil, Bool.not_false, Bool.and_self, e0, e1, e2, e6, e13, l6, l6', l7]; done)
        rintro r_ sa ⟨⟨b, rfl⟩, hd, hl⟩; refine ⟨fun e => (by cases e), ?_⟩
        simp (disch := omega) only [go_sem, ↓reduceIte, Nat.reduceEqDiff, Nat.reduceAdd, Nat.reduceLeDiff, hG, e0, e1, e2, e6, e13, l6, l6', l7]; refine hK _ _ ?_; clear hK K hG G; repeat (first | refine thenI ?_ | refine thenE ?_ | refine thenR ?_ | refine inBI ?_ | refine inBR ?_ | refine inBS ?_ | refine inBN (by decide) ?_)
        exact ⟨b, hdr.trans hd, (by (simp (disch := omega) only [go_sem, ↓reduceIte, Nat.reduceEqDiff, Nat.reduceAdd, Nat.reduceLeDiff, e0, e1, e2, e6, e13, l6, l6', l7]); try rfl), (by (simp (disch := omega) only [go_sem, ↓reduceIte, Nat.reduceEqDiff, Nat.reduceAdd, Nat.reduceLeDiff, e0, e1, e2, e6, e13, l6, l6', l7]); try rfl), (by (simp (disch := omega) only [go_sem, ↓reduceIte, Nat.reduceEqDiff, Nat.reduceAdd, Nat.reduceLeDiff, e0, e1, e2, e6, e13, l6, l6', l7]); try rfl), ⟨(by (simp (disch := omega) only [go_sem, ↓reduceIte, Nat.reduceEqDiff, Nat.reduceAdd, Nat.reduceLeDiff, e0, e1, e2, e6, e13, l6, l6', l7]); try rfl), (by (simp (disch := omega) only [go_sem, ↓reduceIte, Nat.reduceEqDiff, Nat.reduceAdd, Nat.reduceLeDiff, e0, e1, e2, e6, e13, l6, l6', l7]); try rfl)⟩⟩
    clear e0 e1 e2 e6 e13 l6 l6' l7
    rintro ⟨env, loc⟩ st' ⟨b, hdr2, e0, e6, e19, ⟨l6, l6'⟩⟩
    simp only at e0 e6 e19 l6 l6'
    cases b with
    | true =>
      repeat (first | (refine W_reg rfl fun G K hG hK => ?_; simp (disch := omega) only [go_sem, ↓reduceIte, Nat.reduceEqDiff, Nat.reduceAdd, Nat.reduceLeDiff, hG, e0, e6, e19, l6, l6']; refine hK _ _ ?_; clear hK K hG G) | (refine W_end rfl fun G K hG hK => ?_; simp (disch := omega) only [go_sem, ↓reduceIte, Nat.reduceEqDiff, Nat.reduceAdd, Nat.reduceLeDiff, hG, e0, e6, e19, l6, l6']; refine hK _ _ ?_; clear hK K hG G; repeat (first | refine thenI ?_ | refine thenE ?_ | refine thenR ?_ | refine inBI ?_ | refine inBR ?_ | refine inBS ?_ | refine inBN (by decide) ?_)) | refine W_seqS ?_ | refine W_seqC ?_ | refine W_seqB ?_ | refine W_block ?_ | (refine W_skip ?_; repeat (first | refine thenI ?_ | refine thenE ?_ | refine thenR ?_ | refine inBI ?_ | refine inBR ?_ | refine inBS ?_ | refine inBN (by decide) ?_)) | (refine W_condT ?hc ?_; (case hc => (simp (disch := omega) only [go_sem, ↓reduceIte, Nat.reduceEqDiff, Nat.reduceAdd, Nat.reduceLeDiff, e0, e6, e19, l6, l6']; done))) | (refine W_condF ?hc ?_; (case hc => (simp (disch := omega) only [go_sem, ↓reduceIte, Nat.reduceEqDiff, Nat.reduceAdd, Nat.reduceLeDiff, e0, e6, e19, l6, l6']; done))))
      (repeat (first | refine W_seqS ?_ | refine W_seqC ?_ | refine W_seqB ?_ | refine W_block ?_)); refine W_reg rfl fun G K hG hK => ?_; simp (disch := omega) only [go_sem, ↓reduceIte, Nat.reduceEqDiff, Nat.reduceAdd, Nat.reduceLeDiff, hG, e0, e6, e19, l6, l6', bsL, fillK_cons, fillK_nil, Nat.reduceMul]
      refine w_call (l1Pick_lit q xs st' _ _ 3 hdr2.cur rfl (by simp) (by simp)) (by simp (disch := omega) only [go_sem, ↓reduceIte, Nat.reduceEqDiff, e0, e6, e19, l6, l6']) ?hl ?_
      case hl => first | rfl | (simp only [go_sem, List.all_cons, List.all_nil, Bool.not_false, Bool.and_self, e0, e6, e19, l6, l6']; done)
      rintro r_ sa ⟨⟨w, rfl, hw⟩, hd, hl⟩; refine ⟨fun e => (by cases e), ?_⟩
      simp (disch := omega) only [go_sem, ↓reduceIte, Nat.reduceEqDiff, Nat.reduceAdd, Nat.reduceLeDiff, e0, e6, e19, l6, l6']
      refine w_call (l3Var_ok w sa) (by simp (disch := omega) only [go_sem, ↓reduceIte, Nat.reduceEqDiff, e0, e6, e19, l6, l6']) ?hl ?_
      case hl => first | rfl | (simp only [go_sem, List.all_cons, List.all_nil, Bool.not_false, Bool.and_self, e0, e6, e19, l6, l6']; done)
      rintro r_ sb ⟨rfl, rfl⟩; refine ⟨fun e => (by cases e), ?_⟩
      simp (disch := omega) only [go_sem, ↓reduceIte, Nat.reduceEqDiff, Nat.reduceAdd, Nat.reduceLeDiff, hG, e0, e6, e19, l6, l6']; refine hK _ _ ?_; clear hK K hG G; repeat (first | refine thenI ?_ | refine thenE ?_ | refine thenR ?_ | refine inBI ?_ | refine inBR ?_ | refine inBS ?_ | refine inBN (by decide) ?_)
      refine W_ret ?_; try (repeat (first | refine thenI ?_ | refine thenE ?_ | refine thenR ?_ | refine inBI ?_ | refine inBR ?_ | refine inBS ?_ | refine inBN (by decide) ?_))
      refine finC (.inl rfl) (by (simp (disch := omega) only [go_sem, ↓reduceIte, Nat.reduceEqDiff, Nat.reduceAdd, Nat.reduceLeDiff, e0, e6, e19, l6, l6']); try rfl) ⟨hdr2.trans (.pre (Ext.app _ _) hd), .mk 1 0 w [], [_, _, _, _], [], rfl, .nil _ _ _, .nil _, leaf_ok (size_of_mem hw rfl) (plain_var w)⟩
    | false =>
      repeat (first | (refine W_reg rfl fun G K hG hK => ?_; simp (disch := omega) only [go_sem, ↓reduceIte, Nat.reduceEqDiff, Nat.reduceAdd, Nat.reduceLeDiff, hG, e0, e6, e19, l6, l6']; refine hK _ _ ?_; clear hK K hG G) | (refine W_end rfl fun G K hG hK => ?_; simp (disch := omega) only [go_sem, ↓reduceIte, Nat.reduceEqDiff, Nat.reduceAdd, Nat.reduceLeDiff, hG, e0, e6, e19, l6, l6']; refine hK _ _ ?_; clear hK K hG G; repeat (first | refine thenI ?_ | refine thenE ?_ | refine thenR ?_ | refine inBI ?_ | refine inBR ?_ | refine inBS ?_ | refine inBN (by decide) ?_)) | refine W_seqS ?_ | refine W_seqC ?_ | refine W_seqB ?_ | refine W_block ?_ | (refine W_skip ?_; repeat (first | refine thenI ?_ | refine thenE ?_ | refine thenR ?_ | refine inBI ?_ | refine inBR ?_ | refine inBS ?_ | refine inBN (by decide) ?_)) | (refine W_condT ?hc ?_; (case hc => (simp (disch := omega) only [go_sem, ↓reduceIte, Nat.reduceEqDiff, Nat.reduceAdd, Nat.reduceLeDiff, e0, e6, e19, l6, l6']; done))) | (refine W_condF ?hc ?_; (case hc => (simp (disch := omega) only [go_sem, ↓reduceIte, Nat.reduceEqDiff, Nat.reduceAdd, Nat.reduceLeDiff, e0, e6, e19, l6, l6']; done))))
      (repeat (first | refine W_seqS ?_ | refine W_seqC ?_ | refine W_seqB ?_ | refine W_block ?_)); refine W_reg rfl fun G K hG hK => ?_; simp (disch := omega) only [go_sem, ↓reduceIte, Nat.reduceEqDiff, Nat.reduceAdd, Nat.reduceLeDiff, hG, e0, e6, e19, l6, l6']
      refine w_call (l1Once_ok q xs _ 2 (by omega) (by omega) hdr2.cur) (by simp (disch := omega) only [go_sem, ↓reduceIte, Nat.reduceEqDiff, e0, e6, e19, l6, l6']) ?hl ?_
      case hl => first | rfl | (simp only [go_sem, List.all_cons, List.all_nil, Bool.not_false, Bool.and_self, e0, e6, e19, l6, l6']; done)
      rintro r_ sa ⟨⟨b, rfl⟩, hd, hl⟩; refine ⟨fun e => (by cases e), ?_⟩
      simp (disch := omega) only [go_sem, ↓reduceIte, Nat.reduceEqDiff, Nat.reduceAdd, Nat.reduceLeDiff, hG, e0, e6, e19, l6, l6']; refine hK _ _ ?_; clear hK K hG G; repeat (first | refine thenI ?_ | refine thenE ?_ | refine thenR ?_ | refine inBI ?_ | refine inBR ?_ | refine inBS ?_ | refine inBN (by decide) ?_)
      have hdr3 := hdr2.trans hd
      cases b with
      | true =>
        repeat (first | (refine W_reg rfl fun G K hG hK => ?_; simp (disch := omega) only [go_sem, ↓reduceIte, Nat.reduceEqDiff, Nat.reduceAdd, Nat.reduceLeDiff, hG, e0, e6, e19, l6, l6']; refine hK _ _ ?_; clear hK K hG G) | (refine W_end rfl fun G K hG hK => ?_; simp (disch := omega) only [go_sem, ↓reduceIte, Nat.reduceEqDiff, Nat.reduceAdd, Nat.reduceLeDiff, hG, e0, e6, e19, l6, l6']; refine hK _ _ ?_; clear hK K hG G; repeat (first | refine thenI ?_ | refine thenE ?_ | refine thenR ?_ | refine inBI ?_ | refine inBR ?_ | refine inBS ?_ | refine inBN (by decide) ?_)) | refine W_seqS ?_ | refine W_seqC ?_ | refine W_seqB ?_ | refine W_block ?_ | (refine W_skip ?_; repeat (first | refine thenI ?_ | refine thenE ?_ | refine thenR ?_ | refine inBI ?_ | refine inBR ?_ | refine inBS ?_ | refine inBN (by decide) ?_)) | (refine W_condT ?hc ?_; (case hc => (simp (disch := omega) only [go_sem, ↓reduceIte, Nat.reduceEqDiff, Nat.reduceAdd, Nat.reduceLeDiff, e0, e6, e19, l6, l6']; done))) | (refine W_condF ?hc ?_; (case hc => (simp (disch := omega) only [go_sem, ↓reduceIte, Nat.reduceEqDiff, Nat.reduceAdd, Nat.reduceLeDiff, e0, e6, e19, l6, l6']; done))))
        (repeat (first | refine W_seqS ?_ | refine W_seqC ?_ | refine W_seqB ?_ | refine W_block ?_)); refine W_reg rfl fun G K hG hK => ?_; simp (disch := omega) only [go_sem, ↓reduceIte, Nat.reduceEqDiff, Nat.reduceAdd, Nat.reduceLeDiff, hG, e0, e6, e19, l6, l6']
        refine w_call (l1Below_ok q xs _ 4 (by omega) (by omega) hdr3.cur) (by simp (disch := omega) only [go_sem, ↓reduceIte, Nat.reduceEqDiff, e0, e6, e19, l6, l6']) ?hl ?_
        case hl => first | rfl | (simp only [go_sem, List.all_cons, List.all_nil, Bool.not_false, Bool.and_self, e0, e6, e19, l6, l6']; done)
        rintro r_ sb ⟨⟨x, rfl, hx0, hx1⟩, hd2, hl⟩; refine ⟨fun e => (by cases e), ?_⟩
        simp (disch := omega) only [go_sem, ↓reduceIte, Nat.reduceEqDiff, Nat.reduceAdd, Nat.reduceLeDiff, e0, e6, e19, l6, l6']
        refine w_call (l3Word_ok x sb) (by simp (disch := omega) only [go_sem, ↓reduceIte, Nat.reduceEqDiff, e0, e6, e19, l6, l6']) ?hl ?_
        case hl => first | rfl | (simp only [go_sem, List.all_cons, List.all_nil, Bool.not_false, Bool.and_self, e0, e6, e19, l6, l6']; done)
        rintro r_ sc ⟨rfl, rfl⟩; refine ⟨fun e => (by cases e), ?_⟩
        simp (disch := omega) only [go_sem, ↓reduceIte, Nat.reduceEqDiff, Nat.reduceAdd, Nat.reduceLeDiff, hG, e0, e6, e19, l6, l6']; refine hK _ _ ?_; clear hK K hG G; repeat (first | refine thenI ?_ | refine thenE ?_ | refine thenR ?_ | refine inBI ?_ | refine inBR ?_ | refine inBS ?_ | refine inBN (by decide) ?_)
        refine W_ret ?_; try (repeat (first | refine thenI ?_ | refine thenE ?_ | refine thenR ?_ | refine inBI ?_ | refine inBR ?_ | refine inBS ?_ | refine inBN (by decide) ?_))
        refine finC (.inl rfl) (by (simp (disch := omega) only [go_sem, ↓reduceIte, Nat.reduceEqDiff, Nat.reduceAdd, Nat.reduceLeDiff, e0, e6, e19, l6, l6']); try rfl) ⟨hdr3.trans hd2, .mk 3 x ⟨#[]⟩ [], [_, _, _, _], [], rfl, .nil _ _ _, .nil _, leaf_ok (by decide) (plain_word x _)⟩
      | false =>
        repeat (first | (refine W_reg rfl fun G K hG hK => ?_; simp (disch := omega) only [go_sem, ↓reduceIte, Nat.reduceEqDiff, Nat.reduceAdd, Nat.reduceLeDiff, hG, e0, e6, e19, l6, l6']; refine hK _ _ ?_; clear hK K hG G) | (refine W_end rfl fun G K hG hK => ?_; simp (disch := omega) only [go_sem, ↓reduceIte, Nat.reduceEqDiff, Nat.reduceAdd, Nat.reduceLeDiff, hG, e0, e6, e19, l6, l6']; refine hK _ _ ?_; clear hK K hG G; repeat (first | refine thenI ?_ | refine thenE ?_ | refine thenR ?_ | refine inBI ?_ | refine inBR ?_ | refine inBS ?_ | refine inBN (by decide) ?_)) | refine W_seqS ?_ | refine W_seqC ?_ | refine W_seqB ?_ | refine W_block ?_ | (refine W_skip ?_; repeat (first | refine thenI ?_ | refine thenE ?_ | refine thenR ?_ | refine inBI ?_ | refine inBR ?_ | refine inBS ?_ | refine inBN (by decide) ?_)) | (refine W_condT ?hc ?_; (case hc => (simp (disch := omega) only [go_sem, ↓reduceIte, Nat.reduceEqDiff, Nat.reduceAdd, Nat.reduceLeDiff, e0, e6, e19, l6, l6']; done))) | (refine W_condF ?hc ?_; (case hc => (simp (disch := omega) only [go_sem, ↓reduceIte, Nat.reduceEqDiff, Nat.reduceAdd, Nat.reduceLeDiff, e0, e6, e19, l6, l6']; done))))
        (repeat (first | refine W_seqS ?_ | refine W_seqC ?_ | refine W_seqB ?_ | refine W_block ?_)); refine W_reg rfl fun G K hG hK => ?_; simp (disch := omega) only [go_sem, ↓reduceIte, Nat.reduceEqDiff, Nat.reduceAdd, Nat.reduceLeDiff, hG, e0, e6, e19, l6, l6', bsL, fillK_cons, fillK_nil, Nat.reduceMul]
        refine w_call (l1Pick_lit q xs sa _ _ 2 hdr3.cur rfl (by simp) (by simp)) (by simp (disch := omega) only [go_sem, ↓reduceIte, Nat.reduceEqDiff, e0, e6, e19, l6, l6']) ?hl ?_
        case hl => first | rfl | (simp only [go_sem, List.all_cons, List.all_nil, Bool.not_false, Bool.and_self, e0, e6, e19, l6, l6']; done)
        rintro r_ sb ⟨⟨w, rfl, hw⟩, hd2, hl2⟩; refine ⟨fun e => (by cases e), ?_⟩
        simp (disch := omega) only [go_sem, ↓reduceIte, Nat.reduceEqDiff, Nat.reduceAdd, Nat.reduceLeDiff, e0, e6, e19, l6, l6']
        refine w_call (l3App_ok w (.slice (some ⟨sb.length, 0, none⟩) 0 0) (sb ++ [⟨[], 26, 0⟩]) rfl rfl rfl) (by simp (disch := omega) only [go_sem, ↓reduceIte, Nat.reduceEqDiff, e0, e6, e19, l6, l6']) ?hl ?_
        case hl => first | rfl | (simp only [go_sem, List.all_cons, List.all_nil, Bool.not_false, Bool.and_self, e0, e6, e19, l6, l6']; done)
        rintro r_ sc ⟨rfl, rfl⟩; refine ⟨fun e => (by cases e), ?_⟩
        simp (disch := omega) only [go_sem, ↓reduceIte, Nat.reduceEqDiff, Nat.reduceAdd, Nat.reduceLeDiff, hG, e0, e6, e19, l6, l6']; refine hK _ _ ?_; clear hK K hG G; repeat (first | refine thenI ?_ | refine thenE ?_ | refine thenR ?_ | refine inBI ?_ | refine inBR ?_ | refine inBS ?_ | refine inBN (by decide) ?_)
        refine W_ret ?_; try (repeat (first | refine thenI ?_ | refine thenE ?_ | refine thenR ?_ | refine inBI ?_ | refine inBR ?_ | refine inBS ?_ | refine inBN (by decide) ?_))
        refine finC (.inl rfl) (by (simp (disch := omega) only [go_sem, ↓reduceIte, Nat.reduceEqDiff, Nat.reduceAdd, Nat.reduceLeDiff, e0, e6, e19, l6, l6']); try rfl) ⟨(hdr3.trans (.pre (Ext.app _ _) hd2)).ext2 (Ext.app _ _), .mk 2 0 w [], [_, _, _, _], [sb.length], rfl, Own.close _ _ _ (.inr ⟨sb.length, 0, [], [], rfl, by simp, .nil, rfl⟩), .one (Nat.le_trans hdr3.away.1 (by rw [hl2]; omega)), leaf_ok (size_of_mem hw rfl) (plain_app 0 w [] (fun a ha => by cases ha))⟩
  | false =>
    obtain ⟨e, rfl⟩ : ∃ e, d = e + 1 := ⟨d - 1, by have := hb rfl; omega⟩
    have hsub : ((e + 1 : Nat) : Int) - 1 = (e : Nat) := by omega
    repeat (first | (refine W_reg rfl fun G K hG hK => ?_; simp (disch := omega) only [go_sem, ↓reduceIte, Nat.reduceEqDiff, Nat.reduceAdd, Nat.reduceLeDiff, hG, e0, e6, l6, l6', e1, e2, e13, l7]; refine hK _ _ ?_; clear hK K hG G) | (refine W_end rfl fun G K hG hK => ?_; simp (disch := omega) only [go_sem, ↓reduceIte, Nat.reduceEqDiff, Nat.reduceAdd, Nat.reduceLeDiff, hG, e0, e6, l6, l6', e1, e2, e13, l7]; refine hK _ _ ?_; clear hK K hG G; repeat (first | refine thenI ?_ | refine thenE ?_ | refine thenR ?_ | refine inBI ?_ | refine inBR ?_ | refine inBS ?_ | refine inBN (by decide) ?_)) | refine W_seqS ?_ | refine W_seqC ?_ | refine W_seqB ?_ | refine W_block ?_ | (refine W_skip ?_; repeat (first | refine thenI ?_ | refine thenE ?_ | refine thenR ?_ | refine inBI ?_ | refine inBR ?_ | refine inBS ?_ | refine inBN (by decide) ?_)) | (refine W_condT ?hc ?_; (case hc => (simp (disch := omega) only [go_sem, ↓reduceIte, Nat.reduceEqDiff, Nat.reduceAdd, Nat.reduceLeDiff, e0, e6, l6, l6', e1, e2, e13, l7]; done))) | (refine W_condF ?hc ?_; (case hc => (simp (disch := omega) only [go_sem, ↓reduceIte, Nat.reduceEqDiff, Nat.reduceAdd, Nat.reduceLeDiff, e0, e6, l6, l6', e1, e2, e13, l7]; done))))
    (repeat (first | refine W_seqS ?_ | refine W_seqC ?_ | refine W_seqB ?_ | refine W_block ?_)); refine W_reg rfl fun G K hG hK => ?_; simp (disch := omega) only [go_sem, ↓reduceIte, Nat.reduceEqDiff, Nat.reduceAdd, Nat.reduceLeDiff, hG, e0, e6, l6, l6', e1, e2, e13, l7]
    refine w_call (l1Once_ok q xs _ 3 (by omega) (by omega) hdr.cur) (by simp (disch := omega) only [go_sem, ↓reduceIte, Nat.reduceEqDiff, e0, e6, l6, l6', e1, e2, e13, l7]) ?hl ?_
    case hl => first | rfl | (simp only [go_sem, List.all_cons, List.all_nil, Bool.not_false, Bool.and_self, e0, e6, l6, l6', e1, e2, e13, l7]; done)
    rintro r_ sa ⟨⟨b, rfl⟩, hd, hl⟩; refine ⟨fun e => (by cases e), ?_⟩
    simp (disch := omega) only [go_sem, ↓reduceIte, Nat.reduceEqDiff, Nat.reduceAdd, Nat.reduceLeDiff, hG, e0, e6, l6, l6', e1, e2, e13, l7]; refine hK _ _ ?_; clear hK K hG G; repeat (first | refine thenI ?_ | refine thenE ?_ | refine thenR ?_ | refine inBI ?_ | refine inBR ?_ | refine inBS ?_ | refine inBN (by decide) ?_)
    have hdr1 := hdr.trans hd
    cases b with
    | true =>
      repeat (first | (refine W_reg rfl fun G K hG hK => ?_; simp (disch := omega) only [go_sem, ↓reduceIte, Nat.reduceEqDiff, Nat.reduceAdd, Nat.reduceLeDiff, hG, e0, e6, l6, l6', e1, e2, e13, l7]; refine hK _ _ ?_; clear hK K hG G) | (refine W_end rfl fun G K hG hK => ?_; simp (disch := omega) only [go_sem, ↓reduceIte, Nat.reduceEqDiff, Nat.reduceAdd, Nat.reduceLeDiff, hG, e0, e6, l6, l6', e1, e2, e13, l7]; refine hK _ _ ?_; clear hK K hG G; repeat (first | refine thenI ?_ | refine thenE ?_ | refine thenR ?_ | refine inBI ?_ | refine inBR ?_ | refine inBS ?_ | refine inBN (by decide) ?_)) | refine W_seqS ?_ | refine W_seqC ?_ | refine W_seqB ?_ | refine W_block ?_ | (refine W_skip ?_; repeat (first | refine thenI ?_ | refine thenE ?_ | refine thenR ?_ | refine inBI ?_ | refine inBR ?_ | refine inBS ?_ | refine inBN (by decide) ?_)) | (refine W_condT ?hc ?_; (case hc => (simp (disch := omega) only [go_sem, ↓reduceIte, Nat.reduceEqDiff, Nat.reduceAdd, Nat.reduceLeDiff, e0, e6, l6, l6', e1, e2, e13, l7]; done))) | (refine W_condF ?hc ?_; (case hc => (simp (disch := omega) only [go_sem, ↓reduceIte, Nat.reduceEqDiff, Nat.reduceAdd, Nat.reduceLeDiff, e0, e6, l6, l6', e1, e2, e13, l7]; done))))
      (repeat (first | refine W_seqS ?_ | refine W_seqC ?_ | refine W_seqB ?_ | refine W_block ?_)); refine W_reg rfl fun G K hG hK => ?_; simp (disch := omega) only [go_sem, ↓reduceIte, Nat.reduceEqDiff, Nat.reduceAdd, Nat.reduceLeDiff, hG, e0, e6, l6, l6', e1, e2, e13, l7, hsub]
      refine w_call (ih e rfl sa hdr1.cur) (by simp (disch := omega) only [go_sem, ↓reduceIte, Nat.reduceEqDiff, e0, e6, l6, l6', e1, e2, e13, l7]) ?hl ?_
      case hl => first | rfl | (simp only [go_sem, List.all_cons, List.all_nil, Bool.not_false, Bool.and_self, e0, e6, l6, l6', e1, e2, e13, l7]; done)
      rintro r_ sb ⟨hd2, t, ds, L, rfl, ho, hf, hp⟩; refine ⟨fun e => (by cases e), ?_⟩
      simp (disch := omega) only [go_sem, ↓reduceIte, Nat.reduceEqDiff, Nat.reduceAdd, Nat.reduceLeDiff, e0, e6, l6, l6', e1, e2, e13, l7]
      refine w_call (l3One_ok ⟨#[103]⟩ t sb ds L ho) (by simp (disch := omega) only [go_sem, ↓reduceIte, Nat.reduceEqDiff, e0, e6, l6, l6', e1, e2, e13, l7]) ?hl ?_
      case hl => first | rfl | (simp only [go_sem, List.all_cons, List.all_nil, Bool.not_false, Bool.and_self, e0, e6, l6, l6', e1, e2, e13, l7]; done)
      rintro r_ sc ⟨x1, es, rfl, ho2⟩; refine ⟨fun e => (by cases e), ?_⟩
      obtain ⟨k1, n1, m1, s1, rfl, a1, a2, a3⟩ := ho2.args_cells
      simp (disch := omega) only [go_sem, ↓reduceIte, Nat.reduceEqDiff, Nat.reduceAdd, Nat.reduceLeDiff, hG, e0, e6, l6, l6', e1, e2, e13, l7, a1, a2, a3]; refine hK _ _ ?_; clear hK K hG G; repeat (first | refine thenI ?_ | refine thenE ?_ | refine thenR ?_ | refine inBI ?_ | refine inBR ?_ | refine inBS ?_ | refine inBN (by decide) ?_)
      refine W_ret ?_; try (repeat (first | refine thenI ?_ | refine thenE ?_ | refine thenR ?_ | refine inBI ?_ | refine inBR ?_ | refine inBS ?_ | refine inBN (by decide) ?_))
      refine finC (.inl rfl) (by (simp (disch := omega) only [go_sem, ↓reduceIte, Nat.reduceEqDiff, Nat.reduceAdd, Nat.reduceLeDiff, e0, e6, l6, l6', e1, e2, e13, l7, a1, a2, a3]); try rfl) ⟨(hdr1.trans hd2).ext2 x1, _, [_, _, _, _], _, rfl, ho2, (hf.mono hdr1.away.1).cons (Own.lt _ _ _ ho) (hdr1.trans hd2).away.1, plain_app 0 _ _ (fun a ha => by cases List.mem_singleton.1 ha; exact hp.1), ?_⟩
      have := hp.2
      have h1 : 1 ≤ 2 ^ e := Nat.one_le_two_pow
      simp only [T.wt, T.wtL, List.length_cons, List.length_nil, Nat.pow_succ]
      have h2 : (⟨#[103]⟩ : ByteArray).size = 1 := rfl
      omega
    | false =>
      repeat (first | (refine W_reg rfl fun G K hG hK => ?_; simp (disch := omega) only [go_sem, ↓reduceIte, Nat.reduceEqDiff, Nat.reduceAdd, Nat.reduceLeDiff, hG, e0, e6, l6, l6', e1, e2, e13, l7]; refine hK _ _ ?_; clear hK K hG G) | (refine W_end rfl fun G K hG hK => ?_; simp (disch := omega) only [go_sem, ↓reduceIte, Nat.reduceEqDiff, Nat.reduceAdd, Nat.reduceLeDiff, hG, e0, e6, l6, l6', e1, e2, e13, l7]; refine hK _ _ ?_; clear hK K hG G; repeat (first | refine thenI ?_ | refine thenE ?_ | refine thenR ?_ | refine inBI ?_ | refine inBR ?_ | refine inBS ?_ | refine inBN (by decide) ?_)) | refine W_seqS ?_ | refine W_seqC ?_ | refine W_seqB ?_ | refine W_block ?_ | (refine W_skip ?_; repeat (first | refine thenI ?_ | refine thenE ?_ | refine thenR ?_ | refine inBI ?_ | refine inBR ?_ | refine inBS ?_ | refine inBN (by decide) ?_)) | (refine W_condT ?hc ?_; (case hc => (simp (disch := omega) only [go_sem, ↓reduceIte, Nat.reduceEqDiff, Nat.reduceAdd, Nat.reduceLeDiff, e0, e6, l6, l6', e1, e2, e13, l7]; done))) | (refine W_condF ?hc ?_; (case hc => (simp (disch := omega) only [go_sem, ↓reduceIte, Nat.reduceEqDiff, Nat.reduceAdd, Nat.reduceLeDiff, e0, e6, l6, l6', e1, e2, e13, l7]; done))))
      (repeat (first | refine W_seqS ?_ | refine W_seqC ?_ | refine W_seqB ?_ | refine W_block ?_)); refine W_reg rfl fun G K hG hK => ?_; simp (disch := omega) only [go_sem, ↓reduceIte, Nat.reduceEqDiff, Nat.reduceAdd, Nat.reduceLeDiff, hG, e0, e6, l6, l6', e1, e2, e13, l7, hsub]
      refine w_call (ih e rfl sa hdr1.cur) (by simp (disch := omega) only [go_sem, ↓reduceIte, Nat.reduceEqDiff, e0, e6, l6, l6', e1, e2, e13, l7]) ?hl ?_
      case hl => first | rfl | (simp only [go_sem, List.all_cons, List.all_nil, Bool.not_false, Bool.and_self, e0, e6, l6, l6', e1, e2, e13, l7]; done)
      rintro r_ sb ⟨hd2, t, ds, L, rfl, ho, hf, hp⟩; refine ⟨fun e => (by cases e), ?_⟩
      obtain ⟨k1, n1, m1, s1, rfl, a1, a2, a3⟩ := ho.args_cells
      simp (disch := omega) only [go_sem, ↓reduceIte, Nat.reduceEqDiff, Nat.reduceAdd, Nat.reduceLeDiff, hG, e0, e6, l6, l6', e1, e2, e13, l7, a1, a2, a3]; refine hK _ _ ?_; clear hK K hG G; repeat (first | refine thenI ?_ | refine thenE ?_ | refine thenR ?_ | refine inBI ?_ | refine inBR ?_ | refine inBS ?_ | refine inBN (by decide) ?_)
      have hdr2 := hdr1.trans hd2
      (repeat (first | refine W_seqS ?_ | refine W_seqC ?_ | refine W_seqB ?_ | refine W_block ?_)); refine W_regL mixed [7] [] [2, 8, 9] [[(3, false), (0, false), (4, false), (5, false), (6, false), (7, false), (1, false), (2, false), (8, false), (9, false), (10, false)]] rfl (by decide +kernel) (by intro t ht; simp only [List.mem_cons, List.not_mem_nil, or_false] at ht; (rcases ht with rfl) <;> (first | rfl | (simp only [e0, e6, l6, l6', e1, e2, e13, l7]; done) | (simp only [e0, e6, l6, l6', e1, e2, e13, l7]; rfl))) fun G K hG hK => (fm_cons ?_ fm_nil)
      simp only [pickOps, List.filterMap_cons, List.filterMap_nil, List.getElem?_cons_zero, List.getElem?_cons_succ, Option.map_some]; simp (disch := omega) only [go_sem, ↓reduceIte, Nat.reduceEqDiff, Nat.reduceAdd, Nat.reduceLeDiff, hG, e0, e6, l6, l6', e1, e2, e13, l7, bsL, fillK_cons, fillK_nil, Nat.reduceMul, hsub, a1, a2, a3]
      refine w_call (l1Pick_lit q xs sb _ _ 3 hdr2.cur rfl (by simp) (by simp)) (by simp (disch := omega) only [go_sem, ↓reduceIte, Nat.reduceEqDiff, e0, e6, l6, l6', e1, e2, e13, l7]) ?hl ?_
      case hl => first | rfl | (simp only [go_sem, List.all_cons, List.all_nil, Bool.not_false, Bool.and_self, e0, e6, l6, l6', e1, e2, e13, l7]; done)
      rintro r_ sc ⟨⟨w, rfl, hw⟩, hd3, hl3⟩; refine ⟨fun e => (by cases e), ?_⟩
      simp (disch := omega) only [go_sem, ↓reduceIte, Nat.reduceEqDiff, Nat.reduceAdd, Nat.reduceLeDiff, e0, e6, l6, l6', e1, e2, e13, l7, a1, a2, a3]
      refine w_call (ih e rfl sc hd3.cur) (by simp (disch := omega) only [go_sem, ↓reduceIte, Nat.reduceEqDiff, e0, e6, l6, l6', e1, e2, e13, l7, hsub]) ?hl ?_
      case hl => first | rfl | (simp only [go_sem, List.all_cons, List.all_nil, Bool.not_false, Bool.and_self, e0, e6, l6, l6', e1, e2, e13, l7, hsub]; done)
      rintro r_ sd ⟨hd4, t2, ds2, L2, rfl, ho2, hf2, hp2⟩; refine ⟨fun e => (by cases e), ?_⟩
      have hdr4 := Drawn.pre (Ext.app _ _) (hd3.trans hd4)
      have hl0 := Nat.le_trans hdr1.away.1 hd2.away.1
      have hoA := hdr4.own ho hf (Nat.lt_of_lt_of_le hq.lt hdr1.away.1)
      refine w_call (l3Pair_ok w t t2 sd [.int .i64 k1, .int .i64 n1, .string m1, s1] ds2 L L2 hoA ho2) (by simp (disch := omega) only [go_sem, ↓reduceIte, Nat.reduceEqDiff, e0, e6, l6, l6', e1, e2, e13, l7, a1, a2, a3]) ?hl ?_
      case hl => first | rfl | (simp only [go_sem, List.all_cons, List.all_nil, Bool.not_false, Bool.and_self, e0, e6, l6, l6', e1, e2, e13, l7, a1, a2, a3]; done)
      rintro r_ se ⟨x1, es, rfl, ho3⟩; refine ⟨fun e => (by cases e), ?_⟩
      obtain ⟨k3, n3, m3, s3, rfl, b1, b2, b3⟩ := ho3.args_cells
      simp (disch := omega) only [go_sem, ↓reduceIte, Nat.reduceEqDiff, Nat.reduceAdd, Nat.reduceLeDiff, hG, e0, e6, l6, l6', e1, e2, e13, l7, b1, b2, b3]; refine hK _ _ ?_; clear hK K hG G; repeat (first | refine thenI ?_ | refine thenE ?_ | refine thenR ?_ | refine inBI ?_ | refine inBR ?_ | refine inBS ?_ | refine inBN (by decide) ?_)
      have hlt := Own.lt _ _ _ ho
      have hll := hdr4.away.1
      have hl5 := hd4.away.1
      refine W_ret ?_; try (repeat (first | refine thenI ?_ | refine thenE ?_ | refine thenR ?_ | refine inBI ?_ | refine inBR ?_ | refine inBS ?_ | refine inBN (by decide) ?_))
      refine finC (.inl rfl) (by (simp (disch := omega) only [go_sem, ↓reduceIte, Nat.reduceEqDiff, Nat.reduceAdd, Nat.reduceLeDiff, e0, e6, l6, l6', e1, e2, e13, l7, b1, b2, b3]); try rfl) ⟨((hdr2.trans hdr4).ext2 x1), _, [_, _, _, _], _, rfl, ho3, ((hf.mono hdr1.away.1).app hf2 (fun i hi => by have := hlt i hi; omega) (by omega)).cons (fun i hi => ?_) (by omega), plain_app 0 _ _ (fun a ha => ?_), ?_⟩
      · rcases List.mem_append.1 hi with hi | hi
        · have := hlt i hi; omega
        · exact Own.lt _ _ _ ho2 i hi
      · rcases List.mem_cons.1 ha with rfl | ha
        · exact hp.1
        · cases List.mem_singleton.1 ha; exact hp2.1
      · have h1 := hp.2
        have h2 := hp2.2
        have h3 := size_of_mem hw rfl
        simp only [T.wt, T.wtL, List.length_cons, List.length_nil, Nat.pow_succ]
        omega
theorem l3Draw_ok (q : Nat) (xs : List Byt) (g : Bool) : ∀ (d : Nat), d ≤ 10 → ∀ (st : St), Cur st q xs → CallS Tryd.prog 23 [.pointer (some ⟨q, 0, none⟩), .int .i64 (d : Nat), .bool g] st (DrawT q xs st (DrawP d)) := by
  intro d
  induction d with
  | zero => intro h st hq; exact l3Draw_of q xs g 0 h st hq fun e he => by omega
  | succ d ih => intro h st hq; exact l3Draw_of q xs g (d + 1) h st hq fun e he st hq => (by
    obtain rfl : d = e := by omega
    exact ih (by omega) st hq)

end

section
/- Terms drawn, turned a little: spec.l3Bent. -/
open Go Go.Proofs
set_option linter.unusedVariables false
set_option linter.unusedSimpArgs false
set_option maxRecDepth 100000
-- AUTO

def BentP (t : T) : Prop := PlainB t ∧ t.wt ≤ 100
theorem Plain.args {k n : Int} {nm : ByteArray} {args : List T} (h : Plain (.mk k n nm args)) : ∀ a ∈ args, Plain a := by cases h; assumption
theorem bent_of {t : T} (h : DrawP 4 t) : BentP t := ⟨h.1.b, by have := h.2; omega⟩
theorem drawP_mono {d e : Nat} (hde : d ≤ e) {t : T} (h : DrawP d t) : DrawP e t := ⟨h.1, by
  have h1 := h.2
  have h2 : 2 ^ d ≤ 2 ^ e := Nat.pow_le_pow_right (by omega) hde
  omega⟩
theorem row_low {st st' : St} {xs : List Byt} {s : Value} {q : Nat} (h : RowY st xs s) (ha : ∀ i, i < q → st'[i]? = st[i]?) (hn : xs = [] ∨ ∃ b, topId s = some b ∧ b < q) : RowY st' xs s := by
  rcases h with h | ⟨i, o, c, rfl, h⟩
  · exact .inl h
  · refine .inr ⟨i, o, c, rfl, fun j x hx => ?_⟩
    obtain ⟨cs, h1, h2, h3⟩ := h j x hx
    refine ⟨cs, h1, h2, fun k v hv => ?_⟩
    have h4 := h3 k v hv
    rcases hn with rfl | ⟨b, hb, hlt⟩
    · simp at hx
    simp only [topId, Option.some.injEq] at hb
    subst hb
    unfold cell at h4 ⊢
    rw [ha i hlt]; exact h4
theorem Drawn.low {q n0 : Nat} {xs : List Byt} {a b c : St} (h : Drawn q xs a b) (hn : n0 = a.length) (hq : q < n0) (hc : ∀ i, i < n0 → c[i]? = b[i]?) (hl : b.length ≤ c.length) : Drawn q xs a c := by
  subst hn
  obtain ⟨sb, i, hh, h1, h2, h3, h4⟩ := h.cur
  exact ⟨⟨sb, i, hh, by rw [hc q hq]; exact h1, row_low h2 (fun i hi => hc i (by omega)) h3, h3, h4⟩, Nat.le_trans h.away.1 hl, fun i hi hne => by rw [hc i hi]; exact h.away.2 i hi hne⟩
theorem Own.args_slice {e : TypeId} {st : St} {k n : Int} {nm : ByteArray} {args : List T} {s : Value} {L : List Nat} (h : Own e st (.mk k n nm args) [.int .i64 k, .int .i64 n, .string nm, s] L) : SliceO (Own e st) e st args s L := by
  obtain ⟨s', h1, h2⟩ := h.open
  cases h1
  exact h2
def isIntB : Value → Bool
  | .int .i64 _ => true
  | _ => false
def intB : Value → Int
  | .int .i64 n => n
  | _ => 0
theorem ints_map {cs : List Value} (h : cs.all isIntB = true) : cs = (cs.map intB).map (Value.int .i64) := by
  rw [List.map_map]
  refine ((List.map_congr_left fun v hv => ?_).trans (List.map_id cs)).symm
  have := List.all_eq_true.1 h v hv
  unfold isIntB at this
  split at this
  · rfl
  · cases this
theorem row_lastI (st : St) (ns : List Int) (t : TypeId) (n : Nat) : Rw (st ++ [⟨ns.map (Value.int .i64), t, 0⟩]) ns (.slice (some ⟨st.length, 0, none⟩) ns.length n) := .inr ⟨st.length, 0, n, rfl, fun j x hx => ⟨[.int .i64 x], rfl, rfl, fun k v hv => by
  have hk : k = 0 := by have := (List.getElem?_eq_some_iff.1 hv).1; simp at this; omega
  subst hk
  obtain ⟨hj1, hj2⟩ := List.getElem?_eq_some_iff.1 hx
  have : v = .int .i64 x := by simpa using hv.symm
  subst this
  simp [cell, hx, show Kind.sz Int = 1 from rfl]⟩⟩
theorem l1PickInt_lit (q : Nat) (xs : List Byt) (sa : St) (cs : List Value) (t : TypeId) (n : Nat) (hq : Cur sa q xs) (hs : cs.all isIntB = true) (h0 : 0 < cs.length) (h1 : cs.length ≤ 256) :
    CallS Tryd.prog 27 [.pointer (some ⟨q, 0, none⟩), .slice (some ⟨sa.length, 0, none⟩) cs.length n] (sa ++ [⟨cs, t, 0⟩]) fun r st2 => (∃ w, r = .int .i64 w ∧ .int .i64 w ∈ cs) ∧ Drawn q xs (sa ++ [⟨cs, t, 0⟩]) st2 ∧ st2.length = sa.length + 1 := by
  have hcs := ints_map hs
  have hr := row_lastI sa (cs.map intB) t n
  rw [← hcs, List.length_map] at hr
  refine (l1PickInt_ok q xs _ (cs.map intB) _ (by simpa using h0) (by simpa using h1) (hq.ext (Ext.app _ _)) hr (fun e => by simp only [topId, Option.some.injEq] at e; have := hq.lt; omega)).mono fun r st2 ⟨⟨w, hw, hm⟩, hd, hl⟩ => ⟨⟨w, hw, ?_⟩, hd, by simpa using hl⟩
  rw [hcs]
  exact List.mem_map.2 ⟨w, hm, rfl⟩
theorem T.wtL_snoc (xs : List T) (x : T) : T.wtL (xs ++ [x]) = T.wtL xs + x.wt := by
  induction xs with
  | nil => simp [T.wtL]
  | cons y ys ih => simp only [List.cons_append, T.wtL, ih]; omega
theorem l3Bent_ok (q : Nat) (xs : List Byt) (st : St) (hq : Cur st q xs) :
    CallS Tryd.prog 13 [.pointer (some ⟨q, 0, none⟩)] st (DrawT q xs st BentP) := by
  refine CallS_of_W [] 48 Tryd.func13 rfl rfl rfl rfl (by simp) ?_
  repeat (first | (refine W_reg rfl fun G K hG hK => ?_; simp (disch := omega) only [go_sem, ↓reduceIte, Nat.reduceEqDiff, Nat.reduceAdd, Nat.reduceLeDiff, hG]; refine hK _ _ ?_; clear hK K hG G) | (refine W_end rfl fun G K hG hK => ?_; simp (disch := omega) only [go_sem, ↓reduceIte, Nat.reduceEqDiff, Nat.reduceAdd, Nat.reduceLeDiff, hG]; refine hK _ _ ?_; clear hK K hG G; repeat (first | refine thenI ?_ | refine thenE ?_ | refine thenR ?_ | refine inBI ?_ | refine inBR ?_ | refine inBS ?_ | refine inBN (by decide) ?_)) | refine W_seqS ?_ | refine W_seqC ?_ | refine W_seqB ?_ | refine W_block ?_ | (refine W_skip ?_; repeat (first | refine thenI ?_ | refine thenE ?_ | refine thenR ?_ | refine inBI ?_ | refine inBR ?_ | refine inBS ?_ | refine inBN (by decide) ?_)) | (refine W_condT ?hc ?_; (case hc => (simp (disch := omega) only [go_sem, ↓reduceIte, Nat.reduceEqDiff, Nat.reduceAdd, Nat.reduceLeDiff]; done))) | (refine W_condF ?hc ?_; (case hc => (simp (disch := omega) only [go_sem, ↓reduceIte, Nat.reduceEqDiff, Nat.reduceAdd, Nat.reduceLeDiff]; done))))
  (repeat (first | refine W_seqS ?_ | refine W_seqC ?_ | refine W_seqB ?_ | refine W_block ?_)); refine W_reg rfl fun G K hG hK => ?_; simp (disch := omega) only [go_sem, ↓reduceIte, Nat.reduceEqDiff, Nat.reduceAdd, Nat.reduceLeDiff, hG]
  refine w_call (l1Below_ok q xs st 4 (by omega) (by omega) hq) (by simp (disch := omega) only [go_sem, ↓reduceIte, Nat.reduceEqDiff]) ?hl ?_
  case hl => first | rfl | (simp only [go_sem, List.all_cons, List.all_nil, Bool.not_false, Bool.and_self]; done)
  rintro r_ sa ⟨⟨x, rfl, hx0, hx1⟩, hd, hl⟩; refine ⟨fun e => (by cases e), ?_⟩
  obtain ⟨n, rfl⟩ : ∃ n : Nat, x = n := ⟨x.toNat, by omega⟩
  have hadd : (1 : Int) + (n : Int) = ((n + 1 : Nat) : Int) := by omega
  simp (disch := omega) only [go_sem, ↓reduceIte, Nat.reduceEqDiff, Nat.reduceAdd, Nat.reduceLeDiff, hadd]
  refine w_call (l1Once_ok q xs sa 2 (by omega) (by omega) hd.cur) (by simp (disch := omega) only [go_sem, ↓reduceIte, Nat.reduceEqDiff]) ?hl ?_
  case hl => first | rfl | (simp only [go_sem, List.all_cons, List.all_nil, Bool.not_false, Bool.and_self]; done)
  rintro r_ sb ⟨⟨g, rfl⟩, hd2, hl2⟩; refine ⟨fun e => (by cases e), ?_⟩
  simp (disch := omega) only [go_sem, ↓reduceIte, Nat.reduceEqDiff, Nat.reduceAdd, Nat.reduceLeDiff, hadd]
  refine w_call (l3Draw_ok q xs g (n + 1) (by omega) sb hd2.cur) (by simp (disch := omega) only [go_sem, ↓reduceIte, Nat.reduceEqDiff, hadd]) ?hl ?_
  case hl => first | rfl | (simp only [go_sem, List.all_cons, List.all_nil, Bool.not_false, Bool.and_self, hadd]; done)
  rintro r_ sc ⟨hd3, t, ds, L, rfl, ho, hf, hp⟩; refine ⟨fun e => (by cases e), ?_⟩
  obtain ⟨k, m, nm, args⟩ := t
  obtain ⟨s, rfl, hs⟩ := ho.open
  have a1 := hs.loc
  have a2 := hs.okv
  have a3 := hs.cells
  simp (disch := omega) only [go_sem, ↓reduceIte, Nat.reduceEqDiff, Nat.reduceAdd, Nat.reduceLeDiff, hG, a1, a2, a3]; refine hK _ _ ?_; clear hK K hG G; repeat (first | refine thenI ?_ | refine thenE ?_ | refine thenR ?_ | refine inBI ?_ | refine inBR ?_ | refine inBS ?_ | refine inBN (by decide) ?_)
  have hdr := (hd.trans hd2).trans hd3
  have hp4 := drawP_mono (e := 4) (by omega) hp
  have hf0 := hf.mono (hd.trans hd2).away.1
  repeat (first | (refine W_reg rfl fun G K hG hK => ?_; simp (disch := omega) only [go_sem, ↓reduceIte, Nat.reduceEqDiff, Nat.reduceAdd, Nat.reduceLeDiff, hG, a1, a2, a3]; refine hK _ _ ?_; clear hK K hG G) | (refine W_end rfl fun G K hG hK => ?_; simp (disch := omega) only [go_sem, ↓reduceIte, Nat.reduceEqDiff, Nat.reduceAdd, Nat.reduceLeDiff, hG, a1, a2, a3]; refine hK _ _ ?_; clear hK K hG G; repeat (first | refine thenI ?_ | refine thenE ?_ | refine thenR ?_ | refine inBI ?_ | refine inBR ?_ | refine inBS ?_ | refine inBN (by decide) ?_)) | refine W_seqS ?_ | refine W_seqC ?_ | refine W_seqB ?_ | refine W_block ?_ | (refine W_skip ?_; repeat (first | refine thenI ?_ | refine thenE ?_ | refine thenR ?_ | refine inBI ?_ | refine inBR ?_ | refine inBS ?_ | refine inBN (by decide) ?_)) | (refine W_condT ?hc ?_; (case hc => (simp (disch := omega) only [go_sem, ↓reduceIte, Nat.reduceEqDiff, Nat.reduceAdd, Nat.reduceLeDiff, a1, a2, a3]; done))) | (refine W_condF ?hc ?_; (case hc => (simp (disch := omega) only [go_sem, ↓reduceIte, Nat.reduceEqDiff, Nat.reduceAdd, Nat.reduceLeDiff, a1, a2, a3]; done))))
  (repeat (first | refine W_seqS ?_ | refine W_seqC ?_ | refine W_seqB ?_ | refine W_block ?_)); refine W_reg rfl fun G K hG hK => ?_; simp (disch := omega) only [go_sem, ↓reduceIte, Nat.reduceEqDiff, Nat.reduceAdd, Nat.reduceLeDiff, hG, a1, a2, a3]
  refine w_call (l1Below_ok q xs sc 12 (by omega) (by omega) hdr.cur) (by simp (disch := omega) only [go_sem, ↓reduceIte, Nat.reduceEqDiff]) ?hl ?_
  case hl => first | rfl | (simp only [go_sem, List.all_cons, List.all_nil, Bool.not_false, Bool.and_self]; done)
  rintro r_ sd ⟨⟨y, rfl, hy0, hy1⟩, hd4, hl4⟩; refine ⟨fun e => (by cases e), ?_⟩
  simp (disch := omega) only [go_sem, ↓reduceIte, Nat.reduceEqDiff, Nat.reduceAdd, Nat.reduceLeDiff, hG, a1, a2, a3]; refine hK _ _ ?_; clear hK K hG G; repeat (first | refine thenI ?_ | refine thenE ?_ | refine thenR ?_ | refine inBI ?_ | refine inBR ?_ | refine inBS ?_ | refine inBN (by decide) ?_)
  have hdr4 := hdr.trans hd4
  have ho4 := hd4.own ho hf0 (by have := hq.lt; omega)
  have hwt : nm.size + args.length + T.wtL args + 3 ≤ 64 := by have := hp4.2; simp only [T.wt] at this; omega
  have hpa := hp4.1.args
  refine W_to (fun fr st' => ∃ (t : T) (ds : List Value) (L : List Nat), (Drawn q xs st st') ∧ (OwnT st' t ds L) ∧ (Fresh st.length L) ∧ (BentP t) ∧ (fr.env 2 = .pointer (some ⟨2, 0, some 1⟩)) ∧ (fr.env 3 = .pointer (some ⟨3, 0, some 1⟩)) ∧ ((fr.loc 2).1 = 1 ∧ (fr.loc 2).2.length = 4) ∧ (fr.loc 3 = (1, ds))) ?_ ?_
  · have hy : y = 0 ∨ y = 1 ∨ y = 2 ∨ y = 3 ∨ y = 4 ∨ 5 ≤ y := by omega
    have v10 : ((1 : Int) == 0) = false := by decide
    have v20 : ((2 : Int) == 0) = false := by decide
    have v21 : ((2 : Int) == 1) = false := by decide
    have v30 : ((3 : Int) == 0) = false := by decide
    have v31 : ((3 : Int) == 1) = false := by decide
    have v32 : ((3 : Int) == 2) = false := by decide
    have v40 : ((4 : Int) == 0) = false := by decide
    have v41 : ((4 : Int) == 1) = false := by decide
    have v42 : ((4 : Int) == 2) = false := by decide
    have v43 : ((4 : Int) == 3) = false := by decide
    rcases hy with rfl | rfl | rfl | rfl | rfl | hy
    · repeat (first | (refine W_reg rfl fun G K hG hK => ?_; simp (disch := omega) only [go_sem, ↓reduceIte, Nat.reduceEqDiff, Nat.reduceAdd, Nat.reduceLeDiff, hG, a1, a2, a3, v10, v20, v21, v30, v31, v32, v40, v41, v42, v43]; refine hK _ _ ?_; clear hK K hG G) | (refine W_end rfl fun G K hG hK => ?_; simp (disch := omega) only [go_sem, ↓reduceIte, Nat.reduceEqDiff, Nat.reduceAdd, Nat.reduceLeDiff, hG, a1, a2, a3, v10, v20, v21, v30, v31, v32, v40, v41, v42, v43]; refine hK _ _ ?_; clear hK K hG G; repeat (first | refine thenI ?_ | refine thenE ?_ | refine thenR ?_ | refine inBI ?_ | refine inBR ?_ | refine inBS ?_ | refine inBN (by decide) ?_)) | refine W_seqS ?_ | refine W_seqC ?_ | refine W_seqB ?_ | refine W_block ?_ | (refine W_skip ?_; repeat (first | refine thenI ?_ | refine thenE ?_ | refine thenR ?_ | refine inBI ?_ | refine inBR ?_ | refine inBS ?_ | refine inBN (by decide) ?_)) | (refine W_condT ?hc ?_; (case hc => (simp (disch := omega) only [go_sem, ↓reduceIte, Nat.reduceEqDiff, Nat.reduceAdd, Nat.reduceLeDiff, a1, a2, a3, v10, v20, v21, v30, v31, v32, v40, v41, v42, v43]; done))) | (refine W_condF ?hc ?_; (case hc => (simp (disch := omega) only [go_sem, ↓reduceIte, Nat.reduceEqDiff, Nat.reduceAdd, Nat.reduceLeDiff, a1, a2, a3, v10, v20, v21, v30, v31, v32, v40, v41, v42, v43]; done))))
      refine W_end rfl fun G K hG hK => ?_; simp (disch := omega) only [go_sem, ↓reduceIte, Nat.reduceEqDiff, Nat.reduceAdd, Nat.reduceLeDiff, hG, a1, a2, a3, v10, v20, v21, v30, v31, v32, v40, v41, v42, v43]
      refine w_call (l1Below_ok q xs sd 5 (by omega) (by omega) hdr4.cur) (by simp (disch := omega) only [go_sem, ↓reduceIte, Nat.reduceEqDiff, a1, a2, a3, v10, v20, v21, v30, v31, v32, v40, v41, v42, v43]) ?hl ?_
      case hl => first | rfl | (simp only [go_sem, List.all_cons, List.all_nil, Bool.not_false, Bool.and_self, a1, a2, a3, v10, v20, v21, v30, v31, v32, v40, v41, v42, v43]; done)
      rintro r_ se ⟨⟨z, rfl, hz0, hz1⟩, hd6, hl6⟩; refine ⟨fun e => (by cases e), ?_⟩
      simp (disch := omega) only [go_sem, ↓reduceIte, Nat.reduceEqDiff, Nat.reduceAdd, Nat.reduceLeDiff, hG, a1, a2, a3, v10, v20, v21, v30, v31, v32, v40, v41, v42, v43]; refine hK _ _ ?_; clear hK K hG G; repeat (first | refine thenI ?_ | refine thenE ?_ | refine thenR ?_ | refine inBI ?_ | refine inBR ?_ | refine inBS ?_ | refine inBN (by decide) ?_)
      exact ⟨.mk z m nm args, _, L, hdr4.trans hd6, Own.close z m nm ((hd6.own ho4 hf0 (by have := hq.lt; omega)).args_slice), hf0, ⟨.inr hpa, by simp only [T.wt]; omega⟩, (by (simp (disch := omega) only [go_sem, ↓reduceIte, Nat.reduceEqDiff, Nat.reduceAdd, Nat.reduceLeDiff, a1, a2, a3, v10, v20, v21, v30, v31, v32, v40, v41, v42, v43]); try rfl), (by (simp (disch := omega) only [go_sem, ↓reduceIte, Nat.reduceEqDiff, Nat.reduceAdd, Nat.reduceLeDiff, a1, a2, a3, v10, v20, v21, v30, v31, v32, v40, v41, v42, v43]); try rfl), ⟨(by (simp (disch := omega) only [go_sem, ↓reduceIte, Nat.reduceEqDiff, Nat.reduceAdd, Nat.reduceLeDiff, a1, a2, a3, v10, v20, v21, v30, v31, v32, v40, v41, v42, v43]); try rfl), (by (simp (disch := omega) only [go_sem, ↓reduceIte, Nat.reduceEqDiff, Nat.reduceAdd, Nat.reduceLeDiff, a1, a2, a3, v10, v20, v21, v30, v31, v32, v40, v41, v42, v43]); try rfl)⟩, (by (simp (disch := omega) only [go_sem, ↓reduceIte, Nat.reduceEqDiff, Nat.reduceAdd, Nat.reduceLeDiff, a1, a2, a3, v10, v20, v21, v30, v31, v32, v40, v41, v42, v43]); try rfl)⟩
    · repeat (first | (refine W_reg rfl fun G K hG hK => ?_; simp (disch := omega) only [go_sem, ↓reduceIte, Nat.reduceEqDiff, Nat.reduceAdd, Nat.reduceLeDiff, hG, a1, a2, a3, v10, v20, v21, v30, v31, v32, v40, v41, v42, v43]; refine hK _ _ ?_; clear hK K hG G) | (refine W_end rfl fun G K hG hK => ?_; simp (disch := omega) only [go_sem, ↓reduceIte, Nat.reduceEqDiff, Nat.reduceAdd, Nat.reduceLeDiff, hG, a1, a2, a3, v10, v20, v21, v30, v31, v32, v40, v41, v42, v43]; refine hK _ _ ?_; clear hK K hG G; repeat (first | refine thenI ?_ | refine thenE ?_ | refine thenR ?_ | refine inBI ?_ | refine inBR ?_ | refine inBS ?_ | refine inBN (by decide) ?_)) | refine W_seqS ?_ | refine W_seqC ?_ | refine W_seqB ?_ | refine W_block ?_ | (refine W_skip ?_; repeat (first | refine thenI ?_ | refine thenE ?_ | refine thenR ?_ | refine inBI ?_ | refine inBR ?_ | refine inBS ?_ | refine inBN (by decide) ?_)) | (refine W_condT ?hc ?_; (case hc => (simp (disch := omega) only [go_sem, ↓reduceIte, Nat.reduceEqDiff, Nat.reduceAdd, Nat.reduceLeDiff, a1, a2, a3, v10, v20, v21, v30, v31, v32, v40, v41, v42, v43]; done))) | (refine W_condF ?hc ?_; (case hc => (simp (disch := omega) only [go_sem, ↓reduceIte, Nat.reduceEqDiff, Nat.reduceAdd, Nat.reduceLeDiff, a1, a2, a3, v10, v20, v21, v30, v31, v32, v40, v41, v42, v43]; done))))
      refine W_end rfl fun G K hG hK => ?_; simp (disch := omega) only [go_sem, ↓reduceIte, Nat.reduceEqDiff, Nat.reduceAdd, Nat.reduceLeDiff, hG, a1, a2, a3, v10, v20, v21, v30, v31, v32, v40, v41, v42, v43, bsL, fillK_cons, fillK_nil, Nat.reduceMul]
      refine w_call (l1PickInt_lit q xs sd _ _ 3 hdr4.cur rfl (by simp) (by simp)) (by simp (disch := omega) only [go_sem, ↓reduceIte, Nat.reduceEqDiff, a1, a2, a3, v10, v20, v21, v30, v31, v32, v40, v41, v42, v43]) ?hl ?_
      case hl => first | rfl | (simp only [go_sem, List.all_cons, List.all_nil, Bool.not_false, Bool.and_self, a1, a2, a3, v10, v20, v21, v30, v31, v32, v40, v41, v42, v43]; done)
      rintro r_ se ⟨⟨z, rfl, hz⟩, hd6, hl6⟩; refine ⟨fun e => (by cases e), ?_⟩
      have hd7 := Drawn.pre (Ext.app _ _) hd6
      simp (disch := omega) only [go_sem, ↓reduceIte, Nat.reduceEqDiff, Nat.reduceAdd, Nat.reduceLeDiff, hG, a1, a2, a3, v10, v20, v21, v30, v31, v32, v40, v41, v42, v43]; refine hK _ _ ?_; clear hK K hG G; repeat (first | refine thenI ?_ | refine thenE ?_ | refine thenR ?_ | refine inBI ?_ | refine inBR ?_ | refine inBS ?_ | refine inBN (by decide) ?_)
      exact ⟨.mk k z nm args, _, L, hdr4.trans hd7, Own.close k z nm ((hd7.own ho4 hf0 (by have := hq.lt; omega)).args_slice), hf0, ⟨.inr hpa, by simp only [T.wt]; omega⟩, (by (simp (disch := omega) only [go_sem, ↓reduceIte, Nat.reduceEqDiff, Nat.reduceAdd, Nat.reduceLeDiff, a1, a2, a3, v10, v20, v21, v30, v31, v32, v40, v41, v42, v43]); try rfl), (by (simp (disch := omega) only [go_sem, ↓reduceIte, Nat.reduceEqDiff, Nat.reduceAdd, Nat.reduceLeDiff, a1, a2, a3, v10, v20, v21, v30, v31, v32, v40, v41, v42, v43]); try rfl), ⟨(by (simp (disch := omega) only [go_sem, ↓reduceIte, Nat.reduceEqDiff, Nat.reduceAdd, Nat.reduceLeDiff, a1, a2, a3, v10, v20, v21, v30, v31, v32, v40, v41, v42, v43]); try rfl), (by (simp (disch := omega) only [go_sem, ↓reduceIte, Nat.reduceEqDiff, Nat.reduceAdd, Nat.reduceLeDiff, a1, a2, a3, v10, v20, v21, v30, v31, v32, v40, v41, v42, v43]); try rfl)⟩, (by (simp (disch := omega) only [go_sem, ↓reduceIte, Nat.reduceEqDiff, Nat.reduceAdd, Nat.reduceLeDiff, a1, a2, a3, v10, v20, v21, v30, v31, v32, v40, v41, v42, v43]); try rfl)⟩
    · repeat (first | (refine W_reg rfl fun G K hG hK => ?_; simp (disch := omega) only [go_sem, ↓reduceIte, Nat.reduceEqDiff, Nat.reduceAdd, Nat.reduceLeDiff, hG, a1, a2, a3, v10, v20, v21, v30, v31, v32, v40, v41, v42, v43]; refine hK _ _ ?_; clear hK K hG G) | (refine W_end rfl fun G K hG hK => ?_; simp (disch := omega) only [go_sem, ↓reduceIte, Nat.reduceEqDiff, Nat.reduceAdd, Nat.reduceLeDiff, hG, a1, a2, a3, v10, v20, v21, v30, v31, v32, v40, v41, v42, v43]; refine hK _ _ ?_; clear hK K hG G; repeat (first | refine thenI ?_ | refine thenE ?_ | refine thenR ?_ | refine inBI ?_ | refine inBR ?_ | refine inBS ?_ | refine inBN (by decide) ?_)) | refine W_seqS ?_ | refine W_seqC ?_ | refine W_seqB ?_ | refine W_block ?_ | (refine W_skip ?_; repeat (first | refine thenI ?_ | refine thenE ?_ | refine thenR ?_ | refine inBI ?_ | refine inBR ?_ | refine inBS ?_ | refine inBN (by decide) ?_)) | (refine W_condT ?hc ?_; (case hc => (simp (disch := omega) only [go_sem, ↓reduceIte, Nat.reduceEqDiff, Nat.reduceAdd, Nat.reduceLeDiff, a1, a2, a3, v10, v20, v21, v30, v31, v32, v40, v41, v42, v43]; done))) | (refine W_condF ?hc ?_; (case hc => (simp (disch := omega) only [go_sem, ↓reduceIte, Nat.reduceEqDiff, Nat.reduceAdd, Nat.reduceLeDiff, a1, a2, a3, v10, v20, v21, v30, v31, v32, v40, v41, v42, v43]; done))))
      refine W_end rfl fun G K hG hK => ?_; simp (disch := omega) only [go_sem, ↓reduceIte, Nat.reduceEqDiff, Nat.reduceAdd, Nat.reduceLeDiff, hG, a1, a2, a3, v10, v20, v21, v30, v31, v32, v40, v41, v42, v43, bsL, fillK_cons, fillK_nil, Nat.reduceMul]
      refine w_call (l1Pick_lit q xs sd _ _ 4 hdr4.cur rfl (by simp) (by simp)) (by simp (disch := omega) only [go_sem, ↓reduceIte, Nat.reduceEqDiff, a1, a2, a3, v10, v20, v21, v30, v31, v32, v40, v41, v42, v43]) ?hl ?_
      case hl => first | rfl | (simp only [go_sem, List.all_cons, List.all_nil, Bool.not_false, Bool.and_self, a1, a2, a3, v10, v20, v21, v30, v31, v32, v40, v41, v42, v43]; done)
      rintro r_ se ⟨⟨w, rfl, hw⟩, hd6, hl6⟩; refine ⟨fun e => (by cases e), ?_⟩
      have hd7 := Drawn.pre (Ext.app _ _) hd6
      have hw2 := size_of_mem2 (m := 2) hw rfl
      simp (disch := omega) only [go_sem, ↓reduceIte, Nat.reduceEqDiff, Nat.reduceAdd, Nat.reduceLeDiff, hG, a1, a2, a3, v10, v20, v21, v30, v31, v32, v40, v41, v42, v43]; refine hK _ _ ?_; clear hK K hG G; repeat (first | refine thenI ?_ | refine thenE ?_ | refine thenR ?_ | refine inBI ?_ | refine inBR ?_ | refine inBS ?_ | refine inBN (by decide) ?_)
      exact ⟨.mk k m w args, _, L, hdr4.trans hd7, Own.close k m w ((hd7.own ho4 hf0 (by have := hq.lt; omega)).args_slice), hf0, ⟨.inr hpa, by simp only [T.wt]; omega⟩, (by (simp (disch := omega) only [go_sem, ↓reduceIte, Nat.reduceEqDiff, Nat.reduceAdd, Nat.reduceLeDiff, a1, a2, a3, v10, v20, v21, v30, v31, v32, v40, v41, v42, v43]); try rfl), (by (simp (disch := omega) only [go_sem, ↓reduceIte, Nat.reduceEqDiff, Nat.reduceAdd, Nat.reduceLeDiff, a1, a2, a3, v10, v20, v21, v30, v31, v32, v40, v41, v42, v43]); try rfl), ⟨(by (simp (disch := omega) only [go_sem, ↓reduceIte, Nat.reduceEqDiff, Nat.reduceAdd, Nat.reduceLeDiff, a1, a2, a3, v10, v20, v21, v30, v31, v32, v40, v41, v42, v43]); try rfl), (by (simp (disch := omega) only [go_sem, ↓reduceIte, Nat.reduceEqDiff, Nat.reduceAdd, Nat.reduceLeDiff, a1, a2, a3, v10, v20, v21, v30, v31, v32, v40, v41, v42, v43]); try rfl)⟩, (by (simp (disch := omega) only [go_sem, ↓reduceIte, Nat.reduceEqDiff, Nat.reduceAdd, Nat.reduceLeDiff, a1, a2, a3, v10, v20, v21, v30, v31, v32, v40, v41, v42, v43]); try rfl)⟩
    · repeat (first | (refine W_reg rfl fun G K hG hK => ?_; simp (disch := omega) only [go_sem, ↓reduceIte, Nat.reduceEqDiff, Nat.reduceAdd, Nat.reduceLeDiff, hG, a1, a2, a3, v10, v20, v21, v30, v31, v32, v40, v41, v42, v43]; refine hK _ _ ?_; clear hK K hG G) | (refine W_end rfl fun G K hG hK => ?_; simp (disch := omega) only [go_sem, ↓reduceIte, Nat.reduceEqDiff, Nat.reduceAdd, Nat.reduceLeDiff, hG, a1, a2, a3, v10, v20, v21, v30, v31, v32, v40, v41, v42, v43]; refine hK _ _ ?_; clear hK K hG G; repeat (first | refine thenI ?_ | refine thenE ?_ | refine thenR ?_ | refine inBI ?_ | refine inBR ?_ | refine inBS ?_ | refine inBN (by decide) ?_)) | refine W_seqS ?_ | refine W_seqC ?_ | refine W_seqB ?_ | refine W_block ?_ | (refine W_skip ?_; repeat (first | refine thenI ?_ | refine thenE ?_ | refine thenR ?_ | refine inBI ?_ | refine inBR ?_ | refine inBS ?_ | refine inBN (by decide) ?_)) | (refine W_condT ?hc ?_; (case hc => (simp (disch := omega) only [go_sem, ↓reduceIte, Nat.reduceEqDiff, Nat.reduceAdd, Nat.reduceLeDiff, a1, a2, a3, v10, v20, v21, v30, v31, v32, v40, v41, v42, v43]; done))) | (refine W_condF ?hc ?_; (case hc => (simp (disch := omega) only [go_sem, ↓reduceIte, Nat.reduceEqDiff, Nat.reduceAdd, Nat.reduceLeDiff, a1, a2, a3, v10, v20, v21, v30, v31, v32, v40, v41, v42, v43]; done))))
      refine W_endD mixed [] [(0,false),(1,false),(2,true),(3,false),(4,false),(5,false),(6,false)] rfl (by decide +kernel) fun G K hG hK => ?_; simp only [pickOps, List.filterMap_cons, List.filterMap_nil, List.getElem?_cons_zero, List.getElem?_cons_succ, Option.map_some]; simp (disch := omega) only [go_sem, ↓reduceIte, Nat.reduceEqDiff, Nat.reduceAdd, Nat.reduceLeDiff, hG, a1, a2, a3, v10, v20, v21, v30, v31, v32, v40, v41, v42, v43]
      refine w_call (l3Word_ok 1 sd) (by simp (disch := omega) only [go_sem, ↓reduceIte, Nat.reduceEqDiff, a1, a2, a3, v10, v20, v21, v30, v31, v32, v40, v41, v42, v43]) ?hl ?_
      case hl => first | rfl | (simp only [go_sem, List.all_cons, List.all_nil, Bool.not_false, Bool.and_self, a1, a2, a3, v10, v20, v21, v30, v31, v32, v40, v41, v42, v43]; done)
      rintro r_ se ⟨rfl, rfl⟩; refine ⟨fun e => Ext.refl _, ?_⟩
      have hw1 : OwnT se (.mk 3 1 ⟨#[]⟩ []) [.int .i64 3, .int .i64 1, .string ⟨#[]⟩, .slice none 0 0] [] := .nil _ _ _
      obtain ⟨s', sf, L', hap, hs', hf', hll, hlow⟩ := Own.step ho4.args_slice hf0 hdr4.away.1 (Ext.refl se) hw1 (.nil _) (by omega)
      have b1 := hs'.loc
      have b2 := hs'.okv
      have b3 := hs'.cells
      simp (disch := omega) only [go_sem, ↓reduceIte, Nat.reduceEqDiff, Nat.reduceAdd, Nat.reduceLeDiff, hG, a1, a2, a3, v10, v20, v21, v30, v31, v32, v40, v41, v42, v43, bsL, fillK_cons, fillK_nil, Nat.reduceMul, w_append, hap, b1, b2, b3]; refine hK _ _ ?_; clear hK K hG G; repeat (first | refine thenI ?_ | refine thenE ?_ | refine thenR ?_ | refine inBI ?_ | refine inBR ?_ | refine inBS ?_ | refine inBN (by decide) ?_)
      have hz : (⟨#[]⟩ : ByteArray).size = 0 := rfl
      have hb : BentP (.mk k m nm (args ++ [.mk 3 1 ⟨#[]⟩ []])) := ⟨.inr (fun a ha => (List.mem_append.1 ha).elim (hpa a) fun h => by cases List.mem_singleton.1 h; exact plain_word _ _), by
        simp only [T.wt, List.length_append, List.length_singleton, T.wtL_snoc, T.wtL, List.length_nil, hz]; omega⟩
      exact ⟨.mk k m nm (args ++ [.mk 3 1 ⟨#[]⟩ []]), _, L', hdr4.low rfl hq.lt hlow hll, Own.close k m nm hs', hf', hb, (by (simp (disch := omega) only [go_sem, ↓reduceIte, Nat.reduceEqDiff, Nat.reduceAdd, Nat.reduceLeDiff, a1, a2, a3, v10, v20, v21, v30, v31, v32, v40, v41, v42, v43]); try rfl), (by (simp (disch := omega) only [go_sem, ↓reduceIte, Nat.reduceEqDiff, Nat.reduceAdd, Nat.reduceLeDiff, a1, a2, a3, v10, v20, v21, v30, v31, v32, v40, v41, v42, v43]); try rfl), ⟨(by (simp (disch := omega) only [go_sem, ↓reduceIte, Nat.reduceEqDiff, Nat.reduceAdd, Nat.reduceLeDiff, a1, a2, a3, v10, v20, v21, v30, v31, v32, v40, v41, v42, v43]); try rfl), (by (simp (disch := omega) only [go_sem, ↓reduceIte, Nat.reduceEqDiff, Nat.reduceAdd, Nat.reduceLeDiff, a1, a2, a3, v10, v20, v21, v30, v31, v32, v40, v41, v42, v43]); try rfl)⟩, (by (simp (disch := omega) only [go_sem, ↓reduceIte, Nat.reduceEqDiff, Nat.reduceAdd, Nat.reduceLeDiff, a1, a2, a3, v10, v20, v21, v30, v31, v32, v40, v41, v42, v43]); try rfl)⟩
    · repeat (first | (refine W_reg rfl fun G K hG hK => ?_; simp (disch := omega) only [go_sem, ↓reduceIte, Nat.reduceEqDiff, Nat.reduceAdd, Nat.reduceLeDiff, hG, a1, a2, a3, v10, v20, v21, v30, v31, v32, v40, v41, v42, v43]; refine hK _ _ ?_; clear hK K hG G) | (refine W_end rfl fun G K hG hK => ?_; simp (disch := omega) only [go_sem, ↓reduceIte, Nat.reduceEqDiff, Nat.reduceAdd, Nat.reduceLeDiff, hG, a1, a2, a3, v10, v20, v21, v30, v31, v32, v40, v41, v42, v43]; refine hK _ _ ?_; clear hK K hG G; repeat (first | refine thenI ?_ | refine thenE ?_ | refine thenR ?_ | refine inBI ?_ | refine inBR ?_ | refine inBS ?_ | refine inBN (by decide) ?_)) | refine W_seqS ?_ | refine W_seqC ?_ | refine W_seqB ?_ | refine W_block ?_ | (refine W_skip ?_; repeat (first | refine thenI ?_ | refine thenE ?_ | refine thenR ?_ | refine inBI ?_ | refine inBR ?_ | refine inBS ?_ | refine inBN (by decide) ?_)) | (refine W_condT ?hc ?_; (case hc => (simp (disch := omega) only [go_sem, ↓reduceIte, Nat.reduceEqDiff, Nat.reduceAdd, Nat.reduceLeDiff, a1, a2, a3, v10, v20, v21, v30, v31, v32, v40, v41, v42, v43]; done))) | (refine W_condF ?hc ?_; (case hc => (simp (disch := omega) only [go_sem, ↓reduceIte, Nat.reduceEqDiff, Nat.reduceAdd, Nat.reduceLeDiff, a1, a2, a3, v10, v20, v21, v30, v31, v32, v40, v41, v42, v43]; done))))
      refine W_loop (fun d fr st' => ∃ (j : Nat) (t : T) (ds : List Value) (L : List Nat), d = 16 - j ∧ j ≤ 16 ∧ (Drawn q xs st st') ∧ (OwnT st' t ds L) ∧ (Fresh st.length L) ∧ (Plain t) ∧ (t.wt ≤ 61 + 2 * j) ∧ (fr.env 2 = .pointer (some ⟨2, 0, some 1⟩)) ∧ (fr.env 3 = .pointer (some ⟨3, 0, some 1⟩)) ∧ (fr.env 4 = .int .i64 j) ∧ ((fr.loc 2).1 = 1 ∧ (fr.loc 2).2.length = 4) ∧ (fr.loc 3 = (1, ds))) (16) ?_ ?_
      · exact ⟨0, _, _, _, by omega, by omega, hdr4, ho4, hf0, hp4.1, by simp only [T.wt]; omega, (by (simp (disch := omega) only [go_sem, ↓reduceIte, Nat.reduceEqDiff, Nat.reduceAdd, Nat.reduceLeDiff, a1, a2, a3, v10, v20, v21, v30, v31, v32, v40, v41, v42, v43]); try rfl), (by (simp (disch := omega) only [go_sem, ↓reduceIte, Nat.reduceEqDiff, Nat.reduceAdd, Nat.reduceLeDiff, a1, a2, a3, v10, v20, v21, v30, v31, v32, v40, v41, v42, v43]); try rfl), (by (simp (disch := omega) only [go_sem, ↓reduceIte, Nat.reduceEqDiff, Nat.reduceAdd, Nat.reduceLeDiff, a1, a2, a3, v10, v20, v21, v30, v31, v32, v40, v41, v42, v43]); try rfl), ⟨(by (simp (disch := omega) only [go_sem, ↓reduceIte, Nat.reduceEqDiff, Nat.reduceAdd, Nat.reduceLeDiff, a1, a2, a3, v10, v20, v21, v30, v31, v32, v40, v41, v42, v43]); try rfl), (by (simp (disch := omega) only [go_sem, ↓reduceIte, Nat.reduceEqDiff, Nat.reduceAdd, Nat.reduceLeDiff, a1, a2, a3, v10, v20, v21, v30, v31, v32, v40, v41, v42, v43]); try rfl)⟩, (by (simp (disch := omega) only [go_sem, ↓reduceIte, Nat.reduceEqDiff, Nat.reduceAdd, Nat.reduceLeDiff, a1, a2, a3, v10, v20, v21, v30, v31, v32, v40, v41, v42, v43]); try rfl)⟩
      rintro d ⟨env, loc⟩ st' ⟨j, t, ds, L, hd, hj, hdr5, ho5, hf5, hp5, hw5, e2, e3, e4, ⟨l2, l2'⟩, l3⟩
      simp only at e2 e3 e4 l2 l2' l3
      by_cases hlt : j < 16
      · have c1 : decide ((j : Int) < 16) = true := by simp; omega
        obtain ⟨k5, n5, m5, s5, rfl, d1, d2, d3⟩ := ho5.args_cells
        repeat (first | (refine W_reg rfl fun G K hG hK => ?_; simp (disch := omega) only [go_sem, ↓reduceIte, Nat.reduceEqDiff, Nat.reduceAdd, Nat.reduceLeDiff, hG, a1, a2, a3, v10, v20, v21, v30, v31, v32, v40, v41, v42, v43, e2, e3, e4, l2, l2', l3, c1, d1, d2, d3]; refine hK _ _ ?_; clear hK K hG G) | (refine W_end rfl fun G K hG hK => ?_; simp (disch := omega) only [go_sem, ↓reduceIte, Nat.reduceEqDiff, Nat.reduceAdd, Nat.reduceLeDiff, hG, a1, a2, a3, v10, v20, v21, v30, v31, v32, v40, v41, v42, v43, e2, e3, e4, l2, l2', l3, c1, d1, d2, d3]; refine hK _ _ ?_; clear hK K hG G; repeat (first | refine thenI ?_ | refine thenE ?_ | refine thenR ?_ | refine inBI ?_ | refine inBR ?_ | refine inBS ?_ | refine inBN (by decide) ?_)) | refine W_seqS ?_ | refine W_seqC ?_ | refine W_seqB ?_ | refine W_block ?_ | (refine W_skip ?_; repeat (first | refine thenI ?_ | refine thenE ?_ | refine thenR ?_ | refine inBI ?_ | refine inBR ?_ | refine inBS ?_ | refine inBN (by decide) ?_)) | (refine W_condT ?hc ?_; (case hc => (simp (disch := omega) only [go_sem, ↓reduceIte, Nat.reduceEqDiff, Nat.reduceAdd, Nat.reduceLeDiff, a1, a2, a3, v10, v20, v21, v30, v31, v32, v40, v41, v42, v43, e2, e3, e4, l2, l2', l3, c1, d1, d2, d3]; done))) | (refine W_condF ?hc ?_; (case hc => (simp (disch := omega) only [go_sem, ↓reduceIte, Nat.reduceEqDiff, Nat.reduceAdd, Nat.reduceLeDiff, a1, a2, a3, v10, v20, v21, v30, v31, v32, v40, v41, v42, v43, e2, e3, e4, l2, l2', l3, c1, d1, d2, d3]; done))))
        refine W_end rfl fun G K hG hK => ?_; simp (disch := omega) only [go_sem, ↓reduceIte, Nat.reduceEqDiff, Nat.reduceAdd, Nat.reduceLeDiff, hG, a1, a2, a3, v10, v20, v21, v30, v31, v32, v40, v41, v42, v43, e2, e3, e4, l2, l2', l3, d1, d2, d3]
        refine w_call (l3One_ok ⟨#[103]⟩ t st' [.int .i64 k5, .int .i64 n5, .string m5, s5] L ho5) (by simp (disch := omega) only [go_sem, ↓reduceIte, Nat.reduceEqDiff, a1, a2, a3, v10, v20, v21, v30, v31, v32, v40, v41, v42, v43, e2, e3, e4, l2, l2', l3, d1, d2, d3]) ?hl ?_
        case hl => first | rfl | (simp only [go_sem, List.all_cons, List.all_nil, Bool.not_false, Bool.and_self, a1, a2, a3, v10, v20, v21, v30, v31, v32, v40, v41, v42, v43, e2, e3, e4, l2, l2', l3, d1, d2, d3]; done)
        rintro r_ se ⟨x1, es, rfl, ho6⟩; refine ⟨fun e => (by cases e), ?_⟩
        obtain ⟨k6, n6, m6, s6, rfl, g1, g2, g3⟩ := ho6.args_cells
        simp (disch := omega) only [go_sem, ↓reduceIte, Nat.reduceEqDiff, Nat.reduceAdd, Nat.reduceLeDiff, hG, a1, a2, a3, v10, v20, v21, v30, v31, v32, v40, v41, v42, v43, e2, e3, e4, l2, l2', l3, d1, d2, d3, g1, g2, g3]; refine hK _ _ ?_; clear hK K hG G; repeat (first | refine thenI ?_ | refine thenE ?_ | refine thenR ?_ | refine inBI ?_ | refine inBR ?_ | refine inBS ?_ | refine inBN (by decide) ?_)
        repeat (first | (refine W_reg rfl fun G K hG hK => ?_; simp (disch := omega) only [go_sem, ↓reduceIte, Nat.reduceEqDiff, Nat.reduceAdd, Nat.reduceLeDiff, hG, a1, a2, a3, v10, v20, v21, v30, v31, v32, v40, v41, v42, v43, e2, e3, e4, l2, l2', l3]; refine hK _ _ ?_; clear hK K hG G) | (refine W_end rfl fun G K hG hK => ?_; simp (disch := omega) only [go_sem, ↓reduceIte, Nat.reduceEqDiff, Nat.reduceAdd, Nat.reduceLeDiff, hG, a1, a2, a3, v10, v20, v21, v30, v31, v32, v40, v41, v42, v43, e2, e3, e4, l2, l2', l3]; refine hK _ _ ?_; clear hK K hG G; repeat (first | refine thenI ?_ | refine thenE ?_ | refine thenR ?_ | refine inBI ?_ | refine inBR ?_ | refine inBS ?_ | refine inBN (by decide) ?_)) | refine W_seqS ?_ | refine W_seqC ?_ | refine W_seqB ?_ | refine W_block ?_ | (refine W_skip ?_; repeat (first | refine thenI ?_ | refine thenE ?_ | refine thenR ?_ | refine inBI ?_ | refine inBR ?_ | refine inBS ?_ | refine inBN (by decide) ?_)) | (refine W_condT ?hc ?_; (case hc => (simp (disch := omega) only [go_sem, ↓reduceIte, Nat.reduceEqDiff, Nat.reduceAdd, Nat.reduceLeDiff, a1, a2, a3, v10, v20, v21, v30, v31, v32, v40, v41, v42, v43, e2, e3, e4, l2, l2', l3]; done))) | (refine W_condF ?hc ?_; (case hc => (simp (disch := omega) only [go_sem, ↓reduceIte, Nat.reduceEqDiff, Nat.reduceAdd, Nat.reduceLeDiff, a1, a2, a3, v10, v20, v21, v30, v31, v32, v40, v41, v42, v43, e2, e3, e4, l2, l2', l3]; done))))
        have hz : (⟨#[103]⟩ : ByteArray).size = 1 := rfl
        have hw6 : (T.mk 2 0 ⟨#[103]⟩ [t]).wt ≤ 61 + 2 * (j + 1) := by simp only [T.wt, T.wtL, List.length_cons, List.length_nil, hz]; omega
        refine ⟨16 - (j + 1), by omega, j + 1, _, _, _, rfl, by omega, hdr5.ext2 x1, ho6, hf5.cons (Own.lt _ _ _ ho5) hdr5.away.1, plain_app 0 _ _ (fun a ha => (by cases List.mem_singleton.1 ha; exact hp5)), hw6, (by (simp (disch := omega) only [go_sem, ↓reduceIte, Nat.reduceEqDiff, Nat.reduceAdd, Nat.reduceLeDiff, a1, a2, a3, v10, v20, v21, v30, v31, v32, v40, v41, v42, v43, e2, e3, e4, l2, l2', l3]); try rfl), (by (simp (disch := omega) only [go_sem, ↓reduceIte, Nat.reduceEqDiff, Nat.reduceAdd, Nat.reduceLeDiff, a1, a2, a3, v10, v20, v21, v30, v31, v32, v40, v41, v42, v43, e2, e3, e4, l2, l2', l3]); try rfl), (by (simp (disch := omega) only [go_sem, ↓reduceIte, Nat.reduceEqDiff, Nat.reduceAdd, Nat.reduceLeDiff, a1, a2, a3, v10, v20, v21, v30, v31, v32, v40, v41, v42, v43, e2, e3, e4, l2, l2', l3]); try rfl), ⟨(by (simp (disch := omega) only [go_sem, ↓reduceIte, Nat.reduceEqDiff, Nat.reduceAdd, Nat.reduceLeDiff, a1, a2, a3, v10, v20, v21, v30, v31, v32, v40, v41, v42, v43, e2, e3, e4, l2, l2', l3]); try rfl), (by (simp (disch := omega) only [go_sem, ↓reduceIte, Nat.reduceEqDiff, Nat.reduceAdd, Nat.reduceLeDiff, a1, a2, a3, v10, v20, v21, v30, v31, v32, v40, v41, v42, v43, e2, e3, e4, l2, l2', l3]); try rfl)⟩, (by (simp (disch := omega) only [go_sem, ↓reduceIte, Nat.reduceEqDiff, Nat.reduceAdd, Nat.reduceLeDiff, a1, a2, a3, v10, v20, v21, v30, v31, v32, v40, v41, v42, v43, e2, e3, e4, l2, l2', l3]); try rfl)⟩
      · have c1 : decide ((j : Int) < 16) = false := by simp; omega
        repeat (first | (refine W_reg rfl fun G K hG hK => ?_; simp (disch := omega) only [go_sem, ↓reduceIte, Nat.reduceEqDiff, Nat.reduceAdd, Nat.reduceLeDiff, hG, a1, a2, a3, v10, v20, v21, v30, v31, v32, v40, v41, v42, v43, e2, e3, e4, l2, l2', l3, c1]; refine hK _ _ ?_; clear hK K hG G) | (refine W_end rfl fun G K hG hK => ?_; simp (disch := omega) only [go_sem, ↓reduceIte, Nat.reduceEqDiff, Nat.reduceAdd, Nat.reduceLeDiff, hG, a1, a2, a3, v10, v20, v21, v30, v31, v32, v40, v41, v42, v43, e2, e3, e4, l2, l2', l3, c1]; refine hK _ _ ?_; clear hK K hG G; repeat (first | refine thenI ?_ | refine thenE ?_ | refine thenR ?_ | refine inBI ?_ | refine inBR ?_ | refine inBS ?_ | refine inBN (by decide) ?_)) | refine W_seqS ?_ | refine W_seqC ?_ | refine W_seqB ?_ | refine W_block ?_ | (refine W_skip ?_; repeat (first | refine thenI ?_ | refine thenE ?_ | refine thenR ?_ | refine inBI ?_ | refine inBR ?_ | refine inBS ?_ | refine inBN (by decide) ?_)) | (refine W_condT ?hc ?_; (case hc => (simp (disch := omega) only [go_sem, ↓reduceIte, Nat.reduceEqDiff, Nat.reduceAdd, Nat.reduceLeDiff, a1, a2, a3, v10, v20, v21, v30, v31, v32, v40, v41, v42, v43, e2, e3, e4, l2, l2', l3, c1]; done))) | (refine W_condF ?hc ?_; (case hc => (simp (disch := omega) only [go_sem, ↓reduceIte, Nat.reduceEqDiff, Nat.reduceAdd, Nat.reduceLeDiff, a1, a2, a3, v10, v20, v21, v30, v31, v32, v40, v41, v42, v43, e2, e3, e4, l2, l2', l3, c1]; done))))
        refine W_exit ?_; repeat (first | refine thenI ?_ | refine thenE ?_ | refine thenR ?_ | refine inBI ?_ | refine inBR ?_ | refine inBS ?_ | refine inBN (by decide) ?_)
        exact ⟨_, _, _, hdr5, ho5, hf5, ⟨hp5.b, by omega⟩, (by (simp (disch := omega) only [go_sem, ↓reduceIte, Nat.reduceEqDiff, Nat.reduceAdd, Nat.reduceLeDiff, a1, a2, a3, v10, v20, v21, v30, v31, v32, v40, v41, v42, v43, e2, e3, e4, l2, l2', l3]); try rfl), (by (simp (disch := omega) only [go_sem, ↓reduceIte, Nat.reduceEqDiff, Nat.reduceAdd, Nat.reduceLeDiff, a1, a2, a3, v10, v20, v21, v30, v31, v32, v40, v41, v42, v43, e2, e3, e4, l2, l2', l3]); try rfl), ⟨(by (simp (disch := omega) only [go_sem, ↓reduceIte, Nat.reduceEqDiff, Nat.reduceAdd, Nat.reduceLeDiff, a1, a2, a3, v10, v20, v21, v30, v31, v32, v40, v41, v42, v43, e2, e3, e4, l2, l2', l3]); try rfl), (by (simp (disch := omega) only [go_sem, ↓reduceIte, Nat.reduceEqDiff, Nat.reduceAdd, Nat.reduceLeDiff, a1, a2, a3, v10, v20, v21, v30, v31, v32, v40, v41, v42, v43, e2, e3, e4, l2, l2', l3]); try rfl)⟩, (by (simp (disch := omega) only [go_sem, ↓reduceIte, Nat.reduceEqDiff, Nat.reduceAdd, Nat.reduceLeDiff, a1, a2, a3, v10, v20, v21, v30, v31, v32, v40, v41, v42, v43, e2, e3, e4, l2, l2', l3]); try rfl)⟩
    · have w0 : (y == 0) = false := by simp; omega
      have w1 : (y == 1) = false := by simp; omega
      have w2 : (y == 2) = false := by simp; omega
      have w3 : (y == 3) = false := by simp; omega
      have w4 : (y == 4) = false := by simp; omega
      repeat (first | (refine W_reg rfl fun G K hG hK => ?_; simp (disch := omega) only [go_sem, ↓reduceIte, Nat.reduceEqDiff, Nat.reduceAdd, Nat.reduceLeDiff, hG, a1, a2, a3, v10, v20, v21, v30, v31, v32, v40, v41, v42, v43, w0, w1, w2, w3, w4]; refine hK _ _ ?_; clear hK K hG G) | (refine W_end rfl fun G K hG hK => ?_; simp (disch := omega) only [go_sem, ↓reduceIte, Nat.reduceEqDiff, Nat.reduceAdd, Nat.reduceLeDiff, hG, a1, a2, a3, v10, v20, v21, v30, v31, v32, v40, v41, v42, v43, w0, w1, w2, w3, w4]; refine hK _ _ ?_; clear hK K hG G; repeat (first | refine thenI ?_ | refine thenE ?_ | refine thenR ?_ | refine inBI ?_ | refine inBR ?_ | refine inBS ?_ | refine inBN (by decide) ?_)) | refine W_seqS ?_ | refine W_seqC ?_ | refine W_seqB ?_ | refine W_block ?_ | (refine W_skip ?_; repeat (first | refine thenI ?_ | refine thenE ?_ | refine thenR ?_ | refine inBI ?_ | refine inBR ?_ | refine inBS ?_ | refine inBN (by decide) ?_)) | (refine W_condT ?hc ?_; (case hc => (simp (disch := omega) only [go_sem, ↓reduceIte, Nat.reduceEqDiff, Nat.reduceAdd, Nat.reduceLeDiff, a1, a2, a3, v10, v20, v21, v30, v31, v32, v40, v41, v42, v43, w0, w1, w2, w3, w4]; done))) | (refine W_condF ?hc ?_; (case hc => (simp (disch := omega) only [go_sem, ↓reduceIte, Nat.reduceEqDiff, Nat.reduceAdd, Nat.reduceLeDiff, a1, a2, a3, v10, v20, v21, v30, v31, v32, v40, v41, v42, v43, w0, w1, w2, w3, w4]; done))))
      exact ⟨_, _, L, hdr4, ho4, hf0, bent_of hp4, (by (simp (disch := omega) only [go_sem, ↓reduceIte, Nat.reduceEqDiff, Nat.reduceAdd, Nat.reduceLeDiff, a1, a2, a3, v10, v20, v21, v30, v31, v32, v40, v41, v42, v43]); try rfl), (by (simp (disch := omega) only [go_sem, ↓reduceIte, Nat.reduceEqDiff, Nat.reduceAdd, Nat.reduceLeDiff, a1, a2, a3, v10, v20, v21, v30, v31, v32, v40, v41, v42, v43]); try rfl), ⟨(by (simp (disch := omega) only [go_sem, ↓reduceIte, Nat.reduceEqDiff, Nat.reduceAdd, Nat.reduceLeDiff, a1, a2, a3, v10, v20, v21, v30, v31, v32, v40, v41, v42, v43]); try rfl), (by (simp (disch := omega) only [go_sem, ↓reduceIte, Nat.reduceEqDiff, Nat.reduceAdd, Nat.reduceLeDiff, a1, a2, a3, v10, v20, v21, v30, v31, v32, v40, v41, v42, v43]); try rfl)⟩, (by (simp (disch := omega) only [go_sem, ↓reduceIte, Nat.reduceEqDiff, Nat.reduceAdd, Nat.reduceLeDiff, a1, a2, a3, v10, v20, v21, v30, v31, v32, v40, v41, v42, v43]); try rfl)⟩
  rintro ⟨env, loc⟩ st' ⟨t, ds, L, hdr5, ho5, hf5, hp5, e2, e3, ⟨l2, l2'⟩, l3⟩
  simp only at e2 e3 l2 l2' l3
  obtain ⟨k5, n5, m5, s5, rfl, d1, d2, d3⟩ := ho5.args_cells
  repeat (first | (refine W_reg rfl fun G K hG hK => ?_; simp (disch := omega) only [go_sem, ↓reduceIte, Nat.reduceEqDiff, Nat.reduceAdd, Nat.reduceLeDiff, hG, e2, e3, l2, l2', l3, d1, d2, d3]; refine hK _ _ ?_; clear hK K hG G) | (refine W_end rfl fun G K hG hK => ?_; simp (disch := omega) only [go_sem, ↓reduceIte, Nat.reduceEqDiff, Nat.reduceAdd, Nat.reduceLeDiff, hG, e2, e3, l2, l2', l3, d1, d2, d3]; refine hK _ _ ?_; clear hK K hG G; repeat (first | refine thenI ?_ | refine thenE ?_ | refine thenR ?_ | refine inBI ?_ | refine inBR ?_ | refine inBS ?_ | refine inBN (by decide) ?_)) | refine W_seqS ?_ | refine W_seqC ?_ | refine W_seqB ?_ | refine W_block ?_ | (refine W_skip ?_; repeat (first | refine thenI ?_ | refine thenE ?_ | refine thenR ?_ | refine inBI ?_ | refine inBR ?_ | refine inBS ?_ | refine inBN (by decide) ?_)) | (refine W_condT ?hc ?_; (case hc => (simp (disch := omega) only [go_sem, ↓reduceIte, Nat.reduceEqDiff, Nat.reduceAdd, Nat.reduceLeDiff, e2, e3, l2, l2', l3, d1, d2, d3]; done))) | (refine W_condF ?hc ?_; (case hc => (simp (disch := omega) only [go_sem, ↓reduceIte, Nat.reduceEqDiff, Nat.reduceAdd, Nat.reduceLeDiff, e2, e3, l2, l2', l3, d1, d2, d3]; done))))
  refine W_ret ?_; try (repeat (first | refine thenI ?_ | refine thenE ?_ | refine thenR ?_ | refine inBI ?_ | refine inBR ?_ | refine inBS ?_ | refine inBN (by decide) ?_))
  refine finC (.inl rfl) (by (simp (disch := omega) only [go_sem, ↓reduceIte, Nat.reduceEqDiff, Nat.reduceAdd, Nat.reduceLeDiff, e2, e3, l2, l2', l3, d1, d2, d3]); try rfl) ⟨hdr5, t, [_, _, _, _], L, rfl, ho5, hf5, hp5⟩

end

end Go.Proofs.YtpkjgjomiikofaaDoor.AM
/- Terms are totally ordered: the comparison, in plain Lean. -/
namespace Go.Proofs.YtpkjgjomiikofaaDoor.AM
open Go Go.Proofs
set_option linter.unusedVariables false
set_option linter.unusedSimpArgs false

end Go.Proofs.YtpkjgjomiikofaaDoor.AM


namespace Go.Proofs.YtpkjgjomiikofaaDoor.AM
open Go
attribute [local go_sem] List.map_cons List.map_nil List.all_cons List.all_nil Bool.and_self Option.map_some List.getElem?_toArray Option.bind_some gye_b gye_t gsk_b gsk_t gb1 gb2 gb3 gb4 bne_self_eq_false beq_self_eq_true w_guard w_nil stepV_some step_some step_some' w_move w_assign w_pick w_binOp w_unOp w_load w_fieldAddr w_indexAddr w_len w_max w_index ev_max max_int ev_index w_box w_alloc w_store w_field w_extract w_nilCheck w_convert w_buildSlice w_build ev_buildL fillL_nil fillL_cons bs0 bs1 ev_conv ev_bin ev_un ev_pick ev_load ev_fieldAddr ev_indexAddr ev_len ev_field ev_extract ev_nilCheck fr_tmp fr_int fr_bool fr_str fr_nil fr_func put_some put_none bin_lss bin_leq bin_gtr bin_geq bin_eql bin_neq bin_add bin_sub bin_mul bin_seql bin_sneq un_not pick_ ext_ loadA_p cellAt_l cellAt_h okPtr_l okPtr_h fadA_p allocA_l storeA_l cells_agg cells_int cells_str cells_sl cells_bool flat_i flat_s flat_b flat_sl flat_nil loc_agg loc_int loc_str loc_sl loc_bool loc_fn loc_ptr okv_agg okv_int okv_str okv_sl okv_bool cellsFrom splice upd_eval argEnv_zero argEnv_succ ne_eq Nat.add_one_ne_zero not_false_eq_true List.not_mem_nil and_self decide_true List.getElem?_cons_zero List.getElem?_cons_succ List.size_toArray List.length_cons List.length_nil List.take_succ_cons List.take_zero List.drop_succ_cons List.drop_zero List.cons_append List.nil_append List.drop_nil Bool.not_true Bool.not_false Bool.false_eq_true Nat.zero_add Nat.add_zero wrap_in List.toList_toArray List.mem_cons or_self or_false false_or
attribute [local go_sem] ag22 ag24 ag26 ag3 ag4 ag5 ag78 ag83 ag9 ag91 bu116 bu122 bu26 bu39 bu49 bu58 by26 by5 by9 el22 el24 el46 el53 of26_0 of26_1 of26_2 of26_3 of39_0 of49_0 of49_1 of49_2 of58_0 of58_1 of58_2 of80_0 of80_1 ro26_0 ro26_1 ro26_2 ro3_3 ro5_1 ro9_1 ro9_2 ro9_3 ro9_4 ro9_8 sz22 sz24 sz26 sz3 sz4 sz5 sz78 sz83 sz9 sz91 ze109 ze26 ze5 ze80 ze9 ze90
section
/- Terms are compared: cmp.Compare, cmp.Or, impl.CompareTerms, spec.l3Ints, l3Texts, spec.CompareTerms. -/
open Go Go.Proofs
set_option linter.unusedVariables false
set_option linter.unusedSimpArgs false
set_option maxRecDepth 100000
-- AUTO


end

section
/- Two terms drawn: spec.l3Two, DrawCompareTerms, DrawIsGround; the law FnOrder. -/
open Go Go.Proofs
set_option linter.unusedVariables false
set_option linter.unusedSimpArgs false
set_option maxRecDepth 100000
-- AUTO

def DrawE (st : St) (R : T → Prop) (r : Value) (st2 : St) : Prop := Ext st st2 ∧ ∃ t ds, r = .agg ds.toArray ∧ Enc st2 t ds ∧ R t
theorem bent_lim {t : T} (h : BentP t) : Lim 1073741824 t := Lim.of_wt _ (by have := h.2; omega)
theorem Enc.args_cells {st : St} {t : T} {cs : List Value} (h : Enc st t cs) : ∃ k n nm s, cs = [.int .i64 k, .int .i64 n, .string nm, s] ∧ isLoc s = false ∧ okv s = true ∧ vc s = #[s] := by
  obtain ⟨k, n, nm, args⟩ := t
  obtain ⟨s, rfl, hr⟩ := h.open
  exact ⟨k, n, nm, s, rfl, hr.notLoc.1, hr.notLoc.2, Row.cells1 hr⟩

end

end Go.Proofs.YtpkjgjomiikofaaDoor.AM