/- My texts for the law, laid together (part 4): F10 K6 F11 F12 WFnExactFormatGuard E6 Tie Cards ZFnExactFormatGuard. -/
import Derived.Test.YtngkedafggfehaaDoorG3
import Derived.Test.YtngkedafggfehaaDoorRows
import Derived.LaidByTextLater
import Derived.SevenTiedAt
import Derived.LaidSub
import Derived.LaidOnce
import GoSem.ClaimSeven
import Derived.Lib.LaidTab
import Derived.LaidMore
import Derived.MakeChecks
import Derived.Stop.LaidErr
import Derived.Stop.Joined
import Derived.WalkKit
import Derived.ProofKit
import Derived.OpenShut
import Derived.ShutString
import Derived.ChangeOld
import Derived.Below
import Derived.SizedLaws
import Derived.Carry
/- The text of a term: impl.termText, impl.FormatTerm, spec.l5Text, spec.FormatTerm. -/
namespace Go.Proofs.YtngkedafggfehaaDoor.AM
open Go Go.Proofs
set_option linter.unusedVariables false
set_option linter.unusedSimpArgs false
set_option maxRecDepth 100000
attribute [local go_sem] List.map_cons List.map_nil List.all_cons List.all_nil Bool.and_self Option.map_some List.getElem?_toArray Option.bind_some gye_b gye_t gsk_b gsk_t gb1 gb2 gb3 gb4 bne_self_eq_false beq_self_eq_true w_guard w_nil stepV_some step_some step_some' w_move w_assign w_pick w_binOp w_unOp w_load w_fieldAddr w_indexAddr w_len w_max w_index ev_max max_int ev_index w_box w_alloc w_store w_field w_extract w_nilCheck w_convert w_buildSlice w_build ev_buildL fillL_nil fillL_cons bs0 bs1 ev_conv ev_bin ev_un ev_pick ev_load ev_fieldAddr ev_indexAddr ev_len ev_field ev_extract ev_nilCheck fr_tmp fr_int fr_bool fr_str fr_nil fr_func put_some put_none bin_lss bin_leq bin_gtr bin_geq bin_eql bin_neq bin_add bin_sub bin_mul bin_seql bin_sneq un_not pick_ ext_ loadA_p cellAt_l cellAt_h okPtr_l okPtr_h fadA_p allocA_l storeA_l cells_agg cells_int cells_str cells_sl cells_bool flat_i flat_s flat_b flat_sl flat_nil loc_agg loc_int loc_str loc_sl loc_bool loc_fn loc_ptr okv_agg okv_int okv_str okv_sl okv_bool cellsFrom splice upd_eval argEnv_zero argEnv_succ ne_eq Nat.add_one_ne_zero not_false_eq_true List.not_mem_nil and_self decide_true List.getElem?_cons_zero List.getElem?_cons_succ List.size_toArray List.length_cons List.length_nil List.take_succ_cons List.take_zero List.drop_succ_cons List.drop_zero List.cons_append List.nil_append List.drop_nil Bool.not_true Bool.not_false Bool.false_eq_true Nat.zero_add Nat.add_zero wrap_in List.toList_toArray List.mem_cons or_self or_false false_or
attribute [local go_sem] ag22 ag24 ag26 ag29 ag3 ag31 ag33 ag5 ag54 ag56 ag69 ag9 by31 by5 by9 el22 el29 el46 el54 of24_0 of24_1 of24_2 of24_3 of26_0 of26_1 of26_2 of31_0 of31_1 of31_2 of31_3 of33_0 of33_1 of33_2 of58_0 of58_1 ro5_1 ro9_1 ro9_3 ro9_4 sz22 sz24 sz26 sz29 sz3 sz31 sz33 sz5 sz54 sz56 sz69 sz9 ze31 ze33 ze5 ze58 ze68 ze81 ze9
-- AUTO

theorem isNm_len {lo hi : Nat} {l : List UInt8} (h : isNm lo hi l = true) : l.length ≤ 8 := by
  cases l with
  | nil => simp
  | cons b r =>
    simp only [isNm, Bool.and_eq_true, decide_eq_true_eq] at h
    simp only [List.length_cons]
    omega
theorem fmtL_tail (xs : List T) : T.fmtL xs = Lib.joinTail [44, 32] (xs.map T.fmt) := by
  induction xs with
  | nil => rfl
  | cons x xs ih =>
    simp only [T.fmtL, ih, List.map_cons]
    simp [Lib.joinTail]
theorem fmtL_join {xs : List T} (h : xs ≠ []) : (T.fmtL xs).drop 2 = Lib.join (xs.map T.fmt) [44, 32] := by
  cases xs with
  | nil => exact absurd rfl h
  | cons x xs =>
    rw [List.map_cons, Lib.join_cons, ← fmtL_tail]
    simp only [T.fmtL, List.drop_succ_cons, List.drop_zero]
theorem fmtL_len {xs : List T} (h : ∀ x ∈ xs, x.fmt.length + 2 ≤ 12 * x.count) : (T.fmtL xs).length ≤ 12 * T.countL xs := by
  induction xs with
  | nil => simp [T.fmtL]
  | cons x xs ih =>
    have h1 := h x (by simp)
    have h2 := ih fun y hy => h y (by simp [hy])
    simp only [T.fmtL, T.countL, List.length_cons, List.length_append]
    omega
/-- The text of a term is not long. -/
theorem fmt_len : ∀ t : T, t.nodes = true → t.fmt.length + 2 ≤ 12 * t.count := by
  refine T.ind fun k n nm args ih h => ?_
  obtain ⟨h1, h2⟩ := nodes_mk.1 h
  have hL := fmtL_len (xs := args) fun x hx => ih x hx (h1 x hx)
  simp only [T.count]
  rcases node_kinds h2 with ⟨rfl, _, rfl, hv⟩ | ⟨rfl, _, hv⟩ | ⟨rfl, h3, h4, _, _⟩
  · rw [fmt_leaf (by decide)]
    have := isNm_len hv
    omega
  · have h5 := isNm_len hv
    by_cases ha : args = []
    · subst ha
      rw [fmt_leaf (by decide)]
      omega
    · rw [fmt_node (by decide) ha]
      simp only [List.length_append, List.length_cons, List.length_drop, List.length_nil]
      have h6 := fmtL_ne ha
      have h7 := congrArg List.length h6
      simp only [List.length_cons, List.length_drop] at h7
      omega
  · rw [fmt_word]
    obtain ⟨b, hb, _⟩ := small_itoa h3 h4
    rw [hb]
    simp; omega
def T.fmtB (t : T) : ByteArray := ⟨t.fmt.toArray⟩
theorem fmtB_list (t : T) : t.fmtB.data.toList = t.fmt := by simp [T.fmtB]
theorem fmtB_size (t : T) : t.fmtB.size = t.fmt.length := size_mk _
theorem fmtB_map (xs : List T) : (xs.map T.fmtB).map (fun b : ByteArray => b.data.toList) = xs.map T.fmt := by
  rw [List.map_map]
  exact List.map_congr_left fun x _ => fmtB_list x
theorem sepB : (⟨#[44, 32]⟩ : ByteArray).data.toList = [44, 32] := rfl
theorem ba_app (a b : List UInt8) : (⟨a.toArray⟩ : ByteArray) ++ ⟨b.toArray⟩ = ⟨(a ++ b).toArray⟩ := by
  apply ByteArray.ext
  apply Array.ext'
  simp
theorem ba_app2 (s : ByteArray) (b : List UInt8) : s ++ ⟨b.toArray⟩ = ⟨(s.data.toList ++ b).toArray⟩ := by
  apply ByteArray.ext
  apply Array.ext'
  simp
theorem itoa_i64 {n : Int} (h0 : 0 ≤ n) (h1 : n ≤ 3) : -9223372036854775808 ≤ n ∧ n ≤ 9223372036854775807 := by omega
theorem countL_take_lt {xs : List T} {j : Nat} (h : j < xs.length) : xs[j].count ≤ T.countL xs := countL_mem (List.getElem_mem h)
theorem node_word {k n : Int} {nm : ByteArray} {args : List T} (h : (T.mk k n nm args).nodes = true) (hk : k = 3) : 0 ≤ n ∧ n ≤ 3 := by
  rcases node_kinds (nodes_mk.1 h).2 with ⟨rfl, _⟩ | ⟨rfl, _⟩ | ⟨_, h3, h4, _⟩
  · cases hk
  · cases hk
  · exact ⟨h3, h4⟩
theorem implText_ok : ∀ (t : T) (st : St) (cs : List Value), t.nodes = true → t.count ≤ 1048576 → Enc st t cs →
    CallS Tryd.prog 26 [.agg cs.toArray] st fun r st2 => Ext st st2 ∧ r = .string ⟨t.fmt.toArray⟩ := by
  refine T.ind fun k n nm xs ih st cs hnd hcn hE => ?_
  obtain ⟨s1, rfl, hr⟩ := hE.open
  refine CallS_of_W [] 38 Tryd.func26 rfl rfl rfl rfl (by simp) ?_
  have q1 := hr.notLoc.1
  have q2 := hr.notLoc.2
  obtain ⟨hnx, hno⟩ := nodes_mk.1 hnd
  have hlen : lenE Tryd.prog 29 s1 = some (.int .i64 xs.length) := row_len hr Tryd.underlying29
  have hcl : T.countL xs ≤ 1048576 := by simp only [T.count] at hcn; omega
  have hxl := countL_length xs
  have hfl := fmt_len _ hnd
  by_cases hk : k = 3
  · have c1 : (k == 3) = true := by simpa using hk
    have hn := node_word hnd hk
    repeat (first | (refine W_reg rfl fun G K hG hK => ?_; simp (disch := omega) only [go_sem, ↓reduceIte, Nat.reduceEqDiff, Nat.reduceAdd, Nat.reduceLeDiff, hG, q1, q2, hlen, c1]; refine hK _ _ ?_; clear hK K hG G) | (refine W_end rfl fun G K hG hK => ?_; simp (disch := omega) only [go_sem, ↓reduceIte, Nat.reduceEqDiff, Nat.reduceAdd, Nat.reduceLeDiff, hG, q1, q2, hlen, c1]; refine hK _ _ ?_; clear hK K hG G; repeat (first | refine thenI ?_ | refine thenE ?_ | refine thenR ?_ | refine inBI ?_ | refine inBR ?_ | refine inBS ?_ | refine inBN (by decide) ?_)) | refine W_seqS ?_ | refine W_seqC ?_ | refine W_seqB ?_ | refine W_block ?_ | (refine W_skip ?_; repeat (first | refine thenI ?_ | refine thenE ?_ | refine thenR ?_ | refine inBI ?_ | refine inBR ?_ | refine inBS ?_ | refine inBN (by decide) ?_)) | (refine W_condT ?hc ?_; (case hc => (simp (disch := omega) only [go_sem, ↓reduceIte, Nat.reduceEqDiff, Nat.reduceAdd, Nat.reduceLeDiff, q1, q2, hlen, c1]; done))) | (refine W_condF ?hc ?_; (case hc => (simp (disch := omega) only [go_sem, ↓reduceIte, Nat.reduceEqDiff, Nat.reduceAdd, Nat.reduceLeDiff, q1, q2, hlen, c1]; done))))
    (repeat (first | refine W_seqS ?_ | refine W_seqC ?_ | refine W_seqB ?_ | refine W_block ?_)); refine W_reg rfl fun G K hG hK => ?_; simp (disch := omega) only [go_sem, ↓reduceIte, Nat.reduceEqDiff, Nat.reduceAdd, Nat.reduceLeDiff, hG, q1, q2, hlen]
    refine w_call (implFormatInt_ok n st (by omega) (by omega)) (by simp (disch := omega) only [go_sem, ↓reduceIte, Nat.reduceEqDiff, q1, q2, hlen]) ?hl ?_
    case hl => first | rfl | (simp only [go_sem, List.all_cons, List.all_nil, Bool.not_false, Bool.and_self, q1, q2, hlen]; done)
    rintro r_ st ⟨rfl, rfl⟩; refine ⟨fun e => (by cases e), ?_⟩
    simp (disch := omega) only [go_sem, ↓reduceIte, Nat.reduceEqDiff, Nat.reduceAdd, Nat.reduceLeDiff, hG, q1, q2, hlen]; refine hK _ _ ?_; clear hK K hG G; repeat (first | refine thenI ?_ | refine thenE ?_ | refine thenR ?_ | refine inBI ?_ | refine inBR ?_ | refine inBS ?_ | refine inBN (by decide) ?_)
    refine W_ret ?_; try (repeat (first | refine thenI ?_ | refine thenE ?_ | refine thenR ?_ | refine inBI ?_ | refine inBR ?_ | refine inBS ?_ | refine inBN (by decide) ?_))
    refine fin1 (.inl rfl) (by (simp (disch := omega) only [go_sem, ↓reduceIte, Nat.reduceEqDiff, Nat.reduceAdd, Nat.reduceLeDiff, q1, q2, hlen]); try rfl) rfl ⟨Ext.refl _, by subst hk; rw [fmt_word]⟩
  have c1 : (k == 3) = false := by simpa using hk
  by_cases h0 : xs = []
  · subst h0
    have c2 : (((([] : List T).length : Nat) : Int) == 0) = true := by decide
    have c3 : (((0 : Nat) : Int) == 0) = true := by decide
    repeat (first | (refine W_reg rfl fun G K hG hK => ?_; simp (disch := omega) only [go_sem, ↓reduceIte, Nat.reduceEqDiff, Nat.reduceAdd, Nat.reduceLeDiff, hG, q1, q2, hlen, c1, c2, c3]; refine hK _ _ ?_; clear hK K hG G) | (refine W_end rfl fun G K hG hK => ?_; simp (disch := omega) only [go_sem, ↓reduceIte, Nat.reduceEqDiff, Nat.reduceAdd, Nat.reduceLeDiff, hG, q1, q2, hlen, c1, c2, c3]; refine hK _ _ ?_; clear hK K hG G; repeat (first | refine thenI ?_ | refine thenE ?_ | refine thenR ?_ | refine inBI ?_ | refine inBR ?_ | refine inBS ?_ | refine inBN (by decide) ?_)) | refine W_seqS ?_ | refine W_seqC ?_ | refine W_seqB ?_ | refine W_block ?_ | (refine W_skip ?_; repeat (first | refine thenI ?_ | refine thenE ?_ | refine thenR ?_ | refine inBI ?_ | refine inBR ?_ | refine inBS ?_ | refine inBN (by decide) ?_)) | (refine W_condT ?hc ?_; (case hc => (simp (disch := omega) only [go_sem, ↓reduceIte, Nat.reduceEqDiff, Nat.reduceAdd, Nat.reduceLeDiff, q1, q2, hlen, c1, c2, c3]; done))) | (refine W_condF ?hc ?_; (case hc => (simp (disch := omega) only [go_sem, ↓reduceIte, Nat.reduceEqDiff, Nat.reduceAdd, Nat.reduceLeDiff, q1, q2, hlen, c1, c2, c3]; done))))
    refine W_ret ?_; try (repeat (first | refine thenI ?_ | refine thenE ?_ | refine thenR ?_ | refine inBI ?_ | refine inBR ?_ | refine inBS ?_ | refine inBN (by decide) ?_))
    refine fin1 (.inl rfl) (by (simp (disch := omega) only [go_sem, ↓reduceIte, Nat.reduceEqDiff, Nat.reduceAdd, Nat.reduceLeDiff, q1, q2, hlen]); try rfl) rfl ⟨Ext.refl _, by rw [fmt_leaf hk]⟩
  have hpos : xs.length ≠ 0 := fun e => h0 (List.eq_nil_of_length_eq_zero e)
  have c2 : ((xs.length : Int) == 0) = false := by simp; omega
  repeat (first | (refine W_reg rfl fun G K hG hK => ?_; simp (disch := omega) only [go_sem, ↓reduceIte, Nat.reduceEqDiff, Nat.reduceAdd, Nat.reduceLeDiff, hG, q1, q2, hlen, c1, c2]; refine hK _ _ ?_; clear hK K hG G) | (refine W_end rfl fun G K hG hK => ?_; simp (disch := omega) only [go_sem, ↓reduceIte, Nat.reduceEqDiff, Nat.reduceAdd, Nat.reduceLeDiff, hG, q1, q2, hlen, c1, c2]; refine hK _ _ ?_; clear hK K hG G; repeat (first | refine thenI ?_ | refine thenE ?_ | refine thenR ?_ | refine inBI ?_ | refine inBR ?_ | refine inBS ?_ | refine inBN (by decide) ?_)) | refine W_seqS ?_ | refine W_seqC ?_ | refine W_seqB ?_ | refine W_block ?_ | (refine W_skip ?_; repeat (first | refine thenI ?_ | refine thenE ?_ | refine thenR ?_ | refine inBI ?_ | refine inBR ?_ | refine inBS ?_ | refine inBN (by decide) ?_)) | (refine W_condT ?hc ?_; (case hc => (simp (disch := omega) only [go_sem, ↓reduceIte, Nat.reduceEqDiff, Nat.reduceAdd, Nat.reduceLeDiff, q1, q2, hlen, c1, c2]; done))) | (refine W_condF ?hc ?_; (case hc => (simp (disch := omega) only [go_sem, ↓reduceIte, Nat.reduceEqDiff, Nat.reduceAdd, Nat.reduceLeDiff, q1, q2, hlen, c1, c2]; done))))
  refine W_loop (fun d fr st' => ∃ (j : Nat) (r : Value) (L : List Nat), d = xs.length - j ∧ j ≤ xs.length ∧ (Ext st st') ∧ (Sl st' ((xs.take j).map T.fmtB) r L) ∧ (Fresh st.length L) ∧ (fr.env 1 = .pointer (some ⟨1, 0, some 1⟩)) ∧ (fr.env 3 = r) ∧ (fr.env 19 = s1) ∧ (fr.env 20 = .int .i64 xs.length) ∧ (fr.env 21 = .int .i64 j) ∧ (fr.loc 1 = (1, [.int .i64 k, .int .i64 n, .string nm, s1]))) (xs.length) ?_ ?_
  · exact ⟨0, _, _, by omega, by omega, Ext.refl _, Sl.nil _, ⟨by simp, by simp⟩, (by (simp (disch := omega) only [go_sem, ↓reduceIte, Nat.reduceEqDiff, Nat.reduceAdd, Nat.reduceLeDiff, q1, q2, hlen]); try rfl), (by (simp (disch := omega) only [go_sem, ↓reduceIte, Nat.reduceEqDiff, Nat.reduceAdd, Nat.reduceLeDiff, q1, q2, hlen]); try rfl), (by (simp (disch := omega) only [go_sem, ↓reduceIte, Nat.reduceEqDiff, Nat.reduceAdd, Nat.reduceLeDiff, q1, q2, hlen]); try rfl), (by (simp (disch := omega) only [go_sem, ↓reduceIte, Nat.reduceEqDiff, Nat.reduceAdd, Nat.reduceLeDiff, q1, q2, hlen]); try rfl), (by (simp (disch := omega) only [go_sem, ↓reduceIte, Nat.reduceEqDiff, Nat.reduceAdd, Nat.reduceLeDiff, q1, q2, hlen]); try rfl), (by (simp (disch := omega) only [go_sem, ↓reduceIte, Nat.reduceEqDiff, Nat.reduceAdd, Nat.reduceLeDiff, q1, q2, hlen]); try rfl)⟩
  rintro d ⟨env, loc⟩ st' ⟨j, r, L, hd, hj, hext, hown, hfr, e1, e3, e19, e20, e21, l1⟩
  simp only at e1 e3 e19 e20 e21 l1
  have ol := hown.loc
  by_cases hlt : j < xs.length
  · have c1 : decide ((j : Int) < (xs.length : Int)) = true := by simpa using hlt
    have hi := idxOk hlt
    have hx : xs[j]? = some xs[j] := List.getElem?_eq_getElem hlt
    have htk : xs.take (j + 1) = xs.take j ++ [xs[j]] := List.take_succ_eq_append_getElem hlt
    obtain ⟨i, o, c, cs, rfl, hcl2, hE, hcs⟩ := row_at hr hx
    have hld := fun loc => load_row (A := []) (loc := loc) ag31 sz31 hcl2 (hcs.ext hext)
    obtain ⟨kx, nx, mx, ax, hxe⟩ := T.eta xs[j]
    have hEx := hE
    rw [hxe] at hEx
    obtain ⟨sx, rfl, hrx⟩ := hEx.open
    have x1' := hrx.notLoc.1
    have x2' := hrx.notLoc.2
    have hnx2 : (xs.take (j + 1)).map T.fmtB = (xs.take j).map T.fmtB ++ [xs[j].fmtB] := by rw [htk, List.map_append]; rfl
    have hcj := countL_take_lt hlt
    repeat (first | (refine W_reg rfl fun G K hG hK => ?_; simp (disch := omega) only [go_sem, ↓reduceIte, Nat.reduceEqDiff, Nat.reduceAdd, Nat.reduceLeDiff, hG, q1, q2, hlen, e1, e3, e19, e20, e21, l1, c1, hi, idxA, Int.toNat_natCast, hld, x1', x2']; refine hK _ _ ?_; clear hK K hG G) | (refine W_end rfl fun G K hG hK => ?_; simp (disch := omega) only [go_sem, ↓reduceIte, Nat.reduceEqDiff, Nat.reduceAdd, Nat.reduceLeDiff, hG, q1, q2, hlen, e1, e3, e19, e20, e21, l1, c1, hi, idxA, Int.toNat_natCast, hld, x1', x2']; refine hK _ _ ?_; clear hK K hG G; repeat (first | refine thenI ?_ | refine thenE ?_ | refine thenR ?_ | refine inBI ?_ | refine inBR ?_ | refine inBS ?_ | refine inBN (by decide) ?_)) | refine W_seqS ?_ | refine W_seqC ?_ | refine W_seqB ?_ | refine W_block ?_ | (refine W_skip ?_; repeat (first | refine thenI ?_ | refine thenE ?_ | refine thenR ?_ | refine inBI ?_ | refine inBR ?_ | refine inBS ?_ | refine inBN (by decide) ?_)) | (refine W_condT ?hc ?_; (case hc => (simp (disch := omega) only [go_sem, ↓reduceIte, Nat.reduceEqDiff, Nat.reduceAdd, Nat.reduceLeDiff, q1, q2, hlen, e1, e3, e19, e20, e21, l1, c1, hi, idxA, Int.toNat_natCast, hld, x1', x2']; done))) | (refine W_condF ?hc ?_; (case hc => (simp (disch := omega) only [go_sem, ↓reduceIte, Nat.reduceEqDiff, Nat.reduceAdd, Nat.reduceLeDiff, q1, q2, hlen, e1, e3, e19, e20, e21, l1, c1, hi, idxA, Int.toNat_natCast, hld, x1', x2']; done))))
    refine W_end rfl fun G K hG hK => ?_; simp (disch := omega) only [go_sem, ↓reduceIte, Nat.reduceEqDiff, Nat.reduceAdd, Nat.reduceLeDiff, hG, q1, q2, hlen, e1, e3, e19, e20, e21, l1, c1, hi, idxA, Int.toNat_natCast, ol, x1', x2']
    refine w_call (ih xs[j] (List.getElem_mem hlt) st' _ (hnx _ (List.getElem_mem hlt)) (by omega) (Enc.ext hext _ _ hE)) (by simp (disch := omega) only [go_sem, ↓reduceIte, Nat.reduceEqDiff, q1, q2, hlen, e1, e3, e19, e20, e21, l1, c1, hi, idxA, Int.toNat_natCast, ol]) ?hl ?_
    case hl => first | rfl | (simp only [go_sem, List.all_cons, List.all_nil, Bool.not_false, Bool.and_self, q1, q2, hlen, e1, e3, e19, e20, e21, l1, c1, hi, idxA, Int.toNat_natCast, ol]; done)
    rintro r_ sb ⟨x3, rfl⟩; refine ⟨fun e => (by cases e), ?_⟩
    obtain ⟨r', sc, L', hap, h1, h2, h3⟩ := pushS (w := (⟨(xs[j].fmt).toArray⟩ : ByteArray)) (hown.ext x3) hfr (hext.trans x3) (by simp; omega)
    have ol' := h1.loc
    simp (disch := omega) only [go_sem, ↓reduceIte, Nat.reduceEqDiff, Nat.reduceAdd, Nat.reduceLeDiff, hG, q1, q2, hlen, e1, e3, e19, e20, e21, l1, c1, hi, idxA, Int.toNat_natCast, ol, w_append, hap, ol']; refine hK _ _ ?_; clear hK K hG G; repeat (first | refine thenI ?_ | refine thenE ?_ | refine thenR ?_ | refine inBI ?_ | refine inBR ?_ | refine inBS ?_ | refine inBN (by decide) ?_)
    repeat (first | (refine W_reg rfl fun G K hG hK => ?_; simp (disch := omega) only [go_sem, ↓reduceIte, Nat.reduceEqDiff, Nat.reduceAdd, Nat.reduceLeDiff, hG, q1, q2, hlen, e1, e3, e19, e20, e21, l1, c1, hi, idxA, Int.toNat_natCast]; refine hK _ _ ?_; clear hK K hG G) | (refine W_end rfl fun G K hG hK => ?_; simp (disch := omega) only [go_sem, ↓reduceIte, Nat.reduceEqDiff, Nat.reduceAdd, Nat.reduceLeDiff, hG, q1, q2, hlen, e1, e3, e19, e20, e21, l1, c1, hi, idxA, Int.toNat_natCast]; refine hK _ _ ?_; clear hK K hG G; repeat (first | refine thenI ?_ | refine thenE ?_ | refine thenR ?_ | refine inBI ?_ | refine inBR ?_ | refine inBS ?_ | refine inBN (by decide) ?_)) | refine W_seqS ?_ | refine W_seqC ?_ | refine W_seqB ?_ | refine W_block ?_ | (refine W_skip ?_; repeat (first | refine thenI ?_ | refine thenE ?_ | refine thenR ?_ | refine inBI ?_ | refine inBR ?_ | refine inBS ?_ | refine inBN (by decide) ?_)) | (refine W_condT ?hc ?_; (case hc => (simp (disch := omega) only [go_sem, ↓reduceIte, Nat.reduceEqDiff, Nat.reduceAdd, Nat.reduceLeDiff, q1, q2, hlen, e1, e3, e19, e20, e21, l1, c1, hi, idxA, Int.toNat_natCast]; done))) | (refine W_condF ?hc ?_; (case hc => (simp (disch := omega) only [go_sem, ↓reduceIte, Nat.reduceEqDiff, Nat.reduceAdd, Nat.reduceLeDiff, q1, q2, hlen, e1, e3, e19, e20, e21, l1, c1, hi, idxA, Int.toNat_natCast]; done))))
    refine ⟨xs.length - (j + 1), by omega, j + 1, r', L', rfl, by omega, h3, by rw [hnx2]; exact h1, h2, (by (simp (disch := omega) only [go_sem, ↓reduceIte, Nat.reduceEqDiff, Nat.reduceAdd, Nat.reduceLeDiff, q1, q2, hlen, e1, e3, e19, e20, e21, l1, c1, hi, idxA, Int.toNat_natCast]); try rfl), (by (simp (disch := omega) only [go_sem, ↓reduceIte, Nat.reduceEqDiff, Nat.reduceAdd, Nat.reduceLeDiff, q1, q2, hlen, e1, e3, e19, e20, e21, l1, c1, hi, idxA, Int.toNat_natCast]); try rfl), (by (simp (disch := omega) only [go_sem, ↓reduceIte, Nat.reduceEqDiff, Nat.reduceAdd, Nat.reduceLeDiff, q1, q2, hlen, e1, e3, e19, e20, e21, l1, c1, hi, idxA, Int.toNat_natCast]); try rfl), (by (simp (disch := omega) only [go_sem, ↓reduceIte, Nat.reduceEqDiff, Nat.reduceAdd, Nat.reduceLeDiff, q1, q2, hlen, e1, e3, e19, e20, e21, l1, c1, hi, idxA, Int.toNat_natCast]); try rfl), (by (simp (disch := omega) only [go_sem, ↓reduceIte, Nat.reduceEqDiff, Nat.reduceAdd, Nat.reduceLeDiff, q1, q2, hlen, e1, e3, e19, e20, e21, l1, c1, hi, idxA, Int.toNat_natCast]); try rfl), (by (simp (disch := omega) only [go_sem, ↓reduceIte, Nat.reduceEqDiff, Nat.reduceAdd, Nat.reduceLeDiff, q1, q2, hlen, e1, e3, e19, e20, e21, l1, c1, hi, idxA, Int.toNat_natCast]); try rfl)⟩
  · have c1 : decide ((j : Int) < (xs.length : Int)) = false := by simpa using hlt
    have hjn : j = xs.length := by omega
    subst hjn
    rw [List.take_length] at hown
    have ol := hown.loc
    rw [fmt_node hk h0]
    have hj := fmtL_join h0
    have hjl : (Lib.join (xs.map T.fmt) [44, 32]).length ≤ 12582912 := by
      rw [← hj, List.length_drop]
      have := fmtL_len (xs := xs) fun x hx => fmt_len x (hnx x hx)
      omega
    have f1 : nm ++ (⟨#[40]⟩ : ByteArray) = ⟨(nm.data.toList ++ [40]).toArray⟩ := ba_app2 nm [40]
    have f2 : (⟨(nm.data.toList ++ [40]).toArray⟩ : ByteArray) ++ ⟨(Lib.join (xs.map T.fmt) [44, 32]).toArray⟩ = ⟨(nm.data.toList ++ [40] ++ Lib.join (xs.map T.fmt) [44, 32]).toArray⟩ := ba_app _ _
    have f3 : (⟨(nm.data.toList ++ [40] ++ Lib.join (xs.map T.fmt) [44, 32]).toArray⟩ : ByteArray) ++ ⟨#[41]⟩ = ⟨(nm.data.toList ++ [40] ++ Lib.join (xs.map T.fmt) [44, 32] ++ [41]).toArray⟩ := ba_app _ [41]
    have hnl : nm.size ≤ 12582912 := by
      rw [fmt_node hk h0] at hfl
      rw [size_list]
      simp only [List.length_append] at hfl
      omega
    have a1 : ∀ (x y : Operand), binE Tryd.prog .add 9 x y (.string nm) (.string ⟨#[40]⟩) = some (.string ⟨(nm.data.toList ++ [40]).toArray⟩) := fun x y => by
      rw [← f1]
      exact bin_sadd (by have : (⟨#[40]⟩ : ByteArray).size = 1 := rfl; omega)
    have a2 : ∀ (x y : Operand), binE Tryd.prog .add 9 x y (.string ⟨(nm.data.toList ++ [40]).toArray⟩) (.string ⟨(Lib.join (xs.map T.fmt) [44, 32]).toArray⟩) = some (.string ⟨(nm.data.toList ++ [40] ++ Lib.join (xs.map T.fmt) [44, 32]).toArray⟩) := fun x y => by
      rw [← f2]
      exact bin_sadd (by rw [size_mk, size_mk, List.length_append, ← size_list]; simp only [List.length_cons, List.length_nil]; omega)
    have a3 : ∀ (x y : Operand), binE Tryd.prog .add 9 x y (.string ⟨(nm.data.toList ++ [40] ++ Lib.join (xs.map T.fmt) [44, 32]).toArray⟩) (.string ⟨#[41]⟩) = some (.string ⟨(nm.data.toList ++ [40] ++ Lib.join (xs.map T.fmt) [44, 32] ++ [41]).toArray⟩) := fun x y => by
      rw [← f3]
      exact bin_sadd (by rw [size_mk, List.length_append, List.length_append, ← size_list]; have : (⟨#[41]⟩ : ByteArray).size = 1 := rfl; simp only [List.length_cons, List.length_nil]; omega)
    repeat (first | (refine W_reg rfl fun G K hG hK => ?_; simp (disch := omega) only [go_sem, ↓reduceIte, Nat.reduceEqDiff, Nat.reduceAdd, Nat.reduceLeDiff, hG, q1, q2, hlen, e1, e3, e19, e20, e21, l1, c1]; refine hK _ _ ?_; clear hK K hG G) | (refine W_end rfl fun G K hG hK => ?_; simp (disch := omega) only [go_sem, ↓reduceIte, Nat.reduceEqDiff, Nat.reduceAdd, Nat.reduceLeDiff, hG, q1, q2, hlen, e1, e3, e19, e20, e21, l1, c1]; refine hK _ _ ?_; clear hK K hG G; repeat (first | refine thenI ?_ | refine thenE ?_ | refine thenR ?_ | refine inBI ?_ | refine inBR ?_ | refine inBS ?_ | refine inBN (by decide) ?_)) | refine W_seqS ?_ | refine W_seqC ?_ | refine W_seqB ?_ | refine W_block ?_ | (refine W_skip ?_; repeat (first | refine thenI ?_ | refine thenE ?_ | refine thenR ?_ | refine inBI ?_ | refine inBR ?_ | refine inBS ?_ | refine inBN (by decide) ?_)) | (refine W_condT ?hc ?_; (case hc => (simp (disch := omega) only [go_sem, ↓reduceIte, Nat.reduceEqDiff, Nat.reduceAdd, Nat.reduceLeDiff, q1, q2, hlen, e1, e3, e19, e20, e21, l1, c1]; done))) | (refine W_condF ?hc ?_; (case hc => (simp (disch := omega) only [go_sem, ↓reduceIte, Nat.reduceEqDiff, Nat.reduceAdd, Nat.reduceLeDiff, q1, q2, hlen, e1, e3, e19, e20, e21, l1, c1]; done))))
    refine W_exit ?_; repeat (first | refine thenI ?_ | refine thenE ?_ | refine thenR ?_ | refine inBI ?_ | refine inBR ?_ | refine inBS ?_ | refine inBN (by decide) ?_)
    repeat (first | (refine W_reg rfl fun G K hG hK => ?_; simp (disch := omega) only [go_sem, ↓reduceIte, Nat.reduceEqDiff, Nat.reduceAdd, Nat.reduceLeDiff, hG, q1, q2, hlen, e1, e3, e19, e20, e21, l1, c1]; refine hK _ _ ?_; clear hK K hG G) | (refine W_end rfl fun G K hG hK => ?_; simp (disch := omega) only [go_sem, ↓reduceIte, Nat.reduceEqDiff, Nat.reduceAdd, Nat.reduceLeDiff, hG, q1, q2, hlen, e1, e3, e19, e20, e21, l1, c1]; refine hK _ _ ?_; clear hK K hG G; repeat (first | refine thenI ?_ | refine thenE ?_ | refine thenR ?_ | refine inBI ?_ | refine inBR ?_ | refine inBS ?_ | refine inBN (by decide) ?_)) | refine W_seqS ?_ | refine W_seqC ?_ | refine W_seqB ?_ | refine W_block ?_ | (refine W_skip ?_; repeat (first | refine thenI ?_ | refine thenE ?_ | refine thenR ?_ | refine inBI ?_ | refine inBR ?_ | refine inBS ?_ | refine inBN (by decide) ?_)) | (refine W_condT ?hc ?_; (case hc => (simp (disch := omega) only [go_sem, ↓reduceIte, Nat.reduceEqDiff, Nat.reduceAdd, Nat.reduceLeDiff, q1, q2, hlen, e1, e3, e19, e20, e21, l1, c1]; done))) | (refine W_condF ?hc ?_; (case hc => (simp (disch := omega) only [go_sem, ↓reduceIte, Nat.reduceEqDiff, Nat.reduceAdd, Nat.reduceLeDiff, q1, q2, hlen, e1, e3, e19, e20, e21, l1, c1]; done))))
    (repeat (first | refine W_seqS ?_ | refine W_seqC ?_ | refine W_seqB ?_ | refine W_block ?_)); refine W_regD mixed [] [(0,false),(1,false),(2,false),(3,false),(4,true),(5,false),(6,false),(7,false)] rfl (by decide +kernel) fun G K hG hK => ?_; simp only [pickOps, List.filterMap_cons, List.filterMap_nil, List.getElem?_cons_zero, List.getElem?_cons_succ, Option.map_some]; simp (disch := omega) only [go_sem, ↓reduceIte, Nat.reduceEqDiff, Nat.reduceAdd, Nat.reduceLeDiff, hG, q1, q2, hlen, e1, e3, e19, e20, e21, l1, c1, ol, a1]
    refine w_call (implJoin_ok (xs.map T.fmtB) ⟨#[44, 32]⟩ st' r (by simp; omega) (by rw [sepB, fmtB_map]; omega) hown.row) (by simp (disch := omega) only [go_sem, ↓reduceIte, Nat.reduceEqDiff, q1, q2, hlen, e1, e3, e19, e20, e21, l1, c1, ol]) ?hl ?_
    case hl => first | rfl | (simp only [go_sem, List.all_cons, List.all_nil, Bool.not_false, Bool.and_self, q1, q2, hlen, e1, e3, e19, e20, e21, l1, c1, ol]; done)
    rintro r_ st' ⟨rfl, rfl⟩; refine ⟨fun e => Ext.refl _, ?_⟩
    rw [sepB, fmtB_map]
    simp (disch := omega) only [go_sem, ↓reduceIte, Nat.reduceEqDiff, Nat.reduceAdd, Nat.reduceLeDiff, hG, q1, q2, hlen, e1, e3, e19, e20, e21, l1, c1, a1, a2, a3]; refine hK _ _ ?_; clear hK K hG G; repeat (first | refine thenI ?_ | refine thenE ?_ | refine thenR ?_ | refine inBI ?_ | refine inBR ?_ | refine inBS ?_ | refine inBN (by decide) ?_)
    refine W_ret ?_; try (repeat (first | refine thenI ?_ | refine thenE ?_ | refine thenR ?_ | refine inBI ?_ | refine inBR ?_ | refine inBS ?_ | refine inBN (by decide) ?_))
    refine fin1 (.inl rfl) (by (simp (disch := omega) only [go_sem, ↓reduceIte, Nat.reduceEqDiff, Nat.reduceAdd, Nat.reduceLeDiff, q1, q2, hlen, e1, e3, e19, e20, e21, l1, c1]); try rfl) rfl ⟨hext, by rw [hj]; simp⟩

def outL (nm : ByteArray) (xs : List T) (j : Nat) : List UInt8 := nm.data.toList ++ (if j = 0 then ([] : List UInt8) else (40 : UInt8) :: (T.fmtL (xs.take j)).drop 2)
theorem fmtL_app (xs ys : List T) : T.fmtL (xs ++ ys) = T.fmtL xs ++ T.fmtL ys := by
  induction xs with
  | nil => rfl
  | cons x xs ih => simp only [List.cons_append, T.fmtL, ih, List.append_assoc]
theorem outL_zero (nm : ByteArray) (xs : List T) : outL nm xs 0 = nm.data.toList := by unfold outL; rw [if_pos rfl, List.append_nil]
theorem outL_one {nm : ByteArray} {xs : List T} {j : Nat} (h : j < xs.length) (h0 : j = 0) : outL nm xs (j + 1) = outL nm xs j ++ ([40] : List UInt8) ++ xs[j].fmt := by
  subst h0
  unfold outL
  rw [if_neg (by omega), if_pos rfl, List.take_succ_eq_append_getElem h, List.take_zero]
  simp [T.fmtL]
theorem outL_step {nm : ByteArray} {xs : List T} {j : Nat} (h : j < xs.length) (h0 : j ≠ 0) : outL nm xs (j + 1) = outL nm xs j ++ ([44, 32] : List UInt8) ++ xs[j].fmt := by
  unfold outL
  have hne : xs.take j ≠ [] := fun e => by
    have := congrArg List.length e
    simp only [List.length_take, List.length_nil] at this
    omega
  rw [if_neg (by omega), if_neg h0, List.take_succ_eq_append_getElem h, fmtL_app, fmtL_ne hne]
  simp [T.fmtL]
theorem outL_len {nm : ByteArray} {xs : List T} {j : Nat} (h : ∀ x ∈ xs, x.nodes = true) (hn : nm.size ≤ 12582912) (hc : T.countL xs ≤ 1048576) : (outL nm xs j).length ≤ 25165900 := by
  have h1 := fmtL_len (xs := xs.take j) fun x hx => fmt_len x (h x (List.mem_of_mem_take hx))
  have h2 := count_le (xs := xs) j
  rw [size_list] at hn
  unfold outL
  rw [List.length_append]
  split
  · simp only [List.length_nil]; omega
  · simp only [List.length_cons, List.length_drop]; omega
theorem app_list (a b : ByteArray) : (a ++ b).data.toList = a.data.toList ++ b.data.toList := by simp
theorem specText_ok : ∀ (t : T) (st : St) (cs : List Value), t.nodes = true → t.count ≤ 1048576 → Enc st t cs →
    CallS Tryd.prog 20 [.agg cs.toArray] st fun r st2 => Ext st st2 ∧ r = .string ⟨t.fmt.toArray⟩ := by
  refine T.ind fun k n nm xs ih st cs hnd hcn hE => ?_
  obtain ⟨s1, rfl, hr⟩ := hE.open
  refine CallS_of_W [] 40 Tryd.func20 rfl rfl rfl rfl (by simp) ?_
  have q1 := hr.notLoc.1
  have q2 := hr.notLoc.2
  obtain ⟨hnx, hno⟩ := nodes_mk.1 hnd
  have hlen : lenE Tryd.prog 29 s1 = some (.int .i64 xs.length) := row_len hr Tryd.underlying29
  have hcl : T.countL xs ≤ 1048576 := by simp only [T.count] at hcn; omega
  have hxl := countL_length xs
  have hfl := fmt_len _ hnd
  by_cases hk : k = 3
  · have c1 : (k == 3) = true := by simpa using hk
    have hn := node_word hnd hk
    repeat (first | (refine W_reg rfl fun G K hG hK => ?_; simp (disch := omega) only [go_sem, ↓reduceIte, Nat.reduceEqDiff, Nat.reduceAdd, Nat.reduceLeDiff, hG, q1, q2, hlen, c1]; refine hK _ _ ?_; clear hK K hG G) | (refine W_end rfl fun G K hG hK => ?_; simp (disch := omega) only [go_sem, ↓reduceIte, Nat.reduceEqDiff, Nat.reduceAdd, Nat.reduceLeDiff, hG, q1, q2, hlen, c1]; refine hK _ _ ?_; clear hK K hG G; repeat (first | refine thenI ?_ | refine thenE ?_ | refine thenR ?_ | refine inBI ?_ | refine inBR ?_ | refine inBS ?_ | refine inBN (by decide) ?_)) | refine W_seqS ?_ | refine W_seqC ?_ | refine W_seqB ?_ | refine W_block ?_ | (refine W_skip ?_; repeat (first | refine thenI ?_ | refine thenE ?_ | refine thenR ?_ | refine inBI ?_ | refine inBR ?_ | refine inBS ?_ | refine inBN (by decide) ?_)) | (refine W_condT ?hc ?_; (case hc => (simp (disch := omega) only [go_sem, ↓reduceIte, Nat.reduceEqDiff, Nat.reduceAdd, Nat.reduceLeDiff, q1, q2, hlen, c1]; done))) | (refine W_condF ?hc ?_; (case hc => (simp (disch := omega) only [go_sem, ↓reduceIte, Nat.reduceEqDiff, Nat.reduceAdd, Nat.reduceLeDiff, q1, q2, hlen, c1]; done))))
    (repeat (first | refine W_seqS ?_ | refine W_seqC ?_ | refine W_seqB ?_ | refine W_block ?_)); refine W_reg rfl fun G K hG hK => ?_; simp (disch := omega) only [go_sem, ↓reduceIte, Nat.reduceEqDiff, Nat.reduceAdd, Nat.reduceLeDiff, hG, q1, q2, hlen]
    refine w_call (specFormatInt_ok n st (by omega) (by omega)) (by simp (disch := omega) only [go_sem, ↓reduceIte, Nat.reduceEqDiff, q1, q2, hlen]) ?hl ?_
    case hl => first | rfl | (simp only [go_sem, List.all_cons, List.all_nil, Bool.not_false, Bool.and_self, q1, q2, hlen]; done)
    rintro r_ sa ⟨x1, rfl⟩; refine ⟨fun e => (by cases e), ?_⟩
    simp (disch := omega) only [go_sem, ↓reduceIte, Nat.reduceEqDiff, Nat.reduceAdd, Nat.reduceLeDiff, hG, q1, q2, hlen]; refine hK _ _ ?_; clear hK K hG G; repeat (first | refine thenI ?_ | refine thenE ?_ | refine thenR ?_ | refine inBI ?_ | refine inBR ?_ | refine inBS ?_ | refine inBN (by decide) ?_)
    refine W_ret ?_; try (repeat (first | refine thenI ?_ | refine thenE ?_ | refine thenR ?_ | refine inBI ?_ | refine inBR ?_ | refine inBS ?_ | refine inBN (by decide) ?_))
    refine fin1 (.inl rfl) (by (simp (disch := omega) only [go_sem, ↓reduceIte, Nat.reduceEqDiff, Nat.reduceAdd, Nat.reduceLeDiff, q1, q2, hlen]); try rfl) rfl ⟨x1, by subst hk; rw [fmt_word]⟩
  have c1 : (k == 3) = false := by simpa using hk
  have hnl : nm.size ≤ 12582912 := by
    rw [size_list]
    by_cases h0 : xs = []
    · subst h0; rw [fmt_leaf hk] at hfl; omega
    · rw [fmt_node hk h0] at hfl
      simp only [List.length_append] at hfl
      omega
  have hol := fun j => outL_len (nm := nm) (xs := xs) (j := j) hnx hnl hcl
  repeat (first | (refine W_reg rfl fun G K hG hK => ?_; simp (disch := omega) only [go_sem, ↓reduceIte, Nat.reduceEqDiff, Nat.reduceAdd, Nat.reduceLeDiff, hG, q1, q2, hlen, c1]; refine hK _ _ ?_; clear hK K hG G) | (refine W_end rfl fun G K hG hK => ?_; simp (disch := omega) only [go_sem, ↓reduceIte, Nat.reduceEqDiff, Nat.reduceAdd, Nat.reduceLeDiff, hG, q1, q2, hlen, c1]; refine hK _ _ ?_; clear hK K hG G; repeat (first | refine thenI ?_ | refine thenE ?_ | refine thenR ?_ | refine inBI ?_ | refine inBR ?_ | refine inBS ?_ | refine inBN (by decide) ?_)) | refine W_seqS ?_ | refine W_seqC ?_ | refine W_seqB ?_ | refine W_block ?_ | (refine W_skip ?_; repeat (first | refine thenI ?_ | refine thenE ?_ | refine thenR ?_ | refine inBI ?_ | refine inBR ?_ | refine inBS ?_ | refine inBN (by decide) ?_)) | (refine W_condT ?hc ?_; (case hc => (simp (disch := omega) only [go_sem, ↓reduceIte, Nat.reduceEqDiff, Nat.reduceAdd, Nat.reduceLeDiff, q1, q2, hlen, c1]; done))) | (refine W_condF ?hc ?_; (case hc => (simp (disch := omega) only [go_sem, ↓reduceIte, Nat.reduceEqDiff, Nat.reduceAdd, Nat.reduceLeDiff, q1, q2, hlen, c1]; done))))
  refine W_loop (fun d fr st' => ∃ (j : Nat) (o : ByteArray), d = xs.length - j ∧ j ≤ xs.length ∧ (Ext st st') ∧ (o.data.toList = outL nm xs j) ∧ (fr.env 1 = .pointer (some ⟨1, 0, some 1⟩)) ∧ (fr.env 3 = .string o) ∧ (fr.env 4 = .int .i64 j) ∧ (fr.loc 1 = (1, [.int .i64 k, .int .i64 n, .string nm, s1]))) (xs.length) ?_ ?_
  · exact ⟨0, nm, by omega, by omega, Ext.refl _, by rw [outL_zero], (by (simp (disch := omega) only [go_sem, ↓reduceIte, Nat.reduceEqDiff, Nat.reduceAdd, Nat.reduceLeDiff, q1, q2, hlen]); try rfl), (by (simp (disch := omega) only [go_sem, ↓reduceIte, Nat.reduceEqDiff, Nat.reduceAdd, Nat.reduceLeDiff, q1, q2, hlen]); try rfl), (by (simp (disch := omega) only [go_sem, ↓reduceIte, Nat.reduceEqDiff, Nat.reduceAdd, Nat.reduceLeDiff, q1, q2, hlen]); try rfl), (by (simp (disch := omega) only [go_sem, ↓reduceIte, Nat.reduceEqDiff, Nat.reduceAdd, Nat.reduceLeDiff, q1, q2, hlen]); try rfl)⟩
  rintro d ⟨env, loc⟩ st' ⟨j, o, hd, hj, hext, ho, e1, e3, e4, l1⟩
  simp only at e1 e3 e4 l1
  have hos : o.size ≤ 25165900 := by rw [size_list, ho]; exact hol j
  by_cases hlt : j < xs.length
  · have c1 : decide ((j : Int) < (xs.length : Int)) = true := by simpa using hlt
    have hi := idxOk hlt
    have hx : xs[j]? = some xs[j] := List.getElem?_eq_getElem hlt
    have htk : xs.take (j + 1) = xs.take j ++ [xs[j]] := List.take_succ_eq_append_getElem hlt
    obtain ⟨i, oo, c, cs, rfl, hcl2, hE, hcs⟩ := row_at hr hx
    have hld := fun loc => load_row (A := []) (loc := loc) ag31 sz31 hcl2 (hcs.ext hext)
    have hcj := countL_take_lt hlt
    have hfj := fmt_len _ (hnx _ (List.getElem_mem hlt))
    have e3' : (⟨(xs[j].fmt).toArray⟩ : ByteArray).size = xs[j].fmt.length := size_mk _
    by_cases hj0 : j = 0
    · have c2 : ((j : Int) == 0) = true := by simp; omega
      have e1' : (⟨#[40]⟩ : ByteArray).size = 1 := rfl
      have e2' : (o ++ (⟨#[40]⟩ : ByteArray)).size = o.size + 1 := ByteArray.size_append
      have a1 : ∀ (x y : Operand), binE Tryd.prog .add 9 x y (.string o) (.string ⟨#[40]⟩) = some (.string (o ++ ⟨#[40]⟩)) := fun x y => bin_sadd (by omega)
      have a2 : ∀ (x y : Operand), binE Tryd.prog .add 9 x y (.string (o ++ ⟨#[40]⟩)) (.string ⟨(xs[j].fmt).toArray⟩) = some (.string (o ++ ⟨#[40]⟩ ++ ⟨(xs[j].fmt).toArray⟩)) := fun x y => bin_sadd (by omega)
      repeat (first | (refine W_reg rfl fun G K hG hK => ?_; simp (disch := omega) only [go_sem, ↓reduceIte, Nat.reduceEqDiff, Nat.reduceAdd, Nat.reduceLeDiff, hG, q1, q2, hlen, e1, e3, e4, l1, c1, hi, idxA, Int.toNat_natCast, c2]; refine hK _ _ ?_; clear hK K hG G) | (refine W_end rfl fun G K hG hK => ?_; simp (disch := omega) only [go_sem, ↓reduceIte, Nat.reduceEqDiff, Nat.reduceAdd, Nat.reduceLeDiff, hG, q1, q2, hlen, e1, e3, e4, l1, c1, hi, idxA, Int.toNat_natCast, c2]; refine hK _ _ ?_; clear hK K hG G; repeat (first | refine thenI ?_ | refine thenE ?_ | refine thenR ?_ | refine inBI ?_ | refine inBR ?_ | refine inBS ?_ | refine inBN (by decide) ?_)) | refine W_seqS ?_ | refine W_seqC ?_ | refine W_seqB ?_ | refine W_block ?_ | (refine W_skip ?_; repeat (first | refine thenI ?_ | refine thenE ?_ | refine thenR ?_ | refine inBI ?_ | refine inBR ?_ | refine inBS ?_ | refine inBN (by decide) ?_)) | (refine W_condT ?hc ?_; (case hc => (simp (disch := omega) only [go_sem, ↓reduceIte, Nat.reduceEqDiff, Nat.reduceAdd, Nat.reduceLeDiff, q1, q2, hlen, e1, e3, e4, l1, c1, hi, idxA, Int.toNat_natCast, c2]; done))) | (refine W_condF ?hc ?_; (case hc => (simp (disch := omega) only [go_sem, ↓reduceIte, Nat.reduceEqDiff, Nat.reduceAdd, Nat.reduceLeDiff, q1, q2, hlen, e1, e3, e4, l1, c1, hi, idxA, Int.toNat_natCast, c2]; done))))
      refine W_end rfl fun G K hG hK => ?_; simp (disch := omega) only [go_sem, ↓reduceIte, Nat.reduceEqDiff, Nat.reduceAdd, Nat.reduceLeDiff, hG, q1, q2, hlen, e1, e3, e4, l1, c1, hi, idxA, Int.toNat_natCast, a1, hld]
      refine w_call (ih xs[j] (List.getElem_mem hlt) st' _ (hnx _ (List.getElem_mem hlt)) (by omega) (Enc.ext hext _ _ hE)) (by simp (disch := omega) only [go_sem, ↓reduceIte, Nat.reduceEqDiff, q1, q2, hlen, e1, e3, e4, l1, c1, hi, idxA, Int.toNat_natCast]) ?hl ?_
      case hl => first | rfl | (simp only [go_sem, List.all_cons, List.all_nil, Bool.not_false, Bool.and_self, q1, q2, hlen, e1, e3, e4, l1, c1, hi, idxA, Int.toNat_natCast]; done)
      rintro r_ sb ⟨x3, rfl⟩; refine ⟨fun e => (by cases e), ?_⟩
      simp (disch := omega) only [go_sem, ↓reduceIte, Nat.reduceEqDiff, Nat.reduceAdd, Nat.reduceLeDiff, hG, q1, q2, hlen, e1, e3, e4, l1, c1, hi, idxA, Int.toNat_natCast, a2]; refine hK _ _ ?_; clear hK K hG G; repeat (first | refine thenI ?_ | refine thenE ?_ | refine thenR ?_ | refine inBI ?_ | refine inBR ?_ | refine inBS ?_ | refine inBN (by decide) ?_)
      repeat (first | (refine W_reg rfl fun G K hG hK => ?_; simp (disch := omega) only [go_sem, ↓reduceIte, Nat.reduceEqDiff, Nat.reduceAdd, Nat.reduceLeDiff, hG, q1, q2, hlen, e1, e3, e4, l1, c1, hi, idxA, Int.toNat_natCast]; refine hK _ _ ?_; clear hK K hG G) | (refine W_end rfl fun G K hG hK => ?_; simp (disch := omega) only [go_sem, ↓reduceIte, Nat.reduceEqDiff, Nat.reduceAdd, Nat.reduceLeDiff, hG, q1, q2, hlen, e1, e3, e4, l1, c1, hi, idxA, Int.toNat_natCast]; refine hK _ _ ?_; clear hK K hG G; repeat (first | refine thenI ?_ | refine thenE ?_ | refine thenR ?_ | refine inBI ?_ | refine inBR ?_ | refine inBS ?_ | refine inBN (by decide) ?_)) | refine W_seqS ?_ | refine W_seqC ?_ | refine W_seqB ?_ | refine W_block ?_ | (refine W_skip ?_; repeat (first | refine thenI ?_ | refine thenE ?_ | refine thenR ?_ | refine inBI ?_ | refine inBR ?_ | refine inBS ?_ | refine inBN (by decide) ?_)) | (refine W_condT ?hc ?_; (case hc => (simp (disch := omega) only [go_sem, ↓reduceIte, Nat.reduceEqDiff, Nat.reduceAdd, Nat.reduceLeDiff, q1, q2, hlen, e1, e3, e4, l1, c1, hi, idxA, Int.toNat_natCast]; done))) | (refine W_condF ?hc ?_; (case hc => (simp (disch := omega) only [go_sem, ↓reduceIte, Nat.reduceEqDiff, Nat.reduceAdd, Nat.reduceLeDiff, q1, q2, hlen, e1, e3, e4, l1, c1, hi, idxA, Int.toNat_natCast]; done))))
      refine ⟨xs.length - (j + 1), by omega, j + 1, o ++ ⟨#[40]⟩ ++ ⟨(xs[j].fmt).toArray⟩, rfl, by omega, hext.trans x3, by rw [outL_one hlt hj0, app_list, app_list, ho], (by (simp (disch := omega) only [go_sem, ↓reduceIte, Nat.reduceEqDiff, Nat.reduceAdd, Nat.reduceLeDiff, q1, q2, hlen, e1, e3, e4, l1, c1, hi, idxA, Int.toNat_natCast]); try rfl), (by (simp (disch := omega) only [go_sem, ↓reduceIte, Nat.reduceEqDiff, Nat.reduceAdd, Nat.reduceLeDiff, q1, q2, hlen, e1, e3, e4, l1, c1, hi, idxA, Int.toNat_natCast]); try rfl), (by (simp (disch := omega) only [go_sem, ↓reduceIte, Nat.reduceEqDiff, Nat.reduceAdd, Nat.reduceLeDiff, q1, q2, hlen, e1, e3, e4, l1, c1, hi, idxA, Int.toNat_natCast]); try rfl), (by (simp (disch := omega) only [go_sem, ↓reduceIte, Nat.reduceEqDiff, Nat.reduceAdd, Nat.reduceLeDiff, q1, q2, hlen, e1, e3, e4, l1, c1, hi, idxA, Int.toNat_natCast]); try rfl)⟩
    · have c2 : ((j : Int) == 0) = false := by simp; omega
      have e1' : (⟨#[44, 32]⟩ : ByteArray).size = 2 := rfl
      have e2' : (o ++ (⟨#[44, 32]⟩ : ByteArray)).size = o.size + 2 := ByteArray.size_append
      have a1 : ∀ (x y : Operand), binE Tryd.prog .add 9 x y (.string o) (.string ⟨#[44, 32]⟩) = some (.string (o ++ ⟨#[44, 32]⟩)) := fun x y => bin_sadd (by omega)
      have a2 : ∀ (x y : Operand), binE Tryd.prog .add 9 x y (.string (o ++ ⟨#[44, 32]⟩)) (.string ⟨(xs[j].fmt).toArray⟩) = some (.string (o ++ ⟨#[44, 32]⟩ ++ ⟨(xs[j].fmt).toArray⟩)) := fun x y => bin_sadd (by omega)
      repeat (first | (refine W_reg rfl fun G K hG hK => ?_; simp (disch := omega) only [go_sem, ↓reduceIte, Nat.reduceEqDiff, Nat.reduceAdd, Nat.reduceLeDiff, hG, q1, q2, hlen, e1, e3, e4, l1, c1, hi, idxA, Int.toNat_natCast, c2]; refine hK _ _ ?_; clear hK K hG G) | (refine W_end rfl fun G K hG hK => ?_; simp (disch := omega) only [go_sem, ↓reduceIte, Nat.reduceEqDiff, Nat.reduceAdd, Nat.reduceLeDiff, hG, q1, q2, hlen, e1, e3, e4, l1, c1, hi, idxA, Int.toNat_natCast, c2]; refine hK _ _ ?_; clear hK K hG G; repeat (first | refine thenI ?_ | refine thenE ?_ | refine thenR ?_ | refine inBI ?_ | refine inBR ?_ | refine inBS ?_ | refine inBN (by decide) ?_)) | refine W_seqS ?_ | refine W_seqC ?_ | refine W_seqB ?_ | refine W_block ?_ | (refine W_skip ?_; repeat (first | refine thenI ?_ | refine thenE ?_ | refine thenR ?_ | refine inBI ?_ | refine inBR ?_ | refine inBS ?_ | refine inBN (by decide) ?_)) | (refine W_condT ?hc ?_; (case hc => (simp (disch := omega) only [go_sem, ↓reduceIte, Nat.reduceEqDiff, Nat.reduceAdd, Nat.reduceLeDiff, q1, q2, hlen, e1, e3, e4, l1, c1, hi, idxA, Int.toNat_natCast, c2]; done))) | (refine W_condF ?hc ?_; (case hc => (simp (disch := omega) only [go_sem, ↓reduceIte, Nat.reduceEqDiff, Nat.reduceAdd, Nat.reduceLeDiff, q1, q2, hlen, e1, e3, e4, l1, c1, hi, idxA, Int.toNat_natCast, c2]; done))))
      refine W_end rfl fun G K hG hK => ?_; simp (disch := omega) only [go_sem, ↓reduceIte, Nat.reduceEqDiff, Nat.reduceAdd, Nat.reduceLeDiff, hG, q1, q2, hlen, e1, e3, e4, l1, c1, hi, idxA, Int.toNat_natCast, a1, hld]
      refine w_call (ih xs[j] (List.getElem_mem hlt) st' _ (hnx _ (List.getElem_mem hlt)) (by omega) (Enc.ext hext _ _ hE)) (by simp (disch := omega) only [go_sem, ↓reduceIte, Nat.reduceEqDiff, q1, q2, hlen, e1, e3, e4, l1, c1, hi, idxA, Int.toNat_natCast]) ?hl ?_
      case hl => first | rfl | (simp only [go_sem, List.all_cons, List.all_nil, Bool.not_false, Bool.and_self, q1, q2, hlen, e1, e3, e4, l1, c1, hi, idxA, Int.toNat_natCast]; done)
      rintro r_ sb ⟨x3, rfl⟩; refine ⟨fun e => (by cases e), ?_⟩
      simp (disch := omega) only [go_sem, ↓reduceIte, Nat.reduceEqDiff, Nat.reduceAdd, Nat.reduceLeDiff, hG, q1, q2, hlen, e1, e3, e4, l1, c1, hi, idxA, Int.toNat_natCast, a2]; refine hK _ _ ?_; clear hK K hG G; repeat (first | refine thenI ?_ | refine thenE ?_ | refine thenR ?_ | refine inBI ?_ | refine inBR ?_ | refine inBS ?_ | refine inBN (by decide) ?_)
      repeat (first | (refine W_reg rfl fun G K hG hK => ?_; simp (disch := omega) only [go_sem, ↓reduceIte, Nat.reduceEqDiff, Nat.reduceAdd, Nat.reduceLeDiff, hG, q1, q2, hlen, e1, e3, e4, l1, c1, hi, idxA, Int.toNat_natCast]; refine hK _ _ ?_; clear hK K hG G) | (refine W_end rfl fun G K hG hK => ?_; simp (disch := omega) only [go_sem, ↓reduceIte, Nat.reduceEqDiff, Nat.reduceAdd, Nat.reduceLeDiff, hG, q1, q2, hlen, e1, e3, e4, l1, c1, hi, idxA, Int.toNat_natCast]; refine hK _ _ ?_; clear hK K hG G; repeat (first | refine thenI ?_ | refine thenE ?_ | refine thenR ?_ | refine inBI ?_ | refine inBR ?_ | refine inBS ?_ | refine inBN (by decide) ?_)) | refine W_seqS ?_ | refine W_seqC ?_ | refine W_seqB ?_ | refine W_block ?_ | (refine W_skip ?_; repeat (first | refine thenI ?_ | refine thenE ?_ | refine thenR ?_ | refine inBI ?_ | refine inBR ?_ | refine inBS ?_ | refine inBN (by decide) ?_)) | (refine W_condT ?hc ?_; (case hc => (simp (disch := omega) only [go_sem, ↓reduceIte, Nat.reduceEqDiff, Nat.reduceAdd, Nat.reduceLeDiff, q1, q2, hlen, e1, e3, e4, l1, c1, hi, idxA, Int.toNat_natCast]; done))) | (refine W_condF ?hc ?_; (case hc => (simp (disch := omega) only [go_sem, ↓reduceIte, Nat.reduceEqDiff, Nat.reduceAdd, Nat.reduceLeDiff, q1, q2, hlen, e1, e3, e4, l1, c1, hi, idxA, Int.toNat_natCast]; done))))
      refine ⟨xs.length - (j + 1), by omega, j + 1, o ++ ⟨#[44, 32]⟩ ++ ⟨(xs[j].fmt).toArray⟩, rfl, by omega, hext.trans x3, by rw [outL_step hlt hj0, app_list, app_list, ho], (by (simp (disch := omega) only [go_sem, ↓reduceIte, Nat.reduceEqDiff, Nat.reduceAdd, Nat.reduceLeDiff, q1, q2, hlen, e1, e3, e4, l1, c1, hi, idxA, Int.toNat_natCast]); try rfl), (by (simp (disch := omega) only [go_sem, ↓reduceIte, Nat.reduceEqDiff, Nat.reduceAdd, Nat.reduceLeDiff, q1, q2, hlen, e1, e3, e4, l1, c1, hi, idxA, Int.toNat_natCast]); try rfl), (by (simp (disch := omega) only [go_sem, ↓reduceIte, Nat.reduceEqDiff, Nat.reduceAdd, Nat.reduceLeDiff, q1, q2, hlen, e1, e3, e4, l1, c1, hi, idxA, Int.toNat_natCast]); try rfl), (by (simp (disch := omega) only [go_sem, ↓reduceIte, Nat.reduceEqDiff, Nat.reduceAdd, Nat.reduceLeDiff, q1, q2, hlen, e1, e3, e4, l1, c1, hi, idxA, Int.toNat_natCast]); try rfl)⟩
  · have c1 : decide ((j : Int) < (xs.length : Int)) = false := by simpa using hlt
    have hjn : j = xs.length := by omega
    subst hjn
    repeat (first | (refine W_reg rfl fun G K hG hK => ?_; simp (disch := omega) only [go_sem, ↓reduceIte, Nat.reduceEqDiff, Nat.reduceAdd, Nat.reduceLeDiff, hG, q1, q2, hlen, e1, e3, e4, l1, c1]; refine hK _ _ ?_; clear hK K hG G) | (refine W_end rfl fun G K hG hK => ?_; simp (disch := omega) only [go_sem, ↓reduceIte, Nat.reduceEqDiff, Nat.reduceAdd, Nat.reduceLeDiff, hG, q1, q2, hlen, e1, e3, e4, l1, c1]; refine hK _ _ ?_; clear hK K hG G; repeat (first | refine thenI ?_ | refine thenE ?_ | refine thenR ?_ | refine inBI ?_ | refine inBR ?_ | refine inBS ?_ | refine inBN (by decide) ?_)) | refine W_seqS ?_ | refine W_seqC ?_ | refine W_seqB ?_ | refine W_block ?_ | (refine W_skip ?_; repeat (first | refine thenI ?_ | refine thenE ?_ | refine thenR ?_ | refine inBI ?_ | refine inBR ?_ | refine inBS ?_ | refine inBN (by decide) ?_)) | (refine W_condT ?hc ?_; (case hc => (simp (disch := omega) only [go_sem, ↓reduceIte, Nat.reduceEqDiff, Nat.reduceAdd, Nat.reduceLeDiff, q1, q2, hlen, e1, e3, e4, l1, c1]; done))) | (refine W_condF ?hc ?_; (case hc => (simp (disch := omega) only [go_sem, ↓reduceIte, Nat.reduceEqDiff, Nat.reduceAdd, Nat.reduceLeDiff, q1, q2, hlen, e1, e3, e4, l1, c1]; done))))
    refine W_exit ?_; repeat (first | refine thenI ?_ | refine thenE ?_ | refine thenR ?_ | refine inBI ?_ | refine inBR ?_ | refine inBS ?_ | refine inBN (by decide) ?_)
    by_cases h0 : xs = []
    · have c2 : decide ((xs.length : Int) > 0) = false := by rw [h0]; decide
      repeat (first | (refine W_reg rfl fun G K hG hK => ?_; simp (disch := omega) only [go_sem, ↓reduceIte, Nat.reduceEqDiff, Nat.reduceAdd, Nat.reduceLeDiff, hG, q1, q2, hlen, e1, e3, e4, l1, c1, c2]; refine hK _ _ ?_; clear hK K hG G) | (refine W_end rfl fun G K hG hK => ?_; simp (disch := omega) only [go_sem, ↓reduceIte, Nat.reduceEqDiff, Nat.reduceAdd, Nat.reduceLeDiff, hG, q1, q2, hlen, e1, e3, e4, l1, c1, c2]; refine hK _ _ ?_; clear hK K hG G; repeat (first | refine thenI ?_ | refine thenE ?_ | refine thenR ?_ | refine inBI ?_ | refine inBR ?_ | refine inBS ?_ | refine inBN (by decide) ?_)) | refine W_seqS ?_ | refine W_seqC ?_ | refine W_seqB ?_ | refine W_block ?_ | (refine W_skip ?_; repeat (first | refine thenI ?_ | refine thenE ?_ | refine thenR ?_ | refine inBI ?_ | refine inBR ?_ | refine inBS ?_ | refine inBN (by decide) ?_)) | (refine W_condT ?hc ?_; (case hc => (simp (disch := omega) only [go_sem, ↓reduceIte, Nat.reduceEqDiff, Nat.reduceAdd, Nat.reduceLeDiff, q1, q2, hlen, e1, e3, e4, l1, c1, c2]; done))) | (refine W_condF ?hc ?_; (case hc => (simp (disch := omega) only [go_sem, ↓reduceIte, Nat.reduceEqDiff, Nat.reduceAdd, Nat.reduceLeDiff, q1, q2, hlen, e1, e3, e4, l1, c1, c2]; done))))
      refine W_ret ?_; try (repeat (first | refine thenI ?_ | refine thenE ?_ | refine thenR ?_ | refine inBI ?_ | refine inBR ?_ | refine inBS ?_ | refine inBN (by decide) ?_))
      refine fin1 (.inl rfl) (by (simp (disch := omega) only [go_sem, ↓reduceIte, Nat.reduceEqDiff, Nat.reduceAdd, Nat.reduceLeDiff, q1, q2, hlen, e1, e3, e4, l1, c1]); try rfl) rfl ⟨hext, by subst h0; rw [fmt_leaf hk, ← outL_zero nm [], ← (show o.data.toList = outL nm [] 0 from ho)]⟩
    · have hpos : xs.length ≠ 0 := fun e => h0 (List.eq_nil_of_length_eq_zero e)
      have c2 : decide ((xs.length : Int) > 0) = true := by simp; omega
      have e1' : (⟨#[41]⟩ : ByteArray).size = 1 := rfl
      have a1 : ∀ (x y : Operand), binE Tryd.prog .add 9 x y (.string o) (.string ⟨#[41]⟩) = some (.string (o ++ ⟨#[41]⟩)) := fun x y => bin_sadd (by omega)
      have hfin : o ++ ⟨#[41]⟩ = (⟨(T.fmt (.mk k n nm xs)).toArray⟩ : ByteArray) := by
        apply ByteArray.ext
        apply Array.ext'
        rw [app_list, ho, fmt_node hk h0]
        unfold outL
        rw [if_neg hpos, List.take_length]
        simp
      repeat (first | (refine W_reg rfl fun G K hG hK => ?_; simp (disch := omega) only [go_sem, ↓reduceIte, Nat.reduceEqDiff, Nat.reduceAdd, Nat.reduceLeDiff, hG, q1, q2, hlen, e1, e3, e4, l1, c1, c2, a1]; refine hK _ _ ?_; clear hK K hG G) | (refine W_end rfl fun G K hG hK => ?_; simp (disch := omega) only [go_sem, ↓reduceIte, Nat.reduceEqDiff, Nat.reduceAdd, Nat.reduceLeDiff, hG, q1, q2, hlen, e1, e3, e4, l1, c1, c2, a1]; refine hK _ _ ?_; clear hK K hG G; repeat (first | refine thenI ?_ | refine thenE ?_ | refine thenR ?_ | refine inBI ?_ | refine inBR ?_ | refine inBS ?_ | refine inBN (by decide) ?_)) | refine W_seqS ?_ | refine W_seqC ?_ | refine W_seqB ?_ | refine W_block ?_ | (refine W_skip ?_; repeat (first | refine thenI ?_ | refine thenE ?_ | refine thenR ?_ | refine inBI ?_ | refine inBR ?_ | refine inBS ?_ | refine inBN (by decide) ?_)) | (refine W_condT ?hc ?_; (case hc => (simp (disch := omega) only [go_sem, ↓reduceIte, Nat.reduceEqDiff, Nat.reduceAdd, Nat.reduceLeDiff, q1, q2, hlen, e1, e3, e4, l1, c1, c2, a1]; done))) | (refine W_condF ?hc ?_; (case hc => (simp (disch := omega) only [go_sem, ↓reduceIte, Nat.reduceEqDiff, Nat.reduceAdd, Nat.reduceLeDiff, q1, q2, hlen, e1, e3, e4, l1, c1, c2, a1]; done))))
      refine W_ret ?_; try (repeat (first | refine thenI ?_ | refine thenE ?_ | refine thenR ?_ | refine inBI ?_ | refine inBR ?_ | refine inBS ?_ | refine inBN (by decide) ?_))
      refine fin1 (.inl rfl) (by (simp (disch := omega) only [go_sem, ↓reduceIte, Nat.reduceEqDiff, Nat.reduceAdd, Nat.reduceLeDiff, q1, q2, hlen, e1, e3, e4, l1, c1]); try rfl) rfl ⟨hext, by rw [hfin]⟩
end Go.Proofs.YtngkedafggfehaaDoor.AM


/- Guards: laws.szGuard, toGuard, eqGuard, markGuard, heldGuard. -/
namespace Go.Proofs.YtngkedafggfehaaDoor.AM
open Go Go.Proofs
set_option linter.unusedVariables false
set_option linter.unusedSimpArgs false
set_option maxRecDepth 100000
attribute [local go_sem] List.map_cons List.map_nil List.all_cons List.all_nil Bool.and_self Option.map_some List.getElem?_toArray Option.bind_some gye_b gye_t gsk_b gsk_t gb1 gb2 gb3 gb4 bne_self_eq_false beq_self_eq_true w_guard w_nil stepV_some step_some step_some' w_move w_assign w_pick w_binOp w_unOp w_load w_fieldAddr w_indexAddr w_len w_max w_index ev_max max_int ev_index w_box w_alloc w_store w_field w_extract w_nilCheck w_convert w_buildSlice w_build ev_buildL fillL_nil fillL_cons bs0 bs1 ev_conv ev_bin ev_un ev_pick ev_load ev_fieldAddr ev_indexAddr ev_len ev_field ev_extract ev_nilCheck fr_tmp fr_int fr_bool fr_str fr_nil fr_func put_some put_none bin_lss bin_leq bin_gtr bin_geq bin_eql bin_neq bin_add bin_sub bin_mul bin_seql bin_sneq un_not pick_ ext_ loadA_p cellAt_l cellAt_h okPtr_l okPtr_h fadA_p allocA_l storeA_l cells_agg cells_int cells_str cells_sl cells_bool flat_i flat_s flat_b flat_sl flat_nil loc_agg loc_int loc_str loc_sl loc_bool loc_fn loc_ptr okv_agg okv_int okv_str okv_sl okv_bool cellsFrom splice upd_eval argEnv_zero argEnv_succ ne_eq Nat.add_one_ne_zero not_false_eq_true List.not_mem_nil and_self decide_true List.getElem?_cons_zero List.getElem?_cons_succ List.size_toArray List.length_cons List.length_nil List.take_succ_cons List.take_zero List.drop_succ_cons List.drop_zero List.cons_append List.nil_append List.drop_nil Bool.not_true Bool.not_false Bool.false_eq_true Nat.zero_add Nat.add_zero wrap_in List.toList_toArray List.mem_cons or_self or_false false_or
attribute [local go_sem] ag22 ag24 ag26 ag29 ag3 ag31 ag33 ag5 ag54 ag56 ag69 ag9 by31 by5 by9 el22 el29 el46 el54 of24_0 of24_1 of24_2 of24_3 of26_0 of26_1 of26_2 of31_0 of31_1 of31_2 of31_3 of33_0 of33_1 of33_2 of58_0 of58_1 ro5_1 ro9_1 ro9_3 ro9_4 sz22 sz24 sz26 sz29 sz3 sz31 sz33 sz5 sz54 sz56 sz69 sz9 ze31 ze33 ze5 ze58 ze68 ze81 ze9
-- AUTO

/-- A guard. -/
structure Grd where
  k : Int
  l : T
  r : T
def EncG (st : St) (g : Grd) (cs : List Value) : Prop := ∃ c1 c2, cs = .int .i64 g.k :: (c1 ++ c2) ∧ Enc st g.l c1 ∧ Enc st g.r c2
def OwnG (st : St) (g : Grd) (cs : List Value) (L : List Nat) : Prop := ∃ c1 c2 L1 L2, cs = .int .i64 g.k :: (c1 ++ c2) ∧ OwnT st g.l c1 L1 ∧ OwnT st g.r c2 L2 ∧ L = L1 ++ L2
def LensG (g : Grd) : Prop := Lens g.l ∧ Lens g.r
def LimG (B : Nat) (g : Grd) : Prop := Lim B g.l ∧ Lim B g.r
instance : Wt Grd := ⟨fun g => g.l.wt + g.r.wt⟩
def Grd.mk0 (g : Grd) (k : Nat) : Grd × Nat := (⟨g.k, (g.l.mk0 k).1, (g.r.mk0 (g.l.mk0 k).2).1⟩, (g.r.mk0 (g.l.mk0 k).2).2)
theorem Grd.lim_of {g : Grd} (h : Wt.wt g ≤ 1048576) : LimG 1073741824 g := by
  have : Wt.wt g = g.l.wt + g.r.wt := rfl
  exact ⟨Lim.of_wt _ (by omega), Lim.of_wt _ (by omega)⟩
theorem Grd.limN_of {g : Grd} (h : Wt.wt g ≤ 1048576) : LimN 1073741824 g.l ∧ LimN 1073741824 g.r := by
  have : Wt.wt g = g.l.wt + g.r.wt := rfl
  exact ⟨LimN.of_wt _ (by omega), LimN.of_wt _ (by omega)⟩
theorem Grd.lim_le {g : Grd} (h : LimG 1073741824 g) : LimG 4611686018427387904 g := ⟨Lim.le (by omega) _ h.1, Lim.le (by omega) _ h.2⟩
theorem Grd.mk0_wt (g : Grd) (k : Nat) : (g.mk0 k).2 ≤ k + 3 * Wt.wt g := by
  have h1 := T.mk0_wt g.l k
  have h2 := T.mk0_wt g.r (g.l.mk0 k).2
  have : Wt.wt g = g.l.wt + g.r.wt := rfl
  simp only [Grd.mk0]
  omega
theorem EncG.ext {st st' : St} {g : Grd} {cs : List Value} (h : EncG st g cs) (hx : Ext st st') : EncG st' g cs := by
  obtain ⟨c1, c2, rfl, h1, h2⟩ := h
  exact ⟨c1, c2, rfl, Enc.ext hx _ _ h1, Enc.ext hx _ _ h2⟩
theorem OwnG.enc {st : St} {g : Grd} {cs : List Value} {L : List Nat} (h : OwnG st g cs L) : EncG st g cs := by
  obtain ⟨c1, c2, L1, L2, rfl, h1, h2, rfl⟩ := h
  exact ⟨c1, c2, rfl, h1.enc, h2.enc⟩
theorem OwnG.ext {st st' : St} {g : Grd} {cs : List Value} {L : List Nat} (h : OwnG st g cs L) (hx : Ext st st') : OwnG st' g cs L := by
  obtain ⟨c1, c2, L1, L2, rfl, h1, h2, rfl⟩ := h
  exact ⟨c1, c2, L1, L2, rfl, h1.ext hx, h2.ext hx, rfl⟩
theorem OwnG.lt {st : St} {g : Grd} {cs : List Value} {L : List Nat} (h : OwnG st g cs L) : ∀ i ∈ L, i < st.length := by
  obtain ⟨c1, c2, L1, L2, rfl, h1, h2, rfl⟩ := h
  intro i hi
  rcases List.mem_append.1 hi with hi | hi
  · exact Own.lt _ _ _ h1 i hi
  · exact Own.lt _ _ _ h2 i hi
theorem OwnG.other {st st' : St} {g : Grd} {cs : List Value} {L K : List Nat} (h : OwnG st g cs L) (hot : ∀ i, i < st.length → i ∉ K → st'[i]? = st[i]?) (hd : ∀ i ∈ L, i ∉ K) : OwnG st' g cs L := by
  obtain ⟨c1, c2, L1, L2, rfl, h1, h2, rfl⟩ := h
  exact ⟨c1, c2, L1, L2, rfl, h1.other hot fun i hi => hd i (by simp [hi]), h2.other hot fun i hi => hd i (by simp [hi]), rfl⟩
theorem OwnG.apart {st : St} {g : Grd} {cs : List Value} {L K : List Nat} (h : OwnG st g cs L) (hf : Fresh st.length K) : ∀ i ∈ L, i ∉ K := fun i hi hk => by
  have h1 := h.lt i hi
  have h2 := hf.2 i hk
  omega
theorem EncG.arg_cells {st : St} {g : Grd} {cs : List Value} (h : EncG st g cs) : ∃ kl nl ml sl kr nr mr sr, cs = [.int .i64 g.k, .int .i64 kl, .int .i64 nl, .string ml, sl, .int .i64 kr, .int .i64 nr, .string mr, sr] ∧ isLoc sl = false ∧ okv sl = true ∧ isLoc sr = false ∧ okv sr = true := by
  obtain ⟨c1, c2, rfl, h1, h2⟩ := h
  obtain ⟨gk, ⟨kl, nl, ml, al⟩, ⟨kr, nr, mr, ar⟩⟩ := g
  obtain ⟨sl, rfl, hl⟩ := h1.open
  obtain ⟨sr, rfl, hr⟩ := h2.open
  exact ⟨kl, nl, ml, sl, kr, nr, mr, sr, rfl, hl.notLoc.1, hl.notLoc.2, hr.notLoc.1, hr.notLoc.2⟩
theorem OwnG.args_cells {st : St} {g : Grd} {cs : List Value} {L : List Nat} (h : OwnG st g cs L) : ∃ k kl nl ml sl kr nr mr sr, cs = [.int .i64 k, .int .i64 kl, .int .i64 nl, .string ml, sl, .int .i64 kr, .int .i64 nr, .string mr, sr] ∧ okv sl = true ∧ isLoc sl = false ∧ vc sl = #[sl] ∧ okv sr = true ∧ isLoc sr = false ∧ vc sr = #[sr] := by
  obtain ⟨c1, c2, L1, L2, rfl, h1, h2, rfl⟩ := h
  obtain ⟨kl, nl, ml, sl, rfl, a1, a2, a3⟩ := h1.args_cells
  obtain ⟨kr, nr, mr, sr, rfl, b1, b2, b3⟩ := h2.args_cells
  exact ⟨_, kl, nl, ml, sl, kr, nr, mr, sr, rfl, a1, a2, a3, b1, b2, b3⟩
/-- A guard's cells, and what of it they are. -/
theorem EncG.cells {st : St} {g : Grd} {cs : List Value} (h : EncG st g cs) : ∃ kl nl ml sl kr nr mr sr, cs = [.int .i64 g.k, .int .i64 kl, .int .i64 nl, .string ml, sl, .int .i64 kr, .int .i64 nr, .string mr, sr] ∧ Enc st g.l [.int .i64 kl, .int .i64 nl, .string ml, sl] ∧ Enc st g.r [.int .i64 kr, .int .i64 nr, .string mr, sr] ∧ isLoc sl = false ∧ okv sl = true ∧ isLoc sr = false ∧ okv sr = true := by
  obtain ⟨c1, c2, rfl, h1, h2⟩ := h
  obtain ⟨gk, ⟨kl, nl, ml, al⟩, ⟨kr, nr, mr, ar⟩⟩ := g
  obtain ⟨sl, rfl, hl⟩ := h1.open
  obtain ⟨sr, rfl, hr⟩ := h2.open
  exact ⟨kl, nl, ml, sl, kr, nr, mr, sr, rfl, h1, h2, hl.notLoc.1, hl.notLoc.2, hr.notLoc.1, hr.notLoc.2⟩

theorem szGuard_ok (g : Grd) (st : St) (cs : List Value) (left : Int) (hL : LensG g) (h0 : 0 ≤ left) (h1 : left ≤ 1073741824) (hE : EncG st g cs) :
    CallS Tryd.prog 4 [.agg cs.toArray, .int .i64 left] st fun r st' => r = .int .i64 (if (Wt.wt g : Int) ≤ left then left - (Wt.wt g : Nat) else -1) ∧ st' = st := by
  refine CallS_of_W [] 18 Tryd.func4 rfl rfl rfl rfl (by simp) ?_
  obtain ⟨kl, nl, ml, sl, kr, nr, mr, sr, rfl, El, Er, q1, q2, q3, q4⟩ := hE.cells
  have hw : Wt.wt g = g.l.wt + g.r.wt := rfl
  have d1 : decide ((-1 : Int) < 0) = true := by decide
  repeat (first | (refine W_reg rfl fun G K hG hK => ?_; simp (disch := omega) only [go_sem, ↓reduceIte, Nat.reduceEqDiff, Nat.reduceAdd, Nat.reduceLeDiff, hG, q1, q2, q3, q4, d1]; refine hK _ _ ?_; clear hK K hG G) | (refine W_end rfl fun G K hG hK => ?_; simp (disch := omega) only [go_sem, ↓reduceIte, Nat.reduceEqDiff, Nat.reduceAdd, Nat.reduceLeDiff, hG, q1, q2, q3, q4, d1]; refine hK _ _ ?_; clear hK K hG G; repeat (first | refine thenI ?_ | refine thenE ?_ | refine thenR ?_ | refine inBI ?_ | refine inBR ?_ | refine inBS ?_ | refine inBN (by decide) ?_)) | refine W_seqS ?_ | refine W_seqC ?_ | refine W_seqB ?_ | refine W_block ?_ | (refine W_skip ?_; repeat (first | refine thenI ?_ | refine thenE ?_ | refine thenR ?_ | refine inBI ?_ | refine inBR ?_ | refine inBS ?_ | refine inBN (by decide) ?_)) | (refine W_condT ?hc ?_; (case hc => (simp (disch := omega) only [go_sem, ↓reduceIte, Nat.reduceEqDiff, Nat.reduceAdd, Nat.reduceLeDiff, q1, q2, q3, q4, d1]; done))) | (refine W_condF ?hc ?_; (case hc => (simp (disch := omega) only [go_sem, ↓reduceIte, Nat.reduceEqDiff, Nat.reduceAdd, Nat.reduceLeDiff, q1, q2, q3, q4, d1]; done))))
  (repeat (first | refine W_seqS ?_ | refine W_seqC ?_ | refine W_seqB ?_ | refine W_block ?_)); refine W_reg rfl fun G K hG hK => ?_; simp (disch := omega) only [go_sem, ↓reduceIte, Nat.reduceEqDiff, Nat.reduceAdd, Nat.reduceLeDiff, hG, q1, q2, q3, q4, d1]
  refine w_call (szTerm_ok g.l st _ left hL.1 h0 h1 El) (by simp (disch := omega) only [go_sem, ↓reduceIte, Nat.reduceEqDiff, q1, q2, q3, q4, d1]) ?hl ?_
  case hl => first | rfl | (simp only [go_sem, List.all_cons, List.all_nil, Bool.not_false, Bool.and_self, q1, q2, q3, q4, d1]; done)
  rintro r_ st ⟨rfl, rfl⟩; refine ⟨fun e => (by cases e), ?_⟩
  simp (disch := omega) only [go_sem, ↓reduceIte, Nat.reduceEqDiff, Nat.reduceAdd, Nat.reduceLeDiff, hG, q1, q2, q3, q4, d1]; refine hK _ _ ?_; clear hK K hG G; repeat (first | refine thenI ?_ | refine thenE ?_ | refine thenR ?_ | refine inBI ?_ | refine inBR ?_ | refine inBS ?_ | refine inBN (by decide) ?_)
  by_cases hq : (g.l.wt : Int) ≤ left
  case neg =>
    rw [if_neg hq]
    repeat (first | (refine W_reg rfl fun G K hG hK => ?_; simp (disch := omega) only [go_sem, ↓reduceIte, Nat.reduceEqDiff, Nat.reduceAdd, Nat.reduceLeDiff, hG, q1, q2, q3, q4, d1]; refine hK _ _ ?_; clear hK K hG G) | (refine W_end rfl fun G K hG hK => ?_; simp (disch := omega) only [go_sem, ↓reduceIte, Nat.reduceEqDiff, Nat.reduceAdd, Nat.reduceLeDiff, hG, q1, q2, q3, q4, d1]; refine hK _ _ ?_; clear hK K hG G; repeat (first | refine thenI ?_ | refine thenE ?_ | refine thenR ?_ | refine inBI ?_ | refine inBR ?_ | refine inBS ?_ | refine inBN (by decide) ?_)) | refine W_seqS ?_ | refine W_seqC ?_ | refine W_seqB ?_ | refine W_block ?_ | (refine W_skip ?_; repeat (first | refine thenI ?_ | refine thenE ?_ | refine thenR ?_ | refine inBI ?_ | refine inBR ?_ | refine inBS ?_ | refine inBN (by decide) ?_)) | (refine W_condT ?hc ?_; (case hc => (simp (disch := omega) only [go_sem, ↓reduceIte, Nat.reduceEqDiff, Nat.reduceAdd, Nat.reduceLeDiff, q1, q2, q3, q4, d1]; done))) | (refine W_condF ?hc ?_; (case hc => (simp (disch := omega) only [go_sem, ↓reduceIte, Nat.reduceEqDiff, Nat.reduceAdd, Nat.reduceLeDiff, q1, q2, q3, q4, d1]; done))))
    refine W_ret ?_; try (repeat (first | refine thenI ?_ | refine thenE ?_ | refine thenR ?_ | refine inBI ?_ | refine inBR ?_ | refine inBS ?_ | refine inBN (by decide) ?_))
    refine fin1 (.inl rfl) (by (simp (disch := omega) only [go_sem, ↓reduceIte, Nat.reduceEqDiff, Nat.reduceAdd, Nat.reduceLeDiff, q1, q2, q3, q4, d1]); try rfl) rfl ⟨?_, rfl⟩
    rw [if_neg (by omega)]
  rw [if_pos hq]
  have c2 : decide (left - (g.l.wt : Int) < 0) = false := by simp; omega
  repeat (first | (refine W_reg rfl fun G K hG hK => ?_; simp (disch := omega) only [go_sem, ↓reduceIte, Nat.reduceEqDiff, Nat.reduceAdd, Nat.reduceLeDiff, hG, q1, q2, q3, q4, d1, c2]; refine hK _ _ ?_; clear hK K hG G) | (refine W_end rfl fun G K hG hK => ?_; simp (disch := omega) only [go_sem, ↓reduceIte, Nat.reduceEqDiff, Nat.reduceAdd, Nat.reduceLeDiff, hG, q1, q2, q3, q4, d1, c2]; refine hK _ _ ?_; clear hK K hG G; repeat (first | refine thenI ?_ | refine thenE ?_ | refine thenR ?_ | refine inBI ?_ | refine inBR ?_ | refine inBS ?_ | refine inBN (by decide) ?_)) | refine W_seqS ?_ | refine W_seqC ?_ | refine W_seqB ?_ | refine W_block ?_ | (refine W_skip ?_; repeat (first | refine thenI ?_ | refine thenE ?_ | refine thenR ?_ | refine inBI ?_ | refine inBR ?_ | refine inBS ?_ | refine inBN (by decide) ?_)) | (refine W_condT ?hc ?_; (case hc => (simp (disch := omega) only [go_sem, ↓reduceIte, Nat.reduceEqDiff, Nat.reduceAdd, Nat.reduceLeDiff, q1, q2, q3, q4, d1, c2]; done))) | (refine W_condF ?hc ?_; (case hc => (simp (disch := omega) only [go_sem, ↓reduceIte, Nat.reduceEqDiff, Nat.reduceAdd, Nat.reduceLeDiff, q1, q2, q3, q4, d1, c2]; done))))
  (repeat (first | refine W_seqS ?_ | refine W_seqC ?_ | refine W_seqB ?_ | refine W_block ?_)); refine W_reg rfl fun G K hG hK => ?_; simp (disch := omega) only [go_sem, ↓reduceIte, Nat.reduceEqDiff, Nat.reduceAdd, Nat.reduceLeDiff, hG, q1, q2, q3, q4, d1]
  refine w_call (szTerm_ok g.r st _ (left - g.l.wt) hL.2 (by omega) (by omega) Er) (by simp (disch := omega) only [go_sem, ↓reduceIte, Nat.reduceEqDiff, q1, q2, q3, q4, d1]) ?hl ?_
  case hl => first | rfl | (simp only [go_sem, List.all_cons, List.all_nil, Bool.not_false, Bool.and_self, q1, q2, q3, q4, d1]; done)
  rintro r_ st ⟨rfl, rfl⟩; refine ⟨fun e => (by cases e), ?_⟩
  simp (disch := omega) only [go_sem, ↓reduceIte, Nat.reduceEqDiff, Nat.reduceAdd, Nat.reduceLeDiff, hG, q1, q2, q3, q4, d1]; refine hK _ _ ?_; clear hK K hG G; repeat (first | refine thenI ?_ | refine thenE ?_ | refine thenR ?_ | refine inBI ?_ | refine inBR ?_ | refine inBS ?_ | refine inBN (by decide) ?_)
  by_cases hq2 : (g.r.wt : Int) ≤ left - g.l.wt
  case neg =>
    rw [if_neg hq2]
    repeat (first | (refine W_reg rfl fun G K hG hK => ?_; simp (disch := omega) only [go_sem, ↓reduceIte, Nat.reduceEqDiff, Nat.reduceAdd, Nat.reduceLeDiff, hG, q1, q2, q3, q4, d1]; refine hK _ _ ?_; clear hK K hG G) | (refine W_end rfl fun G K hG hK => ?_; simp (disch := omega) only [go_sem, ↓reduceIte, Nat.reduceEqDiff, Nat.reduceAdd, Nat.reduceLeDiff, hG, q1, q2, q3, q4, d1]; refine hK _ _ ?_; clear hK K hG G; repeat (first | refine thenI ?_ | refine thenE ?_ | refine thenR ?_ | refine inBI ?_ | refine inBR ?_ | refine inBS ?_ | refine inBN (by decide) ?_)) | refine W_seqS ?_ | refine W_seqC ?_ | refine W_seqB ?_ | refine W_block ?_ | (refine W_skip ?_; repeat (first | refine thenI ?_ | refine thenE ?_ | refine thenR ?_ | refine inBI ?_ | refine inBR ?_ | refine inBS ?_ | refine inBN (by decide) ?_)) | (refine W_condT ?hc ?_; (case hc => (simp (disch := omega) only [go_sem, ↓reduceIte, Nat.reduceEqDiff, Nat.reduceAdd, Nat.reduceLeDiff, q1, q2, q3, q4, d1]; done))) | (refine W_condF ?hc ?_; (case hc => (simp (disch := omega) only [go_sem, ↓reduceIte, Nat.reduceEqDiff, Nat.reduceAdd, Nat.reduceLeDiff, q1, q2, q3, q4, d1]; done))))
    refine W_ret ?_; try (repeat (first | refine thenI ?_ | refine thenE ?_ | refine thenR ?_ | refine inBI ?_ | refine inBR ?_ | refine inBS ?_ | refine inBN (by decide) ?_))
    refine fin1 (.inl rfl) (by (simp (disch := omega) only [go_sem, ↓reduceIte, Nat.reduceEqDiff, Nat.reduceAdd, Nat.reduceLeDiff, q1, q2, q3, q4, d1]); try rfl) rfl ⟨?_, rfl⟩
    rw [if_neg (by omega)]
  rw [if_pos hq2]
  have c3 : decide (left - (g.l.wt : Int) - (g.r.wt : Int) < 0) = false := by simp; omega
  repeat (first | (refine W_reg rfl fun G K hG hK => ?_; simp (disch := omega) only [go_sem, ↓reduceIte, Nat.reduceEqDiff, Nat.reduceAdd, Nat.reduceLeDiff, hG, q1, q2, q3, q4, d1, c3]; refine hK _ _ ?_; clear hK K hG G) | (refine W_end rfl fun G K hG hK => ?_; simp (disch := omega) only [go_sem, ↓reduceIte, Nat.reduceEqDiff, Nat.reduceAdd, Nat.reduceLeDiff, hG, q1, q2, q3, q4, d1, c3]; refine hK _ _ ?_; clear hK K hG G; repeat (first | refine thenI ?_ | refine thenE ?_ | refine thenR ?_ | refine inBI ?_ | refine inBR ?_ | refine inBS ?_ | refine inBN (by decide) ?_)) | refine W_seqS ?_ | refine W_seqC ?_ | refine W_seqB ?_ | refine W_block ?_ | (refine W_skip ?_; repeat (first | refine thenI ?_ | refine thenE ?_ | refine thenR ?_ | refine inBI ?_ | refine inBR ?_ | refine inBS ?_ | refine inBN (by decide) ?_)) | (refine W_condT ?hc ?_; (case hc => (simp (disch := omega) only [go_sem, ↓reduceIte, Nat.reduceEqDiff, Nat.reduceAdd, Nat.reduceLeDiff, q1, q2, q3, q4, d1, c3]; done))) | (refine W_condF ?hc ?_; (case hc => (simp (disch := omega) only [go_sem, ↓reduceIte, Nat.reduceEqDiff, Nat.reduceAdd, Nat.reduceLeDiff, q1, q2, q3, q4, d1, c3]; done))))
  refine W_ret ?_; try (repeat (first | refine thenI ?_ | refine thenE ?_ | refine thenR ?_ | refine inBI ?_ | refine inBR ?_ | refine inBS ?_ | refine inBN (by decide) ?_))
  refine fin1 (.inl rfl) (by (simp (disch := omega) only [go_sem, ↓reduceIte, Nat.reduceEqDiff, Nat.reduceAdd, Nat.reduceLeDiff, q1, q2, q3, q4, d1]); try rfl) rfl ⟨?_, rfl⟩
  have e : left - (g.l.wt : Int) - (g.r.wt : Int) = left - ((Wt.wt g : Nat) : Int) := by omega
  rw [if_pos (by omega), e]

theorem toGuard_ok (g : Grd) (st : St) (cs : List Value) (hl : LimG 1073741824 g) (hE : EncG st g cs) :
    CallS Tryd.prog 6 [.agg cs.toArray] st fun r st2 => Ext st st2 ∧ ∃ ds L, r = .agg ds.toArray ∧ OwnG st2 g ds L ∧ Fresh st.length L := by
  refine CallS_of_W [] 16 Tryd.func6 rfl rfl rfl rfl (by simp) ?_
  obtain ⟨kl, nl, ml, sl, kr, nr, mr, sr, rfl, El, Er, q1, q2, q3, q4⟩ := hE.cells
  repeat (first | (refine W_reg rfl fun G K hG hK => ?_; simp (disch := omega) only [go_sem, ↓reduceIte, Nat.reduceEqDiff, Nat.reduceAdd, Nat.reduceLeDiff, hG, q1, q2, q3, q4]; refine hK _ _ ?_; clear hK K hG G) | (refine W_end rfl fun G K hG hK => ?_; simp (disch := omega) only [go_sem, ↓reduceIte, Nat.reduceEqDiff, Nat.reduceAdd, Nat.reduceLeDiff, hG, q1, q2, q3, q4]; refine hK _ _ ?_; clear hK K hG G; repeat (first | refine thenI ?_ | refine thenE ?_ | refine thenR ?_ | refine inBI ?_ | refine inBR ?_ | refine inBS ?_ | refine inBN (by decide) ?_)) | refine W_seqS ?_ | refine W_seqC ?_ | refine W_seqB ?_ | refine W_block ?_ | (refine W_skip ?_; repeat (first | refine thenI ?_ | refine thenE ?_ | refine thenR ?_ | refine inBI ?_ | refine inBR ?_ | refine inBS ?_ | refine inBN (by decide) ?_)) | (refine W_condT ?hc ?_; (case hc => (simp (disch := omega) only [go_sem, ↓reduceIte, Nat.reduceEqDiff, Nat.reduceAdd, Nat.reduceLeDiff, q1, q2, q3, q4]; done))) | (refine W_condF ?hc ?_; (case hc => (simp (disch := omega) only [go_sem, ↓reduceIte, Nat.reduceEqDiff, Nat.reduceAdd, Nat.reduceLeDiff, q1, q2, q3, q4]; done))))
  (repeat (first | refine W_seqS ?_ | refine W_seqC ?_ | refine W_seqB ?_ | refine W_block ?_)); refine W_reg rfl fun G K hG hK => ?_; simp (disch := omega) only [go_sem, ↓reduceIte, Nat.reduceEqDiff, Nat.reduceAdd, Nat.reduceLeDiff, hG, q1, q2, q3, q4]
  refine w_call (toTerm_ok g.l st _ hl.1 El) (by simp (disch := omega) only [go_sem, ↓reduceIte, Nat.reduceEqDiff, q1, q2, q3, q4]) ?hl ?_
  case hl => first | rfl | (simp only [go_sem, List.all_cons, List.all_nil, Bool.not_false, Bool.and_self, q1, q2, q3, q4]; done)
  rintro r_ sa ⟨x1, d1, L1, rfl, o1, f1⟩; refine ⟨fun e => (by cases e), ?_⟩
  obtain ⟨k1, n1, m1, s1, rfl, a1, a2, a3⟩ := o1.args_cells
  simp (disch := omega) only [go_sem, ↓reduceIte, Nat.reduceEqDiff, Nat.reduceAdd, Nat.reduceLeDiff, hG, q1, q2, q3, q4, a1, a2, a3]; refine hK _ _ ?_; clear hK K hG G; repeat (first | refine thenI ?_ | refine thenE ?_ | refine thenR ?_ | refine inBI ?_ | refine inBR ?_ | refine inBS ?_ | refine inBN (by decide) ?_)
  (repeat (first | refine W_seqS ?_ | refine W_seqC ?_ | refine W_seqB ?_ | refine W_block ?_)); refine W_reg rfl fun G K hG hK => ?_; simp (disch := omega) only [go_sem, ↓reduceIte, Nat.reduceEqDiff, Nat.reduceAdd, Nat.reduceLeDiff, hG, q1, q2, q3, q4, a1, a2, a3]
  refine w_call (toTerm_ok g.r sa _ hl.2 (Enc.ext x1 _ _ Er)) (by simp (disch := omega) only [go_sem, ↓reduceIte, Nat.reduceEqDiff, q1, q2, q3, q4, a1, a2, a3]) ?hl ?_
  case hl => first | rfl | (simp only [go_sem, List.all_cons, List.all_nil, Bool.not_false, Bool.and_self, q1, q2, q3, q4, a1, a2, a3]; done)
  rintro r_ sb ⟨x2, d2, L2, rfl, o2, f2⟩; refine ⟨fun e => (by cases e), ?_⟩
  obtain ⟨k2, n2, m2, s2, rfl, b1, b2, b3⟩ := o2.args_cells
  simp (disch := omega) only [go_sem, ↓reduceIte, Nat.reduceEqDiff, Nat.reduceAdd, Nat.reduceLeDiff, hG, q1, q2, q3, q4, a1, a2, a3, b1, b2, b3]; refine hK _ _ ?_; clear hK K hG G; repeat (first | refine thenI ?_ | refine thenE ?_ | refine thenR ?_ | refine inBI ?_ | refine inBR ?_ | refine inBS ?_ | refine inBN (by decide) ?_)
  repeat (first | (refine W_reg rfl fun G K hG hK => ?_; simp (disch := omega) only [go_sem, ↓reduceIte, Nat.reduceEqDiff, Nat.reduceAdd, Nat.reduceLeDiff, hG, q1, q2, q3, q4, a1, a2, a3, b1, b2, b3]; refine hK _ _ ?_; clear hK K hG G) | (refine W_end rfl fun G K hG hK => ?_; simp (disch := omega) only [go_sem, ↓reduceIte, Nat.reduceEqDiff, Nat.reduceAdd, Nat.reduceLeDiff, hG, q1, q2, q3, q4, a1, a2, a3, b1, b2, b3]; refine hK _ _ ?_; clear hK K hG G; repeat (first | refine thenI ?_ | refine thenE ?_ | refine thenR ?_ | refine inBI ?_ | refine inBR ?_ | refine inBS ?_ | refine inBN (by decide) ?_)) | refine W_seqS ?_ | refine W_seqC ?_ | refine W_seqB ?_ | refine W_block ?_ | (refine W_skip ?_; repeat (first | refine thenI ?_ | refine thenE ?_ | refine thenR ?_ | refine inBI ?_ | refine inBR ?_ | refine inBS ?_ | refine inBN (by decide) ?_)) | (refine W_condT ?hc ?_; (case hc => (simp (disch := omega) only [go_sem, ↓reduceIte, Nat.reduceEqDiff, Nat.reduceAdd, Nat.reduceLeDiff, q1, q2, q3, q4, a1, a2, a3, b1, b2, b3]; done))) | (refine W_condF ?hc ?_; (case hc => (simp (disch := omega) only [go_sem, ↓reduceIte, Nat.reduceEqDiff, Nat.reduceAdd, Nat.reduceLeDiff, q1, q2, q3, q4, a1, a2, a3, b1, b2, b3]; done))))
  refine W_ret ?_; try (repeat (first | refine thenI ?_ | refine thenE ?_ | refine thenR ?_ | refine inBI ?_ | refine inBR ?_ | refine inBS ?_ | refine inBN (by decide) ?_))
  refine finC (.inl rfl) (by (simp (disch := omega) only [go_sem, ↓reduceIte, Nat.reduceEqDiff, Nat.reduceAdd, Nat.reduceLeDiff, q1, q2, q3, q4, a1, a2, a3, b1, b2, b3]); try rfl) ⟨x1.trans x2, [.int .i64 g.k, .int .i64 k1, .int .i64 n1, .string m1, s1, .int .i64 k2, .int .i64 n2, .string m2, s2], L1 ++ L2, rfl, ⟨_, _, L1, L2, rfl, o1.ext x2, o2, rfl⟩, ?_⟩
  exact ⟨List.nodup_append.2 ⟨f1.1, f2.1, fun a ha b hb e => o1.apart f2 a ha (e ▸ hb)⟩, fun i hi => by
    rcases List.mem_append.1 hi with hi | hi
    · exact f1.2 i hi
    · have := f2.2 i hi; have := x1.length; omega⟩

theorem eqGuard_ok (g : Grd) (st : St) (cs ds : List Value) (hl : LimG 4611686018427387904 g) (hE : EncG st g cs) (hE' : EncG st g ds) :
    CallS Tryd.prog 8 [.agg cs.toArray, .agg ds.toArray] st fun r st' => r = .bool true ∧ st' = st := by
  refine CallS_of_W [] 22 Tryd.func8 rfl rfl rfl rfl (by simp) ?_
  obtain ⟨kl, nl, ml, sl, kr, nr, mr, sr, rfl, El, Er, q1, q2, q3, q4⟩ := hE.cells
  obtain ⟨kl', nl', ml', sl', kr', nr', mr', sr', rfl, El', Er', q1', q2', q3', q4'⟩ := hE'.cells
  repeat (first | (refine W_reg rfl fun G K hG hK => ?_; simp (disch := omega) only [go_sem, ↓reduceIte, Nat.reduceEqDiff, Nat.reduceAdd, Nat.reduceLeDiff, hG, q1, q2, q3, q4, q1', q2', q3', q4']; refine hK _ _ ?_; clear hK K hG G) | (refine W_end rfl fun G K hG hK => ?_; simp (disch := omega) only [go_sem, ↓reduceIte, Nat.reduceEqDiff, Nat.reduceAdd, Nat.reduceLeDiff, hG, q1, q2, q3, q4, q1', q2', q3', q4']; refine hK _ _ ?_; clear hK K hG G; repeat (first | refine thenI ?_ | refine thenE ?_ | refine thenR ?_ | refine inBI ?_ | refine inBR ?_ | refine inBS ?_ | refine inBN (by decide) ?_)) | refine W_seqS ?_ | refine W_seqC ?_ | refine W_seqB ?_ | refine W_block ?_ | (refine W_skip ?_; repeat (first | refine thenI ?_ | refine thenE ?_ | refine thenR ?_ | refine inBI ?_ | refine inBR ?_ | refine inBS ?_ | refine inBN (by decide) ?_)) | (refine W_condT ?hc ?_; (case hc => (simp (disch := omega) only [go_sem, ↓reduceIte, Nat.reduceEqDiff, Nat.reduceAdd, Nat.reduceLeDiff, q1, q2, q3, q4, q1', q2', q3', q4']; done))) | (refine W_condF ?hc ?_; (case hc => (simp (disch := omega) only [go_sem, ↓reduceIte, Nat.reduceEqDiff, Nat.reduceAdd, Nat.reduceLeDiff, q1, q2, q3, q4, q1', q2', q3', q4']; done))))
  (repeat (first | refine W_seqS ?_ | refine W_seqC ?_ | refine W_seqB ?_ | refine W_block ?_)); refine W_reg rfl fun G K hG hK => ?_; simp (disch := omega) only [go_sem, ↓reduceIte, Nat.reduceEqDiff, Nat.reduceAdd, Nat.reduceLeDiff, hG, q1, q2, q3, q4, q1', q2', q3', q4']
  refine w_call (eqTerm_ok g.l st _ _ hl.1 El El') (by simp (disch := omega) only [go_sem, ↓reduceIte, Nat.reduceEqDiff, q1, q2, q3, q4, q1', q2', q3', q4']) ?hl ?_
  case hl => first | rfl | (simp only [go_sem, List.all_cons, List.all_nil, Bool.not_false, Bool.and_self, q1, q2, q3, q4, q1', q2', q3', q4']; done)
  rintro r_ st ⟨rfl, rfl⟩; refine ⟨fun e => (by cases e), ?_⟩
  simp (disch := omega) only [go_sem, ↓reduceIte, Nat.reduceEqDiff, Nat.reduceAdd, Nat.reduceLeDiff, hG, q1, q2, q3, q4, q1', q2', q3', q4']; refine hK _ _ ?_; clear hK K hG G; repeat (first | refine thenI ?_ | refine thenE ?_ | refine thenR ?_ | refine inBI ?_ | refine inBR ?_ | refine inBS ?_ | refine inBN (by decide) ?_)
  repeat (first | (refine W_reg rfl fun G K hG hK => ?_; simp (disch := omega) only [go_sem, ↓reduceIte, Nat.reduceEqDiff, Nat.reduceAdd, Nat.reduceLeDiff, hG, q1, q2, q3, q4, q1', q2', q3', q4']; refine hK _ _ ?_; clear hK K hG G) | (refine W_end rfl fun G K hG hK => ?_; simp (disch := omega) only [go_sem, ↓reduceIte, Nat.reduceEqDiff, Nat.reduceAdd, Nat.reduceLeDiff, hG, q1, q2, q3, q4, q1', q2', q3', q4']; refine hK _ _ ?_; clear hK K hG G; repeat (first | refine thenI ?_ | refine thenE ?_ | refine thenR ?_ | refine inBI ?_ | refine inBR ?_ | refine inBS ?_ | refine inBN (by decide) ?_)) | refine W_seqS ?_ | refine W_seqC ?_ | refine W_seqB ?_ | refine W_block ?_ | (refine W_skip ?_; repeat (first | refine thenI ?_ | refine thenE ?_ | refine thenR ?_ | refine inBI ?_ | refine inBR ?_ | refine inBS ?_ | refine inBN (by decide) ?_)) | (refine W_condT ?hc ?_; (case hc => (simp (disch := omega) only [go_sem, ↓reduceIte, Nat.reduceEqDiff, Nat.reduceAdd, Nat.reduceLeDiff, q1, q2, q3, q4, q1', q2', q3', q4']; done))) | (refine W_condF ?hc ?_; (case hc => (simp (disch := omega) only [go_sem, ↓reduceIte, Nat.reduceEqDiff, Nat.reduceAdd, Nat.reduceLeDiff, q1, q2, q3, q4, q1', q2', q3', q4']; done))))
  (repeat (first | refine W_seqS ?_ | refine W_seqC ?_ | refine W_seqB ?_ | refine W_block ?_)); refine W_reg rfl fun G K hG hK => ?_; simp (disch := omega) only [go_sem, ↓reduceIte, Nat.reduceEqDiff, Nat.reduceAdd, Nat.reduceLeDiff, hG, q1, q2, q3, q4, q1', q2', q3', q4']
  refine w_call (eqTerm_ok g.r st _ _ hl.2 Er Er') (by simp (disch := omega) only [go_sem, ↓reduceIte, Nat.reduceEqDiff, q1, q2, q3, q4, q1', q2', q3', q4']) ?hl ?_
  case hl => first | rfl | (simp only [go_sem, List.all_cons, List.all_nil, Bool.not_false, Bool.and_self, q1, q2, q3, q4, q1', q2', q3', q4']; done)
  rintro r_ st ⟨rfl, rfl⟩; refine ⟨fun e => (by cases e), ?_⟩
  simp (disch := omega) only [go_sem, ↓reduceIte, Nat.reduceEqDiff, Nat.reduceAdd, Nat.reduceLeDiff, hG, q1, q2, q3, q4, q1', q2', q3', q4']; refine hK _ _ ?_; clear hK K hG G; repeat (first | refine thenI ?_ | refine thenE ?_ | refine thenR ?_ | refine inBI ?_ | refine inBR ?_ | refine inBS ?_ | refine inBN (by decide) ?_)
  repeat (first | (refine W_reg rfl fun G K hG hK => ?_; simp (disch := omega) only [go_sem, ↓reduceIte, Nat.reduceEqDiff, Nat.reduceAdd, Nat.reduceLeDiff, hG, q1, q2, q3, q4, q1', q2', q3', q4']; refine hK _ _ ?_; clear hK K hG G) | (refine W_end rfl fun G K hG hK => ?_; simp (disch := omega) only [go_sem, ↓reduceIte, Nat.reduceEqDiff, Nat.reduceAdd, Nat.reduceLeDiff, hG, q1, q2, q3, q4, q1', q2', q3', q4']; refine hK _ _ ?_; clear hK K hG G; repeat (first | refine thenI ?_ | refine thenE ?_ | refine thenR ?_ | refine inBI ?_ | refine inBR ?_ | refine inBS ?_ | refine inBN (by decide) ?_)) | refine W_seqS ?_ | refine W_seqC ?_ | refine W_seqB ?_ | refine W_block ?_ | (refine W_skip ?_; repeat (first | refine thenI ?_ | refine thenE ?_ | refine thenR ?_ | refine inBI ?_ | refine inBR ?_ | refine inBS ?_ | refine inBN (by decide) ?_)) | (refine W_condT ?hc ?_; (case hc => (simp (disch := omega) only [go_sem, ↓reduceIte, Nat.reduceEqDiff, Nat.reduceAdd, Nat.reduceLeDiff, q1, q2, q3, q4, q1', q2', q3', q4']; done))) | (refine W_condF ?hc ?_; (case hc => (simp (disch := omega) only [go_sem, ↓reduceIte, Nat.reduceEqDiff, Nat.reduceAdd, Nat.reduceLeDiff, q1, q2, q3, q4, q1', q2', q3', q4']; done))))
  refine W_ret ?_; try (repeat (first | refine thenI ?_ | refine thenE ?_ | refine thenR ?_ | refine inBI ?_ | refine inBR ?_ | refine inBS ?_ | refine inBN (by decide) ?_))
  refine fin1 (.inl rfl) (by (simp (disch := omega) only [go_sem, ↓reduceIte, Nat.reduceEqDiff, Nat.reduceAdd, Nat.reduceLeDiff, q1, q2, q3, q4, q1', q2', q3', q4']); try rfl) rfl ⟨rfl, rfl⟩

end Go.Proofs.YtngkedafggfehaaDoor.AM


/- The text of a term, or none: impl.FormatTerm, spec.FormatTerm; guards: impl.FormatGuard, spec.FormatGuard. -/
namespace Go.Proofs.YtngkedafggfehaaDoor.AM
open Go Go.Proofs
set_option linter.unusedVariables false
set_option linter.unusedSimpArgs false
set_option maxRecDepth 100000
attribute [local go_sem] List.map_cons List.map_nil List.all_cons List.all_nil Bool.and_self Option.map_some List.getElem?_toArray Option.bind_some gye_b gye_t gsk_b gsk_t gb1 gb2 gb3 gb4 bne_self_eq_false beq_self_eq_true w_guard w_nil stepV_some step_some step_some' w_move w_assign w_pick w_binOp w_unOp w_load w_fieldAddr w_indexAddr w_len w_max w_index ev_max max_int ev_index w_box w_alloc w_store w_field w_extract w_nilCheck w_convert w_buildSlice w_build ev_buildL fillL_nil fillL_cons bs0 bs1 ev_conv ev_bin ev_un ev_pick ev_load ev_fieldAddr ev_indexAddr ev_len ev_field ev_extract ev_nilCheck fr_tmp fr_int fr_bool fr_str fr_nil fr_func put_some put_none bin_lss bin_leq bin_gtr bin_geq bin_eql bin_neq bin_add bin_sub bin_mul bin_seql bin_sneq un_not pick_ ext_ loadA_p cellAt_l cellAt_h okPtr_l okPtr_h fadA_p allocA_l storeA_l cells_agg cells_int cells_str cells_sl cells_bool flat_i flat_s flat_b flat_sl flat_nil loc_agg loc_int loc_str loc_sl loc_bool loc_fn loc_ptr okv_agg okv_int okv_str okv_sl okv_bool cellsFrom splice upd_eval argEnv_zero argEnv_succ ne_eq Nat.add_one_ne_zero not_false_eq_true List.not_mem_nil and_self decide_true List.getElem?_cons_zero List.getElem?_cons_succ List.size_toArray List.length_cons List.length_nil List.take_succ_cons List.take_zero List.drop_succ_cons List.drop_zero List.cons_append List.nil_append List.drop_nil Bool.not_true Bool.not_false Bool.false_eq_true Nat.zero_add Nat.add_zero wrap_in List.toList_toArray List.mem_cons or_self or_false false_or
attribute [local go_sem] ag22 ag24 ag26 ag29 ag3 ag31 ag33 ag5 ag54 ag56 ag69 ag9 by31 by5 by9 el22 el29 el46 el54 of24_0 of24_1 of24_2 of24_3 of26_0 of26_1 of26_2 of31_0 of31_1 of31_2 of31_3 of33_0 of33_1 of33_2 of58_0 of58_1 ro5_1 ro9_1 ro9_3 ro9_4 sz22 sz24 sz26 sz29 sz3 sz31 sz33 sz5 sz54 sz56 sz69 sz9 ze31 ze33 ze5 ze58 ze68 ze81 ze9
-- AUTO

/-- What FormatTerm answers. -/
def T.fmtS (t : T) : ByteArray := ⟨(T.fmtV t).toArray⟩
theorem fmtS_yes {t : T} (h : t.valid = true) : t.fmtS = ⟨(t.fmt).toArray⟩ := by unfold T.fmtS T.fmtV; rw [if_pos h]
theorem fmtS_no {t : T} (h : t.valid = false) : t.fmtS = ⟨#[]⟩ := by unfold T.fmtS T.fmtV; rw [if_neg (by rw [h]; simp)]
theorem implFmt_ok (t : T) (st : St) (cs : List Value) (hl : Lim 1073741824 t) (hc : t.count ≤ 4611686018427387904) (hE : Enc st t cs) :
    CallS Tryd.prog 15 [.agg cs.toArray] st fun r st2 => Ext st st2 ∧ r = .string t.fmtS := by
  refine CallS_of_W [] 8 Tryd.func15 rfl rfl rfl rfl (by simp) ?_
  obtain ⟨k1, n1, m1, s1, rfl, a1, a2, a3⟩ := hE.args_cells
  have hd := T.depth_count t
  repeat (first | (refine W_reg rfl fun G K hG hK => ?_; simp (disch := omega) only [go_sem, ↓reduceIte, Nat.reduceEqDiff, Nat.reduceAdd, Nat.reduceLeDiff, hG, a1, a2, a3]; refine hK _ _ ?_; clear hK K hG G) | (refine W_end rfl fun G K hG hK => ?_; simp (disch := omega) only [go_sem, ↓reduceIte, Nat.reduceEqDiff, Nat.reduceAdd, Nat.reduceLeDiff, hG, a1, a2, a3]; refine hK _ _ ?_; clear hK K hG G; repeat (first | refine thenI ?_ | refine thenE ?_ | refine thenR ?_ | refine inBI ?_ | refine inBR ?_ | refine inBS ?_ | refine inBN (by decide) ?_)) | refine W_seqS ?_ | refine W_seqC ?_ | refine W_seqB ?_ | refine W_block ?_ | (refine W_skip ?_; repeat (first | refine thenI ?_ | refine thenE ?_ | refine thenR ?_ | refine inBI ?_ | refine inBR ?_ | refine inBS ?_ | refine inBN (by decide) ?_)) | (refine W_condT ?hc ?_; (case hc => (simp (disch := omega) only [go_sem, ↓reduceIte, Nat.reduceEqDiff, Nat.reduceAdd, Nat.reduceLeDiff, a1, a2, a3]; done))) | (refine W_condF ?hc ?_; (case hc => (simp (disch := omega) only [go_sem, ↓reduceIte, Nat.reduceEqDiff, Nat.reduceAdd, Nat.reduceLeDiff, a1, a2, a3]; done))))
  (repeat (first | refine W_seqS ?_ | refine W_seqC ?_ | refine W_seqB ?_ | refine W_block ?_)); refine W_reg rfl fun G K hG hK => ?_; simp (disch := omega) only [go_sem, ↓reduceIte, Nat.reduceEqDiff, Nat.reduceAdd, Nat.reduceLeDiff, hG, a1, a2, a3]
  refine w_call (implValid_ok t st _ hl hc (by omega) hE) (by simp (disch := omega) only [go_sem, ↓reduceIte, Nat.reduceEqDiff, a1, a2, a3]) ?hl ?_
  case hl => first | rfl | (simp only [go_sem, List.all_cons, List.all_nil, Bool.not_false, Bool.and_self, a1, a2, a3]; done)
  rintro r_ st ⟨rfl, rfl⟩; refine ⟨fun e => (by cases e), ?_⟩
  simp (disch := omega) only [go_sem, ↓reduceIte, Nat.reduceEqDiff, Nat.reduceAdd, Nat.reduceLeDiff, hG, a1, a2, a3]; refine hK _ _ ?_; clear hK K hG G; repeat (first | refine thenI ?_ | refine thenE ?_ | refine thenR ?_ | refine inBI ?_ | refine inBR ?_ | refine inBS ?_ | refine inBN (by decide) ?_)
  cases hv : t.valid with
  | false =>
    repeat (first | (refine W_reg rfl fun G K hG hK => ?_; simp (disch := omega) only [go_sem, ↓reduceIte, Nat.reduceEqDiff, Nat.reduceAdd, Nat.reduceLeDiff, hG, a1, a2, a3]; refine hK _ _ ?_; clear hK K hG G) | (refine W_end rfl fun G K hG hK => ?_; simp (disch := omega) only [go_sem, ↓reduceIte, Nat.reduceEqDiff, Nat.reduceAdd, Nat.reduceLeDiff, hG, a1, a2, a3]; refine hK _ _ ?_; clear hK K hG G; repeat (first | refine thenI ?_ | refine thenE ?_ | refine thenR ?_ | refine inBI ?_ | refine inBR ?_ | refine inBS ?_ | refine inBN (by decide) ?_)) | refine W_seqS ?_ | refine W_seqC ?_ | refine W_seqB ?_ | refine W_block ?_ | (refine W_skip ?_; repeat (first | refine thenI ?_ | refine thenE ?_ | refine thenR ?_ | refine inBI ?_ | refine inBR ?_ | refine inBS ?_ | refine inBN (by decide) ?_)) | (refine W_condT ?hc ?_; (case hc => (simp (disch := omega) only [go_sem, ↓reduceIte, Nat.reduceEqDiff, Nat.reduceAdd, Nat.reduceLeDiff, a1, a2, a3]; done))) | (refine W_condF ?hc ?_; (case hc => (simp (disch := omega) only [go_sem, ↓reduceIte, Nat.reduceEqDiff, Nat.reduceAdd, Nat.reduceLeDiff, a1, a2, a3]; done))))
    refine W_ret ?_; try (repeat (first | refine thenI ?_ | refine thenE ?_ | refine thenR ?_ | refine inBI ?_ | refine inBR ?_ | refine inBS ?_ | refine inBN (by decide) ?_))
    refine fin1 (.inl rfl) (by (simp (disch := omega) only [go_sem, ↓reduceIte, Nat.reduceEqDiff, Nat.reduceAdd, Nat.reduceLeDiff, a1, a2, a3]); try rfl) rfl ⟨Ext.refl _, by rw [fmtS_no hv]⟩
  | true =>
    obtain ⟨h1, h2, h3⟩ := valid_nodes hv
    repeat (first | (refine W_reg rfl fun G K hG hK => ?_; simp (disch := omega) only [go_sem, ↓reduceIte, Nat.reduceEqDiff, Nat.reduceAdd, Nat.reduceLeDiff, hG, a1, a2, a3]; refine hK _ _ ?_; clear hK K hG G) | (refine W_end rfl fun G K hG hK => ?_; simp (disch := omega) only [go_sem, ↓reduceIte, Nat.reduceEqDiff, Nat.reduceAdd, Nat.reduceLeDiff, hG, a1, a2, a3]; refine hK _ _ ?_; clear hK K hG G; repeat (first | refine thenI ?_ | refine thenE ?_ | refine thenR ?_ | refine inBI ?_ | refine inBR ?_ | refine inBS ?_ | refine inBN (by decide) ?_)) | refine W_seqS ?_ | refine W_seqC ?_ | refine W_seqB ?_ | refine W_block ?_ | (refine W_skip ?_; repeat (first | refine thenI ?_ | refine thenE ?_ | refine thenR ?_ | refine inBI ?_ | refine inBR ?_ | refine inBS ?_ | refine inBN (by decide) ?_)) | (refine W_condT ?hc ?_; (case hc => (simp (disch := omega) only [go_sem, ↓reduceIte, Nat.reduceEqDiff, Nat.reduceAdd, Nat.reduceLeDiff, a1, a2, a3]; done))) | (refine W_condF ?hc ?_; (case hc => (simp (disch := omega) only [go_sem, ↓reduceIte, Nat.reduceEqDiff, Nat.reduceAdd, Nat.reduceLeDiff, a1, a2, a3]; done))))
    (repeat (first | refine W_seqS ?_ | refine W_seqC ?_ | refine W_seqB ?_ | refine W_block ?_)); refine W_reg rfl fun G K hG hK => ?_; simp (disch := omega) only [go_sem, ↓reduceIte, Nat.reduceEqDiff, Nat.reduceAdd, Nat.reduceLeDiff, hG, a1, a2, a3]
    refine w_call (implText_ok t st _ h1 (by omega) hE) (by simp (disch := omega) only [go_sem, ↓reduceIte, Nat.reduceEqDiff, a1, a2, a3]) ?hl ?_
    case hl => first | rfl | (simp only [go_sem, List.all_cons, List.all_nil, Bool.not_false, Bool.and_self, a1, a2, a3]; done)
    rintro r_ sa ⟨x1, rfl⟩; refine ⟨fun e => (by cases e), ?_⟩
    simp (disch := omega) only [go_sem, ↓reduceIte, Nat.reduceEqDiff, Nat.reduceAdd, Nat.reduceLeDiff, hG, a1, a2, a3]; refine hK _ _ ?_; clear hK K hG G; repeat (first | refine thenI ?_ | refine thenE ?_ | refine thenR ?_ | refine inBI ?_ | refine inBR ?_ | refine inBS ?_ | refine inBN (by decide) ?_)
    refine W_ret ?_; try (repeat (first | refine thenI ?_ | refine thenE ?_ | refine thenR ?_ | refine inBI ?_ | refine inBR ?_ | refine inBS ?_ | refine inBN (by decide) ?_))
    refine fin1 (.inl rfl) (by (simp (disch := omega) only [go_sem, ↓reduceIte, Nat.reduceEqDiff, Nat.reduceAdd, Nat.reduceLeDiff, a1, a2, a3]); try rfl) rfl ⟨x1, by rw [fmtS_yes hv]⟩
theorem specFmt_ok (t : T) (st : St) (cs : List Value) (hl : Lim 1073741824 t) (hn : LimN 1073741824 t) (hc : t.count ≤ 4611686018427387904) (hE : Enc st t cs) :
    CallS Tryd.prog 10 [.agg cs.toArray] st fun r st2 => Ext st st2 ∧ r = .string t.fmtS := by
  refine CallS_of_W [] 8 Tryd.func10 rfl rfl rfl rfl (by simp) ?_
  obtain ⟨k1, n1, m1, s1, rfl, a1, a2, a3⟩ := hE.args_cells
  have hd := T.depth_count t
  repeat (first | (refine W_reg rfl fun G K hG hK => ?_; simp (disch := omega) only [go_sem, ↓reduceIte, Nat.reduceEqDiff, Nat.reduceAdd, Nat.reduceLeDiff, hG, a1, a2, a3]; refine hK _ _ ?_; clear hK K hG G) | (refine W_end rfl fun G K hG hK => ?_; simp (disch := omega) only [go_sem, ↓reduceIte, Nat.reduceEqDiff, Nat.reduceAdd, Nat.reduceLeDiff, hG, a1, a2, a3]; refine hK _ _ ?_; clear hK K hG G; repeat (first | refine thenI ?_ | refine thenE ?_ | refine thenR ?_ | refine inBI ?_ | refine inBR ?_ | refine inBS ?_ | refine inBN (by decide) ?_)) | refine W_seqS ?_ | refine W_seqC ?_ | refine W_seqB ?_ | refine W_block ?_ | (refine W_skip ?_; repeat (first | refine thenI ?_ | refine thenE ?_ | refine thenR ?_ | refine inBI ?_ | refine inBR ?_ | refine inBS ?_ | refine inBN (by decide) ?_)) | (refine W_condT ?hc ?_; (case hc => (simp (disch := omega) only [go_sem, ↓reduceIte, Nat.reduceEqDiff, Nat.reduceAdd, Nat.reduceLeDiff, a1, a2, a3]; done))) | (refine W_condF ?hc ?_; (case hc => (simp (disch := omega) only [go_sem, ↓reduceIte, Nat.reduceEqDiff, Nat.reduceAdd, Nat.reduceLeDiff, a1, a2, a3]; done))))
  (repeat (first | refine W_seqS ?_ | refine W_seqC ?_ | refine W_seqB ?_ | refine W_block ?_)); refine W_reg rfl fun G K hG hK => ?_; simp (disch := omega) only [go_sem, ↓reduceIte, Nat.reduceEqDiff, Nat.reduceAdd, Nat.reduceLeDiff, hG, a1, a2, a3]
  refine w_call (specValid_ok t st _ hl hn (by omega) hE) (by simp (disch := omega) only [go_sem, ↓reduceIte, Nat.reduceEqDiff, a1, a2, a3]) ?hl ?_
  case hl => first | rfl | (simp only [go_sem, List.all_cons, List.all_nil, Bool.not_false, Bool.and_self, a1, a2, a3]; done)
  rintro r_ st ⟨rfl, rfl⟩; refine ⟨fun e => (by cases e), ?_⟩
  simp (disch := omega) only [go_sem, ↓reduceIte, Nat.reduceEqDiff, Nat.reduceAdd, Nat.reduceLeDiff, hG, a1, a2, a3]; refine hK _ _ ?_; clear hK K hG G; repeat (first | refine thenI ?_ | refine thenE ?_ | refine thenR ?_ | refine inBI ?_ | refine inBR ?_ | refine inBS ?_ | refine inBN (by decide) ?_)
  cases hv : t.valid with
  | false =>
    repeat (first | (refine W_reg rfl fun G K hG hK => ?_; simp (disch := omega) only [go_sem, ↓reduceIte, Nat.reduceEqDiff, Nat.reduceAdd, Nat.reduceLeDiff, hG, a1, a2, a3]; refine hK _ _ ?_; clear hK K hG G) | (refine W_end rfl fun G K hG hK => ?_; simp (disch := omega) only [go_sem, ↓reduceIte, Nat.reduceEqDiff, Nat.reduceAdd, Nat.reduceLeDiff, hG, a1, a2, a3]; refine hK _ _ ?_; clear hK K hG G; repeat (first | refine thenI ?_ | refine thenE ?_ | refine thenR ?_ | refine inBI ?_ | refine inBR ?_ | refine inBS ?_ | refine inBN (by decide) ?_)) | refine W_seqS ?_ | refine W_seqC ?_ | refine W_seqB ?_ | refine W_block ?_ | (refine W_skip ?_; repeat (first | refine thenI ?_ | refine thenE ?_ | refine thenR ?_ | refine inBI ?_ | refine inBR ?_ | refine inBS ?_ | refine inBN (by decide) ?_)) | (refine W_condT ?hc ?_; (case hc => (simp (disch := omega) only [go_sem, ↓reduceIte, Nat.reduceEqDiff, Nat.reduceAdd, Nat.reduceLeDiff, a1, a2, a3]; done))) | (refine W_condF ?hc ?_; (case hc => (simp (disch := omega) only [go_sem, ↓reduceIte, Nat.reduceEqDiff, Nat.reduceAdd, Nat.reduceLeDiff, a1, a2, a3]; done))))
    refine W_ret ?_; try (repeat (first | refine thenI ?_ | refine thenE ?_ | refine thenR ?_ | refine inBI ?_ | refine inBR ?_ | refine inBS ?_ | refine inBN (by decide) ?_))
    refine fin1 (.inl rfl) (by (simp (disch := omega) only [go_sem, ↓reduceIte, Nat.reduceEqDiff, Nat.reduceAdd, Nat.reduceLeDiff, a1, a2, a3]); try rfl) rfl ⟨Ext.refl _, by rw [fmtS_no hv]⟩
  | true =>
    obtain ⟨h1, h2, h3⟩ := valid_nodes hv
    repeat (first | (refine W_reg rfl fun G K hG hK => ?_; simp (disch := omega) only [go_sem, ↓reduceIte, Nat.reduceEqDiff, Nat.reduceAdd, Nat.reduceLeDiff, hG, a1, a2, a3]; refine hK _ _ ?_; clear hK K hG G) | (refine W_end rfl fun G K hG hK => ?_; simp (disch := omega) only [go_sem, ↓reduceIte, Nat.reduceEqDiff, Nat.reduceAdd, Nat.reduceLeDiff, hG, a1, a2, a3]; refine hK _ _ ?_; clear hK K hG G; repeat (first | refine thenI ?_ | refine thenE ?_ | refine thenR ?_ | refine inBI ?_ | refine inBR ?_ | refine inBS ?_ | refine inBN (by decide) ?_)) | refine W_seqS ?_ | refine W_seqC ?_ | refine W_seqB ?_ | refine W_block ?_ | (refine W_skip ?_; repeat (first | refine thenI ?_ | refine thenE ?_ | refine thenR ?_ | refine inBI ?_ | refine inBR ?_ | refine inBS ?_ | refine inBN (by decide) ?_)) | (refine W_condT ?hc ?_; (case hc => (simp (disch := omega) only [go_sem, ↓reduceIte, Nat.reduceEqDiff, Nat.reduceAdd, Nat.reduceLeDiff, a1, a2, a3]; done))) | (refine W_condF ?hc ?_; (case hc => (simp (disch := omega) only [go_sem, ↓reduceIte, Nat.reduceEqDiff, Nat.reduceAdd, Nat.reduceLeDiff, a1, a2, a3]; done))))
    (repeat (first | refine W_seqS ?_ | refine W_seqC ?_ | refine W_seqB ?_ | refine W_block ?_)); refine W_reg rfl fun G K hG hK => ?_; simp (disch := omega) only [go_sem, ↓reduceIte, Nat.reduceEqDiff, Nat.reduceAdd, Nat.reduceLeDiff, hG, a1, a2, a3]
    refine w_call (specText_ok t st _ h1 (by omega) hE) (by simp (disch := omega) only [go_sem, ↓reduceIte, Nat.reduceEqDiff, a1, a2, a3]) ?hl ?_
    case hl => first | rfl | (simp only [go_sem, List.all_cons, List.all_nil, Bool.not_false, Bool.and_self, a1, a2, a3]; done)
    rintro r_ sa ⟨x1, rfl⟩; refine ⟨fun e => (by cases e), ?_⟩
    simp (disch := omega) only [go_sem, ↓reduceIte, Nat.reduceEqDiff, Nat.reduceAdd, Nat.reduceLeDiff, hG, a1, a2, a3]; refine hK _ _ ?_; clear hK K hG G; repeat (first | refine thenI ?_ | refine thenE ?_ | refine thenR ?_ | refine inBI ?_ | refine inBR ?_ | refine inBS ?_ | refine inBN (by decide) ?_)
    refine W_ret ?_; try (repeat (first | refine thenI ?_ | refine thenE ?_ | refine thenR ?_ | refine inBI ?_ | refine inBR ?_ | refine inBS ?_ | refine inBN (by decide) ?_))
    refine fin1 (.inl rfl) (by (simp (disch := omega) only [go_sem, ↓reduceIte, Nat.reduceEqDiff, Nat.reduceAdd, Nat.reduceLeDiff, a1, a2, a3]); try rfl) rfl ⟨x1, by rw [fmtS_yes hv]⟩
end Go.Proofs.YtngkedafggfehaaDoor.AM


/- The text of a guard: impl.isGuardKind, impl.between, impl.FormatGuard, spec.l9Sign, spec.FormatGuard. -/
namespace Go.Proofs.YtngkedafggfehaaDoor.AM
open Go Go.Proofs
set_option linter.unusedVariables false
set_option linter.unusedSimpArgs false
set_option maxRecDepth 100000
attribute [local go_sem] List.map_cons List.map_nil List.all_cons List.all_nil Bool.and_self Option.map_some List.getElem?_toArray Option.bind_some gye_b gye_t gsk_b gsk_t gb1 gb2 gb3 gb4 bne_self_eq_false beq_self_eq_true w_guard w_nil stepV_some step_some step_some' w_move w_assign w_pick w_binOp w_unOp w_load w_fieldAddr w_indexAddr w_len w_max w_index ev_max max_int ev_index w_box w_alloc w_store w_field w_extract w_nilCheck w_convert w_buildSlice w_build ev_buildL fillL_nil fillL_cons bs0 bs1 ev_conv ev_bin ev_un ev_pick ev_load ev_fieldAddr ev_indexAddr ev_len ev_field ev_extract ev_nilCheck fr_tmp fr_int fr_bool fr_str fr_nil fr_func put_some put_none bin_lss bin_leq bin_gtr bin_geq bin_eql bin_neq bin_add bin_sub bin_mul bin_seql bin_sneq un_not pick_ ext_ loadA_p cellAt_l cellAt_h okPtr_l okPtr_h fadA_p allocA_l storeA_l cells_agg cells_int cells_str cells_sl cells_bool flat_i flat_s flat_b flat_sl flat_nil loc_agg loc_int loc_str loc_sl loc_bool loc_fn loc_ptr okv_agg okv_int okv_str okv_sl okv_bool cellsFrom splice upd_eval argEnv_zero argEnv_succ ne_eq Nat.add_one_ne_zero not_false_eq_true List.not_mem_nil and_self decide_true List.getElem?_cons_zero List.getElem?_cons_succ List.size_toArray List.length_cons List.length_nil List.take_succ_cons List.take_zero List.drop_succ_cons List.drop_zero List.cons_append List.nil_append List.drop_nil Bool.not_true Bool.not_false Bool.false_eq_true Nat.zero_add Nat.add_zero wrap_in List.toList_toArray List.mem_cons or_self or_false false_or
attribute [local go_sem] ag22 ag24 ag26 ag29 ag3 ag31 ag33 ag5 ag54 ag56 ag69 ag9 by31 by5 by9 el22 el29 el46 el54 of24_0 of24_1 of24_2 of24_3 of26_0 of26_1 of26_2 of31_0 of31_1 of31_2 of31_3 of33_0 of33_1 of33_2 of58_0 of58_1 ro5_1 ro9_1 ro9_3 ro9_4 sz22 sz24 sz26 sz29 sz3 sz31 sz33 sz5 sz54 sz56 sz69 sz9 ze31 ze33 ze5 ze58 ze68 ze81 ze9
-- AUTO

def signB (k : Int) : ByteArray := if k = 1 then ⟨#[32, 61, 61, 32]⟩ else if k = 2 then ⟨#[32, 33, 61, 32]⟩ else if k = 3 then ⟨#[32, 60, 32]⟩ else ⟨#[]⟩
theorem signB_size (k : Int) : (signB k).size ≤ 4 := by
  unfold signB
  split
  · decide
  · split
    · decide
    · split <;> decide
def isGK (k : Int) : Bool := decide (1 ≤ k) && decide (k ≤ 3)
theorem isGK_cases {k : Int} (h : isGK k = true) : k = 1 ∨ k = 2 ∨ k = 3 := by
  unfold isGK at h
  rw [Bool.and_eq_true, decide_eq_true_eq, decide_eq_true_eq] at h
  omega
theorem signB_no {k : Int} (h : isGK k = false) : signB k = ⟨#[]⟩ := by
  unfold isGK at h
  rw [Bool.and_eq_false_iff, decide_eq_false_iff_not, decide_eq_false_iff_not] at h
  unfold signB
  rw [if_neg (by omega), if_neg (by omega), if_neg (by omega)]
/-- What FormatGuard answers. -/
def Grd.fmt (g : Grd) : ByteArray := if isGK g.k = true ∧ g.l.valid = true ∧ g.r.valid = true then g.l.fmtS ++ signB g.k ++ g.r.fmtS else ⟨#[]⟩
theorem fmtS_size (t : T) : t.fmtS.size ≤ 720 := by
  unfold T.fmtS T.fmtV
  split
  · rename_i h
    obtain ⟨h1, h2, _⟩ := valid_nodes h
    have := fmt_len t h1
    rw [size_mk]; omega
  · rw [size_mk]; simp
theorem cell_lit {st : St} {cs : List Value} {e : TypeId} {j : Nat} : cell (st ++ [(⟨cs, e, 0⟩ : Blk)]) st.length j = cs[j]? := cell_of (by rw [List.getElem?_append_right (Nat.le_refl _), Nat.sub_self]; rfl)
theorem isGK_ok (k : Int) (st : St) : CallS Tryd.prog 13 [.int .i64 k] st fun r st2 => r = .bool (isGK k) ∧ st2 = st := by
  refine CallS_of_W [] 9 Tryd.func13 rfl rfl rfl rfl (by simp) ?_
  by_cases h : k ≥ 1
  · have c1 : decide (k ≥ 1) = true := by simpa using h
    have c2 : decide (1 ≤ k) = true := by simpa using h
    repeat (first | (refine W_reg rfl fun G K hG hK => ?_; simp (disch := omega) only [go_sem, ↓reduceIte, Nat.reduceEqDiff, Nat.reduceAdd, Nat.reduceLeDiff, hG, c1]; refine hK _ _ ?_; clear hK K hG G) | (refine W_end rfl fun G K hG hK => ?_; simp (disch := omega) only [go_sem, ↓reduceIte, Nat.reduceEqDiff, Nat.reduceAdd, Nat.reduceLeDiff, hG, c1]; refine hK _ _ ?_; clear hK K hG G; repeat (first | refine thenI ?_ | refine thenE ?_ | refine thenR ?_ | refine inBI ?_ | refine inBR ?_ | refine inBS ?_ | refine inBN (by decide) ?_)) | refine W_seqS ?_ | refine W_seqC ?_ | refine W_seqB ?_ | refine W_block ?_ | (refine W_skip ?_; repeat (first | refine thenI ?_ | refine thenE ?_ | refine thenR ?_ | refine inBI ?_ | refine inBR ?_ | refine inBS ?_ | refine inBN (by decide) ?_)) | (refine W_condT ?hc ?_; (case hc => (simp (disch := omega) only [go_sem, ↓reduceIte, Nat.reduceEqDiff, Nat.reduceAdd, Nat.reduceLeDiff, c1]; done))) | (refine W_condF ?hc ?_; (case hc => (simp (disch := omega) only [go_sem, ↓reduceIte, Nat.reduceEqDiff, Nat.reduceAdd, Nat.reduceLeDiff, c1]; done))))
    refine W_ret ?_; try (repeat (first | refine thenI ?_ | refine thenE ?_ | refine thenR ?_ | refine inBI ?_ | refine inBR ?_ | refine inBS ?_ | refine inBN (by decide) ?_))
    refine fin1 (.inl rfl) (by (simp (disch := omega) only [go_sem, ↓reduceIte, Nat.reduceEqDiff, Nat.reduceAdd, Nat.reduceLeDiff]); try rfl) rfl ⟨by unfold isGK; rw [c2]; rfl, rfl⟩
  · have c1 : decide (k ≥ 1) = false := by simpa using h
    have c2 : decide (1 ≤ k) = false := by simpa using h
    repeat (first | (refine W_reg rfl fun G K hG hK => ?_; simp (disch := omega) only [go_sem, ↓reduceIte, Nat.reduceEqDiff, Nat.reduceAdd, Nat.reduceLeDiff, hG, c1]; refine hK _ _ ?_; clear hK K hG G) | (refine W_end rfl fun G K hG hK => ?_; simp (disch := omega) only [go_sem, ↓reduceIte, Nat.reduceEqDiff, Nat.reduceAdd, Nat.reduceLeDiff, hG, c1]; refine hK _ _ ?_; clear hK K hG G; repeat (first | refine thenI ?_ | refine thenE ?_ | refine thenR ?_ | refine inBI ?_ | refine inBR ?_ | refine inBS ?_ | refine inBN (by decide) ?_)) | refine W_seqS ?_ | refine W_seqC ?_ | refine W_seqB ?_ | refine W_block ?_ | (refine W_skip ?_; repeat (first | refine thenI ?_ | refine thenE ?_ | refine thenR ?_ | refine inBI ?_ | refine inBR ?_ | refine inBS ?_ | refine inBN (by decide) ?_)) | (refine W_condT ?hc ?_; (case hc => (simp (disch := omega) only [go_sem, ↓reduceIte, Nat.reduceEqDiff, Nat.reduceAdd, Nat.reduceLeDiff, c1]; done))) | (refine W_condF ?hc ?_; (case hc => (simp (disch := omega) only [go_sem, ↓reduceIte, Nat.reduceEqDiff, Nat.reduceAdd, Nat.reduceLeDiff, c1]; done))))
    refine W_ret ?_; try (repeat (first | refine thenI ?_ | refine thenE ?_ | refine thenR ?_ | refine inBI ?_ | refine inBR ?_ | refine inBS ?_ | refine inBN (by decide) ?_))
    refine fin1 (.inl rfl) (by (simp (disch := omega) only [go_sem, ↓reduceIte, Nat.reduceEqDiff, Nat.reduceAdd, Nat.reduceLeDiff]); try rfl) rfl ⟨by unfold isGK; rw [c2]; rfl, rfl⟩
theorem between_ok (k : Int) (st : St) (hk : isGK k = true) : CallS Tryd.prog 16 [.int .i64 k] st fun r st2 => Ext st st2 ∧ r = .string (signB k) := by
  refine CallS_of_W [] 8 Tryd.func16 rfl rfl rfl rfl (by simp) ?_
  have hix : ∀ (j : Nat) (i : Int), i = (j : Int) → j < 3 → idxA Tryd.prog 46 (.slice (some ⟨st.length, 0, none⟩) 3 3) (.int .i64 i) = some (.pointer (some ⟨st.length, j, none⟩)) := fun j i hi hj => by
    rw [idx_ (e := 9) (sz := 1) (by unfold elemA; rw [Tryd.underlying46]) sz9 (by omega) (by omega)]
    subst hi
    simp
  rcases isGK_cases hk with rfl | rfl | rfl
  · have hi := hix 0 (1 - 1) (by decide) (by omega)
    repeat (first | (refine W_reg rfl fun G K hG hK => ?_; simp (disch := omega) only [go_sem, ↓reduceIte, Nat.reduceEqDiff, Nat.reduceAdd, Nat.reduceLeDiff, hG, bsL, fillK_cons, fillK_nil, Nat.reduceMul, hi, cell_lit]; refine hK _ _ ?_; clear hK K hG G) | (refine W_end rfl fun G K hG hK => ?_; simp (disch := omega) only [go_sem, ↓reduceIte, Nat.reduceEqDiff, Nat.reduceAdd, Nat.reduceLeDiff, hG, bsL, fillK_cons, fillK_nil, Nat.reduceMul, hi, cell_lit]; refine hK _ _ ?_; clear hK K hG G; repeat (first | refine thenI ?_ | refine thenE ?_ | refine thenR ?_ | refine inBI ?_ | refine inBR ?_ | refine inBS ?_ | refine inBN (by decide) ?_)) | refine W_seqS ?_ | refine W_seqC ?_ | refine W_seqB ?_ | refine W_block ?_ | (refine W_skip ?_; repeat (first | refine thenI ?_ | refine thenE ?_ | refine thenR ?_ | refine inBI ?_ | refine inBR ?_ | refine inBS ?_ | refine inBN (by decide) ?_)) | (refine W_condT ?hc ?_; (case hc => (simp (disch := omega) only [go_sem, ↓reduceIte, Nat.reduceEqDiff, Nat.reduceAdd, Nat.reduceLeDiff, bsL, fillK_cons, fillK_nil, Nat.reduceMul, hi, cell_lit]; done))) | (refine W_condF ?hc ?_; (case hc => (simp (disch := omega) only [go_sem, ↓reduceIte, Nat.reduceEqDiff, Nat.reduceAdd, Nat.reduceLeDiff, bsL, fillK_cons, fillK_nil, Nat.reduceMul, hi, cell_lit]; done))))
    refine W_ret ?_; try (repeat (first | refine thenI ?_ | refine thenE ?_ | refine thenR ?_ | refine inBI ?_ | refine inBR ?_ | refine inBS ?_ | refine inBN (by decide) ?_))
    refine fin1 (.inl rfl) (by (simp (disch := omega) only [go_sem, ↓reduceIte, Nat.reduceEqDiff, Nat.reduceAdd, Nat.reduceLeDiff]); try rfl) rfl ⟨Ext.app _ _, rfl⟩
  · have hi := hix 1 (2 - 1) (by decide) (by omega)
    repeat (first | (refine W_reg rfl fun G K hG hK => ?_; simp (disch := omega) only [go_sem, ↓reduceIte, Nat.reduceEqDiff, Nat.reduceAdd, Nat.reduceLeDiff, hG, bsL, fillK_cons, fillK_nil, Nat.reduceMul, hi, cell_lit]; refine hK _ _ ?_; clear hK K hG G) | (refine W_end rfl fun G K hG hK => ?_; simp (disch := omega) only [go_sem, ↓reduceIte, Nat.reduceEqDiff, Nat.reduceAdd, Nat.reduceLeDiff, hG, bsL, fillK_cons, fillK_nil, Nat.reduceMul, hi, cell_lit]; refine hK _ _ ?_; clear hK K hG G; repeat (first | refine thenI ?_ | refine thenE ?_ | refine thenR ?_ | refine inBI ?_ | refine inBR ?_ | refine inBS ?_ | refine inBN (by decide) ?_)) | refine W_seqS ?_ | refine W_seqC ?_ | refine W_seqB ?_ | refine W_block ?_ | (refine W_skip ?_; repeat (first | refine thenI ?_ | refine thenE ?_ | refine thenR ?_ | refine inBI ?_ | refine inBR ?_ | refine inBS ?_ | refine inBN (by decide) ?_)) | (refine W_condT ?hc ?_; (case hc => (simp (disch := omega) only [go_sem, ↓reduceIte, Nat.reduceEqDiff, Nat.reduceAdd, Nat.reduceLeDiff, bsL, fillK_cons, fillK_nil, Nat.reduceMul, hi, cell_lit]; done))) | (refine W_condF ?hc ?_; (case hc => (simp (disch := omega) only [go_sem, ↓reduceIte, Nat.reduceEqDiff, Nat.reduceAdd, Nat.reduceLeDiff, bsL, fillK_cons, fillK_nil, Nat.reduceMul, hi, cell_lit]; done))))
    refine W_ret ?_; try (repeat (first | refine thenI ?_ | refine thenE ?_ | refine thenR ?_ | refine inBI ?_ | refine inBR ?_ | refine inBS ?_ | refine inBN (by decide) ?_))
    refine fin1 (.inl rfl) (by (simp (disch := omega) only [go_sem, ↓reduceIte, Nat.reduceEqDiff, Nat.reduceAdd, Nat.reduceLeDiff]); try rfl) rfl ⟨Ext.app _ _, rfl⟩
  · have hi := hix 2 (3 - 1) (by decide) (by omega)
    repeat (first | (refine W_reg rfl fun G K hG hK => ?_; simp (disch := omega) only [go_sem, ↓reduceIte, Nat.reduceEqDiff, Nat.reduceAdd, Nat.reduceLeDiff, hG, bsL, fillK_cons, fillK_nil, Nat.reduceMul, hi, cell_lit]; refine hK _ _ ?_; clear hK K hG G) | (refine W_end rfl fun G K hG hK => ?_; simp (disch := omega) only [go_sem, ↓reduceIte, Nat.reduceEqDiff, Nat.reduceAdd, Nat.reduceLeDiff, hG, bsL, fillK_cons, fillK_nil, Nat.reduceMul, hi, cell_lit]; refine hK _ _ ?_; clear hK K hG G; repeat (first | refine thenI ?_ | refine thenE ?_ | refine thenR ?_ | refine inBI ?_ | refine inBR ?_ | refine inBS ?_ | refine inBN (by decide) ?_)) | refine W_seqS ?_ | refine W_seqC ?_ | refine W_seqB ?_ | refine W_block ?_ | (refine W_skip ?_; repeat (first | refine thenI ?_ | refine thenE ?_ | refine thenR ?_ | refine inBI ?_ | refine inBR ?_ | refine inBS ?_ | refine inBN (by decide) ?_)) | (refine W_condT ?hc ?_; (case hc => (simp (disch := omega) only [go_sem, ↓reduceIte, Nat.reduceEqDiff, Nat.reduceAdd, Nat.reduceLeDiff, bsL, fillK_cons, fillK_nil, Nat.reduceMul, hi, cell_lit]; done))) | (refine W_condF ?hc ?_; (case hc => (simp (disch := omega) only [go_sem, ↓reduceIte, Nat.reduceEqDiff, Nat.reduceAdd, Nat.reduceLeDiff, bsL, fillK_cons, fillK_nil, Nat.reduceMul, hi, cell_lit]; done))))
    refine W_ret ?_; try (repeat (first | refine thenI ?_ | refine thenE ?_ | refine thenR ?_ | refine inBI ?_ | refine inBR ?_ | refine inBS ?_ | refine inBN (by decide) ?_))
    refine fin1 (.inl rfl) (by (simp (disch := omega) only [go_sem, ↓reduceIte, Nat.reduceEqDiff, Nat.reduceAdd, Nat.reduceLeDiff]); try rfl) rfl ⟨Ext.app _ _, rfl⟩
theorem implFmtG_ok (g : Grd) (st : St) (cs : List Value) (hl : LimG 1073741824 g) (hc : g.l.count ≤ 4611686018427387904 ∧ g.r.count ≤ 4611686018427387904) (hE : EncG st g cs) :
    CallS Tryd.prog 7 [.agg cs.toArray] st fun r st2 => Ext st st2 ∧ r = .string g.fmt := by
  obtain ⟨c1, c2, rfl, h1, h2⟩ := hE
  obtain ⟨k1, n1, m1, a1, he1⟩ := T.eta g.l
  obtain ⟨k2, n2, m2, a2, he2⟩ := T.eta g.r
  have h1' := h1
  have h2' := h2
  rw [he1] at h1'
  rw [he2] at h2'
  obtain ⟨s1, rfl, hr1⟩ := h1'.open
  obtain ⟨s2, rfl, hr2⟩ := h2'.open
  refine CallS_of_W [] 30 Tryd.func7 rfl rfl rfl rfl (by simp) ?_
  have p1 := hr1.notLoc.1
  have p2 := hr1.notLoc.2
  have p3 := hr2.notLoc.1
  have p4 := hr2.notLoc.2
  have hd1 := T.depth_count g.l
  have hd2 := T.depth_count g.r
  repeat (first | (refine W_reg rfl fun G K hG hK => ?_; simp (disch := omega) only [go_sem, ↓reduceIte, Nat.reduceEqDiff, Nat.reduceAdd, Nat.reduceLeDiff, hG, p1, p2, p3, p4]; refine hK _ _ ?_; clear hK K hG G) | (refine W_end rfl fun G K hG hK => ?_; simp (disch := omega) only [go_sem, ↓reduceIte, Nat.reduceEqDiff, Nat.reduceAdd, Nat.reduceLeDiff, hG, p1, p2, p3, p4]; refine hK _ _ ?_; clear hK K hG G; repeat (first | refine thenI ?_ | refine thenE ?_ | refine thenR ?_ | refine inBI ?_ | refine inBR ?_ | refine inBS ?_ | refine inBN (by decide) ?_)) | refine W_seqS ?_ | refine W_seqC ?_ | refine W_seqB ?_ | refine W_block ?_ | (refine W_skip ?_; repeat (first | refine thenI ?_ | refine thenE ?_ | refine thenR ?_ | refine inBI ?_ | refine inBR ?_ | refine inBS ?_ | refine inBN (by decide) ?_)) | (refine W_condT ?hc ?_; (case hc => (simp (disch := omega) only [go_sem, ↓reduceIte, Nat.reduceEqDiff, Nat.reduceAdd, Nat.reduceLeDiff, p1, p2, p3, p4]; done))) | (refine W_condF ?hc ?_; (case hc => (simp (disch := omega) only [go_sem, ↓reduceIte, Nat.reduceEqDiff, Nat.reduceAdd, Nat.reduceLeDiff, p1, p2, p3, p4]; done))))
  (repeat (first | refine W_seqS ?_ | refine W_seqC ?_ | refine W_seqB ?_ | refine W_block ?_)); refine W_reg rfl fun G K hG hK => ?_; simp (disch := omega) only [go_sem, ↓reduceIte, Nat.reduceEqDiff, Nat.reduceAdd, Nat.reduceLeDiff, hG, p1, p2, p3, p4]
  refine w_call (isGK_ok g.k st) (by simp (disch := omega) only [go_sem, ↓reduceIte, Nat.reduceEqDiff, p1, p2, p3, p4]) ?hl ?_
  case hl => first | rfl | (simp only [go_sem, List.all_cons, List.all_nil, Bool.not_false, Bool.and_self, p1, p2, p3, p4]; done)
  rintro r_ st ⟨rfl, rfl⟩; refine ⟨fun e => (by cases e), ?_⟩
  cases hk : isGK g.k with
  | false =>
    simp (disch := omega) only [go_sem, ↓reduceIte, Nat.reduceEqDiff, Nat.reduceAdd, Nat.reduceLeDiff, hG, p1, p2, p3, p4]; refine hK _ _ ?_; clear hK K hG G; repeat (first | refine thenI ?_ | refine thenE ?_ | refine thenR ?_ | refine inBI ?_ | refine inBR ?_ | refine inBS ?_ | refine inBN (by decide) ?_)
    repeat (first | (refine W_reg rfl fun G K hG hK => ?_; simp (disch := omega) only [go_sem, ↓reduceIte, Nat.reduceEqDiff, Nat.reduceAdd, Nat.reduceLeDiff, hG, p1, p2, p3, p4]; refine hK _ _ ?_; clear hK K hG G) | (refine W_end rfl fun G K hG hK => ?_; simp (disch := omega) only [go_sem, ↓reduceIte, Nat.reduceEqDiff, Nat.reduceAdd, Nat.reduceLeDiff, hG, p1, p2, p3, p4]; refine hK _ _ ?_; clear hK K hG G; repeat (first | refine thenI ?_ | refine thenE ?_ | refine thenR ?_ | refine inBI ?_ | refine inBR ?_ | refine inBS ?_ | refine inBN (by decide) ?_)) | refine W_seqS ?_ | refine W_seqC ?_ | refine W_seqB ?_ | refine W_block ?_ | (refine W_skip ?_; repeat (first | refine thenI ?_ | refine thenE ?_ | refine thenR ?_ | refine inBI ?_ | refine inBR ?_ | refine inBS ?_ | refine inBN (by decide) ?_)) | (refine W_condT ?hc ?_; (case hc => (simp (disch := omega) only [go_sem, ↓reduceIte, Nat.reduceEqDiff, Nat.reduceAdd, Nat.reduceLeDiff, p1, p2, p3, p4]; done))) | (refine W_condF ?hc ?_; (case hc => (simp (disch := omega) only [go_sem, ↓reduceIte, Nat.reduceEqDiff, Nat.reduceAdd, Nat.reduceLeDiff, p1, p2, p3, p4]; done))))
    refine W_ret ?_; try (repeat (first | refine thenI ?_ | refine thenE ?_ | refine thenR ?_ | refine inBI ?_ | refine inBR ?_ | refine inBS ?_ | refine inBN (by decide) ?_))
    refine fin1 (.inl rfl) (by (simp (disch := omega) only [go_sem, ↓reduceIte, Nat.reduceEqDiff, Nat.reduceAdd, Nat.reduceLeDiff, p1, p2, p3, p4]); try rfl) rfl ⟨Ext.refl _, by unfold Grd.fmt; rw [if_neg (by rw [hk]; simp)]⟩
  | true =>
  simp (disch := omega) only [go_sem, ↓reduceIte, Nat.reduceEqDiff, Nat.reduceAdd, Nat.reduceLeDiff, p1, p2, p3, p4, hG]
  refine w_call (implValid_ok g.l st _ hl.1 hc.1 (by omega) h1) (by simp (disch := omega) only [go_sem, ↓reduceIte, Nat.reduceEqDiff, p1, p2, p3, p4]) ?hl ?_
  case hl => first | rfl | (simp only [go_sem, List.all_cons, List.all_nil, Bool.not_false, Bool.and_self, p1, p2, p3, p4]; done)
  rintro r_ st ⟨rfl, rfl⟩; refine ⟨fun e => (by cases e), ?_⟩
  cases hv1 : g.l.valid with
  | false =>
    simp (disch := omega) only [go_sem, ↓reduceIte, Nat.reduceEqDiff, Nat.reduceAdd, Nat.reduceLeDiff, hG, p1, p2, p3, p4]; refine hK _ _ ?_; clear hK K hG G; repeat (first | refine thenI ?_ | refine thenE ?_ | refine thenR ?_ | refine inBI ?_ | refine inBR ?_ | refine inBS ?_ | refine inBN (by decide) ?_)
    repeat (first | (refine W_reg rfl fun G K hG hK => ?_; simp (disch := omega) only [go_sem, ↓reduceIte, Nat.reduceEqDiff, Nat.reduceAdd, Nat.reduceLeDiff, hG, p1, p2, p3, p4]; refine hK _ _ ?_; clear hK K hG G) | (refine W_end rfl fun G K hG hK => ?_; simp (disch := omega) only [go_sem, ↓reduceIte, Nat.reduceEqDiff, Nat.reduceAdd, Nat.reduceLeDiff, hG, p1, p2, p3, p4]; refine hK _ _ ?_; clear hK K hG G; repeat (first | refine thenI ?_ | refine thenE ?_ | refine thenR ?_ | refine inBI ?_ | refine inBR ?_ | refine inBS ?_ | refine inBN (by decide) ?_)) | refine W_seqS ?_ | refine W_seqC ?_ | refine W_seqB ?_ | refine W_block ?_ | (refine W_skip ?_; repeat (first | refine thenI ?_ | refine thenE ?_ | refine thenR ?_ | refine inBI ?_ | refine inBR ?_ | refine inBS ?_ | refine inBN (by decide) ?_)) | (refine W_condT ?hc ?_; (case hc => (simp (disch := omega) only [go_sem, ↓reduceIte, Nat.reduceEqDiff, Nat.reduceAdd, Nat.reduceLeDiff, p1, p2, p3, p4]; done))) | (refine W_condF ?hc ?_; (case hc => (simp (disch := omega) only [go_sem, ↓reduceIte, Nat.reduceEqDiff, Nat.reduceAdd, Nat.reduceLeDiff, p1, p2, p3, p4]; done))))
    refine W_ret ?_; try (repeat (first | refine thenI ?_ | refine thenE ?_ | refine thenR ?_ | refine inBI ?_ | refine inBR ?_ | refine inBS ?_ | refine inBN (by decide) ?_))
    refine fin1 (.inl rfl) (by (simp (disch := omega) only [go_sem, ↓reduceIte, Nat.reduceEqDiff, Nat.reduceAdd, Nat.reduceLeDiff, p1, p2, p3, p4]); try rfl) rfl ⟨Ext.refl _, by unfold Grd.fmt; rw [if_neg (by rw [hv1]; simp)]⟩
  | true =>
  simp (disch := omega) only [go_sem, ↓reduceIte, Nat.reduceEqDiff, Nat.reduceAdd, Nat.reduceLeDiff, p1, p2, p3, p4, hG]
  refine w_call (implValid_ok g.r st _ hl.2 hc.2 (by omega) h2) (by simp (disch := omega) only [go_sem, ↓reduceIte, Nat.reduceEqDiff, p1, p2, p3, p4]) ?hl ?_
  case hl => first | rfl | (simp only [go_sem, List.all_cons, List.all_nil, Bool.not_false, Bool.and_self, p1, p2, p3, p4]; done)
  rintro r_ st ⟨rfl, rfl⟩; refine ⟨fun e => (by cases e), ?_⟩
  cases hv2 : g.r.valid with
  | false =>
    simp (disch := omega) only [go_sem, ↓reduceIte, Nat.reduceEqDiff, Nat.reduceAdd, Nat.reduceLeDiff, hG, p1, p2, p3, p4]; refine hK _ _ ?_; clear hK K hG G; repeat (first | refine thenI ?_ | refine thenE ?_ | refine thenR ?_ | refine inBI ?_ | refine inBR ?_ | refine inBS ?_ | refine inBN (by decide) ?_)
    repeat (first | (refine W_reg rfl fun G K hG hK => ?_; simp (disch := omega) only [go_sem, ↓reduceIte, Nat.reduceEqDiff, Nat.reduceAdd, Nat.reduceLeDiff, hG, p1, p2, p3, p4]; refine hK _ _ ?_; clear hK K hG G) | (refine W_end rfl fun G K hG hK => ?_; simp (disch := omega) only [go_sem, ↓reduceIte, Nat.reduceEqDiff, Nat.reduceAdd, Nat.reduceLeDiff, hG, p1, p2, p3, p4]; refine hK _ _ ?_; clear hK K hG G; repeat (first | refine thenI ?_ | refine thenE ?_ | refine thenR ?_ | refine inBI ?_ | refine inBR ?_ | refine inBS ?_ | refine inBN (by decide) ?_)) | refine W_seqS ?_ | refine W_seqC ?_ | refine W_seqB ?_ | refine W_block ?_ | (refine W_skip ?_; repeat (first | refine thenI ?_ | refine thenE ?_ | refine thenR ?_ | refine inBI ?_ | refine inBR ?_ | refine inBS ?_ | refine inBN (by decide) ?_)) | (refine W_condT ?hc ?_; (case hc => (simp (disch := omega) only [go_sem, ↓reduceIte, Nat.reduceEqDiff, Nat.reduceAdd, Nat.reduceLeDiff, p1, p2, p3, p4]; done))) | (refine W_condF ?hc ?_; (case hc => (simp (disch := omega) only [go_sem, ↓reduceIte, Nat.reduceEqDiff, Nat.reduceAdd, Nat.reduceLeDiff, p1, p2, p3, p4]; done))))
    refine W_ret ?_; try (repeat (first | refine thenI ?_ | refine thenE ?_ | refine thenR ?_ | refine inBI ?_ | refine inBR ?_ | refine inBS ?_ | refine inBN (by decide) ?_))
    refine fin1 (.inl rfl) (by (simp (disch := omega) only [go_sem, ↓reduceIte, Nat.reduceEqDiff, Nat.reduceAdd, Nat.reduceLeDiff, p1, p2, p3, p4]); try rfl) rfl ⟨Ext.refl _, by unfold Grd.fmt; rw [if_neg (by rw [hv2]; simp)]⟩
  | true =>
  have z1 := fmtS_size g.l
  have z2 := fmtS_size g.r
  have z3 := signB_size g.k
  have z4 : (g.l.fmtS ++ signB g.k).size = g.l.fmtS.size + (signB g.k).size := ByteArray.size_append
  have b1 : ∀ (x y : Operand), binE Tryd.prog .add 9 x y (.string g.l.fmtS) (.string (signB g.k)) = some (.string (g.l.fmtS ++ signB g.k)) := fun x y => bin_sadd (by omega)
  have b2 : ∀ (x y : Operand), binE Tryd.prog .add 9 x y (.string (g.l.fmtS ++ signB g.k)) (.string g.r.fmtS) = some (.string (g.l.fmtS ++ signB g.k ++ g.r.fmtS)) := fun x y => bin_sadd (by omega)
  simp (disch := omega) only [go_sem, ↓reduceIte, Nat.reduceEqDiff, Nat.reduceAdd, Nat.reduceLeDiff, hG, p1, p2, p3, p4]; refine hK _ _ ?_; clear hK K hG G; repeat (first | refine thenI ?_ | refine thenE ?_ | refine thenR ?_ | refine inBI ?_ | refine inBR ?_ | refine inBS ?_ | refine inBN (by decide) ?_)
  repeat (first | (refine W_reg rfl fun G K hG hK => ?_; simp (disch := omega) only [go_sem, ↓reduceIte, Nat.reduceEqDiff, Nat.reduceAdd, Nat.reduceLeDiff, hG, p1, p2, p3, p4]; refine hK _ _ ?_; clear hK K hG G) | (refine W_end rfl fun G K hG hK => ?_; simp (disch := omega) only [go_sem, ↓reduceIte, Nat.reduceEqDiff, Nat.reduceAdd, Nat.reduceLeDiff, hG, p1, p2, p3, p4]; refine hK _ _ ?_; clear hK K hG G; repeat (first | refine thenI ?_ | refine thenE ?_ | refine thenR ?_ | refine inBI ?_ | refine inBR ?_ | refine inBS ?_ | refine inBN (by decide) ?_)) | refine W_seqS ?_ | refine W_seqC ?_ | refine W_seqB ?_ | refine W_block ?_ | (refine W_skip ?_; repeat (first | refine thenI ?_ | refine thenE ?_ | refine thenR ?_ | refine inBI ?_ | refine inBR ?_ | refine inBS ?_ | refine inBN (by decide) ?_)) | (refine W_condT ?hc ?_; (case hc => (simp (disch := omega) only [go_sem, ↓reduceIte, Nat.reduceEqDiff, Nat.reduceAdd, Nat.reduceLeDiff, p1, p2, p3, p4]; done))) | (refine W_condF ?hc ?_; (case hc => (simp (disch := omega) only [go_sem, ↓reduceIte, Nat.reduceEqDiff, Nat.reduceAdd, Nat.reduceLeDiff, p1, p2, p3, p4]; done))))
  (repeat (first | refine W_seqS ?_ | refine W_seqC ?_ | refine W_seqB ?_ | refine W_block ?_)); refine W_regL mixed [1, 19, 22, 26] [] [2, 5, 9] [[(0, false), (1, false), (3, false), (4, false), (7, false), (8, false), (2, false), (5, false), (6, false), (9, false), (10, false), (11, false)]] rfl (by decide +kernel) (by intro t ht; simp only [List.mem_cons, List.not_mem_nil, or_false] at ht; (rcases ht with rfl | rfl | rfl | rfl) <;> (first | rfl | (simp only [p1, p2, p3, p4]; done) | (simp only [p1, p2, p3, p4]; rfl))) fun G K hG hK => (fm_cons ?_ fm_nil)
  simp only [pickOps, List.filterMap_cons, List.filterMap_nil, List.getElem?_cons_zero, List.getElem?_cons_succ, Option.map_some]; simp (disch := omega) only [go_sem, ↓reduceIte, Nat.reduceEqDiff, Nat.reduceAdd, Nat.reduceLeDiff, hG, p1, p2, p3, p4]
  refine w_call (implFmt_ok g.l st _ hl.1 hc.1 h1) (by simp (disch := omega) only [go_sem, ↓reduceIte, Nat.reduceEqDiff, p1, p2, p3, p4]) ?hl ?_
  case hl => first | rfl | (simp only [go_sem, List.all_cons, List.all_nil, Bool.not_false, Bool.and_self, p1, p2, p3, p4]; done)
  rintro r_ sa ⟨x1, rfl⟩; refine ⟨fun e => x1, ?_⟩
  simp (disch := omega) only [go_sem, ↓reduceIte, Nat.reduceEqDiff, Nat.reduceAdd, Nat.reduceLeDiff, p1, p2, p3, p4]
  refine w_call (between_ok g.k sa hk) (by simp (disch := omega) only [go_sem, ↓reduceIte, Nat.reduceEqDiff, p1, p2, p3, p4]) ?hl ?_
  case hl => first | rfl | (simp only [go_sem, List.all_cons, List.all_nil, Bool.not_false, Bool.and_self, p1, p2, p3, p4]; done)
  rintro r_ sb ⟨x2, rfl⟩; refine ⟨fun e => x2, ?_⟩
  simp (disch := omega) only [go_sem, ↓reduceIte, Nat.reduceEqDiff, Nat.reduceAdd, Nat.reduceLeDiff, p1, p2, p3, p4, b1]
  refine w_call (implFmt_ok g.r sb _ hl.2 hc.2 (Enc.ext (x1.trans x2) _ _ h2)) (by simp (disch := omega) only [go_sem, ↓reduceIte, Nat.reduceEqDiff, p1, p2, p3, p4]) ?hl ?_
  case hl => first | rfl | (simp only [go_sem, List.all_cons, List.all_nil, Bool.not_false, Bool.and_self, p1, p2, p3, p4]; done)
  rintro r_ sc ⟨x3, rfl⟩; refine ⟨fun e => x3, ?_⟩
  simp (disch := omega) only [go_sem, ↓reduceIte, Nat.reduceEqDiff, Nat.reduceAdd, Nat.reduceLeDiff, hG, p1, p2, p3, p4, b2]; refine hK _ _ ?_; clear hK K hG G; repeat (first | refine thenI ?_ | refine thenE ?_ | refine thenR ?_ | refine inBI ?_ | refine inBR ?_ | refine inBS ?_ | refine inBN (by decide) ?_)
  refine W_ret ?_; try (repeat (first | refine thenI ?_ | refine thenE ?_ | refine thenR ?_ | refine inBI ?_ | refine inBR ?_ | refine inBS ?_ | refine inBN (by decide) ?_))
  refine fin1 (.inl rfl) (by (simp (disch := omega) only [go_sem, ↓reduceIte, Nat.reduceEqDiff, Nat.reduceAdd, Nat.reduceLeDiff, p1, p2, p3, p4]); try rfl) rfl ⟨(x1.trans x2).trans x3, by unfold Grd.fmt; rw [if_pos ⟨hk, hv1, hv2⟩]⟩
theorem l9Sign_ok (k : Int) (st : St) : CallS Tryd.prog 11 [.int .i64 k] st fun r st2 => Ext st st2 ∧ r = .string (signB k) := by
  refine CallS_of_W [] 10 Tryd.func11 rfl rfl rfl rfl (by simp) ?_
  repeat (first | (refine W_reg rfl fun G K hG hK => ?_; simp (disch := omega) only [go_sem, ↓reduceIte, Nat.reduceEqDiff, Nat.reduceAdd, Nat.reduceLeDiff, hG]; refine hK _ _ ?_; clear hK K hG G) | (refine W_end rfl fun G K hG hK => ?_; simp (disch := omega) only [go_sem, ↓reduceIte, Nat.reduceEqDiff, Nat.reduceAdd, Nat.reduceLeDiff, hG]; refine hK _ _ ?_; clear hK K hG G; repeat (first | refine thenI ?_ | refine thenE ?_ | refine thenR ?_ | refine inBI ?_ | refine inBR ?_ | refine inBS ?_ | refine inBN (by decide) ?_)) | refine W_seqS ?_ | refine W_seqC ?_ | refine W_seqB ?_ | refine W_block ?_ | (refine W_skip ?_; repeat (first | refine thenI ?_ | refine thenE ?_ | refine thenR ?_ | refine inBI ?_ | refine inBR ?_ | refine inBS ?_ | refine inBN (by decide) ?_)) | (refine W_condT ?hc ?_; (case hc => (simp (disch := omega) only [go_sem, ↓reduceIte, Nat.reduceEqDiff, Nat.reduceAdd, Nat.reduceLeDiff]; done))) | (refine W_condF ?hc ?_; (case hc => (simp (disch := omega) only [go_sem, ↓reduceIte, Nat.reduceEqDiff, Nat.reduceAdd, Nat.reduceLeDiff]; done))))
  (repeat (first | refine W_seqS ?_ | refine W_seqC ?_ | refine W_seqB ?_ | refine W_block ?_)); refine W_reg rfl fun G K hG hK => ?_; simp (disch := omega) only [go_sem, ↓reduceIte, Nat.reduceEqDiff, Nat.reduceAdd, Nat.reduceLeDiff, hG]
  refine w_call (l1In_ok k 1 3 st) (by simp (disch := omega) only [go_sem, ↓reduceIte, Nat.reduceEqDiff]) ?hl ?_
  case hl => first | rfl | (simp only [go_sem, List.all_cons, List.all_nil, Bool.not_false, Bool.and_self]; done)
  rintro r_ st ⟨rfl, rfl⟩; refine ⟨fun e => (by cases e), ?_⟩
  cases hk : isGK k with
  | false =>
    have hk' : (decide (k ≥ 1) && decide (k ≤ 3)) = false := hk
    simp (disch := omega) only [go_sem, ↓reduceIte, Nat.reduceEqDiff, Nat.reduceAdd, Nat.reduceLeDiff, hG, hk']; refine hK _ _ ?_; clear hK K hG G; repeat (first | refine thenI ?_ | refine thenE ?_ | refine thenR ?_ | refine inBI ?_ | refine inBR ?_ | refine inBS ?_ | refine inBN (by decide) ?_)
    repeat (first | (refine W_reg rfl fun G K hG hK => ?_; simp (disch := omega) only [go_sem, ↓reduceIte, Nat.reduceEqDiff, Nat.reduceAdd, Nat.reduceLeDiff, hG]; refine hK _ _ ?_; clear hK K hG G) | (refine W_end rfl fun G K hG hK => ?_; simp (disch := omega) only [go_sem, ↓reduceIte, Nat.reduceEqDiff, Nat.reduceAdd, Nat.reduceLeDiff, hG]; refine hK _ _ ?_; clear hK K hG G; repeat (first | refine thenI ?_ | refine thenE ?_ | refine thenR ?_ | refine inBI ?_ | refine inBR ?_ | refine inBS ?_ | refine inBN (by decide) ?_)) | refine W_seqS ?_ | refine W_seqC ?_ | refine W_seqB ?_ | refine W_block ?_ | (refine W_skip ?_; repeat (first | refine thenI ?_ | refine thenE ?_ | refine thenR ?_ | refine inBI ?_ | refine inBR ?_ | refine inBS ?_ | refine inBN (by decide) ?_)) | (refine W_condT ?hc ?_; (case hc => (simp (disch := omega) only [go_sem, ↓reduceIte, Nat.reduceEqDiff, Nat.reduceAdd, Nat.reduceLeDiff]; done))) | (refine W_condF ?hc ?_; (case hc => (simp (disch := omega) only [go_sem, ↓reduceIte, Nat.reduceEqDiff, Nat.reduceAdd, Nat.reduceLeDiff]; done))))
    refine W_ret ?_; try (repeat (first | refine thenI ?_ | refine thenE ?_ | refine thenR ?_ | refine inBI ?_ | refine inBR ?_ | refine inBS ?_ | refine inBN (by decide) ?_))
    refine fin1 (.inl rfl) (by (simp (disch := omega) only [go_sem, ↓reduceIte, Nat.reduceEqDiff, Nat.reduceAdd, Nat.reduceLeDiff]); try rfl) rfl ⟨Ext.refl _, by rw [signB_no hk]⟩
  | true =>
    have hk' : (decide (k ≥ 1) && decide (k ≤ 3)) = true := hk
    simp (disch := omega) only [go_sem, ↓reduceIte, Nat.reduceEqDiff, Nat.reduceAdd, Nat.reduceLeDiff, hG, hk']; refine hK _ _ ?_; clear hK K hG G; repeat (first | refine thenI ?_ | refine thenE ?_ | refine thenR ?_ | refine inBI ?_ | refine inBR ?_ | refine inBS ?_ | refine inBN (by decide) ?_)
    have hix : ∀ (j : Nat) (i : Int), i = (j : Int) → j < 4 → idxA Tryd.prog 46 (.slice (some ⟨st.length, 0, none⟩) 4 4) (.int .i64 i) = some (.pointer (some ⟨st.length, j, none⟩)) := fun j i hi hj => by
      rw [idx_ (e := 9) (sz := 1) (by unfold elemA; rw [Tryd.underlying46]) sz9 (by omega) (by omega)]
      subst hi
      simp
    rcases isGK_cases hk with rfl | rfl | rfl
    · have hi := hix 1 1 (by decide) (by omega)
      repeat (first | (refine W_reg rfl fun G K hG hK => ?_; simp (disch := omega) only [go_sem, ↓reduceIte, Nat.reduceEqDiff, Nat.reduceAdd, Nat.reduceLeDiff, hG, bsL, fillK_cons, fillK_nil, Nat.reduceMul, hi, cell_lit]; refine hK _ _ ?_; clear hK K hG G) | (refine W_end rfl fun G K hG hK => ?_; simp (disch := omega) only [go_sem, ↓reduceIte, Nat.reduceEqDiff, Nat.reduceAdd, Nat.reduceLeDiff, hG, bsL, fillK_cons, fillK_nil, Nat.reduceMul, hi, cell_lit]; refine hK _ _ ?_; clear hK K hG G; repeat (first | refine thenI ?_ | refine thenE ?_ | refine thenR ?_ | refine inBI ?_ | refine inBR ?_ | refine inBS ?_ | refine inBN (by decide) ?_)) | refine W_seqS ?_ | refine W_seqC ?_ | refine W_seqB ?_ | refine W_block ?_ | (refine W_skip ?_; repeat (first | refine thenI ?_ | refine thenE ?_ | refine thenR ?_ | refine inBI ?_ | refine inBR ?_ | refine inBS ?_ | refine inBN (by decide) ?_)) | (refine W_condT ?hc ?_; (case hc => (simp (disch := omega) only [go_sem, ↓reduceIte, Nat.reduceEqDiff, Nat.reduceAdd, Nat.reduceLeDiff, bsL, fillK_cons, fillK_nil, Nat.reduceMul, hi, cell_lit]; done))) | (refine W_condF ?hc ?_; (case hc => (simp (disch := omega) only [go_sem, ↓reduceIte, Nat.reduceEqDiff, Nat.reduceAdd, Nat.reduceLeDiff, bsL, fillK_cons, fillK_nil, Nat.reduceMul, hi, cell_lit]; done))))
      refine W_ret ?_; try (repeat (first | refine thenI ?_ | refine thenE ?_ | refine thenR ?_ | refine inBI ?_ | refine inBR ?_ | refine inBS ?_ | refine inBN (by decide) ?_))
      refine fin1 (.inl rfl) (by (simp (disch := omega) only [go_sem, ↓reduceIte, Nat.reduceEqDiff, Nat.reduceAdd, Nat.reduceLeDiff]); try rfl) rfl ⟨Ext.app _ _, rfl⟩
    · have hi := hix 2 2 (by decide) (by omega)
      repeat (first | (refine W_reg rfl fun G K hG hK => ?_; simp (disch := omega) only [go_sem, ↓reduceIte, Nat.reduceEqDiff, Nat.reduceAdd, Nat.reduceLeDiff, hG, bsL, fillK_cons, fillK_nil, Nat.reduceMul, hi, cell_lit]; refine hK _ _ ?_; clear hK K hG G) | (refine W_end rfl fun G K hG hK => ?_; simp (disch := omega) only [go_sem, ↓reduceIte, Nat.reduceEqDiff, Nat.reduceAdd, Nat.reduceLeDiff, hG, bsL, fillK_cons, fillK_nil, Nat.reduceMul, hi, cell_lit]; refine hK _ _ ?_; clear hK K hG G; repeat (first | refine thenI ?_ | refine thenE ?_ | refine thenR ?_ | refine inBI ?_ | refine inBR ?_ | refine inBS ?_ | refine inBN (by decide) ?_)) | refine W_seqS ?_ | refine W_seqC ?_ | refine W_seqB ?_ | refine W_block ?_ | (refine W_skip ?_; repeat (first | refine thenI ?_ | refine thenE ?_ | refine thenR ?_ | refine inBI ?_ | refine inBR ?_ | refine inBS ?_ | refine inBN (by decide) ?_)) | (refine W_condT ?hc ?_; (case hc => (simp (disch := omega) only [go_sem, ↓reduceIte, Nat.reduceEqDiff, Nat.reduceAdd, Nat.reduceLeDiff, bsL, fillK_cons, fillK_nil, Nat.reduceMul, hi, cell_lit]; done))) | (refine W_condF ?hc ?_; (case hc => (simp (disch := omega) only [go_sem, ↓reduceIte, Nat.reduceEqDiff, Nat.reduceAdd, Nat.reduceLeDiff, bsL, fillK_cons, fillK_nil, Nat.reduceMul, hi, cell_lit]; done))))
      refine W_ret ?_; try (repeat (first | refine thenI ?_ | refine thenE ?_ | refine thenR ?_ | refine inBI ?_ | refine inBR ?_ | refine inBS ?_ | refine inBN (by decide) ?_))
      refine fin1 (.inl rfl) (by (simp (disch := omega) only [go_sem, ↓reduceIte, Nat.reduceEqDiff, Nat.reduceAdd, Nat.reduceLeDiff]); try rfl) rfl ⟨Ext.app _ _, rfl⟩
    · have hi := hix 3 3 (by decide) (by omega)
      repeat (first | (refine W_reg rfl fun G K hG hK => ?_; simp (disch := omega) only [go_sem, ↓reduceIte, Nat.reduceEqDiff, Nat.reduceAdd, Nat.reduceLeDiff, hG, bsL, fillK_cons, fillK_nil, Nat.reduceMul, hi, cell_lit]; refine hK _ _ ?_; clear hK K hG G) | (refine W_end rfl fun G K hG hK => ?_; simp (disch := omega) only [go_sem, ↓reduceIte, Nat.reduceEqDiff, Nat.reduceAdd, Nat.reduceLeDiff, hG, bsL, fillK_cons, fillK_nil, Nat.reduceMul, hi, cell_lit]; refine hK _ _ ?_; clear hK K hG G; repeat (first | refine thenI ?_ | refine thenE ?_ | refine thenR ?_ | refine inBI ?_ | refine inBR ?_ | refine inBS ?_ | refine inBN (by decide) ?_)) | refine W_seqS ?_ | refine W_seqC ?_ | refine W_seqB ?_ | refine W_block ?_ | (refine W_skip ?_; repeat (first | refine thenI ?_ | refine thenE ?_ | refine thenR ?_ | refine inBI ?_ | refine inBR ?_ | refine inBS ?_ | refine inBN (by decide) ?_)) | (refine W_condT ?hc ?_; (case hc => (simp (disch := omega) only [go_sem, ↓reduceIte, Nat.reduceEqDiff, Nat.reduceAdd, Nat.reduceLeDiff, bsL, fillK_cons, fillK_nil, Nat.reduceMul, hi, cell_lit]; done))) | (refine W_condF ?hc ?_; (case hc => (simp (disch := omega) only [go_sem, ↓reduceIte, Nat.reduceEqDiff, Nat.reduceAdd, Nat.reduceLeDiff, bsL, fillK_cons, fillK_nil, Nat.reduceMul, hi, cell_lit]; done))))
      refine W_ret ?_; try (repeat (first | refine thenI ?_ | refine thenE ?_ | refine thenR ?_ | refine inBI ?_ | refine inBR ?_ | refine inBS ?_ | refine inBN (by decide) ?_))
      refine fin1 (.inl rfl) (by (simp (disch := omega) only [go_sem, ↓reduceIte, Nat.reduceEqDiff, Nat.reduceAdd, Nat.reduceLeDiff]); try rfl) rfl ⟨Ext.app _ _, rfl⟩
theorem ba_beq {a b : ByteArray} : (a.toList == b.toList) = decide (a = b) := by
  rw [ByteArray.toList_eq, ByteArray.toList_eq]
  by_cases h : a = b
  · subst h; simp
  · have : ¬ a.data = b.data := fun e => h (ByteArray.ext e)
    simp [h, this]
theorem fmtS_beq (t : T) : (t.fmtS.toList == (⟨#[]⟩ : ByteArray).toList) = !t.valid := by
  cases hv : t.valid with
  | false => rw [fmtS_no hv, beq_self_eq_true]; rfl
  | true =>
    have h1 := fmt_ne (valid_nodes hv).1
    have h2 : t.fmtS ≠ ⟨#[]⟩ := fun e => h1 (by
      rw [fmtS_yes hv] at e
      have := congrArg (fun b : ByteArray => b.data.toList) e
      simpa using this)
    rw [ba_beq, decide_eq_false h2]
    rfl
theorem signB_beq (k : Int) : ((signB k).toList == (⟨#[]⟩ : ByteArray).toList) = !isGK k := by
  cases hk : isGK k with
  | false => rw [signB_no hk, beq_self_eq_true]; rfl
  | true =>
    rw [ba_beq]
    rcases isGK_cases hk with rfl | rfl | rfl <;> decide
theorem specFmtG_ok (g : Grd) (st : St) (cs : List Value) (hl : LimG 1073741824 g) (hn : LimN 1073741824 g.l ∧ LimN 1073741824 g.r) (hc : g.l.count ≤ 4611686018427387904 ∧ g.r.count ≤ 4611686018427387904) (hE : EncG st g cs) :
    CallS Tryd.prog 5 [.agg cs.toArray] st fun r st2 => Ext st st2 ∧ r = .string g.fmt := by
  obtain ⟨c1, c2, rfl, h1, h2⟩ := hE
  obtain ⟨k1, n1, m1, a1, he1⟩ := T.eta g.l
  obtain ⟨k2, n2, m2, a2, he2⟩ := T.eta g.r
  have h1' := h1
  have h2' := h2
  rw [he1] at h1'
  rw [he2] at h2'
  obtain ⟨s1, rfl, hr1⟩ := h1'.open
  obtain ⟨s2, rfl, hr2⟩ := h2'.open
  refine CallS_of_W [] 30 Tryd.func5 rfl rfl rfl rfl (by simp) ?_
  have p1 := hr1.notLoc.1
  have p2 := hr1.notLoc.2
  have p3 := hr2.notLoc.1
  have p4 := hr2.notLoc.2
  repeat (first | (refine W_reg rfl fun G K hG hK => ?_; simp (disch := omega) only [go_sem, ↓reduceIte, Nat.reduceEqDiff, Nat.reduceAdd, Nat.reduceLeDiff, hG, p1, p2, p3, p4]; refine hK _ _ ?_; clear hK K hG G) | (refine W_end rfl fun G K hG hK => ?_; simp (disch := omega) only [go_sem, ↓reduceIte, Nat.reduceEqDiff, Nat.reduceAdd, Nat.reduceLeDiff, hG, p1, p2, p3, p4]; refine hK _ _ ?_; clear hK K hG G; repeat (first | refine thenI ?_ | refine thenE ?_ | refine thenR ?_ | refine inBI ?_ | refine inBR ?_ | refine inBS ?_ | refine inBN (by decide) ?_)) | refine W_seqS ?_ | refine W_seqC ?_ | refine W_seqB ?_ | refine W_block ?_ | (refine W_skip ?_; repeat (first | refine thenI ?_ | refine thenE ?_ | refine thenR ?_ | refine inBI ?_ | refine inBR ?_ | refine inBS ?_ | refine inBN (by decide) ?_)) | (refine W_condT ?hc ?_; (case hc => (simp (disch := omega) only [go_sem, ↓reduceIte, Nat.reduceEqDiff, Nat.reduceAdd, Nat.reduceLeDiff, p1, p2, p3, p4]; done))) | (refine W_condF ?hc ?_; (case hc => (simp (disch := omega) only [go_sem, ↓reduceIte, Nat.reduceEqDiff, Nat.reduceAdd, Nat.reduceLeDiff, p1, p2, p3, p4]; done))))
  (repeat (first | refine W_seqS ?_ | refine W_seqC ?_ | refine W_seqB ?_ | refine W_block ?_)); refine W_reg rfl fun G K hG hK => ?_; simp (disch := omega) only [go_sem, ↓reduceIte, Nat.reduceEqDiff, Nat.reduceAdd, Nat.reduceLeDiff, hG, p1, p2, p3, p4]
  refine w_call (specFmt_ok g.l st _ hl.1 hn.1 hc.1 h1) (by simp (disch := omega) only [go_sem, ↓reduceIte, Nat.reduceEqDiff, p1, p2, p3, p4]) ?hl ?_
  case hl => first | rfl | (simp only [go_sem, List.all_cons, List.all_nil, Bool.not_false, Bool.and_self, p1, p2, p3, p4]; done)
  rintro r_ sa ⟨x1, rfl⟩; refine ⟨fun e => (by cases e), ?_⟩
  simp (disch := omega) only [go_sem, ↓reduceIte, Nat.reduceEqDiff, Nat.reduceAdd, Nat.reduceLeDiff, hG, p1, p2, p3, p4]; refine hK _ _ ?_; clear hK K hG G; repeat (first | refine thenI ?_ | refine thenE ?_ | refine thenR ?_ | refine inBI ?_ | refine inBR ?_ | refine inBS ?_ | refine inBN (by decide) ?_)
  (repeat (first | refine W_seqS ?_ | refine W_seqC ?_ | refine W_seqB ?_ | refine W_block ?_)); refine W_reg rfl fun G K hG hK => ?_; simp (disch := omega) only [go_sem, ↓reduceIte, Nat.reduceEqDiff, Nat.reduceAdd, Nat.reduceLeDiff, hG, p1, p2, p3, p4]
  refine w_call (specFmt_ok g.r sa _ hl.2 hn.2 hc.2 (Enc.ext x1 _ _ h2)) (by simp (disch := omega) only [go_sem, ↓reduceIte, Nat.reduceEqDiff, p1, p2, p3, p4]) ?hl ?_
  case hl => first | rfl | (simp only [go_sem, List.all_cons, List.all_nil, Bool.not_false, Bool.and_self, p1, p2, p3, p4]; done)
  rintro r_ sb ⟨x2, rfl⟩; refine ⟨fun e => (by cases e), ?_⟩
  simp (disch := omega) only [go_sem, ↓reduceIte, Nat.reduceEqDiff, Nat.reduceAdd, Nat.reduceLeDiff, hG, p1, p2, p3, p4]; refine hK _ _ ?_; clear hK K hG G; repeat (first | refine thenI ?_ | refine thenE ?_ | refine thenR ?_ | refine inBI ?_ | refine inBR ?_ | refine inBS ?_ | refine inBN (by decide) ?_)
  (repeat (first | refine W_seqS ?_ | refine W_seqC ?_ | refine W_seqB ?_ | refine W_block ?_)); refine W_reg rfl fun G K hG hK => ?_; simp (disch := omega) only [go_sem, ↓reduceIte, Nat.reduceEqDiff, Nat.reduceAdd, Nat.reduceLeDiff, hG, p1, p2, p3, p4]
  refine w_call (l9Sign_ok g.k sb) (by simp (disch := omega) only [go_sem, ↓reduceIte, Nat.reduceEqDiff, p1, p2, p3, p4]) ?hl ?_
  case hl => first | rfl | (simp only [go_sem, List.all_cons, List.all_nil, Bool.not_false, Bool.and_self, p1, p2, p3, p4]; done)
  rintro r_ sc ⟨x3, rfl⟩; refine ⟨fun e => (by cases e), ?_⟩
  simp (disch := omega) only [go_sem, ↓reduceIte, Nat.reduceEqDiff, Nat.reduceAdd, Nat.reduceLeDiff, hG, p1, p2, p3, p4]; refine hK _ _ ?_; clear hK K hG G; repeat (first | refine thenI ?_ | refine thenE ?_ | refine thenR ?_ | refine inBI ?_ | refine inBR ?_ | refine inBS ?_ | refine inBN (by decide) ?_)
  have b0 := fmtS_beq g.l
  have b3 := fmtS_beq g.r
  have b4 := signB_beq g.k
  have z1 := fmtS_size g.l
  have z2 := fmtS_size g.r
  have z3 := signB_size g.k
  have z4 : (g.l.fmtS ++ signB g.k).size = g.l.fmtS.size + (signB g.k).size := ByteArray.size_append
  have b1 : ∀ (x y : Operand), binE Tryd.prog .add 9 x y (.string g.l.fmtS) (.string (signB g.k)) = some (.string (g.l.fmtS ++ signB g.k)) := fun x y => bin_sadd (by omega)
  have b2 : ∀ (x y : Operand), binE Tryd.prog .add 9 x y (.string (g.l.fmtS ++ signB g.k)) (.string g.r.fmtS) = some (.string (g.l.fmtS ++ signB g.k ++ g.r.fmtS)) := fun x y => bin_sadd (by omega)
  cases hv1 : g.l.valid with
  | false =>
    rw [hv1] at b0
    repeat (first | (refine W_reg rfl fun G K hG hK => ?_; simp (disch := omega) only [go_sem, ↓reduceIte, Nat.reduceEqDiff, Nat.reduceAdd, Nat.reduceLeDiff, hG, p1, p2, p3, p4, b0]; refine hK _ _ ?_; clear hK K hG G) | (refine W_end rfl fun G K hG hK => ?_; simp (disch := omega) only [go_sem, ↓reduceIte, Nat.reduceEqDiff, Nat.reduceAdd, Nat.reduceLeDiff, hG, p1, p2, p3, p4, b0]; refine hK _ _ ?_; clear hK K hG G; repeat (first | refine thenI ?_ | refine thenE ?_ | refine thenR ?_ | refine inBI ?_ | refine inBR ?_ | refine inBS ?_ | refine inBN (by decide) ?_)) | refine W_seqS ?_ | refine W_seqC ?_ | refine W_seqB ?_ | refine W_block ?_ | (refine W_skip ?_; repeat (first | refine thenI ?_ | refine thenE ?_ | refine thenR ?_ | refine inBI ?_ | refine inBR ?_ | refine inBS ?_ | refine inBN (by decide) ?_)) | (refine W_condT ?hc ?_; (case hc => (simp (disch := omega) only [go_sem, ↓reduceIte, Nat.reduceEqDiff, Nat.reduceAdd, Nat.reduceLeDiff, p1, p2, p3, p4, b0]; done))) | (refine W_condF ?hc ?_; (case hc => (simp (disch := omega) only [go_sem, ↓reduceIte, Nat.reduceEqDiff, Nat.reduceAdd, Nat.reduceLeDiff, p1, p2, p3, p4, b0]; done))))
    refine W_ret ?_; try (repeat (first | refine thenI ?_ | refine thenE ?_ | refine thenR ?_ | refine inBI ?_ | refine inBR ?_ | refine inBS ?_ | refine inBN (by decide) ?_))
    refine fin1 (.inl rfl) (by (simp (disch := omega) only [go_sem, ↓reduceIte, Nat.reduceEqDiff, Nat.reduceAdd, Nat.reduceLeDiff, p1, p2, p3, p4]); try rfl) rfl ⟨(x1.trans x2).trans x3, by unfold Grd.fmt; rw [if_neg (by rw [hv1]; simp)]⟩
  | true =>
  rw [hv1] at b0
  cases hv2 : g.r.valid with
  | false =>
    rw [hv2] at b3
    repeat (first | (refine W_reg rfl fun G K hG hK => ?_; simp (disch := omega) only [go_sem, ↓reduceIte, Nat.reduceEqDiff, Nat.reduceAdd, Nat.reduceLeDiff, hG, p1, p2, p3, p4, b0, b3]; refine hK _ _ ?_; clear hK K hG G) | (refine W_end rfl fun G K hG hK => ?_; simp (disch := omega) only [go_sem, ↓reduceIte, Nat.reduceEqDiff, Nat.reduceAdd, Nat.reduceLeDiff, hG, p1, p2, p3, p4, b0, b3]; refine hK _ _ ?_; clear hK K hG G; repeat (first | refine thenI ?_ | refine thenE ?_ | refine thenR ?_ | refine inBI ?_ | refine inBR ?_ | refine inBS ?_ | refine inBN (by decide) ?_)) | refine W_seqS ?_ | refine W_seqC ?_ | refine W_seqB ?_ | refine W_block ?_ | (refine W_skip ?_; repeat (first | refine thenI ?_ | refine thenE ?_ | refine thenR ?_ | refine inBI ?_ | refine inBR ?_ | refine inBS ?_ | refine inBN (by decide) ?_)) | (refine W_condT ?hc ?_; (case hc => (simp (disch := omega) only [go_sem, ↓reduceIte, Nat.reduceEqDiff, Nat.reduceAdd, Nat.reduceLeDiff, p1, p2, p3, p4, b0, b3]; done))) | (refine W_condF ?hc ?_; (case hc => (simp (disch := omega) only [go_sem, ↓reduceIte, Nat.reduceEqDiff, Nat.reduceAdd, Nat.reduceLeDiff, p1, p2, p3, p4, b0, b3]; done))))
    refine W_ret ?_; try (repeat (first | refine thenI ?_ | refine thenE ?_ | refine thenR ?_ | refine inBI ?_ | refine inBR ?_ | refine inBS ?_ | refine inBN (by decide) ?_))
    refine fin1 (.inl rfl) (by (simp (disch := omega) only [go_sem, ↓reduceIte, Nat.reduceEqDiff, Nat.reduceAdd, Nat.reduceLeDiff, p1, p2, p3, p4]); try rfl) rfl ⟨(x1.trans x2).trans x3, by unfold Grd.fmt; rw [if_neg (by rw [hv2]; simp)]⟩
  | true =>
  rw [hv2] at b3
  cases hk : isGK g.k with
  | false =>
    rw [hk] at b4
    repeat (first | (refine W_reg rfl fun G K hG hK => ?_; simp (disch := omega) only [go_sem, ↓reduceIte, Nat.reduceEqDiff, Nat.reduceAdd, Nat.reduceLeDiff, hG, p1, p2, p3, p4, b0, b3, b4]; refine hK _ _ ?_; clear hK K hG G) | (refine W_end rfl fun G K hG hK => ?_; simp (disch := omega) only [go_sem, ↓reduceIte, Nat.reduceEqDiff, Nat.reduceAdd, Nat.reduceLeDiff, hG, p1, p2, p3, p4, b0, b3, b4]; refine hK _ _ ?_; clear hK K hG G; repeat (first | refine thenI ?_ | refine thenE ?_ | refine thenR ?_ | refine inBI ?_ | refine inBR ?_ | refine inBS ?_ | refine inBN (by decide) ?_)) | refine W_seqS ?_ | refine W_seqC ?_ | refine W_seqB ?_ | refine W_block ?_ | (refine W_skip ?_; repeat (first | refine thenI ?_ | refine thenE ?_ | refine thenR ?_ | refine inBI ?_ | refine inBR ?_ | refine inBS ?_ | refine inBN (by decide) ?_)) | (refine W_condT ?hc ?_; (case hc => (simp (disch := omega) only [go_sem, ↓reduceIte, Nat.reduceEqDiff, Nat.reduceAdd, Nat.reduceLeDiff, p1, p2, p3, p4, b0, b3, b4]; done))) | (refine W_condF ?hc ?_; (case hc => (simp (disch := omega) only [go_sem, ↓reduceIte, Nat.reduceEqDiff, Nat.reduceAdd, Nat.reduceLeDiff, p1, p2, p3, p4, b0, b3, b4]; done))))
    refine W_ret ?_; try (repeat (first | refine thenI ?_ | refine thenE ?_ | refine thenR ?_ | refine inBI ?_ | refine inBR ?_ | refine inBS ?_ | refine inBN (by decide) ?_))
    refine fin1 (.inl rfl) (by (simp (disch := omega) only [go_sem, ↓reduceIte, Nat.reduceEqDiff, Nat.reduceAdd, Nat.reduceLeDiff, p1, p2, p3, p4]); try rfl) rfl ⟨(x1.trans x2).trans x3, by unfold Grd.fmt; rw [if_neg (by rw [hk]; simp)]⟩
  | true =>
    rw [hk] at b4
    repeat (first | (refine W_reg rfl fun G K hG hK => ?_; simp (disch := omega) only [go_sem, ↓reduceIte, Nat.reduceEqDiff, Nat.reduceAdd, Nat.reduceLeDiff, hG, p1, p2, p3, p4, b0, b3, b4, b1, b2]; refine hK _ _ ?_; clear hK K hG G) | (refine W_end rfl fun G K hG hK => ?_; simp (disch := omega) only [go_sem, ↓reduceIte, Nat.reduceEqDiff, Nat.reduceAdd, Nat.reduceLeDiff, hG, p1, p2, p3, p4, b0, b3, b4, b1, b2]; refine hK _ _ ?_; clear hK K hG G; repeat (first | refine thenI ?_ | refine thenE ?_ | refine thenR ?_ | refine inBI ?_ | refine inBR ?_ | refine inBS ?_ | refine inBN (by decide) ?_)) | refine W_seqS ?_ | refine W_seqC ?_ | refine W_seqB ?_ | refine W_block ?_ | (refine W_skip ?_; repeat (first | refine thenI ?_ | refine thenE ?_ | refine thenR ?_ | refine inBI ?_ | refine inBR ?_ | refine inBS ?_ | refine inBN (by decide) ?_)) | (refine W_condT ?hc ?_; (case hc => (simp (disch := omega) only [go_sem, ↓reduceIte, Nat.reduceEqDiff, Nat.reduceAdd, Nat.reduceLeDiff, p1, p2, p3, p4, b0, b3, b4, b1, b2]; done))) | (refine W_condF ?hc ?_; (case hc => (simp (disch := omega) only [go_sem, ↓reduceIte, Nat.reduceEqDiff, Nat.reduceAdd, Nat.reduceLeDiff, p1, p2, p3, p4, b0, b3, b4, b1, b2]; done))))
    refine W_ret ?_; try (repeat (first | refine thenI ?_ | refine thenE ?_ | refine thenR ?_ | refine inBI ?_ | refine inBR ?_ | refine inBS ?_ | refine inBN (by decide) ?_))
    refine fin1 (.inl rfl) (by (simp (disch := omega) only [go_sem, ↓reduceIte, Nat.reduceEqDiff, Nat.reduceAdd, Nat.reduceLeDiff, p1, p2, p3, p4]); try rfl) rfl ⟨(x1.trans x2).trans x3, by unfold Grd.fmt; rw [if_pos ⟨hk, hv1, hv2⟩]⟩
end Go.Proofs.YtngkedafggfehaaDoor.AM


/- The law FnExactFormatGuard, walked. -/
namespace Go.Proofs.YtngkedafggfehaaDoor.AM
open Go Go.Proofs
set_option linter.unusedVariables false
set_option linter.unusedSimpArgs false
set_option maxRecDepth 100000
attribute [local go_sem] List.map_cons List.map_nil List.all_cons List.all_nil Bool.and_self Option.map_some List.getElem?_toArray Option.bind_some gye_b gye_t gsk_b gsk_t gb1 gb2 gb3 gb4 bne_self_eq_false beq_self_eq_true w_guard w_nil stepV_some step_some step_some' w_move w_assign w_pick w_binOp w_unOp w_load w_fieldAddr w_indexAddr w_len w_max w_index ev_max max_int ev_index w_box w_alloc w_store w_field w_extract w_nilCheck w_convert w_buildSlice w_build ev_buildL fillL_nil fillL_cons bs0 bs1 ev_conv ev_bin ev_un ev_pick ev_load ev_fieldAddr ev_indexAddr ev_len ev_field ev_extract ev_nilCheck fr_tmp fr_int fr_bool fr_str fr_nil fr_func put_some put_none bin_lss bin_leq bin_gtr bin_geq bin_eql bin_neq bin_add bin_sub bin_mul bin_seql bin_sneq un_not pick_ ext_ loadA_p cellAt_l cellAt_h okPtr_l okPtr_h fadA_p allocA_l storeA_l cells_agg cells_int cells_str cells_sl cells_bool flat_i flat_s flat_b flat_sl flat_nil loc_agg loc_int loc_str loc_sl loc_bool loc_fn loc_ptr okv_agg okv_int okv_str okv_sl okv_bool cellsFrom splice upd_eval argEnv_zero argEnv_succ ne_eq Nat.add_one_ne_zero not_false_eq_true List.not_mem_nil and_self decide_true List.getElem?_cons_zero List.getElem?_cons_succ List.size_toArray List.length_cons List.length_nil List.take_succ_cons List.take_zero List.drop_succ_cons List.drop_zero List.cons_append List.nil_append List.drop_nil Bool.not_true Bool.not_false Bool.false_eq_true Nat.zero_add Nat.add_zero wrap_in List.toList_toArray List.mem_cons or_self or_false false_or
attribute [local go_sem] ag22 ag24 ag26 ag29 ag3 ag31 ag33 ag5 ag54 ag56 ag69 ag9 by31 by5 by9 el22 el29 el46 el54 of24_0 of24_1 of24_2 of24_3 of26_0 of26_1 of26_2 of31_0 of31_1 of31_2 of31_3 of33_0 of33_1 of33_2 of58_0 of58_1 ro5_1 ro9_1 ro9_3 ro9_4 sz22 sz24 sz26 sz29 sz3 sz31 sz33 sz5 sz54 sz56 sz69 sz9 ze31 ze33 ze5 ze58 ze68 ze81 ze9
-- AUTO

theorem wFnExactFormatGuard (st : St) (g0 : Grd) (cs0 : List Value) (hE0 : EncG st g0 cs0) (hL0 : LensG g0) : CallS Tryd.prog 3 [.agg cs0.toArray] st fun r _ => r = .bool true := by
  have cc3 : ∀ k : Nat, decide ((k : Int) < 0) = false := fun k => by simp
  have dd1 : ∀ k : Int, decide (k ≠ k) = false := fun k => by simp
  have dd2 : ∀ k : ByteArray, decide (k ≠ k) = false := fun k => by simp
  have one1 : ((1 : Nat) : Int) = 1 := rfl
  have bne1 : ∀ (x y : Operand) (a b : Bool), binE Tryd.prog .neq 4 x y (.bool a) (.bool b) = some (.bool !(a == b)) := fun x y a b => bin_bneq Tryd.underlying4
  obtain ⟨klA0, nlA0, mlA0, slA0, krA0, nrA0, mrA0, srA0, rfl, bA0, aA0, bA0', aA0'⟩ := hE0.arg_cells
  refine CallS_of_W [] 27 Tryd.func3 rfl rfl rfl rfl (by simp) ?_
  repeat (first | (refine W_reg rfl fun G K hG hK => ?_; simp (disch := omega) only [go_sem, ↓reduceIte, Nat.reduceEqDiff, Nat.reduceAdd, Nat.reduceLeDiff, hG, cc3, dd1, dd2, one1, bne1, aA0, bA0, aA0', bA0']; refine hK _ _ ?_; clear hK K hG G) | (refine W_end rfl fun G K hG hK => ?_; simp (disch := omega) only [go_sem, ↓reduceIte, Nat.reduceEqDiff, Nat.reduceAdd, Nat.reduceLeDiff, hG, cc3, dd1, dd2, one1, bne1, aA0, bA0, aA0', bA0']; refine hK _ _ ?_; clear hK K hG G; repeat (first | refine thenI ?_ | refine thenE ?_ | refine thenR ?_ | refine inBI ?_ | refine inBR ?_ | refine inBS ?_ | refine inBN (by decide) ?_)) | refine W_seqS ?_ | refine W_seqC ?_ | refine W_seqB ?_ | refine W_block ?_ | (refine W_skip ?_; repeat (first | refine thenI ?_ | refine thenE ?_ | refine thenR ?_ | refine inBI ?_ | refine inBR ?_ | refine inBS ?_ | refine inBN (by decide) ?_)) | (refine W_condT ?hc ?_; (case hc => (simp (disch := omega) only [go_sem, ↓reduceIte, Nat.reduceEqDiff, Nat.reduceAdd, Nat.reduceLeDiff, cc3, dd1, dd2, one1, bne1, aA0, bA0, aA0', bA0']; done))) | (refine W_condF ?hc ?_; (case hc => (simp (disch := omega) only [go_sem, ↓reduceIte, Nat.reduceEqDiff, Nat.reduceAdd, Nat.reduceLeDiff, cc3, dd1, dd2, one1, bne1, aA0, bA0, aA0', bA0']; done))))
  (repeat (first | refine W_seqS ?_ | refine W_seqC ?_ | refine W_seqB ?_ | refine W_block ?_)); refine W_reg rfl fun G K hG hK => ?_; simp (disch := omega) only [go_sem, ↓reduceIte, Nat.reduceEqDiff, Nat.reduceAdd, Nat.reduceLeDiff, hG, cc3, dd1, dd2, one1, bne1, aA0, bA0, aA0', bA0']
  refine w_call (szGuard_ok g0 st _ (1048576 : Int) hL0 (by omega) (by omega) hE0) (by simp (disch := omega) only [go_sem, ↓reduceIte, Nat.reduceEqDiff, cc3, dd1, dd2, one1, bne1, aA0, bA0, aA0', bA0']) ?hl ?_
  case hl => first | rfl | (simp only [go_sem, List.all_cons, List.all_nil, Bool.not_false, Bool.and_self, cc3, dd1, dd2, one1, bne1, aA0, bA0, aA0', bA0']; done)
  rintro r_ st ⟨rfl, rfl⟩; refine ⟨fun e => (by cases e), ?_⟩
  simp (disch := omega) only [go_sem, ↓reduceIte, Nat.reduceEqDiff, Nat.reduceAdd, Nat.reduceLeDiff, hG, cc3, dd1, dd2, one1, bne1, aA0, bA0, aA0', bA0', cells_agg, List.toList_toArray]; refine hK _ _ ?_; clear hK K hG G; repeat (first | refine thenI ?_ | refine thenE ?_ | refine thenR ?_ | refine inBI ?_ | refine inBR ?_ | refine inBS ?_ | refine inBN (by decide) ?_)
  by_cases hwt0 : ((Wt.wt g0 : Nat) : Int) ≤ (1048576 : Int)
  case neg =>
    rw [if_neg hwt0]
    have c2 : decide ((-1 : Int) < 0) = true := by decide
    repeat (first | (refine W_reg rfl fun G K hG hK => ?_; simp (disch := omega) only [go_sem, ↓reduceIte, Nat.reduceEqDiff, Nat.reduceAdd, Nat.reduceLeDiff, hG, cc3, dd1, dd2, one1, bne1, aA0, bA0, aA0', bA0', c2]; refine hK _ _ ?_; clear hK K hG G) | (refine W_end rfl fun G K hG hK => ?_; simp (disch := omega) only [go_sem, ↓reduceIte, Nat.reduceEqDiff, Nat.reduceAdd, Nat.reduceLeDiff, hG, cc3, dd1, dd2, one1, bne1, aA0, bA0, aA0', bA0', c2]; refine hK _ _ ?_; clear hK K hG G; repeat (first | refine thenI ?_ | refine thenE ?_ | refine thenR ?_ | refine inBI ?_ | refine inBR ?_ | refine inBS ?_ | refine inBN (by decide) ?_)) | refine W_seqS ?_ | refine W_seqC ?_ | refine W_seqB ?_ | refine W_block ?_ | (refine W_skip ?_; repeat (first | refine thenI ?_ | refine thenE ?_ | refine thenR ?_ | refine inBI ?_ | refine inBR ?_ | refine inBS ?_ | refine inBN (by decide) ?_)) | (refine W_condT ?hc ?_; (case hc => (simp (disch := omega) only [go_sem, ↓reduceIte, Nat.reduceEqDiff, Nat.reduceAdd, Nat.reduceLeDiff, cc3, dd1, dd2, one1, bne1, aA0, bA0, aA0', bA0', c2]; done))) | (refine W_condF ?hc ?_; (case hc => (simp (disch := omega) only [go_sem, ↓reduceIte, Nat.reduceEqDiff, Nat.reduceAdd, Nat.reduceLeDiff, cc3, dd1, dd2, one1, bne1, aA0, bA0, aA0', bA0', c2]; done))))
    refine W_ret ?_; try (repeat (first | refine thenI ?_ | refine thenE ?_ | refine thenR ?_ | refine inBI ?_ | refine inBR ?_ | refine inBS ?_ | refine inBN (by decide) ?_))
    refine fin1 (.inl rfl) (by (simp (disch := omega) only [go_sem, ↓reduceIte, Nat.reduceEqDiff, Nat.reduceAdd, Nat.reduceLeDiff, cc3, dd1, dd2, one1, bne1, aA0, bA0, aA0', bA0']); try rfl) rfl rfl
  rw [if_pos hwt0]
  have c20 : decide (((1048576 : Int) - ((Wt.wt g0 : Nat) : Int)) < 0) = false := by simp; omega
  repeat (first | (refine W_reg rfl fun G K hG hK => ?_; simp (disch := omega) only [go_sem, ↓reduceIte, Nat.reduceEqDiff, Nat.reduceAdd, Nat.reduceLeDiff, hG, cc3, dd1, dd2, one1, bne1, aA0, bA0, aA0', bA0', c20]; refine hK _ _ ?_; clear hK K hG G) | (refine W_end rfl fun G K hG hK => ?_; simp (disch := omega) only [go_sem, ↓reduceIte, Nat.reduceEqDiff, Nat.reduceAdd, Nat.reduceLeDiff, hG, cc3, dd1, dd2, one1, bne1, aA0, bA0, aA0', bA0', c20]; refine hK _ _ ?_; clear hK K hG G; repeat (first | refine thenI ?_ | refine thenE ?_ | refine thenR ?_ | refine inBI ?_ | refine inBR ?_ | refine inBS ?_ | refine inBN (by decide) ?_)) | refine W_seqS ?_ | refine W_seqC ?_ | refine W_seqB ?_ | refine W_block ?_ | (refine W_skip ?_; repeat (first | refine thenI ?_ | refine thenE ?_ | refine thenR ?_ | refine inBI ?_ | refine inBR ?_ | refine inBS ?_ | refine inBN (by decide) ?_)) | (refine W_condT ?hc ?_; (case hc => (simp (disch := omega) only [go_sem, ↓reduceIte, Nat.reduceEqDiff, Nat.reduceAdd, Nat.reduceLeDiff, cc3, dd1, dd2, one1, bne1, aA0, bA0, aA0', bA0', c20]; done))) | (refine W_condF ?hc ?_; (case hc => (simp (disch := omega) only [go_sem, ↓reduceIte, Nat.reduceEqDiff, Nat.reduceAdd, Nat.reduceLeDiff, cc3, dd1, dd2, one1, bne1, aA0, bA0, aA0', bA0', c20]; done))))
  have hl0 := g0.lim_of (by omega)
  have hn0 := g0.limN_of (by omega)
  refine W_gen (fun fr => (fr.env 1 = .pointer (some ⟨1, 0, some 1⟩)) ∧ (fr.loc 1 = (1, [.int .i64 g0.k, .int .i64 klA0, .int .i64 nlA0, .string mlA0, slA0, .int .i64 krA0, .int .i64 nrA0, .string mrA0, srA0])) ∧ ((fr.loc 5).1 = 0)) ⟨(by (simp (disch := omega) only [go_sem, ↓reduceIte, Nat.reduceEqDiff, Nat.reduceAdd, Nat.reduceLeDiff, cc3, dd1, dd2, one1, bne1, aA0, bA0, aA0', bA0']); try rfl), (by (simp (disch := omega) only [go_sem, ↓reduceIte, Nat.reduceEqDiff, Nat.reduceAdd, Nat.reduceLeDiff, cc3, dd1, dd2, one1, bne1, aA0, bA0, aA0', bA0']); try rfl), (by (simp (disch := omega) only [go_sem, ↓reduceIte, Nat.reduceEqDiff, Nat.reduceAdd, Nat.reduceLeDiff, cc3, dd1, dd2, one1, bne1, aA0, bA0, aA0', bA0']); try rfl)⟩ ?_
  rintro ⟨env, loc⟩ ⟨e1, l1, l5⟩
  simp only at e1 l1 l5
  (repeat (first | refine W_seqS ?_ | refine W_seqC ?_ | refine W_seqB ?_ | refine W_block ?_)); refine W_reg rfl fun G K hG hK => ?_; simp (disch := omega) only [go_sem, ↓reduceIte, Nat.reduceEqDiff, Nat.reduceAdd, Nat.reduceLeDiff, hG, cc3, dd1, dd2, one1, bne1, aA0, bA0, aA0', bA0', e1, l1, l5]
  refine w_call (toGuard_ok g0 _ _ hl0 hE0) (by simp (disch := omega) only [go_sem, ↓reduceIte, Nat.reduceEqDiff, cc3, dd1, dd2, one1, bne1, aA0, bA0, aA0', bA0', e1, l1, l5]) ?hl ?_
  case hl => first | rfl | (simp only [go_sem, List.all_cons, List.all_nil, Bool.not_false, Bool.and_self, cc3, dd1, dd2, one1, bne1, aA0, bA0, aA0', bA0', e1, l1, l5]; done)
  rintro rv1 st1 ⟨x1, d1, L1, rfl, o1, f1⟩; refine ⟨fun e => (by cases e), ?_⟩
  obtain ⟨k1, kl1, nl1, ml1, sl1, kr1, nr1, mr1, sr1, rfl, oa1, ob1, oe1, oa1', ob1', oe1'⟩ := o1.args_cells
  have X1 : Ext st st1 := x1
  simp (disch := omega) only [go_sem, ↓reduceIte, Nat.reduceEqDiff, Nat.reduceAdd, Nat.reduceLeDiff, cc3, dd1, dd2, one1, bne1, aA0, bA0, aA0', bA0', e1, l1, l5, oa1, ob1, oe1, oa1', ob1', oe1', cells_agg, List.toList_toArray]
  refine w_call (specFmtG_ok g0 _ _ hl0 hn0 (by have := T.count_wt g0.l; have := T.count_wt g0.r; have hgw : Wt.wt g0 = g0.l.wt + g0.r.wt := rfl; omega) o1.enc) (by simp (disch := omega) only [go_sem, ↓reduceIte, Nat.reduceEqDiff, cc3, dd1, dd2, one1, bne1, aA0, bA0, aA0', bA0', e1, l1, l5, oa1, ob1, oe1, oa1', ob1', oe1']) ?hl ?_
  case hl => first | rfl | (simp only [go_sem, List.all_cons, List.all_nil, Bool.not_false, Bool.and_self, cc3, dd1, dd2, one1, bne1, aA0, bA0, aA0', bA0', e1, l1, l5, oa1, ob1, oe1, oa1', ob1', oe1']; done)
  rintro r_ st2 ⟨x2, rfl⟩; refine ⟨fun e => (by cases e), ?_⟩
  have X2 : Ext st st2 := X1.trans x2
  simp (disch := omega) only [go_sem, ↓reduceIte, Nat.reduceEqDiff, Nat.reduceAdd, Nat.reduceLeDiff, hG, cc3, dd1, dd2, one1, bne1, aA0, bA0, aA0', bA0', e1, l1, l5, oa1, ob1, oe1, oa1', ob1', oe1', cells_agg, List.toList_toArray]; refine hK _ _ ?_; clear hK K hG G; repeat (first | refine thenI ?_ | refine thenE ?_ | refine thenR ?_ | refine inBI ?_ | refine inBR ?_ | refine inBS ?_ | refine inBN (by decide) ?_)
  repeat (first | (refine W_reg rfl fun G K hG hK => ?_; simp (disch := omega) only [go_sem, ↓reduceIte, Nat.reduceEqDiff, Nat.reduceAdd, Nat.reduceLeDiff, hG, cc3, dd1, dd2, one1, bne1, aA0, bA0, aA0', bA0', e1, l1, l5, oa1, ob1, oe1, oa1', ob1', oe1']; refine hK _ _ ?_; clear hK K hG G) | (refine W_end rfl fun G K hG hK => ?_; simp (disch := omega) only [go_sem, ↓reduceIte, Nat.reduceEqDiff, Nat.reduceAdd, Nat.reduceLeDiff, hG, cc3, dd1, dd2, one1, bne1, aA0, bA0, aA0', bA0', e1, l1, l5, oa1, ob1, oe1, oa1', ob1', oe1']; refine hK _ _ ?_; clear hK K hG G; repeat (first | refine thenI ?_ | refine thenE ?_ | refine thenR ?_ | refine inBI ?_ | refine inBR ?_ | refine inBS ?_ | refine inBN (by decide) ?_)) | refine W_seqS ?_ | refine W_seqC ?_ | refine W_seqB ?_ | refine W_block ?_ | (refine W_skip ?_; repeat (first | refine thenI ?_ | refine thenE ?_ | refine thenR ?_ | refine inBI ?_ | refine inBR ?_ | refine inBS ?_ | refine inBN (by decide) ?_)) | (refine W_condT ?hc ?_; (case hc => (simp (disch := omega) only [go_sem, ↓reduceIte, Nat.reduceEqDiff, Nat.reduceAdd, Nat.reduceLeDiff, cc3, dd1, dd2, one1, bne1, aA0, bA0, aA0', bA0', e1, l1, l5, oa1, ob1, oe1, oa1', ob1', oe1']; done))) | (refine W_condF ?hc ?_; (case hc => (simp (disch := omega) only [go_sem, ↓reduceIte, Nat.reduceEqDiff, Nat.reduceAdd, Nat.reduceLeDiff, cc3, dd1, dd2, one1, bne1, aA0, bA0, aA0', bA0', e1, l1, l5, oa1, ob1, oe1, oa1', ob1', oe1']; done))))
  refine W_gen (fun fr => (fr.env 1 = .pointer (some ⟨1, 0, some 1⟩)) ∧ (fr.env 4 = .string g0.fmt) ∧ (fr.loc 1 = (1, [.int .i64 g0.k, .int .i64 klA0, .int .i64 nlA0, .string mlA0, slA0, .int .i64 krA0, .int .i64 nrA0, .string mrA0, srA0])) ∧ ((fr.loc 5).1 = 0)) ⟨(by (simp (disch := omega) only [go_sem, ↓reduceIte, Nat.reduceEqDiff, Nat.reduceAdd, Nat.reduceLeDiff, cc3, dd1, dd2, one1, bne1, aA0, bA0, aA0', bA0', e1, l1, l5, oa1, ob1, oe1, oa1', ob1', oe1']); try rfl), (by (simp (disch := omega) only [go_sem, ↓reduceIte, Nat.reduceEqDiff, Nat.reduceAdd, Nat.reduceLeDiff, cc3, dd1, dd2, one1, bne1, aA0, bA0, aA0', bA0', e1, l1, l5, oa1, ob1, oe1, oa1', ob1', oe1']); try rfl), (by (simp (disch := omega) only [go_sem, ↓reduceIte, Nat.reduceEqDiff, Nat.reduceAdd, Nat.reduceLeDiff, cc3, dd1, dd2, one1, bne1, aA0, bA0, aA0', bA0', e1, l1, l5, oa1, ob1, oe1, oa1', ob1', oe1']); try rfl), (by (simp (disch := omega) only [go_sem, ↓reduceIte, Nat.reduceEqDiff, Nat.reduceAdd, Nat.reduceLeDiff, cc3, dd1, dd2, one1, bne1, aA0, bA0, aA0', bA0', e1, l1, l5, oa1, ob1, oe1, oa1', ob1', oe1']); try rfl)⟩ ?_
  clear e1 l1 l5
  rintro ⟨env, loc⟩ ⟨e1, e4, l1, l5⟩
  simp only at e1 e4 l1 l5
  (repeat (first | refine W_seqS ?_ | refine W_seqC ?_ | refine W_seqB ?_ | refine W_block ?_)); refine W_reg rfl fun G K hG hK => ?_; simp (disch := omega) only [go_sem, ↓reduceIte, Nat.reduceEqDiff, Nat.reduceAdd, Nat.reduceLeDiff, hG, cc3, dd1, dd2, one1, bne1, aA0, bA0, aA0', bA0', oa1, ob1, oe1, oa1', ob1', oe1', e1, e4, l1, l5]
  refine w_call (toGuard_ok g0 _ _ hl0 (hE0.ext X2)) (by simp (disch := omega) only [go_sem, ↓reduceIte, Nat.reduceEqDiff, cc3, dd1, dd2, one1, bne1, aA0, bA0, aA0', bA0', oa1, ob1, oe1, oa1', ob1', oe1', e1, e4, l1, l5]) ?hl ?_
  case hl => first | rfl | (simp only [go_sem, List.all_cons, List.all_nil, Bool.not_false, Bool.and_self, cc3, dd1, dd2, one1, bne1, aA0, bA0, aA0', bA0', oa1, ob1, oe1, oa1', ob1', oe1', e1, e4, l1, l5]; done)
  rintro rv3 st3 ⟨x3, d3, L3, rfl, o3, f3⟩; refine ⟨fun e => (by cases e), ?_⟩
  obtain ⟨k3, kl3, nl3, ml3, sl3, kr3, nr3, mr3, sr3, rfl, oa3, ob3, oe3, oa3', ob3', oe3'⟩ := o3.args_cells
  have X3 : Ext st st3 := X2.trans x3
  simp (disch := omega) only [go_sem, ↓reduceIte, Nat.reduceEqDiff, Nat.reduceAdd, Nat.reduceLeDiff, hG, cc3, dd1, dd2, one1, bne1, aA0, bA0, aA0', bA0', oa1, ob1, oe1, oa1', ob1', oe1', e1, e4, l1, l5, oa3, ob3, oe3, oa3', ob3', oe3', cells_agg, List.toList_toArray]; refine hK _ _ ?_; clear hK K hG G; repeat (first | refine thenI ?_ | refine thenE ?_ | refine thenR ?_ | refine inBI ?_ | refine inBR ?_ | refine inBS ?_ | refine inBN (by decide) ?_)
  repeat (first | (refine W_reg rfl fun G K hG hK => ?_; simp (disch := omega) only [go_sem, ↓reduceIte, Nat.reduceEqDiff, Nat.reduceAdd, Nat.reduceLeDiff, hG, cc3, dd1, dd2, one1, bne1, aA0, bA0, aA0', bA0', oa1, ob1, oe1, oa1', ob1', oe1', e1, e4, l1, l5, oa3, ob3, oe3, oa3', ob3', oe3']; refine hK _ _ ?_; clear hK K hG G) | (refine W_end rfl fun G K hG hK => ?_; simp (disch := omega) only [go_sem, ↓reduceIte, Nat.reduceEqDiff, Nat.reduceAdd, Nat.reduceLeDiff, hG, cc3, dd1, dd2, one1, bne1, aA0, bA0, aA0', bA0', oa1, ob1, oe1, oa1', ob1', oe1', e1, e4, l1, l5, oa3, ob3, oe3, oa3', ob3', oe3']; refine hK _ _ ?_; clear hK K hG G; repeat (first | refine thenI ?_ | refine thenE ?_ | refine thenR ?_ | refine inBI ?_ | refine inBR ?_ | refine inBS ?_ | refine inBN (by decide) ?_)) | refine W_seqS ?_ | refine W_seqC ?_ | refine W_seqB ?_ | refine W_block ?_ | (refine W_skip ?_; repeat (first | refine thenI ?_ | refine thenE ?_ | refine thenR ?_ | refine inBI ?_ | refine inBR ?_ | refine inBS ?_ | refine inBN (by decide) ?_)) | (refine W_condT ?hc ?_; (case hc => (simp (disch := omega) only [go_sem, ↓reduceIte, Nat.reduceEqDiff, Nat.reduceAdd, Nat.reduceLeDiff, cc3, dd1, dd2, one1, bne1, aA0, bA0, aA0', bA0', oa1, ob1, oe1, oa1', ob1', oe1', e1, e4, l1, l5, oa3, ob3, oe3, oa3', ob3', oe3']; done))) | (refine W_condF ?hc ?_; (case hc => (simp (disch := omega) only [go_sem, ↓reduceIte, Nat.reduceEqDiff, Nat.reduceAdd, Nat.reduceLeDiff, cc3, dd1, dd2, one1, bne1, aA0, bA0, aA0', bA0', oa1, ob1, oe1, oa1', ob1', oe1', e1, e4, l1, l5, oa3, ob3, oe3, oa3', ob3', oe3']; done))))
  refine W_gen (fun fr => (fr.env 1 = .pointer (some ⟨1, 0, some 1⟩)) ∧ (fr.env 4 = .string g0.fmt) ∧ (fr.env 5 = .pointer (some ⟨5, 0, some 1⟩)) ∧ (fr.loc 1 = (1, [.int .i64 g0.k, .int .i64 klA0, .int .i64 nlA0, .string mlA0, slA0, .int .i64 krA0, .int .i64 nrA0, .string mrA0, srA0])) ∧ (fr.loc 5 = (1, [.int .i64 k3, .int .i64 kl3, .int .i64 nl3, .string ml3, sl3, .int .i64 kr3, .int .i64 nr3, .string mr3, sr3]))) ⟨(by (simp (disch := omega) only [go_sem, ↓reduceIte, Nat.reduceEqDiff, Nat.reduceAdd, Nat.reduceLeDiff, cc3, dd1, dd2, one1, bne1, aA0, bA0, aA0', bA0', oa1, ob1, oe1, oa1', ob1', oe1', e1, e4, l1, l5, oa3, ob3, oe3, oa3', ob3', oe3']); try rfl), (by (simp (disch := omega) only [go_sem, ↓reduceIte, Nat.reduceEqDiff, Nat.reduceAdd, Nat.reduceLeDiff, cc3, dd1, dd2, one1, bne1, aA0, bA0, aA0', bA0', oa1, ob1, oe1, oa1', ob1', oe1', e1, e4, l1, l5, oa3, ob3, oe3, oa3', ob3', oe3']); try rfl), (by (simp (disch := omega) only [go_sem, ↓reduceIte, Nat.reduceEqDiff, Nat.reduceAdd, Nat.reduceLeDiff, cc3, dd1, dd2, one1, bne1, aA0, bA0, aA0', bA0', oa1, ob1, oe1, oa1', ob1', oe1', e1, e4, l1, l5, oa3, ob3, oe3, oa3', ob3', oe3']); try rfl), (by (simp (disch := omega) only [go_sem, ↓reduceIte, Nat.reduceEqDiff, Nat.reduceAdd, Nat.reduceLeDiff, cc3, dd1, dd2, one1, bne1, aA0, bA0, aA0', bA0', oa1, ob1, oe1, oa1', ob1', oe1', e1, e4, l1, l5, oa3, ob3, oe3, oa3', ob3', oe3']); try rfl), (by (simp (disch := omega) only [go_sem, ↓reduceIte, Nat.reduceEqDiff, Nat.reduceAdd, Nat.reduceLeDiff, cc3, dd1, dd2, one1, bne1, aA0, bA0, aA0', bA0', oa1, ob1, oe1, oa1', ob1', oe1', e1, e4, l1, l5, oa3, ob3, oe3, oa3', ob3', oe3']); try rfl)⟩ ?_
  clear e1 e4 l1 l5
  rintro ⟨env, loc⟩ ⟨e1, e4, e5, l1, l5⟩
  simp only at e1 e4 e5 l1 l5
  (repeat (first | refine W_seqS ?_ | refine W_seqC ?_ | refine W_seqB ?_ | refine W_block ?_)); refine W_reg rfl fun G K hG hK => ?_; simp (disch := omega) only [go_sem, ↓reduceIte, Nat.reduceEqDiff, Nat.reduceAdd, Nat.reduceLeDiff, hG, cc3, dd1, dd2, one1, bne1, aA0, bA0, aA0', bA0', oa1, ob1, oe1, oa1', ob1', oe1', oa3, ob3, oe3, oa3', ob3', oe3', e1, e4, e5, l1, l5]
  refine w_call (implFmtG_ok g0 _ _ hl0 (by have := T.count_wt g0.l; have := T.count_wt g0.r; have hgw : Wt.wt g0 = g0.l.wt + g0.r.wt := rfl; omega) o3.enc) (by simp (disch := omega) only [go_sem, ↓reduceIte, Nat.reduceEqDiff, cc3, dd1, dd2, one1, bne1, aA0, bA0, aA0', bA0', oa1, ob1, oe1, oa1', ob1', oe1', oa3, ob3, oe3, oa3', ob3', oe3', e1, e4, e5, l1, l5]) ?hl ?_
  case hl => first | rfl | (simp only [go_sem, List.all_cons, List.all_nil, Bool.not_false, Bool.and_self, cc3, dd1, dd2, one1, bne1, aA0, bA0, aA0', bA0', oa1, ob1, oe1, oa1', ob1', oe1', oa3, ob3, oe3, oa3', ob3', oe3', e1, e4, e5, l1, l5]; done)
  rintro r_ st4 ⟨x4, rfl⟩; refine ⟨fun e => (by cases e), ?_⟩
  have X4 : Ext st st4 := X3.trans x4
  simp (disch := omega) only [go_sem, ↓reduceIte, Nat.reduceEqDiff, Nat.reduceAdd, Nat.reduceLeDiff, hG, cc3, dd1, dd2, one1, bne1, aA0, bA0, aA0', bA0', oa1, ob1, oe1, oa1', ob1', oe1', oa3, ob3, oe3, oa3', ob3', oe3', e1, e4, e5, l1, l5, cells_agg, List.toList_toArray]; refine hK _ _ ?_; clear hK K hG G; repeat (first | refine thenI ?_ | refine thenE ?_ | refine thenR ?_ | refine inBI ?_ | refine inBR ?_ | refine inBS ?_ | refine inBN (by decide) ?_)
  repeat (first | (refine W_reg rfl fun G K hG hK => ?_; simp (disch := omega) only [go_sem, ↓reduceIte, Nat.reduceEqDiff, Nat.reduceAdd, Nat.reduceLeDiff, hG, cc3, dd1, dd2, one1, bne1, aA0, bA0, aA0', bA0', oa1, ob1, oe1, oa1', ob1', oe1', oa3, ob3, oe3, oa3', ob3', oe3', e1, e4, e5, l1, l5]; refine hK _ _ ?_; clear hK K hG G) | (refine W_end rfl fun G K hG hK => ?_; simp (disch := omega) only [go_sem, ↓reduceIte, Nat.reduceEqDiff, Nat.reduceAdd, Nat.reduceLeDiff, hG, cc3, dd1, dd2, one1, bne1, aA0, bA0, aA0', bA0', oa1, ob1, oe1, oa1', ob1', oe1', oa3, ob3, oe3, oa3', ob3', oe3', e1, e4, e5, l1, l5]; refine hK _ _ ?_; clear hK K hG G; repeat (first | refine thenI ?_ | refine thenE ?_ | refine thenR ?_ | refine inBI ?_ | refine inBR ?_ | refine inBS ?_ | refine inBN (by decide) ?_)) | refine W_seqS ?_ | refine W_seqC ?_ | refine W_seqB ?_ | refine W_block ?_ | (refine W_skip ?_; repeat (first | refine thenI ?_ | refine thenE ?_ | refine thenR ?_ | refine inBI ?_ | refine inBR ?_ | refine inBS ?_ | refine inBN (by decide) ?_)) | (refine W_condT ?hc ?_; (case hc => (simp (disch := omega) only [go_sem, ↓reduceIte, Nat.reduceEqDiff, Nat.reduceAdd, Nat.reduceLeDiff, cc3, dd1, dd2, one1, bne1, aA0, bA0, aA0', bA0', oa1, ob1, oe1, oa1', ob1', oe1', oa3, ob3, oe3, oa3', ob3', oe3', e1, e4, e5, l1, l5]; done))) | (refine W_condF ?hc ?_; (case hc => (simp (disch := omega) only [go_sem, ↓reduceIte, Nat.reduceEqDiff, Nat.reduceAdd, Nat.reduceLeDiff, cc3, dd1, dd2, one1, bne1, aA0, bA0, aA0', bA0', oa1, ob1, oe1, oa1', ob1', oe1', oa3, ob3, oe3, oa3', ob3', oe3', e1, e4, e5, l1, l5]; done))))
  refine W_gen (fun fr => (fr.env 1 = .pointer (some ⟨1, 0, some 1⟩)) ∧ (fr.env 4 = .string g0.fmt) ∧ (fr.env 5 = .pointer (some ⟨5, 0, some 1⟩)) ∧ (fr.loc 1 = (1, [.int .i64 g0.k, .int .i64 klA0, .int .i64 nlA0, .string mlA0, slA0, .int .i64 krA0, .int .i64 nrA0, .string mrA0, srA0])) ∧ (fr.loc 5 = (1, [.int .i64 k3, .int .i64 kl3, .int .i64 nl3, .string ml3, sl3, .int .i64 kr3, .int .i64 nr3, .string mr3, sr3]))) ⟨(by (simp (disch := omega) only [go_sem, ↓reduceIte, Nat.reduceEqDiff, Nat.reduceAdd, Nat.reduceLeDiff, cc3, dd1, dd2, one1, bne1, aA0, bA0, aA0', bA0', oa1, ob1, oe1, oa1', ob1', oe1', oa3, ob3, oe3, oa3', ob3', oe3', e1, e4, e5, l1, l5]); try rfl), (by (simp (disch := omega) only [go_sem, ↓reduceIte, Nat.reduceEqDiff, Nat.reduceAdd, Nat.reduceLeDiff, cc3, dd1, dd2, one1, bne1, aA0, bA0, aA0', bA0', oa1, ob1, oe1, oa1', ob1', oe1', oa3, ob3, oe3, oa3', ob3', oe3', e1, e4, e5, l1, l5]); try rfl), (by (simp (disch := omega) only [go_sem, ↓reduceIte, Nat.reduceEqDiff, Nat.reduceAdd, Nat.reduceLeDiff, cc3, dd1, dd2, one1, bne1, aA0, bA0, aA0', bA0', oa1, ob1, oe1, oa1', ob1', oe1', oa3, ob3, oe3, oa3', ob3', oe3', e1, e4, e5, l1, l5]); try rfl), (by (simp (disch := omega) only [go_sem, ↓reduceIte, Nat.reduceEqDiff, Nat.reduceAdd, Nat.reduceLeDiff, cc3, dd1, dd2, one1, bne1, aA0, bA0, aA0', bA0', oa1, ob1, oe1, oa1', ob1', oe1', oa3, ob3, oe3, oa3', ob3', oe3', e1, e4, e5, l1, l5]); try rfl), (by (simp (disch := omega) only [go_sem, ↓reduceIte, Nat.reduceEqDiff, Nat.reduceAdd, Nat.reduceLeDiff, cc3, dd1, dd2, one1, bne1, aA0, bA0, aA0', bA0', oa1, ob1, oe1, oa1', ob1', oe1', oa3, ob3, oe3, oa3', ob3', oe3', e1, e4, e5, l1, l5]); try rfl)⟩ ?_
  clear e1 e4 e5 l1 l5
  rintro ⟨env, loc⟩ ⟨e1, e4, e5, l1, l5⟩
  simp only at e1 e4 e5 l1 l5
  (repeat (first | refine W_seqS ?_ | refine W_seqC ?_ | refine W_seqB ?_ | refine W_block ?_)); refine W_regD mixed [] [(0,false),(1,false),(2,true),(3,true),(4,false)] rfl (by decide +kernel) fun G K hG hK => ?_; simp only [pickOps, List.filterMap_cons, List.filterMap_nil, List.getElem?_cons_zero, List.getElem?_cons_succ, Option.map_some]; simp (disch := omega) only [go_sem, ↓reduceIte, Nat.reduceEqDiff, Nat.reduceAdd, Nat.reduceLeDiff, hG, cc3, dd1, dd2, one1, bne1, aA0, bA0, aA0', bA0', oa1, ob1, oe1, oa1', ob1', oe1', oa3, ob3, oe3, oa3', ob3', oe3', e1, e4, e5, l1, l5]
  refine w_call (toGuard_ok g0 _ _ hl0 (hE0.ext X4)) (by simp (disch := omega) only [go_sem, ↓reduceIte, Nat.reduceEqDiff, cc3, dd1, dd2, one1, bne1, aA0, bA0, aA0', bA0', oa1, ob1, oe1, oa1', ob1', oe1', oa3, ob3, oe3, oa3', ob3', oe3', e1, e4, e5, l1, l5]) ?hl ?_
  case hl => first | rfl | (simp only [go_sem, List.all_cons, List.all_nil, Bool.not_false, Bool.and_self, cc3, dd1, dd2, one1, bne1, aA0, bA0, aA0', bA0', oa1, ob1, oe1, oa1', ob1', oe1', oa3, ob3, oe3, oa3', ob3', oe3', e1, e4, e5, l1, l5]; done)
  rintro rv5 st5 ⟨x5, d5, L5, rfl, o5, f5⟩; refine ⟨fun e => x5, ?_⟩
  obtain ⟨k5, kl5, nl5, ml5, sl5, kr5, nr5, mr5, sr5, rfl, oa5, ob5, oe5, oa5', ob5', oe5'⟩ := o5.args_cells
  have X5 : Ext st st5 := X4.trans x5
  simp (disch := omega) only [go_sem, ↓reduceIte, Nat.reduceEqDiff, Nat.reduceAdd, Nat.reduceLeDiff, cc3, dd1, dd2, one1, bne1, aA0, bA0, aA0', bA0', oa1, ob1, oe1, oa1', ob1', oe1', oa3, ob3, oe3, oa3', ob3', oe3', e1, e4, e5, l1, l5, oa5, ob5, oe5, oa5', ob5', oe5', cells_agg, List.toList_toArray]
  refine w_call (eqGuard_ok g0 st5 _ _ (Grd.lim_le hl0) ((o3.ext x4).ext x5).enc o5.enc) (by simp (disch := omega) only [go_sem, ↓reduceIte, Nat.reduceEqDiff, cc3, dd1, dd2, one1, bne1, aA0, bA0, aA0', bA0', oa1, ob1, oe1, oa1', ob1', oe1', oa3, ob3, oe3, oa3', ob3', oe3', e1, e4, e5, l1, l5, oa5, ob5, oe5, oa5', ob5', oe5']) ?hl ?_
  case hl => first | rfl | (simp only [go_sem, List.all_cons, List.all_nil, Bool.not_false, Bool.and_self, cc3, dd1, dd2, one1, bne1, aA0, bA0, aA0', bA0', oa1, ob1, oe1, oa1', ob1', oe1', oa3, ob3, oe3, oa3', ob3', oe3', e1, e4, e5, l1, l5, oa5, ob5, oe5, oa5', ob5', oe5']; done)
  rintro r_ st5 ⟨rfl, rfl⟩; refine ⟨fun e => Ext.refl _, ?_⟩
  simp (disch := omega) only [go_sem, ↓reduceIte, Nat.reduceEqDiff, Nat.reduceAdd, Nat.reduceLeDiff, hG, cc3, dd1, dd2, one1, bne1, aA0, bA0, aA0', bA0', oa1, ob1, oe1, oa1', ob1', oe1', oa3, ob3, oe3, oa3', ob3', oe3', e1, e4, e5, l1, l5, oa5, ob5, oe5, oa5', ob5', oe5', cells_agg, List.toList_toArray]; refine hK _ _ ?_; clear hK K hG G; repeat (first | refine thenI ?_ | refine thenE ?_ | refine thenR ?_ | refine inBI ?_ | refine inBR ?_ | refine inBS ?_ | refine inBN (by decide) ?_)
  repeat (first | (refine W_reg rfl fun G K hG hK => ?_; simp (disch := omega) only [go_sem, ↓reduceIte, Nat.reduceEqDiff, Nat.reduceAdd, Nat.reduceLeDiff, hG, cc3, dd1, dd2, one1, bne1, aA0, bA0, aA0', bA0', oa1, ob1, oe1, oa1', ob1', oe1', oa3, ob3, oe3, oa3', ob3', oe3', e1, e4, e5, l1, l5, oa5, ob5, oe5, oa5', ob5', oe5']; refine hK _ _ ?_; clear hK K hG G) | (refine W_end rfl fun G K hG hK => ?_; simp (disch := omega) only [go_sem, ↓reduceIte, Nat.reduceEqDiff, Nat.reduceAdd, Nat.reduceLeDiff, hG, cc3, dd1, dd2, one1, bne1, aA0, bA0, aA0', bA0', oa1, ob1, oe1, oa1', ob1', oe1', oa3, ob3, oe3, oa3', ob3', oe3', e1, e4, e5, l1, l5, oa5, ob5, oe5, oa5', ob5', oe5']; refine hK _ _ ?_; clear hK K hG G; repeat (first | refine thenI ?_ | refine thenE ?_ | refine thenR ?_ | refine inBI ?_ | refine inBR ?_ | refine inBS ?_ | refine inBN (by decide) ?_)) | refine W_seqS ?_ | refine W_seqC ?_ | refine W_seqB ?_ | refine W_block ?_ | (refine W_skip ?_; repeat (first | refine thenI ?_ | refine thenE ?_ | refine thenR ?_ | refine inBI ?_ | refine inBR ?_ | refine inBS ?_ | refine inBN (by decide) ?_)) | (refine W_condT ?hc ?_; (case hc => (simp (disch := omega) only [go_sem, ↓reduceIte, Nat.reduceEqDiff, Nat.reduceAdd, Nat.reduceLeDiff, cc3, dd1, dd2, one1, bne1, aA0, bA0, aA0', bA0', oa1, ob1, oe1, oa1', ob1', oe1', oa3, ob3, oe3, oa3', ob3', oe3', e1, e4, e5, l1, l5, oa5, ob5, oe5, oa5', ob5', oe5']; done))) | (refine W_condF ?hc ?_; (case hc => (simp (disch := omega) only [go_sem, ↓reduceIte, Nat.reduceEqDiff, Nat.reduceAdd, Nat.reduceLeDiff, cc3, dd1, dd2, one1, bne1, aA0, bA0, aA0', bA0', oa1, ob1, oe1, oa1', ob1', oe1', oa3, ob3, oe3, oa3', ob3', oe3', e1, e4, e5, l1, l5, oa5, ob5, oe5, oa5', ob5', oe5']; done))))
  refine W_ret ?_; try (repeat (first | refine thenI ?_ | refine thenE ?_ | refine thenR ?_ | refine inBI ?_ | refine inBR ?_ | refine inBS ?_ | refine inBN (by decide) ?_))
  refine fin1 (.inl rfl) (by (simp (disch := omega) only [go_sem, ↓reduceIte, Nat.reduceEqDiff, Nat.reduceAdd, Nat.reduceLeDiff, cc3, dd1, dd2, one1, bne1, aA0, bA0, aA0', bA0', oa1, ob1, oe1, oa1', ob1', oe1', oa3, ob3, oe3, oa3', ob3', oe3', e1, e4, e5, l1, l5, oa5, ob5, oe5, oa5', ob5', oe5']); try rfl) rfl rfl
end Go.Proofs.YtngkedafggfehaaDoor.AM


/- Arguments: guards. -/
namespace Go.Proofs.YtngkedafggfehaaDoor.AM
open Go Go.Proofs
set_option linter.unusedVariables false
set_option maxRecDepth 100000 in
theorem open_guard {H : Type} {enc : TypeId × Value → H} {w : World} (fuel : Nat) (cs : List Value) (x : DataW H × List MemPlace) (h : DataW.trod enc Tryd.prog w 0 (fun _ => true) true fuel 26 cs = some x) :
    ∃ g : Grd, EncG (absS w) g (cs.map (absV w.heap.size)) ∧ LensG g ∧ ∀ c ∈ cs, Told w c := by
  obtain ⟨xs, n, hfu, rfl, hl, hxl, hf⟩ := DataW.trod_struct Tryd.underlying26 h
  have hl : cs.length = 9 := hl.trans (by kernel_rfl)
  have hxl : xs.length = 3 := hxl
  obtain ⟨e0, r0, rfl, l0⟩ := list_S hl
  obtain ⟨e1, r1, rfl, l1⟩ := list_S l0
  obtain ⟨e2, r2, rfl, l2⟩ := list_S l1
  obtain ⟨e3, r3, rfl, l3⟩ := list_S l2
  obtain ⟨e4, r4, rfl, l4⟩ := list_S l3
  obtain ⟨e5, r5, rfl, l5⟩ := list_S l4
  obtain ⟨e6, r6, rfl, l6⟩ := list_S l5
  obtain ⟨e7, r7, rfl, l7⟩ := list_S l6
  obtain ⟨e8, r8, rfl, l8⟩ := list_S l7
  obtain rfl := List.eq_nil_of_length_eq_zero l8
  have q0 : DataW.trod enc Tryd.prog w 0 (fun _ => true) true n 3 [e0] = some (xs[0]'(by omega)) := (hf 0 _ rfl).trans (List.getElem?_eq_getElem (by omega))
  obtain ⟨z0, K0, g0⟩ := toldA_int Tryd.underlying3 q0
  obtain ⟨rfl⟩ : e0 = _ := (List.cons.inj K0).1
  have q1 : DataW.trod enc Tryd.prog w 0 (fun _ => true) true n 24 [e1, e2, e3, e4] = some (xs[1]'(by omega)) := (hf 1 _ rfl).trans (List.getElem?_eq_getElem (by omega))
  obtain ⟨t1, hE1, hG1, hT1⟩ := open_term n _ _ q1
  have q2 : DataW.trod enc Tryd.prog w 0 (fun _ => true) true n 24 [e5, e6, e7, e8] = some (xs[2]'(by omega)) := (hf 2 _ rfl).trans (List.getElem?_eq_getElem (by omega))
  obtain ⟨t2, hE2, hG2, hT2⟩ := open_term n _ _ q2
  refine ⟨⟨z0, t1, t2⟩, ⟨_, _, rfl, hE1, hE2⟩, ⟨hG1, hG2⟩, fun c hc => ?_⟩
  have hc : c = .int .i64 z0 ∨ c ∈ [e1, e2, e3, e4] ∨ c ∈ [e5, e6, e7, e8] := by
    simp only [List.mem_cons, List.not_mem_nil, or_false] at hc ⊢
    rcases hc with h | h | h | h | h | h | h | h | h <;> simp [h]
  rcases hc with rfl | hc | hc
  · rfl
  · exact hT1 c hc
  · exact hT2 c hc
end Go.Proofs.YtngkedafggfehaaDoor.AM


/-
  DERIVED. GIVEN WITH THE SEED: THE PROGRAM's TIES (one call each: nine closed facts by the kernel) AND EACH ROW's TIE, after the 31st guide's Derived/Test/Toyas{Tie, Card}.lean. No idea stands in it: it is a product of the set-up. Laid BY PROGRAM, IN A SANDBOX (cutbox-door.mjs). By AI agents, Wed Nov 11 2026. No macro, syntax, notation, axiom, sorry.
-/
namespace Go.Proofs.YtngkedafggfehaaDoor
open Go
set_option maxRecDepth 100000
theorem seatTie1 : Tryd.prog.laidByTextLater [("math/bits.deBruijn32tab", Rows.laid_math_bits_deBruijn32tab), ("math/bits.deBruijn64tab", Rows.laid_math_bits_deBruijn64tab), ("internal/strconv.uint64pow10", Rows.laid_internal_strconv_uint64pow10)] [.data, .data, .data] true :=
  Program.laidByTextLater_by_one 24 8 65 (by kernel_rfl) (by kernel_rfl) (by kernel_rfl) (by kernel_rfl) (by kernel_rfl) (by kernel_rfl) (fun _ _ => by kernel_rfl)
theorem noOwnUnsafe : Tryd.pinned.checked.prog.headLifts.contains "ownunsafe" = false := by kernel_rfl
theorem tie : Tryd.prog.laidByTextLater [("math/bits.deBruijn32tab", Rows.laid_math_bits_deBruijn32tab), ("math/bits.deBruijn64tab", Rows.laid_math_bits_deBruijn64tab), ("internal/strconv.uint64pow10", Rows.laid_internal_strconv_uint64pow10)] [.data, .data, .data] true :=
  Program.laidByTextLater.sub seatTie1 ["math/bits.deBruijn32tab", "math/bits.deBruijn64tab", "internal/strconv.uint64pow10"] (by kernel_rfl) (by kernel_rfl)
theorem fnExactFormatGuard_row_tie : Rows.fnExactFormatGuardRow.laidByTextAt .later Tryd.pinned [.data, .data, .data] true :=
  OpenClaim.laidByTextAt_later rfl rfl tie noOwnUnsafe
theorem fnExactFormatGuardUpto_row_tie : Rows.fnExactFormatGuardUptoRow.laidByTextAt .later Tryd.pinned [.data, .data, .data] true :=
  OpenClaim.laidByTextAt_later rfl rfl tie noOwnUnsafe
end Go.Proofs.YtngkedafggfehaaDoor


/-
  DERIVED. GIVEN WITH THE SEED: THE CARDS: each row of YtngkedafggfehaaDoorRows.lean that lists a variable, with what it lists TIED to the program's text (the seventh form; the later family's looks); each row that meets fmt, with fmt's text TOLD by the authors' own Lean function (tested against real Go, not proved from fmt's source: count such statements apart). THE CARD IS WHAT COUNTS. Prove the row's statement (the work); the ties are given (YtngkedafggfehaaDoorTie.lean); close each card by the builder's one call (the guide's Derived/Test/ToyasCard.lean, 'card_holds'). Laid BY PROGRAM, IN A SANDBOX (cutbox-door.mjs). By AI agents, Wed Nov 11 2026. No macro, syntax, notation, axiom, sorry.
-/
namespace Go.Proofs.YtngkedafggfehaaDoor
namespace Rows

/-- THE TIED CARD OF 'laws.FnExactFormatGuard'. -/
def fnExactFormatGuardCard : Claim7 := { stood := { row := fnExactFormatGuardRow, standIns := [], harness := (true, "46ba6cc9d09ac3b6009cc128c0760e19b6a0984d86d04634280566cca1a43d17"), looks := false }, kinds := [], alts := [], laidByText := true, laidKinds := [.data, .data, .data], laidTests := true, laidLooks := .later }
def FnExactFormatGuardCardSaid : Prop := Claim7.holds Tryd.pinned (.plain (OpenSpec.ofChange fnExactFormatGuardSpec)) fnExactFormatGuardCard

/-- THE SECOND FORM's CARD OF 'laws.FnExactFormatGuard'. -/
def fnExactFormatGuardUptoCard : Claim7 := { stood := { row := fnExactFormatGuardUptoRow, standIns := [], harness := (true, "46ba6cc9d09ac3b6009cc128c0760e19b6a0984d86d04634280566cca1a43d17"), looks := false }, kinds := [], alts := [], laidByText := true, laidKinds := [.data, .data, .data], laidTests := true, laidLooks := .later }
def FnExactFormatGuardUptoCardSaid : Prop := Claim7.holds Tryd.pinned (.plain (OpenSpec.upto fnExactFormatGuardSpec)) fnExactFormatGuardUptoCard
end Rows
end Go.Proofs.YtngkedafggfehaaDoor


/- The law FnExactFormatGuard, for every input: it returns true; the input reads as it did. -/
namespace Go.Proofs.YtngkedafggfehaaDoor.fnExactFormatGuard
open Go Go.Proofs Go.ChangeShapes Go.WideShapes Go.ChangeAt Go.RowKit Go.Proofs.YtngkedafggfehaaDoor.AM
open Go.ChangeMaps (open_string shut_string)
set_option linter.unusedVariables false
set_option linter.unusedSimpArgs false
theorem own : ownKnob Tryd.prog.godebug = none := by kernel_rfl
theorem laidOut : laidOutB Tryd.prog = true := by kernel_rfl
theorem door_met (os : Os) (args : Array Value) : laidMetH Tryd.prog Rows.fnExactFormatGuardRow.laid ((World.doorLaid Tryd.prog 400 os).forCall (fun _ _ => 0) ⟨#[], args, []⟩).memory :=
  laidMetH_of_parts3 (fuel := 8) (laidMet_of_run' 8 (by kernel_rfl) (by kernel_rfl)) (by kernel_rfl) (by kernel_rfl)
theorem gPow : Tryd.prog.globalNamed "internal/strconv.uint64pow10" = some 0 := by kernel_rfl
theorem tab {W : World} (h : laidMetH Tryd.prog Rows.fnExactFormatGuardRow.laid W) : Tab Tryd.prog W := by
  rw [MakeChecks.laidMetH_plain _ _ _ (by kernel_rfl)] at h
  have h1 : laidMet Tryd.prog [("internal/strconv.uint64pow10", Lib.tabData .u64 Lib.pow10Tab)] W := h.filter (fun x => x.1 == "internal/strconv.uint64pow10")
  exact ⟨fun _ => Lib.tabIs_of_head gPow (by kernel_rfl) Tryd.underlying79 Tryd.underlying69 (by kernel_rfl) (by kernel_rfl) h1, fun nm h hne => (by rcases h with rfl | rfl <;> exact absurd (by decide +kernel) hne)⟩
set_option maxRecDepth 100000 in
theorem lifted (os : Os) (started : os.Started) (H : Type) (enc : TypeId × Value → H) :
    ReturnsInHanded {} Tryd.checked os 3 .any (fun w args => (Rows.fnExactFormatGuardSpec.pre enc Tryd.prog Tryd.f3 Rows.fnExactFormatGuardRow.domain false w args ∧ laidMetH Tryd.prog Rows.fnExactFormatGuardRow.laid w) ∧ sizedMet enc Tryd.prog Tryd.f3 (OpenSpec.ofChange Rows.fnExactFormatGuardSpec) false w args) (Rows.fnExactFormatGuardSpec.post enc Tryd.prog Tryd.f3 false true false false) := by
  refine returnsInHanded_of_change_and (C := Tryd.checked) (X := fun w _ => laidMetH Tryd.prog Rows.fnExactFormatGuardRow.laid w) (fun _ _ _ hh h => h.of_heap hh) own started (by kernel_rfl) Tryd.func3
    (ChangeSpec.witness_shaped (enc := enc) (C := Tryd.checked) (os := os) (X := fun w _ => laidMetH Tryd.prog Rows.fnExactFormatGuardRow.laid w) false (World.doorLaid Tryd.prog 400 os) #[.agg #[.int .i64 0, .int .i64 0, .int .i64 0, .string ByteArray.empty, .slice none 0 0, .int .i64 0, .int .i64 0, .string ByteArray.empty, .slice none 0 0]] 8 rfl (World.shaped_of_RefB (by kernel_rfl) (by kernel_rfl)) (by kernel_rfl) (by kernel_rfl) (by kernel_rfl) (door_met os _)) ?_
  intro W base args ds gs before hval0 hW hcnd hsz0 hL _
  have hval : ∀ (j : Nat) t v, Tryd.f3.params[j]? = some t → args[j]? = some v → Value.okWide Tryd.prog W .any base t v := hval0
  have hW' := hW
  obtain ⟨p, q, hA0, hV, rfl, hfz, hnd⟩ := hW
  have hA : DataW.TrodAll enc Tryd.prog W 0 (fun _ => true) true Tryd.f3.params.toList args.toList ds p := hA0
  rw [Tryd.params3] at hA hval
  obtain ⟨v0, vs0, d0, ds0, p0, q0, hargs, rfl, rfl, h0, r0⟩ := trodAll_cons hA
  obtain ⟨rfl, rfl, rfl⟩ := trodAll_nil r0
  obtain rfl : args = #[v0] := by cases args; simp_all
  obtain ⟨rfl, rfl⟩ := trodVars_none hV
  have k0 := h0
  have lt0 : ∀ x ∈ p0, x.block < W.heap.size := by obtain ⟨m, hm⟩ := k0; exact DataW.trod_lt m _ _ _ hm
  obtain ⟨cs0, rfl, hs0⟩ := okWide_struct Tryd.underlying26 (hval 0 26 v0 rfl rfl)
  obtain ⟨fuel0, hf0⟩ := h0
  obtain ⟨t0, E0, G0, T0⟩ := open_guard fuel0 _ _ hf0
  have hc := wFnExactFormatGuard (absS W) t0 _ E0 G0
  clear hA0 hval0 hcnd hsz0 hval hA
  refine (hc.enters (tab hL) (.cons _ _ _ _ (ArgS.agg T0) .nil)).mono fun e W' ⟨he, bel⟩ => ?_
  subst he
  exact ⟨_, rfl, _, _, _, [], _, [], hW', trodAll_mk1 (shut_bool Tryd.underlying4 _), (trodAll_cons_mk (Below.trod laidOut (by kernel_rfl) (of_decide_eq_true (by kernel_rfl)) k0 bel lt0) trodAll_mk0), rfl, bel.frame _, fun h => by cases h⟩
theorem over : Rows.fnExactFormatGuardRow.holds Tryd.pinned (OpenSpec.ofChange Rows.fnExactFormatGuardSpec) :=
  OpenClaim.holds_of_wide 3 Tryd.f3 rfl rfl rfl rfl rfl rfl rfl ⟨rfl, rfl, rfl, rfl, rfl⟩ rfl rfl rfl rfl rfl (by kernel_rfl) Tryd.func3 (by kernel_rfl)
    (of_decide_eq_true (by kernel_rfl)) (by unfold Func.isWrapper; first | (rw [if_pos (by decide +kernel)]; kernel_rfl) | (rw [if_neg (by decide +kernel)]; exact ⟨rfl, rfl⟩))
    (fun os started H enc _ => lifted os started H enc)
theorem card : Rows.FnExactFormatGuardCardSaid :=
  Claim7.holds_tied_plain_at .later [] [.data, .data, .data] true Rows.fnExactFormatGuardCard.stood.harness Rows.fnExactFormatGuardCard.stood.looks
    over (fun _ h => by cases h) (by kernel_rfl) (fun _ h => by cases h) fnExactFormatGuard_row_tie rfl ⟨rfl, rfl⟩ (by kernel_rfl) rfl
    (fun f fn hf hfn => by
      obtain rfl : f = 3 := Option.some.inj ((show Tryd.prog.funcNamed "loop.example/g00517/laws.FnExactFormatGuard" = some 3 by kernel_rfl).symm.trans hf) |>.symm
      obtain rfl : fn = Tryd.f3 := (Option.some.inj (Tryd.func3.symm.trans hfn)).symm
      exact ⟨by kernel_rfl, fun j t ht => by
        rw [Tryd.params3] at ht
        have hm : t ∈ [26] := by simpa using Array.mem_of_getElem? ht
        have hall : ([26].all fun u => !Tryd.prog.wantsStandIn u) = true := by kernel_rfl
        exact (show Tryd.prog.wantsStandIn t = false by simpa using List.all_eq_true.1 hall t hm)⟩)
    (by kernel_rfl)
end Go.Proofs.YtngkedafggfehaaDoor.fnExactFormatGuard
namespace Go.Proofs.YtngkedafggfehaaDoor
/-- The card, under a short name, for the claim. -/
theorem fnExactFormatGuard_holds : Rows.FnExactFormatGuardCardSaid := fnExactFormatGuard.card
end Go.Proofs.YtngkedafggfehaaDoor

