/- A subterm is put: impl.withArg, impl.put, impl.ReplaceAt, spec.l4Put, spec.ReplaceAt. -/
import Derived.Test.YtjdokceabfaklaaC8
import Derived.Test.YtjdokceabfaklaaK4
namespace Go.Proofs.Ytjdokceabfaklaa.AM
open Go Go.Proofs
set_option linter.unusedVariables false
set_option linter.unusedSimpArgs false
set_option maxRecDepth 100000
attribute [local go_sem] List.map_cons List.map_nil List.all_cons List.all_nil Bool.and_self Option.map_some List.getElem?_toArray Option.bind_some gye_b gye_t gsk_b gsk_t gb1 gb2 gb3 gb4 bne_self_eq_false beq_self_eq_true w_guard w_nil stepV_some step_some step_some' w_move w_assign w_pick w_binOp w_unOp w_load w_fieldAddr w_indexAddr w_len w_box w_alloc w_store w_field w_extract w_nilCheck w_convert w_buildSlice w_build ev_buildL fillL_nil fillL_cons bs0 bs1 ev_conv ev_bin ev_un ev_pick ev_load ev_fieldAddr ev_indexAddr ev_len ev_field ev_extract ev_nilCheck fr_tmp fr_int fr_bool fr_str fr_nil fr_func put_some put_none bin_lss bin_leq bin_gtr bin_geq bin_eql bin_neq bin_add bin_sub bin_mul bin_seql bin_sneq un_not pick_ ext_ loadA_p cellAt_l cellAt_h okPtr_l okPtr_h fadA_p allocA_l storeA_l cells_agg cells_int cells_str cells_sl cells_bool flat_i flat_s flat_b flat_sl flat_nil loc_agg loc_int loc_str loc_sl loc_bool loc_fn loc_ptr okv_agg okv_int okv_str okv_sl okv_bool cellsFrom splice upd_eval argEnv_zero argEnv_succ ne_eq Nat.add_one_ne_zero not_false_eq_true List.not_mem_nil and_self decide_true List.getElem?_cons_zero List.getElem?_cons_succ List.size_toArray List.length_cons List.length_nil List.take_succ_cons List.take_zero List.drop_succ_cons List.drop_zero List.cons_append List.nil_append List.drop_nil Bool.not_true Bool.not_false Bool.false_eq_true Nat.zero_add Nat.add_zero wrap_in List.toList_toArray List.mem_cons or_self or_false false_or
attribute [local go_sem] ag22 ag24 ag27 ag29 ag3 ag9 bu29 by29 by3 el22 el25 el27 el50 of24_0 of24_1 of24_2 of24_3 of29_0 of29_1 of29_2 of29_3 ro29_0 ro29_1 ro5_1 sz22 sz24 sz27 sz29 sz3 sz5 sz9 ze29 ze3
-- AUTO

/-- A row of terms that are read, in a block of its own. -/
abbrev ShT (s0 st : St) (xs : List T) (s : Value) (L : List Nat) : Prop := SliceO (Shr (Enc s0)) 29 st xs s L
theorem ShT.row {s0 st : St} {xs : List T} {s : Value} {L : List Nat} (h : ShT s0 st xs s L) (hx : Ext s0 st) : RowT st xs s :=
  SliceO.row (fun x cx Lx he => Kind.enc_len (α := T) s0 x cx he.1) (fun x _ cx Lx he => Enc.ext hx x cx he.1) h

theorem cloneT_ok (xs : List T) (st : St) (s : Value) (hbig : xs.length ≤ 1099511627776) (hr : RowT st xs s) :
    CallS Try.prog 28 [s] st fun r st2 => Ext st st2 ∧ ∃ L, ShT st st2 xs r L ∧ Fresh st.length L := by
  refine CallS_of_W [] 8 Try.func28 rfl rfl rfl rfl (by simp) ?_
  obtain ⟨b, hb, hb2⟩ := row_nil hr Try.underlying27
  have n1 := hr.notLoc.1
  cases b with
  | true =>
    obtain ⟨rfl, rfl⟩ := hb2 rfl
    repeat (first | (refine W_reg rfl fun G K hG hK => ?_; simp (disch := omega) only [go_sem, ↓reduceIte, Nat.reduceEqDiff, Nat.reduceAdd, Nat.reduceLeDiff, hG, hb]; refine hK _ _ ?_; clear hK K hG G) | (refine W_end rfl fun G K hG hK => ?_; simp (disch := omega) only [go_sem, ↓reduceIte, Nat.reduceEqDiff, Nat.reduceAdd, Nat.reduceLeDiff, hG, hb]; refine hK _ _ ?_; clear hK K hG G; repeat (first | refine thenI ?_ | refine thenE ?_ | refine thenR ?_ | refine inBI ?_ | refine inBR ?_ | refine inBS ?_ | refine inBN (by decide) ?_)) | refine W_seqS ?_ | refine W_seqC ?_ | refine W_seqB ?_ | refine W_block ?_ | (refine W_skip ?_; repeat (first | refine thenI ?_ | refine thenE ?_ | refine thenR ?_ | refine inBI ?_ | refine inBR ?_ | refine inBS ?_ | refine inBN (by decide) ?_)) | (refine W_condT ?hc ?_; (case hc => (simp (disch := omega) only [go_sem, ↓reduceIte, Nat.reduceEqDiff, Nat.reduceAdd, Nat.reduceLeDiff, hb]; done))) | (refine W_condF ?hc ?_; (case hc => (simp (disch := omega) only [go_sem, ↓reduceIte, Nat.reduceEqDiff, Nat.reduceAdd, Nat.reduceLeDiff, hb]; done))))
    refine W_ret ?_; try (repeat (first | refine thenI ?_ | refine thenE ?_ | refine thenR ?_ | refine inBI ?_ | refine inBR ?_ | refine inBS ?_ | refine inBN (by decide) ?_))
    refine fin1 (.inl rfl) (by (simp (disch := omega) only [go_sem, ↓reduceIte, Nat.reduceEqDiff, Nat.reduceAdd, Nat.reduceLeDiff]); try rfl) rfl ⟨Ext.refl _, [], .inl ⟨rfl, rfl, rfl⟩, .nil _⟩
  | false =>
    have hx0 : Ext st (st ++ [⟨[], 29, 0⟩]) := Ext.app _ _
    obtain ⟨cy, hn, hc⟩ := newsA_row (hr.mono hx0 fun x _ cs he => he) Try.underlying27
    obtain ⟨s', st', L', hap, hs', hf', hx', _⟩ := SliceO.fresh (t := 27) (E := fun _ => Shr (Enc st)) (fun _ _ _ _ _ _ h => h) (fun _ _ _ _ h => by rw [h.2]; simp) (fun _ _ _ _ h => Kind.enc_len (α := T) st _ _ h.1) Try.underlying27 sz29 by29 ze29 rfl hn hc (by omega) (by omega)
    repeat (first | (refine W_reg rfl fun G K hG hK => ?_; simp (disch := omega) only [go_sem, ↓reduceIte, Nat.reduceEqDiff, Nat.reduceAdd, Nat.reduceLeDiff, hG, hb]; refine hK _ _ ?_; clear hK K hG G) | (refine W_end rfl fun G K hG hK => ?_; simp (disch := omega) only [go_sem, ↓reduceIte, Nat.reduceEqDiff, Nat.reduceAdd, Nat.reduceLeDiff, hG, hb]; refine hK _ _ ?_; clear hK K hG G; repeat (first | refine thenI ?_ | refine thenE ?_ | refine thenR ?_ | refine inBI ?_ | refine inBR ?_ | refine inBS ?_ | refine inBN (by decide) ?_)) | refine W_seqS ?_ | refine W_seqC ?_ | refine W_seqB ?_ | refine W_block ?_ | (refine W_skip ?_; repeat (first | refine thenI ?_ | refine thenE ?_ | refine thenR ?_ | refine inBI ?_ | refine inBR ?_ | refine inBS ?_ | refine inBN (by decide) ?_)) | (refine W_condT ?hc ?_; (case hc => (simp (disch := omega) only [go_sem, ↓reduceIte, Nat.reduceEqDiff, Nat.reduceAdd, Nat.reduceLeDiff, hb]; done))) | (refine W_condF ?hc ?_; (case hc => (simp (disch := omega) only [go_sem, ↓reduceIte, Nat.reduceEqDiff, Nat.reduceAdd, Nat.reduceLeDiff, hb]; done))))
    repeat (first | (refine W_reg rfl fun G K hG hK => ?_; simp (disch := omega) only [go_sem, ↓reduceIte, Nat.reduceEqDiff, Nat.reduceAdd, Nat.reduceLeDiff, hG, w_append, hap]; refine hK _ _ ?_; clear hK K hG G) | (refine W_end rfl fun G K hG hK => ?_; simp (disch := omega) only [go_sem, ↓reduceIte, Nat.reduceEqDiff, Nat.reduceAdd, Nat.reduceLeDiff, hG, w_append, hap]; refine hK _ _ ?_; clear hK K hG G; repeat (first | refine thenI ?_ | refine thenE ?_ | refine thenR ?_ | refine inBI ?_ | refine inBR ?_ | refine inBS ?_ | refine inBN (by decide) ?_)) | refine W_seqS ?_ | refine W_seqC ?_ | refine W_seqB ?_ | refine W_block ?_ | (refine W_skip ?_; repeat (first | refine thenI ?_ | refine thenE ?_ | refine thenR ?_ | refine inBI ?_ | refine inBR ?_ | refine inBS ?_ | refine inBN (by decide) ?_)) | (refine W_condT ?hc ?_; (case hc => (simp (disch := omega) only [go_sem, ↓reduceIte, Nat.reduceEqDiff, Nat.reduceAdd, Nat.reduceLeDiff, w_append, hap]; done))) | (refine W_condF ?hc ?_; (case hc => (simp (disch := omega) only [go_sem, ↓reduceIte, Nat.reduceEqDiff, Nat.reduceAdd, Nat.reduceLeDiff, w_append, hap]; done))))
    refine W_ret ?_; try (repeat (first | refine thenI ?_ | refine thenE ?_ | refine thenR ?_ | refine inBI ?_ | refine inBR ?_ | refine inBS ?_ | refine inBN (by decide) ?_))
    refine fin1 (.inl rfl) (by (simp (disch := omega) only [go_sem, ↓reduceIte, Nat.reduceEqDiff, Nat.reduceAdd, Nat.reduceLeDiff]); try rfl) hs'.loc ⟨hx', L', hs', hf'⟩

def T.setArg : T → Nat → T → T
  | .mk k n nm args, i, u => .mk k n nm (args.set i u)
theorem withArg_ok (t u : T) (i : Nat) (st : St) (cs ds : List Value) (hi : i < t.args.length) (hbig : t.args.length ≤ 1073741824) (hE : Enc st t cs) (hU : Enc st u ds) :
    CallS Try.prog 26 [.agg cs.toArray, .int .i64 i, .agg ds.toArray] st fun r st2 => Ext st st2 ∧ ∃ es, r = .agg es.toArray ∧ Enc st2 (t.setArg i u) es := by
  refine CallS_of_W [] 17 Try.func26 rfl rfl rfl rfl (by simp) ?_
  obtain ⟨k, n, nm, args⟩ := t
  obtain ⟨k1, n1, nm1, args1⟩ := u
  obtain ⟨s, rfl, hr⟩ := hE.open
  obtain ⟨s1, rfl, hr1⟩ := hU.open
  have hi : i < args.length := hi
  have hbig : args.length ≤ 1073741824 := hbig
  have q1 := hr.notLoc.1
  have q2 := hr.notLoc.2
  have q3 := hr1.notLoc.1
  have q4 := hr1.notLoc.2
  repeat (first | (refine W_reg rfl fun G K hG hK => ?_; simp (disch := omega) only [go_sem, ↓reduceIte, Nat.reduceEqDiff, Nat.reduceAdd, Nat.reduceLeDiff, hG]; refine hK _ _ ?_; clear hK K hG G) | (refine W_end rfl fun G K hG hK => ?_; simp (disch := omega) only [go_sem, ↓reduceIte, Nat.reduceEqDiff, Nat.reduceAdd, Nat.reduceLeDiff, hG]; refine hK _ _ ?_; clear hK K hG G; repeat (first | refine thenI ?_ | refine thenE ?_ | refine thenR ?_ | refine inBI ?_ | refine inBR ?_ | refine inBS ?_ | refine inBN (by decide) ?_)) | refine W_seqS ?_ | refine W_seqC ?_ | refine W_seqB ?_ | refine W_block ?_ | (refine W_skip ?_; repeat (first | refine thenI ?_ | refine thenE ?_ | refine thenR ?_ | refine inBI ?_ | refine inBR ?_ | refine inBS ?_ | refine inBN (by decide) ?_)) | (refine W_condT ?hc ?_; (case hc => (simp (disch := omega) only [go_sem, ↓reduceIte, Nat.reduceEqDiff, Nat.reduceAdd, Nat.reduceLeDiff]; done))) | (refine W_condF ?hc ?_; (case hc => (simp (disch := omega) only [go_sem, ↓reduceIte, Nat.reduceEqDiff, Nat.reduceAdd, Nat.reduceLeDiff]; done))))
  (repeat (first | refine W_seqS ?_ | refine W_seqC ?_ | refine W_seqB ?_ | refine W_block ?_)); refine W_reg rfl fun G K hG hK => ?_; simp (disch := omega) only [go_sem, ↓reduceIte, Nat.reduceEqDiff, Nat.reduceAdd, Nat.reduceLeDiff, hG]
  refine w_call (cloneT_ok args st s (by omega) hr) (by simp (disch := omega) only [go_sem, ↓reduceIte, Nat.reduceEqDiff, q1]) ?hl ?_
  case hl => first | rfl | (simp only [go_sem, List.all_cons, List.all_nil, Bool.not_false, Bool.and_self, q1]; done)
  rintro va sa ⟨x1, L, hs, hf⟩; refine ⟨fun e => (by cases e), ?_⟩
  rcases hs with ⟨_, h0, _⟩ | ⟨b, c, cs, KK, rfl, hb, hro, rfl⟩
  · rw [h0] at hi; simp at hi
  simp (disch := omega) only [go_sem, ↓reduceIte, Nat.reduceEqDiff, Nat.reduceAdd, Nat.reduceLeDiff, hG]; refine hK _ _ ?_; clear hK K hG G; repeat (first | refine thenI ?_ | refine thenE ?_ | refine thenR ?_ | refine inBI ?_ | refine inBR ?_ | refine inBS ?_ | refine inBN (by decide) ?_)
  obtain ⟨l1, cx, l2, L1, Lx, L2, g1, g2, g3, rfl, rfl⟩ := hro.split i _ (List.getElem?_eq_getElem hi)
  have hcl := g1.len (sz := 4) (fun x cx Lx he => Kind.enc_len (α := T) st x cx he.1)
  have hcx : cx.length = 4 := Kind.enc_len (α := T) st _ _ g2.1
  obtain ⟨c0, c1, c2, c3, rfl⟩ : ∃ c0 c1 c2 c3, cx = [c0, c1, c2, c3] := by
    match cx, hcx with
    | [c0, c1, c2, c3], _ => exact ⟨c0, c1, c2, c3, rfl⟩
  have hl1 : l1.length = i * 4 := by rw [hcl, List.length_take, Nat.min_eq_left (by omega)]
  have hii : (0 ≤ (i : Int) ∧ (i : Int) < (args.length : Int)) = True := by simp; omega
  have hblt : b < sa.length := (List.getElem?_eq_some_iff.1 hb).1
  have hb0 : st.length ≤ b := hf.2 b (by simp)
  have hst : ∀ loc, storeA Try.prog 29 (.pointer (some ⟨b, i * 4, none⟩)) (.agg #[.int .i64 k1, .int .i64 n1, .string nm1, s1]) loc sa = some (loc, sa.set b ⟨l1 ++ [.int .i64 k1, .int .i64 n1, .string nm1, s1] ++ l2, 29, 0⟩) := fun loc => by
    have hz := sz29
    rw [storeA_h]
    simp only [okv_agg, if_true, hz, hb, cells_agg, List.size_toArray, List.length_cons, List.length_nil, true_and]
    rw [if_pos (by simp; omega)]
    unfold AM.splice
    have e1 : (l1 ++ [c0, c1, c2, c3] ++ l2).take (i * 4) = l1 := by rw [← hl1, List.append_assoc, List.take_left]
    have e2 : (l1 ++ [c0, c1, c2, c3] ++ l2).drop (i * 4 + [Value.int .i64 k1, .int .i64 n1, .string nm1, s1].length) = l2 := by
      have : i * 4 + [Value.int .i64 k1, .int .i64 n1, .string nm1, s1].length = (l1 ++ [c0, c1, c2, c3]).length := by simp; omega
      rw [this, List.drop_left]
    rw [e1, e2]
  generalize hsb : sa.set b (⟨l1 ++ [.int .i64 k1, .int .i64 n1, .string nm1, s1] ++ l2, 29, 0⟩ : Blk) = sb at hst
  have hbb : sb[b]? = some ⟨l1 ++ [.int .i64 k1, .int .i64 n1, .string nm1, s1] ++ l2, 29, 0⟩ := by rw [← hsb]; exact get_set_eq hb
  have x2 : Ext st sb := Ext.of_get fun q hq => by rw [← hsb, get_set_ne (by omega), x1.get hq]
  have hnew : ShT st sb (args.set i (.mk k1 n1 nm1 args1)) (.slice (some ⟨b, 0, none⟩) args.length c) (b :: (L1 ++ [] ++ L2)) := by
    refine .inr ⟨b, c, _, _, by rw [List.length_set], hbb, ?_, rfl⟩
    have e : args.set i (.mk k1 n1 nm1 args1) = args.take i ++ [.mk k1 n1 nm1 args1] ++ args.drop (i + 1) := by
      rw [List.set_eq_take_append_cons_drop, if_pos hi]; simp
    rw [e]
    exact (g1.app (RowO.one ⟨hU, rfl⟩)).app g3
  repeat (first | (refine W_reg rfl fun G K hG hK => ?_; simp (disch := omega) only [go_sem, ↓reduceIte, Nat.reduceEqDiff, Nat.reduceAdd, Nat.reduceLeDiff, hG, hii, hst, idxA, Int.toNat_natCast, q3, q4]; refine hK _ _ ?_; clear hK K hG G) | (refine W_end rfl fun G K hG hK => ?_; simp (disch := omega) only [go_sem, ↓reduceIte, Nat.reduceEqDiff, Nat.reduceAdd, Nat.reduceLeDiff, hG, hii, hst, idxA, Int.toNat_natCast, q3, q4]; refine hK _ _ ?_; clear hK K hG G; repeat (first | refine thenI ?_ | refine thenE ?_ | refine thenR ?_ | refine inBI ?_ | refine inBR ?_ | refine inBS ?_ | refine inBN (by decide) ?_)) | refine W_seqS ?_ | refine W_seqC ?_ | refine W_seqB ?_ | refine W_block ?_ | (refine W_skip ?_; repeat (first | refine thenI ?_ | refine thenE ?_ | refine thenR ?_ | refine inBI ?_ | refine inBR ?_ | refine inBS ?_ | refine inBN (by decide) ?_)) | (refine W_condT ?hc ?_; (case hc => (simp (disch := omega) only [go_sem, ↓reduceIte, Nat.reduceEqDiff, Nat.reduceAdd, Nat.reduceLeDiff, hii, hst, idxA, Int.toNat_natCast, q3, q4]; done))) | (refine W_condF ?hc ?_; (case hc => (simp (disch := omega) only [go_sem, ↓reduceIte, Nat.reduceEqDiff, Nat.reduceAdd, Nat.reduceLeDiff, hii, hst, idxA, Int.toNat_natCast, q3, q4]; done))))
  refine W_ret ?_; try (repeat (first | refine thenI ?_ | refine thenE ?_ | refine thenR ?_ | refine inBI ?_ | refine inBR ?_ | refine inBS ?_ | refine inBN (by decide) ?_))
  refine finC (.inl rfl) (by (simp (disch := omega) only [go_sem, ↓reduceIte, Nat.reduceEqDiff, Nat.reduceAdd, Nat.reduceLeDiff]); try rfl) ⟨x2, [.int .i64 k, .int .i64 n, .string nm, _], rfl, Enc.close k n nm (hnew.row x2)⟩

def T.put (u : T) : List Int → T → T
  | [], _ => u
  | i :: p, t => t.setArg i.toNat (T.put u p (t.args.getD i.toNat T.zero))
theorem T.at_cons {i : Int} {p : List Int} {t : T} (h : (T.at (i :: p) t).isSome = true) : 0 ≤ i ∧ i.toNat < t.args.length ∧ t.args[i.toNat]? = some (t.args.getD i.toNat T.zero) ∧ (T.at p (t.args.getD i.toNat T.zero)).isSome = true := by
  simp only [T.at] at h
  split at h
  · rename_i hc
    have hlt : i.toNat < t.args.length := by omega
    have e : t.args.getD i.toNat T.zero = t.args[i.toNat] := by simp [hlt]
    rw [List.getElem?_eq_getElem hlt] at h
    exact ⟨hc.1, hlt, by rw [e, List.getElem?_eq_getElem hlt], by rw [e]; exact h⟩
  · cases h
theorem Lim.setArg {B : Nat} {t u : T} {i : Nat} (h : Lim B t) (hu : Lim B u) : Lim B (t.setArg i u) := by
  obtain ⟨k, n, nm, args⟩ := t
  refine .mk _ _ _ _ (by simpa using h.args.1) fun a ha => ?_
  rcases List.mem_or_eq_of_mem_set ha with ha | rfl
  · exact h.args.2 a ha
  · exact hu
theorem Lim.put {B : Nat} {u : T} (hu : Lim B u) : ∀ (p : List Int) (t : T), Lim B t → (T.at p t).isSome = true → Lim B (T.put u p t) := by
  intro p
  induction p with
  | nil => intro t _ _; exact hu
  | cons i p ih =>
    intro t ht hat
    obtain ⟨h0, h1, h2, h3⟩ := T.at_cons hat
    exact Lim.setArg ht (ih _ (Lim.arg t _ ht (List.mem_of_getElem? h2)) h3)
theorem T.setArg_wt {t u : T} {i : Nat} {x : T} (h : t.args[i]? = some x) : (t.setArg i u).wt + x.wt = t.wt + u.wt := by
  obtain ⟨k, n, nm, args⟩ := t
  have h : args[i]? = some x := h
  have : ∀ (l : List T) (i : Nat), l[i]? = some x → T.wtL (l.set i u) + x.wt = T.wtL l + u.wt := by
    intro l
    induction l with
    | nil => intro i h; simp at h
    | cons y ys ih =>
      intro i h
      cases i with
      | zero => simp only [List.getElem?_cons_zero, Option.some.injEq] at h; subst h; simp only [List.set_cons_zero, T.wtL]; omega
      | succ i => have := ih i (by simpa using h); simp only [List.set_cons_succ, T.wtL]; omega
  have := this args i h
  simp only [T.setArg, T.wt, List.length_set]
  omega
theorem T.put_wt (u : T) : ∀ (p : List Int) (t : T), (T.at p t).isSome = true → (T.put u p t).wt ≤ t.wt + u.wt := by
  intro p
  induction p with
  | nil => intro t _; simp only [T.put]; omega
  | cons i p ih =>
    intro t hat
    obtain ⟨h0, h1, h2, h3⟩ := T.at_cons hat
    have := T.setArg_wt (u := T.put u p (t.args.getD i.toNat T.zero)) h2
    have := ih _ h3
    simp only [T.put]
    omega

theorem implPut_ok (u : T) (ds : List Value) : ∀ (p : List Int) (t : T) (st : St) (cs : List Value) (s1 : Value), p.length ≤ 1073741824 → (T.at p t).isSome = true → Lim 1073741824 t → Enc st t cs → Rw st p s1 → Enc st u ds →
    CallS Try.prog 21 [.agg cs.toArray, s1, .agg ds.toArray] st fun r st2 => Ext st st2 ∧ ∃ es, r = .agg es.toArray ∧ Enc st2 (T.put u p t) es := by
  intro p
  induction p with
  | nil =>
    intro t st cs s1 hp hat hl hE hr hU
    refine CallS_of_W [] 27 Try.func21 rfl rfl rfl rfl (by simp) ?_
    have hlen : lenE Try.prog 25 s1 = some (.int .i64 ([] : List Int).length) := row_len hr Try.underlying25
    obtain ⟨k, n, nm, args⟩ := t
    obtain ⟨s, rfl, hra⟩ := hE.open
    obtain ⟨k1, n1, nm1, args1⟩ := u
    obtain ⟨s2, rfl, hr2⟩ := hU.open
    have q1 := hra.notLoc.1
    have q2 := hra.notLoc.2
    have q3 := hr2.notLoc.1
    have q4 := hr2.notLoc.2
    have c1 : (((0 : Nat) : Int) == 0) = true := rfl
    repeat (first | (refine W_reg rfl fun G K hG hK => ?_; simp (disch := omega) only [go_sem, ↓reduceIte, Nat.reduceEqDiff, Nat.reduceAdd, Nat.reduceLeDiff, hG, hlen, c1]; refine hK _ _ ?_; clear hK K hG G) | (refine W_end rfl fun G K hG hK => ?_; simp (disch := omega) only [go_sem, ↓reduceIte, Nat.reduceEqDiff, Nat.reduceAdd, Nat.reduceLeDiff, hG, hlen, c1]; refine hK _ _ ?_; clear hK K hG G; repeat (first | refine thenI ?_ | refine thenE ?_ | refine thenR ?_ | refine inBI ?_ | refine inBR ?_ | refine inBS ?_ | refine inBN (by decide) ?_)) | refine W_seqS ?_ | refine W_seqC ?_ | refine W_seqB ?_ | refine W_block ?_ | (refine W_skip ?_; repeat (first | refine thenI ?_ | refine thenE ?_ | refine thenR ?_ | refine inBI ?_ | refine inBR ?_ | refine inBS ?_ | refine inBN (by decide) ?_)) | (refine W_condT ?hc ?_; (case hc => (simp (disch := omega) only [go_sem, ↓reduceIte, Nat.reduceEqDiff, Nat.reduceAdd, Nat.reduceLeDiff, hlen, c1]; done))) | (refine W_condF ?hc ?_; (case hc => (simp (disch := omega) only [go_sem, ↓reduceIte, Nat.reduceEqDiff, Nat.reduceAdd, Nat.reduceLeDiff, hlen, c1]; done))))
    refine W_ret ?_; try (repeat (first | refine thenI ?_ | refine thenE ?_ | refine thenR ?_ | refine inBI ?_ | refine inBR ?_ | refine inBS ?_ | refine inBN (by decide) ?_))
    refine finC (.inl rfl) (by (simp (disch := omega) only [go_sem, ↓reduceIte, Nat.reduceEqDiff, Nat.reduceAdd, Nat.reduceLeDiff]); try rfl) ⟨Ext.refl _, [.int .i64 k1, .int .i64 n1, .string nm1, s2], rfl, hU⟩
  | cons i p ih =>
    intro t st cs s1 hp hat hl hE hr hU
    refine CallS_of_W [] 27 Try.func21 rfl rfl rfl rfl (by simp) ?_
    have hlen : lenE Try.prog 25 s1 = some (.int .i64 (i :: p).length) := row_len hr Try.underlying25
    simp only [List.length_cons] at hp
    obtain ⟨h0, h1, h2, h3⟩ := T.at_cons hat
    obtain ⟨k, n, nm, args⟩ := t
    obtain ⟨s, rfl, hra⟩ := hE.open
    obtain ⟨k1, n1, nm1, args1⟩ := u
    obtain ⟨s2, rfl, hr2⟩ := hU.open
    have q1 := hra.notLoc.1
    have q2 := hra.notLoc.2
    have q3 := hr2.notLoc.1
    have q4 := hr2.notLoc.2
    generalize hN : (i :: p).length = N at hlen
    have hN' : N = p.length + 1 := by rw [← hN]; rfl
    have c1 : ((N : Int) == 0) = false := by simp; omega
    obtain ⟨s1', hsl, hfl, hr'⟩ := row_drop (sz := 0) hr Try.underlying25 sz3 (k := 1) (by simp) (by simp)
    have hsl : sliceA Try.prog 25 s1 (some (.int .i64 1)) none = some s1' := hsl
    have m1 := hr'.notLoc.1
    obtain ⟨b, o, c, rfl, hce⟩ := row_atI hr (j := 0) (x := i) rfl hN
    rw [Nat.zero_mul, Nat.add_zero] at hce
    simp only [T.args] at h1 h2 h3
    obtain ⟨b2, o2, c2, cs2, rfl, hcl, hE2, hcs⟩ := row_at hra h2
    have hly := hl.args.2 _ (List.mem_of_getElem? h2)
    have hab := hl.args.1
    obtain ⟨ky, ny, nmy, argsy, hye⟩ := T.eta (args.getD i.toNat T.zero)
    obtain ⟨sy, rfl, hry⟩ := (hye ▸ hE2).open
    have hld2 := fun loc => load_row (A := []) (loc := loc) ag29 sz29 hcl hcs
    have hi0 : (0 ≤ (0 : Int) ∧ (0 : Int) < (N : Int)) = True := by simp; omega
    have hi1 : (0 ≤ i ∧ i < (args.length : Int)) = True := by simp; omega
    have y1 := hry.notLoc.1
    repeat (first | (refine W_reg rfl fun G K hG hK => ?_; simp (disch := omega) only [go_sem, ↓reduceIte, Nat.reduceEqDiff, Nat.reduceAdd, Nat.reduceLeDiff, hG, q1, q3, m1, y1, hlen, c1]; refine hK _ _ ?_; clear hK K hG G) | (refine W_end rfl fun G K hG hK => ?_; simp (disch := omega) only [go_sem, ↓reduceIte, Nat.reduceEqDiff, Nat.reduceAdd, Nat.reduceLeDiff, hG, q1, q3, m1, y1, hlen, c1]; refine hK _ _ ?_; clear hK K hG G; repeat (first | refine thenI ?_ | refine thenE ?_ | refine thenR ?_ | refine inBI ?_ | refine inBR ?_ | refine inBS ?_ | refine inBN (by decide) ?_)) | refine W_seqS ?_ | refine W_seqC ?_ | refine W_seqB ?_ | refine W_block ?_ | (refine W_skip ?_; repeat (first | refine thenI ?_ | refine thenE ?_ | refine thenR ?_ | refine inBI ?_ | refine inBR ?_ | refine inBS ?_ | refine inBN (by decide) ?_)) | (refine W_condT ?hc ?_; (case hc => (simp (disch := omega) only [go_sem, ↓reduceIte, Nat.reduceEqDiff, Nat.reduceAdd, Nat.reduceLeDiff, q1, q3, m1, y1, hlen, c1]; done))) | (refine W_condF ?hc ?_; (case hc => (simp (disch := omega) only [go_sem, ↓reduceIte, Nat.reduceEqDiff, Nat.reduceAdd, Nat.reduceLeDiff, q1, q3, m1, y1, hlen, c1]; done))))
    (repeat (first | refine W_seqS ?_ | refine W_seqC ?_ | refine W_seqB ?_ | refine W_block ?_)); refine W_regD mixed [] [(0,false),(1,false),(2,false),(3,false),(4,false),(5,false),(6,false),(7,false),(8,false),(9,false),(10,false),(11,false),(12,false),(13,false),(14,true),(15,true),(16,false)] rfl (by decide +kernel) fun G K hG hK => ?_; simp only [pickOps, List.filterMap_cons, List.filterMap_nil, List.getElem?_cons_zero, List.getElem?_cons_succ, Option.map_some]; simp (disch := omega) only [go_sem, ↓reduceIte, Nat.reduceEqDiff, Nat.reduceAdd, Nat.reduceLeDiff, hG, q1, q3, m1, y1, w_slice, ev_slice, hfl, hsl, hld2, hce, hi0, hi1, idxA, Int.toNat_natCast, Int.toNat_zero, Nat.zero_mul, Bool.false_and, Option.map_none]
    refine w_call (ih (args.getD i.toNat T.zero) st _ s1' (by omega) h3 hly hE2 hr' hU) (by simp (disch := omega) only [go_sem, ↓reduceIte, Nat.reduceEqDiff, q1, q3, m1, y1]) ?hl ?_
    case hl => first | rfl | (simp only [go_sem, List.all_cons, List.all_nil, Bool.not_false, Bool.and_self, q1, q3, m1, y1]; done)
    rintro r_ sa ⟨x1, es, rfl, hE3⟩; refine ⟨fun e => x1, ?_⟩
    have hEx := Enc.ext x1 _ _ hE
    have hp2 : T.put (.mk k1 n1 nm1 args1) (i :: p) (.mk k n nm args) = T.setArg (.mk k n nm args) i.toNat (T.put (.mk k1 n1 nm1 args1) p (args.getD i.toNat T.zero)) := rfl
    obtain ⟨kw, nw, mw, aw, hwe⟩ := T.eta (T.put (.mk k1 n1 nm1 args1) p (args.getD i.toNat T.zero))
    rw [hwe] at hE3 hp2
    obtain ⟨sw, rfl, hrw⟩ := hE3.open
    have w1 := hrw.notLoc.1
    have hie : (i : Int) = ((i.toNat : Nat) : Int) := by omega
    simp (disch := omega) only [go_sem, ↓reduceIte, Nat.reduceEqDiff, Nat.reduceAdd, Nat.reduceLeDiff, q1, q3, m1, y1]
    have hwa := withArg_ok (.mk k n nm args) (.mk kw nw mw aw) i.toNat sa _ _ h1 hab hEx hE3
    rw [← hie] at hwa
    refine w_call (hwa) (by simp (disch := omega) only [go_sem, ↓reduceIte, Nat.reduceEqDiff, q1, q3, m1, y1, w1]) ?hl ?_
    case hl => first | rfl | (simp only [go_sem, List.all_cons, List.all_nil, Bool.not_false, Bool.and_self, q1, q3, m1, y1, w1]; done)
    rintro r_ sb ⟨x2, es, rfl, hE4⟩; refine ⟨fun e => x2, ?_⟩
    obtain ⟨sr, rfl, hrr⟩ := hE4.open
    have r1 := hrr.notLoc.1
    have r2 := hrr.notLoc.2
    simp (disch := omega) only [go_sem, ↓reduceIte, Nat.reduceEqDiff, Nat.reduceAdd, Nat.reduceLeDiff, hG, q1, q3, m1, y1, r1, r2]; refine hK _ _ ?_; clear hK K hG G; repeat (first | refine thenI ?_ | refine thenE ?_ | refine thenR ?_ | refine inBI ?_ | refine inBR ?_ | refine inBS ?_ | refine inBN (by decide) ?_)
    repeat (first | (refine W_reg rfl fun G K hG hK => ?_; simp (disch := omega) only [go_sem, ↓reduceIte, Nat.reduceEqDiff, Nat.reduceAdd, Nat.reduceLeDiff, hG, q1, q3, m1, y1, r1, r2]; refine hK _ _ ?_; clear hK K hG G) | (refine W_end rfl fun G K hG hK => ?_; simp (disch := omega) only [go_sem, ↓reduceIte, Nat.reduceEqDiff, Nat.reduceAdd, Nat.reduceLeDiff, hG, q1, q3, m1, y1, r1, r2]; refine hK _ _ ?_; clear hK K hG G; repeat (first | refine thenI ?_ | refine thenE ?_ | refine thenR ?_ | refine inBI ?_ | refine inBR ?_ | refine inBS ?_ | refine inBN (by decide) ?_)) | refine W_seqS ?_ | refine W_seqC ?_ | refine W_seqB ?_ | refine W_block ?_ | (refine W_skip ?_; repeat (first | refine thenI ?_ | refine thenE ?_ | refine thenR ?_ | refine inBI ?_ | refine inBR ?_ | refine inBS ?_ | refine inBN (by decide) ?_)) | (refine W_condT ?hc ?_; (case hc => (simp (disch := omega) only [go_sem, ↓reduceIte, Nat.reduceEqDiff, Nat.reduceAdd, Nat.reduceLeDiff, q1, q3, m1, y1, r1, r2]; done))) | (refine W_condF ?hc ?_; (case hc => (simp (disch := omega) only [go_sem, ↓reduceIte, Nat.reduceEqDiff, Nat.reduceAdd, Nat.reduceLeDiff, q1, q3, m1, y1, r1, r2]; done))))
    refine W_ret ?_; try (repeat (first | refine thenI ?_ | refine thenE ?_ | refine thenR ?_ | refine inBI ?_ | refine inBR ?_ | refine inBS ?_ | refine inBN (by decide) ?_))
    refine finC (.inl rfl) (by (simp (disch := omega) only [go_sem, ↓reduceIte, Nat.reduceEqDiff, Nat.reduceAdd, Nat.reduceLeDiff, q1, q3, m1, y1]); try rfl) ⟨x1.trans x2, _, rfl, by rw [hp2]; exact hE4⟩

theorem specPut_ok (u : T) (ds : List Value) (hlu : Lim 1073741824 u) : ∀ (p : List Int) (t : T) (st : St) (cs : List Value) (s1 : Value), p.length ≤ 1073741824 → (T.at p t).isSome = true → Lim 1073741824 t → Enc st t cs → Rw st p s1 → Enc st u ds →
    CallS Try.prog 17 [.agg cs.toArray, s1, .agg ds.toArray] st fun r st2 => Ext st st2 ∧ ∃ es L, r = .agg es.toArray ∧ OwnT st2 (T.put u p t) es L ∧ Fresh st.length L := by
  intro p
  induction p with
  | nil =>
    intro t st cs s1 hp hat hl hE hr hU
    refine CallS_of_W [] 33 Try.func17 rfl rfl rfl rfl (by simp) ?_
    have hlen : lenE Try.prog 25 s1 = some (.int .i64 ([] : List Int).length) := row_len hr Try.underlying25
    obtain ⟨k, n, nm, args⟩ := t
    obtain ⟨s, rfl, hra⟩ := hE.open
    obtain ⟨k1, n1, nm1, args1⟩ := u
    obtain ⟨s2, rfl, hr2⟩ := hU.open
    have q1 := hra.notLoc.1
    have q2 := hra.notLoc.2
    have q3 := hr2.notLoc.1
    have q4 := hr2.notLoc.2
    have c1 : (((0 : Nat) : Int) == 0) = true := rfl
    repeat (first | (refine W_reg rfl fun G K hG hK => ?_; simp (disch := omega) only [go_sem, ↓reduceIte, Nat.reduceEqDiff, Nat.reduceAdd, Nat.reduceLeDiff, hG, hlen, c1]; refine hK _ _ ?_; clear hK K hG G) | (refine W_end rfl fun G K hG hK => ?_; simp (disch := omega) only [go_sem, ↓reduceIte, Nat.reduceEqDiff, Nat.reduceAdd, Nat.reduceLeDiff, hG, hlen, c1]; refine hK _ _ ?_; clear hK K hG G; repeat (first | refine thenI ?_ | refine thenE ?_ | refine thenR ?_ | refine inBI ?_ | refine inBR ?_ | refine inBS ?_ | refine inBN (by decide) ?_)) | refine W_seqS ?_ | refine W_seqC ?_ | refine W_seqB ?_ | refine W_block ?_ | (refine W_skip ?_; repeat (first | refine thenI ?_ | refine thenE ?_ | refine thenR ?_ | refine inBI ?_ | refine inBR ?_ | refine inBS ?_ | refine inBN (by decide) ?_)) | (refine W_condT ?hc ?_; (case hc => (simp (disch := omega) only [go_sem, ↓reduceIte, Nat.reduceEqDiff, Nat.reduceAdd, Nat.reduceLeDiff, hlen, c1]; done))) | (refine W_condF ?hc ?_; (case hc => (simp (disch := omega) only [go_sem, ↓reduceIte, Nat.reduceEqDiff, Nat.reduceAdd, Nat.reduceLeDiff, hlen, c1]; done))))
    (repeat (first | refine W_seqS ?_ | refine W_seqC ?_ | refine W_seqB ?_ | refine W_block ?_)); refine W_reg rfl fun G K hG hK => ?_; simp (disch := omega) only [go_sem, ↓reduceIte, Nat.reduceEqDiff, Nat.reduceAdd, Nat.reduceLeDiff, hG, q3, q4]
    refine w_call (l3Copy_ok _ st _ hlu hU) (by simp (disch := omega) only [go_sem, ↓reduceIte, Nat.reduceEqDiff, q3]) ?hl ?_
    case hl => first | rfl | (simp only [go_sem, List.all_cons, List.all_nil, Bool.not_false, Bool.and_self, q3]; done)
    rintro r_ sa ⟨x1, es, L, rfl, ho, hf⟩; refine ⟨fun e => (by cases e), ?_⟩
    obtain ⟨sr, rfl, hso⟩ := ho.open
    simp (disch := omega) only [go_sem, ↓reduceIte, Nat.reduceEqDiff, Nat.reduceAdd, Nat.reduceLeDiff, hG]; refine hK _ _ ?_; clear hK K hG G; repeat (first | refine thenI ?_ | refine thenE ?_ | refine thenR ?_ | refine inBI ?_ | refine inBR ?_ | refine inBS ?_ | refine inBN (by decide) ?_)
    repeat (first | (refine W_reg rfl fun G K hG hK => ?_; simp (disch := omega) only [go_sem, ↓reduceIte, Nat.reduceEqDiff, Nat.reduceAdd, Nat.reduceLeDiff, hG]; refine hK _ _ ?_; clear hK K hG G) | (refine W_end rfl fun G K hG hK => ?_; simp (disch := omega) only [go_sem, ↓reduceIte, Nat.reduceEqDiff, Nat.reduceAdd, Nat.reduceLeDiff, hG]; refine hK _ _ ?_; clear hK K hG G; repeat (first | refine thenI ?_ | refine thenE ?_ | refine thenR ?_ | refine inBI ?_ | refine inBR ?_ | refine inBS ?_ | refine inBN (by decide) ?_)) | refine W_seqS ?_ | refine W_seqC ?_ | refine W_seqB ?_ | refine W_block ?_ | (refine W_skip ?_; repeat (first | refine thenI ?_ | refine thenE ?_ | refine thenR ?_ | refine inBI ?_ | refine inBR ?_ | refine inBS ?_ | refine inBN (by decide) ?_)) | (refine W_condT ?hc ?_; (case hc => (simp (disch := omega) only [go_sem, ↓reduceIte, Nat.reduceEqDiff, Nat.reduceAdd, Nat.reduceLeDiff]; done))) | (refine W_condF ?hc ?_; (case hc => (simp (disch := omega) only [go_sem, ↓reduceIte, Nat.reduceEqDiff, Nat.reduceAdd, Nat.reduceLeDiff]; done))))
    refine W_ret ?_; try (repeat (first | refine thenI ?_ | refine thenE ?_ | refine thenR ?_ | refine inBI ?_ | refine inBR ?_ | refine inBS ?_ | refine inBN (by decide) ?_))
    refine finC (.inl rfl) (by (simp (disch := omega) only [go_sem, ↓reduceIte, Nat.reduceEqDiff, Nat.reduceAdd, Nat.reduceLeDiff]); try rfl) ⟨x1, _, L, rfl, ho, hf⟩
  | cons i p ih =>
    intro t st cs s1 hp hat hl hE hr hU
    refine CallS_of_W [] 33 Try.func17 rfl rfl rfl rfl (by simp) ?_
    have hlen : lenE Try.prog 25 s1 = some (.int .i64 (i :: p).length) := row_len hr Try.underlying25
    simp only [List.length_cons] at hp
    obtain ⟨h0, h1, h2, h3⟩ := T.at_cons hat
    obtain ⟨k, n, nm, args⟩ := t
    obtain ⟨s, rfl, hra⟩ := hE.open
    obtain ⟨k1, n1, nm1, args1⟩ := u
    obtain ⟨s2, rfl, hr2⟩ := hU.open
    have q1 := hra.notLoc.1
    have q2 := hra.notLoc.2
    have q3 := hr2.notLoc.1
    have q4 := hr2.notLoc.2
    generalize hN : (i :: p).length = N at hlen
    have hN' : N = p.length + 1 := by rw [← hN]; rfl
    have c1 : ((N : Int) == 0) = false := by simp; omega
    obtain ⟨s1', hsl, hfl, hr'⟩ := row_drop (sz := 0) hr Try.underlying25 sz3 (k := 1) (by simp) (by simp)
    have hsl : sliceA Try.prog 25 s1 (some (.int .i64 1)) none = some s1' := hsl
    have m1 := hr'.notLoc.1
    have hp1 := hr.notLoc.1
    repeat (first | (refine W_reg rfl fun G K hG hK => ?_; simp (disch := omega) only [go_sem, ↓reduceIte, Nat.reduceEqDiff, Nat.reduceAdd, Nat.reduceLeDiff, hG, q1, q2, q3, q4, m1, hp1, hlen, c1]; refine hK _ _ ?_; clear hK K hG G) | (refine W_end rfl fun G K hG hK => ?_; simp (disch := omega) only [go_sem, ↓reduceIte, Nat.reduceEqDiff, Nat.reduceAdd, Nat.reduceLeDiff, hG, q1, q2, q3, q4, m1, hp1, hlen, c1]; refine hK _ _ ?_; clear hK K hG G; repeat (first | refine thenI ?_ | refine thenE ?_ | refine thenR ?_ | refine inBI ?_ | refine inBR ?_ | refine inBS ?_ | refine inBN (by decide) ?_)) | refine W_seqS ?_ | refine W_seqC ?_ | refine W_seqB ?_ | refine W_block ?_ | (refine W_skip ?_; repeat (first | refine thenI ?_ | refine thenE ?_ | refine thenR ?_ | refine inBI ?_ | refine inBR ?_ | refine inBS ?_ | refine inBN (by decide) ?_)) | (refine W_condT ?hc ?_; (case hc => (simp (disch := omega) only [go_sem, ↓reduceIte, Nat.reduceEqDiff, Nat.reduceAdd, Nat.reduceLeDiff, q1, q2, q3, q4, m1, hp1, hlen, c1]; done))) | (refine W_condF ?hc ?_; (case hc => (simp (disch := omega) only [go_sem, ↓reduceIte, Nat.reduceEqDiff, Nat.reduceAdd, Nat.reduceLeDiff, q1, q2, q3, q4, m1, hp1, hlen, c1]; done))))
    (repeat (first | refine W_seqS ?_ | refine W_seqC ?_ | refine W_seqB ?_ | refine W_block ?_)); refine W_reg rfl fun G K hG hK => ?_; simp (disch := omega) only [go_sem, ↓reduceIte, Nat.reduceEqDiff, Nat.reduceAdd, Nat.reduceLeDiff, hG, q1, q2, q3, q4, m1, hp1]
    refine w_call (l3Copy_ok _ st _ hl hE) (by simp (disch := omega) only [go_sem, ↓reduceIte, Nat.reduceEqDiff, q1, q2, q3, q4, m1, hp1]) ?hl ?_
    case hl => first | rfl | (simp only [go_sem, List.all_cons, List.all_nil, Bool.not_false, Bool.and_self, q1, q2, q3, q4, m1, hp1]; done)
    rintro r_ sa ⟨x1, es, L, rfl, ho, hf⟩; refine ⟨fun e => (by cases e), ?_⟩
    obtain ⟨so, rfl, hso⟩ := ho.open
    have o1 := hso.okv
    have o2 := hso.loc
    have o3 := hso.cells
    simp (disch := omega) only [go_sem, ↓reduceIte, Nat.reduceEqDiff, Nat.reduceAdd, Nat.reduceLeDiff, hG, q1, q2, q3, q4, m1, hp1, o1, o2, o3]; refine hK _ _ ?_; clear hK K hG G; repeat (first | refine thenI ?_ | refine thenE ?_ | refine thenR ?_ | refine inBI ?_ | refine inBR ?_ | refine inBS ?_ | refine inBN (by decide) ?_)
    obtain ⟨b, o, c, rfl, hce⟩ := row_atI hr (j := 0) (x := i) rfl hN
    rw [Nat.zero_mul, Nat.add_zero] at hce
    have hce := cell_ext x1 hce
    simp only [T.args] at h1 h2 h3
    obtain ⟨b2, o2', c2, cs2, rfl, hcl, hE2, hcs⟩ := row_at hra h2
    have hly := hl.args.2 _ (List.mem_of_getElem? h2)
    have hab := hl.args.1
    obtain ⟨ky, ny, nmy, argsy, hye⟩ := T.eta (args.getD i.toNat T.zero)
    obtain ⟨sy, rfl, hry⟩ := (hye ▸ hE2).open
    have hld2 := fun loc => load_row (A := []) (loc := loc) ag29 sz29 hcl (hcs.ext x1)
    have hi0 : (0 ≤ (0 : Int) ∧ (0 : Int) < (N : Int)) = True := by simp; omega
    have hi1 : (0 ≤ i ∧ i < (args.length : Int)) = True := by simp; omega
    have y1 := hry.notLoc.1
    have hfr : ∀ (st2 : St) (x : T) (cx : List Value) (Lx : List Nat), Ext sa st2 → Own 29 st2 x cx Lx → Fresh sa.length Lx → _ := fun st2 x cx Lx hx2 hox hfx => Sl.set (α := T) (P := Try.prog) (v := .agg cx.toArray) sz29 hso hf x1.length hx2 hox hfx h1 (by simp [Value.cells]) rfl
    (repeat (first | refine W_seqS ?_ | refine W_seqC ?_ | refine W_seqB ?_ | refine W_block ?_)); refine W_regD mixed [] [(0,false),(1,false),(2,false),(3,false),(4,false),(5,false),(6,false),(7,false),(8,false),(9,false),(10,false),(11,false),(12,false),(13,false),(14,false),(15,true),(16,false),(17,false)] rfl (by decide +kernel) fun G K hG hK => ?_; simp only [pickOps, List.filterMap_cons, List.filterMap_nil, List.getElem?_cons_zero, List.getElem?_cons_succ, Option.map_some]; simp (disch := omega) only [go_sem, ↓reduceIte, Nat.reduceEqDiff, Nat.reduceAdd, Nat.reduceLeDiff, hG, q1, q2, q3, q4, m1, hp1, o1, o2, o3, w_slice, ev_slice, hfl, hsl, hld2, hce, hi0, hi1, idxA, Int.toNat_natCast, Int.toNat_zero, Nat.zero_mul, Bool.false_and, Option.map_none, y1]
    refine w_call (ih (args.getD i.toNat T.zero) sa _ s1' (by omega) h3 hly (Enc.ext x1 _ _ hE2) (Row.mono hr' x1 fun _ _ _ h => h) (Enc.ext x1 _ _ hU)) (by simp (disch := omega) only [go_sem, ↓reduceIte, Nat.reduceEqDiff, q1, q2, q3, q4, m1, hp1, o1, o2, o3, y1]) ?hl ?_
    case hl => first | rfl | (simp only [go_sem, List.all_cons, List.all_nil, Bool.not_false, Bool.and_self, q1, q2, q3, q4, m1, hp1, o1, o2, o3, y1]; done)
    rintro r_ sb ⟨x2, ex, Lx, rfl, hox, hfx⟩; refine ⟨fun e => x2, ?_⟩
    obtain ⟨b3, c3, sc, L3, hs3, hst, hsl3, hf3, hn3, hb3, hot⟩ := hfr sb _ _ _ x2 hox hfx
    subst hs3
    have hst : ∀ loc, storeA Try.prog 29 (.pointer (some ⟨b3, i.toNat * 4, none⟩)) (.agg ex.toArray) loc sb = some (loc, sc) := hst
    simp (disch := omega) only [go_sem, ↓reduceIte, Nat.reduceEqDiff, Nat.reduceAdd, Nat.reduceLeDiff, hG, q1, q2, q3, q4, m1, hp1, o1, o2, o3, hst, hi1, idxA, Int.toNat_natCast]; refine hK _ _ ?_; clear hK K hG G; repeat (first | refine thenI ?_ | refine thenE ?_ | refine thenR ?_ | refine inBI ?_ | refine inBR ?_ | refine inBS ?_ | refine inBN (by decide) ?_)
    repeat (first | (refine W_reg rfl fun G K hG hK => ?_; simp (disch := omega) only [go_sem, ↓reduceIte, Nat.reduceEqDiff, Nat.reduceAdd, Nat.reduceLeDiff, hG, q1, q2, q3, q4, m1, hp1, o1, o2, o3]; refine hK _ _ ?_; clear hK K hG G) | (refine W_end rfl fun G K hG hK => ?_; simp (disch := omega) only [go_sem, ↓reduceIte, Nat.reduceEqDiff, Nat.reduceAdd, Nat.reduceLeDiff, hG, q1, q2, q3, q4, m1, hp1, o1, o2, o3]; refine hK _ _ ?_; clear hK K hG G; repeat (first | refine thenI ?_ | refine thenE ?_ | refine thenR ?_ | refine inBI ?_ | refine inBR ?_ | refine inBS ?_ | refine inBN (by decide) ?_)) | refine W_seqS ?_ | refine W_seqC ?_ | refine W_seqB ?_ | refine W_block ?_ | (refine W_skip ?_; repeat (first | refine thenI ?_ | refine thenE ?_ | refine thenR ?_ | refine inBI ?_ | refine inBR ?_ | refine inBS ?_ | refine inBN (by decide) ?_)) | (refine W_condT ?hc ?_; (case hc => (simp (disch := omega) only [go_sem, ↓reduceIte, Nat.reduceEqDiff, Nat.reduceAdd, Nat.reduceLeDiff, q1, q2, q3, q4, m1, hp1, o1, o2, o3]; done))) | (refine W_condF ?hc ?_; (case hc => (simp (disch := omega) only [go_sem, ↓reduceIte, Nat.reduceEqDiff, Nat.reduceAdd, Nat.reduceLeDiff, q1, q2, q3, q4, m1, hp1, o1, o2, o3]; done))))
    have hfin : Own 29 sc (T.put (.mk k1 n1 nm1 args1) (i :: p) (.mk k n nm args)) [.int .i64 k, .int .i64 n, .string nm, .slice (some ⟨b3, 0, none⟩) args.length c3] L3 := Own.close k n nm hsl3
    refine W_ret ?_; try (repeat (first | refine thenI ?_ | refine thenE ?_ | refine thenR ?_ | refine inBI ?_ | refine inBR ?_ | refine inBS ?_ | refine inBN (by decide) ?_))
    refine finC (.inl rfl) (by (simp (disch := omega) only [go_sem, ↓reduceIte, Nat.reduceEqDiff, Nat.reduceAdd, Nat.reduceLeDiff, q1, q2, q3, q4, m1, hp1, o1, o2, o3]); try rfl) ⟨Ext.of_get fun q hq => ?_, _, L3, rfl, hfin, hf3⟩
    have := x1.length
    rw [hot q (by omega), x2.get (by omega), x1.get hq]

def T.rep (u : T) (p : List Int) (t : T) : T := if (T.at p t).isSome = true then T.put u p t else t
theorem Lim.rep {B : Nat} {u : T} (hu : Lim B u) {p : List Int} {t : T} (ht : Lim B t) : Lim B (T.rep u p t) := by
  unfold T.rep
  split
  · rename_i h; exact Lim.put hu p t ht h
  · exact ht
theorem T.rep_wt (u : T) (p : List Int) (t : T) : (T.rep u p t).wt ≤ t.wt + u.wt := by
  unfold T.rep
  split
  · rename_i h; exact T.put_wt u p t h
  · omega
theorem implRep_ok (u : T) (p : List Int) (t : T) (st : St) (cs ds : List Value) (s1 : Value) (hbig : p.length ≤ 1073741824) (hlu : Lim 1073741824 u) (hl : Lim 1073741824 t) (hE : Enc st t cs) (hp : Rw st p s1) (hU : Enc st u ds) :
    CallS Try.prog 8 [.agg cs.toArray, s1, .agg ds.toArray] st fun r st2 => Ext st st2 ∧ ∃ es L, r = .tuple #[.agg es.toArray, .bool (T.at p t).isSome] ∧ OwnT st2 (T.rep u p t) es L ∧ Fresh st.length L := by
  refine CallS_of_W [] 25 Try.func8 rfl rfl rfl rfl (by simp) ?_
  have hp1 := hp.notLoc.1
  have hat := implAt_ok p t st cs s1 (by omega) hE hp
  have hput := fun h => implPut_ok u ds p t st cs s1 hbig h hl hE hp hU
  have hlp := fun h => Lim.put hlu p t hl h
  generalize hT : t = t' at hE hat hput hlp
  obtain ⟨k, n, nm, args⟩ := t
  subst hT
  obtain ⟨s, rfl, hra⟩ := hE.open
  obtain ⟨k1, n1, nm1, args1, hue⟩ := T.eta u
  obtain ⟨s3, rfl, hr3⟩ := (hue ▸ hU).open
  have q1 := hra.notLoc.1
  have q2 := hra.notLoc.2
  have q3 := hr3.notLoc.1
  have q4 := hr3.notLoc.2
  have hla := Lim.atD p hl
  obtain ⟨ka, na, ma, aa, hae⟩ := T.eta (T.atD p (.mk k n nm args))
  repeat (first | (refine W_reg rfl fun G K hG hK => ?_; simp (disch := omega) only [go_sem, ↓reduceIte, Nat.reduceEqDiff, Nat.reduceAdd, Nat.reduceLeDiff, hG, q1, q2, q3, q4, hp1]; refine hK _ _ ?_; clear hK K hG G) | (refine W_end rfl fun G K hG hK => ?_; simp (disch := omega) only [go_sem, ↓reduceIte, Nat.reduceEqDiff, Nat.reduceAdd, Nat.reduceLeDiff, hG, q1, q2, q3, q4, hp1]; refine hK _ _ ?_; clear hK K hG G; repeat (first | refine thenI ?_ | refine thenE ?_ | refine thenR ?_ | refine inBI ?_ | refine inBR ?_ | refine inBS ?_ | refine inBN (by decide) ?_)) | refine W_seqS ?_ | refine W_seqC ?_ | refine W_seqB ?_ | refine W_block ?_ | (refine W_skip ?_; repeat (first | refine thenI ?_ | refine thenE ?_ | refine thenR ?_ | refine inBI ?_ | refine inBR ?_ | refine inBS ?_ | refine inBN (by decide) ?_)) | (refine W_condT ?hc ?_; (case hc => (simp (disch := omega) only [go_sem, ↓reduceIte, Nat.reduceEqDiff, Nat.reduceAdd, Nat.reduceLeDiff, q1, q2, q3, q4, hp1]; done))) | (refine W_condF ?hc ?_; (case hc => (simp (disch := omega) only [go_sem, ↓reduceIte, Nat.reduceEqDiff, Nat.reduceAdd, Nat.reduceLeDiff, q1, q2, q3, q4, hp1]; done))))
  (repeat (first | refine W_seqS ?_ | refine W_seqC ?_ | refine W_seqB ?_ | refine W_block ?_)); refine W_reg rfl fun G K hG hK => ?_; simp (disch := omega) only [go_sem, ↓reduceIte, Nat.reduceEqDiff, Nat.reduceAdd, Nat.reduceLeDiff, hG, q1, q2, q3, q4, hp1]
  refine w_call (hat) (by simp (disch := omega) only [go_sem, ↓reduceIte, Nat.reduceEqDiff, q1, q2, q3, q4, hp1]) ?hl ?_
  case hl => first | rfl | (simp only [go_sem, List.all_cons, List.all_nil, Bool.not_false, Bool.and_self, q1, q2, q3, q4, hp1]; done)
  rintro r_ s_ ⟨rfl, es, rfl, hE1⟩; refine ⟨fun e => (by cases e), ?_⟩
  rw [hae] at hE1
  obtain ⟨sa, rfl, hra1⟩ := hE1.open
  have w1 := hra1.notLoc.1
  have w2 := hra1.notLoc.2
  simp (disch := omega) only [go_sem, ↓reduceIte, Nat.reduceEqDiff, Nat.reduceAdd, Nat.reduceLeDiff, hG, q1, q2, q3, q4, hp1, w1, w2]; refine hK _ _ ?_; clear hK K hG G; repeat (first | refine thenI ?_ | refine thenE ?_ | refine thenR ?_ | refine inBI ?_ | refine inBR ?_ | refine inBS ?_ | refine inBN (by decide) ?_)
  cases hb : (T.at p (.mk k n nm args)).isSome with
  | false =>
    repeat (first | (refine W_reg rfl fun G K hG hK => ?_; simp (disch := omega) only [go_sem, ↓reduceIte, Nat.reduceEqDiff, Nat.reduceAdd, Nat.reduceLeDiff, hG, q1, q2, q3, q4, hp1, w1, w2]; refine hK _ _ ?_; clear hK K hG G) | (refine W_end rfl fun G K hG hK => ?_; simp (disch := omega) only [go_sem, ↓reduceIte, Nat.reduceEqDiff, Nat.reduceAdd, Nat.reduceLeDiff, hG, q1, q2, q3, q4, hp1, w1, w2]; refine hK _ _ ?_; clear hK K hG G; repeat (first | refine thenI ?_ | refine thenE ?_ | refine thenR ?_ | refine inBI ?_ | refine inBR ?_ | refine inBS ?_ | refine inBN (by decide) ?_)) | refine W_seqS ?_ | refine W_seqC ?_ | refine W_seqB ?_ | refine W_block ?_ | (refine W_skip ?_; repeat (first | refine thenI ?_ | refine thenE ?_ | refine thenR ?_ | refine inBI ?_ | refine inBR ?_ | refine inBS ?_ | refine inBN (by decide) ?_)) | (refine W_condT ?hc ?_; (case hc => (simp (disch := omega) only [go_sem, ↓reduceIte, Nat.reduceEqDiff, Nat.reduceAdd, Nat.reduceLeDiff, q1, q2, q3, q4, hp1, w1, w2]; done))) | (refine W_condF ?hc ?_; (case hc => (simp (disch := omega) only [go_sem, ↓reduceIte, Nat.reduceEqDiff, Nat.reduceAdd, Nat.reduceLeDiff, q1, q2, q3, q4, hp1, w1, w2]; done))))
    (repeat (first | refine W_seqS ?_ | refine W_seqC ?_ | refine W_seqB ?_ | refine W_block ?_)); refine W_reg rfl fun G K hG hK => ?_; simp (disch := omega) only [go_sem, ↓reduceIte, Nat.reduceEqDiff, Nat.reduceAdd, Nat.reduceLeDiff, hG, q1, q2, q3, q4, hp1]
    refine w_call (copy_ok _ _ _ hl hE) (by simp (disch := omega) only [go_sem, ↓reduceIte, Nat.reduceEqDiff, q1, q2, q3, q4, hp1]) ?hl ?_
    case hl => first | rfl | (simp only [go_sem, List.all_cons, List.all_nil, Bool.not_false, Bool.and_self, q1, q2, q3, q4, hp1]; done)
    rintro r_ sb ⟨x1, es, L, rfl, ho, hf⟩; refine ⟨fun e => (by cases e), ?_⟩
    obtain ⟨so, rfl, hso⟩ := ho.open
    simp (disch := omega) only [go_sem, ↓reduceIte, Nat.reduceEqDiff, Nat.reduceAdd, Nat.reduceLeDiff, hG, q1, q2, q3, q4, hp1]; refine hK _ _ ?_; clear hK K hG G; repeat (first | refine thenI ?_ | refine thenE ?_ | refine thenR ?_ | refine inBI ?_ | refine inBR ?_ | refine inBS ?_ | refine inBN (by decide) ?_)
    repeat (first | (refine W_reg rfl fun G K hG hK => ?_; simp (disch := omega) only [go_sem, ↓reduceIte, Nat.reduceEqDiff, Nat.reduceAdd, Nat.reduceLeDiff, hG, q1, q2, q3, q4, hp1]; refine hK _ _ ?_; clear hK K hG G) | (refine W_end rfl fun G K hG hK => ?_; simp (disch := omega) only [go_sem, ↓reduceIte, Nat.reduceEqDiff, Nat.reduceAdd, Nat.reduceLeDiff, hG, q1, q2, q3, q4, hp1]; refine hK _ _ ?_; clear hK K hG G; repeat (first | refine thenI ?_ | refine thenE ?_ | refine thenR ?_ | refine inBI ?_ | refine inBR ?_ | refine inBS ?_ | refine inBN (by decide) ?_)) | refine W_seqS ?_ | refine W_seqC ?_ | refine W_seqB ?_ | refine W_block ?_ | (refine W_skip ?_; repeat (first | refine thenI ?_ | refine thenE ?_ | refine thenR ?_ | refine inBI ?_ | refine inBR ?_ | refine inBS ?_ | refine inBN (by decide) ?_)) | (refine W_condT ?hc ?_; (case hc => (simp (disch := omega) only [go_sem, ↓reduceIte, Nat.reduceEqDiff, Nat.reduceAdd, Nat.reduceLeDiff, q1, q2, q3, q4, hp1]; done))) | (refine W_condF ?hc ?_; (case hc => (simp (disch := omega) only [go_sem, ↓reduceIte, Nat.reduceEqDiff, Nat.reduceAdd, Nat.reduceLeDiff, q1, q2, q3, q4, hp1]; done))))
    refine W_ret ?_; try (repeat (first | refine thenI ?_ | refine thenE ?_ | refine thenR ?_ | refine inBI ?_ | refine inBR ?_ | refine inBS ?_ | refine inBN (by decide) ?_))
    refine finC2 (.inl rfl) (by (simp (disch := omega) only [go_sem, ↓reduceIte, Nat.reduceEqDiff, Nat.reduceAdd, Nat.reduceLeDiff, q1, q2, q3, q4, hp1]); try rfl) (by (simp (disch := omega) only [go_sem, ↓reduceIte, Nat.reduceEqDiff, Nat.reduceAdd, Nat.reduceLeDiff, q1, q2, q3, q4, hp1]); try rfl) rfl ⟨x1, _, L, rfl, ?_, hf⟩
    unfold T.rep
    rw [hb]
    exact ho
  | true =>
    repeat (first | (refine W_reg rfl fun G K hG hK => ?_; simp (disch := omega) only [go_sem, ↓reduceIte, Nat.reduceEqDiff, Nat.reduceAdd, Nat.reduceLeDiff, hG, q1, q2, q3, q4, hp1, w1, w2]; refine hK _ _ ?_; clear hK K hG G) | (refine W_end rfl fun G K hG hK => ?_; simp (disch := omega) only [go_sem, ↓reduceIte, Nat.reduceEqDiff, Nat.reduceAdd, Nat.reduceLeDiff, hG, q1, q2, q3, q4, hp1, w1, w2]; refine hK _ _ ?_; clear hK K hG G; repeat (first | refine thenI ?_ | refine thenE ?_ | refine thenR ?_ | refine inBI ?_ | refine inBR ?_ | refine inBS ?_ | refine inBN (by decide) ?_)) | refine W_seqS ?_ | refine W_seqC ?_ | refine W_seqB ?_ | refine W_block ?_ | (refine W_skip ?_; repeat (first | refine thenI ?_ | refine thenE ?_ | refine thenR ?_ | refine inBI ?_ | refine inBR ?_ | refine inBS ?_ | refine inBN (by decide) ?_)) | (refine W_condT ?hc ?_; (case hc => (simp (disch := omega) only [go_sem, ↓reduceIte, Nat.reduceEqDiff, Nat.reduceAdd, Nat.reduceLeDiff, q1, q2, q3, q4, hp1, w1, w2]; done))) | (refine W_condF ?hc ?_; (case hc => (simp (disch := omega) only [go_sem, ↓reduceIte, Nat.reduceEqDiff, Nat.reduceAdd, Nat.reduceLeDiff, q1, q2, q3, q4, hp1, w1, w2]; done))))
    (repeat (first | refine W_seqS ?_ | refine W_seqC ?_ | refine W_seqB ?_ | refine W_block ?_)); refine W_reg rfl fun G K hG hK => ?_; simp (disch := omega) only [go_sem, ↓reduceIte, Nat.reduceEqDiff, Nat.reduceAdd, Nat.reduceLeDiff, hG, q1, q2, q3, q4, hp1]
    refine w_call (hput hb) (by simp (disch := omega) only [go_sem, ↓reduceIte, Nat.reduceEqDiff, q1, q2, q3, q4, hp1]) ?hl ?_
    case hl => first | rfl | (simp only [go_sem, List.all_cons, List.all_nil, Bool.not_false, Bool.and_self, q1, q2, q3, q4, hp1]; done)
    rintro r_ sb ⟨x1, es, rfl, hE2⟩; refine ⟨fun e => (by cases e), ?_⟩
    have hl2 := hlp hb
    have hrep : T.rep u p (.mk k n nm args) = T.put u p (.mk k n nm args) := by unfold T.rep; rw [if_pos hb]
    rw [← hrep] at hE2 hl2
    obtain ⟨kw, nw, mw, aw, hwe⟩ := T.eta (T.rep u p (.mk k n nm args))
    have hE3 := hE2
    rw [hwe] at hE3
    obtain ⟨sw, rfl, hrw⟩ := hE3.open
    have v1 := hrw.notLoc.1
    simp (disch := omega) only [go_sem, ↓reduceIte, Nat.reduceEqDiff, Nat.reduceAdd, Nat.reduceLeDiff, q1, q2, q3, q4, hp1]
    refine w_call (copy_ok _ _ _ hl2 hE2) (by simp (disch := omega) only [go_sem, ↓reduceIte, Nat.reduceEqDiff, q1, q2, q3, q4, hp1, v1]) ?hl ?_
    case hl => first | rfl | (simp only [go_sem, List.all_cons, List.all_nil, Bool.not_false, Bool.and_self, q1, q2, q3, q4, hp1, v1]; done)
    rintro r_ sc ⟨x2, es, L, rfl, ho, hf⟩; refine ⟨fun e => (by cases e), ?_⟩
    have ho2 := ho
    rw [hwe] at ho2
    obtain ⟨so, rfl, hso⟩ := ho2.open
    simp (disch := omega) only [go_sem, ↓reduceIte, Nat.reduceEqDiff, Nat.reduceAdd, Nat.reduceLeDiff, hG, q1, q2, q3, q4, hp1]; refine hK _ _ ?_; clear hK K hG G; repeat (first | refine thenI ?_ | refine thenE ?_ | refine thenR ?_ | refine inBI ?_ | refine inBR ?_ | refine inBS ?_ | refine inBN (by decide) ?_)
    repeat (first | (refine W_reg rfl fun G K hG hK => ?_; simp (disch := omega) only [go_sem, ↓reduceIte, Nat.reduceEqDiff, Nat.reduceAdd, Nat.reduceLeDiff, hG, q1, q2, q3, q4, hp1]; refine hK _ _ ?_; clear hK K hG G) | (refine W_end rfl fun G K hG hK => ?_; simp (disch := omega) only [go_sem, ↓reduceIte, Nat.reduceEqDiff, Nat.reduceAdd, Nat.reduceLeDiff, hG, q1, q2, q3, q4, hp1]; refine hK _ _ ?_; clear hK K hG G; repeat (first | refine thenI ?_ | refine thenE ?_ | refine thenR ?_ | refine inBI ?_ | refine inBR ?_ | refine inBS ?_ | refine inBN (by decide) ?_)) | refine W_seqS ?_ | refine W_seqC ?_ | refine W_seqB ?_ | refine W_block ?_ | (refine W_skip ?_; repeat (first | refine thenI ?_ | refine thenE ?_ | refine thenR ?_ | refine inBI ?_ | refine inBR ?_ | refine inBS ?_ | refine inBN (by decide) ?_)) | (refine W_condT ?hc ?_; (case hc => (simp (disch := omega) only [go_sem, ↓reduceIte, Nat.reduceEqDiff, Nat.reduceAdd, Nat.reduceLeDiff, q1, q2, q3, q4, hp1]; done))) | (refine W_condF ?hc ?_; (case hc => (simp (disch := omega) only [go_sem, ↓reduceIte, Nat.reduceEqDiff, Nat.reduceAdd, Nat.reduceLeDiff, q1, q2, q3, q4, hp1]; done))))
    refine W_ret ?_; try (repeat (first | refine thenI ?_ | refine thenE ?_ | refine thenR ?_ | refine inBI ?_ | refine inBR ?_ | refine inBS ?_ | refine inBN (by decide) ?_))
    refine finC2 (.inl rfl) (by (simp (disch := omega) only [go_sem, ↓reduceIte, Nat.reduceEqDiff, Nat.reduceAdd, Nat.reduceLeDiff, q1, q2, q3, q4, hp1]); try rfl) (by (simp (disch := omega) only [go_sem, ↓reduceIte, Nat.reduceEqDiff, Nat.reduceAdd, Nat.reduceLeDiff, q1, q2, q3, q4, hp1]); try rfl) rfl ⟨x1.trans x2, _, L, rfl, ho, hf.mono x1.length⟩

theorem specRep_ok (u : T) (p : List Int) (t : T) (st : St) (cs ds : List Value) (s1 : Value) (hbig : p.length ≤ 1073741824) (hlu : Lim 1073741824 u) (hl : Lim 1073741824 t) (hE : Enc st t cs) (hp : Rw st p s1) (hU : Enc st u ds) :
    CallS Try.prog 5 [.agg cs.toArray, s1, .agg ds.toArray] st fun r st2 => Ext st st2 ∧ ∃ es L, r = .tuple #[.agg es.toArray, .bool (T.at p t).isSome] ∧ OwnT st2 (T.rep u p t) es L ∧ Fresh st.length L := by
  refine CallS_of_W [] 24 Try.func5 rfl rfl rfl rfl (by simp) ?_
  have hp1 := hp.notLoc.1
  have hat := specTermAt_ok p t st cs s1 (by omega) hl hE hp
  have hput := fun (st2 : St) (hx : Ext st st2) h => specPut_ok u ds hlu p t st2 cs s1 hbig h hl (Enc.ext hx _ _ hE) (hp.mono hx fun _ _ _ h => h) (Enc.ext hx _ _ hU)
  generalize hT : t = t' at hE hat hput
  obtain ⟨k, n, nm, args⟩ := t
  subst hT
  obtain ⟨s, rfl, hra⟩ := hE.open
  obtain ⟨k1, n1, nm1, args1, hue⟩ := T.eta u
  obtain ⟨s3, rfl, hr3⟩ := (hue ▸ hU).open
  have q1 := hra.notLoc.1
  have q2 := hra.notLoc.2
  have q3 := hr3.notLoc.1
  have q4 := hr3.notLoc.2
  obtain ⟨ka, na, ma, aa, hae⟩ := T.eta (T.atD p (.mk k n nm args))
  repeat (first | (refine W_reg rfl fun G K hG hK => ?_; simp (disch := omega) only [go_sem, ↓reduceIte, Nat.reduceEqDiff, Nat.reduceAdd, Nat.reduceLeDiff, hG, q1, q2, q3, q4, hp1]; refine hK _ _ ?_; clear hK K hG G) | (refine W_end rfl fun G K hG hK => ?_; simp (disch := omega) only [go_sem, ↓reduceIte, Nat.reduceEqDiff, Nat.reduceAdd, Nat.reduceLeDiff, hG, q1, q2, q3, q4, hp1]; refine hK _ _ ?_; clear hK K hG G; repeat (first | refine thenI ?_ | refine thenE ?_ | refine thenR ?_ | refine inBI ?_ | refine inBR ?_ | refine inBS ?_ | refine inBN (by decide) ?_)) | refine W_seqS ?_ | refine W_seqC ?_ | refine W_seqB ?_ | refine W_block ?_ | (refine W_skip ?_; repeat (first | refine thenI ?_ | refine thenE ?_ | refine thenR ?_ | refine inBI ?_ | refine inBR ?_ | refine inBS ?_ | refine inBN (by decide) ?_)) | (refine W_condT ?hc ?_; (case hc => (simp (disch := omega) only [go_sem, ↓reduceIte, Nat.reduceEqDiff, Nat.reduceAdd, Nat.reduceLeDiff, q1, q2, q3, q4, hp1]; done))) | (refine W_condF ?hc ?_; (case hc => (simp (disch := omega) only [go_sem, ↓reduceIte, Nat.reduceEqDiff, Nat.reduceAdd, Nat.reduceLeDiff, q1, q2, q3, q4, hp1]; done))))
  (repeat (first | refine W_seqS ?_ | refine W_seqC ?_ | refine W_seqB ?_ | refine W_block ?_)); refine W_reg rfl fun G K hG hK => ?_; simp (disch := omega) only [go_sem, ↓reduceIte, Nat.reduceEqDiff, Nat.reduceAdd, Nat.reduceLeDiff, hG, q1, q2, q3, q4, hp1]
  refine w_call (hat) (by simp (disch := omega) only [go_sem, ↓reduceIte, Nat.reduceEqDiff, q1, q2, q3, q4, hp1]) ?hl ?_
  case hl => first | rfl | (simp only [go_sem, List.all_cons, List.all_nil, Bool.not_false, Bool.and_self, q1, q2, q3, q4, hp1]; done)
  rintro r_ sz ⟨x0, es, L0, rfl, hE1, hf1⟩; refine ⟨fun e => (by cases e), ?_⟩
  rw [hae] at hE1
  obtain ⟨sa, rfl, hra1⟩ := hE1.open
  have w1 := hra1.okv
  have w2 := hra1.loc
  have w3 := hra1.cells
  simp (disch := omega) only [go_sem, ↓reduceIte, Nat.reduceEqDiff, Nat.reduceAdd, Nat.reduceLeDiff, hG, q1, q2, q3, q4, hp1, w1, w2, w3]; refine hK _ _ ?_; clear hK K hG G; repeat (first | refine thenI ?_ | refine thenE ?_ | refine thenR ?_ | refine inBI ?_ | refine inBR ?_ | refine inBS ?_ | refine inBN (by decide) ?_)
  cases hb : (T.at p (.mk k n nm args)).isSome with
  | false =>
    repeat (first | (refine W_reg rfl fun G K hG hK => ?_; simp (disch := omega) only [go_sem, ↓reduceIte, Nat.reduceEqDiff, Nat.reduceAdd, Nat.reduceLeDiff, hG, q1, q2, q3, q4, hp1, w1, w2]; refine hK _ _ ?_; clear hK K hG G) | (refine W_end rfl fun G K hG hK => ?_; simp (disch := omega) only [go_sem, ↓reduceIte, Nat.reduceEqDiff, Nat.reduceAdd, Nat.reduceLeDiff, hG, q1, q2, q3, q4, hp1, w1, w2]; refine hK _ _ ?_; clear hK K hG G; repeat (first | refine thenI ?_ | refine thenE ?_ | refine thenR ?_ | refine inBI ?_ | refine inBR ?_ | refine inBS ?_ | refine inBN (by decide) ?_)) | refine W_seqS ?_ | refine W_seqC ?_ | refine W_seqB ?_ | refine W_block ?_ | (refine W_skip ?_; repeat (first | refine thenI ?_ | refine thenE ?_ | refine thenR ?_ | refine inBI ?_ | refine inBR ?_ | refine inBS ?_ | refine inBN (by decide) ?_)) | (refine W_condT ?hc ?_; (case hc => (simp (disch := omega) only [go_sem, ↓reduceIte, Nat.reduceEqDiff, Nat.reduceAdd, Nat.reduceLeDiff, q1, q2, q3, q4, hp1, w1, w2]; done))) | (refine W_condF ?hc ?_; (case hc => (simp (disch := omega) only [go_sem, ↓reduceIte, Nat.reduceEqDiff, Nat.reduceAdd, Nat.reduceLeDiff, q1, q2, q3, q4, hp1, w1, w2]; done))))
    (repeat (first | refine W_seqS ?_ | refine W_seqC ?_ | refine W_seqB ?_ | refine W_block ?_)); refine W_reg rfl fun G K hG hK => ?_; simp (disch := omega) only [go_sem, ↓reduceIte, Nat.reduceEqDiff, Nat.reduceAdd, Nat.reduceLeDiff, hG, q1, q2, q3, q4, hp1]
    refine w_call (l3Copy_ok _ _ _ hl (Enc.ext x0 _ _ hE)) (by simp (disch := omega) only [go_sem, ↓reduceIte, Nat.reduceEqDiff, q1, q2, q3, q4, hp1]) ?hl ?_
    case hl => first | rfl | (simp only [go_sem, List.all_cons, List.all_nil, Bool.not_false, Bool.and_self, q1, q2, q3, q4, hp1]; done)
    rintro r_ sb ⟨x1, es, L, rfl, ho, hf⟩; refine ⟨fun e => (by cases e), ?_⟩
    obtain ⟨so, rfl, hso⟩ := ho.open
    simp (disch := omega) only [go_sem, ↓reduceIte, Nat.reduceEqDiff, Nat.reduceAdd, Nat.reduceLeDiff, hG, q1, q2, q3, q4, hp1]; refine hK _ _ ?_; clear hK K hG G; repeat (first | refine thenI ?_ | refine thenE ?_ | refine thenR ?_ | refine inBI ?_ | refine inBR ?_ | refine inBS ?_ | refine inBN (by decide) ?_)
    repeat (first | (refine W_reg rfl fun G K hG hK => ?_; simp (disch := omega) only [go_sem, ↓reduceIte, Nat.reduceEqDiff, Nat.reduceAdd, Nat.reduceLeDiff, hG, q1, q2, q3, q4, hp1]; refine hK _ _ ?_; clear hK K hG G) | (refine W_end rfl fun G K hG hK => ?_; simp (disch := omega) only [go_sem, ↓reduceIte, Nat.reduceEqDiff, Nat.reduceAdd, Nat.reduceLeDiff, hG, q1, q2, q3, q4, hp1]; refine hK _ _ ?_; clear hK K hG G; repeat (first | refine thenI ?_ | refine thenE ?_ | refine thenR ?_ | refine inBI ?_ | refine inBR ?_ | refine inBS ?_ | refine inBN (by decide) ?_)) | refine W_seqS ?_ | refine W_seqC ?_ | refine W_seqB ?_ | refine W_block ?_ | (refine W_skip ?_; repeat (first | refine thenI ?_ | refine thenE ?_ | refine thenR ?_ | refine inBI ?_ | refine inBR ?_ | refine inBS ?_ | refine inBN (by decide) ?_)) | (refine W_condT ?hc ?_; (case hc => (simp (disch := omega) only [go_sem, ↓reduceIte, Nat.reduceEqDiff, Nat.reduceAdd, Nat.reduceLeDiff, q1, q2, q3, q4, hp1]; done))) | (refine W_condF ?hc ?_; (case hc => (simp (disch := omega) only [go_sem, ↓reduceIte, Nat.reduceEqDiff, Nat.reduceAdd, Nat.reduceLeDiff, q1, q2, q3, q4, hp1]; done))))
    refine W_ret ?_; try (repeat (first | refine thenI ?_ | refine thenE ?_ | refine thenR ?_ | refine inBI ?_ | refine inBR ?_ | refine inBS ?_ | refine inBN (by decide) ?_))
    refine finC2 (.inl rfl) (by (simp (disch := omega) only [go_sem, ↓reduceIte, Nat.reduceEqDiff, Nat.reduceAdd, Nat.reduceLeDiff, q1, q2, q3, q4, hp1]); try rfl) (by (simp (disch := omega) only [go_sem, ↓reduceIte, Nat.reduceEqDiff, Nat.reduceAdd, Nat.reduceLeDiff, q1, q2, q3, q4, hp1]); try rfl) rfl ⟨x0.trans x1, _, L, rfl, ?_, hf.mono x0.length⟩
    unfold T.rep
    rw [hb]
    exact ho
  | true =>
    repeat (first | (refine W_reg rfl fun G K hG hK => ?_; simp (disch := omega) only [go_sem, ↓reduceIte, Nat.reduceEqDiff, Nat.reduceAdd, Nat.reduceLeDiff, hG, q1, q2, q3, q4, hp1, w1, w2]; refine hK _ _ ?_; clear hK K hG G) | (refine W_end rfl fun G K hG hK => ?_; simp (disch := omega) only [go_sem, ↓reduceIte, Nat.reduceEqDiff, Nat.reduceAdd, Nat.reduceLeDiff, hG, q1, q2, q3, q4, hp1, w1, w2]; refine hK _ _ ?_; clear hK K hG G; repeat (first | refine thenI ?_ | refine thenE ?_ | refine thenR ?_ | refine inBI ?_ | refine inBR ?_ | refine inBS ?_ | refine inBN (by decide) ?_)) | refine W_seqS ?_ | refine W_seqC ?_ | refine W_seqB ?_ | refine W_block ?_ | (refine W_skip ?_; repeat (first | refine thenI ?_ | refine thenE ?_ | refine thenR ?_ | refine inBI ?_ | refine inBR ?_ | refine inBS ?_ | refine inBN (by decide) ?_)) | (refine W_condT ?hc ?_; (case hc => (simp (disch := omega) only [go_sem, ↓reduceIte, Nat.reduceEqDiff, Nat.reduceAdd, Nat.reduceLeDiff, q1, q2, q3, q4, hp1, w1, w2]; done))) | (refine W_condF ?hc ?_; (case hc => (simp (disch := omega) only [go_sem, ↓reduceIte, Nat.reduceEqDiff, Nat.reduceAdd, Nat.reduceLeDiff, q1, q2, q3, q4, hp1, w1, w2]; done))))
    (repeat (first | refine W_seqS ?_ | refine W_seqC ?_ | refine W_seqB ?_ | refine W_block ?_)); refine W_reg rfl fun G K hG hK => ?_; simp (disch := omega) only [go_sem, ↓reduceIte, Nat.reduceEqDiff, Nat.reduceAdd, Nat.reduceLeDiff, hG, q1, q2, q3, q4, hp1]
    refine w_call (hput sz x0 hb) (by simp (disch := omega) only [go_sem, ↓reduceIte, Nat.reduceEqDiff, q1, q2, q3, q4, hp1]) ?hl ?_
    case hl => first | rfl | (simp only [go_sem, List.all_cons, List.all_nil, Bool.not_false, Bool.and_self, q1, q2, q3, q4, hp1]; done)
    rintro r_ sb ⟨x1, es, L, rfl, ho, hf⟩; refine ⟨fun e => (by cases e), ?_⟩
    have hrep : T.rep u p (.mk k n nm args) = T.put u p (.mk k n nm args) := by unfold T.rep; rw [if_pos hb]
    rw [← hrep] at ho
    obtain ⟨kw, nw, mw, aw, hwe⟩ := T.eta (T.rep u p (.mk k n nm args))
    have ho2 := ho
    rw [hwe] at ho2
    obtain ⟨sw, rfl, hrw⟩ := ho2.open
    simp (disch := omega) only [go_sem, ↓reduceIte, Nat.reduceEqDiff, Nat.reduceAdd, Nat.reduceLeDiff, hG, q1, q2, q3, q4, hp1]; refine hK _ _ ?_; clear hK K hG G; repeat (first | refine thenI ?_ | refine thenE ?_ | refine thenR ?_ | refine inBI ?_ | refine inBR ?_ | refine inBS ?_ | refine inBN (by decide) ?_)
    repeat (first | (refine W_reg rfl fun G K hG hK => ?_; simp (disch := omega) only [go_sem, ↓reduceIte, Nat.reduceEqDiff, Nat.reduceAdd, Nat.reduceLeDiff, hG, q1, q2, q3, q4, hp1]; refine hK _ _ ?_; clear hK K hG G) | (refine W_end rfl fun G K hG hK => ?_; simp (disch := omega) only [go_sem, ↓reduceIte, Nat.reduceEqDiff, Nat.reduceAdd, Nat.reduceLeDiff, hG, q1, q2, q3, q4, hp1]; refine hK _ _ ?_; clear hK K hG G; repeat (first | refine thenI ?_ | refine thenE ?_ | refine thenR ?_ | refine inBI ?_ | refine inBR ?_ | refine inBS ?_ | refine inBN (by decide) ?_)) | refine W_seqS ?_ | refine W_seqC ?_ | refine W_seqB ?_ | refine W_block ?_ | (refine W_skip ?_; repeat (first | refine thenI ?_ | refine thenE ?_ | refine thenR ?_ | refine inBI ?_ | refine inBR ?_ | refine inBS ?_ | refine inBN (by decide) ?_)) | (refine W_condT ?hc ?_; (case hc => (simp (disch := omega) only [go_sem, ↓reduceIte, Nat.reduceEqDiff, Nat.reduceAdd, Nat.reduceLeDiff, q1, q2, q3, q4, hp1]; done))) | (refine W_condF ?hc ?_; (case hc => (simp (disch := omega) only [go_sem, ↓reduceIte, Nat.reduceEqDiff, Nat.reduceAdd, Nat.reduceLeDiff, q1, q2, q3, q4, hp1]; done))))
    refine W_ret ?_; try (repeat (first | refine thenI ?_ | refine thenE ?_ | refine thenR ?_ | refine inBI ?_ | refine inBR ?_ | refine inBS ?_ | refine inBN (by decide) ?_))
    refine finC2 (.inl rfl) (by (simp (disch := omega) only [go_sem, ↓reduceIte, Nat.reduceEqDiff, Nat.reduceAdd, Nat.reduceLeDiff, q1, q2, q3, q4, hp1]); try rfl) (by (simp (disch := omega) only [go_sem, ↓reduceIte, Nat.reduceEqDiff, Nat.reduceAdd, Nat.reduceLeDiff, q1, q2, q3, q4, hp1]); try rfl) rfl ⟨x0.trans x1, _, L, rfl, ho, hf.mono x0.length⟩
end Go.Proofs.Ytjdokceabfaklaa.AM
