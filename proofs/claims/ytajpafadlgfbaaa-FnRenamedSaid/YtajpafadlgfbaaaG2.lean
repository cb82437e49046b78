/- My texts for the law, laid together (part 2): C15 C16 C1 PL3 N1 PL4 C3 O3 Q1 K2 N2 C17 D5 E1. -/
import Derived.Test.YtajpafadlgfbaaaG1
import Derived.Laws.Strings
import Derived.Sort.Walk0
import Derived.Shelf.Sort.Plain
import Derived.Shelf.Slices.CompactS
import Derived.Test.YtajpafadlgfbaaaA3
import Derived.ChangeOld
import Derived.ChangeArms
import Derived.DataReads
/- Terms are compared: impl.EqualTerm, spec.EqualTerm. -/
namespace Go.Proofs.Ytajpafadlgfbaaa.AM
open Go Go.Proofs
set_option linter.unusedVariables false
set_option linter.unusedSimpArgs false
set_option maxRecDepth 100000
attribute [local go_sem] List.map_cons List.map_nil List.all_cons List.all_nil Bool.and_self Option.map_some List.getElem?_toArray Option.bind_some gye_b gye_t gsk_b gsk_t gb1 gb2 gb3 gb4 bne_self_eq_false beq_self_eq_true w_guard w_nil stepV_some step_some step_some' w_move w_assign w_pick w_binOp w_unOp w_load w_fieldAddr w_indexAddr w_len w_max w_index ev_max max_int ev_index w_box w_alloc w_store w_field w_extract w_nilCheck w_convert w_buildSlice w_build ev_buildL fillL_nil fillL_cons bs0 bs1 ev_conv ev_bin ev_un ev_pick ev_load ev_fieldAddr ev_indexAddr ev_len ev_field ev_extract ev_nilCheck fr_tmp fr_int fr_bool fr_str fr_nil fr_func put_some put_none bin_lss bin_leq bin_gtr bin_geq bin_eql bin_neq bin_add bin_sub bin_mul bin_seql bin_sneq un_not pick_ ext_ loadA_p cellAt_l cellAt_h okPtr_l okPtr_h fadA_p allocA_l storeA_l cells_agg cells_int cells_str cells_sl cells_bool flat_i flat_s flat_b flat_sl flat_nil loc_agg loc_int loc_str loc_sl loc_bool loc_fn loc_ptr okv_agg okv_int okv_str okv_sl okv_bool cellsFrom splice upd_eval argEnv_zero argEnv_succ ne_eq Nat.add_one_ne_zero not_false_eq_true List.not_mem_nil and_self decide_true List.getElem?_cons_zero List.getElem?_cons_succ List.size_toArray List.length_cons List.length_nil List.take_succ_cons List.take_zero List.drop_succ_cons List.drop_zero List.cons_append List.nil_append List.drop_nil Bool.not_true Bool.not_false Bool.false_eq_true Nat.zero_add Nat.add_zero wrap_in List.toList_toArray List.mem_cons or_self or_false false_or
attribute [local go_sem] ag22 ag24 ag26 ag3 ag47 ag5 ag9 bu26 bu47 bu49 by26 by47 el22 el24 el32 el42 el54 of26_0 of26_1 of26_2 of26_3 of47_0 of47_1 of49_0 of49_1 of49_2 ro26_0 ro26_1 ro26_2 ro3_3 ro47_0 ro47_1 ro9_2 ro9_3 ro9_4 sz22 sz24 sz26 sz3 sz47 sz5 sz9 ze26 ze47
-- AUTO

mutual
def T.eqv : T → T → Bool
  | .mk k n nm xs, .mk k' n' nm' bs => (k == k') && ((n == n') && ((nm.toList == nm'.toList) && T.eqvL xs bs))
def T.eqvL : List T → List T → Bool
  | [], [] => true
  | a :: xs, b :: bs => T.eqv a b && T.eqvL xs bs
  | _, _ => false
end
theorem T.eqvL_len : ∀ {xs bs : List T}, T.eqvL xs bs = true → xs.length = bs.length := by
  intro xs
  induction xs with
  | nil => intro bs h; cases bs with
    | nil => rfl
    | cons b bs => simp [T.eqvL] at h
  | cons a xs ih => intro bs h; cases bs with
    | nil => simp [T.eqvL] at h
    | cons b bs =>
      simp only [T.eqvL, Bool.and_eq_true] at h
      simp [ih h.2]
theorem ba_toList {a b : ByteArray} (h : (a.toList == b.toList) = true) : a = b := by
  have h1 : a.toList = b.toList := by simpa using h
  have h2 : a.data.toList = b.data.toList := by rw [← Go.ByteArray.toList_eq, ← Go.ByteArray.toList_eq]; exact h1
  exact ByteArray.ext (Array.toList_inj.1 h2)
theorem T.eqv_iff : ∀ (a b : T), T.eqv a b = true ↔ a = b := by
  refine T.ind fun k n nm xs ih b => ?_
  obtain ⟨k', n', nm', bs⟩ := b
  have hl : ∀ (l : List T), (∀ a ∈ l, ∀ b, T.eqv a b = true ↔ a = b) → ∀ m, T.eqvL l m = true ↔ l = m := by
    intro l
    induction l with
    | nil => intro _ m; cases m <;> simp [T.eqvL]
    | cons x xs ihx =>
      intro h m
      cases m with
      | nil => simp [T.eqvL]
      | cons y ys =>
        simp only [T.eqvL, Bool.and_eq_true, List.cons.injEq]
        rw [h x (by simp) y, ihx (fun a ha => h a (by simp [ha])) ys]
  simp only [T.eqv, Bool.and_eq_true, beq_iff_eq, T.mk.injEq]
  rw [hl xs ih bs]
  constructor
  · rintro ⟨h1, h2, h3, h4⟩
    exact ⟨h1, h2, ba_toList (by simpa using h3), h4⟩
  · rintro ⟨rfl, rfl, rfl, rfl⟩
    exact ⟨rfl, rfl, rfl, rfl⟩

/-- A call of a function that lies in a slot. -/
theorem w_callT {P : Program} {A H : List Tmp} {G : Nat → Option Tmp} {t0 : TypeId} {p0 : String} {af : Array Edge} {bb : Bool} {rest : List (Oper × Bool)} {K : Fr → St → Prop} {env : Nat → Value} {loc : Nat → Nat × List Value} {st : St}
    {d : Option Tmp} {f : Tmp} {g : FuncId} {args : Array Operand} {ts : Array TypeId} {Q : Value → St → Prop} {vs : List Value} (hf : env f = .func (.func g) #[] #[]) (hcall : CallS P g vs st Q) (hvs : args.toList.map (Fr.ev ⟨env, loc⟩) = vs) (hl : vs.all (fun v => !isLoc v) = true)
    (hq : ∀ r st', Q r st' → (bb = true → Ext st st') ∧ WOps P A H G rest K ⟨put env d r, loc⟩ st') : WOps P A H G ((⟨d, .call ⟨.value (.tmp f), args, ts⟩, t0, p0, af, none⟩, bb) :: rest) K ⟨env, loc⟩ st := by
  have hw : wantedA G env (⟨d, .call ⟨.value (.tmp f), args, ts⟩, t0, p0, af, none⟩ : Oper) = some true := rfl
  unfold WOps
  simp only [hw]
  show ∃ g, _
  refine ⟨g, hf, ?_, ?_⟩
  · rw [← hvs] at hl
    rw [List.all_map] at hl
    rw [← Array.all_toList]
    exact hl
  · rw [hvs]
    exact hcall.mono hq

theorem eqFunc_of (f : Nat) (xs bs : List T) (st : St) (s s' : Value) (ha : xs.length ≤ 1073741824) (hb : bs.length ≤ 1073741824) (hr : RowT st xs s) (hr' : RowT st bs s')
    (ih : ∀ x ∈ xs, ∀ y cs ds, y ∈ bs → Enc st x cs → Enc st y ds → CallS Try.prog f [.agg cs.toArray, .agg ds.toArray] st fun r st' => r = .bool (T.eqv x y) ∧ st' = st) :
    CallS Try.prog 36 [s, s', .func (.func f) #[] #[]] st fun r st' => r = .bool (T.eqvL xs bs) ∧ st' = st := by
  refine CallS_of_W [] 32 Try.func36 rfl rfl rfl rfl (by simp) ?_
  have hlen : lenE Try.prog 24 s = some (.int .i64 xs.length) := row_len hr Try.underlying24
  have hlen' : lenE Try.prog 24 s' = some (.int .i64 bs.length) := row_len hr' Try.underlying24
  have q1 := hr.notLoc.1
  have q2 := hr'.notLoc.1
  by_cases hab : xs.length = bs.length
  case neg =>
    have c0 : ((xs.length : Int) != (bs.length : Int)) = true := by simp; omega
    repeat (first | (refine W_reg rfl fun G K hG hK => ?_; simp (disch := omega) only [go_sem, ↓reduceIte, Nat.reduceEqDiff, Nat.reduceAdd, Nat.reduceLeDiff, hG, hlen, hlen', c0]; refine hK _ _ ?_; clear hK K hG G) | (refine W_end rfl fun G K hG hK => ?_; simp (disch := omega) only [go_sem, ↓reduceIte, Nat.reduceEqDiff, Nat.reduceAdd, Nat.reduceLeDiff, hG, hlen, hlen', c0]; refine hK _ _ ?_; clear hK K hG G; repeat (first | refine thenI ?_ | refine thenE ?_ | refine thenR ?_ | refine inBI ?_ | refine inBR ?_ | refine inBS ?_ | refine inBN (by decide) ?_)) | refine W_seqS ?_ | refine W_seqC ?_ | refine W_seqB ?_ | refine W_block ?_ | (refine W_skip ?_; repeat (first | refine thenI ?_ | refine thenE ?_ | refine thenR ?_ | refine inBI ?_ | refine inBR ?_ | refine inBS ?_ | refine inBN (by decide) ?_)) | (refine W_condT ?hc ?_; (case hc => (simp (disch := omega) only [go_sem, ↓reduceIte, Nat.reduceEqDiff, Nat.reduceAdd, Nat.reduceLeDiff, hlen, hlen', c0]; done))) | (refine W_condF ?hc ?_; (case hc => (simp (disch := omega) only [go_sem, ↓reduceIte, Nat.reduceEqDiff, Nat.reduceAdd, Nat.reduceLeDiff, hlen, hlen', c0]; done))))
    refine W_ret ?_; try (repeat (first | refine thenI ?_ | refine thenE ?_ | refine thenR ?_ | refine inBI ?_ | refine inBR ?_ | refine inBS ?_ | refine inBN (by decide) ?_))
    refine fin1 (.inl rfl) (by (simp (disch := omega) only [go_sem, ↓reduceIte, Nat.reduceEqDiff, Nat.reduceAdd, Nat.reduceLeDiff]); try rfl) rfl ⟨?_, rfl⟩
    cases hq : T.eqvL xs bs with
    | false => rfl
    | true => exact absurd (T.eqvL_len hq) hab
  have c0 : ((xs.length : Int) != (bs.length : Int)) = false := by simp; omega
  repeat (first | (refine W_reg rfl fun G K hG hK => ?_; simp (disch := omega) only [go_sem, ↓reduceIte, Nat.reduceEqDiff, Nat.reduceAdd, Nat.reduceLeDiff, hG, hlen, hlen', c0]; refine hK _ _ ?_; clear hK K hG G) | (refine W_end rfl fun G K hG hK => ?_; simp (disch := omega) only [go_sem, ↓reduceIte, Nat.reduceEqDiff, Nat.reduceAdd, Nat.reduceLeDiff, hG, hlen, hlen', c0]; refine hK _ _ ?_; clear hK K hG G; repeat (first | refine thenI ?_ | refine thenE ?_ | refine thenR ?_ | refine inBI ?_ | refine inBR ?_ | refine inBS ?_ | refine inBN (by decide) ?_)) | refine W_seqS ?_ | refine W_seqC ?_ | refine W_seqB ?_ | refine W_block ?_ | (refine W_skip ?_; repeat (first | refine thenI ?_ | refine thenE ?_ | refine thenR ?_ | refine inBI ?_ | refine inBR ?_ | refine inBS ?_ | refine inBN (by decide) ?_)) | (refine W_condT ?hc ?_; (case hc => (simp (disch := omega) only [go_sem, ↓reduceIte, Nat.reduceEqDiff, Nat.reduceAdd, Nat.reduceLeDiff, hlen, hlen', c0]; done))) | (refine W_condF ?hc ?_; (case hc => (simp (disch := omega) only [go_sem, ↓reduceIte, Nat.reduceEqDiff, Nat.reduceAdd, Nat.reduceLeDiff, hlen, hlen', c0]; done))))
  refine W_loop (fun d fr st' => ∃ (j : Nat) , d = xs.length - j ∧ j ≤ xs.length ∧ (st' = st) ∧ (T.eqvL (xs.drop j) (bs.drop j) = T.eqvL xs bs) ∧ (fr.env 1 = s') ∧ (fr.env 2 = .func (.func f) #[] #[]) ∧ (fr.env 15 = s) ∧ (fr.env 16 = .int .i64 xs.length) ∧ (fr.env 17 = .int .i64 j)) (xs.length) ?_ ?_
  · exact ⟨0, by omega, by omega, rfl, by simp, (by (simp (disch := omega) only [go_sem, ↓reduceIte, Nat.reduceEqDiff, Nat.reduceAdd, Nat.reduceLeDiff]); try rfl), (by (simp (disch := omega) only [go_sem, ↓reduceIte, Nat.reduceEqDiff, Nat.reduceAdd, Nat.reduceLeDiff]); try rfl), (by (simp (disch := omega) only [go_sem, ↓reduceIte, Nat.reduceEqDiff, Nat.reduceAdd, Nat.reduceLeDiff]); try rfl), (by (simp (disch := omega) only [go_sem, ↓reduceIte, Nat.reduceEqDiff, Nat.reduceAdd, Nat.reduceLeDiff]); try rfl), (by (simp (disch := omega) only [go_sem, ↓reduceIte, Nat.reduceEqDiff, Nat.reduceAdd, Nat.reduceLeDiff]); try rfl)⟩
  rintro d ⟨env, loc⟩ st' ⟨j, hd, hj, hst, heq, e1, e2, e15, e16, e17⟩
  simp only at e1 e2 e15 e16 e17
  subst hst
  by_cases hlt : j < xs.length
  · have c1 : decide ((j : Int) < (xs.length : Int)) = true := by simpa using hlt
    have hi := idxOk hlt
    have hx : xs[j]? = some xs[j] := List.getElem?_eq_getElem hlt
    have htk : xs.take (j + 1) = xs.take j ++ [xs[j]] := List.take_succ_eq_append_getElem hlt
    have hlt' : j < bs.length := by omega
    have hx' : bs[j]? = some bs[j] := List.getElem?_eq_getElem hlt'
    have hi' := idxOk hlt'
    obtain ⟨i, o, c, cs, rfl, hcl, hE, hcs⟩ := row_at hr hx
    obtain ⟨i2, o2, c2, ds, rfl, hdl, hE', hds⟩ := row_at hr' hx'
    obtain ⟨v0, v1, v2, v3, rfl⟩ : ∃ v0 v1 v2 v3, cs = [v0, v1, v2, v3] := by
      match cs, hcl with
      | [v0, v1, v2, v3], _ => exact ⟨v0, v1, v2, v3, rfl⟩
    obtain ⟨u0, u1, u2, u3, rfl⟩ : ∃ v0 v1 v2 v3, ds = [v0, v1, v2, v3] := by
      match ds, hdl with
      | [v0, v1, v2, v3], _ => exact ⟨v0, v1, v2, v3, rfl⟩
    have hld := fun loc => load_row (A := []) (loc := loc) ag26 sz26 hcl hcs
    have hld' := fun loc => load_row (A := []) (loc := loc) ag26 sz26 hdl hds
    rw [List.drop_eq_getElem_cons hlt, List.drop_eq_getElem_cons hlt'] at heq
    simp only [T.eqvL] at heq
    repeat (first | (refine W_reg rfl fun G K hG hK => ?_; simp (disch := omega) only [go_sem, ↓reduceIte, Nat.reduceEqDiff, Nat.reduceAdd, Nat.reduceLeDiff, hG, e1, e2, e15, e16, e17, c1, hi, idxA, Int.toNat_natCast, hld, hld', hi']; refine hK _ _ ?_; clear hK K hG G) | (refine W_end rfl fun G K hG hK => ?_; simp (disch := omega) only [go_sem, ↓reduceIte, Nat.reduceEqDiff, Nat.reduceAdd, Nat.reduceLeDiff, hG, e1, e2, e15, e16, e17, c1, hi, idxA, Int.toNat_natCast, hld, hld', hi']; refine hK _ _ ?_; clear hK K hG G; repeat (first | refine thenI ?_ | refine thenE ?_ | refine thenR ?_ | refine inBI ?_ | refine inBR ?_ | refine inBS ?_ | refine inBN (by decide) ?_)) | refine W_seqS ?_ | refine W_seqC ?_ | refine W_seqB ?_ | refine W_block ?_ | (refine W_skip ?_; repeat (first | refine thenI ?_ | refine thenE ?_ | refine thenR ?_ | refine inBI ?_ | refine inBR ?_ | refine inBS ?_ | refine inBN (by decide) ?_)) | (refine W_condT ?hc ?_; (case hc => (simp (disch := omega) only [go_sem, ↓reduceIte, Nat.reduceEqDiff, Nat.reduceAdd, Nat.reduceLeDiff, e1, e2, e15, e16, e17, c1, hi, idxA, Int.toNat_natCast, hld, hld', hi']; done))) | (refine W_condF ?hc ?_; (case hc => (simp (disch := omega) only [go_sem, ↓reduceIte, Nat.reduceEqDiff, Nat.reduceAdd, Nat.reduceLeDiff, e1, e2, e15, e16, e17, c1, hi, idxA, Int.toNat_natCast, hld, hld', hi']; done))))
    (repeat (first | refine W_seqS ?_ | refine W_seqC ?_ | refine W_seqB ?_ | refine W_block ?_)); refine W_reg rfl fun G K hG hK => ?_; simp (disch := omega) only [go_sem, ↓reduceIte, Nat.reduceEqDiff, Nat.reduceAdd, Nat.reduceLeDiff, hG, e1, e2, e15, e16, e17, c1, hi, idxA, Int.toNat_natCast]
    refine w_callT (g := f) (by simp (disch := omega) only [go_sem, ↓reduceIte, Nat.reduceEqDiff, Nat.reduceAdd, Nat.reduceLeDiff, e1, e2, e15, e16, e17, c1, hi, idxA, Int.toNat_natCast]) (ih xs[j] (List.getElem_mem hlt) bs[j] _ _ (List.getElem_mem hlt') hE hE') (by simp (disch := omega) only [go_sem, ↓reduceIte, Nat.reduceEqDiff, Nat.reduceAdd, Nat.reduceLeDiff, e1, e2, e15, e16, e17, c1, hi, idxA, Int.toNat_natCast]) rfl ?_
    rintro r_ s_ ⟨rfl, rfl⟩; refine ⟨fun e => (by cases e), ?_⟩
    cases hq : T.eqv xs[j] bs[j] with
    | false =>
      simp (disch := omega) only [go_sem, ↓reduceIte, Nat.reduceEqDiff, Nat.reduceAdd, Nat.reduceLeDiff, hG, e1, e2, e15, e16, e17, c1, hi, idxA, Int.toNat_natCast]; refine hK _ _ ?_; clear hK K hG G; repeat (first | refine thenI ?_ | refine thenE ?_ | refine thenR ?_ | refine inBI ?_ | refine inBR ?_ | refine inBS ?_ | refine inBN (by decide) ?_)
      repeat (first | (refine W_reg rfl fun G K hG hK => ?_; simp (disch := omega) only [go_sem, ↓reduceIte, Nat.reduceEqDiff, Nat.reduceAdd, Nat.reduceLeDiff, hG, e1, e2, e15, e16, e17, c1, hi, idxA, Int.toNat_natCast]; refine hK _ _ ?_; clear hK K hG G) | (refine W_end rfl fun G K hG hK => ?_; simp (disch := omega) only [go_sem, ↓reduceIte, Nat.reduceEqDiff, Nat.reduceAdd, Nat.reduceLeDiff, hG, e1, e2, e15, e16, e17, c1, hi, idxA, Int.toNat_natCast]; refine hK _ _ ?_; clear hK K hG G; repeat (first | refine thenI ?_ | refine thenE ?_ | refine thenR ?_ | refine inBI ?_ | refine inBR ?_ | refine inBS ?_ | refine inBN (by decide) ?_)) | refine W_seqS ?_ | refine W_seqC ?_ | refine W_seqB ?_ | refine W_block ?_ | (refine W_skip ?_; repeat (first | refine thenI ?_ | refine thenE ?_ | refine thenR ?_ | refine inBI ?_ | refine inBR ?_ | refine inBS ?_ | refine inBN (by decide) ?_)) | (refine W_condT ?hc ?_; (case hc => (simp (disch := omega) only [go_sem, ↓reduceIte, Nat.reduceEqDiff, Nat.reduceAdd, Nat.reduceLeDiff, e1, e2, e15, e16, e17, c1, hi, idxA, Int.toNat_natCast]; done))) | (refine W_condF ?hc ?_; (case hc => (simp (disch := omega) only [go_sem, ↓reduceIte, Nat.reduceEqDiff, Nat.reduceAdd, Nat.reduceLeDiff, e1, e2, e15, e16, e17, c1, hi, idxA, Int.toNat_natCast]; done))))
      rw [hq] at heq
      refine W_ret ?_; try (repeat (first | refine thenI ?_ | refine thenE ?_ | refine thenR ?_ | refine inBI ?_ | refine inBR ?_ | refine inBS ?_ | refine inBN (by decide) ?_))
      refine fin1 (.inl rfl) (by (simp (disch := omega) only [go_sem, ↓reduceIte, Nat.reduceEqDiff, Nat.reduceAdd, Nat.reduceLeDiff, e1, e2, e15, e16, e17, c1, hi, idxA, Int.toNat_natCast]); try rfl) rfl ⟨by rw [← heq]; rfl, rfl⟩
    | true =>
      simp (disch := omega) only [go_sem, ↓reduceIte, Nat.reduceEqDiff, Nat.reduceAdd, Nat.reduceLeDiff, hG, e1, e2, e15, e16, e17, c1, hi, idxA, Int.toNat_natCast]; refine hK _ _ ?_; clear hK K hG G; repeat (first | refine thenI ?_ | refine thenE ?_ | refine thenR ?_ | refine inBI ?_ | refine inBR ?_ | refine inBS ?_ | refine inBN (by decide) ?_)
      repeat (first | (refine W_reg rfl fun G K hG hK => ?_; simp (disch := omega) only [go_sem, ↓reduceIte, Nat.reduceEqDiff, Nat.reduceAdd, Nat.reduceLeDiff, hG, e1, e2, e15, e16, e17, c1, hi, idxA, Int.toNat_natCast]; refine hK _ _ ?_; clear hK K hG G) | (refine W_end rfl fun G K hG hK => ?_; simp (disch := omega) only [go_sem, ↓reduceIte, Nat.reduceEqDiff, Nat.reduceAdd, Nat.reduceLeDiff, hG, e1, e2, e15, e16, e17, c1, hi, idxA, Int.toNat_natCast]; refine hK _ _ ?_; clear hK K hG G; repeat (first | refine thenI ?_ | refine thenE ?_ | refine thenR ?_ | refine inBI ?_ | refine inBR ?_ | refine inBS ?_ | refine inBN (by decide) ?_)) | refine W_seqS ?_ | refine W_seqC ?_ | refine W_seqB ?_ | refine W_block ?_ | (refine W_skip ?_; repeat (first | refine thenI ?_ | refine thenE ?_ | refine thenR ?_ | refine inBI ?_ | refine inBR ?_ | refine inBS ?_ | refine inBN (by decide) ?_)) | (refine W_condT ?hc ?_; (case hc => (simp (disch := omega) only [go_sem, ↓reduceIte, Nat.reduceEqDiff, Nat.reduceAdd, Nat.reduceLeDiff, e1, e2, e15, e16, e17, c1, hi, idxA, Int.toNat_natCast]; done))) | (refine W_condF ?hc ?_; (case hc => (simp (disch := omega) only [go_sem, ↓reduceIte, Nat.reduceEqDiff, Nat.reduceAdd, Nat.reduceLeDiff, e1, e2, e15, e16, e17, c1, hi, idxA, Int.toNat_natCast]; done))))
      rw [hq, Bool.true_and] at heq
      refine ⟨xs.length - (j + 1), by omega, j + 1, rfl, by omega, rfl, heq, (by (simp (disch := omega) only [go_sem, ↓reduceIte, Nat.reduceEqDiff, Nat.reduceAdd, Nat.reduceLeDiff, e1, e2, e15, e16, e17, c1, hi, idxA, Int.toNat_natCast]); try rfl), (by (simp (disch := omega) only [go_sem, ↓reduceIte, Nat.reduceEqDiff, Nat.reduceAdd, Nat.reduceLeDiff, e1, e2, e15, e16, e17, c1, hi, idxA, Int.toNat_natCast]); try rfl), (by (simp (disch := omega) only [go_sem, ↓reduceIte, Nat.reduceEqDiff, Nat.reduceAdd, Nat.reduceLeDiff, e1, e2, e15, e16, e17, c1, hi, idxA, Int.toNat_natCast]); try rfl), (by (simp (disch := omega) only [go_sem, ↓reduceIte, Nat.reduceEqDiff, Nat.reduceAdd, Nat.reduceLeDiff, e1, e2, e15, e16, e17, c1, hi, idxA, Int.toNat_natCast]); try rfl), (by (simp (disch := omega) only [go_sem, ↓reduceIte, Nat.reduceEqDiff, Nat.reduceAdd, Nat.reduceLeDiff, e1, e2, e15, e16, e17, c1, hi, idxA, Int.toNat_natCast]); try rfl)⟩
  · have c1 : decide ((j : Int) < (xs.length : Int)) = false := by simpa using hlt
    have hjn : j = xs.length := by omega
    subst hjn
    rw [List.drop_length, List.drop_eq_nil_of_le (by omega)] at heq
    repeat (first | (refine W_reg rfl fun G K hG hK => ?_; simp (disch := omega) only [go_sem, ↓reduceIte, Nat.reduceEqDiff, Nat.reduceAdd, Nat.reduceLeDiff, hG, e1, e2, e15, e16, e17, c1]; refine hK _ _ ?_; clear hK K hG G) | (refine W_end rfl fun G K hG hK => ?_; simp (disch := omega) only [go_sem, ↓reduceIte, Nat.reduceEqDiff, Nat.reduceAdd, Nat.reduceLeDiff, hG, e1, e2, e15, e16, e17, c1]; refine hK _ _ ?_; clear hK K hG G; repeat (first | refine thenI ?_ | refine thenE ?_ | refine thenR ?_ | refine inBI ?_ | refine inBR ?_ | refine inBS ?_ | refine inBN (by decide) ?_)) | refine W_seqS ?_ | refine W_seqC ?_ | refine W_seqB ?_ | refine W_block ?_ | (refine W_skip ?_; repeat (first | refine thenI ?_ | refine thenE ?_ | refine thenR ?_ | refine inBI ?_ | refine inBR ?_ | refine inBS ?_ | refine inBN (by decide) ?_)) | (refine W_condT ?hc ?_; (case hc => (simp (disch := omega) only [go_sem, ↓reduceIte, Nat.reduceEqDiff, Nat.reduceAdd, Nat.reduceLeDiff, e1, e2, e15, e16, e17, c1]; done))) | (refine W_condF ?hc ?_; (case hc => (simp (disch := omega) only [go_sem, ↓reduceIte, Nat.reduceEqDiff, Nat.reduceAdd, Nat.reduceLeDiff, e1, e2, e15, e16, e17, c1]; done))))
    refine W_exit ?_; repeat (first | refine thenI ?_ | refine thenE ?_ | refine thenR ?_ | refine inBI ?_ | refine inBR ?_ | refine inBS ?_ | refine inBN (by decide) ?_)
    repeat (first | (refine W_reg rfl fun G K hG hK => ?_; simp (disch := omega) only [go_sem, ↓reduceIte, Nat.reduceEqDiff, Nat.reduceAdd, Nat.reduceLeDiff, hG, e1, e2, e15, e16, e17, c1]; refine hK _ _ ?_; clear hK K hG G) | (refine W_end rfl fun G K hG hK => ?_; simp (disch := omega) only [go_sem, ↓reduceIte, Nat.reduceEqDiff, Nat.reduceAdd, Nat.reduceLeDiff, hG, e1, e2, e15, e16, e17, c1]; refine hK _ _ ?_; clear hK K hG G; repeat (first | refine thenI ?_ | refine thenE ?_ | refine thenR ?_ | refine inBI ?_ | refine inBR ?_ | refine inBS ?_ | refine inBN (by decide) ?_)) | refine W_seqS ?_ | refine W_seqC ?_ | refine W_seqB ?_ | refine W_block ?_ | (refine W_skip ?_; repeat (first | refine thenI ?_ | refine thenE ?_ | refine thenR ?_ | refine inBI ?_ | refine inBR ?_ | refine inBS ?_ | refine inBN (by decide) ?_)) | (refine W_condT ?hc ?_; (case hc => (simp (disch := omega) only [go_sem, ↓reduceIte, Nat.reduceEqDiff, Nat.reduceAdd, Nat.reduceLeDiff, e1, e2, e15, e16, e17, c1]; done))) | (refine W_condF ?hc ?_; (case hc => (simp (disch := omega) only [go_sem, ↓reduceIte, Nat.reduceEqDiff, Nat.reduceAdd, Nat.reduceLeDiff, e1, e2, e15, e16, e17, c1]; done))))
    refine W_ret ?_; try (repeat (first | refine thenI ?_ | refine thenE ?_ | refine thenR ?_ | refine inBI ?_ | refine inBR ?_ | refine inBS ?_ | refine inBN (by decide) ?_))
    refine fin1 (.inl rfl) (by (simp (disch := omega) only [go_sem, ↓reduceIte, Nat.reduceEqDiff, Nat.reduceAdd, Nat.reduceLeDiff, e1, e2, e15, e16, e17, c1]); try rfl) rfl ⟨by rw [← heq]; rfl, rfl⟩

theorem implEq_ok : ∀ (a b : T) (st : St) (cs ds : List Value), Lim 1073741824 a → Lim 1073741824 b → Enc st a cs → Enc st b ds →
    CallS Try.prog 35 [.agg cs.toArray, .agg ds.toArray] st fun r st' => r = .bool (T.eqv a b) ∧ st' = st := by
  refine T.ind fun k n nm xs ih b st cs ds hl hl' h h' => ?_
  obtain ⟨k', n', nm', bs⟩ := b
  obtain ⟨s, rfl, hr⟩ := h.open
  obtain ⟨s', rfl, hr'⟩ := h'.open
  have hf := eqFunc_of 35 xs bs st s s' hl.args.1 hl'.args.1 hr hr' fun x hx y cs ds hy he he' => ih x hx y st cs ds (hl.args.2 x hx) (hl'.args.2 y hy) he he'
  refine CallS_of_W [] 31 Try.func35 rfl rfl rfl rfl (by simp) ?_
  have q1 := hr.notLoc.1
  have q2 := hr.notLoc.2
  have q3 := hr'.notLoc.1
  have q4 := hr'.notLoc.2
  cases c1 : (k == k') with
  | false =>
    repeat (first | (refine W_reg rfl fun G K hG hK => ?_; simp (disch := omega) only [go_sem, ↓reduceIte, Nat.reduceEqDiff, Nat.reduceAdd, Nat.reduceLeDiff, hG, q1, q2, q3, q4, c1]; refine hK _ _ ?_; clear hK K hG G) | (refine W_end rfl fun G K hG hK => ?_; simp (disch := omega) only [go_sem, ↓reduceIte, Nat.reduceEqDiff, Nat.reduceAdd, Nat.reduceLeDiff, hG, q1, q2, q3, q4, c1]; refine hK _ _ ?_; clear hK K hG G; repeat (first | refine thenI ?_ | refine thenE ?_ | refine thenR ?_ | refine inBI ?_ | refine inBR ?_ | refine inBS ?_ | refine inBN (by decide) ?_)) | refine W_seqS ?_ | refine W_seqC ?_ | refine W_seqB ?_ | refine W_block ?_ | (refine W_skip ?_; repeat (first | refine thenI ?_ | refine thenE ?_ | refine thenR ?_ | refine inBI ?_ | refine inBR ?_ | refine inBS ?_ | refine inBN (by decide) ?_)) | (refine W_condT ?hc ?_; (case hc => (simp (disch := omega) only [go_sem, ↓reduceIte, Nat.reduceEqDiff, Nat.reduceAdd, Nat.reduceLeDiff, q1, q2, q3, q4, c1]; done))) | (refine W_condF ?hc ?_; (case hc => (simp (disch := omega) only [go_sem, ↓reduceIte, Nat.reduceEqDiff, Nat.reduceAdd, Nat.reduceLeDiff, q1, q2, q3, q4, c1]; done))))
    refine W_ret ?_; try (repeat (first | refine thenI ?_ | refine thenE ?_ | refine thenR ?_ | refine inBI ?_ | refine inBR ?_ | refine inBS ?_ | refine inBN (by decide) ?_))
    refine fin1 (.inl rfl) (by (simp (disch := omega) only [go_sem, ↓reduceIte, Nat.reduceEqDiff, Nat.reduceAdd, Nat.reduceLeDiff, q1, q2, q3, q4]); try rfl) rfl ⟨by simp only [T.eqv, c1, Bool.false_and], rfl⟩
  | true =>
    cases c2 : (n == n') with
    | false =>
      repeat (first | (refine W_reg rfl fun G K hG hK => ?_; simp (disch := omega) only [go_sem, ↓reduceIte, Nat.reduceEqDiff, Nat.reduceAdd, Nat.reduceLeDiff, hG, q1, q2, q3, q4, c1, c2]; refine hK _ _ ?_; clear hK K hG G) | (refine W_end rfl fun G K hG hK => ?_; simp (disch := omega) only [go_sem, ↓reduceIte, Nat.reduceEqDiff, Nat.reduceAdd, Nat.reduceLeDiff, hG, q1, q2, q3, q4, c1, c2]; refine hK _ _ ?_; clear hK K hG G; repeat (first | refine thenI ?_ | refine thenE ?_ | refine thenR ?_ | refine inBI ?_ | refine inBR ?_ | refine inBS ?_ | refine inBN (by decide) ?_)) | refine W_seqS ?_ | refine W_seqC ?_ | refine W_seqB ?_ | refine W_block ?_ | (refine W_skip ?_; repeat (first | refine thenI ?_ | refine thenE ?_ | refine thenR ?_ | refine inBI ?_ | refine inBR ?_ | refine inBS ?_ | refine inBN (by decide) ?_)) | (refine W_condT ?hc ?_; (case hc => (simp (disch := omega) only [go_sem, ↓reduceIte, Nat.reduceEqDiff, Nat.reduceAdd, Nat.reduceLeDiff, q1, q2, q3, q4, c1, c2]; done))) | (refine W_condF ?hc ?_; (case hc => (simp (disch := omega) only [go_sem, ↓reduceIte, Nat.reduceEqDiff, Nat.reduceAdd, Nat.reduceLeDiff, q1, q2, q3, q4, c1, c2]; done))))
      refine W_ret ?_; try (repeat (first | refine thenI ?_ | refine thenE ?_ | refine thenR ?_ | refine inBI ?_ | refine inBR ?_ | refine inBS ?_ | refine inBN (by decide) ?_))
      refine fin1 (.inl rfl) (by (simp (disch := omega) only [go_sem, ↓reduceIte, Nat.reduceEqDiff, Nat.reduceAdd, Nat.reduceLeDiff, q1, q2, q3, q4]); try rfl) rfl ⟨by simp only [T.eqv, c1, c2, Bool.false_and, Bool.and_false], rfl⟩
    | true =>
      cases c3 : (nm.toList == nm'.toList) with
      | false =>
        repeat (first | (refine W_reg rfl fun G K hG hK => ?_; simp (disch := omega) only [go_sem, ↓reduceIte, Nat.reduceEqDiff, Nat.reduceAdd, Nat.reduceLeDiff, hG, q1, q2, q3, q4, c1, c2, c3]; refine hK _ _ ?_; clear hK K hG G) | (refine W_end rfl fun G K hG hK => ?_; simp (disch := omega) only [go_sem, ↓reduceIte, Nat.reduceEqDiff, Nat.reduceAdd, Nat.reduceLeDiff, hG, q1, q2, q3, q4, c1, c2, c3]; refine hK _ _ ?_; clear hK K hG G; repeat (first | refine thenI ?_ | refine thenE ?_ | refine thenR ?_ | refine inBI ?_ | refine inBR ?_ | refine inBS ?_ | refine inBN (by decide) ?_)) | refine W_seqS ?_ | refine W_seqC ?_ | refine W_seqB ?_ | refine W_block ?_ | (refine W_skip ?_; repeat (first | refine thenI ?_ | refine thenE ?_ | refine thenR ?_ | refine inBI ?_ | refine inBR ?_ | refine inBS ?_ | refine inBN (by decide) ?_)) | (refine W_condT ?hc ?_; (case hc => (simp (disch := omega) only [go_sem, ↓reduceIte, Nat.reduceEqDiff, Nat.reduceAdd, Nat.reduceLeDiff, q1, q2, q3, q4, c1, c2, c3]; done))) | (refine W_condF ?hc ?_; (case hc => (simp (disch := omega) only [go_sem, ↓reduceIte, Nat.reduceEqDiff, Nat.reduceAdd, Nat.reduceLeDiff, q1, q2, q3, q4, c1, c2, c3]; done))))
        refine W_ret ?_; try (repeat (first | refine thenI ?_ | refine thenE ?_ | refine thenR ?_ | refine inBI ?_ | refine inBR ?_ | refine inBS ?_ | refine inBN (by decide) ?_))
        refine fin1 (.inl rfl) (by (simp (disch := omega) only [go_sem, ↓reduceIte, Nat.reduceEqDiff, Nat.reduceAdd, Nat.reduceLeDiff, q1, q2, q3, q4]); try rfl) rfl ⟨by simp only [T.eqv, c1, c2, c3, Bool.false_and, Bool.and_false], rfl⟩
      | true =>
        repeat (first | (refine W_reg rfl fun G K hG hK => ?_; simp (disch := omega) only [go_sem, ↓reduceIte, Nat.reduceEqDiff, Nat.reduceAdd, Nat.reduceLeDiff, hG, q1, q2, q3, q4, c1, c2, c3]; refine hK _ _ ?_; clear hK K hG G) | (refine W_end rfl fun G K hG hK => ?_; simp (disch := omega) only [go_sem, ↓reduceIte, Nat.reduceEqDiff, Nat.reduceAdd, Nat.reduceLeDiff, hG, q1, q2, q3, q4, c1, c2, c3]; refine hK _ _ ?_; clear hK K hG G; repeat (first | refine thenI ?_ | refine thenE ?_ | refine thenR ?_ | refine inBI ?_ | refine inBR ?_ | refine inBS ?_ | refine inBN (by decide) ?_)) | refine W_seqS ?_ | refine W_seqC ?_ | refine W_seqB ?_ | refine W_block ?_ | (refine W_skip ?_; repeat (first | refine thenI ?_ | refine thenE ?_ | refine thenR ?_ | refine inBI ?_ | refine inBR ?_ | refine inBS ?_ | refine inBN (by decide) ?_)) | (refine W_condT ?hc ?_; (case hc => (simp (disch := omega) only [go_sem, ↓reduceIte, Nat.reduceEqDiff, Nat.reduceAdd, Nat.reduceLeDiff, q1, q2, q3, q4, c1, c2, c3]; done))) | (refine W_condF ?hc ?_; (case hc => (simp (disch := omega) only [go_sem, ↓reduceIte, Nat.reduceEqDiff, Nat.reduceAdd, Nat.reduceLeDiff, q1, q2, q3, q4, c1, c2, c3]; done))))
        (repeat (first | refine W_seqS ?_ | refine W_seqC ?_ | refine W_seqB ?_ | refine W_block ?_)); refine W_reg rfl fun G K hG hK => ?_; simp (disch := omega) only [go_sem, ↓reduceIte, Nat.reduceEqDiff, Nat.reduceAdd, Nat.reduceLeDiff, hG, q1, q2, q3, q4, c1, c2, c3]
        refine w_call (hf) (by simp (disch := omega) only [go_sem, ↓reduceIte, Nat.reduceEqDiff, q1, q2, q3, q4]) ?hl ?_
        case hl => first | rfl | (simp only [go_sem, List.all_cons, List.all_nil, Bool.not_false, Bool.and_self, q1, q2, q3, q4]; done)
        rintro r_ s_ ⟨rfl, rfl⟩; refine ⟨fun e => (by cases e), ?_⟩
        simp (disch := omega) only [go_sem, ↓reduceIte, Nat.reduceEqDiff, Nat.reduceAdd, Nat.reduceLeDiff, hG, q1, q2, q3, q4]; refine hK _ _ ?_; clear hK K hG G; repeat (first | refine thenI ?_ | refine thenE ?_ | refine thenR ?_ | refine inBI ?_ | refine inBR ?_ | refine inBS ?_ | refine inBN (by decide) ?_)
        repeat (first | (refine W_reg rfl fun G K hG hK => ?_; simp (disch := omega) only [go_sem, ↓reduceIte, Nat.reduceEqDiff, Nat.reduceAdd, Nat.reduceLeDiff, hG, q1, q2, q3, q4]; refine hK _ _ ?_; clear hK K hG G) | (refine W_end rfl fun G K hG hK => ?_; simp (disch := omega) only [go_sem, ↓reduceIte, Nat.reduceEqDiff, Nat.reduceAdd, Nat.reduceLeDiff, hG, q1, q2, q3, q4]; refine hK _ _ ?_; clear hK K hG G; repeat (first | refine thenI ?_ | refine thenE ?_ | refine thenR ?_ | refine inBI ?_ | refine inBR ?_ | refine inBS ?_ | refine inBN (by decide) ?_)) | refine W_seqS ?_ | refine W_seqC ?_ | refine W_seqB ?_ | refine W_block ?_ | (refine W_skip ?_; repeat (first | refine thenI ?_ | refine thenE ?_ | refine thenR ?_ | refine inBI ?_ | refine inBR ?_ | refine inBS ?_ | refine inBN (by decide) ?_)) | (refine W_condT ?hc ?_; (case hc => (simp (disch := omega) only [go_sem, ↓reduceIte, Nat.reduceEqDiff, Nat.reduceAdd, Nat.reduceLeDiff, q1, q2, q3, q4]; done))) | (refine W_condF ?hc ?_; (case hc => (simp (disch := omega) only [go_sem, ↓reduceIte, Nat.reduceEqDiff, Nat.reduceAdd, Nat.reduceLeDiff, q1, q2, q3, q4]; done))))
        refine W_ret ?_; try (repeat (first | refine thenI ?_ | refine thenE ?_ | refine thenR ?_ | refine inBI ?_ | refine inBR ?_ | refine inBS ?_ | refine inBN (by decide) ?_))
        refine fin1 (.inl rfl) (by (simp (disch := omega) only [go_sem, ↓reduceIte, Nat.reduceEqDiff, Nat.reduceAdd, Nat.reduceLeDiff, q1, q2, q3, q4]); try rfl) rfl ⟨by simp only [T.eqv, c1, c2, c3, Bool.true_and], rfl⟩

theorem specEq_ok : ∀ (a b : T) (st : St) (cs ds : List Value), Lim 1073741824 a → Lim 1073741824 b → Enc st a cs → Enc st b ds →
    CallS Try.prog 7 [.agg cs.toArray, .agg ds.toArray] st fun r st' => r = .bool (T.eqv a b) ∧ st' = st := by
  refine T.ind fun k n nm xs ih b st cs ds hl hl' h h' => ?_
  obtain ⟨k', n', nm', bs⟩ := b
  obtain ⟨s, rfl, hr⟩ := h.open
  obtain ⟨s', rfl, hr'⟩ := h'.open
  refine CallS_of_W [] 53 Try.func7 rfl rfl rfl rfl (by simp) ?_
  have q1 := hr.notLoc.1
  have q2 := hr.notLoc.2
  have q3 := hr'.notLoc.1
  have q4 := hr'.notLoc.2
  have ha := hl.args.1
  have hb := hl'.args.1
  have hlen : lenE Try.prog 24 s = some (.int .i64 xs.length) := row_len hr Try.underlying24
  have hlen' : lenE Try.prog 24 s' = some (.int .i64 bs.length) := row_len hr' Try.underlying24
  have n1 : (k != k') = !(k == k') := rfl
  have n2 : (n != n') = !(n == n') := rfl
  cases c1 : (k == k') with
  | false =>
    repeat (first | (refine W_reg rfl fun G K hG hK => ?_; simp (disch := omega) only [go_sem, ↓reduceIte, Nat.reduceEqDiff, Nat.reduceAdd, Nat.reduceLeDiff, hG, q1, q2, q3, q4, hlen, hlen', n1, n2, c1]; refine hK _ _ ?_; clear hK K hG G) | (refine W_end rfl fun G K hG hK => ?_; simp (disch := omega) only [go_sem, ↓reduceIte, Nat.reduceEqDiff, Nat.reduceAdd, Nat.reduceLeDiff, hG, q1, q2, q3, q4, hlen, hlen', n1, n2, c1]; refine hK _ _ ?_; clear hK K hG G; repeat (first | refine thenI ?_ | refine thenE ?_ | refine thenR ?_ | refine inBI ?_ | refine inBR ?_ | refine inBS ?_ | refine inBN (by decide) ?_)) | refine W_seqS ?_ | refine W_seqC ?_ | refine W_seqB ?_ | refine W_block ?_ | (refine W_skip ?_; repeat (first | refine thenI ?_ | refine thenE ?_ | refine thenR ?_ | refine inBI ?_ | refine inBR ?_ | refine inBS ?_ | refine inBN (by decide) ?_)) | (refine W_condT ?hc ?_; (case hc => (simp (disch := omega) only [go_sem, ↓reduceIte, Nat.reduceEqDiff, Nat.reduceAdd, Nat.reduceLeDiff, q1, q2, q3, q4, hlen, hlen', n1, n2, c1]; done))) | (refine W_condF ?hc ?_; (case hc => (simp (disch := omega) only [go_sem, ↓reduceIte, Nat.reduceEqDiff, Nat.reduceAdd, Nat.reduceLeDiff, q1, q2, q3, q4, hlen, hlen', n1, n2, c1]; done))))
    refine W_ret ?_; try (repeat (first | refine thenI ?_ | refine thenE ?_ | refine thenR ?_ | refine inBI ?_ | refine inBR ?_ | refine inBS ?_ | refine inBN (by decide) ?_))
    refine fin1 (.inl rfl) (by (simp (disch := omega) only [go_sem, ↓reduceIte, Nat.reduceEqDiff, Nat.reduceAdd, Nat.reduceLeDiff, q1, q2, q3, q4, hlen, hlen', n1, n2]); try rfl) rfl ⟨by simp only [T.eqv, c1, Bool.false_and], rfl⟩
  | true =>
  cases c2 : (n == n') with
  | false =>
    repeat (first | (refine W_reg rfl fun G K hG hK => ?_; simp (disch := omega) only [go_sem, ↓reduceIte, Nat.reduceEqDiff, Nat.reduceAdd, Nat.reduceLeDiff, hG, q1, q2, q3, q4, hlen, hlen', n1, n2, c1, c2]; refine hK _ _ ?_; clear hK K hG G) | (refine W_end rfl fun G K hG hK => ?_; simp (disch := omega) only [go_sem, ↓reduceIte, Nat.reduceEqDiff, Nat.reduceAdd, Nat.reduceLeDiff, hG, q1, q2, q3, q4, hlen, hlen', n1, n2, c1, c2]; refine hK _ _ ?_; clear hK K hG G; repeat (first | refine thenI ?_ | refine thenE ?_ | refine thenR ?_ | refine inBI ?_ | refine inBR ?_ | refine inBS ?_ | refine inBN (by decide) ?_)) | refine W_seqS ?_ | refine W_seqC ?_ | refine W_seqB ?_ | refine W_block ?_ | (refine W_skip ?_; repeat (first | refine thenI ?_ | refine thenE ?_ | refine thenR ?_ | refine inBI ?_ | refine inBR ?_ | refine inBS ?_ | refine inBN (by decide) ?_)) | (refine W_condT ?hc ?_; (case hc => (simp (disch := omega) only [go_sem, ↓reduceIte, Nat.reduceEqDiff, Nat.reduceAdd, Nat.reduceLeDiff, q1, q2, q3, q4, hlen, hlen', n1, n2, c1, c2]; done))) | (refine W_condF ?hc ?_; (case hc => (simp (disch := omega) only [go_sem, ↓reduceIte, Nat.reduceEqDiff, Nat.reduceAdd, Nat.reduceLeDiff, q1, q2, q3, q4, hlen, hlen', n1, n2, c1, c2]; done))))
    refine W_ret ?_; try (repeat (first | refine thenI ?_ | refine thenE ?_ | refine thenR ?_ | refine inBI ?_ | refine inBR ?_ | refine inBS ?_ | refine inBN (by decide) ?_))
    refine fin1 (.inl rfl) (by (simp (disch := omega) only [go_sem, ↓reduceIte, Nat.reduceEqDiff, Nat.reduceAdd, Nat.reduceLeDiff, q1, q2, q3, q4, hlen, hlen', n1, n2]); try rfl) rfl ⟨by simp only [T.eqv, c1, c2, Bool.false_and, Bool.and_false], rfl⟩
  | true =>
  cases c3 : (nm.toList == nm'.toList) with
  | false =>
    repeat (first | (refine W_reg rfl fun G K hG hK => ?_; simp (disch := omega) only [go_sem, ↓reduceIte, Nat.reduceEqDiff, Nat.reduceAdd, Nat.reduceLeDiff, hG, q1, q2, q3, q4, hlen, hlen', n1, n2, c1, c2, c3]; refine hK _ _ ?_; clear hK K hG G) | (refine W_end rfl fun G K hG hK => ?_; simp (disch := omega) only [go_sem, ↓reduceIte, Nat.reduceEqDiff, Nat.reduceAdd, Nat.reduceLeDiff, hG, q1, q2, q3, q4, hlen, hlen', n1, n2, c1, c2, c3]; refine hK _ _ ?_; clear hK K hG G; repeat (first | refine thenI ?_ | refine thenE ?_ | refine thenR ?_ | refine inBI ?_ | refine inBR ?_ | refine inBS ?_ | refine inBN (by decide) ?_)) | refine W_seqS ?_ | refine W_seqC ?_ | refine W_seqB ?_ | refine W_block ?_ | (refine W_skip ?_; repeat (first | refine thenI ?_ | refine thenE ?_ | refine thenR ?_ | refine inBI ?_ | refine inBR ?_ | refine inBS ?_ | refine inBN (by decide) ?_)) | (refine W_condT ?hc ?_; (case hc => (simp (disch := omega) only [go_sem, ↓reduceIte, Nat.reduceEqDiff, Nat.reduceAdd, Nat.reduceLeDiff, q1, q2, q3, q4, hlen, hlen', n1, n2, c1, c2, c3]; done))) | (refine W_condF ?hc ?_; (case hc => (simp (disch := omega) only [go_sem, ↓reduceIte, Nat.reduceEqDiff, Nat.reduceAdd, Nat.reduceLeDiff, q1, q2, q3, q4, hlen, hlen', n1, n2, c1, c2, c3]; done))))
    refine W_ret ?_; try (repeat (first | refine thenI ?_ | refine thenE ?_ | refine thenR ?_ | refine inBI ?_ | refine inBR ?_ | refine inBS ?_ | refine inBN (by decide) ?_))
    refine fin1 (.inl rfl) (by (simp (disch := omega) only [go_sem, ↓reduceIte, Nat.reduceEqDiff, Nat.reduceAdd, Nat.reduceLeDiff, q1, q2, q3, q4, hlen, hlen', n1, n2]); try rfl) rfl ⟨by simp only [T.eqv, c1, c2, c3, Bool.false_and, Bool.and_false], rfl⟩
  | true =>
  have hto : T.eqv (.mk k n nm xs) (.mk k' n' nm' bs) = T.eqvL xs bs := by simp only [T.eqv, c1, c2, c3, Bool.true_and]
  rw [hto]
  by_cases hab : xs.length = bs.length
  case neg =>
    have c0 : ((xs.length : Int) != (bs.length : Int)) = true := by simp; omega
    repeat (first | (refine W_reg rfl fun G K hG hK => ?_; simp (disch := omega) only [go_sem, ↓reduceIte, Nat.reduceEqDiff, Nat.reduceAdd, Nat.reduceLeDiff, hG, q1, q2, q3, q4, hlen, hlen', n1, n2, c1, c2, c3, c0]; refine hK _ _ ?_; clear hK K hG G) | (refine W_end rfl fun G K hG hK => ?_; simp (disch := omega) only [go_sem, ↓reduceIte, Nat.reduceEqDiff, Nat.reduceAdd, Nat.reduceLeDiff, hG, q1, q2, q3, q4, hlen, hlen', n1, n2, c1, c2, c3, c0]; refine hK _ _ ?_; clear hK K hG G; repeat (first | refine thenI ?_ | refine thenE ?_ | refine thenR ?_ | refine inBI ?_ | refine inBR ?_ | refine inBS ?_ | refine inBN (by decide) ?_)) | refine W_seqS ?_ | refine W_seqC ?_ | refine W_seqB ?_ | refine W_block ?_ | (refine W_skip ?_; repeat (first | refine thenI ?_ | refine thenE ?_ | refine thenR ?_ | refine inBI ?_ | refine inBR ?_ | refine inBS ?_ | refine inBN (by decide) ?_)) | (refine W_condT ?hc ?_; (case hc => (simp (disch := omega) only [go_sem, ↓reduceIte, Nat.reduceEqDiff, Nat.reduceAdd, Nat.reduceLeDiff, q1, q2, q3, q4, hlen, hlen', n1, n2, c1, c2, c3, c0]; done))) | (refine W_condF ?hc ?_; (case hc => (simp (disch := omega) only [go_sem, ↓reduceIte, Nat.reduceEqDiff, Nat.reduceAdd, Nat.reduceLeDiff, q1, q2, q3, q4, hlen, hlen', n1, n2, c1, c2, c3, c0]; done))))
    refine W_ret ?_; try (repeat (first | refine thenI ?_ | refine thenE ?_ | refine thenR ?_ | refine inBI ?_ | refine inBR ?_ | refine inBS ?_ | refine inBN (by decide) ?_))
    refine fin1 (.inl rfl) (by (simp (disch := omega) only [go_sem, ↓reduceIte, Nat.reduceEqDiff, Nat.reduceAdd, Nat.reduceLeDiff, q1, q2, q3, q4, hlen, hlen', n1, n2]); try rfl) rfl ⟨?_, rfl⟩
    cases hq : T.eqvL xs bs with
    | false => rfl
    | true => exact absurd (T.eqvL_len hq) hab
  have c0 : ((xs.length : Int) != (bs.length : Int)) = false := by simp; omega
  repeat (first | (refine W_reg rfl fun G K hG hK => ?_; simp (disch := omega) only [go_sem, ↓reduceIte, Nat.reduceEqDiff, Nat.reduceAdd, Nat.reduceLeDiff, hG, q1, q2, q3, q4, hlen, hlen', n1, n2, c1, c2, c3, c0]; refine hK _ _ ?_; clear hK K hG G) | (refine W_end rfl fun G K hG hK => ?_; simp (disch := omega) only [go_sem, ↓reduceIte, Nat.reduceEqDiff, Nat.reduceAdd, Nat.reduceLeDiff, hG, q1, q2, q3, q4, hlen, hlen', n1, n2, c1, c2, c3, c0]; refine hK _ _ ?_; clear hK K hG G; repeat (first | refine thenI ?_ | refine thenE ?_ | refine thenR ?_ | refine inBI ?_ | refine inBR ?_ | refine inBS ?_ | refine inBN (by decide) ?_)) | refine W_seqS ?_ | refine W_seqC ?_ | refine W_seqB ?_ | refine W_block ?_ | (refine W_skip ?_; repeat (first | refine thenI ?_ | refine thenE ?_ | refine thenR ?_ | refine inBI ?_ | refine inBR ?_ | refine inBS ?_ | refine inBN (by decide) ?_)) | (refine W_condT ?hc ?_; (case hc => (simp (disch := omega) only [go_sem, ↓reduceIte, Nat.reduceEqDiff, Nat.reduceAdd, Nat.reduceLeDiff, q1, q2, q3, q4, hlen, hlen', n1, n2, c1, c2, c3, c0]; done))) | (refine W_condF ?hc ?_; (case hc => (simp (disch := omega) only [go_sem, ↓reduceIte, Nat.reduceEqDiff, Nat.reduceAdd, Nat.reduceLeDiff, q1, q2, q3, q4, hlen, hlen', n1, n2, c1, c2, c3, c0]; done))))
  refine W_loop (fun d fr st' => ∃ (j : Nat) , d = xs.length - j ∧ j ≤ xs.length ∧ (st' = st) ∧ (T.eqvL (xs.drop j) (bs.drop j) = T.eqvL xs bs) ∧ (fr.env 2 = .pointer (some ⟨2, 0, some 1⟩)) ∧ (fr.env 3 = .pointer (some ⟨3, 0, some 1⟩)) ∧ (fr.env 5 = .int .i64 j) ∧ (fr.loc 2 = (1, [.int .i64 k, .int .i64 n, .string nm, s])) ∧ (fr.loc 3 = (1, [.int .i64 k', .int .i64 n', .string nm', s']))) (xs.length) ?_ ?_
  · exact ⟨0, by omega, by omega, rfl, by simp, (by (simp (disch := omega) only [go_sem, ↓reduceIte, Nat.reduceEqDiff, Nat.reduceAdd, Nat.reduceLeDiff, q1, q2, q3, q4, hlen, hlen', n1, n2]); try rfl), (by (simp (disch := omega) only [go_sem, ↓reduceIte, Nat.reduceEqDiff, Nat.reduceAdd, Nat.reduceLeDiff, q1, q2, q3, q4, hlen, hlen', n1, n2]); try rfl), (by (simp (disch := omega) only [go_sem, ↓reduceIte, Nat.reduceEqDiff, Nat.reduceAdd, Nat.reduceLeDiff, q1, q2, q3, q4, hlen, hlen', n1, n2]); try rfl), (by (simp (disch := omega) only [go_sem, ↓reduceIte, Nat.reduceEqDiff, Nat.reduceAdd, Nat.reduceLeDiff, q1, q2, q3, q4, hlen, hlen', n1, n2]); try rfl), (by (simp (disch := omega) only [go_sem, ↓reduceIte, Nat.reduceEqDiff, Nat.reduceAdd, Nat.reduceLeDiff, q1, q2, q3, q4, hlen, hlen', n1, n2]); try rfl)⟩
  rintro d ⟨env, loc⟩ st' ⟨j, hd, hj, hst, heq, e2, e3, e5, l2, l3⟩
  simp only at e2 e3 e5 l2 l3
  subst hst
  clear c1
  by_cases hlt : j < xs.length
  · have c1 : decide ((j : Int) < (xs.length : Int)) = true := by simpa using hlt
    have hi := idxOk hlt
    have hx : xs[j]? = some xs[j] := List.getElem?_eq_getElem hlt
    have htk : xs.take (j + 1) = xs.take j ++ [xs[j]] := List.take_succ_eq_append_getElem hlt
    have hlt' : j < bs.length := by omega
    have hx' : bs[j]? = some bs[j] := List.getElem?_eq_getElem hlt'
    have hi' := idxOk hlt'
    obtain ⟨i, o, c, cs, rfl, hcl, hE, hcs⟩ := row_at hr hx
    obtain ⟨i2, o2, c2', ds, rfl, hdl, hE', hds⟩ := row_at hr' hx'
    have hld := fun loc => load_row (A := []) (loc := loc) ag26 sz26 hcl hcs
    have hld' := fun loc => load_row (A := []) (loc := loc) ag26 sz26 hdl hds
    rw [List.drop_eq_getElem_cons hlt, List.drop_eq_getElem_cons hlt'] at heq
    simp only [T.eqvL] at heq
    repeat (first | (refine W_reg rfl fun G K hG hK => ?_; simp (disch := omega) only [go_sem, ↓reduceIte, Nat.reduceEqDiff, Nat.reduceAdd, Nat.reduceLeDiff, hG, q1, q2, q3, q4, hlen, hlen', n1, n2, e2, e3, e5, l2, l3, c1, hi, idxA, Int.toNat_natCast]; refine hK _ _ ?_; clear hK K hG G) | (refine W_end rfl fun G K hG hK => ?_; simp (disch := omega) only [go_sem, ↓reduceIte, Nat.reduceEqDiff, Nat.reduceAdd, Nat.reduceLeDiff, hG, q1, q2, q3, q4, hlen, hlen', n1, n2, e2, e3, e5, l2, l3, c1, hi, idxA, Int.toNat_natCast]; refine hK _ _ ?_; clear hK K hG G; repeat (first | refine thenI ?_ | refine thenE ?_ | refine thenR ?_ | refine inBI ?_ | refine inBR ?_ | refine inBS ?_ | refine inBN (by decide) ?_)) | refine W_seqS ?_ | refine W_seqC ?_ | refine W_seqB ?_ | refine W_block ?_ | (refine W_skip ?_; repeat (first | refine thenI ?_ | refine thenE ?_ | refine thenR ?_ | refine inBI ?_ | refine inBR ?_ | refine inBS ?_ | refine inBN (by decide) ?_)) | (refine W_condT ?hc ?_; (case hc => (simp (disch := omega) only [go_sem, ↓reduceIte, Nat.reduceEqDiff, Nat.reduceAdd, Nat.reduceLeDiff, q1, q2, q3, q4, hlen, hlen', n1, n2, e2, e3, e5, l2, l3, c1, hi, idxA, Int.toNat_natCast]; done))) | (refine W_condF ?hc ?_; (case hc => (simp (disch := omega) only [go_sem, ↓reduceIte, Nat.reduceEqDiff, Nat.reduceAdd, Nat.reduceLeDiff, q1, q2, q3, q4, hlen, hlen', n1, n2, e2, e3, e5, l2, l3, c1, hi, idxA, Int.toNat_natCast]; done))))
    (repeat (first | refine W_seqS ?_ | refine W_seqC ?_ | refine W_seqB ?_ | refine W_block ?_)); refine W_regD mixed [] [(0,false),(1,false),(2,false),(3,false),(4,false),(5,false),(6,false),(7,false),(8,false),(9,false),(10,false),(11,false)] rfl (by decide +kernel) fun G K hG hK => ?_; simp only [pickOps, List.filterMap_cons, List.filterMap_nil, List.getElem?_cons_zero, List.getElem?_cons_succ, Option.map_some]; simp (disch := omega) only [go_sem, ↓reduceIte, Nat.reduceEqDiff, Nat.reduceAdd, Nat.reduceLeDiff, hG, q1, q2, q3, q4, hlen, hlen', n1, n2, e2, e3, e5, l2, l3, c1, hi, idxA, Int.toNat_natCast, hld, hld', hi']
    refine w_call (ih xs[j] (List.getElem_mem hlt) bs[j] st' _ _ (hl.args.2 _ (List.getElem_mem hlt)) (hl'.args.2 _ (List.getElem_mem hlt')) hE hE') (by simp (disch := omega) only [go_sem, ↓reduceIte, Nat.reduceEqDiff, q1, q2, q3, q4, hlen, hlen', n1, n2, e2, e3, e5, l2, l3, c1, hi, idxA, Int.toNat_natCast]) ?hl ?_
    case hl => first | rfl | (simp only [go_sem, List.all_cons, List.all_nil, Bool.not_false, Bool.and_self, q1, q2, q3, q4, hlen, hlen', n1, n2, e2, e3, e5, l2, l3, c1, hi, idxA, Int.toNat_natCast]; done)
    rintro r_ st' ⟨rfl, rfl⟩; refine ⟨fun e => (by cases e), ?_⟩
    cases hq : T.eqv xs[j] bs[j] with
    | false =>
      simp (disch := omega) only [go_sem, ↓reduceIte, Nat.reduceEqDiff, Nat.reduceAdd, Nat.reduceLeDiff, hG, q1, q2, q3, q4, hlen, hlen', n1, n2, e2, e3, e5, l2, l3, c1, hi, idxA, Int.toNat_natCast]; refine hK _ _ ?_; clear hK K hG G; repeat (first | refine thenI ?_ | refine thenE ?_ | refine thenR ?_ | refine inBI ?_ | refine inBR ?_ | refine inBS ?_ | refine inBN (by decide) ?_)
      repeat (first | (refine W_reg rfl fun G K hG hK => ?_; simp (disch := omega) only [go_sem, ↓reduceIte, Nat.reduceEqDiff, Nat.reduceAdd, Nat.reduceLeDiff, hG, q1, q2, q3, q4, hlen, hlen', n1, n2, e2, e3, e5, l2, l3, c1, hi, idxA, Int.toNat_natCast]; refine hK _ _ ?_; clear hK K hG G) | (refine W_end rfl fun G K hG hK => ?_; simp (disch := omega) only [go_sem, ↓reduceIte, Nat.reduceEqDiff, Nat.reduceAdd, Nat.reduceLeDiff, hG, q1, q2, q3, q4, hlen, hlen', n1, n2, e2, e3, e5, l2, l3, c1, hi, idxA, Int.toNat_natCast]; refine hK _ _ ?_; clear hK K hG G; repeat (first | refine thenI ?_ | refine thenE ?_ | refine thenR ?_ | refine inBI ?_ | refine inBR ?_ | refine inBS ?_ | refine inBN (by decide) ?_)) | refine W_seqS ?_ | refine W_seqC ?_ | refine W_seqB ?_ | refine W_block ?_ | (refine W_skip ?_; repeat (first | refine thenI ?_ | refine thenE ?_ | refine thenR ?_ | refine inBI ?_ | refine inBR ?_ | refine inBS ?_ | refine inBN (by decide) ?_)) | (refine W_condT ?hc ?_; (case hc => (simp (disch := omega) only [go_sem, ↓reduceIte, Nat.reduceEqDiff, Nat.reduceAdd, Nat.reduceLeDiff, q1, q2, q3, q4, hlen, hlen', n1, n2, e2, e3, e5, l2, l3, c1, hi, idxA, Int.toNat_natCast]; done))) | (refine W_condF ?hc ?_; (case hc => (simp (disch := omega) only [go_sem, ↓reduceIte, Nat.reduceEqDiff, Nat.reduceAdd, Nat.reduceLeDiff, q1, q2, q3, q4, hlen, hlen', n1, n2, e2, e3, e5, l2, l3, c1, hi, idxA, Int.toNat_natCast]; done))))
      rw [hq] at heq
      refine W_ret ?_; try (repeat (first | refine thenI ?_ | refine thenE ?_ | refine thenR ?_ | refine inBI ?_ | refine inBR ?_ | refine inBS ?_ | refine inBN (by decide) ?_))
      refine fin1 (.inl rfl) (by (simp (disch := omega) only [go_sem, ↓reduceIte, Nat.reduceEqDiff, Nat.reduceAdd, Nat.reduceLeDiff, q1, q2, q3, q4, hlen, hlen', n1, n2, e2, e3, e5, l2, l3, c1, hi, idxA, Int.toNat_natCast]); try rfl) rfl ⟨by rw [← heq]; rfl, rfl⟩
    | true =>
      simp (disch := omega) only [go_sem, ↓reduceIte, Nat.reduceEqDiff, Nat.reduceAdd, Nat.reduceLeDiff, hG, q1, q2, q3, q4, hlen, hlen', n1, n2, e2, e3, e5, l2, l3, c1, hi, idxA, Int.toNat_natCast]; refine hK _ _ ?_; clear hK K hG G; repeat (first | refine thenI ?_ | refine thenE ?_ | refine thenR ?_ | refine inBI ?_ | refine inBR ?_ | refine inBS ?_ | refine inBN (by decide) ?_)
      repeat (first | (refine W_reg rfl fun G K hG hK => ?_; simp (disch := omega) only [go_sem, ↓reduceIte, Nat.reduceEqDiff, Nat.reduceAdd, Nat.reduceLeDiff, hG, q1, q2, q3, q4, hlen, hlen', n1, n2, e2, e3, e5, l2, l3, c1, hi, idxA, Int.toNat_natCast]; refine hK _ _ ?_; clear hK K hG G) | (refine W_end rfl fun G K hG hK => ?_; simp (disch := omega) only [go_sem, ↓reduceIte, Nat.reduceEqDiff, Nat.reduceAdd, Nat.reduceLeDiff, hG, q1, q2, q3, q4, hlen, hlen', n1, n2, e2, e3, e5, l2, l3, c1, hi, idxA, Int.toNat_natCast]; refine hK _ _ ?_; clear hK K hG G; repeat (first | refine thenI ?_ | refine thenE ?_ | refine thenR ?_ | refine inBI ?_ | refine inBR ?_ | refine inBS ?_ | refine inBN (by decide) ?_)) | refine W_seqS ?_ | refine W_seqC ?_ | refine W_seqB ?_ | refine W_block ?_ | (refine W_skip ?_; repeat (first | refine thenI ?_ | refine thenE ?_ | refine thenR ?_ | refine inBI ?_ | refine inBR ?_ | refine inBS ?_ | refine inBN (by decide) ?_)) | (refine W_condT ?hc ?_; (case hc => (simp (disch := omega) only [go_sem, ↓reduceIte, Nat.reduceEqDiff, Nat.reduceAdd, Nat.reduceLeDiff, q1, q2, q3, q4, hlen, hlen', n1, n2, e2, e3, e5, l2, l3, c1, hi, idxA, Int.toNat_natCast]; done))) | (refine W_condF ?hc ?_; (case hc => (simp (disch := omega) only [go_sem, ↓reduceIte, Nat.reduceEqDiff, Nat.reduceAdd, Nat.reduceLeDiff, q1, q2, q3, q4, hlen, hlen', n1, n2, e2, e3, e5, l2, l3, c1, hi, idxA, Int.toNat_natCast]; done))))
      rw [hq, Bool.true_and] at heq
      refine ⟨xs.length - (j + 1), by omega, j + 1, rfl, by omega, rfl, heq, (by (simp (disch := omega) only [go_sem, ↓reduceIte, Nat.reduceEqDiff, Nat.reduceAdd, Nat.reduceLeDiff, q1, q2, q3, q4, hlen, hlen', n1, n2, e2, e3, e5, l2, l3, c1, hi, idxA, Int.toNat_natCast]); try rfl), (by (simp (disch := omega) only [go_sem, ↓reduceIte, Nat.reduceEqDiff, Nat.reduceAdd, Nat.reduceLeDiff, q1, q2, q3, q4, hlen, hlen', n1, n2, e2, e3, e5, l2, l3, c1, hi, idxA, Int.toNat_natCast]); try rfl), (by (simp (disch := omega) only [go_sem, ↓reduceIte, Nat.reduceEqDiff, Nat.reduceAdd, Nat.reduceLeDiff, q1, q2, q3, q4, hlen, hlen', n1, n2, e2, e3, e5, l2, l3, c1, hi, idxA, Int.toNat_natCast]); try rfl), (by (simp (disch := omega) only [go_sem, ↓reduceIte, Nat.reduceEqDiff, Nat.reduceAdd, Nat.reduceLeDiff, q1, q2, q3, q4, hlen, hlen', n1, n2, e2, e3, e5, l2, l3, c1, hi, idxA, Int.toNat_natCast]); try rfl), (by (simp (disch := omega) only [go_sem, ↓reduceIte, Nat.reduceEqDiff, Nat.reduceAdd, Nat.reduceLeDiff, q1, q2, q3, q4, hlen, hlen', n1, n2, e2, e3, e5, l2, l3, c1, hi, idxA, Int.toNat_natCast]); try rfl)⟩
  · have c1 : decide ((j : Int) < (xs.length : Int)) = false := by simpa using hlt
    have hjn : j = xs.length := by omega
    subst hjn
    rw [List.drop_length, List.drop_eq_nil_of_le (by omega)] at heq
    repeat (first | (refine W_reg rfl fun G K hG hK => ?_; simp (disch := omega) only [go_sem, ↓reduceIte, Nat.reduceEqDiff, Nat.reduceAdd, Nat.reduceLeDiff, hG, q1, q2, q3, q4, hlen, hlen', n1, n2, e2, e3, e5, l2, l3, c1]; refine hK _ _ ?_; clear hK K hG G) | (refine W_end rfl fun G K hG hK => ?_; simp (disch := omega) only [go_sem, ↓reduceIte, Nat.reduceEqDiff, Nat.reduceAdd, Nat.reduceLeDiff, hG, q1, q2, q3, q4, hlen, hlen', n1, n2, e2, e3, e5, l2, l3, c1]; refine hK _ _ ?_; clear hK K hG G; repeat (first | refine thenI ?_ | refine thenE ?_ | refine thenR ?_ | refine inBI ?_ | refine inBR ?_ | refine inBS ?_ | refine inBN (by decide) ?_)) | refine W_seqS ?_ | refine W_seqC ?_ | refine W_seqB ?_ | refine W_block ?_ | (refine W_skip ?_; repeat (first | refine thenI ?_ | refine thenE ?_ | refine thenR ?_ | refine inBI ?_ | refine inBR ?_ | refine inBS ?_ | refine inBN (by decide) ?_)) | (refine W_condT ?hc ?_; (case hc => (simp (disch := omega) only [go_sem, ↓reduceIte, Nat.reduceEqDiff, Nat.reduceAdd, Nat.reduceLeDiff, q1, q2, q3, q4, hlen, hlen', n1, n2, e2, e3, e5, l2, l3, c1]; done))) | (refine W_condF ?hc ?_; (case hc => (simp (disch := omega) only [go_sem, ↓reduceIte, Nat.reduceEqDiff, Nat.reduceAdd, Nat.reduceLeDiff, q1, q2, q3, q4, hlen, hlen', n1, n2, e2, e3, e5, l2, l3, c1]; done))))
    refine W_exit ?_; repeat (first | refine thenI ?_ | refine thenE ?_ | refine thenR ?_ | refine inBI ?_ | refine inBR ?_ | refine inBS ?_ | refine inBN (by decide) ?_)
    repeat (first | (refine W_reg rfl fun G K hG hK => ?_; simp (disch := omega) only [go_sem, ↓reduceIte, Nat.reduceEqDiff, Nat.reduceAdd, Nat.reduceLeDiff, hG, q1, q2, q3, q4, hlen, hlen', n1, n2, e2, e3, e5, l2, l3, c1]; refine hK _ _ ?_; clear hK K hG G) | (refine W_end rfl fun G K hG hK => ?_; simp (disch := omega) only [go_sem, ↓reduceIte, Nat.reduceEqDiff, Nat.reduceAdd, Nat.reduceLeDiff, hG, q1, q2, q3, q4, hlen, hlen', n1, n2, e2, e3, e5, l2, l3, c1]; refine hK _ _ ?_; clear hK K hG G; repeat (first | refine thenI ?_ | refine thenE ?_ | refine thenR ?_ | refine inBI ?_ | refine inBR ?_ | refine inBS ?_ | refine inBN (by decide) ?_)) | refine W_seqS ?_ | refine W_seqC ?_ | refine W_seqB ?_ | refine W_block ?_ | (refine W_skip ?_; repeat (first | refine thenI ?_ | refine thenE ?_ | refine thenR ?_ | refine inBI ?_ | refine inBR ?_ | refine inBS ?_ | refine inBN (by decide) ?_)) | (refine W_condT ?hc ?_; (case hc => (simp (disch := omega) only [go_sem, ↓reduceIte, Nat.reduceEqDiff, Nat.reduceAdd, Nat.reduceLeDiff, q1, q2, q3, q4, hlen, hlen', n1, n2, e2, e3, e5, l2, l3, c1]; done))) | (refine W_condF ?hc ?_; (case hc => (simp (disch := omega) only [go_sem, ↓reduceIte, Nat.reduceEqDiff, Nat.reduceAdd, Nat.reduceLeDiff, q1, q2, q3, q4, hlen, hlen', n1, n2, e2, e3, e5, l2, l3, c1]; done))))
    refine W_ret ?_; try (repeat (first | refine thenI ?_ | refine thenE ?_ | refine thenR ?_ | refine inBI ?_ | refine inBR ?_ | refine inBS ?_ | refine inBN (by decide) ?_))
    refine fin1 (.inl rfl) (by (simp (disch := omega) only [go_sem, ↓reduceIte, Nat.reduceEqDiff, Nat.reduceAdd, Nat.reduceLeDiff, q1, q2, q3, q4, hlen, hlen', n1, n2, e2, e3, e5, l2, l3, c1]); try rfl) rfl ⟨by rw [← heq]; rfl, rfl⟩
end Go.Proofs.Ytajpafadlgfbaaa.AM


/- Terms are matched: impl.match, spec.l8Match. -/
namespace Go.Proofs.Ytajpafadlgfbaaa.AM
open Go Go.Proofs
set_option linter.unusedVariables false
set_option linter.unusedSimpArgs false
set_option maxRecDepth 100000
attribute [local go_sem] List.map_cons List.map_nil List.all_cons List.all_nil Bool.and_self Option.map_some List.getElem?_toArray Option.bind_some gye_b gye_t gsk_b gsk_t gb1 gb2 gb3 gb4 bne_self_eq_false beq_self_eq_true w_guard w_nil stepV_some step_some step_some' w_move w_assign w_pick w_binOp w_unOp w_load w_fieldAddr w_indexAddr w_len w_max w_index ev_max max_int ev_index w_box w_alloc w_store w_field w_extract w_nilCheck w_convert w_buildSlice w_build ev_buildL fillL_nil fillL_cons bs0 bs1 ev_conv ev_bin ev_un ev_pick ev_load ev_fieldAddr ev_indexAddr ev_len ev_field ev_extract ev_nilCheck fr_tmp fr_int fr_bool fr_str fr_nil fr_func put_some put_none bin_lss bin_leq bin_gtr bin_geq bin_eql bin_neq bin_add bin_sub bin_mul bin_seql bin_sneq un_not pick_ ext_ loadA_p cellAt_l cellAt_h okPtr_l okPtr_h fadA_p allocA_l storeA_l cells_agg cells_int cells_str cells_sl cells_bool flat_i flat_s flat_b flat_sl flat_nil loc_agg loc_int loc_str loc_sl loc_bool loc_fn loc_ptr okv_agg okv_int okv_str okv_sl okv_bool cellsFrom splice upd_eval argEnv_zero argEnv_succ ne_eq Nat.add_one_ne_zero not_false_eq_true List.not_mem_nil and_self decide_true List.getElem?_cons_zero List.getElem?_cons_succ List.size_toArray List.length_cons List.length_nil List.take_succ_cons List.take_zero List.drop_succ_cons List.drop_zero List.cons_append List.nil_append List.drop_nil Bool.not_true Bool.not_false Bool.false_eq_true Nat.zero_add Nat.add_zero wrap_in List.toList_toArray List.mem_cons or_self or_false false_or
attribute [local go_sem] ag22 ag24 ag26 ag3 ag47 ag5 ag9 bu26 bu47 bu49 by26 by47 el22 el24 el32 el42 el54 of26_0 of26_1 of26_2 of26_3 of47_0 of47_1 of49_0 of49_1 of49_2 ro26_0 ro26_1 ro26_2 ro3_3 ro47_0 ro47_1 ro9_2 ro9_3 ro9_4 sz22 sz24 sz26 sz3 sz47 sz5 sz9 ze26 ze47
-- AUTO

mutual
def T.matF : T → T → List Bnd → Option (List Bnd)
  | .mk k n nm ps, .mk k' n' nm' ts, l => if (k == 1) = true then (if (findB nm l).isSome = true then (if T.eqv (findD nm l) (.mk k' n' nm' ts) = true then some l else none) else some (l ++ [⟨nm, .mk k' n' nm' ts⟩]))
    else if ((k == k') && ((n == n') && ((nm.toList == nm'.toList) && (ps.length == ts.length)))) = true then T.matL ps ts l else none
def T.matL : List T → List T → List Bnd → Option (List Bnd)
  | p :: ps, t :: ts, l => match T.matF p t l with
    | some l' => T.matL ps ts l'
    | none => none
  | [], _, l => some l
  | _ :: _, [], l => some l
end
theorem T.matF_var {k n k' n' : Int} {nm nm' : ByteArray} {ps ts : List T} {l : List Bnd} (h : (k == 1) = true) : T.matF (.mk k n nm ps) (.mk k' n' nm' ts) l = if (findB nm l).isSome = true then (if T.eqv (findD nm l) (.mk k' n' nm' ts) = true then some l else none) else some (l ++ [⟨nm, .mk k' n' nm' ts⟩]) := by
  simp only [T.matF, h, if_true]
theorem T.matF_app {k n k' n' : Int} {nm nm' : ByteArray} {ps ts : List T} {l : List Bnd} (h : (k == 1) = false) : T.matF (.mk k n nm ps) (.mk k' n' nm' ts) l = if ((k == k') && ((n == n') && ((nm.toList == nm'.toList) && (ps.length == ts.length)))) = true then T.matL ps ts l else none := by
  simp only [T.matF, h, Bool.false_eq_true, if_false]
/-- What a match yields: no longer than this, its terms within the limits. -/
theorem T.matF_ok : ∀ (p t : T) (l l' : List Bnd), T.matF p t l = some l' → Lim 1073741824 t → (∀ b ∈ l, Lim 1073741824 b.tm) → l'.length ≤ l.length + p.wt + 1 ∧ ∀ b ∈ l', Lim 1073741824 b.tm := by
  refine T.ind fun k n nm ps ih t l l' h ht hl => ?_
  obtain ⟨k', n', nm', ts⟩ := t
  cases hk : (k == 1) with
  | true =>
    rw [T.matF_var hk] at h
    split at h
    · split at h
      · cases h; exact ⟨by omega, hl⟩
      · cases h
    · cases h
      refine ⟨by simp, fun b hb => ?_⟩
      rcases List.mem_append.1 hb with hb | hb
      · exact hl b hb
      · cases List.mem_singleton.1 hb; exact ht
  | false =>
    rw [T.matF_app hk] at h
    split at h
    · have hL : ∀ (qs : List T), (∀ q ∈ qs, ∀ t l l', T.matF q t l = some l' → Lim 1073741824 t → (∀ b ∈ l, Lim 1073741824 b.tm) → l'.length ≤ l.length + q.wt + 1 ∧ ∀ b ∈ l', Lim 1073741824 b.tm) →
          ∀ us l l', T.matL qs us l = some l' → (∀ u ∈ us, Lim 1073741824 u) → (∀ b ∈ l, Lim 1073741824 b.tm) → l'.length ≤ l.length + T.wtL qs + qs.length ∧ ∀ b ∈ l', Lim 1073741824 b.tm := by
        intro qs
        induction qs with
        | nil => intro _ us l l' h _ hl; simp only [T.matL, Option.some.injEq] at h; subst h; exact ⟨by omega, hl⟩
        | cons q qs ihq =>
          intro hq us l l' h hu hl
          cases us with
          | nil => simp only [T.matL, Option.some.injEq] at h; subst h; exact ⟨by omega, hl⟩
          | cons u us =>
            simp only [T.matL] at h
            cases hm : T.matF q u l with
            | none => rw [hm] at h; cases h
            | some l1 =>
              rw [hm] at h
              obtain ⟨h1, h2⟩ := hq q (by simp) u l l1 hm (hu u (by simp)) hl
              obtain ⟨h3, h4⟩ := ihq (fun q' hq' => hq q' (by simp [hq'])) us l1 l' h (fun u' hu' => hu u' (by simp [hu'])) h2
              refine ⟨?_, h4⟩
              simp only [T.wtL, List.length_cons]
              omega
      obtain ⟨h1, h2⟩ := hL ps ih ts l l' h ht.args.2 hl
      refine ⟨?_, h2⟩
      simp only [T.wt]
      omega
    · cases h

/-- A row of bindings that are read, in a block of its own. -/
abbrev ShB (s0 st : St) (xs : List Bnd) (s : Value) (L : List Nat) : Prop := SliceO (Shr (EncB s0)) 47 st xs s L
theorem ShB.row {s0 st : St} {xs : List Bnd} {s : Value} {L : List Nat} (h : ShB s0 st xs s L) (hx : Ext s0 st) : Rw st xs s :=
  SliceO.row (fun x cx Lx he => Kind.enc_len (α := Bnd) s0 x cx he.1) (fun x _ cx Lx he => Kind.enc_ext (α := Bnd) _ _ x cx hx he.1) h
theorem ShB.push {s0 st st2 : St} {n0 : Nat} {xs : List Bnd} {s : Value} {L : List Nat} {x : Bnd} {cx : List Value} (h : ShB s0 st xs s L) (hf : Fresh n0 L) (hn0 : n0 ≤ st.length) (hext : Ext st st2) (hx : EncB s0 x cx) (hbd : xs.length + 1 ≤ 274877906944) :
    ∃ s' st' L', appendA Try.prog 32 32 s (.slice (some ⟨st2.length, 0, none⟩) 1 1) (st2 ++ [⟨cx, 47, 0⟩]) = some (s', st') ∧ ShB s0 st' (xs ++ [x]) s' L' ∧ Fresh n0 L' ∧ Grow st s st' s' := by
  obtain ⟨s', st', L', h1, h2, h3, h4⟩ := SliceO.app (E := fun _ => Shr (EncB s0)) (fun _ _ _ _ _ _ h => h) (fun _ _ _ _ h => by rw [h.2]; simp) (sz := 4) (fun _ x cx _ h => Kind.enc_len (α := Bnd) s0 x cx h.1) (ys := [x]) (K := []) (u := 32) (t := 32) Try.underlying32 sz47 by47 ze47 rfl h hf hn0 (hext.trans (Ext.app _ [⟨cx, 47, 0⟩])) (newsA_1 Try.underlying32 (Kind.enc_len (α := Bnd) s0 x cx hx)) (RowO.one ⟨hx, rfl⟩) ⟨by simp, by simp⟩ (by simp; omega) (by simp; omega)
  exact ⟨s', st', L', h1, h2, h3, (Grow.of_ext (hext.trans (Ext.app _ _)) s).trans h4⟩

/-- What a match comes to, in the program's and in the reference's memory. -/
def MatQ (O : St → List Bnd → Value → List Nat → Prop) (s0 : St) (m : Option (List Bnd)) (r : Value) (st2 : St) : Prop := Ext s0 st2 ∧ match m with
  | some l' => ∃ s' L', r = .tuple #[s', .bool true] ∧ O st2 l' s' L' ∧ Fresh s0.length L'
  | none => ∃ v, isLoc v = false ∧ r = .tuple #[v, .bool false]

theorem implMat_ok : ∀ (p t : T) (s0 st : St) (cp ct : List Value) (l : List Bnd) (s : Value) (L : List Nat), Lim 1073741824 p → Lim 1073741824 t → (∀ b ∈ l, Lim 1073741824 b.tm) → l.length + p.wt + 1 ≤ 1073741824 → Ext s0 st → Enc s0 p cp → Enc s0 t ct → ShB s0 st l s L → Fresh s0.length L →
    CallS Try.prog 30 [.agg cp.toArray, .agg ct.toArray, s] st (MatQ (ShB s0) s0 (T.matF p t l)) := by
  refine T.ind fun k n nm ps ih t s0 st cp ct l s L hlp hlt0 hll hB hx0 hEp hEt hs hf => ?_
  obtain ⟨k', n', nm', ts⟩ := t
  have hEt' := hEt
  obtain ⟨s1, rfl, hr⟩ := hEp.open
  obtain ⟨s2, rfl, hr'⟩ := hEt.open
  refine CallS_of_W [] 87 Try.func30 rfl rfl rfl rfl (by simp) ?_
  have q1 := hr.notLoc.1
  have q2 := hr.notLoc.2
  have q3 := hr'.notLoc.1
  have q4 := hr'.notLoc.2
  have q5 := hs.loc
  have ha := hlp.args.1
  have hb := hlt0.args.1
  have hwt : (T.mk k n nm ps).wt = nm.size + ps.length + T.wtL ps := by simp only [T.wt]
  have hlen : lenE Try.prog 24 s1 = some (.int .i64 ps.length) := row_len hr Try.underlying24
  have hlen' : lenE Try.prog 24 s2 = some (.int .i64 ts.length) := row_len hr' Try.underlying24
  cases hk : (k == 1) with
  | true =>
    have hm := T.matF_var (n := n) (nm := nm) (ps := ps) (k' := k') (n' := n') (nm' := nm') (ts := ts) (l := l) hk
    repeat (first | (refine W_reg rfl fun G K hG hK => ?_; simp (disch := omega) only [go_sem, ↓reduceIte, Nat.reduceEqDiff, Nat.reduceAdd, Nat.reduceLeDiff, hG, q1, q2, q3, q4, q5, hk]; refine hK _ _ ?_; clear hK K hG G) | (refine W_end rfl fun G K hG hK => ?_; simp (disch := omega) only [go_sem, ↓reduceIte, Nat.reduceEqDiff, Nat.reduceAdd, Nat.reduceLeDiff, hG, q1, q2, q3, q4, q5, hk]; refine hK _ _ ?_; clear hK K hG G; repeat (first | refine thenI ?_ | refine thenE ?_ | refine thenR ?_ | refine inBI ?_ | refine inBR ?_ | refine inBS ?_ | refine inBN (by decide) ?_)) | refine W_seqS ?_ | refine W_seqC ?_ | refine W_seqB ?_ | refine W_block ?_ | (refine W_skip ?_; repeat (first | refine thenI ?_ | refine thenE ?_ | refine thenR ?_ | refine inBI ?_ | refine inBR ?_ | refine inBS ?_ | refine inBN (by decide) ?_)) | (refine W_condT ?hc ?_; (case hc => (simp (disch := omega) only [go_sem, ↓reduceIte, Nat.reduceEqDiff, Nat.reduceAdd, Nat.reduceLeDiff, q1, q2, q3, q4, q5, hk]; done))) | (refine W_condF ?hc ?_; (case hc => (simp (disch := omega) only [go_sem, ↓reduceIte, Nat.reduceEqDiff, Nat.reduceAdd, Nat.reduceLeDiff, q1, q2, q3, q4, q5, hk]; done))))
    (repeat (first | refine W_seqS ?_ | refine W_seqC ?_ | refine W_seqB ?_ | refine W_block ?_)); refine W_reg rfl fun G K hG hK => ?_; simp (disch := omega) only [go_sem, ↓reduceIte, Nat.reduceEqDiff, Nat.reduceAdd, Nat.reduceLeDiff, hG, q1, q2, q3, q4, q5]
    refine w_call (bound_ok l nm st s (by omega) (hs.row hx0)) (by simp (disch := omega) only [go_sem, ↓reduceIte, Nat.reduceEqDiff, q1, q2, q3, q4, q5]) ?hl ?_
    case hl => first | rfl | (simp only [go_sem, List.all_cons, List.all_nil, Bool.not_false, Bool.and_self, q1, q2, q3, q4, q5]; done)
    rintro r_ st ⟨rfl, es, rfl, hE⟩; refine ⟨fun e => (by cases e), ?_⟩
    have hlf := Lim.findD (nm := nm) hll
    obtain ⟨kw, nw, mw, aw, hwe⟩ := T.eta (findD nm l)
    have hE2 := hE
    rw [hwe] at hE2
    obtain ⟨sw, rfl, hrw⟩ := hE2.open
    have w1 := hrw.notLoc.1
    have w2 := hrw.notLoc.2
    simp (disch := omega) only [go_sem, ↓reduceIte, Nat.reduceEqDiff, Nat.reduceAdd, Nat.reduceLeDiff, hG, q1, q2, q3, q4, q5, w1, w2]; refine hK _ _ ?_; clear hK K hG G; repeat (first | refine thenI ?_ | refine thenE ?_ | refine thenR ?_ | refine inBI ?_ | refine inBR ?_ | refine inBS ?_ | refine inBN (by decide) ?_)
    cases hq : (findB nm l).isSome with
    | true =>
      rw [if_pos hq] at hm
      repeat (first | (refine W_reg rfl fun G K hG hK => ?_; simp (disch := omega) only [go_sem, ↓reduceIte, Nat.reduceEqDiff, Nat.reduceAdd, Nat.reduceLeDiff, hG, q1, q2, q3, q4, q5, w1, w2]; refine hK _ _ ?_; clear hK K hG G) | (refine W_end rfl fun G K hG hK => ?_; simp (disch := omega) only [go_sem, ↓reduceIte, Nat.reduceEqDiff, Nat.reduceAdd, Nat.reduceLeDiff, hG, q1, q2, q3, q4, q5, w1, w2]; refine hK _ _ ?_; clear hK K hG G; repeat (first | refine thenI ?_ | refine thenE ?_ | refine thenR ?_ | refine inBI ?_ | refine inBR ?_ | refine inBS ?_ | refine inBN (by decide) ?_)) | refine W_seqS ?_ | refine W_seqC ?_ | refine W_seqB ?_ | refine W_block ?_ | (refine W_skip ?_; repeat (first | refine thenI ?_ | refine thenE ?_ | refine thenR ?_ | refine inBI ?_ | refine inBR ?_ | refine inBS ?_ | refine inBN (by decide) ?_)) | (refine W_condT ?hc ?_; (case hc => (simp (disch := omega) only [go_sem, ↓reduceIte, Nat.reduceEqDiff, Nat.reduceAdd, Nat.reduceLeDiff, q1, q2, q3, q4, q5, w1, w2]; done))) | (refine W_condF ?hc ?_; (case hc => (simp (disch := omega) only [go_sem, ↓reduceIte, Nat.reduceEqDiff, Nat.reduceAdd, Nat.reduceLeDiff, q1, q2, q3, q4, q5, w1, w2]; done))))
      (repeat (first | refine W_seqS ?_ | refine W_seqC ?_ | refine W_seqB ?_ | refine W_block ?_)); refine W_reg rfl fun G K hG hK => ?_; simp (disch := omega) only [go_sem, ↓reduceIte, Nat.reduceEqDiff, Nat.reduceAdd, Nat.reduceLeDiff, hG, q1, q2, q3, q4, q5, w1, w2]
      refine w_call (implEq_ok (findD nm l) (.mk k' n' nm' ts) st _ _ hlf hlt0 hE (Enc.ext hx0 _ _ hEt')) (by simp (disch := omega) only [go_sem, ↓reduceIte, Nat.reduceEqDiff, q1, q2, q3, q4, q5, w1, w2]) ?hl ?_
      case hl => first | rfl | (simp only [go_sem, List.all_cons, List.all_nil, Bool.not_false, Bool.and_self, q1, q2, q3, q4, q5, w1, w2]; done)
      rintro r_ st ⟨rfl, rfl⟩; refine ⟨fun e => (by cases e), ?_⟩
      simp (disch := omega) only [go_sem, ↓reduceIte, Nat.reduceEqDiff, Nat.reduceAdd, Nat.reduceLeDiff, hG, q1, q2, q3, q4, q5, w1, w2]; refine hK _ _ ?_; clear hK K hG G; repeat (first | refine thenI ?_ | refine thenE ?_ | refine thenR ?_ | refine inBI ?_ | refine inBR ?_ | refine inBS ?_ | refine inBN (by decide) ?_)
      repeat (first | (refine W_reg rfl fun G K hG hK => ?_; simp (disch := omega) only [go_sem, ↓reduceIte, Nat.reduceEqDiff, Nat.reduceAdd, Nat.reduceLeDiff, hG, q1, q2, q3, q4, q5, w1, w2]; refine hK _ _ ?_; clear hK K hG G) | (refine W_end rfl fun G K hG hK => ?_; simp (disch := omega) only [go_sem, ↓reduceIte, Nat.reduceEqDiff, Nat.reduceAdd, Nat.reduceLeDiff, hG, q1, q2, q3, q4, q5, w1, w2]; refine hK _ _ ?_; clear hK K hG G; repeat (first | refine thenI ?_ | refine thenE ?_ | refine thenR ?_ | refine inBI ?_ | refine inBR ?_ | refine inBS ?_ | refine inBN (by decide) ?_)) | refine W_seqS ?_ | refine W_seqC ?_ | refine W_seqB ?_ | refine W_block ?_ | (refine W_skip ?_; repeat (first | refine thenI ?_ | refine thenE ?_ | refine thenR ?_ | refine inBI ?_ | refine inBR ?_ | refine inBS ?_ | refine inBN (by decide) ?_)) | (refine W_condT ?hc ?_; (case hc => (simp (disch := omega) only [go_sem, ↓reduceIte, Nat.reduceEqDiff, Nat.reduceAdd, Nat.reduceLeDiff, q1, q2, q3, q4, q5, w1, w2]; done))) | (refine W_condF ?hc ?_; (case hc => (simp (disch := omega) only [go_sem, ↓reduceIte, Nat.reduceEqDiff, Nat.reduceAdd, Nat.reduceLeDiff, q1, q2, q3, q4, q5, w1, w2]; done))))
      refine W_ret ?_; try (repeat (first | refine thenI ?_ | refine thenE ?_ | refine thenR ?_ | refine inBI ?_ | refine inBR ?_ | refine inBS ?_ | refine inBN (by decide) ?_))
      refine fin2 (.inl rfl) (by (simp (disch := omega) only [go_sem, ↓reduceIte, Nat.reduceEqDiff, Nat.reduceAdd, Nat.reduceLeDiff, q1, q2, q3, q4, q5, w1, w2]); try rfl) q5 (by (simp (disch := omega) only [go_sem, ↓reduceIte, Nat.reduceEqDiff, Nat.reduceAdd, Nat.reduceLeDiff, q1, q2, q3, q4, q5, w1, w2]); try rfl) rfl ⟨hx0, ?_⟩
      rw [hm]
      cases he : T.eqv (findD nm l) (.mk k' n' nm' ts) with
      | true => exact ⟨s, L, rfl, hs, hf⟩
      | false => exact ⟨s, q5, rfl⟩
    | false =>
      rw [if_neg (by rw [hq]; simp)] at hm
      obtain ⟨s', sb, L', hap, hs', hf', hg⟩ := ShB.push (x := ⟨nm, .mk k' n' nm' ts⟩) hs hf hx0.length (Ext.refl st) ⟨_, rfl, hEt'⟩ (by omega)
      have q6 := hs'.loc
      repeat (first | (refine W_reg rfl fun G K hG hK => ?_; simp (disch := omega) only [go_sem, ↓reduceIte, Nat.reduceEqDiff, Nat.reduceAdd, Nat.reduceLeDiff, hG, q1, q2, q3, q4, q5, w1, w2]; refine hK _ _ ?_; clear hK K hG G) | (refine W_end rfl fun G K hG hK => ?_; simp (disch := omega) only [go_sem, ↓reduceIte, Nat.reduceEqDiff, Nat.reduceAdd, Nat.reduceLeDiff, hG, q1, q2, q3, q4, q5, w1, w2]; refine hK _ _ ?_; clear hK K hG G; repeat (first | refine thenI ?_ | refine thenE ?_ | refine thenR ?_ | refine inBI ?_ | refine inBR ?_ | refine inBS ?_ | refine inBN (by decide) ?_)) | refine W_seqS ?_ | refine W_seqC ?_ | refine W_seqB ?_ | refine W_block ?_ | (refine W_skip ?_; repeat (first | refine thenI ?_ | refine thenE ?_ | refine thenR ?_ | refine inBI ?_ | refine inBR ?_ | refine inBS ?_ | refine inBN (by decide) ?_)) | (refine W_condT ?hc ?_; (case hc => (simp (disch := omega) only [go_sem, ↓reduceIte, Nat.reduceEqDiff, Nat.reduceAdd, Nat.reduceLeDiff, q1, q2, q3, q4, q5, w1, w2]; done))) | (refine W_condF ?hc ?_; (case hc => (simp (disch := omega) only [go_sem, ↓reduceIte, Nat.reduceEqDiff, Nat.reduceAdd, Nat.reduceLeDiff, q1, q2, q3, q4, q5, w1, w2]; done))))
      repeat (first | (refine W_reg rfl fun G K hG hK => ?_; simp (disch := omega) only [go_sem, ↓reduceIte, Nat.reduceEqDiff, Nat.reduceAdd, Nat.reduceLeDiff, hG, q1, q2, q3, q4, q5, w1, w2, w_append, hap]; refine hK _ _ ?_; clear hK K hG G) | (refine W_end rfl fun G K hG hK => ?_; simp (disch := omega) only [go_sem, ↓reduceIte, Nat.reduceEqDiff, Nat.reduceAdd, Nat.reduceLeDiff, hG, q1, q2, q3, q4, q5, w1, w2, w_append, hap]; refine hK _ _ ?_; clear hK K hG G; repeat (first | refine thenI ?_ | refine thenE ?_ | refine thenR ?_ | refine inBI ?_ | refine inBR ?_ | refine inBS ?_ | refine inBN (by decide) ?_)) | refine W_seqS ?_ | refine W_seqC ?_ | refine W_seqB ?_ | refine W_block ?_ | (refine W_skip ?_; repeat (first | refine thenI ?_ | refine thenE ?_ | refine thenR ?_ | refine inBI ?_ | refine inBR ?_ | refine inBS ?_ | refine inBN (by decide) ?_)) | (refine W_condT ?hc ?_; (case hc => (simp (disch := omega) only [go_sem, ↓reduceIte, Nat.reduceEqDiff, Nat.reduceAdd, Nat.reduceLeDiff, q1, q2, q3, q4, q5, w1, w2, w_append, hap]; done))) | (refine W_condF ?hc ?_; (case hc => (simp (disch := omega) only [go_sem, ↓reduceIte, Nat.reduceEqDiff, Nat.reduceAdd, Nat.reduceLeDiff, q1, q2, q3, q4, q5, w1, w2, w_append, hap]; done))))
      refine W_ret ?_; try (repeat (first | refine thenI ?_ | refine thenE ?_ | refine thenR ?_ | refine inBI ?_ | refine inBR ?_ | refine inBS ?_ | refine inBN (by decide) ?_))
      refine fin2 (.inl rfl) (by (simp (disch := omega) only [go_sem, ↓reduceIte, Nat.reduceEqDiff, Nat.reduceAdd, Nat.reduceLeDiff, q1, q2, q3, q4, q5, w1, w2]); try rfl) q6 (by (simp (disch := omega) only [go_sem, ↓reduceIte, Nat.reduceEqDiff, Nat.reduceAdd, Nat.reduceLeDiff, q1, q2, q3, q4, q5, w1, w2]); try rfl) rfl ⟨hg.away.ext_of hx0 (hs.top hf), ?_⟩
      rw [hm]
      exact ⟨s', L', rfl, hs', hf'⟩
  | false =>
    have hm := T.matF_app (n := n) (nm := nm) (ps := ps) (k' := k') (n' := n') (nm' := nm') (ts := ts) (l := l) hk
    have e1 : (k != k') = !(k == k') := rfl
    have e2 : (n != n') = !(n == n') := rfl
    have e3 : ((ps.length : Int) != (ts.length : Int)) = !(ps.length == ts.length) := by rw [Bool.eq_iff_iff]; simp; omega
    have none_ : ∀ v, isLoc v = false → T.matF (.mk k n nm ps) (.mk k' n' nm' ts) l = none → MatQ (ShB s0) s0 (T.matF (.mk k n nm ps) (.mk k' n' nm' ts) l) (.tuple #[v, .bool false]) st := fun v hv h => by
      rw [h]; exact ⟨hx0, v, hv, rfl⟩
    cases c1 : (k == k') with
    | false =>
      repeat (first | (refine W_reg rfl fun G K hG hK => ?_; simp (disch := omega) only [go_sem, ↓reduceIte, Nat.reduceEqDiff, Nat.reduceAdd, Nat.reduceLeDiff, hG, q1, q2, q3, q4, q5, e1, e2, e3, hlen, hlen', hk, c1]; refine hK _ _ ?_; clear hK K hG G) | (refine W_end rfl fun G K hG hK => ?_; simp (disch := omega) only [go_sem, ↓reduceIte, Nat.reduceEqDiff, Nat.reduceAdd, Nat.reduceLeDiff, hG, q1, q2, q3, q4, q5, e1, e2, e3, hlen, hlen', hk, c1]; refine hK _ _ ?_; clear hK K hG G; repeat (first | refine thenI ?_ | refine thenE ?_ | refine thenR ?_ | refine inBI ?_ | refine inBR ?_ | refine inBS ?_ | refine inBN (by decide) ?_)) | refine W_seqS ?_ | refine W_seqC ?_ | refine W_seqB ?_ | refine W_block ?_ | (refine W_skip ?_; repeat (first | refine thenI ?_ | refine thenE ?_ | refine thenR ?_ | refine inBI ?_ | refine inBR ?_ | refine inBS ?_ | refine inBN (by decide) ?_)) | (refine W_condT ?hc ?_; (case hc => (simp (disch := omega) only [go_sem, ↓reduceIte, Nat.reduceEqDiff, Nat.reduceAdd, Nat.reduceLeDiff, q1, q2, q3, q4, q5, e1, e2, e3, hlen, hlen', hk, c1]; done))) | (refine W_condF ?hc ?_; (case hc => (simp (disch := omega) only [go_sem, ↓reduceIte, Nat.reduceEqDiff, Nat.reduceAdd, Nat.reduceLeDiff, q1, q2, q3, q4, q5, e1, e2, e3, hlen, hlen', hk, c1]; done))))
      refine W_ret ?_; try (repeat (first | refine thenI ?_ | refine thenE ?_ | refine thenR ?_ | refine inBI ?_ | refine inBR ?_ | refine inBS ?_ | refine inBN (by decide) ?_))
      refine fin2 (.inl rfl) (by (simp (disch := omega) only [go_sem, ↓reduceIte, Nat.reduceEqDiff, Nat.reduceAdd, Nat.reduceLeDiff, q1, q2, q3, q4, q5, e1, e2, e3, hlen, hlen']); try rfl) rfl (by (simp (disch := omega) only [go_sem, ↓reduceIte, Nat.reduceEqDiff, Nat.reduceAdd, Nat.reduceLeDiff, q1, q2, q3, q4, q5, e1, e2, e3, hlen, hlen']); try rfl) rfl (none_ _ rfl (by rw [hm, c1]; rfl))
    | true =>
    cases c2 : (n == n') with
    | false =>
      repeat (first | (refine W_reg rfl fun G K hG hK => ?_; simp (disch := omega) only [go_sem, ↓reduceIte, Nat.reduceEqDiff, Nat.reduceAdd, Nat.reduceLeDiff, hG, q1, q2, q3, q4, q5, e1, e2, e3, hlen, hlen', hk, c1, c2]; refine hK _ _ ?_; clear hK K hG G) | (refine W_end rfl fun G K hG hK => ?_; simp (disch := omega) only [go_sem, ↓reduceIte, Nat.reduceEqDiff, Nat.reduceAdd, Nat.reduceLeDiff, hG, q1, q2, q3, q4, q5, e1, e2, e3, hlen, hlen', hk, c1, c2]; refine hK _ _ ?_; clear hK K hG G; repeat (first | refine thenI ?_ | refine thenE ?_ | refine thenR ?_ | refine inBI ?_ | refine inBR ?_ | refine inBS ?_ | refine inBN (by decide) ?_)) | refine W_seqS ?_ | refine W_seqC ?_ | refine W_seqB ?_ | refine W_block ?_ | (refine W_skip ?_; repeat (first | refine thenI ?_ | refine thenE ?_ | refine thenR ?_ | refine inBI ?_ | refine inBR ?_ | refine inBS ?_ | refine inBN (by decide) ?_)) | (refine W_condT ?hc ?_; (case hc => (simp (disch := omega) only [go_sem, ↓reduceIte, Nat.reduceEqDiff, Nat.reduceAdd, Nat.reduceLeDiff, q1, q2, q3, q4, q5, e1, e2, e3, hlen, hlen', hk, c1, c2]; done))) | (refine W_condF ?hc ?_; (case hc => (simp (disch := omega) only [go_sem, ↓reduceIte, Nat.reduceEqDiff, Nat.reduceAdd, Nat.reduceLeDiff, q1, q2, q3, q4, q5, e1, e2, e3, hlen, hlen', hk, c1, c2]; done))))
      refine W_ret ?_; try (repeat (first | refine thenI ?_ | refine thenE ?_ | refine thenR ?_ | refine inBI ?_ | refine inBR ?_ | refine inBS ?_ | refine inBN (by decide) ?_))
      refine fin2 (.inl rfl) (by (simp (disch := omega) only [go_sem, ↓reduceIte, Nat.reduceEqDiff, Nat.reduceAdd, Nat.reduceLeDiff, q1, q2, q3, q4, q5, e1, e2, e3, hlen, hlen']); try rfl) rfl (by (simp (disch := omega) only [go_sem, ↓reduceIte, Nat.reduceEqDiff, Nat.reduceAdd, Nat.reduceLeDiff, q1, q2, q3, q4, q5, e1, e2, e3, hlen, hlen']); try rfl) rfl (none_ _ rfl (by rw [hm, c1, c2]; rfl))
    | true =>
    cases c3 : (nm.toList == nm'.toList) with
    | false =>
      repeat (first | (refine W_reg rfl fun G K hG hK => ?_; simp (disch := omega) only [go_sem, ↓reduceIte, Nat.reduceEqDiff, Nat.reduceAdd, Nat.reduceLeDiff, hG, q1, q2, q3, q4, q5, e1, e2, e3, hlen, hlen', hk, c1, c2, c3]; refine hK _ _ ?_; clear hK K hG G) | (refine W_end rfl fun G K hG hK => ?_; simp (disch := omega) only [go_sem, ↓reduceIte, Nat.reduceEqDiff, Nat.reduceAdd, Nat.reduceLeDiff, hG, q1, q2, q3, q4, q5, e1, e2, e3, hlen, hlen', hk, c1, c2, c3]; refine hK _ _ ?_; clear hK K hG G; repeat (first | refine thenI ?_ | refine thenE ?_ | refine thenR ?_ | refine inBI ?_ | refine inBR ?_ | refine inBS ?_ | refine inBN (by decide) ?_)) | refine W_seqS ?_ | refine W_seqC ?_ | refine W_seqB ?_ | refine W_block ?_ | (refine W_skip ?_; repeat (first | refine thenI ?_ | refine thenE ?_ | refine thenR ?_ | refine inBI ?_ | refine inBR ?_ | refine inBS ?_ | refine inBN (by decide) ?_)) | (refine W_condT ?hc ?_; (case hc => (simp (disch := omega) only [go_sem, ↓reduceIte, Nat.reduceEqDiff, Nat.reduceAdd, Nat.reduceLeDiff, q1, q2, q3, q4, q5, e1, e2, e3, hlen, hlen', hk, c1, c2, c3]; done))) | (refine W_condF ?hc ?_; (case hc => (simp (disch := omega) only [go_sem, ↓reduceIte, Nat.reduceEqDiff, Nat.reduceAdd, Nat.reduceLeDiff, q1, q2, q3, q4, q5, e1, e2, e3, hlen, hlen', hk, c1, c2, c3]; done))))
      refine W_ret ?_; try (repeat (first | refine thenI ?_ | refine thenE ?_ | refine thenR ?_ | refine inBI ?_ | refine inBR ?_ | refine inBS ?_ | refine inBN (by decide) ?_))
      refine fin2 (.inl rfl) (by (simp (disch := omega) only [go_sem, ↓reduceIte, Nat.reduceEqDiff, Nat.reduceAdd, Nat.reduceLeDiff, q1, q2, q3, q4, q5, e1, e2, e3, hlen, hlen']); try rfl) rfl (by (simp (disch := omega) only [go_sem, ↓reduceIte, Nat.reduceEqDiff, Nat.reduceAdd, Nat.reduceLeDiff, q1, q2, q3, q4, q5, e1, e2, e3, hlen, hlen']); try rfl) rfl (none_ _ rfl (by rw [hm, c1, c2, c3]; rfl))
    | true =>
    cases c4 : (ps.length == ts.length) with
    | false =>
      repeat (first | (refine W_reg rfl fun G K hG hK => ?_; simp (disch := omega) only [go_sem, ↓reduceIte, Nat.reduceEqDiff, Nat.reduceAdd, Nat.reduceLeDiff, hG, q1, q2, q3, q4, q5, e1, e2, e3, hlen, hlen', hk, c1, c2, c3, c4]; refine hK _ _ ?_; clear hK K hG G) | (refine W_end rfl fun G K hG hK => ?_; simp (disch := omega) only [go_sem, ↓reduceIte, Nat.reduceEqDiff, Nat.reduceAdd, Nat.reduceLeDiff, hG, q1, q2, q3, q4, q5, e1, e2, e3, hlen, hlen', hk, c1, c2, c3, c4]; refine hK _ _ ?_; clear hK K hG G; repeat (first | refine thenI ?_ | refine thenE ?_ | refine thenR ?_ | refine inBI ?_ | refine inBR ?_ | refine inBS ?_ | refine inBN (by decide) ?_)) | refine W_seqS ?_ | refine W_seqC ?_ | refine W_seqB ?_ | refine W_block ?_ | (refine W_skip ?_; repeat (first | refine thenI ?_ | refine thenE ?_ | refine thenR ?_ | refine inBI ?_ | refine inBR ?_ | refine inBS ?_ | refine inBN (by decide) ?_)) | (refine W_condT ?hc ?_; (case hc => (simp (disch := omega) only [go_sem, ↓reduceIte, Nat.reduceEqDiff, Nat.reduceAdd, Nat.reduceLeDiff, q1, q2, q3, q4, q5, e1, e2, e3, hlen, hlen', hk, c1, c2, c3, c4]; done))) | (refine W_condF ?hc ?_; (case hc => (simp (disch := omega) only [go_sem, ↓reduceIte, Nat.reduceEqDiff, Nat.reduceAdd, Nat.reduceLeDiff, q1, q2, q3, q4, q5, e1, e2, e3, hlen, hlen', hk, c1, c2, c3, c4]; done))))
      refine W_ret ?_; try (repeat (first | refine thenI ?_ | refine thenE ?_ | refine thenR ?_ | refine inBI ?_ | refine inBR ?_ | refine inBS ?_ | refine inBN (by decide) ?_))
      refine fin2 (.inl rfl) (by (simp (disch := omega) only [go_sem, ↓reduceIte, Nat.reduceEqDiff, Nat.reduceAdd, Nat.reduceLeDiff, q1, q2, q3, q4, q5, e1, e2, e3, hlen, hlen']); try rfl) rfl (by (simp (disch := omega) only [go_sem, ↓reduceIte, Nat.reduceEqDiff, Nat.reduceAdd, Nat.reduceLeDiff, q1, q2, q3, q4, q5, e1, e2, e3, hlen, hlen']); try rfl) rfl (none_ _ rfl (by rw [hm, c1, c2, c3, c4]; rfl))
    | true =>
    have hm2 : T.matF (.mk k n nm ps) (.mk k' n' nm' ts) l = T.matL ps ts l := by rw [hm, c1, c2, c3, c4]; rfl
    rw [hm2]
    have hll2 : ps.length = ts.length := by simpa using c4
    repeat (first | (refine W_reg rfl fun G K hG hK => ?_; simp (disch := omega) only [go_sem, ↓reduceIte, Nat.reduceEqDiff, Nat.reduceAdd, Nat.reduceLeDiff, hG, q1, q2, q3, q4, q5, e1, e2, e3, hlen, hlen', hk, c1, c2, c3, c4]; refine hK _ _ ?_; clear hK K hG G) | (refine W_end rfl fun G K hG hK => ?_; simp (disch := omega) only [go_sem, ↓reduceIte, Nat.reduceEqDiff, Nat.reduceAdd, Nat.reduceLeDiff, hG, q1, q2, q3, q4, q5, e1, e2, e3, hlen, hlen', hk, c1, c2, c3, c4]; refine hK _ _ ?_; clear hK K hG G; repeat (first | refine thenI ?_ | refine thenE ?_ | refine thenR ?_ | refine inBI ?_ | refine inBR ?_ | refine inBS ?_ | refine inBN (by decide) ?_)) | refine W_seqS ?_ | refine W_seqC ?_ | refine W_seqB ?_ | refine W_block ?_ | (refine W_skip ?_; repeat (first | refine thenI ?_ | refine thenE ?_ | refine thenR ?_ | refine inBI ?_ | refine inBR ?_ | refine inBS ?_ | refine inBN (by decide) ?_)) | (refine W_condT ?hc ?_; (case hc => (simp (disch := omega) only [go_sem, ↓reduceIte, Nat.reduceEqDiff, Nat.reduceAdd, Nat.reduceLeDiff, q1, q2, q3, q4, q5, e1, e2, e3, hlen, hlen', hk, c1, c2, c3, c4]; done))) | (refine W_condF ?hc ?_; (case hc => (simp (disch := omega) only [go_sem, ↓reduceIte, Nat.reduceEqDiff, Nat.reduceAdd, Nat.reduceLeDiff, q1, q2, q3, q4, q5, e1, e2, e3, hlen, hlen', hk, c1, c2, c3, c4]; done))))
    refine W_loop (fun d fr st' => ∃ (j : Nat) (l1 : List Bnd) (r : Value) (L1 : List Nat), d = ps.length - j ∧ j ≤ ps.length ∧ (Ext s0 st') ∧ (ShB s0 st' l1 r L1) ∧ (Fresh s0.length L1) ∧ (T.matL (ps.drop j) (ts.drop j) l1 = T.matL ps ts l) ∧ ((∀ b ∈ l1, Lim 1073741824 b.tm)) ∧ (l1.length + T.wtL (ps.drop j) + (ps.length - j) ≤ 1073741824) ∧ (fr.env 2 = r) ∧ (fr.env 3 = .pointer (some ⟨3, 0, some 1⟩)) ∧ (fr.env 4 = .pointer (some ⟨4, 0, some 1⟩)) ∧ (fr.env 64 = .int .i64 ps.length) ∧ (fr.env 65 = .int .i64 j) ∧ (fr.loc 3 = (1, [.int .i64 k, .int .i64 n, .string nm, s1])) ∧ (fr.loc 4 = (1, [.int .i64 k', .int .i64 n', .string nm', s2]))) (ps.length) ?_ ?_
    · exact ⟨0, l, s, L, by omega, by omega, hx0, hs, hf, by simp, hll, by simp only [List.drop_zero]; omega, (by (simp (disch := omega) only [go_sem, ↓reduceIte, Nat.reduceEqDiff, Nat.reduceAdd, Nat.reduceLeDiff, q1, q2, q3, q4, q5, e1, e2, e3, hlen, hlen']); try rfl), (by (simp (disch := omega) only [go_sem, ↓reduceIte, Nat.reduceEqDiff, Nat.reduceAdd, Nat.reduceLeDiff, q1, q2, q3, q4, q5, e1, e2, e3, hlen, hlen']); try rfl), (by (simp (disch := omega) only [go_sem, ↓reduceIte, Nat.reduceEqDiff, Nat.reduceAdd, Nat.reduceLeDiff, q1, q2, q3, q4, q5, e1, e2, e3, hlen, hlen']); try rfl), (by (simp (disch := omega) only [go_sem, ↓reduceIte, Nat.reduceEqDiff, Nat.reduceAdd, Nat.reduceLeDiff, q1, q2, q3, q4, q5, e1, e2, e3, hlen, hlen']); try rfl), (by (simp (disch := omega) only [go_sem, ↓reduceIte, Nat.reduceEqDiff, Nat.reduceAdd, Nat.reduceLeDiff, q1, q2, q3, q4, q5, e1, e2, e3, hlen, hlen']); try rfl), (by (simp (disch := omega) only [go_sem, ↓reduceIte, Nat.reduceEqDiff, Nat.reduceAdd, Nat.reduceLeDiff, q1, q2, q3, q4, q5, e1, e2, e3, hlen, hlen']); try rfl), (by (simp (disch := omega) only [go_sem, ↓reduceIte, Nat.reduceEqDiff, Nat.reduceAdd, Nat.reduceLeDiff, q1, q2, q3, q4, q5, e1, e2, e3, hlen, hlen']); try rfl)⟩
    clear e1 e2 e3
    rintro d ⟨env, loc⟩ st' ⟨j, l1, r, L1, hd, hj, hext, hown, hfr, hmm, hl1, hB1, e2, e3, e4, e64, e65, l3, l4⟩
    simp only at e2 e3 e4 e64 e65 l3 l4
    clear c1
    by_cases hlt : j < ps.length
    · have c1 : decide ((j : Int) < (ps.length : Int)) = true := by simpa using hlt
      have hi := idxOk hlt
      have hx : ps[j]? = some ps[j] := List.getElem?_eq_getElem hlt
      have htk : ps.take (j + 1) = ps.take j ++ [ps[j]] := List.take_succ_eq_append_getElem hlt
      have hlt' : j < ts.length := by omega
      have hx' : ts[j]? = some ts[j] := List.getElem?_eq_getElem hlt'
      have hi' := idxOk hlt'
      obtain ⟨i, o, c, cs, rfl, hcl, hE, hcs⟩ := row_at hr hx
      obtain ⟨i2, o2, c2', ds, rfl, hdl, hE', hds⟩ := row_at hr' hx'
      have hld := fun loc => load_row (A := []) (loc := loc) ag26 sz26 hcl (hcs.ext hext)
      have hld' := fun loc => load_row (A := []) (loc := loc) ag26 sz26 hdl (hds.ext hext)
      have ol := hown.loc
      have hwd := T.wtL_drop hx
      rw [List.drop_eq_getElem_cons hlt, List.drop_eq_getElem_cons hlt'] at hmm
      simp only [T.matL] at hmm
      have hok := T.matF_ok ps[j] ts[j] l1
      repeat (first | (refine W_reg rfl fun G K hG hK => ?_; simp (disch := omega) only [go_sem, ↓reduceIte, Nat.reduceEqDiff, Nat.reduceAdd, Nat.reduceLeDiff, hG, q1, q2, q3, q4, q5, hlen, hlen', e2, e3, e4, e64, e65, l3, l4, c1, hi, idxA, Int.toNat_natCast]; refine hK _ _ ?_; clear hK K hG G) | (refine W_end rfl fun G K hG hK => ?_; simp (disch := omega) only [go_sem, ↓reduceIte, Nat.reduceEqDiff, Nat.reduceAdd, Nat.reduceLeDiff, hG, q1, q2, q3, q4, q5, hlen, hlen', e2, e3, e4, e64, e65, l3, l4, c1, hi, idxA, Int.toNat_natCast]; refine hK _ _ ?_; clear hK K hG G; repeat (first | refine thenI ?_ | refine thenE ?_ | refine thenR ?_ | refine inBI ?_ | refine inBR ?_ | refine inBS ?_ | refine inBN (by decide) ?_)) | refine W_seqS ?_ | refine W_seqC ?_ | refine W_seqB ?_ | refine W_block ?_ | (refine W_skip ?_; repeat (first | refine thenI ?_ | refine thenE ?_ | refine thenR ?_ | refine inBI ?_ | refine inBR ?_ | refine inBS ?_ | refine inBN (by decide) ?_)) | (refine W_condT ?hc ?_; (case hc => (simp (disch := omega) only [go_sem, ↓reduceIte, Nat.reduceEqDiff, Nat.reduceAdd, Nat.reduceLeDiff, q1, q2, q3, q4, q5, hlen, hlen', e2, e3, e4, e64, e65, l3, l4, c1, hi, idxA, Int.toNat_natCast]; done))) | (refine W_condF ?hc ?_; (case hc => (simp (disch := omega) only [go_sem, ↓reduceIte, Nat.reduceEqDiff, Nat.reduceAdd, Nat.reduceLeDiff, q1, q2, q3, q4, q5, hlen, hlen', e2, e3, e4, e64, e65, l3, l4, c1, hi, idxA, Int.toNat_natCast]; done))))
      (repeat (first | refine W_seqS ?_ | refine W_seqC ?_ | refine W_seqB ?_ | refine W_block ?_)); refine W_regD mixed [] [(0,false),(1,false),(2,false),(3,false),(4,false),(5,false),(6,false),(7,false),(8,false),(9,false),(10,false),(11,false),(12,false),(13,false),(14,false),(15,false),(16,false)] rfl (by decide +kernel) fun G K hG hK => ?_; simp only [pickOps, List.filterMap_cons, List.filterMap_nil, List.getElem?_cons_zero, List.getElem?_cons_succ, Option.map_some]; simp (disch := omega) only [go_sem, ↓reduceIte, Nat.reduceEqDiff, Nat.reduceAdd, Nat.reduceLeDiff, hG, q1, q2, q3, q4, q5, hlen, hlen', e2, e3, e4, e64, e65, l3, l4, c1, hi, idxA, Int.toNat_natCast, hld, hld', hi', ol]
      refine w_call (ih ps[j] (List.getElem_mem hlt) ts[j] s0 st' _ _ l1 r L1 (hlp.args.2 _ (List.getElem_mem hlt)) (hlt0.args.2 _ (List.getElem_mem hlt')) hl1 (by omega) hext hE hE' hown hfr) (by simp (disch := omega) only [go_sem, ↓reduceIte, Nat.reduceEqDiff, q1, q2, q3, q4, q5, hlen, hlen', e2, e3, e4, e64, e65, l3, l4, c1, hi, idxA, Int.toNat_natCast, ol]) ?hl ?_
      case hl => first | rfl | (simp only [go_sem, List.all_cons, List.all_nil, Bool.not_false, Bool.and_self, q1, q2, q3, q4, q5, hlen, hlen', e2, e3, e4, e64, e65, l3, l4, c1, hi, idxA, Int.toNat_natCast, ol]; done)
      rintro r_ sb ⟨x1, hres⟩; refine ⟨fun e => (by cases e), ?_⟩
      cases hmf : T.matF ps[j] ts[j] l1 with
      | none =>
        rw [hmf] at hres hmm
        obtain ⟨v, hv, rfl⟩ := hres
        simp (disch := omega) only [go_sem, ↓reduceIte, Nat.reduceEqDiff, Nat.reduceAdd, Nat.reduceLeDiff, hG, q1, q2, q3, q4, q5, hlen, hlen', e2, e3, e4, e64, e65, l3, l4, c1, hi, idxA, Int.toNat_natCast]; refine hK _ _ ?_; clear hK K hG G; repeat (first | refine thenI ?_ | refine thenE ?_ | refine thenR ?_ | refine inBI ?_ | refine inBR ?_ | refine inBS ?_ | refine inBN (by decide) ?_)
        repeat (first | (refine W_reg rfl fun G K hG hK => ?_; simp (disch := omega) only [go_sem, ↓reduceIte, Nat.reduceEqDiff, Nat.reduceAdd, Nat.reduceLeDiff, hG, q1, q2, q3, q4, q5, hlen, hlen', e2, e3, e4, e64, e65, l3, l4, c1, hi, idxA, Int.toNat_natCast]; refine hK _ _ ?_; clear hK K hG G) | (refine W_end rfl fun G K hG hK => ?_; simp (disch := omega) only [go_sem, ↓reduceIte, Nat.reduceEqDiff, Nat.reduceAdd, Nat.reduceLeDiff, hG, q1, q2, q3, q4, q5, hlen, hlen', e2, e3, e4, e64, e65, l3, l4, c1, hi, idxA, Int.toNat_natCast]; refine hK _ _ ?_; clear hK K hG G; repeat (first | refine thenI ?_ | refine thenE ?_ | refine thenR ?_ | refine inBI ?_ | refine inBR ?_ | refine inBS ?_ | refine inBN (by decide) ?_)) | refine W_seqS ?_ | refine W_seqC ?_ | refine W_seqB ?_ | refine W_block ?_ | (refine W_skip ?_; repeat (first | refine thenI ?_ | refine thenE ?_ | refine thenR ?_ | refine inBI ?_ | refine inBR ?_ | refine inBS ?_ | refine inBN (by decide) ?_)) | (refine W_condT ?hc ?_; (case hc => (simp (disch := omega) only [go_sem, ↓reduceIte, Nat.reduceEqDiff, Nat.reduceAdd, Nat.reduceLeDiff, q1, q2, q3, q4, q5, hlen, hlen', e2, e3, e4, e64, e65, l3, l4, c1, hi, idxA, Int.toNat_natCast]; done))) | (refine W_condF ?hc ?_; (case hc => (simp (disch := omega) only [go_sem, ↓reduceIte, Nat.reduceEqDiff, Nat.reduceAdd, Nat.reduceLeDiff, q1, q2, q3, q4, q5, hlen, hlen', e2, e3, e4, e64, e65, l3, l4, c1, hi, idxA, Int.toNat_natCast]; done))))
        rw [← hmm]
        refine W_ret ?_; try (repeat (first | refine thenI ?_ | refine thenE ?_ | refine thenR ?_ | refine inBI ?_ | refine inBR ?_ | refine inBS ?_ | refine inBN (by decide) ?_))
        refine fin2 (.inl rfl) (by (simp (disch := omega) only [go_sem, ↓reduceIte, Nat.reduceEqDiff, Nat.reduceAdd, Nat.reduceLeDiff, q1, q2, q3, q4, q5, hlen, hlen', e2, e3, e4, e64, e65, l3, l4, c1, hi, idxA, Int.toNat_natCast]); try rfl) rfl (by (simp (disch := omega) only [go_sem, ↓reduceIte, Nat.reduceEqDiff, Nat.reduceAdd, Nat.reduceLeDiff, q1, q2, q3, q4, q5, hlen, hlen', e2, e3, e4, e64, e65, l3, l4, c1, hi, idxA, Int.toNat_natCast]); try rfl) rfl ⟨x1, _, rfl, rfl⟩
      | some l2 =>
        rw [hmf] at hres hmm
        obtain ⟨v, L2, rfl, hown2, hfr2⟩ := hres
        obtain ⟨h3, h4⟩ := hok l2 hmf (hlt0.args.2 _ (List.getElem_mem hlt')) hl1
        simp (disch := omega) only [go_sem, ↓reduceIte, Nat.reduceEqDiff, Nat.reduceAdd, Nat.reduceLeDiff, hG, q1, q2, q3, q4, q5, hlen, hlen', e2, e3, e4, e64, e65, l3, l4, c1, hi, idxA, Int.toNat_natCast]; refine hK _ _ ?_; clear hK K hG G; repeat (first | refine thenI ?_ | refine thenE ?_ | refine thenR ?_ | refine inBI ?_ | refine inBR ?_ | refine inBS ?_ | refine inBN (by decide) ?_)
        repeat (first | (refine W_reg rfl fun G K hG hK => ?_; simp (disch := omega) only [go_sem, ↓reduceIte, Nat.reduceEqDiff, Nat.reduceAdd, Nat.reduceLeDiff, hG, q1, q2, q3, q4, q5, hlen, hlen', e2, e3, e4, e64, e65, l3, l4, c1, hi, idxA, Int.toNat_natCast]; refine hK _ _ ?_; clear hK K hG G) | (refine W_end rfl fun G K hG hK => ?_; simp (disch := omega) only [go_sem, ↓reduceIte, Nat.reduceEqDiff, Nat.reduceAdd, Nat.reduceLeDiff, hG, q1, q2, q3, q4, q5, hlen, hlen', e2, e3, e4, e64, e65, l3, l4, c1, hi, idxA, Int.toNat_natCast]; refine hK _ _ ?_; clear hK K hG G; repeat (first | refine thenI ?_ | refine thenE ?_ | refine thenR ?_ | refine inBI ?_ | refine inBR ?_ | refine inBS ?_ | refine inBN (by decide) ?_)) | refine W_seqS ?_ | refine W_seqC ?_ | refine W_seqB ?_ | refine W_block ?_ | (refine W_skip ?_; repeat (first | refine thenI ?_ | refine thenE ?_ | refine thenR ?_ | refine inBI ?_ | refine inBR ?_ | refine inBS ?_ | refine inBN (by decide) ?_)) | (refine W_condT ?hc ?_; (case hc => (simp (disch := omega) only [go_sem, ↓reduceIte, Nat.reduceEqDiff, Nat.reduceAdd, Nat.reduceLeDiff, q1, q2, q3, q4, q5, hlen, hlen', e2, e3, e4, e64, e65, l3, l4, c1, hi, idxA, Int.toNat_natCast]; done))) | (refine W_condF ?hc ?_; (case hc => (simp (disch := omega) only [go_sem, ↓reduceIte, Nat.reduceEqDiff, Nat.reduceAdd, Nat.reduceLeDiff, q1, q2, q3, q4, q5, hlen, hlen', e2, e3, e4, e64, e65, l3, l4, c1, hi, idxA, Int.toNat_natCast]; done))))
        refine ⟨ps.length - (j + 1), by omega, j + 1, l2, v, L2, rfl, by omega, x1, hown2, hfr2, hmm, h4, by omega, (by (simp (disch := omega) only [go_sem, ↓reduceIte, Nat.reduceEqDiff, Nat.reduceAdd, Nat.reduceLeDiff, q1, q2, q3, q4, q5, hlen, hlen', e2, e3, e4, e64, e65, l3, l4, c1, hi, idxA, Int.toNat_natCast]); try rfl), (by (simp (disch := omega) only [go_sem, ↓reduceIte, Nat.reduceEqDiff, Nat.reduceAdd, Nat.reduceLeDiff, q1, q2, q3, q4, q5, hlen, hlen', e2, e3, e4, e64, e65, l3, l4, c1, hi, idxA, Int.toNat_natCast]); try rfl), (by (simp (disch := omega) only [go_sem, ↓reduceIte, Nat.reduceEqDiff, Nat.reduceAdd, Nat.reduceLeDiff, q1, q2, q3, q4, q5, hlen, hlen', e2, e3, e4, e64, e65, l3, l4, c1, hi, idxA, Int.toNat_natCast]); try rfl), (by (simp (disch := omega) only [go_sem, ↓reduceIte, Nat.reduceEqDiff, Nat.reduceAdd, Nat.reduceLeDiff, q1, q2, q3, q4, q5, hlen, hlen', e2, e3, e4, e64, e65, l3, l4, c1, hi, idxA, Int.toNat_natCast]); try rfl), (by (simp (disch := omega) only [go_sem, ↓reduceIte, Nat.reduceEqDiff, Nat.reduceAdd, Nat.reduceLeDiff, q1, q2, q3, q4, q5, hlen, hlen', e2, e3, e4, e64, e65, l3, l4, c1, hi, idxA, Int.toNat_natCast]); try rfl), (by (simp (disch := omega) only [go_sem, ↓reduceIte, Nat.reduceEqDiff, Nat.reduceAdd, Nat.reduceLeDiff, q1, q2, q3, q4, q5, hlen, hlen', e2, e3, e4, e64, e65, l3, l4, c1, hi, idxA, Int.toNat_natCast]); try rfl), (by (simp (disch := omega) only [go_sem, ↓reduceIte, Nat.reduceEqDiff, Nat.reduceAdd, Nat.reduceLeDiff, q1, q2, q3, q4, q5, hlen, hlen', e2, e3, e4, e64, e65, l3, l4, c1, hi, idxA, Int.toNat_natCast]); try rfl)⟩
    · have c1 : decide ((j : Int) < (ps.length : Int)) = false := by simpa using hlt
      have hjn : j = ps.length := by omega
      subst hjn
      have hnil : ps.drop ps.length = [] := List.drop_length
      rw [hnil] at hmm
      simp only [T.matL] at hmm
      have ol := hown.loc
      repeat (first | (refine W_reg rfl fun G K hG hK => ?_; simp (disch := omega) only [go_sem, ↓reduceIte, Nat.reduceEqDiff, Nat.reduceAdd, Nat.reduceLeDiff, hG, q1, q2, q3, q4, q5, hlen, hlen', e2, e3, e4, e64, e65, l3, l4, c1]; refine hK _ _ ?_; clear hK K hG G) | (refine W_end rfl fun G K hG hK => ?_; simp (disch := omega) only [go_sem, ↓reduceIte, Nat.reduceEqDiff, Nat.reduceAdd, Nat.reduceLeDiff, hG, q1, q2, q3, q4, q5, hlen, hlen', e2, e3, e4, e64, e65, l3, l4, c1]; refine hK _ _ ?_; clear hK K hG G; repeat (first | refine thenI ?_ | refine thenE ?_ | refine thenR ?_ | refine inBI ?_ | refine inBR ?_ | refine inBS ?_ | refine inBN (by decide) ?_)) | refine W_seqS ?_ | refine W_seqC ?_ | refine W_seqB ?_ | refine W_block ?_ | (refine W_skip ?_; repeat (first | refine thenI ?_ | refine thenE ?_ | refine thenR ?_ | refine inBI ?_ | refine inBR ?_ | refine inBS ?_ | refine inBN (by decide) ?_)) | (refine W_condT ?hc ?_; (case hc => (simp (disch := omega) only [go_sem, ↓reduceIte, Nat.reduceEqDiff, Nat.reduceAdd, Nat.reduceLeDiff, q1, q2, q3, q4, q5, hlen, hlen', e2, e3, e4, e64, e65, l3, l4, c1]; done))) | (refine W_condF ?hc ?_; (case hc => (simp (disch := omega) only [go_sem, ↓reduceIte, Nat.reduceEqDiff, Nat.reduceAdd, Nat.reduceLeDiff, q1, q2, q3, q4, q5, hlen, hlen', e2, e3, e4, e64, e65, l3, l4, c1]; done))))
      refine W_exit ?_; repeat (first | refine thenI ?_ | refine thenE ?_ | refine thenR ?_ | refine inBI ?_ | refine inBR ?_ | refine inBS ?_ | refine inBN (by decide) ?_)
      repeat (first | (refine W_reg rfl fun G K hG hK => ?_; simp (disch := omega) only [go_sem, ↓reduceIte, Nat.reduceEqDiff, Nat.reduceAdd, Nat.reduceLeDiff, hG, q1, q2, q3, q4, q5, hlen, hlen', e2, e3, e4, e64, e65, l3, l4, c1]; refine hK _ _ ?_; clear hK K hG G) | (refine W_end rfl fun G K hG hK => ?_; simp (disch := omega) only [go_sem, ↓reduceIte, Nat.reduceEqDiff, Nat.reduceAdd, Nat.reduceLeDiff, hG, q1, q2, q3, q4, q5, hlen, hlen', e2, e3, e4, e64, e65, l3, l4, c1]; refine hK _ _ ?_; clear hK K hG G; repeat (first | refine thenI ?_ | refine thenE ?_ | refine thenR ?_ | refine inBI ?_ | refine inBR ?_ | refine inBS ?_ | refine inBN (by decide) ?_)) | refine W_seqS ?_ | refine W_seqC ?_ | refine W_seqB ?_ | refine W_block ?_ | (refine W_skip ?_; repeat (first | refine thenI ?_ | refine thenE ?_ | refine thenR ?_ | refine inBI ?_ | refine inBR ?_ | refine inBS ?_ | refine inBN (by decide) ?_)) | (refine W_condT ?hc ?_; (case hc => (simp (disch := omega) only [go_sem, ↓reduceIte, Nat.reduceEqDiff, Nat.reduceAdd, Nat.reduceLeDiff, q1, q2, q3, q4, q5, hlen, hlen', e2, e3, e4, e64, e65, l3, l4, c1]; done))) | (refine W_condF ?hc ?_; (case hc => (simp (disch := omega) only [go_sem, ↓reduceIte, Nat.reduceEqDiff, Nat.reduceAdd, Nat.reduceLeDiff, q1, q2, q3, q4, q5, hlen, hlen', e2, e3, e4, e64, e65, l3, l4, c1]; done))))
      rw [← hmm]
      refine W_ret ?_; try (repeat (first | refine thenI ?_ | refine thenE ?_ | refine thenR ?_ | refine inBI ?_ | refine inBR ?_ | refine inBS ?_ | refine inBN (by decide) ?_))
      refine fin2 (.inl rfl) (by (simp (disch := omega) only [go_sem, ↓reduceIte, Nat.reduceEqDiff, Nat.reduceAdd, Nat.reduceLeDiff, q1, q2, q3, q4, q5, hlen, hlen', e2, e3, e4, e64, e65, l3, l4, c1]); try rfl) ol (by (simp (disch := omega) only [go_sem, ↓reduceIte, Nat.reduceEqDiff, Nat.reduceAdd, Nat.reduceLeDiff, q1, q2, q3, q4, q5, hlen, hlen', e2, e3, e4, e64, e65, l3, l4, c1]); try rfl) rfl ⟨hext, r, L1, rfl, hown, hfr⟩
end Go.Proofs.Ytajpafadlgfbaaa.AM


/- Builders: spec.RenameVars, impl.RenameVars. -/
namespace Go.Proofs.Ytajpafadlgfbaaa.AM
open Go Go.Proofs
set_option linter.unusedVariables false
set_option linter.unusedSimpArgs false
set_option maxRecDepth 100000
attribute [local go_sem] List.map_cons List.map_nil List.all_cons List.all_nil Bool.and_self Option.map_some List.getElem?_toArray Option.bind_some gye_b gye_t gsk_b gsk_t gb1 gb2 gb3 gb4 bne_self_eq_false beq_self_eq_true w_guard w_nil stepV_some step_some step_some' w_move w_assign w_pick w_binOp w_unOp w_load w_fieldAddr w_indexAddr w_len w_max w_index ev_max max_int ev_index w_box w_alloc w_store w_field w_extract w_nilCheck w_convert w_buildSlice w_build ev_buildL fillL_nil fillL_cons bs0 bs1 ev_conv ev_bin ev_un ev_pick ev_load ev_fieldAddr ev_indexAddr ev_len ev_field ev_extract ev_nilCheck fr_tmp fr_int fr_bool fr_str fr_nil fr_func put_some put_none bin_lss bin_leq bin_gtr bin_geq bin_eql bin_neq bin_add bin_sub bin_mul bin_seql bin_sneq un_not pick_ ext_ loadA_p cellAt_l cellAt_h okPtr_l okPtr_h fadA_p allocA_l storeA_l cells_agg cells_int cells_str cells_sl cells_bool flat_i flat_s flat_b flat_sl flat_nil loc_agg loc_int loc_str loc_sl loc_bool loc_fn loc_ptr okv_agg okv_int okv_str okv_sl okv_bool cellsFrom splice upd_eval argEnv_zero argEnv_succ ne_eq Nat.add_one_ne_zero not_false_eq_true List.not_mem_nil and_self decide_true List.getElem?_cons_zero List.getElem?_cons_succ List.size_toArray List.length_cons List.length_nil List.take_succ_cons List.take_zero List.drop_succ_cons List.drop_zero List.cons_append List.nil_append List.drop_nil Bool.not_true Bool.not_false Bool.false_eq_true Nat.zero_add Nat.add_zero wrap_in List.toList_toArray List.mem_cons or_self or_false false_or
attribute [local go_sem] ag22 ag24 ag26 ag3 ag47 ag5 ag9 bu26 bu47 bu49 by26 by47 el22 el24 el32 el42 el54 of26_0 of26_1 of26_2 of26_3 of47_0 of47_1 of49_0 of49_1 of49_2 ro26_0 ro26_1 ro26_2 ro3_3 ro47_0 ro47_1 ro9_2 ro9_3 ro9_4 sz22 sz24 sz26 sz3 sz47 sz5 sz9 ze26 ze47

mutual
def T.ren (w : ByteArray) : T → T
  | .mk k n nm args => .mk k n (if k = 1 then nm ++ w else nm) (T.renL w args)
def T.renL (w : ByteArray) : List T → List T
  | [] => []
  | x :: xs => x.ren w :: T.renL w xs
end
theorem T.renL_map (w : ByteArray) (xs : List T) : T.renL w xs = xs.map (T.ren w) := by
  induction xs with
  | nil => rfl
  | cons x xs ih => simp only [T.renL, List.map_cons, ih]

theorem specRen_of (k n : Int) (nm w : ByteArray) (xs : List T) (st : St) (s : Value) (hbig : xs.length ≤ 1073741824) (hsz : nm.size + w.size ≤ 2 ^ 62) (hr : Row (Enc st) 4 st xs s)
    (ih : ∀ x ∈ xs, ∀ st' cs, Enc st' x cs → CallS Try.prog 8 [.agg cs.toArray, .string w] st' fun r st2 => Ext st' st2 ∧ ∃ ds L, r = .agg ds.toArray ∧ OwnT st2 (x.ren w) ds L ∧ Fresh st'.length L) :
    CallS Try.prog 8 [.agg #[.int .i64 k, .int .i64 n, .string nm, s], .string w] st fun r st2 => Ext st st2 ∧ ∃ ds L, r = .agg ds.toArray ∧ OwnT st2 ((T.mk k n nm xs).ren w) ds L ∧ Fresh st.length L := by
  refine CallS_of_W [] 42 Try.func8 rfl rfl rfl rfl (by simp) ?_
  have hlen := row_len hr Try.underlying24
  have n1 := hr.notLoc.1
  have n2 := hr.notLoc.2
  repeat (first | (refine W_reg rfl fun G K hG hK => ?_; simp (disch := omega) only [go_sem, ↓reduceIte, Nat.reduceEqDiff, Nat.reduceAdd, Nat.reduceLeDiff, hG]; refine hK _ _ ?_; clear hK K hG G) | (refine W_end rfl fun G K hG hK => ?_; simp (disch := omega) only [go_sem, ↓reduceIte, Nat.reduceEqDiff, Nat.reduceAdd, Nat.reduceLeDiff, hG]; refine hK _ _ ?_; clear hK K hG G; repeat (first | refine thenI ?_ | refine thenE ?_ | refine thenR ?_ | refine inBI ?_ | refine inBR ?_ | refine inBS ?_ | refine inBN (by decide) ?_)) | refine W_seqS ?_ | refine W_seqC ?_ | refine W_seqB ?_ | refine W_block ?_ | (refine W_skip ?_; repeat (first | refine thenI ?_ | refine thenE ?_ | refine thenR ?_ | refine inBI ?_ | refine inBR ?_ | refine inBS ?_ | refine inBN (by decide) ?_)) | (refine W_condT ?hc ?_; (case hc => (simp (disch := omega) only [go_sem, ↓reduceIte, Nat.reduceEqDiff, Nat.reduceAdd, Nat.reduceLeDiff]; done))) | (refine W_condF ?hc ?_; (case hc => (simp (disch := omega) only [go_sem, ↓reduceIte, Nat.reduceEqDiff, Nat.reduceAdd, Nat.reduceLeDiff]; done))))
  have he : (k == 1) = decide (k = 1) := by rw [Bool.eq_iff_iff]; simp
  rw [he]
  generalize hnm : (if k = 1 then nm ++ w else nm) = nm'
  refine W_to (fun fr st' => st' = st ∧ fr.env 1 = .string w ∧ fr.env 2 = .pointer (some ⟨2, 0, some 1⟩) ∧ fr.env 4 = .pointer (some ⟨4, 0, some 1⟩) ∧ fr.env 5 = .pointer (some ⟨5, 0, some 1⟩)
    ∧ fr.loc 2 = (1, [.int .i64 k, .int .i64 n, .string nm, s]) ∧ fr.loc 5 = (1, [.int .i64 k, .int .i64 n, .string nm', .slice none 0 0]) ∧ (fr.loc 4).1 = 1 ∧ (fr.loc 4).2.length = 4) ?_ ?_
  · refine W_condP (by (simp (disch := omega) only [go_sem, ↓reduceIte, Nat.reduceEqDiff, Nat.reduceAdd, Nat.reduceLeDiff]); try rfl) (fun hk => ?_) (fun hk => ?_)
    · have hadd : ∀ (t : TypeId) (x y : Operand), binE Try.prog .add t x y (.string nm) (.string w) = some (.string (nm ++ w)) := fun t x y => bin_sadd hsz
      repeat (first | (refine W_reg rfl fun G K hG hK => ?_; simp (disch := omega) only [go_sem, ↓reduceIte, Nat.reduceEqDiff, Nat.reduceAdd, Nat.reduceLeDiff, hG, hadd]; refine hK _ _ ?_; clear hK K hG G) | (refine W_end rfl fun G K hG hK => ?_; simp (disch := omega) only [go_sem, ↓reduceIte, Nat.reduceEqDiff, Nat.reduceAdd, Nat.reduceLeDiff, hG, hadd]; refine hK _ _ ?_; clear hK K hG G; repeat (first | refine thenI ?_ | refine thenE ?_ | refine thenR ?_ | refine inBI ?_ | refine inBR ?_ | refine inBS ?_ | refine inBN (by decide) ?_)) | refine W_seqS ?_ | refine W_seqC ?_ | refine W_seqB ?_ | refine W_block ?_ | (refine W_skip ?_; repeat (first | refine thenI ?_ | refine thenE ?_ | refine thenR ?_ | refine inBI ?_ | refine inBR ?_ | refine inBS ?_ | refine inBN (by decide) ?_)) | (refine W_condT ?hc ?_; (case hc => (simp (disch := omega) only [go_sem, ↓reduceIte, Nat.reduceEqDiff, Nat.reduceAdd, Nat.reduceLeDiff, hadd]; done))) | (refine W_condF ?hc ?_; (case hc => (simp (disch := omega) only [go_sem, ↓reduceIte, Nat.reduceEqDiff, Nat.reduceAdd, Nat.reduceLeDiff, hadd]; done))))
      rw [if_pos hk] at hnm
      exact ⟨rfl, (by (simp (disch := omega) only [go_sem, ↓reduceIte, Nat.reduceEqDiff, Nat.reduceAdd, Nat.reduceLeDiff]); try rfl), (by (simp (disch := omega) only [go_sem, ↓reduceIte, Nat.reduceEqDiff, Nat.reduceAdd, Nat.reduceLeDiff]); try rfl), (by (simp (disch := omega) only [go_sem, ↓reduceIte, Nat.reduceEqDiff, Nat.reduceAdd, Nat.reduceLeDiff]); try rfl), (by (simp (disch := omega) only [go_sem, ↓reduceIte, Nat.reduceEqDiff, Nat.reduceAdd, Nat.reduceLeDiff]); try rfl), (by (simp (disch := omega) only [go_sem, ↓reduceIte, Nat.reduceEqDiff, Nat.reduceAdd, Nat.reduceLeDiff]); try rfl), (by simp (disch := omega) only [go_sem, ↓reduceIte, Nat.reduceEqDiff, Nat.reduceAdd, Nat.reduceLeDiff]; rw [hnm]), (by (simp (disch := omega) only [go_sem, ↓reduceIte, Nat.reduceEqDiff, Nat.reduceAdd, Nat.reduceLeDiff]); try rfl), (by (simp (disch := omega) only [go_sem, ↓reduceIte, Nat.reduceEqDiff, Nat.reduceAdd, Nat.reduceLeDiff]); try rfl)⟩
    · repeat (first | (refine W_reg rfl fun G K hG hK => ?_; simp (disch := omega) only [go_sem, ↓reduceIte, Nat.reduceEqDiff, Nat.reduceAdd, Nat.reduceLeDiff, hG]; refine hK _ _ ?_; clear hK K hG G) | (refine W_end rfl fun G K hG hK => ?_; simp (disch := omega) only [go_sem, ↓reduceIte, Nat.reduceEqDiff, Nat.reduceAdd, Nat.reduceLeDiff, hG]; refine hK _ _ ?_; clear hK K hG G; repeat (first | refine thenI ?_ | refine thenE ?_ | refine thenR ?_ | refine inBI ?_ | refine inBR ?_ | refine inBS ?_ | refine inBN (by decide) ?_)) | refine W_seqS ?_ | refine W_seqC ?_ | refine W_seqB ?_ | refine W_block ?_ | (refine W_skip ?_; repeat (first | refine thenI ?_ | refine thenE ?_ | refine thenR ?_ | refine inBI ?_ | refine inBR ?_ | refine inBS ?_ | refine inBN (by decide) ?_)) | (refine W_condT ?hc ?_; (case hc => (simp (disch := omega) only [go_sem, ↓reduceIte, Nat.reduceEqDiff, Nat.reduceAdd, Nat.reduceLeDiff]; done))) | (refine W_condF ?hc ?_; (case hc => (simp (disch := omega) only [go_sem, ↓reduceIte, Nat.reduceEqDiff, Nat.reduceAdd, Nat.reduceLeDiff]; done))))
      rw [if_neg hk] at hnm
      exact ⟨rfl, (by (simp (disch := omega) only [go_sem, ↓reduceIte, Nat.reduceEqDiff, Nat.reduceAdd, Nat.reduceLeDiff]); try rfl), (by (simp (disch := omega) only [go_sem, ↓reduceIte, Nat.reduceEqDiff, Nat.reduceAdd, Nat.reduceLeDiff]); try rfl), (by (simp (disch := omega) only [go_sem, ↓reduceIte, Nat.reduceEqDiff, Nat.reduceAdd, Nat.reduceLeDiff]); try rfl), (by (simp (disch := omega) only [go_sem, ↓reduceIte, Nat.reduceEqDiff, Nat.reduceAdd, Nat.reduceLeDiff]); try rfl), (by (simp (disch := omega) only [go_sem, ↓reduceIte, Nat.reduceEqDiff, Nat.reduceAdd, Nat.reduceLeDiff]); try rfl), (by simp (disch := omega) only [go_sem, ↓reduceIte, Nat.reduceEqDiff, Nat.reduceAdd, Nat.reduceLeDiff]; rw [hnm]), (by (simp (disch := omega) only [go_sem, ↓reduceIte, Nat.reduceEqDiff, Nat.reduceAdd, Nat.reduceLeDiff]); try rfl), (by (simp (disch := omega) only [go_sem, ↓reduceIte, Nat.reduceEqDiff, Nat.reduceAdd, Nat.reduceLeDiff]); try rfl)⟩
  rintro ⟨env, loc⟩ st0 ⟨rfl, e1, e2, e4, e5, l2, l5, l4, l4'⟩
  simp only at e1 e2 e4 e5 l2 l5 l4 l4'
  repeat (first | (refine W_reg rfl fun G K hG hK => ?_; simp (disch := omega) only [go_sem, ↓reduceIte, Nat.reduceEqDiff, Nat.reduceAdd, Nat.reduceLeDiff, hG]; refine hK _ _ ?_; clear hK K hG G) | (refine W_end rfl fun G K hG hK => ?_; simp (disch := omega) only [go_sem, ↓reduceIte, Nat.reduceEqDiff, Nat.reduceAdd, Nat.reduceLeDiff, hG]; refine hK _ _ ?_; clear hK K hG G; repeat (first | refine thenI ?_ | refine thenE ?_ | refine thenR ?_ | refine inBI ?_ | refine inBR ?_ | refine inBS ?_ | refine inBN (by decide) ?_)) | refine W_seqS ?_ | refine W_seqC ?_ | refine W_seqB ?_ | refine W_block ?_ | (refine W_skip ?_; repeat (first | refine thenI ?_ | refine thenE ?_ | refine thenR ?_ | refine inBI ?_ | refine inBR ?_ | refine inBS ?_ | refine inBN (by decide) ?_)) | (refine W_condT ?hc ?_; (case hc => (simp (disch := omega) only [go_sem, ↓reduceIte, Nat.reduceEqDiff, Nat.reduceAdd, Nat.reduceLeDiff]; done))) | (refine W_condF ?hc ?_; (case hc => (simp (disch := omega) only [go_sem, ↓reduceIte, Nat.reduceEqDiff, Nat.reduceAdd, Nat.reduceLeDiff]; done))))
  refine W_loop (fun d fr st' => ∃ (j : Nat) (r : Value) (L : List Nat), d = xs.length - j ∧ j ≤ xs.length ∧ Ext st0 st' ∧ SliceO (Own 26 st') 26 st' ((xs.take j).map (T.ren w)) r L ∧ Fresh st0.length L
    ∧ fr.env 1 = .string w ∧ fr.env 2 = .pointer (some ⟨2, 0, some 1⟩) ∧ fr.env 4 = .pointer (some ⟨4, 0, some 1⟩) ∧ fr.env 5 = .pointer (some ⟨5, 0, some 1⟩) ∧ fr.env 6 = .int .i64 j
    ∧ fr.loc 2 = (1, [.int .i64 k, .int .i64 n, .string nm, s]) ∧ fr.loc 5 = (1, [.int .i64 k, .int .i64 n, .string nm', r]) ∧ (fr.loc 4).1 = 1 ∧ (fr.loc 4).2.length = 4) xs.length ?_ ?_
  · exact ⟨0, .slice none 0 0, [], by omega, by omega, Ext.refl _, .inl ⟨rfl, rfl, rfl⟩, ⟨by simp, by simp⟩, (by (simp (disch := omega) only [go_sem, ↓reduceIte, Nat.reduceEqDiff, Nat.reduceAdd, Nat.reduceLeDiff, e1]); try rfl), (by (simp (disch := omega) only [go_sem, ↓reduceIte, Nat.reduceEqDiff, Nat.reduceAdd, Nat.reduceLeDiff, e2]); try rfl), (by (simp (disch := omega) only [go_sem, ↓reduceIte, Nat.reduceEqDiff, Nat.reduceAdd, Nat.reduceLeDiff, e4]); try rfl), (by (simp (disch := omega) only [go_sem, ↓reduceIte, Nat.reduceEqDiff, Nat.reduceAdd, Nat.reduceLeDiff, e5]); try rfl), (by (simp (disch := omega) only [go_sem, ↓reduceIte, Nat.reduceEqDiff, Nat.reduceAdd, Nat.reduceLeDiff]); try rfl), l2, l5, l4, l4'⟩
  clear e1 e2 e4 e5 l2 l5 l4 l4'
  rintro d ⟨env, loc⟩ st' ⟨j, r, L, hd, hj, hext, hown, hfr, e1, e2, e4, e5, e6, l2, l5, l4, l4'⟩
  simp only at e1 e2 e4 e5 e6 l2 l5 l4 l4'
  have hlen2 : lenE Try.prog 24 s = some (.int .i64 xs.length) := hlen
  by_cases hlt : j < xs.length
  · have c1 : decide ((j : Int) < (xs.length : Int)) = true := by simpa using hlt
    have hx : xs[j]? = some xs[j] := List.getElem?_eq_getElem hlt
    obtain ⟨i, o, c, cs, rfl, hcl, hE, hcs⟩ := row_at hr hx
    have hld := fun loc => load_row (A := []) (loc := loc) ag26 sz26 hcl (hcs.ext hext)
    have hi := idxOk hlt
    have ho := hown.okv
    have hc := hown.cells
    have hl := hown.loc
    repeat (first | (refine W_reg rfl fun G K hG hK => ?_; simp (disch := omega) only [go_sem, ↓reduceIte, Nat.reduceEqDiff, Nat.reduceAdd, Nat.reduceLeDiff, hG, e1, e2, e4, e5, e6, l2, l5, hlen2, c1]; refine hK _ _ ?_; clear hK K hG G) | (refine W_end rfl fun G K hG hK => ?_; simp (disch := omega) only [go_sem, ↓reduceIte, Nat.reduceEqDiff, Nat.reduceAdd, Nat.reduceLeDiff, hG, e1, e2, e4, e5, e6, l2, l5, hlen2, c1]; refine hK _ _ ?_; clear hK K hG G; repeat (first | refine thenI ?_ | refine thenE ?_ | refine thenR ?_ | refine inBI ?_ | refine inBR ?_ | refine inBS ?_ | refine inBN (by decide) ?_)) | refine W_seqS ?_ | refine W_seqC ?_ | refine W_seqB ?_ | refine W_block ?_ | (refine W_skip ?_; repeat (first | refine thenI ?_ | refine thenE ?_ | refine thenR ?_ | refine inBI ?_ | refine inBR ?_ | refine inBS ?_ | refine inBN (by decide) ?_)) | (refine W_condT ?hc ?_; (case hc => (simp (disch := omega) only [go_sem, ↓reduceIte, Nat.reduceEqDiff, Nat.reduceAdd, Nat.reduceLeDiff, e1, e2, e4, e5, e6, l2, l5, hlen2, c1]; done))) | (refine W_condF ?hc ?_; (case hc => (simp (disch := omega) only [go_sem, ↓reduceIte, Nat.reduceEqDiff, Nat.reduceAdd, Nat.reduceLeDiff, e1, e2, e4, e5, e6, l2, l5, hlen2, c1]; done))))
    refine W_endD mixed [] [(0,false),(1,false),(2,false),(3,false),(4,false),(5,false),(6,false),(7,false),(8,true),(9,false),(10,false),(11,false),(12,false)] rfl (by decide +kernel) fun G K hG hK => ?_; simp only [pickOps, List.filterMap_cons, List.filterMap_nil, List.getElem?_cons_zero, List.getElem?_cons_succ, Option.map_some]; simp (disch := omega) only [go_sem, ↓reduceIte, Nat.reduceEqDiff, Nat.reduceAdd, Nat.reduceLeDiff, hG, e1, e2, e4, e5, e6, l2, l5, idxA, Int.toNat_natCast, hi, hld]
    refine w_call (ih xs[j] (List.getElem_mem hlt) st' cs (Enc.ext hext _ _ hE)) (by simp (disch := omega) only [go_sem, ↓reduceIte, Nat.reduceEqDiff]) ?hl ?_
    case hl => first | rfl | (simp only [go_sem, List.all_cons, List.all_nil, Bool.not_false, Bool.and_self]; done)
    rintro r_ s_ ⟨hx1, ds, Lx, rfl, hox, hfx⟩; refine ⟨fun e => hx1, ?_⟩
    obtain ⟨r', st3, L', hap, hown', hfr', hl3, hoth⟩ := Own.step hown hfr hext.length hx1 hox hfx (by simp; omega)
    have ho' := hown'.okv
    have hc' := hown'.cells
    have hn' := hown'.loc
    have hdl := Own.len _ _ _ hox
    simp (disch := omega) only [go_sem, ↓reduceIte, Nat.reduceEqDiff, Nat.reduceAdd, Nat.reduceLeDiff, hG, e1, e2, e4, e5, e6, l2, l5, w_append, hap, ho', hc', hn', hl, ho, hdl, List.toList_toArray]; refine hK _ _ ?_; clear hK K hG G; repeat (first | refine thenI ?_ | refine thenE ?_ | refine thenR ?_ | refine inBI ?_ | refine inBR ?_ | refine inBS ?_ | refine inBN (by decide) ?_)
    repeat (first | (refine W_reg rfl fun G K hG hK => ?_; simp (disch := omega) only [go_sem, ↓reduceIte, Nat.reduceEqDiff, Nat.reduceAdd, Nat.reduceLeDiff, hG, e6]; refine hK _ _ ?_; clear hK K hG G) | (refine W_end rfl fun G K hG hK => ?_; simp (disch := omega) only [go_sem, ↓reduceIte, Nat.reduceEqDiff, Nat.reduceAdd, Nat.reduceLeDiff, hG, e6]; refine hK _ _ ?_; clear hK K hG G; repeat (first | refine thenI ?_ | refine thenE ?_ | refine thenR ?_ | refine inBI ?_ | refine inBR ?_ | refine inBS ?_ | refine inBN (by decide) ?_)) | refine W_seqS ?_ | refine W_seqC ?_ | refine W_seqB ?_ | refine W_block ?_ | (refine W_skip ?_; repeat (first | refine thenI ?_ | refine thenE ?_ | refine thenR ?_ | refine inBI ?_ | refine inBR ?_ | refine inBS ?_ | refine inBN (by decide) ?_)) | (refine W_condT ?hc ?_; (case hc => (simp (disch := omega) only [go_sem, ↓reduceIte, Nat.reduceEqDiff, Nat.reduceAdd, Nat.reduceLeDiff, e6]; done))) | (refine W_condF ?hc ?_; (case hc => (simp (disch := omega) only [go_sem, ↓reduceIte, Nat.reduceEqDiff, Nat.reduceAdd, Nat.reduceLeDiff, e6]; done))))
    have hxt := hext.length
    have htk : (xs.take (j + 1)).map (T.ren w) = (xs.take j).map (T.ren w) ++ [xs[j].ren w] := by rw [List.take_succ_eq_append_getElem hlt, List.map_append]; rfl
    refine ⟨xs.length - (j + 1), by omega, j + 1, r', L', rfl, by omega, Ext.of_get fun q hq => ?_, by rw [htk]; exact hown', hfr', (by (simp (disch := omega) only [go_sem, ↓reduceIte, Nat.reduceEqDiff, Nat.reduceAdd, Nat.reduceLeDiff, e1]); try rfl), (by (simp (disch := omega) only [go_sem, ↓reduceIte, Nat.reduceEqDiff, Nat.reduceAdd, Nat.reduceLeDiff, e2]); try rfl), (by (simp (disch := omega) only [go_sem, ↓reduceIte, Nat.reduceEqDiff, Nat.reduceAdd, Nat.reduceLeDiff, e4]); try rfl), (by (simp (disch := omega) only [go_sem, ↓reduceIte, Nat.reduceEqDiff, Nat.reduceAdd, Nat.reduceLeDiff, e5]); try rfl), (by (simp (disch := omega) only [go_sem, ↓reduceIte, Nat.reduceEqDiff, Nat.reduceAdd, Nat.reduceLeDiff]); try rfl), (by (simp (disch := omega) only [go_sem, ↓reduceIte, Nat.reduceEqDiff, Nat.reduceAdd, Nat.reduceLeDiff, l2]); try rfl), (by (simp (disch := omega) only [go_sem, ↓reduceIte, Nat.reduceEqDiff, Nat.reduceAdd, Nat.reduceLeDiff, l5]); try rfl), (by (simp (disch := omega) only [go_sem, ↓reduceIte, Nat.reduceEqDiff, Nat.reduceAdd, Nat.reduceLeDiff, l4]); try rfl), (by (simp (disch := omega) only [go_sem, ↓reduceIte, Nat.reduceEqDiff, Nat.reduceAdd, Nat.reduceLeDiff, l4']); try rfl)⟩
    rw [hoth q hq, hx1.get (by omega), hext.get hq]
  · have c1 : decide ((j : Int) < (xs.length : Int)) = false := by simpa using hlt
    have hjn : j = xs.length := by omega
    subst hjn
    rw [List.take_length] at hown
    have ho := hown.okv
    have hc := hown.cells
    have hl := hown.loc
    repeat (first | (refine W_reg rfl fun G K hG hK => ?_; simp (disch := omega) only [go_sem, ↓reduceIte, Nat.reduceEqDiff, Nat.reduceAdd, Nat.reduceLeDiff, hG, e1, e2, e4, e5, e6, l2, l5, hlen2, c1]; refine hK _ _ ?_; clear hK K hG G) | (refine W_end rfl fun G K hG hK => ?_; simp (disch := omega) only [go_sem, ↓reduceIte, Nat.reduceEqDiff, Nat.reduceAdd, Nat.reduceLeDiff, hG, e1, e2, e4, e5, e6, l2, l5, hlen2, c1]; refine hK _ _ ?_; clear hK K hG G; repeat (first | refine thenI ?_ | refine thenE ?_ | refine thenR ?_ | refine inBI ?_ | refine inBR ?_ | refine inBS ?_ | refine inBN (by decide) ?_)) | refine W_seqS ?_ | refine W_seqC ?_ | refine W_seqB ?_ | refine W_block ?_ | (refine W_skip ?_; repeat (first | refine thenI ?_ | refine thenE ?_ | refine thenR ?_ | refine inBI ?_ | refine inBR ?_ | refine inBS ?_ | refine inBN (by decide) ?_)) | (refine W_condT ?hc ?_; (case hc => (simp (disch := omega) only [go_sem, ↓reduceIte, Nat.reduceEqDiff, Nat.reduceAdd, Nat.reduceLeDiff, e1, e2, e4, e5, e6, l2, l5, hlen2, c1]; done))) | (refine W_condF ?hc ?_; (case hc => (simp (disch := omega) only [go_sem, ↓reduceIte, Nat.reduceEqDiff, Nat.reduceAdd, Nat.reduceLeDiff, e1, e2, e4, e5, e6, l2, l5, hlen2, c1]; done))))
    refine W_exit ?_; repeat (first | refine thenI ?_ | refine thenE ?_ | refine thenR ?_ | refine inBI ?_ | refine inBR ?_ | refine inBS ?_ | refine inBN (by decide) ?_)
    repeat (first | (refine W_reg rfl fun G K hG hK => ?_; simp (disch := omega) only [go_sem, ↓reduceIte, Nat.reduceEqDiff, Nat.reduceAdd, Nat.reduceLeDiff, hG, e4, e5, l4, l4', l5, ho, hc, hl]; refine hK _ _ ?_; clear hK K hG G) | (refine W_end rfl fun G K hG hK => ?_; simp (disch := omega) only [go_sem, ↓reduceIte, Nat.reduceEqDiff, Nat.reduceAdd, Nat.reduceLeDiff, hG, e4, e5, l4, l4', l5, ho, hc, hl]; refine hK _ _ ?_; clear hK K hG G; repeat (first | refine thenI ?_ | refine thenE ?_ | refine thenR ?_ | refine inBI ?_ | refine inBR ?_ | refine inBS ?_ | refine inBN (by decide) ?_)) | refine W_seqS ?_ | refine W_seqC ?_ | refine W_seqB ?_ | refine W_block ?_ | (refine W_skip ?_; repeat (first | refine thenI ?_ | refine thenE ?_ | refine thenR ?_ | refine inBI ?_ | refine inBR ?_ | refine inBS ?_ | refine inBN (by decide) ?_)) | (refine W_condT ?hc ?_; (case hc => (simp (disch := omega) only [go_sem, ↓reduceIte, Nat.reduceEqDiff, Nat.reduceAdd, Nat.reduceLeDiff, e4, e5, l4, l4', l5, ho, hc, hl]; done))) | (refine W_condF ?hc ?_; (case hc => (simp (disch := omega) only [go_sem, ↓reduceIte, Nat.reduceEqDiff, Nat.reduceAdd, Nat.reduceLeDiff, e4, e5, l4, l4', l5, ho, hc, hl]; done))))
    subst hnm
    refine W_ret ?_; try (repeat (first | refine thenI ?_ | refine thenE ?_ | refine thenR ?_ | refine inBI ?_ | refine inBR ?_ | refine inBS ?_ | refine inBN (by decide) ?_))
    refine finC (.inl rfl) (by (simp (disch := omega) only [go_sem, ↓reduceIte, Nat.reduceEqDiff, Nat.reduceAdd, Nat.reduceLeDiff, e4]); try rfl) ⟨hext, [_, _, _, _], L, rfl, by simp only [T.ren, T.renL_map]; exact Own.close _ _ _ hown, hfr⟩

theorem specRen_ok (w : ByteArray) (hw : w.size ≤ 1073741824) : ∀ (t : T) (st : St) (cs : List Value), Lim 1073741824 t → LimN 1073741824 t → Enc st t cs →
    CallS Try.prog 8 [.agg cs.toArray, .string w] st fun r st2 => Ext st st2 ∧ ∃ ds L, r = .agg ds.toArray ∧ OwnT st2 (t.ren w) ds L ∧ Fresh st.length L := by
  refine T.ind fun k n nm args ih st cs hl hn h => ?_
  obtain ⟨s, rfl, hr⟩ := h.open
  exact specRen_of k n nm w args st s hl.args.1 (by have := hn.args.1; omega) hr fun x hx st' cs he => ih x hx st' cs (hl.args.2 x hx) (hn.args.2 x hx) he
end Go.Proofs.Ytajpafadlgfbaaa.AM


/- A renamed term is a variant, where variables have no arguments. -/
namespace Go.Proofs.Ytajpafadlgfbaaa.AM
open Go Go.Proofs
set_option linter.unusedVariables false
set_option linter.unusedSimpArgs false

/-- Variables are plain, but perhaps at the root. -/
inductive Plain : T → Prop
  | mk (k n : Int) (nm : ByteArray) (args : List T) (hv : k = 1 → n = 0 ∧ args = []) (h : ∀ a ∈ args, Plain a) : Plain (.mk k n nm args)
def PlainB : T → Prop
  | .mk k n nm args => k = 1 ∨ ∀ a ∈ args, Plain a
theorem Plain.b {t : T} (h : Plain t) : PlainB t := by
  cases h with
  | mk k n nm args hv h => exact .inr h
mutual
def T.mapV (f : ByteArray → ByteArray) : T → T
  | .mk k n nm args => .mk k n (if k = 1 then f nm else nm) (T.mapVL f args)
def T.mapVL (f : ByteArray → ByteArray) : List T → List T
  | [] => []
  | x :: xs => x.mapV f :: T.mapVL f xs
end
theorem T.mapVL_map (f : ByteArray → ByteArray) (xs : List T) : T.mapVL f xs = xs.map (T.mapV f) := by
  induction xs with
  | nil => rfl
  | cons x xs ih => simp only [T.mapVL, List.map_cons, ih]
theorem T.ren_mapV (w : ByteArray) : ∀ t : T, t.ren w = t.mapV (fun nm => nm ++ w) := by
  refine T.ind fun k n nm args ih => ?_
  simp only [T.ren, T.mapV, T.renL_map, T.mapVL_map]
  rw [List.map_congr_left ih]
theorem T.id_mapV : ∀ t : T, t.mapV (fun nm => nm) = t := by
  refine T.ind fun k n nm args ih => ?_
  simp only [T.mapV, T.mapVL_map]
  rw [List.map_congr_left (g := id) ih]
  simp
def InvM (f g : ByteArray → ByteArray) (l : List Bnd) : Prop := ∀ b ∈ l, ∃ x, b.nm = f x ∧ b.tm = .mk 1 0 (g x) []
theorem InvM.find {f g : ByteArray → ByteArray} (hfg : ∀ x y, f x = f y → g x = g y) {l : List Bnd} (h : InvM f g l) {nm : ByteArray} {t : T} (hf : findB (f nm) l = some t) : t = .mk 1 0 (g nm) [] := by
  induction l with
  | nil => cases hf
  | cons b bs ih =>
    simp only [findB] at hf
    split at hf
    · rename_i hq
      cases hf
      obtain ⟨x, h1, h2⟩ := h b (by simp)
      have h3 := ba_toList hq
      rw [h1] at h3
      rw [h2, hfg _ _ h3]
    · exact ih (fun c hc => h c (by simp [hc])) hf
theorem mat_mapV (f g : ByteArray → ByteArray) (hfg : ∀ x y, f x = f y → g x = g y) : ∀ (p : T) (l : List Bnd), Plain p → InvM f g l → ∃ l', T.matF (p.mapV f) (p.mapV g) l = some l' ∧ InvM f g l' := by
  refine T.ind fun k n nm args ih l hp hl => ?_
  obtain ⟨_, _, _, _, hv, ha⟩ := hp
  simp only [T.mapV, T.mapVL_map]
  cases hk : (k == 1) with
  | true =>
    have hk1 : k = 1 := by simpa using hk
    obtain ⟨rfl, rfl⟩ := hv hk1
    subst hk1
    rw [T.matF_var hk]
    simp only [if_true, List.map_nil]
    split
    · rename_i hs
      obtain ⟨t, ht⟩ := Option.isSome_iff_exists.1 hs
      have e := hl.find hfg ht
      rw [if_pos (by simp only [findD, ht, Option.getD_some]; rw [e]; exact (T.eqv_iff _ _).2 rfl)]
      exact ⟨l, rfl, hl⟩
    · refine ⟨_, rfl, fun b hb => ?_⟩
      rcases List.mem_append.1 hb with hb | hb
      · exact hl b hb
      · cases List.mem_singleton.1 hb
        exact ⟨nm, rfl, rfl⟩
  | false =>
    have hk1 : ¬ k = 1 := by simpa using hk
    rw [T.matF_app hk]
    simp only [if_neg hk1]
    rw [if_pos (by simp)]
    have hL : ∀ (qs : List T), (∀ q ∈ qs, ∀ l, Plain q → InvM f g l → ∃ l', T.matF (q.mapV f) (q.mapV g) l = some l' ∧ InvM f g l') → (∀ q ∈ qs, Plain q) → ∀ l, InvM f g l → ∃ l', T.matL (qs.map (T.mapV f)) (qs.map (T.mapV g)) l = some l' ∧ InvM f g l' := by
      intro qs
      induction qs with
      | nil => intro _ _ l hl; exact ⟨l, rfl, hl⟩
      | cons q qs ihq =>
        intro h hq l hl
        obtain ⟨l1, h1, h2⟩ := h q (by simp) l (hq q (by simp)) hl
        obtain ⟨l2, h3, h4⟩ := ihq (fun a ha => h a (by simp [ha])) (fun a ha => hq a (by simp [ha])) l1 h2
        exact ⟨l2, by simp only [List.map_cons, T.matL, h1, h3], h4⟩
    exact hL args ih ha l hl
theorem mat_mapVB (f g : ByteArray → ByteArray) (hfg : ∀ x y, f x = f y → g x = g y) (p : T) (hp : PlainB p) : (T.matF (p.mapV f) (p.mapV g) []).isSome = true := by
  obtain ⟨k, n, nm, args⟩ := p
  simp only [T.mapV, T.mapVL_map]
  cases hk : (k == 1) with
  | true => rw [T.matF_var hk]; simp [findB]
  | false =>
    have hk1 : ¬ k = 1 := by simpa using hk
    have ha : ∀ a ∈ args, Plain a := hp.resolve_left hk1
    have h := mat_mapV f g hfg (.mk k n nm args) [] (.mk _ _ _ _ (fun h => absurd h hk1) ha) (fun b hb => by cases hb)
    obtain ⟨l', h1, _⟩ := h
    simp only [T.mapV, T.mapVL_map] at h1
    rw [h1]; rfl
theorem ba_append_right {a b w : ByteArray} (h : a ++ w = b ++ w) : a = b := by
  have h1 : (a ++ w).data.toList = (b ++ w).data.toList := by rw [h]
  simp only [ByteArray.data_append, Array.toList_append] at h1
  exact ByteArray.ext (Array.ext' (List.append_cancel_right h1))
/-- A renamed term is a variant of the term. -/
theorem ren_variant (w : ByteArray) (t : T) (hp : PlainB t) : (T.matF (t.ren w) t []).isSome = true ∧ (T.matF t (t.ren w) []).isSome = true := by
  have h1 := mat_mapVB (fun nm => nm ++ w) (fun nm => nm) (fun x y h => ba_append_right h) t hp
  have h2 := mat_mapVB (fun nm => nm) (fun nm => nm ++ w) (fun x y h => by rw [h]) t hp
  rw [T.id_mapV, ← T.ren_mapV] at h1 h2
  exact ⟨h1, h2⟩
mutual
/-- The nodes of a term. -/
def T.count : T → Nat
  | .mk _ _ _ args => 1 + T.countL args
def T.countL : List T → Nat
  | [] => 0
  | x :: xs => x.count + T.countL xs
end
theorem T.count_mapV (f : ByteArray → ByteArray) : ∀ t : T, (t.mapV f).count = t.count := by
  refine T.ind fun k n nm args ih => ?_
  have hL : ∀ l : List T, (∀ a ∈ l, (a.mapV f).count = a.count) → T.countL (l.map (T.mapV f)) = T.countL l := by
    intro l
    induction l with
    | nil => intro _; rfl
    | cons x xs ihx => intro h; simp only [List.map_cons, T.countL]; rw [h x (by simp), ihx fun a ha => h a (by simp [ha])]
  simp only [T.mapV, T.mapVL_map, T.count]
  rw [hL args ih]
theorem T.count_ren (w : ByteArray) (t : T) : (t.ren w).count = t.count := by rw [T.ren_mapV, T.count_mapV]
end Go.Proofs.Ytajpafadlgfbaaa.AM


/- Sorted lists of names, each once. -/
namespace Go.Proofs.Ytajpafadlgfbaaa.AM
open Go
set_option linter.unusedVariables false
set_option linter.unusedSimpArgs false

/-- The strings' letters. -/
def chs (xs : List ByteArray) : List (List UInt8) := xs.map (fun b => b.data.toList)
/-- .. and back. -/
def unchs (xs : List (List UInt8)) : List ByteArray := xs.map (fun l => (⟨l.toArray⟩ : ByteArray))
theorem unchs_chs (xs : List ByteArray) : unchs (chs xs) = xs := by
  unfold unchs chs
  rw [List.map_map]
  exact (List.map_congr_left (fun b _ => rfl)).trans (List.map_id xs)
theorem chs_length (xs : List ByteArray) : (chs xs).length = xs.length := by simp [chs]
theorem unchs_length (xs : List (List UInt8)) : (unchs xs).length = xs.length := by simp [unchs]
/-- The strings in their order. -/
def sortB (xs : List ByteArray) : List ByteArray := unchs ((chs xs).mergeSort fun x y => decide (x ≤ y))
/-- No string twice in a row. -/
def compS (xs : List ByteArray) : List ByteArray := unchs (Lib.compact (chs xs))
theorem compact_le (zs : List (List UInt8)) : (Lib.compact zs).length ≤ zs.length := by
  unfold Lib.compact Lib.compactUpTo
  rw [List.length_map]
  have := List.length_filter_le (Lib.keeps zs.toArray) (List.range zs.length)
  simpa using this
theorem sortB_length (xs : List ByteArray) : (sortB xs).length = xs.length := by
  unfold sortB
  rw [unchs_length, List.length_mergeSort, chs_length]
theorem lt_cases (a b : List UInt8) : a < b ∨ a = b ∨ b < a := by
  rcases List.le_total a b with h | h
  · rcases List.le_iff_lt_or_eq.1 h with h | h
    · exact .inl h
    · exact .inr (.inl h)
  · rcases List.le_iff_lt_or_eq.1 h with h | h
    · exact .inr (.inr h)
    · exact .inr (.inl h.symm)
/-- Put in its place, unless it is there. -/
def insU (e : List UInt8) : List (List UInt8) → List (List UInt8)
  | [] => [e]
  | x :: xs => if x < e then x :: insU e xs else if x = e then x :: xs else e :: x :: xs
theorem insU_mem (e : List UInt8) (l : List (List UInt8)) (y : List UInt8) : y ∈ insU e l ↔ y = e ∨ y ∈ l := by
  induction l with
  | nil => simp [insU]
  | cons x xs ih =>
    simp only [insU]
    by_cases h1 : x < e
    · rw [if_pos h1]
      simp only [List.mem_cons, ih]
      constructor
      · rintro (h | h | h)
        · exact .inr (.inl h)
        · exact .inl h
        · exact .inr (.inr h)
      · rintro (h | h | h)
        · exact .inr (.inl h)
        · exact .inl h
        · exact .inr (.inr h)
    · rw [if_neg h1]
      by_cases h2 : x = e
      · rw [if_pos h2]
        simp only [List.mem_cons]
        constructor
        · exact .inr
        · rintro (h | h)
          · exact .inl (h.trans h2.symm)
          · exact h
      · rw [if_neg h2]
        simp only [List.mem_cons]
theorem insU_strict (e : List UInt8) (l : List (List UInt8)) (h : l.Pairwise (· < ·)) : (insU e l).Pairwise (· < ·) := by
  induction l with
  | nil => simp [insU]
  | cons x xs ih =>
    obtain ⟨hx, hxs⟩ := List.pairwise_cons.1 h
    simp only [insU]
    by_cases h1 : x < e
    · rw [if_pos h1]
      refine List.pairwise_cons.2 ⟨fun y hy => ?_, ih hxs⟩
      rcases (insU_mem e xs y).1 hy with rfl | hy
      · exact h1
      · exact hx y hy
    · rw [if_neg h1]
      by_cases h2 : x = e
      · rw [if_pos h2]; exact h
      · rw [if_neg h2]
        have h3 : e < x := by
          rcases lt_cases x e with h | h | h
          · exact absurd h h1
          · exact absurd h h2
          · exact h
        refine List.pairwise_cons.2 ⟨fun y hy => ?_, h⟩
        rcases List.mem_cons.1 hy with rfl | hy
        · exact h3
        · exact List.lt_trans h3 (hx y hy)
def insAll (acc l : List (List UInt8)) : List (List UInt8) := l.foldl (fun a e => insU e a) acc
theorem insAll_mem (l : List (List UInt8)) : ∀ (acc : List (List UInt8)) (y : List UInt8), y ∈ insAll acc l ↔ y ∈ acc ∨ y ∈ l := by
  induction l with
  | nil => intro acc y; simp [insAll]
  | cons x xs ih =>
    intro acc y
    have := ih (insU x acc) y
    unfold insAll at this ⊢
    rw [List.foldl_cons, this, insU_mem, List.mem_cons]
    constructor
    · rintro ((h | h) | h)
      · exact .inr (.inl h)
      · exact .inl h
      · exact .inr (.inr h)
    · rintro (h | h | h)
      · exact .inl (.inr h)
      · exact .inl (.inl h)
      · exact .inr h
theorem insAll_strict (l : List (List UInt8)) : ∀ acc : List (List UInt8), acc.Pairwise (· < ·) → (insAll acc l).Pairwise (· < ·) := by
  induction l with
  | nil => intro acc h; exact h
  | cons x xs ih =>
    intro acc h
    exact ih (insU x acc) (insU_strict x acc h)
theorem strict_one {l m : List (List UInt8)} (hl : l.Pairwise (· < ·)) (hm : m.Pairwise (· < ·)) (h : ∀ y, y ∈ l ↔ y ∈ m) : l = m := by
  induction l generalizing m with
  | nil =>
    cases m with
    | nil => rfl
    | cons y ys => exact absurd ((h y).2 List.mem_cons_self) (by simp)
  | cons x xs ih =>
    cases m with
    | nil => exact absurd ((h x).1 List.mem_cons_self) (by simp)
    | cons y ys =>
      obtain ⟨hx, hxs⟩ := List.pairwise_cons.1 hl
      obtain ⟨hy, hys⟩ := List.pairwise_cons.1 hm
      have e : x = y := by
        rcases List.mem_cons.1 ((h x).1 List.mem_cons_self) with h1 | h1
        · exact h1
        · rcases List.mem_cons.1 ((h y).2 List.mem_cons_self) with h2 | h2
          · exact h2.symm
          · exact absurd (List.lt_trans (hy x h1) (hx y h2)) (List.lt_irrefl y)
      subst e
      congr 1
      refine ih hxs hys (fun z => ⟨fun hz => ?_, fun hz => ?_⟩)
      · rcases List.mem_cons.1 ((h z).1 (List.mem_cons_of_mem _ hz)) with h1 | h1
        · subst h1; exact absurd (hx z hz) (List.lt_irrefl z)
        · exact h1
      · rcases List.mem_cons.1 ((h z).2 (List.mem_cons_of_mem _ hz)) with h1 | h1
        · subst h1; exact absurd (hy z hz) (List.lt_irrefl z)
        · exact h1
theorem sorted_of (l : List (List UInt8)) : (l.mergeSort fun x y => decide (x ≤ y)).Pairwise (fun a b => a ≤ b) := by
  have h := List.pairwise_mergeSort (le := fun x y : List UInt8 => decide (x ≤ y)) (fun a b c h1 h2 => by
    simp only [decide_eq_true_eq] at *
    exact List.le_trans h1 h2) (fun a b => by
    simp only [Bool.or_eq_true, decide_eq_true_eq]
    exact List.le_total a b) l
  exact h.imp (fun h => by simpa using h)
theorem compact_facts (zs : List (List UInt8)) (hs : zs.Pairwise (fun a b => a ≤ b)) : ∀ m, m ≤ zs.length → (Lib.compactUpTo zs.toArray m).Pairwise (· < ·) ∧ ∀ y, y ∈ Lib.compactUpTo zs.toArray m ↔ ∃ j, ∃ h : j < zs.length, j < m ∧ zs[j] = y := by
  intro m
  induction m with
  | zero =>
    intro _
    simp [Lib.compactUpTo]
  | succ m ih =>
    intro hm
    obtain ⟨h1, h2⟩ := ih (by omega)
    rw [Lib.compactUpTo_succ]
    have hat : ∀ j, (h : j < zs.length) → zs.toArray[j]! = zs[j] := fun j h => by rw [getElem!_pos _ j (by simpa using h)]; simp
    have hle : ∀ i j, (hi : i < zs.length) → (hj : j < zs.length) → i < j → zs[i] ≤ zs[j] := fun i j hi hj hij => List.pairwise_iff_getElem.1 hs i j hi hj hij
    have hmem : ∀ y, (∃ j, ∃ h : j < zs.length, j < m + 1 ∧ zs[j] = y) ↔ (∃ j, ∃ h : j < zs.length, j < m ∧ zs[j] = y) ∨ y = zs[m] := by
      intro y
      constructor
      · rintro ⟨j, h, hj, e⟩
        rcases Nat.lt_or_ge j m with h3 | h3
        · exact .inl ⟨j, h, h3, e⟩
        · have : j = m := by omega
          subst this
          exact .inr e.symm
      · rintro (⟨j, h, hj, e⟩ | e)
        · exact ⟨j, h, by omega, e⟩
        · exact ⟨m, by omega, by omega, e.symm⟩
    by_cases hk : Lib.keeps zs.toArray m = true
    · rw [if_pos hk, hat m (by omega)]
      constructor
      · refine List.pairwise_append.2 ⟨h1, by simp, fun a ha b hb => ?_⟩
        obtain ⟨j, hj, hjm, e⟩ := (h2 a).1 ha
        rw [List.mem_singleton.1 hb, ← e]
        have hk' : m = 0 ∨ zs.toArray[m]! ≠ zs.toArray[m - 1]! := by simpa [Lib.keeps] using hk
        rcases hk' with hk' | hk'
        · omega
        · rw [hat m (by omega), hat (m - 1) (by omega)] at hk'
          have l1 : zs[m - 1] < zs[m] := by
            rcases List.le_iff_lt_or_eq.1 (hle (m - 1) m (by omega) (by omega) (by omega)) with h | h
            · exact h
            · exact absurd h.symm hk'
          rcases Nat.lt_or_ge j (m - 1) with h3 | h3
          · rcases List.le_iff_lt_or_eq.1 (hle j (m - 1) hj (by omega) h3) with h | h
            · exact List.lt_trans h l1
            · rw [h]; exact l1
          · have : j = m - 1 := by omega
            subst this
            exact l1
      · intro y
        rw [hmem, ← h2, List.mem_append, List.mem_singleton]
    · rw [if_neg hk]
      refine ⟨by simpa using h1, fun y => ?_⟩
      rw [List.append_nil, hmem, ← h2]
      constructor
      · exact .inl
      · rintro (h | h)
        · exact h
        · have hk' : ¬ (m = 0 ∨ zs.toArray[m]! ≠ zs.toArray[m - 1]!) := by simpa [Lib.keeps] using hk
          have hm0 : m ≠ 0 := fun e => hk' (.inl e)
          have he : zs.toArray[m]! = zs.toArray[m - 1]! := Classical.byContradiction fun e => hk' (.inr e)
          rw [hat m (by omega), hat (m - 1) (by omega)] at he
          rw [h, he, h2]
          exact ⟨m - 1, by omega, by omega, rfl⟩
theorem chs_unchs (l : List (List UInt8)) : chs (unchs l) = l := by
  unfold unchs chs
  rw [List.map_map]
  exact (List.map_congr_left (fun b _ => by simp)).trans (List.map_id l)
theorem chs_inj {a b : List ByteArray} (h : chs a = chs b) : a = b := by
  rw [← unchs_chs a, ← unchs_chs b, h]
/-- The list's strings, each once, in their order. -/
def namesB (l : List ByteArray) : List ByteArray := unchs (insAll [] (chs l))
theorem names_strict (l : List ByteArray) : (chs (namesB l)).Pairwise (· < ·) := by
  unfold namesB
  rw [chs_unchs]
  exact insAll_strict _ _ (by simp)
theorem names_mem (l : List ByteArray) (y : List UInt8) : y ∈ chs (namesB l) ↔ y ∈ chs l := by
  unfold namesB
  rw [chs_unchs, insAll_mem]
  simp
theorem sort_same (l : List ByteArray) : compS (sortB l) = namesB l := by
  apply chs_inj
  unfold compS sortB
  rw [chs_unchs, chs_unchs]
  obtain ⟨h1, h2⟩ := compact_facts ((chs l).mergeSort fun x y => decide (x ≤ y)) (sorted_of _) _ (Nat.le_refl _)
  refine strict_one h1 (names_strict l) (fun y => ?_)
  unfold Lib.compact
  rw [h2, names_mem]
  rw [← (List.mergeSort_perm (chs l) (fun x y => decide (x ≤ y))).mem_iff, List.mem_iff_getElem]
  constructor
  · rintro ⟨j, h, _, e⟩
    exact ⟨j, h, e⟩
  · rintro ⟨j, h, e⟩
    exact ⟨j, h, h, e⟩
theorem nodup_le {α : Type} [DecidableEq α] (l : List α) : ∀ m : List α, l.Nodup → (∀ y, y ∈ l → y ∈ m) → l.length ≤ m.length := by
  induction l with
  | nil => intro m _ _; simp
  | cons x xs ih =>
    intro m hn hs
    obtain ⟨h1, h2⟩ := List.nodup_cons.1 hn
    have hx := hs x List.mem_cons_self
    have h3 := ih (m.erase x) h2 (fun y hy => (List.mem_erase_of_ne (fun e => h1 (by rw [← e]; exact hy))).2 (hs y (List.mem_cons_of_mem _ hy)))
    have h4 := List.length_erase_of_mem hx
    have h5 := List.length_pos_of_mem hx
    simp only [List.length_cons]
    omega
theorem strict_nodup {l : List (List UInt8)} (h : l.Pairwise (· < ·)) : l.Nodup := h.imp (fun h e => by subst e; exact List.lt_irrefl _ h)
theorem names_length (l : List ByteArray) : (namesB l).length ≤ l.length := by
  have := nodup_le _ (chs l) (strict_nodup (names_strict l)) (fun y hy => (names_mem l y).1 hy)
  rwa [chs_length, chs_length] at this
theorem nodup_of_length {α : Type} [DecidableEq α] (s : List α) (hs : s.Nodup) (m : List α) (hlen : s.length = m.length) (hm : ∀ y, y ∈ s ↔ y ∈ m) : m.Nodup := by
  refine Classical.byContradiction fun hnd => ?_
  have hsplit : ∀ m : List α, ¬ m.Nodup → ∃ a x b, m = a ++ x :: b ∧ x ∈ b := by
    intro m
    induction m with
    | nil => intro h; exact absurd List.nodup_nil h
    | cons z zs ihz =>
      intro h
      by_cases hz : z ∈ zs
      · exact ⟨[], z, zs, rfl, hz⟩
      · obtain ⟨a, x, b, e, hx⟩ := ihz (fun h' => h (List.nodup_cons.2 ⟨hz, h'⟩))
        exact ⟨z :: a, x, b, by rw [e]; rfl, hx⟩
  obtain ⟨a, x, b, e, hx⟩ := hsplit m hnd
  have h1 := nodup_le s (a ++ b) hs (fun y hy => by
    have := (hm y).1 hy
    rw [e] at this
    rcases List.mem_append.1 this with h | h
    · exact List.mem_append.2 (.inl h)
    · rcases List.mem_cons.1 h with h | h
      · subst h; exact List.mem_append.2 (.inr hx)
      · exact List.mem_append.2 (.inr h))
  rw [hlen, e] at h1
  simp only [List.length_append, List.length_cons] at h1
  omega
/-- A list has no string twice if and only if sorting takes none away. -/
theorem names_all (l : List ByteArray) : (namesB l).length = l.length ↔ (chs l).Nodup := by
  constructor
  · intro h
    exact nodup_of_length _ (strict_nodup (names_strict l)) (chs l) (by rw [chs_length, chs_length]; exact h) (fun y => names_mem l y)
  · intro h
    have h1 := names_length l
    have h2 := nodup_le (chs l) (chs (namesB l)) h (fun y hy => (names_mem l y).2 hy)
    rw [chs_length, chs_length] at h2
    omega
def insB (e : ByteArray) : List ByteArray → List ByteArray
  | [] => [e]
  | x :: xs => if Op.bytesLess x.toList e.toList = true then x :: insB e xs else if x.toList = e.toList then x :: xs else e :: x :: xs
theorem chs_insB (e : ByteArray) (l : List ByteArray) : chs (insB e l) = insU e.data.toList (chs l) := by
  induction l with
  | nil => rfl
  | cons x xs ih =>
    simp only [insB, Go.Proofs.bytesLess_eq, Lib.toList_data, decide_eq_true_eq]
    have e1 : chs (x :: xs) = x.data.toList :: chs xs := rfl
    rw [e1]
    simp only [insU]
    split
    · rw [← ih]; rfl
    · split
      · rfl
      · rfl
theorem insB_length (e : ByteArray) (l : List ByteArray) : (insB e l).length ≤ l.length + 1 := by
  induction l with
  | nil => simp [insB]
  | cons x xs ih =>
    simp only [insB]
    split
    · simp only [List.length_cons]; omega
    · split <;> simp
theorem foldB_length (l : List ByteArray) : ∀ acc : List ByteArray, (l.foldl (fun a e => insB e a) acc).length ≤ acc.length + l.length := by
  induction l with
  | nil => intro acc; simp
  | cons x xs ih =>
    intro acc
    have h1 := ih (insB x acc)
    have h2 := insB_length x acc
    simp only [List.foldl_cons, List.length_cons]
    omega
theorem foldB (l : List ByteArray) : ∀ acc : List ByteArray, chs (l.foldl (fun a e => insB e a) acc) = insAll (chs acc) (chs l) := by
  induction l with
  | nil => intro acc; rfl
  | cons x xs ih =>
    intro acc
    rw [List.foldl_cons, ih, chs_insB]
    rfl
theorem foldB_names (l : List ByteArray) : l.foldl (fun a e => insB e a) [] = namesB l := by
  apply chs_inj
  rw [foldB]
  unfold namesB
  rw [chs_unchs]
  rfl
end Go.Proofs.Ytajpafadlgfbaaa.AM


/- Nodes, depth, names, validity of terms, in plain Lean. -/
namespace Go.Proofs.Ytajpafadlgfbaaa.AM
open Go Go.Proofs
set_option linter.unusedVariables false
set_option linter.unusedSimpArgs false

mutual
def T.depth : T → Nat
  | .mk _ _ _ args => 1 + T.depthL args
def T.depthL : List T → Nat
  | [] => 0
  | x :: xs => max x.depth (T.depthL xs)
end
theorem T.countL_app (xs ys : List T) : T.countL (xs ++ ys) = T.countL xs + T.countL ys := by
  induction xs with
  | nil => simp [T.countL]
  | cons x xs ih => simp only [List.cons_append, T.countL, ih]; omega
theorem T.depthL_app (xs ys : List T) : T.depthL (xs ++ ys) = max (T.depthL xs) (T.depthL ys) := by
  induction xs with
  | nil => simp [T.depthL]
  | cons x xs ih => simp only [List.cons_append, T.depthL, ih]; omega
theorem T.depth_count : ∀ t : T, t.depth ≤ t.count := by
  refine T.ind fun k n nm args ih => ?_
  have hL : ∀ l : List T, (∀ a ∈ l, a.depth ≤ a.count) → T.depthL l ≤ T.countL l := by
    intro l
    induction l with
    | nil => intro _; exact Nat.le_refl _
    | cons x xs ihx =>
      intro h
      have h1 := h x (by simp)
      have h2 := ihx fun a ha => h a (by simp [ha])
      simp only [T.depthL, T.countL]; omega
  have := hL args ih
  simp only [T.depth, T.count]; omega
theorem T.count_pos (t : T) : 1 ≤ t.count := by cases t; simp only [T.count]; omega
theorem T.count_wt : ∀ t : T, t.count ≤ t.wt + 1 := by
  refine T.ind fun k n nm args ih => ?_
  have hL : ∀ l : List T, (∀ a ∈ l, a.count ≤ a.wt + 1) → T.countL l ≤ T.wtL l + l.length := by
    intro l
    induction l with
    | nil => intro _; exact Nat.le_refl _
    | cons x xs ihx =>
      intro h
      have h1 := h x (by simp)
      have h2 := ihx fun a ha => h a (by simp [ha])
      simp only [T.wtL, T.countL, List.length_cons]; omega
  have := hL args ih
  simp only [T.wt, T.count]; omega
theorem T.countL_wt (l : List T) : T.countL l ≤ T.wtL l + l.length := by
  induction l with
  | nil => exact Nat.le_refl _
  | cons x xs ihx =>
    have h1 := T.count_wt x
    simp only [T.wtL, T.countL, List.length_cons]; omega

/-- A small letter, or a digit. -/
def lowDig (b : UInt8) : Bool := (decide (97 ≤ b.toNat) && decide (b.toNat ≤ 122)) || (decide (48 ≤ b.toNat) && decide (b.toNat ≤ 57))
/-- A name: 1 to 8 bytes, the first between two letters, the others small letters and digits. -/
def isNm (lo hi : Nat) : List UInt8 → Bool
  | [] => false
  | b :: bs => (decide (lo ≤ b.toNat) && decide (b.toNat ≤ hi)) && (bs.all lowDig && decide (bs.length ≤ 7))
def isName (s : ByteArray) : Bool := isNm 97 122 s.data.toList
def isVar (s : ByteArray) : Bool := isNm 65 90 s.data.toList
theorem name_var (s : ByteArray) : (isName s && isVar s) = false := by
  unfold isName isVar isNm
  split
  · rfl
  · rename_i b bs h
    by_cases h1 : 97 ≤ b.toNat
    · have h2 : ¬ b.toNat ≤ 90 := by omega
      simp [h1, h2]
    · simp [h1]
def nodeOk (k n : Int) (nm : ByteArray) (args : List T) : Bool :=
  if k = 1 then isVar nm && ((n == 0) && ((args.length : Int) == 0))
  else if k = 2 then isName nm && (n == 0)
  else if k = 3 then (nm.toList == (⟨#[]⟩ : ByteArray).toList) && ((decide (n ≥ 0) && decide (n ≤ 3)) && ((args.length : Int) == 0))
  else false
mutual
def T.nodes : T → Bool
  | .mk k n nm args => T.nodesL args && nodeOk k n nm args
def T.nodesL : List T → Bool
  | [] => true
  | x :: xs => x.nodes && T.nodesL xs
end
theorem T.nodesL_all (xs : List T) : T.nodesL xs = xs.all T.nodes := by
  induction xs with
  | nil => rfl
  | cons x xs ih => simp only [T.nodesL, List.all_cons, ih]
def T.valid (t : T) : Bool := decide (t.count ≤ 60) && (decide (t.depth ≤ 16) && t.nodes)
end Go.Proofs.Ytajpafadlgfbaaa.AM


/- Words: spec.l1In, the built-in operators, the tests for words, their operations. -/
namespace Go.Proofs.Ytajpafadlgfbaaa.AM
open Go Go.Proofs
set_option linter.unusedVariables false
set_option linter.unusedSimpArgs false
set_option maxRecDepth 100000
attribute [local go_sem] List.map_cons List.map_nil List.all_cons List.all_nil Bool.and_self Option.map_some List.getElem?_toArray Option.bind_some gye_b gye_t gsk_b gsk_t gb1 gb2 gb3 gb4 bne_self_eq_false beq_self_eq_true w_guard w_nil stepV_some step_some step_some' w_move w_assign w_pick w_binOp w_unOp w_load w_fieldAddr w_indexAddr w_len w_max w_index ev_max max_int ev_index w_box w_alloc w_store w_field w_extract w_nilCheck w_convert w_buildSlice w_build ev_buildL fillL_nil fillL_cons bs0 bs1 ev_conv ev_bin ev_un ev_pick ev_load ev_fieldAddr ev_indexAddr ev_len ev_field ev_extract ev_nilCheck fr_tmp fr_int fr_bool fr_str fr_nil fr_func put_some put_none bin_lss bin_leq bin_gtr bin_geq bin_eql bin_neq bin_add bin_sub bin_mul bin_seql bin_sneq un_not pick_ ext_ loadA_p cellAt_l cellAt_h okPtr_l okPtr_h fadA_p allocA_l storeA_l cells_agg cells_int cells_str cells_sl cells_bool flat_i flat_s flat_b flat_sl flat_nil loc_agg loc_int loc_str loc_sl loc_bool loc_fn loc_ptr okv_agg okv_int okv_str okv_sl okv_bool cellsFrom splice upd_eval argEnv_zero argEnv_succ ne_eq Nat.add_one_ne_zero not_false_eq_true List.not_mem_nil and_self decide_true List.getElem?_cons_zero List.getElem?_cons_succ List.size_toArray List.length_cons List.length_nil List.take_succ_cons List.take_zero List.drop_succ_cons List.drop_zero List.cons_append List.nil_append List.drop_nil Bool.not_true Bool.not_false Bool.false_eq_true Nat.zero_add Nat.add_zero wrap_in List.toList_toArray List.mem_cons or_self or_false false_or
attribute [local go_sem] ag22 ag24 ag26 ag3 ag47 ag5 ag9 bu26 bu47 bu49 by26 by47 el22 el24 el32 el42 el54 of26_0 of26_1 of26_2 of26_3 of47_0 of47_1 of49_0 of49_1 of49_2 ro26_0 ro26_1 ro26_2 ro3_3 ro47_0 ro47_1 ro9_2 ro9_3 ro9_4 sz22 sz24 sz26 sz3 sz47 sz5 sz9 ze26 ze47

def plusB : ByteArray := ⟨#[112, 108, 117, 115]⟩
def minusB : ByteArray := ⟨#[109, 105, 110, 117, 115]⟩
def timesB : ByteArray := ⟨#[116, 105, 109, 101, 115]⟩
def isB (s : ByteArray) : Bool := s.toList == plusB.toList || (s.toList == minusB.toList || s.toList == timesB.toList)
/-- A word: one of the four. -/
def T.isW : T → Bool
  | .mk k n nm args => (k == 3) && (decide (n ≥ 0) && decide (n ≤ 3)) && (nm.toList == (⟨#[]⟩ : ByteArray).toList) && ((args.length : Int) == 0)
def opW (f : ByteArray) (a b : Int) : Int := if (f.toList == plusB.toList) = true then (a + b).tmod 4 else if (f.toList == minusB.toList) = true then (a - b + 4).tmod 4 else (a * b).tmod 4
theorem op_facts : ∀ a b : _root_.Fin 4, ((((a.1 : Int) + b.1).tmod 4 + 4).tmod 4 = ((a.1 : Int) + b.1).tmod 4 ∧ (((a.1 : Int) - b.1).tmod 4 + 4).tmod 4 = ((a.1 : Int) - b.1 + 4).tmod 4 ∧ (((a.1 : Int) * b.1).tmod 4 + 4).tmod 4 = ((a.1 : Int) * b.1).tmod 4 ∧
    IntKind.i64.wrap ((a.1 : Int) + b.1) = (a.1 : Int) + b.1 ∧ IntKind.i64.wrap ((a.1 : Int) - b.1) = (a.1 : Int) - b.1 ∧ IntKind.i64.wrap ((a.1 : Int) * b.1) = (a.1 : Int) * b.1 ∧ IntKind.i64.wrap ((a.1 : Int) - b.1 + 4) = (a.1 : Int) - b.1 + 4 ∧
    IntKind.i64.wrap (((a.1 : Int) + b.1).tmod 4 + 4) = ((a.1 : Int) + b.1).tmod 4 + 4 ∧ IntKind.i64.wrap (((a.1 : Int) - b.1).tmod 4 + 4) = ((a.1 : Int) - b.1).tmod 4 + 4 ∧ IntKind.i64.wrap (((a.1 : Int) * b.1).tmod 4 + 4) = ((a.1 : Int) * b.1).tmod 4 + 4) := by decide +kernel
theorem op_factsI (a b : Int) (ha : 0 ≤ a ∧ a ≤ 3) (hb : 0 ≤ b ∧ b ≤ 3) : (((a + b).tmod 4 + 4).tmod 4 = (a + b).tmod 4 ∧ ((a - b).tmod 4 + 4).tmod 4 = (a - b + 4).tmod 4 ∧ ((a * b).tmod 4 + 4).tmod 4 = (a * b).tmod 4 ∧
    IntKind.i64.wrap (a + b) = a + b ∧ IntKind.i64.wrap (a - b) = a - b ∧ IntKind.i64.wrap (a * b) = a * b ∧ IntKind.i64.wrap (a - b + 4) = a - b + 4 ∧
    IntKind.i64.wrap ((a + b).tmod 4 + 4) = (a + b).tmod 4 + 4 ∧ IntKind.i64.wrap ((a - b).tmod 4 + 4) = (a - b).tmod 4 + 4 ∧ IntKind.i64.wrap ((a * b).tmod 4 + 4) = (a * b).tmod 4 + 4) := by
  have h := op_facts ⟨a.toNat, by omega⟩ ⟨b.toNat, by omega⟩
  have e1 : ((a.toNat : Nat) : Int) = a := by omega
  have e2 : ((b.toNat : Nat) : Int) = b := by omega
  simp only [e1, e2] at h
  exact h
theorem rem4 {k : IntKind} {P : Program} {t : TypeId} {x y : Operand} {a : Int} : binE P .rem t x y (.int k a) (.int k 4) = some (.int k (a.tmod 4)) := bin_rem (by decide)
end Go.Proofs.Ytajpafadlgfbaaa.AM


/- Names: impl.isNamed, IsName, IsVarName; spec.l2Lower, l2Digit, l2Rest, IsName, IsVarName. -/
namespace Go.Proofs.Ytajpafadlgfbaaa.AM
open Go Go.Proofs
set_option linter.unusedVariables false
set_option linter.unusedSimpArgs false
set_option maxRecDepth 100000
attribute [local go_sem] List.map_cons List.map_nil List.all_cons List.all_nil Bool.and_self Option.map_some List.getElem?_toArray Option.bind_some gye_b gye_t gsk_b gsk_t gb1 gb2 gb3 gb4 bne_self_eq_false beq_self_eq_true w_guard w_nil stepV_some step_some step_some' w_move w_assign w_pick w_binOp w_unOp w_load w_fieldAddr w_indexAddr w_len w_max w_index ev_max max_int ev_index w_box w_alloc w_store w_field w_extract w_nilCheck w_convert w_buildSlice w_build ev_buildL fillL_nil fillL_cons bs0 bs1 ev_conv ev_bin ev_un ev_pick ev_load ev_fieldAddr ev_indexAddr ev_len ev_field ev_extract ev_nilCheck fr_tmp fr_int fr_bool fr_str fr_nil fr_func put_some put_none bin_lss bin_leq bin_gtr bin_geq bin_eql bin_neq bin_add bin_sub bin_mul bin_seql bin_sneq un_not pick_ ext_ loadA_p cellAt_l cellAt_h okPtr_l okPtr_h fadA_p allocA_l storeA_l cells_agg cells_int cells_str cells_sl cells_bool flat_i flat_s flat_b flat_sl flat_nil loc_agg loc_int loc_str loc_sl loc_bool loc_fn loc_ptr okv_agg okv_int okv_str okv_sl okv_bool cellsFrom splice upd_eval argEnv_zero argEnv_succ ne_eq Nat.add_one_ne_zero not_false_eq_true List.not_mem_nil and_self decide_true List.getElem?_cons_zero List.getElem?_cons_succ List.size_toArray List.length_cons List.length_nil List.take_succ_cons List.take_zero List.drop_succ_cons List.drop_zero List.cons_append List.nil_append List.drop_nil Bool.not_true Bool.not_false Bool.false_eq_true Nat.zero_add Nat.add_zero wrap_in List.toList_toArray List.mem_cons or_self or_false false_or
attribute [local go_sem] ag22 ag24 ag26 ag3 ag47 ag5 ag9 bu26 bu47 bu49 by26 by47 el22 el24 el32 el42 el54 of26_0 of26_1 of26_2 of26_3 of47_0 of47_1 of49_0 of49_1 of49_2 ro26_0 ro26_1 ro26_2 ro3_3 ro47_0 ro47_1 ro9_2 ro9_3 ro9_4 sz22 sz24 sz26 sz3 sz47 sz5 sz9 ze26 ze47
-- AUTO

theorem flat_i8 {k : IntKind} {i : Int} : flat (.int k i) = true := rfl
theorem wrap_u8 (x : Int) (h0 : 0 ≤ x) (h1 : x ≤ 255) : IntKind.u8.wrap x = x := by
  rw [IntKind.wrap_u8]; omega
theorem drop_byte {s : ByteArray} {i : Nat} (h : i < s.size) : ∃ b r, s.data.toList.drop i = b :: r ∧ byteAt s i = (b.toNat : Int) ∧ s.data.toList.drop (i + 1) = r := by
  have h5 : i < s.data.toList.length := by simpa using h
  refine ⟨s.data.toList[i], s.data.toList.drop (i + 1), List.drop_eq_getElem_cons h5, ?_, rfl⟩
  unfold byteAt
  rw [List.getD_eq_getElem?_getD, List.getElem?_eq_getElem h5]
  rfl
theorem size_list (s : ByteArray) : s.size = s.data.toList.length := by simp
theorem nm_of {lo hi : Nat} {s : ByteArray} {b : UInt8} {r : List UInt8} (h : s.data.toList = b :: r) : isNm lo hi s.data.toList = ((decide (lo ≤ b.toNat) && decide (b.toNat ≤ hi)) && (r.all lowDig && decide (r.length ≤ 7))) := by rw [h]; rfl
theorem neq_empty {s : ByteArray} : (s.toList == (⟨#[]⟩ : ByteArray).toList) = s.data.toList.isEmpty := by
  rw [Lib.toList_data, Lib.toList_data]
  cases s.data.toList <;> rfl
end Go.Proofs.Ytajpafadlgfbaaa.AM


/- Rows of bytes; the cursor of a draw: spec.l1New, l1Byte, l1Below, l1Once. -/
namespace Go.Proofs.Ytajpafadlgfbaaa.AM
open Go Go.Proofs
set_option linter.unusedVariables false
set_option linter.unusedSimpArgs false
set_option maxRecDepth 100000
attribute [local go_sem] List.map_cons List.map_nil List.all_cons List.all_nil Bool.and_self Option.map_some List.getElem?_toArray Option.bind_some gye_b gye_t gsk_b gsk_t gb1 gb2 gb3 gb4 bne_self_eq_false beq_self_eq_true w_guard w_nil stepV_some step_some step_some' w_move w_assign w_pick w_binOp w_unOp w_load w_fieldAddr w_indexAddr w_len w_max w_index ev_max max_int ev_index w_box w_alloc w_store w_field w_extract w_nilCheck w_convert w_buildSlice w_build ev_buildL fillL_nil fillL_cons bs0 bs1 ev_conv ev_bin ev_un ev_pick ev_load ev_fieldAddr ev_indexAddr ev_len ev_field ev_extract ev_nilCheck fr_tmp fr_int fr_bool fr_str fr_nil fr_func put_some put_none bin_lss bin_leq bin_gtr bin_geq bin_eql bin_neq bin_add bin_sub bin_mul bin_seql bin_sneq un_not pick_ ext_ loadA_p cellAt_l cellAt_h okPtr_l okPtr_h fadA_p allocA_l storeA_l cells_agg cells_int cells_str cells_sl cells_bool flat_i flat_s flat_b flat_sl flat_nil loc_agg loc_int loc_str loc_sl loc_bool loc_fn loc_ptr okv_agg okv_int okv_str okv_sl okv_bool cellsFrom splice upd_eval argEnv_zero argEnv_succ ne_eq Nat.add_one_ne_zero not_false_eq_true List.not_mem_nil and_self decide_true List.getElem?_cons_zero List.getElem?_cons_succ List.size_toArray List.length_cons List.length_nil List.take_succ_cons List.take_zero List.drop_succ_cons List.drop_zero List.cons_append List.nil_append List.drop_nil Bool.not_true Bool.not_false Bool.false_eq_true Nat.zero_add Nat.add_zero wrap_in List.toList_toArray List.mem_cons or_self or_false false_or
attribute [local go_sem] ag22 ag24 ag26 ag3 ag47 ag5 ag9 bu26 bu47 bu49 by26 by47 el22 el24 el32 el42 el54 of26_0 of26_1 of26_2 of26_3 of47_0 of47_1 of49_0 of49_1 of49_2 ro26_0 ro26_1 ro26_2 ro3_3 ro47_0 ro47_1 ro9_2 ro9_3 ro9_4 sz22 sz24 sz26 sz3 sz47 sz5 sz9 ze26 ze47
-- AUTO

/-- A byte of a row. -/
structure Byt where
  v : Int
def EncY (st : St) (b : Byt) (cs : List Value) : Prop := cs = [.int .u8 b.v]
abbrev RowY (st : St) (xs : List Byt) (s : Value) : Prop := Row (EncY st) 1 st xs s
theorem RowY.ext {st st' : St} {xs : List Byt} {s : Value} (h : RowY st xs s) (hx : Ext st st') : RowY st' xs s := Row.mono h hx fun _ _ _ he => he
theorem row_atY {st : St} {xs : List Byt} {s : Value} (h : RowY st xs s) {j : Nat} (hj : j < xs.length) : ∃ i o c, s = .slice (some ⟨i, o, none⟩) xs.length c ∧ cell st i (o + j * 1) = some (.int .u8 xs[j].v) := by
  obtain ⟨i, o, c, cs, rfl, _, hE, hc⟩ := row_at h (List.getElem?_eq_getElem hj)
  have : cs = [.int .u8 xs[j].v] := hE
  subst this
  exact ⟨i, o, c, rfl, hc 0 _ rfl⟩

def andI (a b : Int) : Int := IntKind.i64.wrap (BitVec.ofInt IntKind.i64.bits a &&& BitVec.ofInt IntKind.i64.bits b).toNat
def xorI (a b : Int) : Int := IntKind.i64.wrap (BitVec.ofInt IntKind.i64.bits a ^^^ BitVec.ofInt IntKind.i64.bits b).toNat
section
variable {P : Program} {t : TypeId} {x y : Operand}
theorem bin_and {a b : Int} : binE P .and t x y (.int .i64 a) (.int .i64 b) = some (.int .i64 (andI a b)) := rfl
theorem bin_xor {a b : Int} : binE P .xor t x y (.int .i64 a) (.int .i64 b) = some (.int .i64 (xorI a b)) := rfl
theorem bin_shr33 {a : Int} : binE P .shr t x y (.int .i64 a) (.int .u64 33) = some (.int .i64 (a.fdiv (2 ^ 33))) := rfl
theorem bin_shr45 {a : Int} : binE P .shr t x y (.int .i64 a) (.int .u64 45) = some (.int .i64 (a.fdiv (2 ^ 45))) := rfl
end
theorem and255 (a : Int) : 0 ≤ andI a 255 ∧ andI a 255 ≤ 255 := by
  have h : (BitVec.ofInt IntKind.i64.bits a &&& BitVec.ofInt IntKind.i64.bits 255).toNat ≤ 255 := by
    rw [BitVec.toNat_and]
    exact Nat.le_trans Nat.and_le_right (by decide)
  unfold andI
  generalize (BitVec.ofInt IntKind.i64.bits a &&& BitVec.ofInt IntKind.i64.bits 255).toNat = n at h
  rw [wrap_in (by omega) (by omega)]
  omega

/-- The cursor lies in block q; it goes over the row sb. -/
def Cur (st : St) (q : Nat) (xs : List Byt) : Prop := ∃ sb i h, st[q]? = some ⟨[sb, .int .i64 i, .int .i64 h], 49, 0⟩ ∧ RowY st xs sb ∧ (xs = [] ∨ ∃ b, topId sb = some b ∧ b < q) ∧ 0 ≤ i ∧ i ≤ xs.length ∧ xs.length ≤ 4611686018427387904
theorem far {xs : List Byt} {sb : Value} {q k : Nat} (h : xs = [] ∨ ∃ b, topId sb = some b ∧ b < q) (hk : q ≤ k) : xs = [] ∨ topId sb ≠ some k := h.imp id fun ⟨b, h1, h2⟩ e => by
  rw [h1] at e; cases e; omega
/-- What a draw leaves: the cursor alone has turned; what is new is new. -/
structure Drawn (q : Nat) (xs : List Byt) (st st' : St) : Prop where
  cur : Cur st' q xs
  away : Away (some q) st st'
theorem Away.refl (k : Option Nat) (st : St) : Away k st st := ⟨Nat.le_refl _, fun _ _ _ => rfl⟩
theorem Away.same {k : Option Nat} {a b c : St} (h : Away k a b) (g : Away k b c) : Away k a c := h.trans g (.inl rfl)
theorem Drawn.refl {q : Nat} {xs : List Byt} {st : St} (h : Cur st q xs) : Drawn q xs st st := ⟨h, .refl _ _⟩
theorem Drawn.trans {q : Nat} {xs : List Byt} {a b c : St} (h : Drawn q xs a b) (g : Drawn q xs b c) : Drawn q xs a c := ⟨g.cur, h.away.same g.away⟩
theorem row_away {st st' : St} {xs : List Byt} {s : Value} {q : Nat} (h : RowY st xs s) (ha : Away (some q) st st') (hn : xs = [] ∨ topId s ≠ some q) : RowY st' xs s := by
  rcases h with h | ⟨i, o, c, rfl, h⟩
  · exact .inl h
  · refine .inr ⟨i, o, c, rfl, fun j x hx => ?_⟩
    obtain ⟨cs, h1, h2, h3⟩ := h j x hx
    refine ⟨cs, h1, h2, fun k v hv => ?_⟩
    have h4 := h3 k v hv
    rcases hn with rfl | hn
    · simp at hx
    have hi : i < st.length := by
      unfold cell at h4
      rcases Nat.lt_or_ge i st.length with h5 | h5
      · exact h5
      · rw [List.getElem?_eq_none h5] at h4; cases h4
    have h5 := ha.2 i hi (fun e => hn e.symm)
    unfold cell at h4 ⊢
    rw [h5]; exact h4
theorem Cur.ext {st st' : St} {q : Nat} {xs : List Byt} (h : Cur st q xs) (hx : Ext st st') : Cur st' q xs := by
  obtain ⟨sb, i, h, h1, h2, h3⟩ := h
  exact ⟨sb, i, h, hx q _ h1, h2.ext hx, h3⟩
section
variable {st : St} {q : Nat} {a b c : Value}
theorem cur_cell0 {st : St} {q : Nat} {a b c : Value} {t : TypeId} (h : st[q]? = some ⟨[a, b, c], t, 0⟩) : cell st q 0 = some a := by simp [cell, h]
theorem cur_cell1 {st : St} {q : Nat} {a b c : Value} {t : TypeId} (h : st[q]? = some ⟨[a, b, c], t, 0⟩) : cell st q 1 = some b := by simp [cell, h]
theorem cur_cell2 {st : St} {q : Nat} {a b c : Value} {t : TypeId} (h : st[q]? = some ⟨[a, b, c], t, 0⟩) : cell st q 2 = some c := by simp [cell, h]
theorem cur_set1 {st : St} {q : Nat} {a b c : Value} {t : TypeId} (h : st[q]? = some ⟨[a, b, c], t, 0⟩) (loc : Nat → Nat × List Value) (v : Int) : storeA Try.prog 3 (.pointer (some ⟨q, 1, none⟩)) (.int .i64 v) loc st = some (loc, st.set q ⟨[a, .int .i64 v, c], t, 0⟩) := by
  rw [storeA_h, sz3]
  simp [h, okv_int, cells_int, splice]
theorem cur_set2 {st : St} {q : Nat} {a b c : Value} {t : TypeId} (h : st[q]? = some ⟨[a, b, c], t, 0⟩) (loc : Nat → Nat × List Value) (v : Int) : storeA Try.prog 3 (.pointer (some ⟨q, 2, none⟩)) (.int .i64 v) loc st = some (loc, st.set q ⟨[a, b, .int .i64 v], t, 0⟩) := by
  rw [storeA_h, sz3]
  simp [h, okv_int, cells_int, splice]
end
/-- The cursor stays where a block beyond it has turned. -/
theorem Cur.far {st st' : St} {q k : Nat} {xs : List Byt} (h : Cur st q xs) (ha : Away (some k) st st') (hk : q < k) : Cur st' q xs := by
  obtain ⟨sb, i, h, h1, h2, h3, h4⟩ := h
  have hq := (List.getElem?_eq_some_iff.1 h1).1
  exact ⟨sb, i, h, by rw [ha.2 q hq (fun e => by cases e; omega)]; exact h1, row_away h2 ha (AM.far h3 (by omega)), h3, h4⟩
theorem set_at {st : St} {q : Nat} {b b' : Blk} (h : st[q]? = some b) : (st.set q b')[q]? = some b' := List.getElem?_set_self (List.getElem?_eq_some_iff.1 h).1
theorem set_away {st : St} {q : Nat} {b' : Blk} : Away (some q) st (st.set q b') := ⟨by simp, fun i _ hi => List.getElem?_set_ne (fun e => hi (by rw [e]))⟩

theorem Row.cells1 {α : Type} {E : α → List Value → Prop} {sz : Nat} {st : St} {xs : List α} {s : Value} (h : Row E sz st xs s) : vc s = #[s] := by
  rcases h with ⟨h | h, _⟩ | ⟨i, o, c, rfl, _⟩
  · subst h; rfl
  · subst h; rfl
  · rfl
theorem l1New_ok (xs : List Byt) (st : St) (s : Value) (hbig : xs.length ≤ 4611686018427387904) (hr : RowY st xs s) :
    CallS Try.prog 15 [s] st fun r st2 => r = .pointer (some ⟨st.length, 0, none⟩) ∧ Ext st st2 ∧ Cur st2 st.length xs := by
  refine CallS_of_W [31] 32 Try.func15 rfl rfl rfl rfl (by simp) ?_
  have q1 := hr.notLoc.1
  have q2 := hr.notLoc.2
  have q3 := Row.cells1 hr
  have hlen : lenE Try.prog 22 s = some (.int .i64 xs.length) := row_len hr Try.underlying22
  have hcv := fun n => cvI_int (P := Try.prog) (k := .u8) (k' := .i64) (n := n) Try.underlying5 Try.underlying3
  repeat (first | (refine W_reg rfl fun G K hG hK => ?_; simp (disch := omega) only [go_sem, ↓reduceIte, Nat.reduceEqDiff, Nat.reduceAdd, Nat.reduceLeDiff, hG, q1, hlen, hcv, bin_and]; refine hK _ _ ?_; clear hK K hG G) | (refine W_end rfl fun G K hG hK => ?_; simp (disch := omega) only [go_sem, ↓reduceIte, Nat.reduceEqDiff, Nat.reduceAdd, Nat.reduceLeDiff, hG, q1, hlen, hcv, bin_and]; refine hK _ _ ?_; clear hK K hG G; repeat (first | refine thenI ?_ | refine thenE ?_ | refine thenR ?_ | refine inBI ?_ | refine inBR ?_ | refine inBS ?_ | refine inBN (by decide) ?_)) | refine W_seqS ?_ | refine W_seqC ?_ | refine W_seqB ?_ | refine W_block ?_ | (refine W_skip ?_; repeat (first | refine thenI ?_ | refine thenE ?_ | refine thenR ?_ | refine inBI ?_ | refine inBR ?_ | refine inBS ?_ | refine inBN (by decide) ?_)) | (refine W_condT ?hc ?_; (case hc => (simp (disch := omega) only [go_sem, ↓reduceIte, Nat.reduceEqDiff, Nat.reduceAdd, Nat.reduceLeDiff, q1, hlen, hcv, bin_and]; done))) | (refine W_condF ?hc ?_; (case hc => (simp (disch := omega) only [go_sem, ↓reduceIte, Nat.reduceEqDiff, Nat.reduceAdd, Nat.reduceLeDiff, q1, hlen, hcv, bin_and]; done))))
  refine W_loop (fun d fr st' => ∃ (j : Nat) (h : Int), d = xs.length - j ∧ j ≤ xs.length ∧ (st = st') ∧ (fr.env 0 = s) ∧ (fr.env 3 = .int .i64 h) ∧ (fr.env 4 = .int .i64 j)) (xs.length) ?_ ?_
  · exact ⟨0, _, by omega, by omega, rfl, (by (simp (disch := omega) only [go_sem, ↓reduceIte, Nat.reduceEqDiff, Nat.reduceAdd, Nat.reduceLeDiff, q1, hlen, hcv, bin_and]); try rfl), (by (simp (disch := omega) only [go_sem, ↓reduceIte, Nat.reduceEqDiff, Nat.reduceAdd, Nat.reduceLeDiff, q1, hlen, hcv, bin_and]); try rfl), (by (simp (disch := omega) only [go_sem, ↓reduceIte, Nat.reduceEqDiff, Nat.reduceAdd, Nat.reduceLeDiff, q1, hlen, hcv, bin_and]); try rfl)⟩
  rintro d ⟨env, loc⟩ st' ⟨j, h, hd, hj, hst, e0, e3, e4⟩
  simp only at e0 e3 e4
  subst hst
  have hne : xs = [] ∨ ∃ b, topId s = some b ∧ b < st.length := by
    rcases Nat.eq_zero_or_pos xs.length with h0 | h0
    · exact .inl (List.eq_nil_of_length_eq_zero h0)
    · obtain ⟨i, o, c, rfl, hce⟩ := row_atY hr h0
      refine .inr ⟨i, rfl, ?_⟩
      unfold cell at hce
      rcases Nat.lt_or_ge i st.length with h5 | h5
      · exact h5
      · rw [List.getElem?_eq_none h5] at hce; cases hce
  have hal : ∀ (z : List Value) (t : TypeId) (loc : Nat → Nat × List Value) (st : St), allocA [31] 31 z t loc st = (.pointer (some ⟨st.length, 0, none⟩), loc, st ++ [⟨z, t, 0⟩]) := fun _ _ _ _ => rfl
  have hfin : ∀ h : Int, Cur (st ++ [⟨[s, .int .i64 0, .int .i64 h], 49, 0⟩]) st.length xs := fun h => ⟨s, 0, h, by simp, hr.ext (Ext.app _ _), hne, by omega, by omega, hbig⟩
  by_cases hlt : j < xs.length
  · have c1 : decide ((j : Int) < (xs.length : Int)) = true := by simpa using hlt
    have hi := idxOk hlt
    have hx : xs[j]? = some xs[j] := List.getElem?_eq_getElem hlt
    have htk : xs.take (j + 1) = xs.take j ++ [xs[j]] := List.take_succ_eq_append_getElem hlt
    cases hc4 : decide ((j : Int) < 4000) with
    | false =>
      repeat (first | (refine W_reg rfl fun G K hG hK => ?_; simp (disch := omega) only [go_sem, ↓reduceIte, Nat.reduceEqDiff, Nat.reduceAdd, Nat.reduceLeDiff, hG, q1, hlen, hcv, bin_and, e0, e3, e4, hal, q2, q3, c1, hi, idxA, Int.toNat_natCast, hc4]; refine hK _ _ ?_; clear hK K hG G) | (refine W_end rfl fun G K hG hK => ?_; simp (disch := omega) only [go_sem, ↓reduceIte, Nat.reduceEqDiff, Nat.reduceAdd, Nat.reduceLeDiff, hG, q1, hlen, hcv, bin_and, e0, e3, e4, hal, q2, q3, c1, hi, idxA, Int.toNat_natCast, hc4]; refine hK _ _ ?_; clear hK K hG G; repeat (first | refine thenI ?_ | refine thenE ?_ | refine thenR ?_ | refine inBI ?_ | refine inBR ?_ | refine inBS ?_ | refine inBN (by decide) ?_)) | refine W_seqS ?_ | refine W_seqC ?_ | refine W_seqB ?_ | refine W_block ?_ | (refine W_skip ?_; repeat (first | refine thenI ?_ | refine thenE ?_ | refine thenR ?_ | refine inBI ?_ | refine inBR ?_ | refine inBS ?_ | refine inBN (by decide) ?_)) | (refine W_condT ?hc ?_; (case hc => (simp (disch := omega) only [go_sem, ↓reduceIte, Nat.reduceEqDiff, Nat.reduceAdd, Nat.reduceLeDiff, q1, hlen, hcv, bin_and, e0, e3, e4, hal, q2, q3, c1, hi, idxA, Int.toNat_natCast, hc4]; done))) | (refine W_condF ?hc ?_; (case hc => (simp (disch := omega) only [go_sem, ↓reduceIte, Nat.reduceEqDiff, Nat.reduceAdd, Nat.reduceLeDiff, q1, hlen, hcv, bin_and, e0, e3, e4, hal, q2, q3, c1, hi, idxA, Int.toNat_natCast, hc4]; done))))
      refine W_exit ?_; repeat (first | refine thenI ?_ | refine thenE ?_ | refine thenR ?_ | refine inBI ?_ | refine inBR ?_ | refine inBS ?_ | refine inBN (by decide) ?_)
      repeat (first | (refine W_reg rfl fun G K hG hK => ?_; simp (disch := omega) only [go_sem, ↓reduceIte, Nat.reduceEqDiff, Nat.reduceAdd, Nat.reduceLeDiff, hG, q1, hlen, hcv, bin_and, e0, e3, e4, hal, q2, q3, c1, hi, idxA, Int.toNat_natCast]; refine hK _ _ ?_; clear hK K hG G) | (refine W_end rfl fun G K hG hK => ?_; simp (disch := omega) only [go_sem, ↓reduceIte, Nat.reduceEqDiff, Nat.reduceAdd, Nat.reduceLeDiff, hG, q1, hlen, hcv, bin_and, e0, e3, e4, hal, q2, q3, c1, hi, idxA, Int.toNat_natCast]; refine hK _ _ ?_; clear hK K hG G; repeat (first | refine thenI ?_ | refine thenE ?_ | refine thenR ?_ | refine inBI ?_ | refine inBR ?_ | refine inBS ?_ | refine inBN (by decide) ?_)) | refine W_seqS ?_ | refine W_seqC ?_ | refine W_seqB ?_ | refine W_block ?_ | (refine W_skip ?_; repeat (first | refine thenI ?_ | refine thenE ?_ | refine thenR ?_ | refine inBI ?_ | refine inBR ?_ | refine inBS ?_ | refine inBN (by decide) ?_)) | (refine W_condT ?hc ?_; (case hc => (simp (disch := omega) only [go_sem, ↓reduceIte, Nat.reduceEqDiff, Nat.reduceAdd, Nat.reduceLeDiff, q1, hlen, hcv, bin_and, e0, e3, e4, hal, q2, q3, c1, hi, idxA, Int.toNat_natCast]; done))) | (refine W_condF ?hc ?_; (case hc => (simp (disch := omega) only [go_sem, ↓reduceIte, Nat.reduceEqDiff, Nat.reduceAdd, Nat.reduceLeDiff, q1, hlen, hcv, bin_and, e0, e3, e4, hal, q2, q3, c1, hi, idxA, Int.toNat_natCast]; done))))
      refine W_ret ?_; try (repeat (first | refine thenI ?_ | refine thenE ?_ | refine thenR ?_ | refine inBI ?_ | refine inBR ?_ | refine inBS ?_ | refine inBN (by decide) ?_))
      refine fin1 (.inl rfl) (by (simp (disch := omega) only [go_sem, ↓reduceIte, Nat.reduceEqDiff, Nat.reduceAdd, Nat.reduceLeDiff, q1, hlen, hcv, bin_and, e0, e3, e4, hal, q2, q3, c1, hi, idxA, Int.toNat_natCast]); try rfl) rfl ⟨rfl, Ext.app _ _, hfin h⟩
    | true =>
      obtain ⟨i, o, c, rfl, hce⟩ := row_atY hr hlt
      repeat (first | (refine W_reg rfl fun G K hG hK => ?_; simp (disch := omega) only [go_sem, ↓reduceIte, Nat.reduceEqDiff, Nat.reduceAdd, Nat.reduceLeDiff, hG, q1, hlen, hcv, bin_and, e0, e3, e4, hal, q2, q3, c1, hi, idxA, Int.toNat_natCast, hc4, hce]; refine hK _ _ ?_; clear hK K hG G) | (refine W_end rfl fun G K hG hK => ?_; simp (disch := omega) only [go_sem, ↓reduceIte, Nat.reduceEqDiff, Nat.reduceAdd, Nat.reduceLeDiff, hG, q1, hlen, hcv, bin_and, e0, e3, e4, hal, q2, q3, c1, hi, idxA, Int.toNat_natCast, hc4, hce]; refine hK _ _ ?_; clear hK K hG G; repeat (first | refine thenI ?_ | refine thenE ?_ | refine thenR ?_ | refine inBI ?_ | refine inBR ?_ | refine inBS ?_ | refine inBN (by decide) ?_)) | refine W_seqS ?_ | refine W_seqC ?_ | refine W_seqB ?_ | refine W_block ?_ | (refine W_skip ?_; repeat (first | refine thenI ?_ | refine thenE ?_ | refine thenR ?_ | refine inBI ?_ | refine inBR ?_ | refine inBS ?_ | refine inBN (by decide) ?_)) | (refine W_condT ?hc ?_; (case hc => (simp (disch := omega) only [go_sem, ↓reduceIte, Nat.reduceEqDiff, Nat.reduceAdd, Nat.reduceLeDiff, q1, hlen, hcv, bin_and, e0, e3, e4, hal, q2, q3, c1, hi, idxA, Int.toNat_natCast, hc4, hce]; done))) | (refine W_condF ?hc ?_; (case hc => (simp (disch := omega) only [go_sem, ↓reduceIte, Nat.reduceEqDiff, Nat.reduceAdd, Nat.reduceLeDiff, q1, hlen, hcv, bin_and, e0, e3, e4, hal, q2, q3, c1, hi, idxA, Int.toNat_natCast, hc4, hce]; done))))
      refine ⟨xs.length - (j + 1), by omega, j + 1, _, rfl, by omega, rfl, (by (simp (disch := omega) only [go_sem, ↓reduceIte, Nat.reduceEqDiff, Nat.reduceAdd, Nat.reduceLeDiff, q1, hlen, hcv, bin_and, e0, e3, e4, hal, q2, q3, c1, hi, idxA, Int.toNat_natCast]); try rfl), (by (simp (disch := omega) only [go_sem, ↓reduceIte, Nat.reduceEqDiff, Nat.reduceAdd, Nat.reduceLeDiff, q1, hlen, hcv, bin_and, e0, e3, e4, hal, q2, q3, c1, hi, idxA, Int.toNat_natCast]); try rfl), (by (simp (disch := omega) only [go_sem, ↓reduceIte, Nat.reduceEqDiff, Nat.reduceAdd, Nat.reduceLeDiff, q1, hlen, hcv, bin_and, e0, e3, e4, hal, q2, q3, c1, hi, idxA, Int.toNat_natCast]); try rfl)⟩
  · have c1 : decide ((j : Int) < (xs.length : Int)) = false := by simpa using hlt
    have hjn : j = xs.length := by omega
    subst hjn
    repeat (first | (refine W_reg rfl fun G K hG hK => ?_; simp (disch := omega) only [go_sem, ↓reduceIte, Nat.reduceEqDiff, Nat.reduceAdd, Nat.reduceLeDiff, hG, q1, hlen, hcv, bin_and, e0, e3, e4, c1, hal, q2, q3]; refine hK _ _ ?_; clear hK K hG G) | (refine W_end rfl fun G K hG hK => ?_; simp (disch := omega) only [go_sem, ↓reduceIte, Nat.reduceEqDiff, Nat.reduceAdd, Nat.reduceLeDiff, hG, q1, hlen, hcv, bin_and, e0, e3, e4, c1, hal, q2, q3]; refine hK _ _ ?_; clear hK K hG G; repeat (first | refine thenI ?_ | refine thenE ?_ | refine thenR ?_ | refine inBI ?_ | refine inBR ?_ | refine inBS ?_ | refine inBN (by decide) ?_)) | refine W_seqS ?_ | refine W_seqC ?_ | refine W_seqB ?_ | refine W_block ?_ | (refine W_skip ?_; repeat (first | refine thenI ?_ | refine thenE ?_ | refine thenR ?_ | refine inBI ?_ | refine inBR ?_ | refine inBS ?_ | refine inBN (by decide) ?_)) | (refine W_condT ?hc ?_; (case hc => (simp (disch := omega) only [go_sem, ↓reduceIte, Nat.reduceEqDiff, Nat.reduceAdd, Nat.reduceLeDiff, q1, hlen, hcv, bin_and, e0, e3, e4, c1, hal, q2, q3]; done))) | (refine W_condF ?hc ?_; (case hc => (simp (disch := omega) only [go_sem, ↓reduceIte, Nat.reduceEqDiff, Nat.reduceAdd, Nat.reduceLeDiff, q1, hlen, hcv, bin_and, e0, e3, e4, c1, hal, q2, q3]; done))))
    refine W_exit ?_; repeat (first | refine thenI ?_ | refine thenE ?_ | refine thenR ?_ | refine inBI ?_ | refine inBR ?_ | refine inBS ?_ | refine inBN (by decide) ?_)
    repeat (first | (refine W_reg rfl fun G K hG hK => ?_; simp (disch := omega) only [go_sem, ↓reduceIte, Nat.reduceEqDiff, Nat.reduceAdd, Nat.reduceLeDiff, hG, q1, hlen, hcv, bin_and, e0, e3, e4, c1, hal, q2, q3]; refine hK _ _ ?_; clear hK K hG G) | (refine W_end rfl fun G K hG hK => ?_; simp (disch := omega) only [go_sem, ↓reduceIte, Nat.reduceEqDiff, Nat.reduceAdd, Nat.reduceLeDiff, hG, q1, hlen, hcv, bin_and, e0, e3, e4, c1, hal, q2, q3]; refine hK _ _ ?_; clear hK K hG G; repeat (first | refine thenI ?_ | refine thenE ?_ | refine thenR ?_ | refine inBI ?_ | refine inBR ?_ | refine inBS ?_ | refine inBN (by decide) ?_)) | refine W_seqS ?_ | refine W_seqC ?_ | refine W_seqB ?_ | refine W_block ?_ | (refine W_skip ?_; repeat (first | refine thenI ?_ | refine thenE ?_ | refine thenR ?_ | refine inBI ?_ | refine inBR ?_ | refine inBS ?_ | refine inBN (by decide) ?_)) | (refine W_condT ?hc ?_; (case hc => (simp (disch := omega) only [go_sem, ↓reduceIte, Nat.reduceEqDiff, Nat.reduceAdd, Nat.reduceLeDiff, q1, hlen, hcv, bin_and, e0, e3, e4, c1, hal, q2, q3]; done))) | (refine W_condF ?hc ?_; (case hc => (simp (disch := omega) only [go_sem, ↓reduceIte, Nat.reduceEqDiff, Nat.reduceAdd, Nat.reduceLeDiff, q1, hlen, hcv, bin_and, e0, e3, e4, c1, hal, q2, q3]; done))))
    refine W_ret ?_; try (repeat (first | refine thenI ?_ | refine thenE ?_ | refine thenR ?_ | refine inBI ?_ | refine inBR ?_ | refine inBS ?_ | refine inBN (by decide) ?_))
    refine fin1 (.inl rfl) (by (simp (disch := omega) only [go_sem, ↓reduceIte, Nat.reduceEqDiff, Nat.reduceAdd, Nat.reduceLeDiff, q1, hlen, hcv, bin_and, e0, e3, e4, c1, hal, q2, q3]); try rfl) rfl ⟨rfl, Ext.app _ _, hfin h⟩

theorem l1Byte_ok (q : Nat) (xs : List Byt) (st : St) (hq : Cur st q xs) :
    CallS Try.prog 34 [.pointer (some ⟨q, 0, none⟩)] st fun r st2 => (∃ x : Int, r = .int .i64 x ∧ 0 ≤ x ∧ x ≤ 255) ∧ Drawn q xs st st2 ∧ st2.length = st.length := by
  refine CallS_of_W [] 58 Try.func34 rfl rfl rfl rfl (by simp) ?_
  obtain ⟨sb, i, h, h1, hr, hne, hi0, hi1, hbig⟩ := hq
  obtain ⟨n, rfl⟩ : ∃ n : Nat, i = n := ⟨i.toNat, by omega⟩
  have hlen : lenE Try.prog 22 sb = some (.int .i64 xs.length) := row_len hr Try.underlying22
  have q1 := hr.notLoc.1
  have q2 := hr.notLoc.2
  have hcv := fun n => cvI_int (P := Try.prog) (k := .u8) (k' := .i64) (n := n) Try.underlying5 Try.underlying3
  have c2 := cur_cell2 h1
  have s2 := cur_set2 h1
  repeat (first | (refine W_reg rfl fun G K hG hK => ?_; simp (disch := omega) only [go_sem, ↓reduceIte, Nat.reduceEqDiff, Nat.reduceAdd, Nat.reduceLeDiff, hG, q1, q2, hlen, hcv, bin_and, bin_xor, bin_shr33, bin_shr45, nc_h, okPtr_h, cellAt_h, c2, s2]; refine hK _ _ ?_; clear hK K hG G) | (refine W_end rfl fun G K hG hK => ?_; simp (disch := omega) only [go_sem, ↓reduceIte, Nat.reduceEqDiff, Nat.reduceAdd, Nat.reduceLeDiff, hG, q1, q2, hlen, hcv, bin_and, bin_xor, bin_shr33, bin_shr45, nc_h, okPtr_h, cellAt_h, c2, s2]; refine hK _ _ ?_; clear hK K hG G; repeat (first | refine thenI ?_ | refine thenE ?_ | refine thenR ?_ | refine inBI ?_ | refine inBR ?_ | refine inBS ?_ | refine inBN (by decide) ?_)) | refine W_seqS ?_ | refine W_seqC ?_ | refine W_seqB ?_ | refine W_block ?_ | (refine W_skip ?_; repeat (first | refine thenI ?_ | refine thenE ?_ | refine thenR ?_ | refine inBI ?_ | refine inBR ?_ | refine inBS ?_ | refine inBN (by decide) ?_)) | (refine W_condT ?hc ?_; (case hc => (simp (disch := omega) only [go_sem, ↓reduceIte, Nat.reduceEqDiff, Nat.reduceAdd, Nat.reduceLeDiff, q1, q2, hlen, hcv, bin_and, bin_xor, bin_shr33, bin_shr45, nc_h, okPtr_h, cellAt_h, c2, s2]; done))) | (refine W_condF ?hc ?_; (case hc => (simp (disch := omega) only [go_sem, ↓reduceIte, Nat.reduceEqDiff, Nat.reduceAdd, Nat.reduceLeDiff, q1, q2, hlen, hcv, bin_and, bin_xor, bin_shr33, bin_shr45, nc_h, okPtr_h, cellAt_h, c2, s2]; done))))
  obtain ⟨h2, hh2⟩ : ∃ h2, h2 = IntKind.i64.wrap (IntKind.i64.wrap (h * 6364136223846793005) + 1442695040888963407) := ⟨_, rfl⟩
  rw [← hh2]
  have g1 := set_at (b' := ⟨[sb, .int .i64 (n : Int), .int .i64 h2], 49, 0⟩) h1
  have ha := set_away (st := st) (q := q) (b' := ⟨[sb, .int .i64 (n : Int), .int .i64 h2], 49, 0⟩)
  have hl2 : (st.set q ⟨[sb, .int .i64 (n : Int), .int .i64 h2], 49, 0⟩).length = st.length := by simp
  generalize st.set q ⟨[sb, .int .i64 (n : Int), .int .i64 h2], 49, 0⟩ = st1 at g1 ha hl2 ⊢
  have hr1 := row_away hr ha (far hne (Nat.le_refl q))
  have d0 := cur_cell0 g1
  have d1 := cur_cell1 g1
  have d2 := cur_cell2 g1
  (repeat (first | refine W_seqS ?_ | refine W_seqC ?_ | refine W_seqB ?_ | refine W_block ?_)); refine W_regD mixed [] [(0,false),(1,false),(2,false),(3,false),(4,false),(5,false),(6,false),(7,false),(8,false),(9,false),(10,false),(11,false),(12,false)] rfl (by decide +kernel) fun G K hG hK => ?_; simp only [pickOps, List.filterMap_cons, List.filterMap_nil, List.getElem?_cons_zero, List.getElem?_cons_succ, Option.map_some]; simp (disch := omega) only [go_sem, ↓reduceIte, Nat.reduceEqDiff, Nat.reduceAdd, Nat.reduceLeDiff, hG, q1, q2, hlen, hcv, bin_and, bin_xor, bin_shr33, bin_shr45, nc_h, okPtr_h, cellAt_h, d0, d1, d2]
  refine hK _ _ ?_; clear hK K hG G; repeat (first | refine thenI ?_ | refine thenE ?_ | refine thenR ?_ | refine inBI ?_ | refine inBR ?_ | refine inBS ?_ | refine inBN (by decide) ?_)
  by_cases hlt : n < xs.length
  · have c1 : decide ((n : Int) < (xs.length : Int)) = true := by simpa using hlt
    have hi := idxOk hlt
    obtain ⟨ib, ob, cb, rfl, hce⟩ := row_atY hr1 hlt
    have s1 := cur_set1 g1
    (repeat (first | refine W_seqS ?_ | refine W_seqC ?_ | refine W_seqB ?_ | refine W_block ?_)); refine W_regD mixed [] [(0,false),(1,false),(2,false),(3,false),(4,false),(5,false),(6,false),(7,false),(8,false),(9,false)] rfl (by decide +kernel) fun G K hG hK => ?_; simp only [pickOps, List.filterMap_cons, List.filterMap_nil, List.getElem?_cons_zero, List.getElem?_cons_succ, Option.map_some]; simp (disch := omega) only [go_sem, ↓reduceIte, Nat.reduceEqDiff, Nat.reduceAdd, Nat.reduceLeDiff, hG, q1, q2, hlen, hcv, bin_and, bin_xor, bin_shr33, bin_shr45, nc_h, okPtr_h, cellAt_h, d0, d1, d2, c1]
    refine hK _ _ ?_; clear hK K hG G; repeat (first | refine thenI ?_ | refine thenE ?_ | refine thenR ?_ | refine inBI ?_ | refine inBR ?_ | refine inBS ?_ | refine inBN (by decide) ?_)
    repeat (first | (refine W_reg rfl fun G K hG hK => ?_; simp (disch := omega) only [go_sem, ↓reduceIte, Nat.reduceEqDiff, Nat.reduceAdd, Nat.reduceLeDiff, hG, q1, q2, hlen, hcv, bin_and, bin_xor, bin_shr33, bin_shr45, nc_h, okPtr_h, cellAt_h, d0, d1, d2, c1]; refine hK _ _ ?_; clear hK K hG G) | (refine W_end rfl fun G K hG hK => ?_; simp (disch := omega) only [go_sem, ↓reduceIte, Nat.reduceEqDiff, Nat.reduceAdd, Nat.reduceLeDiff, hG, q1, q2, hlen, hcv, bin_and, bin_xor, bin_shr33, bin_shr45, nc_h, okPtr_h, cellAt_h, d0, d1, d2, c1]; refine hK _ _ ?_; clear hK K hG G; repeat (first | refine thenI ?_ | refine thenE ?_ | refine thenR ?_ | refine inBI ?_ | refine inBR ?_ | refine inBS ?_ | refine inBN (by decide) ?_)) | refine W_seqS ?_ | refine W_seqC ?_ | refine W_seqB ?_ | refine W_block ?_ | (refine W_skip ?_; repeat (first | refine thenI ?_ | refine thenE ?_ | refine thenR ?_ | refine inBI ?_ | refine inBR ?_ | refine inBS ?_ | refine inBN (by decide) ?_)) | (refine W_condT ?hc ?_; (case hc => (simp (disch := omega) only [go_sem, ↓reduceIte, Nat.reduceEqDiff, Nat.reduceAdd, Nat.reduceLeDiff, q1, q2, hlen, hcv, bin_and, bin_xor, bin_shr33, bin_shr45, nc_h, okPtr_h, cellAt_h, d0, d1, d2, c1]; done))) | (refine W_condF ?hc ?_; (case hc => (simp (disch := omega) only [go_sem, ↓reduceIte, Nat.reduceEqDiff, Nat.reduceAdd, Nat.reduceLeDiff, q1, q2, hlen, hcv, bin_and, bin_xor, bin_shr33, bin_shr45, nc_h, okPtr_h, cellAt_h, d0, d1, d2, c1]; done))))
    (repeat (first | refine W_seqS ?_ | refine W_seqC ?_ | refine W_seqB ?_ | refine W_block ?_)); refine W_regD mixed [] [(0,false),(1,false),(2,false),(3,false),(4,false),(5,false),(6,false),(7,false),(8,false),(9,false),(10,false),(11,false),(12,false),(13,false),(14,false)] rfl (by decide +kernel) fun G K hG hK => ?_; simp only [pickOps, List.filterMap_cons, List.filterMap_nil, List.getElem?_cons_zero, List.getElem?_cons_succ, Option.map_some]; simp (disch := omega) only [go_sem, ↓reduceIte, Nat.reduceEqDiff, Nat.reduceAdd, Nat.reduceLeDiff, hG, q1, q2, hlen, hcv, bin_and, bin_xor, bin_shr33, bin_shr45, nc_h, okPtr_h, cellAt_h, d0, d1, d2, hi, idxA, Int.toNat_natCast, hce]
    refine hK _ _ ?_; clear hK K hG G; repeat (first | refine thenI ?_ | refine thenE ?_ | refine thenR ?_ | refine inBI ?_ | refine inBR ?_ | refine inBS ?_ | refine inBN (by decide) ?_)
    repeat (first | (refine W_reg rfl fun G K hG hK => ?_; simp (disch := omega) only [go_sem, ↓reduceIte, Nat.reduceEqDiff, Nat.reduceAdd, Nat.reduceLeDiff, hG, q1, q2, hlen, hcv, bin_and, bin_xor, bin_shr33, bin_shr45, nc_h, okPtr_h, cellAt_h, d0, d1, d2, s1]; refine hK _ _ ?_; clear hK K hG G) | (refine W_end rfl fun G K hG hK => ?_; simp (disch := omega) only [go_sem, ↓reduceIte, Nat.reduceEqDiff, Nat.reduceAdd, Nat.reduceLeDiff, hG, q1, q2, hlen, hcv, bin_and, bin_xor, bin_shr33, bin_shr45, nc_h, okPtr_h, cellAt_h, d0, d1, d2, s1]; refine hK _ _ ?_; clear hK K hG G; repeat (first | refine thenI ?_ | refine thenE ?_ | refine thenR ?_ | refine inBI ?_ | refine inBR ?_ | refine inBS ?_ | refine inBN (by decide) ?_)) | refine W_seqS ?_ | refine W_seqC ?_ | refine W_seqB ?_ | refine W_block ?_ | (refine W_skip ?_; repeat (first | refine thenI ?_ | refine thenE ?_ | refine thenR ?_ | refine inBI ?_ | refine inBR ?_ | refine inBS ?_ | refine inBN (by decide) ?_)) | (refine W_condT ?hc ?_; (case hc => (simp (disch := omega) only [go_sem, ↓reduceIte, Nat.reduceEqDiff, Nat.reduceAdd, Nat.reduceLeDiff, q1, q2, hlen, hcv, bin_and, bin_xor, bin_shr33, bin_shr45, nc_h, okPtr_h, cellAt_h, d0, d1, d2, s1]; done))) | (refine W_condF ?hc ?_; (case hc => (simp (disch := omega) only [go_sem, ↓reduceIte, Nat.reduceEqDiff, Nat.reduceAdd, Nat.reduceLeDiff, q1, q2, hlen, hcv, bin_and, bin_xor, bin_shr33, bin_shr45, nc_h, okPtr_h, cellAt_h, d0, d1, d2, s1]; done))))
    refine W_ret ?_; try (repeat (first | refine thenI ?_ | refine thenE ?_ | refine thenR ?_ | refine inBI ?_ | refine inBR ?_ | refine inBS ?_ | refine inBN (by decide) ?_))
    refine fin1 (.inl rfl) (by (simp (disch := omega) only [go_sem, ↓reduceIte, Nat.reduceEqDiff, Nat.reduceAdd, Nat.reduceLeDiff, q1, q2, hlen, hcv, bin_and, bin_xor, bin_shr33, bin_shr45, nc_h, okPtr_h, cellAt_h, d0, d1, d2]); try rfl) rfl ⟨⟨_, rfl, and255 _⟩, ⟨⟨_, (n : Int) + 1, h2, set_at g1, row_away hr1 set_away (far hne (Nat.le_refl q)), hne, by omega, by omega, hbig⟩, ha.same set_away⟩, by rw [List.length_set, hl2]⟩
  · have c1 : decide ((n : Int) < (xs.length : Int)) = false := by simpa using hlt
    (repeat (first | refine W_seqS ?_ | refine W_seqC ?_ | refine W_seqB ?_ | refine W_block ?_)); refine W_regD mixed [] [(0,false),(1,false),(2,false),(3,false),(4,false),(5,false),(6,false),(7,false),(8,false),(9,false)] rfl (by decide +kernel) fun G K hG hK => ?_; simp only [pickOps, List.filterMap_cons, List.filterMap_nil, List.getElem?_cons_zero, List.getElem?_cons_succ, Option.map_some]; simp (disch := omega) only [go_sem, ↓reduceIte, Nat.reduceEqDiff, Nat.reduceAdd, Nat.reduceLeDiff, hG, q1, q2, hlen, hcv, bin_and, bin_xor, bin_shr33, bin_shr45, nc_h, okPtr_h, cellAt_h, d0, d1, d2, c1]
    refine hK _ _ ?_; clear hK K hG G; repeat (first | refine thenI ?_ | refine thenE ?_ | refine thenR ?_ | refine inBI ?_ | refine inBR ?_ | refine inBS ?_ | refine inBN (by decide) ?_)
    repeat (first | (refine W_reg rfl fun G K hG hK => ?_; simp (disch := omega) only [go_sem, ↓reduceIte, Nat.reduceEqDiff, Nat.reduceAdd, Nat.reduceLeDiff, hG, q1, q2, hlen, hcv, bin_and, bin_xor, bin_shr33, bin_shr45, nc_h, okPtr_h, cellAt_h, d0, d1, d2, c1]; refine hK _ _ ?_; clear hK K hG G) | (refine W_end rfl fun G K hG hK => ?_; simp (disch := omega) only [go_sem, ↓reduceIte, Nat.reduceEqDiff, Nat.reduceAdd, Nat.reduceLeDiff, hG, q1, q2, hlen, hcv, bin_and, bin_xor, bin_shr33, bin_shr45, nc_h, okPtr_h, cellAt_h, d0, d1, d2, c1]; refine hK _ _ ?_; clear hK K hG G; repeat (first | refine thenI ?_ | refine thenE ?_ | refine thenR ?_ | refine inBI ?_ | refine inBR ?_ | refine inBS ?_ | refine inBN (by decide) ?_)) | refine W_seqS ?_ | refine W_seqC ?_ | refine W_seqB ?_ | refine W_block ?_ | (refine W_skip ?_; repeat (first | refine thenI ?_ | refine thenE ?_ | refine thenR ?_ | refine inBI ?_ | refine inBR ?_ | refine inBS ?_ | refine inBN (by decide) ?_)) | (refine W_condT ?hc ?_; (case hc => (simp (disch := omega) only [go_sem, ↓reduceIte, Nat.reduceEqDiff, Nat.reduceAdd, Nat.reduceLeDiff, q1, q2, hlen, hcv, bin_and, bin_xor, bin_shr33, bin_shr45, nc_h, okPtr_h, cellAt_h, d0, d1, d2, c1]; done))) | (refine W_condF ?hc ?_; (case hc => (simp (disch := omega) only [go_sem, ↓reduceIte, Nat.reduceEqDiff, Nat.reduceAdd, Nat.reduceLeDiff, q1, q2, hlen, hcv, bin_and, bin_xor, bin_shr33, bin_shr45, nc_h, okPtr_h, cellAt_h, d0, d1, d2, c1]; done))))
    refine W_ret ?_; try (repeat (first | refine thenI ?_ | refine thenE ?_ | refine thenR ?_ | refine inBI ?_ | refine inBR ?_ | refine inBS ?_ | refine inBN (by decide) ?_))
    refine fin1 (.inl rfl) (by (simp (disch := omega) only [go_sem, ↓reduceIte, Nat.reduceEqDiff, Nat.reduceAdd, Nat.reduceLeDiff, q1, q2, hlen, hcv, bin_and, bin_xor, bin_shr33, bin_shr45, nc_h, okPtr_h, cellAt_h, d0, d1, d2]); try rfl) rfl ⟨⟨_, rfl, and255 _⟩, ⟨⟨_, (n : Int), h2, g1, hr1, hne, by omega, by omega, hbig⟩, ha⟩, hl2⟩
/-- A number drawn below n. -/
theorem l1Below_ok (q : Nat) (xs : List Byt) (st : St) (n : Int) (hn0 : 0 < n) (hn1 : n ≤ 256) (hq : Cur st q xs) :
    CallS Try.prog 25 [.pointer (some ⟨q, 0, none⟩), .int .i64 n] st fun r st2 => (∃ x : Int, r = .int .i64 x ∧ 0 ≤ x ∧ x < n) ∧ Drawn q xs st st2 ∧ st2.length = st.length := by
  refine CallS_of_W [] 37 Try.func25 rfl rfl rfl rfl (by simp) ?_
  have c1 : decide (n ≤ 0) = false := by simp; omega
  have c2 : decide (n ≤ 256) = true := by simp; omega
  have hrem : ∀ (t : TypeId) (x y : Operand) (a : Int), binE Try.prog .rem t x y (.int .i64 a) (.int .i64 n) = some (.int .i64 (a.tmod n)) := fun t x y a => bin_rem (by omega)
  repeat (first | (refine W_reg rfl fun G K hG hK => ?_; simp (disch := omega) only [go_sem, ↓reduceIte, Nat.reduceEqDiff, Nat.reduceAdd, Nat.reduceLeDiff, hG, c1, c2]; refine hK _ _ ?_; clear hK K hG G) | (refine W_end rfl fun G K hG hK => ?_; simp (disch := omega) only [go_sem, ↓reduceIte, Nat.reduceEqDiff, Nat.reduceAdd, Nat.reduceLeDiff, hG, c1, c2]; refine hK _ _ ?_; clear hK K hG G; repeat (first | refine thenI ?_ | refine thenE ?_ | refine thenR ?_ | refine inBI ?_ | refine inBR ?_ | refine inBS ?_ | refine inBN (by decide) ?_)) | refine W_seqS ?_ | refine W_seqC ?_ | refine W_seqB ?_ | refine W_block ?_ | (refine W_skip ?_; repeat (first | refine thenI ?_ | refine thenE ?_ | refine thenR ?_ | refine inBI ?_ | refine inBR ?_ | refine inBS ?_ | refine inBN (by decide) ?_)) | (refine W_condT ?hc ?_; (case hc => (simp (disch := omega) only [go_sem, ↓reduceIte, Nat.reduceEqDiff, Nat.reduceAdd, Nat.reduceLeDiff, c1, c2]; done))) | (refine W_condF ?hc ?_; (case hc => (simp (disch := omega) only [go_sem, ↓reduceIte, Nat.reduceEqDiff, Nat.reduceAdd, Nat.reduceLeDiff, c1, c2]; done))))
  (repeat (first | refine W_seqS ?_ | refine W_seqC ?_ | refine W_seqB ?_ | refine W_block ?_)); refine W_reg rfl fun G K hG hK => ?_; simp (disch := omega) only [go_sem, ↓reduceIte, Nat.reduceEqDiff, Nat.reduceAdd, Nat.reduceLeDiff, hG]
  refine w_call (l1Byte_ok q xs st hq) (by simp (disch := omega) only [go_sem, ↓reduceIte, Nat.reduceEqDiff]) ?hl ?_
  case hl => first | rfl | (simp only [go_sem, List.all_cons, List.all_nil, Bool.not_false, Bool.and_self]; done)
  rintro r_ sa ⟨⟨x, rfl, hx0, hx1⟩, hd, hl⟩; refine ⟨fun e => (by cases e), ?_⟩
  simp (disch := omega) only [go_sem, ↓reduceIte, Nat.reduceEqDiff, Nat.reduceAdd, Nat.reduceLeDiff, hG, hrem]; refine hK _ _ ?_; clear hK K hG G; repeat (first | refine thenI ?_ | refine thenE ?_ | refine thenR ?_ | refine inBI ?_ | refine inBR ?_ | refine inBS ?_ | refine inBN (by decide) ?_)
  repeat (first | (refine W_reg rfl fun G K hG hK => ?_; simp (disch := omega) only [go_sem, ↓reduceIte, Nat.reduceEqDiff, Nat.reduceAdd, Nat.reduceLeDiff, hG]; refine hK _ _ ?_; clear hK K hG G) | (refine W_end rfl fun G K hG hK => ?_; simp (disch := omega) only [go_sem, ↓reduceIte, Nat.reduceEqDiff, Nat.reduceAdd, Nat.reduceLeDiff, hG]; refine hK _ _ ?_; clear hK K hG G; repeat (first | refine thenI ?_ | refine thenE ?_ | refine thenR ?_ | refine inBI ?_ | refine inBR ?_ | refine inBS ?_ | refine inBN (by decide) ?_)) | refine W_seqS ?_ | refine W_seqC ?_ | refine W_seqB ?_ | refine W_block ?_ | (refine W_skip ?_; repeat (first | refine thenI ?_ | refine thenE ?_ | refine thenR ?_ | refine inBI ?_ | refine inBR ?_ | refine inBS ?_ | refine inBN (by decide) ?_)) | (refine W_condT ?hc ?_; (case hc => (simp (disch := omega) only [go_sem, ↓reduceIte, Nat.reduceEqDiff, Nat.reduceAdd, Nat.reduceLeDiff]; done))) | (refine W_condF ?hc ?_; (case hc => (simp (disch := omega) only [go_sem, ↓reduceIte, Nat.reduceEqDiff, Nat.reduceAdd, Nat.reduceLeDiff]; done))))
  refine W_ret ?_; try (repeat (first | refine thenI ?_ | refine thenE ?_ | refine thenR ?_ | refine inBI ?_ | refine inBR ?_ | refine inBS ?_ | refine inBN (by decide) ?_))
  refine fin1 (.inl rfl) (by (simp (disch := omega) only [go_sem, ↓reduceIte, Nat.reduceEqDiff, Nat.reduceAdd, Nat.reduceLeDiff]); try rfl) rfl ⟨⟨_, rfl, Int.tmod_nonneg _ hx0, Int.tmod_lt_of_pos _ hn0⟩, hd, hl⟩
theorem l1Once_ok (q : Nat) (xs : List Byt) (st : St) (n : Int) (hn0 : 0 < n) (hn1 : n ≤ 256) (hq : Cur st q xs) :
    CallS Try.prog 26 [.pointer (some ⟨q, 0, none⟩), .int .i64 n] st fun r st2 => (∃ b : Bool, r = .bool b) ∧ Drawn q xs st st2 ∧ st2.length = st.length := by
  refine CallS_of_W [] 9 Try.func26 rfl rfl rfl rfl (by simp) ?_
  repeat (first | (refine W_reg rfl fun G K hG hK => ?_; simp (disch := omega) only [go_sem, ↓reduceIte, Nat.reduceEqDiff, Nat.reduceAdd, Nat.reduceLeDiff, hG]; refine hK _ _ ?_; clear hK K hG G) | (refine W_end rfl fun G K hG hK => ?_; simp (disch := omega) only [go_sem, ↓reduceIte, Nat.reduceEqDiff, Nat.reduceAdd, Nat.reduceLeDiff, hG]; refine hK _ _ ?_; clear hK K hG G; repeat (first | refine thenI ?_ | refine thenE ?_ | refine thenR ?_ | refine inBI ?_ | refine inBR ?_ | refine inBS ?_ | refine inBN (by decide) ?_)) | refine W_seqS ?_ | refine W_seqC ?_ | refine W_seqB ?_ | refine W_block ?_ | (refine W_skip ?_; repeat (first | refine thenI ?_ | refine thenE ?_ | refine thenR ?_ | refine inBI ?_ | refine inBR ?_ | refine inBS ?_ | refine inBN (by decide) ?_)) | (refine W_condT ?hc ?_; (case hc => (simp (disch := omega) only [go_sem, ↓reduceIte, Nat.reduceEqDiff, Nat.reduceAdd, Nat.reduceLeDiff]; done))) | (refine W_condF ?hc ?_; (case hc => (simp (disch := omega) only [go_sem, ↓reduceIte, Nat.reduceEqDiff, Nat.reduceAdd, Nat.reduceLeDiff]; done))))
  (repeat (first | refine W_seqS ?_ | refine W_seqC ?_ | refine W_seqB ?_ | refine W_block ?_)); refine W_reg rfl fun G K hG hK => ?_; simp (disch := omega) only [go_sem, ↓reduceIte, Nat.reduceEqDiff, Nat.reduceAdd, Nat.reduceLeDiff, hG]
  refine w_call (l1Below_ok q xs st n hn0 hn1 hq) (by simp (disch := omega) only [go_sem, ↓reduceIte, Nat.reduceEqDiff]) ?hl ?_
  case hl => first | rfl | (simp only [go_sem, List.all_cons, List.all_nil, Bool.not_false, Bool.and_self]; done)
  rintro r_ sa ⟨⟨x, rfl, hx0, hx1⟩, hd, hl⟩; refine ⟨fun e => (by cases e), ?_⟩
  simp (disch := omega) only [go_sem, ↓reduceIte, Nat.reduceEqDiff, Nat.reduceAdd, Nat.reduceLeDiff, hG]; refine hK _ _ ?_; clear hK K hG G; repeat (first | refine thenI ?_ | refine thenE ?_ | refine thenR ?_ | refine inBI ?_ | refine inBR ?_ | refine inBS ?_ | refine inBN (by decide) ?_)
  refine W_ret ?_; try (repeat (first | refine thenI ?_ | refine thenE ?_ | refine thenR ?_ | refine inBI ?_ | refine inBR ?_ | refine inBS ?_ | refine inBN (by decide) ?_))
  refine fin1 (.inl rfl) (by (simp (disch := omega) only [go_sem, ↓reduceIte, Nat.reduceEqDiff, Nat.reduceAdd, Nat.reduceLeDiff]); try rfl) rfl ⟨⟨_, rfl⟩, hd, hl⟩
end Go.Proofs.Ytajpafadlgfbaaa.AM


/- Rows of strings: laws.toStringS, laws.szStringS, laws.eqStringS, laws.markStringS, laws.heldStringS. -/
namespace Go.Proofs.Ytajpafadlgfbaaa.AM
open Go Go.Proofs
set_option linter.unusedVariables false
set_option linter.unusedSimpArgs false
set_option maxRecDepth 100000
attribute [local go_sem] List.map_cons List.map_nil List.all_cons List.all_nil Bool.and_self Option.map_some List.getElem?_toArray Option.bind_some gye_b gye_t gsk_b gsk_t gb1 gb2 gb3 gb4 bne_self_eq_false beq_self_eq_true w_guard w_nil stepV_some step_some step_some' w_move w_assign w_pick w_binOp w_unOp w_load w_fieldAddr w_indexAddr w_len w_max w_index ev_max max_int ev_index w_box w_alloc w_store w_field w_extract w_nilCheck w_convert w_buildSlice w_build ev_buildL fillL_nil fillL_cons bs0 bs1 ev_conv ev_bin ev_un ev_pick ev_load ev_fieldAddr ev_indexAddr ev_len ev_field ev_extract ev_nilCheck fr_tmp fr_int fr_bool fr_str fr_nil fr_func put_some put_none bin_lss bin_leq bin_gtr bin_geq bin_eql bin_neq bin_add bin_sub bin_mul bin_seql bin_sneq un_not pick_ ext_ loadA_p cellAt_l cellAt_h okPtr_l okPtr_h fadA_p allocA_l storeA_l cells_agg cells_int cells_str cells_sl cells_bool flat_i flat_s flat_b flat_sl flat_nil loc_agg loc_int loc_str loc_sl loc_bool loc_fn loc_ptr okv_agg okv_int okv_str okv_sl okv_bool cellsFrom splice upd_eval argEnv_zero argEnv_succ ne_eq Nat.add_one_ne_zero not_false_eq_true List.not_mem_nil and_self decide_true List.getElem?_cons_zero List.getElem?_cons_succ List.size_toArray List.length_cons List.length_nil List.take_succ_cons List.take_zero List.drop_succ_cons List.drop_zero List.cons_append List.nil_append List.drop_nil Bool.not_true Bool.not_false Bool.false_eq_true Nat.zero_add Nat.add_zero wrap_in List.toList_toArray List.mem_cons or_self or_false false_or
attribute [local go_sem] ag22 ag24 ag26 ag3 ag47 ag5 ag9 bu26 bu47 bu49 by26 by47 el22 el24 el32 el42 el54 of26_0 of26_1 of26_2 of26_3 of47_0 of47_1 of49_0 of49_1 of49_2 ro26_0 ro26_1 ro26_2 ro3_3 ro47_0 ro47_1 ro9_2 ro9_3 ro9_4 sz22 sz24 sz26 sz3 sz47 sz5 sz9 ze26 ze47
-- AUTO

theorem row_atS {st : St} {xs : List ByteArray} {s : Value} (h : Rw st xs s) {j : Nat} {x : ByteArray} (hx : xs[j]? = some x) {n : Nat} (hn : xs.length = n := by rfl) : ∃ i o c, s = .slice (some ⟨i, o, none⟩) n c ∧ cell st i (o + j * 1) = some (.string x) := by
  subst hn
  obtain ⟨i, o, c, cs, rfl, _, rfl, hc⟩ := row_at h hx
  exact ⟨i, o, c, rfl, hc 0 _ rfl⟩

theorem mkL_strs (xs : List ByteArray) (k : Nat) : (mkL xs k).2 = k + xs.length := by
  induction xs generalizing k with
  | nil => rfl
  | cons x xs ih => simp only [mkL, ih, List.length_cons, Marks.mk1]; omega

end Go.Proofs.Ytajpafadlgfbaaa.AM


/- Names are sorted: spec.SortNames. -/
namespace Go.Proofs.Ytajpafadlgfbaaa.AM
open Go Go.Proofs
set_option linter.unusedVariables false
set_option linter.unusedSimpArgs false
set_option maxRecDepth 100000
attribute [local go_sem] List.map_cons List.map_nil List.all_cons List.all_nil Bool.and_self Option.map_some List.getElem?_toArray Option.bind_some gye_b gye_t gsk_b gsk_t gb1 gb2 gb3 gb4 bne_self_eq_false beq_self_eq_true w_guard w_nil stepV_some step_some step_some' w_move w_assign w_pick w_binOp w_unOp w_load w_fieldAddr w_indexAddr w_len w_max w_index ev_max max_int ev_index w_box w_alloc w_store w_field w_extract w_nilCheck w_convert w_buildSlice w_build ev_buildL fillL_nil fillL_cons bs0 bs1 ev_conv ev_bin ev_un ev_pick ev_load ev_fieldAddr ev_indexAddr ev_len ev_field ev_extract ev_nilCheck fr_tmp fr_int fr_bool fr_str fr_nil fr_func put_some put_none bin_lss bin_leq bin_gtr bin_geq bin_eql bin_neq bin_add bin_sub bin_mul bin_seql bin_sneq un_not pick_ ext_ loadA_p cellAt_l cellAt_h okPtr_l okPtr_h fadA_p allocA_l storeA_l cells_agg cells_int cells_str cells_sl cells_bool flat_i flat_s flat_b flat_sl flat_nil loc_agg loc_int loc_str loc_sl loc_bool loc_fn loc_ptr okv_agg okv_int okv_str okv_sl okv_bool cellsFrom splice upd_eval argEnv_zero argEnv_succ ne_eq Nat.add_one_ne_zero not_false_eq_true List.not_mem_nil and_self decide_true List.getElem?_cons_zero List.getElem?_cons_succ List.size_toArray List.length_cons List.length_nil List.take_succ_cons List.take_zero List.drop_succ_cons List.drop_zero List.cons_append List.nil_append List.drop_nil Bool.not_true Bool.not_false Bool.false_eq_true Nat.zero_add Nat.add_zero wrap_in List.toList_toArray List.mem_cons or_self or_false false_or
attribute [local go_sem] ag22 ag24 ag26 ag3 ag47 ag5 ag9 bu26 bu47 bu49 by26 by47 el22 el24 el32 el42 el54 of26_0 of26_1 of26_2 of26_3 of47_0 of47_1 of49_0 of49_1 of49_2 ro26_0 ro26_1 ro26_2 ro3_3 ro47_0 ro47_1 ro9_2 ro9_3 ro9_4 sz22 sz24 sz26 sz3 sz47 sz5 sz9 ze26 ze47
-- AUTO

theorem insB_drop {e : ByteArray} {acc : List ByteArray} {j : Nat} (hj : j < acc.length) : insB e (acc.drop j) = if Op.bytesLess acc[j].toList e.toList = true then acc[j] :: insB e (acc.drop (j + 1)) else if acc[j].toList = e.toList then acc.drop j else e :: acc.drop j := by
  rw [List.drop_eq_getElem_cons hj]; rfl
/-- Parts of a row. -/
theorem row_upto {α : Type} {E : α → List Value → Prop} {sz : Nat} {st : St} {xs : List α} {i o c : Nat} (h : Row E (sz + 1) st xs (.slice (some ⟨i, o, none⟩) xs.length c)) {P : Program} {t e : TypeId} (hu : P.underlying t = some (.slice e)) (hs : szA P e = some (sz + 1)) {k : Nat} (hk : k ≤ xs.length) :
    ∃ s', sliceA P t (.slice (some ⟨i, o, none⟩) xs.length c) none (some (.int .i64 k)) = some s' ∧ Row E (sz + 1) st (xs.take k) s' := by
  have he : elemA P t = some e := by unfold elemA; rw [hu]
  refine ⟨.slice (some ⟨i, o + 0 * (sz + 1), none⟩) (k - 0) (k - 0), ?_, ?_⟩
  · unfold sliceA
    simp only [he, hs, Int.toNat_natCast]
    rw [if_pos (by omega)]; rfl
  · rcases h with ⟨h0, rfl⟩ | ⟨i', o', c', he', h⟩
    · refine .inr ⟨i, o + 0 * (sz + 1), k - 0, by simp at hk; simp [hk], fun j x hx => by simp at hx⟩
    · cases he'
      refine .inr ⟨i, o + 0 * (sz + 1), k - 0, by simp; omega, fun j x hx => ?_⟩
      rw [List.getElem?_take] at hx
      split at hx
      · rw [Nat.zero_mul, Nat.add_zero]; exact h j x hx
      · cases hx
theorem row_from {α : Type} {E : α → List Value → Prop} {sz : Nat} {st : St} {xs : List α} {i o c : Nat} (h : Row E (sz + 1) st xs (.slice (some ⟨i, o, none⟩) xs.length c)) {P : Program} {t e : TypeId} (hu : P.underlying t = some (.slice e)) (hs : szA P e = some (sz + 1)) {k : Nat} (hk : k ≤ xs.length) :
    ∃ s', sliceA P t (.slice (some ⟨i, o, none⟩) xs.length c) (some (.int .i64 k)) none = some s' ∧ Row E (sz + 1) st (xs.drop k) s' := by
  have he : elemA P t = some e := by unfold elemA; rw [hu]
  refine ⟨.slice (some ⟨i, o + k * (sz + 1), none⟩) (xs.length - k) (xs.length - k), ?_, ?_⟩
  · unfold sliceA
    simp only [he, hs, Int.toNat_natCast]
    rw [if_pos (by omega)]
  · rcases h with ⟨h0, rfl⟩ | ⟨i', o', c', he', h⟩
    · exact .inr ⟨i, o + k * (sz + 1), _, by simp; rfl, fun j x hx => by simp at hx⟩
    · cases he'
      refine .inr ⟨i, o + k * (sz + 1), xs.length - k, by simp, fun j x hx => ?_⟩
      rw [List.getElem?_drop] at hx
      obtain ⟨cs, h1, h2, h3⟩ := h (k + j) x hx
      exact ⟨cs, h1, h2, by rwa [show o + k * (sz + 1) + j * (sz + 1) = o + (k + j) * (sz + 1) by rw [Nat.add_mul]; omega]⟩
theorem SliceO.topSome {α : Type} {E : α → List Value → List Nat → Prop} {e : TypeId} {st : St} {xs : List α} {s : Value} {L : List Nat} {n : Nat} (h : SliceO E e st xs s L) (hf : Fresh n L) (h0 : xs ≠ []) : ∃ m, n ≤ m ∧ topId s = some m := by
  rcases h with ⟨rfl, h, _⟩ | ⟨i, c, cs, K, rfl, _, _, rfl⟩
  · exact absurd h h0
  · exact ⟨i, hf.2 i (by simp), rfl⟩
theorem insB_nil {e : ByteArray} : insB e [] = [e] := rfl
end Go.Proofs.Ytajpafadlgfbaaa.AM


/- What a pattern's variables take: spec.l3Vars, spec.VarsOfTerm, spec.RestrictSubst, spec.MatchTerm, IsInstance and IsVariant on both sides. -/
namespace Go.Proofs.Ytajpafadlgfbaaa.AM
open Go Go.Proofs
set_option linter.unusedVariables false
set_option linter.unusedSimpArgs false
set_option maxRecDepth 100000
attribute [local go_sem] List.map_cons List.map_nil List.all_cons List.all_nil Bool.and_self Option.map_some List.getElem?_toArray Option.bind_some gye_b gye_t gsk_b gsk_t gb1 gb2 gb3 gb4 bne_self_eq_false beq_self_eq_true w_guard w_nil stepV_some step_some step_some' w_move w_assign w_pick w_binOp w_unOp w_load w_fieldAddr w_indexAddr w_len w_max w_index ev_max max_int ev_index w_box w_alloc w_store w_field w_extract w_nilCheck w_convert w_buildSlice w_build ev_buildL fillL_nil fillL_cons bs0 bs1 ev_conv ev_bin ev_un ev_pick ev_load ev_fieldAddr ev_indexAddr ev_len ev_field ev_extract ev_nilCheck fr_tmp fr_int fr_bool fr_str fr_nil fr_func put_some put_none bin_lss bin_leq bin_gtr bin_geq bin_eql bin_neq bin_add bin_sub bin_mul bin_seql bin_sneq un_not pick_ ext_ loadA_p cellAt_l cellAt_h okPtr_l okPtr_h fadA_p allocA_l storeA_l cells_agg cells_int cells_str cells_sl cells_bool flat_i flat_s flat_b flat_sl flat_nil loc_agg loc_int loc_str loc_sl loc_bool loc_fn loc_ptr okv_agg okv_int okv_str okv_sl okv_bool cellsFrom splice upd_eval argEnv_zero argEnv_succ ne_eq Nat.add_one_ne_zero not_false_eq_true List.not_mem_nil and_self decide_true List.getElem?_cons_zero List.getElem?_cons_succ List.size_toArray List.length_cons List.length_nil List.take_succ_cons List.take_zero List.drop_succ_cons List.drop_zero List.cons_append List.nil_append List.drop_nil Bool.not_true Bool.not_false Bool.false_eq_true Nat.zero_add Nat.add_zero wrap_in List.toList_toArray List.mem_cons or_self or_false false_or
attribute [local go_sem] ag22 ag24 ag26 ag3 ag47 ag5 ag9 bu26 bu47 bu49 by26 by47 el22 el24 el32 el42 el54 of26_0 of26_1 of26_2 of26_3 of47_0 of47_1 of49_0 of49_1 of49_2 ro26_0 ro26_1 ro26_2 ro3_3 ro47_0 ro47_1 ro9_2 ro9_3 ro9_4 sz22 sz24 sz26 sz3 sz47 sz5 sz9 ze26 ze47
-- AUTO

mutual
def T.vars : T → List ByteArray
  | .mk k _ nm xs => (if (k == 1) = true then [nm] else []) ++ T.varsL xs
def T.varsL : List T → List ByteArray
  | [] => []
  | x :: xs => T.vars x ++ T.varsL xs
end
theorem T.vars_mk {k n : Int} {nm : ByteArray} {xs : List T} : T.vars (.mk k n nm xs) = (if (k == 1) = true then [nm] else []) ++ T.varsL xs := by simp only [T.vars]
theorem T.varsL_snoc (xs : List T) (x : T) : T.varsL (xs ++ [x]) = T.varsL xs ++ T.vars x := by
  induction xs with
  | nil => simp [T.varsL]
  | cons y ys ih => simp only [List.cons_append, T.varsL, ih, List.append_assoc]
theorem T.varsL_take {xs : List T} {j : Nat} (h : j < xs.length) : T.varsL (xs.take (j + 1)) = T.varsL (xs.take j) ++ T.vars xs[j] := by
  rw [List.take_succ_eq_append_getElem h, T.varsL_snoc]
theorem T.varsL_len0 : ∀ ys : List T, (∀ y ∈ ys, (T.vars y).length ≤ y.wt + 1) → (T.varsL ys).length ≤ T.wtL ys + ys.length := by
  intro ys
  induction ys with
  | nil => intro _; simp [T.varsL]
  | cons y ys ihy =>
    intro h
    have h1 := h y (by simp)
    have h2 := ihy fun z hz => h z (by simp [hz])
    simp only [T.varsL, List.length_append, T.wtL, List.length_cons]
    omega
theorem T.vars_len : ∀ t : T, (T.vars t).length ≤ t.wt + 1 := by
  refine T.ind fun k n nm xs ih => ?_
  have h1 := T.varsL_len0 xs ih
  rw [T.vars_mk]
  simp only [T.wt, List.length_append]
  split <;> simp <;> omega
theorem T.varsL_len (ys : List T) : (T.varsL ys).length ≤ T.wtL ys + ys.length := T.varsL_len0 ys fun y _ => T.vars_len y
theorem T.wtL_app (xs ys : List T) : T.wtL (xs ++ ys) = T.wtL xs + T.wtL ys := by
  induction xs with
  | nil => simp [T.wtL]
  | cons x xs ih => simp only [List.cons_append, T.wtL, ih]; omega
theorem T.vars_room {xs : List T} {j : Nat} (h : j < xs.length) : (T.varsL (xs.take j)).length + xs[j].wt + 1 ≤ T.wtL xs + xs.length := by
  have h1 := T.varsL_len (xs.take j)
  have h2 := T.wtL_app (xs.take j) (xs.drop j)
  rw [List.take_append_drop, List.drop_eq_getElem_cons h] at h2
  simp only [T.wtL] at h2
  simp only [List.length_take] at h1
  omega
/-- The bindings of some names. -/
def restr (bs : List Bnd) (ns : List ByteArray) : List Bnd := ns.filterMap fun n => (findB n bs).map fun t => ⟨n, t⟩
theorem restr_len (bs : List Bnd) (ns : List ByteArray) : (restr bs ns).length ≤ ns.length := List.length_filterMap_le _ _
theorem restr_none {bs : List Bnd} {ns : List ByteArray} {n : ByteArray} (h : (findB n bs).isSome = false) : restr bs (ns ++ [n]) = restr bs ns := by
  unfold restr
  rw [List.filterMap_append]
  cases hf : findB n bs with
  | none => simp [hf]
  | some t => rw [hf] at h; cases h
theorem restr_some {bs : List Bnd} {ns : List ByteArray} {n : ByteArray} (h : (findB n bs).isSome = true) : restr bs (ns ++ [n]) = restr bs ns ++ [⟨n, findD n bs⟩] := by
  unfold restr findD
  rw [List.filterMap_append]
  cases hf : findB n bs with
  | none => rw [hf] at h; cases h
  | some t => simp [hf]

/-- A row stays where another block alone has turned. -/
theorem Sl.away {α : Type} [Kind α] {a b : St} {xs : List α} {s : Value} {L : List Nat} {k : Option Nat} {n m : Nat} (h : Sl a xs s L) (hw : Away k a b) (hL : ∀ i ∈ L, n ≤ i ∧ i < m) (hk : ∀ q, k = some q → q < n ∨ m ≤ q) : Sl b xs s L :=
  h.frame fun i hi => hw.2 i (h.lt i hi) fun e => by
    have h1 := hL i hi
    have h2 := hk i e
    omega
/-- What spec.MatchTerm and impl.MatchTerm yield. -/
def T.mres (p t : T) : List Bnd := match T.matF p t [] with
  | some l => restr l (namesB (namesB (T.vars p)))
  | none => []
theorem implInst_ok (t p : T) (st : St) (ct cp : List Value) (hlt0 : Lim 1073741824 t) (hlp : Lim 1073741824 p) (hB : p.wt + 1 ≤ 1073741824) (hEt : Enc st t ct) (hEp : Enc st p cp) :
    CallS Try.prog 18 [.agg ct.toArray, .agg cp.toArray] st fun r st2 => Ext st st2 ∧ r = .bool (T.matF p t []).isSome := by
  obtain ⟨k, n, nm, args, hpe⟩ := T.eta p
  obtain ⟨s1, rfl, hr⟩ := (hpe ▸ hEp).open
  obtain ⟨k', n', nm', args', hte⟩ := T.eta t
  obtain ⟨s2, rfl, hr'⟩ := (hte ▸ hEt).open
  refine CallS_of_W [] 14 Try.func18 rfl rfl rfl rfl (by simp) ?_
  have q1 := hr.notLoc.1
  have q2 := hr.notLoc.2
  have q3 := hr'.notLoc.1
  have q4 := hr'.notLoc.2
  repeat (first | (refine W_reg rfl fun G K hG hK => ?_; simp (disch := omega) only [go_sem, ↓reduceIte, Nat.reduceEqDiff, Nat.reduceAdd, Nat.reduceLeDiff, hG, q1, q2, q3, q4]; refine hK _ _ ?_; clear hK K hG G) | (refine W_end rfl fun G K hG hK => ?_; simp (disch := omega) only [go_sem, ↓reduceIte, Nat.reduceEqDiff, Nat.reduceAdd, Nat.reduceLeDiff, hG, q1, q2, q3, q4]; refine hK _ _ ?_; clear hK K hG G; repeat (first | refine thenI ?_ | refine thenE ?_ | refine thenR ?_ | refine inBI ?_ | refine inBR ?_ | refine inBS ?_ | refine inBN (by decide) ?_)) | refine W_seqS ?_ | refine W_seqC ?_ | refine W_seqB ?_ | refine W_block ?_ | (refine W_skip ?_; repeat (first | refine thenI ?_ | refine thenE ?_ | refine thenR ?_ | refine inBI ?_ | refine inBR ?_ | refine inBS ?_ | refine inBN (by decide) ?_)) | (refine W_condT ?hc ?_; (case hc => (simp (disch := omega) only [go_sem, ↓reduceIte, Nat.reduceEqDiff, Nat.reduceAdd, Nat.reduceLeDiff, q1, q2, q3, q4]; done))) | (refine W_condF ?hc ?_; (case hc => (simp (disch := omega) only [go_sem, ↓reduceIte, Nat.reduceEqDiff, Nat.reduceAdd, Nat.reduceLeDiff, q1, q2, q3, q4]; done))))
  (repeat (first | refine W_seqS ?_ | refine W_seqC ?_ | refine W_seqB ?_ | refine W_block ?_)); refine W_reg rfl fun G K hG hK => ?_; simp (disch := omega) only [go_sem, ↓reduceIte, Nat.reduceEqDiff, Nat.reduceAdd, Nat.reduceLeDiff, hG, q1, q2, q3, q4]
  refine w_call (implMat_ok p t st st _ _ [] _ [] hlp hlt0 (by simp) (by simpa using hB) (Ext.refl _) hEp hEt (.inl ⟨rfl, rfl, rfl⟩) (.nil _)) (by simp (disch := omega) only [go_sem, ↓reduceIte, Nat.reduceEqDiff, q1, q2, q3, q4]) ?hl ?_
  case hl => first | rfl | (simp only [go_sem, List.all_cons, List.all_nil, Bool.not_false, Bool.and_self, q1, q2, q3, q4]; done)
  rintro r_ sa ⟨x1, hres⟩; refine ⟨fun e => (by cases e), ?_⟩
  cases hm : T.matF p t [] with
  | none =>
    rw [hm] at hres
    obtain ⟨v, hv, rfl⟩ := hres
    simp (disch := omega) only [go_sem, ↓reduceIte, Nat.reduceEqDiff, Nat.reduceAdd, Nat.reduceLeDiff, hG, q1, q2, q3, q4, hv]; refine hK _ _ ?_; clear hK K hG G; repeat (first | refine thenI ?_ | refine thenE ?_ | refine thenR ?_ | refine inBI ?_ | refine inBR ?_ | refine inBS ?_ | refine inBN (by decide) ?_)
    repeat (first | (refine W_reg rfl fun G K hG hK => ?_; simp (disch := omega) only [go_sem, ↓reduceIte, Nat.reduceEqDiff, Nat.reduceAdd, Nat.reduceLeDiff, hG, q1, q2, q3, q4]; refine hK _ _ ?_; clear hK K hG G) | (refine W_end rfl fun G K hG hK => ?_; simp (disch := omega) only [go_sem, ↓reduceIte, Nat.reduceEqDiff, Nat.reduceAdd, Nat.reduceLeDiff, hG, q1, q2, q3, q4]; refine hK _ _ ?_; clear hK K hG G; repeat (first | refine thenI ?_ | refine thenE ?_ | refine thenR ?_ | refine inBI ?_ | refine inBR ?_ | refine inBS ?_ | refine inBN (by decide) ?_)) | refine W_seqS ?_ | refine W_seqC ?_ | refine W_seqB ?_ | refine W_block ?_ | (refine W_skip ?_; repeat (first | refine thenI ?_ | refine thenE ?_ | refine thenR ?_ | refine inBI ?_ | refine inBR ?_ | refine inBS ?_ | refine inBN (by decide) ?_)) | (refine W_condT ?hc ?_; (case hc => (simp (disch := omega) only [go_sem, ↓reduceIte, Nat.reduceEqDiff, Nat.reduceAdd, Nat.reduceLeDiff, q1, q2, q3, q4]; done))) | (refine W_condF ?hc ?_; (case hc => (simp (disch := omega) only [go_sem, ↓reduceIte, Nat.reduceEqDiff, Nat.reduceAdd, Nat.reduceLeDiff, q1, q2, q3, q4]; done))))
    refine W_ret ?_; try (repeat (first | refine thenI ?_ | refine thenE ?_ | refine thenR ?_ | refine inBI ?_ | refine inBR ?_ | refine inBS ?_ | refine inBN (by decide) ?_))
    refine fin1 (.inl rfl) (by (simp (disch := omega) only [go_sem, ↓reduceIte, Nat.reduceEqDiff, Nat.reduceAdd, Nat.reduceLeDiff, q1, q2, q3, q4]); try rfl) rfl ⟨x1, by rw [hm]; rfl⟩
  | some l =>
    rw [hm] at hres
    obtain ⟨v, L, rfl, hs1, hf1⟩ := hres
    have hv := hs1.loc
    simp (disch := omega) only [go_sem, ↓reduceIte, Nat.reduceEqDiff, Nat.reduceAdd, Nat.reduceLeDiff, hG, q1, q2, q3, q4, hv]; refine hK _ _ ?_; clear hK K hG G; repeat (first | refine thenI ?_ | refine thenE ?_ | refine thenR ?_ | refine inBI ?_ | refine inBR ?_ | refine inBS ?_ | refine inBN (by decide) ?_)
    repeat (first | (refine W_reg rfl fun G K hG hK => ?_; simp (disch := omega) only [go_sem, ↓reduceIte, Nat.reduceEqDiff, Nat.reduceAdd, Nat.reduceLeDiff, hG, q1, q2, q3, q4]; refine hK _ _ ?_; clear hK K hG G) | (refine W_end rfl fun G K hG hK => ?_; simp (disch := omega) only [go_sem, ↓reduceIte, Nat.reduceEqDiff, Nat.reduceAdd, Nat.reduceLeDiff, hG, q1, q2, q3, q4]; refine hK _ _ ?_; clear hK K hG G; repeat (first | refine thenI ?_ | refine thenE ?_ | refine thenR ?_ | refine inBI ?_ | refine inBR ?_ | refine inBS ?_ | refine inBN (by decide) ?_)) | refine W_seqS ?_ | refine W_seqC ?_ | refine W_seqB ?_ | refine W_block ?_ | (refine W_skip ?_; repeat (first | refine thenI ?_ | refine thenE ?_ | refine thenR ?_ | refine inBI ?_ | refine inBR ?_ | refine inBS ?_ | refine inBN (by decide) ?_)) | (refine W_condT ?hc ?_; (case hc => (simp (disch := omega) only [go_sem, ↓reduceIte, Nat.reduceEqDiff, Nat.reduceAdd, Nat.reduceLeDiff, q1, q2, q3, q4]; done))) | (refine W_condF ?hc ?_; (case hc => (simp (disch := omega) only [go_sem, ↓reduceIte, Nat.reduceEqDiff, Nat.reduceAdd, Nat.reduceLeDiff, q1, q2, q3, q4]; done))))
    refine W_ret ?_; try (repeat (first | refine thenI ?_ | refine thenE ?_ | refine thenR ?_ | refine inBI ?_ | refine inBR ?_ | refine inBS ?_ | refine inBN (by decide) ?_))
    refine fin1 (.inl rfl) (by (simp (disch := omega) only [go_sem, ↓reduceIte, Nat.reduceEqDiff, Nat.reduceAdd, Nat.reduceLeDiff, q1, q2, q3, q4]); try rfl) rfl ⟨x1, by rw [hm]; rfl⟩
theorem implVariant_ok (a b : T) (st : St) (ca cb : List Value) (hla : Lim 1073741824 a) (hlb : Lim 1073741824 b) (hBa : a.wt + 1 ≤ 1073741824) (hBb : b.wt + 1 ≤ 1073741824) (hEa : Enc st a ca) (hEb : Enc st b cb) :
    CallS Try.prog 9 [.agg ca.toArray, .agg cb.toArray] st fun r st2 => Ext st st2 ∧ r = .bool ((T.matF b a []).isSome && (T.matF a b []).isSome) := by
  obtain ⟨k, n, nm, args, hpe⟩ := T.eta a
  obtain ⟨s1, rfl, hr⟩ := (hpe ▸ hEa).open
  obtain ⟨k', n', nm', args', hte⟩ := T.eta b
  obtain ⟨s2, rfl, hr'⟩ := (hte ▸ hEb).open
  refine CallS_of_W [] 13 Try.func9 rfl rfl rfl rfl (by simp) ?_
  have q1 := hr.notLoc.1
  have q2 := hr.notLoc.2
  have q3 := hr'.notLoc.1
  have q4 := hr'.notLoc.2
  repeat (first | (refine W_reg rfl fun G K hG hK => ?_; simp (disch := omega) only [go_sem, ↓reduceIte, Nat.reduceEqDiff, Nat.reduceAdd, Nat.reduceLeDiff, hG, q1, q2, q3, q4]; refine hK _ _ ?_; clear hK K hG G) | (refine W_end rfl fun G K hG hK => ?_; simp (disch := omega) only [go_sem, ↓reduceIte, Nat.reduceEqDiff, Nat.reduceAdd, Nat.reduceLeDiff, hG, q1, q2, q3, q4]; refine hK _ _ ?_; clear hK K hG G; repeat (first | refine thenI ?_ | refine thenE ?_ | refine thenR ?_ | refine inBI ?_ | refine inBR ?_ | refine inBS ?_ | refine inBN (by decide) ?_)) | refine W_seqS ?_ | refine W_seqC ?_ | refine W_seqB ?_ | refine W_block ?_ | (refine W_skip ?_; repeat (first | refine thenI ?_ | refine thenE ?_ | refine thenR ?_ | refine inBI ?_ | refine inBR ?_ | refine inBS ?_ | refine inBN (by decide) ?_)) | (refine W_condT ?hc ?_; (case hc => (simp (disch := omega) only [go_sem, ↓reduceIte, Nat.reduceEqDiff, Nat.reduceAdd, Nat.reduceLeDiff, q1, q2, q3, q4]; done))) | (refine W_condF ?hc ?_; (case hc => (simp (disch := omega) only [go_sem, ↓reduceIte, Nat.reduceEqDiff, Nat.reduceAdd, Nat.reduceLeDiff, q1, q2, q3, q4]; done))))
  (repeat (first | refine W_seqS ?_ | refine W_seqC ?_ | refine W_seqB ?_ | refine W_block ?_)); refine W_reg rfl fun G K hG hK => ?_; simp (disch := omega) only [go_sem, ↓reduceIte, Nat.reduceEqDiff, Nat.reduceAdd, Nat.reduceLeDiff, hG, q1, q2, q3, q4]
  refine w_call (implInst_ok a b st _ _ hla hlb hBb hEa hEb) (by simp (disch := omega) only [go_sem, ↓reduceIte, Nat.reduceEqDiff, q1, q2, q3, q4]) ?hl ?_
  case hl => first | rfl | (simp only [go_sem, List.all_cons, List.all_nil, Bool.not_false, Bool.and_self, q1, q2, q3, q4]; done)
  rintro r_ sa ⟨x1, rfl⟩; refine ⟨fun e => (by cases e), ?_⟩
  cases hm : (T.matF b a []).isSome with
  | false =>
    simp (disch := omega) only [go_sem, ↓reduceIte, Nat.reduceEqDiff, Nat.reduceAdd, Nat.reduceLeDiff, hG, q1, q2, q3, q4]; refine hK _ _ ?_; clear hK K hG G; repeat (first | refine thenI ?_ | refine thenE ?_ | refine thenR ?_ | refine inBI ?_ | refine inBR ?_ | refine inBS ?_ | refine inBN (by decide) ?_)
    repeat (first | (refine W_reg rfl fun G K hG hK => ?_; simp (disch := omega) only [go_sem, ↓reduceIte, Nat.reduceEqDiff, Nat.reduceAdd, Nat.reduceLeDiff, hG, q1, q2, q3, q4]; refine hK _ _ ?_; clear hK K hG G) | (refine W_end rfl fun G K hG hK => ?_; simp (disch := omega) only [go_sem, ↓reduceIte, Nat.reduceEqDiff, Nat.reduceAdd, Nat.reduceLeDiff, hG, q1, q2, q3, q4]; refine hK _ _ ?_; clear hK K hG G; repeat (first | refine thenI ?_ | refine thenE ?_ | refine thenR ?_ | refine inBI ?_ | refine inBR ?_ | refine inBS ?_ | refine inBN (by decide) ?_)) | refine W_seqS ?_ | refine W_seqC ?_ | refine W_seqB ?_ | refine W_block ?_ | (refine W_skip ?_; repeat (first | refine thenI ?_ | refine thenE ?_ | refine thenR ?_ | refine inBI ?_ | refine inBR ?_ | refine inBS ?_ | refine inBN (by decide) ?_)) | (refine W_condT ?hc ?_; (case hc => (simp (disch := omega) only [go_sem, ↓reduceIte, Nat.reduceEqDiff, Nat.reduceAdd, Nat.reduceLeDiff, q1, q2, q3, q4]; done))) | (refine W_condF ?hc ?_; (case hc => (simp (disch := omega) only [go_sem, ↓reduceIte, Nat.reduceEqDiff, Nat.reduceAdd, Nat.reduceLeDiff, q1, q2, q3, q4]; done))))
    refine W_ret ?_; try (repeat (first | refine thenI ?_ | refine thenE ?_ | refine thenR ?_ | refine inBI ?_ | refine inBR ?_ | refine inBS ?_ | refine inBN (by decide) ?_))
    refine fin1 (.inl rfl) (by (simp (disch := omega) only [go_sem, ↓reduceIte, Nat.reduceEqDiff, Nat.reduceAdd, Nat.reduceLeDiff, q1, q2, q3, q4]); try rfl) rfl ⟨x1, by rw [hm]; rfl⟩
  | true =>
    simp (disch := omega) only [go_sem, ↓reduceIte, Nat.reduceEqDiff, Nat.reduceAdd, Nat.reduceLeDiff, q1, q2, q3, q4, hG]
    refine w_call (implInst_ok b a sa _ _ hlb hla hBa (Enc.ext x1 _ _ hEb) (Enc.ext x1 _ _ hEa)) (by simp (disch := omega) only [go_sem, ↓reduceIte, Nat.reduceEqDiff, q1, q2, q3, q4]) ?hl ?_
    case hl => first | rfl | (simp only [go_sem, List.all_cons, List.all_nil, Bool.not_false, Bool.and_self, q1, q2, q3, q4]; done)
    rintro r_ sb ⟨x2, rfl⟩; refine ⟨fun e => (by cases e), ?_⟩
    simp (disch := omega) only [go_sem, ↓reduceIte, Nat.reduceEqDiff, Nat.reduceAdd, Nat.reduceLeDiff, hG, q1, q2, q3, q4]; refine hK _ _ ?_; clear hK K hG G; repeat (first | refine thenI ?_ | refine thenE ?_ | refine thenR ?_ | refine inBI ?_ | refine inBR ?_ | refine inBS ?_ | refine inBN (by decide) ?_)
    repeat (first | (refine W_reg rfl fun G K hG hK => ?_; simp (disch := omega) only [go_sem, ↓reduceIte, Nat.reduceEqDiff, Nat.reduceAdd, Nat.reduceLeDiff, hG, q1, q2, q3, q4]; refine hK _ _ ?_; clear hK K hG G) | (refine W_end rfl fun G K hG hK => ?_; simp (disch := omega) only [go_sem, ↓reduceIte, Nat.reduceEqDiff, Nat.reduceAdd, Nat.reduceLeDiff, hG, q1, q2, q3, q4]; refine hK _ _ ?_; clear hK K hG G; repeat (first | refine thenI ?_ | refine thenE ?_ | refine thenR ?_ | refine inBI ?_ | refine inBR ?_ | refine inBS ?_ | refine inBN (by decide) ?_)) | refine W_seqS ?_ | refine W_seqC ?_ | refine W_seqB ?_ | refine W_block ?_ | (refine W_skip ?_; repeat (first | refine thenI ?_ | refine thenE ?_ | refine thenR ?_ | refine inBI ?_ | refine inBR ?_ | refine inBS ?_ | refine inBN (by decide) ?_)) | (refine W_condT ?hc ?_; (case hc => (simp (disch := omega) only [go_sem, ↓reduceIte, Nat.reduceEqDiff, Nat.reduceAdd, Nat.reduceLeDiff, q1, q2, q3, q4]; done))) | (refine W_condF ?hc ?_; (case hc => (simp (disch := omega) only [go_sem, ↓reduceIte, Nat.reduceEqDiff, Nat.reduceAdd, Nat.reduceLeDiff, q1, q2, q3, q4]; done))))
    refine W_ret ?_; try (repeat (first | refine thenI ?_ | refine thenE ?_ | refine thenR ?_ | refine inBI ?_ | refine inBR ?_ | refine inBS ?_ | refine inBN (by decide) ?_))
    refine fin1 (.inl rfl) (by (simp (disch := omega) only [go_sem, ↓reduceIte, Nat.reduceEqDiff, Nat.reduceAdd, Nat.reduceLeDiff, q1, q2, q3, q4]); try rfl) rfl ⟨x1.trans x2, by rw [hm]; rfl⟩
end Go.Proofs.Ytajpafadlgfbaaa.AM


/- The whole world as an abstract store: what a law begins with. -/
namespace Go.Proofs.Ytajpafadlgfbaaa.AM
open Go Go.RowKit
set_option linter.unusedVariables false
set_option linter.unusedSimpArgs false

def jv : Value := .pointer (some ⟨0, 0, some 0⟩)
/-- A world's value, if it can be told of. -/
def absV (n : Nat) (v : Value) : Value := match v with
  | .slice (some a) l c => if a.spot = none ∧ a.block < n ∧ l ≤ c then v else if l = 0 ∧ c = 0 then .slice (some ⟨0, 0, some 0⟩) 0 0 else jv
  | v => if flat1 v then v else jv
def absB (W : World) (i : Nat) : Blk := match W.heap[i]? with
  | some (.cells c t _) => ⟨c.toList.map (absV W.heap.size), t, 1⟩
  | _ => ⟨[], 0, 1⟩
def size0 (W : World) (i : Nat) : Nat := match W.heap[i]? with
  | some (.cells c _ _) => c.size
  | _ => 0
def absS (W : World) : St := (List.range W.heap.size).map (absB W)
def absM (W : World) : List ME := (List.range W.heap.size).map fun i => ⟨i, size0 W i, 0, false⟩

theorem absS_get {W : World} {i : Nat} {b : Blk} (h : (absS W)[i]? = some b) : i < W.heap.size ∧ b = absB W i := by
  unfold absS at h
  rw [List.getElem?_map] at h
  by_cases hi : i < W.heap.size
  · rw [List.getElem?_range hi] at h
    exact ⟨hi, (Option.some.inj h).symm⟩
  · rw [List.getElem?_eq_none (by simp; omega)] at h; cases h
theorem absS_of {W : World} {i : Nat} (hi : i < W.heap.size) : (absS W)[i]? = some (absB W i) := by
  unfold absS
  rw [List.getElem?_map, List.getElem?_range hi]; rfl
theorem absM_get {W : World} {i : Nat} {m : ME} (h : (absM W)[i]? = some m) : i < W.heap.size ∧ m = ⟨i, size0 W i, 0, false⟩ := by
  unfold absM at h
  rw [List.getElem?_map] at h
  by_cases hi : i < W.heap.size
  · rw [List.getElem?_range hi] at h
    exact ⟨hi, (Option.some.inj h).symm⟩
  · rw [List.getElem?_eq_none (by simp; omega)] at h; cases h
theorem absM_of {W : World} {i : Nat} (hi : i < W.heap.size) : (absM W)[i]? = some ⟨i, size0 W i, 0, false⟩ := by
  unfold absM
  rw [List.getElem?_map, List.getElem?_range hi]; rfl
theorem absB_stat (W : World) (i : Nat) : (absB W i).stat = 1 := by unfold absB; split <;> rfl

theorem absV_vr {W : World} {v : Value} (h : isJ (absV W.heap.size v) = false) : one (absV W.heap.size v) = true ∧ VR (absM W) (absV W.heap.size v) v := by
  unfold absV at h ⊢
  split
  · rename_i a l c
    split
    · rename_i hc
      obtain ⟨b, o, sp⟩ := a
      obtain ⟨hsp, hb, hl⟩ := hc
      simp only at hsp
      subst hsp
      exact ⟨rfl, .sl _ _ _ _ _ _ _ (absM_of hb) hl (.inl ⟨rfl, fun _ e => by cases e⟩)⟩
    · rename_i hc
      simp only [if_neg hc] at h
      split
      · rename_i h0
        obtain ⟨rfl, rfl⟩ := h0
        exact ⟨rfl, .emp a⟩
      · rename_i h0
        rw [if_neg h0] at h
        cases h
  · rename_i hx
    split
    · rename_i hf
      exact ⟨flat1_one hf, .fl _ hf⟩
    · rename_i hf
      split at h
      · rename_i a l c
        exact absurd rfl (hx a l c)
      · rw [if_neg hf] at h; cases h

theorem Tab.lt {P : Program} {w : World} (h : Tab P w) : ∀ nm ∈ tabNm, ∀ g, P.globalNamed nm = some g → g < w.heap.size := by
  have key : ∀ nm g cs, P.globalNamed nm = some g → w.var? P nm = some cs → g < w.heap.size := fun nm g cs hg hv => by
    unfold World.var? at hv
    simp only [hg, Option.bind_some] at hv
    rcases Nat.lt_or_ge g w.heap.size with h' | h'
    · exact h'
    · rw [Array.getElem?_eq_none h'] at hv; cases hv
  intro nm hn g hg
  simp only [tabNm, List.mem_cons, List.not_mem_nil, or_false] at hn
  have hne : P.globalNamed nm ≠ none := by rw [hg]; simp
  rcases hn with rfl | hn
  · exact key _ g _ hg (h.pow hne)
  · obtain ⟨tp, p, hv⟩ := h.err nm hn hne
    exact key _ g _ hg hv
theorem abs_cov {P : Program} {W : World} (h : Tab P W) : Cov P (absM W) (absS W) := fun nm hn g hg => by
  have hlt := h.lt nm hn g hg
  exact ⟨g, _, _, absM_of hlt, rfl, absS_of hlt, absB_stat W g⟩
theorem abs_hr (P : Program) (W : World) (hT : Tab P W) : HR P ⟨W, absM W, absS W⟩ (absM W) (absS W) W := by
  refine ⟨by simp [absM, absS], fun _ _ h => h, fun i b m hb hm h2 hfar => ?_, fun i j b b' m m' hb hb' _ _ hm hm' e => ?_, fun i m hm => ?_, fun i m hm _ => ⟨i, m, hm, rfl⟩, fun i b m hb _ hm => ⟨hb, rfl⟩, rfl, rfl, rfl, Nat.le_refl _, fun _ _ _ => rfl, hT, abs_cov hT⟩
  · obtain ⟨hi, rfl⟩ := absS_get hb
    obtain ⟨_, rfl⟩ := absM_get hm
    cases hh : W.heap[i]? with
    | none => exact absurd ⟨absB_stat W i, by simp [absB, hh]⟩ hfar
    | some o =>
      cases o with
      | cells c t q =>
        have e1 : absB W i = ⟨c.toList.map (absV W.heap.size), t, 1⟩ := by unfold absB; rw [hh]
        have e2 : size0 W i = c.size := by unfold size0; rw [hh]
        rw [e1, e2]
        refine ⟨c, ⟨q, hh, fun e => by cases e⟩, rfl, by simp, fun j x hx => ?_, fun e => by cases e⟩
        simp only [List.getElem?_map, Option.map_eq_some_iff] at hx
        obtain ⟨y, hy, rfl⟩ := hx
        cases hj : isJ (absV W.heap.size y) with
        | true => exact .inl ⟨rfl, rfl⟩
        | false =>
          obtain ⟨h2, h3⟩ := absV_vr hj
          exact .inr ⟨h2, y, by simpa using hy, h3⟩
      | _ => exact absurd ⟨absB_stat W i, by simp [absB, hh]⟩ hfar
  · obtain ⟨_, rfl⟩ := absM_get hm
    obtain ⟨_, rfl⟩ := absM_get hm'
    exact e
  · obtain ⟨hi, rfl⟩ := absM_get hm
    exact hi

/-- An argument, and what the store says of it. -/
def ArgS (W : World) (x v : Value) : Prop := (isJ (absV W.heap.size v) = false ∧ x = absV W.heap.size v) ∨ ∃ cs : List Value, v = .agg cs.toArray ∧ x = .agg (cs.map (absV W.heap.size)).toArray ∧ ∀ c ∈ cs, isJ (absV W.heap.size c) = false

/-- What holds of a call that begins at the whole world. -/
theorem CallS.enter {P : Program} {f : FuncId} {args : List Value} {vals : Array Value} {W : World} {Q : Value → St → Prop} (hT : Tab P W) (h : CallS P f args (absS W) Q) (hl : args.length = vals.size) (hv : ∀ (i : Nat) x v, args[i]? = some x → vals[i]? = some v → ArgS W x v) :
    Calls P f vals W fun e w' => ∃ r v st' M', e = .returned v ∧ Q r st' ∧ VR M' r v ∧ Below W.heap.size W w' := by
  refine (h.2 (absM W) W vals (abs_hr P W hT) ⟨hl, fun i x y hx hy => ?_⟩).mono fun e w' ⟨r, v, st', M', he, hq, hvr, hr⟩ => ⟨r, v, st', M', he, hq, hvr, hr.os, hr.tape, hr.output, hr.size, fun k hk => ?_⟩
  · rcases hv i x y hx hy with ⟨h1, rfl⟩ | ⟨cs, rfl, rfl, hcs⟩
    · exact (absV_vr h1).2
    · refine .agg _ _ (by simp) (fun i c hc => ?_) fun i c d hc hd => ?_
      · simp only [List.getElem?_toArray, List.getElem?_map, Option.map_eq_some_iff] at hc
        obtain ⟨d, hd, rfl⟩ := hc
        exact (absV_vr (hcs d (List.mem_of_getElem? hd))).1
      · simp only [List.getElem?_toArray, List.getElem?_map] at hc hd
        rw [hd] at hc
        obtain rfl := Option.some.inj hc
        exact (absV_vr (hcs d (List.mem_of_getElem? hd))).2
  · exact (hr.ro k _ _ (absS_of hk) (absB_stat W k) (absM_of hk)).2

inductive ArgsS (W : World) : List Value → List Value → Prop
  | nil : ArgsS W [] []
  | cons (x v : Value) (xs vs : List Value) (h : ArgS W x v) (hs : ArgsS W xs vs) : ArgsS W (x :: xs) (v :: vs)
theorem ArgsS.get {W : World} {xs vs : List Value} (h : ArgsS W xs vs) : xs.length = vs.length ∧ ∀ (i : Nat) x v, xs[i]? = some x → vs[i]? = some v → ArgS W x v := by
  induction h with
  | nil => exact ⟨rfl, fun i x v hx => by simp at hx⟩
  | cons x v xs vs h hs ih =>
    refine ⟨by simp [ih.1], fun i y u hy hu => ?_⟩
    cases i with
    | zero =>
      simp only [List.getElem?_cons_zero, Option.some.injEq] at hy hu
      subst hy; subst hu; exact h
    | succ i => exact ih.2 i y u (by simpa using hy) (by simpa using hu)
/-- A program that has none of these variables. -/
theorem noTab {P : Program} {W : World} (h1 : P.globalNamed "internal/strconv.uint64pow10" = none) (h2 : P.globalNamed "strconv.ErrSyntax" = none) (h3 : P.globalNamed "strconv.ErrRange" = none) : Tab P W :=
  ⟨fun h => absurd h1 h, fun nm hn h => by
    rcases hn with rfl | rfl
    · exact absurd h2 h
    · exact absurd h3 h⟩
theorem CallS.enters {P : Program} {f : FuncId} {args : List Value} {vals : List Value} {W : World} {b : Bool} (hT : Tab P W) (h : CallS P f args (absS W) fun r _ => r = .bool b) (hv : ArgsS W args vals) :
    Calls P f vals.toArray W fun e w' => e = .returned (.bool b) ∧ Below W.heap.size W w' :=
  (h.enter hT (by simpa using hv.get.1) fun i x v hx hv' => hv.get.2 i x v hx (by simpa using hv')).mono fun e w' ⟨r, v, st', M', he, hq, hvr, bel⟩ => by
    subst he; subst hq
    obtain rfl := hvr.flat_eq rfl
    exact ⟨rfl, bel⟩
theorem ArgS.flat {W : World} {v : Value} (h : isJ (absV W.heap.size v) = false) (e : absV W.heap.size v = v) : ArgS W v v := .inl ⟨h, e.symm⟩
theorem ArgS.int (W : World) (k : IntKind) (i : Int) : ArgS W (.int k i) (.int k i) := .inl ⟨rfl, rfl⟩
theorem ArgS.str (W : World) (s : ByteArray) : ArgS W (.string s) (.string s) := .inl ⟨rfl, rfl⟩
theorem ArgS.agg {W : World} {cs : Array Value} (h : ∀ c ∈ (Value.agg cs).cells.toList, isJ (absV W.heap.size c) = false) : ArgS W (.agg ((Value.agg cs).cells.toList.map (absV W.heap.size)).toArray) (.agg cs) := .inr ⟨cs.toList, rfl, rfl, h⟩

/-- A world's cell, read in the store. -/
theorem abs_cell {W : World} {b o : Nat} {v : Value} (h : W.cell? ⟨b, o, none⟩ = some v) (hj : isJ (absV W.heap.size v) = false) : cell (absS W) b o = some (absV W.heap.size v) := by
  unfold World.cell? at h
  simp only at h
  split at h
  · rename_i c t q hb
    have hi : b < W.heap.size := (Array.getElem?_eq_some_iff.1 hb).1
    simp only [Option.isSome_none, Bool.false_eq_true, if_false] at h
    have e1 : absB W b = ⟨c.toList.map (absV W.heap.size), t, 1⟩ := by unfold absB; rw [hb]
    unfold cell
    rw [absS_of hi, e1]
    have e3 : (c.toList.map (absV W.heap.size))[o]? = some (absV W.heap.size v) := by
      rw [List.getElem?_map, Array.getElem?_toList, h]; rfl
    simp only [e3]
    simp [hj]
  · cases h

/-- What a cell that was read holds can be told of. -/
def Told (W : World) (v : Value) : Prop := isJ (absV W.heap.size v) = false

theorem told_int (W : World) (k : IntKind) (i : Int) : Told W (.int k i) ∧ absV W.heap.size (.int k i) = .int k i := ⟨rfl, rfl⟩
theorem told_str (W : World) (s : ByteArray) : Told W (.string s) ∧ absV W.heap.size (.string s) = .string s := ⟨rfl, rfl⟩
theorem told_bool (W : World) (b : Bool) : Told W (.bool b) ∧ absV W.heap.size (.bool b) = .bool b := ⟨rfl, rfl⟩

theorem spot_of {w : World} {a : Addr} {n b : Nat} {cs : List Value} (h : w.cells? b a n = some cs) (hn : 0 < n) : a.spot = none := by
  obtain ⟨_, hl, hc⟩ := World.cells?_some h
  have h1 := hc 0 hn
  rw [List.getElem?_eq_getElem (by omega)] at h1
  obtain ⟨b, o, sp⟩ := a
  cases sp with
  | none => rfl
  | some s =>
    unfold World.cell? Addr.add at h1
    simp only at h1
    split at h1
    · split at h1 <;> simp_all
    · cases h1
theorem spot_add {a : Addr} {k : Nat} (hk : k = 0) (h : (a.add k).spot = none) : a.spot = none := by
  subst hk
  exact h

/-- A slice that was read: its elements, one by one. -/
theorem open_rowA {H : Type} {enc : TypeId × Value → H} {P : Program} {w : World} {α : Type} {E : α → List Value → Prop} {G : α → Prop} {t e : TypeId} {sz : Nat} (ht : P.underlying t = some (.slice e)) (hc : P.cellsOf e = sz) (hsz : 0 < sz) {fuel : Nat} {cs : List Value} {x : DataW H × List MemPlace}
    (h : DataW.trod enc P w 0 (fun _ => true) true fuel t cs = some x) (hel : ∀ n cs y, n < fuel → DataW.trod enc P w 0 (fun _ => true) true n e cs = some y → ∃ z, E z (cs.map (absV w.heap.size)) ∧ G z ∧ ∀ c ∈ cs, Told w c) :
    ∃ s, ∃ xs : List α, cs = [s] ∧ Told w s ∧ Row E sz (absS w) xs (absV w.heap.size s) ∧ xs.length ≤ maxLen ∧ ∀ z ∈ xs, G z := by
  have hlt := DataW.trod_lt _ _ _ _ h
  rcases DataW.trod_slice ht h with ⟨rfl, _⟩ | ⟨a, len, cap, elems, rest, n, rfl, rfl, rfl, _, hl, hm, hlen, hel2, hrest, _⟩
  · exact ⟨_, [], rfl, rfl, .inl ⟨.inl rfl, rfl⟩, Nat.zero_le _, by simp⟩
  · simp only [hc] at hel2 hlt hrest
    by_cases h0 : cap = 0
    · subst h0
      obtain rfl : len = 0 := by omega
      by_cases hq : a.spot = none ∧ a.block < w.heap.size ∧ 0 ≤ 0
      · obtain ⟨b, o, sp⟩ := a
        obtain ⟨hsp, hb, _⟩ := hq
        simp only at hsp hb
        subst hsp
        have e1 : absV w.heap.size (.slice (some ⟨b, o, none⟩) 0 0) = .slice (some ⟨b, o, none⟩) 0 0 := by unfold absV; simp only; rw [if_pos (by exact ⟨trivial, hb, Nat.le_refl _⟩)]
        refine ⟨_, [], rfl, by unfold Told; rw [e1]; rfl, ?_, Nat.zero_le _, by simp⟩
        rw [e1]
        exact .inr ⟨b, o, 0, rfl, by simp⟩
      · have e1 : absV w.heap.size (.slice (some a) 0 0) = .slice (some ⟨0, 0, some 0⟩) 0 0 := by unfold absV; simp only; rw [if_neg hq]; simp
        refine ⟨_, [], rfl, by unfold Told; rw [e1]; rfl, ?_, Nat.zero_le _, by simp⟩
        rw [e1]
        exact .inl ⟨.inr rfl, rfl⟩
    · have hrl := (hrest trivial).1
      have hb : a.block < w.heap.size := hlt (.cell a.block (a.off + 0)) (by
        refine List.mem_append_left _ ?_
        unfold MemPlace.row
        refine List.mem_map.2 ⟨0, List.mem_range.2 (Nat.mul_pos (by omega) hsz), rfl⟩)
      have hsp : a.spot = none := by
        by_cases hl0 : 0 < len
        · have h1 := hel2 0 hl0
          rw [List.getElem?_eq_getElem (by omega), Option.bind_eq_some_iff] at h1
          obtain ⟨c, hcs, _⟩ := h1
          exact spot_add (by first | (simp; done) | (rw [show len = 0 by omega]; simp)) (spot_of hcs hsz)
        · have h1 := (hrest trivial).2 0 (by omega)
          rw [List.getElem?_eq_getElem (by omega), Option.bind_eq_some_iff] at h1
          obtain ⟨c, hcs, _⟩ := h1
          exact spot_add (by first | (simp; done) | (rw [show len = 0 by omega]; simp)) (spot_of hcs hsz)
      obtain ⟨b, o, sp⟩ := a
      simp only at hsp hb
      subst hsp
      have e1 : absV w.heap.size (.slice (some ⟨b, o, none⟩) len cap) = .slice (some ⟨b, o, none⟩) len cap := by unfold absV; simp only; rw [if_pos (by exact ⟨trivial, hb, hl⟩)]
      have each : ∀ i : _root_.Fin len, ∃ z, G z ∧ ∃ c : List Value, c.length = sz ∧ E z c ∧ CellsAt (absS w) b (o + i.1 * sz) c := by
        intro i
        have hi := hel2 i.1 i.2
        rw [List.getElem?_eq_getElem (by rw [hlen]; exact i.2), Option.bind_eq_some_iff] at hi
        obtain ⟨c, hcs, hy⟩ := hi
        obtain ⟨z, hz, hG, htold⟩ := hel n c _ (Nat.lt_succ_self n) hy
        obtain ⟨_, hcl, hcc⟩ := World.cells?_some hcs
        refine ⟨z, hG, _, by simpa using hcl, hz, fun q v hv => ?_⟩
        simp only [List.getElem?_map, Option.map_eq_some_iff] at hv
        obtain ⟨u, hu, rfl⟩ := hv
        have hq : q < sz := by have := (List.getElem?_eq_some_iff.1 hu).1; omega
        have h2 := hcc q hq
        rw [addr_add, addr_add, hu] at h2
        exact abs_cell h2 (htold u (List.mem_of_getElem? hu))
      have hlen3 : (List.ofFn fun i : _root_.Fin len => Classical.choose (each i)).length = len := List.length_ofFn
      refine ⟨_, List.ofFn fun i : _root_.Fin len => Classical.choose (each i), rfl, by unfold Told; rw [e1]; rfl, ?_, by rw [hlen3]; omega, ?_⟩
      · rw [e1]
        refine .inr ⟨b, o, cap, by rw [hlen3], fun j x hj => ?_⟩
        have hjl : j < len := by have := (List.getElem?_eq_some_iff.1 hj).1; rwa [hlen3] at this
        obtain ⟨_, c, h1, h2, h3⟩ := Classical.choose_spec (each ⟨j, hjl⟩)
        have hp : Classical.choose (each ⟨j, hjl⟩) = x := by
          have := (List.getElem?_eq_some_iff.1 hj).2
          rw [List.getElem_ofFn] at this
          exact this
        rw [hp] at h2
        exact ⟨c, h1, h2, h3⟩
      · intro z hz
        rw [List.mem_ofFn] at hz
        obtain ⟨i, rfl⟩ := hz
        exact (Classical.choose_spec (each i)).1
end Go.Proofs.Ytajpafadlgfbaaa.AM


/- What a law's arguments read as. -/
namespace Go.Proofs.Ytajpafadlgfbaaa.AM
open Go Go.Proofs
set_option linter.unusedVariables false
set_option linter.unusedSimpArgs false

theorem list_S {α : Type} {l : List α} {n : Nat} (h : l.length = n + 1) : ∃ a l2, l = a :: l2 ∧ l2.length = n := by
  match l, h with
  | a :: l2, h => exact ⟨a, l2, rfl, by simpa using h⟩
theorem toldA_int {H : Type} {enc : TypeId × Value → H} {P : Program} {w : World} {t : TypeId} {k : IntKind} (ht : P.underlying t = some (.int k)) {fuel : Nat} {cs : List Value} {x : DataW H × List MemPlace} (h : DataW.trod enc P w 0 (fun _ => true) true fuel t cs = some x) :
    ∃ z, cs = [.int k z] ∧ (Lit.int k z).wf = true := by
  obtain ⟨n, rfl, _, hw⟩ := DataW.trod_int ht h
  exact ⟨n, rfl, hw⟩
theorem toldA_str {H : Type} {enc : TypeId × Value → H} {P : Program} {w : World} {t : TypeId} (ht : P.underlying t = some .string) {fuel : Nat} {cs : List Value} {x : DataW H × List MemPlace} (h : DataW.trod enc P w 0 (fun _ => true) true fuel t cs = some x) :
    ∃ z, cs = [.string z] ∧ z.size ≤ maxLen := by
  obtain ⟨n, rfl, _, hw⟩ := DataW.trod_string ht h
  exact ⟨n, rfl, hw⟩

end Go.Proofs.Ytajpafadlgfbaaa.AM

