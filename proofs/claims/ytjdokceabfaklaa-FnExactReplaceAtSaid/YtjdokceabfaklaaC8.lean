/- Subterms: impl.at, impl.TermAt, spec.TermAt. -/
import Derived.Test.YtjdokceabfaklaaC6
import Derived.Test.YtjdokceabfaklaaC3
import Derived.Test.YtjdokceabfaklaaK1
namespace Go.Proofs.Ytjdokceabfaklaa.AM
open Go Go.Proofs
set_option linter.unusedVariables false
set_option linter.unusedSimpArgs false
set_option maxRecDepth 100000
attribute [local go_sem] List.map_cons List.map_nil List.all_cons List.all_nil Bool.and_self Option.map_some List.getElem?_toArray Option.bind_some gye_b gye_t gsk_b gsk_t gb1 gb2 gb3 gb4 bne_self_eq_false beq_self_eq_true w_guard w_nil stepV_some step_some step_some' w_move w_assign w_pick w_binOp w_unOp w_load w_fieldAddr w_indexAddr w_len w_box w_alloc w_store w_field w_extract w_nilCheck w_convert w_buildSlice w_build ev_buildL fillL_nil fillL_cons bs0 bs1 ev_conv ev_bin ev_un ev_pick ev_load ev_fieldAddr ev_indexAddr ev_len ev_field ev_extract ev_nilCheck fr_tmp fr_int fr_bool fr_str fr_nil fr_func put_some put_none bin_lss bin_leq bin_gtr bin_geq bin_eql bin_neq bin_add bin_sub bin_mul bin_seql bin_sneq un_not pick_ ext_ loadA_p cellAt_l cellAt_h okPtr_l okPtr_h fadA_p allocA_l storeA_l cells_agg cells_int cells_str cells_sl cells_bool flat_i flat_s flat_b flat_sl flat_nil loc_agg loc_int loc_str loc_sl loc_bool loc_fn loc_ptr okv_agg okv_int okv_str okv_sl okv_bool cellsFrom splice upd_eval argEnv_zero argEnv_succ ne_eq Nat.add_one_ne_zero not_false_eq_true List.not_mem_nil and_self decide_true List.getElem?_cons_zero List.getElem?_cons_succ List.size_toArray List.length_cons List.length_nil List.take_succ_cons List.take_zero List.drop_succ_cons List.drop_zero List.cons_append List.nil_append List.drop_nil Bool.not_true Bool.not_false Bool.false_eq_true Nat.zero_add Nat.add_zero wrap_in List.toList_toArray List.mem_cons or_self or_false false_or
attribute [local go_sem] ag22 ag24 ag27 ag29 ag3 ag9 bu29 by29 by3 el22 el25 el27 el50 of24_0 of24_1 of24_2 of24_3 of29_0 of29_1 of29_2 of29_3 ro29_0 ro29_1 ro5_1 sz22 sz24 sz27 sz29 sz3 sz5 sz9 ze29 ze3
-- AUTO

def T.zero : T := .mk 0 0 ⟨#[]⟩ []
def T.args : T → List T
  | .mk _ _ _ args => args
/-- The subterm at a position. -/
def T.at : List Int → T → Option T
  | [], t => some t
  | i :: p, t => if 0 ≤ i ∧ i < (t.args.length : Int) then (match t.args[i.toNat]? with
    | some x => T.at p x
    | none => none) else none
def T.atD (p : List Int) (t : T) : T := (T.at p t).getD T.zero

theorem T.at_in {p : List Int} {t x : T} {i : Int} (h0 : 0 ≤ i) (h1 : i < (t.args.length : Int)) (hx : t.args[i.toNat]? = some x) : T.at (i :: p) t = T.at p x := by
  simp only [T.at, h0, h1, and_self, if_true, hx]
theorem T.at_out {p : List Int} {t : T} {i : Int} (h : i < 0 ∨ (t.args.length : Int) ≤ i) : T.at (i :: p) t = none := by
  simp only [T.at]
  rw [if_neg (by omega)]
theorem T.at_sub {P : T → Prop} (hP : ∀ t x, P t → x ∈ t.args → P x) : ∀ (p : List Int) (t x : T), P t → T.at p t = some x → P x := by
  intro p
  induction p with
  | nil => intro t x ht h; simp only [T.at, Option.some.injEq] at h; subst h; exact ht
  | cons i p ih =>
    intro t x ht h
    simp only [T.at] at h
    split at h
    · split at h
      · rename_i y hy; exact ih y x (hP t y ht (List.mem_of_getElem? hy)) h
      · cases h
    · cases h
theorem T.at_append (p q : List Int) : ∀ t, T.at (p ++ q) t = (T.at p t).bind (T.at q) := by
  induction p with
  | nil => intro t; rfl
  | cons i p ih =>
    intro t
    simp only [List.cons_append, T.at]
    split
    · split
      · exact ih _
      · rfl
    · rfl
theorem own_zero {e : TypeId} (st : St) : Own e st T.zero [.int .i64 0, .int .i64 0, .string ⟨#[]⟩, .slice none 0 0] [] := .nil _ _ _
theorem enc_zero (st : St) : Enc st T.zero [.int .i64 0, .int .i64 0, .string ⟨#[]⟩, .slice none 0 0] := .nil _ _ _ _ (.inl rfl)
theorem Lim.zero {B : Nat} : Lim B T.zero := .mk _ _ _ _ (by simp) (by simp)
theorem Lim.arg {B : Nat} (t x : T) (h : Lim B t) (hx : x ∈ t.args) : Lim B x := by cases t; exact h.args.2 x hx
theorem Lim.atD {B : Nat} {t : T} (p : List Int) (h : Lim B t) : Lim B (T.atD p t) := by
  unfold T.atD
  cases hx : T.at p t with
  | none => exact .zero
  | some x => exact T.at_sub Lim.arg p t x h hx

theorem T.wt_arg {t x : T} (h : x ∈ t.args) : x.wt ≤ t.wt := by
  obtain ⟨k, n, nm, args⟩ := t
  have h1 := T.wt_mem (show x ∈ args from h)
  simp only [T.wt]
  omega
theorem T.wt_atD (p : List Int) (t : T) : (T.atD p t).wt ≤ t.wt := by
  unfold T.atD
  cases hx : T.at p t with
  | none => simp [T.zero, T.wt, T.wtL, ByteArray.size]
  | some x => exact T.at_sub (P := fun y => y.wt ≤ t.wt) (fun y z hy hz => Nat.le_trans (T.wt_arg hz) hy) p t x (Nat.le_refl _) hx

theorem implAt_ok (p : List Int) (t : T) (st : St) (cs : List Value) (s1 : Value) (hbig : p.length ≤ 4611686018427387904) (hE : Enc st t cs) (hp : Rw st p s1) :
    CallS Try.prog 19 [.agg cs.toArray, s1] st fun r st' => st' = st ∧ ∃ ds, r = .tuple #[.agg ds.toArray, .bool (T.at p t).isSome] ∧ Enc st (T.atD p t) ds := by
  refine CallS_of_W [] 31 Try.func19 rfl rfl rfl rfl (by simp) ?_
  have hlen : lenE Try.prog 25 s1 = some (.int .i64 p.length) := row_len hp Try.underlying25
  have n1 := hp.notLoc.1
  obtain ⟨k0, n0, nm0, args0⟩ := t
  obtain ⟨s0, rfl, hr0⟩ := hE.open
  repeat (first | (refine W_reg rfl fun G K hG hK => ?_; simp (disch := omega) only [go_sem, ↓reduceIte, Nat.reduceEqDiff, Nat.reduceAdd, Nat.reduceLeDiff, hG, hlen]; refine hK _ _ ?_; clear hK K hG G) | (refine W_end rfl fun G K hG hK => ?_; simp (disch := omega) only [go_sem, ↓reduceIte, Nat.reduceEqDiff, Nat.reduceAdd, Nat.reduceLeDiff, hG, hlen]; refine hK _ _ ?_; clear hK K hG G; repeat (first | refine thenI ?_ | refine thenE ?_ | refine thenR ?_ | refine inBI ?_ | refine inBR ?_ | refine inBS ?_ | refine inBN (by decide) ?_)) | refine W_seqS ?_ | refine W_seqC ?_ | refine W_seqB ?_ | refine W_block ?_ | (refine W_skip ?_; repeat (first | refine thenI ?_ | refine thenE ?_ | refine thenR ?_ | refine inBI ?_ | refine inBR ?_ | refine inBS ?_ | refine inBN (by decide) ?_)) | (refine W_condT ?hc ?_; (case hc => (simp (disch := omega) only [go_sem, ↓reduceIte, Nat.reduceEqDiff, Nat.reduceAdd, Nat.reduceLeDiff, hlen]; done))) | (refine W_condF ?hc ?_; (case hc => (simp (disch := omega) only [go_sem, ↓reduceIte, Nat.reduceEqDiff, Nat.reduceAdd, Nat.reduceLeDiff, hlen]; done))))
  refine W_loop (fun d fr st' => ∃ (j : Nat) (k n : Int) (nm : ByteArray) (args : List T) (s : Value), d = p.length - j ∧ j ≤ p.length ∧ (st' = st) ∧ (RowT st args s) ∧ (T.at (p.drop j) (.mk k n nm args) = T.at p (.mk k0 n0 nm0 args0)) ∧ (fr.env 2 = .pointer (some ⟨2, 0, some 1⟩)) ∧ (fr.env 4 = .pointer (some ⟨4, 0, some 1⟩)) ∧ (fr.env 8 = s1) ∧ (fr.env 9 = .int .i64 p.length) ∧ (fr.env 10 = .int .i64 j) ∧ (fr.loc 2 = (1, [.int .i64 k, .int .i64 n, .string nm, s])) ∧ ((fr.loc 4).1 = 1 ∧ (fr.loc 4).2.length = 4)) (p.length) ?_ ?_
  · exact ⟨0, k0, n0, nm0, args0, s0, by omega, by omega, rfl, hr0, by rw [List.drop_zero], (by (simp (disch := omega) only [go_sem, ↓reduceIte, Nat.reduceEqDiff, Nat.reduceAdd, Nat.reduceLeDiff]); try rfl), (by (simp (disch := omega) only [go_sem, ↓reduceIte, Nat.reduceEqDiff, Nat.reduceAdd, Nat.reduceLeDiff]); try rfl), (by (simp (disch := omega) only [go_sem, ↓reduceIte, Nat.reduceEqDiff, Nat.reduceAdd, Nat.reduceLeDiff]); try rfl), (by (simp (disch := omega) only [go_sem, ↓reduceIte, Nat.reduceEqDiff, Nat.reduceAdd, Nat.reduceLeDiff]); try rfl), (by (simp (disch := omega) only [go_sem, ↓reduceIte, Nat.reduceEqDiff, Nat.reduceAdd, Nat.reduceLeDiff]); try rfl), (by (simp (disch := omega) only [go_sem, ↓reduceIte, Nat.reduceEqDiff, Nat.reduceAdd, Nat.reduceLeDiff]); try rfl), ⟨(by (simp (disch := omega) only [go_sem, ↓reduceIte, Nat.reduceEqDiff, Nat.reduceAdd, Nat.reduceLeDiff]); try rfl), (by (simp (disch := omega) only [go_sem, ↓reduceIte, Nat.reduceEqDiff, Nat.reduceAdd, Nat.reduceLeDiff]); try rfl)⟩⟩
  rintro d ⟨env, loc⟩ st' ⟨j, k, n, nm, args, s, hd, hj, hst, hr, hat, e2, e4, e8, e9, e10, l2, ⟨l4, l4'⟩⟩
  simp only at e2 e4 e8 e9 e10 l2 l4 l4'
  subst hst
  by_cases hlt : j < p.length
  · have c1 : decide ((j : Int) < (p.length : Int)) = true := by simpa using hlt
    have hi := idxOk hlt
    have hx : p[j]? = some p[j] := List.getElem?_eq_getElem hlt
    have htk : p.take (j + 1) = p.take j ++ [p[j]] := List.take_succ_eq_append_getElem hlt
    obtain ⟨i, o, c, rfl, hce⟩ := row_atI hp hx
    have hl2 : lenE Try.prog 27 s = some (.int .i64 args.length) := row_len hr Try.underlying27
    rw [List.drop_eq_getElem_cons hlt] at hat
    by_cases h1 : p[j] < 0
    · have c2 : decide (p[j] < 0) = true := by simpa using h1
      repeat (first | (refine W_reg rfl fun G K hG hK => ?_; simp (disch := omega) only [go_sem, ↓reduceIte, Nat.reduceEqDiff, Nat.reduceAdd, Nat.reduceLeDiff, hG, e2, e4, e8, e9, e10, l2, l4, l4', c1, hi, idxA, Int.toNat_natCast, hce, c2, hl2]; refine hK _ _ ?_; clear hK K hG G) | (refine W_end rfl fun G K hG hK => ?_; simp (disch := omega) only [go_sem, ↓reduceIte, Nat.reduceEqDiff, Nat.reduceAdd, Nat.reduceLeDiff, hG, e2, e4, e8, e9, e10, l2, l4, l4', c1, hi, idxA, Int.toNat_natCast, hce, c2, hl2]; refine hK _ _ ?_; clear hK K hG G; repeat (first | refine thenI ?_ | refine thenE ?_ | refine thenR ?_ | refine inBI ?_ | refine inBR ?_ | refine inBS ?_ | refine inBN (by decide) ?_)) | refine W_seqS ?_ | refine W_seqC ?_ | refine W_seqB ?_ | refine W_block ?_ | (refine W_skip ?_; repeat (first | refine thenI ?_ | refine thenE ?_ | refine thenR ?_ | refine inBI ?_ | refine inBR ?_ | refine inBS ?_ | refine inBN (by decide) ?_)) | (refine W_condT ?hc ?_; (case hc => (simp (disch := omega) only [go_sem, ↓reduceIte, Nat.reduceEqDiff, Nat.reduceAdd, Nat.reduceLeDiff, e2, e4, e8, e9, e10, l2, l4, l4', c1, hi, idxA, Int.toNat_natCast, hce, c2, hl2]; done))) | (refine W_condF ?hc ?_; (case hc => (simp (disch := omega) only [go_sem, ↓reduceIte, Nat.reduceEqDiff, Nat.reduceAdd, Nat.reduceLeDiff, e2, e4, e8, e9, e10, l2, l4, l4', c1, hi, idxA, Int.toNat_natCast, hce, c2, hl2]; done))))
      rw [T.at_out (.inl h1)] at hat
      refine W_ret ?_; try (repeat (first | refine thenI ?_ | refine thenE ?_ | refine thenR ?_ | refine inBI ?_ | refine inBR ?_ | refine inBS ?_ | refine inBN (by decide) ?_))
      refine finC2 (.inl rfl) (by (simp (disch := omega) only [go_sem, ↓reduceIte, Nat.reduceEqDiff, Nat.reduceAdd, Nat.reduceLeDiff, e2, e4, e8, e9, e10, l2, l4, l4', c1, hi, idxA, Int.toNat_natCast]); try rfl) (by (simp (disch := omega) only [go_sem, ↓reduceIte, Nat.reduceEqDiff, Nat.reduceAdd, Nat.reduceLeDiff, e2, e4, e8, e9, e10, l2, l4, l4', c1, hi, idxA, Int.toNat_natCast]); try rfl) rfl ⟨rfl, [_, _, _, _], (by rw [← hat]; rfl), by unfold T.atD; rw [← hat]; exact enc_zero _⟩
    have c2 : decide (p[j] < 0) = false := by simpa using h1
    by_cases h2 : p[j] ≥ (args.length : Int)
    · have c3 : decide (p[j] ≥ (args.length : Int)) = true := by simpa using h2
      repeat (first | (refine W_reg rfl fun G K hG hK => ?_; simp (disch := omega) only [go_sem, ↓reduceIte, Nat.reduceEqDiff, Nat.reduceAdd, Nat.reduceLeDiff, hG, e2, e4, e8, e9, e10, l2, l4, l4', c1, hi, idxA, Int.toNat_natCast, hce, c2, hl2, c3]; refine hK _ _ ?_; clear hK K hG G) | (refine W_end rfl fun G K hG hK => ?_; simp (disch := omega) only [go_sem, ↓reduceIte, Nat.reduceEqDiff, Nat.reduceAdd, Nat.reduceLeDiff, hG, e2, e4, e8, e9, e10, l2, l4, l4', c1, hi, idxA, Int.toNat_natCast, hce, c2, hl2, c3]; refine hK _ _ ?_; clear hK K hG G; repeat (first | refine thenI ?_ | refine thenE ?_ | refine thenR ?_ | refine inBI ?_ | refine inBR ?_ | refine inBS ?_ | refine inBN (by decide) ?_)) | refine W_seqS ?_ | refine W_seqC ?_ | refine W_seqB ?_ | refine W_block ?_ | (refine W_skip ?_; repeat (first | refine thenI ?_ | refine thenE ?_ | refine thenR ?_ | refine inBI ?_ | refine inBR ?_ | refine inBS ?_ | refine inBN (by decide) ?_)) | (refine W_condT ?hc ?_; (case hc => (simp (disch := omega) only [go_sem, ↓reduceIte, Nat.reduceEqDiff, Nat.reduceAdd, Nat.reduceLeDiff, e2, e4, e8, e9, e10, l2, l4, l4', c1, hi, idxA, Int.toNat_natCast, hce, c2, hl2, c3]; done))) | (refine W_condF ?hc ?_; (case hc => (simp (disch := omega) only [go_sem, ↓reduceIte, Nat.reduceEqDiff, Nat.reduceAdd, Nat.reduceLeDiff, e2, e4, e8, e9, e10, l2, l4, l4', c1, hi, idxA, Int.toNat_natCast, hce, c2, hl2, c3]; done))))
      rw [T.at_out (.inr h2)] at hat
      refine W_ret ?_; try (repeat (first | refine thenI ?_ | refine thenE ?_ | refine thenR ?_ | refine inBI ?_ | refine inBR ?_ | refine inBS ?_ | refine inBN (by decide) ?_))
      refine finC2 (.inl rfl) (by (simp (disch := omega) only [go_sem, ↓reduceIte, Nat.reduceEqDiff, Nat.reduceAdd, Nat.reduceLeDiff, e2, e4, e8, e9, e10, l2, l4, l4', c1, hi, idxA, Int.toNat_natCast]); try rfl) (by (simp (disch := omega) only [go_sem, ↓reduceIte, Nat.reduceEqDiff, Nat.reduceAdd, Nat.reduceLeDiff, e2, e4, e8, e9, e10, l2, l4, l4', c1, hi, idxA, Int.toNat_natCast]); try rfl) rfl ⟨rfl, [_, _, _, _], (by rw [← hat]; rfl), by unfold T.atD; rw [← hat]; exact enc_zero _⟩
    have c3 : decide (p[j] ≥ (args.length : Int)) = false := by simp; omega
    have hy : args[p[j].toNat]? = some args[p[j].toNat] := List.getElem?_eq_getElem (by omega)
    obtain ⟨i', o', c', cs', rfl, hcl, hE', hcs⟩ := row_at hr hy
    rw [T.at_in (t := .mk k n nm args) (by omega) (by show _ < (args.length : Int); omega) hy] at hat
    revert hat hE'
    cases args[p[j].toNat] with | mk k' n' nm' args' => ?_
    intro hat hE'
    obtain ⟨s', rfl, hr'⟩ := hE'.open
    have hi2 : (0 ≤ p[j] ∧ p[j] < (args.length : Int)) = True := by simp; omega
    have hld := fun loc => load_row (A := []) (loc := loc) ag29 sz29 hcl hcs
    repeat (first | (refine W_reg rfl fun G K hG hK => ?_; simp (disch := omega) only [go_sem, ↓reduceIte, Nat.reduceEqDiff, Nat.reduceAdd, Nat.reduceLeDiff, hG, e2, e4, e8, e9, e10, l2, l4, l4', c1, hi, idxA, Int.toNat_natCast, hce, c2, hl2, c3, hi2, hld]; refine hK _ _ ?_; clear hK K hG G) | (refine W_end rfl fun G K hG hK => ?_; simp (disch := omega) only [go_sem, ↓reduceIte, Nat.reduceEqDiff, Nat.reduceAdd, Nat.reduceLeDiff, hG, e2, e4, e8, e9, e10, l2, l4, l4', c1, hi, idxA, Int.toNat_natCast, hce, c2, hl2, c3, hi2, hld]; refine hK _ _ ?_; clear hK K hG G; repeat (first | refine thenI ?_ | refine thenE ?_ | refine thenR ?_ | refine inBI ?_ | refine inBR ?_ | refine inBS ?_ | refine inBN (by decide) ?_)) | refine W_seqS ?_ | refine W_seqC ?_ | refine W_seqB ?_ | refine W_block ?_ | (refine W_skip ?_; repeat (first | refine thenI ?_ | refine thenE ?_ | refine thenR ?_ | refine inBI ?_ | refine inBR ?_ | refine inBS ?_ | refine inBN (by decide) ?_)) | (refine W_condT ?hc ?_; (case hc => (simp (disch := omega) only [go_sem, ↓reduceIte, Nat.reduceEqDiff, Nat.reduceAdd, Nat.reduceLeDiff, e2, e4, e8, e9, e10, l2, l4, l4', c1, hi, idxA, Int.toNat_natCast, hce, c2, hl2, c3, hi2, hld]; done))) | (refine W_condF ?hc ?_; (case hc => (simp (disch := omega) only [go_sem, ↓reduceIte, Nat.reduceEqDiff, Nat.reduceAdd, Nat.reduceLeDiff, e2, e4, e8, e9, e10, l2, l4, l4', c1, hi, idxA, Int.toNat_natCast, hce, c2, hl2, c3, hi2, hld]; done))))
    refine ⟨p.length - (j + 1), by omega, j + 1, k', n', nm', args', s', rfl, by omega, rfl, hr', hat, (by (simp (disch := omega) only [go_sem, ↓reduceIte, Nat.reduceEqDiff, Nat.reduceAdd, Nat.reduceLeDiff, e2, e4, e8, e9, e10, l2, l4, l4', c1, hi, idxA, Int.toNat_natCast]); try rfl), (by (simp (disch := omega) only [go_sem, ↓reduceIte, Nat.reduceEqDiff, Nat.reduceAdd, Nat.reduceLeDiff, e2, e4, e8, e9, e10, l2, l4, l4', c1, hi, idxA, Int.toNat_natCast]); try rfl), (by (simp (disch := omega) only [go_sem, ↓reduceIte, Nat.reduceEqDiff, Nat.reduceAdd, Nat.reduceLeDiff, e2, e4, e8, e9, e10, l2, l4, l4', c1, hi, idxA, Int.toNat_natCast]); try rfl), (by (simp (disch := omega) only [go_sem, ↓reduceIte, Nat.reduceEqDiff, Nat.reduceAdd, Nat.reduceLeDiff, e2, e4, e8, e9, e10, l2, l4, l4', c1, hi, idxA, Int.toNat_natCast]); try rfl), (by (simp (disch := omega) only [go_sem, ↓reduceIte, Nat.reduceEqDiff, Nat.reduceAdd, Nat.reduceLeDiff, e2, e4, e8, e9, e10, l2, l4, l4', c1, hi, idxA, Int.toNat_natCast]); try rfl), (by (simp (disch := omega) only [go_sem, ↓reduceIte, Nat.reduceEqDiff, Nat.reduceAdd, Nat.reduceLeDiff, e2, e4, e8, e9, e10, l2, l4, l4', c1, hi, idxA, Int.toNat_natCast]); try rfl), ⟨(by (simp (disch := omega) only [go_sem, ↓reduceIte, Nat.reduceEqDiff, Nat.reduceAdd, Nat.reduceLeDiff, e2, e4, e8, e9, e10, l2, l4, l4', c1, hi, idxA, Int.toNat_natCast]); try rfl), (by (simp (disch := omega) only [go_sem, ↓reduceIte, Nat.reduceEqDiff, Nat.reduceAdd, Nat.reduceLeDiff, e2, e4, e8, e9, e10, l2, l4, l4', c1, hi, idxA, Int.toNat_natCast]); try rfl)⟩⟩
  · have c1 : decide ((j : Int) < (p.length : Int)) = false := by simpa using hlt
    have hjn : j = p.length := by omega
    subst hjn
    rw [List.drop_length] at hat
    have n2 := hr.notLoc.1
    repeat (first | (refine W_reg rfl fun G K hG hK => ?_; simp (disch := omega) only [go_sem, ↓reduceIte, Nat.reduceEqDiff, Nat.reduceAdd, Nat.reduceLeDiff, hG, e2, e4, e8, e9, e10, l2, l4, l4', c1]; refine hK _ _ ?_; clear hK K hG G) | (refine W_end rfl fun G K hG hK => ?_; simp (disch := omega) only [go_sem, ↓reduceIte, Nat.reduceEqDiff, Nat.reduceAdd, Nat.reduceLeDiff, hG, e2, e4, e8, e9, e10, l2, l4, l4', c1]; refine hK _ _ ?_; clear hK K hG G; repeat (first | refine thenI ?_ | refine thenE ?_ | refine thenR ?_ | refine inBI ?_ | refine inBR ?_ | refine inBS ?_ | refine inBN (by decide) ?_)) | refine W_seqS ?_ | refine W_seqC ?_ | refine W_seqB ?_ | refine W_block ?_ | (refine W_skip ?_; repeat (first | refine thenI ?_ | refine thenE ?_ | refine thenR ?_ | refine inBI ?_ | refine inBR ?_ | refine inBS ?_ | refine inBN (by decide) ?_)) | (refine W_condT ?hc ?_; (case hc => (simp (disch := omega) only [go_sem, ↓reduceIte, Nat.reduceEqDiff, Nat.reduceAdd, Nat.reduceLeDiff, e2, e4, e8, e9, e10, l2, l4, l4', c1]; done))) | (refine W_condF ?hc ?_; (case hc => (simp (disch := omega) only [go_sem, ↓reduceIte, Nat.reduceEqDiff, Nat.reduceAdd, Nat.reduceLeDiff, e2, e4, e8, e9, e10, l2, l4, l4', c1]; done))))
    refine W_exit ?_; repeat (first | refine thenI ?_ | refine thenE ?_ | refine thenR ?_ | refine inBI ?_ | refine inBR ?_ | refine inBS ?_ | refine inBN (by decide) ?_)
    repeat (first | (refine W_reg rfl fun G K hG hK => ?_; simp (disch := omega) only [go_sem, ↓reduceIte, Nat.reduceEqDiff, Nat.reduceAdd, Nat.reduceLeDiff, hG, e2, e4, e8, e9, e10, l2, l4, l4', c1]; refine hK _ _ ?_; clear hK K hG G) | (refine W_end rfl fun G K hG hK => ?_; simp (disch := omega) only [go_sem, ↓reduceIte, Nat.reduceEqDiff, Nat.reduceAdd, Nat.reduceLeDiff, hG, e2, e4, e8, e9, e10, l2, l4, l4', c1]; refine hK _ _ ?_; clear hK K hG G; repeat (first | refine thenI ?_ | refine thenE ?_ | refine thenR ?_ | refine inBI ?_ | refine inBR ?_ | refine inBS ?_ | refine inBN (by decide) ?_)) | refine W_seqS ?_ | refine W_seqC ?_ | refine W_seqB ?_ | refine W_block ?_ | (refine W_skip ?_; repeat (first | refine thenI ?_ | refine thenE ?_ | refine thenR ?_ | refine inBI ?_ | refine inBR ?_ | refine inBS ?_ | refine inBN (by decide) ?_)) | (refine W_condT ?hc ?_; (case hc => (simp (disch := omega) only [go_sem, ↓reduceIte, Nat.reduceEqDiff, Nat.reduceAdd, Nat.reduceLeDiff, e2, e4, e8, e9, e10, l2, l4, l4', c1]; done))) | (refine W_condF ?hc ?_; (case hc => (simp (disch := omega) only [go_sem, ↓reduceIte, Nat.reduceEqDiff, Nat.reduceAdd, Nat.reduceLeDiff, e2, e4, e8, e9, e10, l2, l4, l4', c1]; done))))
    refine W_ret ?_; try (repeat (first | refine thenI ?_ | refine thenE ?_ | refine thenR ?_ | refine inBI ?_ | refine inBR ?_ | refine inBS ?_ | refine inBN (by decide) ?_))
    refine finC2 (.inl rfl) (by (simp (disch := omega) only [go_sem, ↓reduceIte, Nat.reduceEqDiff, Nat.reduceAdd, Nat.reduceLeDiff, e2, e4, e8, e9, e10, l2, l4, l4', c1]); try rfl) (by (simp (disch := omega) only [go_sem, ↓reduceIte, Nat.reduceEqDiff, Nat.reduceAdd, Nat.reduceLeDiff, e2, e4, e8, e9, e10, l2, l4, l4', c1]); try rfl) rfl ⟨rfl, [.int .i64 k, .int .i64 n, .string nm, s], ?_, ?_⟩
    · rw [← hat]; rfl
    · unfold T.atD
      rw [← hat]
      exact Enc.close _ _ _ hr

theorem specTermAt_ok (p : List Int) (t : T) (st : St) (cs : List Value) (s1 : Value) (hbig : p.length ≤ 4611686018427387904) (hl : Lim 1073741824 t) (hE : Enc st t cs) (hp : Rw st p s1) :
    CallS Try.prog 15 [.agg cs.toArray, s1] st fun r st2 => Ext st st2 ∧ ∃ ds L, r = .tuple #[.agg ds.toArray, .bool (T.at p t).isSome] ∧ OwnT st2 (T.atD p t) ds L ∧ Fresh st.length L := by
  refine CallS_of_W [] 34 Try.func15 rfl rfl rfl rfl (by simp) ?_
  have hlen : lenE Try.prog 25 s1 = some (.int .i64 p.length) := row_len hp Try.underlying25
  have n1 := hp.notLoc.1
  obtain ⟨k0, n0, nm0, args0⟩ := t
  obtain ⟨s0, rfl, hr0⟩ := hE.open
  repeat (first | (refine W_reg rfl fun G K hG hK => ?_; simp (disch := omega) only [go_sem, ↓reduceIte, Nat.reduceEqDiff, Nat.reduceAdd, Nat.reduceLeDiff, hG, hlen]; refine hK _ _ ?_; clear hK K hG G) | (refine W_end rfl fun G K hG hK => ?_; simp (disch := omega) only [go_sem, ↓reduceIte, Nat.reduceEqDiff, Nat.reduceAdd, Nat.reduceLeDiff, hG, hlen]; refine hK _ _ ?_; clear hK K hG G; repeat (first | refine thenI ?_ | refine thenE ?_ | refine thenR ?_ | refine inBI ?_ | refine inBR ?_ | refine inBS ?_ | refine inBN (by decide) ?_)) | refine W_seqS ?_ | refine W_seqC ?_ | refine W_seqB ?_ | refine W_block ?_ | (refine W_skip ?_; repeat (first | refine thenI ?_ | refine thenE ?_ | refine thenR ?_ | refine inBI ?_ | refine inBR ?_ | refine inBS ?_ | refine inBN (by decide) ?_)) | (refine W_condT ?hc ?_; (case hc => (simp (disch := omega) only [go_sem, ↓reduceIte, Nat.reduceEqDiff, Nat.reduceAdd, Nat.reduceLeDiff, hlen]; done))) | (refine W_condF ?hc ?_; (case hc => (simp (disch := omega) only [go_sem, ↓reduceIte, Nat.reduceEqDiff, Nat.reduceAdd, Nat.reduceLeDiff, hlen]; done))))
  refine W_loop (fun d fr st' => ∃ (j : Nat) (k n : Int) (nm : ByteArray) (args : List T) (s : Value), d = p.length - j ∧ j ≤ p.length ∧ (st' = st) ∧ (RowT st args s) ∧ (Lim 1073741824 (.mk k n nm args)) ∧ (T.at (p.drop j) (.mk k n nm args) = T.at p (.mk k0 n0 nm0 args0)) ∧ (fr.env 2 = .pointer (some ⟨2, 0, some 1⟩)) ∧ (fr.env 4 = .pointer (some ⟨4, 0, some 1⟩)) ∧ (fr.env 1 = s1) ∧ (fr.env 6 = .int .i64 j) ∧ (fr.loc 2 = (1, [.int .i64 k, .int .i64 n, .string nm, s])) ∧ ((fr.loc 4).1 = 1 ∧ (fr.loc 4).2.length = 4)) (p.length) ?_ ?_
  · exact ⟨0, k0, n0, nm0, args0, s0, by omega, by omega, rfl, hr0, hl, by rw [List.drop_zero], (by (simp (disch := omega) only [go_sem, ↓reduceIte, Nat.reduceEqDiff, Nat.reduceAdd, Nat.reduceLeDiff, hlen]); try rfl), (by (simp (disch := omega) only [go_sem, ↓reduceIte, Nat.reduceEqDiff, Nat.reduceAdd, Nat.reduceLeDiff, hlen]); try rfl), (by (simp (disch := omega) only [go_sem, ↓reduceIte, Nat.reduceEqDiff, Nat.reduceAdd, Nat.reduceLeDiff, hlen]); try rfl), (by (simp (disch := omega) only [go_sem, ↓reduceIte, Nat.reduceEqDiff, Nat.reduceAdd, Nat.reduceLeDiff, hlen]); try rfl), (by (simp (disch := omega) only [go_sem, ↓reduceIte, Nat.reduceEqDiff, Nat.reduceAdd, Nat.reduceLeDiff, hlen]); try rfl), ⟨(by (simp (disch := omega) only [go_sem, ↓reduceIte, Nat.reduceEqDiff, Nat.reduceAdd, Nat.reduceLeDiff, hlen]); try rfl), (by (simp (disch := omega) only [go_sem, ↓reduceIte, Nat.reduceEqDiff, Nat.reduceAdd, Nat.reduceLeDiff, hlen]); try rfl)⟩⟩
  rintro d ⟨env, loc⟩ st' ⟨j, k, n, nm, args, s, hd, hj, hst, hr, hla, hat, e2, e4, e1, e6, l2, ⟨l4, l4'⟩⟩
  simp only at e2 e4 e1 e6 l2 l4 l4'
  subst hst
  by_cases hlt : j < p.length
  · have c1 : decide ((j : Int) < (p.length : Int)) = true := by simpa using hlt
    have hi := idxOk hlt
    have hx : p[j]? = some p[j] := List.getElem?_eq_getElem hlt
    have htk : p.take (j + 1) = p.take j ++ [p[j]] := List.take_succ_eq_append_getElem hlt
    obtain ⟨i, o, c, rfl, hce⟩ := row_atI hp hx
    have hl2 : lenE Try.prog 27 s = some (.int .i64 args.length) := row_len hr Try.underlying27
    have hab := hla.args.1
    rw [List.drop_eq_getElem_cons hlt] at hat
    repeat (first | (refine W_reg rfl fun G K hG hK => ?_; simp (disch := omega) only [go_sem, ↓reduceIte, Nat.reduceEqDiff, Nat.reduceAdd, Nat.reduceLeDiff, hG, hlen, e2, e4, e1, e6, l2, l4, l4', c1, hi, idxA, Int.toNat_natCast]; refine hK _ _ ?_; clear hK K hG G) | (refine W_end rfl fun G K hG hK => ?_; simp (disch := omega) only [go_sem, ↓reduceIte, Nat.reduceEqDiff, Nat.reduceAdd, Nat.reduceLeDiff, hG, hlen, e2, e4, e1, e6, l2, l4, l4', c1, hi, idxA, Int.toNat_natCast]; refine hK _ _ ?_; clear hK K hG G; repeat (first | refine thenI ?_ | refine thenE ?_ | refine thenR ?_ | refine inBI ?_ | refine inBR ?_ | refine inBS ?_ | refine inBN (by decide) ?_)) | refine W_seqS ?_ | refine W_seqC ?_ | refine W_seqB ?_ | refine W_block ?_ | (refine W_skip ?_; repeat (first | refine thenI ?_ | refine thenE ?_ | refine thenR ?_ | refine inBI ?_ | refine inBR ?_ | refine inBS ?_ | refine inBN (by decide) ?_)) | (refine W_condT ?hc ?_; (case hc => (simp (disch := omega) only [go_sem, ↓reduceIte, Nat.reduceEqDiff, Nat.reduceAdd, Nat.reduceLeDiff, hlen, e2, e4, e1, e6, l2, l4, l4', c1, hi, idxA, Int.toNat_natCast]; done))) | (refine W_condF ?hc ?_; (case hc => (simp (disch := omega) only [go_sem, ↓reduceIte, Nat.reduceEqDiff, Nat.reduceAdd, Nat.reduceLeDiff, hlen, e2, e4, e1, e6, l2, l4, l4', c1, hi, idxA, Int.toNat_natCast]; done))))
    (repeat (first | refine W_seqS ?_ | refine W_seqC ?_ | refine W_seqB ?_ | refine W_block ?_)); refine W_regD mixed [] [(0,false),(1,false),(2,false),(3,false),(4,false),(5,false),(6,false),(7,false),(8,true),(9,false)] rfl (by decide +kernel) fun G K hG hK => ?_; simp only [pickOps, List.filterMap_cons, List.filterMap_nil, List.getElem?_cons_zero, List.getElem?_cons_succ, Option.map_some]; simp (disch := omega) only [go_sem, ↓reduceIte, Nat.reduceEqDiff, Nat.reduceAdd, Nat.reduceLeDiff, hG, hlen, e2, e4, e1, e6, l2, l4, l4', c1, hi, idxA, Int.toNat_natCast, hce, hl2]
    refine w_call (l1In_ok p[j] 0 ((args.length : Int) - 1) st') (by simp (disch := omega) only [go_sem, ↓reduceIte, Nat.reduceEqDiff, hlen, e2, e4, e1, e6, l2, l4, l4', c1, hi, idxA, Int.toNat_natCast]) ?hl ?_
    case hl => first | rfl | (simp only [go_sem, List.all_cons, List.all_nil, Bool.not_false, Bool.and_self, hlen, e2, e4, e1, e6, l2, l4, l4', c1, hi, idxA, Int.toNat_natCast]; done)
    rintro r_ st' ⟨rfl, rfl⟩; refine ⟨fun e => Ext.refl _, ?_⟩
    by_cases h1 : p[j] < 0
    · have c2 : decide (p[j] ≥ 0) = false := by simpa using h1
      simp (disch := omega) only [go_sem, ↓reduceIte, Nat.reduceEqDiff, Nat.reduceAdd, Nat.reduceLeDiff, hG, hlen, e2, e4, e1, e6, l2, l4, l4', c1, hi, idxA, Int.toNat_natCast, c2, Bool.false_and]; refine hK _ _ ?_; clear hK K hG G; repeat (first | refine thenI ?_ | refine thenE ?_ | refine thenR ?_ | refine inBI ?_ | refine inBR ?_ | refine inBS ?_ | refine inBN (by decide) ?_)
      repeat (first | (refine W_reg rfl fun G K hG hK => ?_; simp (disch := omega) only [go_sem, ↓reduceIte, Nat.reduceEqDiff, Nat.reduceAdd, Nat.reduceLeDiff, hG, hlen, e2, e4, e1, e6, l2, l4, l4', c1, hi, idxA, Int.toNat_natCast]; refine hK _ _ ?_; clear hK K hG G) | (refine W_end rfl fun G K hG hK => ?_; simp (disch := omega) only [go_sem, ↓reduceIte, Nat.reduceEqDiff, Nat.reduceAdd, Nat.reduceLeDiff, hG, hlen, e2, e4, e1, e6, l2, l4, l4', c1, hi, idxA, Int.toNat_natCast]; refine hK _ _ ?_; clear hK K hG G; repeat (first | refine thenI ?_ | refine thenE ?_ | refine thenR ?_ | refine inBI ?_ | refine inBR ?_ | refine inBS ?_ | refine inBN (by decide) ?_)) | refine W_seqS ?_ | refine W_seqC ?_ | refine W_seqB ?_ | refine W_block ?_ | (refine W_skip ?_; repeat (first | refine thenI ?_ | refine thenE ?_ | refine thenR ?_ | refine inBI ?_ | refine inBR ?_ | refine inBS ?_ | refine inBN (by decide) ?_)) | (refine W_condT ?hc ?_; (case hc => (simp (disch := omega) only [go_sem, ↓reduceIte, Nat.reduceEqDiff, Nat.reduceAdd, Nat.reduceLeDiff, hlen, e2, e4, e1, e6, l2, l4, l4', c1, hi, idxA, Int.toNat_natCast]; done))) | (refine W_condF ?hc ?_; (case hc => (simp (disch := omega) only [go_sem, ↓reduceIte, Nat.reduceEqDiff, Nat.reduceAdd, Nat.reduceLeDiff, hlen, e2, e4, e1, e6, l2, l4, l4', c1, hi, idxA, Int.toNat_natCast]; done))))
      rw [T.at_out (.inl h1)] at hat
      refine W_ret ?_; try (repeat (first | refine thenI ?_ | refine thenE ?_ | refine thenR ?_ | refine inBI ?_ | refine inBR ?_ | refine inBS ?_ | refine inBN (by decide) ?_))
      refine finC2 (.inl rfl) (by (simp (disch := omega) only [go_sem, ↓reduceIte, Nat.reduceEqDiff, Nat.reduceAdd, Nat.reduceLeDiff, hlen, e2, e4, e1, e6, l2, l4, l4', c1, hi, idxA, Int.toNat_natCast]); try rfl) (by (simp (disch := omega) only [go_sem, ↓reduceIte, Nat.reduceEqDiff, Nat.reduceAdd, Nat.reduceLeDiff, hlen, e2, e4, e1, e6, l2, l4, l4', c1, hi, idxA, Int.toNat_natCast]); try rfl) rfl ⟨Ext.refl _, [_, _, _, _], [], (by rw [← hat]; rfl), by unfold T.atD; rw [← hat]; exact own_zero _, .nil _⟩
    have c2 : decide (p[j] ≥ 0) = true := by simpa using h1
    by_cases h2 : p[j] ≥ (args.length : Int)
    · have c3 : decide (p[j] ≤ (args.length : Int) - 1) = false := by simp; omega
      simp (disch := omega) only [go_sem, ↓reduceIte, Nat.reduceEqDiff, Nat.reduceAdd, Nat.reduceLeDiff, hG, hlen, e2, e4, e1, e6, l2, l4, l4', c1, hi, idxA, Int.toNat_natCast, c2, c3, Bool.and_false]; refine hK _ _ ?_; clear hK K hG G; repeat (first | refine thenI ?_ | refine thenE ?_ | refine thenR ?_ | refine inBI ?_ | refine inBR ?_ | refine inBS ?_ | refine inBN (by decide) ?_)
      repeat (first | (refine W_reg rfl fun G K hG hK => ?_; simp (disch := omega) only [go_sem, ↓reduceIte, Nat.reduceEqDiff, Nat.reduceAdd, Nat.reduceLeDiff, hG, hlen, e2, e4, e1, e6, l2, l4, l4', c1, hi, idxA, Int.toNat_natCast]; refine hK _ _ ?_; clear hK K hG G) | (refine W_end rfl fun G K hG hK => ?_; simp (disch := omega) only [go_sem, ↓reduceIte, Nat.reduceEqDiff, Nat.reduceAdd, Nat.reduceLeDiff, hG, hlen, e2, e4, e1, e6, l2, l4, l4', c1, hi, idxA, Int.toNat_natCast]; refine hK _ _ ?_; clear hK K hG G; repeat (first | refine thenI ?_ | refine thenE ?_ | refine thenR ?_ | refine inBI ?_ | refine inBR ?_ | refine inBS ?_ | refine inBN (by decide) ?_)) | refine W_seqS ?_ | refine W_seqC ?_ | refine W_seqB ?_ | refine W_block ?_ | (refine W_skip ?_; repeat (first | refine thenI ?_ | refine thenE ?_ | refine thenR ?_ | refine inBI ?_ | refine inBR ?_ | refine inBS ?_ | refine inBN (by decide) ?_)) | (refine W_condT ?hc ?_; (case hc => (simp (disch := omega) only [go_sem, ↓reduceIte, Nat.reduceEqDiff, Nat.reduceAdd, Nat.reduceLeDiff, hlen, e2, e4, e1, e6, l2, l4, l4', c1, hi, idxA, Int.toNat_natCast]; done))) | (refine W_condF ?hc ?_; (case hc => (simp (disch := omega) only [go_sem, ↓reduceIte, Nat.reduceEqDiff, Nat.reduceAdd, Nat.reduceLeDiff, hlen, e2, e4, e1, e6, l2, l4, l4', c1, hi, idxA, Int.toNat_natCast]; done))))
      rw [T.at_out (.inr h2)] at hat
      refine W_ret ?_; try (repeat (first | refine thenI ?_ | refine thenE ?_ | refine thenR ?_ | refine inBI ?_ | refine inBR ?_ | refine inBS ?_ | refine inBN (by decide) ?_))
      refine finC2 (.inl rfl) (by (simp (disch := omega) only [go_sem, ↓reduceIte, Nat.reduceEqDiff, Nat.reduceAdd, Nat.reduceLeDiff, hlen, e2, e4, e1, e6, l2, l4, l4', c1, hi, idxA, Int.toNat_natCast]); try rfl) (by (simp (disch := omega) only [go_sem, ↓reduceIte, Nat.reduceEqDiff, Nat.reduceAdd, Nat.reduceLeDiff, hlen, e2, e4, e1, e6, l2, l4, l4', c1, hi, idxA, Int.toNat_natCast]); try rfl) rfl ⟨Ext.refl _, [_, _, _, _], [], (by rw [← hat]; rfl), by unfold T.atD; rw [← hat]; exact own_zero _, .nil _⟩
    have c3 : decide (p[j] ≤ (args.length : Int) - 1) = true := by simp; omega
    have hy : args[p[j].toNat]? = some args[p[j].toNat] := List.getElem?_eq_getElem (by omega)
    have hlx := hla.args.2 _ (List.mem_of_getElem? hy)
    obtain ⟨i', o', c', cs', rfl, hcl, hE', hcs⟩ := row_at hr hy
    rw [T.at_in (t := .mk k n nm args) (by omega) (by show _ < (args.length : Int); omega) hy] at hat
    obtain ⟨k', n', nm', args', hxe⟩ := T.eta args[p[j].toNat]
    rw [hxe] at hat hE' hlx
    obtain ⟨s', rfl, hr'⟩ := hE'.open
    have hi2 : (0 ≤ p[j] ∧ p[j] < (args.length : Int)) = True := by simp; omega
    have hld := fun loc => load_row (A := []) (loc := loc) ag29 sz29 hcl hcs
    simp (disch := omega) only [go_sem, ↓reduceIte, Nat.reduceEqDiff, Nat.reduceAdd, Nat.reduceLeDiff, hG, hlen, e2, e4, e1, e6, l2, l4, l4', c1, hi, idxA, Int.toNat_natCast, c2, c3]; refine hK _ _ ?_; clear hK K hG G; repeat (first | refine thenI ?_ | refine thenE ?_ | refine thenR ?_ | refine inBI ?_ | refine inBR ?_ | refine inBS ?_ | refine inBN (by decide) ?_)
    repeat (first | (refine W_reg rfl fun G K hG hK => ?_; simp (disch := omega) only [go_sem, ↓reduceIte, Nat.reduceEqDiff, Nat.reduceAdd, Nat.reduceLeDiff, hG, hlen, e2, e4, e1, e6, l2, l4, l4', c1, hi, idxA, Int.toNat_natCast]; refine hK _ _ ?_; clear hK K hG G) | (refine W_end rfl fun G K hG hK => ?_; simp (disch := omega) only [go_sem, ↓reduceIte, Nat.reduceEqDiff, Nat.reduceAdd, Nat.reduceLeDiff, hG, hlen, e2, e4, e1, e6, l2, l4, l4', c1, hi, idxA, Int.toNat_natCast]; refine hK _ _ ?_; clear hK K hG G; repeat (first | refine thenI ?_ | refine thenE ?_ | refine thenR ?_ | refine inBI ?_ | refine inBR ?_ | refine inBS ?_ | refine inBN (by decide) ?_)) | refine W_seqS ?_ | refine W_seqC ?_ | refine W_seqB ?_ | refine W_block ?_ | (refine W_skip ?_; repeat (first | refine thenI ?_ | refine thenE ?_ | refine thenR ?_ | refine inBI ?_ | refine inBR ?_ | refine inBS ?_ | refine inBN (by decide) ?_)) | (refine W_condT ?hc ?_; (case hc => (simp (disch := omega) only [go_sem, ↓reduceIte, Nat.reduceEqDiff, Nat.reduceAdd, Nat.reduceLeDiff, hlen, e2, e4, e1, e6, l2, l4, l4', c1, hi, idxA, Int.toNat_natCast]; done))) | (refine W_condF ?hc ?_; (case hc => (simp (disch := omega) only [go_sem, ↓reduceIte, Nat.reduceEqDiff, Nat.reduceAdd, Nat.reduceLeDiff, hlen, e2, e4, e1, e6, l2, l4, l4', c1, hi, idxA, Int.toNat_natCast]; done))))
    refine W_endD mixed [] [(0,false),(1,false),(2,false),(3,false),(4,false),(5,false),(6,false),(7,false),(8,false)] rfl (by decide +kernel) fun G K hG hK => ?_; simp only [pickOps, List.filterMap_cons, List.filterMap_nil, List.getElem?_cons_zero, List.getElem?_cons_succ, Option.map_some]; simp (disch := omega) only [go_sem, ↓reduceIte, Nat.reduceEqDiff, Nat.reduceAdd, Nat.reduceLeDiff, hG, hlen, e2, e4, e1, e6, l2, l4, l4', c1, hi, idxA, Int.toNat_natCast, hce, hl2, hi2, hld]
    refine hK _ _ ?_; clear hK K hG G; repeat (first | refine thenI ?_ | refine thenE ?_ | refine thenR ?_ | refine inBI ?_ | refine inBR ?_ | refine inBS ?_ | refine inBN (by decide) ?_)
    repeat (first | (refine W_reg rfl fun G K hG hK => ?_; simp (disch := omega) only [go_sem, ↓reduceIte, Nat.reduceEqDiff, Nat.reduceAdd, Nat.reduceLeDiff, hG, hlen, e2, e4, e1, e6, l2, l4, l4', c1, hi, idxA, Int.toNat_natCast]; refine hK _ _ ?_; clear hK K hG G) | (refine W_end rfl fun G K hG hK => ?_; simp (disch := omega) only [go_sem, ↓reduceIte, Nat.reduceEqDiff, Nat.reduceAdd, Nat.reduceLeDiff, hG, hlen, e2, e4, e1, e6, l2, l4, l4', c1, hi, idxA, Int.toNat_natCast]; refine hK _ _ ?_; clear hK K hG G; repeat (first | refine thenI ?_ | refine thenE ?_ | refine thenR ?_ | refine inBI ?_ | refine inBR ?_ | refine inBS ?_ | refine inBN (by decide) ?_)) | refine W_seqS ?_ | refine W_seqC ?_ | refine W_seqB ?_ | refine W_block ?_ | (refine W_skip ?_; repeat (first | refine thenI ?_ | refine thenE ?_ | refine thenR ?_ | refine inBI ?_ | refine inBR ?_ | refine inBS ?_ | refine inBN (by decide) ?_)) | (refine W_condT ?hc ?_; (case hc => (simp (disch := omega) only [go_sem, ↓reduceIte, Nat.reduceEqDiff, Nat.reduceAdd, Nat.reduceLeDiff, hlen, e2, e4, e1, e6, l2, l4, l4', c1, hi, idxA, Int.toNat_natCast]; done))) | (refine W_condF ?hc ?_; (case hc => (simp (disch := omega) only [go_sem, ↓reduceIte, Nat.reduceEqDiff, Nat.reduceAdd, Nat.reduceLeDiff, hlen, e2, e4, e1, e6, l2, l4, l4', c1, hi, idxA, Int.toNat_natCast]; done))))
    refine ⟨p.length - (j + 1), by omega, j + 1, k', n', nm', args', s', rfl, by omega, rfl, hr', hlx, hat, (by (simp (disch := omega) only [go_sem, ↓reduceIte, Nat.reduceEqDiff, Nat.reduceAdd, Nat.reduceLeDiff, hlen, e2, e4, e1, e6, l2, l4, l4', c1, hi, idxA, Int.toNat_natCast]); try rfl), (by (simp (disch := omega) only [go_sem, ↓reduceIte, Nat.reduceEqDiff, Nat.reduceAdd, Nat.reduceLeDiff, hlen, e2, e4, e1, e6, l2, l4, l4', c1, hi, idxA, Int.toNat_natCast]); try rfl), (by (simp (disch := omega) only [go_sem, ↓reduceIte, Nat.reduceEqDiff, Nat.reduceAdd, Nat.reduceLeDiff, hlen, e2, e4, e1, e6, l2, l4, l4', c1, hi, idxA, Int.toNat_natCast]); try rfl), (by (simp (disch := omega) only [go_sem, ↓reduceIte, Nat.reduceEqDiff, Nat.reduceAdd, Nat.reduceLeDiff, hlen, e2, e4, e1, e6, l2, l4, l4', c1, hi, idxA, Int.toNat_natCast]); try rfl), (by (simp (disch := omega) only [go_sem, ↓reduceIte, Nat.reduceEqDiff, Nat.reduceAdd, Nat.reduceLeDiff, hlen, e2, e4, e1, e6, l2, l4, l4', c1, hi, idxA, Int.toNat_natCast]); try rfl), ⟨(by (simp (disch := omega) only [go_sem, ↓reduceIte, Nat.reduceEqDiff, Nat.reduceAdd, Nat.reduceLeDiff, hlen, e2, e4, e1, e6, l2, l4, l4', c1, hi, idxA, Int.toNat_natCast]); try rfl), (by (simp (disch := omega) only [go_sem, ↓reduceIte, Nat.reduceEqDiff, Nat.reduceAdd, Nat.reduceLeDiff, hlen, e2, e4, e1, e6, l2, l4, l4', c1, hi, idxA, Int.toNat_natCast]); try rfl)⟩⟩
  · have c1 : decide ((j : Int) < (p.length : Int)) = false := by simpa using hlt
    have hjn : j = p.length := by omega
    subst hjn
    rw [List.drop_length] at hat
    have n2 := hr.notLoc.1
    repeat (first | (refine W_reg rfl fun G K hG hK => ?_; simp (disch := omega) only [go_sem, ↓reduceIte, Nat.reduceEqDiff, Nat.reduceAdd, Nat.reduceLeDiff, hG, hlen, e2, e4, e1, e6, l2, l4, l4', c1]; refine hK _ _ ?_; clear hK K hG G) | (refine W_end rfl fun G K hG hK => ?_; simp (disch := omega) only [go_sem, ↓reduceIte, Nat.reduceEqDiff, Nat.reduceAdd, Nat.reduceLeDiff, hG, hlen, e2, e4, e1, e6, l2, l4, l4', c1]; refine hK _ _ ?_; clear hK K hG G; repeat (first | refine thenI ?_ | refine thenE ?_ | refine thenR ?_ | refine inBI ?_ | refine inBR ?_ | refine inBS ?_ | refine inBN (by decide) ?_)) | refine W_seqS ?_ | refine W_seqC ?_ | refine W_seqB ?_ | refine W_block ?_ | (refine W_skip ?_; repeat (first | refine thenI ?_ | refine thenE ?_ | refine thenR ?_ | refine inBI ?_ | refine inBR ?_ | refine inBS ?_ | refine inBN (by decide) ?_)) | (refine W_condT ?hc ?_; (case hc => (simp (disch := omega) only [go_sem, ↓reduceIte, Nat.reduceEqDiff, Nat.reduceAdd, Nat.reduceLeDiff, hlen, e2, e4, e1, e6, l2, l4, l4', c1]; done))) | (refine W_condF ?hc ?_; (case hc => (simp (disch := omega) only [go_sem, ↓reduceIte, Nat.reduceEqDiff, Nat.reduceAdd, Nat.reduceLeDiff, hlen, e2, e4, e1, e6, l2, l4, l4', c1]; done))))
    refine W_exit ?_; repeat (first | refine thenI ?_ | refine thenE ?_ | refine thenR ?_ | refine inBI ?_ | refine inBR ?_ | refine inBS ?_ | refine inBN (by decide) ?_)
    (repeat (first | refine W_seqS ?_ | refine W_seqC ?_ | refine W_seqB ?_ | refine W_block ?_)); refine W_reg rfl fun G K hG hK => ?_; simp (disch := omega) only [go_sem, ↓reduceIte, Nat.reduceEqDiff, Nat.reduceAdd, Nat.reduceLeDiff, hG, hlen, e2, e4, e1, e6, l2, l4, l4', c1]
    refine w_call (l3Copy_ok _ _ _ hla (Enc.close k n nm hr)) (by simp (disch := omega) only [go_sem, ↓reduceIte, Nat.reduceEqDiff, hlen, e2, e4, e1, e6, l2, l4, l4', c1, n2]) ?hl ?_
    case hl => first | rfl | (simp only [go_sem, List.all_cons, List.all_nil, Bool.not_false, Bool.and_self, hlen, e2, e4, e1, e6, l2, l4, l4', c1, n2]; done)
    rintro r_ s_ ⟨hx, ds, L, rfl, ho, hf⟩; refine ⟨fun e => (by cases e), ?_⟩
    obtain ⟨s3, rfl, hr3⟩ := ho.open
    simp (disch := omega) only [go_sem, ↓reduceIte, Nat.reduceEqDiff, Nat.reduceAdd, Nat.reduceLeDiff, hG, hlen, e2, e4, e1, e6, l2, l4, l4', c1]; refine hK _ _ ?_; clear hK K hG G; repeat (first | refine thenI ?_ | refine thenE ?_ | refine thenR ?_ | refine inBI ?_ | refine inBR ?_ | refine inBS ?_ | refine inBN (by decide) ?_)
    repeat (first | (refine W_reg rfl fun G K hG hK => ?_; simp (disch := omega) only [go_sem, ↓reduceIte, Nat.reduceEqDiff, Nat.reduceAdd, Nat.reduceLeDiff, hG, hlen, e2, e4, e1, e6, l2, l4, l4', c1]; refine hK _ _ ?_; clear hK K hG G) | (refine W_end rfl fun G K hG hK => ?_; simp (disch := omega) only [go_sem, ↓reduceIte, Nat.reduceEqDiff, Nat.reduceAdd, Nat.reduceLeDiff, hG, hlen, e2, e4, e1, e6, l2, l4, l4', c1]; refine hK _ _ ?_; clear hK K hG G; repeat (first | refine thenI ?_ | refine thenE ?_ | refine thenR ?_ | refine inBI ?_ | refine inBR ?_ | refine inBS ?_ | refine inBN (by decide) ?_)) | refine W_seqS ?_ | refine W_seqC ?_ | refine W_seqB ?_ | refine W_block ?_ | (refine W_skip ?_; repeat (first | refine thenI ?_ | refine thenE ?_ | refine thenR ?_ | refine inBI ?_ | refine inBR ?_ | refine inBS ?_ | refine inBN (by decide) ?_)) | (refine W_condT ?hc ?_; (case hc => (simp (disch := omega) only [go_sem, ↓reduceIte, Nat.reduceEqDiff, Nat.reduceAdd, Nat.reduceLeDiff, hlen, e2, e4, e1, e6, l2, l4, l4', c1]; done))) | (refine W_condF ?hc ?_; (case hc => (simp (disch := omega) only [go_sem, ↓reduceIte, Nat.reduceEqDiff, Nat.reduceAdd, Nat.reduceLeDiff, hlen, e2, e4, e1, e6, l2, l4, l4', c1]; done))))
    refine W_ret ?_; try (repeat (first | refine thenI ?_ | refine thenE ?_ | refine thenR ?_ | refine inBI ?_ | refine inBR ?_ | refine inBS ?_ | refine inBN (by decide) ?_))
    refine finC2 (.inl rfl) (by (simp (disch := omega) only [go_sem, ↓reduceIte, Nat.reduceEqDiff, Nat.reduceAdd, Nat.reduceLeDiff, hlen, e2, e4, e1, e6, l2, l4, l4', c1]); try rfl) (by (simp (disch := omega) only [go_sem, ↓reduceIte, Nat.reduceEqDiff, Nat.reduceAdd, Nat.reduceLeDiff, hlen, e2, e4, e1, e6, l2, l4, l4', c1]); try rfl) rfl ⟨hx, [.int .i64 k, .int .i64 n, .string nm, s3], L, ?_, ?_, hf⟩
    · rw [← hat]; rfl
    · unfold T.atD
      rw [← hat]
      exact ho
end Go.Proofs.Ytjdokceabfaklaa.AM
