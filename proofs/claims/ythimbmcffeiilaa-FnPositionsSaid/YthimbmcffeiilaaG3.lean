/- My texts for the law, laid together (part 3): C8 K4 C10 PL2 K5 C9 C9b. -/
import Derived.Test.YthimbmcffeiilaaG2
/- Subterms: impl.at, impl.TermAt, spec.TermAt. -/
namespace Go.Proofs.Ythimbmcffeiilaa.AM
open Go Go.Proofs
set_option linter.unusedVariables false
set_option linter.unusedSimpArgs false
set_option maxRecDepth 100000
attribute [local go_sem] List.map_cons List.map_nil List.all_cons List.all_nil Bool.and_self Option.map_some List.getElem?_toArray Option.bind_some gye_b gye_t gsk_b gsk_t gb1 gb2 gb3 gb4 bne_self_eq_false beq_self_eq_true w_guard w_nil stepV_some step_some step_some' w_move w_assign w_pick w_binOp w_unOp w_load w_fieldAddr w_indexAddr w_len w_max w_index ev_max max_int ev_index w_box w_alloc w_store w_field w_extract w_nilCheck w_convert w_buildSlice w_build ev_buildL fillL_nil fillL_cons bs0 bs1 ev_conv ev_bin ev_un ev_pick ev_load ev_fieldAddr ev_indexAddr ev_len ev_field ev_extract ev_nilCheck fr_tmp fr_int fr_bool fr_str fr_nil fr_func put_some put_none bin_lss bin_leq bin_gtr bin_geq bin_eql bin_neq bin_add bin_sub bin_mul bin_seql bin_sneq un_not pick_ ext_ loadA_p cellAt_l cellAt_h okPtr_l okPtr_h fadA_p allocA_l storeA_l cells_agg cells_int cells_str cells_sl cells_bool flat_i flat_s flat_b flat_sl flat_nil loc_agg loc_int loc_str loc_sl loc_bool loc_fn loc_ptr okv_agg okv_int okv_str okv_sl okv_bool cellsFrom splice upd_eval argEnv_zero argEnv_succ ne_eq Nat.add_one_ne_zero not_false_eq_true List.not_mem_nil and_self decide_true List.getElem?_cons_zero List.getElem?_cons_succ List.size_toArray List.length_cons List.length_nil List.take_succ_cons List.take_zero List.drop_succ_cons List.drop_zero List.cons_append List.nil_append List.drop_nil Bool.not_true Bool.not_false Bool.false_eq_true Nat.zero_add Nat.add_zero wrap_in List.toList_toArray List.mem_cons or_self or_false false_or
attribute [local go_sem] ag22 ag24 ag26 ag27 ag3 ag5 ag9 bu26 bu41 by26 by27 by3 el22 el24 el27 el47 el50 of26_0 of26_1 of26_2 of26_3 of41_0 of41_1 of41_2 ro26_0 ro26_1 ro26_2 ro27_0 ro27_1 ro3_0 ro3_1 ro3_3 ro9_2 ro9_3 ro9_4 sz22 sz24 sz26 sz27 sz3 sz5 sz9 ze26 ze27 ze3
-- AUTO

def T.zero : T := .mk 0 0 ⟨#[]⟩ []
def T.args : T → List T
  | .mk _ _ _ args => args
/-- The subterm at a position. -/
def T.at : List Int → T → Option T
  | [], t => some t
  | i :: p, t => if 0 ≤ i ∧ i < (t.args.length : Int) then (match t.args[i.toNat]? with
    | some x => T.at p x
    | none => none) else none
def T.atD (p : List Int) (t : T) : T := (T.at p t).getD T.zero

theorem T.at_in {p : List Int} {t x : T} {i : Int} (h0 : 0 ≤ i) (h1 : i < (t.args.length : Int)) (hx : t.args[i.toNat]? = some x) : T.at (i :: p) t = T.at p x := by
  simp only [T.at, h0, h1, and_self, if_true, hx]
theorem T.at_out {p : List Int} {t : T} {i : Int} (h : i < 0 ∨ (t.args.length : Int) ≤ i) : T.at (i :: p) t = none := by
  simp only [T.at]
  rw [if_neg (by omega)]
theorem T.at_sub {P : T → Prop} (hP : ∀ t x, P t → x ∈ t.args → P x) : ∀ (p : List Int) (t x : T), P t → T.at p t = some x → P x := by
  intro p
  induction p with
  | nil => intro t x ht h; simp only [T.at, Option.some.injEq] at h; subst h; exact ht
  | cons i p ih =>
    intro t x ht h
    simp only [T.at] at h
    split at h
    · split at h
      · rename_i y hy; exact ih y x (hP t y ht (List.mem_of_getElem? hy)) h
      · cases h
    · cases h
theorem T.at_append (p q : List Int) : ∀ t, T.at (p ++ q) t = (T.at p t).bind (T.at q) := by
  induction p with
  | nil => intro t; rfl
  | cons i p ih =>
    intro t
    simp only [List.cons_append, T.at]
    split
    · split
      · exact ih _
      · rfl
    · rfl
theorem own_zero {e : TypeId} (st : St) : Own e st T.zero [.int .i64 0, .int .i64 0, .string ⟨#[]⟩, .slice none 0 0] [] := .nil _ _ _
theorem enc_zero (st : St) : Enc st T.zero [.int .i64 0, .int .i64 0, .string ⟨#[]⟩, .slice none 0 0] := .nil _ _ _ _ (.inl rfl)
theorem Lim.zero {B : Nat} : Lim B T.zero := .mk _ _ _ _ (by simp) (by simp)
theorem Lim.arg {B : Nat} (t x : T) (h : Lim B t) (hx : x ∈ t.args) : Lim B x := by cases t; exact h.args.2 x hx
theorem Lim.atD {B : Nat} {t : T} (p : List Int) (h : Lim B t) : Lim B (T.atD p t) := by
  unfold T.atD
  cases hx : T.at p t with
  | none => exact .zero
  | some x => exact T.at_sub Lim.arg p t x h hx

theorem T.wt_arg {t x : T} (h : x ∈ t.args) : x.wt ≤ t.wt := by
  obtain ⟨k, n, nm, args⟩ := t
  have h1 := T.wt_mem (show x ∈ args from h)
  simp only [T.wt]
  omega
theorem T.wt_atD (p : List Int) (t : T) : (T.atD p t).wt ≤ t.wt := by
  unfold T.atD
  cases hx : T.at p t with
  | none => simp [T.zero, T.wt, T.wtL, ByteArray.size]
  | some x => exact T.at_sub (P := fun y => y.wt ≤ t.wt) (fun y z hy hz => Nat.le_trans (T.wt_arg hz) hy) p t x (Nat.le_refl _) hx

theorem implAt_ok (p : List Int) (t : T) (st : St) (cs : List Value) (s1 : Value) (hbig : p.length ≤ 4611686018427387904) (hE : Enc st t cs) (hp : Rw st p s1) :
    CallS Try.prog 13 [.agg cs.toArray, s1] st fun r st' => st' = st ∧ ∃ ds, r = .tuple #[.agg ds.toArray, .bool (T.at p t).isSome] ∧ Enc st (T.atD p t) ds := by
  refine CallS_of_W [] 31 Try.func13 rfl rfl rfl rfl (by simp) ?_
  have hlen : lenE Try.prog 27 s1 = some (.int .i64 p.length) := row_len hp Try.underlying27
  have n1 := hp.notLoc.1
  obtain ⟨k0, n0, nm0, args0⟩ := t
  obtain ⟨s0, rfl, hr0⟩ := hE.open
  repeat (first | (refine W_reg rfl fun G K hG hK => ?_; simp (disch := omega) only [go_sem, ↓reduceIte, Nat.reduceEqDiff, Nat.reduceAdd, Nat.reduceLeDiff, hG, hlen]; refine hK _ _ ?_; clear hK K hG G) | (refine W_end rfl fun G K hG hK => ?_; simp (disch := omega) only [go_sem, ↓reduceIte, Nat.reduceEqDiff, Nat.reduceAdd, Nat.reduceLeDiff, hG, hlen]; refine hK _ _ ?_; clear hK K hG G; repeat (first | refine thenI ?_ | refine thenE ?_ | refine thenR ?_ | refine inBI ?_ | refine inBR ?_ | refine inBS ?_ | refine inBN (by decide) ?_)) | refine W_seqS ?_ | refine W_seqC ?_ | refine W_seqB ?_ | refine W_block ?_ | (refine W_skip ?_; repeat (first | refine thenI ?_ | refine thenE ?_ | refine thenR ?_ | refine inBI ?_ | refine inBR ?_ | refine inBS ?_ | refine inBN (by decide) ?_)) | (refine W_condT ?hc ?_; (case hc => (simp (disch := omega) only [go_sem, ↓reduceIte, Nat.reduceEqDiff, Nat.reduceAdd, Nat.reduceLeDiff, hlen]; done))) | (refine W_condF ?hc ?_; (case hc => (simp (disch := omega) only [go_sem, ↓reduceIte, Nat.reduceEqDiff, Nat.reduceAdd, Nat.reduceLeDiff, hlen]; done))))
  refine W_loop (fun d fr st' => ∃ (j : Nat) (k n : Int) (nm : ByteArray) (args : List T) (s : Value), d = p.length - j ∧ j ≤ p.length ∧ (st' = st) ∧ (RowT st args s) ∧ (T.at (p.drop j) (.mk k n nm args) = T.at p (.mk k0 n0 nm0 args0)) ∧ (fr.env 2 = .pointer (some ⟨2, 0, some 1⟩)) ∧ (fr.env 4 = .pointer (some ⟨4, 0, some 1⟩)) ∧ (fr.env 8 = s1) ∧ (fr.env 9 = .int .i64 p.length) ∧ (fr.env 10 = .int .i64 j) ∧ (fr.loc 2 = (1, [.int .i64 k, .int .i64 n, .string nm, s])) ∧ ((fr.loc 4).1 = 1 ∧ (fr.loc 4).2.length = 4)) (p.length) ?_ ?_
  · exact ⟨0, k0, n0, nm0, args0, s0, by omega, by omega, rfl, hr0, by rw [List.drop_zero], (by (simp (disch := omega) only [go_sem, ↓reduceIte, Nat.reduceEqDiff, Nat.reduceAdd, Nat.reduceLeDiff]); try rfl), (by (simp (disch := omega) only [go_sem, ↓reduceIte, Nat.reduceEqDiff, Nat.reduceAdd, Nat.reduceLeDiff]); try rfl), (by (simp (disch := omega) only [go_sem, ↓reduceIte, Nat.reduceEqDiff, Nat.reduceAdd, Nat.reduceLeDiff]); try rfl), (by (simp (disch := omega) only [go_sem, ↓reduceIte, Nat.reduceEqDiff, Nat.reduceAdd, Nat.reduceLeDiff]); try rfl), (by (simp (disch := omega) only [go_sem, ↓reduceIte, Nat.reduceEqDiff, Nat.reduceAdd, Nat.reduceLeDiff]); try rfl), (by (simp (disch := omega) only [go_sem, ↓reduceIte, Nat.reduceEqDiff, Nat.reduceAdd, Nat.reduceLeDiff]); try rfl), ⟨(by (simp (disch := omega) only [go_sem, ↓reduceIte, Nat.reduceEqDiff, Nat.reduceAdd, Nat.reduceLeDiff]); try rfl), (by (simp (disch := omega) only [go_sem, ↓reduceIte, Nat.reduceEqDiff, Nat.reduceAdd, Nat.reduceLeDiff]); try rfl)⟩⟩
  rintro d ⟨env, loc⟩ st' ⟨j, k, n, nm, args, s, hd, hj, hst, hr, hat, e2, e4, e8, e9, e10, l2, ⟨l4, l4'⟩⟩
  simp only at e2 e4 e8 e9 e10 l2 l4 l4'
  subst hst
  by_cases hlt : j < p.length
  · have c1 : decide ((j : Int) < (p.length : Int)) = true := by simpa using hlt
    have hi := idxOk hlt
    have hx : p[j]? = some p[j] := List.getElem?_eq_getElem hlt
    have htk : p.take (j + 1) = p.take j ++ [p[j]] := List.take_succ_eq_append_getElem hlt
    obtain ⟨i, o, c, rfl, hce⟩ := row_atI hp hx
    have hl2 : lenE Try.prog 24 s = some (.int .i64 args.length) := row_len hr Try.underlying24
    rw [List.drop_eq_getElem_cons hlt] at hat
    by_cases h1 : p[j] < 0
    · have c2 : decide (p[j] < 0) = true := by simpa using h1
      repeat (first | (refine W_reg rfl fun G K hG hK => ?_; simp (disch := omega) only [go_sem, ↓reduceIte, Nat.reduceEqDiff, Nat.reduceAdd, Nat.reduceLeDiff, hG, e2, e4, e8, e9, e10, l2, l4, l4', c1, hi, idxA, Int.toNat_natCast, hce, c2, hl2]; refine hK _ _ ?_; clear hK K hG G) | (refine W_end rfl fun G K hG hK => ?_; simp (disch := omega) only [go_sem, ↓reduceIte, Nat.reduceEqDiff, Nat.reduceAdd, Nat.reduceLeDiff, hG, e2, e4, e8, e9, e10, l2, l4, l4', c1, hi, idxA, Int.toNat_natCast, hce, c2, hl2]; refine hK _ _ ?_; clear hK K hG G; repeat (first | refine thenI ?_ | refine thenE ?_ | refine thenR ?_ | refine inBI ?_ | refine inBR ?_ | refine inBS ?_ | refine inBN (by decide) ?_)) | refine W_seqS ?_ | refine W_seqC ?_ | refine W_seqB ?_ | refine W_block ?_ | (refine W_skip ?_; repeat (first | refine thenI ?_ | refine thenE ?_ | refine thenR ?_ | refine inBI ?_ | refine inBR ?_ | refine inBS ?_ | refine inBN (by decide) ?_)) | (refine W_condT ?hc ?_; (case hc => (simp (disch := omega) only [go_sem, ↓reduceIte, Nat.reduceEqDiff, Nat.reduceAdd, Nat.reduceLeDiff, e2, e4, e8, e9, e10, l2, l4, l4', c1, hi, idxA, Int.toNat_natCast, hce, c2, hl2]; done))) | (refine W_condF ?hc ?_; (case hc => (simp (disch := omega) only [go_sem, ↓reduceIte, Nat.reduceEqDiff, Nat.reduceAdd, Nat.reduceLeDiff, e2, e4, e8, e9, e10, l2, l4, l4', c1, hi, idxA, Int.toNat_natCast, hce, c2, hl2]; done))))
      rw [T.at_out (.inl h1)] at hat
      refine W_ret ?_; try (repeat (first | refine thenI ?_ | refine thenE ?_ | refine thenR ?_ | refine inBI ?_ | refine inBR ?_ | refine inBS ?_ | refine inBN (by decide) ?_))
      refine finC2 (.inl rfl) (by (simp (disch := omega) only [go_sem, ↓reduceIte, Nat.reduceEqDiff, Nat.reduceAdd, Nat.reduceLeDiff, e2, e4, e8, e9, e10, l2, l4, l4', c1, hi, idxA, Int.toNat_natCast]); try rfl) (by (simp (disch := omega) only [go_sem, ↓reduceIte, Nat.reduceEqDiff, Nat.reduceAdd, Nat.reduceLeDiff, e2, e4, e8, e9, e10, l2, l4, l4', c1, hi, idxA, Int.toNat_natCast]); try rfl) rfl ⟨rfl, [_, _, _, _], (by rw [← hat]; rfl), by unfold T.atD; rw [← hat]; exact enc_zero _⟩
    have c2 : decide (p[j] < 0) = false := by simpa using h1
    by_cases h2 : p[j] ≥ (args.length : Int)
    · have c3 : decide (p[j] ≥ (args.length : Int)) = true := by simpa using h2
      repeat (first | (refine W_reg rfl fun G K hG hK => ?_; simp (disch := omega) only [go_sem, ↓reduceIte, Nat.reduceEqDiff, Nat.reduceAdd, Nat.reduceLeDiff, hG, e2, e4, e8, e9, e10, l2, l4, l4', c1, hi, idxA, Int.toNat_natCast, hce, c2, hl2, c3]; refine hK _ _ ?_; clear hK K hG G) | (refine W_end rfl fun G K hG hK => ?_; simp (disch := omega) only [go_sem, ↓reduceIte, Nat.reduceEqDiff, Nat.reduceAdd, Nat.reduceLeDiff, hG, e2, e4, e8, e9, e10, l2, l4, l4', c1, hi, idxA, Int.toNat_natCast, hce, c2, hl2, c3]; refine hK _ _ ?_; clear hK K hG G; repeat (first | refine thenI ?_ | refine thenE ?_ | refine thenR ?_ | refine inBI ?_ | refine inBR ?_ | refine inBS ?_ | refine inBN (by decide) ?_)) | refine W_seqS ?_ | refine W_seqC ?_ | refine W_seqB ?_ | refine W_block ?_ | (refine W_skip ?_; repeat (first | refine thenI ?_ | refine thenE ?_ | refine thenR ?_ | refine inBI ?_ | refine inBR ?_ | refine inBS ?_ | refine inBN (by decide) ?_)) | (refine W_condT ?hc ?_; (case hc => (simp (disch := omega) only [go_sem, ↓reduceIte, Nat.reduceEqDiff, Nat.reduceAdd, Nat.reduceLeDiff, e2, e4, e8, e9, e10, l2, l4, l4', c1, hi, idxA, Int.toNat_natCast, hce, c2, hl2, c3]; done))) | (refine W_condF ?hc ?_; (case hc => (simp (disch := omega) only [go_sem, ↓reduceIte, Nat.reduceEqDiff, Nat.reduceAdd, Nat.reduceLeDiff, e2, e4, e8, e9, e10, l2, l4, l4', c1, hi, idxA, Int.toNat_natCast, hce, c2, hl2, c3]; done))))
      rw [T.at_out (.inr h2)] at hat
      refine W_ret ?_; try (repeat (first | refine thenI ?_ | refine thenE ?_ | refine thenR ?_ | refine inBI ?_ | refine inBR ?_ | refine inBS ?_ | refine inBN (by decide) ?_))
      refine finC2 (.inl rfl) (by (simp (disch := omega) only [go_sem, ↓reduceIte, Nat.reduceEqDiff, Nat.reduceAdd, Nat.reduceLeDiff, e2, e4, e8, e9, e10, l2, l4, l4', c1, hi, idxA, Int.toNat_natCast]); try rfl) (by (simp (disch := omega) only [go_sem, ↓reduceIte, Nat.reduceEqDiff, Nat.reduceAdd, Nat.reduceLeDiff, e2, e4, e8, e9, e10, l2, l4, l4', c1, hi, idxA, Int.toNat_natCast]); try rfl) rfl ⟨rfl, [_, _, _, _], (by rw [← hat]; rfl), by unfold T.atD; rw [← hat]; exact enc_zero _⟩
    have c3 : decide (p[j] ≥ (args.length : Int)) = false := by simp; omega
    have hy : args[p[j].toNat]? = some args[p[j].toNat] := List.getElem?_eq_getElem (by omega)
    obtain ⟨i', o', c', cs', rfl, hcl, hE', hcs⟩ := row_at hr hy
    rw [T.at_in (t := .mk k n nm args) (by omega) (by show _ < (args.length : Int); omega) hy] at hat
    revert hat hE'
    cases args[p[j].toNat] with | mk k' n' nm' args' => ?_
    intro hat hE'
    obtain ⟨s', rfl, hr'⟩ := hE'.open
    have hi2 : (0 ≤ p[j] ∧ p[j] < (args.length : Int)) = True := by simp; omega
    have hld := fun loc => load_row (A := []) (loc := loc) ag26 sz26 hcl hcs
    repeat (first | (refine W_reg rfl fun G K hG hK => ?_; simp (disch := omega) only [go_sem, ↓reduceIte, Nat.reduceEqDiff, Nat.reduceAdd, Nat.reduceLeDiff, hG, e2, e4, e8, e9, e10, l2, l4, l4', c1, hi, idxA, Int.toNat_natCast, hce, c2, hl2, c3, hi2, hld]; refine hK _ _ ?_; clear hK K hG G) | (refine W_end rfl fun G K hG hK => ?_; simp (disch := omega) only [go_sem, ↓reduceIte, Nat.reduceEqDiff, Nat.reduceAdd, Nat.reduceLeDiff, hG, e2, e4, e8, e9, e10, l2, l4, l4', c1, hi, idxA, Int.toNat_natCast, hce, c2, hl2, c3, hi2, hld]; refine hK _ _ ?_; clear hK K hG G; repeat (first | refine thenI ?_ | refine thenE ?_ | refine thenR ?_ | refine inBI ?_ | refine inBR ?_ | refine inBS ?_ | refine inBN (by decide) ?_)) | refine W_seqS ?_ | refine W_seqC ?_ | refine W_seqB ?_ | refine W_block ?_ | (refine W_skip ?_; repeat (first | refine thenI ?_ | refine thenE ?_ | refine thenR ?_ | refine inBI ?_ | refine inBR ?_ | refine inBS ?_ | refine inBN (by decide) ?_)) | (refine W_condT ?hc ?_; (case hc => (simp (disch := omega) only [go_sem, ↓reduceIte, Nat.reduceEqDiff, Nat.reduceAdd, Nat.reduceLeDiff, e2, e4, e8, e9, e10, l2, l4, l4', c1, hi, idxA, Int.toNat_natCast, hce, c2, hl2, c3, hi2, hld]; done))) | (refine W_condF ?hc ?_; (case hc => (simp (disch := omega) only [go_sem, ↓reduceIte, Nat.reduceEqDiff, Nat.reduceAdd, Nat.reduceLeDiff, e2, e4, e8, e9, e10, l2, l4, l4', c1, hi, idxA, Int.toNat_natCast, hce, c2, hl2, c3, hi2, hld]; done))))
    refine ⟨p.length - (j + 1), by omega, j + 1, k', n', nm', args', s', rfl, by omega, rfl, hr', hat, (by (simp (disch := omega) only [go_sem, ↓reduceIte, Nat.reduceEqDiff, Nat.reduceAdd, Nat.reduceLeDiff, e2, e4, e8, e9, e10, l2, l4, l4', c1, hi, idxA, Int.toNat_natCast]); try rfl), (by (simp (disch := omega) only [go_sem, ↓reduceIte, Nat.reduceEqDiff, Nat.reduceAdd, Nat.reduceLeDiff, e2, e4, e8, e9, e10, l2, l4, l4', c1, hi, idxA, Int.toNat_natCast]); try rfl), (by (simp (disch := omega) only [go_sem, ↓reduceIte, Nat.reduceEqDiff, Nat.reduceAdd, Nat.reduceLeDiff, e2, e4, e8, e9, e10, l2, l4, l4', c1, hi, idxA, Int.toNat_natCast]); try rfl), (by (simp (disch := omega) only [go_sem, ↓reduceIte, Nat.reduceEqDiff, Nat.reduceAdd, Nat.reduceLeDiff, e2, e4, e8, e9, e10, l2, l4, l4', c1, hi, idxA, Int.toNat_natCast]); try rfl), (by (simp (disch := omega) only [go_sem, ↓reduceIte, Nat.reduceEqDiff, Nat.reduceAdd, Nat.reduceLeDiff, e2, e4, e8, e9, e10, l2, l4, l4', c1, hi, idxA, Int.toNat_natCast]); try rfl), (by (simp (disch := omega) only [go_sem, ↓reduceIte, Nat.reduceEqDiff, Nat.reduceAdd, Nat.reduceLeDiff, e2, e4, e8, e9, e10, l2, l4, l4', c1, hi, idxA, Int.toNat_natCast]); try rfl), ⟨(by (simp (disch := omega) only [go_sem, ↓reduceIte, Nat.reduceEqDiff, Nat.reduceAdd, Nat.reduceLeDiff, e2, e4, e8, e9, e10, l2, l4, l4', c1, hi, idxA, Int.toNat_natCast]); try rfl), (by (simp (disch := omega) only [go_sem, ↓reduceIte, Nat.reduceEqDiff, Nat.reduceAdd, Nat.reduceLeDiff, e2, e4, e8, e9, e10, l2, l4, l4', c1, hi, idxA, Int.toNat_natCast]); try rfl)⟩⟩
  · have c1 : decide ((j : Int) < (p.length : Int)) = false := by simpa using hlt
    have hjn : j = p.length := by omega
    subst hjn
    rw [List.drop_length] at hat
    have n2 := hr.notLoc.1
    repeat (first | (refine W_reg rfl fun G K hG hK => ?_; simp (disch := omega) only [go_sem, ↓reduceIte, Nat.reduceEqDiff, Nat.reduceAdd, Nat.reduceLeDiff, hG, e2, e4, e8, e9, e10, l2, l4, l4', c1]; refine hK _ _ ?_; clear hK K hG G) | (refine W_end rfl fun G K hG hK => ?_; simp (disch := omega) only [go_sem, ↓reduceIte, Nat.reduceEqDiff, Nat.reduceAdd, Nat.reduceLeDiff, hG, e2, e4, e8, e9, e10, l2, l4, l4', c1]; refine hK _ _ ?_; clear hK K hG G; repeat (first | refine thenI ?_ | refine thenE ?_ | refine thenR ?_ | refine inBI ?_ | refine inBR ?_ | refine inBS ?_ | refine inBN (by decide) ?_)) | refine W_seqS ?_ | refine W_seqC ?_ | refine W_seqB ?_ | refine W_block ?_ | (refine W_skip ?_; repeat (first | refine thenI ?_ | refine thenE ?_ | refine thenR ?_ | refine inBI ?_ | refine inBR ?_ | refine inBS ?_ | refine inBN (by decide) ?_)) | (refine W_condT ?hc ?_; (case hc => (simp (disch := omega) only [go_sem, ↓reduceIte, Nat.reduceEqDiff, Nat.reduceAdd, Nat.reduceLeDiff, e2, e4, e8, e9, e10, l2, l4, l4', c1]; done))) | (refine W_condF ?hc ?_; (case hc => (simp (disch := omega) only [go_sem, ↓reduceIte, Nat.reduceEqDiff, Nat.reduceAdd, Nat.reduceLeDiff, e2, e4, e8, e9, e10, l2, l4, l4', c1]; done))))
    refine W_exit ?_; repeat (first | refine thenI ?_ | refine thenE ?_ | refine thenR ?_ | refine inBI ?_ | refine inBR ?_ | refine inBS ?_ | refine inBN (by decide) ?_)
    repeat (first | (refine W_reg rfl fun G K hG hK => ?_; simp (disch := omega) only [go_sem, ↓reduceIte, Nat.reduceEqDiff, Nat.reduceAdd, Nat.reduceLeDiff, hG, e2, e4, e8, e9, e10, l2, l4, l4', c1]; refine hK _ _ ?_; clear hK K hG G) | (refine W_end rfl fun G K hG hK => ?_; simp (disch := omega) only [go_sem, ↓reduceIte, Nat.reduceEqDiff, Nat.reduceAdd, Nat.reduceLeDiff, hG, e2, e4, e8, e9, e10, l2, l4, l4', c1]; refine hK _ _ ?_; clear hK K hG G; repeat (first | refine thenI ?_ | refine thenE ?_ | refine thenR ?_ | refine inBI ?_ | refine inBR ?_ | refine inBS ?_ | refine inBN (by decide) ?_)) | refine W_seqS ?_ | refine W_seqC ?_ | refine W_seqB ?_ | refine W_block ?_ | (refine W_skip ?_; repeat (first | refine thenI ?_ | refine thenE ?_ | refine thenR ?_ | refine inBI ?_ | refine inBR ?_ | refine inBS ?_ | refine inBN (by decide) ?_)) | (refine W_condT ?hc ?_; (case hc => (simp (disch := omega) only [go_sem, ↓reduceIte, Nat.reduceEqDiff, Nat.reduceAdd, Nat.reduceLeDiff, e2, e4, e8, e9, e10, l2, l4, l4', c1]; done))) | (refine W_condF ?hc ?_; (case hc => (simp (disch := omega) only [go_sem, ↓reduceIte, Nat.reduceEqDiff, Nat.reduceAdd, Nat.reduceLeDiff, e2, e4, e8, e9, e10, l2, l4, l4', c1]; done))))
    refine W_ret ?_; try (repeat (first | refine thenI ?_ | refine thenE ?_ | refine thenR ?_ | refine inBI ?_ | refine inBR ?_ | refine inBS ?_ | refine inBN (by decide) ?_))
    refine finC2 (.inl rfl) (by (simp (disch := omega) only [go_sem, ↓reduceIte, Nat.reduceEqDiff, Nat.reduceAdd, Nat.reduceLeDiff, e2, e4, e8, e9, e10, l2, l4, l4', c1]); try rfl) (by (simp (disch := omega) only [go_sem, ↓reduceIte, Nat.reduceEqDiff, Nat.reduceAdd, Nat.reduceLeDiff, e2, e4, e8, e9, e10, l2, l4, l4', c1]); try rfl) rfl ⟨rfl, [.int .i64 k, .int .i64 n, .string nm, s], ?_, ?_⟩
    · rw [← hat]; rfl
    · unfold T.atD
      rw [← hat]
      exact Enc.close _ _ _ hr

theorem implTermAt_ok (p : List Int) (t : T) (st : St) (cs : List Value) (s1 : Value) (hbig : p.length ≤ 4611686018427387904) (hl : Lim 1073741824 t) (hE : Enc st t cs) (hp : Rw st p s1) :
    CallS Try.prog 9 [.agg cs.toArray, s1] st fun r st2 => Ext st st2 ∧ ∃ ds L, r = .tuple #[.agg ds.toArray, .bool (T.at p t).isSome] ∧ OwnT st2 (T.atD p t) ds L ∧ Fresh st.length L := by
  refine CallS_of_W [] 17 Try.func9 rfl rfl rfl rfl (by simp) ?_
  have hn1 := hp.notLoc.1
  have hat := implAt_ok p t st cs s1 hbig hE hp
  obtain ⟨k0, n0, nm0, args0⟩ := t
  obtain ⟨s0, rfl, hr0⟩ := hE.open
  have hla := Lim.atD p hl
  revert hla hat
  cases T.atD p (.mk k0 n0 nm0 args0) with | mk k1 n1 nm1 args1 => ?_
  intro hat hla
  repeat (first | (refine W_reg rfl fun G K hG hK => ?_; simp (disch := omega) only [go_sem, ↓reduceIte, Nat.reduceEqDiff, Nat.reduceAdd, Nat.reduceLeDiff, hG]; refine hK _ _ ?_; clear hK K hG G) | (refine W_end rfl fun G K hG hK => ?_; simp (disch := omega) only [go_sem, ↓reduceIte, Nat.reduceEqDiff, Nat.reduceAdd, Nat.reduceLeDiff, hG]; refine hK _ _ ?_; clear hK K hG G; repeat (first | refine thenI ?_ | refine thenE ?_ | refine thenR ?_ | refine inBI ?_ | refine inBR ?_ | refine inBS ?_ | refine inBN (by decide) ?_)) | refine W_seqS ?_ | refine W_seqC ?_ | refine W_seqB ?_ | refine W_block ?_ | (refine W_skip ?_; repeat (first | refine thenI ?_ | refine thenE ?_ | refine thenR ?_ | refine inBI ?_ | refine inBR ?_ | refine inBS ?_ | refine inBN (by decide) ?_)) | (refine W_condT ?hc ?_; (case hc => (simp (disch := omega) only [go_sem, ↓reduceIte, Nat.reduceEqDiff, Nat.reduceAdd, Nat.reduceLeDiff]; done))) | (refine W_condF ?hc ?_; (case hc => (simp (disch := omega) only [go_sem, ↓reduceIte, Nat.reduceEqDiff, Nat.reduceAdd, Nat.reduceLeDiff]; done))))
  (repeat (first | refine W_seqS ?_ | refine W_seqC ?_ | refine W_seqB ?_ | refine W_block ?_)); refine W_reg rfl fun G K hG hK => ?_; simp (disch := omega) only [go_sem, ↓reduceIte, Nat.reduceEqDiff, Nat.reduceAdd, Nat.reduceLeDiff, hG]
  refine w_call (hat) (by simp (disch := omega) only [go_sem, ↓reduceIte, Nat.reduceEqDiff, hn1]) ?hl ?_
  case hl => first | rfl | (simp only [go_sem, List.all_cons, List.all_nil, Bool.not_false, Bool.and_self, hn1]; done)
  rintro r_ s_ ⟨rfl, ds, rfl, hE1⟩; refine ⟨fun e => (by cases e), ?_⟩
  obtain ⟨s2, rfl, hr2⟩ := hE1.open
  simp (disch := omega) only [go_sem, ↓reduceIte, Nat.reduceEqDiff, Nat.reduceAdd, Nat.reduceLeDiff, hG]; refine hK _ _ ?_; clear hK K hG G; repeat (first | refine thenI ?_ | refine thenE ?_ | refine thenR ?_ | refine inBI ?_ | refine inBR ?_ | refine inBS ?_ | refine inBN (by decide) ?_)
  (repeat (first | refine W_seqS ?_ | refine W_seqC ?_ | refine W_seqB ?_ | refine W_block ?_)); refine W_reg rfl fun G K hG hK => ?_; simp (disch := omega) only [go_sem, ↓reduceIte, Nat.reduceEqDiff, Nat.reduceAdd, Nat.reduceLeDiff, hG]
  refine w_call (copy_ok _ _ _ hla hE1) (by simp (disch := omega) only [go_sem, ↓reduceIte, Nat.reduceEqDiff]) ?hl ?_
  case hl => first | rfl | (simp only [go_sem, List.all_cons, List.all_nil, Bool.not_false, Bool.and_self]; done)
  rintro r_ s_ ⟨hx, ds, L, rfl, ho, hf⟩; refine ⟨fun e => (by cases e), ?_⟩
  obtain ⟨s3, rfl, hr3⟩ := ho.open
  simp (disch := omega) only [go_sem, ↓reduceIte, Nat.reduceEqDiff, Nat.reduceAdd, Nat.reduceLeDiff, hG]; refine hK _ _ ?_; clear hK K hG G; repeat (first | refine thenI ?_ | refine thenE ?_ | refine thenR ?_ | refine inBI ?_ | refine inBR ?_ | refine inBS ?_ | refine inBN (by decide) ?_)
  repeat (first | (refine W_reg rfl fun G K hG hK => ?_; simp (disch := omega) only [go_sem, ↓reduceIte, Nat.reduceEqDiff, Nat.reduceAdd, Nat.reduceLeDiff, hG]; refine hK _ _ ?_; clear hK K hG G) | (refine W_end rfl fun G K hG hK => ?_; simp (disch := omega) only [go_sem, ↓reduceIte, Nat.reduceEqDiff, Nat.reduceAdd, Nat.reduceLeDiff, hG]; refine hK _ _ ?_; clear hK K hG G; repeat (first | refine thenI ?_ | refine thenE ?_ | refine thenR ?_ | refine inBI ?_ | refine inBR ?_ | refine inBS ?_ | refine inBN (by decide) ?_)) | refine W_seqS ?_ | refine W_seqC ?_ | refine W_seqB ?_ | refine W_block ?_ | (refine W_skip ?_; repeat (first | refine thenI ?_ | refine thenE ?_ | refine thenR ?_ | refine inBI ?_ | refine inBR ?_ | refine inBS ?_ | refine inBN (by decide) ?_)) | (refine W_condT ?hc ?_; (case hc => (simp (disch := omega) only [go_sem, ↓reduceIte, Nat.reduceEqDiff, Nat.reduceAdd, Nat.reduceLeDiff]; done))) | (refine W_condF ?hc ?_; (case hc => (simp (disch := omega) only [go_sem, ↓reduceIte, Nat.reduceEqDiff, Nat.reduceAdd, Nat.reduceLeDiff]; done))))
  refine W_ret ?_; try (repeat (first | refine thenI ?_ | refine thenE ?_ | refine thenR ?_ | refine inBI ?_ | refine inBR ?_ | refine inBS ?_ | refine inBN (by decide) ?_))
  refine finC2 (.inl rfl) (by (simp (disch := omega) only [go_sem, ↓reduceIte, Nat.reduceEqDiff, Nat.reduceAdd, Nat.reduceLeDiff]); try rfl) (by (simp (disch := omega) only [go_sem, ↓reduceIte, Nat.reduceEqDiff, Nat.reduceAdd, Nat.reduceLeDiff]); try rfl) rfl ⟨hx, [.int .i64 k1, .int .i64 n1, .string nm1, s3], L, rfl, ho, hf⟩

theorem specTermAt_ok (p : List Int) (t : T) (st : St) (cs : List Value) (s1 : Value) (hbig : p.length ≤ 4611686018427387904) (hl : Lim 1073741824 t) (hE : Enc st t cs) (hp : Rw st p s1) :
    CallS Try.prog 16 [.agg cs.toArray, s1] st fun r st2 => Ext st st2 ∧ ∃ ds L, r = .tuple #[.agg ds.toArray, .bool (T.at p t).isSome] ∧ OwnT st2 (T.atD p t) ds L ∧ Fresh st.length L := by
  refine CallS_of_W [] 34 Try.func16 rfl rfl rfl rfl (by simp) ?_
  have hlen : lenE Try.prog 27 s1 = some (.int .i64 p.length) := row_len hp Try.underlying27
  have n1 := hp.notLoc.1
  obtain ⟨k0, n0, nm0, args0⟩ := t
  obtain ⟨s0, rfl, hr0⟩ := hE.open
  repeat (first | (refine W_reg rfl fun G K hG hK => ?_; simp (disch := omega) only [go_sem, ↓reduceIte, Nat.reduceEqDiff, Nat.reduceAdd, Nat.reduceLeDiff, hG, hlen]; refine hK _ _ ?_; clear hK K hG G) | (refine W_end rfl fun G K hG hK => ?_; simp (disch := omega) only [go_sem, ↓reduceIte, Nat.reduceEqDiff, Nat.reduceAdd, Nat.reduceLeDiff, hG, hlen]; refine hK _ _ ?_; clear hK K hG G; repeat (first | refine thenI ?_ | refine thenE ?_ | refine thenR ?_ | refine inBI ?_ | refine inBR ?_ | refine inBS ?_ | refine inBN (by decide) ?_)) | refine W_seqS ?_ | refine W_seqC ?_ | refine W_seqB ?_ | refine W_block ?_ | (refine W_skip ?_; repeat (first | refine thenI ?_ | refine thenE ?_ | refine thenR ?_ | refine inBI ?_ | refine inBR ?_ | refine inBS ?_ | refine inBN (by decide) ?_)) | (refine W_condT ?hc ?_; (case hc => (simp (disch := omega) only [go_sem, ↓reduceIte, Nat.reduceEqDiff, Nat.reduceAdd, Nat.reduceLeDiff, hlen]; done))) | (refine W_condF ?hc ?_; (case hc => (simp (disch := omega) only [go_sem, ↓reduceIte, Nat.reduceEqDiff, Nat.reduceAdd, Nat.reduceLeDiff, hlen]; done))))
  refine W_loop (fun d fr st' => ∃ (j : Nat) (k n : Int) (nm : ByteArray) (args : List T) (s : Value), d = p.length - j ∧ j ≤ p.length ∧ (st' = st) ∧ (RowT st args s) ∧ (Lim 1073741824 (.mk k n nm args)) ∧ (T.at (p.drop j) (.mk k n nm args) = T.at p (.mk k0 n0 nm0 args0)) ∧ (fr.env 2 = .pointer (some ⟨2, 0, some 1⟩)) ∧ (fr.env 4 = .pointer (some ⟨4, 0, some 1⟩)) ∧ (fr.env 1 = s1) ∧ (fr.env 6 = .int .i64 j) ∧ (fr.loc 2 = (1, [.int .i64 k, .int .i64 n, .string nm, s])) ∧ ((fr.loc 4).1 = 1 ∧ (fr.loc 4).2.length = 4)) (p.length) ?_ ?_
  · exact ⟨0, k0, n0, nm0, args0, s0, by omega, by omega, rfl, hr0, hl, by rw [List.drop_zero], (by (simp (disch := omega) only [go_sem, ↓reduceIte, Nat.reduceEqDiff, Nat.reduceAdd, Nat.reduceLeDiff, hlen]); try rfl), (by (simp (disch := omega) only [go_sem, ↓reduceIte, Nat.reduceEqDiff, Nat.reduceAdd, Nat.reduceLeDiff, hlen]); try rfl), (by (simp (disch := omega) only [go_sem, ↓reduceIte, Nat.reduceEqDiff, Nat.reduceAdd, Nat.reduceLeDiff, hlen]); try rfl), (by (simp (disch := omega) only [go_sem, ↓reduceIte, Nat.reduceEqDiff, Nat.reduceAdd, Nat.reduceLeDiff, hlen]); try rfl), (by (simp (disch := omega) only [go_sem, ↓reduceIte, Nat.reduceEqDiff, Nat.reduceAdd, Nat.reduceLeDiff, hlen]); try rfl), ⟨(by (simp (disch := omega) only [go_sem, ↓reduceIte, Nat.reduceEqDiff, Nat.reduceAdd, Nat.reduceLeDiff, hlen]); try rfl), (by (simp (disch := omega) only [go_sem, ↓reduceIte, Nat.reduceEqDiff, Nat.reduceAdd, Nat.reduceLeDiff, hlen]); try rfl)⟩⟩
  rintro d ⟨env, loc⟩ st' ⟨j, k, n, nm, args, s, hd, hj, hst, hr, hla, hat, e2, e4, e1, e6, l2, ⟨l4, l4'⟩⟩
  simp only at e2 e4 e1 e6 l2 l4 l4'
  subst hst
  by_cases hlt : j < p.length
  · have c1 : decide ((j : Int) < (p.length : Int)) = true := by simpa using hlt
    have hi := idxOk hlt
    have hx : p[j]? = some p[j] := List.getElem?_eq_getElem hlt
    have htk : p.take (j + 1) = p.take j ++ [p[j]] := List.take_succ_eq_append_getElem hlt
    obtain ⟨i, o, c, rfl, hce⟩ := row_atI hp hx
    have hl2 : lenE Try.prog 24 s = some (.int .i64 args.length) := row_len hr Try.underlying24
    have hab := hla.args.1
    rw [List.drop_eq_getElem_cons hlt] at hat
    repeat (first | (refine W_reg rfl fun G K hG hK => ?_; simp (disch := omega) only [go_sem, ↓reduceIte, Nat.reduceEqDiff, Nat.reduceAdd, Nat.reduceLeDiff, hG, hlen, e2, e4, e1, e6, l2, l4, l4', c1, hi, idxA, Int.toNat_natCast]; refine hK _ _ ?_; clear hK K hG G) | (refine W_end rfl fun G K hG hK => ?_; simp (disch := omega) only [go_sem, ↓reduceIte, Nat.reduceEqDiff, Nat.reduceAdd, Nat.reduceLeDiff, hG, hlen, e2, e4, e1, e6, l2, l4, l4', c1, hi, idxA, Int.toNat_natCast]; refine hK _ _ ?_; clear hK K hG G; repeat (first | refine thenI ?_ | refine thenE ?_ | refine thenR ?_ | refine inBI ?_ | refine inBR ?_ | refine inBS ?_ | refine inBN (by decide) ?_)) | refine W_seqS ?_ | refine W_seqC ?_ | refine W_seqB ?_ | refine W_block ?_ | (refine W_skip ?_; repeat (first | refine thenI ?_ | refine thenE ?_ | refine thenR ?_ | refine inBI ?_ | refine inBR ?_ | refine inBS ?_ | refine inBN (by decide) ?_)) | (refine W_condT ?hc ?_; (case hc => (simp (disch := omega) only [go_sem, ↓reduceIte, Nat.reduceEqDiff, Nat.reduceAdd, Nat.reduceLeDiff, hlen, e2, e4, e1, e6, l2, l4, l4', c1, hi, idxA, Int.toNat_natCast]; done))) | (refine W_condF ?hc ?_; (case hc => (simp (disch := omega) only [go_sem, ↓reduceIte, Nat.reduceEqDiff, Nat.reduceAdd, Nat.reduceLeDiff, hlen, e2, e4, e1, e6, l2, l4, l4', c1, hi, idxA, Int.toNat_natCast]; done))))
    (repeat (first | refine W_seqS ?_ | refine W_seqC ?_ | refine W_seqB ?_ | refine W_block ?_)); refine W_regD mixed [] [(0,false),(1,false),(2,false),(3,false),(4,false),(5,false),(6,false),(7,false),(8,true),(9,false)] rfl (by decide +kernel) fun G K hG hK => ?_; simp only [pickOps, List.filterMap_cons, List.filterMap_nil, List.getElem?_cons_zero, List.getElem?_cons_succ, Option.map_some]; simp (disch := omega) only [go_sem, ↓reduceIte, Nat.reduceEqDiff, Nat.reduceAdd, Nat.reduceLeDiff, hG, hlen, e2, e4, e1, e6, l2, l4, l4', c1, hi, idxA, Int.toNat_natCast, hce, hl2]
    refine w_call (l1In_ok p[j] 0 ((args.length : Int) - 1) st') (by simp (disch := omega) only [go_sem, ↓reduceIte, Nat.reduceEqDiff, hlen, e2, e4, e1, e6, l2, l4, l4', c1, hi, idxA, Int.toNat_natCast]) ?hl ?_
    case hl => first | rfl | (simp only [go_sem, List.all_cons, List.all_nil, Bool.not_false, Bool.and_self, hlen, e2, e4, e1, e6, l2, l4, l4', c1, hi, idxA, Int.toNat_natCast]; done)
    rintro r_ st' ⟨rfl, rfl⟩; refine ⟨fun e => Ext.refl _, ?_⟩
    by_cases h1 : p[j] < 0
    · have c2 : decide (p[j] ≥ 0) = false := by simpa using h1
      simp (disch := omega) only [go_sem, ↓reduceIte, Nat.reduceEqDiff, Nat.reduceAdd, Nat.reduceLeDiff, hG, hlen, e2, e4, e1, e6, l2, l4, l4', c1, hi, idxA, Int.toNat_natCast, c2, Bool.false_and]; refine hK _ _ ?_; clear hK K hG G; repeat (first | refine thenI ?_ | refine thenE ?_ | refine thenR ?_ | refine inBI ?_ | refine inBR ?_ | refine inBS ?_ | refine inBN (by decide) ?_)
      repeat (first | (refine W_reg rfl fun G K hG hK => ?_; simp (disch := omega) only [go_sem, ↓reduceIte, Nat.reduceEqDiff, Nat.reduceAdd, Nat.reduceLeDiff, hG, hlen, e2, e4, e1, e6, l2, l4, l4', c1, hi, idxA, Int.toNat_natCast]; refine hK _ _ ?_; clear hK K hG G) | (refine W_end rfl fun G K hG hK => ?_; simp (disch := omega) only [go_sem, ↓reduceIte, Nat.reduceEqDiff, Nat.reduceAdd, Nat.reduceLeDiff, hG, hlen, e2, e4, e1, e6, l2, l4, l4', c1, hi, idxA, Int.toNat_natCast]; refine hK _ _ ?_; clear hK K hG G; repeat (first | refine thenI ?_ | refine thenE ?_ | refine thenR ?_ | refine inBI ?_ | refine inBR ?_ | refine inBS ?_ | refine inBN (by decide) ?_)) | refine W_seqS ?_ | refine W_seqC ?_ | refine W_seqB ?_ | refine W_block ?_ | (refine W_skip ?_; repeat (first | refine thenI ?_ | refine thenE ?_ | refine thenR ?_ | refine inBI ?_ | refine inBR ?_ | refine inBS ?_ | refine inBN (by decide) ?_)) | (refine W_condT ?hc ?_; (case hc => (simp (disch := omega) only [go_sem, ↓reduceIte, Nat.reduceEqDiff, Nat.reduceAdd, Nat.reduceLeDiff, hlen, e2, e4, e1, e6, l2, l4, l4', c1, hi, idxA, Int.toNat_natCast]; done))) | (refine W_condF ?hc ?_; (case hc => (simp (disch := omega) only [go_sem, ↓reduceIte, Nat.reduceEqDiff, Nat.reduceAdd, Nat.reduceLeDiff, hlen, e2, e4, e1, e6, l2, l4, l4', c1, hi, idxA, Int.toNat_natCast]; done))))
      rw [T.at_out (.inl h1)] at hat
      refine W_ret ?_; try (repeat (first | refine thenI ?_ | refine thenE ?_ | refine thenR ?_ | refine inBI ?_ | refine inBR ?_ | refine inBS ?_ | refine inBN (by decide) ?_))
      refine finC2 (.inl rfl) (by (simp (disch := omega) only [go_sem, ↓reduceIte, Nat.reduceEqDiff, Nat.reduceAdd, Nat.reduceLeDiff, hlen, e2, e4, e1, e6, l2, l4, l4', c1, hi, idxA, Int.toNat_natCast]); try rfl) (by (simp (disch := omega) only [go_sem, ↓reduceIte, Nat.reduceEqDiff, Nat.reduceAdd, Nat.reduceLeDiff, hlen, e2, e4, e1, e6, l2, l4, l4', c1, hi, idxA, Int.toNat_natCast]); try rfl) rfl ⟨Ext.refl _, [_, _, _, _], [], (by rw [← hat]; rfl), by unfold T.atD; rw [← hat]; exact own_zero _, .nil _⟩
    have c2 : decide (p[j] ≥ 0) = true := by simpa using h1
    by_cases h2 : p[j] ≥ (args.length : Int)
    · have c3 : decide (p[j] ≤ (args.length : Int) - 1) = false := by simp; omega
      simp (disch := omega) only [go_sem, ↓reduceIte, Nat.reduceEqDiff, Nat.reduceAdd, Nat.reduceLeDiff, hG, hlen, e2, e4, e1, e6, l2, l4, l4', c1, hi, idxA, Int.toNat_natCast, c2, c3, Bool.and_false]; refine hK _ _ ?_; clear hK K hG G; repeat (first | refine thenI ?_ | refine thenE ?_ | refine thenR ?_ | refine inBI ?_ | refine inBR ?_ | refine inBS ?_ | refine inBN (by decide) ?_)
      repeat (first | (refine W_reg rfl fun G K hG hK => ?_; simp (disch := omega) only [go_sem, ↓reduceIte, Nat.reduceEqDiff, Nat.reduceAdd, Nat.reduceLeDiff, hG, hlen, e2, e4, e1, e6, l2, l4, l4', c1, hi, idxA, Int.toNat_natCast]; refine hK _ _ ?_; clear hK K hG G) | (refine W_end rfl fun G K hG hK => ?_; simp (disch := omega) only [go_sem, ↓reduceIte, Nat.reduceEqDiff, Nat.reduceAdd, Nat.reduceLeDiff, hG, hlen, e2, e4, e1, e6, l2, l4, l4', c1, hi, idxA, Int.toNat_natCast]; refine hK _ _ ?_; clear hK K hG G; repeat (first | refine thenI ?_ | refine thenE ?_ | refine thenR ?_ | refine inBI ?_ | refine inBR ?_ | refine inBS ?_ | refine inBN (by decide) ?_)) | refine W_seqS ?_ | refine W_seqC ?_ | refine W_seqB ?_ | refine W_block ?_ | (refine W_skip ?_; repeat (first | refine thenI ?_ | refine thenE ?_ | refine thenR ?_ | refine inBI ?_ | refine inBR ?_ | refine inBS ?_ | refine inBN (by decide) ?_)) | (refine W_condT ?hc ?_; (case hc => (simp (disch := omega) only [go_sem, ↓reduceIte, Nat.reduceEqDiff, Nat.reduceAdd, Nat.reduceLeDiff, hlen, e2, e4, e1, e6, l2, l4, l4', c1, hi, idxA, Int.toNat_natCast]; done))) | (refine W_condF ?hc ?_; (case hc => (simp (disch := omega) only [go_sem, ↓reduceIte, Nat.reduceEqDiff, Nat.reduceAdd, Nat.reduceLeDiff, hlen, e2, e4, e1, e6, l2, l4, l4', c1, hi, idxA, Int.toNat_natCast]; done))))
      rw [T.at_out (.inr h2)] at hat
      refine W_ret ?_; try (repeat (first | refine thenI ?_ | refine thenE ?_ | refine thenR ?_ | refine inBI ?_ | refine inBR ?_ | refine inBS ?_ | refine inBN (by decide) ?_))
      refine finC2 (.inl rfl) (by (simp (disch := omega) only [go_sem, ↓reduceIte, Nat.reduceEqDiff, Nat.reduceAdd, Nat.reduceLeDiff, hlen, e2, e4, e1, e6, l2, l4, l4', c1, hi, idxA, Int.toNat_natCast]); try rfl) (by (simp (disch := omega) only [go_sem, ↓reduceIte, Nat.reduceEqDiff, Nat.reduceAdd, Nat.reduceLeDiff, hlen, e2, e4, e1, e6, l2, l4, l4', c1, hi, idxA, Int.toNat_natCast]); try rfl) rfl ⟨Ext.refl _, [_, _, _, _], [], (by rw [← hat]; rfl), by unfold T.atD; rw [← hat]; exact own_zero _, .nil _⟩
    have c3 : decide (p[j] ≤ (args.length : Int) - 1) = true := by simp; omega
    have hy : args[p[j].toNat]? = some args[p[j].toNat] := List.getElem?_eq_getElem (by omega)
    have hlx := hla.args.2 _ (List.mem_of_getElem? hy)
    obtain ⟨i', o', c', cs', rfl, hcl, hE', hcs⟩ := row_at hr hy
    rw [T.at_in (t := .mk k n nm args) (by omega) (by show _ < (args.length : Int); omega) hy] at hat
    obtain ⟨k', n', nm', args', hxe⟩ := T.eta args[p[j].toNat]
    rw [hxe] at hat hE' hlx
    obtain ⟨s', rfl, hr'⟩ := hE'.open
    have hi2 : (0 ≤ p[j] ∧ p[j] < (args.length : Int)) = True := by simp; omega
    have hld := fun loc => load_row (A := []) (loc := loc) ag26 sz26 hcl hcs
    simp (disch := omega) only [go_sem, ↓reduceIte, Nat.reduceEqDiff, Nat.reduceAdd, Nat.reduceLeDiff, hG, hlen, e2, e4, e1, e6, l2, l4, l4', c1, hi, idxA, Int.toNat_natCast, c2, c3]; refine hK _ _ ?_; clear hK K hG G; repeat (first | refine thenI ?_ | refine thenE ?_ | refine thenR ?_ | refine inBI ?_ | refine inBR ?_ | refine inBS ?_ | refine inBN (by decide) ?_)
    repeat (first | (refine W_reg rfl fun G K hG hK => ?_; simp (disch := omega) only [go_sem, ↓reduceIte, Nat.reduceEqDiff, Nat.reduceAdd, Nat.reduceLeDiff, hG, hlen, e2, e4, e1, e6, l2, l4, l4', c1, hi, idxA, Int.toNat_natCast]; refine hK _ _ ?_; clear hK K hG G) | (refine W_end rfl fun G K hG hK => ?_; simp (disch := omega) only [go_sem, ↓reduceIte, Nat.reduceEqDiff, Nat.reduceAdd, Nat.reduceLeDiff, hG, hlen, e2, e4, e1, e6, l2, l4, l4', c1, hi, idxA, Int.toNat_natCast]; refine hK _ _ ?_; clear hK K hG G; repeat (first | refine thenI ?_ | refine thenE ?_ | refine thenR ?_ | refine inBI ?_ | refine inBR ?_ | refine inBS ?_ | refine inBN (by decide) ?_)) | refine W_seqS ?_ | refine W_seqC ?_ | refine W_seqB ?_ | refine W_block ?_ | (refine W_skip ?_; repeat (first | refine thenI ?_ | refine thenE ?_ | refine thenR ?_ | refine inBI ?_ | refine inBR ?_ | refine inBS ?_ | refine inBN (by decide) ?_)) | (refine W_condT ?hc ?_; (case hc => (simp (disch := omega) only [go_sem, ↓reduceIte, Nat.reduceEqDiff, Nat.reduceAdd, Nat.reduceLeDiff, hlen, e2, e4, e1, e6, l2, l4, l4', c1, hi, idxA, Int.toNat_natCast]; done))) | (refine W_condF ?hc ?_; (case hc => (simp (disch := omega) only [go_sem, ↓reduceIte, Nat.reduceEqDiff, Nat.reduceAdd, Nat.reduceLeDiff, hlen, e2, e4, e1, e6, l2, l4, l4', c1, hi, idxA, Int.toNat_natCast]; done))))
    refine W_endD mixed [] [(0,false),(1,false),(2,false),(3,false),(4,false),(5,false),(6,false),(7,false),(8,false)] rfl (by decide +kernel) fun G K hG hK => ?_; simp only [pickOps, List.filterMap_cons, List.filterMap_nil, List.getElem?_cons_zero, List.getElem?_cons_succ, Option.map_some]; simp (disch := omega) only [go_sem, ↓reduceIte, Nat.reduceEqDiff, Nat.reduceAdd, Nat.reduceLeDiff, hG, hlen, e2, e4, e1, e6, l2, l4, l4', c1, hi, idxA, Int.toNat_natCast, hce, hl2, hi2, hld]
    refine hK _ _ ?_; clear hK K hG G; repeat (first | refine thenI ?_ | refine thenE ?_ | refine thenR ?_ | refine inBI ?_ | refine inBR ?_ | refine inBS ?_ | refine inBN (by decide) ?_)
    repeat (first | (refine W_reg rfl fun G K hG hK => ?_; simp (disch := omega) only [go_sem, ↓reduceIte, Nat.reduceEqDiff, Nat.reduceAdd, Nat.reduceLeDiff, hG, hlen, e2, e4, e1, e6, l2, l4, l4', c1, hi, idxA, Int.toNat_natCast]; refine hK _ _ ?_; clear hK K hG G) | (refine W_end rfl fun G K hG hK => ?_; simp (disch := omega) only [go_sem, ↓reduceIte, Nat.reduceEqDiff, Nat.reduceAdd, Nat.reduceLeDiff, hG, hlen, e2, e4, e1, e6, l2, l4, l4', c1, hi, idxA, Int.toNat_natCast]; refine hK _ _ ?_; clear hK K hG G; repeat (first | refine thenI ?_ | refine thenE ?_ | refine thenR ?_ | refine inBI ?_ | refine inBR ?_ | refine inBS ?_ | refine inBN (by decide) ?_)) | refine W_seqS ?_ | refine W_seqC ?_ | refine W_seqB ?_ | refine W_block ?_ | (refine W_skip ?_; repeat (first | refine thenI ?_ | refine thenE ?_ | refine thenR ?_ | refine inBI ?_ | refine inBR ?_ | refine inBS ?_ | refine inBN (by decide) ?_)) | (refine W_condT ?hc ?_; (case hc => (simp (disch := omega) only [go_sem, ↓reduceIte, Nat.reduceEqDiff, Nat.reduceAdd, Nat.reduceLeDiff, hlen, e2, e4, e1, e6, l2, l4, l4', c1, hi, idxA, Int.toNat_natCast]; done))) | (refine W_condF ?hc ?_; (case hc => (simp (disch := omega) only [go_sem, ↓reduceIte, Nat.reduceEqDiff, Nat.reduceAdd, Nat.reduceLeDiff, hlen, e2, e4, e1, e6, l2, l4, l4', c1, hi, idxA, Int.toNat_natCast]; done))))
    refine ⟨p.length - (j + 1), by omega, j + 1, k', n', nm', args', s', rfl, by omega, rfl, hr', hlx, hat, (by (simp (disch := omega) only [go_sem, ↓reduceIte, Nat.reduceEqDiff, Nat.reduceAdd, Nat.reduceLeDiff, hlen, e2, e4, e1, e6, l2, l4, l4', c1, hi, idxA, Int.toNat_natCast]); try rfl), (by (simp (disch := omega) only [go_sem, ↓reduceIte, Nat.reduceEqDiff, Nat.reduceAdd, Nat.reduceLeDiff, hlen, e2, e4, e1, e6, l2, l4, l4', c1, hi, idxA, Int.toNat_natCast]); try rfl), (by (simp (disch := omega) only [go_sem, ↓reduceIte, Nat.reduceEqDiff, Nat.reduceAdd, Nat.reduceLeDiff, hlen, e2, e4, e1, e6, l2, l4, l4', c1, hi, idxA, Int.toNat_natCast]); try rfl), (by (simp (disch := omega) only [go_sem, ↓reduceIte, Nat.reduceEqDiff, Nat.reduceAdd, Nat.reduceLeDiff, hlen, e2, e4, e1, e6, l2, l4, l4', c1, hi, idxA, Int.toNat_natCast]); try rfl), (by (simp (disch := omega) only [go_sem, ↓reduceIte, Nat.reduceEqDiff, Nat.reduceAdd, Nat.reduceLeDiff, hlen, e2, e4, e1, e6, l2, l4, l4', c1, hi, idxA, Int.toNat_natCast]); try rfl), ⟨(by (simp (disch := omega) only [go_sem, ↓reduceIte, Nat.reduceEqDiff, Nat.reduceAdd, Nat.reduceLeDiff, hlen, e2, e4, e1, e6, l2, l4, l4', c1, hi, idxA, Int.toNat_natCast]); try rfl), (by (simp (disch := omega) only [go_sem, ↓reduceIte, Nat.reduceEqDiff, Nat.reduceAdd, Nat.reduceLeDiff, hlen, e2, e4, e1, e6, l2, l4, l4', c1, hi, idxA, Int.toNat_natCast]); try rfl)⟩⟩
  · have c1 : decide ((j : Int) < (p.length : Int)) = false := by simpa using hlt
    have hjn : j = p.length := by omega
    subst hjn
    rw [List.drop_length] at hat
    have n2 := hr.notLoc.1
    repeat (first | (refine W_reg rfl fun G K hG hK => ?_; simp (disch := omega) only [go_sem, ↓reduceIte, Nat.reduceEqDiff, Nat.reduceAdd, Nat.reduceLeDiff, hG, hlen, e2, e4, e1, e6, l2, l4, l4', c1]; refine hK _ _ ?_; clear hK K hG G) | (refine W_end rfl fun G K hG hK => ?_; simp (disch := omega) only [go_sem, ↓reduceIte, Nat.reduceEqDiff, Nat.reduceAdd, Nat.reduceLeDiff, hG, hlen, e2, e4, e1, e6, l2, l4, l4', c1]; refine hK _ _ ?_; clear hK K hG G; repeat (first | refine thenI ?_ | refine thenE ?_ | refine thenR ?_ | refine inBI ?_ | refine inBR ?_ | refine inBS ?_ | refine inBN (by decide) ?_)) | refine W_seqS ?_ | refine W_seqC ?_ | refine W_seqB ?_ | refine W_block ?_ | (refine W_skip ?_; repeat (first | refine thenI ?_ | refine thenE ?_ | refine thenR ?_ | refine inBI ?_ | refine inBR ?_ | refine inBS ?_ | refine inBN (by decide) ?_)) | (refine W_condT ?hc ?_; (case hc => (simp (disch := omega) only [go_sem, ↓reduceIte, Nat.reduceEqDiff, Nat.reduceAdd, Nat.reduceLeDiff, hlen, e2, e4, e1, e6, l2, l4, l4', c1]; done))) | (refine W_condF ?hc ?_; (case hc => (simp (disch := omega) only [go_sem, ↓reduceIte, Nat.reduceEqDiff, Nat.reduceAdd, Nat.reduceLeDiff, hlen, e2, e4, e1, e6, l2, l4, l4', c1]; done))))
    refine W_exit ?_; repeat (first | refine thenI ?_ | refine thenE ?_ | refine thenR ?_ | refine inBI ?_ | refine inBR ?_ | refine inBS ?_ | refine inBN (by decide) ?_)
    (repeat (first | refine W_seqS ?_ | refine W_seqC ?_ | refine W_seqB ?_ | refine W_block ?_)); refine W_reg rfl fun G K hG hK => ?_; simp (disch := omega) only [go_sem, ↓reduceIte, Nat.reduceEqDiff, Nat.reduceAdd, Nat.reduceLeDiff, hG, hlen, e2, e4, e1, e6, l2, l4, l4', c1]
    refine w_call (l3Copy_ok _ _ _ hla (Enc.close k n nm hr)) (by simp (disch := omega) only [go_sem, ↓reduceIte, Nat.reduceEqDiff, hlen, e2, e4, e1, e6, l2, l4, l4', c1, n2]) ?hl ?_
    case hl => first | rfl | (simp only [go_sem, List.all_cons, List.all_nil, Bool.not_false, Bool.and_self, hlen, e2, e4, e1, e6, l2, l4, l4', c1, n2]; done)
    rintro r_ s_ ⟨hx, ds, L, rfl, ho, hf⟩; refine ⟨fun e => (by cases e), ?_⟩
    obtain ⟨s3, rfl, hr3⟩ := ho.open
    simp (disch := omega) only [go_sem, ↓reduceIte, Nat.reduceEqDiff, Nat.reduceAdd, Nat.reduceLeDiff, hG, hlen, e2, e4, e1, e6, l2, l4, l4', c1]; refine hK _ _ ?_; clear hK K hG G; repeat (first | refine thenI ?_ | refine thenE ?_ | refine thenR ?_ | refine inBI ?_ | refine inBR ?_ | refine inBS ?_ | refine inBN (by decide) ?_)
    repeat (first | (refine W_reg rfl fun G K hG hK => ?_; simp (disch := omega) only [go_sem, ↓reduceIte, Nat.reduceEqDiff, Nat.reduceAdd, Nat.reduceLeDiff, hG, hlen, e2, e4, e1, e6, l2, l4, l4', c1]; refine hK _ _ ?_; clear hK K hG G) | (refine W_end rfl fun G K hG hK => ?_; simp (disch := omega) only [go_sem, ↓reduceIte, Nat.reduceEqDiff, Nat.reduceAdd, Nat.reduceLeDiff, hG, hlen, e2, e4, e1, e6, l2, l4, l4', c1]; refine hK _ _ ?_; clear hK K hG G; repeat (first | refine thenI ?_ | refine thenE ?_ | refine thenR ?_ | refine inBI ?_ | refine inBR ?_ | refine inBS ?_ | refine inBN (by decide) ?_)) | refine W_seqS ?_ | refine W_seqC ?_ | refine W_seqB ?_ | refine W_block ?_ | (refine W_skip ?_; repeat (first | refine thenI ?_ | refine thenE ?_ | refine thenR ?_ | refine inBI ?_ | refine inBR ?_ | refine inBS ?_ | refine inBN (by decide) ?_)) | (refine W_condT ?hc ?_; (case hc => (simp (disch := omega) only [go_sem, ↓reduceIte, Nat.reduceEqDiff, Nat.reduceAdd, Nat.reduceLeDiff, hlen, e2, e4, e1, e6, l2, l4, l4', c1]; done))) | (refine W_condF ?hc ?_; (case hc => (simp (disch := omega) only [go_sem, ↓reduceIte, Nat.reduceEqDiff, Nat.reduceAdd, Nat.reduceLeDiff, hlen, e2, e4, e1, e6, l2, l4, l4', c1]; done))))
    refine W_ret ?_; try (repeat (first | refine thenI ?_ | refine thenE ?_ | refine thenR ?_ | refine inBI ?_ | refine inBR ?_ | refine inBS ?_ | refine inBN (by decide) ?_))
    refine finC2 (.inl rfl) (by (simp (disch := omega) only [go_sem, ↓reduceIte, Nat.reduceEqDiff, Nat.reduceAdd, Nat.reduceLeDiff, hlen, e2, e4, e1, e6, l2, l4, l4', c1]); try rfl) (by (simp (disch := omega) only [go_sem, ↓reduceIte, Nat.reduceEqDiff, Nat.reduceAdd, Nat.reduceLeDiff, hlen, e2, e4, e1, e6, l2, l4, l4', c1]); try rfl) rfl ⟨hx, [.int .i64 k, .int .i64 n, .string nm, s3], L, ?_, ?_, hf⟩
    · rw [← hat]; rfl
    · unfold T.atD
      rw [← hat]
      exact ho
end Go.Proofs.Ythimbmcffeiilaa.AM


/- slices.Clone. -/
namespace Go.Proofs.Ythimbmcffeiilaa.AM
open Go Go.Proofs
set_option linter.unusedVariables false
set_option linter.unusedSimpArgs false
set_option maxRecDepth 100000
attribute [local go_sem] List.map_cons List.map_nil List.all_cons List.all_nil Bool.and_self Option.map_some List.getElem?_toArray Option.bind_some gye_b gye_t gsk_b gsk_t gb1 gb2 gb3 gb4 bne_self_eq_false beq_self_eq_true w_guard w_nil stepV_some step_some step_some' w_move w_assign w_pick w_binOp w_unOp w_load w_fieldAddr w_indexAddr w_len w_max w_index ev_max max_int ev_index w_box w_alloc w_store w_field w_extract w_nilCheck w_convert w_buildSlice w_build ev_buildL fillL_nil fillL_cons bs0 bs1 ev_conv ev_bin ev_un ev_pick ev_load ev_fieldAddr ev_indexAddr ev_len ev_field ev_extract ev_nilCheck fr_tmp fr_int fr_bool fr_str fr_nil fr_func put_some put_none bin_lss bin_leq bin_gtr bin_geq bin_eql bin_neq bin_add bin_sub bin_mul bin_seql bin_sneq un_not pick_ ext_ loadA_p cellAt_l cellAt_h okPtr_l okPtr_h fadA_p allocA_l storeA_l cells_agg cells_int cells_str cells_sl cells_bool flat_i flat_s flat_b flat_sl flat_nil loc_agg loc_int loc_str loc_sl loc_bool loc_fn loc_ptr okv_agg okv_int okv_str okv_sl okv_bool cellsFrom splice upd_eval argEnv_zero argEnv_succ ne_eq Nat.add_one_ne_zero not_false_eq_true List.not_mem_nil and_self decide_true List.getElem?_cons_zero List.getElem?_cons_succ List.size_toArray List.length_cons List.length_nil List.take_succ_cons List.take_zero List.drop_succ_cons List.drop_zero List.cons_append List.nil_append List.drop_nil Bool.not_true Bool.not_false Bool.false_eq_true Nat.zero_add Nat.add_zero wrap_in List.toList_toArray List.mem_cons or_self or_false false_or
attribute [local go_sem] ag22 ag24 ag26 ag27 ag3 ag5 ag9 bu26 bu41 by26 by27 by3 el22 el24 el27 el47 el50 of26_0 of26_1 of26_2 of26_3 of41_0 of41_1 of41_2 ro26_0 ro26_1 ro26_2 ro27_0 ro27_1 ro3_0 ro3_1 ro3_3 ro9_2 ro9_3 ro9_4 sz22 sz24 sz26 sz27 sz3 sz5 sz9 ze26 ze27 ze3
-- AUTO

end Go.Proofs.Ythimbmcffeiilaa.AM


/- A subterm is put: impl.withArg, impl.put, impl.ReplaceAt, spec.l4Put, spec.ReplaceAt. -/
namespace Go.Proofs.Ythimbmcffeiilaa.AM
open Go Go.Proofs
set_option linter.unusedVariables false
set_option linter.unusedSimpArgs false
set_option maxRecDepth 100000
attribute [local go_sem] List.map_cons List.map_nil List.all_cons List.all_nil Bool.and_self Option.map_some List.getElem?_toArray Option.bind_some gye_b gye_t gsk_b gsk_t gb1 gb2 gb3 gb4 bne_self_eq_false beq_self_eq_true w_guard w_nil stepV_some step_some step_some' w_move w_assign w_pick w_binOp w_unOp w_load w_fieldAddr w_indexAddr w_len w_max w_index ev_max max_int ev_index w_box w_alloc w_store w_field w_extract w_nilCheck w_convert w_buildSlice w_build ev_buildL fillL_nil fillL_cons bs0 bs1 ev_conv ev_bin ev_un ev_pick ev_load ev_fieldAddr ev_indexAddr ev_len ev_field ev_extract ev_nilCheck fr_tmp fr_int fr_bool fr_str fr_nil fr_func put_some put_none bin_lss bin_leq bin_gtr bin_geq bin_eql bin_neq bin_add bin_sub bin_mul bin_seql bin_sneq un_not pick_ ext_ loadA_p cellAt_l cellAt_h okPtr_l okPtr_h fadA_p allocA_l storeA_l cells_agg cells_int cells_str cells_sl cells_bool flat_i flat_s flat_b flat_sl flat_nil loc_agg loc_int loc_str loc_sl loc_bool loc_fn loc_ptr okv_agg okv_int okv_str okv_sl okv_bool cellsFrom splice upd_eval argEnv_zero argEnv_succ ne_eq Nat.add_one_ne_zero not_false_eq_true List.not_mem_nil and_self decide_true List.getElem?_cons_zero List.getElem?_cons_succ List.size_toArray List.length_cons List.length_nil List.take_succ_cons List.take_zero List.drop_succ_cons List.drop_zero List.cons_append List.nil_append List.drop_nil Bool.not_true Bool.not_false Bool.false_eq_true Nat.zero_add Nat.add_zero wrap_in List.toList_toArray List.mem_cons or_self or_false false_or
attribute [local go_sem] ag22 ag24 ag26 ag27 ag3 ag5 ag9 bu26 bu41 by26 by27 by3 el22 el24 el27 el47 el50 of26_0 of26_1 of26_2 of26_3 of41_0 of41_1 of41_2 ro26_0 ro26_1 ro26_2 ro27_0 ro27_1 ro3_0 ro3_1 ro3_3 ro9_2 ro9_3 ro9_4 sz22 sz24 sz26 sz27 sz3 sz5 sz9 ze26 ze27 ze3
-- AUTO

/-- A row of terms that are read, in a block of its own. -/
abbrev ShT (s0 st : St) (xs : List T) (s : Value) (L : List Nat) : Prop := SliceO (Shr (Enc s0)) 26 st xs s L
theorem ShT.row {s0 st : St} {xs : List T} {s : Value} {L : List Nat} (h : ShT s0 st xs s L) (hx : Ext s0 st) : RowT st xs s :=
  SliceO.row (fun x cx Lx he => Kind.enc_len (α := T) s0 x cx he.1) (fun x _ cx Lx he => Enc.ext hx x cx he.1) h

theorem cloneT_ok (xs : List T) (st : St) (s : Value) (hbig : xs.length ≤ 1099511627776) (hr : RowT st xs s) :
    CallS Try.prog 34 [s] st fun r st2 => Ext st st2 ∧ ∃ L, ShT st st2 xs r L ∧ Fresh st.length L := by
  refine CallS_of_W [] 8 Try.func34 rfl rfl rfl rfl (by simp) ?_
  obtain ⟨b, hb, hb2⟩ := row_nil hr Try.underlying24
  have n1 := hr.notLoc.1
  cases b with
  | true =>
    obtain ⟨rfl, rfl⟩ := hb2 rfl
    repeat (first | (refine W_reg rfl fun G K hG hK => ?_; simp (disch := omega) only [go_sem, ↓reduceIte, Nat.reduceEqDiff, Nat.reduceAdd, Nat.reduceLeDiff, hG, hb]; refine hK _ _ ?_; clear hK K hG G) | (refine W_end rfl fun G K hG hK => ?_; simp (disch := omega) only [go_sem, ↓reduceIte, Nat.reduceEqDiff, Nat.reduceAdd, Nat.reduceLeDiff, hG, hb]; refine hK _ _ ?_; clear hK K hG G; repeat (first | refine thenI ?_ | refine thenE ?_ | refine thenR ?_ | refine inBI ?_ | refine inBR ?_ | refine inBS ?_ | refine inBN (by decide) ?_)) | refine W_seqS ?_ | refine W_seqC ?_ | refine W_seqB ?_ | refine W_block ?_ | (refine W_skip ?_; repeat (first | refine thenI ?_ | refine thenE ?_ | refine thenR ?_ | refine inBI ?_ | refine inBR ?_ | refine inBS ?_ | refine inBN (by decide) ?_)) | (refine W_condT ?hc ?_; (case hc => (simp (disch := omega) only [go_sem, ↓reduceIte, Nat.reduceEqDiff, Nat.reduceAdd, Nat.reduceLeDiff, hb]; done))) | (refine W_condF ?hc ?_; (case hc => (simp (disch := omega) only [go_sem, ↓reduceIte, Nat.reduceEqDiff, Nat.reduceAdd, Nat.reduceLeDiff, hb]; done))))
    refine W_ret ?_; try (repeat (first | refine thenI ?_ | refine thenE ?_ | refine thenR ?_ | refine inBI ?_ | refine inBR ?_ | refine inBS ?_ | refine inBN (by decide) ?_))
    refine fin1 (.inl rfl) (by (simp (disch := omega) only [go_sem, ↓reduceIte, Nat.reduceEqDiff, Nat.reduceAdd, Nat.reduceLeDiff]); try rfl) rfl ⟨Ext.refl _, [], .inl ⟨rfl, rfl, rfl⟩, .nil _⟩
  | false =>
    have hx0 : Ext st (st ++ [⟨[], 26, 0⟩]) := Ext.app _ _
    obtain ⟨cy, hn, hc⟩ := newsA_row (hr.mono hx0 fun x _ cs he => he) Try.underlying24
    obtain ⟨s', st', L', hap, hs', hf', hx', _⟩ := SliceO.fresh (t := 24) (E := fun _ => Shr (Enc st)) (fun _ _ _ _ _ _ h => h) (fun _ _ _ _ h => by rw [h.2]; simp) (fun _ _ _ _ h => Kind.enc_len (α := T) st _ _ h.1) Try.underlying24 sz26 by26 ze26 rfl hn hc (by omega) (by omega)
    repeat (first | (refine W_reg rfl fun G K hG hK => ?_; simp (disch := omega) only [go_sem, ↓reduceIte, Nat.reduceEqDiff, Nat.reduceAdd, Nat.reduceLeDiff, hG, hb]; refine hK _ _ ?_; clear hK K hG G) | (refine W_end rfl fun G K hG hK => ?_; simp (disch := omega) only [go_sem, ↓reduceIte, Nat.reduceEqDiff, Nat.reduceAdd, Nat.reduceLeDiff, hG, hb]; refine hK _ _ ?_; clear hK K hG G; repeat (first | refine thenI ?_ | refine thenE ?_ | refine thenR ?_ | refine inBI ?_ | refine inBR ?_ | refine inBS ?_ | refine inBN (by decide) ?_)) | refine W_seqS ?_ | refine W_seqC ?_ | refine W_seqB ?_ | refine W_block ?_ | (refine W_skip ?_; repeat (first | refine thenI ?_ | refine thenE ?_ | refine thenR ?_ | refine inBI ?_ | refine inBR ?_ | refine inBS ?_ | refine inBN (by decide) ?_)) | (refine W_condT ?hc ?_; (case hc => (simp (disch := omega) only [go_sem, ↓reduceIte, Nat.reduceEqDiff, Nat.reduceAdd, Nat.reduceLeDiff, hb]; done))) | (refine W_condF ?hc ?_; (case hc => (simp (disch := omega) only [go_sem, ↓reduceIte, Nat.reduceEqDiff, Nat.reduceAdd, Nat.reduceLeDiff, hb]; done))))
    repeat (first | (refine W_reg rfl fun G K hG hK => ?_; simp (disch := omega) only [go_sem, ↓reduceIte, Nat.reduceEqDiff, Nat.reduceAdd, Nat.reduceLeDiff, hG, w_append, hap]; refine hK _ _ ?_; clear hK K hG G) | (refine W_end rfl fun G K hG hK => ?_; simp (disch := omega) only [go_sem, ↓reduceIte, Nat.reduceEqDiff, Nat.reduceAdd, Nat.reduceLeDiff, hG, w_append, hap]; refine hK _ _ ?_; clear hK K hG G; repeat (first | refine thenI ?_ | refine thenE ?_ | refine thenR ?_ | refine inBI ?_ | refine inBR ?_ | refine inBS ?_ | refine inBN (by decide) ?_)) | refine W_seqS ?_ | refine W_seqC ?_ | refine W_seqB ?_ | refine W_block ?_ | (refine W_skip ?_; repeat (first | refine thenI ?_ | refine thenE ?_ | refine thenR ?_ | refine inBI ?_ | refine inBR ?_ | refine inBS ?_ | refine inBN (by decide) ?_)) | (refine W_condT ?hc ?_; (case hc => (simp (disch := omega) only [go_sem, ↓reduceIte, Nat.reduceEqDiff, Nat.reduceAdd, Nat.reduceLeDiff, w_append, hap]; done))) | (refine W_condF ?hc ?_; (case hc => (simp (disch := omega) only [go_sem, ↓reduceIte, Nat.reduceEqDiff, Nat.reduceAdd, Nat.reduceLeDiff, w_append, hap]; done))))
    refine W_ret ?_; try (repeat (first | refine thenI ?_ | refine thenE ?_ | refine thenR ?_ | refine inBI ?_ | refine inBR ?_ | refine inBS ?_ | refine inBN (by decide) ?_))
    refine fin1 (.inl rfl) (by (simp (disch := omega) only [go_sem, ↓reduceIte, Nat.reduceEqDiff, Nat.reduceAdd, Nat.reduceLeDiff]); try rfl) hs'.loc ⟨hx', L', hs', hf'⟩

def T.setArg : T → Nat → T → T
  | .mk k n nm args, i, u => .mk k n nm (args.set i u)
theorem withArg_ok (t u : T) (i : Nat) (st : St) (cs ds : List Value) (hi : i < t.args.length) (hbig : t.args.length ≤ 1073741824) (hE : Enc st t cs) (hU : Enc st u ds) :
    CallS Try.prog 27 [.agg cs.toArray, .int .i64 i, .agg ds.toArray] st fun r st2 => Ext st st2 ∧ ∃ es, r = .agg es.toArray ∧ Enc st2 (t.setArg i u) es := by
  refine CallS_of_W [] 17 Try.func27 rfl rfl rfl rfl (by simp) ?_
  obtain ⟨k, n, nm, args⟩ := t
  obtain ⟨k1, n1, nm1, args1⟩ := u
  obtain ⟨s, rfl, hr⟩ := hE.open
  obtain ⟨s1, rfl, hr1⟩ := hU.open
  have hi : i < args.length := hi
  have hbig : args.length ≤ 1073741824 := hbig
  have q1 := hr.notLoc.1
  have q2 := hr.notLoc.2
  have q3 := hr1.notLoc.1
  have q4 := hr1.notLoc.2
  repeat (first | (refine W_reg rfl fun G K hG hK => ?_; simp (disch := omega) only [go_sem, ↓reduceIte, Nat.reduceEqDiff, Nat.reduceAdd, Nat.reduceLeDiff, hG]; refine hK _ _ ?_; clear hK K hG G) | (refine W_end rfl fun G K hG hK => ?_; simp (disch := omega) only [go_sem, ↓reduceIte, Nat.reduceEqDiff, Nat.reduceAdd, Nat.reduceLeDiff, hG]; refine hK _ _ ?_; clear hK K hG G; repeat (first | refine thenI ?_ | refine thenE ?_ | refine thenR ?_ | refine inBI ?_ | refine inBR ?_ | refine inBS ?_ | refine inBN (by decide) ?_)) | refine W_seqS ?_ | refine W_seqC ?_ | refine W_seqB ?_ | refine W_block ?_ | (refine W_skip ?_; repeat (first | refine thenI ?_ | refine thenE ?_ | refine thenR ?_ | refine inBI ?_ | refine inBR ?_ | refine inBS ?_ | refine inBN (by decide) ?_)) | (refine W_condT ?hc ?_; (case hc => (simp (disch := omega) only [go_sem, ↓reduceIte, Nat.reduceEqDiff, Nat.reduceAdd, Nat.reduceLeDiff]; done))) | (refine W_condF ?hc ?_; (case hc => (simp (disch := omega) only [go_sem, ↓reduceIte, Nat.reduceEqDiff, Nat.reduceAdd, Nat.reduceLeDiff]; done))))
  (repeat (first | refine W_seqS ?_ | refine W_seqC ?_ | refine W_seqB ?_ | refine W_block ?_)); refine W_reg rfl fun G K hG hK => ?_; simp (disch := omega) only [go_sem, ↓reduceIte, Nat.reduceEqDiff, Nat.reduceAdd, Nat.reduceLeDiff, hG]
  refine w_call (cloneT_ok args st s (by omega) hr) (by simp (disch := omega) only [go_sem, ↓reduceIte, Nat.reduceEqDiff, q1]) ?hl ?_
  case hl => first | rfl | (simp only [go_sem, List.all_cons, List.all_nil, Bool.not_false, Bool.and_self, q1]; done)
  rintro va sa ⟨x1, L, hs, hf⟩; refine ⟨fun e => (by cases e), ?_⟩
  rcases hs with ⟨_, h0, _⟩ | ⟨b, c, cs, KK, rfl, hb, hro, rfl⟩
  · rw [h0] at hi; simp at hi
  simp (disch := omega) only [go_sem, ↓reduceIte, Nat.reduceEqDiff, Nat.reduceAdd, Nat.reduceLeDiff, hG]; refine hK _ _ ?_; clear hK K hG G; repeat (first | refine thenI ?_ | refine thenE ?_ | refine thenR ?_ | refine inBI ?_ | refine inBR ?_ | refine inBS ?_ | refine inBN (by decide) ?_)
  obtain ⟨l1, cx, l2, L1, Lx, L2, g1, g2, g3, rfl, rfl⟩ := hro.split i _ (List.getElem?_eq_getElem hi)
  have hcl := g1.len (sz := 4) (fun x cx Lx he => Kind.enc_len (α := T) st x cx he.1)
  have hcx : cx.length = 4 := Kind.enc_len (α := T) st _ _ g2.1
  obtain ⟨c0, c1, c2, c3, rfl⟩ : ∃ c0 c1 c2 c3, cx = [c0, c1, c2, c3] := by
    match cx, hcx with
    | [c0, c1, c2, c3], _ => exact ⟨c0, c1, c2, c3, rfl⟩
  have hl1 : l1.length = i * 4 := by rw [hcl, List.length_take, Nat.min_eq_left (by omega)]
  have hii : (0 ≤ (i : Int) ∧ (i : Int) < (args.length : Int)) = True := by simp; omega
  have hblt : b < sa.length := (List.getElem?_eq_some_iff.1 hb).1
  have hb0 : st.length ≤ b := hf.2 b (by simp)
  have hst : ∀ loc, storeA Try.prog 26 (.pointer (some ⟨b, i * 4, none⟩)) (.agg #[.int .i64 k1, .int .i64 n1, .string nm1, s1]) loc sa = some (loc, sa.set b ⟨l1 ++ [.int .i64 k1, .int .i64 n1, .string nm1, s1] ++ l2, 26, 0⟩) := fun loc => by
    have hz := sz26
    rw [storeA_h]
    simp only [okv_agg, if_true, hz, hb, cells_agg, List.size_toArray, List.length_cons, List.length_nil, true_and]
    rw [if_pos (by simp; omega)]
    unfold AM.splice
    have e1 : (l1 ++ [c0, c1, c2, c3] ++ l2).take (i * 4) = l1 := by rw [← hl1, List.append_assoc, List.take_left]
    have e2 : (l1 ++ [c0, c1, c2, c3] ++ l2).drop (i * 4 + [Value.int .i64 k1, .int .i64 n1, .string nm1, s1].length) = l2 := by
      have : i * 4 + [Value.int .i64 k1, .int .i64 n1, .string nm1, s1].length = (l1 ++ [c0, c1, c2, c3]).length := by simp; omega
      rw [this, List.drop_left]
    rw [e1, e2]
  generalize hsb : sa.set b (⟨l1 ++ [.int .i64 k1, .int .i64 n1, .string nm1, s1] ++ l2, 26, 0⟩ : Blk) = sb at hst
  have hbb : sb[b]? = some ⟨l1 ++ [.int .i64 k1, .int .i64 n1, .string nm1, s1] ++ l2, 26, 0⟩ := by rw [← hsb]; exact get_set_eq hb
  have x2 : Ext st sb := Ext.of_get fun q hq => by rw [← hsb, get_set_ne (by omega), x1.get hq]
  have hnew : ShT st sb (args.set i (.mk k1 n1 nm1 args1)) (.slice (some ⟨b, 0, none⟩) args.length c) (b :: (L1 ++ [] ++ L2)) := by
    refine .inr ⟨b, c, _, _, by rw [List.length_set], hbb, ?_, rfl⟩
    have e : args.set i (.mk k1 n1 nm1 args1) = args.take i ++ [.mk k1 n1 nm1 args1] ++ args.drop (i + 1) := by
      rw [List.set_eq_take_append_cons_drop, if_pos hi]; simp
    rw [e]
    exact (g1.app (RowO.one ⟨hU, rfl⟩)).app g3
  repeat (first | (refine W_reg rfl fun G K hG hK => ?_; simp (disch := omega) only [go_sem, ↓reduceIte, Nat.reduceEqDiff, Nat.reduceAdd, Nat.reduceLeDiff, hG, hii, hst, idxA, Int.toNat_natCast, q3, q4]; refine hK _ _ ?_; clear hK K hG G) | (refine W_end rfl fun G K hG hK => ?_; simp (disch := omega) only [go_sem, ↓reduceIte, Nat.reduceEqDiff, Nat.reduceAdd, Nat.reduceLeDiff, hG, hii, hst, idxA, Int.toNat_natCast, q3, q4]; refine hK _ _ ?_; clear hK K hG G; repeat (first | refine thenI ?_ | refine thenE ?_ | refine thenR ?_ | refine inBI ?_ | refine inBR ?_ | refine inBS ?_ | refine inBN (by decide) ?_)) | refine W_seqS ?_ | refine W_seqC ?_ | refine W_seqB ?_ | refine W_block ?_ | (refine W_skip ?_; repeat (first | refine thenI ?_ | refine thenE ?_ | refine thenR ?_ | refine inBI ?_ | refine inBR ?_ | refine inBS ?_ | refine inBN (by decide) ?_)) | (refine W_condT ?hc ?_; (case hc => (simp (disch := omega) only [go_sem, ↓reduceIte, Nat.reduceEqDiff, Nat.reduceAdd, Nat.reduceLeDiff, hii, hst, idxA, Int.toNat_natCast, q3, q4]; done))) | (refine W_condF ?hc ?_; (case hc => (simp (disch := omega) only [go_sem, ↓reduceIte, Nat.reduceEqDiff, Nat.reduceAdd, Nat.reduceLeDiff, hii, hst, idxA, Int.toNat_natCast, q3, q4]; done))))
  refine W_ret ?_; try (repeat (first | refine thenI ?_ | refine thenE ?_ | refine thenR ?_ | refine inBI ?_ | refine inBR ?_ | refine inBS ?_ | refine inBN (by decide) ?_))
  refine finC (.inl rfl) (by (simp (disch := omega) only [go_sem, ↓reduceIte, Nat.reduceEqDiff, Nat.reduceAdd, Nat.reduceLeDiff]); try rfl) ⟨x2, [.int .i64 k, .int .i64 n, .string nm, _], rfl, Enc.close k n nm (hnew.row x2)⟩

def T.put (u : T) : List Int → T → T
  | [], _ => u
  | i :: p, t => t.setArg i.toNat (T.put u p (t.args.getD i.toNat T.zero))
theorem T.at_cons {i : Int} {p : List Int} {t : T} (h : (T.at (i :: p) t).isSome = true) : 0 ≤ i ∧ i.toNat < t.args.length ∧ t.args[i.toNat]? = some (t.args.getD i.toNat T.zero) ∧ (T.at p (t.args.getD i.toNat T.zero)).isSome = true := by
  simp only [T.at] at h
  split at h
  · rename_i hc
    have hlt : i.toNat < t.args.length := by omega
    have e : t.args.getD i.toNat T.zero = t.args[i.toNat] := by simp [hlt]
    rw [List.getElem?_eq_getElem hlt] at h
    exact ⟨hc.1, hlt, by rw [e, List.getElem?_eq_getElem hlt], by rw [e]; exact h⟩
  · cases h
theorem Lim.setArg {B : Nat} {t u : T} {i : Nat} (h : Lim B t) (hu : Lim B u) : Lim B (t.setArg i u) := by
  obtain ⟨k, n, nm, args⟩ := t
  refine .mk _ _ _ _ (by simpa using h.args.1) fun a ha => ?_
  rcases List.mem_or_eq_of_mem_set ha with ha | rfl
  · exact h.args.2 a ha
  · exact hu
theorem Lim.put {B : Nat} {u : T} (hu : Lim B u) : ∀ (p : List Int) (t : T), Lim B t → (T.at p t).isSome = true → Lim B (T.put u p t) := by
  intro p
  induction p with
  | nil => intro t _ _; exact hu
  | cons i p ih =>
    intro t ht hat
    obtain ⟨h0, h1, h2, h3⟩ := T.at_cons hat
    exact Lim.setArg ht (ih _ (Lim.arg t _ ht (List.mem_of_getElem? h2)) h3)
theorem T.setArg_wt {t u : T} {i : Nat} {x : T} (h : t.args[i]? = some x) : (t.setArg i u).wt + x.wt = t.wt + u.wt := by
  obtain ⟨k, n, nm, args⟩ := t
  have h : args[i]? = some x := h
  have : ∀ (l : List T) (i : Nat), l[i]? = some x → T.wtL (l.set i u) + x.wt = T.wtL l + u.wt := by
    intro l
    induction l with
    | nil => intro i h; simp at h
    | cons y ys ih =>
      intro i h
      cases i with
      | zero => simp only [List.getElem?_cons_zero, Option.some.injEq] at h; subst h; simp only [List.set_cons_zero, T.wtL]; omega
      | succ i => have := ih i (by simpa using h); simp only [List.set_cons_succ, T.wtL]; omega
  have := this args i h
  simp only [T.setArg, T.wt, List.length_set]
  omega
theorem T.put_wt (u : T) : ∀ (p : List Int) (t : T), (T.at p t).isSome = true → (T.put u p t).wt ≤ t.wt + u.wt := by
  intro p
  induction p with
  | nil => intro t _; simp only [T.put]; omega
  | cons i p ih =>
    intro t hat
    obtain ⟨h0, h1, h2, h3⟩ := T.at_cons hat
    have := T.setArg_wt (u := T.put u p (t.args.getD i.toNat T.zero)) h2
    have := ih _ h3
    simp only [T.put]
    omega

theorem implPut_ok (u : T) (ds : List Value) : ∀ (p : List Int) (t : T) (st : St) (cs : List Value) (s1 : Value), p.length ≤ 1073741824 → (T.at p t).isSome = true → Lim 1073741824 t → Enc st t cs → Rw st p s1 → Enc st u ds →
    CallS Try.prog 15 [.agg cs.toArray, s1, .agg ds.toArray] st fun r st2 => Ext st st2 ∧ ∃ es, r = .agg es.toArray ∧ Enc st2 (T.put u p t) es := by
  intro p
  induction p with
  | nil =>
    intro t st cs s1 hp hat hl hE hr hU
    refine CallS_of_W [] 27 Try.func15 rfl rfl rfl rfl (by simp) ?_
    have hlen : lenE Try.prog 27 s1 = some (.int .i64 ([] : List Int).length) := row_len hr Try.underlying27
    obtain ⟨k, n, nm, args⟩ := t
    obtain ⟨s, rfl, hra⟩ := hE.open
    obtain ⟨k1, n1, nm1, args1⟩ := u
    obtain ⟨s2, rfl, hr2⟩ := hU.open
    have q1 := hra.notLoc.1
    have q2 := hra.notLoc.2
    have q3 := hr2.notLoc.1
    have q4 := hr2.notLoc.2
    have c1 : (((0 : Nat) : Int) == 0) = true := rfl
    repeat (first | (refine W_reg rfl fun G K hG hK => ?_; simp (disch := omega) only [go_sem, ↓reduceIte, Nat.reduceEqDiff, Nat.reduceAdd, Nat.reduceLeDiff, hG, hlen, c1]; refine hK _ _ ?_; clear hK K hG G) | (refine W_end rfl fun G K hG hK => ?_; simp (disch := omega) only [go_sem, ↓reduceIte, Nat.reduceEqDiff, Nat.reduceAdd, Nat.reduceLeDiff, hG, hlen, c1]; refine hK _ _ ?_; clear hK K hG G; repeat (first | refine thenI ?_ | refine thenE ?_ | refine thenR ?_ | refine inBI ?_ | refine inBR ?_ | refine inBS ?_ | refine inBN (by decide) ?_)) | refine W_seqS ?_ | refine W_seqC ?_ | refine W_seqB ?_ | refine W_block ?_ | (refine W_skip ?_; repeat (first | refine thenI ?_ | refine thenE ?_ | refine thenR ?_ | refine inBI ?_ | refine inBR ?_ | refine inBS ?_ | refine inBN (by decide) ?_)) | (refine W_condT ?hc ?_; (case hc => (simp (disch := omega) only [go_sem, ↓reduceIte, Nat.reduceEqDiff, Nat.reduceAdd, Nat.reduceLeDiff, hlen, c1]; done))) | (refine W_condF ?hc ?_; (case hc => (simp (disch := omega) only [go_sem, ↓reduceIte, Nat.reduceEqDiff, Nat.reduceAdd, Nat.reduceLeDiff, hlen, c1]; done))))
    refine W_ret ?_; try (repeat (first | refine thenI ?_ | refine thenE ?_ | refine thenR ?_ | refine inBI ?_ | refine inBR ?_ | refine inBS ?_ | refine inBN (by decide) ?_))
    refine finC (.inl rfl) (by (simp (disch := omega) only [go_sem, ↓reduceIte, Nat.reduceEqDiff, Nat.reduceAdd, Nat.reduceLeDiff]); try rfl) ⟨Ext.refl _, [.int .i64 k1, .int .i64 n1, .string nm1, s2], rfl, hU⟩
  | cons i p ih =>
    intro t st cs s1 hp hat hl hE hr hU
    refine CallS_of_W [] 27 Try.func15 rfl rfl rfl rfl (by simp) ?_
    have hlen : lenE Try.prog 27 s1 = some (.int .i64 (i :: p).length) := row_len hr Try.underlying27
    simp only [List.length_cons] at hp
    obtain ⟨h0, h1, h2, h3⟩ := T.at_cons hat
    obtain ⟨k, n, nm, args⟩ := t
    obtain ⟨s, rfl, hra⟩ := hE.open
    obtain ⟨k1, n1, nm1, args1⟩ := u
    obtain ⟨s2, rfl, hr2⟩ := hU.open
    have q1 := hra.notLoc.1
    have q2 := hra.notLoc.2
    have q3 := hr2.notLoc.1
    have q4 := hr2.notLoc.2
    generalize hN : (i :: p).length = N at hlen
    have hN' : N = p.length + 1 := by rw [← hN]; rfl
    have c1 : ((N : Int) == 0) = false := by simp; omega
    obtain ⟨s1', hsl, hfl, hr'⟩ := row_drop (sz := 0) hr Try.underlying27 sz3 (k := 1) (by simp) (by simp)
    have hsl : sliceA Try.prog 27 s1 (some (.int .i64 1)) none = some s1' := hsl
    have m1 := hr'.notLoc.1
    obtain ⟨b, o, c, rfl, hce⟩ := row_atI hr (j := 0) (x := i) rfl hN
    rw [Nat.zero_mul, Nat.add_zero] at hce
    simp only [T.args] at h1 h2 h3
    obtain ⟨b2, o2, c2, cs2, rfl, hcl, hE2, hcs⟩ := row_at hra h2
    have hly := hl.args.2 _ (List.mem_of_getElem? h2)
    have hab := hl.args.1
    obtain ⟨ky, ny, nmy, argsy, hye⟩ := T.eta (args.getD i.toNat T.zero)
    obtain ⟨sy, rfl, hry⟩ := (hye ▸ hE2).open
    have hld2 := fun loc => load_row (A := []) (loc := loc) ag26 sz26 hcl hcs
    have hi0 : (0 ≤ (0 : Int) ∧ (0 : Int) < (N : Int)) = True := by simp; omega
    have hi1 : (0 ≤ i ∧ i < (args.length : Int)) = True := by simp; omega
    have y1 := hry.notLoc.1
    repeat (first | (refine W_reg rfl fun G K hG hK => ?_; simp (disch := omega) only [go_sem, ↓reduceIte, Nat.reduceEqDiff, Nat.reduceAdd, Nat.reduceLeDiff, hG, q1, q3, m1, y1, hlen, c1]; refine hK _ _ ?_; clear hK K hG G) | (refine W_end rfl fun G K hG hK => ?_; simp (disch := omega) only [go_sem, ↓reduceIte, Nat.reduceEqDiff, Nat.reduceAdd, Nat.reduceLeDiff, hG, q1, q3, m1, y1, hlen, c1]; refine hK _ _ ?_; clear hK K hG G; repeat (first | refine thenI ?_ | refine thenE ?_ | refine thenR ?_ | refine inBI ?_ | refine inBR ?_ | refine inBS ?_ | refine inBN (by decide) ?_)) | refine W_seqS ?_ | refine W_seqC ?_ | refine W_seqB ?_ | refine W_block ?_ | (refine W_skip ?_; repeat (first | refine thenI ?_ | refine thenE ?_ | refine thenR ?_ | refine inBI ?_ | refine inBR ?_ | refine inBS ?_ | refine inBN (by decide) ?_)) | (refine W_condT ?hc ?_; (case hc => (simp (disch := omega) only [go_sem, ↓reduceIte, Nat.reduceEqDiff, Nat.reduceAdd, Nat.reduceLeDiff, q1, q3, m1, y1, hlen, c1]; done))) | (refine W_condF ?hc ?_; (case hc => (simp (disch := omega) only [go_sem, ↓reduceIte, Nat.reduceEqDiff, Nat.reduceAdd, Nat.reduceLeDiff, q1, q3, m1, y1, hlen, c1]; done))))
    (repeat (first | refine W_seqS ?_ | refine W_seqC ?_ | refine W_seqB ?_ | refine W_block ?_)); refine W_regD mixed [] [(0,false),(1,false),(2,false),(3,false),(4,false),(5,false),(6,false),(7,false),(8,false),(9,false),(10,false),(11,false),(12,false),(13,false),(14,true),(15,true),(16,false)] rfl (by decide +kernel) fun G K hG hK => ?_; simp only [pickOps, List.filterMap_cons, List.filterMap_nil, List.getElem?_cons_zero, List.getElem?_cons_succ, Option.map_some]; simp (disch := omega) only [go_sem, ↓reduceIte, Nat.reduceEqDiff, Nat.reduceAdd, Nat.reduceLeDiff, hG, q1, q3, m1, y1, w_slice, ev_slice, hfl, hsl, hld2, hce, hi0, hi1, idxA, Int.toNat_natCast, Int.toNat_zero, Nat.zero_mul, Bool.false_and, Option.map_none]
    refine w_call (ih (args.getD i.toNat T.zero) st _ s1' (by omega) h3 hly hE2 hr' hU) (by simp (disch := omega) only [go_sem, ↓reduceIte, Nat.reduceEqDiff, q1, q3, m1, y1]) ?hl ?_
    case hl => first | rfl | (simp only [go_sem, List.all_cons, List.all_nil, Bool.not_false, Bool.and_self, q1, q3, m1, y1]; done)
    rintro r_ sa ⟨x1, es, rfl, hE3⟩; refine ⟨fun e => x1, ?_⟩
    have hEx := Enc.ext x1 _ _ hE
    have hp2 : T.put (.mk k1 n1 nm1 args1) (i :: p) (.mk k n nm args) = T.setArg (.mk k n nm args) i.toNat (T.put (.mk k1 n1 nm1 args1) p (args.getD i.toNat T.zero)) := rfl
    obtain ⟨kw, nw, mw, aw, hwe⟩ := T.eta (T.put (.mk k1 n1 nm1 args1) p (args.getD i.toNat T.zero))
    rw [hwe] at hE3 hp2
    obtain ⟨sw, rfl, hrw⟩ := hE3.open
    have w1 := hrw.notLoc.1
    have hie : (i : Int) = ((i.toNat : Nat) : Int) := by omega
    simp (disch := omega) only [go_sem, ↓reduceIte, Nat.reduceEqDiff, Nat.reduceAdd, Nat.reduceLeDiff, q1, q3, m1, y1]
    have hwa := withArg_ok (.mk k n nm args) (.mk kw nw mw aw) i.toNat sa _ _ h1 hab hEx hE3
    rw [← hie] at hwa
    refine w_call (hwa) (by simp (disch := omega) only [go_sem, ↓reduceIte, Nat.reduceEqDiff, q1, q3, m1, y1, w1]) ?hl ?_
    case hl => first | rfl | (simp only [go_sem, List.all_cons, List.all_nil, Bool.not_false, Bool.and_self, q1, q3, m1, y1, w1]; done)
    rintro r_ sb ⟨x2, es, rfl, hE4⟩; refine ⟨fun e => x2, ?_⟩
    obtain ⟨sr, rfl, hrr⟩ := hE4.open
    have r1 := hrr.notLoc.1
    have r2 := hrr.notLoc.2
    simp (disch := omega) only [go_sem, ↓reduceIte, Nat.reduceEqDiff, Nat.reduceAdd, Nat.reduceLeDiff, hG, q1, q3, m1, y1, r1, r2]; refine hK _ _ ?_; clear hK K hG G; repeat (first | refine thenI ?_ | refine thenE ?_ | refine thenR ?_ | refine inBI ?_ | refine inBR ?_ | refine inBS ?_ | refine inBN (by decide) ?_)
    repeat (first | (refine W_reg rfl fun G K hG hK => ?_; simp (disch := omega) only [go_sem, ↓reduceIte, Nat.reduceEqDiff, Nat.reduceAdd, Nat.reduceLeDiff, hG, q1, q3, m1, y1, r1, r2]; refine hK _ _ ?_; clear hK K hG G) | (refine W_end rfl fun G K hG hK => ?_; simp (disch := omega) only [go_sem, ↓reduceIte, Nat.reduceEqDiff, Nat.reduceAdd, Nat.reduceLeDiff, hG, q1, q3, m1, y1, r1, r2]; refine hK _ _ ?_; clear hK K hG G; repeat (first | refine thenI ?_ | refine thenE ?_ | refine thenR ?_ | refine inBI ?_ | refine inBR ?_ | refine inBS ?_ | refine inBN (by decide) ?_)) | refine W_seqS ?_ | refine W_seqC ?_ | refine W_seqB ?_ | refine W_block ?_ | (refine W_skip ?_; repeat (first | refine thenI ?_ | refine thenE ?_ | refine thenR ?_ | refine inBI ?_ | refine inBR ?_ | refine inBS ?_ | refine inBN (by decide) ?_)) | (refine W_condT ?hc ?_; (case hc => (simp (disch := omega) only [go_sem, ↓reduceIte, Nat.reduceEqDiff, Nat.reduceAdd, Nat.reduceLeDiff, q1, q3, m1, y1, r1, r2]; done))) | (refine W_condF ?hc ?_; (case hc => (simp (disch := omega) only [go_sem, ↓reduceIte, Nat.reduceEqDiff, Nat.reduceAdd, Nat.reduceLeDiff, q1, q3, m1, y1, r1, r2]; done))))
    refine W_ret ?_; try (repeat (first | refine thenI ?_ | refine thenE ?_ | refine thenR ?_ | refine inBI ?_ | refine inBR ?_ | refine inBS ?_ | refine inBN (by decide) ?_))
    refine finC (.inl rfl) (by (simp (disch := omega) only [go_sem, ↓reduceIte, Nat.reduceEqDiff, Nat.reduceAdd, Nat.reduceLeDiff, q1, q3, m1, y1]); try rfl) ⟨x1.trans x2, _, rfl, by rw [hp2]; exact hE4⟩

theorem specPut_ok (u : T) (ds : List Value) (hlu : Lim 1073741824 u) : ∀ (p : List Int) (t : T) (st : St) (cs : List Value) (s1 : Value), p.length ≤ 1073741824 → (T.at p t).isSome = true → Lim 1073741824 t → Enc st t cs → Rw st p s1 → Enc st u ds →
    CallS Try.prog 18 [.agg cs.toArray, s1, .agg ds.toArray] st fun r st2 => Ext st st2 ∧ ∃ es L, r = .agg es.toArray ∧ OwnT st2 (T.put u p t) es L ∧ Fresh st.length L := by
  intro p
  induction p with
  | nil =>
    intro t st cs s1 hp hat hl hE hr hU
    refine CallS_of_W [] 33 Try.func18 rfl rfl rfl rfl (by simp) ?_
    have hlen : lenE Try.prog 27 s1 = some (.int .i64 ([] : List Int).length) := row_len hr Try.underlying27
    obtain ⟨k, n, nm, args⟩ := t
    obtain ⟨s, rfl, hra⟩ := hE.open
    obtain ⟨k1, n1, nm1, args1⟩ := u
    obtain ⟨s2, rfl, hr2⟩ := hU.open
    have q1 := hra.notLoc.1
    have q2 := hra.notLoc.2
    have q3 := hr2.notLoc.1
    have q4 := hr2.notLoc.2
    have c1 : (((0 : Nat) : Int) == 0) = true := rfl
    repeat (first | (refine W_reg rfl fun G K hG hK => ?_; simp (disch := omega) only [go_sem, ↓reduceIte, Nat.reduceEqDiff, Nat.reduceAdd, Nat.reduceLeDiff, hG, hlen, c1]; refine hK _ _ ?_; clear hK K hG G) | (refine W_end rfl fun G K hG hK => ?_; simp (disch := omega) only [go_sem, ↓reduceIte, Nat.reduceEqDiff, Nat.reduceAdd, Nat.reduceLeDiff, hG, hlen, c1]; refine hK _ _ ?_; clear hK K hG G; repeat (first | refine thenI ?_ | refine thenE ?_ | refine thenR ?_ | refine inBI ?_ | refine inBR ?_ | refine inBS ?_ | refine inBN (by decide) ?_)) | refine W_seqS ?_ | refine W_seqC ?_ | refine W_seqB ?_ | refine W_block ?_ | (refine W_skip ?_; repeat (first | refine thenI ?_ | refine thenE ?_ | refine thenR ?_ | refine inBI ?_ | refine inBR ?_ | refine inBS ?_ | refine inBN (by decide) ?_)) | (refine W_condT ?hc ?_; (case hc => (simp (disch := omega) only [go_sem, ↓reduceIte, Nat.reduceEqDiff, Nat.reduceAdd, Nat.reduceLeDiff, hlen, c1]; done))) | (refine W_condF ?hc ?_; (case hc => (simp (disch := omega) only [go_sem, ↓reduceIte, Nat.reduceEqDiff, Nat.reduceAdd, Nat.reduceLeDiff, hlen, c1]; done))))
    (repeat (first | refine W_seqS ?_ | refine W_seqC ?_ | refine W_seqB ?_ | refine W_block ?_)); refine W_reg rfl fun G K hG hK => ?_; simp (disch := omega) only [go_sem, ↓reduceIte, Nat.reduceEqDiff, Nat.reduceAdd, Nat.reduceLeDiff, hG, q3, q4]
    refine w_call (l3Copy_ok _ st _ hlu hU) (by simp (disch := omega) only [go_sem, ↓reduceIte, Nat.reduceEqDiff, q3]) ?hl ?_
    case hl => first | rfl | (simp only [go_sem, List.all_cons, List.all_nil, Bool.not_false, Bool.and_self, q3]; done)
    rintro r_ sa ⟨x1, es, L, rfl, ho, hf⟩; refine ⟨fun e => (by cases e), ?_⟩
    obtain ⟨sr, rfl, hso⟩ := ho.open
    simp (disch := omega) only [go_sem, ↓reduceIte, Nat.reduceEqDiff, Nat.reduceAdd, Nat.reduceLeDiff, hG]; refine hK _ _ ?_; clear hK K hG G; repeat (first | refine thenI ?_ | refine thenE ?_ | refine thenR ?_ | refine inBI ?_ | refine inBR ?_ | refine inBS ?_ | refine inBN (by decide) ?_)
    repeat (first | (refine W_reg rfl fun G K hG hK => ?_; simp (disch := omega) only [go_sem, ↓reduceIte, Nat.reduceEqDiff, Nat.reduceAdd, Nat.reduceLeDiff, hG]; refine hK _ _ ?_; clear hK K hG G) | (refine W_end rfl fun G K hG hK => ?_; simp (disch := omega) only [go_sem, ↓reduceIte, Nat.reduceEqDiff, Nat.reduceAdd, Nat.reduceLeDiff, hG]; refine hK _ _ ?_; clear hK K hG G; repeat (first | refine thenI ?_ | refine thenE ?_ | refine thenR ?_ | refine inBI ?_ | refine inBR ?_ | refine inBS ?_ | refine inBN (by decide) ?_)) | refine W_seqS ?_ | refine W_seqC ?_ | refine W_seqB ?_ | refine W_block ?_ | (refine W_skip ?_; repeat (first | refine thenI ?_ | refine thenE ?_ | refine thenR ?_ | refine inBI ?_ | refine inBR ?_ | refine inBS ?_ | refine inBN (by decide) ?_)) | (refine W_condT ?hc ?_; (case hc => (simp (disch := omega) only [go_sem, ↓reduceIte, Nat.reduceEqDiff, Nat.reduceAdd, Nat.reduceLeDiff]; done))) | (refine W_condF ?hc ?_; (case hc => (simp (disch := omega) only [go_sem, ↓reduceIte, Nat.reduceEqDiff, Nat.reduceAdd, Nat.reduceLeDiff]; done))))
    refine W_ret ?_; try (repeat (first | refine thenI ?_ | refine thenE ?_ | refine thenR ?_ | refine inBI ?_ | refine inBR ?_ | refine inBS ?_ | refine inBN (by decide) ?_))
    refine finC (.inl rfl) (by (simp (disch := omega) only [go_sem, ↓reduceIte, Nat.reduceEqDiff, Nat.reduceAdd, Nat.reduceLeDiff]); try rfl) ⟨x1, _, L, rfl, ho, hf⟩
  | cons i p ih =>
    intro t st cs s1 hp hat hl hE hr hU
    refine CallS_of_W [] 33 Try.func18 rfl rfl rfl rfl (by simp) ?_
    have hlen : lenE Try.prog 27 s1 = some (.int .i64 (i :: p).length) := row_len hr Try.underlying27
    simp only [List.length_cons] at hp
    obtain ⟨h0, h1, h2, h3⟩ := T.at_cons hat
    obtain ⟨k, n, nm, args⟩ := t
    obtain ⟨s, rfl, hra⟩ := hE.open
    obtain ⟨k1, n1, nm1, args1⟩ := u
    obtain ⟨s2, rfl, hr2⟩ := hU.open
    have q1 := hra.notLoc.1
    have q2 := hra.notLoc.2
    have q3 := hr2.notLoc.1
    have q4 := hr2.notLoc.2
    generalize hN : (i :: p).length = N at hlen
    have hN' : N = p.length + 1 := by rw [← hN]; rfl
    have c1 : ((N : Int) == 0) = false := by simp; omega
    obtain ⟨s1', hsl, hfl, hr'⟩ := row_drop (sz := 0) hr Try.underlying27 sz3 (k := 1) (by simp) (by simp)
    have hsl : sliceA Try.prog 27 s1 (some (.int .i64 1)) none = some s1' := hsl
    have m1 := hr'.notLoc.1
    have hp1 := hr.notLoc.1
    repeat (first | (refine W_reg rfl fun G K hG hK => ?_; simp (disch := omega) only [go_sem, ↓reduceIte, Nat.reduceEqDiff, Nat.reduceAdd, Nat.reduceLeDiff, hG, q1, q2, q3, q4, m1, hp1, hlen, c1]; refine hK _ _ ?_; clear hK K hG G) | (refine W_end rfl fun G K hG hK => ?_; simp (disch := omega) only [go_sem, ↓reduceIte, Nat.reduceEqDiff, Nat.reduceAdd, Nat.reduceLeDiff, hG, q1, q2, q3, q4, m1, hp1, hlen, c1]; refine hK _ _ ?_; clear hK K hG G; repeat (first | refine thenI ?_ | refine thenE ?_ | refine thenR ?_ | refine inBI ?_ | refine inBR ?_ | refine inBS ?_ | refine inBN (by decide) ?_)) | refine W_seqS ?_ | refine W_seqC ?_ | refine W_seqB ?_ | refine W_block ?_ | (refine W_skip ?_; repeat (first | refine thenI ?_ | refine thenE ?_ | refine thenR ?_ | refine inBI ?_ | refine inBR ?_ | refine inBS ?_ | refine inBN (by decide) ?_)) | (refine W_condT ?hc ?_; (case hc => (simp (disch := omega) only [go_sem, ↓reduceIte, Nat.reduceEqDiff, Nat.reduceAdd, Nat.reduceLeDiff, q1, q2, q3, q4, m1, hp1, hlen, c1]; done))) | (refine W_condF ?hc ?_; (case hc => (simp (disch := omega) only [go_sem, ↓reduceIte, Nat.reduceEqDiff, Nat.reduceAdd, Nat.reduceLeDiff, q1, q2, q3, q4, m1, hp1, hlen, c1]; done))))
    (repeat (first | refine W_seqS ?_ | refine W_seqC ?_ | refine W_seqB ?_ | refine W_block ?_)); refine W_reg rfl fun G K hG hK => ?_; simp (disch := omega) only [go_sem, ↓reduceIte, Nat.reduceEqDiff, Nat.reduceAdd, Nat.reduceLeDiff, hG, q1, q2, q3, q4, m1, hp1]
    refine w_call (l3Copy_ok _ st _ hl hE) (by simp (disch := omega) only [go_sem, ↓reduceIte, Nat.reduceEqDiff, q1, q2, q3, q4, m1, hp1]) ?hl ?_
    case hl => first | rfl | (simp only [go_sem, List.all_cons, List.all_nil, Bool.not_false, Bool.and_self, q1, q2, q3, q4, m1, hp1]; done)
    rintro r_ sa ⟨x1, es, L, rfl, ho, hf⟩; refine ⟨fun e => (by cases e), ?_⟩
    obtain ⟨so, rfl, hso⟩ := ho.open
    have o1 := hso.okv
    have o2 := hso.loc
    have o3 := hso.cells
    simp (disch := omega) only [go_sem, ↓reduceIte, Nat.reduceEqDiff, Nat.reduceAdd, Nat.reduceLeDiff, hG, q1, q2, q3, q4, m1, hp1, o1, o2, o3]; refine hK _ _ ?_; clear hK K hG G; repeat (first | refine thenI ?_ | refine thenE ?_ | refine thenR ?_ | refine inBI ?_ | refine inBR ?_ | refine inBS ?_ | refine inBN (by decide) ?_)
    obtain ⟨b, o, c, rfl, hce⟩ := row_atI hr (j := 0) (x := i) rfl hN
    rw [Nat.zero_mul, Nat.add_zero] at hce
    have hce := cell_ext x1 hce
    simp only [T.args] at h1 h2 h3
    obtain ⟨b2, o2', c2, cs2, rfl, hcl, hE2, hcs⟩ := row_at hra h2
    have hly := hl.args.2 _ (List.mem_of_getElem? h2)
    have hab := hl.args.1
    obtain ⟨ky, ny, nmy, argsy, hye⟩ := T.eta (args.getD i.toNat T.zero)
    obtain ⟨sy, rfl, hry⟩ := (hye ▸ hE2).open
    have hld2 := fun loc => load_row (A := []) (loc := loc) ag26 sz26 hcl (hcs.ext x1)
    have hi0 : (0 ≤ (0 : Int) ∧ (0 : Int) < (N : Int)) = True := by simp; omega
    have hi1 : (0 ≤ i ∧ i < (args.length : Int)) = True := by simp; omega
    have y1 := hry.notLoc.1
    have hfr : ∀ (st2 : St) (x : T) (cx : List Value) (Lx : List Nat), Ext sa st2 → Own 26 st2 x cx Lx → Fresh sa.length Lx → _ := fun st2 x cx Lx hx2 hox hfx => Sl.set (α := T) (P := Try.prog) (v := .agg cx.toArray) sz26 hso hf x1.length hx2 hox hfx h1 (by simp [Value.cells]) rfl
    (repeat (first | refine W_seqS ?_ | refine W_seqC ?_ | refine W_seqB ?_ | refine W_block ?_)); refine W_regD mixed [] [(0,false),(1,false),(2,false),(3,false),(4,false),(5,false),(6,false),(7,false),(8,false),(9,false),(10,false),(11,false),(12,false),(13,false),(14,false),(15,true),(16,false),(17,false)] rfl (by decide +kernel) fun G K hG hK => ?_; simp only [pickOps, List.filterMap_cons, List.filterMap_nil, List.getElem?_cons_zero, List.getElem?_cons_succ, Option.map_some]; simp (disch := omega) only [go_sem, ↓reduceIte, Nat.reduceEqDiff, Nat.reduceAdd, Nat.reduceLeDiff, hG, q1, q2, q3, q4, m1, hp1, o1, o2, o3, w_slice, ev_slice, hfl, hsl, hld2, hce, hi0, hi1, idxA, Int.toNat_natCast, Int.toNat_zero, Nat.zero_mul, Bool.false_and, Option.map_none, y1]
    refine w_call (ih (args.getD i.toNat T.zero) sa _ s1' (by omega) h3 hly (Enc.ext x1 _ _ hE2) (Row.mono hr' x1 fun _ _ _ h => h) (Enc.ext x1 _ _ hU)) (by simp (disch := omega) only [go_sem, ↓reduceIte, Nat.reduceEqDiff, q1, q2, q3, q4, m1, hp1, o1, o2, o3, y1]) ?hl ?_
    case hl => first | rfl | (simp only [go_sem, List.all_cons, List.all_nil, Bool.not_false, Bool.and_self, q1, q2, q3, q4, m1, hp1, o1, o2, o3, y1]; done)
    rintro r_ sb ⟨x2, ex, Lx, rfl, hox, hfx⟩; refine ⟨fun e => x2, ?_⟩
    obtain ⟨b3, c3, sc, L3, hs3, hst, hsl3, hf3, hn3, hb3, hot⟩ := hfr sb _ _ _ x2 hox hfx
    subst hs3
    have hst : ∀ loc, storeA Try.prog 26 (.pointer (some ⟨b3, i.toNat * 4, none⟩)) (.agg ex.toArray) loc sb = some (loc, sc) := hst
    simp (disch := omega) only [go_sem, ↓reduceIte, Nat.reduceEqDiff, Nat.reduceAdd, Nat.reduceLeDiff, hG, q1, q2, q3, q4, m1, hp1, o1, o2, o3, hst, hi1, idxA, Int.toNat_natCast]; refine hK _ _ ?_; clear hK K hG G; repeat (first | refine thenI ?_ | refine thenE ?_ | refine thenR ?_ | refine inBI ?_ | refine inBR ?_ | refine inBS ?_ | refine inBN (by decide) ?_)
    repeat (first | (refine W_reg rfl fun G K hG hK => ?_; simp (disch := omega) only [go_sem, ↓reduceIte, Nat.reduceEqDiff, Nat.reduceAdd, Nat.reduceLeDiff, hG, q1, q2, q3, q4, m1, hp1, o1, o2, o3]; refine hK _ _ ?_; clear hK K hG G) | (refine W_end rfl fun G K hG hK => ?_; simp (disch := omega) only [go_sem, ↓reduceIte, Nat.reduceEqDiff, Nat.reduceAdd, Nat.reduceLeDiff, hG, q1, q2, q3, q4, m1, hp1, o1, o2, o3]; refine hK _ _ ?_; clear hK K hG G; repeat (first | refine thenI ?_ | refine thenE ?_ | refine thenR ?_ | refine inBI ?_ | refine inBR ?_ | refine inBS ?_ | refine inBN (by decide) ?_)) | refine W_seqS ?_ | refine W_seqC ?_ | refine W_seqB ?_ | refine W_block ?_ | (refine W_skip ?_; repeat (first | refine thenI ?_ | refine thenE ?_ | refine thenR ?_ | refine inBI ?_ | refine inBR ?_ | refine inBS ?_ | refine inBN (by decide) ?_)) | (refine W_condT ?hc ?_; (case hc => (simp (disch := omega) only [go_sem, ↓reduceIte, Nat.reduceEqDiff, Nat.reduceAdd, Nat.reduceLeDiff, q1, q2, q3, q4, m1, hp1, o1, o2, o3]; done))) | (refine W_condF ?hc ?_; (case hc => (simp (disch := omega) only [go_sem, ↓reduceIte, Nat.reduceEqDiff, Nat.reduceAdd, Nat.reduceLeDiff, q1, q2, q3, q4, m1, hp1, o1, o2, o3]; done))))
    have hfin : Own 26 sc (T.put (.mk k1 n1 nm1 args1) (i :: p) (.mk k n nm args)) [.int .i64 k, .int .i64 n, .string nm, .slice (some ⟨b3, 0, none⟩) args.length c3] L3 := Own.close k n nm hsl3
    refine W_ret ?_; try (repeat (first | refine thenI ?_ | refine thenE ?_ | refine thenR ?_ | refine inBI ?_ | refine inBR ?_ | refine inBS ?_ | refine inBN (by decide) ?_))
    refine finC (.inl rfl) (by (simp (disch := omega) only [go_sem, ↓reduceIte, Nat.reduceEqDiff, Nat.reduceAdd, Nat.reduceLeDiff, q1, q2, q3, q4, m1, hp1, o1, o2, o3]); try rfl) ⟨Ext.of_get fun q hq => ?_, _, L3, rfl, hfin, hf3⟩
    have := x1.length
    rw [hot q (by omega), x2.get (by omega), x1.get hq]

def T.rep (u : T) (p : List Int) (t : T) : T := if (T.at p t).isSome = true then T.put u p t else t
theorem Lim.rep {B : Nat} {u : T} (hu : Lim B u) {p : List Int} {t : T} (ht : Lim B t) : Lim B (T.rep u p t) := by
  unfold T.rep
  split
  · rename_i h; exact Lim.put hu p t ht h
  · exact ht
theorem T.rep_wt (u : T) (p : List Int) (t : T) : (T.rep u p t).wt ≤ t.wt + u.wt := by
  unfold T.rep
  split
  · rename_i h; exact T.put_wt u p t h
  · omega
theorem implRep_ok (u : T) (p : List Int) (t : T) (st : St) (cs ds : List Value) (s1 : Value) (hbig : p.length ≤ 1073741824) (hlu : Lim 1073741824 u) (hl : Lim 1073741824 t) (hE : Enc st t cs) (hp : Rw st p s1) (hU : Enc st u ds) :
    CallS Try.prog 6 [.agg cs.toArray, s1, .agg ds.toArray] st fun r st2 => Ext st st2 ∧ ∃ es L, r = .tuple #[.agg es.toArray, .bool (T.at p t).isSome] ∧ OwnT st2 (T.rep u p t) es L ∧ Fresh st.length L := by
  refine CallS_of_W [] 25 Try.func6 rfl rfl rfl rfl (by simp) ?_
  have hp1 := hp.notLoc.1
  have hat := implAt_ok p t st cs s1 (by omega) hE hp
  have hput := fun h => implPut_ok u ds p t st cs s1 hbig h hl hE hp hU
  have hlp := fun h => Lim.put hlu p t hl h
  generalize hT : t = t' at hE hat hput hlp
  obtain ⟨k, n, nm, args⟩ := t
  subst hT
  obtain ⟨s, rfl, hra⟩ := hE.open
  obtain ⟨k1, n1, nm1, args1, hue⟩ := T.eta u
  obtain ⟨s3, rfl, hr3⟩ := (hue ▸ hU).open
  have q1 := hra.notLoc.1
  have q2 := hra.notLoc.2
  have q3 := hr3.notLoc.1
  have q4 := hr3.notLoc.2
  have hla := Lim.atD p hl
  obtain ⟨ka, na, ma, aa, hae⟩ := T.eta (T.atD p (.mk k n nm args))
  repeat (first | (refine W_reg rfl fun G K hG hK => ?_; simp (disch := omega) only [go_sem, ↓reduceIte, Nat.reduceEqDiff, Nat.reduceAdd, Nat.reduceLeDiff, hG, q1, q2, q3, q4, hp1]; refine hK _ _ ?_; clear hK K hG G) | (refine W_end rfl fun G K hG hK => ?_; simp (disch := omega) only [go_sem, ↓reduceIte, Nat.reduceEqDiff, Nat.reduceAdd, Nat.reduceLeDiff, hG, q1, q2, q3, q4, hp1]; refine hK _ _ ?_; clear hK K hG G; repeat (first | refine thenI ?_ | refine thenE ?_ | refine thenR ?_ | refine inBI ?_ | refine inBR ?_ | refine inBS ?_ | refine inBN (by decide) ?_)) | refine W_seqS ?_ | refine W_seqC ?_ | refine W_seqB ?_ | refine W_block ?_ | (refine W_skip ?_; repeat (first | refine thenI ?_ | refine thenE ?_ | refine thenR ?_ | refine inBI ?_ | refine inBR ?_ | refine inBS ?_ | refine inBN (by decide) ?_)) | (refine W_condT ?hc ?_; (case hc => (simp (disch := omega) only [go_sem, ↓reduceIte, Nat.reduceEqDiff, Nat.reduceAdd, Nat.reduceLeDiff, q1, q2, q3, q4, hp1]; done))) | (refine W_condF ?hc ?_; (case hc => (simp (disch := omega) only [go_sem, ↓reduceIte, Nat.reduceEqDiff, Nat.reduceAdd, Nat.reduceLeDiff, q1, q2, q3, q4, hp1]; done))))
  (repeat (first | refine W_seqS ?_ | refine W_seqC ?_ | refine W_seqB ?_ | refine W_block ?_)); refine W_reg rfl fun G K hG hK => ?_; simp (disch := omega) only [go_sem, ↓reduceIte, Nat.reduceEqDiff, Nat.reduceAdd, Nat.reduceLeDiff, hG, q1, q2, q3, q4, hp1]
  refine w_call (hat) (by simp (disch := omega) only [go_sem, ↓reduceIte, Nat.reduceEqDiff, q1, q2, q3, q4, hp1]) ?hl ?_
  case hl => first | rfl | (simp only [go_sem, List.all_cons, List.all_nil, Bool.not_false, Bool.and_self, q1, q2, q3, q4, hp1]; done)
  rintro r_ s_ ⟨rfl, es, rfl, hE1⟩; refine ⟨fun e => (by cases e), ?_⟩
  rw [hae] at hE1
  obtain ⟨sa, rfl, hra1⟩ := hE1.open
  have w1 := hra1.notLoc.1
  have w2 := hra1.notLoc.2
  simp (disch := omega) only [go_sem, ↓reduceIte, Nat.reduceEqDiff, Nat.reduceAdd, Nat.reduceLeDiff, hG, q1, q2, q3, q4, hp1, w1, w2]; refine hK _ _ ?_; clear hK K hG G; repeat (first | refine thenI ?_ | refine thenE ?_ | refine thenR ?_ | refine inBI ?_ | refine inBR ?_ | refine inBS ?_ | refine inBN (by decide) ?_)
  cases hb : (T.at p (.mk k n nm args)).isSome with
  | false =>
    repeat (first | (refine W_reg rfl fun G K hG hK => ?_; simp (disch := omega) only [go_sem, ↓reduceIte, Nat.reduceEqDiff, Nat.reduceAdd, Nat.reduceLeDiff, hG, q1, q2, q3, q4, hp1, w1, w2]; refine hK _ _ ?_; clear hK K hG G) | (refine W_end rfl fun G K hG hK => ?_; simp (disch := omega) only [go_sem, ↓reduceIte, Nat.reduceEqDiff, Nat.reduceAdd, Nat.reduceLeDiff, hG, q1, q2, q3, q4, hp1, w1, w2]; refine hK _ _ ?_; clear hK K hG G; repeat (first | refine thenI ?_ | refine thenE ?_ | refine thenR ?_ | refine inBI ?_ | refine inBR ?_ | refine inBS ?_ | refine inBN (by decide) ?_)) | refine W_seqS ?_ | refine W_seqC ?_ | refine W_seqB ?_ | refine W_block ?_ | (refine W_skip ?_; repeat (first | refine thenI ?_ | refine thenE ?_ | refine thenR ?_ | refine inBI ?_ | refine inBR ?_ | refine inBS ?_ | refine inBN (by decide) ?_)) | (refine W_condT ?hc ?_; (case hc => (simp (disch := omega) only [go_sem, ↓reduceIte, Nat.reduceEqDiff, Nat.reduceAdd, Nat.reduceLeDiff, q1, q2, q3, q4, hp1, w1, w2]; done))) | (refine W_condF ?hc ?_; (case hc => (simp (disch := omega) only [go_sem, ↓reduceIte, Nat.reduceEqDiff, Nat.reduceAdd, Nat.reduceLeDiff, q1, q2, q3, q4, hp1, w1, w2]; done))))
    (repeat (first | refine W_seqS ?_ | refine W_seqC ?_ | refine W_seqB ?_ | refine W_block ?_)); refine W_reg rfl fun G K hG hK => ?_; simp (disch := omega) only [go_sem, ↓reduceIte, Nat.reduceEqDiff, Nat.reduceAdd, Nat.reduceLeDiff, hG, q1, q2, q3, q4, hp1]
    refine w_call (copy_ok _ _ _ hl hE) (by simp (disch := omega) only [go_sem, ↓reduceIte, Nat.reduceEqDiff, q1, q2, q3, q4, hp1]) ?hl ?_
    case hl => first | rfl | (simp only [go_sem, List.all_cons, List.all_nil, Bool.not_false, Bool.and_self, q1, q2, q3, q4, hp1]; done)
    rintro r_ sb ⟨x1, es, L, rfl, ho, hf⟩; refine ⟨fun e => (by cases e), ?_⟩
    obtain ⟨so, rfl, hso⟩ := ho.open
    simp (disch := omega) only [go_sem, ↓reduceIte, Nat.reduceEqDiff, Nat.reduceAdd, Nat.reduceLeDiff, hG, q1, q2, q3, q4, hp1]; refine hK _ _ ?_; clear hK K hG G; repeat (first | refine thenI ?_ | refine thenE ?_ | refine thenR ?_ | refine inBI ?_ | refine inBR ?_ | refine inBS ?_ | refine inBN (by decide) ?_)
    repeat (first | (refine W_reg rfl fun G K hG hK => ?_; simp (disch := omega) only [go_sem, ↓reduceIte, Nat.reduceEqDiff, Nat.reduceAdd, Nat.reduceLeDiff, hG, q1, q2, q3, q4, hp1]; refine hK _ _ ?_; clear hK K hG G) | (refine W_end rfl fun G K hG hK => ?_; simp (disch := omega) only [go_sem, ↓reduceIte, Nat.reduceEqDiff, Nat.reduceAdd, Nat.reduceLeDiff, hG, q1, q2, q3, q4, hp1]; refine hK _ _ ?_; clear hK K hG G; repeat (first | refine thenI ?_ | refine thenE ?_ | refine thenR ?_ | refine inBI ?_ | refine inBR ?_ | refine inBS ?_ | refine inBN (by decide) ?_)) | refine W_seqS ?_ | refine W_seqC ?_ | refine W_seqB ?_ | refine W_block ?_ | (refine W_skip ?_; repeat (first | refine thenI ?_ | refine thenE ?_ | refine thenR ?_ | refine inBI ?_ | refine inBR ?_ | refine inBS ?_ | refine inBN (by decide) ?_)) | (refine W_condT ?hc ?_; (case hc => (simp (disch := omega) only [go_sem, ↓reduceIte, Nat.reduceEqDiff, Nat.reduceAdd, Nat.reduceLeDiff, q1, q2, q3, q4, hp1]; done))) | (refine W_condF ?hc ?_; (case hc => (simp (disch := omega) only [go_sem, ↓reduceIte, Nat.reduceEqDiff, Nat.reduceAdd, Nat.reduceLeDiff, q1, q2, q3, q4, hp1]; done))))
    refine W_ret ?_; try (repeat (first | refine thenI ?_ | refine thenE ?_ | refine thenR ?_ | refine inBI ?_ | refine inBR ?_ | refine inBS ?_ | refine inBN (by decide) ?_))
    refine finC2 (.inl rfl) (by (simp (disch := omega) only [go_sem, ↓reduceIte, Nat.reduceEqDiff, Nat.reduceAdd, Nat.reduceLeDiff, q1, q2, q3, q4, hp1]); try rfl) (by (simp (disch := omega) only [go_sem, ↓reduceIte, Nat.reduceEqDiff, Nat.reduceAdd, Nat.reduceLeDiff, q1, q2, q3, q4, hp1]); try rfl) rfl ⟨x1, _, L, rfl, ?_, hf⟩
    unfold T.rep
    rw [hb]
    exact ho
  | true =>
    repeat (first | (refine W_reg rfl fun G K hG hK => ?_; simp (disch := omega) only [go_sem, ↓reduceIte, Nat.reduceEqDiff, Nat.reduceAdd, Nat.reduceLeDiff, hG, q1, q2, q3, q4, hp1, w1, w2]; refine hK _ _ ?_; clear hK K hG G) | (refine W_end rfl fun G K hG hK => ?_; simp (disch := omega) only [go_sem, ↓reduceIte, Nat.reduceEqDiff, Nat.reduceAdd, Nat.reduceLeDiff, hG, q1, q2, q3, q4, hp1, w1, w2]; refine hK _ _ ?_; clear hK K hG G; repeat (first | refine thenI ?_ | refine thenE ?_ | refine thenR ?_ | refine inBI ?_ | refine inBR ?_ | refine inBS ?_ | refine inBN (by decide) ?_)) | refine W_seqS ?_ | refine W_seqC ?_ | refine W_seqB ?_ | refine W_block ?_ | (refine W_skip ?_; repeat (first | refine thenI ?_ | refine thenE ?_ | refine thenR ?_ | refine inBI ?_ | refine inBR ?_ | refine inBS ?_ | refine inBN (by decide) ?_)) | (refine W_condT ?hc ?_; (case hc => (simp (disch := omega) only [go_sem, ↓reduceIte, Nat.reduceEqDiff, Nat.reduceAdd, Nat.reduceLeDiff, q1, q2, q3, q4, hp1, w1, w2]; done))) | (refine W_condF ?hc ?_; (case hc => (simp (disch := omega) only [go_sem, ↓reduceIte, Nat.reduceEqDiff, Nat.reduceAdd, Nat.reduceLeDiff, q1, q2, q3, q4, hp1, w1, w2]; done))))
    (repeat (first | refine W_seqS ?_ | refine W_seqC ?_ | refine W_seqB ?_ | refine W_block ?_)); refine W_reg rfl fun G K hG hK => ?_; simp (disch := omega) only [go_sem, ↓reduceIte, Nat.reduceEqDiff, Nat.reduceAdd, Nat.reduceLeDiff, hG, q1, q2, q3, q4, hp1]
    refine w_call (hput hb) (by simp (disch := omega) only [go_sem, ↓reduceIte, Nat.reduceEqDiff, q1, q2, q3, q4, hp1]) ?hl ?_
    case hl => first | rfl | (simp only [go_sem, List.all_cons, List.all_nil, Bool.not_false, Bool.and_self, q1, q2, q3, q4, hp1]; done)
    rintro r_ sb ⟨x1, es, rfl, hE2⟩; refine ⟨fun e => (by cases e), ?_⟩
    have hl2 := hlp hb
    have hrep : T.rep u p (.mk k n nm args) = T.put u p (.mk k n nm args) := by unfold T.rep; rw [if_pos hb]
    rw [← hrep] at hE2 hl2
    obtain ⟨kw, nw, mw, aw, hwe⟩ := T.eta (T.rep u p (.mk k n nm args))
    have hE3 := hE2
    rw [hwe] at hE3
    obtain ⟨sw, rfl, hrw⟩ := hE3.open
    have v1 := hrw.notLoc.1
    simp (disch := omega) only [go_sem, ↓reduceIte, Nat.reduceEqDiff, Nat.reduceAdd, Nat.reduceLeDiff, q1, q2, q3, q4, hp1]
    refine w_call (copy_ok _ _ _ hl2 hE2) (by simp (disch := omega) only [go_sem, ↓reduceIte, Nat.reduceEqDiff, q1, q2, q3, q4, hp1, v1]) ?hl ?_
    case hl => first | rfl | (simp only [go_sem, List.all_cons, List.all_nil, Bool.not_false, Bool.and_self, q1, q2, q3, q4, hp1, v1]; done)
    rintro r_ sc ⟨x2, es, L, rfl, ho, hf⟩; refine ⟨fun e => (by cases e), ?_⟩
    have ho2 := ho
    rw [hwe] at ho2
    obtain ⟨so, rfl, hso⟩ := ho2.open
    simp (disch := omega) only [go_sem, ↓reduceIte, Nat.reduceEqDiff, Nat.reduceAdd, Nat.reduceLeDiff, hG, q1, q2, q3, q4, hp1]; refine hK _ _ ?_; clear hK K hG G; repeat (first | refine thenI ?_ | refine thenE ?_ | refine thenR ?_ | refine inBI ?_ | refine inBR ?_ | refine inBS ?_ | refine inBN (by decide) ?_)
    repeat (first | (refine W_reg rfl fun G K hG hK => ?_; simp (disch := omega) only [go_sem, ↓reduceIte, Nat.reduceEqDiff, Nat.reduceAdd, Nat.reduceLeDiff, hG, q1, q2, q3, q4, hp1]; refine hK _ _ ?_; clear hK K hG G) | (refine W_end rfl fun G K hG hK => ?_; simp (disch := omega) only [go_sem, ↓reduceIte, Nat.reduceEqDiff, Nat.reduceAdd, Nat.reduceLeDiff, hG, q1, q2, q3, q4, hp1]; refine hK _ _ ?_; clear hK K hG G; repeat (first | refine thenI ?_ | refine thenE ?_ | refine thenR ?_ | refine inBI ?_ | refine inBR ?_ | refine inBS ?_ | refine inBN (by decide) ?_)) | refine W_seqS ?_ | refine W_seqC ?_ | refine W_seqB ?_ | refine W_block ?_ | (refine W_skip ?_; repeat (first | refine thenI ?_ | refine thenE ?_ | refine thenR ?_ | refine inBI ?_ | refine inBR ?_ | refine inBS ?_ | refine inBN (by decide) ?_)) | (refine W_condT ?hc ?_; (case hc => (simp (disch := omega) only [go_sem, ↓reduceIte, Nat.reduceEqDiff, Nat.reduceAdd, Nat.reduceLeDiff, q1, q2, q3, q4, hp1]; done))) | (refine W_condF ?hc ?_; (case hc => (simp (disch := omega) only [go_sem, ↓reduceIte, Nat.reduceEqDiff, Nat.reduceAdd, Nat.reduceLeDiff, q1, q2, q3, q4, hp1]; done))))
    refine W_ret ?_; try (repeat (first | refine thenI ?_ | refine thenE ?_ | refine thenR ?_ | refine inBI ?_ | refine inBR ?_ | refine inBS ?_ | refine inBN (by decide) ?_))
    refine finC2 (.inl rfl) (by (simp (disch := omega) only [go_sem, ↓reduceIte, Nat.reduceEqDiff, Nat.reduceAdd, Nat.reduceLeDiff, q1, q2, q3, q4, hp1]); try rfl) (by (simp (disch := omega) only [go_sem, ↓reduceIte, Nat.reduceEqDiff, Nat.reduceAdd, Nat.reduceLeDiff, q1, q2, q3, q4, hp1]); try rfl) rfl ⟨x1.trans x2, _, L, rfl, ho, hf.mono x1.length⟩

theorem specRep_ok (u : T) (p : List Int) (t : T) (st : St) (cs ds : List Value) (s1 : Value) (hbig : p.length ≤ 1073741824) (hlu : Lim 1073741824 u) (hl : Lim 1073741824 t) (hE : Enc st t cs) (hp : Rw st p s1) (hU : Enc st u ds) :
    CallS Try.prog 7 [.agg cs.toArray, s1, .agg ds.toArray] st fun r st2 => Ext st st2 ∧ ∃ es L, r = .tuple #[.agg es.toArray, .bool (T.at p t).isSome] ∧ OwnT st2 (T.rep u p t) es L ∧ Fresh st.length L := by
  refine CallS_of_W [] 24 Try.func7 rfl rfl rfl rfl (by simp) ?_
  have hp1 := hp.notLoc.1
  have hat := specTermAt_ok p t st cs s1 (by omega) hl hE hp
  have hput := fun (st2 : St) (hx : Ext st st2) h => specPut_ok u ds hlu p t st2 cs s1 hbig h hl (Enc.ext hx _ _ hE) (hp.mono hx fun _ _ _ h => h) (Enc.ext hx _ _ hU)
  generalize hT : t = t' at hE hat hput
  obtain ⟨k, n, nm, args⟩ := t
  subst hT
  obtain ⟨s, rfl, hra⟩ := hE.open
  obtain ⟨k1, n1, nm1, args1, hue⟩ := T.eta u
  obtain ⟨s3, rfl, hr3⟩ := (hue ▸ hU).open
  have q1 := hra.notLoc.1
  have q2 := hra.notLoc.2
  have q3 := hr3.notLoc.1
  have q4 := hr3.notLoc.2
  obtain ⟨ka, na, ma, aa, hae⟩ := T.eta (T.atD p (.mk k n nm args))
  repeat (first | (refine W_reg rfl fun G K hG hK => ?_; simp (disch := omega) only [go_sem, ↓reduceIte, Nat.reduceEqDiff, Nat.reduceAdd, Nat.reduceLeDiff, hG, q1, q2, q3, q4, hp1]; refine hK _ _ ?_; clear hK K hG G) | (refine W_end rfl fun G K hG hK => ?_; simp (disch := omega) only [go_sem, ↓reduceIte, Nat.reduceEqDiff, Nat.reduceAdd, Nat.reduceLeDiff, hG, q1, q2, q3, q4, hp1]; refine hK _ _ ?_; clear hK K hG G; repeat (first | refine thenI ?_ | refine thenE ?_ | refine thenR ?_ | refine inBI ?_ | refine inBR ?_ | refine inBS ?_ | refine inBN (by decide) ?_)) | refine W_seqS ?_ | refine W_seqC ?_ | refine W_seqB ?_ | refine W_block ?_ | (refine W_skip ?_; repeat (first | refine thenI ?_ | refine thenE ?_ | refine thenR ?_ | refine inBI ?_ | refine inBR ?_ | refine inBS ?_ | refine inBN (by decide) ?_)) | (refine W_condT ?hc ?_; (case hc => (simp (disch := omega) only [go_sem, ↓reduceIte, Nat.reduceEqDiff, Nat.reduceAdd, Nat.reduceLeDiff, q1, q2, q3, q4, hp1]; done))) | (refine W_condF ?hc ?_; (case hc => (simp (disch := omega) only [go_sem, ↓reduceIte, Nat.reduceEqDiff, Nat.reduceAdd, Nat.reduceLeDiff, q1, q2, q3, q4, hp1]; done))))
  (repeat (first | refine W_seqS ?_ | refine W_seqC ?_ | refine W_seqB ?_ | refine W_block ?_)); refine W_reg rfl fun G K hG hK => ?_; simp (disch := omega) only [go_sem, ↓reduceIte, Nat.reduceEqDiff, Nat.reduceAdd, Nat.reduceLeDiff, hG, q1, q2, q3, q4, hp1]
  refine w_call (hat) (by simp (disch := omega) only [go_sem, ↓reduceIte, Nat.reduceEqDiff, q1, q2, q3, q4, hp1]) ?hl ?_
  case hl => first | rfl | (simp only [go_sem, List.all_cons, List.all_nil, Bool.not_false, Bool.and_self, q1, q2, q3, q4, hp1]; done)
  rintro r_ sz ⟨x0, es, L0, rfl, hE1, hf1⟩; refine ⟨fun e => (by cases e), ?_⟩
  rw [hae] at hE1
  obtain ⟨sa, rfl, hra1⟩ := hE1.open
  have w1 := hra1.okv
  have w2 := hra1.loc
  have w3 := hra1.cells
  simp (disch := omega) only [go_sem, ↓reduceIte, Nat.reduceEqDiff, Nat.reduceAdd, Nat.reduceLeDiff, hG, q1, q2, q3, q4, hp1, w1, w2, w3]; refine hK _ _ ?_; clear hK K hG G; repeat (first | refine thenI ?_ | refine thenE ?_ | refine thenR ?_ | refine inBI ?_ | refine inBR ?_ | refine inBS ?_ | refine inBN (by decide) ?_)
  cases hb : (T.at p (.mk k n nm args)).isSome with
  | false =>
    repeat (first | (refine W_reg rfl fun G K hG hK => ?_; simp (disch := omega) only [go_sem, ↓reduceIte, Nat.reduceEqDiff, Nat.reduceAdd, Nat.reduceLeDiff, hG, q1, q2, q3, q4, hp1, w1, w2]; refine hK _ _ ?_; clear hK K hG G) | (refine W_end rfl fun G K hG hK => ?_; simp (disch := omega) only [go_sem, ↓reduceIte, Nat.reduceEqDiff, Nat.reduceAdd, Nat.reduceLeDiff, hG, q1, q2, q3, q4, hp1, w1, w2]; refine hK _ _ ?_; clear hK K hG G; repeat (first | refine thenI ?_ | refine thenE ?_ | refine thenR ?_ | refine inBI ?_ | refine inBR ?_ | refine inBS ?_ | refine inBN (by decide) ?_)) | refine W_seqS ?_ | refine W_seqC ?_ | refine W_seqB ?_ | refine W_block ?_ | (refine W_skip ?_; repeat (first | refine thenI ?_ | refine thenE ?_ | refine thenR ?_ | refine inBI ?_ | refine inBR ?_ | refine inBS ?_ | refine inBN (by decide) ?_)) | (refine W_condT ?hc ?_; (case hc => (simp (disch := omega) only [go_sem, ↓reduceIte, Nat.reduceEqDiff, Nat.reduceAdd, Nat.reduceLeDiff, q1, q2, q3, q4, hp1, w1, w2]; done))) | (refine W_condF ?hc ?_; (case hc => (simp (disch := omega) only [go_sem, ↓reduceIte, Nat.reduceEqDiff, Nat.reduceAdd, Nat.reduceLeDiff, q1, q2, q3, q4, hp1, w1, w2]; done))))
    (repeat (first | refine W_seqS ?_ | refine W_seqC ?_ | refine W_seqB ?_ | refine W_block ?_)); refine W_reg rfl fun G K hG hK => ?_; simp (disch := omega) only [go_sem, ↓reduceIte, Nat.reduceEqDiff, Nat.reduceAdd, Nat.reduceLeDiff, hG, q1, q2, q3, q4, hp1]
    refine w_call (l3Copy_ok _ _ _ hl (Enc.ext x0 _ _ hE)) (by simp (disch := omega) only [go_sem, ↓reduceIte, Nat.reduceEqDiff, q1, q2, q3, q4, hp1]) ?hl ?_
    case hl => first | rfl | (simp only [go_sem, List.all_cons, List.all_nil, Bool.not_false, Bool.and_self, q1, q2, q3, q4, hp1]; done)
    rintro r_ sb ⟨x1, es, L, rfl, ho, hf⟩; refine ⟨fun e => (by cases e), ?_⟩
    obtain ⟨so, rfl, hso⟩ := ho.open
    simp (disch := omega) only [go_sem, ↓reduceIte, Nat.reduceEqDiff, Nat.reduceAdd, Nat.reduceLeDiff, hG, q1, q2, q3, q4, hp1]; refine hK _ _ ?_; clear hK K hG G; repeat (first | refine thenI ?_ | refine thenE ?_ | refine thenR ?_ | refine inBI ?_ | refine inBR ?_ | refine inBS ?_ | refine inBN (by decide) ?_)
    repeat (first | (refine W_reg rfl fun G K hG hK => ?_; simp (disch := omega) only [go_sem, ↓reduceIte, Nat.reduceEqDiff, Nat.reduceAdd, Nat.reduceLeDiff, hG, q1, q2, q3, q4, hp1]; refine hK _ _ ?_; clear hK K hG G) | (refine W_end rfl fun G K hG hK => ?_; simp (disch := omega) only [go_sem, ↓reduceIte, Nat.reduceEqDiff, Nat.reduceAdd, Nat.reduceLeDiff, hG, q1, q2, q3, q4, hp1]; refine hK _ _ ?_; clear hK K hG G; repeat (first | refine thenI ?_ | refine thenE ?_ | refine thenR ?_ | refine inBI ?_ | refine inBR ?_ | refine inBS ?_ | refine inBN (by decide) ?_)) | refine W_seqS ?_ | refine W_seqC ?_ | refine W_seqB ?_ | refine W_block ?_ | (refine W_skip ?_; repeat (first | refine thenI ?_ | refine thenE ?_ | refine thenR ?_ | refine inBI ?_ | refine inBR ?_ | refine inBS ?_ | refine inBN (by decide) ?_)) | (refine W_condT ?hc ?_; (case hc => (simp (disch := omega) only [go_sem, ↓reduceIte, Nat.reduceEqDiff, Nat.reduceAdd, Nat.reduceLeDiff, q1, q2, q3, q4, hp1]; done))) | (refine W_condF ?hc ?_; (case hc => (simp (disch := omega) only [go_sem, ↓reduceIte, Nat.reduceEqDiff, Nat.reduceAdd, Nat.reduceLeDiff, q1, q2, q3, q4, hp1]; done))))
    refine W_ret ?_; try (repeat (first | refine thenI ?_ | refine thenE ?_ | refine thenR ?_ | refine inBI ?_ | refine inBR ?_ | refine inBS ?_ | refine inBN (by decide) ?_))
    refine finC2 (.inl rfl) (by (simp (disch := omega) only [go_sem, ↓reduceIte, Nat.reduceEqDiff, Nat.reduceAdd, Nat.reduceLeDiff, q1, q2, q3, q4, hp1]); try rfl) (by (simp (disch := omega) only [go_sem, ↓reduceIte, Nat.reduceEqDiff, Nat.reduceAdd, Nat.reduceLeDiff, q1, q2, q3, q4, hp1]); try rfl) rfl ⟨x0.trans x1, _, L, rfl, ?_, hf.mono x0.length⟩
    unfold T.rep
    rw [hb]
    exact ho
  | true =>
    repeat (first | (refine W_reg rfl fun G K hG hK => ?_; simp (disch := omega) only [go_sem, ↓reduceIte, Nat.reduceEqDiff, Nat.reduceAdd, Nat.reduceLeDiff, hG, q1, q2, q3, q4, hp1, w1, w2]; refine hK _ _ ?_; clear hK K hG G) | (refine W_end rfl fun G K hG hK => ?_; simp (disch := omega) only [go_sem, ↓reduceIte, Nat.reduceEqDiff, Nat.reduceAdd, Nat.reduceLeDiff, hG, q1, q2, q3, q4, hp1, w1, w2]; refine hK _ _ ?_; clear hK K hG G; repeat (first | refine thenI ?_ | refine thenE ?_ | refine thenR ?_ | refine inBI ?_ | refine inBR ?_ | refine inBS ?_ | refine inBN (by decide) ?_)) | refine W_seqS ?_ | refine W_seqC ?_ | refine W_seqB ?_ | refine W_block ?_ | (refine W_skip ?_; repeat (first | refine thenI ?_ | refine thenE ?_ | refine thenR ?_ | refine inBI ?_ | refine inBR ?_ | refine inBS ?_ | refine inBN (by decide) ?_)) | (refine W_condT ?hc ?_; (case hc => (simp (disch := omega) only [go_sem, ↓reduceIte, Nat.reduceEqDiff, Nat.reduceAdd, Nat.reduceLeDiff, q1, q2, q3, q4, hp1, w1, w2]; done))) | (refine W_condF ?hc ?_; (case hc => (simp (disch := omega) only [go_sem, ↓reduceIte, Nat.reduceEqDiff, Nat.reduceAdd, Nat.reduceLeDiff, q1, q2, q3, q4, hp1, w1, w2]; done))))
    (repeat (first | refine W_seqS ?_ | refine W_seqC ?_ | refine W_seqB ?_ | refine W_block ?_)); refine W_reg rfl fun G K hG hK => ?_; simp (disch := omega) only [go_sem, ↓reduceIte, Nat.reduceEqDiff, Nat.reduceAdd, Nat.reduceLeDiff, hG, q1, q2, q3, q4, hp1]
    refine w_call (hput sz x0 hb) (by simp (disch := omega) only [go_sem, ↓reduceIte, Nat.reduceEqDiff, q1, q2, q3, q4, hp1]) ?hl ?_
    case hl => first | rfl | (simp only [go_sem, List.all_cons, List.all_nil, Bool.not_false, Bool.and_self, q1, q2, q3, q4, hp1]; done)
    rintro r_ sb ⟨x1, es, L, rfl, ho, hf⟩; refine ⟨fun e => (by cases e), ?_⟩
    have hrep : T.rep u p (.mk k n nm args) = T.put u p (.mk k n nm args) := by unfold T.rep; rw [if_pos hb]
    rw [← hrep] at ho
    obtain ⟨kw, nw, mw, aw, hwe⟩ := T.eta (T.rep u p (.mk k n nm args))
    have ho2 := ho
    rw [hwe] at ho2
    obtain ⟨sw, rfl, hrw⟩ := ho2.open
    simp (disch := omega) only [go_sem, ↓reduceIte, Nat.reduceEqDiff, Nat.reduceAdd, Nat.reduceLeDiff, hG, q1, q2, q3, q4, hp1]; refine hK _ _ ?_; clear hK K hG G; repeat (first | refine thenI ?_ | refine thenE ?_ | refine thenR ?_ | refine inBI ?_ | refine inBR ?_ | refine inBS ?_ | refine inBN (by decide) ?_)
    repeat (first | (refine W_reg rfl fun G K hG hK => ?_; simp (disch := omega) only [go_sem, ↓reduceIte, Nat.reduceEqDiff, Nat.reduceAdd, Nat.reduceLeDiff, hG, q1, q2, q3, q4, hp1]; refine hK _ _ ?_; clear hK K hG G) | (refine W_end rfl fun G K hG hK => ?_; simp (disch := omega) only [go_sem, ↓reduceIte, Nat.reduceEqDiff, Nat.reduceAdd, Nat.reduceLeDiff, hG, q1, q2, q3, q4, hp1]; refine hK _ _ ?_; clear hK K hG G; repeat (first | refine thenI ?_ | refine thenE ?_ | refine thenR ?_ | refine inBI ?_ | refine inBR ?_ | refine inBS ?_ | refine inBN (by decide) ?_)) | refine W_seqS ?_ | refine W_seqC ?_ | refine W_seqB ?_ | refine W_block ?_ | (refine W_skip ?_; repeat (first | refine thenI ?_ | refine thenE ?_ | refine thenR ?_ | refine inBI ?_ | refine inBR ?_ | refine inBS ?_ | refine inBN (by decide) ?_)) | (refine W_condT ?hc ?_; (case hc => (simp (disch := omega) only [go_sem, ↓reduceIte, Nat.reduceEqDiff, Nat.reduceAdd, Nat.reduceLeDiff, q1, q2, q3, q4, hp1]; done))) | (refine W_condF ?hc ?_; (case hc => (simp (disch := omega) only [go_sem, ↓reduceIte, Nat.reduceEqDiff, Nat.reduceAdd, Nat.reduceLeDiff, q1, q2, q3, q4, hp1]; done))))
    refine W_ret ?_; try (repeat (first | refine thenI ?_ | refine thenE ?_ | refine thenR ?_ | refine inBI ?_ | refine inBR ?_ | refine inBS ?_ | refine inBN (by decide) ?_))
    refine finC2 (.inl rfl) (by (simp (disch := omega) only [go_sem, ↓reduceIte, Nat.reduceEqDiff, Nat.reduceAdd, Nat.reduceLeDiff, q1, q2, q3, q4, hp1]); try rfl) (by (simp (disch := omega) only [go_sem, ↓reduceIte, Nat.reduceEqDiff, Nat.reduceAdd, Nat.reduceLeDiff, q1, q2, q3, q4, hp1]); try rfl) rfl ⟨x0.trans x1, _, L, rfl, ho, hf.mono x0.length⟩
end Go.Proofs.Ythimbmcffeiilaa.AM


/- Reduced words stay; a replaced subterm is there. -/
namespace Go.Proofs.Ythimbmcffeiilaa.AM
open Go Go.Proofs
set_option linter.unusedVariables false
set_option linter.unusedSimpArgs false

theorem redF_stays (k n : Int) (nm : ByteArray) (ys : List T) (h : ys.map T.red = ys) : T.red (redF k n nm ys) = redF k n nm ys := by
  have hmk : T.red (.mk k n nm ys) = redF k n nm ys := by simp only [T.red, T.redL_map, h]
  unfold redF at hmk ⊢
  split
  · rename_i x y
    by_cases hc : (k == 2 && n == 0 && isB nm && x.isW && y.isW) = true
    · simp only [hc, if_true]; rfl
    · simp only [if_neg hc] at hmk ⊢
      exact hmk
  · rename_i h1
    exact hmk.trans (by
      split
      · exact absurd rfl (h1 _ _)
      · rfl)
theorem T.red_idem : ∀ t : T, t.red.red = t.red := by
  refine T.ind fun k n nm args ih => ?_
  have h : (args.map T.red).map T.red = args.map T.red := by
    rw [List.map_map]
    exact List.map_congr_left fun x hx => ih x hx
  have e : T.red (.mk k n nm args) = redF k n nm (args.map T.red) := by simp only [T.red, T.redL_map]
  rw [e]
  exact redF_stays k n nm _ h
theorem T.at_put (u : T) : ∀ (p : List Int) (t : T), (T.at p t).isSome = true → T.at p (T.put u p t) = some u := by
  intro p
  induction p with
  | nil => intro t _; rfl
  | cons i p ih =>
    intro t h
    obtain ⟨h0, h1, h2, h3⟩ := T.at_cons h
    obtain ⟨k, n, nm, args⟩ := t
    have hlt : i.toNat < args.length := h1
    simp only [T.put, T.setArg]
    rw [T.at_in (x := T.put u p (args.getD i.toNat T.zero)) h0 (by simp only [T.args, List.length_set]; omega) (by simp only [T.args]; rw [List.getElem?_set_self hlt])]
    exact ih _ h3
theorem T.put_at : ∀ (p : List Int) (t : T), (T.at p t).isSome = true → T.put (T.atD p t) p t = t := by
  intro p
  induction p with
  | nil => intro t _; rfl
  | cons i p ih =>
    intro t h
    obtain ⟨h0, h1, h2, h3⟩ := T.at_cons h
    obtain ⟨k, n, nm, args⟩ := t
    have hlt : i.toNat < args.length := h1
    have e : T.atD (i :: p) (.mk k n nm args) = T.atD p (args.getD i.toNat T.zero) := by
      unfold T.atD
      rw [T.at_in (x := args.getD i.toNat T.zero) h0 (by simp only [T.args]; omega) h2]
    have e2 := ih _ h3
    simp only [T.put, T.setArg, T.args] at e2 ⊢
    rw [e, e2]
    congr 1
    have : args.getD i.toNat T.zero = args[i.toNat] := by simp [hlt]
    rw [this]
    exact List.set_getElem_self hlt
theorem T.rep_self {p : List Int} {t : T} (h : (T.at p t).isSome = true) : T.rep (T.atD p t) p t = t := by
  unfold T.rep
  rw [if_pos h]
  exact T.put_at p t h
theorem T.atD_rep {p : List Int} {t u : T} (h : (T.at p t).isSome = true) : T.atD p (T.rep u p t) = u := by
  unfold T.rep T.atD
  rw [if_pos h, T.at_put u p t h]
  rfl
theorem T.rep_out {p : List Int} {t u : T} (h : (T.at p t).isSome = false) : T.rep u p t = t := by
  unfold T.rep
  rw [if_neg (by rw [h]; simp)]
end Go.Proofs.Ythimbmcffeiilaa.AM


/- Rows of rows of numbers: laws.eqIntSS, laws.markIntSS, laws.heldIntSS. -/
namespace Go.Proofs.Ythimbmcffeiilaa.AM
open Go Go.Proofs
set_option linter.unusedVariables false
set_option linter.unusedSimpArgs false
set_option maxRecDepth 100000
attribute [local go_sem] List.map_cons List.map_nil List.all_cons List.all_nil Bool.and_self Option.map_some List.getElem?_toArray Option.bind_some gye_b gye_t gsk_b gsk_t gb1 gb2 gb3 gb4 bne_self_eq_false beq_self_eq_true w_guard w_nil stepV_some step_some step_some' w_move w_assign w_pick w_binOp w_unOp w_load w_fieldAddr w_indexAddr w_len w_max w_index ev_max max_int ev_index w_box w_alloc w_store w_field w_extract w_nilCheck w_convert w_buildSlice w_build ev_buildL fillL_nil fillL_cons bs0 bs1 ev_conv ev_bin ev_un ev_pick ev_load ev_fieldAddr ev_indexAddr ev_len ev_field ev_extract ev_nilCheck fr_tmp fr_int fr_bool fr_str fr_nil fr_func put_some put_none bin_lss bin_leq bin_gtr bin_geq bin_eql bin_neq bin_add bin_sub bin_mul bin_seql bin_sneq un_not pick_ ext_ loadA_p cellAt_l cellAt_h okPtr_l okPtr_h fadA_p allocA_l storeA_l cells_agg cells_int cells_str cells_sl cells_bool flat_i flat_s flat_b flat_sl flat_nil loc_agg loc_int loc_str loc_sl loc_bool loc_fn loc_ptr okv_agg okv_int okv_str okv_sl okv_bool cellsFrom splice upd_eval argEnv_zero argEnv_succ ne_eq Nat.add_one_ne_zero not_false_eq_true List.not_mem_nil and_self decide_true List.getElem?_cons_zero List.getElem?_cons_succ List.size_toArray List.length_cons List.length_nil List.take_succ_cons List.take_zero List.drop_succ_cons List.drop_zero List.cons_append List.nil_append List.drop_nil Bool.not_true Bool.not_false Bool.false_eq_true Nat.zero_add Nat.add_zero wrap_in List.toList_toArray List.mem_cons or_self or_false false_or
attribute [local go_sem] ag22 ag24 ag26 ag27 ag3 ag5 ag9 bu26 bu41 by26 by27 by3 el22 el24 el27 el47 el50 of26_0 of26_1 of26_2 of26_3 of41_0 of41_1 of41_2 ro26_0 ro26_1 ro26_2 ro27_0 ro27_1 ro3_0 ro3_1 ro3_3 ro9_2 ro9_3 ro9_4 sz22 sz24 sz26 sz27 sz3 sz5 sz9 ze26 ze27 ze3
-- AUTO

instance : Kind (List Int) where
  sz := 1
  e := 27
  enc := fun st xs cs => ∃ s, cs = [s] ∧ Rw st xs s
  own := fun st xs cs L => ∃ s, cs = [s] ∧ Sl st xs s L
  enc_len := fun _ _ _ h => by obtain ⟨s, rfl, _⟩ := h; rfl
  enc_ext := fun _ _ _ _ hx h => by obtain ⟨s, rfl, h⟩ := h; exact ⟨s, rfl, h.ext hx⟩
  own_len := fun _ _ _ _ h => by obtain ⟨s, rfl, _⟩ := h; rfl
  own_lt := fun _ _ _ _ h => by obtain ⟨s, rfl, h⟩ := h; exact h.lt
  own_frame := fun _ _ _ _ _ hs h => by obtain ⟨s, rfl, h⟩ := h; exact ⟨s, rfl, h.frame hs⟩
  own_enc := fun _ _ _ _ h => by obtain ⟨s, rfl, h⟩ := h; exact ⟨s, rfl, h.row⟩
instance : Marks (List Int) where
  mk1 := fun xs k => mkL xs k
  mk1_ge := fun xs k => mkL_ge xs k

theorem row_atII {st : St} {xs : List (List Int)} {s : Value} (h : Rw st xs s) {j : Nat} {x : List Int} (hx : xs[j]? = some x) {n : Nat} (hn : xs.length = n := by rfl) : ∃ i o c sx, s = .slice (some ⟨i, o, none⟩) n c ∧ cell st i (o + j * 1) = some sx ∧ Rw st x sx := by
  subst hn
  obtain ⟨i, o, c, cs, rfl, _, ⟨sx, rfl, hr⟩, hc⟩ := row_at h hx
  exact ⟨i, o, c, sx, rfl, hc 0 _ rfl, hr⟩

end Go.Proofs.Ythimbmcffeiilaa.AM


/- Positions: impl.positionsFrom, impl.PositionsOf, spec.l4Walk, spec.PositionsOf. -/
namespace Go.Proofs.Ythimbmcffeiilaa.AM
open Go Go.Proofs
set_option linter.unusedVariables false
set_option linter.unusedSimpArgs false
set_option maxRecDepth 100000
attribute [local go_sem] List.map_cons List.map_nil List.all_cons List.all_nil Bool.and_self Option.map_some List.getElem?_toArray Option.bind_some gye_b gye_t gsk_b gsk_t gb1 gb2 gb3 gb4 bne_self_eq_false beq_self_eq_true w_guard w_nil stepV_some step_some step_some' w_move w_assign w_pick w_binOp w_unOp w_load w_fieldAddr w_indexAddr w_len w_max w_index ev_max max_int ev_index w_box w_alloc w_store w_field w_extract w_nilCheck w_convert w_buildSlice w_build ev_buildL fillL_nil fillL_cons bs0 bs1 ev_conv ev_bin ev_un ev_pick ev_load ev_fieldAddr ev_indexAddr ev_len ev_field ev_extract ev_nilCheck fr_tmp fr_int fr_bool fr_str fr_nil fr_func put_some put_none bin_lss bin_leq bin_gtr bin_geq bin_eql bin_neq bin_add bin_sub bin_mul bin_seql bin_sneq un_not pick_ ext_ loadA_p cellAt_l cellAt_h okPtr_l okPtr_h fadA_p allocA_l storeA_l cells_agg cells_int cells_str cells_sl cells_bool flat_i flat_s flat_b flat_sl flat_nil loc_agg loc_int loc_str loc_sl loc_bool loc_fn loc_ptr okv_agg okv_int okv_str okv_sl okv_bool cellsFrom splice upd_eval argEnv_zero argEnv_succ ne_eq Nat.add_one_ne_zero not_false_eq_true List.not_mem_nil and_self decide_true List.getElem?_cons_zero List.getElem?_cons_succ List.size_toArray List.length_cons List.length_nil List.take_succ_cons List.take_zero List.drop_succ_cons List.drop_zero List.cons_append List.nil_append List.drop_nil Bool.not_true Bool.not_false Bool.false_eq_true Nat.zero_add Nat.add_zero wrap_in List.toList_toArray List.mem_cons or_self or_false false_or
attribute [local go_sem] ag22 ag24 ag26 ag27 ag3 ag5 ag9 bu26 bu41 by26 by27 by3 el22 el24 el27 el47 el50 of26_0 of26_1 of26_2 of26_3 of41_0 of41_1 of41_2 ro26_0 ro26_1 ro26_2 ro27_0 ro27_1 ro3_0 ro3_1 ro3_3 ro9_2 ro9_3 ro9_4 sz22 sz24 sz26 sz27 sz3 sz5 sz9 ze26 ze27 ze3
-- AUTO

mutual
def T.pos : T → List Int → List (List Int)
  | .mk _ _ _ args, p => p :: T.posL args p 0
def T.posL : List T → List Int → Nat → List (List Int)
  | [], _, _ => []
  | x :: xs, p, i => T.pos x (p ++ [(i : Int)]) ++ T.posL xs p (i + 1)
end
theorem T.posL_snoc (xs : List T) (x : T) (p : List Int) (i : Nat) : T.posL (xs ++ [x]) p i = T.posL xs p i ++ T.pos x (p ++ [((i + xs.length : Nat) : Int)]) := by
  induction xs generalizing i with
  | nil => simp [T.posL]
  | cons y ys ih =>
    simp only [List.cons_append, T.posL, ih, List.length_cons]
    rw [show i + 1 + ys.length = i + (ys.length + 1) by omega, List.append_assoc]
theorem T.pos_len : ∀ (t : T) (p : List Int), (t.pos p).length ≤ t.wt + 1 := by
  refine T.ind fun k n nm args ih p => ?_
  have h : ∀ (l : List T), (∀ a ∈ l, ∀ p, (a.pos p).length ≤ a.wt + 1) → ∀ i, (T.posL l p i).length ≤ T.wtL l + l.length := by
    intro l
    induction l with
    | nil => intro _ i; simp [T.posL]
    | cons x xs ihx =>
      intro h i
      have h1 := h x (by simp) (p ++ [(i : Int)])
      have h2 := ihx (fun a ha => h a (by simp [ha])) (i + 1)
      simp only [T.posL, List.length_append, T.wtL, List.length_cons]
      omega
  have := h args ih 0
  simp only [T.pos, List.length_cons, T.wt]
  omega
theorem T.posL_len (xs : List T) (p : List Int) (i : Nat) : (T.posL xs p i).length ≤ T.wtL xs + xs.length := by
  induction xs generalizing i with
  | nil => simp [T.posL]
  | cons x xs ih =>
    have h1 := T.pos_len x (p ++ [(i : Int)])
    have h2 := ih (i + 1)
    simp only [T.posL, List.length_append, T.wtL, List.length_cons]
    omega
theorem T.pos_each : ∀ (t : T) (p : List Int), ∀ q ∈ t.pos p, q.length ≤ p.length + t.wt := by
  refine T.ind fun k n nm args ih p q hq => ?_
  have h : ∀ (l : List T), (∀ a ∈ l, ∀ p, ∀ q ∈ a.pos p, q.length ≤ p.length + a.wt) → ∀ i, ∀ q ∈ T.posL l p i, q.length ≤ p.length + 1 + T.wtL l := by
    intro l
    induction l with
    | nil => intro _ i q hq; simp [T.posL] at hq
    | cons x xs ihx =>
      intro h i q hq
      simp only [T.posL, List.mem_append] at hq
      simp only [T.wtL]
      rcases hq with hq | hq
      · have := h x (by simp) _ q hq
        simp at this
        omega
      · have := ihx (fun a ha => h a (by simp [ha])) (i + 1) q hq
        omega
  simp only [T.pos, List.mem_cons] at hq
  simp only [T.wt]
  rcases hq with rfl | hq
  · omega
  · have := h args ih 0 q hq
    cases args with
    | nil => simp [T.posL] at hq
    | cons a tl => simp only [List.length_cons]; omega
theorem rw_one {st : St} {i c : Nat} {n : Int} {e : TypeId} (h : st[i]? = some ⟨[.int .i64 n], e, 0⟩) : Rw st [n] (.slice (some ⟨i, 0, none⟩) 1 c) := .inr ⟨i, 0, c, rfl, fun j x hx => by
  have hj : j = 0 := by have := (List.getElem?_eq_some_iff.1 hx).1; simp at this; omega
  subst hj
  obtain rfl : n = x := by simpa using hx
  refine ⟨[.int .i64 n], rfl, rfl, fun q v hq => ?_⟩
  have hq0 : q = 0 := by have := (List.getElem?_eq_some_iff.1 hq).1; simp at this; omega
  subst hq0
  rw [cell_of h]
  simpa using hq⟩

end Go.Proofs.Ythimbmcffeiilaa.AM


/- Positions: impl.PositionsOf, spec.l4Walk, spec.PositionsOf. -/
namespace Go.Proofs.Ythimbmcffeiilaa.AM
open Go Go.Proofs
set_option linter.unusedVariables false
set_option linter.unusedSimpArgs false
set_option maxRecDepth 100000
attribute [local go_sem] List.map_cons List.map_nil List.all_cons List.all_nil Bool.and_self Option.map_some List.getElem?_toArray Option.bind_some gye_b gye_t gsk_b gsk_t gb1 gb2 gb3 gb4 bne_self_eq_false beq_self_eq_true w_guard w_nil stepV_some step_some step_some' w_move w_assign w_pick w_binOp w_unOp w_load w_fieldAddr w_indexAddr w_len w_max w_index ev_max max_int ev_index w_box w_alloc w_store w_field w_extract w_nilCheck w_convert w_buildSlice w_build ev_buildL fillL_nil fillL_cons bs0 bs1 ev_conv ev_bin ev_un ev_pick ev_load ev_fieldAddr ev_indexAddr ev_len ev_field ev_extract ev_nilCheck fr_tmp fr_int fr_bool fr_str fr_nil fr_func put_some put_none bin_lss bin_leq bin_gtr bin_geq bin_eql bin_neq bin_add bin_sub bin_mul bin_seql bin_sneq un_not pick_ ext_ loadA_p cellAt_l cellAt_h okPtr_l okPtr_h fadA_p allocA_l storeA_l cells_agg cells_int cells_str cells_sl cells_bool flat_i flat_s flat_b flat_sl flat_nil loc_agg loc_int loc_str loc_sl loc_bool loc_fn loc_ptr okv_agg okv_int okv_str okv_sl okv_bool cellsFrom splice upd_eval argEnv_zero argEnv_succ ne_eq Nat.add_one_ne_zero not_false_eq_true List.not_mem_nil and_self decide_true List.getElem?_cons_zero List.getElem?_cons_succ List.size_toArray List.length_cons List.length_nil List.take_succ_cons List.take_zero List.drop_succ_cons List.drop_zero List.cons_append List.nil_append List.drop_nil Bool.not_true Bool.not_false Bool.false_eq_true Nat.zero_add Nat.add_zero wrap_in List.toList_toArray List.mem_cons or_self or_false false_or
attribute [local go_sem] ag22 ag24 ag26 ag27 ag3 ag5 ag9 bu26 bu41 by26 by27 by3 el22 el24 el27 el47 el50 of26_0 of26_1 of26_2 of26_3 of41_0 of41_1 of41_2 ro26_0 ro26_1 ro26_2 ro27_0 ro27_1 ro3_0 ro3_1 ro3_3 ro9_2 ro9_3 ro9_4 sz22 sz24 sz26 sz27 sz3 sz5 sz9 ze26 ze27 ze3
-- AUTO

theorem walkApp {st' X : St} {p : List Int} {pv : Value} {Lp : List Nat} {e : Nat} (hpp : Sl st' p pv Lp) (hX : Ext st' X) (he : X[e]? = some ⟨[], 3, 0⟩) (hle : st'.length ≤ e) (hb : p.length ≤ 1073741824) :
    ∃ s1 sB L1, appendA Try.prog 27 27 (.slice (some ⟨e, 0, none⟩) 0 0) pv X = some (s1, sB) ∧ Sl sB p s1 L1 ∧ Fresh st'.length L1 ∧ Ext st' sB ∧ ∀ i, i < X.length → i ≠ e → sB[i]? = X[i]? := by
  have h0 : Sl (α := Int) X [] (.slice (some ⟨e, 0, none⟩) 0 0) [e] := .inr ⟨e, 0, [], [], rfl, he, .nil, rfl⟩
  obtain ⟨s1, sB, L1, h1, h2, h3, h4⟩ := Sl.appRow (α := Int) (t := 27) (u := 27) (n0 := st'.length) Try.underlying27 Try.underlying27 sz3 rfl by3 ze3 rfl h0 ⟨by simp, by simpa using hle⟩ hX.length (Ext.refl X) (hpp.ext hX).row (by simp; omega) (by simp; omega)
  refine ⟨s1, sB, L1, h1, by simpa using h2, h3, h4.away.ext_of hX (.inr ⟨e, hle, rfl⟩), fun i hi hne => h4.away.2 i hi ?_⟩
  intro h
  injection h with h
  exact hne h.symm
theorem walkApp2 {st' sB Y : St} {p : List Int} {s1 : Value} {L1 : List Nat} {n i : Nat} (h : Sl sB p s1 L1) (hf : Fresh st'.length L1) (xB : Ext st' sB) (x : Ext sB Y) (hI : Y[i]? = some ⟨[.int .i64 n], 3, 0⟩) (hb : p.length ≤ 1073741824) :
    ∃ s2 sC L2, appendA Try.prog 27 27 s1 (.slice (some ⟨i, 0, none⟩) 1 1) Y = some (s2, sC) ∧ Sl sC (p ++ [(n : Int)]) s2 L2 ∧ Fresh st'.length L2 ∧ Ext st' sC := by
  obtain ⟨s2, sC, L2, h1, h2, h3, h4⟩ := Sl.appRow (α := Int) (ys := [(n : Int)]) (t := 27) (u := 27) (n0 := st'.length) Try.underlying27 Try.underlying27 sz3 rfl by3 ze3 rfl h hf xB.length x (rw_one (c := 1) hI) (by simp; omega) (by simp; omega)
  exact ⟨s2, sC, L2, h1, h2, h3, h4.away.ext_of (xB.trans x) (h.top hf)⟩
theorem getA2 {st : St} {x y : Blk} : ((st ++ [x]) ++ [y])[st.length]? = some x := by rw [List.append_assoc, List.getElem?_append_right (Nat.le_refl _), Nat.sub_self]; rfl
theorem getB2 {st : St} {y : Blk} : (st ++ [y])[st.length]? = some y := by rw [List.getElem?_append_right (Nat.le_refl _), Nat.sub_self]; rfl
theorem Sl.topLt {α : Type} [Kind α] {st : St} {xs : List α} {s : Value} {L : List Nat} (h : Sl st xs s L) : topId s = none ∨ ∃ m, m < st.length ∧ topId s = some m := by
  rcases h with ⟨rfl, _⟩ | ⟨i, c, cs, K, rfl, h1, _⟩
  · exact .inl rfl
  · exact .inr ⟨i, (List.getElem?_eq_some_iff.1 h1).1, rfl⟩
theorem Sl.grow {st st2 : St} {p : List Int} {pv s s' : Value} {Lp : List Nat} (h : Sl st p pv Lp) (hg : Grow st s st2 s') (hd : ∀ i ∈ Lp, topId s ≠ some i) : Sl st2 p pv Lp ∧ ∀ i ∈ Lp, topId s' ≠ some i := by
  refine ⟨h.frame fun i hi => hg.away.2 i (h.lt i hi) (hd i hi), fun i hi e => ?_⟩
  rcases hg.top with h1 | ⟨m, h1, h2⟩
  · exact hd i hi (h1 ▸ e)
  · rw [h2] at e; injection e with e
    have := h.lt i hi; omega

theorem specWalk_ok : ∀ (t : T) (p : List Int) (acc : List (List Int)) (s0 st : St) (cs : List Value) (pv sa : Value) (L Lp : List Nat), p.length + t.wt ≤ 1073741824 → acc.length + t.wt + 1 ≤ 4294967296 → Ext s0 st → Enc s0 t cs → Sl st p pv Lp → (∀ i ∈ Lp, topId sa ≠ some i) → Sl st acc sa L → Fresh s0.length L →
    CallS Try.prog 33 [.agg cs.toArray, pv, sa] st fun r st2 => Grow st sa st2 r ∧ ∃ L2, Sl st2 (acc ++ t.pos p) r L2 ∧ Fresh s0.length L2 := by
  refine T.ind fun k n nm args ih p acc s0 st cs pv sa L Lp hB hA hx0 hE hp hd hs hf => ?_
  obtain ⟨s, rfl, hr⟩ := hE.open
  refine CallS_of_W [] 35 Try.func33 rfl rfl rfl rfl (by simp) ?_
  have hlen : lenE Try.prog 24 s = some (.int .i64 args.length) := row_len hr Try.underlying24
  have hwt : (T.mk k n nm args).wt = nm.size + args.length + T.wtL args := by simp only [T.wt]
  have n1 := hr.notLoc.1
  have n2 := hr.notLoc.2
  have m1 := hp.loc
  have m2 := hs.loc
  obtain ⟨s1, sB, L1b, hap1, hs1, hf1, xB, hot⟩ := walkApp (X := st ++ [(⟨[], 3, 0⟩ : Blk)]) (e := st.length) hp (Ext.app _ _) (by simp) (by simp) (by omega)
  have m3 := hs1.loc
  have m4 := hs1.cells
  have m5 := hs1.okv
  obtain ⟨s2, sC, L2, hap2, hs2, hf2, hg2⟩ := Sl.push (α := List Int) (t := 50) (u := 50) (n0 := s0.length) Try.underlying50 Try.underlying50 sz27 rfl by27 ze27 rfl hs hf hx0.length xB (x := p) (cx := [s1]) (Lx := L1b) ⟨s1, rfl, hs1⟩ hf1 (by omega) (by omega)
  have hap3 : appendA Try.prog 50 50 sa (.slice (some ⟨sB.length, 0, none⟩) 1 1) (sB ++ [⟨[s1], 27, 0⟩]) = some (s2, sC) := hap2
  have m6 := hs2.loc
  obtain ⟨hpC, hdC⟩ := hp.grow hg2 hd
  repeat (first | (refine W_reg rfl fun G K hG hK => ?_; simp (disch := omega) only [go_sem, ↓reduceIte, Nat.reduceEqDiff, Nat.reduceAdd, Nat.reduceLeDiff, hG, m1, m2, n1, n2, hlen]; refine hK _ _ ?_; clear hK K hG G) | (refine W_end rfl fun G K hG hK => ?_; simp (disch := omega) only [go_sem, ↓reduceIte, Nat.reduceEqDiff, Nat.reduceAdd, Nat.reduceLeDiff, hG, m1, m2, n1, n2, hlen]; refine hK _ _ ?_; clear hK K hG G; repeat (first | refine thenI ?_ | refine thenE ?_ | refine thenR ?_ | refine inBI ?_ | refine inBR ?_ | refine inBS ?_ | refine inBN (by decide) ?_)) | refine W_seqS ?_ | refine W_seqC ?_ | refine W_seqB ?_ | refine W_block ?_ | (refine W_skip ?_; repeat (first | refine thenI ?_ | refine thenE ?_ | refine thenR ?_ | refine inBI ?_ | refine inBR ?_ | refine inBS ?_ | refine inBN (by decide) ?_)) | (refine W_condT ?hc ?_; (case hc => (simp (disch := omega) only [go_sem, ↓reduceIte, Nat.reduceEqDiff, Nat.reduceAdd, Nat.reduceLeDiff, m1, m2, n1, n2, hlen]; done))) | (refine W_condF ?hc ?_; (case hc => (simp (disch := omega) only [go_sem, ↓reduceIte, Nat.reduceEqDiff, Nat.reduceAdd, Nat.reduceLeDiff, m1, m2, n1, n2, hlen]; done))))
  (repeat (first | refine W_seqS ?_ | refine W_seqC ?_ | refine W_seqB ?_ | refine W_block ?_)); refine W_reg rfl fun G K hG hK => ?_; simp (disch := omega) only [go_sem, ↓reduceIte, Nat.reduceEqDiff, Nat.reduceAdd, Nat.reduceLeDiff, hG, m1, m2, n1, n2, hlen]
  simp (disch := omega) only [go_sem, ↓reduceIte, Nat.reduceEqDiff, Nat.reduceAdd, Nat.reduceLeDiff, hG, m1, m2, n1, n2, hlen, w_append, hap1, hap3, m3, m4, m5, m6]; refine hK _ _ ?_; clear hK K hG G; repeat (first | refine thenI ?_ | refine thenE ?_ | refine thenR ?_ | refine inBI ?_ | refine inBR ?_ | refine inBS ?_ | refine inBN (by decide) ?_)
  repeat (first | (refine W_reg rfl fun G K hG hK => ?_; simp (disch := omega) only [go_sem, ↓reduceIte, Nat.reduceEqDiff, Nat.reduceAdd, Nat.reduceLeDiff, hG, m1, m2, n1, n2, hlen]; refine hK _ _ ?_; clear hK K hG G) | (refine W_end rfl fun G K hG hK => ?_; simp (disch := omega) only [go_sem, ↓reduceIte, Nat.reduceEqDiff, Nat.reduceAdd, Nat.reduceLeDiff, hG, m1, m2, n1, n2, hlen]; refine hK _ _ ?_; clear hK K hG G; repeat (first | refine thenI ?_ | refine thenE ?_ | refine thenR ?_ | refine inBI ?_ | refine inBR ?_ | refine inBS ?_ | refine inBN (by decide) ?_)) | refine W_seqS ?_ | refine W_seqC ?_ | refine W_seqB ?_ | refine W_block ?_ | (refine W_skip ?_; repeat (first | refine thenI ?_ | refine thenE ?_ | refine thenR ?_ | refine inBI ?_ | refine inBR ?_ | refine inBS ?_ | refine inBN (by decide) ?_)) | (refine W_condT ?hc ?_; (case hc => (simp (disch := omega) only [go_sem, ↓reduceIte, Nat.reduceEqDiff, Nat.reduceAdd, Nat.reduceLeDiff, m1, m2, n1, n2, hlen]; done))) | (refine W_condF ?hc ?_; (case hc => (simp (disch := omega) only [go_sem, ↓reduceIte, Nat.reduceEqDiff, Nat.reduceAdd, Nat.reduceLeDiff, m1, m2, n1, n2, hlen]; done))))
  refine W_loop (fun d fr st' => ∃ (j : Nat) (r : Value) (L1 : List Nat) (z : Value), d = args.length - j ∧ j ≤ args.length ∧ (Grow st sa st' r) ∧ (Sl st' (acc ++ p :: T.posL (args.take j) p 0) r L1) ∧ (Fresh s0.length L1) ∧ (Sl st' p pv Lp) ∧ ((∀ i ∈ Lp, topId r ≠ some i)) ∧ (nonH z = true) ∧ (fr.env 1 = pv) ∧ (fr.env 2 = r) ∧ (fr.env 3 = .pointer (some ⟨3, 0, some 1⟩)) ∧ (fr.env 7 = .int .i64 j) ∧ (fr.env 21 = z) ∧ (fr.loc 3 = (1, [.int .i64 k, .int .i64 n, .string nm, s]))) (args.length) ?_ ?_
  · exact ⟨0, _, _, _, by omega, by omega, hg2, (by simpa [T.posL] using hs2), hf2, hpC, hdC, rfl, (by (simp (disch := omega) only [go_sem, ↓reduceIte, Nat.reduceEqDiff, Nat.reduceAdd, Nat.reduceLeDiff, m1, m2, n1, n2, hlen]); try rfl), (by (simp (disch := omega) only [go_sem, ↓reduceIte, Nat.reduceEqDiff, Nat.reduceAdd, Nat.reduceLeDiff, m1, m2, n1, n2, hlen]); try rfl), (by (simp (disch := omega) only [go_sem, ↓reduceIte, Nat.reduceEqDiff, Nat.reduceAdd, Nat.reduceLeDiff, m1, m2, n1, n2, hlen]); try rfl), (by (simp (disch := omega) only [go_sem, ↓reduceIte, Nat.reduceEqDiff, Nat.reduceAdd, Nat.reduceLeDiff, m1, m2, n1, n2, hlen]); try rfl), (by (simp (disch := omega) only [go_sem, ↓reduceIte, Nat.reduceEqDiff, Nat.reduceAdd, Nat.reduceLeDiff, m1, m2, n1, n2, hlen]); try rfl), (by (simp (disch := omega) only [go_sem, ↓reduceIte, Nat.reduceEqDiff, Nat.reduceAdd, Nat.reduceLeDiff, m1, m2, n1, n2, hlen]); try rfl)⟩
  rintro d ⟨env, loc⟩ st' ⟨j, r, L1, z, hd, hj, hgr, hown, hfr, hpp, hdis, hz, e1, e2, e3, e7, e21, l3⟩
  simp only at e1 e2 e3 e7 e21 l3
  by_cases hlt : j < args.length
  · have c1 : decide ((j : Int) < (args.length : Int)) = true := by simpa using hlt
    have hi := idxOk hlt
    have hx : args[j]? = some args[j] := List.getElem?_eq_getElem hlt
    have htk : args.take (j + 1) = args.take j ++ [args[j]] := List.take_succ_eq_append_getElem hlt
    obtain ⟨i, o, c, cs, rfl, hcl, hE', hcs⟩ := row_at hr hx
    have hext : Ext s0 st' := hgr.away.ext_of hx0 (hs.top hf)
    have hwx := T.wtL_drop hx
    have hwd : T.wtL (args.drop j) ≤ T.wtL args := by
      have := T.wtL_take args j; omega
    have hpl := T.pos_len args[j] (p ++ [(j : Int)])
    have hal := T.posL_len (args.take j) p 0
    have htw := T.wtL_take args j
    have htl : (args.take j).length = j := by simp; omega
    obtain ⟨v0, v1, v2, v3, rfl⟩ : ∃ v0 v1 v2 v3, cs = [v0, v1, v2, v3] := by
      match cs, hcl with
      | [v0, v1, v2, v3], _ => exact ⟨v0, v1, v2, v3, rfl⟩
    have hld0 := fun loc => load_row (A := []) (loc := loc) ag26 sz26 hcl (hcs.ext hext)
    have hnext : T.posL (args.take (j + 1)) p 0 = T.posL (args.take j) p 0 ++ T.pos args[j] (p ++ [(j : Int)]) := by rw [htk, T.posL_snoc, htl, Nat.zero_add]
    have o2 := hown.loc
    have hcall : ∀ sC s2 L2, Sl sC (p ++ [(j : Int)]) s2 L2 → Fresh st'.length L2 → Ext st' sC → CallS Try.prog 33 [.agg #[v0, v1, v2, v3], s2, r] sC (fun r' sD => Grow st sa sD r' ∧ (∃ L', Sl sD (acc ++ p :: T.posL (args.take (j + 1)) p 0) r' L' ∧ Fresh s0.length L') ∧ Sl sD p pv Lp ∧ (∀ i ∈ Lp, topId r' ≠ some i)) := fun sC s2 L2 h1 h2 h3 =>
      (ih args[j] (List.getElem_mem hlt) (p ++ [(j : Int)]) (acc ++ p :: T.posL (args.take j) p 0) s0 sC _ s2 r L1 L2 (by simp; omega) (by simp; omega) (hext.trans h3) hE' h1 (fun i hi e => by
        rcases hown.topLt with h | ⟨m, hm, h⟩
        · rw [h] at e; cases e
        · rw [h] at e; injection e with e
          subst e
          have h4 := h2.2 _ hi
          omega) (hown.ext h3) hfr).mono fun r' sD ⟨g, L', g1, g2⟩ => by
        have gg : Grow st' r sD r' := (Grow.of_ext h3 r).trans g
        obtain ⟨q1, q2⟩ := hpp.grow gg hdis
        exact ⟨hgr.trans gg, ⟨L', by rw [hnext]; simpa using g1, g2⟩, q1, q2⟩
    repeat (first | (refine W_reg rfl fun G K hG hK => ?_; simp (disch := omega) only [go_sem, ↓reduceIte, Nat.reduceEqDiff, Nat.reduceAdd, Nat.reduceLeDiff, hG, m1, m2, n1, n2, hlen, e1, e2, e3, e7, e21, l3, c1, hi, idxA, Int.toNat_natCast, o2, hld0]; refine hK _ _ ?_; clear hK K hG G) | (refine W_end rfl fun G K hG hK => ?_; simp (disch := omega) only [go_sem, ↓reduceIte, Nat.reduceEqDiff, Nat.reduceAdd, Nat.reduceLeDiff, hG, m1, m2, n1, n2, hlen, e1, e2, e3, e7, e21, l3, c1, hi, idxA, Int.toNat_natCast, o2, hld0]; refine hK _ _ ?_; clear hK K hG G; repeat (first | refine thenI ?_ | refine thenE ?_ | refine thenR ?_ | refine inBI ?_ | refine inBR ?_ | refine inBS ?_ | refine inBN (by decide) ?_)) | refine W_seqS ?_ | refine W_seqC ?_ | refine W_seqB ?_ | refine W_block ?_ | (refine W_skip ?_; repeat (first | refine thenI ?_ | refine thenE ?_ | refine thenR ?_ | refine inBI ?_ | refine inBR ?_ | refine inBS ?_ | refine inBN (by decide) ?_)) | (refine W_condT ?hc ?_; (case hc => (simp (disch := omega) only [go_sem, ↓reduceIte, Nat.reduceEqDiff, Nat.reduceAdd, Nat.reduceLeDiff, m1, m2, n1, n2, hlen, e1, e2, e3, e7, e21, l3, c1, hi, idxA, Int.toNat_natCast, o2, hld0]; done))) | (refine W_condF ?hc ?_; (case hc => (simp (disch := omega) only [go_sem, ↓reduceIte, Nat.reduceEqDiff, Nat.reduceAdd, Nat.reduceLeDiff, m1, m2, n1, n2, hlen, e1, e2, e3, e7, e21, l3, c1, hi, idxA, Int.toNat_natCast, o2, hld0]; done))))
    refine W_endL mixed [3, 21] [] [4, 5, 7, 9, 10, 12] [[(0, false), (1, false), (2, false), (3, false), (4, false), (6, false), (8, false), (11, false), (9, false), (5, false), (7, false), (10, false), (12, false), (13, false)], [(0, false), (1, false), (2, false), (3, false), (6, false), (8, false), (11, false), (9, false), (5, false), (7, false), (4, false), (10, false), (12, false), (13, false)], [(0, false), (1, false), (2, false), (3, false), (6, false), (8, false), (11, false), (9, false), (5, false), (7, false), (10, false), (4, false), (12, false), (13, false)], [(0, false), (1, false), (2, false), (3, false), (4, false), (6, false), (8, false), (11, false), (5, false), (9, false), (7, false), (10, false), (12, false), (13, false)], [(0, false), (1, false), (2, false), (3, false), (6, false), (8, false), (11, false), (5, false), (9, false), (7, false), (4, false), (10, false), (12, false), (13, false)], [(0, false), (1, false), (2, false), (3, false), (6, false), (8, false), (11, false), (5, false), (9, false), (7, false), (10, false), (4, false), (12, false), (13, false)], [(0, false), (1, false), (2, false), (3, false), (4, false), (6, false), (8, false), (11, false), (5, false), (7, false), (9, false), (10, false), (12, false), (13, false)], [(0, false), (1, false), (2, false), (3, false), (6, false), (8, false), (11, false), (5, false), (7, false), (4, false), (9, false), (10, false), (12, false), (13, false)], [(0, false), (1, false), (2, false), (3, false), (6, false), (8, false), (11, false), (5, false), (7, false), (9, false), (10, false), (4, false), (12, false), (13, false)]] rfl (by decide +kernel) (by intro t ht; simp only [List.mem_cons, List.not_mem_nil, or_false] at ht; (rcases ht with rfl | rfl) <;> (first | (simp only [m1, m2, n1, n2, hlen, e1, e2, e3, e7, e21, l3, c1, hi, idxA, Int.toNat_natCast, o2, e3, e21, hz, put_some, upd_eval, Nat.reduceEqDiff, ↓reduceIte]; done) | (simp only [m1, m2, n1, n2, hlen, e1, e2, e3, e7, e21, l3, c1, hi, idxA, Int.toNat_natCast, o2, e3, e21, hz, put_some, upd_eval, Nat.reduceEqDiff, ↓reduceIte]; rfl))) fun G K hG hK => (fm_cons ?_ (fm_cons ?_ (fm_cons ?_ (fm_cons ?_ (fm_cons ?_ (fm_cons ?_ (fm_cons ?_ (fm_cons ?_ (fm_cons ?_ fm_nil)))))))))
    · simp only [pickOps, List.filterMap_cons, List.filterMap_nil, List.getElem?_cons_zero, List.getElem?_cons_succ, Option.map_some]; simp (disch := omega) only [go_sem, ↓reduceIte, Nat.reduceEqDiff, Nat.reduceAdd, Nat.reduceLeDiff, hG, m1, m2, n1, n2, hlen, e1, e2, e3, e7, e21, l3, c1, hi, idxA, Int.toNat_natCast, o2, hld0, o2]
      obtain ⟨s1, sB, L1b, hap1, hs1, hf1, xB, hot⟩ := walkApp (X := st' ++ [(⟨[.int .i64 j], 3, 0⟩ : Blk)] ++ [(⟨[], 3, 0⟩ : Blk)]) (e := (st' ++ [(⟨[.int .i64 j], 3, 0⟩ : Blk)]).length) hpp ((Ext.app _ _).trans (Ext.app _ _)) getB2 (by simp) (by omega)
      have hbI : sB[st'.length]? = some (⟨[.int .i64 j], 3, 0⟩ : Blk) := by rw [hot _ (by simp) (by simp)]; exact getA2
      obtain ⟨s2, sC, L2, hap2, hs2, hf2, xC⟩ := walkApp2 (n := j) hs1 hf1 xB (Ext.refl _) hbI (by omega)
      have k1 := hs1.loc
      have k2 := hs2.loc
      simp (disch := omega) only [go_sem, ↓reduceIte, Nat.reduceEqDiff, Nat.reduceAdd, Nat.reduceLeDiff, m1, m2, n1, n2, hlen, e1, e2, e3, e7, e21, l3, c1, hi, idxA, Int.toNat_natCast, o2, w_append, hap1, hap2, o2, k1, k2]
      refine w_call (hcall sC s2 L2 hs2 hf2 xC) (by simp (disch := omega) only [go_sem, ↓reduceIte, Nat.reduceEqDiff, m1, m2, n1, n2, hlen, e1, e2, e3, e7, e21, l3, c1, hi, idxA, Int.toNat_natCast, o2, k2]) ?hl ?_
      case hl => first | rfl | (simp only [go_sem, List.all_cons, List.all_nil, Bool.not_false, Bool.and_self, m1, m2, n1, n2, hlen, e1, e2, e3, e7, e21, l3, c1, hi, idxA, Int.toNat_natCast, o2, k2]; done)
      rintro rD sD ⟨hgD, ⟨L', hD, hfD⟩, hpD, hdD⟩; refine ⟨fun e => (by cases e), ?_⟩
      have k3 := hD.loc
      simp (disch := omega) only [go_sem, ↓reduceIte, Nat.reduceEqDiff, Nat.reduceAdd, Nat.reduceLeDiff, hG, m1, m2, n1, n2, hlen, e1, e2, e3, e7, e21, l3, c1, hi, idxA, Int.toNat_natCast, o2, k3, k3]; refine hK _ _ ?_; clear hK K hG G; repeat (first | refine thenI ?_ | refine thenE ?_ | refine thenR ?_ | refine inBI ?_ | refine inBR ?_ | refine inBS ?_ | refine inBN (by decide) ?_)
      repeat (first | (refine W_reg rfl fun G K hG hK => ?_; simp (disch := omega) only [go_sem, ↓reduceIte, Nat.reduceEqDiff, Nat.reduceAdd, Nat.reduceLeDiff, hG, m1, m2, n1, n2, hlen, e1, e2, e3, e7, e21, l3, c1, hi, idxA, Int.toNat_natCast, o2, k3]; refine hK _ _ ?_; clear hK K hG G) | (refine W_end rfl fun G K hG hK => ?_; simp (disch := omega) only [go_sem, ↓reduceIte, Nat.reduceEqDiff, Nat.reduceAdd, Nat.reduceLeDiff, hG, m1, m2, n1, n2, hlen, e1, e2, e3, e7, e21, l3, c1, hi, idxA, Int.toNat_natCast, o2, k3]; refine hK _ _ ?_; clear hK K hG G; repeat (first | refine thenI ?_ | refine thenE ?_ | refine thenR ?_ | refine inBI ?_ | refine inBR ?_ | refine inBS ?_ | refine inBN (by decide) ?_)) | refine W_seqS ?_ | refine W_seqC ?_ | refine W_seqB ?_ | refine W_block ?_ | (refine W_skip ?_; repeat (first | refine thenI ?_ | refine thenE ?_ | refine thenR ?_ | refine inBI ?_ | refine inBR ?_ | refine inBS ?_ | refine inBN (by decide) ?_)) | (refine W_condT ?hc ?_; (case hc => (simp (disch := omega) only [go_sem, ↓reduceIte, Nat.reduceEqDiff, Nat.reduceAdd, Nat.reduceLeDiff, m1, m2, n1, n2, hlen, e1, e2, e3, e7, e21, l3, c1, hi, idxA, Int.toNat_natCast, o2, k3]; done))) | (refine W_condF ?hc ?_; (case hc => (simp (disch := omega) only [go_sem, ↓reduceIte, Nat.reduceEqDiff, Nat.reduceAdd, Nat.reduceLeDiff, m1, m2, n1, n2, hlen, e1, e2, e3, e7, e21, l3, c1, hi, idxA, Int.toNat_natCast, o2, k3]; done))))
      refine ⟨args.length - (j + 1), by omega, j + 1, rD, L', .pointer (some ⟨3, 3, some 1⟩), rfl, by omega, hgD, hD, hfD, hpD, hdD, rfl, (by (simp (disch := omega) only [go_sem, ↓reduceIte, Nat.reduceEqDiff, Nat.reduceAdd, Nat.reduceLeDiff, m1, m2, n1, n2, hlen, e1, e2, e3, e7, e21, l3, c1, hi, idxA, Int.toNat_natCast, o2, k3]); try rfl), (by (simp (disch := omega) only [go_sem, ↓reduceIte, Nat.reduceEqDiff, Nat.reduceAdd, Nat.reduceLeDiff, m1, m2, n1, n2, hlen, e1, e2, e3, e7, e21, l3, c1, hi, idxA, Int.toNat_natCast, o2, k3]); try rfl), (by (simp (disch := omega) only [go_sem, ↓reduceIte, Nat.reduceEqDiff, Nat.reduceAdd, Nat.reduceLeDiff, m1, m2, n1, n2, hlen, e1, e2, e3, e7, e21, l3, c1, hi, idxA, Int.toNat_natCast, o2, k3]); try rfl), (by (simp (disch := omega) only [go_sem, ↓reduceIte, Nat.reduceEqDiff, Nat.reduceAdd, Nat.reduceLeDiff, m1, m2, n1, n2, hlen, e1, e2, e3, e7, e21, l3, c1, hi, idxA, Int.toNat_natCast, o2, k3]); try rfl), (by (simp (disch := omega) only [go_sem, ↓reduceIte, Nat.reduceEqDiff, Nat.reduceAdd, Nat.reduceLeDiff, m1, m2, n1, n2, hlen, e1, e2, e3, e7, e21, l3, c1, hi, idxA, Int.toNat_natCast, o2, k3]); try rfl), (by (simp (disch := omega) only [go_sem, ↓reduceIte, Nat.reduceEqDiff, Nat.reduceAdd, Nat.reduceLeDiff, m1, m2, n1, n2, hlen, e1, e2, e3, e7, e21, l3, c1, hi, idxA, Int.toNat_natCast, o2, k3]); try rfl)⟩
    · simp only [pickOps, List.filterMap_cons, List.filterMap_nil, List.getElem?_cons_zero, List.getElem?_cons_succ, Option.map_some]; simp (disch := omega) only [go_sem, ↓reduceIte, Nat.reduceEqDiff, Nat.reduceAdd, Nat.reduceLeDiff, hG, m1, m2, n1, n2, hlen, e1, e2, e3, e7, e21, l3, c1, hi, idxA, Int.toNat_natCast, o2, hld0, o2]
      obtain ⟨s1, sB, L1b, hap1, hs1, hf1, xB, hot⟩ := walkApp (X := st' ++ [(⟨[.int .i64 j], 3, 0⟩ : Blk)] ++ [(⟨[], 3, 0⟩ : Blk)]) (e := (st' ++ [(⟨[.int .i64 j], 3, 0⟩ : Blk)]).length) hpp ((Ext.app _ _).trans (Ext.app _ _)) getB2 (by simp) (by omega)
      have hbI : sB[st'.length]? = some (⟨[.int .i64 j], 3, 0⟩ : Blk) := by rw [hot _ (by simp) (by simp)]; exact getA2
      obtain ⟨s2, sC, L2, hap2, hs2, hf2, xC⟩ := walkApp2 (n := j) hs1 hf1 xB (Ext.refl _) hbI (by omega)
      have k1 := hs1.loc
      have k2 := hs2.loc
      have hldB := fun loc => load_row (A := []) (loc := loc) ag26 sz26 hcl (hcs.ext (hext.trans xB))
      simp (disch := omega) only [go_sem, ↓reduceIte, Nat.reduceEqDiff, Nat.reduceAdd, Nat.reduceLeDiff, m1, m2, n1, n2, hlen, e1, e2, e3, e7, e21, l3, c1, hi, idxA, Int.toNat_natCast, o2, w_append, hap1, hap2, o2, k1, k2, hldB]
      refine w_call (hcall sC s2 L2 hs2 hf2 xC) (by simp (disch := omega) only [go_sem, ↓reduceIte, Nat.reduceEqDiff, m1, m2, n1, n2, hlen, e1, e2, e3, e7, e21, l3, c1, hi, idxA, Int.toNat_natCast, o2, k2]) ?hl ?_
      case hl => first | rfl | (simp only [go_sem, List.all_cons, List.all_nil, Bool.not_false, Bool.and_self, m1, m2, n1, n2, hlen, e1, e2, e3, e7, e21, l3, c1, hi, idxA, Int.toNat_natCast, o2, k2]; done)
      rintro rD sD ⟨hgD, ⟨L', hD, hfD⟩, hpD, hdD⟩; refine ⟨fun e => (by cases e), ?_⟩
      have k3 := hD.loc
      simp (disch := omega) only [go_sem, ↓reduceIte, Nat.reduceEqDiff, Nat.reduceAdd, Nat.reduceLeDiff, hG, m1, m2, n1, n2, hlen, e1, e2, e3, e7, e21, l3, c1, hi, idxA, Int.toNat_natCast, o2, k3, k3]; refine hK _ _ ?_; clear hK K hG G; repeat (first | refine thenI ?_ | refine thenE ?_ | refine thenR ?_ | refine inBI ?_ | refine inBR ?_ | refine inBS ?_ | refine inBN (by decide) ?_)
      repeat (first | (refine W_reg rfl fun G K hG hK => ?_; simp (disch := omega) only [go_sem, ↓reduceIte, Nat.reduceEqDiff, Nat.reduceAdd, Nat.reduceLeDiff, hG, m1, m2, n1, n2, hlen, e1, e2, e3, e7, e21, l3, c1, hi, idxA, Int.toNat_natCast, o2, k3]; refine hK _ _ ?_; clear hK K hG G) | (refine W_end rfl fun G K hG hK => ?_; simp (disch := omega) only [go_sem, ↓reduceIte, Nat.reduceEqDiff, Nat.reduceAdd, Nat.reduceLeDiff, hG, m1, m2, n1, n2, hlen, e1, e2, e3, e7, e21, l3, c1, hi, idxA, Int.toNat_natCast, o2, k3]; refine hK _ _ ?_; clear hK K hG G; repeat (first | refine thenI ?_ | refine thenE ?_ | refine thenR ?_ | refine inBI ?_ | refine inBR ?_ | refine inBS ?_ | refine inBN (by decide) ?_)) | refine W_seqS ?_ | refine W_seqC ?_ | refine W_seqB ?_ | refine W_block ?_ | (refine W_skip ?_; repeat (first | refine thenI ?_ | refine thenE ?_ | refine thenR ?_ | refine inBI ?_ | refine inBR ?_ | refine inBS ?_ | refine inBN (by decide) ?_)) | (refine W_condT ?hc ?_; (case hc => (simp (disch := omega) only [go_sem, ↓reduceIte, Nat.reduceEqDiff, Nat.reduceAdd, Nat.reduceLeDiff, m1, m2, n1, n2, hlen, e1, e2, e3, e7, e21, l3, c1, hi, idxA, Int.toNat_natCast, o2, k3]; done))) | (refine W_condF ?hc ?_; (case hc => (simp (disch := omega) only [go_sem, ↓reduceIte, Nat.reduceEqDiff, Nat.reduceAdd, Nat.reduceLeDiff, m1, m2, n1, n2, hlen, e1, e2, e3, e7, e21, l3, c1, hi, idxA, Int.toNat_natCast, o2, k3]; done))))
      refine ⟨args.length - (j + 1), by omega, j + 1, rD, L', .pointer (some ⟨3, 3, some 1⟩), rfl, by omega, hgD, hD, hfD, hpD, hdD, rfl, (by (simp (disch := omega) only [go_sem, ↓reduceIte, Nat.reduceEqDiff, Nat.reduceAdd, Nat.reduceLeDiff, m1, m2, n1, n2, hlen, e1, e2, e3, e7, e21, l3, c1, hi, idxA, Int.toNat_natCast, o2, k3]); try rfl), (by (simp (disch := omega) only [go_sem, ↓reduceIte, Nat.reduceEqDiff, Nat.reduceAdd, Nat.reduceLeDiff, m1, m2, n1, n2, hlen, e1, e2, e3, e7, e21, l3, c1, hi, idxA, Int.toNat_natCast, o2, k3]); try rfl), (by (simp (disch := omega) only [go_sem, ↓reduceIte, Nat.reduceEqDiff, Nat.reduceAdd, Nat.reduceLeDiff, m1, m2, n1, n2, hlen, e1, e2, e3, e7, e21, l3, c1, hi, idxA, Int.toNat_natCast, o2, k3]); try rfl), (by (simp (disch := omega) only [go_sem, ↓reduceIte, Nat.reduceEqDiff, Nat.reduceAdd, Nat.reduceLeDiff, m1, m2, n1, n2, hlen, e1, e2, e3, e7, e21, l3, c1, hi, idxA, Int.toNat_natCast, o2, k3]); try rfl), (by (simp (disch := omega) only [go_sem, ↓reduceIte, Nat.reduceEqDiff, Nat.reduceAdd, Nat.reduceLeDiff, m1, m2, n1, n2, hlen, e1, e2, e3, e7, e21, l3, c1, hi, idxA, Int.toNat_natCast, o2, k3]); try rfl), (by (simp (disch := omega) only [go_sem, ↓reduceIte, Nat.reduceEqDiff, Nat.reduceAdd, Nat.reduceLeDiff, m1, m2, n1, n2, hlen, e1, e2, e3, e7, e21, l3, c1, hi, idxA, Int.toNat_natCast, o2, k3]); try rfl)⟩
    · simp only [pickOps, List.filterMap_cons, List.filterMap_nil, List.getElem?_cons_zero, List.getElem?_cons_succ, Option.map_some]; simp (disch := omega) only [go_sem, ↓reduceIte, Nat.reduceEqDiff, Nat.reduceAdd, Nat.reduceLeDiff, hG, m1, m2, n1, n2, hlen, e1, e2, e3, e7, e21, l3, c1, hi, idxA, Int.toNat_natCast, o2, hld0, o2]
      obtain ⟨s1, sB, L1b, hap1, hs1, hf1, xB, hot⟩ := walkApp (X := st' ++ [(⟨[.int .i64 j], 3, 0⟩ : Blk)] ++ [(⟨[], 3, 0⟩ : Blk)]) (e := (st' ++ [(⟨[.int .i64 j], 3, 0⟩ : Blk)]).length) hpp ((Ext.app _ _).trans (Ext.app _ _)) getB2 (by simp) (by omega)
      have hbI : sB[st'.length]? = some (⟨[.int .i64 j], 3, 0⟩ : Blk) := by rw [hot _ (by simp) (by simp)]; exact getA2
      obtain ⟨s2, sC, L2, hap2, hs2, hf2, xC⟩ := walkApp2 (n := j) hs1 hf1 xB (Ext.refl _) hbI (by omega)
      have k1 := hs1.loc
      have k2 := hs2.loc
      have hldC := fun loc => load_row (A := []) (loc := loc) ag26 sz26 hcl (hcs.ext (hext.trans xC))
      simp (disch := omega) only [go_sem, ↓reduceIte, Nat.reduceEqDiff, Nat.reduceAdd, Nat.reduceLeDiff, m1, m2, n1, n2, hlen, e1, e2, e3, e7, e21, l3, c1, hi, idxA, Int.toNat_natCast, o2, w_append, hap1, hap2, o2, k1, k2, hldC]
      refine w_call (hcall sC s2 L2 hs2 hf2 xC) (by simp (disch := omega) only [go_sem, ↓reduceIte, Nat.reduceEqDiff, m1, m2, n1, n2, hlen, e1, e2, e3, e7, e21, l3, c1, hi, idxA, Int.toNat_natCast, o2, k2]) ?hl ?_
      case hl => first | rfl | (simp only [go_sem, List.all_cons, List.all_nil, Bool.not_false, Bool.and_self, m1, m2, n1, n2, hlen, e1, e2, e3, e7, e21, l3, c1, hi, idxA, Int.toNat_natCast, o2, k2]; done)
      rintro rD sD ⟨hgD, ⟨L', hD, hfD⟩, hpD, hdD⟩; refine ⟨fun e => (by cases e), ?_⟩
      have k3 := hD.loc
      simp (disch := omega) only [go_sem, ↓reduceIte, Nat.reduceEqDiff, Nat.reduceAdd, Nat.reduceLeDiff, hG, m1, m2, n1, n2, hlen, e1, e2, e3, e7, e21, l3, c1, hi, idxA, Int.toNat_natCast, o2, k3, k3]; refine hK _ _ ?_; clear hK K hG G; repeat (first | refine thenI ?_ | refine thenE ?_ | refine thenR ?_ | refine inBI ?_ | refine inBR ?_ | refine inBS ?_ | refine inBN (by decide) ?_)
      repeat (first | (refine W_reg rfl fun G K hG hK => ?_; simp (disch := omega) only [go_sem, ↓reduceIte, Nat.reduceEqDiff, Nat.reduceAdd, Nat.reduceLeDiff, hG, m1, m2, n1, n2, hlen, e1, e2, e3, e7, e21, l3, c1, hi, idxA, Int.toNat_natCast, o2, k3]; refine hK _ _ ?_; clear hK K hG G) | (refine W_end rfl fun G K hG hK => ?_; simp (disch := omega) only [go_sem, ↓reduceIte, Nat.reduceEqDiff, Nat.reduceAdd, Nat.reduceLeDiff, hG, m1, m2, n1, n2, hlen, e1, e2, e3, e7, e21, l3, c1, hi, idxA, Int.toNat_natCast, o2, k3]; refine hK _ _ ?_; clear hK K hG G; repeat (first | refine thenI ?_ | refine thenE ?_ | refine thenR ?_ | refine inBI ?_ | refine inBR ?_ | refine inBS ?_ | refine inBN (by decide) ?_)) | refine W_seqS ?_ | refine W_seqC ?_ | refine W_seqB ?_ | refine W_block ?_ | (refine W_skip ?_; repeat (first | refine thenI ?_ | refine thenE ?_ | refine thenR ?_ | refine inBI ?_ | refine inBR ?_ | refine inBS ?_ | refine inBN (by decide) ?_)) | (refine W_condT ?hc ?_; (case hc => (simp (disch := omega) only [go_sem, ↓reduceIte, Nat.reduceEqDiff, Nat.reduceAdd, Nat.reduceLeDiff, m1, m2, n1, n2, hlen, e1, e2, e3, e7, e21, l3, c1, hi, idxA, Int.toNat_natCast, o2, k3]; done))) | (refine W_condF ?hc ?_; (case hc => (simp (disch := omega) only [go_sem, ↓reduceIte, Nat.reduceEqDiff, Nat.reduceAdd, Nat.reduceLeDiff, m1, m2, n1, n2, hlen, e1, e2, e3, e7, e21, l3, c1, hi, idxA, Int.toNat_natCast, o2, k3]; done))))
      refine ⟨args.length - (j + 1), by omega, j + 1, rD, L', .pointer (some ⟨3, 3, some 1⟩), rfl, by omega, hgD, hD, hfD, hpD, hdD, rfl, (by (simp (disch := omega) only [go_sem, ↓reduceIte, Nat.reduceEqDiff, Nat.reduceAdd, Nat.reduceLeDiff, m1, m2, n1, n2, hlen, e1, e2, e3, e7, e21, l3, c1, hi, idxA, Int.toNat_natCast, o2, k3]); try rfl), (by (simp (disch := omega) only [go_sem, ↓reduceIte, Nat.reduceEqDiff, Nat.reduceAdd, Nat.reduceLeDiff, m1, m2, n1, n2, hlen, e1, e2, e3, e7, e21, l3, c1, hi, idxA, Int.toNat_natCast, o2, k3]); try rfl), (by (simp (disch := omega) only [go_sem, ↓reduceIte, Nat.reduceEqDiff, Nat.reduceAdd, Nat.reduceLeDiff, m1, m2, n1, n2, hlen, e1, e2, e3, e7, e21, l3, c1, hi, idxA, Int.toNat_natCast, o2, k3]); try rfl), (by (simp (disch := omega) only [go_sem, ↓reduceIte, Nat.reduceEqDiff, Nat.reduceAdd, Nat.reduceLeDiff, m1, m2, n1, n2, hlen, e1, e2, e3, e7, e21, l3, c1, hi, idxA, Int.toNat_natCast, o2, k3]); try rfl), (by (simp (disch := omega) only [go_sem, ↓reduceIte, Nat.reduceEqDiff, Nat.reduceAdd, Nat.reduceLeDiff, m1, m2, n1, n2, hlen, e1, e2, e3, e7, e21, l3, c1, hi, idxA, Int.toNat_natCast, o2, k3]); try rfl), (by (simp (disch := omega) only [go_sem, ↓reduceIte, Nat.reduceEqDiff, Nat.reduceAdd, Nat.reduceLeDiff, m1, m2, n1, n2, hlen, e1, e2, e3, e7, e21, l3, c1, hi, idxA, Int.toNat_natCast, o2, k3]); try rfl)⟩
    · simp only [pickOps, List.filterMap_cons, List.filterMap_nil, List.getElem?_cons_zero, List.getElem?_cons_succ, Option.map_some]; simp (disch := omega) only [go_sem, ↓reduceIte, Nat.reduceEqDiff, Nat.reduceAdd, Nat.reduceLeDiff, hG, m1, m2, n1, n2, hlen, e1, e2, e3, e7, e21, l3, c1, hi, idxA, Int.toNat_natCast, o2, hld0, o2]
      obtain ⟨s1, sB, L1b, hap1, hs1, hf1, xB, hot⟩ := walkApp (X := st' ++ [(⟨[], 3, 0⟩ : Blk)] ++ [(⟨[.int .i64 j], 3, 0⟩ : Blk)]) (e := st'.length) hpp ((Ext.app _ _).trans (Ext.app _ _)) getA2 (by simp) (by omega)
      have hbI : sB[(st' ++ [(⟨[], 3, 0⟩ : Blk)]).length]? = some (⟨[.int .i64 j], 3, 0⟩ : Blk) := by rw [hot _ (by simp) (by simp)]; exact getB2
      obtain ⟨s2, sC, L2, hap2, hs2, hf2, xC⟩ := walkApp2 (n := j) hs1 hf1 xB (Ext.refl _) hbI (by omega)
      have k1 := hs1.loc
      have k2 := hs2.loc
      simp (disch := omega) only [go_sem, ↓reduceIte, Nat.reduceEqDiff, Nat.reduceAdd, Nat.reduceLeDiff, m1, m2, n1, n2, hlen, e1, e2, e3, e7, e21, l3, c1, hi, idxA, Int.toNat_natCast, o2, w_append, hap1, hap2, o2, k1, k2]
      refine w_call (hcall sC s2 L2 hs2 hf2 xC) (by simp (disch := omega) only [go_sem, ↓reduceIte, Nat.reduceEqDiff, m1, m2, n1, n2, hlen, e1, e2, e3, e7, e21, l3, c1, hi, idxA, Int.toNat_natCast, o2, k2]) ?hl ?_
      case hl => first | rfl | (simp only [go_sem, List.all_cons, List.all_nil, Bool.not_false, Bool.and_self, m1, m2, n1, n2, hlen, e1, e2, e3, e7, e21, l3, c1, hi, idxA, Int.toNat_natCast, o2, k2]; done)
      rintro rD sD ⟨hgD, ⟨L', hD, hfD⟩, hpD, hdD⟩; refine ⟨fun e => (by cases e), ?_⟩
      have k3 := hD.loc
      simp (disch := omega) only [go_sem, ↓reduceIte, Nat.reduceEqDiff, Nat.reduceAdd, Nat.reduceLeDiff, hG, m1, m2, n1, n2, hlen, e1, e2, e3, e7, e21, l3, c1, hi, idxA, Int.toNat_natCast, o2, k3, k3]; refine hK _ _ ?_; clear hK K hG G; repeat (first | refine thenI ?_ | refine thenE ?_ | refine thenR ?_ | refine inBI ?_ | refine inBR ?_ | refine inBS ?_ | refine inBN (by decide) ?_)
      repeat (first | (refine W_reg rfl fun G K hG hK => ?_; simp (disch := omega) only [go_sem, ↓reduceIte, Nat.reduceEqDiff, Nat.reduceAdd, Nat.reduceLeDiff, hG, m1, m2, n1, n2, hlen, e1, e2, e3, e7, e21, l3, c1, hi, idxA, Int.toNat_natCast, o2, k3]; refine hK _ _ ?_; clear hK K hG G) | (refine W_end rfl fun G K hG hK => ?_; simp (disch := omega) only [go_sem, ↓reduceIte, Nat.reduceEqDiff, Nat.reduceAdd, Nat.reduceLeDiff, hG, m1, m2, n1, n2, hlen, e1, e2, e3, e7, e21, l3, c1, hi, idxA, Int.toNat_natCast, o2, k3]; refine hK _ _ ?_; clear hK K hG G; repeat (first | refine thenI ?_ | refine thenE ?_ | refine thenR ?_ | refine inBI ?_ | refine inBR ?_ | refine inBS ?_ | refine inBN (by decide) ?_)) | refine W_seqS ?_ | refine W_seqC ?_ | refine W_seqB ?_ | refine W_block ?_ | (refine W_skip ?_; repeat (first | refine thenI ?_ | refine thenE ?_ | refine thenR ?_ | refine inBI ?_ | refine inBR ?_ | refine inBS ?_ | refine inBN (by decide) ?_)) | (refine W_condT ?hc ?_; (case hc => (simp (disch := omega) only [go_sem, ↓reduceIte, Nat.reduceEqDiff, Nat.reduceAdd, Nat.reduceLeDiff, m1, m2, n1, n2, hlen, e1, e2, e3, e7, e21, l3, c1, hi, idxA, Int.toNat_natCast, o2, k3]; done))) | (refine W_condF ?hc ?_; (case hc => (simp (disch := omega) only [go_sem, ↓reduceIte, Nat.reduceEqDiff, Nat.reduceAdd, Nat.reduceLeDiff, m1, m2, n1, n2, hlen, e1, e2, e3, e7, e21, l3, c1, hi, idxA, Int.toNat_natCast, o2, k3]; done))))
      refine ⟨args.length - (j + 1), by omega, j + 1, rD, L', .pointer (some ⟨3, 3, some 1⟩), rfl, by omega, hgD, hD, hfD, hpD, hdD, rfl, (by (simp (disch := omega) only [go_sem, ↓reduceIte, Nat.reduceEqDiff, Nat.reduceAdd, Nat.reduceLeDiff, m1, m2, n1, n2, hlen, e1, e2, e3, e7, e21, l3, c1, hi, idxA, Int.toNat_natCast, o2, k3]); try rfl), (by (simp (disch := omega) only [go_sem, ↓reduceIte, Nat.reduceEqDiff, Nat.reduceAdd, Nat.reduceLeDiff, m1, m2, n1, n2, hlen, e1, e2, e3, e7, e21, l3, c1, hi, idxA, Int.toNat_natCast, o2, k3]); try rfl), (by (simp (disch := omega) only [go_sem, ↓reduceIte, Nat.reduceEqDiff, Nat.reduceAdd, Nat.reduceLeDiff, m1, m2, n1, n2, hlen, e1, e2, e3, e7, e21, l3, c1, hi, idxA, Int.toNat_natCast, o2, k3]); try rfl), (by (simp (disch := omega) only [go_sem, ↓reduceIte, Nat.reduceEqDiff, Nat.reduceAdd, Nat.reduceLeDiff, m1, m2, n1, n2, hlen, e1, e2, e3, e7, e21, l3, c1, hi, idxA, Int.toNat_natCast, o2, k3]); try rfl), (by (simp (disch := omega) only [go_sem, ↓reduceIte, Nat.reduceEqDiff, Nat.reduceAdd, Nat.reduceLeDiff, m1, m2, n1, n2, hlen, e1, e2, e3, e7, e21, l3, c1, hi, idxA, Int.toNat_natCast, o2, k3]); try rfl), (by (simp (disch := omega) only [go_sem, ↓reduceIte, Nat.reduceEqDiff, Nat.reduceAdd, Nat.reduceLeDiff, m1, m2, n1, n2, hlen, e1, e2, e3, e7, e21, l3, c1, hi, idxA, Int.toNat_natCast, o2, k3]); try rfl)⟩
    · simp only [pickOps, List.filterMap_cons, List.filterMap_nil, List.getElem?_cons_zero, List.getElem?_cons_succ, Option.map_some]; simp (disch := omega) only [go_sem, ↓reduceIte, Nat.reduceEqDiff, Nat.reduceAdd, Nat.reduceLeDiff, hG, m1, m2, n1, n2, hlen, e1, e2, e3, e7, e21, l3, c1, hi, idxA, Int.toNat_natCast, o2, hld0, o2]
      obtain ⟨s1, sB, L1b, hap1, hs1, hf1, xB, hot⟩ := walkApp (X := st' ++ [(⟨[], 3, 0⟩ : Blk)] ++ [(⟨[.int .i64 j], 3, 0⟩ : Blk)]) (e := st'.length) hpp ((Ext.app _ _).trans (Ext.app _ _)) getA2 (by simp) (by omega)
      have hbI : sB[(st' ++ [(⟨[], 3, 0⟩ : Blk)]).length]? = some (⟨[.int .i64 j], 3, 0⟩ : Blk) := by rw [hot _ (by simp) (by simp)]; exact getB2
      obtain ⟨s2, sC, L2, hap2, hs2, hf2, xC⟩ := walkApp2 (n := j) hs1 hf1 xB (Ext.refl _) hbI (by omega)
      have k1 := hs1.loc
      have k2 := hs2.loc
      have hldB := fun loc => load_row (A := []) (loc := loc) ag26 sz26 hcl (hcs.ext (hext.trans xB))
      simp (disch := omega) only [go_sem, ↓reduceIte, Nat.reduceEqDiff, Nat.reduceAdd, Nat.reduceLeDiff, m1, m2, n1, n2, hlen, e1, e2, e3, e7, e21, l3, c1, hi, idxA, Int.toNat_natCast, o2, w_append, hap1, hap2, o2, k1, k2, hldB]
      refine w_call (hcall sC s2 L2 hs2 hf2 xC) (by simp (disch := omega) only [go_sem, ↓reduceIte, Nat.reduceEqDiff, m1, m2, n1, n2, hlen, e1, e2, e3, e7, e21, l3, c1, hi, idxA, Int.toNat_natCast, o2, k2]) ?hl ?_
      case hl => first | rfl | (simp only [go_sem, List.all_cons, List.all_nil, Bool.not_false, Bool.and_self, m1, m2, n1, n2, hlen, e1, e2, e3, e7, e21, l3, c1, hi, idxA, Int.toNat_natCast, o2, k2]; done)
      rintro rD sD ⟨hgD, ⟨L', hD, hfD⟩, hpD, hdD⟩; refine ⟨fun e => (by cases e), ?_⟩
      have k3 := hD.loc
      simp (disch := omega) only [go_sem, ↓reduceIte, Nat.reduceEqDiff, Nat.reduceAdd, Nat.reduceLeDiff, hG, m1, m2, n1, n2, hlen, e1, e2, e3, e7, e21, l3, c1, hi, idxA, Int.toNat_natCast, o2, k3, k3]; refine hK _ _ ?_; clear hK K hG G; repeat (first | refine thenI ?_ | refine thenE ?_ | refine thenR ?_ | refine inBI ?_ | refine inBR ?_ | refine inBS ?_ | refine inBN (by decide) ?_)
      repeat (first | (refine W_reg rfl fun G K hG hK => ?_; simp (disch := omega) only [go_sem, ↓reduceIte, Nat.reduceEqDiff, Nat.reduceAdd, Nat.reduceLeDiff, hG, m1, m2, n1, n2, hlen, e1, e2, e3, e7, e21, l3, c1, hi, idxA, Int.toNat_natCast, o2, k3]; refine hK _ _ ?_; clear hK K hG G) | (refine W_end rfl fun G K hG hK => ?_; simp (disch := omega) only [go_sem, ↓reduceIte, Nat.reduceEqDiff, Nat.reduceAdd, Nat.reduceLeDiff, hG, m1, m2, n1, n2, hlen, e1, e2, e3, e7, e21, l3, c1, hi, idxA, Int.toNat_natCast, o2, k3]; refine hK _ _ ?_; clear hK K hG G; repeat (first | refine thenI ?_ | refine thenE ?_ | refine thenR ?_ | refine inBI ?_ | refine inBR ?_ | refine inBS ?_ | refine inBN (by decide) ?_)) | refine W_seqS ?_ | refine W_seqC ?_ | refine W_seqB ?_ | refine W_block ?_ | (refine W_skip ?_; repeat (first | refine thenI ?_ | refine thenE ?_ | refine thenR ?_ | refine inBI ?_ | refine inBR ?_ | refine inBS ?_ | refine inBN (by decide) ?_)) | (refine W_condT ?hc ?_; (case hc => (simp (disch := omega) only [go_sem, ↓reduceIte, Nat.reduceEqDiff, Nat.reduceAdd, Nat.reduceLeDiff, m1, m2, n1, n2, hlen, e1, e2, e3, e7, e21, l3, c1, hi, idxA, Int.toNat_natCast, o2, k3]; done))) | (refine W_condF ?hc ?_; (case hc => (simp (disch := omega) only [go_sem, ↓reduceIte, Nat.reduceEqDiff, Nat.reduceAdd, Nat.reduceLeDiff, m1, m2, n1, n2, hlen, e1, e2, e3, e7, e21, l3, c1, hi, idxA, Int.toNat_natCast, o2, k3]; done))))
      refine ⟨args.length - (j + 1), by omega, j + 1, rD, L', .pointer (some ⟨3, 3, some 1⟩), rfl, by omega, hgD, hD, hfD, hpD, hdD, rfl, (by (simp (disch := omega) only [go_sem, ↓reduceIte, Nat.reduceEqDiff, Nat.reduceAdd, Nat.reduceLeDiff, m1, m2, n1, n2, hlen, e1, e2, e3, e7, e21, l3, c1, hi, idxA, Int.toNat_natCast, o2, k3]); try rfl), (by (simp (disch := omega) only [go_sem, ↓reduceIte, Nat.reduceEqDiff, Nat.reduceAdd, Nat.reduceLeDiff, m1, m2, n1, n2, hlen, e1, e2, e3, e7, e21, l3, c1, hi, idxA, Int.toNat_natCast, o2, k3]); try rfl), (by (simp (disch := omega) only [go_sem, ↓reduceIte, Nat.reduceEqDiff, Nat.reduceAdd, Nat.reduceLeDiff, m1, m2, n1, n2, hlen, e1, e2, e3, e7, e21, l3, c1, hi, idxA, Int.toNat_natCast, o2, k3]); try rfl), (by (simp (disch := omega) only [go_sem, ↓reduceIte, Nat.reduceEqDiff, Nat.reduceAdd, Nat.reduceLeDiff, m1, m2, n1, n2, hlen, e1, e2, e3, e7, e21, l3, c1, hi, idxA, Int.toNat_natCast, o2, k3]); try rfl), (by (simp (disch := omega) only [go_sem, ↓reduceIte, Nat.reduceEqDiff, Nat.reduceAdd, Nat.reduceLeDiff, m1, m2, n1, n2, hlen, e1, e2, e3, e7, e21, l3, c1, hi, idxA, Int.toNat_natCast, o2, k3]); try rfl), (by (simp (disch := omega) only [go_sem, ↓reduceIte, Nat.reduceEqDiff, Nat.reduceAdd, Nat.reduceLeDiff, m1, m2, n1, n2, hlen, e1, e2, e3, e7, e21, l3, c1, hi, idxA, Int.toNat_natCast, o2, k3]); try rfl)⟩
    · simp only [pickOps, List.filterMap_cons, List.filterMap_nil, List.getElem?_cons_zero, List.getElem?_cons_succ, Option.map_some]; simp (disch := omega) only [go_sem, ↓reduceIte, Nat.reduceEqDiff, Nat.reduceAdd, Nat.reduceLeDiff, hG, m1, m2, n1, n2, hlen, e1, e2, e3, e7, e21, l3, c1, hi, idxA, Int.toNat_natCast, o2, hld0, o2]
      obtain ⟨s1, sB, L1b, hap1, hs1, hf1, xB, hot⟩ := walkApp (X := st' ++ [(⟨[], 3, 0⟩ : Blk)] ++ [(⟨[.int .i64 j], 3, 0⟩ : Blk)]) (e := st'.length) hpp ((Ext.app _ _).trans (Ext.app _ _)) getA2 (by simp) (by omega)
      have hbI : sB[(st' ++ [(⟨[], 3, 0⟩ : Blk)]).length]? = some (⟨[.int .i64 j], 3, 0⟩ : Blk) := by rw [hot _ (by simp) (by simp)]; exact getB2
      obtain ⟨s2, sC, L2, hap2, hs2, hf2, xC⟩ := walkApp2 (n := j) hs1 hf1 xB (Ext.refl _) hbI (by omega)
      have k1 := hs1.loc
      have k2 := hs2.loc
      have hldC := fun loc => load_row (A := []) (loc := loc) ag26 sz26 hcl (hcs.ext (hext.trans xC))
      simp (disch := omega) only [go_sem, ↓reduceIte, Nat.reduceEqDiff, Nat.reduceAdd, Nat.reduceLeDiff, m1, m2, n1, n2, hlen, e1, e2, e3, e7, e21, l3, c1, hi, idxA, Int.toNat_natCast, o2, w_append, hap1, hap2, o2, k1, k2, hldC]
      refine w_call (hcall sC s2 L2 hs2 hf2 xC) (by simp (disch := omega) only [go_sem, ↓reduceIte, Nat.reduceEqDiff, m1, m2, n1, n2, hlen, e1, e2, e3, e7, e21, l3, c1, hi, idxA, Int.toNat_natCast, o2, k2]) ?hl ?_
      case hl => first | rfl | (simp only [go_sem, List.all_cons, List.all_nil, Bool.not_false, Bool.and_self, m1, m2, n1, n2, hlen, e1, e2, e3, e7, e21, l3, c1, hi, idxA, Int.toNat_natCast, o2, k2]; done)
      rintro rD sD ⟨hgD, ⟨L', hD, hfD⟩, hpD, hdD⟩; refine ⟨fun e => (by cases e), ?_⟩
      have k3 := hD.loc
      simp (disch := omega) only [go_sem, ↓reduceIte, Nat.reduceEqDiff, Nat.reduceAdd, Nat.reduceLeDiff, hG, m1, m2, n1, n2, hlen, e1, e2, e3, e7, e21, l3, c1, hi, idxA, Int.toNat_natCast, o2, k3, k3]; refine hK _ _ ?_; clear hK K hG G; repeat (first | refine thenI ?_ | refine thenE ?_ | refine thenR ?_ | refine inBI ?_ | refine inBR ?_ | refine inBS ?_ | refine inBN (by decide) ?_)
      repeat (first | (refine W_reg rfl fun G K hG hK => ?_; simp (disch := omega) only [go_sem, ↓reduceIte, Nat.reduceEqDiff, Nat.reduceAdd, Nat.reduceLeDiff, hG, m1, m2, n1, n2, hlen, e1, e2, e3, e7, e21, l3, c1, hi, idxA, Int.toNat_natCast, o2, k3]; refine hK _ _ ?_; clear hK K hG G) | (refine W_end rfl fun G K hG hK => ?_; simp (disch := omega) only [go_sem, ↓reduceIte, Nat.reduceEqDiff, Nat.reduceAdd, Nat.reduceLeDiff, hG, m1, m2, n1, n2, hlen, e1, e2, e3, e7, e21, l3, c1, hi, idxA, Int.toNat_natCast, o2, k3]; refine hK _ _ ?_; clear hK K hG G; repeat (first | refine thenI ?_ | refine thenE ?_ | refine thenR ?_ | refine inBI ?_ | refine inBR ?_ | refine inBS ?_ | refine inBN (by decide) ?_)) | refine W_seqS ?_ | refine W_seqC ?_ | refine W_seqB ?_ | refine W_block ?_ | (refine W_skip ?_; repeat (first | refine thenI ?_ | refine thenE ?_ | refine thenR ?_ | refine inBI ?_ | refine inBR ?_ | refine inBS ?_ | refine inBN (by decide) ?_)) | (refine W_condT ?hc ?_; (case hc => (simp (disch := omega) only [go_sem, ↓reduceIte, Nat.reduceEqDiff, Nat.reduceAdd, Nat.reduceLeDiff, m1, m2, n1, n2, hlen, e1, e2, e3, e7, e21, l3, c1, hi, idxA, Int.toNat_natCast, o2, k3]; done))) | (refine W_condF ?hc ?_; (case hc => (simp (disch := omega) only [go_sem, ↓reduceIte, Nat.reduceEqDiff, Nat.reduceAdd, Nat.reduceLeDiff, m1, m2, n1, n2, hlen, e1, e2, e3, e7, e21, l3, c1, hi, idxA, Int.toNat_natCast, o2, k3]; done))))
      refine ⟨args.length - (j + 1), by omega, j + 1, rD, L', .pointer (some ⟨3, 3, some 1⟩), rfl, by omega, hgD, hD, hfD, hpD, hdD, rfl, (by (simp (disch := omega) only [go_sem, ↓reduceIte, Nat.reduceEqDiff, Nat.reduceAdd, Nat.reduceLeDiff, m1, m2, n1, n2, hlen, e1, e2, e3, e7, e21, l3, c1, hi, idxA, Int.toNat_natCast, o2, k3]); try rfl), (by (simp (disch := omega) only [go_sem, ↓reduceIte, Nat.reduceEqDiff, Nat.reduceAdd, Nat.reduceLeDiff, m1, m2, n1, n2, hlen, e1, e2, e3, e7, e21, l3, c1, hi, idxA, Int.toNat_natCast, o2, k3]); try rfl), (by (simp (disch := omega) only [go_sem, ↓reduceIte, Nat.reduceEqDiff, Nat.reduceAdd, Nat.reduceLeDiff, m1, m2, n1, n2, hlen, e1, e2, e3, e7, e21, l3, c1, hi, idxA, Int.toNat_natCast, o2, k3]); try rfl), (by (simp (disch := omega) only [go_sem, ↓reduceIte, Nat.reduceEqDiff, Nat.reduceAdd, Nat.reduceLeDiff, m1, m2, n1, n2, hlen, e1, e2, e3, e7, e21, l3, c1, hi, idxA, Int.toNat_natCast, o2, k3]); try rfl), (by (simp (disch := omega) only [go_sem, ↓reduceIte, Nat.reduceEqDiff, Nat.reduceAdd, Nat.reduceLeDiff, m1, m2, n1, n2, hlen, e1, e2, e3, e7, e21, l3, c1, hi, idxA, Int.toNat_natCast, o2, k3]); try rfl), (by (simp (disch := omega) only [go_sem, ↓reduceIte, Nat.reduceEqDiff, Nat.reduceAdd, Nat.reduceLeDiff, m1, m2, n1, n2, hlen, e1, e2, e3, e7, e21, l3, c1, hi, idxA, Int.toNat_natCast, o2, k3]); try rfl)⟩
    · simp only [pickOps, List.filterMap_cons, List.filterMap_nil, List.getElem?_cons_zero, List.getElem?_cons_succ, Option.map_some]; simp (disch := omega) only [go_sem, ↓reduceIte, Nat.reduceEqDiff, Nat.reduceAdd, Nat.reduceLeDiff, hG, m1, m2, n1, n2, hlen, e1, e2, e3, e7, e21, l3, c1, hi, idxA, Int.toNat_natCast, o2, hld0, o2]
      obtain ⟨s1, sB, L1b, hap1, hs1, hf1, xB, hot⟩ := walkApp (X := st' ++ [(⟨[], 3, 0⟩ : Blk)]) (e := st'.length) hpp (Ext.app _ _) (by simp) (by simp) (by omega)
      have hbI : (sB ++ [(⟨[.int .i64 j], 3, 0⟩ : Blk)])[sB.length]? = some (⟨[.int .i64 j], 3, 0⟩ : Blk) := by simp
      obtain ⟨s2, sC, L2, hap2, hs2, hf2, xC⟩ := walkApp2 (n := j) hs1 hf1 xB (Ext.app _ _) hbI (by omega)
      have k1 := hs1.loc
      have k2 := hs2.loc
      simp (disch := omega) only [go_sem, ↓reduceIte, Nat.reduceEqDiff, Nat.reduceAdd, Nat.reduceLeDiff, m1, m2, n1, n2, hlen, e1, e2, e3, e7, e21, l3, c1, hi, idxA, Int.toNat_natCast, o2, w_append, hap1, hap2, o2, k1, k2]
      refine w_call (hcall sC s2 L2 hs2 hf2 xC) (by simp (disch := omega) only [go_sem, ↓reduceIte, Nat.reduceEqDiff, m1, m2, n1, n2, hlen, e1, e2, e3, e7, e21, l3, c1, hi, idxA, Int.toNat_natCast, o2, k2]) ?hl ?_
      case hl => first | rfl | (simp only [go_sem, List.all_cons, List.all_nil, Bool.not_false, Bool.and_self, m1, m2, n1, n2, hlen, e1, e2, e3, e7, e21, l3, c1, hi, idxA, Int.toNat_natCast, o2, k2]; done)
      rintro rD sD ⟨hgD, ⟨L', hD, hfD⟩, hpD, hdD⟩; refine ⟨fun e => (by cases e), ?_⟩
      have k3 := hD.loc
      simp (disch := omega) only [go_sem, ↓reduceIte, Nat.reduceEqDiff, Nat.reduceAdd, Nat.reduceLeDiff, hG, m1, m2, n1, n2, hlen, e1, e2, e3, e7, e21, l3, c1, hi, idxA, Int.toNat_natCast, o2, k3, k3]; refine hK _ _ ?_; clear hK K hG G; repeat (first | refine thenI ?_ | refine thenE ?_ | refine thenR ?_ | refine inBI ?_ | refine inBR ?_ | refine inBS ?_ | refine inBN (by decide) ?_)
      repeat (first | (refine W_reg rfl fun G K hG hK => ?_; simp (disch := omega) only [go_sem, ↓reduceIte, Nat.reduceEqDiff, Nat.reduceAdd, Nat.reduceLeDiff, hG, m1, m2, n1, n2, hlen, e1, e2, e3, e7, e21, l3, c1, hi, idxA, Int.toNat_natCast, o2, k3]; refine hK _ _ ?_; clear hK K hG G) | (refine W_end rfl fun G K hG hK => ?_; simp (disch := omega) only [go_sem, ↓reduceIte, Nat.reduceEqDiff, Nat.reduceAdd, Nat.reduceLeDiff, hG, m1, m2, n1, n2, hlen, e1, e2, e3, e7, e21, l3, c1, hi, idxA, Int.toNat_natCast, o2, k3]; refine hK _ _ ?_; clear hK K hG G; repeat (first | refine thenI ?_ | refine thenE ?_ | refine thenR ?_ | refine inBI ?_ | refine inBR ?_ | refine inBS ?_ | refine inBN (by decide) ?_)) | refine W_seqS ?_ | refine W_seqC ?_ | refine W_seqB ?_ | refine W_block ?_ | (refine W_skip ?_; repeat (first | refine thenI ?_ | refine thenE ?_ | refine thenR ?_ | refine inBI ?_ | refine inBR ?_ | refine inBS ?_ | refine inBN (by decide) ?_)) | (refine W_condT ?hc ?_; (case hc => (simp (disch := omega) only [go_sem, ↓reduceIte, Nat.reduceEqDiff, Nat.reduceAdd, Nat.reduceLeDiff, m1, m2, n1, n2, hlen, e1, e2, e3, e7, e21, l3, c1, hi, idxA, Int.toNat_natCast, o2, k3]; done))) | (refine W_condF ?hc ?_; (case hc => (simp (disch := omega) only [go_sem, ↓reduceIte, Nat.reduceEqDiff, Nat.reduceAdd, Nat.reduceLeDiff, m1, m2, n1, n2, hlen, e1, e2, e3, e7, e21, l3, c1, hi, idxA, Int.toNat_natCast, o2, k3]; done))))
      refine ⟨args.length - (j + 1), by omega, j + 1, rD, L', .pointer (some ⟨3, 3, some 1⟩), rfl, by omega, hgD, hD, hfD, hpD, hdD, rfl, (by (simp (disch := omega) only [go_sem, ↓reduceIte, Nat.reduceEqDiff, Nat.reduceAdd, Nat.reduceLeDiff, m1, m2, n1, n2, hlen, e1, e2, e3, e7, e21, l3, c1, hi, idxA, Int.toNat_natCast, o2, k3]); try rfl), (by (simp (disch := omega) only [go_sem, ↓reduceIte, Nat.reduceEqDiff, Nat.reduceAdd, Nat.reduceLeDiff, m1, m2, n1, n2, hlen, e1, e2, e3, e7, e21, l3, c1, hi, idxA, Int.toNat_natCast, o2, k3]); try rfl), (by (simp (disch := omega) only [go_sem, ↓reduceIte, Nat.reduceEqDiff, Nat.reduceAdd, Nat.reduceLeDiff, m1, m2, n1, n2, hlen, e1, e2, e3, e7, e21, l3, c1, hi, idxA, Int.toNat_natCast, o2, k3]); try rfl), (by (simp (disch := omega) only [go_sem, ↓reduceIte, Nat.reduceEqDiff, Nat.reduceAdd, Nat.reduceLeDiff, m1, m2, n1, n2, hlen, e1, e2, e3, e7, e21, l3, c1, hi, idxA, Int.toNat_natCast, o2, k3]); try rfl), (by (simp (disch := omega) only [go_sem, ↓reduceIte, Nat.reduceEqDiff, Nat.reduceAdd, Nat.reduceLeDiff, m1, m2, n1, n2, hlen, e1, e2, e3, e7, e21, l3, c1, hi, idxA, Int.toNat_natCast, o2, k3]); try rfl), (by (simp (disch := omega) only [go_sem, ↓reduceIte, Nat.reduceEqDiff, Nat.reduceAdd, Nat.reduceLeDiff, m1, m2, n1, n2, hlen, e1, e2, e3, e7, e21, l3, c1, hi, idxA, Int.toNat_natCast, o2, k3]); try rfl)⟩
    · simp only [pickOps, List.filterMap_cons, List.filterMap_nil, List.getElem?_cons_zero, List.getElem?_cons_succ, Option.map_some]; simp (disch := omega) only [go_sem, ↓reduceIte, Nat.reduceEqDiff, Nat.reduceAdd, Nat.reduceLeDiff, hG, m1, m2, n1, n2, hlen, e1, e2, e3, e7, e21, l3, c1, hi, idxA, Int.toNat_natCast, o2, hld0, o2]
      obtain ⟨s1, sB, L1b, hap1, hs1, hf1, xB, hot⟩ := walkApp (X := st' ++ [(⟨[], 3, 0⟩ : Blk)]) (e := st'.length) hpp (Ext.app _ _) (by simp) (by simp) (by omega)
      have hbI : (sB ++ [(⟨[.int .i64 j], 3, 0⟩ : Blk)])[sB.length]? = some (⟨[.int .i64 j], 3, 0⟩ : Blk) := by simp
      obtain ⟨s2, sC, L2, hap2, hs2, hf2, xC⟩ := walkApp2 (n := j) hs1 hf1 xB (Ext.app _ _) hbI (by omega)
      have k1 := hs1.loc
      have k2 := hs2.loc
      have hldB := fun loc => load_row (A := []) (loc := loc) ag26 sz26 hcl (hcs.ext (hext.trans xB))
      simp (disch := omega) only [go_sem, ↓reduceIte, Nat.reduceEqDiff, Nat.reduceAdd, Nat.reduceLeDiff, m1, m2, n1, n2, hlen, e1, e2, e3, e7, e21, l3, c1, hi, idxA, Int.toNat_natCast, o2, w_append, hap1, hap2, o2, k1, k2, hldB]
      refine w_call (hcall sC s2 L2 hs2 hf2 xC) (by simp (disch := omega) only [go_sem, ↓reduceIte, Nat.reduceEqDiff, m1, m2, n1, n2, hlen, e1, e2, e3, e7, e21, l3, c1, hi, idxA, Int.toNat_natCast, o2, k2]) ?hl ?_
      case hl => first | rfl | (simp only [go_sem, List.all_cons, List.all_nil, Bool.not_false, Bool.and_self, m1, m2, n1, n2, hlen, e1, e2, e3, e7, e21, l3, c1, hi, idxA, Int.toNat_natCast, o2, k2]; done)
      rintro rD sD ⟨hgD, ⟨L', hD, hfD⟩, hpD, hdD⟩; refine ⟨fun e => (by cases e), ?_⟩
      have k3 := hD.loc
      simp (disch := omega) only [go_sem, ↓reduceIte, Nat.reduceEqDiff, Nat.reduceAdd, Nat.reduceLeDiff, hG, m1, m2, n1, n2, hlen, e1, e2, e3, e7, e21, l3, c1, hi, idxA, Int.toNat_natCast, o2, k3, k3]; refine hK _ _ ?_; clear hK K hG G; repeat (first | refine thenI ?_ | refine thenE ?_ | refine thenR ?_ | refine inBI ?_ | refine inBR ?_ | refine inBS ?_ | refine inBN (by decide) ?_)
      repeat (first | (refine W_reg rfl fun G K hG hK => ?_; simp (disch := omega) only [go_sem, ↓reduceIte, Nat.reduceEqDiff, Nat.reduceAdd, Nat.reduceLeDiff, hG, m1, m2, n1, n2, hlen, e1, e2, e3, e7, e21, l3, c1, hi, idxA, Int.toNat_natCast, o2, k3]; refine hK _ _ ?_; clear hK K hG G) | (refine W_end rfl fun G K hG hK => ?_; simp (disch := omega) only [go_sem, ↓reduceIte, Nat.reduceEqDiff, Nat.reduceAdd, Nat.reduceLeDiff, hG, m1, m2, n1, n2, hlen, e1, e2, e3, e7, e21, l3, c1, hi, idxA, Int.toNat_natCast, o2, k3]; refine hK _ _ ?_; clear hK K hG G; repeat (first | refine thenI ?_ | refine thenE ?_ | refine thenR ?_ | refine inBI ?_ | refine inBR ?_ | refine inBS ?_ | refine inBN (by decide) ?_)) | refine W_seqS ?_ | refine W_seqC ?_ | refine W_seqB ?_ | refine W_block ?_ | (refine W_skip ?_; repeat (first | refine thenI ?_ | refine thenE ?_ | refine thenR ?_ | refine inBI ?_ | refine inBR ?_ | refine inBS ?_ | refine inBN (by decide) ?_)) | (refine W_condT ?hc ?_; (case hc => (simp (disch := omega) only [go_sem, ↓reduceIte, Nat.reduceEqDiff, Nat.reduceAdd, Nat.reduceLeDiff, m1, m2, n1, n2, hlen, e1, e2, e3, e7, e21, l3, c1, hi, idxA, Int.toNat_natCast, o2, k3]; done))) | (refine W_condF ?hc ?_; (case hc => (simp (disch := omega) only [go_sem, ↓reduceIte, Nat.reduceEqDiff, Nat.reduceAdd, Nat.reduceLeDiff, m1, m2, n1, n2, hlen, e1, e2, e3, e7, e21, l3, c1, hi, idxA, Int.toNat_natCast, o2, k3]; done))))
      refine ⟨args.length - (j + 1), by omega, j + 1, rD, L', .pointer (some ⟨3, 3, some 1⟩), rfl, by omega, hgD, hD, hfD, hpD, hdD, rfl, (by (simp (disch := omega) only [go_sem, ↓reduceIte, Nat.reduceEqDiff, Nat.reduceAdd, Nat.reduceLeDiff, m1, m2, n1, n2, hlen, e1, e2, e3, e7, e21, l3, c1, hi, idxA, Int.toNat_natCast, o2, k3]); try rfl), (by (simp (disch := omega) only [go_sem, ↓reduceIte, Nat.reduceEqDiff, Nat.reduceAdd, Nat.reduceLeDiff, m1, m2, n1, n2, hlen, e1, e2, e3, e7, e21, l3, c1, hi, idxA, Int.toNat_natCast, o2, k3]); try rfl), (by (simp (disch := omega) only [go_sem, ↓reduceIte, Nat.reduceEqDiff, Nat.reduceAdd, Nat.reduceLeDiff, m1, m2, n1, n2, hlen, e1, e2, e3, e7, e21, l3, c1, hi, idxA, Int.toNat_natCast, o2, k3]); try rfl), (by (simp (disch := omega) only [go_sem, ↓reduceIte, Nat.reduceEqDiff, Nat.reduceAdd, Nat.reduceLeDiff, m1, m2, n1, n2, hlen, e1, e2, e3, e7, e21, l3, c1, hi, idxA, Int.toNat_natCast, o2, k3]); try rfl), (by (simp (disch := omega) only [go_sem, ↓reduceIte, Nat.reduceEqDiff, Nat.reduceAdd, Nat.reduceLeDiff, m1, m2, n1, n2, hlen, e1, e2, e3, e7, e21, l3, c1, hi, idxA, Int.toNat_natCast, o2, k3]); try rfl), (by (simp (disch := omega) only [go_sem, ↓reduceIte, Nat.reduceEqDiff, Nat.reduceAdd, Nat.reduceLeDiff, m1, m2, n1, n2, hlen, e1, e2, e3, e7, e21, l3, c1, hi, idxA, Int.toNat_natCast, o2, k3]); try rfl)⟩
    · simp only [pickOps, List.filterMap_cons, List.filterMap_nil, List.getElem?_cons_zero, List.getElem?_cons_succ, Option.map_some]; simp (disch := omega) only [go_sem, ↓reduceIte, Nat.reduceEqDiff, Nat.reduceAdd, Nat.reduceLeDiff, hG, m1, m2, n1, n2, hlen, e1, e2, e3, e7, e21, l3, c1, hi, idxA, Int.toNat_natCast, o2, hld0, o2]
      obtain ⟨s1, sB, L1b, hap1, hs1, hf1, xB, hot⟩ := walkApp (X := st' ++ [(⟨[], 3, 0⟩ : Blk)]) (e := st'.length) hpp (Ext.app _ _) (by simp) (by simp) (by omega)
      have hbI : (sB ++ [(⟨[.int .i64 j], 3, 0⟩ : Blk)])[sB.length]? = some (⟨[.int .i64 j], 3, 0⟩ : Blk) := by simp
      obtain ⟨s2, sC, L2, hap2, hs2, hf2, xC⟩ := walkApp2 (n := j) hs1 hf1 xB (Ext.app _ _) hbI (by omega)
      have k1 := hs1.loc
      have k2 := hs2.loc
      have hldC := fun loc => load_row (A := []) (loc := loc) ag26 sz26 hcl (hcs.ext (hext.trans xC))
      simp (disch := omega) only [go_sem, ↓reduceIte, Nat.reduceEqDiff, Nat.reduceAdd, Nat.reduceLeDiff, m1, m2, n1, n2, hlen, e1, e2, e3, e7, e21, l3, c1, hi, idxA, Int.toNat_natCast, o2, w_append, hap1, hap2, o2, k1, k2, hldC]
      refine w_call (hcall sC s2 L2 hs2 hf2 xC) (by simp (disch := omega) only [go_sem, ↓reduceIte, Nat.reduceEqDiff, m1, m2, n1, n2, hlen, e1, e2, e3, e7, e21, l3, c1, hi, idxA, Int.toNat_natCast, o2, k2]) ?hl ?_
      case hl => first | rfl | (simp only [go_sem, List.all_cons, List.all_nil, Bool.not_false, Bool.and_self, m1, m2, n1, n2, hlen, e1, e2, e3, e7, e21, l3, c1, hi, idxA, Int.toNat_natCast, o2, k2]; done)
      rintro rD sD ⟨hgD, ⟨L', hD, hfD⟩, hpD, hdD⟩; refine ⟨fun e => (by cases e), ?_⟩
      have k3 := hD.loc
      simp (disch := omega) only [go_sem, ↓reduceIte, Nat.reduceEqDiff, Nat.reduceAdd, Nat.reduceLeDiff, hG, m1, m2, n1, n2, hlen, e1, e2, e3, e7, e21, l3, c1, hi, idxA, Int.toNat_natCast, o2, k3, k3]; refine hK _ _ ?_; clear hK K hG G; repeat (first | refine thenI ?_ | refine thenE ?_ | refine thenR ?_ | refine inBI ?_ | refine inBR ?_ | refine inBS ?_ | refine inBN (by decide) ?_)
      repeat (first | (refine W_reg rfl fun G K hG hK => ?_; simp (disch := omega) only [go_sem, ↓reduceIte, Nat.reduceEqDiff, Nat.reduceAdd, Nat.reduceLeDiff, hG, m1, m2, n1, n2, hlen, e1, e2, e3, e7, e21, l3, c1, hi, idxA, Int.toNat_natCast, o2, k3]; refine hK _ _ ?_; clear hK K hG G) | (refine W_end rfl fun G K hG hK => ?_; simp (disch := omega) only [go_sem, ↓reduceIte, Nat.reduceEqDiff, Nat.reduceAdd, Nat.reduceLeDiff, hG, m1, m2, n1, n2, hlen, e1, e2, e3, e7, e21, l3, c1, hi, idxA, Int.toNat_natCast, o2, k3]; refine hK _ _ ?_; clear hK K hG G; repeat (first | refine thenI ?_ | refine thenE ?_ | refine thenR ?_ | refine inBI ?_ | refine inBR ?_ | refine inBS ?_ | refine inBN (by decide) ?_)) | refine W_seqS ?_ | refine W_seqC ?_ | refine W_seqB ?_ | refine W_block ?_ | (refine W_skip ?_; repeat (first | refine thenI ?_ | refine thenE ?_ | refine thenR ?_ | refine inBI ?_ | refine inBR ?_ | refine inBS ?_ | refine inBN (by decide) ?_)) | (refine W_condT ?hc ?_; (case hc => (simp (disch := omega) only [go_sem, ↓reduceIte, Nat.reduceEqDiff, Nat.reduceAdd, Nat.reduceLeDiff, m1, m2, n1, n2, hlen, e1, e2, e3, e7, e21, l3, c1, hi, idxA, Int.toNat_natCast, o2, k3]; done))) | (refine W_condF ?hc ?_; (case hc => (simp (disch := omega) only [go_sem, ↓reduceIte, Nat.reduceEqDiff, Nat.reduceAdd, Nat.reduceLeDiff, m1, m2, n1, n2, hlen, e1, e2, e3, e7, e21, l3, c1, hi, idxA, Int.toNat_natCast, o2, k3]; done))))
      refine ⟨args.length - (j + 1), by omega, j + 1, rD, L', .pointer (some ⟨3, 3, some 1⟩), rfl, by omega, hgD, hD, hfD, hpD, hdD, rfl, (by (simp (disch := omega) only [go_sem, ↓reduceIte, Nat.reduceEqDiff, Nat.reduceAdd, Nat.reduceLeDiff, m1, m2, n1, n2, hlen, e1, e2, e3, e7, e21, l3, c1, hi, idxA, Int.toNat_natCast, o2, k3]); try rfl), (by (simp (disch := omega) only [go_sem, ↓reduceIte, Nat.reduceEqDiff, Nat.reduceAdd, Nat.reduceLeDiff, m1, m2, n1, n2, hlen, e1, e2, e3, e7, e21, l3, c1, hi, idxA, Int.toNat_natCast, o2, k3]); try rfl), (by (simp (disch := omega) only [go_sem, ↓reduceIte, Nat.reduceEqDiff, Nat.reduceAdd, Nat.reduceLeDiff, m1, m2, n1, n2, hlen, e1, e2, e3, e7, e21, l3, c1, hi, idxA, Int.toNat_natCast, o2, k3]); try rfl), (by (simp (disch := omega) only [go_sem, ↓reduceIte, Nat.reduceEqDiff, Nat.reduceAdd, Nat.reduceLeDiff, m1, m2, n1, n2, hlen, e1, e2, e3, e7, e21, l3, c1, hi, idxA, Int.toNat_natCast, o2, k3]); try rfl), (by (simp (disch := omega) only [go_sem, ↓reduceIte, Nat.reduceEqDiff, Nat.reduceAdd, Nat.reduceLeDiff, m1, m2, n1, n2, hlen, e1, e2, e3, e7, e21, l3, c1, hi, idxA, Int.toNat_natCast, o2, k3]); try rfl), (by (simp (disch := omega) only [go_sem, ↓reduceIte, Nat.reduceEqDiff, Nat.reduceAdd, Nat.reduceLeDiff, m1, m2, n1, n2, hlen, e1, e2, e3, e7, e21, l3, c1, hi, idxA, Int.toNat_natCast, o2, k3]); try rfl)⟩
  · have c1 : decide ((j : Int) < (args.length : Int)) = false := by simpa using hlt
    have hjn : j = args.length := by omega
    subst hjn
    rw [List.take_length] at hown
    have o2 := hown.loc
    repeat (first | (refine W_reg rfl fun G K hG hK => ?_; simp (disch := omega) only [go_sem, ↓reduceIte, Nat.reduceEqDiff, Nat.reduceAdd, Nat.reduceLeDiff, hG, m1, m2, n1, n2, hlen, e1, e2, e3, e7, e21, l3, c1]; refine hK _ _ ?_; clear hK K hG G) | (refine W_end rfl fun G K hG hK => ?_; simp (disch := omega) only [go_sem, ↓reduceIte, Nat.reduceEqDiff, Nat.reduceAdd, Nat.reduceLeDiff, hG, m1, m2, n1, n2, hlen, e1, e2, e3, e7, e21, l3, c1]; refine hK _ _ ?_; clear hK K hG G; repeat (first | refine thenI ?_ | refine thenE ?_ | refine thenR ?_ | refine inBI ?_ | refine inBR ?_ | refine inBS ?_ | refine inBN (by decide) ?_)) | refine W_seqS ?_ | refine W_seqC ?_ | refine W_seqB ?_ | refine W_block ?_ | (refine W_skip ?_; repeat (first | refine thenI ?_ | refine thenE ?_ | refine thenR ?_ | refine inBI ?_ | refine inBR ?_ | refine inBS ?_ | refine inBN (by decide) ?_)) | (refine W_condT ?hc ?_; (case hc => (simp (disch := omega) only [go_sem, ↓reduceIte, Nat.reduceEqDiff, Nat.reduceAdd, Nat.reduceLeDiff, m1, m2, n1, n2, hlen, e1, e2, e3, e7, e21, l3, c1]; done))) | (refine W_condF ?hc ?_; (case hc => (simp (disch := omega) only [go_sem, ↓reduceIte, Nat.reduceEqDiff, Nat.reduceAdd, Nat.reduceLeDiff, m1, m2, n1, n2, hlen, e1, e2, e3, e7, e21, l3, c1]; done))))
    refine W_exit ?_; repeat (first | refine thenI ?_ | refine thenE ?_ | refine thenR ?_ | refine inBI ?_ | refine inBR ?_ | refine inBS ?_ | refine inBN (by decide) ?_)
    repeat (first | (refine W_reg rfl fun G K hG hK => ?_; simp (disch := omega) only [go_sem, ↓reduceIte, Nat.reduceEqDiff, Nat.reduceAdd, Nat.reduceLeDiff, hG, m1, m2, n1, n2, hlen, e1, e2, e3, e7, e21, l3, c1]; refine hK _ _ ?_; clear hK K hG G) | (refine W_end rfl fun G K hG hK => ?_; simp (disch := omega) only [go_sem, ↓reduceIte, Nat.reduceEqDiff, Nat.reduceAdd, Nat.reduceLeDiff, hG, m1, m2, n1, n2, hlen, e1, e2, e3, e7, e21, l3, c1]; refine hK _ _ ?_; clear hK K hG G; repeat (first | refine thenI ?_ | refine thenE ?_ | refine thenR ?_ | refine inBI ?_ | refine inBR ?_ | refine inBS ?_ | refine inBN (by decide) ?_)) | refine W_seqS ?_ | refine W_seqC ?_ | refine W_seqB ?_ | refine W_block ?_ | (refine W_skip ?_; repeat (first | refine thenI ?_ | refine thenE ?_ | refine thenR ?_ | refine inBI ?_ | refine inBR ?_ | refine inBS ?_ | refine inBN (by decide) ?_)) | (refine W_condT ?hc ?_; (case hc => (simp (disch := omega) only [go_sem, ↓reduceIte, Nat.reduceEqDiff, Nat.reduceAdd, Nat.reduceLeDiff, m1, m2, n1, n2, hlen, e1, e2, e3, e7, e21, l3, c1]; done))) | (refine W_condF ?hc ?_; (case hc => (simp (disch := omega) only [go_sem, ↓reduceIte, Nat.reduceEqDiff, Nat.reduceAdd, Nat.reduceLeDiff, m1, m2, n1, n2, hlen, e1, e2, e3, e7, e21, l3, c1]; done))))
    refine W_ret ?_; try (repeat (first | refine thenI ?_ | refine thenE ?_ | refine thenR ?_ | refine inBI ?_ | refine inBR ?_ | refine inBS ?_ | refine inBN (by decide) ?_))
    refine fin1 (.inl rfl) (by (simp (disch := omega) only [go_sem, ↓reduceIte, Nat.reduceEqDiff, Nat.reduceAdd, Nat.reduceLeDiff, m1, m2, n1, n2, hlen, e1, e2, e3, e7, e21, l3, c1]); try rfl) o2 ⟨hgr, L1, hown, hfr⟩
theorem specPosOf_ok (t : T) (st : St) (cs : List Value) (hB : t.wt ≤ 1073741824) (hE : Enc st t cs) :
    CallS Try.prog 26 [.agg cs.toArray] st fun r st2 => Ext st st2 ∧ ∃ L2, Sl st2 (t.pos []) r L2 ∧ Fresh st.length L2 := by
  obtain ⟨k, n, m, s, rfl, a1, a2, a3⟩ := hE.args_cells
  refine CallS_of_W [] 7 Try.func26 rfl rfl rfl rfl (by simp) ?_
  repeat (first | (refine W_reg rfl fun G K hG hK => ?_; simp (disch := omega) only [go_sem, ↓reduceIte, Nat.reduceEqDiff, Nat.reduceAdd, Nat.reduceLeDiff, hG, a1, a2, a3]; refine hK _ _ ?_; clear hK K hG G) | (refine W_end rfl fun G K hG hK => ?_; simp (disch := omega) only [go_sem, ↓reduceIte, Nat.reduceEqDiff, Nat.reduceAdd, Nat.reduceLeDiff, hG, a1, a2, a3]; refine hK _ _ ?_; clear hK K hG G; repeat (first | refine thenI ?_ | refine thenE ?_ | refine thenR ?_ | refine inBI ?_ | refine inBR ?_ | refine inBS ?_ | refine inBN (by decide) ?_)) | refine W_seqS ?_ | refine W_seqC ?_ | refine W_seqB ?_ | refine W_block ?_ | (refine W_skip ?_; repeat (first | refine thenI ?_ | refine thenE ?_ | refine thenR ?_ | refine inBI ?_ | refine inBR ?_ | refine inBS ?_ | refine inBN (by decide) ?_)) | (refine W_condT ?hc ?_; (case hc => (simp (disch := omega) only [go_sem, ↓reduceIte, Nat.reduceEqDiff, Nat.reduceAdd, Nat.reduceLeDiff, a1, a2, a3]; done))) | (refine W_condF ?hc ?_; (case hc => (simp (disch := omega) only [go_sem, ↓reduceIte, Nat.reduceEqDiff, Nat.reduceAdd, Nat.reduceLeDiff, a1, a2, a3]; done))))
  (repeat (first | refine W_seqS ?_ | refine W_seqC ?_ | refine W_seqB ?_ | refine W_block ?_)); refine W_reg rfl fun G K hG hK => ?_; simp (disch := omega) only [go_sem, ↓reduceIte, Nat.reduceEqDiff, Nat.reduceAdd, Nat.reduceLeDiff, hG, a1, a2, a3]
  have x0 : Ext st (st ++ [(⟨[], 3, 0⟩ : Blk)] ++ [(⟨[], 27, 0⟩ : Blk)]) := (Ext.app _ _).trans (Ext.app _ _)
  refine w_call (specWalk_ok t [] [] st _ _ (.slice (some ⟨st.length, 0, none⟩) 0 0) _ _ [st.length] (by simp; omega) (by simp; omega) x0 hE ((Sl.empty (α := Int) st).ext (Ext.app _ _)) (by simp [topId]) (Sl.empty (α := List Int) _) ⟨by simp, by simp⟩) (by simp (disch := omega) only [go_sem, ↓reduceIte, Nat.reduceEqDiff, a1, a2, a3]) ?hl ?_
  case hl => first | rfl | (simp only [go_sem, List.all_cons, List.all_nil, Bool.not_false, Bool.and_self, a1, a2, a3]; done)
  rintro ra sa ⟨hg, L2, h1, h2⟩; refine ⟨fun e => (by cases e), ?_⟩
  have b := h1.loc
  simp (disch := omega) only [go_sem, ↓reduceIte, Nat.reduceEqDiff, Nat.reduceAdd, Nat.reduceLeDiff, hG, a1, a2, a3, b]; refine hK _ _ ?_; clear hK K hG G; repeat (first | refine thenI ?_ | refine thenE ?_ | refine thenR ?_ | refine inBI ?_ | refine inBR ?_ | refine inBS ?_ | refine inBN (by decide) ?_)
  refine W_ret ?_; try (repeat (first | refine thenI ?_ | refine thenE ?_ | refine thenR ?_ | refine inBI ?_ | refine inBR ?_ | refine inBS ?_ | refine inBN (by decide) ?_))
  refine fin1 (.inl rfl) (by (simp (disch := omega) only [go_sem, ↓reduceIte, Nat.reduceEqDiff, Nat.reduceAdd, Nat.reduceLeDiff, a1, a2, a3]); try rfl) b ⟨hg.away.ext_of x0 (.inr ⟨_, by simp, rfl⟩), L2, h1, h2⟩
end Go.Proofs.Ythimbmcffeiilaa.AM

