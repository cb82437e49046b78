/- Bindings are found and applied: impl.bound, impl.FindBind, spec.l7At, spec.FindBind, impl.ApplySubst, spec.ApplySubst. -/
import Derived.Test.YtgcimhplmnhjhaaC6
import Derived.Test.YtgcimhplmnhjhaaK3
namespace Go.Proofs.Ytgcimhplmnhjhaa.AM
open Go Go.Proofs
set_option linter.unusedVariables false
set_option linter.unusedSimpArgs false
set_option maxRecDepth 100000
attribute [local go_sem] List.map_cons List.map_nil List.all_cons List.all_nil Bool.and_self Option.map_some List.getElem?_toArray Option.bind_some gye_b gye_t gsk_b gsk_t gb1 gb2 gb3 gb4 bne_self_eq_false beq_self_eq_true w_guard w_nil stepV_some step_some step_some' w_move w_assign w_pick w_binOp w_unOp w_load w_fieldAddr w_indexAddr w_len w_box w_alloc w_store w_field w_extract w_nilCheck w_convert w_buildSlice w_build ev_buildL fillL_nil fillL_cons bs0 bs1 ev_conv ev_bin ev_un ev_pick ev_load ev_fieldAddr ev_indexAddr ev_len ev_field ev_extract ev_nilCheck fr_tmp fr_int fr_bool fr_str fr_nil fr_func put_some put_none bin_lss bin_leq bin_gtr bin_geq bin_eql bin_neq bin_add bin_sub bin_mul bin_seql bin_sneq un_not pick_ ext_ loadA_p cellAt_l cellAt_h okPtr_l okPtr_h fadA_p allocA_l storeA_l cells_agg cells_int cells_str cells_sl cells_bool flat_i flat_s flat_b flat_sl flat_nil loc_agg loc_int loc_str loc_sl loc_bool loc_fn loc_ptr okv_agg okv_int okv_str okv_sl okv_bool cellsFrom splice upd_eval argEnv_zero argEnv_succ ne_eq Nat.add_one_ne_zero not_false_eq_true List.not_mem_nil and_self decide_true List.getElem?_cons_zero List.getElem?_cons_succ List.size_toArray List.length_cons List.length_nil List.take_succ_cons List.take_zero List.drop_succ_cons List.drop_zero List.cons_append List.nil_append List.drop_nil Bool.not_true Bool.not_false Bool.false_eq_true Nat.zero_add Nat.add_zero wrap_in List.toList_toArray List.mem_cons or_self or_false false_or
attribute [local go_sem] ag22 ag24 ag28 ag3 ag30 ag62 ag9 by30 by9 el22 el26 el28 el45 of24_0 of24_1 of24_2 of24_3 of30_0 of30_1 of30_2 of30_3 ro5_1 ro9_0 ro9_1 sz22 sz24 sz28 sz3 sz30 sz5 sz62 sz9 ze3 ze30 ze62 ze9
-- AUTO

def T.zero' : T := .mk 0 0 ⟨#[]⟩ []
theorem own_zero' {e : TypeId} (st : St) : Own e st T.zero' [.int .i64 0, .int .i64 0, .string ⟨#[]⟩, .slice none 0 0] [] := .nil _ _ _
theorem Lim.zero' {B : Nat} : Lim B T.zero' := .mk _ _ _ _ (by simp) (by simp)
/-- The term of the first binding of a name. -/
def findB (nm : ByteArray) : List Bnd → Option T
  | [] => none
  | b :: bs => if (b.nm.toList == nm.toList) = true then some b.tm else findB nm bs
def atB (nm : ByteArray) : List Bnd → Nat → Option Nat
  | [], _ => none
  | b :: bs, k => if (b.nm.toList == nm.toList) = true then some k else atB nm bs (k + 1)
theorem atB_spec (nm : ByteArray) : ∀ (bs : List Bnd) (k : Nat), match atB nm bs k with
    | some i => k ≤ i ∧ i < k + bs.length ∧ ∃ b, bs[i - k]? = some b ∧ findB nm bs = some b.tm
    | none => findB nm bs = none := by
  intro bs
  induction bs with
  | nil => intro k; rfl
  | cons b bs ih =>
    intro k
    simp only [atB, findB]
    by_cases h : (b.nm.toList == nm.toList) = true
    · simp only [h, if_true]
      exact ⟨Nat.le_refl _, by simp, b, by simp, rfl⟩
    · simp only [if_neg h]
      have := ih (k + 1)
      cases hq : atB nm bs (k + 1) with
      | none => rw [hq] at this; exact this
      | some i =>
        rw [hq] at this
        obtain ⟨h1, h2, b', h3, h4⟩ := this
        refine ⟨by omega, by simp; omega, b', ?_, h4⟩
        rw [show i - k = (i - (k + 1)) + 1 by omega]; simpa using h3
theorem findB_mem {nm : ByteArray} {bs : List Bnd} {t : T} (h : findB nm bs = some t) : ∃ b ∈ bs, b.tm = t := by
  induction bs with
  | nil => cases h
  | cons b bs ih =>
    simp only [findB] at h
    split at h
    · exact ⟨b, by simp, Option.some.inj h⟩
    · obtain ⟨b', h1, h2⟩ := ih h; exact ⟨b', by simp [h1], h2⟩
abbrev findD (nm : ByteArray) (bs : List Bnd) : T := (findB nm bs).getD T.zero'
theorem Lim.findD {B : Nat} {nm : ByteArray} {bs : List Bnd} (h : ∀ b ∈ bs, Lim B b.tm) : Lim B (findD nm bs) := by
  unfold AM.findD
  cases hf : findB nm bs with
  | none => exact .zero'
  | some t => obtain ⟨b, h1, rfl⟩ := findB_mem hf; exact h b h1

end Go.Proofs.Ytgcimhplmnhjhaa.AM
