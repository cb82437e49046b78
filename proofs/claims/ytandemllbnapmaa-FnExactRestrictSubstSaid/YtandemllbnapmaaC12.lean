/- Substitutions are applied: impl.ApplySubst, spec.ApplySubst. -/
import Derived.Test.YtandemllbnapmaaC11
namespace Go.Proofs.Ytandemllbnapmaa.AM
open Go Go.Proofs
set_option linter.unusedVariables false
set_option linter.unusedSimpArgs false
set_option maxRecDepth 100000
attribute [local go_sem] List.map_cons List.map_nil List.all_cons List.all_nil Bool.and_self Option.map_some List.getElem?_toArray Option.bind_some gye_b gye_t gsk_b gsk_t gb1 gb2 gb3 gb4 bne_self_eq_false beq_self_eq_true w_guard w_nil stepV_some step_some step_some' w_move w_assign w_pick w_binOp w_unOp w_load w_fieldAddr w_indexAddr w_len w_box w_alloc w_store w_field w_extract w_nilCheck w_convert w_buildSlice w_build ev_buildL fillL_nil fillL_cons bs0 bs1 ev_conv ev_bin ev_un ev_pick ev_load ev_fieldAddr ev_indexAddr ev_len ev_field ev_extract ev_nilCheck fr_tmp fr_int fr_bool fr_str fr_nil fr_func put_some put_none bin_lss bin_leq bin_gtr bin_geq bin_eql bin_neq bin_add bin_sub bin_mul bin_seql bin_sneq un_not pick_ ext_ loadA_p cellAt_l cellAt_h okPtr_l okPtr_h fadA_p allocA_l storeA_l cells_agg cells_int cells_str cells_sl cells_bool flat_i flat_s flat_b flat_sl flat_nil loc_agg loc_int loc_str loc_sl loc_bool loc_fn loc_ptr okv_agg okv_int okv_str okv_sl okv_bool cellsFrom splice upd_eval argEnv_zero argEnv_succ ne_eq Nat.add_one_ne_zero not_false_eq_true List.not_mem_nil and_self decide_true List.getElem?_cons_zero List.getElem?_cons_succ List.size_toArray List.length_cons List.length_nil List.take_succ_cons List.take_zero List.drop_succ_cons List.drop_zero List.cons_append List.nil_append List.drop_nil Bool.not_true Bool.not_false Bool.false_eq_true Nat.zero_add Nat.add_zero wrap_in List.toList_toArray List.mem_cons or_self or_false false_or
attribute [local go_sem] ag3 ag35 ag37 ag39 ag40 ag42 ag46 ag77 ag9 bu42 bu46 by42 by46 by9 el22 el23 el26 el35 el40 el57 of37_0 of37_1 of37_2 of37_3 of39_0 of39_1 of42_0 of42_1 of42_2 of42_3 of46_0 of46_1 ro42_0 ro42_1 ro46_0 ro46_1 ro5_1 ro9_0 ro9_1 sz3 sz35 sz37 sz39 sz40 sz42 sz46 sz5 sz77 sz9 ze3 ze42 ze46 ze77 ze9
-- AUTO

mutual
def T.sub (bs : List Bnd) : T → T
  | .mk k n nm args => if ((k == 1) && (findB nm bs).isSome) = true then findD nm bs else .mk k n nm (T.subL bs args)
def T.subL (bs : List Bnd) : List T → List T
  | [] => []
  | x :: xs => x.sub bs :: T.subL bs xs
end
theorem T.subL_map (bs : List Bnd) (xs : List T) : T.subL bs xs = xs.map (T.sub bs) := by
  induction xs with
  | nil => rfl
  | cons x xs ih => simp only [T.subL, List.map_cons, ih]
theorem T.sub_yes {bs : List Bnd} {k n : Int} {nm : ByteArray} {args : List T} (h : (k == 1) = true) (h2 : (findB nm bs).isSome = true) : T.sub bs (.mk k n nm args) = findD nm bs := by simp only [T.sub, h, h2, Bool.and_self, if_true]
theorem T.sub_no {bs : List Bnd} {k n : Int} {nm : ByteArray} {args : List T} (h : (k == 1) = false ∨ (findB nm bs).isSome = false) : T.sub bs (.mk k n nm args) = .mk k n nm (args.map (T.sub bs)) := by
  simp only [T.sub, T.subL_map]
  rw [if_neg]
  simp only [Bool.and_eq_true]
  rintro ⟨h1, h2⟩
  rcases h with h | h
  · rw [h] at h1; cases h1
  · rw [h] at h2; cases h2
theorem Lim.sub {B : Nat} {bs : List Bnd} (hb : ∀ b ∈ bs, Lim B b.tm) : ∀ t : T, Lim B t → Lim B (t.sub bs) := by
  refine T.ind fun k n nm args ih h => ?_
  by_cases h1 : ((k == 1) && (findB nm bs).isSome) = true
  · simp only [T.sub, h1, if_true]; exact Lim.findD hb
  · simp only [T.sub, if_neg h1, T.subL_map]
    refine .mk _ _ _ _ (by simpa using h.args.1) fun a ha => ?_
    obtain ⟨x, hx, rfl⟩ := List.mem_map.1 ha
    exact ih x hx (h.args.2 x hx)

end Go.Proofs.Ytandemllbnapmaa.AM
