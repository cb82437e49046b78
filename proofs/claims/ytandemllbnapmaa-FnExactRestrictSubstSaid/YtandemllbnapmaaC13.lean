/- Substitutions are composed: impl.copyBind, impl.ComposeSubst, spec.ComposeSubst. -/
import Derived.Test.YtandemllbnapmaaC12
namespace Go.Proofs.Ytandemllbnapmaa.AM
open Go Go.Proofs
set_option linter.unusedVariables false
set_option linter.unusedSimpArgs false
set_option maxRecDepth 100000
attribute [local go_sem] List.map_cons List.map_nil List.all_cons List.all_nil Bool.and_self Option.map_some List.getElem?_toArray Option.bind_some gye_b gye_t gsk_b gsk_t gb1 gb2 gb3 gb4 bne_self_eq_false beq_self_eq_true w_guard w_nil stepV_some step_some step_some' w_move w_assign w_pick w_binOp w_unOp w_load w_fieldAddr w_indexAddr w_len w_box w_alloc w_store w_field w_extract w_nilCheck w_convert w_buildSlice w_build ev_buildL fillL_nil fillL_cons bs0 bs1 ev_conv ev_bin ev_un ev_pick ev_load ev_fieldAddr ev_indexAddr ev_len ev_field ev_extract ev_nilCheck fr_tmp fr_int fr_bool fr_str fr_nil fr_func put_some put_none bin_lss bin_leq bin_gtr bin_geq bin_eql bin_neq bin_add bin_sub bin_mul bin_seql bin_sneq un_not pick_ ext_ loadA_p cellAt_l cellAt_h okPtr_l okPtr_h fadA_p allocA_l storeA_l cells_agg cells_int cells_str cells_sl cells_bool flat_i flat_s flat_b flat_sl flat_nil loc_agg loc_int loc_str loc_sl loc_bool loc_fn loc_ptr okv_agg okv_int okv_str okv_sl okv_bool cellsFrom splice upd_eval argEnv_zero argEnv_succ ne_eq Nat.add_one_ne_zero not_false_eq_true List.not_mem_nil and_self decide_true List.getElem?_cons_zero List.getElem?_cons_succ List.size_toArray List.length_cons List.length_nil List.take_succ_cons List.take_zero List.drop_succ_cons List.drop_zero List.cons_append List.nil_append List.drop_nil Bool.not_true Bool.not_false Bool.false_eq_true Nat.zero_add Nat.add_zero wrap_in List.toList_toArray List.mem_cons or_self or_false false_or
attribute [local go_sem] ag3 ag35 ag37 ag39 ag40 ag42 ag46 ag77 ag9 bu42 bu46 by42 by46 by9 el22 el23 el26 el35 el40 el57 of37_0 of37_1 of37_2 of37_3 of39_0 of39_1 of42_0 of42_1 of42_2 of42_3 of46_0 of46_1 ro42_0 ro42_1 ro46_0 ro46_1 ro5_1 ro9_0 ro9_1 sz3 sz35 sz37 sz39 sz40 sz42 sz46 sz5 sz77 sz9 ze3 ze42 ze46 ze77 ze9
-- AUTO

/-- What a composition holds. -/
def compA (b : List Bnd) (a : List Bnd) : List Bnd := a.map fun x => ⟨x.nm, x.tm.sub b⟩
def compB (a : List Bnd) (b : List Bnd) : List Bnd := b.filter fun x => (findB x.nm a).isNone
def comp (a b : List Bnd) : List Bnd := compA b a ++ compB a b
theorem compB_snoc (a : List Bnd) (xs : List Bnd) (x : Bnd) : compB a (xs ++ [x]) = compB a xs ++ (if (findB x.nm a).isNone = true then [x] else []) := by
  unfold compB
  rw [List.filter_append]
  congr 1
  by_cases h : (findB x.nm a).isNone = true
  · rw [if_pos h]; simp only [List.filter_cons, h, if_true, List.filter_nil]
  · rw [if_neg h]; simp only [List.filter_cons, h, List.filter_nil]; rfl
theorem comp_len (a b : List Bnd) : (comp a b).length ≤ a.length + b.length := by
  unfold comp compA compB
  rw [List.length_append, List.length_map]
  have := List.length_filter_le (fun x : Bnd => (findB x.nm a).isNone) b
  omega
theorem Lim.comp {B : Nat} {a b : List Bnd} (ha : ∀ x ∈ a, Lim B x.tm) (hb : ∀ x ∈ b, Lim B x.tm) : ∀ x ∈ AM.comp a b, Lim B x.tm := by
  intro x hx
  unfold AM.comp compA compB at hx
  rcases List.mem_append.1 hx with hx | hx
  · obtain ⟨y, hy, rfl⟩ := List.mem_map.1 hx
    exact Lim.sub hb _ (ha y hy)
  · exact hb x (List.mem_filter.1 hx).1

/-- A binding is put behind a row of one's own. -/
theorem OwnB.step {n0 : Nat} {st st2 : St} {xs : List Bnd} {s : Value} {L : List Nat} {x : Bnd} {cx : List Value} {Lx : List Nat} (h : Sl st xs s L) (hf : Fresh n0 L) (hn0 : n0 ≤ st.length) (hext : Ext st st2) (hx : OwnB st2 x cx Lx) (hfx : Fresh st.length Lx) (hbd : xs.length + 1 ≤ 274877906944) :
    ∃ s' st' L', appendA Try.prog 26 26 s (.slice (some ⟨st2.length, 0, none⟩) 1 1) (st2 ++ [⟨cx, 46, 0⟩]) = some (s', st') ∧ Sl st' (xs ++ [x]) s' L' ∧ Fresh n0 L' ∧ Grow st s st' s' :=
  Sl.push (α := Bnd) Try.underlying26 Try.underlying26 sz46 rfl by46 ze46 rfl h hf hn0 hext hx hfx (by omega) (by omega)

end Go.Proofs.Ytandemllbnapmaa.AM
