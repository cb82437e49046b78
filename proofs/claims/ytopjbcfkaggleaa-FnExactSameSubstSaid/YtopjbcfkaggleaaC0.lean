/- A tree behind a row of one's own. -/
import Derived.Test.YtopjbcfkaggleaaM2
import Derived.Test.YtopjbcfkaggleaaB1
import Derived.Test.YtopjbcfkaggleaaR1
namespace Go.Proofs.Ytopjbcfkaggleaa.AM
open Go Go.Proofs
set_option linter.unusedVariables false
set_option linter.unusedSimpArgs false
set_option maxRecDepth 100000
attribute [local go_sem] List.map_cons List.map_nil List.all_cons List.all_nil Bool.and_self Option.map_some List.getElem?_toArray Option.bind_some gye_b gye_t gsk_b gsk_t gb1 gb2 gb3 gb4 bne_self_eq_false beq_self_eq_true w_guard w_nil stepV_some step_some step_some' w_move w_assign w_pick w_binOp w_unOp w_load w_fieldAddr w_indexAddr w_len w_box w_alloc w_store w_field w_extract w_nilCheck w_convert w_buildSlice w_build ev_buildL fillL_nil fillL_cons bs0 bs1 ev_conv ev_bin ev_un ev_pick ev_load ev_fieldAddr ev_indexAddr ev_len ev_field ev_extract ev_nilCheck fr_tmp fr_int fr_bool fr_str fr_nil fr_func put_some put_none bin_lss bin_leq bin_gtr bin_geq bin_eql bin_neq bin_add bin_sub bin_mul bin_seql bin_sneq un_not pick_ ext_ loadA_p cellAt_l cellAt_h okPtr_l okPtr_h fadA_p allocA_l storeA_l cells_agg cells_int cells_str cells_sl cells_bool flat_i flat_s flat_b flat_sl flat_nil loc_agg loc_int loc_str loc_sl loc_bool loc_fn loc_ptr okv_agg okv_int okv_str okv_sl okv_bool cellsFrom splice upd_eval argEnv_zero argEnv_succ ne_eq Nat.add_one_ne_zero not_false_eq_true List.not_mem_nil and_self decide_true List.getElem?_cons_zero List.getElem?_cons_succ List.size_toArray List.length_cons List.length_nil List.take_succ_cons List.take_zero List.drop_succ_cons List.drop_zero List.cons_append List.nil_append List.drop_nil Bool.not_true Bool.not_false Bool.false_eq_true Nat.zero_add Nat.add_zero wrap_in List.toList_toArray List.mem_cons or_self or_false false_or
attribute [local go_sem] ag25 ag29 ag3 ag31 ag33 ag34 ag36 ag39 ag9 bu36 by36 by39 el22 el25 el29 el34 el50 of31_0 of31_1 of31_2 of31_3 of33_0 of33_1 of36_0 of36_1 of36_2 of36_3 of39_0 of39_1 ro25_2 ro36_0 ro36_1 ro39_0 sz25 sz29 sz3 sz31 sz33 sz34 sz36 sz39 sz9 ze36 ze39

/-- Every name is short. -/
inductive LimN (B : Nat) : T → Prop
  | mk (k n : Int) (nm : ByteArray) (args : List T) (h : nm.size ≤ B) (hs : ∀ a ∈ args, LimN B a) : LimN B (.mk k n nm args)
theorem LimN.of_wt {B : Nat} : ∀ t : T, t.wt ≤ B → LimN B t := by
  refine T.ind fun k n nm args ih h => ?_
  simp only [T.wt] at h
  exact .mk k n nm args (by omega) fun a ha => ih a ha (by have := T.wt_mem ha; omega)
theorem LimN.args {B : Nat} {k n : Int} {nm : ByteArray} {args : List T} (h : LimN B (.mk k n nm args)) : nm.size ≤ B ∧ ∀ a ∈ args, LimN B a := by cases h; exact ⟨by assumption, by assumption⟩

/-- A tree is put behind a row of one's own. -/
theorem Own.step {n0 : Nat} {st st2 : St} {xs : List T} {s : Value} {L : List Nat} {x : T} {cx : List Value} {Lx : List Nat} (h : SliceO (Own 36 st) 36 st xs s L) (hf : Fresh n0 L) (hn0 : n0 ≤ st.length) (hext : Ext st st2)
    (hx : Own 36 st2 x cx Lx) (hfx : Fresh st.length Lx) (hb : xs.length + 1 ≤ 1099511627776) :
    ∃ s' st' L', appendA Try.prog 34 34 s (.slice (some ⟨st2.length, 0, none⟩) 1 1) (st2 ++ [⟨cx, 36, 0⟩]) = some (s', st') ∧ SliceO (Own 36 st') 36 st' (xs ++ [x]) s' L' ∧ Fresh n0 L' ∧ st2.length ≤ st'.length ∧ (∀ i, i < n0 → st'[i]? = st2[i]?) :=
  SliceO.step (fun _ _ => Own.frame) (fun _ => Own.lt) (fun _ => Own.len) Try.underlying34 sz36 by36 ze36 rfl h hf hn0 hext hx hfx (by omega) (by omega)

end Go.Proofs.Ytopjbcfkaggleaa.AM
