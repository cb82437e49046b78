/- Readers of terms: laws.eqTermS, laws.eqTerm, laws.szTermS, laws.szTerm. -/
import Derived.Test.YtibcegfhllkdgaaDoorD3
import Derived.Test.YtibcegfhllkdgaaDoorAF
namespace Go.Proofs.YtibcegfhllkdgaaDoor.AM
open Go Go.Proofs
set_option linter.unusedVariables false
set_option linter.unusedSimpArgs false
set_option maxRecDepth 100000
attribute [local go_sem] List.map_cons List.map_nil List.all_cons List.all_nil Bool.and_self Option.map_some List.getElem?_toArray Option.bind_some gye_b gye_t gsk_b gsk_t gb1 gb2 gb3 gb4 bne_self_eq_false beq_self_eq_true w_guard w_nil stepV_some step_some step_some' w_move w_assign w_pick w_binOp w_unOp w_load w_fieldAddr w_indexAddr w_len w_max w_index ev_max max_int ev_index w_box w_alloc w_store w_field w_extract w_nilCheck w_convert w_buildSlice w_build ev_buildL fillL_nil fillL_cons bs0 bs1 ev_conv ev_bin ev_un ev_pick ev_load ev_fieldAddr ev_indexAddr ev_len ev_field ev_extract ev_nilCheck fr_tmp fr_int fr_bool fr_str fr_nil fr_func put_some put_none bin_lss bin_leq bin_gtr bin_geq bin_eql bin_neq bin_add bin_sub bin_mul bin_seql bin_sneq un_not pick_ ext_ loadA_p cellAt_l cellAt_h okPtr_l okPtr_h fadA_p allocA_l storeA_l cells_agg cells_int cells_str cells_sl cells_bool flat_i flat_s flat_b flat_sl flat_nil loc_agg loc_int loc_str loc_sl loc_bool loc_fn loc_ptr okv_agg okv_int okv_str okv_sl okv_bool cellsFrom splice upd_eval argEnv_zero argEnv_succ ne_eq Nat.add_one_ne_zero not_false_eq_true List.not_mem_nil and_self decide_true List.getElem?_cons_zero List.getElem?_cons_succ List.size_toArray List.length_cons List.length_nil List.take_succ_cons List.take_zero List.drop_succ_cons List.drop_zero List.cons_append List.nil_append List.drop_nil Bool.not_true Bool.not_false Bool.false_eq_true Nat.zero_add Nat.add_zero wrap_in List.toList_toArray List.mem_cons or_self or_false false_or
attribute [local go_sem] ag27 ag5 by5 el24 ro5_1 sz27 sz5 ze26 ze36 ze5

theorem T.wtL_drop {xs : List T} {j : Nat} {x : T} (h : xs[j]? = some x) : T.wtL (xs.drop j) = x.wt + T.wtL (xs.drop (j + 1)) := by
  have hj := (List.getElem?_eq_some_iff.1 h)
  obtain ⟨hlt, rfl⟩ := hj
  rw [List.drop_eq_getElem_cons hlt]; rfl

/-- What came in is no longer than memory is. -/
inductive Lens : T → Prop
  | mk (k n : Int) (nm : ByteArray) (args : List T) (h : args.length ≤ maxLen) (hn : nm.size ≤ maxLen) (hs : ∀ a ∈ args, Lens a) : Lens (.mk k n nm args)

end Go.Proofs.YtibcegfhllkdgaaDoor.AM
