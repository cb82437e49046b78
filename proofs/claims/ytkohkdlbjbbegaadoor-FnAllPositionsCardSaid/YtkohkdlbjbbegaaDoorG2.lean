/- My texts for the law, laid together (part 2): Q2 Q3 A19 C3 C4 C1 PL3 Q5 Q6 PL1 O1 O2 K1 C8 K4 C10 PL2 K5. -/
import Derived.Test.YtkohkdlbjbbegaaDoorG1
import Derived.Test.YtkohkdlbjbbegaaDoorA18
import Derived.Sort.Walk0
import Derived.Lib.Strings
/- List literals; l1Pick, l1PickInt, l3App. -/
namespace Go.Proofs.YtkohkdlbjbbegaaDoor.AM
open Go Go.Proofs
set_option linter.unusedVariables false
set_option linter.unusedSimpArgs false
set_option maxRecDepth 100000
attribute [local go_sem] List.map_cons List.map_nil List.all_cons List.all_nil Bool.and_self Option.map_some List.getElem?_toArray Option.bind_some gye_b gye_t gsk_b gsk_t gb1 gb2 gb3 gb4 bne_self_eq_false beq_self_eq_true w_guard w_nil stepV_some step_some step_some' w_move w_assign w_pick w_binOp w_unOp w_load w_fieldAddr w_indexAddr w_len w_max w_index ev_max max_int ev_index w_box w_alloc w_store w_field w_extract w_nilCheck w_convert w_buildSlice w_build ev_buildL fillL_nil fillL_cons bs0 bs1 ev_conv ev_bin ev_un ev_pick ev_load ev_fieldAddr ev_indexAddr ev_len ev_field ev_extract ev_nilCheck fr_tmp fr_int fr_bool fr_str fr_nil fr_func put_some put_none bin_lss bin_leq bin_gtr bin_geq bin_eql bin_neq bin_add bin_sub bin_mul bin_seql bin_sneq un_not pick_ ext_ loadA_p cellAt_l cellAt_h okPtr_l okPtr_h fadA_p allocA_l storeA_l cells_agg cells_int cells_str cells_sl cells_bool flat_i flat_s flat_b flat_sl flat_nil loc_agg loc_int loc_str loc_sl loc_bool loc_fn loc_ptr okv_agg okv_int okv_str okv_sl okv_bool cellsFrom splice upd_eval argEnv_zero argEnv_succ ne_eq Nat.add_one_ne_zero not_false_eq_true List.not_mem_nil and_self decide_true List.getElem?_cons_zero List.getElem?_cons_succ List.size_toArray List.length_cons List.length_nil List.take_succ_cons List.take_zero List.drop_succ_cons List.drop_zero List.cons_append List.nil_append List.drop_nil Bool.not_true Bool.not_false Bool.false_eq_true Nat.zero_add Nat.add_zero wrap_in List.toList_toArray List.mem_cons or_self or_false false_or
attribute [local go_sem] ag22 ag24 ag26 ag3 ag33 ag5 ag62 ag76 ag9 bu26 bu56 by26 by3 by33 by5 by9 el22 el24 el28 el33 el44 of26_0 of26_1 of26_2 of26_3 of56_0 of56_1 of56_2 of64_0 of64_1 ro26_0 ro26_1 ro26_2 ro3_0 ro3_1 ro3_3 ro33_0 ro33_1 ro5_0 ro5_1 ro9_0 ro9_1 ro9_2 ro9_3 ro9_4 sz22 sz24 sz26 sz3 sz33 sz5 sz62 sz76 sz9 ze26 ze3 ze33 ze5 ze64 ze75 ze88 ze9
-- AUTO

/-- The parts of a list literal are laid in. -/
def fillK (sz : Nat) : List Value → List (Nat × Value) → Option (List Value)
  | z, [] => some z
  | z, (i, v) :: rest => if (vc v).size = sz ∧ i * sz + sz ≤ z.length then fillK sz (splice z (i * sz) (vc v).toList) rest else none
theorem fillK_nil {sz : Nat} {z : List Value} : fillK sz z [] = some z := rfl
theorem fillK_cons {sz i : Nat} {z : List Value} {v : Value} {rest : List (Nat × Value)} : fillK sz z ((i, v) :: rest) = if (vc v).size = sz ∧ i * sz + sz ≤ z.length then fillK sz (splice z (i * sz) (vc v).toList) rest else none := rfl
theorem fill_K (sz : Nat) : ∀ (ps : List (Nat × Value)) (z : List Value), Instr.fill (fun i => some (i * sz, sz)) z.toArray ps = (fillK sz z ps).map List.toArray := by
  intro ps
  induction ps with
  | nil => intro z; rfl
  | cons p ps ih =>
    intro z
    obtain ⟨i, v⟩ := p
    unfold Instr.fill fillK
    simp only
    unfold vc
    by_cases h : v.cells.size = sz ∧ i * sz + sz ≤ z.length
    · rw [if_pos h, if_neg (by simp; omega)]
      rw [← ih]
      congr 1
      have := fold_splice v.cells.toList z.toArray (i * sz) 0 (by simp; omega)
      rw [← Array.foldl_toList]
      simpa [Array.toList_zipIdx] using this
    · rw [if_neg h, if_pos (by simp; omega)]
      rfl
theorem bsL {P : Program} {H : List Tmp} {ρ : Operand → Value} {loc : Nat → Nat × List Value} {st : St} {t : TypeId} {n : Nat} {ps : Array (Nat × Operand)} {d : Option Tmp} {ty : TypeId} {p : String} {af : Array Edge} {g : Option (Nat × Bool)} : evalEff P H ⟨d, .buildSlice t n ps, ty, p, af, g⟩ ρ loc st = (match elemA P t with
    | some e => (match rowA P e n, szA P e with
      | some row, some sz => if ps.toList.all (fun p => okv (ρ p.2)) then (fillK sz row (ps.toList.map fun p => (p.1, ρ p.2))).map (fun l => (Value.slice (some ⟨st.length, 0, none⟩) n n, loc, st ++ [⟨l, e, 0⟩])) else none
      | _, _ => none)
    | none => none) := by
  simp only [evalEff]
  cases elemA P t with
  | none => rfl
  | some e =>
    simp only
    cases rowA P e n with
    | none => rfl
    | some row =>
      cases szA P e with
      | none => rfl
      | some sz =>
        simp only
        have h1 : (ps.all fun p => okv (ρ p.2)) = ps.toList.all (fun p => okv (ρ p.2)) := by rw [Array.all_toList]
        have h2 : (ps.map fun (i, x) => (i, ρ x)).toList = ps.toList.map fun p => (p.1, ρ p.2) := by simp
        rw [h1, h2, fill_K, Option.map_map]
        split
        · cases fillK sz row (ps.toList.map fun p => (p.1, ρ p.2)) <;> rfl
        · rfl
/-- A row stays where another block alone has turned. -/
theorem rw_away {st st' : St} {xs : List ByteArray} {s : Value} {q : Nat} (h : Rw st xs s) (ha : Away (some q) st st') (hn : topId s ≠ some q) : Rw st' xs s := by
  rcases h with h | ⟨i, o, c, rfl, h⟩
  · exact .inl h
  · refine .inr ⟨i, o, c, rfl, fun j x hx => ?_⟩
    obtain ⟨cs, h1, h2, h3⟩ := h j x hx
    refine ⟨cs, h1, h2, fun k v hv => ?_⟩
    have h4 := h3 k v hv
    have hi : i < st.length := by
      unfold cell at h4
      rcases Nat.lt_or_ge i st.length with h5 | h5
      · exact h5
      · rw [List.getElem?_eq_none h5] at h4; cases h4
    have h5 := ha.2 i hi (fun e => hn e.symm)
    unfold cell at h4 ⊢
    rw [h5]; exact h4
theorem l1Pick_ok (q : Nat) (xs : List Byt) (st : St) (ns : List ByteArray) (s : Value) (hn0 : 0 < ns.length) (hn1 : ns.length ≤ 256) (hq : Cur st q xs) (hr : Rw st ns s) (hne : topId s ≠ some q) :
    CallS Tryd.prog 29 [.pointer (some ⟨q, 0, none⟩), s] st fun r st2 => (∃ w, r = .string w ∧ w ∈ ns) ∧ Drawn q xs st st2 ∧ st2.length = st.length := by
  refine CallS_of_W [] 12 Tryd.func29 rfl rfl rfl rfl (by simp) ?_
  have q1 := hr.notLoc.1
  have hlen : lenE Tryd.prog 44 s = some (.int .i64 ns.length) := row_len hr Tryd.underlying44
  repeat (first | (refine W_reg rfl fun G K hG hK => ?_; simp (disch := omega) only [go_sem, ↓reduceIte, Nat.reduceEqDiff, Nat.reduceAdd, Nat.reduceLeDiff, hG, q1, hlen]; refine hK _ _ ?_; clear hK K hG G) | (refine W_end rfl fun G K hG hK => ?_; simp (disch := omega) only [go_sem, ↓reduceIte, Nat.reduceEqDiff, Nat.reduceAdd, Nat.reduceLeDiff, hG, q1, hlen]; refine hK _ _ ?_; clear hK K hG G; repeat (first | refine thenI ?_ | refine thenE ?_ | refine thenR ?_ | refine inBI ?_ | refine inBR ?_ | refine inBS ?_ | refine inBN (by decide) ?_)) | refine W_seqS ?_ | refine W_seqC ?_ | refine W_seqB ?_ | refine W_block ?_ | (refine W_skip ?_; repeat (first | refine thenI ?_ | refine thenE ?_ | refine thenR ?_ | refine inBI ?_ | refine inBR ?_ | refine inBS ?_ | refine inBN (by decide) ?_)) | (refine W_condT ?hc ?_; (case hc => (simp (disch := omega) only [go_sem, ↓reduceIte, Nat.reduceEqDiff, Nat.reduceAdd, Nat.reduceLeDiff, q1, hlen]; done))) | (refine W_condF ?hc ?_; (case hc => (simp (disch := omega) only [go_sem, ↓reduceIte, Nat.reduceEqDiff, Nat.reduceAdd, Nat.reduceLeDiff, q1, hlen]; done))))
  (repeat (first | refine W_seqS ?_ | refine W_seqC ?_ | refine W_seqB ?_ | refine W_block ?_)); refine W_reg rfl fun G K hG hK => ?_; simp (disch := omega) only [go_sem, ↓reduceIte, Nat.reduceEqDiff, Nat.reduceAdd, Nat.reduceLeDiff, hG, q1, hlen]
  refine w_call (l1Below_ok q xs st (ns.length : Int) (by omega) (by omega) hq) (by simp (disch := omega) only [go_sem, ↓reduceIte, Nat.reduceEqDiff, q1, hlen]) ?hl ?_
  case hl => first | rfl | (simp only [go_sem, List.all_cons, List.all_nil, Bool.not_false, Bool.and_self, q1, hlen]; done)
  rintro r_ sa ⟨⟨x, rfl, hx0, hx1⟩, hd, hl⟩; refine ⟨fun e => (by cases e), ?_⟩
  obtain ⟨n, rfl⟩ : ∃ n : Nat, x = n := ⟨x.toNat, by omega⟩
  have hlt : n < ns.length := by omega
  obtain ⟨i, o, c, rfl, hce⟩ := row_atS (rw_away hr hd.away hne) (List.getElem?_eq_getElem hlt)
  have hi := idxOk hlt
  simp (disch := omega) only [go_sem, ↓reduceIte, Nat.reduceEqDiff, Nat.reduceAdd, Nat.reduceLeDiff, hG, q1, hlen, hi, idxA, Int.toNat_natCast, hce]; refine hK _ _ ?_; clear hK K hG G; repeat (first | refine thenI ?_ | refine thenE ?_ | refine thenR ?_ | refine inBI ?_ | refine inBR ?_ | refine inBS ?_ | refine inBN (by decide) ?_)
  refine W_ret ?_; try (repeat (first | refine thenI ?_ | refine thenE ?_ | refine thenR ?_ | refine inBI ?_ | refine inBR ?_ | refine inBS ?_ | refine inBN (by decide) ?_))
  refine fin1 (.inl rfl) (by (simp (disch := omega) only [go_sem, ↓reduceIte, Nat.reduceEqDiff, Nat.reduceAdd, Nat.reduceLeDiff, q1, hlen]); try rfl) rfl ⟨⟨_, rfl, List.getElem_mem hlt⟩, hd, hl⟩
theorem l3App_ok (nm : ByteArray) (s : Value) (st : St) (h1 : isLoc s = false) (h2 : okv s = true) (h3 : vc s = #[s]) :
    CallS Tryd.prog 37 [.string nm, s] st fun r st2 => r = .agg #[.int .i64 2, .int .i64 0, .string nm, s] ∧ st2 = st := by
  refine CallS_of_W [] 8 Tryd.func37 rfl rfl rfl rfl (by simp) ?_
  repeat (first | (refine W_reg rfl fun G K hG hK => ?_; simp (disch := omega) only [go_sem, ↓reduceIte, Nat.reduceEqDiff, Nat.reduceAdd, Nat.reduceLeDiff, hG, h1, h2, h3]; refine hK _ _ ?_; clear hK K hG G) | (refine W_end rfl fun G K hG hK => ?_; simp (disch := omega) only [go_sem, ↓reduceIte, Nat.reduceEqDiff, Nat.reduceAdd, Nat.reduceLeDiff, hG, h1, h2, h3]; refine hK _ _ ?_; clear hK K hG G; repeat (first | refine thenI ?_ | refine thenE ?_ | refine thenR ?_ | refine inBI ?_ | refine inBR ?_ | refine inBS ?_ | refine inBN (by decide) ?_)) | refine W_seqS ?_ | refine W_seqC ?_ | refine W_seqB ?_ | refine W_block ?_ | (refine W_skip ?_; repeat (first | refine thenI ?_ | refine thenE ?_ | refine thenR ?_ | refine inBI ?_ | refine inBR ?_ | refine inBS ?_ | refine inBN (by decide) ?_)) | (refine W_condT ?hc ?_; (case hc => (simp (disch := omega) only [go_sem, ↓reduceIte, Nat.reduceEqDiff, Nat.reduceAdd, Nat.reduceLeDiff, h1, h2, h3]; done))) | (refine W_condF ?hc ?_; (case hc => (simp (disch := omega) only [go_sem, ↓reduceIte, Nat.reduceEqDiff, Nat.reduceAdd, Nat.reduceLeDiff, h1, h2, h3]; done))))
  refine W_ret ?_; try (repeat (first | refine thenI ?_ | refine thenE ?_ | refine thenR ?_ | refine inBI ?_ | refine inBR ?_ | refine inBS ?_ | refine inBN (by decide) ?_))
  refine finC (.inl rfl) (by (simp (disch := omega) only [go_sem, ↓reduceIte, Nat.reduceEqDiff, Nat.reduceAdd, Nat.reduceLeDiff, h1, h2, h3]); try rfl) ⟨rfl, rfl⟩
theorem l3One_ok (nm : ByteArray) (t : T) (st : St) (cs : List Value) (L : List Nat) (ho : OwnT st t cs L) :
    CallS Tryd.prog 31 [.string nm, .agg cs.toArray] st fun r st2 => Ext st st2 ∧ ∃ ds, r = .agg ds.toArray ∧ OwnT st2 (.mk 2 0 nm [t]) ds (st.length :: L) := by
  refine CallS_of_W [] 9 Tryd.func31 rfl rfl rfl rfl (by simp) ?_
  obtain ⟨k, n, m, s, rfl, a1, a2, a3⟩ := ho.args_cells
  repeat (first | (refine W_reg rfl fun G K hG hK => ?_; simp (disch := omega) only [go_sem, ↓reduceIte, Nat.reduceEqDiff, Nat.reduceAdd, Nat.reduceLeDiff, hG, a1, a2, a3]; refine hK _ _ ?_; clear hK K hG G) | (refine W_end rfl fun G K hG hK => ?_; simp (disch := omega) only [go_sem, ↓reduceIte, Nat.reduceEqDiff, Nat.reduceAdd, Nat.reduceLeDiff, hG, a1, a2, a3]; refine hK _ _ ?_; clear hK K hG G; repeat (first | refine thenI ?_ | refine thenE ?_ | refine thenR ?_ | refine inBI ?_ | refine inBR ?_ | refine inBS ?_ | refine inBN (by decide) ?_)) | refine W_seqS ?_ | refine W_seqC ?_ | refine W_seqB ?_ | refine W_block ?_ | (refine W_skip ?_; repeat (first | refine thenI ?_ | refine thenE ?_ | refine thenR ?_ | refine inBI ?_ | refine inBR ?_ | refine inBS ?_ | refine inBN (by decide) ?_)) | (refine W_condT ?hc ?_; (case hc => (simp (disch := omega) only [go_sem, ↓reduceIte, Nat.reduceEqDiff, Nat.reduceAdd, Nat.reduceLeDiff, a1, a2, a3]; done))) | (refine W_condF ?hc ?_; (case hc => (simp (disch := omega) only [go_sem, ↓reduceIte, Nat.reduceEqDiff, Nat.reduceAdd, Nat.reduceLeDiff, a1, a2, a3]; done))))
  (repeat (first | refine W_seqS ?_ | refine W_seqC ?_ | refine W_seqB ?_ | refine W_block ?_)); refine W_reg rfl fun G K hG hK => ?_; simp (disch := omega) only [go_sem, ↓reduceIte, Nat.reduceEqDiff, Nat.reduceAdd, Nat.reduceLeDiff, hG, a1, a2, a3]
  refine w_call (l3App_ok nm (.slice (some ⟨st.length, 0, none⟩) 1 1) (st ++ [⟨[.int .i64 k, .int .i64 n, .string m, s], 26, 0⟩]) rfl rfl rfl) (by simp (disch := omega) only [go_sem, ↓reduceIte, Nat.reduceEqDiff, a1, a2, a3]) ?hl ?_
  case hl => first | rfl | (simp only [go_sem, List.all_cons, List.all_nil, Bool.not_false, Bool.and_self, a1, a2, a3]; done)
  rintro r_ sa ⟨rfl, rfl⟩; refine ⟨fun e => (by cases e), ?_⟩
  simp (disch := omega) only [go_sem, ↓reduceIte, Nat.reduceEqDiff, Nat.reduceAdd, Nat.reduceLeDiff, hG, a1, a2, a3]; refine hK _ _ ?_; clear hK K hG G; repeat (first | refine thenI ?_ | refine thenE ?_ | refine thenR ?_ | refine inBI ?_ | refine inBR ?_ | refine inBS ?_ | refine inBN (by decide) ?_)
  refine W_ret ?_; try (repeat (first | refine thenI ?_ | refine thenE ?_ | refine thenR ?_ | refine inBI ?_ | refine inBR ?_ | refine inBS ?_ | refine inBN (by decide) ?_))
  refine finC (.inl rfl) (by (simp (disch := omega) only [go_sem, ↓reduceIte, Nat.reduceEqDiff, Nat.reduceAdd, Nat.reduceLeDiff, a1, a2, a3]); try rfl) ⟨Ext.app _ _, [_, _, _, _], rfl, Own.close _ _ _ (.inr ⟨st.length, 1, _, L, rfl, by simp, RowO.one (Own.ext ho (Ext.app _ _)), rfl⟩)⟩
theorem l3Pair_ok (nm : ByteArray) (t u : T) (st : St) (cs ds : List Value) (L K : List Nat) (ho : OwnT st t cs L) (hp : OwnT st u ds K) :
    CallS Tryd.prog 38 [.string nm, .agg cs.toArray, .agg ds.toArray] st fun r st2 => Ext st st2 ∧ ∃ es, r = .agg es.toArray ∧ OwnT st2 (.mk 2 0 nm [t, u]) es (st.length :: (L ++ K)) := by
  refine CallS_of_W [] 12 Tryd.func38 rfl rfl rfl rfl (by simp) ?_
  obtain ⟨k, n, m, s, rfl, a1, a2, a3⟩ := ho.args_cells
  obtain ⟨k', n', m', s', rfl, b1, b2, b3⟩ := hp.args_cells
  repeat (first | (refine W_reg rfl fun G K hG hK => ?_; simp (disch := omega) only [go_sem, ↓reduceIte, Nat.reduceEqDiff, Nat.reduceAdd, Nat.reduceLeDiff, hG, a1, a2, a3, b1, b2, b3]; refine hK _ _ ?_; clear hK K hG G) | (refine W_end rfl fun G K hG hK => ?_; simp (disch := omega) only [go_sem, ↓reduceIte, Nat.reduceEqDiff, Nat.reduceAdd, Nat.reduceLeDiff, hG, a1, a2, a3, b1, b2, b3]; refine hK _ _ ?_; clear hK K hG G; repeat (first | refine thenI ?_ | refine thenE ?_ | refine thenR ?_ | refine inBI ?_ | refine inBR ?_ | refine inBS ?_ | refine inBN (by decide) ?_)) | refine W_seqS ?_ | refine W_seqC ?_ | refine W_seqB ?_ | refine W_block ?_ | (refine W_skip ?_; repeat (first | refine thenI ?_ | refine thenE ?_ | refine thenR ?_ | refine inBI ?_ | refine inBR ?_ | refine inBS ?_ | refine inBN (by decide) ?_)) | (refine W_condT ?hc ?_; (case hc => (simp (disch := omega) only [go_sem, ↓reduceIte, Nat.reduceEqDiff, Nat.reduceAdd, Nat.reduceLeDiff, a1, a2, a3, b1, b2, b3]; done))) | (refine W_condF ?hc ?_; (case hc => (simp (disch := omega) only [go_sem, ↓reduceIte, Nat.reduceEqDiff, Nat.reduceAdd, Nat.reduceLeDiff, a1, a2, a3, b1, b2, b3]; done))))
  (repeat (first | refine W_seqS ?_ | refine W_seqC ?_ | refine W_seqB ?_ | refine W_block ?_)); refine W_reg rfl fun G K hG hK => ?_; simp (disch := omega) only [go_sem, ↓reduceIte, Nat.reduceEqDiff, Nat.reduceAdd, Nat.reduceLeDiff, hG, a1, a2, a3, b1, b2, b3, bsL, fillK_cons, fillK_nil, Nat.reduceMul]
  refine w_call (l3App_ok nm (.slice (some ⟨st.length, 0, none⟩) 2 2) (st ++ [⟨[.int .i64 k, .int .i64 n, .string m, s, .int .i64 k', .int .i64 n', .string m', s'], 26, 0⟩]) rfl rfl rfl) (by simp (disch := omega) only [go_sem, ↓reduceIte, Nat.reduceEqDiff, a1, a2, a3, b1, b2, b3]) ?hl ?_
  case hl => first | rfl | (simp only [go_sem, List.all_cons, List.all_nil, Bool.not_false, Bool.and_self, a1, a2, a3, b1, b2, b3]; done)
  rintro r_ sa ⟨rfl, rfl⟩; refine ⟨fun e => (by cases e), ?_⟩
  simp (disch := omega) only [go_sem, ↓reduceIte, Nat.reduceEqDiff, Nat.reduceAdd, Nat.reduceLeDiff, hG, a1, a2, a3, b1, b2, b3]; refine hK _ _ ?_; clear hK K hG G; repeat (first | refine thenI ?_ | refine thenE ?_ | refine thenR ?_ | refine inBI ?_ | refine inBR ?_ | refine inBS ?_ | refine inBN (by decide) ?_)
  refine W_ret ?_; try (repeat (first | refine thenI ?_ | refine thenE ?_ | refine thenR ?_ | refine inBI ?_ | refine inBR ?_ | refine inBS ?_ | refine inBN (by decide) ?_))
  refine finC (.inl rfl) (by (simp (disch := omega) only [go_sem, ↓reduceIte, Nat.reduceEqDiff, Nat.reduceAdd, Nat.reduceLeDiff, a1, a2, a3, b1, b2, b3]); try rfl) ⟨Ext.app _ _, [_, _, _, _], rfl, Own.close _ _ _ (.inr ⟨st.length, 2, _, L ++ K, rfl, by simp, RowO.cons t [u] [.int .i64 k, .int .i64 n, .string m, s] _ L K (Own.ext ho (Ext.app _ _)) (RowO.one (Own.ext hp (Ext.app _ _))), rfl⟩)⟩
end Go.Proofs.YtkohkdlbjbbegaaDoor.AM


/- Names drawn: l1Pick out of a list literal, l2Any, l2List, DrawSortNames. -/
namespace Go.Proofs.YtkohkdlbjbbegaaDoor.AM
open Go Go.Proofs
set_option linter.unusedVariables false
set_option linter.unusedSimpArgs false
set_option maxRecDepth 100000
attribute [local go_sem] List.map_cons List.map_nil List.all_cons List.all_nil Bool.and_self Option.map_some List.getElem?_toArray Option.bind_some gye_b gye_t gsk_b gsk_t gb1 gb2 gb3 gb4 bne_self_eq_false beq_self_eq_true w_guard w_nil stepV_some step_some step_some' w_move w_assign w_pick w_binOp w_unOp w_load w_fieldAddr w_indexAddr w_len w_max w_index ev_max max_int ev_index w_box w_alloc w_store w_field w_extract w_nilCheck w_convert w_buildSlice w_build ev_buildL fillL_nil fillL_cons bs0 bs1 ev_conv ev_bin ev_un ev_pick ev_load ev_fieldAddr ev_indexAddr ev_len ev_field ev_extract ev_nilCheck fr_tmp fr_int fr_bool fr_str fr_nil fr_func put_some put_none bin_lss bin_leq bin_gtr bin_geq bin_eql bin_neq bin_add bin_sub bin_mul bin_seql bin_sneq un_not pick_ ext_ loadA_p cellAt_l cellAt_h okPtr_l okPtr_h fadA_p allocA_l storeA_l cells_agg cells_int cells_str cells_sl cells_bool flat_i flat_s flat_b flat_sl flat_nil loc_agg loc_int loc_str loc_sl loc_bool loc_fn loc_ptr okv_agg okv_int okv_str okv_sl okv_bool cellsFrom splice upd_eval argEnv_zero argEnv_succ ne_eq Nat.add_one_ne_zero not_false_eq_true List.not_mem_nil and_self decide_true List.getElem?_cons_zero List.getElem?_cons_succ List.size_toArray List.length_cons List.length_nil List.take_succ_cons List.take_zero List.drop_succ_cons List.drop_zero List.cons_append List.nil_append List.drop_nil Bool.not_true Bool.not_false Bool.false_eq_true Nat.zero_add Nat.add_zero wrap_in List.toList_toArray List.mem_cons or_self or_false false_or
attribute [local go_sem] ag22 ag24 ag26 ag3 ag33 ag5 ag62 ag76 ag9 bu26 bu56 by26 by3 by33 by5 by9 el22 el24 el28 el33 el44 of26_0 of26_1 of26_2 of26_3 of56_0 of56_1 of56_2 of64_0 of64_1 ro26_0 ro26_1 ro26_2 ro3_0 ro3_1 ro3_3 ro33_0 ro33_1 ro5_0 ro5_1 ro9_0 ro9_1 ro9_2 ro9_3 ro9_4 sz22 sz24 sz26 sz3 sz33 sz5 sz62 sz76 sz9 ze26 ze3 ze33 ze5 ze64 ze75 ze88 ze9
-- AUTO

def isStrB : Value → Bool
  | .string _ => true
  | _ => false
def strB : Value → ByteArray
  | .string s => s
  | _ => ⟨#[]⟩
theorem strs_map {cs : List Value} (h : cs.all isStrB = true) : cs = (cs.map strB).map Value.string := by
  rw [List.map_map]
  refine ((List.map_congr_left fun v hv => ?_).trans (List.map_id cs)).symm
  have := List.all_eq_true.1 h v hv
  cases v <;> first | rfl | cases this
theorem row_last (st : St) (ns : List ByteArray) (t : TypeId) (n : Nat) : Rw (st ++ [⟨ns.map Value.string, t, 0⟩]) ns (.slice (some ⟨st.length, 0, none⟩) ns.length n) := .inr ⟨st.length, 0, n, rfl, fun j x hx => ⟨[.string x], rfl, rfl, fun k v hv => by
  have hk : k = 0 := by have := (List.getElem?_eq_some_iff.1 hv).1; simp at this; omega
  subst hk
  have hj := List.getElem?_eq_some_iff.1 hx
  obtain ⟨hj1, hj2⟩ := hj
  have : v = .string x := by simpa using hv.symm
  subst this
  simp [cell, hx, show Kind.sz ByteArray = 1 from rfl]⟩⟩
theorem l1Pick_lit (q : Nat) (xs : List Byt) (sa : St) (cs : List Value) (t : TypeId) (n : Nat) (hq : Cur sa q xs) (hs : cs.all isStrB = true) (h0 : 0 < cs.length) (h1 : cs.length ≤ 256) :
    CallS Tryd.prog 29 [.pointer (some ⟨q, 0, none⟩), .slice (some ⟨sa.length, 0, none⟩) cs.length n] (sa ++ [⟨cs, t, 0⟩]) fun r st2 => (∃ w, r = .string w ∧ .string w ∈ cs) ∧ Drawn q xs (sa ++ [⟨cs, t, 0⟩]) st2 ∧ st2.length = sa.length + 1 := by
  have hcs := strs_map hs
  have hlq : q < sa.length := by obtain ⟨_, _, _, h, _⟩ := hq; exact (List.getElem?_eq_some_iff.1 h).1
  have hr := row_last sa (cs.map strB) t n
  rw [← hcs, List.length_map] at hr
  refine (l1Pick_ok q xs _ (cs.map strB) _ (by simpa using h0) (by simpa using h1) (hq.ext (Ext.app _ _)) hr (fun e => by simp only [topId, Option.some.injEq] at e; omega)).mono fun r st2 ⟨⟨w, hw, hm⟩, hd, hl⟩ => ⟨⟨w, hw, ?_⟩, hd, by simpa using hl⟩
  rw [hcs]
  exact List.mem_map.2 ⟨w, hm, rfl⟩
/-- What new data a draw adds: the cursor's turn, and new blocks. -/
theorem Drawn.pre {q : Nat} {xs : List Byt} {a b c : St} (hx : Ext a b) (h : Drawn q xs b c) : Drawn q xs a c := ⟨h.cur, (Away.of_ext hx).trans h.away (by first | exact .inl rfl)⟩
theorem size_of_mem2 {w : ByteArray} {cs : List Value} {m : Nat} (h : Value.string w ∈ cs) (hs : cs.all (fun v => match v with | .string s => decide (s.size ≤ m) | _ => false) = true) : w.size ≤ m := by
  have := List.all_eq_true.1 hs _ h
  simpa using this
/-- Own data stay over a draw. -/
theorem Drawn.sl {α : Type} [Kind α] {q : Nat} {bs : List Byt} {n0 : Nat} {a b : St} {xs : List α} {s : Value} {L : List Nat} (h : Drawn q bs a b) (ho : Sl a xs s L) (hf : Fresh n0 L) (hq : q < n0) : Sl b xs s L :=
  ho.frame fun i hi => h.away.2 i (ho.lt i hi) fun e => by
    have := hf.2 i hi
    cases e; omega
theorem Drawn.grow {q : Nat} {bs : List Byt} {n0 : Nat} {a b c : St} {s s' : Value} (h : Drawn q bs a b) (hg : Grow b s c s') (hs : topId s = none ∨ ∃ m, n0 ≤ m ∧ topId s = some m) (hq : q < n0) (ha : n0 = a.length) : Drawn q bs a c := by
  subst ha
  have hl := h.away.1
  rcases hs with hs | ⟨m, hm, hs⟩
  · have hx := hg.away
    rw [hs] at hx
    exact ⟨h.cur.ext hx.ext, ⟨Nat.le_trans hl hx.1, fun i hi hne => by rw [hx.2 i (by omega) (by simp), h.away.2 i hi hne]⟩⟩
  · have hx := hg.away
    rw [hs] at hx
    exact ⟨h.cur.far hx (by omega), ⟨Nat.le_trans hl hx.1, fun i hi hne => by rw [hx.2 i (by omega) (fun e => by cases e; omega), h.away.2 i hi hne]⟩⟩
theorem big_ok (bs : List Byt) (st : St) (s : Value) (hr : RowY st bs s) : CallS Tryd.prog 4 [s] st fun r st2 => r = .bool (decide ((bs.length : Int) > 1048576)) ∧ st2 = st := by
  refine CallS_of_W [] 6 Tryd.func4 rfl rfl rfl rfl (by simp) ?_
  have q1 := hr.notLoc.1
  have hlen : lenE Tryd.prog 22 s = some (.int .i64 bs.length) := row_len hr Tryd.underlying22
  repeat (first | (refine W_reg rfl fun G K hG hK => ?_; simp (disch := omega) only [go_sem, ↓reduceIte, Nat.reduceEqDiff, Nat.reduceAdd, Nat.reduceLeDiff, hG, q1, hlen]; refine hK _ _ ?_; clear hK K hG G) | (refine W_end rfl fun G K hG hK => ?_; simp (disch := omega) only [go_sem, ↓reduceIte, Nat.reduceEqDiff, Nat.reduceAdd, Nat.reduceLeDiff, hG, q1, hlen]; refine hK _ _ ?_; clear hK K hG G; repeat (first | refine thenI ?_ | refine thenE ?_ | refine thenR ?_ | refine inBI ?_ | refine inBR ?_ | refine inBS ?_ | refine inBN (by decide) ?_)) | refine W_seqS ?_ | refine W_seqC ?_ | refine W_seqB ?_ | refine W_block ?_ | (refine W_skip ?_; repeat (first | refine thenI ?_ | refine thenE ?_ | refine thenR ?_ | refine inBI ?_ | refine inBR ?_ | refine inBS ?_ | refine inBN (by decide) ?_)) | (refine W_condT ?hc ?_; (case hc => (simp (disch := omega) only [go_sem, ↓reduceIte, Nat.reduceEqDiff, Nat.reduceAdd, Nat.reduceLeDiff, q1, hlen]; done))) | (refine W_condF ?hc ?_; (case hc => (simp (disch := omega) only [go_sem, ↓reduceIte, Nat.reduceEqDiff, Nat.reduceAdd, Nat.reduceLeDiff, q1, hlen]; done))))
  refine W_ret ?_; try (repeat (first | refine thenI ?_ | refine thenE ?_ | refine thenR ?_ | refine inBI ?_ | refine inBR ?_ | refine inBS ?_ | refine inBN (by decide) ?_))
  refine fin1 (.inl rfl) (by (simp (disch := omega) only [go_sem, ↓reduceIte, Nat.reduceEqDiff, Nat.reduceAdd, Nat.reduceLeDiff]); try rfl) rfl ⟨rfl, rfl⟩
theorem rwI_away {st st' : St} {xs : List Int} {s : Value} {q : Nat} (h : Rw st xs s) (ha : Away (some q) st st') (hn : topId s ≠ some q) : Rw st' xs s := by
  rcases h with h | ⟨i, o, c, rfl, h⟩
  · exact .inl h
  · refine .inr ⟨i, o, c, rfl, fun j x hx => ?_⟩
    obtain ⟨cs, h1, h2, h3⟩ := h j x hx
    refine ⟨cs, h1, h2, fun k v hv => ?_⟩
    have h4 := h3 k v hv
    have hi : i < st.length := by
      unfold cell at h4
      rcases Nat.lt_or_ge i st.length with h5 | h5
      · exact h5
      · rw [List.getElem?_eq_none h5] at h4; cases h4
    have h5 := ha.2 i hi (fun e => hn e.symm)
    unfold cell at h4 ⊢
    rw [h5]; exact h4
theorem l1PickInt_ok (q : Nat) (xs : List Byt) (st : St) (ns : List Int) (s : Value) (hn0 : 0 < ns.length) (hn1 : ns.length ≤ 256) (hq : Cur st q xs) (hr : Rw st ns s) (hne : topId s ≠ some q) :
    CallS Tryd.prog 28 [.pointer (some ⟨q, 0, none⟩), s] st fun r st2 => (∃ w, r = .int .i64 w ∧ w ∈ ns) ∧ Drawn q xs st st2 ∧ st2.length = st.length := by
  refine CallS_of_W [] 12 Tryd.func28 rfl rfl rfl rfl (by simp) ?_
  have q1 := hr.notLoc.1
  have hlen : lenE Tryd.prog 33 s = some (.int .i64 ns.length) := row_len hr Tryd.underlying33
  repeat (first | (refine W_reg rfl fun G K hG hK => ?_; simp (disch := omega) only [go_sem, ↓reduceIte, Nat.reduceEqDiff, Nat.reduceAdd, Nat.reduceLeDiff, hG, q1, hlen]; refine hK _ _ ?_; clear hK K hG G) | (refine W_end rfl fun G K hG hK => ?_; simp (disch := omega) only [go_sem, ↓reduceIte, Nat.reduceEqDiff, Nat.reduceAdd, Nat.reduceLeDiff, hG, q1, hlen]; refine hK _ _ ?_; clear hK K hG G; repeat (first | refine thenI ?_ | refine thenE ?_ | refine thenR ?_ | refine inBI ?_ | refine inBR ?_ | refine inBS ?_ | refine inBN (by decide) ?_)) | refine W_seqS ?_ | refine W_seqC ?_ | refine W_seqB ?_ | refine W_block ?_ | (refine W_skip ?_; repeat (first | refine thenI ?_ | refine thenE ?_ | refine thenR ?_ | refine inBI ?_ | refine inBR ?_ | refine inBS ?_ | refine inBN (by decide) ?_)) | (refine W_condT ?hc ?_; (case hc => (simp (disch := omega) only [go_sem, ↓reduceIte, Nat.reduceEqDiff, Nat.reduceAdd, Nat.reduceLeDiff, q1, hlen]; done))) | (refine W_condF ?hc ?_; (case hc => (simp (disch := omega) only [go_sem, ↓reduceIte, Nat.reduceEqDiff, Nat.reduceAdd, Nat.reduceLeDiff, q1, hlen]; done))))
  (repeat (first | refine W_seqS ?_ | refine W_seqC ?_ | refine W_seqB ?_ | refine W_block ?_)); refine W_reg rfl fun G K hG hK => ?_; simp (disch := omega) only [go_sem, ↓reduceIte, Nat.reduceEqDiff, Nat.reduceAdd, Nat.reduceLeDiff, hG, q1, hlen]
  refine w_call (l1Below_ok q xs st (ns.length : Int) (by omega) (by omega) hq) (by simp (disch := omega) only [go_sem, ↓reduceIte, Nat.reduceEqDiff, q1, hlen]) ?hl ?_
  case hl => first | rfl | (simp only [go_sem, List.all_cons, List.all_nil, Bool.not_false, Bool.and_self, q1, hlen]; done)
  rintro r_ sa ⟨⟨x, rfl, hx0, hx1⟩, hd, hl⟩; refine ⟨fun e => (by cases e), ?_⟩
  obtain ⟨n, rfl⟩ : ∃ n : Nat, x = n := ⟨x.toNat, by omega⟩
  have hlt : n < ns.length := by omega
  obtain ⟨i, o, c, cs, rfl, _, rfl, hc⟩ := row_at (rwI_away hr hd.away hne) (List.getElem?_eq_getElem hlt)
  have hce : cell sa i (o + n * 1) = some (.int .i64 ns[n]) := hc 0 _ rfl
  have hi := idxOk hlt
  simp (disch := omega) only [go_sem, ↓reduceIte, Nat.reduceEqDiff, Nat.reduceAdd, Nat.reduceLeDiff, hG, q1, hlen, hi, idxA, Int.toNat_natCast, hce]; refine hK _ _ ?_; clear hK K hG G; repeat (first | refine thenI ?_ | refine thenE ?_ | refine thenR ?_ | refine inBI ?_ | refine inBR ?_ | refine inBS ?_ | refine inBN (by decide) ?_)
  refine W_ret ?_; try (repeat (first | refine thenI ?_ | refine thenE ?_ | refine thenR ?_ | refine inBI ?_ | refine inBR ?_ | refine inBS ?_ | refine inBN (by decide) ?_))
  refine fin1 (.inl rfl) (by (simp (disch := omega) only [go_sem, ↓reduceIte, Nat.reduceEqDiff, Nat.reduceAdd, Nat.reduceLeDiff, q1, hlen]); try rfl) rfl ⟨⟨_, rfl, List.getElem_mem hlt⟩, hd, hl⟩
end Go.Proofs.YtkohkdlbjbbegaaDoor.AM


/- Regions that draw their order, walked in several orders; some pairs change places by what is known where they stand. -/
namespace Go.Proofs.YtkohkdlbjbbegaaDoor.AM
open Go
set_option linter.unusedVariables false
set_option linter.unusedSimpArgs false

/-- What is known goes on over an operation. -/
def Keeps (P : Program) (A H : List Tmp) (G : Nat → Option Tmp) (I : Fr → St → Prop) (a : Oper × Bool) : Prop := ∀ (R : List (Oper × Bool)) (K : Fr → St → Prop) (fr : Fr) (st : St), I fr st → WOps P A H G (a :: R) K fr st → WOps P A H G [a] (fun fr st => I fr st ∧ WOps P A H G R K fr st) fr st
/-- Two operations change places, by what is known. -/
def SwI (P : Program) (A H : List Tmp) (G : Nat → Option Tmp) (I : Fr → St → Prop) (a x : Oper × Bool) : Prop := ∀ (R : List (Oper × Bool)) (K : Fr → St → Prop) (fr : Fr) (st : St), I fr st → WOps P A H G (a :: x :: R) K fr st → WOps P A H G (x :: a :: R) K fr st
theorem WOps_unhead {P : Program} {A H : List Tmp} {G : Nat → Option Tmp} {ox : Oper × Bool} {R : List (Oper × Bool)} {K : Fr → St → Prop} {fr : Fr} {st : St} (h : WOps P A H G [ox] (fun fr st => WOps P A H G R K fr st) fr st) : WOps P A H G (ox :: R) K fr st := by
  obtain ⟨o, x⟩ := ox
  unfold WOps at h ⊢
  exact h
theorem hopI {P : Program} {A H : List Tmp} {G : Nat → Option Tmp} {I : Fr → St → Prop} {x : Oper × Bool} {rest : List (Oper × Bool)} {K : Fr → St → Prop} : ∀ (As : List (Oper × Bool)), (∀ a ∈ As, SwI P A H G I a x ∧ Keeps P A H G I a) → ∀ fr st, I fr st → WOps P A H G (As ++ x :: rest) K fr st → WOps P A H G (x :: (As ++ rest)) K fr st := by
  intro As
  induction As with
  | nil => intro _ fr st _ h; exact h
  | cons a As ih =>
    intro hs fr st hI h
    refine (hs a (by simp)).1 _ _ _ _ hI (WOps_unhead ?_)
    exact ((hs a (by simp)).2 _ _ _ _ hI h).mono fun fr st ⟨h1, h2⟩ => ih (fun b hb => hs b (by simp [hb])) fr st h1 h2
def swapOkL (SP : List (Nat × Nat)) (A H : List Tmp) (l : List Oper) (p q : Nat × Bool) : Bool := swapOk A H l p q || SP.contains (p.1, q.1)
/-- Pairs of operations whose order counts. -/
def exmL (SP : List (Nat × Nat)) (A H : List Tmp) (l : List Oper) (T : List (List Nat)) : List (Nat × Bool) → List (Nat × Nat)
  | [] => []
  | p :: rest => ((rest.filter fun q => !((T.getD q.1 []).contains p.1 || swapOkL SP A H l p q)).map fun q => (p.1, q.1)) ++ exmL SP A H l T rest
def keepOL (SP : List (Nat × Nat)) (A H : List Tmp) (l : List Oper) (done : List Nat) (x : Nat) (π : List (Nat × Bool)) : Bool := (exmL SP A H l (ancT l) π).all fun pq => pq.2 != x || done.contains pq.1
/-- Whatever is drawn, one of the orders goes with it. -/
def gameL (SP : List (Nat × Nat)) (A H : List Tmp) (l : List Oper) (E : List Nat) : Nat → List (List (Nat × Bool)) → List Nat → Bool
  | 0, act, done => !act.isEmpty && E.all fun e => done.contains e
  | k + 1, act, done => !act.isEmpty && E.all fun e => done.contains e || !(((ancT l).getD e []).filter E.contains).all (done.contains ·) || gameL SP A H l E k (goOn l e (act.filter (keepOL SP A H l done e))) (e :: done)
def inEL (SP : List (Nat × Nat)) (A H : List Tmp) (l : List Oper) (E : List Nat) (π : List (Nat × Bool)) : Bool := (exmL SP A H l (ancT l) π).all fun pq => E.contains pq.1 && E.contains pq.2
def chkML (SP : List (Nat × Nat)) (A H : List Tmp) (l : List Oper) (E : List Nat) (PS : List (List (Nat × Bool))) : Bool :=
  tabOk l (ancT l) && (List.range l.length).all (fun i => E.contains i || !((l[i]?).bind fun o => callOf o.op).isSome) && PS.all (fun π => chk1 l π && inEL SP A H l E π) && gameL SP A H l E E.length PS []

theorem exm_specL {SP : List (Nat × Nat)} {A H : List Tmp} {l : List Oper} {T : List (List Nat)} : ∀ {π : List (Nat × Bool)} (X : List (Nat × Bool)) (q : Nat × Bool) (Y : List (Nat × Bool)), π = X ++ q :: Y → ∀ p ∈ X, p.1 ∈ T.getD q.1 [] ∨ swapOkL SP A H l p q = true ∨ (p.1, q.1) ∈ exmL SP A H l T π := by
  intro π
  induction π with
  | nil => intro X q Y e; cases X <;> cases e
  | cons r π ih =>
    intro X q Y e p hp
    cases X with
    | nil => cases hp
    | cons r' X =>
      injection e with e1 e2
      subst e1
      cases hp with
      | head =>
        cases hb : ((T.getD q.1 []).contains r.1 || swapOkL SP A H l r q) with
        | true =>
          rcases Bool.or_eq_true_iff.1 hb with h | h
          · exact .inl (by simpa using h)
          · exact .inr (.inl h)
        | false =>
          refine .inr (.inr ?_)
          simp only [exmL]
          refine List.mem_append_left _ (List.mem_map.2 ⟨q, List.mem_filter.2 ⟨by rw [e2]; simp, by rw [hb]; rfl⟩, rfl⟩)
      | tail _ hp =>
        rcases ih X q Y e2 p hp with h | h | h
        · exact .inl h
        · exact .inr (.inl h)
        · exact .inr (.inr (by simp only [exmL]; exact List.mem_append_right _ h))

section
variable {P : Program} {A H : List Tmp} {G : Nat → Option Tmp}
theorem wpAny_soundML {I : Fr → St → Prop} {SP : List (Nat × Nat)} {n : Nat} {B : Base} {l : List Oper} {E : List Nat} (hKeep : ∀ o ∈ l, ∀ x, Keeps P A H G I (o, x)) (hSP : ∀ p q a x, (p, q) ∈ SP → l[p]? = some a → l[q]? = some x → ∀ fp fq, SwI P A H G I (a, fp) (x, fq)) (ctab : tabOk l (ancT l) = true) (ccall : ∀ i o, l[i]? = some o → i ∉ E → callOf o.op = none) (hd : ∀ o ∈ l, ∀ t, o.dst = some t → t < n)
    (hG : ∀ j, G j = (l.toArray[j]?).bind (·.dst)) {K : Fr → St → Prop} {Q : Exit → Act → World → Prop}
    (hQ : ∀ fr' st' M' L' a' w', K fr' st' → Rel P B M' L' n fr' st' a' w' → Q .normal a' w') :
    ∀ (fuel k : Nat) (act : List (List (Nat × Bool))) (done : List Nat) (listed : Array Bool) (fr : Fr) (st : St) (M : List ME) (L : Nat → Nat) (a : Act) (w : World), (∀ π ∈ act, chk1 l π = true ∧ inEL SP A H l E π = true) → gameL SP A H l E k act done = true → (∀ e ∈ E, e ∈ done ↔ listed.getD e false = true) →
      listed.size = l.length → (∀ π ∈ act, (rem π listed).length = fuel) → (∀ i, i < l.length → listed.getD i false = true → ∀ d ∈ deps l i, listed.getD d false = true) →
      Rel P B M L n fr st a w → I fr st → (∀ π ∈ act, WOps P A H G (pickOps l (rem π listed)) K fr st) → wpAny P .any l.toArray Q fuel listed a w := by
  intro fuel
  induction fuel with
  | zero =>
    intro k act done listed fr st M L a w hchk hgame hdone hsz hlen hcl R hI h
    obtain ⟨π, hπ⟩ : ∃ π, π ∈ act := by
      cases act with
      | nil => cases k <;> simp [gameL] at hgame
      | cons π _ => exact ⟨π, by simp⟩
    have hc := (hchk π hπ).1
    unfold chk1 at hc
    simp only [Bool.and_eq_true] at hc
    obtain ⟨⟨⟨c1, c2⟩, c3⟩, c5⟩ := hc
    have cover : ∀ i, i < l.length → ∃ p ∈ π, p.1 = i := by
      intro i hi
      have := List.all_eq_true.1 c2 i (by simpa using hi)
      simpa using this
    have hrem : rem π listed = [] := List.eq_nil_of_length_eq_zero (hlen π hπ)
    refine ⟨?_, ?_⟩
    · apply List.eq_nil_iff_forall_not_mem.2
      intro i hi
      obtain ⟨h1, h2, h3⟩ := mem_ready.1 hi
      obtain ⟨p, hp, rfl⟩ := cover i h1
      have : p ∈ rem π listed := mem_rem.2 ⟨hp, h2⟩
      rw [hrem] at this
      cases this
    · have := h π hπ
      rw [hrem] at this
      exact hQ _ _ _ _ _ _ this R
  | succ fuel ih =>
    intro k act done listed fr st M L a w hchk hgame hdone hsz hlen hcl R hI h
    refine ⟨fun hr => ?_, fun i hi => ?_⟩
    · -- something is ready
      exfalso
      obtain ⟨π, hπ⟩ : ∃ π, π ∈ act := by
        cases act with
        | nil => cases k <;> simp [gameL] at hgame
        | cons π _ => exact ⟨π, by simp⟩
      have hc := (hchk π hπ).1
      unfold chk1 at hc
      simp only [Bool.and_eq_true] at hc
      obtain ⟨⟨⟨c1, c2⟩, c3⟩, c5⟩ := hc
      have inl : ∀ p ∈ π, p.1 < l.length := fun p hp => by have := List.all_eq_true.1 c3 p hp; simpa using this
      have hlen := hlen π hπ
      have hex := rem_split (π := π) (listed := listed) (by intro e; rw [e] at hlen; cases hlen)
      obtain ⟨X, q, Y, e, h1, h2⟩ := hex
      have hq : q.1 < l.length := inl q (by rw [e]; simp)
      have : q.1 ∈ Region.ready .any l.toArray listed := by
        refine mem_ready.2 ⟨hq, h2, fun d hd => ?_⟩
        rcases topoOk_spec c5 X q Y e d hd with hd | ⟨p, hp, rfl⟩
        · cases hd
        · have h3 := h1 p hp
          have hp' : p.1 < listed.size := by rw [hsz]; exact inl p (by rw [e]; simp [hp])
          rw [getD_lt hp' false true]; exact h3
      rw [hr] at this
      cases this
    · obtain ⟨h1, h2, h3⟩ := mem_ready.1 hi
      obtain ⟨o, ho⟩ : ∃ o, l[i]? = some o := ⟨_, List.getElem?_eq_getElem h1⟩
      have hq' : i < listed.size := by rw [hsz]; exact h1
      -- the orders that go on, and the gameL that goes on
      obtain ⟨k', act', done', hact, hgame', hone, hdone', hkeep⟩ : ∃ k' act' done', (∀ π ∈ act', π ∈ act) ∧ gameL SP A H l E k' act' done' = true ∧ (callOf o.op = none ∨ ∃ π, act' = [π]) ∧ (∀ e ∈ E, e ∈ done' ↔ (e = i ∨ listed.getD e false = true)) ∧ ∀ π ∈ act', ∀ p, (p, i) ∈ exmL SP A H l (ancT l) π → listed.getD p false = true := by
        by_cases hE : i ∈ E
        · have hnd : i ∉ done := fun hh => by
            have := (hdone i hE).1 hh
            rw [getD_lt hq' false true] at this
            rw [h2] at this; cases this
          cases k with
          | zero =>
            exfalso
            simp only [gameL, Bool.and_eq_true] at hgame
            have := List.all_eq_true.1 hgame.2 i hE
            exact hnd (by simpa using this)
          | succ k =>
            simp only [gameL, Bool.and_eq_true] at hgame
            have h4 := List.all_eq_true.1 hgame.2 i hE
            simp only [Bool.or_eq_true, Bool.not_eq_true'] at h4
            have h5 : gameL SP A H l E k (goOn l i (act.filter (keepOL SP A H l done i))) (i :: done) = true := by
              rcases h4 with (h4 | h4) | h4
              · exact absurd (by simpa using h4) hnd
              · exfalso
                have h6 : (((ancT l).getD i []).filter E.contains).all (done.contains ·) = true := by
                  refine List.all_eq_true.2 fun d hdm => ?_
                  obtain ⟨hd1, hd2⟩ := List.mem_filter.1 hdm
                  have hl2 := tab_closed ctab (fun j => listed.getD j false = true) hcl i h1 h3 d hd1
                  have := (hdone d (by simpa using hd2)).2 hl2
                  simpa using this
                rw [h6] at h4
                cases h4
              · exact h4
            refine ⟨k, _, _, fun π hπ => (List.mem_filter.1 (goOn_sub π hπ)).1, h5, ?_, fun e he => ?_, fun π hπ p hp => ?_⟩
            · cases hcl2 : callOf o.op with
              | none => exact .inl rfl
              | some c =>
                refine .inr ?_
                have hgo : goOn l i (act.filter (keepOL SP A H l done i)) = (act.filter (keepOL SP A H l done i)).take 1 := by unfold goOn; rw [ho]; simp [hcl2]
                rw [hgo]
                rw [hgo] at h5
                cases hf : act.filter (keepOL SP A H l done i) with
                | nil => rw [hf] at h5; cases k <;> simp [gameL] at h5
                | cons π _ => exact ⟨π, rfl⟩
            · rw [List.mem_cons, hdone e he]
            · have hπ := goOn_sub π hπ
              have h6 := (List.mem_filter.1 hπ).2
              unfold keepOL at h6
              have h7 := List.all_eq_true.1 h6 _ hp
              simp only [bne_self_eq_false, Bool.false_or] at h7
              have hpE : p ∈ E := by
                have := (hchk π (List.mem_filter.1 hπ).1).2
                unfold inEL at this
                have := List.all_eq_true.1 this _ hp
                simp only [Bool.and_eq_true] at this
                simpa using this.1
              exact (hdone p hpE).1 (by simpa using h7)
        · refine ⟨k, act, done, fun _ h => h, hgame, .inl (ccall i o ho hE), fun e he => ⟨fun hh => .inr ((hdone e he).1 hh), fun hh => ?_⟩, fun π hπ p hp => ?_⟩
          · rcases hh with rfl | hh
            · exact absurd he hE
            · exact (hdone e he).2 hh
          · exfalso
            have := (hchk π hπ).2
            unfold inEL at this
            have := List.all_eq_true.1 this _ hp
            simp only [Bool.and_eq_true] at this
            exact hE (by simpa using this.2)
      have hgetD : ∀ (j : Nat) (b : Bool), j < listed.size → (listed.setIfInBounds i true).getD j b = if j = i then true else listed.getD j b := by
        intro j b hj
        simp only [Array.getD_eq_getD_getElem?, Array.getElem?_setIfInBounds]
        by_cases e : j = i
        · subst e; simp [hj]
        · simp [e, Ne.symm e]
      -- one step, for each order
      have hall : ∀ π ∈ act', ∃ x R', rem π (listed.setIfInBounds i true) = R' ∧ R'.length = fuel ∧ WOps P A H G ((o, x) :: pickOps l R') K fr st := by
        intro π hπ'
        have hπ := hact π hπ'
        have hc := (hchk π hπ).1
        unfold chk1 at hc
        simp only [Bool.and_eq_true] at hc
        obtain ⟨⟨⟨c1, c2⟩, c3⟩, c5⟩ := hc
        have cover : ∀ i, i < l.length → ∃ p ∈ π, p.1 = i := by
          intro i hi
          have := List.all_eq_true.1 c2 i (by simpa using hi)
          simpa using this
        have inl : ∀ p ∈ π, p.1 < l.length := fun p hp => by have := List.all_eq_true.1 c3 p hp; simpa using this
        have hlen := hlen π hπ
        have h := h π hπ
        have hex : ∃ X q Y, rem π listed = X ++ q :: Y ∧ q.1 = i ∧ ∃ X' Y', π = X' ++ q :: Y' ∧ (∀ p ∈ X, p ∈ X') := by
          obtain ⟨q, hq, rfl⟩ := cover i h1
          obtain ⟨X', Y', e⟩ := List.append_of_mem hq
          refine ⟨rem X' listed, q, rem Y' listed, ?_, rfl, X', Y', e, fun p hp => (List.mem_filter.1 hp).1⟩
          rw [e]
          unfold rem
          rw [List.filter_append, List.filter_cons, h2]
          rfl
        obtain ⟨X, q, Y, e, rfl, X', Y', e', hX⟩ := hex
        have hop' := hopI (P := P) (A := A) (H := H) (G := G) (I := I) (K := K) (x := (o, q.2)) (rest := pickOps l Y) (pickOps l X) (fun ax hax => by
          obtain ⟨p, hp, hpo, hpx⟩ := mem_pickOps hax
          have hno : listed.getD p.1 false ≠ true := fun hl2 => by
            have hmem : p ∈ rem π listed := by rw [e]; simp [hp]
            have := (mem_rem.1 hmem).2
            have hp' : p.1 < listed.size := by rw [hsz]; exact (List.getElem?_eq_some_iff.1 hpo).1
            rw [getD_lt hp' true false] at this
            exact absurd (hl2.symm.trans this) (by simp)
          have hsw : swapOkL SP A H l p q = true := by
            rcases exm_specL (SP := SP) (A := A) (H := H) (l := l) (T := ancT l) X' q Y' e' p (hX p hp) with ht | hs | hx
            · exact absurd (tab_closed ctab (fun i => listed.getD i false = true) hcl q.1 h1 h3 p.1 ht) hno
            · exact hs
            · exact absurd (hkeep π hπ' p.1 hx) hno
          obtain ⟨a1, a2⟩ := ax
          simp only at hpx hpo
          refine ⟨?_, hKeep a1 (List.mem_of_getElem? hpo) a2⟩
          unfold swapOkL at hsw
          rcases Bool.or_eq_true_iff.1 hsw with hs | hs
          · have := swapOk_spec hpo ho hs
            rw [hpx] at this
            exact fun R K fr st _ h => hop (ops := l.toArray) (x := (o, q.2)) (rest := R) hG [(a1, a2)] (fun c hc => by rw [List.mem_singleton.1 hc]; exact this) fr st h
          · exact hSP p.1 q.1 a1 o (by simpa using hs) hpo ho a2 q.2) fr st hI (by rw [e, pickOps_app, pickOps_cons ho] at h; exact h)
        have hrem' : ∀ Z : List (Nat × Bool), (∀ p ∈ Z, p.1 < l.length) → rem Z (listed.setIfInBounds q.1 true) = (rem Z listed).filter fun p => p.1 != q.1 := by
          intro Z hZ
          unfold rem
          rw [List.filter_filter]
          apply List.filter_congr
          intro p hp
          rw [hgetD p.1 true (by rw [hsz]; exact hZ p hp)]
          by_cases e : p.1 = q.1
          · simp [e]
          · simp [e]
        have hnd : (π.map (·.1)).Nodup := nodupB_spec c1.2
        have hXY : rem π (listed.setIfInBounds q.1 true) = X ++ Y := by
          rw [hrem' π inl, e]
          have hnd2 : ((X ++ q :: Y).map (·.1)).Nodup := by
            rw [← e]
            exact hnd.sublist (List.Sublist.map _ List.filter_sublist)
          rw [List.map_append, List.map_cons] at hnd2
          have hni := List.nodup_append.1 hnd2
          rw [List.filter_append, List.filter_cons]
          simp only [bne_self_eq_false, Bool.false_eq_true, if_false]
          congr 1
          · apply List.filter_eq_self.2
            intro p hp
            have : p.1 ≠ q.1 := fun e => hni.2.2 p.1 (List.mem_map.2 ⟨p, hp, rfl⟩) q.1 (by simp) e
            simpa using this
          · apply List.filter_eq_self.2
            intro p hp
            have : p.1 ≠ q.1 := fun e => (List.nodup_cons.1 hni.2.1).1 (e ▸ List.mem_map.2 ⟨p, hp, rfl⟩)
            simpa using this
        refine ⟨q.2, X ++ Y, hXY, ?_, by rw [pickOps_app]; exact hop'⟩
        rw [e] at hlen
        simp only [List.length_append, List.length_cons] at hlen ⊢
        omega
      obtain ⟨π0, hπ0⟩ : ∃ π, π ∈ act' := by
        cases act' with
        | nil => cases k' <;> simp [gameL] at hgame'
        | cons π _ => exact ⟨π, by simp⟩
      have hone2 : ∃ x, WOps P A H G [(o, x)] (fun fr st => ∀ π ∈ act', WOps P A H G (pickOps l (rem π (listed.setIfInBounds i true))) K fr st) fr st := by
        rcases hone with hn | ⟨π, rfl⟩
        · refine ⟨false, WOps_conj hn ⟨π0, hπ0⟩ fun π hπ => ?_⟩
          obtain ⟨x, R', h4, _, h5⟩ := hall π hπ
          exact ⟨x, by rw [h4]; exact WOps_head h5⟩
        · obtain ⟨x, R', h4, _, h5⟩ := hall π (by simp)
          refine ⟨x, (WOps_head h5).mono fun fr st hq π' hπ' => ?_⟩
          obtain rfl := List.mem_singleton.1 hπ'
          rw [h4]; exact hq
      obtain ⟨x, hw1⟩ := hone2
      have hw2 := hKeep o (List.mem_of_getElem? ho) x [] _ fr st hI hw1
      have hstep := step_sound (Q := Q) R hG (hd o (List.mem_of_getElem? ho)) hw2 (K' := wpAny P .any l.toArray Q fuel (listed.setIfInBounds i true)) fun fr' st' M' L' a' w' h' R' => by
        obtain ⟨hI', h'⟩ := h'
        rw [w_nil] at h'
        refine ih k' act' done' (listed.setIfInBounds i true) fr' st' M' L' a' w' (fun π hπ => hchk π (hact π hπ)) hgame' (fun e he => ?_) (by simpa using hsz) (fun π hπ => ?_) ?_ R' hI' h'
        · rw [hdone' e he]
          by_cases hel : e < listed.size
          · rw [hgetD e false hel]
            by_cases ee : e = i
            · simp [ee]
            · simp [ee]
          · have h6 : e ≠ i := by omega
            simp [h6, Array.getD, hel]
        · obtain ⟨x, R', h4, h5, _⟩ := hall π hπ
          rw [h4]; exact h5
        · intro j hj hjl d hdj
          have hdl : d < listed.size ∨ listed.size ≤ d := by omega
          have base : listed.getD d false = true := by
            rw [hgetD j false (by rw [hsz]; exact hj)] at hjl
            split at hjl
            · rename_i ej; subst ej; exact h3 d hdj
            · exact hcl j hj hjl d hdj
          rcases hdl with hdl | hdl
          · rw [hgetD d false hdl]
            by_cases ed : d = i
            · rw [if_pos ed]
            · rw [if_neg ed]; exact base
          · simp [Array.getD, Nat.not_lt.2 hdl] at base
      unfold wpOp
      have ho' : l.toArray[i]? = some o := by simpa using ho
      rw [ho']
      simp only
      split at hstep
      · rename_i hw; rw [if_pos hw]; exact .inl hstep
      · rename_i hw; rw [if_neg hw]; exact hstep

/-- A region that draws its order, walked in several orders. -/
theorem W_regionML {I : Fr → St → Prop} {n id : Nat} {Q : Ex → Fr → St → Prop} {fr : Fr} {st : St} (hm : P.follows .mixedOrders = true) {l : List Oper} (SP : List (Nat × Nat)) (A : List Tmp) (E : List Nat) (PS : List (List (Nat × Bool))) (hd : dstsLt n l = true) (hc : chkML SP A H l E PS = true) (hI : I fr st)
    (hKeep : ∀ G, (∀ j, G j = (l[j]?).bind (·.dst)) → ∀ o ∈ l, ∀ x, Keeps P A H G I (o, x)) (hSP : ∀ G, (∀ j, G j = (l[j]?).bind (·.dst)) → ∀ p q a x, (p, q) ∈ SP → l[p]? = some a → l[q]? = some x → ∀ fp fq, SwI P A H G I (a, fp) (x, fq))
    (h : ∀ G : Nat → Option Tmp, (∀ j, G j = (l[j]?).bind (·.dst)) → ∀ π ∈ PS, WOps P A H G (pickOps l π) (Q .normal) fr st) : W P H n (.region id l.toArray true) Q fr st := by
  intro B M L a w R
  refine wp_region_any hm ?_
  unfold chkML at hc
  simp only [Bool.and_eq_true] at hc
  obtain ⟨⟨⟨h1, h2⟩, h3⟩, h4⟩ := hc
  have hchk : ∀ π ∈ PS, chk1 l π = true ∧ inEL SP A H l E π = true := fun π hπ => by have := List.all_eq_true.1 h3 π hπ; simpa using this
  have hrem : ∀ π ∈ PS, rem π (Array.replicate l.length false) = π ∧ π.length = l.length := by
    intro π hπ
    have hc1 := (hchk π hπ).1
    unfold chk1 at hc1
    simp only [Bool.and_eq_true] at hc1
    refine ⟨List.filter_eq_self.2 fun p hp => ?_, by simpa using hc1.1.1.1.1⟩
    have := List.all_eq_true.1 hc1.1.2 p hp
    have hp' : p.1 < l.length := by simpa using this
    simp [Array.getD, hp']
  refine wpAny_soundML (I := I) (SP := SP) (G := fun j => (l[j]?).bind (·.dst)) (E := E) (hKeep _ fun _ => rfl) (hSP _ fun _ => rfl) h1 (fun i o ho hE => ?_) (dstsLt_of hd) (fun j => by simp) (Q := fun e a' w' => ∃ x fr' st' M' L', e = Ex.to x ∧ Q x fr' st' ∧ Rel P B M' L' n fr' st' a' w')
    (fun fr' st' M' L' a' w' hK R' => ⟨.normal, fr', st', M', L', rfl, hK, R'⟩) l.toArray.size E.length PS [] (Array.replicate l.toArray.size false) fr st M L a _ hchk h4 (fun e he => ?_) (by simp) (fun π hπ => ?_) ?_ R.drewAt hI (fun π hπ => ?_)
  · have := List.all_eq_true.1 h2 i (by simpa using (List.getElem?_eq_some_iff.1 ho).1)
    simp only [ho, Option.bind_some, Bool.or_eq_true, Bool.not_eq_true'] at this
    rcases this with h | h
    · exact absurd (by simpa using h) hE
    · simpa using h
  · constructor
    · intro hh; cases hh
    · intro hh
      have : (Array.replicate l.toArray.size false).getD e false = false := by
        simp only [Array.getD_eq_getD_getElem?, Array.getElem?_replicate]
        split <;> rfl
      rw [this] at hh; cases hh
  · simp only [List.size_toArray]; rw [(hrem π hπ).1, (hrem π hπ).2]
  · intro i hi hli
    simp [Array.getD, hi] at hli
  · simp only [List.size_toArray]; rw [(hrem π hπ).1]; exact h _ (fun _ => rfl) π hπ

end

section
variable {P : Program} {A H : List Tmp} {G : Nat → Option Tmp}
/-! Loads of local boxes. -/
/-- No pointer into the store. -/
def nonH : Value → Bool
  | .pointer (some ⟨_, _, none⟩) => false
  | _ => true
def ldL (Ls : List Tmp) : Op → Bool
  | .load _ (.tmp t) => Ls.contains t
  | .fieldAddr _ (.tmp t) _ => Ls.contains t
  | _ => false
def faL (Ls : List Tmp) : Op → Bool
  | .fieldAddr _ (.tmp t) _ => Ls.contains t
  | _ => false
def isApp : Op → Bool
  | .call { callee := .builtin .append, .. } => true
  | _ => false
/-- These slots point to local boxes. -/
def InvL (Ls : List Tmp) (fr : Fr) (_ : St) : Prop := ∀ t ∈ Ls, nonH (fr.env t) = true
def okL (Ls : List Tmp) (l : List Oper) (p q : Nat) : Bool := match l[p]?, l[q]? with
  | some a, some x => (ldL Ls a.op && (a.guard.isNone && x.guard.isNone)) && ((((callOf x.op).isSome || isApp x.op)) && a.apart l.toArray x)
  | _, _ => false
def spL (Ls : List Tmp) (l : List Oper) : List (Nat × Nat) := (List.range l.length).flatMap fun p => ((List.range l.length).filter fun q => okL Ls l p q).map fun q => (p, q)
def dstL (Ls : List Tmp) (o : Oper) : Bool := match o.dst with
  | some d => !Ls.contains d || (faL Ls o.op && o.guard.isNone)
  | none => true
def chkLL (Ls A H : List Tmp) (l : List Oper) (E : List Nat) (PS : List (List (Nat × Bool))) : Bool :=
  l.all (dstL Ls) && chkML (spL Ls l) A H l E PS
theorem spL_mem {Ls : List Tmp} {l : List Oper} {p q : Nat} (h : (p, q) ∈ spL Ls l) : okL Ls l p q = true := by
  unfold spL at h
  obtain ⟨p', _, h2⟩ := List.mem_flatMap.1 h
  obtain ⟨q', h3, h4⟩ := List.mem_map.1 h2
  cases h4
  exact (List.mem_filter.1 h3).2
theorem InvL.put {Ls : List Tmp} {fr : Fr} {st st' : St} (h : InvL Ls fr st) {d : Option Tmp} {v : Value} (hd : ∀ t, d = some t → t ∉ Ls ∨ nonH v = true) (l : Nat → Nat × List Value) : InvL Ls ⟨AM.put fr.env d v, l⟩ st' := fun t ht => by
  cases d with
  | none => exact h t ht
  | some d =>
    show nonH (upd fr.env d v t) = true
    by_cases e : t = d
    · subst e
      rw [upd_same]
      exact (hd _ rfl).resolve_left fun h => h ht
    · rw [upd_ne _ _ _ _ e]
      exact h t ht
theorem keepsL {Ls : List Tmp} {o : Oper} (hd : dstL Ls o = true) (x : Bool) : Keeps P A H G (InvL Ls) (o, x) := by
  intro R K fr st hI h
  by_cases hn : ∀ t, o.dst = some t → t ∉ Ls
  · have hput : ∀ v (l : Nat → Nat × List Value) s, InvL Ls ⟨AM.put fr.env o.dst v, l⟩ s := fun v l s => hI.put (fun t ht => .inl (hn t ht)) l
    unfold WOps at h ⊢
    split at h
    · exact h.elim
    · exact ⟨hput _ _ _, h⟩
    · split at h
      · obtain ⟨g, h1, h2, h3⟩ := h
        exact ⟨g, h1, h2, h3.mono fun r st' ⟨q1, q2⟩ => ⟨q1, hput _ _ _, q2⟩⟩
      · split at h
        · exact ⟨hput _ _ _, h⟩
        · exact h.elim
  · have hex : ∃ d, o.dst = some d ∧ d ∈ Ls := Classical.byContradiction fun h2 => hn fun t ht hL => h2 ⟨t, ht, hL⟩
    obtain ⟨d, hdd, hdL⟩ := hex
    unfold dstL at hd
    rw [hdd] at hd
    simp only [Bool.or_eq_true, Bool.and_eq_true, Bool.not_eq_true'] at hd
    have hfa : faL Ls o.op = true ∧ o.guard.isNone = true := by
      rcases hd with hd | hd
      · have : Ls.contains d = true := by simpa using hdL
        rw [this] at hd; cases hd
      · exact hd
    obtain ⟨hf, hg⟩ := hfa
    unfold faL at hf
    split at hf
    · rename_i ty t f hop
      have htL : t ∈ Ls := by simpa using hf
      have hcn : callOf o.op = none := by rw [hop]; rfl
      have ht := hI t htL
      rw [WOps_cons hg, hcn] at h ⊢
      simp only at h ⊢
      split at h
      · rename_i v l s hs
        obtain ⟨q1, q2, q3⟩ := stepVal_pure (.inr (by rw [hop]; rfl)) hs
        replace q2 := q2.symm; replace q3 := q3.symm
        subst q2; subst q3
        refine ⟨hI.put (fun t' _ => .inr ?_) _, h⟩
        rw [hop] at q1
        have q1' : (match fr.env t with
          | .pointer (some ⟨b, o, sp⟩) => (match offA P ty f with
            | some d => if okPtr A fr.loc b sp then some (Value.pointer (some ⟨b, o + d, sp⟩)) else none
            | none => none)
          | _ => none) = some v := q1
        split at q1'
        · rename_i b o' sp he
          rw [he] at ht
          split at q1'
          · split at q1'
            · cases q1'
              cases sp with
              | none => cases ht
              | some _ => rfl
            · cases q1'
          · cases q1'
        · cases q1'
      · exact h.elim
    · cases hf
theorem loadA_loc {t : TypeId} {p : Value} (h : nonH p = true) (loc : Nat → Nat × List Value) (st st' : St) : loadA P A t p loc st' = loadA P A t p loc st := by
  cases p with
  | pointer a =>
    cases a with
    | none => rfl
    | some ad =>
      obtain ⟨b, o, w⟩ := ad
      cases w with
      | none => cases h
      | some w => rw [loadA_p, loadA_p]; rfl
  | _ => rfl
theorem app_loc {o : Oper} (h : isApp o.op = true) {fr : Fr} {st : St} {v : Value} {l : Nat → Nat × List Value} {s : St} (hs : stepVal P A H o fr st = some (v, l, s)) : l = fr.loc := by
  unfold isApp at h
  split at h
  · rename_i c1 c2 hop
    unfold stepVal at hs
    rw [hop] at hs
    have e : ∀ ρ loc st, evalVal P A (.call { callee := .builtin .append, args := c1, argTypes := c2 }) ρ loc st = none := fun _ _ _ => rfl
    rw [e] at hs
    simp only at hs
    unfold evalEff at hs
    rw [hop] at hs
    simp only at hs
    split at hs
    · simp only [Option.map_eq_some_iff] at hs
      obtain ⟨r, _, hr⟩ := hs
      cases hr; rfl
    · cases hs
  · cases h
theorem swL {ops : Array Oper} {Ls : List Tmp} {a x : Oper} (hld : ldL Ls a.op = true) (hga : a.guard.isNone = true) (hgx : x.guard.isNone = true) (hx : (callOf x.op).isSome = true ∨ isApp x.op = true) (hap : a.apart ops x = true) (fa fx : Bool) : SwI P A H G (InvL Ls) (a, fa) (x, fx) := by
  intro R K fr st hI h
  obtain ⟨env, loc⟩ := fr
  have sp := Oper.apart_spec hap
  have hrd : isPure a.op = true ∨ isRd a.op = true := .inr (by
    unfold ldL at hld
    split at hld
    · rename_i e; rw [e]; rfl
    · rename_i e; rw [e]; rfl
    · cases hld)
  have hcn : callOf a.op = none := by
    unfold ldL at hld
    split at hld
    · rename_i e; rw [e]; rfl
    · rename_i e; rw [e]; rfl
    · cases hld
  have hev : ∀ (l : Nat → Nat × List Value) (s s' : St), evalVal P A a.op (Fr.ev ⟨env, loc⟩) l s' = evalVal P A a.op (Fr.ev ⟨env, loc⟩) l s := by
    intro l s s'
    unfold ldL at hld
    split at hld
    · rename_i ty t e
      rw [e]
      exact loadA_loc (hI t (by simpa using hld)) l s s'
    · rename_i e; rw [e]; rfl
    · cases hld
  have hxa : ∀ (v : Value) (l l' : Nat → Nat × List Value) (y : Operand), y ∈ x.op.operands → Fr.ev ⟨put env a.dst v, l⟩ y = Fr.ev ⟨env, l'⟩ y := fun v l l' y hy => ev_put fun d hd e => by
    subst e; exact sp.1 d hd (mem_looks hy)
  rw [WOps_cons hga, hcn] at h
  simp only at h
  split at h
  rotate_left
  · exact h.elim
  rename_i va l s hs
  obtain ⟨q1, q2, q3⟩ := stepVal_pure hrd hs
  replace q2 := q2.symm; replace q3 := q3.symm
  subst q2; subst q3
  simp only at h q1
  have back : ∀ (v : Value) (s' : St), WOps P A H G R K ⟨put (put env a.dst va) x.dst v, loc⟩ s' → WOps P A H G ((a, fa) :: R) K ⟨put env x.dst v, loc⟩ s' := by
    intro v s' hh
    rw [WOps_cons hga, hcn]
    simp only
    have e : evalVal P A a.op (Fr.ev ⟨put env x.dst v, loc⟩) loc s' = some va := by
      rw [evalVal_apart hap]
      exact (hev loc _ _).trans q1
    rw [stepVal_of e]
    rw [put_comm _ _ _ sp.2.1] at hh
    exact hh
  rw [WOps_cons hgx] at h ⊢
  cases hc : callOf x.op with
  | some fa' =>
    obtain ⟨f, args⟩ := fa'
    rw [hc] at h
    simp only at h ⊢
    obtain ⟨o1, o2⟩ := callOf_operands hc
    obtain ⟨g, h1, h2, h3⟩ := h
    refine ⟨g, ?_, ?_, ?_⟩
    · rw [← hxa va loc loc f o2]; exact h1
    · rw [← Array.all_toList] at h2 ⊢
      rw [List.all_eq_true] at h2 ⊢
      intro y hy
      have := h2 y hy
      rw [hxa va loc loc y (o1 y (by simpa using hy))] at this
      exact this
    · have e3 : args.toList.map (Fr.ev ⟨put env a.dst va, loc⟩) = args.toList.map (Fr.ev ⟨env, loc⟩) := List.map_congr_left fun y hy => hxa va loc loc y (o1 y (by simpa using hy))
      rw [e3] at h3
      exact h3.mono fun r st' ⟨p1, p2⟩ => ⟨p1, back r st' p2⟩
  | none =>
    rw [hc] at h
    simp only at h ⊢
    have hxapp : isApp x.op = true := by
      rcases hx with hx | hx
      · rw [hc] at hx; cases hx
      · exact hx
    split at h
    · rename_i v l s' hs'
      have e := stepVal_congr (P := P) (A := A) (H := H) (o := x) (fr := ⟨put env a.dst va, loc⟩) (fr' := ⟨env, loc⟩) (st := st) rfl fun y hy => (hxa va _ _ y hy).symm
      rw [e, hs']
      have := app_loc hxapp hs'
      simp only at this
      subst this
      exact back v s' h
    · exact h.elim
end
/-- A region that draws its order, walked in several orders; loads of the local boxes Ls may change places with calls and appends. -/
theorem W_regL {P : Program} {H : List Tmp} {n : Nat} {Q : Ex → Fr → St → Prop} {fr : Fr} {st : St} {id : Nat} {l : List Oper} {rest : Code} (hm : P.follows .mixedOrders = true) (Ls A : List Tmp) (E : List Nat) (PS : List (List (Nat × Bool))) (hd : dstsLt n l = true) (hc : chkLL Ls A H l E PS = true) (hI : ∀ t ∈ Ls, nonH (fr.env t) = true)
    (h : ∀ (G : Nat → Option Tmp) (K : Fr → St → Prop), (∀ j, G j = (l[j]?).bind (·.dst)) → (∀ fr st, W P H n rest Q fr st → K fr st) → ∀ π ∈ PS, WOps P A H G (pickOps l π) K fr st) : W P H n (.seq (.region id l.toArray true) rest) Q fr st := by
  unfold chkLL at hc
  obtain ⟨h1, h2⟩ := Bool.and_eq_true_iff.1 hc
  refine W_seq (W_regionML (I := InvL Ls) hm _ A E PS hd h2 hI (fun G hG o ho x => keepsL (List.all_eq_true.1 h1 o ho) x) (fun G hG p q a x hpq ha hx fp fq => ?_) fun G hG => h G _ hG fun _ _ h => h)
  have := spL_mem hpq
  unfold okL at this
  rw [ha, hx] at this
  simp only [Bool.and_eq_true, Bool.or_eq_true] at this
  obtain ⟨⟨g1, g2, g3⟩, g4, g5⟩ := this
  exact swL g1 g2 g3 g4 g5 fp fq
theorem W_endL {P : Program} {H : List Tmp} {n : Nat} {Q : Ex → Fr → St → Prop} {fr : Fr} {st : St} {id : Nat} {l : List Oper} (hm : P.follows .mixedOrders = true) (Ls A : List Tmp) (E : List Nat) (PS : List (List (Nat × Bool))) (hd : dstsLt n l = true) (hc : chkLL Ls A H l E PS = true) (hI : ∀ t ∈ Ls, nonH (fr.env t) = true)
    (h : ∀ (G : Nat → Option Tmp) (K : Fr → St → Prop), (∀ j, G j = (l[j]?).bind (·.dst)) → (∀ fr st, Q .normal fr st → K fr st) → ∀ π ∈ PS, WOps P A H G (pickOps l π) K fr st) : W P H n (.region id l.toArray true) Q fr st := by
  unfold chkLL at hc
  obtain ⟨h1, h2⟩ := Bool.and_eq_true_iff.1 hc
  refine W_regionML (I := InvL Ls) hm _ A E PS hd h2 hI (fun G hG o ho x => keepsL (List.all_eq_true.1 h1 o ho) x) (fun G hG p q a x hpq ha hx fp fq => ?_) fun G hG => h G _ hG fun _ _ h => h
  have := spL_mem hpq
  unfold okL at this
  rw [ha, hx] at this
  simp only [Bool.and_eq_true, Bool.or_eq_true] at this
  obtain ⟨⟨g1, g2, g3⟩, g4, g5⟩ := this
  exact swL g1 g2 g3 g4 g5 fp fq
theorem fm_nil {α : Type} {P : α → Prop} : ∀ x ∈ ([] : List α), P x := fun x hx => by cases hx
theorem fm_cons {α : Type} {P : α → Prop} {a : α} {l : List α} (h1 : P a) (h2 : ∀ x ∈ l, P x) : ∀ x ∈ a :: l, P x := fun x hx => by
  rcases List.mem_cons.1 hx with rfl | hx
  · exact h1
  · exact h2 x hx
end Go.Proofs.YtkohkdlbjbbegaaDoor.AM


/- Words: spec.l1In, the built-in operators, the tests for words, their operations. -/
namespace Go.Proofs.YtkohkdlbjbbegaaDoor.AM
open Go Go.Proofs
set_option linter.unusedVariables false
set_option linter.unusedSimpArgs false
set_option maxRecDepth 100000
attribute [local go_sem] List.map_cons List.map_nil List.all_cons List.all_nil Bool.and_self Option.map_some List.getElem?_toArray Option.bind_some gye_b gye_t gsk_b gsk_t gb1 gb2 gb3 gb4 bne_self_eq_false beq_self_eq_true w_guard w_nil stepV_some step_some step_some' w_move w_assign w_pick w_binOp w_unOp w_load w_fieldAddr w_indexAddr w_len w_max w_index ev_max max_int ev_index w_box w_alloc w_store w_field w_extract w_nilCheck w_convert w_buildSlice w_build ev_buildL fillL_nil fillL_cons bs0 bs1 ev_conv ev_bin ev_un ev_pick ev_load ev_fieldAddr ev_indexAddr ev_len ev_field ev_extract ev_nilCheck fr_tmp fr_int fr_bool fr_str fr_nil fr_func put_some put_none bin_lss bin_leq bin_gtr bin_geq bin_eql bin_neq bin_add bin_sub bin_mul bin_seql bin_sneq un_not pick_ ext_ loadA_p cellAt_l cellAt_h okPtr_l okPtr_h fadA_p allocA_l storeA_l cells_agg cells_int cells_str cells_sl cells_bool flat_i flat_s flat_b flat_sl flat_nil loc_agg loc_int loc_str loc_sl loc_bool loc_fn loc_ptr okv_agg okv_int okv_str okv_sl okv_bool cellsFrom splice upd_eval argEnv_zero argEnv_succ ne_eq Nat.add_one_ne_zero not_false_eq_true List.not_mem_nil and_self decide_true List.getElem?_cons_zero List.getElem?_cons_succ List.size_toArray List.length_cons List.length_nil List.take_succ_cons List.take_zero List.drop_succ_cons List.drop_zero List.cons_append List.nil_append List.drop_nil Bool.not_true Bool.not_false Bool.false_eq_true Nat.zero_add Nat.add_zero wrap_in List.toList_toArray List.mem_cons or_self or_false false_or
attribute [local go_sem] ag22 ag24 ag26 ag3 ag33 ag5 ag62 ag76 ag9 bu26 bu56 by26 by3 by33 by5 by9 el22 el24 el28 el33 el44 of26_0 of26_1 of26_2 of26_3 of56_0 of56_1 of56_2 of64_0 of64_1 ro26_0 ro26_1 ro26_2 ro3_0 ro3_1 ro3_3 ro33_0 ro33_1 ro5_0 ro5_1 ro9_0 ro9_1 ro9_2 ro9_3 ro9_4 sz22 sz24 sz26 sz3 sz33 sz5 sz62 sz76 sz9 ze26 ze3 ze33 ze5 ze64 ze75 ze88 ze9

theorem l1In_ok (a b c : Int) (st : St) : CallS Tryd.prog 17 [.int .i64 a, .int .i64 b, .int .i64 c] st fun r st' => r = .bool (decide (a ≥ b) && decide (a ≤ c)) ∧ st' = st := by
  refine CallS_of_W [] 15 Tryd.func17 rfl rfl rfl rfl (by simp) ?_
  by_cases h : a ≥ b
  · have c1 : decide (a ≥ b) = true := by simpa using h
    repeat (first | (refine W_reg rfl fun G K hG hK => ?_; simp (disch := omega) only [go_sem, ↓reduceIte, Nat.reduceEqDiff, Nat.reduceAdd, Nat.reduceLeDiff, hG, c1]; refine hK _ _ ?_; clear hK K hG G) | (refine W_end rfl fun G K hG hK => ?_; simp (disch := omega) only [go_sem, ↓reduceIte, Nat.reduceEqDiff, Nat.reduceAdd, Nat.reduceLeDiff, hG, c1]; refine hK _ _ ?_; clear hK K hG G; repeat (first | refine thenI ?_ | refine thenE ?_ | refine thenR ?_ | refine inBI ?_ | refine inBR ?_ | refine inBS ?_ | refine inBN (by decide) ?_)) | refine W_seqS ?_ | refine W_seqC ?_ | refine W_seqB ?_ | refine W_block ?_ | (refine W_skip ?_; repeat (first | refine thenI ?_ | refine thenE ?_ | refine thenR ?_ | refine inBI ?_ | refine inBR ?_ | refine inBS ?_ | refine inBN (by decide) ?_)) | (refine W_condT ?hc ?_; (case hc => (simp (disch := omega) only [go_sem, ↓reduceIte, Nat.reduceEqDiff, Nat.reduceAdd, Nat.reduceLeDiff, c1]; done))) | (refine W_condF ?hc ?_; (case hc => (simp (disch := omega) only [go_sem, ↓reduceIte, Nat.reduceEqDiff, Nat.reduceAdd, Nat.reduceLeDiff, c1]; done))))
    refine W_ret ?_; try (repeat (first | refine thenI ?_ | refine thenE ?_ | refine thenR ?_ | refine inBI ?_ | refine inBR ?_ | refine inBS ?_ | refine inBN (by decide) ?_))
    refine fin1 (.inl rfl) (by (simp (disch := omega) only [go_sem, ↓reduceIte, Nat.reduceEqDiff, Nat.reduceAdd, Nat.reduceLeDiff]); try rfl) rfl ⟨by rw [c1, Bool.true_and], rfl⟩
  · have c1 : decide (a ≥ b) = false := by simpa using h
    repeat (first | (refine W_reg rfl fun G K hG hK => ?_; simp (disch := omega) only [go_sem, ↓reduceIte, Nat.reduceEqDiff, Nat.reduceAdd, Nat.reduceLeDiff, hG, c1]; refine hK _ _ ?_; clear hK K hG G) | (refine W_end rfl fun G K hG hK => ?_; simp (disch := omega) only [go_sem, ↓reduceIte, Nat.reduceEqDiff, Nat.reduceAdd, Nat.reduceLeDiff, hG, c1]; refine hK _ _ ?_; clear hK K hG G; repeat (first | refine thenI ?_ | refine thenE ?_ | refine thenR ?_ | refine inBI ?_ | refine inBR ?_ | refine inBS ?_ | refine inBN (by decide) ?_)) | refine W_seqS ?_ | refine W_seqC ?_ | refine W_seqB ?_ | refine W_block ?_ | (refine W_skip ?_; repeat (first | refine thenI ?_ | refine thenE ?_ | refine thenR ?_ | refine inBI ?_ | refine inBR ?_ | refine inBS ?_ | refine inBN (by decide) ?_)) | (refine W_condT ?hc ?_; (case hc => (simp (disch := omega) only [go_sem, ↓reduceIte, Nat.reduceEqDiff, Nat.reduceAdd, Nat.reduceLeDiff, c1]; done))) | (refine W_condF ?hc ?_; (case hc => (simp (disch := omega) only [go_sem, ↓reduceIte, Nat.reduceEqDiff, Nat.reduceAdd, Nat.reduceLeDiff, c1]; done))))
    refine W_ret ?_; try (repeat (first | refine thenI ?_ | refine thenE ?_ | refine thenR ?_ | refine inBI ?_ | refine inBR ?_ | refine inBS ?_ | refine inBN (by decide) ?_))
    refine fin1 (.inl rfl) (by (simp (disch := omega) only [go_sem, ↓reduceIte, Nat.reduceEqDiff, Nat.reduceAdd, Nat.reduceLeDiff]); try rfl) rfl ⟨by rw [c1, Bool.false_and], rfl⟩

def plusB : ByteArray := ⟨#[112, 108, 117, 115]⟩
def minusB : ByteArray := ⟨#[109, 105, 110, 117, 115]⟩
def timesB : ByteArray := ⟨#[116, 105, 109, 101, 115]⟩
def isB (s : ByteArray) : Bool := s.toList == plusB.toList || (s.toList == minusB.toList || s.toList == timesB.toList)
/-- A word: one of the four. -/
def T.isW : T → Bool
  | .mk k n nm args => (k == 3) && (decide (n ≥ 0) && decide (n ≤ 3)) && (nm.toList == (⟨#[]⟩ : ByteArray).toList) && ((args.length : Int) == 0)
def opW (f : ByteArray) (a b : Int) : Int := if (f.toList == plusB.toList) = true then (a + b).tmod 4 else if (f.toList == minusB.toList) = true then (a - b + 4).tmod 4 else (a * b).tmod 4
theorem op_facts : ∀ a b : _root_.Fin 4, ((((a.1 : Int) + b.1).tmod 4 + 4).tmod 4 = ((a.1 : Int) + b.1).tmod 4 ∧ (((a.1 : Int) - b.1).tmod 4 + 4).tmod 4 = ((a.1 : Int) - b.1 + 4).tmod 4 ∧ (((a.1 : Int) * b.1).tmod 4 + 4).tmod 4 = ((a.1 : Int) * b.1).tmod 4 ∧
    IntKind.i64.wrap ((a.1 : Int) + b.1) = (a.1 : Int) + b.1 ∧ IntKind.i64.wrap ((a.1 : Int) - b.1) = (a.1 : Int) - b.1 ∧ IntKind.i64.wrap ((a.1 : Int) * b.1) = (a.1 : Int) * b.1 ∧ IntKind.i64.wrap ((a.1 : Int) - b.1 + 4) = (a.1 : Int) - b.1 + 4 ∧
    IntKind.i64.wrap (((a.1 : Int) + b.1).tmod 4 + 4) = ((a.1 : Int) + b.1).tmod 4 + 4 ∧ IntKind.i64.wrap (((a.1 : Int) - b.1).tmod 4 + 4) = ((a.1 : Int) - b.1).tmod 4 + 4 ∧ IntKind.i64.wrap (((a.1 : Int) * b.1).tmod 4 + 4) = ((a.1 : Int) * b.1).tmod 4 + 4) := by decide +kernel
theorem op_factsI (a b : Int) (ha : 0 ≤ a ∧ a ≤ 3) (hb : 0 ≤ b ∧ b ≤ 3) : (((a + b).tmod 4 + 4).tmod 4 = (a + b).tmod 4 ∧ ((a - b).tmod 4 + 4).tmod 4 = (a - b + 4).tmod 4 ∧ ((a * b).tmod 4 + 4).tmod 4 = (a * b).tmod 4 ∧
    IntKind.i64.wrap (a + b) = a + b ∧ IntKind.i64.wrap (a - b) = a - b ∧ IntKind.i64.wrap (a * b) = a * b ∧ IntKind.i64.wrap (a - b + 4) = a - b + 4 ∧
    IntKind.i64.wrap ((a + b).tmod 4 + 4) = (a + b).tmod 4 + 4 ∧ IntKind.i64.wrap ((a - b).tmod 4 + 4) = (a - b).tmod 4 + 4 ∧ IntKind.i64.wrap ((a * b).tmod 4 + 4) = (a * b).tmod 4 + 4) := by
  have h := op_facts ⟨a.toNat, by omega⟩ ⟨b.toNat, by omega⟩
  have e1 : ((a.toNat : Nat) : Int) = a := by omega
  have e2 : ((b.toNat : Nat) : Int) = b := by omega
  simp only [e1, e2] at h
  exact h
theorem rem4 {k : IntKind} {P : Program} {t : TypeId} {x y : Operand} {a : Int} : binE P .rem t x y (.int k a) (.int k 4) = some (.int k (a.tmod 4)) := bin_rem (by decide)
end Go.Proofs.YtkohkdlbjbbegaaDoor.AM


/- ReduceWords. -/
namespace Go.Proofs.YtkohkdlbjbbegaaDoor.AM
open Go Go.Proofs
set_option linter.unusedVariables false
set_option linter.unusedSimpArgs false
set_option maxRecDepth 100000
attribute [local go_sem] List.map_cons List.map_nil List.all_cons List.all_nil Bool.and_self Option.map_some List.getElem?_toArray Option.bind_some gye_b gye_t gsk_b gsk_t gb1 gb2 gb3 gb4 bne_self_eq_false beq_self_eq_true w_guard w_nil stepV_some step_some step_some' w_move w_assign w_pick w_binOp w_unOp w_load w_fieldAddr w_indexAddr w_len w_max w_index ev_max max_int ev_index w_box w_alloc w_store w_field w_extract w_nilCheck w_convert w_buildSlice w_build ev_buildL fillL_nil fillL_cons bs0 bs1 ev_conv ev_bin ev_un ev_pick ev_load ev_fieldAddr ev_indexAddr ev_len ev_field ev_extract ev_nilCheck fr_tmp fr_int fr_bool fr_str fr_nil fr_func put_some put_none bin_lss bin_leq bin_gtr bin_geq bin_eql bin_neq bin_add bin_sub bin_mul bin_seql bin_sneq un_not pick_ ext_ loadA_p cellAt_l cellAt_h okPtr_l okPtr_h fadA_p allocA_l storeA_l cells_agg cells_int cells_str cells_sl cells_bool flat_i flat_s flat_b flat_sl flat_nil loc_agg loc_int loc_str loc_sl loc_bool loc_fn loc_ptr okv_agg okv_int okv_str okv_sl okv_bool cellsFrom splice upd_eval argEnv_zero argEnv_succ ne_eq Nat.add_one_ne_zero not_false_eq_true List.not_mem_nil and_self decide_true List.getElem?_cons_zero List.getElem?_cons_succ List.size_toArray List.length_cons List.length_nil List.take_succ_cons List.take_zero List.drop_succ_cons List.drop_zero List.cons_append List.nil_append List.drop_nil Bool.not_true Bool.not_false Bool.false_eq_true Nat.zero_add Nat.add_zero wrap_in List.toList_toArray List.mem_cons or_self or_false false_or
attribute [local go_sem] ag22 ag24 ag26 ag3 ag33 ag5 ag62 ag76 ag9 bu26 bu56 by26 by3 by33 by5 by9 el22 el24 el28 el33 el44 of26_0 of26_1 of26_2 of26_3 of56_0 of56_1 of56_2 of64_0 of64_1 ro26_0 ro26_1 ro26_2 ro3_0 ro3_1 ro3_3 ro33_0 ro33_1 ro5_0 ro5_1 ro9_0 ro9_1 ro9_2 ro9_3 ro9_4 sz22 sz24 sz26 sz3 sz33 sz5 sz62 sz76 sz9 ze26 ze3 ze33 ze5 ze64 ze75 ze88 ze9

def T.num : T → Int
  | .mk _ n _ _ => n
def word (v : Int) : T := .mk 3 v ⟨#[]⟩ []
/-- The last step of a reduction. -/
def redF (k n : Int) (nm : ByteArray) : List T → T
  | [x, y] => if (k == 2 && n == 0 && isB nm && x.isW && y.isW) = true then word (opW nm x.num y.num) else .mk k n nm [x, y]
  | ys => .mk k n nm ys
mutual
def T.red : T → T
  | .mk k n nm args => redF k n nm (T.redL args)
def T.redL : List T → List T
  | [] => []
  | x :: xs => x.red :: T.redL xs
end
theorem T.redL_map (xs : List T) : T.redL xs = xs.map T.red := by
  induction xs with
  | nil => rfl
  | cons x xs ih => simp only [T.redL, List.map_cons, ih]
theorem T.isW_num {t : T} (h : t.isW = true) : 0 ≤ t.num ∧ t.num ≤ 3 := by
  obtain ⟨k, n, nm, args⟩ := t
  simp only [T.isW, Bool.and_eq_true, decide_eq_true_eq] at h
  simp only [T.num]
  omega
theorem redF_no {k n : Int} {nm : ByteArray} {ys : List T} (h : k ≠ 2 ∨ n ≠ 0 ∨ isB nm = false ∨ ys.length ≠ 2) : redF k n nm ys = .mk k n nm ys := by
  unfold redF
  split
  · rw [if_neg]
    intro hh
    simp only [Bool.and_eq_true, beq_iff_eq] at hh
    rcases h with h | h | h | h
    · exact h hh.1.1.1.1
    · exact h hh.1.1.1.2
    · rw [h] at hh; simp at hh
    · simp at h
  · rfl
theorem redF_not {k n : Int} {nm : ByteArray} {x y : T} (h : x.isW = false ∨ y.isW = false) : redF k n nm [x, y] = .mk k n nm [x, y] := by
  show (if _ then _ else _) = _
  rw [if_neg]
  intro hh
  simp only [Bool.and_eq_true] at hh
  rcases h with h | h
  · rw [h] at hh; simp at hh
  · rw [h] at hh; simp at hh
theorem redF_yes {nm : ByteArray} {x y : T} (h3 : isB nm = true) (h1 : x.isW = true) (h2 : y.isW = true) : redF 2 0 nm [x, y] = word (opW nm x.num y.num) := by
  show (if _ then _ else _) = _
  rw [if_pos]
  simp [h1, h2, h3]
theorem own_word {e : TypeId} (st : St) (v : Int) : Own e st (word v) [.int .i64 3, .int .i64 v, .string ⟨#[]⟩, .slice none 0 0] [] := .nil _ _ _

theorem l3Word_ok (v : Int) (st : St) : CallS Tryd.prog 30 [.int .i64 v] st fun r st' => r = .agg #[.int .i64 3, .int .i64 v, .string ⟨#[]⟩, .slice none 0 0] ∧ st' = st := by
  refine CallS_of_W [] 5 Tryd.func30 rfl rfl rfl rfl (by simp) ?_
  repeat (first | (refine W_reg rfl fun G K hG hK => ?_; simp (disch := omega) only [go_sem, ↓reduceIte, Nat.reduceEqDiff, Nat.reduceAdd, Nat.reduceLeDiff, hG]; refine hK _ _ ?_; clear hK K hG G) | (refine W_end rfl fun G K hG hK => ?_; simp (disch := omega) only [go_sem, ↓reduceIte, Nat.reduceEqDiff, Nat.reduceAdd, Nat.reduceLeDiff, hG]; refine hK _ _ ?_; clear hK K hG G; repeat (first | refine thenI ?_ | refine thenE ?_ | refine thenR ?_ | refine inBI ?_ | refine inBR ?_ | refine inBS ?_ | refine inBN (by decide) ?_)) | refine W_seqS ?_ | refine W_seqC ?_ | refine W_seqB ?_ | refine W_block ?_ | (refine W_skip ?_; repeat (first | refine thenI ?_ | refine thenE ?_ | refine thenR ?_ | refine inBI ?_ | refine inBR ?_ | refine inBS ?_ | refine inBN (by decide) ?_)) | (refine W_condT ?hc ?_; (case hc => (simp (disch := omega) only [go_sem, ↓reduceIte, Nat.reduceEqDiff, Nat.reduceAdd, Nat.reduceLeDiff]; done))) | (refine W_condF ?hc ?_; (case hc => (simp (disch := omega) only [go_sem, ↓reduceIte, Nat.reduceEqDiff, Nat.reduceAdd, Nat.reduceLeDiff]; done))))
  refine W_ret ?_; try (repeat (first | refine thenI ?_ | refine thenE ?_ | refine thenR ?_ | refine inBI ?_ | refine inBR ?_ | refine inBS ?_ | refine inBN (by decide) ?_))
  refine finC (.inl rfl) (by (simp (disch := omega) only [go_sem, ↓reduceIte, Nat.reduceEqDiff, Nat.reduceAdd, Nat.reduceLeDiff]); try rfl) ⟨rfl, rfl⟩

end Go.Proofs.YtkohkdlbjbbegaaDoor.AM


/- Builders: spec.RenameVars, impl.RenameVars. -/
namespace Go.Proofs.YtkohkdlbjbbegaaDoor.AM
open Go Go.Proofs
set_option linter.unusedVariables false
set_option linter.unusedSimpArgs false
set_option maxRecDepth 100000
attribute [local go_sem] List.map_cons List.map_nil List.all_cons List.all_nil Bool.and_self Option.map_some List.getElem?_toArray Option.bind_some gye_b gye_t gsk_b gsk_t gb1 gb2 gb3 gb4 bne_self_eq_false beq_self_eq_true w_guard w_nil stepV_some step_some step_some' w_move w_assign w_pick w_binOp w_unOp w_load w_fieldAddr w_indexAddr w_len w_max w_index ev_max max_int ev_index w_box w_alloc w_store w_field w_extract w_nilCheck w_convert w_buildSlice w_build ev_buildL fillL_nil fillL_cons bs0 bs1 ev_conv ev_bin ev_un ev_pick ev_load ev_fieldAddr ev_indexAddr ev_len ev_field ev_extract ev_nilCheck fr_tmp fr_int fr_bool fr_str fr_nil fr_func put_some put_none bin_lss bin_leq bin_gtr bin_geq bin_eql bin_neq bin_add bin_sub bin_mul bin_seql bin_sneq un_not pick_ ext_ loadA_p cellAt_l cellAt_h okPtr_l okPtr_h fadA_p allocA_l storeA_l cells_agg cells_int cells_str cells_sl cells_bool flat_i flat_s flat_b flat_sl flat_nil loc_agg loc_int loc_str loc_sl loc_bool loc_fn loc_ptr okv_agg okv_int okv_str okv_sl okv_bool cellsFrom splice upd_eval argEnv_zero argEnv_succ ne_eq Nat.add_one_ne_zero not_false_eq_true List.not_mem_nil and_self decide_true List.getElem?_cons_zero List.getElem?_cons_succ List.size_toArray List.length_cons List.length_nil List.take_succ_cons List.take_zero List.drop_succ_cons List.drop_zero List.cons_append List.nil_append List.drop_nil Bool.not_true Bool.not_false Bool.false_eq_true Nat.zero_add Nat.add_zero wrap_in List.toList_toArray List.mem_cons or_self or_false false_or
attribute [local go_sem] ag22 ag24 ag26 ag3 ag33 ag5 ag62 ag76 ag9 bu26 bu56 by26 by3 by33 by5 by9 el22 el24 el28 el33 el44 of26_0 of26_1 of26_2 of26_3 of56_0 of56_1 of56_2 of64_0 of64_1 ro26_0 ro26_1 ro26_2 ro3_0 ro3_1 ro3_3 ro33_0 ro33_1 ro5_0 ro5_1 ro9_0 ro9_1 ro9_2 ro9_3 ro9_4 sz22 sz24 sz26 sz3 sz33 sz5 sz62 sz76 sz9 ze26 ze3 ze33 ze5 ze64 ze75 ze88 ze9

mutual
def T.ren (w : ByteArray) : T → T
  | .mk k n nm args => .mk k n (if k = 1 then nm ++ w else nm) (T.renL w args)
def T.renL (w : ByteArray) : List T → List T
  | [] => []
  | x :: xs => x.ren w :: T.renL w xs
end
theorem T.renL_map (w : ByteArray) (xs : List T) : T.renL w xs = xs.map (T.ren w) := by
  induction xs with
  | nil => rfl
  | cons x xs ih => simp only [T.renL, List.map_cons, ih]

end Go.Proofs.YtkohkdlbjbbegaaDoor.AM


/- A renamed term is a variant, where variables have no arguments. -/
namespace Go.Proofs.YtkohkdlbjbbegaaDoor.AM
open Go Go.Proofs
set_option linter.unusedVariables false
set_option linter.unusedSimpArgs false

/-- Variables are plain, but perhaps at the root. -/
inductive Plain : T → Prop
  | mk (k n : Int) (nm : ByteArray) (args : List T) (hv : k = 1 → n = 0 ∧ args = []) (h : ∀ a ∈ args, Plain a) : Plain (.mk k n nm args)
def PlainB : T → Prop
  | .mk k n nm args => k = 1 ∨ ∀ a ∈ args, Plain a
theorem Plain.b {t : T} (h : Plain t) : PlainB t := by
  cases h with
  | mk k n nm args hv h => exact .inr h
mutual
def T.mapV (f : ByteArray → ByteArray) : T → T
  | .mk k n nm args => .mk k n (if k = 1 then f nm else nm) (T.mapVL f args)
def T.mapVL (f : ByteArray → ByteArray) : List T → List T
  | [] => []
  | x :: xs => x.mapV f :: T.mapVL f xs
end
theorem T.mapVL_map (f : ByteArray → ByteArray) (xs : List T) : T.mapVL f xs = xs.map (T.mapV f) := by
  induction xs with
  | nil => rfl
  | cons x xs ih => simp only [T.mapVL, List.map_cons, ih]
theorem T.ren_mapV (w : ByteArray) : ∀ t : T, t.ren w = t.mapV (fun nm => nm ++ w) := by
  refine T.ind fun k n nm args ih => ?_
  simp only [T.ren, T.mapV, T.renL_map, T.mapVL_map]
  rw [List.map_congr_left ih]
theorem T.id_mapV : ∀ t : T, t.mapV (fun nm => nm) = t := by
  refine T.ind fun k n nm args ih => ?_
  simp only [T.mapV, T.mapVL_map]
  rw [List.map_congr_left (g := id) ih]
  simp
def InvM (f g : ByteArray → ByteArray) (l : List Bnd) : Prop := ∀ b ∈ l, ∃ x, b.nm = f x ∧ b.tm = .mk 1 0 (g x) []
theorem InvM.find {f g : ByteArray → ByteArray} (hfg : ∀ x y, f x = f y → g x = g y) {l : List Bnd} (h : InvM f g l) {nm : ByteArray} {t : T} (hf : findB (f nm) l = some t) : t = .mk 1 0 (g nm) [] := by
  induction l with
  | nil => cases hf
  | cons b bs ih =>
    simp only [findB] at hf
    split at hf
    · rename_i hq
      cases hf
      obtain ⟨x, h1, h2⟩ := h b (by simp)
      have h3 := ba_toList hq
      rw [h1] at h3
      rw [h2, hfg _ _ h3]
    · exact ih (fun c hc => h c (by simp [hc])) hf
theorem mat_mapV (f g : ByteArray → ByteArray) (hfg : ∀ x y, f x = f y → g x = g y) : ∀ (p : T) (l : List Bnd), Plain p → InvM f g l → ∃ l', T.matF (p.mapV f) (p.mapV g) l = some l' ∧ InvM f g l' := by
  refine T.ind fun k n nm args ih l hp hl => ?_
  obtain ⟨_, _, _, _, hv, ha⟩ := hp
  simp only [T.mapV, T.mapVL_map]
  cases hk : (k == 1) with
  | true =>
    have hk1 : k = 1 := by simpa using hk
    obtain ⟨rfl, rfl⟩ := hv hk1
    subst hk1
    rw [T.matF_var hk]
    simp only [if_true, List.map_nil]
    split
    · rename_i hs
      obtain ⟨t, ht⟩ := Option.isSome_iff_exists.1 hs
      have e := hl.find hfg ht
      rw [if_pos (by simp only [findD, ht, Option.getD_some]; rw [e]; exact (T.eqv_iff _ _).2 rfl)]
      exact ⟨l, rfl, hl⟩
    · refine ⟨_, rfl, fun b hb => ?_⟩
      rcases List.mem_append.1 hb with hb | hb
      · exact hl b hb
      · cases List.mem_singleton.1 hb
        exact ⟨nm, rfl, rfl⟩
  | false =>
    have hk1 : ¬ k = 1 := by simpa using hk
    rw [T.matF_app hk]
    simp only [if_neg hk1]
    rw [if_pos (by simp)]
    have hL : ∀ (qs : List T), (∀ q ∈ qs, ∀ l, Plain q → InvM f g l → ∃ l', T.matF (q.mapV f) (q.mapV g) l = some l' ∧ InvM f g l') → (∀ q ∈ qs, Plain q) → ∀ l, InvM f g l → ∃ l', T.matL (qs.map (T.mapV f)) (qs.map (T.mapV g)) l = some l' ∧ InvM f g l' := by
      intro qs
      induction qs with
      | nil => intro _ _ l hl; exact ⟨l, rfl, hl⟩
      | cons q qs ihq =>
        intro h hq l hl
        obtain ⟨l1, h1, h2⟩ := h q (by simp) l (hq q (by simp)) hl
        obtain ⟨l2, h3, h4⟩ := ihq (fun a ha => h a (by simp [ha])) (fun a ha => hq a (by simp [ha])) l1 h2
        exact ⟨l2, by simp only [List.map_cons, T.matL, h1, h3], h4⟩
    exact hL args ih ha l hl
theorem mat_mapVB (f g : ByteArray → ByteArray) (hfg : ∀ x y, f x = f y → g x = g y) (p : T) (hp : PlainB p) : (T.matF (p.mapV f) (p.mapV g) []).isSome = true := by
  obtain ⟨k, n, nm, args⟩ := p
  simp only [T.mapV, T.mapVL_map]
  cases hk : (k == 1) with
  | true => rw [T.matF_var hk]; simp [findB]
  | false =>
    have hk1 : ¬ k = 1 := by simpa using hk
    have ha : ∀ a ∈ args, Plain a := hp.resolve_left hk1
    have h := mat_mapV f g hfg (.mk k n nm args) [] (.mk _ _ _ _ (fun h => absurd h hk1) ha) (fun b hb => by cases hb)
    obtain ⟨l', h1, _⟩ := h
    simp only [T.mapV, T.mapVL_map] at h1
    rw [h1]; rfl
theorem ba_append_right {a b w : ByteArray} (h : a ++ w = b ++ w) : a = b := by
  have h1 : (a ++ w).data.toList = (b ++ w).data.toList := by rw [h]
  simp only [ByteArray.data_append, Array.toList_append] at h1
  exact ByteArray.ext (Array.ext' (List.append_cancel_right h1))
/-- A renamed term is a variant of the term. -/
theorem ren_variant (w : ByteArray) (t : T) (hp : PlainB t) : (T.matF (t.ren w) t []).isSome = true ∧ (T.matF t (t.ren w) []).isSome = true := by
  have h1 := mat_mapVB (fun nm => nm ++ w) (fun nm => nm) (fun x y h => ba_append_right h) t hp
  have h2 := mat_mapVB (fun nm => nm) (fun nm => nm ++ w) (fun x y h => by rw [h]) t hp
  rw [T.id_mapV, ← T.ren_mapV] at h1 h2
  exact ⟨h1, h2⟩
mutual
/-- The nodes of a term. -/
def T.count : T → Nat
  | .mk _ _ _ args => 1 + T.countL args
def T.countL : List T → Nat
  | [] => 0
  | x :: xs => x.count + T.countL xs
end
theorem T.count_mapV (f : ByteArray → ByteArray) : ∀ t : T, (t.mapV f).count = t.count := by
  refine T.ind fun k n nm args ih => ?_
  have hL : ∀ l : List T, (∀ a ∈ l, (a.mapV f).count = a.count) → T.countL (l.map (T.mapV f)) = T.countL l := by
    intro l
    induction l with
    | nil => intro _; rfl
    | cons x xs ihx => intro h; simp only [List.map_cons, T.countL]; rw [h x (by simp), ihx fun a ha => h a (by simp [ha])]
  simp only [T.mapV, T.mapVL_map, T.count]
  rw [hL args ih]
theorem T.count_ren (w : ByteArray) (t : T) : (t.ren w).count = t.count := by rw [T.ren_mapV, T.count_mapV]
end Go.Proofs.YtkohkdlbjbbegaaDoor.AM


/- Terms drawn: spec.l3Draw. -/
namespace Go.Proofs.YtkohkdlbjbbegaaDoor.AM
open Go Go.Proofs
set_option linter.unusedVariables false
set_option linter.unusedSimpArgs false
set_option maxRecDepth 100000
attribute [local go_sem] List.map_cons List.map_nil List.all_cons List.all_nil Bool.and_self Option.map_some List.getElem?_toArray Option.bind_some gye_b gye_t gsk_b gsk_t gb1 gb2 gb3 gb4 bne_self_eq_false beq_self_eq_true w_guard w_nil stepV_some step_some step_some' w_move w_assign w_pick w_binOp w_unOp w_load w_fieldAddr w_indexAddr w_len w_max w_index ev_max max_int ev_index w_box w_alloc w_store w_field w_extract w_nilCheck w_convert w_buildSlice w_build ev_buildL fillL_nil fillL_cons bs0 bs1 ev_conv ev_bin ev_un ev_pick ev_load ev_fieldAddr ev_indexAddr ev_len ev_field ev_extract ev_nilCheck fr_tmp fr_int fr_bool fr_str fr_nil fr_func put_some put_none bin_lss bin_leq bin_gtr bin_geq bin_eql bin_neq bin_add bin_sub bin_mul bin_seql bin_sneq un_not pick_ ext_ loadA_p cellAt_l cellAt_h okPtr_l okPtr_h fadA_p allocA_l storeA_l cells_agg cells_int cells_str cells_sl cells_bool flat_i flat_s flat_b flat_sl flat_nil loc_agg loc_int loc_str loc_sl loc_bool loc_fn loc_ptr okv_agg okv_int okv_str okv_sl okv_bool cellsFrom splice upd_eval argEnv_zero argEnv_succ ne_eq Nat.add_one_ne_zero not_false_eq_true List.not_mem_nil and_self decide_true List.getElem?_cons_zero List.getElem?_cons_succ List.size_toArray List.length_cons List.length_nil List.take_succ_cons List.take_zero List.drop_succ_cons List.drop_zero List.cons_append List.nil_append List.drop_nil Bool.not_true Bool.not_false Bool.false_eq_true Nat.zero_add Nat.add_zero wrap_in List.toList_toArray List.mem_cons or_self or_false false_or
attribute [local go_sem] ag22 ag24 ag26 ag3 ag33 ag5 ag62 ag76 ag9 bu26 bu56 by26 by3 by33 by5 by9 el22 el24 el28 el33 el44 of26_0 of26_1 of26_2 of26_3 of56_0 of56_1 of56_2 of64_0 of64_1 ro26_0 ro26_1 ro26_2 ro3_0 ro3_1 ro3_3 ro33_0 ro33_1 ro5_0 ro5_1 ro9_0 ro9_1 ro9_2 ro9_3 ro9_4 sz22 sz24 sz26 sz3 sz33 sz5 sz62 sz76 sz9 ze26 ze3 ze33 ze5 ze64 ze75 ze88 ze9
-- AUTO

/-- A term drawn: the cursor turned, the term's memory new. -/
def DrawT (q : Nat) (xs : List Byt) (st : St) (R : T → Prop) (r : Value) (st2 : St) : Prop := Drawn q xs st st2 ∧ ∃ t ds L, r = .agg ds.toArray ∧ OwnT st2 t ds L ∧ Fresh st.length L ∧ R t
theorem Drawn.own {q : Nat} {bs : List Byt} {n0 : Nat} {a b : St} {t : T} {cs : List Value} {L : List Nat} (h : Drawn q bs a b) (ho : OwnT a t cs L) (hf : Fresh n0 L) (hq : q < n0) : OwnT b t cs L :=
  Own.frame _ _ _ (fun i hi => h.away.2 i (Own.lt _ _ _ ho i hi) fun e => by
    have := hf.2 i hi
    cases e; omega) ho
theorem Drawn.enc {q : Nat} {bs : List Byt} {n0 : Nat} {a b : St} {t : T} {cs : List Value} {L : List Nat} (h : Drawn q bs a b) (ho : OwnT a t cs L) (hf : Fresh n0 L) (hq : q < n0) : Enc b t cs := Own.enc _ _ _ (h.own ho hf hq)
theorem Drawn.ext2 {q : Nat} {xs : List Byt} {a b c : St} (h : Drawn q xs a b) (hx : Ext b c) : Drawn q xs a c := ⟨h.cur.ext hx, h.away.same (Away.of_ext hx)⟩
theorem Cur.lt {st : St} {q : Nat} {xs : List Byt} (h : Cur st q xs) : q < st.length := by obtain ⟨_, _, _, h, _⟩ := h; exact (List.getElem?_eq_some_iff.1 h).1
theorem Fresh.one {n k : Nat} (h : n ≤ k) : Fresh n [k] := ⟨by simp, fun i hi => by cases List.mem_singleton.1 hi; exact h⟩
theorem Fresh.cons {n k : Nat} {L : List Nat} (h : Fresh n L) (hlt : ∀ i ∈ L, i < k) (hk : n ≤ k) : Fresh n (k :: L) := ⟨List.nodup_cons.2 ⟨fun hm => by have := hlt k hm; omega, h.1⟩, fun i hi => by
  rcases List.mem_cons.1 hi with rfl | hi
  · exact hk
  · exact h.2 i hi⟩
theorem Fresh.app {n m : Nat} {L K : List Nat} (h : Fresh n L) (g : Fresh m K) (hlt : ∀ i ∈ L, i < m) (hn : n ≤ m) : Fresh n (L ++ K) := ⟨List.nodup_append.2 ⟨h.1, g.1, fun a ha b hb e => by
  subst e
  have h1 := hlt a ha
  have h2 := g.2 a hb
  omega⟩, fun i hi => by
  rcases List.mem_append.1 hi with hi | hi
  · exact h.2 i hi
  · have := g.2 i hi; omega⟩
theorem plain_var (nm : ByteArray) : Plain (.mk 1 0 nm []) := .mk _ _ _ _ (fun _ => ⟨rfl, rfl⟩) (fun a ha => by cases ha)
theorem plain_word (n : Int) (nm : ByteArray) : Plain (.mk 3 n nm []) := .mk _ _ _ _ (fun h => by cases h) (fun a ha => by cases ha)
theorem plain_app (n : Int) (nm : ByteArray) (args : List T) (h : ∀ a ∈ args, Plain a) : Plain (.mk 2 n nm args) := .mk _ _ _ _ (fun h => by cases h) h

def DrawP (d : Nat) (t : T) : Prop := Plain t ∧ t.wt + 3 ≤ 4 * 2 ^ d
theorem leaf_ok {d : Nat} {k n : Int} {nm : ByteArray} (hn : nm.size ≤ 1) (h : Plain (.mk k n nm [])) : DrawP d (.mk k n nm []) := ⟨h, by
  have : 1 ≤ 2 ^ d := Nat.one_le_two_pow
  simp only [T.wt, T.wtL, List.length_nil]; omega⟩
theorem size_of_mem {w : ByteArray} {cs : List Value} (h : Value.string w ∈ cs) (hs : cs.all (fun v => match v with | .string s => decide (s.size ≤ 1) | _ => false) = true) : w.size ≤ 1 := by
  have := List.all_eq_true.1 hs _ h
  simpa using this

theorem l3Draw_of (q : Nat) (xs : List Byt) (g : Bool) (d : Nat) (hd10 : d ≤ 10) (st : St) (hq : Cur st q xs)
    (ih : ∀ e, d = e + 1 → ∀ st, Cur st q xs → CallS Tryd.prog 25 [.pointer (some ⟨q, 0, none⟩), .int .i64 (e : Nat), .bool g] st (DrawT q xs st (DrawP e))) :
    CallS Tryd.prog 25 [.pointer (some ⟨q, 0, none⟩), .int .i64 (d : Nat), .bool g] st (DrawT q xs st (DrawP d)) := by
  refine CallS_of_W [] 57 Tryd.func25 rfl rfl rfl rfl (by simp) ?_
  repeat (first | (refine W_reg rfl fun G K hG hK => ?_; simp (disch := omega) only [go_sem, ↓reduceIte, Nat.reduceEqDiff, Nat.reduceAdd, Nat.reduceLeDiff, hG]; refine hK _ _ ?_; clear hK K hG G) | (refine W_end rfl fun G K hG hK => ?_; simp (disch := omega) only [go_sem, ↓reduceIte, Nat.reduceEqDiff, Nat.reduceAdd, Nat.reduceLeDiff, hG]; refine hK _ _ ?_; clear hK K hG G; repeat (first | refine thenI ?_ | refine thenE ?_ | refine thenR ?_ | refine inBI ?_ | refine inBR ?_ | refine inBS ?_ | refine inBN (by decide) ?_)) | refine W_seqS ?_ | refine W_seqC ?_ | refine W_seqB ?_ | refine W_block ?_ | (refine W_skip ?_; repeat (first | refine thenI ?_ | refine thenE ?_ | refine thenR ?_ | refine inBI ?_ | refine inBR ?_ | refine inBS ?_ | refine inBN (by decide) ?_)) | (refine W_condT ?hc ?_; (case hc => (simp (disch := omega) only [go_sem, ↓reduceIte, Nat.reduceEqDiff, Nat.reduceAdd, Nat.reduceLeDiff]; done))) | (refine W_condF ?hc ?_; (case hc => (simp (disch := omega) only [go_sem, ↓reduceIte, Nat.reduceEqDiff, Nat.reduceAdd, Nat.reduceLeDiff]; done))))
  refine W_seq ?_
  refine W_to (fun fr st' => ∃ (b : Bool), (Drawn q xs st st') ∧ (b = false → 2 ≤ d) ∧ (fr.env 0 = .pointer (some ⟨q, 0, none⟩)) ∧ (fr.env 1 = .int .i64 (d : Nat)) ∧ (fr.env 2 = .bool g) ∧ (fr.env 6 = .pointer (some ⟨6, 0, some 1⟩)) ∧ (fr.env 13 = .bool b) ∧ ((fr.loc 6).1 = 1 ∧ (fr.loc 6).2.length = 4) ∧ ((fr.loc 7).1 = 0)) ?_ ?_
  · by_cases h2 : d < 2
    · have c1 : decide ((d : Int) < 2) = true := by simp; omega
      repeat (first | (refine W_reg rfl fun G K hG hK => ?_; simp (disch := omega) only [go_sem, ↓reduceIte, Nat.reduceEqDiff, Nat.reduceAdd, Nat.reduceLeDiff, hG, c1]; refine hK _ _ ?_; clear hK K hG G) | (refine W_end rfl fun G K hG hK => ?_; simp (disch := omega) only [go_sem, ↓reduceIte, Nat.reduceEqDiff, Nat.reduceAdd, Nat.reduceLeDiff, hG, c1]; refine hK _ _ ?_; clear hK K hG G; repeat (first | refine thenI ?_ | refine thenE ?_ | refine thenR ?_ | refine inBI ?_ | refine inBR ?_ | refine inBS ?_ | refine inBN (by decide) ?_)) | refine W_seqS ?_ | refine W_seqC ?_ | refine W_seqB ?_ | refine W_block ?_ | (refine W_skip ?_; repeat (first | refine thenI ?_ | refine thenE ?_ | refine thenR ?_ | refine inBI ?_ | refine inBR ?_ | refine inBS ?_ | refine inBN (by decide) ?_)) | (refine W_condT ?hc ?_; (case hc => (simp (disch := omega) only [go_sem, ↓reduceIte, Nat.reduceEqDiff, Nat.reduceAdd, Nat.reduceLeDiff, c1]; done))) | (refine W_condF ?hc ?_; (case hc => (simp (disch := omega) only [go_sem, ↓reduceIte, Nat.reduceEqDiff, Nat.reduceAdd, Nat.reduceLeDiff, c1]; done))))
      exact ⟨true, .refl hq, fun h => (by cases h), (by (simp (disch := omega) only [go_sem, ↓reduceIte, Nat.reduceEqDiff, Nat.reduceAdd, Nat.reduceLeDiff]); try rfl), (by (simp (disch := omega) only [go_sem, ↓reduceIte, Nat.reduceEqDiff, Nat.reduceAdd, Nat.reduceLeDiff]); try rfl), (by (simp (disch := omega) only [go_sem, ↓reduceIte, Nat.reduceEqDiff, Nat.reduceAdd, Nat.reduceLeDiff]); try rfl), (by (simp (disch := omega) only [go_sem, ↓reduceIte, Nat.reduceEqDiff, Nat.reduceAdd, Nat.reduceLeDiff]); try rfl), (by (simp (disch := omega) only [go_sem, ↓reduceIte, Nat.reduceEqDiff, Nat.reduceAdd, Nat.reduceLeDiff]); try rfl), ⟨(by (simp (disch := omega) only [go_sem, ↓reduceIte, Nat.reduceEqDiff, Nat.reduceAdd, Nat.reduceLeDiff]); try rfl), (by (simp (disch := omega) only [go_sem, ↓reduceIte, Nat.reduceEqDiff, Nat.reduceAdd, Nat.reduceLeDiff]); try rfl)⟩, (by (simp (disch := omega) only [go_sem, ↓reduceIte, Nat.reduceEqDiff, Nat.reduceAdd, Nat.reduceLeDiff]); try rfl)⟩
    · have c1 : decide ((d : Int) < 2) = false := by simp; omega
      refine W_end rfl fun G K hG hK => ?_; simp (disch := omega) only [go_sem, ↓reduceIte, Nat.reduceEqDiff, Nat.reduceAdd, Nat.reduceLeDiff, hG, c1]
      refine w_call (l1Once_ok q xs st 4 (by omega) (by omega) hq) (by simp (disch := omega) only [go_sem, ↓reduceIte, Nat.reduceEqDiff]) ?hl ?_
      case hl => first | rfl | (simp only [go_sem, List.all_cons, List.all_nil, Bool.not_false, Bool.and_self]; done)
      rintro r_ sa ⟨⟨b, rfl⟩, hd, hl⟩; refine ⟨fun e => (by cases e), ?_⟩
      simp (disch := omega) only [go_sem, ↓reduceIte, Nat.reduceEqDiff, Nat.reduceAdd, Nat.reduceLeDiff, hG]; refine hK _ _ ?_; clear hK K hG G; repeat (first | refine thenI ?_ | refine thenE ?_ | refine thenR ?_ | refine inBI ?_ | refine inBR ?_ | refine inBS ?_ | refine inBN (by decide) ?_)
      exact ⟨b, hd, fun _ => (by omega), (by (simp (disch := omega) only [go_sem, ↓reduceIte, Nat.reduceEqDiff, Nat.reduceAdd, Nat.reduceLeDiff]); try rfl), (by (simp (disch := omega) only [go_sem, ↓reduceIte, Nat.reduceEqDiff, Nat.reduceAdd, Nat.reduceLeDiff]); try rfl), (by (simp (disch := omega) only [go_sem, ↓reduceIte, Nat.reduceEqDiff, Nat.reduceAdd, Nat.reduceLeDiff]); try rfl), (by (simp (disch := omega) only [go_sem, ↓reduceIte, Nat.reduceEqDiff, Nat.reduceAdd, Nat.reduceLeDiff]); try rfl), (by (simp (disch := omega) only [go_sem, ↓reduceIte, Nat.reduceEqDiff, Nat.reduceAdd, Nat.reduceLeDiff]); try rfl), ⟨(by (simp (disch := omega) only [go_sem, ↓reduceIte, Nat.reduceEqDiff, Nat.reduceAdd, Nat.reduceLeDiff]); try rfl), (by (simp (disch := omega) only [go_sem, ↓reduceIte, Nat.reduceEqDiff, Nat.reduceAdd, Nat.reduceLeDiff]); try rfl)⟩, (by (simp (disch := omega) only [go_sem, ↓reduceIte, Nat.reduceEqDiff, Nat.reduceAdd, Nat.reduceLeDiff]); try rfl)⟩
  rintro ⟨env, loc⟩ st' ⟨b, hdr, hb, e0, e1, e2, e6, e13, ⟨l6, l6'⟩, l7⟩
  simp only at e0 e1 e2 e6 e13 l6 l6' l7
  cases b with
  | true =>
    repeat (first | (refine W_reg rfl fun G K hG hK => ?_; simp (disch := omega) only [go_sem, ↓reduceIte, Nat.reduceEqDiff, Nat.reduceAdd, Nat.reduceLeDiff, hG, e0, e1, e2, e6, e13, l6, l6', l7]; refine hK _ _ ?_; clear hK K hG G) | (refine W_end rfl fun G K hG hK => ?_; simp (disch := omega) only [go_sem, ↓reduceIte, Nat.reduceEqDiff, Nat.reduceAdd, Nat.reduceLeDiff, hG, e0, e1, e2, e6, e13, l6, l6', l7]; refine hK _ _ ?_; clear hK K hG G; repeat (first | refine thenI ?_ | refine thenE ?_ | refine thenR ?_ | refine inBI ?_ | refine inBR ?_ | refine inBS ?_ | refine inBN (by decide) ?_)) | refine W_seqS ?_ | refine W_seqC ?_ | refine W_seqB ?_ | refine W_block ?_ | (refine W_skip ?_; repeat (first | refine thenI ?_ | refine thenE ?_ | refine thenR ?_ | refine inBI ?_ | refine inBR ?_ | refine inBS ?_ | refine inBN (by decide) ?_)) | (refine W_condT ?hc ?_; (case hc => (simp (disch := omega) only [go_sem, ↓reduceIte, Nat.reduceEqDiff, Nat.reduceAdd, Nat.reduceLeDiff, e0, e1, e2, e6, e13, l6, l6', l7]; done))) | (refine W_condF ?hc ?_; (case hc => (simp (disch := omega) only [go_sem, ↓reduceIte, Nat.reduceEqDiff, Nat.reduceAdd, Nat.reduceLeDiff, e0, e1, e2, e6, e13, l6, l6', l7]; done))))
    refine W_seq ?_
    refine W_to (fun fr st' => ∃ (b : Bool), (Drawn q xs st st') ∧ (fr.env 0 = .pointer (some ⟨q, 0, none⟩)) ∧ (fr.env 6 = .pointer (some ⟨6, 0, some 1⟩)) ∧ (fr.env 19 = .bool b) ∧ ((fr.loc 6).1 = 1 ∧ (fr.loc 6).2.length = 4)) ?_ ?_
    · cases g with
      | true =>
        repeat (first | (refine W_reg rfl fun G K hG hK => ?_; simp (disch := omega) only [go_sem, ↓reduceIte, Nat.reduceEqDiff, Nat.reduceAdd, Nat.reduceLeDiff, hG, e0, e1, e2, e6, e13, l6, l6', l7]; refine hK _ _ ?_; clear hK K hG G) | (refine W_end rfl fun G K hG hK => ?_; simp (disch := omega) only [go_sem, ↓reduceIte, Nat.reduceEqDiff, Nat.reduceAdd, Nat.reduceLeDiff, hG, e0, e1, e2, e6, e13, l6, l6', l7]; refine hK _ _ ?_; clear hK K hG G; repeat (first | refine thenI ?_ | refine thenE ?_ | refine thenR ?_ | refine inBI ?_ | refine inBR ?_ | refine inBS ?_ | refine inBN (by decide) ?_)) | refine W_seqS ?_ | refine W_seqC ?_ | refine W_seqB ?_ | refine W_block ?_ | (refine W_skip ?_; repeat (first | refine thenI ?_ | refine thenE ?_ | refine thenR ?_ | refine inBI ?_ | refine inBR ?_ | refine inBS ?_ | refine inBN (by decide) ?_)) | (refine W_condT ?hc ?_; (case hc => (simp (disch := omega) only [go_sem, ↓reduceIte, Nat.reduceEqDiff, Nat.reduceAdd, Nat.reduceLeDiff, e0, e1, e2, e6, e13, l6, l6', l7]; done))) | (refine W_condF ?hc ?_; (case hc => (simp (disch := omega) only [go_sem, ↓reduceIte, Nat.reduceEqDiff, Nat.reduceAdd, Nat.reduceLeDiff, e0, e1, e2, e6, e13, l6, l6', l7]; done))))
        exact ⟨false, hdr, (by (simp (disch := omega) only [go_sem, ↓reduceIte, Nat.reduceEqDiff, Nat.reduceAdd, Nat.reduceLeDiff, e0, e1, e2, e6, e13, l6, l6', l7]); try rfl), (by (simp (disch := omega) only [go_sem, ↓reduceIte, Nat.reduceEqDiff, Nat.reduceAdd, Nat.reduceLeDiff, e0, e1, e2, e6, e13, l6, l6', l7]); try rfl), (by (simp (disch := omega) only [go_sem, ↓reduceIte, Nat.reduceEqDiff, Nat.reduceAdd, Nat.reduceLeDiff, e0, e1, e2, e6, e13, l6, l6', l7]); try rfl), ⟨(by (simp (disch := omega) only [go_sem, ↓reduceIte, Nat.reduceEqDiff, Nat.reduceAdd, Nat.reduceLeDiff, e0, e1, e2, e6, e13, l6, l6', l7]); try rfl), (by (simp (disch := omega) only [go_sem, ↓reduceIte, Nat.reduceEqDiff, Nat.reduceAdd, Nat.reduceLeDiff, e0, e1, e2, e6, e13, l6, l6', l7]); try rfl)⟩⟩
      | false =>
        refine W_end rfl fun G K hG hK => ?_; simp (disch := omega) only [go_sem, ↓reduceIte, Nat.reduceEqDiff, Nat.reduceAdd, Nat.reduceLeDiff, hG, e0, e1, e2, e6, e13, l6, l6', l7]
        refine w_call (l1Once_ok q xs _ 2 (by omega) (by omega) hdr.cur) (by simp (disch := omega) only [go_sem, ↓reduceIte, Nat.reduceEqDiff, e0, e1, e2, e6, e13, l6, l6', l7]) ?hl ?_
        case hl => first | rfl | (simp only [go_sem, List.all_cons, List.all_nil, Bool.not_false, Bool.and_self, e0, e1, e2, e6, e13, l6, l6', l7]; done)
        rintro r_ sa ⟨⟨b, rfl⟩, hd, hl⟩; refine ⟨fun e => (by cases e), ?_⟩
        simp (disch := omega) only [go_sem, ↓reduceIte, Nat.reduceEqDiff, Nat.reduceAdd, Nat.reduceLeDiff, hG, e0, e1, e2, e6, e13, l6, l6', l7]; refine hK _ _ ?_; clear hK K hG G; repeat (first | refine thenI ?_ | refine thenE ?_ | refine thenR ?_ | refine inBI ?_ | refine inBR ?_ | refine inBS ?_ | refine inBN (by decide) ?_)
        exact ⟨b, hdr.trans hd, (by (simp (disch := omega) only [go_sem, ↓reduceIte, Nat.reduceEqDiff, Nat.reduceAdd, Nat.reduceLeDiff, e0, e1, e2, e6, e13, l6, l6', l7]); try rfl), (by (simp (disch := omega) only [go_sem, ↓reduceIte, Nat.reduceEqDiff, Nat.reduceAdd, Nat.reduceLeDiff, e0, e1, e2, e6, e13, l6, l6', l7]); try rfl), (by (simp (disch := omega) only [go_sem, ↓reduceIte, Nat.reduceEqDiff, Nat.reduceAdd, Nat.reduceLeDiff, e0, e1, e2, e6, e13, l6, l6', l7]); try rfl), ⟨(by (simp (disch := omega) only [go_sem, ↓reduceIte, Nat.reduceEqDiff, Nat.reduceAdd, Nat.reduceLeDiff, e0, e1, e2, e6, e13, l6, l6', l7]); try rfl), (by (simp (disch := omega) only [go_sem, ↓reduceIte, Nat.reduceEqDiff, Nat.reduceAdd, Nat.reduceLeDiff, e0, e1, e2, e6, e13, l6, l6', l7]); try rfl)⟩⟩
    clear e0 e1 e2 e6 e13 l6 l6' l7
    rintro ⟨env, loc⟩ st' ⟨b, hdr2, e0, e6, e19, ⟨l6, l6'⟩⟩
    simp only at e0 e6 e19 l6 l6'
    cases b with
    | true =>
      repeat (first | (refine W_reg rfl fun G K hG hK => ?_; simp (disch := omega) only [go_sem, ↓reduceIte, Nat.reduceEqDiff, Nat.reduceAdd, Nat.reduceLeDiff, hG, e0, e6, e19, l6, l6']; refine hK _ _ ?_; clear hK K hG G) | (refine W_end rfl fun G K hG hK => ?_; simp (disch := omega) only [go_sem, ↓reduceIte, Nat.reduceEqDiff, Nat.reduceAdd, Nat.reduceLeDiff, hG, e0, e6, e19, l6, l6']; refine hK _ _ ?_; clear hK K hG G; repeat (first | refine thenI ?_ | refine thenE ?_ | refine thenR ?_ | refine inBI ?_ | refine inBR ?_ | refine inBS ?_ | refine inBN (by decide) ?_)) | refine W_seqS ?_ | refine W_seqC ?_ | refine W_seqB ?_ | refine W_block ?_ | (refine W_skip ?_; repeat (first | refine thenI ?_ | refine thenE ?_ | refine thenR ?_ | refine inBI ?_ | refine inBR ?_ | refine inBS ?_ | refine inBN (by decide) ?_)) | (refine W_condT ?hc ?_; (case hc => (simp (disch := omega) only [go_sem, ↓reduceIte, Nat.reduceEqDiff, Nat.reduceAdd, Nat.reduceLeDiff, e0, e6, e19, l6, l6']; done))) | (refine W_condF ?hc ?_; (case hc => (simp (disch := omega) only [go_sem, ↓reduceIte, Nat.reduceEqDiff, Nat.reduceAdd, Nat.reduceLeDiff, e0, e6, e19, l6, l6']; done))))
      (repeat (first | refine W_seqS ?_ | refine W_seqC ?_ | refine W_seqB ?_ | refine W_block ?_)); refine W_reg rfl fun G K hG hK => ?_; simp (disch := omega) only [go_sem, ↓reduceIte, Nat.reduceEqDiff, Nat.reduceAdd, Nat.reduceLeDiff, hG, e0, e6, e19, l6, l6', bsL, fillK_cons, fillK_nil, Nat.reduceMul]
      refine w_call (l1Pick_lit q xs st' _ _ 3 hdr2.cur rfl (by simp) (by simp)) (by simp (disch := omega) only [go_sem, ↓reduceIte, Nat.reduceEqDiff, e0, e6, e19, l6, l6']) ?hl ?_
      case hl => first | rfl | (simp only [go_sem, List.all_cons, List.all_nil, Bool.not_false, Bool.and_self, e0, e6, e19, l6, l6']; done)
      rintro r_ sa ⟨⟨w, rfl, hw⟩, hd, hl⟩; refine ⟨fun e => (by cases e), ?_⟩
      simp (disch := omega) only [go_sem, ↓reduceIte, Nat.reduceEqDiff, Nat.reduceAdd, Nat.reduceLeDiff, e0, e6, e19, l6, l6']
      refine w_call (l3Var_ok w sa) (by simp (disch := omega) only [go_sem, ↓reduceIte, Nat.reduceEqDiff, e0, e6, e19, l6, l6']) ?hl ?_
      case hl => first | rfl | (simp only [go_sem, List.all_cons, List.all_nil, Bool.not_false, Bool.and_self, e0, e6, e19, l6, l6']; done)
      rintro r_ sb ⟨rfl, rfl⟩; refine ⟨fun e => (by cases e), ?_⟩
      simp (disch := omega) only [go_sem, ↓reduceIte, Nat.reduceEqDiff, Nat.reduceAdd, Nat.reduceLeDiff, hG, e0, e6, e19, l6, l6']; refine hK _ _ ?_; clear hK K hG G; repeat (first | refine thenI ?_ | refine thenE ?_ | refine thenR ?_ | refine inBI ?_ | refine inBR ?_ | refine inBS ?_ | refine inBN (by decide) ?_)
      refine W_ret ?_; try (repeat (first | refine thenI ?_ | refine thenE ?_ | refine thenR ?_ | refine inBI ?_ | refine inBR ?_ | refine inBS ?_ | refine inBN (by decide) ?_))
      refine finC (.inl rfl) (by (simp (disch := omega) only [go_sem, ↓reduceIte, Nat.reduceEqDiff, Nat.reduceAdd, Nat.reduceLeDiff, e0, e6, e19, l6, l6']); try rfl) ⟨hdr2.trans (.pre (Ext.app _ _) hd), .mk 1 0 w [], [_, _, _, _], [], rfl, .nil _ _ _, .nil _, leaf_ok (size_of_mem hw rfl) (plain_var w)⟩
    | false =>
      repeat (first | (refine W_reg rfl fun G K hG hK => ?_; simp (disch := omega) only [go_sem, ↓reduceIte, Nat.reduceEqDiff, Nat.reduceAdd, Nat.reduceLeDiff, hG, e0, e6, e19, l6, l6']; refine hK _ _ ?_; clear hK K hG G) | (refine W_end rfl fun G K hG hK => ?_; simp (disch := omega) only [go_sem, ↓reduceIte, Nat.reduceEqDiff, Nat.reduceAdd, Nat.reduceLeDiff, hG, e0, e6, e19, l6, l6']; refine hK _ _ ?_; clear hK K hG G; repeat (first | refine thenI ?_ | refine thenE ?_ | refine thenR ?_ | refine inBI ?_ | refine inBR ?_ | refine inBS ?_ | refine inBN (by decide) ?_)) | refine W_seqS ?_ | refine W_seqC ?_ | refine W_seqB ?_ | refine W_block ?_ | (refine W_skip ?_; repeat (first | refine thenI ?_ | refine thenE ?_ | refine thenR ?_ | refine inBI ?_ | refine inBR ?_ | refine inBS ?_ | refine inBN (by decide) ?_)) | (refine W_condT ?hc ?_; (case hc => (simp (disch := omega) only [go_sem, ↓reduceIte, Nat.reduceEqDiff, Nat.reduceAdd, Nat.reduceLeDiff, e0, e6, e19, l6, l6']; done))) | (refine W_condF ?hc ?_; (case hc => (simp (disch := omega) only [go_sem, ↓reduceIte, Nat.reduceEqDiff, Nat.reduceAdd, Nat.reduceLeDiff, e0, e6, e19, l6, l6']; done))))
      (repeat (first | refine W_seqS ?_ | refine W_seqC ?_ | refine W_seqB ?_ | refine W_block ?_)); refine W_reg rfl fun G K hG hK => ?_; simp (disch := omega) only [go_sem, ↓reduceIte, Nat.reduceEqDiff, Nat.reduceAdd, Nat.reduceLeDiff, hG, e0, e6, e19, l6, l6']
      refine w_call (l1Once_ok q xs _ 2 (by omega) (by omega) hdr2.cur) (by simp (disch := omega) only [go_sem, ↓reduceIte, Nat.reduceEqDiff, e0, e6, e19, l6, l6']) ?hl ?_
      case hl => first | rfl | (simp only [go_sem, List.all_cons, List.all_nil, Bool.not_false, Bool.and_self, e0, e6, e19, l6, l6']; done)
      rintro r_ sa ⟨⟨b, rfl⟩, hd, hl⟩; refine ⟨fun e => (by cases e), ?_⟩
      simp (disch := omega) only [go_sem, ↓reduceIte, Nat.reduceEqDiff, Nat.reduceAdd, Nat.reduceLeDiff, hG, e0, e6, e19, l6, l6']; refine hK _ _ ?_; clear hK K hG G; repeat (first | refine thenI ?_ | refine thenE ?_ | refine thenR ?_ | refine inBI ?_ | refine inBR ?_ | refine inBS ?_ | refine inBN (by decide) ?_)
      have hdr3 := hdr2.trans hd
      cases b with
      | true =>
        repeat (first | (refine W_reg rfl fun G K hG hK => ?_; simp (disch := omega) only [go_sem, ↓reduceIte, Nat.reduceEqDiff, Nat.reduceAdd, Nat.reduceLeDiff, hG, e0, e6, e19, l6, l6']; refine hK _ _ ?_; clear hK K hG G) | (refine W_end rfl fun G K hG hK => ?_; simp (disch := omega) only [go_sem, ↓reduceIte, Nat.reduceEqDiff, Nat.reduceAdd, Nat.reduceLeDiff, hG, e0, e6, e19, l6, l6']; refine hK _ _ ?_; clear hK K hG G; repeat (first | refine thenI ?_ | refine thenE ?_ | refine thenR ?_ | refine inBI ?_ | refine inBR ?_ | refine inBS ?_ | refine inBN (by decide) ?_)) | refine W_seqS ?_ | refine W_seqC ?_ | refine W_seqB ?_ | refine W_block ?_ | (refine W_skip ?_; repeat (first | refine thenI ?_ | refine thenE ?_ | refine thenR ?_ | refine inBI ?_ | refine inBR ?_ | refine inBS ?_ | refine inBN (by decide) ?_)) | (refine W_condT ?hc ?_; (case hc => (simp (disch := omega) only [go_sem, ↓reduceIte, Nat.reduceEqDiff, Nat.reduceAdd, Nat.reduceLeDiff, e0, e6, e19, l6, l6']; done))) | (refine W_condF ?hc ?_; (case hc => (simp (disch := omega) only [go_sem, ↓reduceIte, Nat.reduceEqDiff, Nat.reduceAdd, Nat.reduceLeDiff, e0, e6, e19, l6, l6']; done))))
        (repeat (first | refine W_seqS ?_ | refine W_seqC ?_ | refine W_seqB ?_ | refine W_block ?_)); refine W_reg rfl fun G K hG hK => ?_; simp (disch := omega) only [go_sem, ↓reduceIte, Nat.reduceEqDiff, Nat.reduceAdd, Nat.reduceLeDiff, hG, e0, e6, e19, l6, l6']
        refine w_call (l1Below_ok q xs _ 4 (by omega) (by omega) hdr3.cur) (by simp (disch := omega) only [go_sem, ↓reduceIte, Nat.reduceEqDiff, e0, e6, e19, l6, l6']) ?hl ?_
        case hl => first | rfl | (simp only [go_sem, List.all_cons, List.all_nil, Bool.not_false, Bool.and_self, e0, e6, e19, l6, l6']; done)
        rintro r_ sb ⟨⟨x, rfl, hx0, hx1⟩, hd2, hl⟩; refine ⟨fun e => (by cases e), ?_⟩
        simp (disch := omega) only [go_sem, ↓reduceIte, Nat.reduceEqDiff, Nat.reduceAdd, Nat.reduceLeDiff, e0, e6, e19, l6, l6']
        refine w_call (l3Word_ok x sb) (by simp (disch := omega) only [go_sem, ↓reduceIte, Nat.reduceEqDiff, e0, e6, e19, l6, l6']) ?hl ?_
        case hl => first | rfl | (simp only [go_sem, List.all_cons, List.all_nil, Bool.not_false, Bool.and_self, e0, e6, e19, l6, l6']; done)
        rintro r_ sc ⟨rfl, rfl⟩; refine ⟨fun e => (by cases e), ?_⟩
        simp (disch := omega) only [go_sem, ↓reduceIte, Nat.reduceEqDiff, Nat.reduceAdd, Nat.reduceLeDiff, hG, e0, e6, e19, l6, l6']; refine hK _ _ ?_; clear hK K hG G; repeat (first | refine thenI ?_ | refine thenE ?_ | refine thenR ?_ | refine inBI ?_ | refine inBR ?_ | refine inBS ?_ | refine inBN (by decide) ?_)
        refine W_ret ?_; try (repeat (first | refine thenI ?_ | refine thenE ?_ | refine thenR ?_ | refine inBI ?_ | refine inBR ?_ | refine inBS ?_ | refine inBN (by decide) ?_))
        refine finC (.inl rfl) (by (simp (disch := omega) only [go_sem, ↓reduceIte, Nat.reduceEqDiff, Nat.reduceAdd, Nat.reduceLeDiff, e0, e6, e19, l6, l6']); try rfl) ⟨hdr3.trans hd2, .mk 3 x ⟨#[]⟩ [], [_, _, _, _], [], rfl, .nil _ _ _, .nil _, leaf_ok (by decide) (plain_word x _)⟩
      | false =>
        repeat (first | (refine W_reg rfl fun G K hG hK => ?_; simp (disch := omega) only [go_sem, ↓reduceIte, Nat.reduceEqDiff, Nat.reduceAdd, Nat.reduceLeDiff, hG, e0, e6, e19, l6, l6']; refine hK _ _ ?_; clear hK K hG G) | (refine W_end rfl fun G K hG hK => ?_; simp (disch := omega) only [go_sem, ↓reduceIte, Nat.reduceEqDiff, Nat.reduceAdd, Nat.reduceLeDiff, hG, e0, e6, e19, l6, l6']; refine hK _ _ ?_; clear hK K hG G; repeat (first | refine thenI ?_ | refine thenE ?_ | refine thenR ?_ | refine inBI ?_ | refine inBR ?_ | refine inBS ?_ | refine inBN (by decide) ?_)) | refine W_seqS ?_ | refine W_seqC ?_ | refine W_seqB ?_ | refine W_block ?_ | (refine W_skip ?_; repeat (first | refine thenI ?_ | refine thenE ?_ | refine thenR ?_ | refine inBI ?_ | refine inBR ?_ | refine inBS ?_ | refine inBN (by decide) ?_)) | (refine W_condT ?hc ?_; (case hc => (simp (disch := omega) only [go_sem, ↓reduceIte, Nat.reduceEqDiff, Nat.reduceAdd, Nat.reduceLeDiff, e0, e6, e19, l6, l6']; done))) | (refine W_condF ?hc ?_; (case hc => (simp (disch := omega) only [go_sem, ↓reduceIte, Nat.reduceEqDiff, Nat.reduceAdd, Nat.reduceLeDiff, e0, e6, e19, l6, l6']; done))))
        (repeat (first | refine W_seqS ?_ | refine W_seqC ?_ | refine W_seqB ?_ | refine W_block ?_)); refine W_reg rfl fun G K hG hK => ?_; simp (disch := omega) only [go_sem, ↓reduceIte, Nat.reduceEqDiff, Nat.reduceAdd, Nat.reduceLeDiff, hG, e0, e6, e19, l6, l6', bsL, fillK_cons, fillK_nil, Nat.reduceMul]
        refine w_call (l1Pick_lit q xs sa _ _ 2 hdr3.cur rfl (by simp) (by simp)) (by simp (disch := omega) only [go_sem, ↓reduceIte, Nat.reduceEqDiff, e0, e6, e19, l6, l6']) ?hl ?_
        case hl => first | rfl | (simp only [go_sem, List.all_cons, List.all_nil, Bool.not_false, Bool.and_self, e0, e6, e19, l6, l6']; done)
        rintro r_ sb ⟨⟨w, rfl, hw⟩, hd2, hl2⟩; refine ⟨fun e => (by cases e), ?_⟩
        simp (disch := omega) only [go_sem, ↓reduceIte, Nat.reduceEqDiff, Nat.reduceAdd, Nat.reduceLeDiff, e0, e6, e19, l6, l6']
        refine w_call (l3App_ok w (.slice (some ⟨sb.length, 0, none⟩) 0 0) (sb ++ [⟨[], 26, 0⟩]) rfl rfl rfl) (by simp (disch := omega) only [go_sem, ↓reduceIte, Nat.reduceEqDiff, e0, e6, e19, l6, l6']) ?hl ?_
        case hl => first | rfl | (simp only [go_sem, List.all_cons, List.all_nil, Bool.not_false, Bool.and_self, e0, e6, e19, l6, l6']; done)
        rintro r_ sc ⟨rfl, rfl⟩; refine ⟨fun e => (by cases e), ?_⟩
        simp (disch := omega) only [go_sem, ↓reduceIte, Nat.reduceEqDiff, Nat.reduceAdd, Nat.reduceLeDiff, hG, e0, e6, e19, l6, l6']; refine hK _ _ ?_; clear hK K hG G; repeat (first | refine thenI ?_ | refine thenE ?_ | refine thenR ?_ | refine inBI ?_ | refine inBR ?_ | refine inBS ?_ | refine inBN (by decide) ?_)
        refine W_ret ?_; try (repeat (first | refine thenI ?_ | refine thenE ?_ | refine thenR ?_ | refine inBI ?_ | refine inBR ?_ | refine inBS ?_ | refine inBN (by decide) ?_))
        refine finC (.inl rfl) (by (simp (disch := omega) only [go_sem, ↓reduceIte, Nat.reduceEqDiff, Nat.reduceAdd, Nat.reduceLeDiff, e0, e6, e19, l6, l6']); try rfl) ⟨(hdr3.trans (.pre (Ext.app _ _) hd2)).ext2 (Ext.app _ _), .mk 2 0 w [], [_, _, _, _], [sb.length], rfl, Own.close _ _ _ (.inr ⟨sb.length, 0, [], [], rfl, by simp, .nil, rfl⟩), .one (Nat.le_trans hdr3.away.1 (by rw [hl2]; omega)), leaf_ok (size_of_mem hw rfl) (plain_app 0 w [] (fun a ha => by cases ha))⟩
  | false =>
    obtain ⟨e, rfl⟩ : ∃ e, d = e + 1 := ⟨d - 1, by have := hb rfl; omega⟩
    have hsub : ((e + 1 : Nat) : Int) - 1 = (e : Nat) := by omega
    repeat (first | (refine W_reg rfl fun G K hG hK => ?_; simp (disch := omega) only [go_sem, ↓reduceIte, Nat.reduceEqDiff, Nat.reduceAdd, Nat.reduceLeDiff, hG, e0, e6, l6, l6', e1, e2, e13, l7]; refine hK _ _ ?_; clear hK K hG G) | (refine W_end rfl fun G K hG hK => ?_; simp (disch := omega) only [go_sem, ↓reduceIte, Nat.reduceEqDiff, Nat.reduceAdd, Nat.reduceLeDiff, hG, e0, e6, l6, l6', e1, e2, e13, l7]; refine hK _ _ ?_; clear hK K hG G; repeat (first | refine thenI ?_ | refine thenE ?_ | refine thenR ?_ | refine inBI ?_ | refine inBR ?_ | refine inBS ?_ | refine inBN (by decide) ?_)) | refine W_seqS ?_ | refine W_seqC ?_ | refine W_seqB ?_ | refine W_block ?_ | (refine W_skip ?_; repeat (first | refine thenI ?_ | refine thenE ?_ | refine thenR ?_ | refine inBI ?_ | refine inBR ?_ | refine inBS ?_ | refine inBN (by decide) ?_)) | (refine W_condT ?hc ?_; (case hc => (simp (disch := omega) only [go_sem, ↓reduceIte, Nat.reduceEqDiff, Nat.reduceAdd, Nat.reduceLeDiff, e0, e6, l6, l6', e1, e2, e13, l7]; done))) | (refine W_condF ?hc ?_; (case hc => (simp (disch := omega) only [go_sem, ↓reduceIte, Nat.reduceEqDiff, Nat.reduceAdd, Nat.reduceLeDiff, e0, e6, l6, l6', e1, e2, e13, l7]; done))))
    (repeat (first | refine W_seqS ?_ | refine W_seqC ?_ | refine W_seqB ?_ | refine W_block ?_)); refine W_reg rfl fun G K hG hK => ?_; simp (disch := omega) only [go_sem, ↓reduceIte, Nat.reduceEqDiff, Nat.reduceAdd, Nat.reduceLeDiff, hG, e0, e6, l6, l6', e1, e2, e13, l7]
    refine w_call (l1Once_ok q xs _ 3 (by omega) (by omega) hdr.cur) (by simp (disch := omega) only [go_sem, ↓reduceIte, Nat.reduceEqDiff, e0, e6, l6, l6', e1, e2, e13, l7]) ?hl ?_
    case hl => first | rfl | (simp only [go_sem, List.all_cons, List.all_nil, Bool.not_false, Bool.and_self, e0, e6, l6, l6', e1, e2, e13, l7]; done)
    rintro r_ sa ⟨⟨b, rfl⟩, hd, hl⟩; refine ⟨fun e => (by cases e), ?_⟩
    simp (disch := omega) only [go_sem, ↓reduceIte, Nat.reduceEqDiff, Nat.reduceAdd, Nat.reduceLeDiff, hG, e0, e6, l6, l6', e1, e2, e13, l7]; refine hK _ _ ?_; clear hK K hG G; repeat (first | refine thenI ?_ | refine thenE ?_ | refine thenR ?_ | refine inBI ?_ | refine inBR ?_ | refine inBS ?_ | refine inBN (by decide) ?_)
    have hdr1 := hdr.trans hd
    cases b with
    | true =>
      repeat (first | (refine W_reg rfl fun G K hG hK => ?_; simp (disch := omega) only [go_sem, ↓reduceIte, Nat.reduceEqDiff, Nat.reduceAdd, Nat.reduceLeDiff, hG, e0, e6, l6, l6', e1, e2, e13, l7]; refine hK _ _ ?_; clear hK K hG G) | (refine W_end rfl fun G K hG hK => ?_; simp (disch := omega) only [go_sem, ↓reduceIte, Nat.reduceEqDiff, Nat.reduceAdd, Nat.reduceLeDiff, hG, e0, e6, l6, l6', e1, e2, e13, l7]; refine hK _ _ ?_; clear hK K hG G; repeat (first | refine thenI ?_ | refine thenE ?_ | refine thenR ?_ | refine inBI ?_ | refine inBR ?_ | refine inBS ?_ | refine inBN (by decide) ?_)) | refine W_seqS ?_ | refine W_seqC ?_ | refine W_seqB ?_ | refine W_block ?_ | (refine W_skip ?_; repeat (first | refine thenI ?_ | refine thenE ?_ | refine thenR ?_ | refine inBI ?_ | refine inBR ?_ | refine inBS ?_ | refine inBN (by decide) ?_)) | (refine W_condT ?hc ?_; (case hc => (simp (disch := omega) only [go_sem, ↓reduceIte, Nat.reduceEqDiff, Nat.reduceAdd, Nat.reduceLeDiff, e0, e6, l6, l6', e1, e2, e13, l7]; done))) | (refine W_condF ?hc ?_; (case hc => (simp (disch := omega) only [go_sem, ↓reduceIte, Nat.reduceEqDiff, Nat.reduceAdd, Nat.reduceLeDiff, e0, e6, l6, l6', e1, e2, e13, l7]; done))))
      (repeat (first | refine W_seqS ?_ | refine W_seqC ?_ | refine W_seqB ?_ | refine W_block ?_)); refine W_reg rfl fun G K hG hK => ?_; simp (disch := omega) only [go_sem, ↓reduceIte, Nat.reduceEqDiff, Nat.reduceAdd, Nat.reduceLeDiff, hG, e0, e6, l6, l6', e1, e2, e13, l7, hsub]
      refine w_call (ih e rfl sa hdr1.cur) (by simp (disch := omega) only [go_sem, ↓reduceIte, Nat.reduceEqDiff, e0, e6, l6, l6', e1, e2, e13, l7]) ?hl ?_
      case hl => first | rfl | (simp only [go_sem, List.all_cons, List.all_nil, Bool.not_false, Bool.and_self, e0, e6, l6, l6', e1, e2, e13, l7]; done)
      rintro r_ sb ⟨hd2, t, ds, L, rfl, ho, hf, hp⟩; refine ⟨fun e => (by cases e), ?_⟩
      simp (disch := omega) only [go_sem, ↓reduceIte, Nat.reduceEqDiff, Nat.reduceAdd, Nat.reduceLeDiff, e0, e6, l6, l6', e1, e2, e13, l7]
      refine w_call (l3One_ok ⟨#[103]⟩ t sb ds L ho) (by simp (disch := omega) only [go_sem, ↓reduceIte, Nat.reduceEqDiff, e0, e6, l6, l6', e1, e2, e13, l7]) ?hl ?_
      case hl => first | rfl | (simp only [go_sem, List.all_cons, List.all_nil, Bool.not_false, Bool.and_self, e0, e6, l6, l6', e1, e2, e13, l7]; done)
      rintro r_ sc ⟨x1, es, rfl, ho2⟩; refine ⟨fun e => (by cases e), ?_⟩
      obtain ⟨k1, n1, m1, s1, rfl, a1, a2, a3⟩ := ho2.args_cells
      simp (disch := omega) only [go_sem, ↓reduceIte, Nat.reduceEqDiff, Nat.reduceAdd, Nat.reduceLeDiff, hG, e0, e6, l6, l6', e1, e2, e13, l7, a1, a2, a3]; refine hK _ _ ?_; clear hK K hG G; repeat (first | refine thenI ?_ | refine thenE ?_ | refine thenR ?_ | refine inBI ?_ | refine inBR ?_ | refine inBS ?_ | refine inBN (by decide) ?_)
      refine W_ret ?_; try (repeat (first | refine thenI ?_ | refine thenE ?_ | refine thenR ?_ | refine inBI ?_ | refine inBR ?_ | refine inBS ?_ | refine inBN (by decide) ?_))
      refine finC (.inl rfl) (by (simp (disch := omega) only [go_sem, ↓reduceIte, Nat.reduceEqDiff, Nat.reduceAdd, Nat.reduceLeDiff, e0, e6, l6, l6', e1, e2, e13, l7, a1, a2, a3]); try rfl) ⟨(hdr1.trans hd2).ext2 x1, _, [_, _, _, _], _, rfl, ho2, (hf.mono hdr1.away.1).cons (Own.lt _ _ _ ho) (hdr1.trans hd2).away.1, plain_app 0 _ _ (fun a ha => by cases List.mem_singleton.1 ha; exact hp.1), ?_⟩
      have := hp.2
      have h1 : 1 ≤ 2 ^ e := Nat.one_le_two_pow
      simp only [T.wt, T.wtL, List.length_cons, List.length_nil, Nat.pow_succ]
      have h2 : (⟨#[103]⟩ : ByteArray).size = 1 := rfl
      omega
    | false =>
      repeat (first | (refine W_reg rfl fun G K hG hK => ?_; simp (disch := omega) only [go_sem, ↓reduceIte, Nat.reduceEqDiff, Nat.reduceAdd, Nat.reduceLeDiff, hG, e0, e6, l6, l6', e1, e2, e13, l7]; refine hK _ _ ?_; clear hK K hG G) | (refine W_end rfl fun G K hG hK => ?_; simp (disch := omega) only [go_sem, ↓reduceIte, Nat.reduceEqDiff, Nat.reduceAdd, Nat.reduceLeDiff, hG, e0, e6, l6, l6', e1, e2, e13, l7]; refine hK _ _ ?_; clear hK K hG G; repeat (first | refine thenI ?_ | refine thenE ?_ | refine thenR ?_ | refine inBI ?_ | refine inBR ?_ | refine inBS ?_ | refine inBN (by decide) ?_)) | refine W_seqS ?_ | refine W_seqC ?_ | refine W_seqB ?_ | refine W_block ?_ | (refine W_skip ?_; repeat (first | refine thenI ?_ | refine thenE ?_ | refine thenR ?_ | refine inBI ?_ | refine inBR ?_ | refine inBS ?_ | refine inBN (by decide) ?_)) | (refine W_condT ?hc ?_; (case hc => (simp (disch := omega) only [go_sem, ↓reduceIte, Nat.reduceEqDiff, Nat.reduceAdd, Nat.reduceLeDiff, e0, e6, l6, l6', e1, e2, e13, l7]; done))) | (refine W_condF ?hc ?_; (case hc => (simp (disch := omega) only [go_sem, ↓reduceIte, Nat.reduceEqDiff, Nat.reduceAdd, Nat.reduceLeDiff, e0, e6, l6, l6', e1, e2, e13, l7]; done))))
      (repeat (first | refine W_seqS ?_ | refine W_seqC ?_ | refine W_seqB ?_ | refine W_block ?_)); refine W_reg rfl fun G K hG hK => ?_; simp (disch := omega) only [go_sem, ↓reduceIte, Nat.reduceEqDiff, Nat.reduceAdd, Nat.reduceLeDiff, hG, e0, e6, l6, l6', e1, e2, e13, l7, hsub]
      refine w_call (ih e rfl sa hdr1.cur) (by simp (disch := omega) only [go_sem, ↓reduceIte, Nat.reduceEqDiff, e0, e6, l6, l6', e1, e2, e13, l7]) ?hl ?_
      case hl => first | rfl | (simp only [go_sem, List.all_cons, List.all_nil, Bool.not_false, Bool.and_self, e0, e6, l6, l6', e1, e2, e13, l7]; done)
      rintro r_ sb ⟨hd2, t, ds, L, rfl, ho, hf, hp⟩; refine ⟨fun e => (by cases e), ?_⟩
      obtain ⟨k1, n1, m1, s1, rfl, a1, a2, a3⟩ := ho.args_cells
      simp (disch := omega) only [go_sem, ↓reduceIte, Nat.reduceEqDiff, Nat.reduceAdd, Nat.reduceLeDiff, hG, e0, e6, l6, l6', e1, e2, e13, l7, a1, a2, a3]; refine hK _ _ ?_; clear hK K hG G; repeat (first | refine thenI ?_ | refine thenE ?_ | refine thenR ?_ | refine inBI ?_ | refine inBR ?_ | refine inBS ?_ | refine inBN (by decide) ?_)
      have hdr2 := hdr1.trans hd2
      (repeat (first | refine W_seqS ?_ | refine W_seqC ?_ | refine W_seqB ?_ | refine W_block ?_)); refine W_regL mixed [7] [] [2, 8, 9] [[(3, false), (0, false), (4, false), (5, false), (6, false), (7, false), (1, false), (2, false), (8, false), (9, false), (10, false)]] rfl (by decide +kernel) (by intro t ht; simp only [List.mem_cons, List.not_mem_nil, or_false] at ht; (rcases ht with rfl) <;> (first | rfl | (simp only [e0, e6, l6, l6', e1, e2, e13, l7]; done) | (simp only [e0, e6, l6, l6', e1, e2, e13, l7]; rfl))) fun G K hG hK => (fm_cons ?_ fm_nil)
      simp only [pickOps, List.filterMap_cons, List.filterMap_nil, List.getElem?_cons_zero, List.getElem?_cons_succ, Option.map_some]; simp (disch := omega) only [go_sem, ↓reduceIte, Nat.reduceEqDiff, Nat.reduceAdd, Nat.reduceLeDiff, hG, e0, e6, l6, l6', e1, e2, e13, l7, bsL, fillK_cons, fillK_nil, Nat.reduceMul, hsub, a1, a2, a3]
      refine w_call (l1Pick_lit q xs sb _ _ 3 hdr2.cur rfl (by simp) (by simp)) (by simp (disch := omega) only [go_sem, ↓reduceIte, Nat.reduceEqDiff, e0, e6, l6, l6', e1, e2, e13, l7]) ?hl ?_
      case hl => first | rfl | (simp only [go_sem, List.all_cons, List.all_nil, Bool.not_false, Bool.and_self, e0, e6, l6, l6', e1, e2, e13, l7]; done)
      rintro r_ sc ⟨⟨w, rfl, hw⟩, hd3, hl3⟩; refine ⟨fun e => (by cases e), ?_⟩
      simp (disch := omega) only [go_sem, ↓reduceIte, Nat.reduceEqDiff, Nat.reduceAdd, Nat.reduceLeDiff, e0, e6, l6, l6', e1, e2, e13, l7, a1, a2, a3]
      refine w_call (ih e rfl sc hd3.cur) (by simp (disch := omega) only [go_sem, ↓reduceIte, Nat.reduceEqDiff, e0, e6, l6, l6', e1, e2, e13, l7, hsub]) ?hl ?_
      case hl => first | rfl | (simp only [go_sem, List.all_cons, List.all_nil, Bool.not_false, Bool.and_self, e0, e6, l6, l6', e1, e2, e13, l7, hsub]; done)
      rintro r_ sd ⟨hd4, t2, ds2, L2, rfl, ho2, hf2, hp2⟩; refine ⟨fun e => (by cases e), ?_⟩
      have hdr4 := Drawn.pre (Ext.app _ _) (hd3.trans hd4)
      have hl0 := Nat.le_trans hdr1.away.1 hd2.away.1
      have hoA := hdr4.own ho hf (Nat.lt_of_lt_of_le hq.lt hdr1.away.1)
      refine w_call (l3Pair_ok w t t2 sd [.int .i64 k1, .int .i64 n1, .string m1, s1] ds2 L L2 hoA ho2) (by simp (disch := omega) only [go_sem, ↓reduceIte, Nat.reduceEqDiff, e0, e6, l6, l6', e1, e2, e13, l7, a1, a2, a3]) ?hl ?_
      case hl => first | rfl | (simp only [go_sem, List.all_cons, List.all_nil, Bool.not_false, Bool.and_self, e0, e6, l6, l6', e1, e2, e13, l7, a1, a2, a3]; done)
      rintro r_ se ⟨x1, es, rfl, ho3⟩; refine ⟨fun e => (by cases e), ?_⟩
      obtain ⟨k3, n3, m3, s3, rfl, b1, b2, b3⟩ := ho3.args_cells
      simp (disch := omega) only [go_sem, ↓reduceIte, Nat.reduceEqDiff, Nat.reduceAdd, Nat.reduceLeDiff, hG, e0, e6, l6, l6', e1, e2, e13, l7, b1, b2, b3]; refine hK _ _ ?_; clear hK K hG G; repeat (first | refine thenI ?_ | refine thenE ?_ | refine thenR ?_ | refine inBI ?_ | refine inBR ?_ | refine inBS ?_ | refine inBN (by decide) ?_)
      have hlt := Own.lt _ _ _ ho
      have hll := hdr4.away.1
      have hl5 := hd4.away.1
      refine W_ret ?_; try (repeat (first | refine thenI ?_ | refine thenE ?_ | refine thenR ?_ | refine inBI ?_ | refine inBR ?_ | refine inBS ?_ | refine inBN (by decide) ?_))
      refine finC (.inl rfl) (by (simp (disch := omega) only [go_sem, ↓reduceIte, Nat.reduceEqDiff, Nat.reduceAdd, Nat.reduceLeDiff, e0, e6, l6, l6', e1, e2, e13, l7, b1, b2, b3]); try rfl) ⟨((hdr2.trans hdr4).ext2 x1), _, [_, _, _, _], _, rfl, ho3, ((hf.mono hdr1.away.1).app hf2 (fun i hi => by have := hlt i hi; omega) (by omega)).cons (fun i hi => ?_) (by omega), plain_app 0 _ _ (fun a ha => ?_), ?_⟩
      · rcases List.mem_append.1 hi with hi | hi
        · have := hlt i hi; omega
        · exact Own.lt _ _ _ ho2 i hi
      · rcases List.mem_cons.1 ha with rfl | ha
        · exact hp.1
        · cases List.mem_singleton.1 ha; exact hp2.1
      · have h1 := hp.2
        have h2 := hp2.2
        have h3 := size_of_mem hw rfl
        simp only [T.wt, T.wtL, List.length_cons, List.length_nil, Nat.pow_succ]
        omega
theorem l3Draw_ok (q : Nat) (xs : List Byt) (g : Bool) : ∀ (d : Nat), d ≤ 10 → ∀ (st : St), Cur st q xs → CallS Tryd.prog 25 [.pointer (some ⟨q, 0, none⟩), .int .i64 (d : Nat), .bool g] st (DrawT q xs st (DrawP d)) := by
  intro d
  induction d with
  | zero => intro h st hq; exact l3Draw_of q xs g 0 h st hq fun e he => by omega
  | succ d ih => intro h st hq; exact l3Draw_of q xs g (d + 1) h st hq fun e he st hq => (by
    obtain rfl : d = e := by omega
    exact ih (by omega) st hq)
end Go.Proofs.YtkohkdlbjbbegaaDoor.AM


/- Terms drawn, turned a little: spec.l3Bent. -/
namespace Go.Proofs.YtkohkdlbjbbegaaDoor.AM
open Go Go.Proofs
set_option linter.unusedVariables false
set_option linter.unusedSimpArgs false
set_option maxRecDepth 100000
attribute [local go_sem] List.map_cons List.map_nil List.all_cons List.all_nil Bool.and_self Option.map_some List.getElem?_toArray Option.bind_some gye_b gye_t gsk_b gsk_t gb1 gb2 gb3 gb4 bne_self_eq_false beq_self_eq_true w_guard w_nil stepV_some step_some step_some' w_move w_assign w_pick w_binOp w_unOp w_load w_fieldAddr w_indexAddr w_len w_max w_index ev_max max_int ev_index w_box w_alloc w_store w_field w_extract w_nilCheck w_convert w_buildSlice w_build ev_buildL fillL_nil fillL_cons bs0 bs1 ev_conv ev_bin ev_un ev_pick ev_load ev_fieldAddr ev_indexAddr ev_len ev_field ev_extract ev_nilCheck fr_tmp fr_int fr_bool fr_str fr_nil fr_func put_some put_none bin_lss bin_leq bin_gtr bin_geq bin_eql bin_neq bin_add bin_sub bin_mul bin_seql bin_sneq un_not pick_ ext_ loadA_p cellAt_l cellAt_h okPtr_l okPtr_h fadA_p allocA_l storeA_l cells_agg cells_int cells_str cells_sl cells_bool flat_i flat_s flat_b flat_sl flat_nil loc_agg loc_int loc_str loc_sl loc_bool loc_fn loc_ptr okv_agg okv_int okv_str okv_sl okv_bool cellsFrom splice upd_eval argEnv_zero argEnv_succ ne_eq Nat.add_one_ne_zero not_false_eq_true List.not_mem_nil and_self decide_true List.getElem?_cons_zero List.getElem?_cons_succ List.size_toArray List.length_cons List.length_nil List.take_succ_cons List.take_zero List.drop_succ_cons List.drop_zero List.cons_append List.nil_append List.drop_nil Bool.not_true Bool.not_false Bool.false_eq_true Nat.zero_add Nat.add_zero wrap_in List.toList_toArray List.mem_cons or_self or_false false_or
attribute [local go_sem] ag22 ag24 ag26 ag3 ag33 ag5 ag62 ag76 ag9 bu26 bu56 by26 by3 by33 by5 by9 el22 el24 el28 el33 el44 of26_0 of26_1 of26_2 of26_3 of56_0 of56_1 of56_2 of64_0 of64_1 ro26_0 ro26_1 ro26_2 ro3_0 ro3_1 ro3_3 ro33_0 ro33_1 ro5_0 ro5_1 ro9_0 ro9_1 ro9_2 ro9_3 ro9_4 sz22 sz24 sz26 sz3 sz33 sz5 sz62 sz76 sz9 ze26 ze3 ze33 ze5 ze64 ze75 ze88 ze9
-- AUTO

def BentP (t : T) : Prop := PlainB t ∧ t.wt ≤ 100
theorem Plain.args {k n : Int} {nm : ByteArray} {args : List T} (h : Plain (.mk k n nm args)) : ∀ a ∈ args, Plain a := by cases h; assumption
theorem bent_of {t : T} (h : DrawP 4 t) : BentP t := ⟨h.1.b, by have := h.2; omega⟩
theorem drawP_mono {d e : Nat} (hde : d ≤ e) {t : T} (h : DrawP d t) : DrawP e t := ⟨h.1, by
  have h1 := h.2
  have h2 : 2 ^ d ≤ 2 ^ e := Nat.pow_le_pow_right (by omega) hde
  omega⟩
theorem row_low {st st' : St} {xs : List Byt} {s : Value} {q : Nat} (h : RowY st xs s) (ha : ∀ i, i < q → st'[i]? = st[i]?) (hn : xs = [] ∨ ∃ b, topId s = some b ∧ b < q) : RowY st' xs s := by
  rcases h with h | ⟨i, o, c, rfl, h⟩
  · exact .inl h
  · refine .inr ⟨i, o, c, rfl, fun j x hx => ?_⟩
    obtain ⟨cs, h1, h2, h3⟩ := h j x hx
    refine ⟨cs, h1, h2, fun k v hv => ?_⟩
    have h4 := h3 k v hv
    rcases hn with rfl | ⟨b, hb, hlt⟩
    · simp at hx
    simp only [topId, Option.some.injEq] at hb
    subst hb
    unfold cell at h4 ⊢
    rw [ha i hlt]; exact h4
theorem Drawn.low {q n0 : Nat} {xs : List Byt} {a b c : St} (h : Drawn q xs a b) (hn : n0 = a.length) (hq : q < n0) (hc : ∀ i, i < n0 → c[i]? = b[i]?) (hl : b.length ≤ c.length) : Drawn q xs a c := by
  subst hn
  obtain ⟨sb, i, hh, h1, h2, h3, h4⟩ := h.cur
  exact ⟨⟨sb, i, hh, by rw [hc q hq]; exact h1, row_low h2 (fun i hi => hc i (by omega)) h3, h3, h4⟩, Nat.le_trans h.away.1 hl, fun i hi hne => by rw [hc i hi]; exact h.away.2 i hi hne⟩
theorem Own.args_slice {e : TypeId} {st : St} {k n : Int} {nm : ByteArray} {args : List T} {s : Value} {L : List Nat} (h : Own e st (.mk k n nm args) [.int .i64 k, .int .i64 n, .string nm, s] L) : SliceO (Own e st) e st args s L := by
  obtain ⟨s', h1, h2⟩ := h.open
  cases h1
  exact h2
def isIntB : Value → Bool
  | .int .i64 _ => true
  | _ => false
def intB : Value → Int
  | .int .i64 n => n
  | _ => 0
theorem ints_map {cs : List Value} (h : cs.all isIntB = true) : cs = (cs.map intB).map (Value.int .i64) := by
  rw [List.map_map]
  refine ((List.map_congr_left fun v hv => ?_).trans (List.map_id cs)).symm
  have := List.all_eq_true.1 h v hv
  unfold isIntB at this
  split at this
  · rfl
  · cases this
theorem row_lastI (st : St) (ns : List Int) (t : TypeId) (n : Nat) : Rw (st ++ [⟨ns.map (Value.int .i64), t, 0⟩]) ns (.slice (some ⟨st.length, 0, none⟩) ns.length n) := .inr ⟨st.length, 0, n, rfl, fun j x hx => ⟨[.int .i64 x], rfl, rfl, fun k v hv => by
  have hk : k = 0 := by have := (List.getElem?_eq_some_iff.1 hv).1; simp at this; omega
  subst hk
  obtain ⟨hj1, hj2⟩ := List.getElem?_eq_some_iff.1 hx
  have : v = .int .i64 x := by simpa using hv.symm
  subst this
  simp [cell, hx, show Kind.sz Int = 1 from rfl]⟩⟩
theorem l1PickInt_lit (q : Nat) (xs : List Byt) (sa : St) (cs : List Value) (t : TypeId) (n : Nat) (hq : Cur sa q xs) (hs : cs.all isIntB = true) (h0 : 0 < cs.length) (h1 : cs.length ≤ 256) :
    CallS Tryd.prog 28 [.pointer (some ⟨q, 0, none⟩), .slice (some ⟨sa.length, 0, none⟩) cs.length n] (sa ++ [⟨cs, t, 0⟩]) fun r st2 => (∃ w, r = .int .i64 w ∧ .int .i64 w ∈ cs) ∧ Drawn q xs (sa ++ [⟨cs, t, 0⟩]) st2 ∧ st2.length = sa.length + 1 := by
  have hcs := ints_map hs
  have hr := row_lastI sa (cs.map intB) t n
  rw [← hcs, List.length_map] at hr
  refine (l1PickInt_ok q xs _ (cs.map intB) _ (by simpa using h0) (by simpa using h1) (hq.ext (Ext.app _ _)) hr (fun e => by simp only [topId, Option.some.injEq] at e; have := hq.lt; omega)).mono fun r st2 ⟨⟨w, hw, hm⟩, hd, hl⟩ => ⟨⟨w, hw, ?_⟩, hd, by simpa using hl⟩
  rw [hcs]
  exact List.mem_map.2 ⟨w, hm, rfl⟩
theorem T.wtL_snoc (xs : List T) (x : T) : T.wtL (xs ++ [x]) = T.wtL xs + x.wt := by
  induction xs with
  | nil => simp [T.wtL]
  | cons y ys ih => simp only [List.cons_append, T.wtL, ih]; omega
theorem l3Bent_ok (q : Nat) (xs : List Byt) (st : St) (hq : Cur st q xs) :
    CallS Tryd.prog 14 [.pointer (some ⟨q, 0, none⟩)] st (DrawT q xs st BentP) := by
  refine CallS_of_W [] 48 Tryd.func14 rfl rfl rfl rfl (by simp) ?_
  repeat (first | (refine W_reg rfl fun G K hG hK => ?_; simp (disch := omega) only [go_sem, ↓reduceIte, Nat.reduceEqDiff, Nat.reduceAdd, Nat.reduceLeDiff, hG]; refine hK _ _ ?_; clear hK K hG G) | (refine W_end rfl fun G K hG hK => ?_; simp (disch := omega) only [go_sem, ↓reduceIte, Nat.reduceEqDiff, Nat.reduceAdd, Nat.reduceLeDiff, hG]; refine hK _ _ ?_; clear hK K hG G; repeat (first | refine thenI ?_ | refine thenE ?_ | refine thenR ?_ | refine inBI ?_ | refine inBR ?_ | refine inBS ?_ | refine inBN (by decide) ?_)) | refine W_seqS ?_ | refine W_seqC ?_ | refine W_seqB ?_ | refine W_block ?_ | (refine W_skip ?_; repeat (first | refine thenI ?_ | refine thenE ?_ | refine thenR ?_ | refine inBI ?_ | refine inBR ?_ | refine inBS ?_ | refine inBN (by decide) ?_)) | (refine W_condT ?hc ?_; (case hc => (simp (disch := omega) only [go_sem, ↓reduceIte, Nat.reduceEqDiff, Nat.reduceAdd, Nat.reduceLeDiff]; done))) | (refine W_condF ?hc ?_; (case hc => (simp (disch := omega) only [go_sem, ↓reduceIte, Nat.reduceEqDiff, Nat.reduceAdd, Nat.reduceLeDiff]; done))))
  (repeat (first | refine W_seqS ?_ | refine W_seqC ?_ | refine W_seqB ?_ | refine W_block ?_)); refine W_reg rfl fun G K hG hK => ?_; simp (disch := omega) only [go_sem, ↓reduceIte, Nat.reduceEqDiff, Nat.reduceAdd, Nat.reduceLeDiff, hG]
  refine w_call (l1Below_ok q xs st 4 (by omega) (by omega) hq) (by simp (disch := omega) only [go_sem, ↓reduceIte, Nat.reduceEqDiff]) ?hl ?_
  case hl => first | rfl | (simp only [go_sem, List.all_cons, List.all_nil, Bool.not_false, Bool.and_self]; done)
  rintro r_ sa ⟨⟨x, rfl, hx0, hx1⟩, hd, hl⟩; refine ⟨fun e => (by cases e), ?_⟩
  obtain ⟨n, rfl⟩ : ∃ n : Nat, x = n := ⟨x.toNat, by omega⟩
  have hadd : (1 : Int) + (n : Int) = ((n + 1 : Nat) : Int) := by omega
  simp (disch := omega) only [go_sem, ↓reduceIte, Nat.reduceEqDiff, Nat.reduceAdd, Nat.reduceLeDiff, hadd]
  refine w_call (l1Once_ok q xs sa 2 (by omega) (by omega) hd.cur) (by simp (disch := omega) only [go_sem, ↓reduceIte, Nat.reduceEqDiff]) ?hl ?_
  case hl => first | rfl | (simp only [go_sem, List.all_cons, List.all_nil, Bool.not_false, Bool.and_self]; done)
  rintro r_ sb ⟨⟨g, rfl⟩, hd2, hl2⟩; refine ⟨fun e => (by cases e), ?_⟩
  simp (disch := omega) only [go_sem, ↓reduceIte, Nat.reduceEqDiff, Nat.reduceAdd, Nat.reduceLeDiff, hadd]
  refine w_call (l3Draw_ok q xs g (n + 1) (by omega) sb hd2.cur) (by simp (disch := omega) only [go_sem, ↓reduceIte, Nat.reduceEqDiff, hadd]) ?hl ?_
  case hl => first | rfl | (simp only [go_sem, List.all_cons, List.all_nil, Bool.not_false, Bool.and_self, hadd]; done)
  rintro r_ sc ⟨hd3, t, ds, L, rfl, ho, hf, hp⟩; refine ⟨fun e => (by cases e), ?_⟩
  obtain ⟨k, m, nm, args⟩ := t
  obtain ⟨s, rfl, hs⟩ := ho.open
  have a1 := hs.loc
  have a2 := hs.okv
  have a3 := hs.cells
  simp (disch := omega) only [go_sem, ↓reduceIte, Nat.reduceEqDiff, Nat.reduceAdd, Nat.reduceLeDiff, hG, a1, a2, a3]; refine hK _ _ ?_; clear hK K hG G; repeat (first | refine thenI ?_ | refine thenE ?_ | refine thenR ?_ | refine inBI ?_ | refine inBR ?_ | refine inBS ?_ | refine inBN (by decide) ?_)
  have hdr := (hd.trans hd2).trans hd3
  have hp4 := drawP_mono (e := 4) (by omega) hp
  have hf0 := hf.mono (hd.trans hd2).away.1
  repeat (first | (refine W_reg rfl fun G K hG hK => ?_; simp (disch := omega) only [go_sem, ↓reduceIte, Nat.reduceEqDiff, Nat.reduceAdd, Nat.reduceLeDiff, hG, a1, a2, a3]; refine hK _ _ ?_; clear hK K hG G) | (refine W_end rfl fun G K hG hK => ?_; simp (disch := omega) only [go_sem, ↓reduceIte, Nat.reduceEqDiff, Nat.reduceAdd, Nat.reduceLeDiff, hG, a1, a2, a3]; refine hK _ _ ?_; clear hK K hG G; repeat (first | refine thenI ?_ | refine thenE ?_ | refine thenR ?_ | refine inBI ?_ | refine inBR ?_ | refine inBS ?_ | refine inBN (by decide) ?_)) | refine W_seqS ?_ | refine W_seqC ?_ | refine W_seqB ?_ | refine W_block ?_ | (refine W_skip ?_; repeat (first | refine thenI ?_ | refine thenE ?_ | refine thenR ?_ | refine inBI ?_ | refine inBR ?_ | refine inBS ?_ | refine inBN (by decide) ?_)) | (refine W_condT ?hc ?_; (case hc => (simp (disch := omega) only [go_sem, ↓reduceIte, Nat.reduceEqDiff, Nat.reduceAdd, Nat.reduceLeDiff, a1, a2, a3]; done))) | (refine W_condF ?hc ?_; (case hc => (simp (disch := omega) only [go_sem, ↓reduceIte, Nat.reduceEqDiff, Nat.reduceAdd, Nat.reduceLeDiff, a1, a2, a3]; done))))
  (repeat (first | refine W_seqS ?_ | refine W_seqC ?_ | refine W_seqB ?_ | refine W_block ?_)); refine W_reg rfl fun G K hG hK => ?_; simp (disch := omega) only [go_sem, ↓reduceIte, Nat.reduceEqDiff, Nat.reduceAdd, Nat.reduceLeDiff, hG, a1, a2, a3]
  refine w_call (l1Below_ok q xs sc 12 (by omega) (by omega) hdr.cur) (by simp (disch := omega) only [go_sem, ↓reduceIte, Nat.reduceEqDiff]) ?hl ?_
  case hl => first | rfl | (simp only [go_sem, List.all_cons, List.all_nil, Bool.not_false, Bool.and_self]; done)
  rintro r_ sd ⟨⟨y, rfl, hy0, hy1⟩, hd4, hl4⟩; refine ⟨fun e => (by cases e), ?_⟩
  simp (disch := omega) only [go_sem, ↓reduceIte, Nat.reduceEqDiff, Nat.reduceAdd, Nat.reduceLeDiff, hG, a1, a2, a3]; refine hK _ _ ?_; clear hK K hG G; repeat (first | refine thenI ?_ | refine thenE ?_ | refine thenR ?_ | refine inBI ?_ | refine inBR ?_ | refine inBS ?_ | refine inBN (by decide) ?_)
  have hdr4 := hdr.trans hd4
  have ho4 := hd4.own ho hf0 (by have := hq.lt; omega)
  have hwt : nm.size + args.length + T.wtL args + 3 ≤ 64 := by have := hp4.2; simp only [T.wt] at this; omega
  have hpa := hp4.1.args
  refine W_to (fun fr st' => ∃ (t : T) (ds : List Value) (L : List Nat), (Drawn q xs st st') ∧ (OwnT st' t ds L) ∧ (Fresh st.length L) ∧ (BentP t) ∧ (fr.env 2 = .pointer (some ⟨2, 0, some 1⟩)) ∧ (fr.env 3 = .pointer (some ⟨3, 0, some 1⟩)) ∧ ((fr.loc 2).1 = 1 ∧ (fr.loc 2).2.length = 4) ∧ (fr.loc 3 = (1, ds))) ?_ ?_
  · have hy : y = 0 ∨ y = 1 ∨ y = 2 ∨ y = 3 ∨ y = 4 ∨ 5 ≤ y := by omega
    have v10 : ((1 : Int) == 0) = false := by decide
    have v20 : ((2 : Int) == 0) = false := by decide
    have v21 : ((2 : Int) == 1) = false := by decide
    have v30 : ((3 : Int) == 0) = false := by decide
    have v31 : ((3 : Int) == 1) = false := by decide
    have v32 : ((3 : Int) == 2) = false := by decide
    have v40 : ((4 : Int) == 0) = false := by decide
    have v41 : ((4 : Int) == 1) = false := by decide
    have v42 : ((4 : Int) == 2) = false := by decide
    have v43 : ((4 : Int) == 3) = false := by decide
    rcases hy with rfl | rfl | rfl | rfl | rfl | hy
    · repeat (first | (refine W_reg rfl fun G K hG hK => ?_; simp (disch := omega) only [go_sem, ↓reduceIte, Nat.reduceEqDiff, Nat.reduceAdd, Nat.reduceLeDiff, hG, a1, a2, a3, v10, v20, v21, v30, v31, v32, v40, v41, v42, v43]; refine hK _ _ ?_; clear hK K hG G) | (refine W_end rfl fun G K hG hK => ?_; simp (disch := omega) only [go_sem, ↓reduceIte, Nat.reduceEqDiff, Nat.reduceAdd, Nat.reduceLeDiff, hG, a1, a2, a3, v10, v20, v21, v30, v31, v32, v40, v41, v42, v43]; refine hK _ _ ?_; clear hK K hG G; repeat (first | refine thenI ?_ | refine thenE ?_ | refine thenR ?_ | refine inBI ?_ | refine inBR ?_ | refine inBS ?_ | refine inBN (by decide) ?_)) | refine W_seqS ?_ | refine W_seqC ?_ | refine W_seqB ?_ | refine W_block ?_ | (refine W_skip ?_; repeat (first | refine thenI ?_ | refine thenE ?_ | refine thenR ?_ | refine inBI ?_ | refine inBR ?_ | refine inBS ?_ | refine inBN (by decide) ?_)) | (refine W_condT ?hc ?_; (case hc => (simp (disch := omega) only [go_sem, ↓reduceIte, Nat.reduceEqDiff, Nat.reduceAdd, Nat.reduceLeDiff, a1, a2, a3, v10, v20, v21, v30, v31, v32, v40, v41, v42, v43]; done))) | (refine W_condF ?hc ?_; (case hc => (simp (disch := omega) only [go_sem, ↓reduceIte, Nat.reduceEqDiff, Nat.reduceAdd, Nat.reduceLeDiff, a1, a2, a3, v10, v20, v21, v30, v31, v32, v40, v41, v42, v43]; done))))
      refine W_end rfl fun G K hG hK => ?_; simp (disch := omega) only [go_sem, ↓reduceIte, Nat.reduceEqDiff, Nat.reduceAdd, Nat.reduceLeDiff, hG, a1, a2, a3, v10, v20, v21, v30, v31, v32, v40, v41, v42, v43]
      refine w_call (l1Below_ok q xs sd 5 (by omega) (by omega) hdr4.cur) (by simp (disch := omega) only [go_sem, ↓reduceIte, Nat.reduceEqDiff, a1, a2, a3, v10, v20, v21, v30, v31, v32, v40, v41, v42, v43]) ?hl ?_
      case hl => first | rfl | (simp only [go_sem, List.all_cons, List.all_nil, Bool.not_false, Bool.and_self, a1, a2, a3, v10, v20, v21, v30, v31, v32, v40, v41, v42, v43]; done)
      rintro r_ se ⟨⟨z, rfl, hz0, hz1⟩, hd6, hl6⟩; refine ⟨fun e => (by cases e), ?_⟩
      simp (disch := omega) only [go_sem, ↓reduceIte, Nat.reduceEqDiff, Nat.reduceAdd, Nat.reduceLeDiff, hG, a1, a2, a3, v10, v20, v21, v30, v31, v32, v40, v41, v42, v43]; refine hK _ _ ?_; clear hK K hG G; repeat (first | refine thenI ?_ | refine thenE ?_ | refine thenR ?_ | refine inBI ?_ | refine inBR ?_ | refine inBS ?_ | refine inBN (by decide) ?_)
      exact ⟨.mk z m nm args, _, L, hdr4.trans hd6, Own.close z m nm ((hd6.own ho4 hf0 (by have := hq.lt; omega)).args_slice), hf0, ⟨.inr hpa, by simp only [T.wt]; omega⟩, (by (simp (disch := omega) only [go_sem, ↓reduceIte, Nat.reduceEqDiff, Nat.reduceAdd, Nat.reduceLeDiff, a1, a2, a3, v10, v20, v21, v30, v31, v32, v40, v41, v42, v43]); try rfl), (by (simp (disch := omega) only [go_sem, ↓reduceIte, Nat.reduceEqDiff, Nat.reduceAdd, Nat.reduceLeDiff, a1, a2, a3, v10, v20, v21, v30, v31, v32, v40, v41, v42, v43]); try rfl), ⟨(by (simp (disch := omega) only [go_sem, ↓reduceIte, Nat.reduceEqDiff, Nat.reduceAdd, Nat.reduceLeDiff, a1, a2, a3, v10, v20, v21, v30, v31, v32, v40, v41, v42, v43]); try rfl), (by (simp (disch := omega) only [go_sem, ↓reduceIte, Nat.reduceEqDiff, Nat.reduceAdd, Nat.reduceLeDiff, a1, a2, a3, v10, v20, v21, v30, v31, v32, v40, v41, v42, v43]); try rfl)⟩, (by (simp (disch := omega) only [go_sem, ↓reduceIte, Nat.reduceEqDiff, Nat.reduceAdd, Nat.reduceLeDiff, a1, a2, a3, v10, v20, v21, v30, v31, v32, v40, v41, v42, v43]); try rfl)⟩
    · repeat (first | (refine W_reg rfl fun G K hG hK => ?_; simp (disch := omega) only [go_sem, ↓reduceIte, Nat.reduceEqDiff, Nat.reduceAdd, Nat.reduceLeDiff, hG, a1, a2, a3, v10, v20, v21, v30, v31, v32, v40, v41, v42, v43]; refine hK _ _ ?_; clear hK K hG G) | (refine W_end rfl fun G K hG hK => ?_; simp (disch := omega) only [go_sem, ↓reduceIte, Nat.reduceEqDiff, Nat.reduceAdd, Nat.reduceLeDiff, hG, a1, a2, a3, v10, v20, v21, v30, v31, v32, v40, v41, v42, v43]; refine hK _ _ ?_; clear hK K hG G; repeat (first | refine thenI ?_ | refine thenE ?_ | refine thenR ?_ | refine inBI ?_ | refine inBR ?_ | refine inBS ?_ | refine inBN (by decide) ?_)) | refine W_seqS ?_ | refine W_seqC ?_ | refine W_seqB ?_ | refine W_block ?_ | (refine W_skip ?_; repeat (first | refine thenI ?_ | refine thenE ?_ | refine thenR ?_ | refine inBI ?_ | refine inBR ?_ | refine inBS ?_ | refine inBN (by decide) ?_)) | (refine W_condT ?hc ?_; (case hc => (simp (disch := omega) only [go_sem, ↓reduceIte, Nat.reduceEqDiff, Nat.reduceAdd, Nat.reduceLeDiff, a1, a2, a3, v10, v20, v21, v30, v31, v32, v40, v41, v42, v43]; done))) | (refine W_condF ?hc ?_; (case hc => (simp (disch := omega) only [go_sem, ↓reduceIte, Nat.reduceEqDiff, Nat.reduceAdd, Nat.reduceLeDiff, a1, a2, a3, v10, v20, v21, v30, v31, v32, v40, v41, v42, v43]; done))))
      refine W_end rfl fun G K hG hK => ?_; simp (disch := omega) only [go_sem, ↓reduceIte, Nat.reduceEqDiff, Nat.reduceAdd, Nat.reduceLeDiff, hG, a1, a2, a3, v10, v20, v21, v30, v31, v32, v40, v41, v42, v43, bsL, fillK_cons, fillK_nil, Nat.reduceMul]
      refine w_call (l1PickInt_lit q xs sd _ _ 3 hdr4.cur rfl (by simp) (by simp)) (by simp (disch := omega) only [go_sem, ↓reduceIte, Nat.reduceEqDiff, a1, a2, a3, v10, v20, v21, v30, v31, v32, v40, v41, v42, v43]) ?hl ?_
      case hl => first | rfl | (simp only [go_sem, List.all_cons, List.all_nil, Bool.not_false, Bool.and_self, a1, a2, a3, v10, v20, v21, v30, v31, v32, v40, v41, v42, v43]; done)
      rintro r_ se ⟨⟨z, rfl, hz⟩, hd6, hl6⟩; refine ⟨fun e => (by cases e), ?_⟩
      have hd7 := Drawn.pre (Ext.app _ _) hd6
      simp (disch := omega) only [go_sem, ↓reduceIte, Nat.reduceEqDiff, Nat.reduceAdd, Nat.reduceLeDiff, hG, a1, a2, a3, v10, v20, v21, v30, v31, v32, v40, v41, v42, v43]; refine hK _ _ ?_; clear hK K hG G; repeat (first | refine thenI ?_ | refine thenE ?_ | refine thenR ?_ | refine inBI ?_ | refine inBR ?_ | refine inBS ?_ | refine inBN (by decide) ?_)
      exact ⟨.mk k z nm args, _, L, hdr4.trans hd7, Own.close k z nm ((hd7.own ho4 hf0 (by have := hq.lt; omega)).args_slice), hf0, ⟨.inr hpa, by simp only [T.wt]; omega⟩, (by (simp (disch := omega) only [go_sem, ↓reduceIte, Nat.reduceEqDiff, Nat.reduceAdd, Nat.reduceLeDiff, a1, a2, a3, v10, v20, v21, v30, v31, v32, v40, v41, v42, v43]); try rfl), (by (simp (disch := omega) only [go_sem, ↓reduceIte, Nat.reduceEqDiff, Nat.reduceAdd, Nat.reduceLeDiff, a1, a2, a3, v10, v20, v21, v30, v31, v32, v40, v41, v42, v43]); try rfl), ⟨(by (simp (disch := omega) only [go_sem, ↓reduceIte, Nat.reduceEqDiff, Nat.reduceAdd, Nat.reduceLeDiff, a1, a2, a3, v10, v20, v21, v30, v31, v32, v40, v41, v42, v43]); try rfl), (by (simp (disch := omega) only [go_sem, ↓reduceIte, Nat.reduceEqDiff, Nat.reduceAdd, Nat.reduceLeDiff, a1, a2, a3, v10, v20, v21, v30, v31, v32, v40, v41, v42, v43]); try rfl)⟩, (by (simp (disch := omega) only [go_sem, ↓reduceIte, Nat.reduceEqDiff, Nat.reduceAdd, Nat.reduceLeDiff, a1, a2, a3, v10, v20, v21, v30, v31, v32, v40, v41, v42, v43]); try rfl)⟩
    · repeat (first | (refine W_reg rfl fun G K hG hK => ?_; simp (disch := omega) only [go_sem, ↓reduceIte, Nat.reduceEqDiff, Nat.reduceAdd, Nat.reduceLeDiff, hG, a1, a2, a3, v10, v20, v21, v30, v31, v32, v40, v41, v42, v43]; refine hK _ _ ?_; clear hK K hG G) | (refine W_end rfl fun G K hG hK => ?_; simp (disch := omega) only [go_sem, ↓reduceIte, Nat.reduceEqDiff, Nat.reduceAdd, Nat.reduceLeDiff, hG, a1, a2, a3, v10, v20, v21, v30, v31, v32, v40, v41, v42, v43]; refine hK _ _ ?_; clear hK K hG G; repeat (first | refine thenI ?_ | refine thenE ?_ | refine thenR ?_ | refine inBI ?_ | refine inBR ?_ | refine inBS ?_ | refine inBN (by decide) ?_)) | refine W_seqS ?_ | refine W_seqC ?_ | refine W_seqB ?_ | refine W_block ?_ | (refine W_skip ?_; repeat (first | refine thenI ?_ | refine thenE ?_ | refine thenR ?_ | refine inBI ?_ | refine inBR ?_ | refine inBS ?_ | refine inBN (by decide) ?_)) | (refine W_condT ?hc ?_; (case hc => (simp (disch := omega) only [go_sem, ↓reduceIte, Nat.reduceEqDiff, Nat.reduceAdd, Nat.reduceLeDiff, a1, a2, a3, v10, v20, v21, v30, v31, v32, v40, v41, v42, v43]; done))) | (refine W_condF ?hc ?_; (case hc => (simp (disch := omega) only [go_sem, ↓reduceIte, Nat.reduceEqDiff, Nat.reduceAdd, Nat.reduceLeDiff, a1, a2, a3, v10, v20, v21, v30, v31, v32, v40, v41, v42, v43]; done))))
      refine W_end rfl fun G K hG hK => ?_; simp (disch := omega) only [go_sem, ↓reduceIte, Nat.reduceEqDiff, Nat.reduceAdd, Nat.reduceLeDiff, hG, a1, a2, a3, v10, v20, v21, v30, v31, v32, v40, v41, v42, v43, bsL, fillK_cons, fillK_nil, Nat.reduceMul]
      refine w_call (l1Pick_lit q xs sd _ _ 4 hdr4.cur rfl (by simp) (by simp)) (by simp (disch := omega) only [go_sem, ↓reduceIte, Nat.reduceEqDiff, a1, a2, a3, v10, v20, v21, v30, v31, v32, v40, v41, v42, v43]) ?hl ?_
      case hl => first | rfl | (simp only [go_sem, List.all_cons, List.all_nil, Bool.not_false, Bool.and_self, a1, a2, a3, v10, v20, v21, v30, v31, v32, v40, v41, v42, v43]; done)
      rintro r_ se ⟨⟨w, rfl, hw⟩, hd6, hl6⟩; refine ⟨fun e => (by cases e), ?_⟩
      have hd7 := Drawn.pre (Ext.app _ _) hd6
      have hw2 := size_of_mem2 (m := 2) hw rfl
      simp (disch := omega) only [go_sem, ↓reduceIte, Nat.reduceEqDiff, Nat.reduceAdd, Nat.reduceLeDiff, hG, a1, a2, a3, v10, v20, v21, v30, v31, v32, v40, v41, v42, v43]; refine hK _ _ ?_; clear hK K hG G; repeat (first | refine thenI ?_ | refine thenE ?_ | refine thenR ?_ | refine inBI ?_ | refine inBR ?_ | refine inBS ?_ | refine inBN (by decide) ?_)
      exact ⟨.mk k m w args, _, L, hdr4.trans hd7, Own.close k m w ((hd7.own ho4 hf0 (by have := hq.lt; omega)).args_slice), hf0, ⟨.inr hpa, by simp only [T.wt]; omega⟩, (by (simp (disch := omega) only [go_sem, ↓reduceIte, Nat.reduceEqDiff, Nat.reduceAdd, Nat.reduceLeDiff, a1, a2, a3, v10, v20, v21, v30, v31, v32, v40, v41, v42, v43]); try rfl), (by (simp (disch := omega) only [go_sem, ↓reduceIte, Nat.reduceEqDiff, Nat.reduceAdd, Nat.reduceLeDiff, a1, a2, a3, v10, v20, v21, v30, v31, v32, v40, v41, v42, v43]); try rfl), ⟨(by (simp (disch := omega) only [go_sem, ↓reduceIte, Nat.reduceEqDiff, Nat.reduceAdd, Nat.reduceLeDiff, a1, a2, a3, v10, v20, v21, v30, v31, v32, v40, v41, v42, v43]); try rfl), (by (simp (disch := omega) only [go_sem, ↓reduceIte, Nat.reduceEqDiff, Nat.reduceAdd, Nat.reduceLeDiff, a1, a2, a3, v10, v20, v21, v30, v31, v32, v40, v41, v42, v43]); try rfl)⟩, (by (simp (disch := omega) only [go_sem, ↓reduceIte, Nat.reduceEqDiff, Nat.reduceAdd, Nat.reduceLeDiff, a1, a2, a3, v10, v20, v21, v30, v31, v32, v40, v41, v42, v43]); try rfl)⟩
    · repeat (first | (refine W_reg rfl fun G K hG hK => ?_; simp (disch := omega) only [go_sem, ↓reduceIte, Nat.reduceEqDiff, Nat.reduceAdd, Nat.reduceLeDiff, hG, a1, a2, a3, v10, v20, v21, v30, v31, v32, v40, v41, v42, v43]; refine hK _ _ ?_; clear hK K hG G) | (refine W_end rfl fun G K hG hK => ?_; simp (disch := omega) only [go_sem, ↓reduceIte, Nat.reduceEqDiff, Nat.reduceAdd, Nat.reduceLeDiff, hG, a1, a2, a3, v10, v20, v21, v30, v31, v32, v40, v41, v42, v43]; refine hK _ _ ?_; clear hK K hG G; repeat (first | refine thenI ?_ | refine thenE ?_ | refine thenR ?_ | refine inBI ?_ | refine inBR ?_ | refine inBS ?_ | refine inBN (by decide) ?_)) | refine W_seqS ?_ | refine W_seqC ?_ | refine W_seqB ?_ | refine W_block ?_ | (refine W_skip ?_; repeat (first | refine thenI ?_ | refine thenE ?_ | refine thenR ?_ | refine inBI ?_ | refine inBR ?_ | refine inBS ?_ | refine inBN (by decide) ?_)) | (refine W_condT ?hc ?_; (case hc => (simp (disch := omega) only [go_sem, ↓reduceIte, Nat.reduceEqDiff, Nat.reduceAdd, Nat.reduceLeDiff, a1, a2, a3, v10, v20, v21, v30, v31, v32, v40, v41, v42, v43]; done))) | (refine W_condF ?hc ?_; (case hc => (simp (disch := omega) only [go_sem, ↓reduceIte, Nat.reduceEqDiff, Nat.reduceAdd, Nat.reduceLeDiff, a1, a2, a3, v10, v20, v21, v30, v31, v32, v40, v41, v42, v43]; done))))
      refine W_endD mixed [] [(0,false),(1,false),(2,true),(3,false),(4,false),(5,false),(6,false)] rfl (by decide +kernel) fun G K hG hK => ?_; simp only [pickOps, List.filterMap_cons, List.filterMap_nil, List.getElem?_cons_zero, List.getElem?_cons_succ, Option.map_some]; simp (disch := omega) only [go_sem, ↓reduceIte, Nat.reduceEqDiff, Nat.reduceAdd, Nat.reduceLeDiff, hG, a1, a2, a3, v10, v20, v21, v30, v31, v32, v40, v41, v42, v43]
      refine w_call (l3Word_ok 1 sd) (by simp (disch := omega) only [go_sem, ↓reduceIte, Nat.reduceEqDiff, a1, a2, a3, v10, v20, v21, v30, v31, v32, v40, v41, v42, v43]) ?hl ?_
      case hl => first | rfl | (simp only [go_sem, List.all_cons, List.all_nil, Bool.not_false, Bool.and_self, a1, a2, a3, v10, v20, v21, v30, v31, v32, v40, v41, v42, v43]; done)
      rintro r_ se ⟨rfl, rfl⟩; refine ⟨fun e => Ext.refl _, ?_⟩
      have hw1 : OwnT se (.mk 3 1 ⟨#[]⟩ []) [.int .i64 3, .int .i64 1, .string ⟨#[]⟩, .slice none 0 0] [] := .nil _ _ _
      obtain ⟨s', sf, L', hap, hs', hf', hll, hlow⟩ := Own.step ho4.args_slice hf0 hdr4.away.1 (Ext.refl se) hw1 (.nil _) (by omega)
      have b1 := hs'.loc
      have b2 := hs'.okv
      have b3 := hs'.cells
      simp (disch := omega) only [go_sem, ↓reduceIte, Nat.reduceEqDiff, Nat.reduceAdd, Nat.reduceLeDiff, hG, a1, a2, a3, v10, v20, v21, v30, v31, v32, v40, v41, v42, v43, bsL, fillK_cons, fillK_nil, Nat.reduceMul, w_append, hap, b1, b2, b3]; refine hK _ _ ?_; clear hK K hG G; repeat (first | refine thenI ?_ | refine thenE ?_ | refine thenR ?_ | refine inBI ?_ | refine inBR ?_ | refine inBS ?_ | refine inBN (by decide) ?_)
      have hz : (⟨#[]⟩ : ByteArray).size = 0 := rfl
      have hb : BentP (.mk k m nm (args ++ [.mk 3 1 ⟨#[]⟩ []])) := ⟨.inr (fun a ha => (List.mem_append.1 ha).elim (hpa a) fun h => by cases List.mem_singleton.1 h; exact plain_word _ _), by
        simp only [T.wt, List.length_append, List.length_singleton, T.wtL_snoc, T.wtL, List.length_nil, hz]; omega⟩
      exact ⟨.mk k m nm (args ++ [.mk 3 1 ⟨#[]⟩ []]), _, L', hdr4.low rfl hq.lt hlow hll, Own.close k m nm hs', hf', hb, (by (simp (disch := omega) only [go_sem, ↓reduceIte, Nat.reduceEqDiff, Nat.reduceAdd, Nat.reduceLeDiff, a1, a2, a3, v10, v20, v21, v30, v31, v32, v40, v41, v42, v43]); try rfl), (by (simp (disch := omega) only [go_sem, ↓reduceIte, Nat.reduceEqDiff, Nat.reduceAdd, Nat.reduceLeDiff, a1, a2, a3, v10, v20, v21, v30, v31, v32, v40, v41, v42, v43]); try rfl), ⟨(by (simp (disch := omega) only [go_sem, ↓reduceIte, Nat.reduceEqDiff, Nat.reduceAdd, Nat.reduceLeDiff, a1, a2, a3, v10, v20, v21, v30, v31, v32, v40, v41, v42, v43]); try rfl), (by (simp (disch := omega) only [go_sem, ↓reduceIte, Nat.reduceEqDiff, Nat.reduceAdd, Nat.reduceLeDiff, a1, a2, a3, v10, v20, v21, v30, v31, v32, v40, v41, v42, v43]); try rfl)⟩, (by (simp (disch := omega) only [go_sem, ↓reduceIte, Nat.reduceEqDiff, Nat.reduceAdd, Nat.reduceLeDiff, a1, a2, a3, v10, v20, v21, v30, v31, v32, v40, v41, v42, v43]); try rfl)⟩
    · repeat (first | (refine W_reg rfl fun G K hG hK => ?_; simp (disch := omega) only [go_sem, ↓reduceIte, Nat.reduceEqDiff, Nat.reduceAdd, Nat.reduceLeDiff, hG, a1, a2, a3, v10, v20, v21, v30, v31, v32, v40, v41, v42, v43]; refine hK _ _ ?_; clear hK K hG G) | (refine W_end rfl fun G K hG hK => ?_; simp (disch := omega) only [go_sem, ↓reduceIte, Nat.reduceEqDiff, Nat.reduceAdd, Nat.reduceLeDiff, hG, a1, a2, a3, v10, v20, v21, v30, v31, v32, v40, v41, v42, v43]; refine hK _ _ ?_; clear hK K hG G; repeat (first | refine thenI ?_ | refine thenE ?_ | refine thenR ?_ | refine inBI ?_ | refine inBR ?_ | refine inBS ?_ | refine inBN (by decide) ?_)) | refine W_seqS ?_ | refine W_seqC ?_ | refine W_seqB ?_ | refine W_block ?_ | (refine W_skip ?_; repeat (first | refine thenI ?_ | refine thenE ?_ | refine thenR ?_ | refine inBI ?_ | refine inBR ?_ | refine inBS ?_ | refine inBN (by decide) ?_)) | (refine W_condT ?hc ?_; (case hc => (simp (disch := omega) only [go_sem, ↓reduceIte, Nat.reduceEqDiff, Nat.reduceAdd, Nat.reduceLeDiff, a1, a2, a3, v10, v20, v21, v30, v31, v32, v40, v41, v42, v43]; done))) | (refine W_condF ?hc ?_; (case hc => (simp (disch := omega) only [go_sem, ↓reduceIte, Nat.reduceEqDiff, Nat.reduceAdd, Nat.reduceLeDiff, a1, a2, a3, v10, v20, v21, v30, v31, v32, v40, v41, v42, v43]; done))))
      refine W_loop (fun d fr st' => ∃ (j : Nat) (t : T) (ds : List Value) (L : List Nat), d = 16 - j ∧ j ≤ 16 ∧ (Drawn q xs st st') ∧ (OwnT st' t ds L) ∧ (Fresh st.length L) ∧ (Plain t) ∧ (t.wt ≤ 61 + 2 * j) ∧ (fr.env 2 = .pointer (some ⟨2, 0, some 1⟩)) ∧ (fr.env 3 = .pointer (some ⟨3, 0, some 1⟩)) ∧ (fr.env 4 = .int .i64 j) ∧ ((fr.loc 2).1 = 1 ∧ (fr.loc 2).2.length = 4) ∧ (fr.loc 3 = (1, ds))) (16) ?_ ?_
      · exact ⟨0, _, _, _, by omega, by omega, hdr4, ho4, hf0, hp4.1, by simp only [T.wt]; omega, (by (simp (disch := omega) only [go_sem, ↓reduceIte, Nat.reduceEqDiff, Nat.reduceAdd, Nat.reduceLeDiff, a1, a2, a3, v10, v20, v21, v30, v31, v32, v40, v41, v42, v43]); try rfl), (by (simp (disch := omega) only [go_sem, ↓reduceIte, Nat.reduceEqDiff, Nat.reduceAdd, Nat.reduceLeDiff, a1, a2, a3, v10, v20, v21, v30, v31, v32, v40, v41, v42, v43]); try rfl), (by (simp (disch := omega) only [go_sem, ↓reduceIte, Nat.reduceEqDiff, Nat.reduceAdd, Nat.reduceLeDiff, a1, a2, a3, v10, v20, v21, v30, v31, v32, v40, v41, v42, v43]); try rfl), ⟨(by (simp (disch := omega) only [go_sem, ↓reduceIte, Nat.reduceEqDiff, Nat.reduceAdd, Nat.reduceLeDiff, a1, a2, a3, v10, v20, v21, v30, v31, v32, v40, v41, v42, v43]); try rfl), (by (simp (disch := omega) only [go_sem, ↓reduceIte, Nat.reduceEqDiff, Nat.reduceAdd, Nat.reduceLeDiff, a1, a2, a3, v10, v20, v21, v30, v31, v32, v40, v41, v42, v43]); try rfl)⟩, (by (simp (disch := omega) only [go_sem, ↓reduceIte, Nat.reduceEqDiff, Nat.reduceAdd, Nat.reduceLeDiff, a1, a2, a3, v10, v20, v21, v30, v31, v32, v40, v41, v42, v43]); try rfl)⟩
      rintro d ⟨env, loc⟩ st' ⟨j, t, ds, L, hd, hj, hdr5, ho5, hf5, hp5, hw5, e2, e3, e4, ⟨l2, l2'⟩, l3⟩
      simp only at e2 e3 e4 l2 l2' l3
      by_cases hlt : j < 16
      · have c1 : decide ((j : Int) < 16) = true := by simp; omega
        obtain ⟨k5, n5, m5, s5, rfl, d1, d2, d3⟩ := ho5.args_cells
        repeat (first | (refine W_reg rfl fun G K hG hK => ?_; simp (disch := omega) only [go_sem, ↓reduceIte, Nat.reduceEqDiff, Nat.reduceAdd, Nat.reduceLeDiff, hG, a1, a2, a3, v10, v20, v21, v30, v31, v32, v40, v41, v42, v43, e2, e3, e4, l2, l2', l3, c1, d1, d2, d3]; refine hK _ _ ?_; clear hK K hG G) | (refine W_end rfl fun G K hG hK => ?_; simp (disch := omega) only [go_sem, ↓reduceIte, Nat.reduceEqDiff, Nat.reduceAdd, Nat.reduceLeDiff, hG, a1, a2, a3, v10, v20, v21, v30, v31, v32, v40, v41, v42, v43, e2, e3, e4, l2, l2', l3, c1, d1, d2, d3]; refine hK _ _ ?_; clear hK K hG G; repeat (first | refine thenI ?_ | refine thenE ?_ | refine thenR ?_ | refine inBI ?_ | refine inBR ?_ | refine inBS ?_ | refine inBN (by decide) ?_)) | refine W_seqS ?_ | refine W_seqC ?_ | refine W_seqB ?_ | refine W_block ?_ | (refine W_skip ?_; repeat (first | refine thenI ?_ | refine thenE ?_ | refine thenR ?_ | refine inBI ?_ | refine inBR ?_ | refine inBS ?_ | refine inBN (by decide) ?_)) | (refine W_condT ?hc ?_; (case hc => (simp (disch := omega) only [go_sem, ↓reduceIte, Nat.reduceEqDiff, Nat.reduceAdd, Nat.reduceLeDiff, a1, a2, a3, v10, v20, v21, v30, v31, v32, v40, v41, v42, v43, e2, e3, e4, l2, l2', l3, c1, d1, d2, d3]; done))) | (refine W_condF ?hc ?_; (case hc => (simp (disch := omega) only [go_sem, ↓reduceIte, Nat.reduceEqDiff, Nat.reduceAdd, Nat.reduceLeDiff, a1, a2, a3, v10, v20, v21, v30, v31, v32, v40, v41, v42, v43, e2, e3, e4, l2, l2', l3, c1, d1, d2, d3]; done))))
        refine W_end rfl fun G K hG hK => ?_; simp (disch := omega) only [go_sem, ↓reduceIte, Nat.reduceEqDiff, Nat.reduceAdd, Nat.reduceLeDiff, hG, a1, a2, a3, v10, v20, v21, v30, v31, v32, v40, v41, v42, v43, e2, e3, e4, l2, l2', l3, d1, d2, d3]
        refine w_call (l3One_ok ⟨#[103]⟩ t st' [.int .i64 k5, .int .i64 n5, .string m5, s5] L ho5) (by simp (disch := omega) only [go_sem, ↓reduceIte, Nat.reduceEqDiff, a1, a2, a3, v10, v20, v21, v30, v31, v32, v40, v41, v42, v43, e2, e3, e4, l2, l2', l3, d1, d2, d3]) ?hl ?_
        case hl => first | rfl | (simp only [go_sem, List.all_cons, List.all_nil, Bool.not_false, Bool.and_self, a1, a2, a3, v10, v20, v21, v30, v31, v32, v40, v41, v42, v43, e2, e3, e4, l2, l2', l3, d1, d2, d3]; done)
        rintro r_ se ⟨x1, es, rfl, ho6⟩; refine ⟨fun e => (by cases e), ?_⟩
        obtain ⟨k6, n6, m6, s6, rfl, g1, g2, g3⟩ := ho6.args_cells
        simp (disch := omega) only [go_sem, ↓reduceIte, Nat.reduceEqDiff, Nat.reduceAdd, Nat.reduceLeDiff, hG, a1, a2, a3, v10, v20, v21, v30, v31, v32, v40, v41, v42, v43, e2, e3, e4, l2, l2', l3, d1, d2, d3, g1, g2, g3]; refine hK _ _ ?_; clear hK K hG G; repeat (first | refine thenI ?_ | refine thenE ?_ | refine thenR ?_ | refine inBI ?_ | refine inBR ?_ | refine inBS ?_ | refine inBN (by decide) ?_)
        repeat (first | (refine W_reg rfl fun G K hG hK => ?_; simp (disch := omega) only [go_sem, ↓reduceIte, Nat.reduceEqDiff, Nat.reduceAdd, Nat.reduceLeDiff, hG, a1, a2, a3, v10, v20, v21, v30, v31, v32, v40, v41, v42, v43, e2, e3, e4, l2, l2', l3]; refine hK _ _ ?_; clear hK K hG G) | (refine W_end rfl fun G K hG hK => ?_; simp (disch := omega) only [go_sem, ↓reduceIte, Nat.reduceEqDiff, Nat.reduceAdd, Nat.reduceLeDiff, hG, a1, a2, a3, v10, v20, v21, v30, v31, v32, v40, v41, v42, v43, e2, e3, e4, l2, l2', l3]; refine hK _ _ ?_; clear hK K hG G; repeat (first | refine thenI ?_ | refine thenE ?_ | refine thenR ?_ | refine inBI ?_ | refine inBR ?_ | refine inBS ?_ | refine inBN (by decide) ?_)) | refine W_seqS ?_ | refine W_seqC ?_ | refine W_seqB ?_ | refine W_block ?_ | (refine W_skip ?_; repeat (first | refine thenI ?_ | refine thenE ?_ | refine thenR ?_ | refine inBI ?_ | refine inBR ?_ | refine inBS ?_ | refine inBN (by decide) ?_)) | (refine W_condT ?hc ?_; (case hc => (simp (disch := omega) only [go_sem, ↓reduceIte, Nat.reduceEqDiff, Nat.reduceAdd, Nat.reduceLeDiff, a1, a2, a3, v10, v20, v21, v30, v31, v32, v40, v41, v42, v43, e2, e3, e4, l2, l2', l3]; done))) | (refine W_condF ?hc ?_; (case hc => (simp (disch := omega) only [go_sem, ↓reduceIte, Nat.reduceEqDiff, Nat.reduceAdd, Nat.reduceLeDiff, a1, a2, a3, v10, v20, v21, v30, v31, v32, v40, v41, v42, v43, e2, e3, e4, l2, l2', l3]; done))))
        have hz : (⟨#[103]⟩ : ByteArray).size = 1 := rfl
        have hw6 : (T.mk 2 0 ⟨#[103]⟩ [t]).wt ≤ 61 + 2 * (j + 1) := by simp only [T.wt, T.wtL, List.length_cons, List.length_nil, hz]; omega
        refine ⟨16 - (j + 1), by omega, j + 1, _, _, _, rfl, by omega, hdr5.ext2 x1, ho6, hf5.cons (Own.lt _ _ _ ho5) hdr5.away.1, plain_app 0 _ _ (fun a ha => (by cases List.mem_singleton.1 ha; exact hp5)), hw6, (by (simp (disch := omega) only [go_sem, ↓reduceIte, Nat.reduceEqDiff, Nat.reduceAdd, Nat.reduceLeDiff, a1, a2, a3, v10, v20, v21, v30, v31, v32, v40, v41, v42, v43, e2, e3, e4, l2, l2', l3]); try rfl), (by (simp (disch := omega) only [go_sem, ↓reduceIte, Nat.reduceEqDiff, Nat.reduceAdd, Nat.reduceLeDiff, a1, a2, a3, v10, v20, v21, v30, v31, v32, v40, v41, v42, v43, e2, e3, e4, l2, l2', l3]); try rfl), (by (simp (disch := omega) only [go_sem, ↓reduceIte, Nat.reduceEqDiff, Nat.reduceAdd, Nat.reduceLeDiff, a1, a2, a3, v10, v20, v21, v30, v31, v32, v40, v41, v42, v43, e2, e3, e4, l2, l2', l3]); try rfl), ⟨(by (simp (disch := omega) only [go_sem, ↓reduceIte, Nat.reduceEqDiff, Nat.reduceAdd, Nat.reduceLeDiff, a1, a2, a3, v10, v20, v21, v30, v31, v32, v40, v41, v42, v43, e2, e3, e4, l2, l2', l3]); try rfl), (by (simp (disch := omega) only [go_sem, ↓reduceIte, Nat.reduceEqDiff, Nat.reduceAdd, Nat.reduceLeDiff, a1, a2, a3, v10, v20, v21, v30, v31, v32, v40, v41, v42, v43, e2, e3, e4, l2, l2', l3]); try rfl)⟩, (by (simp (disch := omega) only [go_sem, ↓reduceIte, Nat.reduceEqDiff, Nat.reduceAdd, Nat.reduceLeDiff, a1, a2, a3, v10, v20, v21, v30, v31, v32, v40, v41, v42, v43, e2, e3, e4, l2, l2', l3]); try rfl)⟩
      · have c1 : decide ((j : Int) < 16) = false := by simp; omega
        repeat (first | (refine W_reg rfl fun G K hG hK => ?_; simp (disch := omega) only [go_sem, ↓reduceIte, Nat.reduceEqDiff, Nat.reduceAdd, Nat.reduceLeDiff, hG, a1, a2, a3, v10, v20, v21, v30, v31, v32, v40, v41, v42, v43, e2, e3, e4, l2, l2', l3, c1]; refine hK _ _ ?_; clear hK K hG G) | (refine W_end rfl fun G K hG hK => ?_; simp (disch := omega) only [go_sem, ↓reduceIte, Nat.reduceEqDiff, Nat.reduceAdd, Nat.reduceLeDiff, hG, a1, a2, a3, v10, v20, v21, v30, v31, v32, v40, v41, v42, v43, e2, e3, e4, l2, l2', l3, c1]; refine hK _ _ ?_; clear hK K hG G; repeat (first | refine thenI ?_ | refine thenE ?_ | refine thenR ?_ | refine inBI ?_ | refine inBR ?_ | refine inBS ?_ | refine inBN (by decide) ?_)) | refine W_seqS ?_ | refine W_seqC ?_ | refine W_seqB ?_ | refine W_block ?_ | (refine W_skip ?_; repeat (first | refine thenI ?_ | refine thenE ?_ | refine thenR ?_ | refine inBI ?_ | refine inBR ?_ | refine inBS ?_ | refine inBN (by decide) ?_)) | (refine W_condT ?hc ?_; (case hc => (simp (disch := omega) only [go_sem, ↓reduceIte, Nat.reduceEqDiff, Nat.reduceAdd, Nat.reduceLeDiff, a1, a2, a3, v10, v20, v21, v30, v31, v32, v40, v41, v42, v43, e2, e3, e4, l2, l2', l3, c1]; done))) | (refine W_condF ?hc ?_; (case hc => (simp (disch := omega) only [go_sem, ↓reduceIte, Nat.reduceEqDiff, Nat.reduceAdd, Nat.reduceLeDiff, a1, a2, a3, v10, v20, v21, v30, v31, v32, v40, v41, v42, v43, e2, e3, e4, l2, l2', l3, c1]; done))))
        refine W_exit ?_; repeat (first | refine thenI ?_ | refine thenE ?_ | refine thenR ?_ | refine inBI ?_ | refine inBR ?_ | refine inBS ?_ | refine inBN (by decide) ?_)
        exact ⟨_, _, _, hdr5, ho5, hf5, ⟨hp5.b, by omega⟩, (by (simp (disch := omega) only [go_sem, ↓reduceIte, Nat.reduceEqDiff, Nat.reduceAdd, Nat.reduceLeDiff, a1, a2, a3, v10, v20, v21, v30, v31, v32, v40, v41, v42, v43, e2, e3, e4, l2, l2', l3]); try rfl), (by (simp (disch := omega) only [go_sem, ↓reduceIte, Nat.reduceEqDiff, Nat.reduceAdd, Nat.reduceLeDiff, a1, a2, a3, v10, v20, v21, v30, v31, v32, v40, v41, v42, v43, e2, e3, e4, l2, l2', l3]); try rfl), ⟨(by (simp (disch := omega) only [go_sem, ↓reduceIte, Nat.reduceEqDiff, Nat.reduceAdd, Nat.reduceLeDiff, a1, a2, a3, v10, v20, v21, v30, v31, v32, v40, v41, v42, v43, e2, e3, e4, l2, l2', l3]); try rfl), (by (simp (disch := omega) only [go_sem, ↓reduceIte, Nat.reduceEqDiff, Nat.reduceAdd, Nat.reduceLeDiff, a1, a2, a3, v10, v20, v21, v30, v31, v32, v40, v41, v42, v43, e2, e3, e4, l2, l2', l3]); try rfl)⟩, (by (simp (disch := omega) only [go_sem, ↓reduceIte, Nat.reduceEqDiff, Nat.reduceAdd, Nat.reduceLeDiff, a1, a2, a3, v10, v20, v21, v30, v31, v32, v40, v41, v42, v43, e2, e3, e4, l2, l2', l3]); try rfl)⟩
    · have w0 : (y == 0) = false := by simp; omega
      have w1 : (y == 1) = false := by simp; omega
      have w2 : (y == 2) = false := by simp; omega
      have w3 : (y == 3) = false := by simp; omega
      have w4 : (y == 4) = false := by simp; omega
      repeat (first | (refine W_reg rfl fun G K hG hK => ?_; simp (disch := omega) only [go_sem, ↓reduceIte, Nat.reduceEqDiff, Nat.reduceAdd, Nat.reduceLeDiff, hG, a1, a2, a3, v10, v20, v21, v30, v31, v32, v40, v41, v42, v43, w0, w1, w2, w3, w4]; refine hK _ _ ?_; clear hK K hG G) | (refine W_end rfl fun G K hG hK => ?_; simp (disch := omega) only [go_sem, ↓reduceIte, Nat.reduceEqDiff, Nat.reduceAdd, Nat.reduceLeDiff, hG, a1, a2, a3, v10, v20, v21, v30, v31, v32, v40, v41, v42, v43, w0, w1, w2, w3, w4]; refine hK _ _ ?_; clear hK K hG G; repeat (first | refine thenI ?_ | refine thenE ?_ | refine thenR ?_ | refine inBI ?_ | refine inBR ?_ | refine inBS ?_ | refine inBN (by decide) ?_)) | refine W_seqS ?_ | refine W_seqC ?_ | refine W_seqB ?_ | refine W_block ?_ | (refine W_skip ?_; repeat (first | refine thenI ?_ | refine thenE ?_ | refine thenR ?_ | refine inBI ?_ | refine inBR ?_ | refine inBS ?_ | refine inBN (by decide) ?_)) | (refine W_condT ?hc ?_; (case hc => (simp (disch := omega) only [go_sem, ↓reduceIte, Nat.reduceEqDiff, Nat.reduceAdd, Nat.reduceLeDiff, a1, a2, a3, v10, v20, v21, v30, v31, v32, v40, v41, v42, v43, w0, w1, w2, w3, w4]; done))) | (refine W_condF ?hc ?_; (case hc => (simp (disch := omega) only [go_sem, ↓reduceIte, Nat.reduceEqDiff, Nat.reduceAdd, Nat.reduceLeDiff, a1, a2, a3, v10, v20, v21, v30, v31, v32, v40, v41, v42, v43, w0, w1, w2, w3, w4]; done))))
      exact ⟨_, _, L, hdr4, ho4, hf0, bent_of hp4, (by (simp (disch := omega) only [go_sem, ↓reduceIte, Nat.reduceEqDiff, Nat.reduceAdd, Nat.reduceLeDiff, a1, a2, a3, v10, v20, v21, v30, v31, v32, v40, v41, v42, v43]); try rfl), (by (simp (disch := omega) only [go_sem, ↓reduceIte, Nat.reduceEqDiff, Nat.reduceAdd, Nat.reduceLeDiff, a1, a2, a3, v10, v20, v21, v30, v31, v32, v40, v41, v42, v43]); try rfl), ⟨(by (simp (disch := omega) only [go_sem, ↓reduceIte, Nat.reduceEqDiff, Nat.reduceAdd, Nat.reduceLeDiff, a1, a2, a3, v10, v20, v21, v30, v31, v32, v40, v41, v42, v43]); try rfl), (by (simp (disch := omega) only [go_sem, ↓reduceIte, Nat.reduceEqDiff, Nat.reduceAdd, Nat.reduceLeDiff, a1, a2, a3, v10, v20, v21, v30, v31, v32, v40, v41, v42, v43]); try rfl)⟩, (by (simp (disch := omega) only [go_sem, ↓reduceIte, Nat.reduceEqDiff, Nat.reduceAdd, Nat.reduceLeDiff, a1, a2, a3, v10, v20, v21, v30, v31, v32, v40, v41, v42, v43]); try rfl)⟩
  rintro ⟨env, loc⟩ st' ⟨t, ds, L, hdr5, ho5, hf5, hp5, e2, e3, ⟨l2, l2'⟩, l3⟩
  simp only at e2 e3 l2 l2' l3
  obtain ⟨k5, n5, m5, s5, rfl, d1, d2, d3⟩ := ho5.args_cells
  repeat (first | (refine W_reg rfl fun G K hG hK => ?_; simp (disch := omega) only [go_sem, ↓reduceIte, Nat.reduceEqDiff, Nat.reduceAdd, Nat.reduceLeDiff, hG, e2, e3, l2, l2', l3, d1, d2, d3]; refine hK _ _ ?_; clear hK K hG G) | (refine W_end rfl fun G K hG hK => ?_; simp (disch := omega) only [go_sem, ↓reduceIte, Nat.reduceEqDiff, Nat.reduceAdd, Nat.reduceLeDiff, hG, e2, e3, l2, l2', l3, d1, d2, d3]; refine hK _ _ ?_; clear hK K hG G; repeat (first | refine thenI ?_ | refine thenE ?_ | refine thenR ?_ | refine inBI ?_ | refine inBR ?_ | refine inBS ?_ | refine inBN (by decide) ?_)) | refine W_seqS ?_ | refine W_seqC ?_ | refine W_seqB ?_ | refine W_block ?_ | (refine W_skip ?_; repeat (first | refine thenI ?_ | refine thenE ?_ | refine thenR ?_ | refine inBI ?_ | refine inBR ?_ | refine inBS ?_ | refine inBN (by decide) ?_)) | (refine W_condT ?hc ?_; (case hc => (simp (disch := omega) only [go_sem, ↓reduceIte, Nat.reduceEqDiff, Nat.reduceAdd, Nat.reduceLeDiff, e2, e3, l2, l2', l3, d1, d2, d3]; done))) | (refine W_condF ?hc ?_; (case hc => (simp (disch := omega) only [go_sem, ↓reduceIte, Nat.reduceEqDiff, Nat.reduceAdd, Nat.reduceLeDiff, e2, e3, l2, l2', l3, d1, d2, d3]; done))))
  refine W_ret ?_; try (repeat (first | refine thenI ?_ | refine thenE ?_ | refine thenR ?_ | refine inBI ?_ | refine inBR ?_ | refine inBS ?_ | refine inBN (by decide) ?_))
  refine finC (.inl rfl) (by (simp (disch := omega) only [go_sem, ↓reduceIte, Nat.reduceEqDiff, Nat.reduceAdd, Nat.reduceLeDiff, e2, e3, l2, l2', l3, d1, d2, d3]); try rfl) ⟨hdr5, t, [_, _, _, _], L, rfl, ho5, hf5, hp5⟩
end Go.Proofs.YtkohkdlbjbbegaaDoor.AM


/- Terms are totally ordered: the comparison, in plain Lean. -/
namespace Go.Proofs.YtkohkdlbjbbegaaDoor.AM
open Go Go.Proofs
set_option linter.unusedVariables false
set_option linter.unusedSimpArgs false

def lexI : List Int → List Int → Int
  | [], [] => 0
  | [], _ :: _ => -1
  | _ :: _, [] => 1
  | a :: x, b :: y => if a < b then -1 else if b < a then 1 else lexI x y
theorem lexI_anti : ∀ x y, lexI y x = - lexI x y := by
  intro x
  induction x with
  | nil => intro y; cases y <;> rfl
  | cons a x ih =>
    intro y
    cases y with
    | nil => rfl
    | cons b y =>
      by_cases h1 : a < b
      · have h2 : ¬ b < a := by omega
        simp [lexI, h1, h2]
      · by_cases h2 : b < a
        · simp [lexI, h1, h2]
        · simp [lexI, h1, h2, ih y]
theorem lexI_nil (z : List Int) : lexI [] z ≤ 0 := by cases z <;> simp [lexI]
theorem lexI_trans : ∀ x y z, lexI x y ≤ 0 → lexI y z ≤ 0 → lexI x z ≤ 0 := by
  intro x
  induction x with
  | nil => intro y z _ _; exact lexI_nil z
  | cons a x ih =>
    intro y z h1 h2
    cases y with
    | nil => simp [lexI] at h1
    | cons b y =>
      cases z with
      | nil => simp [lexI] at h2
      | cons c z =>
        simp only [lexI] at h1 h2 ⊢
        by_cases e1 : a < b
        · by_cases e2 : b < c
          · rw [if_pos (by omega)]; omega
          · rw [if_neg e2] at h2
            by_cases e3 : c < b
            · rw [if_pos e3] at h2; omega
            · rw [if_pos (by omega)]; omega
        · rw [if_neg e1] at h1
          by_cases e2 : b < a
          · rw [if_pos e2] at h1; omega
          · rw [if_neg e2] at h1
            by_cases e3 : b < c
            · rw [if_pos (by omega)]; omega
            · rw [if_neg e3] at h2
              by_cases e4 : c < b
              · rw [if_pos e4] at h2; omega
              · rw [if_neg e4] at h2
                rw [if_neg (by omega), if_neg (by omega)]
                exact ih y z h1 h2

/-- The first of the numbers that is not 0. -/
def firstNZ : List Int → Int
  | [] => 0
  | x :: xs => if x = 0 then firstNZ xs else x
def ci (a b : Int) : Int := if a < b then -1 else if a > b then 1 else 0
def ct (a b : ByteArray) : Int := if Op.bytesLess a.toList b.toList = true then -1 else if Op.bytesLess b.toList a.toList = true then 1 else 0
def hdC (k n : Int) (nm : ByteArray) (m : Nat) (k' n' : Int) (nm' : ByteArray) (m' : Nat) : Int := firstNZ [ci k k', ci n n', ct nm nm', ci m m']
mutual
def T.cmp : T → T → Int
  | .mk k n nm xs, .mk k' n' nm' ys => if hdC k n nm xs.length k' n' nm' ys.length = 0 then T.cmpL xs ys else hdC k n nm xs.length k' n' nm' ys.length
def T.cmpL : List T → List T → Int
  | x :: xs, y :: ys => if T.cmp x y = 0 then T.cmpL xs ys else T.cmp x y
  | [], _ => 0
  | _ :: _, [] => 0
end

def keyB (s : ByteArray) : List Int := s.data.toList.map fun b => (b.toNat : Int)
mutual
def T.flatt : T → List Int
  | .mk k n nm xs => k :: n :: (keyB nm ++ (-1 :: (xs.length : Int) :: T.flatL xs))
def T.flatL : List T → List Int
  | [] => []
  | x :: xs => x.flatt ++ T.flatL xs
end
theorem lexI_cons (a b : Int) (x y : List Int) : lexI (a :: x) (b :: y) = if ci a b = 0 then lexI x y else ci a b := by
  unfold ci
  by_cases h1 : a < b
  · simp [lexI, h1]
  · by_cases h2 : b < a
    · simp [lexI, h1, h2]
    · simp [lexI, h1, h2]
theorem lexI_bytes : ∀ (x y : List UInt8) (r s : List Int), lexI (x.map (fun b => (b.toNat : Int)) ++ (-1 :: r)) (y.map (fun b => (b.toNat : Int)) ++ (-1 :: s)) = if x < y then -1 else if y < x then 1 else lexI r s := by
  intro x
  induction x with
  | nil =>
    intro y r s
    cases y with
    | nil => simp [lexI]
    | cons b y =>
      have h0 : (-1 : Int) < (b.toNat : Int) := by omega
      simp [lexI, h0]
  | cons a x ih =>
    intro y r s
    cases y with
    | nil =>
      have h0 : (-1 : Int) < (a.toNat : Int) := by omega
      have h1 : ¬ ((a.toNat : Int) < -1) := by omega
      simp [lexI, h0, h1]
    | cons b y =>
      have e : ∀ {p q : UInt8}, p < q ↔ p.toNat < q.toNat := fun {p q} => UInt8.lt_iff_toNat_lt
      simp only [List.map_cons, List.cons_append, lexI, List.cons_lt_cons_iff, ih y r s]
      by_cases h1 : a < b
      · have h2 : a.toNat < b.toNat := e.1 h1
        simp [h1, h2]
      · have h2 : ¬ a.toNat < b.toNat := fun h => h1 (e.2 h)
        by_cases h3 : b < a
        · have h4 : b.toNat < a.toNat := e.1 h3
          have h5 : ¬ a = b := fun h => by subst h; omega
          have h6 : ¬ (a.toNat : Int) < b.toNat := by omega
          have h7 : (b.toNat : Int) < a.toNat := by omega
          have h8 : ¬ b = a := fun h => h5 h.symm
          simp [h1, h3, h5, h8, h4, h2]
        · have h4 : ¬ b.toNat < a.toNat := fun h => h3 (e.2 h)
          have h5 : a = b := UInt8.toNat_inj.1 (by omega)
          subst h5
          simp
theorem lexI_ct (a b : ByteArray) (r s : List Int) : lexI (keyB a ++ (-1 :: r)) (keyB b ++ (-1 :: s)) = if ct a b = 0 then lexI r s else ct a b := by
  unfold keyB ct
  rw [lexI_bytes, Go.Proofs.bytesLess_eq, Go.Proofs.bytesLess_eq, Lib.toList_data, Lib.toList_data]
  by_cases h1 : a.data.toList < b.data.toList
  · simp [h1]
  · by_cases h2 : b.data.toList < a.data.toList
    · simp [h1, h2]
    · simp [h1, h2]
theorem T.cmp_flat : ∀ (a b : T) (r s : List Int), lexI (a.flatt ++ r) (b.flatt ++ s) = if T.cmp a b = 0 then lexI r s else T.cmp a b := by
  refine T.ind fun k n nm xs ih b r s => ?_
  obtain ⟨k', n', nm', ys⟩ := b
  have hL : ∀ (l : List T), (∀ a ∈ l, ∀ b r s, lexI (a.flatt ++ r) (b.flatt ++ s) = if T.cmp a b = 0 then lexI r s else T.cmp a b) → ∀ (m : List T), l.length = m.length → ∀ r s, lexI (T.flatL l ++ r) (T.flatL m ++ s) = if T.cmpL l m = 0 then lexI r s else T.cmpL l m := by
    intro l
    induction l with
    | nil =>
      intro _ m hm r s
      cases m with
      | nil => simp [T.flatL, T.cmpL]
      | cons y ys => simp at hm
    | cons x xs ihx =>
      intro h m hm r s
      cases m with
      | nil => simp at hm
      | cons y ys =>
        simp only [T.flatL, T.cmpL, List.append_assoc]
        rw [h x (by simp) y, ihx (fun a ha => h a (by simp [ha])) ys (by simpa using hm)]
        by_cases h1 : T.cmp x y = 0
        · simp [h1]
        · simp [h1]
  simp only [T.flatt, T.cmp, hdC, firstNZ, List.cons_append, List.append_assoc]
  rw [lexI_cons, lexI_cons, lexI_ct, lexI_cons]
  by_cases h1 : ci k k' = 0
  · by_cases h2 : ci n n' = 0
    · by_cases h3 : ct nm nm' = 0
      · by_cases h4 : ci (xs.length : Int) (ys.length : Int) = 0
        · have h5 : xs.length = ys.length := by
            unfold ci at h4
            split at h4
            · omega
            · split at h4 <;> omega
          rw [hL xs ih ys h5]
          simp [h1, h2, h3, h4]
        · simp [h1, h2, h3, h4]
      · simp [h1, h2, h3]
    · simp [h1, h2]
  · simp [h1]
theorem T.cmp_lex (a b : T) : T.cmp a b = lexI a.flatt b.flatt := by
  have h := T.cmp_flat a b [] []
  simp only [List.append_nil, lexI] at h
  rw [h]
  split
  · rename_i h1; exact h1
  · rfl
theorem T.cmp_anti (a b : T) : T.cmp b a = - T.cmp a b := by rw [T.cmp_lex, T.cmp_lex, lexI_anti]
theorem T.cmp_trans {a b c : T} (h1 : T.cmp a b ≤ 0) (h2 : T.cmp b c ≤ 0) : T.cmp a c ≤ 0 := by
  rw [T.cmp_lex] at h1 h2 ⊢
  exact lexI_trans _ _ _ h1 h2
theorem ct_zero {a b : ByteArray} : ct a b = 0 ↔ a = b := by
  unfold ct
  rw [Go.Proofs.bytesLess_eq, Go.Proofs.bytesLess_eq, Lib.toList_data, Lib.toList_data]
  constructor
  · intro h
    have h1 : ¬ a.data.toList < b.data.toList := fun h1 => by simp [h1] at h
    have h2 : ¬ b.data.toList < a.data.toList := fun h2 => by simp [h1, h2] at h
    have h3 : a.data.toList = b.data.toList := Std.le_antisymm (Std.not_lt.1 h2) (Std.not_lt.1 h1)
    exact ByteArray.ext (Array.ext' h3)
  · rintro rfl
    have : ¬ a.data.toList < a.data.toList := Std.lt_irrefl
    simp [this]
theorem ci_zero {a b : Int} : ci a b = 0 ↔ a = b := by
  unfold ci
  constructor
  · intro h
    split at h
    · omega
    · split at h <;> omega
  · rintro rfl; simp
theorem T.cmp_zero : ∀ (a b : T), T.cmp a b = 0 ↔ a = b := by
  refine T.ind fun k n nm xs ih b => ?_
  obtain ⟨k', n', nm', ys⟩ := b
  have hL : ∀ (l : List T), (∀ a ∈ l, ∀ b, T.cmp a b = 0 ↔ a = b) → ∀ (m : List T), l.length = m.length → (T.cmpL l m = 0 ↔ l = m) := by
    intro l
    induction l with
    | nil =>
      intro _ m hm
      cases m with
      | nil => simp [T.cmpL]
      | cons y ys => simp at hm
    | cons x xs ihx =>
      intro h m hm
      cases m with
      | nil => simp at hm
      | cons y ys =>
        simp only [T.cmpL, List.cons.injEq]
        rw [← h x (by simp) y, ← ihx (fun a ha => h a (by simp [ha])) ys (by simpa using hm)]
        by_cases h1 : T.cmp x y = 0
        · simp [h1]
        · simp [h1]
  simp only [T.cmp, hdC, firstNZ, T.mk.injEq]
  by_cases h1 : ci k k' = 0
  · by_cases h2 : ci n n' = 0
    · by_cases h3 : ct nm nm' = 0
      · by_cases h4 : ci (xs.length : Int) (ys.length : Int) = 0
        · have h5 : xs.length = ys.length := by have := ci_zero.1 h4; omega
          simp only [h1, h2, h3, h4, if_true]
          rw [hL xs ih ys h5]
          simp [ci_zero.1 h1, ci_zero.1 h2, ct_zero.1 h3]
        · have h5 : xs ≠ ys := fun e => h4 (by rw [e]; simp [ci])
          simp [h1, h2, h3, h4, h5]
      · have h5 : nm ≠ nm' := fun e => h3 (ct_zero.2 e)
        simp [h1, h2, h3, h5]
    · have h5 : n ≠ n' := fun e => h2 (ci_zero.2 e)
      simp [h1, h2, h5]
  · have h5 : k ≠ k' := fun e => h1 (ci_zero.2 e)
    simp [h1, h5]
end Go.Proofs.YtkohkdlbjbbegaaDoor.AM


/- Terms are compared: cmp.Compare, cmp.Or, impl.CompareTerms, spec.l3Ints, l3Texts, spec.CompareTerms. -/
namespace Go.Proofs.YtkohkdlbjbbegaaDoor.AM
open Go Go.Proofs
set_option linter.unusedVariables false
set_option linter.unusedSimpArgs false
set_option maxRecDepth 100000
attribute [local go_sem] List.map_cons List.map_nil List.all_cons List.all_nil Bool.and_self Option.map_some List.getElem?_toArray Option.bind_some gye_b gye_t gsk_b gsk_t gb1 gb2 gb3 gb4 bne_self_eq_false beq_self_eq_true w_guard w_nil stepV_some step_some step_some' w_move w_assign w_pick w_binOp w_unOp w_load w_fieldAddr w_indexAddr w_len w_max w_index ev_max max_int ev_index w_box w_alloc w_store w_field w_extract w_nilCheck w_convert w_buildSlice w_build ev_buildL fillL_nil fillL_cons bs0 bs1 ev_conv ev_bin ev_un ev_pick ev_load ev_fieldAddr ev_indexAddr ev_len ev_field ev_extract ev_nilCheck fr_tmp fr_int fr_bool fr_str fr_nil fr_func put_some put_none bin_lss bin_leq bin_gtr bin_geq bin_eql bin_neq bin_add bin_sub bin_mul bin_seql bin_sneq un_not pick_ ext_ loadA_p cellAt_l cellAt_h okPtr_l okPtr_h fadA_p allocA_l storeA_l cells_agg cells_int cells_str cells_sl cells_bool flat_i flat_s flat_b flat_sl flat_nil loc_agg loc_int loc_str loc_sl loc_bool loc_fn loc_ptr okv_agg okv_int okv_str okv_sl okv_bool cellsFrom splice upd_eval argEnv_zero argEnv_succ ne_eq Nat.add_one_ne_zero not_false_eq_true List.not_mem_nil and_self decide_true List.getElem?_cons_zero List.getElem?_cons_succ List.size_toArray List.length_cons List.length_nil List.take_succ_cons List.take_zero List.drop_succ_cons List.drop_zero List.cons_append List.nil_append List.drop_nil Bool.not_true Bool.not_false Bool.false_eq_true Nat.zero_add Nat.add_zero wrap_in List.toList_toArray List.mem_cons or_self or_false false_or
attribute [local go_sem] ag22 ag24 ag26 ag3 ag33 ag5 ag62 ag76 ag9 bu26 bu56 by26 by3 by33 by5 by9 el22 el24 el28 el33 el44 of26_0 of26_1 of26_2 of26_3 of56_0 of56_1 of56_2 of64_0 of64_1 ro26_0 ro26_1 ro26_2 ro3_0 ro3_1 ro3_3 ro33_0 ro33_1 ro5_0 ro5_1 ro9_0 ro9_1 ro9_2 ro9_3 ro9_4 sz22 sz24 sz26 sz3 sz33 sz5 sz62 sz76 sz9 ze26 ze3 ze33 ze5 ze64 ze75 ze88 ze9
-- AUTO

theorem gtr_less (a b : List UInt8) : (!(Op.bytesLess a b || a == b)) = Op.bytesLess b a := by
  rw [Go.Proofs.bytesLess_eq, Go.Proofs.bytesLess_eq]
  by_cases h1 : a < b
  · have h2 : ¬ b < a := fun h => Std.lt_irrefl (Std.lt_trans h1 h)
    simp [h1, h2]
  · by_cases h2 : b < a
    · have h3 : ¬ a = b := fun e => by subst e; exact h1 h2
      simp [h1, h2, h3]
    · have h3 : a = b := Std.le_antisymm (Std.not_lt.1 h2) (Std.not_lt.1 h1)
      subst h3
      simp [h1]
theorem bin_sgtr2 {P : Program} {t : TypeId} {x y : Operand} {a b : ByteArray} : binE P .gtr t x y (.string a) (.string b) = some (.bool (Op.bytesLess b.toList a.toList)) := by rw [bin_sgtr, gtr_less]
theorem rowOk_ints {st : St} {i c : Nat} {ns : List Int} {e : TypeId} (h : st[i]? = some ⟨ns.map (Value.int .i64), e, 0⟩) (j : Nat) (hj : j < ns.length) : cell st i (j * 1) = some (.int .i64 ns[j]) := by
  rw [cell_of h, Nat.mul_one, List.getElem?_map, List.getElem?_eq_getElem hj]; rfl
theorem wt_arg {k n : Int} {nm : ByteArray} {args : List T} : args.length ≤ (T.mk k n nm args).wt := by simp only [T.wt]; omega
theorem cmpL_snoc : ∀ (xs ys : List T) (x y : T), xs.length = ys.length → T.cmpL (xs ++ [x]) (ys ++ [y]) = if T.cmpL xs ys = 0 then T.cmp x y else T.cmpL xs ys := by
  intro xs
  induction xs with
  | nil =>
    intro ys x y h
    cases ys with
    | nil => simp only [List.nil_append, T.cmpL, if_true]; split <;> simp_all
    | cons _ _ => simp at h
  | cons a xs ih =>
    intro ys x y h
    cases ys with
    | nil => simp at h
    | cons b ys =>
      simp only [List.cons_append, T.cmpL]
      rw [ih ys x y (by simpa using h)]
      by_cases h1 : T.cmp a b = 0
      · simp [h1]
      · simp [h1]
theorem cmpL_take : ∀ (xs ys : List T) (j : Nat), T.cmpL (xs.take j) (ys.take j) ≠ 0 → T.cmpL xs ys = T.cmpL (xs.take j) (ys.take j) := by
  intro xs
  induction xs with
  | nil => intro ys j h; simp [T.cmpL] at h
  | cons a xs ih =>
    intro ys j h
    cases ys with
    | nil => simp at h; cases j <;> simp [T.cmpL] at h
    | cons b ys =>
      cases j with
      | zero => simp [T.cmpL] at h
      | succ j =>
        simp only [List.take_succ_cons, T.cmpL] at h ⊢
        by_cases h1 : T.cmp a b = 0
        · simp only [h1, if_true] at h ⊢
          exact ih ys j h
        · simp only [if_neg h1]
theorem hd_len {a b c d : Int} {m p : Nat} (h : (if a = 0 then (if b = 0 then (if c = 0 then (if ci (m : Int) (p : Int) = 0 then d else ci m p) else c) else b) else a) = 0) : m = p := by
  by_cases h1 : a = 0
  · by_cases h2 : b = 0
    · by_cases h3 : c = 0
      · by_cases h4 : ci (m : Int) (p : Int) = 0
        · have := ci_zero.1 h4; omega
        · simp [h1, h2, h3, h4] at h
      · simp [h1, h2, h3] at h
    · simp [h1, h2] at h
  · simp [h1] at h
end Go.Proofs.YtkohkdlbjbbegaaDoor.AM


/- Two terms drawn: spec.l3Two, DrawCompareTerms, DrawIsGround; the law FnOrder. -/
namespace Go.Proofs.YtkohkdlbjbbegaaDoor.AM
open Go Go.Proofs
set_option linter.unusedVariables false
set_option linter.unusedSimpArgs false
set_option maxRecDepth 100000
attribute [local go_sem] List.map_cons List.map_nil List.all_cons List.all_nil Bool.and_self Option.map_some List.getElem?_toArray Option.bind_some gye_b gye_t gsk_b gsk_t gb1 gb2 gb3 gb4 bne_self_eq_false beq_self_eq_true w_guard w_nil stepV_some step_some step_some' w_move w_assign w_pick w_binOp w_unOp w_load w_fieldAddr w_indexAddr w_len w_max w_index ev_max max_int ev_index w_box w_alloc w_store w_field w_extract w_nilCheck w_convert w_buildSlice w_build ev_buildL fillL_nil fillL_cons bs0 bs1 ev_conv ev_bin ev_un ev_pick ev_load ev_fieldAddr ev_indexAddr ev_len ev_field ev_extract ev_nilCheck fr_tmp fr_int fr_bool fr_str fr_nil fr_func put_some put_none bin_lss bin_leq bin_gtr bin_geq bin_eql bin_neq bin_add bin_sub bin_mul bin_seql bin_sneq un_not pick_ ext_ loadA_p cellAt_l cellAt_h okPtr_l okPtr_h fadA_p allocA_l storeA_l cells_agg cells_int cells_str cells_sl cells_bool flat_i flat_s flat_b flat_sl flat_nil loc_agg loc_int loc_str loc_sl loc_bool loc_fn loc_ptr okv_agg okv_int okv_str okv_sl okv_bool cellsFrom splice upd_eval argEnv_zero argEnv_succ ne_eq Nat.add_one_ne_zero not_false_eq_true List.not_mem_nil and_self decide_true List.getElem?_cons_zero List.getElem?_cons_succ List.size_toArray List.length_cons List.length_nil List.take_succ_cons List.take_zero List.drop_succ_cons List.drop_zero List.cons_append List.nil_append List.drop_nil Bool.not_true Bool.not_false Bool.false_eq_true Nat.zero_add Nat.add_zero wrap_in List.toList_toArray List.mem_cons or_self or_false false_or
attribute [local go_sem] ag22 ag24 ag26 ag3 ag33 ag5 ag62 ag76 ag9 bu26 bu56 by26 by3 by33 by5 by9 el22 el24 el28 el33 el44 of26_0 of26_1 of26_2 of26_3 of56_0 of56_1 of56_2 of64_0 of64_1 ro26_0 ro26_1 ro26_2 ro3_0 ro3_1 ro3_3 ro33_0 ro33_1 ro5_0 ro5_1 ro9_0 ro9_1 ro9_2 ro9_3 ro9_4 sz22 sz24 sz26 sz3 sz33 sz5 sz62 sz76 sz9 ze26 ze3 ze33 ze5 ze64 ze75 ze88 ze9
-- AUTO

theorem finCC {P : Program} {st : St} {F : Value → St → Prop} {env : Nat → Value} {loc : Nat → Nat × List Value} {a b : Tmp} {t u : TypeId} {x : Ex} (hx : x = .ret ∨ x = .normal) {v v' : Value} (hv : loadA P [] t (env a) loc st = some v) (hv' : loadA P [] u (env b) loc st = some v') (hq : F (.tuple #[v, v']) st) : Fin P [.cell a t, .cell b u] F x ⟨env, loc⟩ st := by
  have h : ∃ r, resA P [.cell a t, .cell b u] ⟨env, loc⟩ st = some r ∧ F r st := ⟨.tuple #[v, v'], by simp [resA, resL, resV, hv, hv'], hq⟩
  rcases hx with rfl | rfl <;> exact h
def DrawE (st : St) (R : T → Prop) (r : Value) (st2 : St) : Prop := Ext st st2 ∧ ∃ t ds, r = .agg ds.toArray ∧ Enc st2 t ds ∧ R t
theorem bent_lim {t : T} (h : BentP t) : Lim 1073741824 t := Lim.of_wt _ (by have := h.2; omega)
theorem Enc.args_cells {st : St} {t : T} {cs : List Value} (h : Enc st t cs) : ∃ k n nm s, cs = [.int .i64 k, .int .i64 n, .string nm, s] ∧ isLoc s = false ∧ okv s = true ∧ vc s = #[s] := by
  obtain ⟨k, n, nm, args⟩ := t
  obtain ⟨s, rfl, hr⟩ := h.open
  exact ⟨k, n, nm, s, rfl, hr.notLoc.1, hr.notLoc.2, Row.cells1 hr⟩
theorem lexI_bnd : ∀ x y, -1 ≤ lexI x y ∧ lexI x y ≤ 1 := by
  intro x
  induction x with
  | nil => intro y; cases y <;> simp [lexI]
  | cons a x ih =>
    intro y
    cases y with
    | nil => simp [lexI]
    | cons b y =>
      simp only [lexI]
      have := ih y
      split
      · omega
      · split <;> omega
theorem RowY.of_ext {st st' : St} {xs : List Byt} {s : Value} (h : RowY st xs s) (hx : Ext st st') : RowY st' xs s := h.ext hx
end Go.Proofs.YtkohkdlbjbbegaaDoor.AM


/- Rows of numbers: laws.toIntS, laws.eqIntS, laws.markIntS, laws.heldIntS. -/
namespace Go.Proofs.YtkohkdlbjbbegaaDoor.AM
open Go Go.Proofs
set_option linter.unusedVariables false
set_option linter.unusedSimpArgs false
set_option maxRecDepth 100000
attribute [local go_sem] List.map_cons List.map_nil List.all_cons List.all_nil Bool.and_self Option.map_some List.getElem?_toArray Option.bind_some gye_b gye_t gsk_b gsk_t gb1 gb2 gb3 gb4 bne_self_eq_false beq_self_eq_true w_guard w_nil stepV_some step_some step_some' w_move w_assign w_pick w_binOp w_unOp w_load w_fieldAddr w_indexAddr w_len w_max w_index ev_max max_int ev_index w_box w_alloc w_store w_field w_extract w_nilCheck w_convert w_buildSlice w_build ev_buildL fillL_nil fillL_cons bs0 bs1 ev_conv ev_bin ev_un ev_pick ev_load ev_fieldAddr ev_indexAddr ev_len ev_field ev_extract ev_nilCheck fr_tmp fr_int fr_bool fr_str fr_nil fr_func put_some put_none bin_lss bin_leq bin_gtr bin_geq bin_eql bin_neq bin_add bin_sub bin_mul bin_seql bin_sneq un_not pick_ ext_ loadA_p cellAt_l cellAt_h okPtr_l okPtr_h fadA_p allocA_l storeA_l cells_agg cells_int cells_str cells_sl cells_bool flat_i flat_s flat_b flat_sl flat_nil loc_agg loc_int loc_str loc_sl loc_bool loc_fn loc_ptr okv_agg okv_int okv_str okv_sl okv_bool cellsFrom splice upd_eval argEnv_zero argEnv_succ ne_eq Nat.add_one_ne_zero not_false_eq_true List.not_mem_nil and_self decide_true List.getElem?_cons_zero List.getElem?_cons_succ List.size_toArray List.length_cons List.length_nil List.take_succ_cons List.take_zero List.drop_succ_cons List.drop_zero List.cons_append List.nil_append List.drop_nil Bool.not_true Bool.not_false Bool.false_eq_true Nat.zero_add Nat.add_zero wrap_in List.toList_toArray List.mem_cons or_self or_false false_or
attribute [local go_sem] ag22 ag24 ag26 ag3 ag33 ag5 ag62 ag76 ag9 bu26 bu56 by26 by3 by33 by5 by9 el22 el24 el28 el33 el44 of26_0 of26_1 of26_2 of26_3 of56_0 of56_1 of56_2 of64_0 of64_1 ro26_0 ro26_1 ro26_2 ro3_0 ro3_1 ro3_3 ro33_0 ro33_1 ro5_0 ro5_1 ro9_0 ro9_1 ro9_2 ro9_3 ro9_4 sz22 sz24 sz26 sz3 sz33 sz5 sz62 sz76 sz9 ze26 ze3 ze33 ze5 ze64 ze75 ze88 ze9
-- AUTO

theorem row_atI {st : St} {xs : List Int} {s : Value} (h : Rw st xs s) {j : Nat} {x : Int} (hx : xs[j]? = some x) {n : Nat} (hn : xs.length = n := by rfl) : ∃ i o c, s = .slice (some ⟨i, o, none⟩) n c ∧ cell st i (o + j * 1) = some (.int .i64 x) := by
  subst hn
  obtain ⟨i, o, c, cs, rfl, _, rfl, hc⟩ := row_at h hx
  exact ⟨i, o, c, rfl, hc 0 _ rfl⟩

theorem mkL_ints (xs : List Int) (k : Nat) : (mkL xs k).2 = k + xs.length := by
  induction xs generalizing k with
  | nil => rfl
  | cons x xs ih => simp only [mkL, ih, List.length_cons, Marks.mk1]; omega

end Go.Proofs.YtkohkdlbjbbegaaDoor.AM


/- Subterms: impl.at, impl.TermAt, spec.TermAt. -/
namespace Go.Proofs.YtkohkdlbjbbegaaDoor.AM
open Go Go.Proofs
set_option linter.unusedVariables false
set_option linter.unusedSimpArgs false
set_option maxRecDepth 100000
attribute [local go_sem] List.map_cons List.map_nil List.all_cons List.all_nil Bool.and_self Option.map_some List.getElem?_toArray Option.bind_some gye_b gye_t gsk_b gsk_t gb1 gb2 gb3 gb4 bne_self_eq_false beq_self_eq_true w_guard w_nil stepV_some step_some step_some' w_move w_assign w_pick w_binOp w_unOp w_load w_fieldAddr w_indexAddr w_len w_max w_index ev_max max_int ev_index w_box w_alloc w_store w_field w_extract w_nilCheck w_convert w_buildSlice w_build ev_buildL fillL_nil fillL_cons bs0 bs1 ev_conv ev_bin ev_un ev_pick ev_load ev_fieldAddr ev_indexAddr ev_len ev_field ev_extract ev_nilCheck fr_tmp fr_int fr_bool fr_str fr_nil fr_func put_some put_none bin_lss bin_leq bin_gtr bin_geq bin_eql bin_neq bin_add bin_sub bin_mul bin_seql bin_sneq un_not pick_ ext_ loadA_p cellAt_l cellAt_h okPtr_l okPtr_h fadA_p allocA_l storeA_l cells_agg cells_int cells_str cells_sl cells_bool flat_i flat_s flat_b flat_sl flat_nil loc_agg loc_int loc_str loc_sl loc_bool loc_fn loc_ptr okv_agg okv_int okv_str okv_sl okv_bool cellsFrom splice upd_eval argEnv_zero argEnv_succ ne_eq Nat.add_one_ne_zero not_false_eq_true List.not_mem_nil and_self decide_true List.getElem?_cons_zero List.getElem?_cons_succ List.size_toArray List.length_cons List.length_nil List.take_succ_cons List.take_zero List.drop_succ_cons List.drop_zero List.cons_append List.nil_append List.drop_nil Bool.not_true Bool.not_false Bool.false_eq_true Nat.zero_add Nat.add_zero wrap_in List.toList_toArray List.mem_cons or_self or_false false_or
attribute [local go_sem] ag22 ag24 ag26 ag3 ag33 ag5 ag62 ag76 ag9 bu26 bu56 by26 by3 by33 by5 by9 el22 el24 el28 el33 el44 of26_0 of26_1 of26_2 of26_3 of56_0 of56_1 of56_2 of64_0 of64_1 ro26_0 ro26_1 ro26_2 ro3_0 ro3_1 ro3_3 ro33_0 ro33_1 ro5_0 ro5_1 ro9_0 ro9_1 ro9_2 ro9_3 ro9_4 sz22 sz24 sz26 sz3 sz33 sz5 sz62 sz76 sz9 ze26 ze3 ze33 ze5 ze64 ze75 ze88 ze9
-- AUTO

def T.zero : T := .mk 0 0 ⟨#[]⟩ []
def T.args : T → List T
  | .mk _ _ _ args => args
/-- The subterm at a position. -/
def T.at : List Int → T → Option T
  | [], t => some t
  | i :: p, t => if 0 ≤ i ∧ i < (t.args.length : Int) then (match t.args[i.toNat]? with
    | some x => T.at p x
    | none => none) else none
def T.atD (p : List Int) (t : T) : T := (T.at p t).getD T.zero

theorem T.at_in {p : List Int} {t x : T} {i : Int} (h0 : 0 ≤ i) (h1 : i < (t.args.length : Int)) (hx : t.args[i.toNat]? = some x) : T.at (i :: p) t = T.at p x := by
  simp only [T.at, h0, h1, and_self, if_true, hx]
theorem T.at_out {p : List Int} {t : T} {i : Int} (h : i < 0 ∨ (t.args.length : Int) ≤ i) : T.at (i :: p) t = none := by
  simp only [T.at]
  rw [if_neg (by omega)]
theorem T.at_sub {P : T → Prop} (hP : ∀ t x, P t → x ∈ t.args → P x) : ∀ (p : List Int) (t x : T), P t → T.at p t = some x → P x := by
  intro p
  induction p with
  | nil => intro t x ht h; simp only [T.at, Option.some.injEq] at h; subst h; exact ht
  | cons i p ih =>
    intro t x ht h
    simp only [T.at] at h
    split at h
    · split at h
      · rename_i y hy; exact ih y x (hP t y ht (List.mem_of_getElem? hy)) h
      · cases h
    · cases h
theorem T.at_append (p q : List Int) : ∀ t, T.at (p ++ q) t = (T.at p t).bind (T.at q) := by
  induction p with
  | nil => intro t; rfl
  | cons i p ih =>
    intro t
    simp only [List.cons_append, T.at]
    split
    · split
      · exact ih _
      · rfl
    · rfl
theorem own_zero {e : TypeId} (st : St) : Own e st T.zero [.int .i64 0, .int .i64 0, .string ⟨#[]⟩, .slice none 0 0] [] := .nil _ _ _
theorem enc_zero (st : St) : Enc st T.zero [.int .i64 0, .int .i64 0, .string ⟨#[]⟩, .slice none 0 0] := .nil _ _ _ _ (.inl rfl)
theorem Lim.zero {B : Nat} : Lim B T.zero := .mk _ _ _ _ (by simp) (by simp)
theorem Lim.arg {B : Nat} (t x : T) (h : Lim B t) (hx : x ∈ t.args) : Lim B x := by cases t; exact h.args.2 x hx
theorem Lim.atD {B : Nat} {t : T} (p : List Int) (h : Lim B t) : Lim B (T.atD p t) := by
  unfold T.atD
  cases hx : T.at p t with
  | none => exact .zero
  | some x => exact T.at_sub Lim.arg p t x h hx

theorem T.wt_arg {t x : T} (h : x ∈ t.args) : x.wt ≤ t.wt := by
  obtain ⟨k, n, nm, args⟩ := t
  have h1 := T.wt_mem (show x ∈ args from h)
  simp only [T.wt]
  omega
theorem T.wt_atD (p : List Int) (t : T) : (T.atD p t).wt ≤ t.wt := by
  unfold T.atD
  cases hx : T.at p t with
  | none => simp [T.zero, T.wt, T.wtL, ByteArray.size]
  | some x => exact T.at_sub (P := fun y => y.wt ≤ t.wt) (fun y z hy hz => Nat.le_trans (T.wt_arg hz) hy) p t x (Nat.le_refl _) hx

theorem specTermAt_ok (p : List Int) (t : T) (st : St) (cs : List Value) (s1 : Value) (hbig : p.length ≤ 4611686018427387904) (hl : Lim 1073741824 t) (hE : Enc st t cs) (hp : Rw st p s1) :
    CallS Tryd.prog 8 [.agg cs.toArray, s1] st fun r st2 => Ext st st2 ∧ ∃ ds L, r = .tuple #[.agg ds.toArray, .bool (T.at p t).isSome] ∧ OwnT st2 (T.atD p t) ds L ∧ Fresh st.length L := by
  refine CallS_of_W [] 34 Tryd.func8 rfl rfl rfl rfl (by simp) ?_
  have hlen : lenE Tryd.prog 33 s1 = some (.int .i64 p.length) := row_len hp Tryd.underlying33
  have n1 := hp.notLoc.1
  obtain ⟨k0, n0, nm0, args0⟩ := t
  obtain ⟨s0, rfl, hr0⟩ := hE.open
  repeat (first | (refine W_reg rfl fun G K hG hK => ?_; simp (disch := omega) only [go_sem, ↓reduceIte, Nat.reduceEqDiff, Nat.reduceAdd, Nat.reduceLeDiff, hG, hlen]; refine hK _ _ ?_; clear hK K hG G) | (refine W_end rfl fun G K hG hK => ?_; simp (disch := omega) only [go_sem, ↓reduceIte, Nat.reduceEqDiff, Nat.reduceAdd, Nat.reduceLeDiff, hG, hlen]; refine hK _ _ ?_; clear hK K hG G; repeat (first | refine thenI ?_ | refine thenE ?_ | refine thenR ?_ | refine inBI ?_ | refine inBR ?_ | refine inBS ?_ | refine inBN (by decide) ?_)) | refine W_seqS ?_ | refine W_seqC ?_ | refine W_seqB ?_ | refine W_block ?_ | (refine W_skip ?_; repeat (first | refine thenI ?_ | refine thenE ?_ | refine thenR ?_ | refine inBI ?_ | refine inBR ?_ | refine inBS ?_ | refine inBN (by decide) ?_)) | (refine W_condT ?hc ?_; (case hc => (simp (disch := omega) only [go_sem, ↓reduceIte, Nat.reduceEqDiff, Nat.reduceAdd, Nat.reduceLeDiff, hlen]; done))) | (refine W_condF ?hc ?_; (case hc => (simp (disch := omega) only [go_sem, ↓reduceIte, Nat.reduceEqDiff, Nat.reduceAdd, Nat.reduceLeDiff, hlen]; done))))
  refine W_loop (fun d fr st' => ∃ (j : Nat) (k n : Int) (nm : ByteArray) (args : List T) (s : Value), d = p.length - j ∧ j ≤ p.length ∧ (st' = st) ∧ (RowT st args s) ∧ (Lim 1073741824 (.mk k n nm args)) ∧ (T.at (p.drop j) (.mk k n nm args) = T.at p (.mk k0 n0 nm0 args0)) ∧ (fr.env 2 = .pointer (some ⟨2, 0, some 1⟩)) ∧ (fr.env 4 = .pointer (some ⟨4, 0, some 1⟩)) ∧ (fr.env 1 = s1) ∧ (fr.env 6 = .int .i64 j) ∧ (fr.loc 2 = (1, [.int .i64 k, .int .i64 n, .string nm, s])) ∧ ((fr.loc 4).1 = 1 ∧ (fr.loc 4).2.length = 4)) (p.length) ?_ ?_
  · exact ⟨0, k0, n0, nm0, args0, s0, by omega, by omega, rfl, hr0, hl, by rw [List.drop_zero], (by (simp (disch := omega) only [go_sem, ↓reduceIte, Nat.reduceEqDiff, Nat.reduceAdd, Nat.reduceLeDiff, hlen]); try rfl), (by (simp (disch := omega) only [go_sem, ↓reduceIte, Nat.reduceEqDiff, Nat.reduceAdd, Nat.reduceLeDiff, hlen]); try rfl), (by (simp (disch := omega) only [go_sem, ↓reduceIte, Nat.reduceEqDiff, Nat.reduceAdd, Nat.reduceLeDiff, hlen]); try rfl), (by (simp (disch := omega) only [go_sem, ↓reduceIte, Nat.reduceEqDiff, Nat.reduceAdd, Nat.reduceLeDiff, hlen]); try rfl), (by (simp (disch := omega) only [go_sem, ↓reduceIte, Nat.reduceEqDiff, Nat.reduceAdd, Nat.reduceLeDiff, hlen]); try rfl), ⟨(by (simp (disch := omega) only [go_sem, ↓reduceIte, Nat.reduceEqDiff, Nat.reduceAdd, Nat.reduceLeDiff, hlen]); try rfl), (by (simp (disch := omega) only [go_sem, ↓reduceIte, Nat.reduceEqDiff, Nat.reduceAdd, Nat.reduceLeDiff, hlen]); try rfl)⟩⟩
  rintro d ⟨env, loc⟩ st' ⟨j, k, n, nm, args, s, hd, hj, hst, hr, hla, hat, e2, e4, e1, e6, l2, ⟨l4, l4'⟩⟩
  simp only at e2 e4 e1 e6 l2 l4 l4'
  subst hst
  by_cases hlt : j < p.length
  · have c1 : decide ((j : Int) < (p.length : Int)) = true := by simpa using hlt
    have hi := idxOk hlt
    have hx : p[j]? = some p[j] := List.getElem?_eq_getElem hlt
    have htk : p.take (j + 1) = p.take j ++ [p[j]] := List.take_succ_eq_append_getElem hlt
    obtain ⟨i, o, c, rfl, hce⟩ := row_atI hp hx
    have hl2 : lenE Tryd.prog 24 s = some (.int .i64 args.length) := row_len hr Tryd.underlying24
    have hab := hla.args.1
    rw [List.drop_eq_getElem_cons hlt] at hat
    repeat (first | (refine W_reg rfl fun G K hG hK => ?_; simp (disch := omega) only [go_sem, ↓reduceIte, Nat.reduceEqDiff, Nat.reduceAdd, Nat.reduceLeDiff, hG, hlen, e2, e4, e1, e6, l2, l4, l4', c1, hi, idxA, Int.toNat_natCast]; refine hK _ _ ?_; clear hK K hG G) | (refine W_end rfl fun G K hG hK => ?_; simp (disch := omega) only [go_sem, ↓reduceIte, Nat.reduceEqDiff, Nat.reduceAdd, Nat.reduceLeDiff, hG, hlen, e2, e4, e1, e6, l2, l4, l4', c1, hi, idxA, Int.toNat_natCast]; refine hK _ _ ?_; clear hK K hG G; repeat (first | refine thenI ?_ | refine thenE ?_ | refine thenR ?_ | refine inBI ?_ | refine inBR ?_ | refine inBS ?_ | refine inBN (by decide) ?_)) | refine W_seqS ?_ | refine W_seqC ?_ | refine W_seqB ?_ | refine W_block ?_ | (refine W_skip ?_; repeat (first | refine thenI ?_ | refine thenE ?_ | refine thenR ?_ | refine inBI ?_ | refine inBR ?_ | refine inBS ?_ | refine inBN (by decide) ?_)) | (refine W_condT ?hc ?_; (case hc => (simp (disch := omega) only [go_sem, ↓reduceIte, Nat.reduceEqDiff, Nat.reduceAdd, Nat.reduceLeDiff, hlen, e2, e4, e1, e6, l2, l4, l4', c1, hi, idxA, Int.toNat_natCast]; done))) | (refine W_condF ?hc ?_; (case hc => (simp (disch := omega) only [go_sem, ↓reduceIte, Nat.reduceEqDiff, Nat.reduceAdd, Nat.reduceLeDiff, hlen, e2, e4, e1, e6, l2, l4, l4', c1, hi, idxA, Int.toNat_natCast]; done))))
    (repeat (first | refine W_seqS ?_ | refine W_seqC ?_ | refine W_seqB ?_ | refine W_block ?_)); refine W_regD mixed [] [(0,false),(1,false),(2,false),(3,false),(4,false),(5,false),(6,false),(7,false),(8,true),(9,false)] rfl (by decide +kernel) fun G K hG hK => ?_; simp only [pickOps, List.filterMap_cons, List.filterMap_nil, List.getElem?_cons_zero, List.getElem?_cons_succ, Option.map_some]; simp (disch := omega) only [go_sem, ↓reduceIte, Nat.reduceEqDiff, Nat.reduceAdd, Nat.reduceLeDiff, hG, hlen, e2, e4, e1, e6, l2, l4, l4', c1, hi, idxA, Int.toNat_natCast, hce, hl2]
    refine w_call (l1In_ok p[j] 0 ((args.length : Int) - 1) st') (by simp (disch := omega) only [go_sem, ↓reduceIte, Nat.reduceEqDiff, hlen, e2, e4, e1, e6, l2, l4, l4', c1, hi, idxA, Int.toNat_natCast]) ?hl ?_
    case hl => first | rfl | (simp only [go_sem, List.all_cons, List.all_nil, Bool.not_false, Bool.and_self, hlen, e2, e4, e1, e6, l2, l4, l4', c1, hi, idxA, Int.toNat_natCast]; done)
    rintro r_ st' ⟨rfl, rfl⟩; refine ⟨fun e => Ext.refl _, ?_⟩
    by_cases h1 : p[j] < 0
    · have c2 : decide (p[j] ≥ 0) = false := by simpa using h1
      simp (disch := omega) only [go_sem, ↓reduceIte, Nat.reduceEqDiff, Nat.reduceAdd, Nat.reduceLeDiff, hG, hlen, e2, e4, e1, e6, l2, l4, l4', c1, hi, idxA, Int.toNat_natCast, c2, Bool.false_and]; refine hK _ _ ?_; clear hK K hG G; repeat (first | refine thenI ?_ | refine thenE ?_ | refine thenR ?_ | refine inBI ?_ | refine inBR ?_ | refine inBS ?_ | refine inBN (by decide) ?_)
      repeat (first | (refine W_reg rfl fun G K hG hK => ?_; simp (disch := omega) only [go_sem, ↓reduceIte, Nat.reduceEqDiff, Nat.reduceAdd, Nat.reduceLeDiff, hG, hlen, e2, e4, e1, e6, l2, l4, l4', c1, hi, idxA, Int.toNat_natCast]; refine hK _ _ ?_; clear hK K hG G) | (refine W_end rfl fun G K hG hK => ?_; simp (disch := omega) only [go_sem, ↓reduceIte, Nat.reduceEqDiff, Nat.reduceAdd, Nat.reduceLeDiff, hG, hlen, e2, e4, e1, e6, l2, l4, l4', c1, hi, idxA, Int.toNat_natCast]; refine hK _ _ ?_; clear hK K hG G; repeat (first | refine thenI ?_ | refine thenE ?_ | refine thenR ?_ | refine inBI ?_ | refine inBR ?_ | refine inBS ?_ | refine inBN (by decide) ?_)) | refine W_seqS ?_ | refine W_seqC ?_ | refine W_seqB ?_ | refine W_block ?_ | (refine W_skip ?_; repeat (first | refine thenI ?_ | refine thenE ?_ | refine thenR ?_ | refine inBI ?_ | refine inBR ?_ | refine inBS ?_ | refine inBN (by decide) ?_)) | (refine W_condT ?hc ?_; (case hc => (simp (disch := omega) only [go_sem, ↓reduceIte, Nat.reduceEqDiff, Nat.reduceAdd, Nat.reduceLeDiff, hlen, e2, e4, e1, e6, l2, l4, l4', c1, hi, idxA, Int.toNat_natCast]; done))) | (refine W_condF ?hc ?_; (case hc => (simp (disch := omega) only [go_sem, ↓reduceIte, Nat.reduceEqDiff, Nat.reduceAdd, Nat.reduceLeDiff, hlen, e2, e4, e1, e6, l2, l4, l4', c1, hi, idxA, Int.toNat_natCast]; done))))
      rw [T.at_out (.inl h1)] at hat
      refine W_ret ?_; try (repeat (first | refine thenI ?_ | refine thenE ?_ | refine thenR ?_ | refine inBI ?_ | refine inBR ?_ | refine inBS ?_ | refine inBN (by decide) ?_))
      refine finC2 (.inl rfl) (by (simp (disch := omega) only [go_sem, ↓reduceIte, Nat.reduceEqDiff, Nat.reduceAdd, Nat.reduceLeDiff, hlen, e2, e4, e1, e6, l2, l4, l4', c1, hi, idxA, Int.toNat_natCast]); try rfl) (by (simp (disch := omega) only [go_sem, ↓reduceIte, Nat.reduceEqDiff, Nat.reduceAdd, Nat.reduceLeDiff, hlen, e2, e4, e1, e6, l2, l4, l4', c1, hi, idxA, Int.toNat_natCast]); try rfl) rfl ⟨Ext.refl _, [_, _, _, _], [], (by rw [← hat]; rfl), by unfold T.atD; rw [← hat]; exact own_zero _, .nil _⟩
    have c2 : decide (p[j] ≥ 0) = true := by simpa using h1
    by_cases h2 : p[j] ≥ (args.length : Int)
    · have c3 : decide (p[j] ≤ (args.length : Int) - 1) = false := by simp; omega
      simp (disch := omega) only [go_sem, ↓reduceIte, Nat.reduceEqDiff, Nat.reduceAdd, Nat.reduceLeDiff, hG, hlen, e2, e4, e1, e6, l2, l4, l4', c1, hi, idxA, Int.toNat_natCast, c2, c3, Bool.and_false]; refine hK _ _ ?_; clear hK K hG G; repeat (first | refine thenI ?_ | refine thenE ?_ | refine thenR ?_ | refine inBI ?_ | refine inBR ?_ | refine inBS ?_ | refine inBN (by decide) ?_)
      repeat (first | (refine W_reg rfl fun G K hG hK => ?_; simp (disch := omega) only [go_sem, ↓reduceIte, Nat.reduceEqDiff, Nat.reduceAdd, Nat.reduceLeDiff, hG, hlen, e2, e4, e1, e6, l2, l4, l4', c1, hi, idxA, Int.toNat_natCast]; refine hK _ _ ?_; clear hK K hG G) | (refine W_end rfl fun G K hG hK => ?_; simp (disch := omega) only [go_sem, ↓reduceIte, Nat.reduceEqDiff, Nat.reduceAdd, Nat.reduceLeDiff, hG, hlen, e2, e4, e1, e6, l2, l4, l4', c1, hi, idxA, Int.toNat_natCast]; refine hK _ _ ?_; clear hK K hG G; repeat (first | refine thenI ?_ | refine thenE ?_ | refine thenR ?_ | refine inBI ?_ | refine inBR ?_ | refine inBS ?_ | refine inBN (by decide) ?_)) | refine W_seqS ?_ | refine W_seqC ?_ | refine W_seqB ?_ | refine W_block ?_ | (refine W_skip ?_; repeat (first | refine thenI ?_ | refine thenE ?_ | refine thenR ?_ | refine inBI ?_ | refine inBR ?_ | refine inBS ?_ | refine inBN (by decide) ?_)) | (refine W_condT ?hc ?_; (case hc => (simp (disch := omega) only [go_sem, ↓reduceIte, Nat.reduceEqDiff, Nat.reduceAdd, Nat.reduceLeDiff, hlen, e2, e4, e1, e6, l2, l4, l4', c1, hi, idxA, Int.toNat_natCast]; done))) | (refine W_condF ?hc ?_; (case hc => (simp (disch := omega) only [go_sem, ↓reduceIte, Nat.reduceEqDiff, Nat.reduceAdd, Nat.reduceLeDiff, hlen, e2, e4, e1, e6, l2, l4, l4', c1, hi, idxA, Int.toNat_natCast]; done))))
      rw [T.at_out (.inr h2)] at hat
      refine W_ret ?_; try (repeat (first | refine thenI ?_ | refine thenE ?_ | refine thenR ?_ | refine inBI ?_ | refine inBR ?_ | refine inBS ?_ | refine inBN (by decide) ?_))
      refine finC2 (.inl rfl) (by (simp (disch := omega) only [go_sem, ↓reduceIte, Nat.reduceEqDiff, Nat.reduceAdd, Nat.reduceLeDiff, hlen, e2, e4, e1, e6, l2, l4, l4', c1, hi, idxA, Int.toNat_natCast]); try rfl) (by (simp (disch := omega) only [go_sem, ↓reduceIte, Nat.reduceEqDiff, Nat.reduceAdd, Nat.reduceLeDiff, hlen, e2, e4, e1, e6, l2, l4, l4', c1, hi, idxA, Int.toNat_natCast]); try rfl) rfl ⟨Ext.refl _, [_, _, _, _], [], (by rw [← hat]; rfl), by unfold T.atD; rw [← hat]; exact own_zero _, .nil _⟩
    have c3 : decide (p[j] ≤ (args.length : Int) - 1) = true := by simp; omega
    have hy : args[p[j].toNat]? = some args[p[j].toNat] := List.getElem?_eq_getElem (by omega)
    have hlx := hla.args.2 _ (List.mem_of_getElem? hy)
    obtain ⟨i', o', c', cs', rfl, hcl, hE', hcs⟩ := row_at hr hy
    rw [T.at_in (t := .mk k n nm args) (by omega) (by show _ < (args.length : Int); omega) hy] at hat
    obtain ⟨k', n', nm', args', hxe⟩ := T.eta args[p[j].toNat]
    rw [hxe] at hat hE' hlx
    obtain ⟨s', rfl, hr'⟩ := hE'.open
    have hi2 : (0 ≤ p[j] ∧ p[j] < (args.length : Int)) = True := by simp; omega
    have hld := fun loc => load_row (A := []) (loc := loc) ag26 sz26 hcl hcs
    simp (disch := omega) only [go_sem, ↓reduceIte, Nat.reduceEqDiff, Nat.reduceAdd, Nat.reduceLeDiff, hG, hlen, e2, e4, e1, e6, l2, l4, l4', c1, hi, idxA, Int.toNat_natCast, c2, c3]; refine hK _ _ ?_; clear hK K hG G; repeat (first | refine thenI ?_ | refine thenE ?_ | refine thenR ?_ | refine inBI ?_ | refine inBR ?_ | refine inBS ?_ | refine inBN (by decide) ?_)
    repeat (first | (refine W_reg rfl fun G K hG hK => ?_; simp (disch := omega) only [go_sem, ↓reduceIte, Nat.reduceEqDiff, Nat.reduceAdd, Nat.reduceLeDiff, hG, hlen, e2, e4, e1, e6, l2, l4, l4', c1, hi, idxA, Int.toNat_natCast]; refine hK _ _ ?_; clear hK K hG G) | (refine W_end rfl fun G K hG hK => ?_; simp (disch := omega) only [go_sem, ↓reduceIte, Nat.reduceEqDiff, Nat.reduceAdd, Nat.reduceLeDiff, hG, hlen, e2, e4, e1, e6, l2, l4, l4', c1, hi, idxA, Int.toNat_natCast]; refine hK _ _ ?_; clear hK K hG G; repeat (first | refine thenI ?_ | refine thenE ?_ | refine thenR ?_ | refine inBI ?_ | refine inBR ?_ | refine inBS ?_ | refine inBN (by decide) ?_)) | refine W_seqS ?_ | refine W_seqC ?_ | refine W_seqB ?_ | refine W_block ?_ | (refine W_skip ?_; repeat (first | refine thenI ?_ | refine thenE ?_ | refine thenR ?_ | refine inBI ?_ | refine inBR ?_ | refine inBS ?_ | refine inBN (by decide) ?_)) | (refine W_condT ?hc ?_; (case hc => (simp (disch := omega) only [go_sem, ↓reduceIte, Nat.reduceEqDiff, Nat.reduceAdd, Nat.reduceLeDiff, hlen, e2, e4, e1, e6, l2, l4, l4', c1, hi, idxA, Int.toNat_natCast]; done))) | (refine W_condF ?hc ?_; (case hc => (simp (disch := omega) only [go_sem, ↓reduceIte, Nat.reduceEqDiff, Nat.reduceAdd, Nat.reduceLeDiff, hlen, e2, e4, e1, e6, l2, l4, l4', c1, hi, idxA, Int.toNat_natCast]; done))))
    refine W_endD mixed [] [(0,false),(1,false),(2,false),(3,false),(4,false),(5,false),(6,false),(7,false),(8,false)] rfl (by decide +kernel) fun G K hG hK => ?_; simp only [pickOps, List.filterMap_cons, List.filterMap_nil, List.getElem?_cons_zero, List.getElem?_cons_succ, Option.map_some]; simp (disch := omega) only [go_sem, ↓reduceIte, Nat.reduceEqDiff, Nat.reduceAdd, Nat.reduceLeDiff, hG, hlen, e2, e4, e1, e6, l2, l4, l4', c1, hi, idxA, Int.toNat_natCast, hce, hl2, hi2, hld]
    refine hK _ _ ?_; clear hK K hG G; repeat (first | refine thenI ?_ | refine thenE ?_ | refine thenR ?_ | refine inBI ?_ | refine inBR ?_ | refine inBS ?_ | refine inBN (by decide) ?_)
    repeat (first | (refine W_reg rfl fun G K hG hK => ?_; simp (disch := omega) only [go_sem, ↓reduceIte, Nat.reduceEqDiff, Nat.reduceAdd, Nat.reduceLeDiff, hG, hlen, e2, e4, e1, e6, l2, l4, l4', c1, hi, idxA, Int.toNat_natCast]; refine hK _ _ ?_; clear hK K hG G) | (refine W_end rfl fun G K hG hK => ?_; simp (disch := omega) only [go_sem, ↓reduceIte, Nat.reduceEqDiff, Nat.reduceAdd, Nat.reduceLeDiff, hG, hlen, e2, e4, e1, e6, l2, l4, l4', c1, hi, idxA, Int.toNat_natCast]; refine hK _ _ ?_; clear hK K hG G; repeat (first | refine thenI ?_ | refine thenE ?_ | refine thenR ?_ | refine inBI ?_ | refine inBR ?_ | refine inBS ?_ | refine inBN (by decide) ?_)) | refine W_seqS ?_ | refine W_seqC ?_ | refine W_seqB ?_ | refine W_block ?_ | (refine W_skip ?_; repeat (first | refine thenI ?_ | refine thenE ?_ | refine thenR ?_ | refine inBI ?_ | refine inBR ?_ | refine inBS ?_ | refine inBN (by decide) ?_)) | (refine W_condT ?hc ?_; (case hc => (simp (disch := omega) only [go_sem, ↓reduceIte, Nat.reduceEqDiff, Nat.reduceAdd, Nat.reduceLeDiff, hlen, e2, e4, e1, e6, l2, l4, l4', c1, hi, idxA, Int.toNat_natCast]; done))) | (refine W_condF ?hc ?_; (case hc => (simp (disch := omega) only [go_sem, ↓reduceIte, Nat.reduceEqDiff, Nat.reduceAdd, Nat.reduceLeDiff, hlen, e2, e4, e1, e6, l2, l4, l4', c1, hi, idxA, Int.toNat_natCast]; done))))
    refine ⟨p.length - (j + 1), by omega, j + 1, k', n', nm', args', s', rfl, by omega, rfl, hr', hlx, hat, (by (simp (disch := omega) only [go_sem, ↓reduceIte, Nat.reduceEqDiff, Nat.reduceAdd, Nat.reduceLeDiff, hlen, e2, e4, e1, e6, l2, l4, l4', c1, hi, idxA, Int.toNat_natCast]); try rfl), (by (simp (disch := omega) only [go_sem, ↓reduceIte, Nat.reduceEqDiff, Nat.reduceAdd, Nat.reduceLeDiff, hlen, e2, e4, e1, e6, l2, l4, l4', c1, hi, idxA, Int.toNat_natCast]); try rfl), (by (simp (disch := omega) only [go_sem, ↓reduceIte, Nat.reduceEqDiff, Nat.reduceAdd, Nat.reduceLeDiff, hlen, e2, e4, e1, e6, l2, l4, l4', c1, hi, idxA, Int.toNat_natCast]); try rfl), (by (simp (disch := omega) only [go_sem, ↓reduceIte, Nat.reduceEqDiff, Nat.reduceAdd, Nat.reduceLeDiff, hlen, e2, e4, e1, e6, l2, l4, l4', c1, hi, idxA, Int.toNat_natCast]); try rfl), (by (simp (disch := omega) only [go_sem, ↓reduceIte, Nat.reduceEqDiff, Nat.reduceAdd, Nat.reduceLeDiff, hlen, e2, e4, e1, e6, l2, l4, l4', c1, hi, idxA, Int.toNat_natCast]); try rfl), ⟨(by (simp (disch := omega) only [go_sem, ↓reduceIte, Nat.reduceEqDiff, Nat.reduceAdd, Nat.reduceLeDiff, hlen, e2, e4, e1, e6, l2, l4, l4', c1, hi, idxA, Int.toNat_natCast]); try rfl), (by (simp (disch := omega) only [go_sem, ↓reduceIte, Nat.reduceEqDiff, Nat.reduceAdd, Nat.reduceLeDiff, hlen, e2, e4, e1, e6, l2, l4, l4', c1, hi, idxA, Int.toNat_natCast]); try rfl)⟩⟩
  · have c1 : decide ((j : Int) < (p.length : Int)) = false := by simpa using hlt
    have hjn : j = p.length := by omega
    subst hjn
    rw [List.drop_length] at hat
    have n2 := hr.notLoc.1
    repeat (first | (refine W_reg rfl fun G K hG hK => ?_; simp (disch := omega) only [go_sem, ↓reduceIte, Nat.reduceEqDiff, Nat.reduceAdd, Nat.reduceLeDiff, hG, hlen, e2, e4, e1, e6, l2, l4, l4', c1]; refine hK _ _ ?_; clear hK K hG G) | (refine W_end rfl fun G K hG hK => ?_; simp (disch := omega) only [go_sem, ↓reduceIte, Nat.reduceEqDiff, Nat.reduceAdd, Nat.reduceLeDiff, hG, hlen, e2, e4, e1, e6, l2, l4, l4', c1]; refine hK _ _ ?_; clear hK K hG G; repeat (first | refine thenI ?_ | refine thenE ?_ | refine thenR ?_ | refine inBI ?_ | refine inBR ?_ | refine inBS ?_ | refine inBN (by decide) ?_)) | refine W_seqS ?_ | refine W_seqC ?_ | refine W_seqB ?_ | refine W_block ?_ | (refine W_skip ?_; repeat (first | refine thenI ?_ | refine thenE ?_ | refine thenR ?_ | refine inBI ?_ | refine inBR ?_ | refine inBS ?_ | refine inBN (by decide) ?_)) | (refine W_condT ?hc ?_; (case hc => (simp (disch := omega) only [go_sem, ↓reduceIte, Nat.reduceEqDiff, Nat.reduceAdd, Nat.reduceLeDiff, hlen, e2, e4, e1, e6, l2, l4, l4', c1]; done))) | (refine W_condF ?hc ?_; (case hc => (simp (disch := omega) only [go_sem, ↓reduceIte, Nat.reduceEqDiff, Nat.reduceAdd, Nat.reduceLeDiff, hlen, e2, e4, e1, e6, l2, l4, l4', c1]; done))))
    refine W_exit ?_; repeat (first | refine thenI ?_ | refine thenE ?_ | refine thenR ?_ | refine inBI ?_ | refine inBR ?_ | refine inBS ?_ | refine inBN (by decide) ?_)
    (repeat (first | refine W_seqS ?_ | refine W_seqC ?_ | refine W_seqB ?_ | refine W_block ?_)); refine W_reg rfl fun G K hG hK => ?_; simp (disch := omega) only [go_sem, ↓reduceIte, Nat.reduceEqDiff, Nat.reduceAdd, Nat.reduceLeDiff, hG, hlen, e2, e4, e1, e6, l2, l4, l4', c1]
    refine w_call (l3Copy_ok _ _ _ hla (Enc.close k n nm hr)) (by simp (disch := omega) only [go_sem, ↓reduceIte, Nat.reduceEqDiff, hlen, e2, e4, e1, e6, l2, l4, l4', c1, n2]) ?hl ?_
    case hl => first | rfl | (simp only [go_sem, List.all_cons, List.all_nil, Bool.not_false, Bool.and_self, hlen, e2, e4, e1, e6, l2, l4, l4', c1, n2]; done)
    rintro r_ s_ ⟨hx, ds, L, rfl, ho, hf⟩; refine ⟨fun e => (by cases e), ?_⟩
    obtain ⟨s3, rfl, hr3⟩ := ho.open
    simp (disch := omega) only [go_sem, ↓reduceIte, Nat.reduceEqDiff, Nat.reduceAdd, Nat.reduceLeDiff, hG, hlen, e2, e4, e1, e6, l2, l4, l4', c1]; refine hK _ _ ?_; clear hK K hG G; repeat (first | refine thenI ?_ | refine thenE ?_ | refine thenR ?_ | refine inBI ?_ | refine inBR ?_ | refine inBS ?_ | refine inBN (by decide) ?_)
    repeat (first | (refine W_reg rfl fun G K hG hK => ?_; simp (disch := omega) only [go_sem, ↓reduceIte, Nat.reduceEqDiff, Nat.reduceAdd, Nat.reduceLeDiff, hG, hlen, e2, e4, e1, e6, l2, l4, l4', c1]; refine hK _ _ ?_; clear hK K hG G) | (refine W_end rfl fun G K hG hK => ?_; simp (disch := omega) only [go_sem, ↓reduceIte, Nat.reduceEqDiff, Nat.reduceAdd, Nat.reduceLeDiff, hG, hlen, e2, e4, e1, e6, l2, l4, l4', c1]; refine hK _ _ ?_; clear hK K hG G; repeat (first | refine thenI ?_ | refine thenE ?_ | refine thenR ?_ | refine inBI ?_ | refine inBR ?_ | refine inBS ?_ | refine inBN (by decide) ?_)) | refine W_seqS ?_ | refine W_seqC ?_ | refine W_seqB ?_ | refine W_block ?_ | (refine W_skip ?_; repeat (first | refine thenI ?_ | refine thenE ?_ | refine thenR ?_ | refine inBI ?_ | refine inBR ?_ | refine inBS ?_ | refine inBN (by decide) ?_)) | (refine W_condT ?hc ?_; (case hc => (simp (disch := omega) only [go_sem, ↓reduceIte, Nat.reduceEqDiff, Nat.reduceAdd, Nat.reduceLeDiff, hlen, e2, e4, e1, e6, l2, l4, l4', c1]; done))) | (refine W_condF ?hc ?_; (case hc => (simp (disch := omega) only [go_sem, ↓reduceIte, Nat.reduceEqDiff, Nat.reduceAdd, Nat.reduceLeDiff, hlen, e2, e4, e1, e6, l2, l4, l4', c1]; done))))
    refine W_ret ?_; try (repeat (first | refine thenI ?_ | refine thenE ?_ | refine thenR ?_ | refine inBI ?_ | refine inBR ?_ | refine inBS ?_ | refine inBN (by decide) ?_))
    refine finC2 (.inl rfl) (by (simp (disch := omega) only [go_sem, ↓reduceIte, Nat.reduceEqDiff, Nat.reduceAdd, Nat.reduceLeDiff, hlen, e2, e4, e1, e6, l2, l4, l4', c1]); try rfl) (by (simp (disch := omega) only [go_sem, ↓reduceIte, Nat.reduceEqDiff, Nat.reduceAdd, Nat.reduceLeDiff, hlen, e2, e4, e1, e6, l2, l4, l4', c1]); try rfl) rfl ⟨hx, [.int .i64 k, .int .i64 n, .string nm, s3], L, ?_, ?_, hf⟩
    · rw [← hat]; rfl
    · unfold T.atD
      rw [← hat]
      exact ho
end Go.Proofs.YtkohkdlbjbbegaaDoor.AM


/- slices.Clone. -/
namespace Go.Proofs.YtkohkdlbjbbegaaDoor.AM
open Go Go.Proofs
set_option linter.unusedVariables false
set_option linter.unusedSimpArgs false
set_option maxRecDepth 100000
attribute [local go_sem] List.map_cons List.map_nil List.all_cons List.all_nil Bool.and_self Option.map_some List.getElem?_toArray Option.bind_some gye_b gye_t gsk_b gsk_t gb1 gb2 gb3 gb4 bne_self_eq_false beq_self_eq_true w_guard w_nil stepV_some step_some step_some' w_move w_assign w_pick w_binOp w_unOp w_load w_fieldAddr w_indexAddr w_len w_max w_index ev_max max_int ev_index w_box w_alloc w_store w_field w_extract w_nilCheck w_convert w_buildSlice w_build ev_buildL fillL_nil fillL_cons bs0 bs1 ev_conv ev_bin ev_un ev_pick ev_load ev_fieldAddr ev_indexAddr ev_len ev_field ev_extract ev_nilCheck fr_tmp fr_int fr_bool fr_str fr_nil fr_func put_some put_none bin_lss bin_leq bin_gtr bin_geq bin_eql bin_neq bin_add bin_sub bin_mul bin_seql bin_sneq un_not pick_ ext_ loadA_p cellAt_l cellAt_h okPtr_l okPtr_h fadA_p allocA_l storeA_l cells_agg cells_int cells_str cells_sl cells_bool flat_i flat_s flat_b flat_sl flat_nil loc_agg loc_int loc_str loc_sl loc_bool loc_fn loc_ptr okv_agg okv_int okv_str okv_sl okv_bool cellsFrom splice upd_eval argEnv_zero argEnv_succ ne_eq Nat.add_one_ne_zero not_false_eq_true List.not_mem_nil and_self decide_true List.getElem?_cons_zero List.getElem?_cons_succ List.size_toArray List.length_cons List.length_nil List.take_succ_cons List.take_zero List.drop_succ_cons List.drop_zero List.cons_append List.nil_append List.drop_nil Bool.not_true Bool.not_false Bool.false_eq_true Nat.zero_add Nat.add_zero wrap_in List.toList_toArray List.mem_cons or_self or_false false_or
attribute [local go_sem] ag22 ag24 ag26 ag3 ag33 ag5 ag62 ag76 ag9 bu26 bu56 by26 by3 by33 by5 by9 el22 el24 el28 el33 el44 of26_0 of26_1 of26_2 of26_3 of56_0 of56_1 of56_2 of64_0 of64_1 ro26_0 ro26_1 ro26_2 ro3_0 ro3_1 ro3_3 ro33_0 ro33_1 ro5_0 ro5_1 ro9_0 ro9_1 ro9_2 ro9_3 ro9_4 sz22 sz24 sz26 sz3 sz33 sz5 sz62 sz76 sz9 ze26 ze3 ze33 ze5 ze64 ze75 ze88 ze9
-- AUTO

theorem cloneI_ok (xs : List Int) (st : St) (s : Value) (hbig : xs.length ≤ 1099511627776) (hr : Rw st xs s) :
    CallS Tryd.prog 32 [s] st fun r st2 => Ext st st2 ∧ ∃ L, Sl st2 xs r L ∧ Fresh st.length L := by
  refine CallS_of_W [] 8 Tryd.func32 rfl rfl rfl rfl (by simp) ?_
  obtain ⟨b, hb, hb2⟩ := row_nil hr Tryd.underlying33
  have n1 := hr.notLoc.1
  cases b with
  | true =>
    obtain ⟨rfl, rfl⟩ := hb2 rfl
    repeat (first | (refine W_reg rfl fun G K hG hK => ?_; simp (disch := omega) only [go_sem, ↓reduceIte, Nat.reduceEqDiff, Nat.reduceAdd, Nat.reduceLeDiff, hG, hb]; refine hK _ _ ?_; clear hK K hG G) | (refine W_end rfl fun G K hG hK => ?_; simp (disch := omega) only [go_sem, ↓reduceIte, Nat.reduceEqDiff, Nat.reduceAdd, Nat.reduceLeDiff, hG, hb]; refine hK _ _ ?_; clear hK K hG G; repeat (first | refine thenI ?_ | refine thenE ?_ | refine thenR ?_ | refine inBI ?_ | refine inBR ?_ | refine inBS ?_ | refine inBN (by decide) ?_)) | refine W_seqS ?_ | refine W_seqC ?_ | refine W_seqB ?_ | refine W_block ?_ | (refine W_skip ?_; repeat (first | refine thenI ?_ | refine thenE ?_ | refine thenR ?_ | refine inBI ?_ | refine inBR ?_ | refine inBS ?_ | refine inBN (by decide) ?_)) | (refine W_condT ?hc ?_; (case hc => (simp (disch := omega) only [go_sem, ↓reduceIte, Nat.reduceEqDiff, Nat.reduceAdd, Nat.reduceLeDiff, hb]; done))) | (refine W_condF ?hc ?_; (case hc => (simp (disch := omega) only [go_sem, ↓reduceIte, Nat.reduceEqDiff, Nat.reduceAdd, Nat.reduceLeDiff, hb]; done))))
    refine W_ret ?_; try (repeat (first | refine thenI ?_ | refine thenE ?_ | refine thenR ?_ | refine inBI ?_ | refine inBR ?_ | refine inBS ?_ | refine inBN (by decide) ?_))
    refine fin1 (.inl rfl) (by (simp (disch := omega) only [go_sem, ↓reduceIte, Nat.reduceEqDiff, Nat.reduceAdd, Nat.reduceLeDiff]); try rfl) rfl ⟨Ext.refl _, [], Sl.nil _, .nil _⟩
  | false =>
    obtain ⟨s', st', L', hap, hs', hf', hx', _⟩ := Sl.freshRow (t := 33) (u := 33) Tryd.underlying33 Tryd.underlying33 sz3 rfl by3 ze3 rfl hr (by omega) (by omega)
    have hap : appendA Tryd.prog 33 33 (.slice (some ⟨st.length, 0, none⟩) 0 0) s (st ++ [⟨[], 3, 0⟩]) = some (s', st') := hap
    repeat (first | (refine W_reg rfl fun G K hG hK => ?_; simp (disch := omega) only [go_sem, ↓reduceIte, Nat.reduceEqDiff, Nat.reduceAdd, Nat.reduceLeDiff, hG, hb]; refine hK _ _ ?_; clear hK K hG G) | (refine W_end rfl fun G K hG hK => ?_; simp (disch := omega) only [go_sem, ↓reduceIte, Nat.reduceEqDiff, Nat.reduceAdd, Nat.reduceLeDiff, hG, hb]; refine hK _ _ ?_; clear hK K hG G; repeat (first | refine thenI ?_ | refine thenE ?_ | refine thenR ?_ | refine inBI ?_ | refine inBR ?_ | refine inBS ?_ | refine inBN (by decide) ?_)) | refine W_seqS ?_ | refine W_seqC ?_ | refine W_seqB ?_ | refine W_block ?_ | (refine W_skip ?_; repeat (first | refine thenI ?_ | refine thenE ?_ | refine thenR ?_ | refine inBI ?_ | refine inBR ?_ | refine inBS ?_ | refine inBN (by decide) ?_)) | (refine W_condT ?hc ?_; (case hc => (simp (disch := omega) only [go_sem, ↓reduceIte, Nat.reduceEqDiff, Nat.reduceAdd, Nat.reduceLeDiff, hb]; done))) | (refine W_condF ?hc ?_; (case hc => (simp (disch := omega) only [go_sem, ↓reduceIte, Nat.reduceEqDiff, Nat.reduceAdd, Nat.reduceLeDiff, hb]; done))))
    repeat (first | (refine W_reg rfl fun G K hG hK => ?_; simp (disch := omega) only [go_sem, ↓reduceIte, Nat.reduceEqDiff, Nat.reduceAdd, Nat.reduceLeDiff, hG, w_append, hap]; refine hK _ _ ?_; clear hK K hG G) | (refine W_end rfl fun G K hG hK => ?_; simp (disch := omega) only [go_sem, ↓reduceIte, Nat.reduceEqDiff, Nat.reduceAdd, Nat.reduceLeDiff, hG, w_append, hap]; refine hK _ _ ?_; clear hK K hG G; repeat (first | refine thenI ?_ | refine thenE ?_ | refine thenR ?_ | refine inBI ?_ | refine inBR ?_ | refine inBS ?_ | refine inBN (by decide) ?_)) | refine W_seqS ?_ | refine W_seqC ?_ | refine W_seqB ?_ | refine W_block ?_ | (refine W_skip ?_; repeat (first | refine thenI ?_ | refine thenE ?_ | refine thenR ?_ | refine inBI ?_ | refine inBR ?_ | refine inBS ?_ | refine inBN (by decide) ?_)) | (refine W_condT ?hc ?_; (case hc => (simp (disch := omega) only [go_sem, ↓reduceIte, Nat.reduceEqDiff, Nat.reduceAdd, Nat.reduceLeDiff, w_append, hap]; done))) | (refine W_condF ?hc ?_; (case hc => (simp (disch := omega) only [go_sem, ↓reduceIte, Nat.reduceEqDiff, Nat.reduceAdd, Nat.reduceLeDiff, w_append, hap]; done))))
    refine W_ret ?_; try (repeat (first | refine thenI ?_ | refine thenE ?_ | refine thenR ?_ | refine inBI ?_ | refine inBR ?_ | refine inBS ?_ | refine inBN (by decide) ?_))
    refine fin1 (.inl rfl) (by (simp (disch := omega) only [go_sem, ↓reduceIte, Nat.reduceEqDiff, Nat.reduceAdd, Nat.reduceLeDiff]); try rfl) hs'.loc ⟨hx', L', hs', hf'⟩

end Go.Proofs.YtkohkdlbjbbegaaDoor.AM


/- A subterm is put: impl.withArg, impl.put, impl.ReplaceAt, spec.l4Put, spec.ReplaceAt. -/
namespace Go.Proofs.YtkohkdlbjbbegaaDoor.AM
open Go Go.Proofs
set_option linter.unusedVariables false
set_option linter.unusedSimpArgs false
set_option maxRecDepth 100000
attribute [local go_sem] List.map_cons List.map_nil List.all_cons List.all_nil Bool.and_self Option.map_some List.getElem?_toArray Option.bind_some gye_b gye_t gsk_b gsk_t gb1 gb2 gb3 gb4 bne_self_eq_false beq_self_eq_true w_guard w_nil stepV_some step_some step_some' w_move w_assign w_pick w_binOp w_unOp w_load w_fieldAddr w_indexAddr w_len w_max w_index ev_max max_int ev_index w_box w_alloc w_store w_field w_extract w_nilCheck w_convert w_buildSlice w_build ev_buildL fillL_nil fillL_cons bs0 bs1 ev_conv ev_bin ev_un ev_pick ev_load ev_fieldAddr ev_indexAddr ev_len ev_field ev_extract ev_nilCheck fr_tmp fr_int fr_bool fr_str fr_nil fr_func put_some put_none bin_lss bin_leq bin_gtr bin_geq bin_eql bin_neq bin_add bin_sub bin_mul bin_seql bin_sneq un_not pick_ ext_ loadA_p cellAt_l cellAt_h okPtr_l okPtr_h fadA_p allocA_l storeA_l cells_agg cells_int cells_str cells_sl cells_bool flat_i flat_s flat_b flat_sl flat_nil loc_agg loc_int loc_str loc_sl loc_bool loc_fn loc_ptr okv_agg okv_int okv_str okv_sl okv_bool cellsFrom splice upd_eval argEnv_zero argEnv_succ ne_eq Nat.add_one_ne_zero not_false_eq_true List.not_mem_nil and_self decide_true List.getElem?_cons_zero List.getElem?_cons_succ List.size_toArray List.length_cons List.length_nil List.take_succ_cons List.take_zero List.drop_succ_cons List.drop_zero List.cons_append List.nil_append List.drop_nil Bool.not_true Bool.not_false Bool.false_eq_true Nat.zero_add Nat.add_zero wrap_in List.toList_toArray List.mem_cons or_self or_false false_or
attribute [local go_sem] ag22 ag24 ag26 ag3 ag33 ag5 ag62 ag76 ag9 bu26 bu56 by26 by3 by33 by5 by9 el22 el24 el28 el33 el44 of26_0 of26_1 of26_2 of26_3 of56_0 of56_1 of56_2 of64_0 of64_1 ro26_0 ro26_1 ro26_2 ro3_0 ro3_1 ro3_3 ro33_0 ro33_1 ro5_0 ro5_1 ro9_0 ro9_1 ro9_2 ro9_3 ro9_4 sz22 sz24 sz26 sz3 sz33 sz5 sz62 sz76 sz9 ze26 ze3 ze33 ze5 ze64 ze75 ze88 ze9
-- AUTO

/-- A row of terms that are read, in a block of its own. -/
abbrev ShT (s0 st : St) (xs : List T) (s : Value) (L : List Nat) : Prop := SliceO (Shr (Enc s0)) 26 st xs s L
theorem ShT.row {s0 st : St} {xs : List T} {s : Value} {L : List Nat} (h : ShT s0 st xs s L) (hx : Ext s0 st) : RowT st xs s :=
  SliceO.row (fun x cx Lx he => Kind.enc_len (α := T) s0 x cx he.1) (fun x _ cx Lx he => Enc.ext hx x cx he.1) h

def T.setArg : T → Nat → T → T
  | .mk k n nm args, i, u => .mk k n nm (args.set i u)
def T.put (u : T) : List Int → T → T
  | [], _ => u
  | i :: p, t => t.setArg i.toNat (T.put u p (t.args.getD i.toNat T.zero))
theorem T.at_cons {i : Int} {p : List Int} {t : T} (h : (T.at (i :: p) t).isSome = true) : 0 ≤ i ∧ i.toNat < t.args.length ∧ t.args[i.toNat]? = some (t.args.getD i.toNat T.zero) ∧ (T.at p (t.args.getD i.toNat T.zero)).isSome = true := by
  simp only [T.at] at h
  split at h
  · rename_i hc
    have hlt : i.toNat < t.args.length := by omega
    have e : t.args.getD i.toNat T.zero = t.args[i.toNat] := by simp [hlt]
    rw [List.getElem?_eq_getElem hlt] at h
    exact ⟨hc.1, hlt, by rw [e, List.getElem?_eq_getElem hlt], by rw [e]; exact h⟩
  · cases h
theorem Lim.setArg {B : Nat} {t u : T} {i : Nat} (h : Lim B t) (hu : Lim B u) : Lim B (t.setArg i u) := by
  obtain ⟨k, n, nm, args⟩ := t
  refine .mk _ _ _ _ (by simpa using h.args.1) fun a ha => ?_
  rcases List.mem_or_eq_of_mem_set ha with ha | rfl
  · exact h.args.2 a ha
  · exact hu
theorem Lim.put {B : Nat} {u : T} (hu : Lim B u) : ∀ (p : List Int) (t : T), Lim B t → (T.at p t).isSome = true → Lim B (T.put u p t) := by
  intro p
  induction p with
  | nil => intro t _ _; exact hu
  | cons i p ih =>
    intro t ht hat
    obtain ⟨h0, h1, h2, h3⟩ := T.at_cons hat
    exact Lim.setArg ht (ih _ (Lim.arg t _ ht (List.mem_of_getElem? h2)) h3)
theorem T.setArg_wt {t u : T} {i : Nat} {x : T} (h : t.args[i]? = some x) : (t.setArg i u).wt + x.wt = t.wt + u.wt := by
  obtain ⟨k, n, nm, args⟩ := t
  have h : args[i]? = some x := h
  have : ∀ (l : List T) (i : Nat), l[i]? = some x → T.wtL (l.set i u) + x.wt = T.wtL l + u.wt := by
    intro l
    induction l with
    | nil => intro i h; simp at h
    | cons y ys ih =>
      intro i h
      cases i with
      | zero => simp only [List.getElem?_cons_zero, Option.some.injEq] at h; subst h; simp only [List.set_cons_zero, T.wtL]; omega
      | succ i => have := ih i (by simpa using h); simp only [List.set_cons_succ, T.wtL]; omega
  have := this args i h
  simp only [T.setArg, T.wt, List.length_set]
  omega
theorem T.put_wt (u : T) : ∀ (p : List Int) (t : T), (T.at p t).isSome = true → (T.put u p t).wt ≤ t.wt + u.wt := by
  intro p
  induction p with
  | nil => intro t _; simp only [T.put]; omega
  | cons i p ih =>
    intro t hat
    obtain ⟨h0, h1, h2, h3⟩ := T.at_cons hat
    have := T.setArg_wt (u := T.put u p (t.args.getD i.toNat T.zero)) h2
    have := ih _ h3
    simp only [T.put]
    omega

def T.rep (u : T) (p : List Int) (t : T) : T := if (T.at p t).isSome = true then T.put u p t else t
theorem Lim.rep {B : Nat} {u : T} (hu : Lim B u) {p : List Int} {t : T} (ht : Lim B t) : Lim B (T.rep u p t) := by
  unfold T.rep
  split
  · rename_i h; exact Lim.put hu p t ht h
  · exact ht
theorem T.rep_wt (u : T) (p : List Int) (t : T) : (T.rep u p t).wt ≤ t.wt + u.wt := by
  unfold T.rep
  split
  · rename_i h; exact T.put_wt u p t h
  · omega
end Go.Proofs.YtkohkdlbjbbegaaDoor.AM


/- Reduced words stay; a replaced subterm is there. -/
namespace Go.Proofs.YtkohkdlbjbbegaaDoor.AM
open Go Go.Proofs
set_option linter.unusedVariables false
set_option linter.unusedSimpArgs false

theorem redF_stays (k n : Int) (nm : ByteArray) (ys : List T) (h : ys.map T.red = ys) : T.red (redF k n nm ys) = redF k n nm ys := by
  have hmk : T.red (.mk k n nm ys) = redF k n nm ys := by simp only [T.red, T.redL_map, h]
  unfold redF at hmk ⊢
  split
  · rename_i x y
    by_cases hc : (k == 2 && n == 0 && isB nm && x.isW && y.isW) = true
    · simp only [hc, if_true]; rfl
    · simp only [if_neg hc] at hmk ⊢
      exact hmk
  · rename_i h1
    exact hmk.trans (by
      split
      · exact absurd rfl (h1 _ _)
      · rfl)
theorem T.red_idem : ∀ t : T, t.red.red = t.red := by
  refine T.ind fun k n nm args ih => ?_
  have h : (args.map T.red).map T.red = args.map T.red := by
    rw [List.map_map]
    exact List.map_congr_left fun x hx => ih x hx
  have e : T.red (.mk k n nm args) = redF k n nm (args.map T.red) := by simp only [T.red, T.redL_map]
  rw [e]
  exact redF_stays k n nm _ h
theorem T.at_put (u : T) : ∀ (p : List Int) (t : T), (T.at p t).isSome = true → T.at p (T.put u p t) = some u := by
  intro p
  induction p with
  | nil => intro t _; rfl
  | cons i p ih =>
    intro t h
    obtain ⟨h0, h1, h2, h3⟩ := T.at_cons h
    obtain ⟨k, n, nm, args⟩ := t
    have hlt : i.toNat < args.length := h1
    simp only [T.put, T.setArg]
    rw [T.at_in (x := T.put u p (args.getD i.toNat T.zero)) h0 (by simp only [T.args, List.length_set]; omega) (by simp only [T.args]; rw [List.getElem?_set_self hlt])]
    exact ih _ h3
theorem T.put_at : ∀ (p : List Int) (t : T), (T.at p t).isSome = true → T.put (T.atD p t) p t = t := by
  intro p
  induction p with
  | nil => intro t _; rfl
  | cons i p ih =>
    intro t h
    obtain ⟨h0, h1, h2, h3⟩ := T.at_cons h
    obtain ⟨k, n, nm, args⟩ := t
    have hlt : i.toNat < args.length := h1
    have e : T.atD (i :: p) (.mk k n nm args) = T.atD p (args.getD i.toNat T.zero) := by
      unfold T.atD
      rw [T.at_in (x := args.getD i.toNat T.zero) h0 (by simp only [T.args]; omega) h2]
    have e2 := ih _ h3
    simp only [T.put, T.setArg, T.args] at e2 ⊢
    rw [e, e2]
    congr 1
    have : args.getD i.toNat T.zero = args[i.toNat] := by simp [hlt]
    rw [this]
    exact List.set_getElem_self hlt
theorem T.rep_self {p : List Int} {t : T} (h : (T.at p t).isSome = true) : T.rep (T.atD p t) p t = t := by
  unfold T.rep
  rw [if_pos h]
  exact T.put_at p t h
theorem T.atD_rep {p : List Int} {t u : T} (h : (T.at p t).isSome = true) : T.atD p (T.rep u p t) = u := by
  unfold T.rep T.atD
  rw [if_pos h, T.at_put u p t h]
  rfl
theorem T.rep_out {p : List Int} {t u : T} (h : (T.at p t).isSome = false) : T.rep u p t = t := by
  unfold T.rep
  rw [if_neg (by rw [h]; simp)]
end Go.Proofs.YtkohkdlbjbbegaaDoor.AM


/- Rows of rows of numbers: laws.eqIntSS, laws.markIntSS, laws.heldIntSS. -/
namespace Go.Proofs.YtkohkdlbjbbegaaDoor.AM
open Go Go.Proofs
set_option linter.unusedVariables false
set_option linter.unusedSimpArgs false
set_option maxRecDepth 100000
attribute [local go_sem] List.map_cons List.map_nil List.all_cons List.all_nil Bool.and_self Option.map_some List.getElem?_toArray Option.bind_some gye_b gye_t gsk_b gsk_t gb1 gb2 gb3 gb4 bne_self_eq_false beq_self_eq_true w_guard w_nil stepV_some step_some step_some' w_move w_assign w_pick w_binOp w_unOp w_load w_fieldAddr w_indexAddr w_len w_max w_index ev_max max_int ev_index w_box w_alloc w_store w_field w_extract w_nilCheck w_convert w_buildSlice w_build ev_buildL fillL_nil fillL_cons bs0 bs1 ev_conv ev_bin ev_un ev_pick ev_load ev_fieldAddr ev_indexAddr ev_len ev_field ev_extract ev_nilCheck fr_tmp fr_int fr_bool fr_str fr_nil fr_func put_some put_none bin_lss bin_leq bin_gtr bin_geq bin_eql bin_neq bin_add bin_sub bin_mul bin_seql bin_sneq un_not pick_ ext_ loadA_p cellAt_l cellAt_h okPtr_l okPtr_h fadA_p allocA_l storeA_l cells_agg cells_int cells_str cells_sl cells_bool flat_i flat_s flat_b flat_sl flat_nil loc_agg loc_int loc_str loc_sl loc_bool loc_fn loc_ptr okv_agg okv_int okv_str okv_sl okv_bool cellsFrom splice upd_eval argEnv_zero argEnv_succ ne_eq Nat.add_one_ne_zero not_false_eq_true List.not_mem_nil and_self decide_true List.getElem?_cons_zero List.getElem?_cons_succ List.size_toArray List.length_cons List.length_nil List.take_succ_cons List.take_zero List.drop_succ_cons List.drop_zero List.cons_append List.nil_append List.drop_nil Bool.not_true Bool.not_false Bool.false_eq_true Nat.zero_add Nat.add_zero wrap_in List.toList_toArray List.mem_cons or_self or_false false_or
attribute [local go_sem] ag22 ag24 ag26 ag3 ag33 ag5 ag62 ag76 ag9 bu26 bu56 by26 by3 by33 by5 by9 el22 el24 el28 el33 el44 of26_0 of26_1 of26_2 of26_3 of56_0 of56_1 of56_2 of64_0 of64_1 ro26_0 ro26_1 ro26_2 ro3_0 ro3_1 ro3_3 ro33_0 ro33_1 ro5_0 ro5_1 ro9_0 ro9_1 ro9_2 ro9_3 ro9_4 sz22 sz24 sz26 sz3 sz33 sz5 sz62 sz76 sz9 ze26 ze3 ze33 ze5 ze64 ze75 ze88 ze9
-- AUTO

instance : Kind (List Int) where
  sz := 1
  e := 33
  enc := fun st xs cs => ∃ s, cs = [s] ∧ Rw st xs s
  own := fun st xs cs L => ∃ s, cs = [s] ∧ Sl st xs s L
  enc_len := fun _ _ _ h => by obtain ⟨s, rfl, _⟩ := h; rfl
  enc_ext := fun _ _ _ _ hx h => by obtain ⟨s, rfl, h⟩ := h; exact ⟨s, rfl, h.ext hx⟩
  own_len := fun _ _ _ _ h => by obtain ⟨s, rfl, _⟩ := h; rfl
  own_lt := fun _ _ _ _ h => by obtain ⟨s, rfl, h⟩ := h; exact h.lt
  own_frame := fun _ _ _ _ _ hs h => by obtain ⟨s, rfl, h⟩ := h; exact ⟨s, rfl, h.frame hs⟩
  own_enc := fun _ _ _ _ h => by obtain ⟨s, rfl, h⟩ := h; exact ⟨s, rfl, h.row⟩
instance : Marks (List Int) where
  mk1 := fun xs k => mkL xs k
  mk1_ge := fun xs k => mkL_ge xs k

theorem row_atII {st : St} {xs : List (List Int)} {s : Value} (h : Rw st xs s) {j : Nat} {x : List Int} (hx : xs[j]? = some x) {n : Nat} (hn : xs.length = n := by rfl) : ∃ i o c sx, s = .slice (some ⟨i, o, none⟩) n c ∧ cell st i (o + j * 1) = some sx ∧ Rw st x sx := by
  subst hn
  obtain ⟨i, o, c, cs, rfl, _, ⟨sx, rfl, hr⟩, hc⟩ := row_at h hx
  exact ⟨i, o, c, sx, rfl, hc 0 _ rfl, hr⟩

end Go.Proofs.YtkohkdlbjbbegaaDoor.AM

