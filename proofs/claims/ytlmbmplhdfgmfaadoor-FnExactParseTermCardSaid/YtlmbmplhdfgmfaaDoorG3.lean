/- My texts for the law, laid together (part 3): F17 K2 N2 C17 F18 D5 E1 L0 C21 Q2 Q3 A19 C4 Q5 Q6 PL1 O1 O2. -/
import Derived.Test.YtlmbmplhdfgmfaaDoorG2
import Derived.Test.YtlmbmplhdfgmfaaDoorA3
import Derived.ChangeOld
import Derived.ChangeArms
import Derived.DataReads
import Derived.Test.YtlmbmplhdfgmfaaDoorA18
import Derived.Sort.Walk0
import Derived.Lib.Strings
/- A text that is read: impl.source, its sign and take. -/
namespace Go.Proofs.YtlmbmplhdfgmfaaDoor.AM
open Go Go.Proofs Go.Lib
set_option linter.unusedVariables false
set_option linter.unusedSimpArgs false
set_option maxRecDepth 100000
attribute [local go_sem] List.map_cons List.map_nil List.all_cons List.all_nil Bool.and_self Option.map_some List.getElem?_toArray Option.bind_some gye_b gye_t gsk_b gsk_t gb1 gb2 gb3 gb4 bne_self_eq_false beq_self_eq_true w_guard w_nil stepV_some step_some step_some' w_move w_assign w_pick w_binOp w_unOp w_load w_fieldAddr w_indexAddr w_len w_max w_index ev_max max_int ev_index w_box w_alloc w_store w_field w_extract w_nilCheck w_convert w_buildSlice w_build ev_buildL fillL_nil fillL_cons bs0 bs1 ev_conv ev_bin ev_un ev_pick ev_load ev_fieldAddr ev_indexAddr ev_len ev_field ev_extract ev_nilCheck fr_tmp fr_int fr_bool fr_str fr_nil fr_func put_some put_none bin_lss bin_leq bin_gtr bin_geq bin_eql bin_neq bin_add bin_sub bin_mul bin_seql bin_sneq un_not pick_ ext_ loadA_p cellAt_l cellAt_h okPtr_l okPtr_h fadA_p allocA_l storeA_l cells_agg cells_int cells_str cells_sl cells_bool flat_i flat_s flat_b flat_sl flat_nil loc_agg loc_int loc_str loc_sl loc_bool loc_fn loc_ptr okv_agg okv_int okv_str okv_sl okv_bool cellsFrom splice upd_eval argEnv_zero argEnv_succ ne_eq Nat.add_one_ne_zero not_false_eq_true List.not_mem_nil and_self decide_true List.getElem?_cons_zero List.getElem?_cons_succ List.size_toArray List.length_cons List.length_nil List.take_succ_cons List.take_zero List.drop_succ_cons List.drop_zero List.cons_append List.nil_append List.drop_nil Bool.not_true Bool.not_false Bool.false_eq_true Nat.zero_add Nat.add_zero wrap_in List.toList_toArray List.mem_cons or_self or_false false_or
attribute [local go_sem] ag22 ag24 ag3 ag4 ag5 ag58 ag70 ag9 bu24 bu32 bu37 bu76 bu87 by24 by5 el22 el54 of24_0 of24_1 of24_2 of24_3 of32_0 of32_1 of32_2 of37_0 ro24_1 ro5_1 sz22 sz24 sz3 sz4 sz5 sz58 sz70 sz9 ze24 ze5 ze78 ze92
-- AUTO

/-- What is left of the text. -/
def Src (st : St) (q : Nat) (w : ByteArray) : Prop := st[q]? = some ⟨[.string w], 37, 0⟩
theorem src_cell {st : St} {q : Nat} {w : ByteArray} (h : Src st q w) : cell st q 0 = some (.string w) := by simp [cell, show st[q]? = _ from h]
theorem src_set {st : St} {q : Nat} {w : ByteArray} (h : Src st q w) (loc : Nat → Nat × List Value) (v : ByteArray) : storeA Tryd.prog 9 (.pointer (some ⟨q, 0, none⟩)) (.string v) loc st = some (loc, st.set q ⟨[.string v], 37, 0⟩) := by
  unfold storeA
  simp [okv, sz9, show st[q]? = _ from h, vc, Value.cells, AM.splice]
theorem baL_size (l : List UInt8) : (baL l).size = l.length := size_mk l
theorem extract_h (w : ByteArray) (j : Nat) : w.extract 0 j = baL (w.data.toList.take j) := by
  apply ByteArray.ext
  apply Array.ext'
  rw [ext_toList]
  simp [baL]
theorem extract_l (w : ByteArray) (j : Nat) : w.extract j w.size = baL (w.data.toList.drop j) := by
  apply ByteArray.ext
  apply Array.ext'
  rw [ext_toList, List.take_of_length_le (by rw [List.length_drop, ← size_list]; omega)]
  simp [baL]
theorem tw_at {p : UInt8 → Bool} {l : List UInt8} {j : Nat} (h1 : ∀ x ∈ l.take j, p x = true) (h2 : ∀ x, l[j]? = some x → p x = false) : l.takeWhile p = l.take j ∧ l.dropWhile p = l.drop j := by
  have e : l = l.take j ++ l.drop j := (List.take_append_drop j l).symm
  have h3 := tw_app (p := p) (s := l.take j) (r := l.drop j) h1 (fun b hb => h2 b (by rw [← List.head?_drop]; exact hb))
  rw [← e] at h3
  exact h3
theorem sign_ok (q : Nat) (w : ByteArray) (st : St) (hb : w.size ≤ 1073741824) (hs : Src st q w) :
    CallS Tryd.prog 22 [.pointer (some ⟨q, 0, none⟩)] st fun r st2 => r = .string (baL (w.data.toList.takeWhile alnum)) ∧ Src st2 q (baL (w.data.toList.dropWhile alnum)) ∧ Away (some q) st st2 ∧ st2.length = st.length := by
  refine CallS_of_W [] 84 Tryd.func22 rfl rfl rfl rfl (by simp) ?_
  have hlen := (len_str Tryd.underlying9 : lenE Tryd.prog 9 (.string w) = some (.int .i64 w.size))
  have hix := fun (k : IntKind) (i : Int) (h0 : 0 ≤ i) (h1 : i < w.size) => idxS (s := w) (k := k) Tryd.underlying9 h0 h1
  have hsc := src_cell hs
  repeat (first | (refine W_reg rfl fun G K hG hK => ?_; simp (disch := omega) only [go_sem, ↓reduceIte, Nat.reduceEqDiff, Nat.reduceAdd, Nat.reduceLeDiff, hG, hlen, hix, w_index, ev_index, nc_h, okPtr_h, cellAt_h, hsc]; refine hK _ _ ?_; clear hK K hG G) | (refine W_end rfl fun G K hG hK => ?_; simp (disch := omega) only [go_sem, ↓reduceIte, Nat.reduceEqDiff, Nat.reduceAdd, Nat.reduceLeDiff, hG, hlen, hix, w_index, ev_index, nc_h, okPtr_h, cellAt_h, hsc]; refine hK _ _ ?_; clear hK K hG G; repeat (first | refine thenI ?_ | refine thenE ?_ | refine thenR ?_ | refine inBI ?_ | refine inBR ?_ | refine inBS ?_ | refine inBN (by decide) ?_)) | refine W_seqS ?_ | refine W_seqC ?_ | refine W_seqB ?_ | refine W_block ?_ | (refine W_skip ?_; repeat (first | refine thenI ?_ | refine thenE ?_ | refine thenR ?_ | refine inBI ?_ | refine inBR ?_ | refine inBS ?_ | refine inBN (by decide) ?_)) | (refine W_condT ?hc ?_; (case hc => (simp (disch := omega) only [go_sem, ↓reduceIte, Nat.reduceEqDiff, Nat.reduceAdd, Nat.reduceLeDiff, hlen, hix, w_index, ev_index, nc_h, okPtr_h, cellAt_h, hsc]; done))) | (refine W_condF ?hc ?_; (case hc => (simp (disch := omega) only [go_sem, ↓reduceIte, Nat.reduceEqDiff, Nat.reduceAdd, Nat.reduceLeDiff, hlen, hix, w_index, ev_index, nc_h, okPtr_h, cellAt_h, hsc]; done))))
  refine W_loop (fun d fr st' => ∃ (j : Nat) , d = w.size - j ∧ j ≤ w.size ∧ (st = st') ∧ ((∀ x ∈ w.data.toList.take j, alnum x = true)) ∧ (fr.env 0 = .pointer (some ⟨q, 0, none⟩)) ∧ (fr.env 3 = .int .i64 j)) (w.size) ?_ ?_
  · exact ⟨0, by omega, by omega, rfl, by simp, (by (simp (disch := omega) only [go_sem, ↓reduceIte, Nat.reduceEqDiff, Nat.reduceAdd, Nat.reduceLeDiff, hlen, hix, w_index, ev_index, nc_h, okPtr_h, cellAt_h, hsc]); try rfl), (by (simp (disch := omega) only [go_sem, ↓reduceIte, Nat.reduceEqDiff, Nat.reduceAdd, Nat.reduceLeDiff, hlen, hix, w_index, ev_index, nc_h, okPtr_h, cellAt_h, hsc]); try rfl)⟩
  rintro d ⟨env, loc⟩ st' ⟨j, hd, hj, hst, hal, e0, e3⟩
  simp only at e0 e3
  subst hst
  by_cases hlt : j < w.size
  · have c0 : decide ((j : Int) < (w.size : Int)) = true := decide_eq_true (by omega)
    obtain ⟨x, r, hx, hxb, hr1⟩ := drop_byte (s := w) (i := j) hlt
    have hxb' : byteAt w (j : Int).toNat = (x.toNat : Int) := hxb
    have hxj : w.data.toList[j]? = some x := by rw [← List.head?_drop, hx]; rfl
    have htk : w.data.toList.take (j + 1) = w.data.toList.take j ++ [x] := by
      have h5 : j < w.data.toList.length := by rw [← size_list]; exact hlt
      rw [List.take_succ_eq_append_getElem h5]
      congr 1
      rw [List.getElem?_eq_getElem h5] at hxj
      rw [Option.some.inj hxj]
    have hnx : alnum x = true → ∀ y ∈ w.data.toList.take (j + 1), alnum y = true := fun h y hy => by
      rw [htk] at hy
      rcases List.mem_append.1 hy with hy | hy
      · exact hal y hy
      · cases List.mem_singleton.1 hy; exact h
    by_cases p1 : (x.toNat : Int) ≥ 97
    · have dp1 : decide ((x.toNat : Int) ≥ 97) = true := decide_eq_true (by omega)
      by_cases p2 : (x.toNat : Int) ≤ 122
      · have dp2 : decide ((x.toNat : Int) ≤ 122) = true := decide_eq_true (by omega)
        have ha : alnum x = true := by unfold alnum; simp; omega
        repeat (first | (refine W_reg rfl fun G K hG hK => ?_; simp (disch := omega) only [go_sem, ↓reduceIte, Nat.reduceEqDiff, Nat.reduceAdd, Nat.reduceLeDiff, hG, hlen, hix, w_index, ev_index, nc_h, okPtr_h, cellAt_h, hsc, e0, e3, c0, hxb', dp1, dp2]; refine hK _ _ ?_; clear hK K hG G) | (refine W_end rfl fun G K hG hK => ?_; simp (disch := omega) only [go_sem, ↓reduceIte, Nat.reduceEqDiff, Nat.reduceAdd, Nat.reduceLeDiff, hG, hlen, hix, w_index, ev_index, nc_h, okPtr_h, cellAt_h, hsc, e0, e3, c0, hxb', dp1, dp2]; refine hK _ _ ?_; clear hK K hG G; repeat (first | refine thenI ?_ | refine thenE ?_ | refine thenR ?_ | refine inBI ?_ | refine inBR ?_ | refine inBS ?_ | refine inBN (by decide) ?_)) | refine W_seqS ?_ | refine W_seqC ?_ | refine W_seqB ?_ | refine W_block ?_ | (refine W_skip ?_; repeat (first | refine thenI ?_ | refine thenE ?_ | refine thenR ?_ | refine inBI ?_ | refine inBR ?_ | refine inBS ?_ | refine inBN (by decide) ?_)) | (refine W_condT ?hc ?_; (case hc => (simp (disch := omega) only [go_sem, ↓reduceIte, Nat.reduceEqDiff, Nat.reduceAdd, Nat.reduceLeDiff, hlen, hix, w_index, ev_index, nc_h, okPtr_h, cellAt_h, hsc, e0, e3, c0, hxb', dp1, dp2]; done))) | (refine W_condF ?hc ?_; (case hc => (simp (disch := omega) only [go_sem, ↓reduceIte, Nat.reduceEqDiff, Nat.reduceAdd, Nat.reduceLeDiff, hlen, hix, w_index, ev_index, nc_h, okPtr_h, cellAt_h, hsc, e0, e3, c0, hxb', dp1, dp2]; done))))
        refine ⟨w.size - (j + 1), by omega, j + 1, rfl, by omega, rfl, hnx ha, (by (simp (disch := omega) only [go_sem, ↓reduceIte, Nat.reduceEqDiff, Nat.reduceAdd, Nat.reduceLeDiff, hlen, hix, w_index, ev_index, nc_h, okPtr_h, cellAt_h, hsc, e0, e3, c0, hxb']); try rfl), (by (simp (disch := omega) only [go_sem, ↓reduceIte, Nat.reduceEqDiff, Nat.reduceAdd, Nat.reduceLeDiff, hlen, hix, w_index, ev_index, nc_h, okPtr_h, cellAt_h, hsc, e0, e3, c0, hxb']); try rfl)⟩
      · have dp2 : decide ((x.toNat : Int) ≤ 122) = false := decide_eq_false (by omega)
        have dp3 : decide ((x.toNat : Int) ≥ 65) = true := decide_eq_true (by omega)
        have dp4 : decide ((x.toNat : Int) ≤ 90) = false := decide_eq_false (by omega)
        have dp5 : decide ((x.toNat : Int) ≥ 48) = true := decide_eq_true (by omega)
        have dp6 : decide ((x.toNat : Int) ≤ 57) = false := decide_eq_false (by omega)
        have ha : alnum x = false := by unfold alnum; simp; omega
        have ht := tw_at (p := alnum) (j := j) hal (fun y hy => by rw [hxj] at hy; cases hy; exact ha)
        rw [ht.1, ht.2, ← extract_h, ← extract_l]
        have hsl1 : flatRun Tryd.prog (Instr.sliceAt 9 (.string w) none (some (.int .i64 (j : Int))) none) = some (.string (w.extract 0 j)) := by simpa using sliceS_h (P := Tryd.prog) (t := 9) (s := w) (k := .i64) (h := (j : Int)) Tryd.underlying9 (by omega) (by omega)
        have hsl2 : flatRun Tryd.prog (Instr.sliceAt 9 (.string w) (some (.int .i64 (j : Int))) none none) = some (.string (w.extract j w.size)) := by simpa using sliceS_l (P := Tryd.prog) (t := 9) (s := w) (k := .i64) (l := (j : Int)) Tryd.underlying9 (by omega) (by omega)
        have hset := src_set hs
        repeat (first | (refine W_reg rfl fun G K hG hK => ?_; simp (disch := omega) only [go_sem, ↓reduceIte, Nat.reduceEqDiff, Nat.reduceAdd, Nat.reduceLeDiff, hG, hlen, hix, w_index, ev_index, nc_h, okPtr_h, cellAt_h, hsc, e0, e3, c0, hxb', dp1, dp2, dp3, dp4, dp5, dp6]; refine hK _ _ ?_; clear hK K hG G) | (refine W_end rfl fun G K hG hK => ?_; simp (disch := omega) only [go_sem, ↓reduceIte, Nat.reduceEqDiff, Nat.reduceAdd, Nat.reduceLeDiff, hG, hlen, hix, w_index, ev_index, nc_h, okPtr_h, cellAt_h, hsc, e0, e3, c0, hxb', dp1, dp2, dp3, dp4, dp5, dp6]; refine hK _ _ ?_; clear hK K hG G; repeat (first | refine thenI ?_ | refine thenE ?_ | refine thenR ?_ | refine inBI ?_ | refine inBR ?_ | refine inBS ?_ | refine inBN (by decide) ?_)) | refine W_seqS ?_ | refine W_seqC ?_ | refine W_seqB ?_ | refine W_block ?_ | (refine W_skip ?_; repeat (first | refine thenI ?_ | refine thenE ?_ | refine thenR ?_ | refine inBI ?_ | refine inBR ?_ | refine inBS ?_ | refine inBN (by decide) ?_)) | (refine W_condT ?hc ?_; (case hc => (simp (disch := omega) only [go_sem, ↓reduceIte, Nat.reduceEqDiff, Nat.reduceAdd, Nat.reduceLeDiff, hlen, hix, w_index, ev_index, nc_h, okPtr_h, cellAt_h, hsc, e0, e3, c0, hxb', dp1, dp2, dp3, dp4, dp5, dp6]; done))) | (refine W_condF ?hc ?_; (case hc => (simp (disch := omega) only [go_sem, ↓reduceIte, Nat.reduceEqDiff, Nat.reduceAdd, Nat.reduceLeDiff, hlen, hix, w_index, ev_index, nc_h, okPtr_h, cellAt_h, hsc, e0, e3, c0, hxb', dp1, dp2, dp3, dp4, dp5, dp6]; done))))
        refine W_exit ?_; repeat (first | refine thenI ?_ | refine thenE ?_ | refine thenR ?_ | refine inBI ?_ | refine inBR ?_ | refine inBS ?_ | refine inBN (by decide) ?_)
        repeat (first | (refine W_reg rfl fun G K hG hK => ?_; simp (disch := omega) only [go_sem, ↓reduceIte, Nat.reduceEqDiff, Nat.reduceAdd, Nat.reduceLeDiff, hG, hlen, hix, w_index, ev_index, nc_h, okPtr_h, cellAt_h, hsc, e0, e3, c0, hxb', w_slice, ev_slice, hsl1, hsl2, hset, flat_s, flat_i, Option.all_some, Option.map_some, Option.all_none, Option.map_none]; refine hK _ _ ?_; clear hK K hG G) | (refine W_end rfl fun G K hG hK => ?_; simp (disch := omega) only [go_sem, ↓reduceIte, Nat.reduceEqDiff, Nat.reduceAdd, Nat.reduceLeDiff, hG, hlen, hix, w_index, ev_index, nc_h, okPtr_h, cellAt_h, hsc, e0, e3, c0, hxb', w_slice, ev_slice, hsl1, hsl2, hset, flat_s, flat_i, Option.all_some, Option.map_some, Option.all_none, Option.map_none]; refine hK _ _ ?_; clear hK K hG G; repeat (first | refine thenI ?_ | refine thenE ?_ | refine thenR ?_ | refine inBI ?_ | refine inBR ?_ | refine inBS ?_ | refine inBN (by decide) ?_)) | refine W_seqS ?_ | refine W_seqC ?_ | refine W_seqB ?_ | refine W_block ?_ | (refine W_skip ?_; repeat (first | refine thenI ?_ | refine thenE ?_ | refine thenR ?_ | refine inBI ?_ | refine inBR ?_ | refine inBS ?_ | refine inBN (by decide) ?_)) | (refine W_condT ?hc ?_; (case hc => (simp (disch := omega) only [go_sem, ↓reduceIte, Nat.reduceEqDiff, Nat.reduceAdd, Nat.reduceLeDiff, hlen, hix, w_index, ev_index, nc_h, okPtr_h, cellAt_h, hsc, e0, e3, c0, hxb', w_slice, ev_slice, hsl1, hsl2, hset, flat_s, flat_i, Option.all_some, Option.map_some, Option.all_none, Option.map_none]; done))) | (refine W_condF ?hc ?_; (case hc => (simp (disch := omega) only [go_sem, ↓reduceIte, Nat.reduceEqDiff, Nat.reduceAdd, Nat.reduceLeDiff, hlen, hix, w_index, ev_index, nc_h, okPtr_h, cellAt_h, hsc, e0, e3, c0, hxb', w_slice, ev_slice, hsl1, hsl2, hset, flat_s, flat_i, Option.all_some, Option.map_some, Option.all_none, Option.map_none]; done))))
        refine W_ret ?_; try (repeat (first | refine thenI ?_ | refine thenE ?_ | refine thenR ?_ | refine inBI ?_ | refine inBR ?_ | refine inBS ?_ | refine inBN (by decide) ?_))
        refine fin1 (.inl rfl) (by (simp (disch := omega) only [go_sem, ↓reduceIte, Nat.reduceEqDiff, Nat.reduceAdd, Nat.reduceLeDiff, hlen, hix, w_index, ev_index, nc_h, okPtr_h, cellAt_h, hsc, e0, e3, c0, hxb']); try rfl) rfl ⟨rfl, set_at hs, set_away, by simp⟩
    · have dp1 : decide ((x.toNat : Int) ≥ 97) = false := decide_eq_false (by omega)
      by_cases p3 : (x.toNat : Int) ≥ 65
      · have dp3 : decide ((x.toNat : Int) ≥ 65) = true := decide_eq_true (by omega)
        by_cases p4 : (x.toNat : Int) ≤ 90
        · have dp4 : decide ((x.toNat : Int) ≤ 90) = true := decide_eq_true (by omega)
          have ha : alnum x = true := by unfold alnum; simp; omega
          repeat (first | (refine W_reg rfl fun G K hG hK => ?_; simp (disch := omega) only [go_sem, ↓reduceIte, Nat.reduceEqDiff, Nat.reduceAdd, Nat.reduceLeDiff, hG, hlen, hix, w_index, ev_index, nc_h, okPtr_h, cellAt_h, hsc, e0, e3, c0, hxb', dp1, dp3, dp4]; refine hK _ _ ?_; clear hK K hG G) | (refine W_end rfl fun G K hG hK => ?_; simp (disch := omega) only [go_sem, ↓reduceIte, Nat.reduceEqDiff, Nat.reduceAdd, Nat.reduceLeDiff, hG, hlen, hix, w_index, ev_index, nc_h, okPtr_h, cellAt_h, hsc, e0, e3, c0, hxb', dp1, dp3, dp4]; refine hK _ _ ?_; clear hK K hG G; repeat (first | refine thenI ?_ | refine thenE ?_ | refine thenR ?_ | refine inBI ?_ | refine inBR ?_ | refine inBS ?_ | refine inBN (by decide) ?_)) | refine W_seqS ?_ | refine W_seqC ?_ | refine W_seqB ?_ | refine W_block ?_ | (refine W_skip ?_; repeat (first | refine thenI ?_ | refine thenE ?_ | refine thenR ?_ | refine inBI ?_ | refine inBR ?_ | refine inBS ?_ | refine inBN (by decide) ?_)) | (refine W_condT ?hc ?_; (case hc => (simp (disch := omega) only [go_sem, ↓reduceIte, Nat.reduceEqDiff, Nat.reduceAdd, Nat.reduceLeDiff, hlen, hix, w_index, ev_index, nc_h, okPtr_h, cellAt_h, hsc, e0, e3, c0, hxb', dp1, dp3, dp4]; done))) | (refine W_condF ?hc ?_; (case hc => (simp (disch := omega) only [go_sem, ↓reduceIte, Nat.reduceEqDiff, Nat.reduceAdd, Nat.reduceLeDiff, hlen, hix, w_index, ev_index, nc_h, okPtr_h, cellAt_h, hsc, e0, e3, c0, hxb', dp1, dp3, dp4]; done))))
          refine ⟨w.size - (j + 1), by omega, j + 1, rfl, by omega, rfl, hnx ha, (by (simp (disch := omega) only [go_sem, ↓reduceIte, Nat.reduceEqDiff, Nat.reduceAdd, Nat.reduceLeDiff, hlen, hix, w_index, ev_index, nc_h, okPtr_h, cellAt_h, hsc, e0, e3, c0, hxb']); try rfl), (by (simp (disch := omega) only [go_sem, ↓reduceIte, Nat.reduceEqDiff, Nat.reduceAdd, Nat.reduceLeDiff, hlen, hix, w_index, ev_index, nc_h, okPtr_h, cellAt_h, hsc, e0, e3, c0, hxb']); try rfl)⟩
        · have dp4 : decide ((x.toNat : Int) ≤ 90) = false := decide_eq_false (by omega)
          have dp5 : decide ((x.toNat : Int) ≥ 48) = true := decide_eq_true (by omega)
          have dp6 : decide ((x.toNat : Int) ≤ 57) = false := decide_eq_false (by omega)
          have ha : alnum x = false := by unfold alnum; simp; omega
          have ht := tw_at (p := alnum) (j := j) hal (fun y hy => by rw [hxj] at hy; cases hy; exact ha)
          rw [ht.1, ht.2, ← extract_h, ← extract_l]
          have hsl1 : flatRun Tryd.prog (Instr.sliceAt 9 (.string w) none (some (.int .i64 (j : Int))) none) = some (.string (w.extract 0 j)) := by simpa using sliceS_h (P := Tryd.prog) (t := 9) (s := w) (k := .i64) (h := (j : Int)) Tryd.underlying9 (by omega) (by omega)
          have hsl2 : flatRun Tryd.prog (Instr.sliceAt 9 (.string w) (some (.int .i64 (j : Int))) none none) = some (.string (w.extract j w.size)) := by simpa using sliceS_l (P := Tryd.prog) (t := 9) (s := w) (k := .i64) (l := (j : Int)) Tryd.underlying9 (by omega) (by omega)
          have hset := src_set hs
          repeat (first | (refine W_reg rfl fun G K hG hK => ?_; simp (disch := omega) only [go_sem, ↓reduceIte, Nat.reduceEqDiff, Nat.reduceAdd, Nat.reduceLeDiff, hG, hlen, hix, w_index, ev_index, nc_h, okPtr_h, cellAt_h, hsc, e0, e3, c0, hxb', dp1, dp3, dp4, dp5, dp6]; refine hK _ _ ?_; clear hK K hG G) | (refine W_end rfl fun G K hG hK => ?_; simp (disch := omega) only [go_sem, ↓reduceIte, Nat.reduceEqDiff, Nat.reduceAdd, Nat.reduceLeDiff, hG, hlen, hix, w_index, ev_index, nc_h, okPtr_h, cellAt_h, hsc, e0, e3, c0, hxb', dp1, dp3, dp4, dp5, dp6]; refine hK _ _ ?_; clear hK K hG G; repeat (first | refine thenI ?_ | refine thenE ?_ | refine thenR ?_ | refine inBI ?_ | refine inBR ?_ | refine inBS ?_ | refine inBN (by decide) ?_)) | refine W_seqS ?_ | refine W_seqC ?_ | refine W_seqB ?_ | refine W_block ?_ | (refine W_skip ?_; repeat (first | refine thenI ?_ | refine thenE ?_ | refine thenR ?_ | refine inBI ?_ | refine inBR ?_ | refine inBS ?_ | refine inBN (by decide) ?_)) | (refine W_condT ?hc ?_; (case hc => (simp (disch := omega) only [go_sem, ↓reduceIte, Nat.reduceEqDiff, Nat.reduceAdd, Nat.reduceLeDiff, hlen, hix, w_index, ev_index, nc_h, okPtr_h, cellAt_h, hsc, e0, e3, c0, hxb', dp1, dp3, dp4, dp5, dp6]; done))) | (refine W_condF ?hc ?_; (case hc => (simp (disch := omega) only [go_sem, ↓reduceIte, Nat.reduceEqDiff, Nat.reduceAdd, Nat.reduceLeDiff, hlen, hix, w_index, ev_index, nc_h, okPtr_h, cellAt_h, hsc, e0, e3, c0, hxb', dp1, dp3, dp4, dp5, dp6]; done))))
          refine W_exit ?_; repeat (first | refine thenI ?_ | refine thenE ?_ | refine thenR ?_ | refine inBI ?_ | refine inBR ?_ | refine inBS ?_ | refine inBN (by decide) ?_)
          repeat (first | (refine W_reg rfl fun G K hG hK => ?_; simp (disch := omega) only [go_sem, ↓reduceIte, Nat.reduceEqDiff, Nat.reduceAdd, Nat.reduceLeDiff, hG, hlen, hix, w_index, ev_index, nc_h, okPtr_h, cellAt_h, hsc, e0, e3, c0, hxb', w_slice, ev_slice, hsl1, hsl2, hset, flat_s, flat_i, Option.all_some, Option.map_some, Option.all_none, Option.map_none]; refine hK _ _ ?_; clear hK K hG G) | (refine W_end rfl fun G K hG hK => ?_; simp (disch := omega) only [go_sem, ↓reduceIte, Nat.reduceEqDiff, Nat.reduceAdd, Nat.reduceLeDiff, hG, hlen, hix, w_index, ev_index, nc_h, okPtr_h, cellAt_h, hsc, e0, e3, c0, hxb', w_slice, ev_slice, hsl1, hsl2, hset, flat_s, flat_i, Option.all_some, Option.map_some, Option.all_none, Option.map_none]; refine hK _ _ ?_; clear hK K hG G; repeat (first | refine thenI ?_ | refine thenE ?_ | refine thenR ?_ | refine inBI ?_ | refine inBR ?_ | refine inBS ?_ | refine inBN (by decide) ?_)) | refine W_seqS ?_ | refine W_seqC ?_ | refine W_seqB ?_ | refine W_block ?_ | (refine W_skip ?_; repeat (first | refine thenI ?_ | refine thenE ?_ | refine thenR ?_ | refine inBI ?_ | refine inBR ?_ | refine inBS ?_ | refine inBN (by decide) ?_)) | (refine W_condT ?hc ?_; (case hc => (simp (disch := omega) only [go_sem, ↓reduceIte, Nat.reduceEqDiff, Nat.reduceAdd, Nat.reduceLeDiff, hlen, hix, w_index, ev_index, nc_h, okPtr_h, cellAt_h, hsc, e0, e3, c0, hxb', w_slice, ev_slice, hsl1, hsl2, hset, flat_s, flat_i, Option.all_some, Option.map_some, Option.all_none, Option.map_none]; done))) | (refine W_condF ?hc ?_; (case hc => (simp (disch := omega) only [go_sem, ↓reduceIte, Nat.reduceEqDiff, Nat.reduceAdd, Nat.reduceLeDiff, hlen, hix, w_index, ev_index, nc_h, okPtr_h, cellAt_h, hsc, e0, e3, c0, hxb', w_slice, ev_slice, hsl1, hsl2, hset, flat_s, flat_i, Option.all_some, Option.map_some, Option.all_none, Option.map_none]; done))))
          refine W_ret ?_; try (repeat (first | refine thenI ?_ | refine thenE ?_ | refine thenR ?_ | refine inBI ?_ | refine inBR ?_ | refine inBS ?_ | refine inBN (by decide) ?_))
          refine fin1 (.inl rfl) (by (simp (disch := omega) only [go_sem, ↓reduceIte, Nat.reduceEqDiff, Nat.reduceAdd, Nat.reduceLeDiff, hlen, hix, w_index, ev_index, nc_h, okPtr_h, cellAt_h, hsc, e0, e3, c0, hxb']); try rfl) rfl ⟨rfl, set_at hs, set_away, by simp⟩
      · have dp3 : decide ((x.toNat : Int) ≥ 65) = false := decide_eq_false (by omega)
        by_cases p5 : (x.toNat : Int) ≥ 48
        · have dp5 : decide ((x.toNat : Int) ≥ 48) = true := decide_eq_true (by omega)
          by_cases p6 : (x.toNat : Int) ≤ 57
          · have dp6 : decide ((x.toNat : Int) ≤ 57) = true := decide_eq_true (by omega)
            have ha : alnum x = true := by unfold alnum; simp; omega
            repeat (first | (refine W_reg rfl fun G K hG hK => ?_; simp (disch := omega) only [go_sem, ↓reduceIte, Nat.reduceEqDiff, Nat.reduceAdd, Nat.reduceLeDiff, hG, hlen, hix, w_index, ev_index, nc_h, okPtr_h, cellAt_h, hsc, e0, e3, c0, hxb', dp1, dp3, dp5, dp6]; refine hK _ _ ?_; clear hK K hG G) | (refine W_end rfl fun G K hG hK => ?_; simp (disch := omega) only [go_sem, ↓reduceIte, Nat.reduceEqDiff, Nat.reduceAdd, Nat.reduceLeDiff, hG, hlen, hix, w_index, ev_index, nc_h, okPtr_h, cellAt_h, hsc, e0, e3, c0, hxb', dp1, dp3, dp5, dp6]; refine hK _ _ ?_; clear hK K hG G; repeat (first | refine thenI ?_ | refine thenE ?_ | refine thenR ?_ | refine inBI ?_ | refine inBR ?_ | refine inBS ?_ | refine inBN (by decide) ?_)) | refine W_seqS ?_ | refine W_seqC ?_ | refine W_seqB ?_ | refine W_block ?_ | (refine W_skip ?_; repeat (first | refine thenI ?_ | refine thenE ?_ | refine thenR ?_ | refine inBI ?_ | refine inBR ?_ | refine inBS ?_ | refine inBN (by decide) ?_)) | (refine W_condT ?hc ?_; (case hc => (simp (disch := omega) only [go_sem, ↓reduceIte, Nat.reduceEqDiff, Nat.reduceAdd, Nat.reduceLeDiff, hlen, hix, w_index, ev_index, nc_h, okPtr_h, cellAt_h, hsc, e0, e3, c0, hxb', dp1, dp3, dp5, dp6]; done))) | (refine W_condF ?hc ?_; (case hc => (simp (disch := omega) only [go_sem, ↓reduceIte, Nat.reduceEqDiff, Nat.reduceAdd, Nat.reduceLeDiff, hlen, hix, w_index, ev_index, nc_h, okPtr_h, cellAt_h, hsc, e0, e3, c0, hxb', dp1, dp3, dp5, dp6]; done))))
            refine ⟨w.size - (j + 1), by omega, j + 1, rfl, by omega, rfl, hnx ha, (by (simp (disch := omega) only [go_sem, ↓reduceIte, Nat.reduceEqDiff, Nat.reduceAdd, Nat.reduceLeDiff, hlen, hix, w_index, ev_index, nc_h, okPtr_h, cellAt_h, hsc, e0, e3, c0, hxb']); try rfl), (by (simp (disch := omega) only [go_sem, ↓reduceIte, Nat.reduceEqDiff, Nat.reduceAdd, Nat.reduceLeDiff, hlen, hix, w_index, ev_index, nc_h, okPtr_h, cellAt_h, hsc, e0, e3, c0, hxb']); try rfl)⟩
          · have dp6 : decide ((x.toNat : Int) ≤ 57) = false := decide_eq_false (by omega)
            have ha : alnum x = false := by unfold alnum; simp; omega
            have ht := tw_at (p := alnum) (j := j) hal (fun y hy => by rw [hxj] at hy; cases hy; exact ha)
            rw [ht.1, ht.2, ← extract_h, ← extract_l]
            have hsl1 : flatRun Tryd.prog (Instr.sliceAt 9 (.string w) none (some (.int .i64 (j : Int))) none) = some (.string (w.extract 0 j)) := by simpa using sliceS_h (P := Tryd.prog) (t := 9) (s := w) (k := .i64) (h := (j : Int)) Tryd.underlying9 (by omega) (by omega)
            have hsl2 : flatRun Tryd.prog (Instr.sliceAt 9 (.string w) (some (.int .i64 (j : Int))) none none) = some (.string (w.extract j w.size)) := by simpa using sliceS_l (P := Tryd.prog) (t := 9) (s := w) (k := .i64) (l := (j : Int)) Tryd.underlying9 (by omega) (by omega)
            have hset := src_set hs
            repeat (first | (refine W_reg rfl fun G K hG hK => ?_; simp (disch := omega) only [go_sem, ↓reduceIte, Nat.reduceEqDiff, Nat.reduceAdd, Nat.reduceLeDiff, hG, hlen, hix, w_index, ev_index, nc_h, okPtr_h, cellAt_h, hsc, e0, e3, c0, hxb', dp1, dp3, dp5, dp6]; refine hK _ _ ?_; clear hK K hG G) | (refine W_end rfl fun G K hG hK => ?_; simp (disch := omega) only [go_sem, ↓reduceIte, Nat.reduceEqDiff, Nat.reduceAdd, Nat.reduceLeDiff, hG, hlen, hix, w_index, ev_index, nc_h, okPtr_h, cellAt_h, hsc, e0, e3, c0, hxb', dp1, dp3, dp5, dp6]; refine hK _ _ ?_; clear hK K hG G; repeat (first | refine thenI ?_ | refine thenE ?_ | refine thenR ?_ | refine inBI ?_ | refine inBR ?_ | refine inBS ?_ | refine inBN (by decide) ?_)) | refine W_seqS ?_ | refine W_seqC ?_ | refine W_seqB ?_ | refine W_block ?_ | (refine W_skip ?_; repeat (first | refine thenI ?_ | refine thenE ?_ | refine thenR ?_ | refine inBI ?_ | refine inBR ?_ | refine inBS ?_ | refine inBN (by decide) ?_)) | (refine W_condT ?hc ?_; (case hc => (simp (disch := omega) only [go_sem, ↓reduceIte, Nat.reduceEqDiff, Nat.reduceAdd, Nat.reduceLeDiff, hlen, hix, w_index, ev_index, nc_h, okPtr_h, cellAt_h, hsc, e0, e3, c0, hxb', dp1, dp3, dp5, dp6]; done))) | (refine W_condF ?hc ?_; (case hc => (simp (disch := omega) only [go_sem, ↓reduceIte, Nat.reduceEqDiff, Nat.reduceAdd, Nat.reduceLeDiff, hlen, hix, w_index, ev_index, nc_h, okPtr_h, cellAt_h, hsc, e0, e3, c0, hxb', dp1, dp3, dp5, dp6]; done))))
            refine W_exit ?_; repeat (first | refine thenI ?_ | refine thenE ?_ | refine thenR ?_ | refine inBI ?_ | refine inBR ?_ | refine inBS ?_ | refine inBN (by decide) ?_)
            repeat (first | (refine W_reg rfl fun G K hG hK => ?_; simp (disch := omega) only [go_sem, ↓reduceIte, Nat.reduceEqDiff, Nat.reduceAdd, Nat.reduceLeDiff, hG, hlen, hix, w_index, ev_index, nc_h, okPtr_h, cellAt_h, hsc, e0, e3, c0, hxb', w_slice, ev_slice, hsl1, hsl2, hset, flat_s, flat_i, Option.all_some, Option.map_some, Option.all_none, Option.map_none]; refine hK _ _ ?_; clear hK K hG G) | (refine W_end rfl fun G K hG hK => ?_; simp (disch := omega) only [go_sem, ↓reduceIte, Nat.reduceEqDiff, Nat.reduceAdd, Nat.reduceLeDiff, hG, hlen, hix, w_index, ev_index, nc_h, okPtr_h, cellAt_h, hsc, e0, e3, c0, hxb', w_slice, ev_slice, hsl1, hsl2, hset, flat_s, flat_i, Option.all_some, Option.map_some, Option.all_none, Option.map_none]; refine hK _ _ ?_; clear hK K hG G; repeat (first | refine thenI ?_ | refine thenE ?_ | refine thenR ?_ | refine inBI ?_ | refine inBR ?_ | refine inBS ?_ | refine inBN (by decide) ?_)) | refine W_seqS ?_ | refine W_seqC ?_ | refine W_seqB ?_ | refine W_block ?_ | (refine W_skip ?_; repeat (first | refine thenI ?_ | refine thenE ?_ | refine thenR ?_ | refine inBI ?_ | refine inBR ?_ | refine inBS ?_ | refine inBN (by decide) ?_)) | (refine W_condT ?hc ?_; (case hc => (simp (disch := omega) only [go_sem, ↓reduceIte, Nat.reduceEqDiff, Nat.reduceAdd, Nat.reduceLeDiff, hlen, hix, w_index, ev_index, nc_h, okPtr_h, cellAt_h, hsc, e0, e3, c0, hxb', w_slice, ev_slice, hsl1, hsl2, hset, flat_s, flat_i, Option.all_some, Option.map_some, Option.all_none, Option.map_none]; done))) | (refine W_condF ?hc ?_; (case hc => (simp (disch := omega) only [go_sem, ↓reduceIte, Nat.reduceEqDiff, Nat.reduceAdd, Nat.reduceLeDiff, hlen, hix, w_index, ev_index, nc_h, okPtr_h, cellAt_h, hsc, e0, e3, c0, hxb', w_slice, ev_slice, hsl1, hsl2, hset, flat_s, flat_i, Option.all_some, Option.map_some, Option.all_none, Option.map_none]; done))))
            refine W_ret ?_; try (repeat (first | refine thenI ?_ | refine thenE ?_ | refine thenR ?_ | refine inBI ?_ | refine inBR ?_ | refine inBS ?_ | refine inBN (by decide) ?_))
            refine fin1 (.inl rfl) (by (simp (disch := omega) only [go_sem, ↓reduceIte, Nat.reduceEqDiff, Nat.reduceAdd, Nat.reduceLeDiff, hlen, hix, w_index, ev_index, nc_h, okPtr_h, cellAt_h, hsc, e0, e3, c0, hxb']); try rfl) rfl ⟨rfl, set_at hs, set_away, by simp⟩
        · have dp5 : decide ((x.toNat : Int) ≥ 48) = false := decide_eq_false (by omega)
          have ha : alnum x = false := by unfold alnum; simp; omega
          have ht := tw_at (p := alnum) (j := j) hal (fun y hy => by rw [hxj] at hy; cases hy; exact ha)
          rw [ht.1, ht.2, ← extract_h, ← extract_l]
          have hsl1 : flatRun Tryd.prog (Instr.sliceAt 9 (.string w) none (some (.int .i64 (j : Int))) none) = some (.string (w.extract 0 j)) := by simpa using sliceS_h (P := Tryd.prog) (t := 9) (s := w) (k := .i64) (h := (j : Int)) Tryd.underlying9 (by omega) (by omega)
          have hsl2 : flatRun Tryd.prog (Instr.sliceAt 9 (.string w) (some (.int .i64 (j : Int))) none none) = some (.string (w.extract j w.size)) := by simpa using sliceS_l (P := Tryd.prog) (t := 9) (s := w) (k := .i64) (l := (j : Int)) Tryd.underlying9 (by omega) (by omega)
          have hset := src_set hs
          repeat (first | (refine W_reg rfl fun G K hG hK => ?_; simp (disch := omega) only [go_sem, ↓reduceIte, Nat.reduceEqDiff, Nat.reduceAdd, Nat.reduceLeDiff, hG, hlen, hix, w_index, ev_index, nc_h, okPtr_h, cellAt_h, hsc, e0, e3, c0, hxb', dp1, dp3, dp5]; refine hK _ _ ?_; clear hK K hG G) | (refine W_end rfl fun G K hG hK => ?_; simp (disch := omega) only [go_sem, ↓reduceIte, Nat.reduceEqDiff, Nat.reduceAdd, Nat.reduceLeDiff, hG, hlen, hix, w_index, ev_index, nc_h, okPtr_h, cellAt_h, hsc, e0, e3, c0, hxb', dp1, dp3, dp5]; refine hK _ _ ?_; clear hK K hG G; repeat (first | refine thenI ?_ | refine thenE ?_ | refine thenR ?_ | refine inBI ?_ | refine inBR ?_ | refine inBS ?_ | refine inBN (by decide) ?_)) | refine W_seqS ?_ | refine W_seqC ?_ | refine W_seqB ?_ | refine W_block ?_ | (refine W_skip ?_; repeat (first | refine thenI ?_ | refine thenE ?_ | refine thenR ?_ | refine inBI ?_ | refine inBR ?_ | refine inBS ?_ | refine inBN (by decide) ?_)) | (refine W_condT ?hc ?_; (case hc => (simp (disch := omega) only [go_sem, ↓reduceIte, Nat.reduceEqDiff, Nat.reduceAdd, Nat.reduceLeDiff, hlen, hix, w_index, ev_index, nc_h, okPtr_h, cellAt_h, hsc, e0, e3, c0, hxb', dp1, dp3, dp5]; done))) | (refine W_condF ?hc ?_; (case hc => (simp (disch := omega) only [go_sem, ↓reduceIte, Nat.reduceEqDiff, Nat.reduceAdd, Nat.reduceLeDiff, hlen, hix, w_index, ev_index, nc_h, okPtr_h, cellAt_h, hsc, e0, e3, c0, hxb', dp1, dp3, dp5]; done))))
          refine W_exit ?_; repeat (first | refine thenI ?_ | refine thenE ?_ | refine thenR ?_ | refine inBI ?_ | refine inBR ?_ | refine inBS ?_ | refine inBN (by decide) ?_)
          repeat (first | (refine W_reg rfl fun G K hG hK => ?_; simp (disch := omega) only [go_sem, ↓reduceIte, Nat.reduceEqDiff, Nat.reduceAdd, Nat.reduceLeDiff, hG, hlen, hix, w_index, ev_index, nc_h, okPtr_h, cellAt_h, hsc, e0, e3, c0, hxb', w_slice, ev_slice, hsl1, hsl2, hset, flat_s, flat_i, Option.all_some, Option.map_some, Option.all_none, Option.map_none]; refine hK _ _ ?_; clear hK K hG G) | (refine W_end rfl fun G K hG hK => ?_; simp (disch := omega) only [go_sem, ↓reduceIte, Nat.reduceEqDiff, Nat.reduceAdd, Nat.reduceLeDiff, hG, hlen, hix, w_index, ev_index, nc_h, okPtr_h, cellAt_h, hsc, e0, e3, c0, hxb', w_slice, ev_slice, hsl1, hsl2, hset, flat_s, flat_i, Option.all_some, Option.map_some, Option.all_none, Option.map_none]; refine hK _ _ ?_; clear hK K hG G; repeat (first | refine thenI ?_ | refine thenE ?_ | refine thenR ?_ | refine inBI ?_ | refine inBR ?_ | refine inBS ?_ | refine inBN (by decide) ?_)) | refine W_seqS ?_ | refine W_seqC ?_ | refine W_seqB ?_ | refine W_block ?_ | (refine W_skip ?_; repeat (first | refine thenI ?_ | refine thenE ?_ | refine thenR ?_ | refine inBI ?_ | refine inBR ?_ | refine inBS ?_ | refine inBN (by decide) ?_)) | (refine W_condT ?hc ?_; (case hc => (simp (disch := omega) only [go_sem, ↓reduceIte, Nat.reduceEqDiff, Nat.reduceAdd, Nat.reduceLeDiff, hlen, hix, w_index, ev_index, nc_h, okPtr_h, cellAt_h, hsc, e0, e3, c0, hxb', w_slice, ev_slice, hsl1, hsl2, hset, flat_s, flat_i, Option.all_some, Option.map_some, Option.all_none, Option.map_none]; done))) | (refine W_condF ?hc ?_; (case hc => (simp (disch := omega) only [go_sem, ↓reduceIte, Nat.reduceEqDiff, Nat.reduceAdd, Nat.reduceLeDiff, hlen, hix, w_index, ev_index, nc_h, okPtr_h, cellAt_h, hsc, e0, e3, c0, hxb', w_slice, ev_slice, hsl1, hsl2, hset, flat_s, flat_i, Option.all_some, Option.map_some, Option.all_none, Option.map_none]; done))))
          refine W_ret ?_; try (repeat (first | refine thenI ?_ | refine thenE ?_ | refine thenR ?_ | refine inBI ?_ | refine inBR ?_ | refine inBS ?_ | refine inBN (by decide) ?_))
          refine fin1 (.inl rfl) (by (simp (disch := omega) only [go_sem, ↓reduceIte, Nat.reduceEqDiff, Nat.reduceAdd, Nat.reduceLeDiff, hlen, hix, w_index, ev_index, nc_h, okPtr_h, cellAt_h, hsc, e0, e3, c0, hxb']); try rfl) rfl ⟨rfl, set_at hs, set_away, by simp⟩
  · have c0 : decide ((j : Int) < (w.size : Int)) = false := decide_eq_false (by omega)
    have ht := tw_at (p := alnum) (j := j) hal (fun x hx => by
      have := (List.getElem?_eq_some_iff.1 hx).1
      rw [← size_list] at this
      omega)
    rw [ht.1, ht.2, ← extract_h, ← extract_l]
    have hsl1 : flatRun Tryd.prog (Instr.sliceAt 9 (.string w) none (some (.int .i64 (j : Int))) none) = some (.string (w.extract 0 j)) := by simpa using sliceS_h (P := Tryd.prog) (t := 9) (s := w) (k := .i64) (h := (j : Int)) Tryd.underlying9 (by omega) (by omega)
    have hsl2 : flatRun Tryd.prog (Instr.sliceAt 9 (.string w) (some (.int .i64 (j : Int))) none none) = some (.string (w.extract j w.size)) := by simpa using sliceS_l (P := Tryd.prog) (t := 9) (s := w) (k := .i64) (l := (j : Int)) Tryd.underlying9 (by omega) (by omega)
    have hset := src_set hs
    repeat (first | (refine W_reg rfl fun G K hG hK => ?_; simp (disch := omega) only [go_sem, ↓reduceIte, Nat.reduceEqDiff, Nat.reduceAdd, Nat.reduceLeDiff, hG, hlen, hix, w_index, ev_index, nc_h, okPtr_h, cellAt_h, hsc, e0, e3, c0, c0]; refine hK _ _ ?_; clear hK K hG G) | (refine W_end rfl fun G K hG hK => ?_; simp (disch := omega) only [go_sem, ↓reduceIte, Nat.reduceEqDiff, Nat.reduceAdd, Nat.reduceLeDiff, hG, hlen, hix, w_index, ev_index, nc_h, okPtr_h, cellAt_h, hsc, e0, e3, c0, c0]; refine hK _ _ ?_; clear hK K hG G; repeat (first | refine thenI ?_ | refine thenE ?_ | refine thenR ?_ | refine inBI ?_ | refine inBR ?_ | refine inBS ?_ | refine inBN (by decide) ?_)) | refine W_seqS ?_ | refine W_seqC ?_ | refine W_seqB ?_ | refine W_block ?_ | (refine W_skip ?_; repeat (first | refine thenI ?_ | refine thenE ?_ | refine thenR ?_ | refine inBI ?_ | refine inBR ?_ | refine inBS ?_ | refine inBN (by decide) ?_)) | (refine W_condT ?hc ?_; (case hc => (simp (disch := omega) only [go_sem, ↓reduceIte, Nat.reduceEqDiff, Nat.reduceAdd, Nat.reduceLeDiff, hlen, hix, w_index, ev_index, nc_h, okPtr_h, cellAt_h, hsc, e0, e3, c0, c0]; done))) | (refine W_condF ?hc ?_; (case hc => (simp (disch := omega) only [go_sem, ↓reduceIte, Nat.reduceEqDiff, Nat.reduceAdd, Nat.reduceLeDiff, hlen, hix, w_index, ev_index, nc_h, okPtr_h, cellAt_h, hsc, e0, e3, c0, c0]; done))))
    refine W_exit ?_; repeat (first | refine thenI ?_ | refine thenE ?_ | refine thenR ?_ | refine inBI ?_ | refine inBR ?_ | refine inBS ?_ | refine inBN (by decide) ?_)
    repeat (first | (refine W_reg rfl fun G K hG hK => ?_; simp (disch := omega) only [go_sem, ↓reduceIte, Nat.reduceEqDiff, Nat.reduceAdd, Nat.reduceLeDiff, hG, hlen, hix, w_index, ev_index, nc_h, okPtr_h, cellAt_h, hsc, e0, e3, c0, w_slice, ev_slice, hsl1, hsl2, hset, flat_s, flat_i, Option.all_some, Option.map_some, Option.all_none, Option.map_none]; refine hK _ _ ?_; clear hK K hG G) | (refine W_end rfl fun G K hG hK => ?_; simp (disch := omega) only [go_sem, ↓reduceIte, Nat.reduceEqDiff, Nat.reduceAdd, Nat.reduceLeDiff, hG, hlen, hix, w_index, ev_index, nc_h, okPtr_h, cellAt_h, hsc, e0, e3, c0, w_slice, ev_slice, hsl1, hsl2, hset, flat_s, flat_i, Option.all_some, Option.map_some, Option.all_none, Option.map_none]; refine hK _ _ ?_; clear hK K hG G; repeat (first | refine thenI ?_ | refine thenE ?_ | refine thenR ?_ | refine inBI ?_ | refine inBR ?_ | refine inBS ?_ | refine inBN (by decide) ?_)) | refine W_seqS ?_ | refine W_seqC ?_ | refine W_seqB ?_ | refine W_block ?_ | (refine W_skip ?_; repeat (first | refine thenI ?_ | refine thenE ?_ | refine thenR ?_ | refine inBI ?_ | refine inBR ?_ | refine inBS ?_ | refine inBN (by decide) ?_)) | (refine W_condT ?hc ?_; (case hc => (simp (disch := omega) only [go_sem, ↓reduceIte, Nat.reduceEqDiff, Nat.reduceAdd, Nat.reduceLeDiff, hlen, hix, w_index, ev_index, nc_h, okPtr_h, cellAt_h, hsc, e0, e3, c0, w_slice, ev_slice, hsl1, hsl2, hset, flat_s, flat_i, Option.all_some, Option.map_some, Option.all_none, Option.map_none]; done))) | (refine W_condF ?hc ?_; (case hc => (simp (disch := omega) only [go_sem, ↓reduceIte, Nat.reduceEqDiff, Nat.reduceAdd, Nat.reduceLeDiff, hlen, hix, w_index, ev_index, nc_h, okPtr_h, cellAt_h, hsc, e0, e3, c0, w_slice, ev_slice, hsl1, hsl2, hset, flat_s, flat_i, Option.all_some, Option.map_some, Option.all_none, Option.map_none]; done))))
    refine W_ret ?_; try (repeat (first | refine thenI ?_ | refine thenE ?_ | refine thenR ?_ | refine inBI ?_ | refine inBR ?_ | refine inBS ?_ | refine inBN (by decide) ?_))
    refine fin1 (.inl rfl) (by (simp (disch := omega) only [go_sem, ↓reduceIte, Nat.reduceEqDiff, Nat.reduceAdd, Nat.reduceLeDiff, hlen, hix, w_index, ev_index, nc_h, okPtr_h, cellAt_h, hsc, e0, e3, c0]); try rfl) rfl ⟨rfl, set_at hs, set_away, by simp⟩
/-- Does the text begin so? -/
def preB (w p : ByteArray) : Bool := decide (w.data.toList.take p.size = p.data.toList)
theorem ba_eqb {a b : ByteArray} : (a.toList == b.toList) = decide (a = b) := by
  rw [ByteArray.toList_eq, ByteArray.toList_eq]
  by_cases h : a = b
  · subst h; simp
  · have : ¬ a.data = b.data := fun e => h (ByteArray.ext e)
    simp [h, this]
theorem baL_list (l : List UInt8) : (baL l).data.toList = l := by simp [baL]
theorem preB_eq {w p : ByteArray} : ((baL (w.data.toList.take p.size)).toList == p.toList) = preB w p := by
  rw [ba_eqb]
  unfold preB
  by_cases h : w.data.toList.take p.size = p.data.toList
  · rw [decide_eq_true h, h, baL_toList]
    simp
  · rw [decide_eq_false h]
    exact decide_eq_false fun e => h (by rw [← e, baL_list]; rw [e])
theorem hasPre_ok (w p : ByteArray) (st : St) (hb : w.size ≤ 1073741824) (hb2 : p.size ≤ 1073741824) :
    CallS Tryd.prog 51 [.string w, .string p] st fun r st2 => r = .bool (preB w p) ∧ st2 = st := by
  refine CallS_of_W [] 18 Tryd.func51 rfl rfl rfl rfl (by simp) ?_
  have hlen := fun (s : ByteArray) => (len_str Tryd.underlying9 : lenE Tryd.prog 9 (.string s) = some (.int .i64 s.size))
  by_cases h : w.size ≥ p.size
  · have c1 : decide ((w.size : Int) ≥ (p.size : Int)) = true := decide_eq_true (by omega)
    have hsl : flatRun Tryd.prog (Instr.sliceAt 9 (.string w) none (some (.int .i64 (p.size : Int))) none) = some (.string (baL (w.data.toList.take p.size))) := by
      rw [← extract_h]
      simpa using sliceS_h (P := Tryd.prog) (t := 9) (s := w) (k := .i64) (h := (p.size : Int)) Tryd.underlying9 (by omega) (by omega)
    have he := preB_eq (w := w) (p := p)
    repeat (first | (refine W_reg rfl fun G K hG hK => ?_; simp (disch := omega) only [go_sem, ↓reduceIte, Nat.reduceEqDiff, Nat.reduceAdd, Nat.reduceLeDiff, hG, hlen, c1, w_slice, ev_slice, hsl, he, flat_s, flat_i, Option.all_some, Option.map_some, Option.all_none, Option.map_none]; refine hK _ _ ?_; clear hK K hG G) | (refine W_end rfl fun G K hG hK => ?_; simp (disch := omega) only [go_sem, ↓reduceIte, Nat.reduceEqDiff, Nat.reduceAdd, Nat.reduceLeDiff, hG, hlen, c1, w_slice, ev_slice, hsl, he, flat_s, flat_i, Option.all_some, Option.map_some, Option.all_none, Option.map_none]; refine hK _ _ ?_; clear hK K hG G; repeat (first | refine thenI ?_ | refine thenE ?_ | refine thenR ?_ | refine inBI ?_ | refine inBR ?_ | refine inBS ?_ | refine inBN (by decide) ?_)) | refine W_seqS ?_ | refine W_seqC ?_ | refine W_seqB ?_ | refine W_block ?_ | (refine W_skip ?_; repeat (first | refine thenI ?_ | refine thenE ?_ | refine thenR ?_ | refine inBI ?_ | refine inBR ?_ | refine inBS ?_ | refine inBN (by decide) ?_)) | (refine W_condT ?hc ?_; (case hc => (simp (disch := omega) only [go_sem, ↓reduceIte, Nat.reduceEqDiff, Nat.reduceAdd, Nat.reduceLeDiff, hlen, c1, w_slice, ev_slice, hsl, he, flat_s, flat_i, Option.all_some, Option.map_some, Option.all_none, Option.map_none]; done))) | (refine W_condF ?hc ?_; (case hc => (simp (disch := omega) only [go_sem, ↓reduceIte, Nat.reduceEqDiff, Nat.reduceAdd, Nat.reduceLeDiff, hlen, c1, w_slice, ev_slice, hsl, he, flat_s, flat_i, Option.all_some, Option.map_some, Option.all_none, Option.map_none]; done))))
    refine W_ret ?_; try (repeat (first | refine thenI ?_ | refine thenE ?_ | refine thenR ?_ | refine inBI ?_ | refine inBR ?_ | refine inBS ?_ | refine inBN (by decide) ?_))
    refine fin1 (.inl rfl) (by (simp (disch := omega) only [go_sem, ↓reduceIte, Nat.reduceEqDiff, Nat.reduceAdd, Nat.reduceLeDiff, hlen]); try rfl) rfl ⟨rfl, rfl⟩
  · have c1 : decide ((w.size : Int) ≥ (p.size : Int)) = false := decide_eq_false (by omega)
    repeat (first | (refine W_reg rfl fun G K hG hK => ?_; simp (disch := omega) only [go_sem, ↓reduceIte, Nat.reduceEqDiff, Nat.reduceAdd, Nat.reduceLeDiff, hG, hlen, c1]; refine hK _ _ ?_; clear hK K hG G) | (refine W_end rfl fun G K hG hK => ?_; simp (disch := omega) only [go_sem, ↓reduceIte, Nat.reduceEqDiff, Nat.reduceAdd, Nat.reduceLeDiff, hG, hlen, c1]; refine hK _ _ ?_; clear hK K hG G; repeat (first | refine thenI ?_ | refine thenE ?_ | refine thenR ?_ | refine inBI ?_ | refine inBR ?_ | refine inBS ?_ | refine inBN (by decide) ?_)) | refine W_seqS ?_ | refine W_seqC ?_ | refine W_seqB ?_ | refine W_block ?_ | (refine W_skip ?_; repeat (first | refine thenI ?_ | refine thenE ?_ | refine thenR ?_ | refine inBI ?_ | refine inBR ?_ | refine inBS ?_ | refine inBN (by decide) ?_)) | (refine W_condT ?hc ?_; (case hc => (simp (disch := omega) only [go_sem, ↓reduceIte, Nat.reduceEqDiff, Nat.reduceAdd, Nat.reduceLeDiff, hlen, c1]; done))) | (refine W_condF ?hc ?_; (case hc => (simp (disch := omega) only [go_sem, ↓reduceIte, Nat.reduceEqDiff, Nat.reduceAdd, Nat.reduceLeDiff, hlen, c1]; done))))
    refine W_ret ?_; try (repeat (first | refine thenI ?_ | refine thenE ?_ | refine thenR ?_ | refine inBI ?_ | refine inBR ?_ | refine inBS ?_ | refine inBN (by decide) ?_))
    refine fin1 (.inl rfl) (by (simp (disch := omega) only [go_sem, ↓reduceIte, Nat.reduceEqDiff, Nat.reduceAdd, Nat.reduceLeDiff, hlen]); try rfl) rfl ⟨?_, rfl⟩
    have : preB w p = false := decide_eq_false fun e => by
      have := congrArg List.length e
      rw [List.length_take, ← size_list, ← size_list] at this
      omega
    rw [this]
theorem preB_le {w p : ByteArray} (h : preB w p = true) : p.size ≤ w.size := by
  have := congrArg List.length (of_decide_eq_true h)
  rw [List.length_take, ← size_list, ← size_list] at this
  omega
/-- What is left behind a beginning. -/
def cutB (w p : ByteArray) : ByteArray := if preB w p = true then baL (w.data.toList.drop p.size) else w
theorem cutL_ok (w p : ByteArray) (st : St) (hb : w.size ≤ 1073741824) (hb2 : p.size ≤ 1073741824) :
    CallS Tryd.prog 46 [.string w, .string p] st fun r st2 => r = .tuple #[.string (cutB w p), .bool (preB w p)] ∧ st2 = st := by
  refine CallS_of_W [] 15 Tryd.func46 rfl rfl rfl rfl (by simp) ?_
  have hlen := fun (s : ByteArray) => (len_str Tryd.underlying9 : lenE Tryd.prog 9 (.string s) = some (.int .i64 s.size))
  repeat (first | (refine W_reg rfl fun G K hG hK => ?_; simp (disch := omega) only [go_sem, ↓reduceIte, Nat.reduceEqDiff, Nat.reduceAdd, Nat.reduceLeDiff, hG, hlen]; refine hK _ _ ?_; clear hK K hG G) | (refine W_end rfl fun G K hG hK => ?_; simp (disch := omega) only [go_sem, ↓reduceIte, Nat.reduceEqDiff, Nat.reduceAdd, Nat.reduceLeDiff, hG, hlen]; refine hK _ _ ?_; clear hK K hG G; repeat (first | refine thenI ?_ | refine thenE ?_ | refine thenR ?_ | refine inBI ?_ | refine inBR ?_ | refine inBS ?_ | refine inBN (by decide) ?_)) | refine W_seqS ?_ | refine W_seqC ?_ | refine W_seqB ?_ | refine W_block ?_ | (refine W_skip ?_; repeat (first | refine thenI ?_ | refine thenE ?_ | refine thenR ?_ | refine inBI ?_ | refine inBR ?_ | refine inBS ?_ | refine inBN (by decide) ?_)) | (refine W_condT ?hc ?_; (case hc => (simp (disch := omega) only [go_sem, ↓reduceIte, Nat.reduceEqDiff, Nat.reduceAdd, Nat.reduceLeDiff, hlen]; done))) | (refine W_condF ?hc ?_; (case hc => (simp (disch := omega) only [go_sem, ↓reduceIte, Nat.reduceEqDiff, Nat.reduceAdd, Nat.reduceLeDiff, hlen]; done))))
  (repeat (first | refine W_seqS ?_ | refine W_seqC ?_ | refine W_seqB ?_ | refine W_block ?_)); refine W_reg rfl fun G K hG hK => ?_; simp (disch := omega) only [go_sem, ↓reduceIte, Nat.reduceEqDiff, Nat.reduceAdd, Nat.reduceLeDiff, hG, hlen]
  refine w_call (hasPre_ok w p st hb hb2) (by simp (disch := omega) only [go_sem, ↓reduceIte, Nat.reduceEqDiff, hlen]) ?hl ?_
  case hl => first | rfl | (simp only [go_sem, List.all_cons, List.all_nil, Bool.not_false, Bool.and_self, hlen]; done)
  rintro r_ st ⟨rfl, rfl⟩; refine ⟨fun e => (by cases e), ?_⟩
  cases hp : preB w p with
  | false =>
    simp (disch := omega) only [go_sem, ↓reduceIte, Nat.reduceEqDiff, Nat.reduceAdd, Nat.reduceLeDiff, hG, hlen]; refine hK _ _ ?_; clear hK K hG G; repeat (first | refine thenI ?_ | refine thenE ?_ | refine thenR ?_ | refine inBI ?_ | refine inBR ?_ | refine inBS ?_ | refine inBN (by decide) ?_)
    repeat (first | (refine W_reg rfl fun G K hG hK => ?_; simp (disch := omega) only [go_sem, ↓reduceIte, Nat.reduceEqDiff, Nat.reduceAdd, Nat.reduceLeDiff, hG, hlen]; refine hK _ _ ?_; clear hK K hG G) | (refine W_end rfl fun G K hG hK => ?_; simp (disch := omega) only [go_sem, ↓reduceIte, Nat.reduceEqDiff, Nat.reduceAdd, Nat.reduceLeDiff, hG, hlen]; refine hK _ _ ?_; clear hK K hG G; repeat (first | refine thenI ?_ | refine thenE ?_ | refine thenR ?_ | refine inBI ?_ | refine inBR ?_ | refine inBS ?_ | refine inBN (by decide) ?_)) | refine W_seqS ?_ | refine W_seqC ?_ | refine W_seqB ?_ | refine W_block ?_ | (refine W_skip ?_; repeat (first | refine thenI ?_ | refine thenE ?_ | refine thenR ?_ | refine inBI ?_ | refine inBR ?_ | refine inBS ?_ | refine inBN (by decide) ?_)) | (refine W_condT ?hc ?_; (case hc => (simp (disch := omega) only [go_sem, ↓reduceIte, Nat.reduceEqDiff, Nat.reduceAdd, Nat.reduceLeDiff, hlen]; done))) | (refine W_condF ?hc ?_; (case hc => (simp (disch := omega) only [go_sem, ↓reduceIte, Nat.reduceEqDiff, Nat.reduceAdd, Nat.reduceLeDiff, hlen]; done))))
    refine W_ret ?_; try (repeat (first | refine thenI ?_ | refine thenE ?_ | refine thenR ?_ | refine inBI ?_ | refine inBR ?_ | refine inBS ?_ | refine inBN (by decide) ?_))
    refine fin2 (.inl rfl) (by (simp (disch := omega) only [go_sem, ↓reduceIte, Nat.reduceEqDiff, Nat.reduceAdd, Nat.reduceLeDiff, hlen]); try rfl) rfl (by (simp (disch := omega) only [go_sem, ↓reduceIte, Nat.reduceEqDiff, Nat.reduceAdd, Nat.reduceLeDiff, hlen]); try rfl) rfl ⟨by unfold cutB; rw [if_neg (by rw [hp]; simp), hp], rfl⟩
  | true =>
    have hle := preB_le hp
    have hsl : flatRun Tryd.prog (Instr.sliceAt 9 (.string w) (some (.int .i64 (p.size : Int))) none none) = some (.string (baL (w.data.toList.drop p.size))) := by
      rw [← extract_l]
      simpa using sliceS_l (P := Tryd.prog) (t := 9) (s := w) (k := .i64) (l := (p.size : Int)) Tryd.underlying9 (by omega) (by omega)
    simp (disch := omega) only [go_sem, ↓reduceIte, Nat.reduceEqDiff, Nat.reduceAdd, Nat.reduceLeDiff, hG, hlen]; refine hK _ _ ?_; clear hK K hG G; repeat (first | refine thenI ?_ | refine thenE ?_ | refine thenR ?_ | refine inBI ?_ | refine inBR ?_ | refine inBS ?_ | refine inBN (by decide) ?_)
    repeat (first | (refine W_reg rfl fun G K hG hK => ?_; simp (disch := omega) only [go_sem, ↓reduceIte, Nat.reduceEqDiff, Nat.reduceAdd, Nat.reduceLeDiff, hG, hlen, w_slice, ev_slice, hsl, flat_s, flat_i, Option.all_some, Option.map_some, Option.all_none, Option.map_none]; refine hK _ _ ?_; clear hK K hG G) | (refine W_end rfl fun G K hG hK => ?_; simp (disch := omega) only [go_sem, ↓reduceIte, Nat.reduceEqDiff, Nat.reduceAdd, Nat.reduceLeDiff, hG, hlen, w_slice, ev_slice, hsl, flat_s, flat_i, Option.all_some, Option.map_some, Option.all_none, Option.map_none]; refine hK _ _ ?_; clear hK K hG G; repeat (first | refine thenI ?_ | refine thenE ?_ | refine thenR ?_ | refine inBI ?_ | refine inBR ?_ | refine inBS ?_ | refine inBN (by decide) ?_)) | refine W_seqS ?_ | refine W_seqC ?_ | refine W_seqB ?_ | refine W_block ?_ | (refine W_skip ?_; repeat (first | refine thenI ?_ | refine thenE ?_ | refine thenR ?_ | refine inBI ?_ | refine inBR ?_ | refine inBS ?_ | refine inBN (by decide) ?_)) | (refine W_condT ?hc ?_; (case hc => (simp (disch := omega) only [go_sem, ↓reduceIte, Nat.reduceEqDiff, Nat.reduceAdd, Nat.reduceLeDiff, hlen, w_slice, ev_slice, hsl, flat_s, flat_i, Option.all_some, Option.map_some, Option.all_none, Option.map_none]; done))) | (refine W_condF ?hc ?_; (case hc => (simp (disch := omega) only [go_sem, ↓reduceIte, Nat.reduceEqDiff, Nat.reduceAdd, Nat.reduceLeDiff, hlen, w_slice, ev_slice, hsl, flat_s, flat_i, Option.all_some, Option.map_some, Option.all_none, Option.map_none]; done))))
    refine W_ret ?_; try (repeat (first | refine thenI ?_ | refine thenE ?_ | refine thenR ?_ | refine inBI ?_ | refine inBR ?_ | refine inBS ?_ | refine inBN (by decide) ?_))
    refine fin2 (.inl rfl) (by (simp (disch := omega) only [go_sem, ↓reduceIte, Nat.reduceEqDiff, Nat.reduceAdd, Nat.reduceLeDiff, hlen]); try rfl) rfl (by (simp (disch := omega) only [go_sem, ↓reduceIte, Nat.reduceEqDiff, Nat.reduceAdd, Nat.reduceLeDiff, hlen]); try rfl) rfl ⟨by unfold cutB; rw [if_pos hp, hp], rfl⟩
theorem cut_ok (w p : ByteArray) (st : St) (hb : w.size ≤ 1073741824) (hb2 : p.size ≤ 1073741824) :
    CallS Tryd.prog 38 [.string w, .string p] st fun r st2 => r = .tuple #[.string (cutB w p), .bool (preB w p)] ∧ st2 = st := by
  refine CallS_of_W [] 11 Tryd.func38 rfl rfl rfl rfl (by simp) ?_
  repeat (first | (refine W_reg rfl fun G K hG hK => ?_; simp (disch := omega) only [go_sem, ↓reduceIte, Nat.reduceEqDiff, Nat.reduceAdd, Nat.reduceLeDiff, hG]; refine hK _ _ ?_; clear hK K hG G) | (refine W_end rfl fun G K hG hK => ?_; simp (disch := omega) only [go_sem, ↓reduceIte, Nat.reduceEqDiff, Nat.reduceAdd, Nat.reduceLeDiff, hG]; refine hK _ _ ?_; clear hK K hG G; repeat (first | refine thenI ?_ | refine thenE ?_ | refine thenR ?_ | refine inBI ?_ | refine inBR ?_ | refine inBS ?_ | refine inBN (by decide) ?_)) | refine W_seqS ?_ | refine W_seqC ?_ | refine W_seqB ?_ | refine W_block ?_ | (refine W_skip ?_; repeat (first | refine thenI ?_ | refine thenE ?_ | refine thenR ?_ | refine inBI ?_ | refine inBR ?_ | refine inBS ?_ | refine inBN (by decide) ?_)) | (refine W_condT ?hc ?_; (case hc => (simp (disch := omega) only [go_sem, ↓reduceIte, Nat.reduceEqDiff, Nat.reduceAdd, Nat.reduceLeDiff]; done))) | (refine W_condF ?hc ?_; (case hc => (simp (disch := omega) only [go_sem, ↓reduceIte, Nat.reduceEqDiff, Nat.reduceAdd, Nat.reduceLeDiff]; done))))
  (repeat (first | refine W_seqS ?_ | refine W_seqC ?_ | refine W_seqB ?_ | refine W_block ?_)); refine W_reg rfl fun G K hG hK => ?_; simp (disch := omega) only [go_sem, ↓reduceIte, Nat.reduceEqDiff, Nat.reduceAdd, Nat.reduceLeDiff, hG]
  refine w_call (cutL_ok w p st hb hb2) (by simp (disch := omega) only [go_sem, ↓reduceIte, Nat.reduceEqDiff]) ?hl ?_
  case hl => first | rfl | (simp only [go_sem, List.all_cons, List.all_nil, Bool.not_false, Bool.and_self]; done)
  rintro r_ st ⟨rfl, rfl⟩; refine ⟨fun e => (by cases e), ?_⟩
  simp (disch := omega) only [go_sem, ↓reduceIte, Nat.reduceEqDiff, Nat.reduceAdd, Nat.reduceLeDiff, hG]; refine hK _ _ ?_; clear hK K hG G; repeat (first | refine thenI ?_ | refine thenE ?_ | refine thenR ?_ | refine inBI ?_ | refine inBR ?_ | refine inBS ?_ | refine inBN (by decide) ?_)
  refine W_ret ?_; try (repeat (first | refine thenI ?_ | refine thenE ?_ | refine thenR ?_ | refine inBI ?_ | refine inBR ?_ | refine inBS ?_ | refine inBN (by decide) ?_))
  refine fin2 (.inl rfl) (by (simp (disch := omega) only [go_sem, ↓reduceIte, Nat.reduceEqDiff, Nat.reduceAdd, Nat.reduceLeDiff]); try rfl) rfl (by (simp (disch := omega) only [go_sem, ↓reduceIte, Nat.reduceEqDiff, Nat.reduceAdd, Nat.reduceLeDiff]); try rfl) rfl ⟨rfl, rfl⟩
theorem take_ok (q : Nat) (w p : ByteArray) (st : St) (hb : w.size ≤ 1073741824) (hb2 : p.size ≤ 1073741824) (hs : Src st q w) :
    CallS Tryd.prog 26 [.pointer (some ⟨q, 0, none⟩), .string p] st fun r st2 => r = .bool (preB w p) ∧ Src st2 q (cutB w p) ∧ Away (some q) st st2 ∧ st2.length = st.length := by
  refine CallS_of_W [] 22 Tryd.func26 rfl rfl rfl rfl (by simp) ?_
  have hsc := src_cell hs
  have hset := src_set hs
  repeat (first | (refine W_reg rfl fun G K hG hK => ?_; simp (disch := omega) only [go_sem, ↓reduceIte, Nat.reduceEqDiff, Nat.reduceAdd, Nat.reduceLeDiff, hG, nc_h, okPtr_h, cellAt_h, hsc]; refine hK _ _ ?_; clear hK K hG G) | (refine W_end rfl fun G K hG hK => ?_; simp (disch := omega) only [go_sem, ↓reduceIte, Nat.reduceEqDiff, Nat.reduceAdd, Nat.reduceLeDiff, hG, nc_h, okPtr_h, cellAt_h, hsc]; refine hK _ _ ?_; clear hK K hG G; repeat (first | refine thenI ?_ | refine thenE ?_ | refine thenR ?_ | refine inBI ?_ | refine inBR ?_ | refine inBS ?_ | refine inBN (by decide) ?_)) | refine W_seqS ?_ | refine W_seqC ?_ | refine W_seqB ?_ | refine W_block ?_ | (refine W_skip ?_; repeat (first | refine thenI ?_ | refine thenE ?_ | refine thenR ?_ | refine inBI ?_ | refine inBR ?_ | refine inBS ?_ | refine inBN (by decide) ?_)) | (refine W_condT ?hc ?_; (case hc => (simp (disch := omega) only [go_sem, ↓reduceIte, Nat.reduceEqDiff, Nat.reduceAdd, Nat.reduceLeDiff, nc_h, okPtr_h, cellAt_h, hsc]; done))) | (refine W_condF ?hc ?_; (case hc => (simp (disch := omega) only [go_sem, ↓reduceIte, Nat.reduceEqDiff, Nat.reduceAdd, Nat.reduceLeDiff, nc_h, okPtr_h, cellAt_h, hsc]; done))))
  (repeat (first | refine W_seqS ?_ | refine W_seqC ?_ | refine W_seqB ?_ | refine W_block ?_)); refine W_reg rfl fun G K hG hK => ?_; simp (disch := omega) only [go_sem, ↓reduceIte, Nat.reduceEqDiff, Nat.reduceAdd, Nat.reduceLeDiff, hG, nc_h, okPtr_h, cellAt_h, hsc]
  refine w_call (cut_ok w p st hb hb2) (by simp (disch := omega) only [go_sem, ↓reduceIte, Nat.reduceEqDiff, nc_h, okPtr_h, cellAt_h, hsc]) ?hl ?_
  case hl => first | rfl | (simp only [go_sem, List.all_cons, List.all_nil, Bool.not_false, Bool.and_self, nc_h, okPtr_h, cellAt_h, hsc]; done)
  rintro r_ st ⟨rfl, rfl⟩; refine ⟨fun e => (by cases e), ?_⟩
  cases hp : preB w p with
  | false =>
    simp (disch := omega) only [go_sem, ↓reduceIte, Nat.reduceEqDiff, Nat.reduceAdd, Nat.reduceLeDiff, hG, nc_h, okPtr_h, cellAt_h, hsc]; refine hK _ _ ?_; clear hK K hG G; repeat (first | refine thenI ?_ | refine thenE ?_ | refine thenR ?_ | refine inBI ?_ | refine inBR ?_ | refine inBS ?_ | refine inBN (by decide) ?_)
    repeat (first | (refine W_reg rfl fun G K hG hK => ?_; simp (disch := omega) only [go_sem, ↓reduceIte, Nat.reduceEqDiff, Nat.reduceAdd, Nat.reduceLeDiff, hG, nc_h, okPtr_h, cellAt_h, hsc]; refine hK _ _ ?_; clear hK K hG G) | (refine W_end rfl fun G K hG hK => ?_; simp (disch := omega) only [go_sem, ↓reduceIte, Nat.reduceEqDiff, Nat.reduceAdd, Nat.reduceLeDiff, hG, nc_h, okPtr_h, cellAt_h, hsc]; refine hK _ _ ?_; clear hK K hG G; repeat (first | refine thenI ?_ | refine thenE ?_ | refine thenR ?_ | refine inBI ?_ | refine inBR ?_ | refine inBS ?_ | refine inBN (by decide) ?_)) | refine W_seqS ?_ | refine W_seqC ?_ | refine W_seqB ?_ | refine W_block ?_ | (refine W_skip ?_; repeat (first | refine thenI ?_ | refine thenE ?_ | refine thenR ?_ | refine inBI ?_ | refine inBR ?_ | refine inBS ?_ | refine inBN (by decide) ?_)) | (refine W_condT ?hc ?_; (case hc => (simp (disch := omega) only [go_sem, ↓reduceIte, Nat.reduceEqDiff, Nat.reduceAdd, Nat.reduceLeDiff, nc_h, okPtr_h, cellAt_h, hsc]; done))) | (refine W_condF ?hc ?_; (case hc => (simp (disch := omega) only [go_sem, ↓reduceIte, Nat.reduceEqDiff, Nat.reduceAdd, Nat.reduceLeDiff, nc_h, okPtr_h, cellAt_h, hsc]; done))))
    refine W_ret ?_; try (repeat (first | refine thenI ?_ | refine thenE ?_ | refine thenR ?_ | refine inBI ?_ | refine inBR ?_ | refine inBS ?_ | refine inBN (by decide) ?_))
    refine fin1 (.inl rfl) (by (simp (disch := omega) only [go_sem, ↓reduceIte, Nat.reduceEqDiff, Nat.reduceAdd, Nat.reduceLeDiff, nc_h, okPtr_h, cellAt_h, hsc]); try rfl) rfl ⟨by rw [hp], by unfold cutB; rw [if_neg (by rw [hp]; simp)]; exact hs, .refl _ _, rfl⟩
  | true =>
    simp (disch := omega) only [go_sem, ↓reduceIte, Nat.reduceEqDiff, Nat.reduceAdd, Nat.reduceLeDiff, hG, nc_h, okPtr_h, cellAt_h, hsc]; refine hK _ _ ?_; clear hK K hG G; repeat (first | refine thenI ?_ | refine thenE ?_ | refine thenR ?_ | refine inBI ?_ | refine inBR ?_ | refine inBS ?_ | refine inBN (by decide) ?_)
    repeat (first | (refine W_reg rfl fun G K hG hK => ?_; simp (disch := omega) only [go_sem, ↓reduceIte, Nat.reduceEqDiff, Nat.reduceAdd, Nat.reduceLeDiff, hG, nc_h, okPtr_h, cellAt_h, hsc, hset]; refine hK _ _ ?_; clear hK K hG G) | (refine W_end rfl fun G K hG hK => ?_; simp (disch := omega) only [go_sem, ↓reduceIte, Nat.reduceEqDiff, Nat.reduceAdd, Nat.reduceLeDiff, hG, nc_h, okPtr_h, cellAt_h, hsc, hset]; refine hK _ _ ?_; clear hK K hG G; repeat (first | refine thenI ?_ | refine thenE ?_ | refine thenR ?_ | refine inBI ?_ | refine inBR ?_ | refine inBS ?_ | refine inBN (by decide) ?_)) | refine W_seqS ?_ | refine W_seqC ?_ | refine W_seqB ?_ | refine W_block ?_ | (refine W_skip ?_; repeat (first | refine thenI ?_ | refine thenE ?_ | refine thenR ?_ | refine inBI ?_ | refine inBR ?_ | refine inBS ?_ | refine inBN (by decide) ?_)) | (refine W_condT ?hc ?_; (case hc => (simp (disch := omega) only [go_sem, ↓reduceIte, Nat.reduceEqDiff, Nat.reduceAdd, Nat.reduceLeDiff, nc_h, okPtr_h, cellAt_h, hsc, hset]; done))) | (refine W_condF ?hc ?_; (case hc => (simp (disch := omega) only [go_sem, ↓reduceIte, Nat.reduceEqDiff, Nat.reduceAdd, Nat.reduceLeDiff, nc_h, okPtr_h, cellAt_h, hsc, hset]; done))))
    refine W_ret ?_; try (repeat (first | refine thenI ?_ | refine thenE ?_ | refine thenR ?_ | refine inBI ?_ | refine inBR ?_ | refine inBS ?_ | refine inBN (by decide) ?_))
    refine fin1 (.inl rfl) (by (simp (disch := omega) only [go_sem, ↓reduceIte, Nat.reduceEqDiff, Nat.reduceAdd, Nat.reduceLeDiff, nc_h, okPtr_h, cellAt_h, hsc]); try rfl) rfl ⟨by rw [hp], set_at hs, set_away, by simp⟩
end Go.Proofs.YtlmbmplhdfgmfaaDoor.AM


/- Rows of strings: laws.toStringS, laws.szStringS, laws.eqStringS, laws.markStringS, laws.heldStringS. -/
namespace Go.Proofs.YtlmbmplhdfgmfaaDoor.AM
open Go Go.Proofs
set_option linter.unusedVariables false
set_option linter.unusedSimpArgs false
set_option maxRecDepth 100000
attribute [local go_sem] List.map_cons List.map_nil List.all_cons List.all_nil Bool.and_self Option.map_some List.getElem?_toArray Option.bind_some gye_b gye_t gsk_b gsk_t gb1 gb2 gb3 gb4 bne_self_eq_false beq_self_eq_true w_guard w_nil stepV_some step_some step_some' w_move w_assign w_pick w_binOp w_unOp w_load w_fieldAddr w_indexAddr w_len w_max w_index ev_max max_int ev_index w_box w_alloc w_store w_field w_extract w_nilCheck w_convert w_buildSlice w_build ev_buildL fillL_nil fillL_cons bs0 bs1 ev_conv ev_bin ev_un ev_pick ev_load ev_fieldAddr ev_indexAddr ev_len ev_field ev_extract ev_nilCheck fr_tmp fr_int fr_bool fr_str fr_nil fr_func put_some put_none bin_lss bin_leq bin_gtr bin_geq bin_eql bin_neq bin_add bin_sub bin_mul bin_seql bin_sneq un_not pick_ ext_ loadA_p cellAt_l cellAt_h okPtr_l okPtr_h fadA_p allocA_l storeA_l cells_agg cells_int cells_str cells_sl cells_bool flat_i flat_s flat_b flat_sl flat_nil loc_agg loc_int loc_str loc_sl loc_bool loc_fn loc_ptr okv_agg okv_int okv_str okv_sl okv_bool cellsFrom splice upd_eval argEnv_zero argEnv_succ ne_eq Nat.add_one_ne_zero not_false_eq_true List.not_mem_nil and_self decide_true List.getElem?_cons_zero List.getElem?_cons_succ List.size_toArray List.length_cons List.length_nil List.take_succ_cons List.take_zero List.drop_succ_cons List.drop_zero List.cons_append List.nil_append List.drop_nil Bool.not_true Bool.not_false Bool.false_eq_true Nat.zero_add Nat.add_zero wrap_in List.toList_toArray List.mem_cons or_self or_false false_or
attribute [local go_sem] ag22 ag24 ag3 ag4 ag5 ag58 ag70 ag9 bu24 bu32 bu37 bu76 bu87 by24 by5 el22 el54 of24_0 of24_1 of24_2 of24_3 of32_0 of32_1 of32_2 of37_0 ro24_1 ro5_1 sz22 sz24 sz3 sz4 sz5 sz58 sz70 sz9 ze24 ze5 ze78 ze92
-- AUTO

theorem row_atS {st : St} {xs : List ByteArray} {s : Value} (h : Rw st xs s) {j : Nat} {x : ByteArray} (hx : xs[j]? = some x) {n : Nat} (hn : xs.length = n := by rfl) : ∃ i o c, s = .slice (some ⟨i, o, none⟩) n c ∧ cell st i (o + j * 1) = some (.string x) := by
  subst hn
  obtain ⟨i, o, c, cs, rfl, _, rfl, hc⟩ := row_at h hx
  exact ⟨i, o, c, rfl, hc 0 _ rfl⟩

theorem mkL_strs (xs : List ByteArray) (k : Nat) : (mkL xs k).2 = k + xs.length := by
  induction xs generalizing k with
  | nil => rfl
  | cons x xs ih => simp only [mkL, ih, List.length_cons, Marks.mk1]; omega

end Go.Proofs.YtlmbmplhdfgmfaaDoor.AM


/- Names are sorted: spec.SortNames. -/
namespace Go.Proofs.YtlmbmplhdfgmfaaDoor.AM
open Go Go.Proofs
set_option linter.unusedVariables false
set_option linter.unusedSimpArgs false
set_option maxRecDepth 100000
attribute [local go_sem] List.map_cons List.map_nil List.all_cons List.all_nil Bool.and_self Option.map_some List.getElem?_toArray Option.bind_some gye_b gye_t gsk_b gsk_t gb1 gb2 gb3 gb4 bne_self_eq_false beq_self_eq_true w_guard w_nil stepV_some step_some step_some' w_move w_assign w_pick w_binOp w_unOp w_load w_fieldAddr w_indexAddr w_len w_max w_index ev_max max_int ev_index w_box w_alloc w_store w_field w_extract w_nilCheck w_convert w_buildSlice w_build ev_buildL fillL_nil fillL_cons bs0 bs1 ev_conv ev_bin ev_un ev_pick ev_load ev_fieldAddr ev_indexAddr ev_len ev_field ev_extract ev_nilCheck fr_tmp fr_int fr_bool fr_str fr_nil fr_func put_some put_none bin_lss bin_leq bin_gtr bin_geq bin_eql bin_neq bin_add bin_sub bin_mul bin_seql bin_sneq un_not pick_ ext_ loadA_p cellAt_l cellAt_h okPtr_l okPtr_h fadA_p allocA_l storeA_l cells_agg cells_int cells_str cells_sl cells_bool flat_i flat_s flat_b flat_sl flat_nil loc_agg loc_int loc_str loc_sl loc_bool loc_fn loc_ptr okv_agg okv_int okv_str okv_sl okv_bool cellsFrom splice upd_eval argEnv_zero argEnv_succ ne_eq Nat.add_one_ne_zero not_false_eq_true List.not_mem_nil and_self decide_true List.getElem?_cons_zero List.getElem?_cons_succ List.size_toArray List.length_cons List.length_nil List.take_succ_cons List.take_zero List.drop_succ_cons List.drop_zero List.cons_append List.nil_append List.drop_nil Bool.not_true Bool.not_false Bool.false_eq_true Nat.zero_add Nat.add_zero wrap_in List.toList_toArray List.mem_cons or_self or_false false_or
attribute [local go_sem] ag22 ag24 ag3 ag4 ag5 ag58 ag70 ag9 bu24 bu32 bu37 bu76 bu87 by24 by5 el22 el54 of24_0 of24_1 of24_2 of24_3 of32_0 of32_1 of32_2 of37_0 ro24_1 ro5_1 sz22 sz24 sz3 sz4 sz5 sz58 sz70 sz9 ze24 ze5 ze78 ze92
-- AUTO

theorem insB_drop {e : ByteArray} {acc : List ByteArray} {j : Nat} (hj : j < acc.length) : insB e (acc.drop j) = if Op.bytesLess acc[j].toList e.toList = true then acc[j] :: insB e (acc.drop (j + 1)) else if acc[j].toList = e.toList then acc.drop j else e :: acc.drop j := by
  rw [List.drop_eq_getElem_cons hj]; rfl
/-- Parts of a row. -/
theorem row_upto {α : Type} {E : α → List Value → Prop} {sz : Nat} {st : St} {xs : List α} {i o c : Nat} (h : Row E (sz + 1) st xs (.slice (some ⟨i, o, none⟩) xs.length c)) {P : Program} {t e : TypeId} (hu : P.underlying t = some (.slice e)) (hs : szA P e = some (sz + 1)) {k : Nat} (hk : k ≤ xs.length) :
    ∃ s', sliceA P t (.slice (some ⟨i, o, none⟩) xs.length c) none (some (.int .i64 k)) = some s' ∧ Row E (sz + 1) st (xs.take k) s' := by
  have he : elemA P t = some e := by unfold elemA; rw [hu]
  refine ⟨.slice (some ⟨i, o + 0 * (sz + 1), none⟩) (k - 0) (k - 0), ?_, ?_⟩
  · unfold sliceA
    simp only [he, hs, Int.toNat_natCast]
    rw [if_pos (by omega)]; rfl
  · rcases h with ⟨h0, rfl⟩ | ⟨i', o', c', he', h⟩
    · refine .inr ⟨i, o + 0 * (sz + 1), k - 0, by simp at hk; simp [hk], fun j x hx => by simp at hx⟩
    · cases he'
      refine .inr ⟨i, o + 0 * (sz + 1), k - 0, by simp; omega, fun j x hx => ?_⟩
      rw [List.getElem?_take] at hx
      split at hx
      · rw [Nat.zero_mul, Nat.add_zero]; exact h j x hx
      · cases hx
theorem row_from {α : Type} {E : α → List Value → Prop} {sz : Nat} {st : St} {xs : List α} {i o c : Nat} (h : Row E (sz + 1) st xs (.slice (some ⟨i, o, none⟩) xs.length c)) {P : Program} {t e : TypeId} (hu : P.underlying t = some (.slice e)) (hs : szA P e = some (sz + 1)) {k : Nat} (hk : k ≤ xs.length) :
    ∃ s', sliceA P t (.slice (some ⟨i, o, none⟩) xs.length c) (some (.int .i64 k)) none = some s' ∧ Row E (sz + 1) st (xs.drop k) s' := by
  have he : elemA P t = some e := by unfold elemA; rw [hu]
  refine ⟨.slice (some ⟨i, o + k * (sz + 1), none⟩) (xs.length - k) (xs.length - k), ?_, ?_⟩
  · unfold sliceA
    simp only [he, hs, Int.toNat_natCast]
    rw [if_pos (by omega)]
  · rcases h with ⟨h0, rfl⟩ | ⟨i', o', c', he', h⟩
    · exact .inr ⟨i, o + k * (sz + 1), _, by simp; rfl, fun j x hx => by simp at hx⟩
    · cases he'
      refine .inr ⟨i, o + k * (sz + 1), xs.length - k, by simp, fun j x hx => ?_⟩
      rw [List.getElem?_drop] at hx
      obtain ⟨cs, h1, h2, h3⟩ := h (k + j) x hx
      exact ⟨cs, h1, h2, by rwa [show o + k * (sz + 1) + j * (sz + 1) = o + (k + j) * (sz + 1) by rw [Nat.add_mul]; omega]⟩
theorem SliceO.topSome {α : Type} {E : α → List Value → List Nat → Prop} {e : TypeId} {st : St} {xs : List α} {s : Value} {L : List Nat} {n : Nat} (h : SliceO E e st xs s L) (hf : Fresh n L) (h0 : xs ≠ []) : ∃ m, n ≤ m ∧ topId s = some m := by
  rcases h with ⟨rfl, h, _⟩ | ⟨i, c, cs, K, rfl, _, _, rfl⟩
  · exact absurd h h0
  · exact ⟨i, hf.2 i (by simp), rfl⟩
theorem insB_nil {e : ByteArray} : insB e [] = [e] := rfl
end Go.Proofs.YtlmbmplhdfgmfaaDoor.AM


/- What a pattern's variables take: spec.l3Vars, spec.VarsOfTerm, spec.RestrictSubst, spec.MatchTerm, IsInstance and IsVariant on both sides. -/
namespace Go.Proofs.YtlmbmplhdfgmfaaDoor.AM
open Go Go.Proofs
set_option linter.unusedVariables false
set_option linter.unusedSimpArgs false
set_option maxRecDepth 100000
attribute [local go_sem] List.map_cons List.map_nil List.all_cons List.all_nil Bool.and_self Option.map_some List.getElem?_toArray Option.bind_some gye_b gye_t gsk_b gsk_t gb1 gb2 gb3 gb4 bne_self_eq_false beq_self_eq_true w_guard w_nil stepV_some step_some step_some' w_move w_assign w_pick w_binOp w_unOp w_load w_fieldAddr w_indexAddr w_len w_max w_index ev_max max_int ev_index w_box w_alloc w_store w_field w_extract w_nilCheck w_convert w_buildSlice w_build ev_buildL fillL_nil fillL_cons bs0 bs1 ev_conv ev_bin ev_un ev_pick ev_load ev_fieldAddr ev_indexAddr ev_len ev_field ev_extract ev_nilCheck fr_tmp fr_int fr_bool fr_str fr_nil fr_func put_some put_none bin_lss bin_leq bin_gtr bin_geq bin_eql bin_neq bin_add bin_sub bin_mul bin_seql bin_sneq un_not pick_ ext_ loadA_p cellAt_l cellAt_h okPtr_l okPtr_h fadA_p allocA_l storeA_l cells_agg cells_int cells_str cells_sl cells_bool flat_i flat_s flat_b flat_sl flat_nil loc_agg loc_int loc_str loc_sl loc_bool loc_fn loc_ptr okv_agg okv_int okv_str okv_sl okv_bool cellsFrom splice upd_eval argEnv_zero argEnv_succ ne_eq Nat.add_one_ne_zero not_false_eq_true List.not_mem_nil and_self decide_true List.getElem?_cons_zero List.getElem?_cons_succ List.size_toArray List.length_cons List.length_nil List.take_succ_cons List.take_zero List.drop_succ_cons List.drop_zero List.cons_append List.nil_append List.drop_nil Bool.not_true Bool.not_false Bool.false_eq_true Nat.zero_add Nat.add_zero wrap_in List.toList_toArray List.mem_cons or_self or_false false_or
attribute [local go_sem] ag22 ag24 ag3 ag4 ag5 ag58 ag70 ag9 bu24 bu32 bu37 bu76 bu87 by24 by5 el22 el54 of24_0 of24_1 of24_2 of24_3 of32_0 of32_1 of32_2 of37_0 ro24_1 ro5_1 sz22 sz24 sz3 sz4 sz5 sz58 sz70 sz9 ze24 ze5 ze78 ze92
-- AUTO

mutual
def T.vars : T → List ByteArray
  | .mk k _ nm xs => (if (k == 1) = true then [nm] else []) ++ T.varsL xs
def T.varsL : List T → List ByteArray
  | [] => []
  | x :: xs => T.vars x ++ T.varsL xs
end
theorem T.vars_mk {k n : Int} {nm : ByteArray} {xs : List T} : T.vars (.mk k n nm xs) = (if (k == 1) = true then [nm] else []) ++ T.varsL xs := by simp only [T.vars]
theorem T.varsL_snoc (xs : List T) (x : T) : T.varsL (xs ++ [x]) = T.varsL xs ++ T.vars x := by
  induction xs with
  | nil => simp [T.varsL]
  | cons y ys ih => simp only [List.cons_append, T.varsL, ih, List.append_assoc]
theorem T.varsL_take {xs : List T} {j : Nat} (h : j < xs.length) : T.varsL (xs.take (j + 1)) = T.varsL (xs.take j) ++ T.vars xs[j] := by
  rw [List.take_succ_eq_append_getElem h, T.varsL_snoc]
theorem T.varsL_len0 : ∀ ys : List T, (∀ y ∈ ys, (T.vars y).length ≤ y.wt + 1) → (T.varsL ys).length ≤ T.wtL ys + ys.length := by
  intro ys
  induction ys with
  | nil => intro _; simp [T.varsL]
  | cons y ys ihy =>
    intro h
    have h1 := h y (by simp)
    have h2 := ihy fun z hz => h z (by simp [hz])
    simp only [T.varsL, List.length_append, T.wtL, List.length_cons]
    omega
theorem T.vars_len : ∀ t : T, (T.vars t).length ≤ t.wt + 1 := by
  refine T.ind fun k n nm xs ih => ?_
  have h1 := T.varsL_len0 xs ih
  rw [T.vars_mk]
  simp only [T.wt, List.length_append]
  split <;> simp <;> omega
theorem T.varsL_len (ys : List T) : (T.varsL ys).length ≤ T.wtL ys + ys.length := T.varsL_len0 ys fun y _ => T.vars_len y
theorem T.wtL_app (xs ys : List T) : T.wtL (xs ++ ys) = T.wtL xs + T.wtL ys := by
  induction xs with
  | nil => simp [T.wtL]
  | cons x xs ih => simp only [List.cons_append, T.wtL, ih]; omega
theorem T.vars_room {xs : List T} {j : Nat} (h : j < xs.length) : (T.varsL (xs.take j)).length + xs[j].wt + 1 ≤ T.wtL xs + xs.length := by
  have h1 := T.varsL_len (xs.take j)
  have h2 := T.wtL_app (xs.take j) (xs.drop j)
  rw [List.take_append_drop, List.drop_eq_getElem_cons h] at h2
  simp only [T.wtL] at h2
  simp only [List.length_take] at h1
  omega
/-- The bindings of some names. -/
def restr (bs : List Bnd) (ns : List ByteArray) : List Bnd := ns.filterMap fun n => (findB n bs).map fun t => ⟨n, t⟩
theorem restr_len (bs : List Bnd) (ns : List ByteArray) : (restr bs ns).length ≤ ns.length := List.length_filterMap_le _ _
theorem restr_none {bs : List Bnd} {ns : List ByteArray} {n : ByteArray} (h : (findB n bs).isSome = false) : restr bs (ns ++ [n]) = restr bs ns := by
  unfold restr
  rw [List.filterMap_append]
  cases hf : findB n bs with
  | none => simp [hf]
  | some t => rw [hf] at h; cases h
theorem restr_some {bs : List Bnd} {ns : List ByteArray} {n : ByteArray} (h : (findB n bs).isSome = true) : restr bs (ns ++ [n]) = restr bs ns ++ [⟨n, findD n bs⟩] := by
  unfold restr findD
  rw [List.filterMap_append]
  cases hf : findB n bs with
  | none => rw [hf] at h; cases h
  | some t => simp [hf]

/-- A row stays where another block alone has turned. -/
theorem Sl.away {α : Type} [Kind α] {a b : St} {xs : List α} {s : Value} {L : List Nat} {k : Option Nat} {n m : Nat} (h : Sl a xs s L) (hw : Away k a b) (hL : ∀ i ∈ L, n ≤ i ∧ i < m) (hk : ∀ q, k = some q → q < n ∨ m ≤ q) : Sl b xs s L :=
  h.frame fun i hi => hw.2 i (h.lt i hi) fun e => by
    have h1 := hL i hi
    have h2 := hk i e
    omega
/-- What spec.MatchTerm and impl.MatchTerm yield. -/
def T.mres (p t : T) : List Bnd := match T.matF p t [] with
  | some l => restr l (namesB (namesB (T.vars p)))
  | none => []
end Go.Proofs.YtlmbmplhdfgmfaaDoor.AM


/- The program's reader of terms: source.term. -/
namespace Go.Proofs.YtlmbmplhdfgmfaaDoor.AM
open Go Go.Proofs Go.Lib
set_option linter.unusedVariables false
set_option linter.unusedSimpArgs false
set_option maxRecDepth 100000
attribute [local go_sem] List.map_cons List.map_nil List.all_cons List.all_nil Bool.and_self Option.map_some List.getElem?_toArray Option.bind_some gye_b gye_t gsk_b gsk_t gb1 gb2 gb3 gb4 bne_self_eq_false beq_self_eq_true w_guard w_nil stepV_some step_some step_some' w_move w_assign w_pick w_binOp w_unOp w_load w_fieldAddr w_indexAddr w_len w_max w_index ev_max max_int ev_index w_box w_alloc w_store w_field w_extract w_nilCheck w_convert w_buildSlice w_build ev_buildL fillL_nil fillL_cons bs0 bs1 ev_conv ev_bin ev_un ev_pick ev_load ev_fieldAddr ev_indexAddr ev_len ev_field ev_extract ev_nilCheck fr_tmp fr_int fr_bool fr_str fr_nil fr_func put_some put_none bin_lss bin_leq bin_gtr bin_geq bin_eql bin_neq bin_add bin_sub bin_mul bin_seql bin_sneq un_not pick_ ext_ loadA_p cellAt_l cellAt_h okPtr_l okPtr_h fadA_p allocA_l storeA_l cells_agg cells_int cells_str cells_sl cells_bool flat_i flat_s flat_b flat_sl flat_nil loc_agg loc_int loc_str loc_sl loc_bool loc_fn loc_ptr okv_agg okv_int okv_str okv_sl okv_bool cellsFrom splice upd_eval argEnv_zero argEnv_succ ne_eq Nat.add_one_ne_zero not_false_eq_true List.not_mem_nil and_self decide_true List.getElem?_cons_zero List.getElem?_cons_succ List.size_toArray List.length_cons List.length_nil List.take_succ_cons List.take_zero List.drop_succ_cons List.drop_zero List.cons_append List.nil_append List.drop_nil Bool.not_true Bool.not_false Bool.false_eq_true Nat.zero_add Nat.add_zero wrap_in List.toList_toArray List.mem_cons or_self or_false false_or
attribute [local go_sem] ag22 ag24 ag3 ag4 ag5 ag58 ag70 ag9 bu24 bu32 bu37 bu76 bu87 by24 by5 el22 el54 of24_0 of24_1 of24_2 of24_3 of32_0 of32_1 of32_2 of37_0 ro24_1 ro5_1 sz22 sz24 sz3 sz4 sz5 sz58 sz70 sz9 ze24 ze5 ze78 ze92
-- AUTO

/-- From some number of steps on, the reader answers so. -/
def EvT (l : List UInt8) (res : Option (T × List UInt8)) : Prop := ∃ f0, ∀ f, f0 ≤ f → impT f l = res
def EvA (nm : ByteArray) (acc : List T) (l : List UInt8) (res : Option (T × List UInt8)) : Prop := ∃ f0, ∀ f, f0 ≤ f → impA f nm acc l = res
theorem EvT.of {l : List UInt8} {res : Option (T × List UInt8)} (h : ∀ f, impT (f + 1) l = res) : EvT l res := ⟨1, fun f hf => by
  obtain ⟨g, rfl⟩ : ∃ g, f = g + 1 := ⟨f - 1, by omega⟩
  exact h g⟩
theorem EvT.word {l : List UInt8} {n : Int} (h : wholeN 0 999999 (l.takeWhile alnum) = some n) : EvT l (if n < 4 then some (.mk 3 n ⟨#[]⟩ [], l.dropWhile alnum) else none) := .of fun f => by rw [impT, h]
theorem EvT.var {l : List UInt8} (h : wholeN 0 999999 (l.takeWhile alnum) = none) (h1 : isNm 65 90 (l.takeWhile alnum) = true) : EvT l (some (.mk 1 0 (baL (l.takeWhile alnum)) [], l.dropWhile alnum)) := .of fun f => by rw [impT, h]; simp only; rw [if_pos h1]
theorem EvT.bad {l : List UInt8} (h : wholeN 0 999999 (l.takeWhile alnum) = none) (h1 : isNm 65 90 (l.takeWhile alnum) = false) (h2 : isNm 97 122 (l.takeWhile alnum) = false) : EvT l none := .of fun f => by rw [impT, h]; simp only; rw [if_neg (by rw [h1]; simp), if_neg (by rw [h2]; simp)]
theorem EvT.leaf {l : List UInt8} (h : wholeN 0 999999 (l.takeWhile alnum) = none) (h1 : isNm 65 90 (l.takeWhile alnum) = false) (h2 : isNm 97 122 (l.takeWhile alnum) = true) (h3 : ¬ (l.dropWhile alnum).take 1 = [40]) :
    EvT l (some (.mk 2 0 (baL (l.takeWhile alnum)) [], l.dropWhile alnum)) := .of fun f => by rw [impT, h]; simp only; rw [if_neg (by rw [h1]; simp), if_pos h2, if_neg h3]
theorem EvT.node {l : List UInt8} (h : wholeN 0 999999 (l.takeWhile alnum) = none) (h1 : isNm 65 90 (l.takeWhile alnum) = false) (h2 : isNm 97 122 (l.takeWhile alnum) = true) (h3 : (l.dropWhile alnum).take 1 = [40])
    {res : Option (T × List UInt8)} (ha : EvA (baL (l.takeWhile alnum)) [] ((l.dropWhile alnum).drop 1) res) : EvT l res := by
  obtain ⟨f0, hf0⟩ := ha
  refine ⟨f0 + 1, fun f hf => ?_⟩
  obtain ⟨g, rfl⟩ : ∃ g, f = g + 1 := ⟨f - 1, by omega⟩
  rw [impT, h]
  simp only
  rw [if_neg (by rw [h1]; simp), if_pos h2, if_pos h3]
  exact hf0 g (by omega)
theorem EvA.none {nm : ByteArray} {acc : List T} {l : List UInt8} (h : EvT l none) : EvA nm acc l none := by
  obtain ⟨f0, hf0⟩ := h
  refine ⟨f0 + 1, fun f hf => ?_⟩
  obtain ⟨g, rfl⟩ : ∃ g, f = g + 1 := ⟨f - 1, by omega⟩
  rw [impA, hf0 g (by omega)]
theorem EvA.close {nm : ByteArray} {acc : List T} {l l1 : List UInt8} {a : T} (h : EvT l (some (a, l1))) (h1 : l1.take 1 = [41]) : EvA nm acc l (some (.mk 2 0 nm (acc ++ [a]), l1.drop 1)) := by
  obtain ⟨f0, hf0⟩ := h
  refine ⟨f0 + 1, fun f hf => ?_⟩
  obtain ⟨g, rfl⟩ : ∃ g, f = g + 1 := ⟨f - 1, by omega⟩
  rw [impA, hf0 g (by omega)]
  simp only
  rw [if_pos h1]
theorem EvA.bad {nm : ByteArray} {acc : List T} {l l1 : List UInt8} {a : T} (h : EvT l (some (a, l1))) (h1 : ¬ l1.take 1 = [41]) (h2 : ¬ l1.take 2 = [44, 32]) : EvA nm acc l .none := by
  obtain ⟨f0, hf0⟩ := h
  refine ⟨f0 + 1, fun f hf => ?_⟩
  obtain ⟨g, rfl⟩ : ∃ g, f = g + 1 := ⟨f - 1, by omega⟩
  rw [impA, hf0 g (by omega)]
  simp only
  rw [if_neg h1, if_neg h2]
theorem EvA.next {nm : ByteArray} {acc : List T} {l l1 : List UInt8} {a : T} (h : EvT l (some (a, l1))) (h1 : ¬ l1.take 1 = [41]) (h2 : l1.take 2 = [44, 32]) {res : Option (T × List UInt8)} (hr : EvA nm (acc ++ [a]) (l1.drop 2) res) : EvA nm acc l res := by
  obtain ⟨f0, hf0⟩ := h
  obtain ⟨f1, hf1⟩ := hr
  refine ⟨f0 + f1 + 1, fun f hf => ?_⟩
  obtain ⟨g, rfl⟩ : ∃ g, f = g + 1 := ⟨f - 1, by omega⟩
  rw [impA, hf0 g (by omega)]
  simp only
  rw [if_neg h1, if_pos h2]
  exact hf1 g (by omega)
theorem pre40 {w : ByteArray} : preB w ⟨#[40]⟩ = decide (w.data.toList.take 1 = [40]) := rfl
theorem pre41 {w : ByteArray} : preB w ⟨#[41]⟩ = decide (w.data.toList.take 1 = [41]) := rfl
theorem pre44 {w : ByteArray} : preB w ⟨#[44, 32]⟩ = decide (w.data.toList.take 2 = [44, 32]) := rfl
theorem cutB_yes {w p : ByteArray} (h : preB w p = true) : (cutB w p).data.toList = w.data.toList.drop p.size := by unfold cutB; rw [if_pos h, baL_list]
theorem cutB_no {w p : ByteArray} (h : preB w p = false) : cutB w p = w := by unfold cutB; rw [if_neg (by rw [h]; simp)]
theorem tw_split (p : UInt8 → Bool) (l : List UInt8) : (l.takeWhile p).length + (l.dropWhile p).length = l.length := by
  rw [← List.length_append, List.takeWhile_append_dropWhile]
theorem nm_pos {lo hi : Nat} {l : List UInt8} (h : isNm lo hi l = true) : 1 ≤ l.length := by
  cases l with
  | nil => cases h
  | cons _ _ => simp
theorem num_pos {lo hi v : Int} {l : List UInt8} (hlo : -1000000000000 < lo) (hhi : hi < 1000000000000) (h : wholeN lo hi l = some v) : 1 ≤ l.length := by
  cases l with
  | nil =>
    have h1 := ((wholeN_some hlo hhi).1 h).2
    have h2 := atoi_itoa v
    rw [h1] at h2
    cases h2
  | cons _ _ => simp
/-- The store as it was, but for the cursor. -/
theorem Away.mid {q : Nat} {a b : St} (h : Away (some q) a b) : ∃ m : St, Away (some q) a m ∧ Ext m b ∧ m.length = a.length := by
  have hl : (b.take a.length).length = a.length := by rw [List.length_take, Nat.min_eq_left h.1]
  refine ⟨b.take a.length, ⟨by omega, fun i hi hq => ?_⟩, fun i x hx => ?_, hl⟩
  · rw [List.getElem?_take, if_pos hi]
    exact h.2 i hi hq
  · rw [List.getElem?_take] at hx
    split at hx
    · exact hx
    · cases hx
theorem Src.ext {a b : St} {q : Nat} {w : ByteArray} (h : Src a q w) (hx : Ext a b) : Src b q w := hx _ _ h
theorem Src.lt {a : St} {q : Nat} {w : ByteArray} (h : Src a q w) : q < a.length := (List.getElem?_eq_some_iff.1 h).1
/-- What source.term answers. -/
def TermQ (q : Nat) (w : ByteArray) (st : St) (r : Value) (st2 : St) : Prop := ∃ (res : Option (T × List UInt8)) (w' : ByteArray), EvT w.data.toList res ∧ Src st2 q w' ∧ Away (some q) st st2 ∧ match res with
  | some (t, l') => w'.data.toList = l' ∧ l'.length < w.size ∧ ∃ ds L, r = .tuple #[.agg ds.toArray, .bool true] ∧ OwnT st2 t ds L ∧ Fresh st.length L
  | none => ∃ k n, r = .tuple #[.agg #[.int .i64 k, .int .i64 n, .string ⟨#[]⟩, .slice none 0 0], .bool false]
set_option maxHeartbeats 1000000 in
theorem term_ok : ∀ (N : Nat) (q : Nat) (w : ByteArray) (st : St), w.size < N → w.size ≤ 1073741824 → Src st q w →
    CallS Tryd.prog 11 [.pointer (some ⟨q, 0, none⟩)] st (TermQ q w st) := by
  intro N
  induction N with
  | zero => intro q w st h; omega
  | succ N ih =>
  intro q w st hN hb hs
  refine CallS_of_W [] 57 Tryd.func11 rfl rfl rfl rfl (by simp) ?_
  have hql := hs.lt
  repeat (first | (refine W_reg rfl fun G K hG hK => ?_; simp (disch := omega) only [go_sem, ↓reduceIte, Nat.reduceEqDiff, Nat.reduceAdd, Nat.reduceLeDiff, hG]; refine hK _ _ ?_; clear hK K hG G) | (refine W_end rfl fun G K hG hK => ?_; simp (disch := omega) only [go_sem, ↓reduceIte, Nat.reduceEqDiff, Nat.reduceAdd, Nat.reduceLeDiff, hG]; refine hK _ _ ?_; clear hK K hG G; repeat (first | refine thenI ?_ | refine thenE ?_ | refine thenR ?_ | refine inBI ?_ | refine inBR ?_ | refine inBS ?_ | refine inBN (by decide) ?_)) | refine W_seqS ?_ | refine W_seqC ?_ | refine W_seqB ?_ | refine W_block ?_ | (refine W_skip ?_; repeat (first | refine thenI ?_ | refine thenE ?_ | refine thenR ?_ | refine inBI ?_ | refine inBR ?_ | refine inBS ?_ | refine inBN (by decide) ?_)) | (refine W_condT ?hc ?_; (case hc => (simp (disch := omega) only [go_sem, ↓reduceIte, Nat.reduceEqDiff, Nat.reduceAdd, Nat.reduceLeDiff]; done))) | (refine W_condF ?hc ?_; (case hc => (simp (disch := omega) only [go_sem, ↓reduceIte, Nat.reduceEqDiff, Nat.reduceAdd, Nat.reduceLeDiff]; done))))
  (repeat (first | refine W_seqS ?_ | refine W_seqC ?_ | refine W_seqB ?_ | refine W_block ?_)); refine W_reg rfl fun G K hG hK => ?_; simp (disch := omega) only [go_sem, ↓reduceIte, Nat.reduceEqDiff, Nat.reduceAdd, Nat.reduceLeDiff, hG]
  refine w_call (sign_ok q w st hb hs) (by simp (disch := omega) only [go_sem, ↓reduceIte, Nat.reduceEqDiff]) ?hl ?_
  case hl => first | rfl | (simp only [go_sem, List.all_cons, List.all_nil, Bool.not_false, Bool.and_self]; done)
  rintro r_ sa ⟨rfl, s1, aw1, l1⟩; refine ⟨fun e => (by cases e), ?_⟩
  simp (disch := omega) only [go_sem, ↓reduceIte, Nat.reduceEqDiff, Nat.reduceAdd, Nat.reduceLeDiff, hG]; refine hK _ _ ?_; clear hK K hG G; repeat (first | refine thenI ?_ | refine thenE ?_ | refine thenR ?_ | refine inBI ?_ | refine inBR ?_ | refine inBS ?_ | refine inBN (by decide) ?_)
  have hsp := tw_split alnum w.data.toList
  have hwl := size_list w
  have hz1 : (baL (w.data.toList.takeWhile alnum)).size ≤ 1073741824 := by rw [baL_size]; omega
  have hz2 : (baL (w.data.toList.dropWhile alnum)).size ≤ 1073741824 := by rw [baL_size]; omega
  (repeat (first | refine W_seqS ?_ | refine W_seqC ?_ | refine W_seqB ?_ | refine W_block ?_)); refine W_reg rfl fun G K hG hK => ?_; simp (disch := omega) only [go_sem, ↓reduceIte, Nat.reduceEqDiff, Nat.reduceAdd, Nat.reduceLeDiff, hG]
  refine w_call (implParseNumber_ok (baL (w.data.toList.takeWhile alnum)) sa (by omega)) (by simp (disch := omega) only [go_sem, ↓reduceIte, Nat.reduceEqDiff]) ?hl ?_
  case hl => first | rfl | (simp only [go_sem, List.all_cons, List.all_nil, Bool.not_false, Bool.and_self]; done)
  rintro r_ sb ⟨x2, hq⟩; refine ⟨fun e => (by cases e), ?_⟩
  rw [baL_list] at hq
  have s2 := s1.ext x2
  have aw2 : Away (some q) st sb := aw1.trans (Away.of_ext (k := some q) x2) (.inl rfl)
  cases hn : wholeN 0 999999 (w.data.toList.takeWhile alnum) with
  | some v =>
    rw [hn] at hq
    simp only [NumQ] at hq
    subst hq
    have hps := num_pos (by omega) (by omega) hn
    simp (disch := omega) only [go_sem, ↓reduceIte, Nat.reduceEqDiff, Nat.reduceAdd, Nat.reduceLeDiff, hG]; refine hK _ _ ?_; clear hK K hG G; repeat (first | refine thenI ?_ | refine thenE ?_ | refine thenR ?_ | refine inBI ?_ | refine inBR ?_ | refine inBS ?_ | refine inBN (by decide) ?_)
    by_cases h4 : v < 4
    · have c1 : decide (v < 4) = true := decide_eq_true h4
      repeat (first | (refine W_reg rfl fun G K hG hK => ?_; simp (disch := omega) only [go_sem, ↓reduceIte, Nat.reduceEqDiff, Nat.reduceAdd, Nat.reduceLeDiff, hG, c1]; refine hK _ _ ?_; clear hK K hG G) | (refine W_end rfl fun G K hG hK => ?_; simp (disch := omega) only [go_sem, ↓reduceIte, Nat.reduceEqDiff, Nat.reduceAdd, Nat.reduceLeDiff, hG, c1]; refine hK _ _ ?_; clear hK K hG G; repeat (first | refine thenI ?_ | refine thenE ?_ | refine thenR ?_ | refine inBI ?_ | refine inBR ?_ | refine inBS ?_ | refine inBN (by decide) ?_)) | refine W_seqS ?_ | refine W_seqC ?_ | refine W_seqB ?_ | refine W_block ?_ | (refine W_skip ?_; repeat (first | refine thenI ?_ | refine thenE ?_ | refine thenR ?_ | refine inBI ?_ | refine inBR ?_ | refine inBS ?_ | refine inBN (by decide) ?_)) | (refine W_condT ?hc ?_; (case hc => (simp (disch := omega) only [go_sem, ↓reduceIte, Nat.reduceEqDiff, Nat.reduceAdd, Nat.reduceLeDiff, c1]; done))) | (refine W_condF ?hc ?_; (case hc => (simp (disch := omega) only [go_sem, ↓reduceIte, Nat.reduceEqDiff, Nat.reduceAdd, Nat.reduceLeDiff, c1]; done))))
      refine W_ret ?_; try (repeat (first | refine thenI ?_ | refine thenE ?_ | refine thenR ?_ | refine inBI ?_ | refine inBR ?_ | refine inBS ?_ | refine inBN (by decide) ?_))
      refine finC2 (.inl rfl) (by (simp (disch := omega) only [go_sem, ↓reduceIte, Nat.reduceEqDiff, Nat.reduceAdd, Nat.reduceLeDiff]); try rfl) (by (simp (disch := omega) only [go_sem, ↓reduceIte, Nat.reduceEqDiff, Nat.reduceAdd, Nat.reduceLeDiff]); try rfl) rfl ⟨_, _, .word hn, s2, aw2, ?_⟩
      rw [if_pos h4]
      exact ⟨baL_list _, by omega, [_, _, _, _], [], rfl, .nil _ _ _, .nil _⟩
    · have c1 : decide (v < 4) = false := decide_eq_false h4
      repeat (first | (refine W_reg rfl fun G K hG hK => ?_; simp (disch := omega) only [go_sem, ↓reduceIte, Nat.reduceEqDiff, Nat.reduceAdd, Nat.reduceLeDiff, hG, c1]; refine hK _ _ ?_; clear hK K hG G) | (refine W_end rfl fun G K hG hK => ?_; simp (disch := omega) only [go_sem, ↓reduceIte, Nat.reduceEqDiff, Nat.reduceAdd, Nat.reduceLeDiff, hG, c1]; refine hK _ _ ?_; clear hK K hG G; repeat (first | refine thenI ?_ | refine thenE ?_ | refine thenR ?_ | refine inBI ?_ | refine inBR ?_ | refine inBS ?_ | refine inBN (by decide) ?_)) | refine W_seqS ?_ | refine W_seqC ?_ | refine W_seqB ?_ | refine W_block ?_ | (refine W_skip ?_; repeat (first | refine thenI ?_ | refine thenE ?_ | refine thenR ?_ | refine inBI ?_ | refine inBR ?_ | refine inBS ?_ | refine inBN (by decide) ?_)) | (refine W_condT ?hc ?_; (case hc => (simp (disch := omega) only [go_sem, ↓reduceIte, Nat.reduceEqDiff, Nat.reduceAdd, Nat.reduceLeDiff, c1]; done))) | (refine W_condF ?hc ?_; (case hc => (simp (disch := omega) only [go_sem, ↓reduceIte, Nat.reduceEqDiff, Nat.reduceAdd, Nat.reduceLeDiff, c1]; done))))
      refine W_ret ?_; try (repeat (first | refine thenI ?_ | refine thenE ?_ | refine thenR ?_ | refine inBI ?_ | refine inBR ?_ | refine inBS ?_ | refine inBN (by decide) ?_))
      refine finC2 (.inl rfl) (by (simp (disch := omega) only [go_sem, ↓reduceIte, Nat.reduceEqDiff, Nat.reduceAdd, Nat.reduceLeDiff]); try rfl) (by (simp (disch := omega) only [go_sem, ↓reduceIte, Nat.reduceEqDiff, Nat.reduceAdd, Nat.reduceLeDiff]); try rfl) rfl ⟨_, _, .word hn, s2, aw2, ?_⟩
      rw [if_neg h4]
      exact ⟨_, _, rfl⟩
  | none =>
  rw [hn] at hq
  simp only [NumQ] at hq
  subst hq
  simp (disch := omega) only [go_sem, ↓reduceIte, Nat.reduceEqDiff, Nat.reduceAdd, Nat.reduceLeDiff, hG]; refine hK _ _ ?_; clear hK K hG G; repeat (first | refine thenI ?_ | refine thenE ?_ | refine thenR ?_ | refine inBI ?_ | refine inBR ?_ | refine inBS ?_ | refine inBN (by decide) ?_)
  repeat (first | (refine W_reg rfl fun G K hG hK => ?_; simp (disch := omega) only [go_sem, ↓reduceIte, Nat.reduceEqDiff, Nat.reduceAdd, Nat.reduceLeDiff, hG]; refine hK _ _ ?_; clear hK K hG G) | (refine W_end rfl fun G K hG hK => ?_; simp (disch := omega) only [go_sem, ↓reduceIte, Nat.reduceEqDiff, Nat.reduceAdd, Nat.reduceLeDiff, hG]; refine hK _ _ ?_; clear hK K hG G; repeat (first | refine thenI ?_ | refine thenE ?_ | refine thenR ?_ | refine inBI ?_ | refine inBR ?_ | refine inBS ?_ | refine inBN (by decide) ?_)) | refine W_seqS ?_ | refine W_seqC ?_ | refine W_seqB ?_ | refine W_block ?_ | (refine W_skip ?_; repeat (first | refine thenI ?_ | refine thenE ?_ | refine thenR ?_ | refine inBI ?_ | refine inBR ?_ | refine inBS ?_ | refine inBN (by decide) ?_)) | (refine W_condT ?hc ?_; (case hc => (simp (disch := omega) only [go_sem, ↓reduceIte, Nat.reduceEqDiff, Nat.reduceAdd, Nat.reduceLeDiff]; done))) | (refine W_condF ?hc ?_; (case hc => (simp (disch := omega) only [go_sem, ↓reduceIte, Nat.reduceEqDiff, Nat.reduceAdd, Nat.reduceLeDiff]; done))))
  (repeat (first | refine W_seqS ?_ | refine W_seqC ?_ | refine W_seqB ?_ | refine W_block ?_)); refine W_reg rfl fun G K hG hK => ?_; simp (disch := omega) only [go_sem, ↓reduceIte, Nat.reduceEqDiff, Nat.reduceAdd, Nat.reduceLeDiff, hG]
  refine w_call (implIsVar_ok (baL (w.data.toList.takeWhile alnum)) sb) (by simp (disch := omega) only [go_sem, ↓reduceIte, Nat.reduceEqDiff]) ?hl ?_
  case hl => first | rfl | (simp only [go_sem, List.all_cons, List.all_nil, Bool.not_false, Bool.and_self]; done)
  rintro r_ sb ⟨rfl, rfl⟩; refine ⟨fun e => (by cases e), ?_⟩
  have hv : isVar (baL (w.data.toList.takeWhile alnum)) = isNm 65 90 (w.data.toList.takeWhile alnum) := by unfold isVar; rw [baL_list]
  have hm : isName (baL (w.data.toList.takeWhile alnum)) = isNm 97 122 (w.data.toList.takeWhile alnum) := by unfold isName; rw [baL_list]
  rw [hv]
  cases hv1 : isNm 65 90 (w.data.toList.takeWhile alnum) with
  | true =>
    have hps := nm_pos hv1
    simp (disch := omega) only [go_sem, ↓reduceIte, Nat.reduceEqDiff, Nat.reduceAdd, Nat.reduceLeDiff, hG]; refine hK _ _ ?_; clear hK K hG G; repeat (first | refine thenI ?_ | refine thenE ?_ | refine thenR ?_ | refine inBI ?_ | refine inBR ?_ | refine inBS ?_ | refine inBN (by decide) ?_)
    repeat (first | (refine W_reg rfl fun G K hG hK => ?_; simp (disch := omega) only [go_sem, ↓reduceIte, Nat.reduceEqDiff, Nat.reduceAdd, Nat.reduceLeDiff, hG]; refine hK _ _ ?_; clear hK K hG G) | (refine W_end rfl fun G K hG hK => ?_; simp (disch := omega) only [go_sem, ↓reduceIte, Nat.reduceEqDiff, Nat.reduceAdd, Nat.reduceLeDiff, hG]; refine hK _ _ ?_; clear hK K hG G; repeat (first | refine thenI ?_ | refine thenE ?_ | refine thenR ?_ | refine inBI ?_ | refine inBR ?_ | refine inBS ?_ | refine inBN (by decide) ?_)) | refine W_seqS ?_ | refine W_seqC ?_ | refine W_seqB ?_ | refine W_block ?_ | (refine W_skip ?_; repeat (first | refine thenI ?_ | refine thenE ?_ | refine thenR ?_ | refine inBI ?_ | refine inBR ?_ | refine inBS ?_ | refine inBN (by decide) ?_)) | (refine W_condT ?hc ?_; (case hc => (simp (disch := omega) only [go_sem, ↓reduceIte, Nat.reduceEqDiff, Nat.reduceAdd, Nat.reduceLeDiff]; done))) | (refine W_condF ?hc ?_; (case hc => (simp (disch := omega) only [go_sem, ↓reduceIte, Nat.reduceEqDiff, Nat.reduceAdd, Nat.reduceLeDiff]; done))))
    refine W_ret ?_; try (repeat (first | refine thenI ?_ | refine thenE ?_ | refine thenR ?_ | refine inBI ?_ | refine inBR ?_ | refine inBS ?_ | refine inBN (by decide) ?_))
    refine finC2 (.inl rfl) (by (simp (disch := omega) only [go_sem, ↓reduceIte, Nat.reduceEqDiff, Nat.reduceAdd, Nat.reduceLeDiff]); try rfl) (by (simp (disch := omega) only [go_sem, ↓reduceIte, Nat.reduceEqDiff, Nat.reduceAdd, Nat.reduceLeDiff]); try rfl) rfl ⟨_, _, .var hn hv1, s2, aw2, baL_list _, by omega, [_, _, _, _], [], rfl, .nil _ _ _, .nil _⟩
  | false =>
  simp (disch := omega) only [go_sem, ↓reduceIte, Nat.reduceEqDiff, Nat.reduceAdd, Nat.reduceLeDiff, hG]; refine hK _ _ ?_; clear hK K hG G; repeat (first | refine thenI ?_ | refine thenE ?_ | refine thenR ?_ | refine inBI ?_ | refine inBR ?_ | refine inBS ?_ | refine inBN (by decide) ?_)
  repeat (first | (refine W_reg rfl fun G K hG hK => ?_; simp (disch := omega) only [go_sem, ↓reduceIte, Nat.reduceEqDiff, Nat.reduceAdd, Nat.reduceLeDiff, hG]; refine hK _ _ ?_; clear hK K hG G) | (refine W_end rfl fun G K hG hK => ?_; simp (disch := omega) only [go_sem, ↓reduceIte, Nat.reduceEqDiff, Nat.reduceAdd, Nat.reduceLeDiff, hG]; refine hK _ _ ?_; clear hK K hG G; repeat (first | refine thenI ?_ | refine thenE ?_ | refine thenR ?_ | refine inBI ?_ | refine inBR ?_ | refine inBS ?_ | refine inBN (by decide) ?_)) | refine W_seqS ?_ | refine W_seqC ?_ | refine W_seqB ?_ | refine W_block ?_ | (refine W_skip ?_; repeat (first | refine thenI ?_ | refine thenE ?_ | refine thenR ?_ | refine inBI ?_ | refine inBR ?_ | refine inBS ?_ | refine inBN (by decide) ?_)) | (refine W_condT ?hc ?_; (case hc => (simp (disch := omega) only [go_sem, ↓reduceIte, Nat.reduceEqDiff, Nat.reduceAdd, Nat.reduceLeDiff]; done))) | (refine W_condF ?hc ?_; (case hc => (simp (disch := omega) only [go_sem, ↓reduceIte, Nat.reduceEqDiff, Nat.reduceAdd, Nat.reduceLeDiff]; done))))
  (repeat (first | refine W_seqS ?_ | refine W_seqC ?_ | refine W_seqB ?_ | refine W_block ?_)); refine W_reg rfl fun G K hG hK => ?_; simp (disch := omega) only [go_sem, ↓reduceIte, Nat.reduceEqDiff, Nat.reduceAdd, Nat.reduceLeDiff, hG]
  refine w_call (implIsName_ok (baL (w.data.toList.takeWhile alnum)) sb) (by simp (disch := omega) only [go_sem, ↓reduceIte, Nat.reduceEqDiff]) ?hl ?_
  case hl => first | rfl | (simp only [go_sem, List.all_cons, List.all_nil, Bool.not_false, Bool.and_self]; done)
  rintro r_ sb ⟨rfl, rfl⟩; refine ⟨fun e => (by cases e), ?_⟩
  rw [hm]
  cases hm1 : isNm 97 122 (w.data.toList.takeWhile alnum) with
  | false =>
    simp (disch := omega) only [go_sem, ↓reduceIte, Nat.reduceEqDiff, Nat.reduceAdd, Nat.reduceLeDiff, hG]; refine hK _ _ ?_; clear hK K hG G; repeat (first | refine thenI ?_ | refine thenE ?_ | refine thenR ?_ | refine inBI ?_ | refine inBR ?_ | refine inBS ?_ | refine inBN (by decide) ?_)
    repeat (first | (refine W_reg rfl fun G K hG hK => ?_; simp (disch := omega) only [go_sem, ↓reduceIte, Nat.reduceEqDiff, Nat.reduceAdd, Nat.reduceLeDiff, hG]; refine hK _ _ ?_; clear hK K hG G) | (refine W_end rfl fun G K hG hK => ?_; simp (disch := omega) only [go_sem, ↓reduceIte, Nat.reduceEqDiff, Nat.reduceAdd, Nat.reduceLeDiff, hG]; refine hK _ _ ?_; clear hK K hG G; repeat (first | refine thenI ?_ | refine thenE ?_ | refine thenR ?_ | refine inBI ?_ | refine inBR ?_ | refine inBS ?_ | refine inBN (by decide) ?_)) | refine W_seqS ?_ | refine W_seqC ?_ | refine W_seqB ?_ | refine W_block ?_ | (refine W_skip ?_; repeat (first | refine thenI ?_ | refine thenE ?_ | refine thenR ?_ | refine inBI ?_ | refine inBR ?_ | refine inBS ?_ | refine inBN (by decide) ?_)) | (refine W_condT ?hc ?_; (case hc => (simp (disch := omega) only [go_sem, ↓reduceIte, Nat.reduceEqDiff, Nat.reduceAdd, Nat.reduceLeDiff]; done))) | (refine W_condF ?hc ?_; (case hc => (simp (disch := omega) only [go_sem, ↓reduceIte, Nat.reduceEqDiff, Nat.reduceAdd, Nat.reduceLeDiff]; done))))
    refine W_ret ?_; try (repeat (first | refine thenI ?_ | refine thenE ?_ | refine thenR ?_ | refine inBI ?_ | refine inBR ?_ | refine inBS ?_ | refine inBN (by decide) ?_))
    refine finC2 (.inl rfl) (by (simp (disch := omega) only [go_sem, ↓reduceIte, Nat.reduceEqDiff, Nat.reduceAdd, Nat.reduceLeDiff]); try rfl) (by (simp (disch := omega) only [go_sem, ↓reduceIte, Nat.reduceEqDiff, Nat.reduceAdd, Nat.reduceLeDiff]); try rfl) rfl ⟨_, _, .bad hn hv1 hm1, s2, aw2, _, _, rfl⟩
  | true =>
  have hps := nm_pos hm1
  simp (disch := omega) only [go_sem, ↓reduceIte, Nat.reduceEqDiff, Nat.reduceAdd, Nat.reduceLeDiff, hG]; refine hK _ _ ?_; clear hK K hG G; repeat (first | refine thenI ?_ | refine thenE ?_ | refine thenR ?_ | refine inBI ?_ | refine inBR ?_ | refine inBS ?_ | refine inBN (by decide) ?_)
  repeat (first | (refine W_reg rfl fun G K hG hK => ?_; simp (disch := omega) only [go_sem, ↓reduceIte, Nat.reduceEqDiff, Nat.reduceAdd, Nat.reduceLeDiff, hG]; refine hK _ _ ?_; clear hK K hG G) | (refine W_end rfl fun G K hG hK => ?_; simp (disch := omega) only [go_sem, ↓reduceIte, Nat.reduceEqDiff, Nat.reduceAdd, Nat.reduceLeDiff, hG]; refine hK _ _ ?_; clear hK K hG G; repeat (first | refine thenI ?_ | refine thenE ?_ | refine thenR ?_ | refine inBI ?_ | refine inBR ?_ | refine inBS ?_ | refine inBN (by decide) ?_)) | refine W_seqS ?_ | refine W_seqC ?_ | refine W_seqB ?_ | refine W_block ?_ | (refine W_skip ?_; repeat (first | refine thenI ?_ | refine thenE ?_ | refine thenR ?_ | refine inBI ?_ | refine inBR ?_ | refine inBS ?_ | refine inBN (by decide) ?_)) | (refine W_condT ?hc ?_; (case hc => (simp (disch := omega) only [go_sem, ↓reduceIte, Nat.reduceEqDiff, Nat.reduceAdd, Nat.reduceLeDiff]; done))) | (refine W_condF ?hc ?_; (case hc => (simp (disch := omega) only [go_sem, ↓reduceIte, Nat.reduceEqDiff, Nat.reduceAdd, Nat.reduceLeDiff]; done))))
  (repeat (first | refine W_seqS ?_ | refine W_seqC ?_ | refine W_seqB ?_ | refine W_block ?_)); refine W_reg rfl fun G K hG hK => ?_; simp (disch := omega) only [go_sem, ↓reduceIte, Nat.reduceEqDiff, Nat.reduceAdd, Nat.reduceLeDiff, hG]
  refine w_call (take_ok q (baL (w.data.toList.dropWhile alnum)) ⟨#[40]⟩ sb hz2 (by decide) s2) (by simp (disch := omega) only [go_sem, ↓reduceIte, Nat.reduceEqDiff]) ?hl ?_
  case hl => first | rfl | (simp only [go_sem, List.all_cons, List.all_nil, Bool.not_false, Bool.and_self]; done)
  rintro r_ sc ⟨rfl, s3, aw3, l3⟩; refine ⟨fun e => (by cases e), ?_⟩
  have aw3 : Away (some q) st sc := aw2.trans aw3 (.inl rfl)
  cases hp : preB (baL (w.data.toList.dropWhile alnum)) ⟨#[40]⟩ with
  | false =>
    have hp2 : ¬ (w.data.toList.dropWhile alnum).take 1 = [40] := by
      rw [pre40, baL_list] at hp
      exact of_decide_eq_false hp
    rw [cutB_no hp] at s3
    simp (disch := omega) only [go_sem, ↓reduceIte, Nat.reduceEqDiff, Nat.reduceAdd, Nat.reduceLeDiff, hG]; refine hK _ _ ?_; clear hK K hG G; repeat (first | refine thenI ?_ | refine thenE ?_ | refine thenR ?_ | refine inBI ?_ | refine inBR ?_ | refine inBS ?_ | refine inBN (by decide) ?_)
    repeat (first | (refine W_reg rfl fun G K hG hK => ?_; simp (disch := omega) only [go_sem, ↓reduceIte, Nat.reduceEqDiff, Nat.reduceAdd, Nat.reduceLeDiff, hG]; refine hK _ _ ?_; clear hK K hG G) | (refine W_end rfl fun G K hG hK => ?_; simp (disch := omega) only [go_sem, ↓reduceIte, Nat.reduceEqDiff, Nat.reduceAdd, Nat.reduceLeDiff, hG]; refine hK _ _ ?_; clear hK K hG G; repeat (first | refine thenI ?_ | refine thenE ?_ | refine thenR ?_ | refine inBI ?_ | refine inBR ?_ | refine inBS ?_ | refine inBN (by decide) ?_)) | refine W_seqS ?_ | refine W_seqC ?_ | refine W_seqB ?_ | refine W_block ?_ | (refine W_skip ?_; repeat (first | refine thenI ?_ | refine thenE ?_ | refine thenR ?_ | refine inBI ?_ | refine inBR ?_ | refine inBS ?_ | refine inBN (by decide) ?_)) | (refine W_condT ?hc ?_; (case hc => (simp (disch := omega) only [go_sem, ↓reduceIte, Nat.reduceEqDiff, Nat.reduceAdd, Nat.reduceLeDiff]; done))) | (refine W_condF ?hc ?_; (case hc => (simp (disch := omega) only [go_sem, ↓reduceIte, Nat.reduceEqDiff, Nat.reduceAdd, Nat.reduceLeDiff]; done))))
    refine W_ret ?_; try (repeat (first | refine thenI ?_ | refine thenE ?_ | refine thenR ?_ | refine inBI ?_ | refine inBR ?_ | refine inBS ?_ | refine inBN (by decide) ?_))
    refine finC2 (.inl rfl) (by (simp (disch := omega) only [go_sem, ↓reduceIte, Nat.reduceEqDiff, Nat.reduceAdd, Nat.reduceLeDiff]); try rfl) (by (simp (disch := omega) only [go_sem, ↓reduceIte, Nat.reduceEqDiff, Nat.reduceAdd, Nat.reduceLeDiff]); try rfl) rfl ⟨_, _, .leaf hn hv1 hm1 hp2, s3, aw3, baL_list _, by omega, [_, _, _, _], [], rfl, .nil _ _ _, .nil _⟩
  | true =>
  have hp2 : (w.data.toList.dropWhile alnum).take 1 = [40] := by
    rw [pre40, baL_list] at hp
    exact of_decide_eq_true hp
  have hcl := cutB_yes hp
  rw [baL_list, show (⟨#[40]⟩ : ByteArray).size = 1 from rfl] at hcl
  have hd1 : 1 ≤ (w.data.toList.dropWhile alnum).length := by
    have := congrArg List.length hp2
    simp only [List.length_take, List.length_cons, List.length_nil] at this
    omega
  have hsz : (cutB (baL (w.data.toList.dropWhile alnum)) ⟨#[40]⟩).size + 2 ≤ w.size := by
    rw [size_list, hcl, List.length_drop]
    omega
  simp (disch := omega) only [go_sem, ↓reduceIte, Nat.reduceEqDiff, Nat.reduceAdd, Nat.reduceLeDiff, hG]; refine hK _ _ ?_; clear hK K hG G; repeat (first | refine thenI ?_ | refine thenE ?_ | refine thenR ?_ | refine inBI ?_ | refine inBR ?_ | refine inBS ?_ | refine inBN (by decide) ?_)
  obtain ⟨nm, hnm⟩ : ∃ nm, nm = baL (w.data.toList.takeWhile alnum) := ⟨_, rfl⟩
  have hnf := hnm.symm
  repeat (first | (refine W_reg rfl fun G K hG hK => ?_; simp (disch := omega) only [go_sem, ↓reduceIte, Nat.reduceEqDiff, Nat.reduceAdd, Nat.reduceLeDiff, hG, hnf]; refine hK _ _ ?_; clear hK K hG G) | (refine W_end rfl fun G K hG hK => ?_; simp (disch := omega) only [go_sem, ↓reduceIte, Nat.reduceEqDiff, Nat.reduceAdd, Nat.reduceLeDiff, hG, hnf]; refine hK _ _ ?_; clear hK K hG G; repeat (first | refine thenI ?_ | refine thenE ?_ | refine thenR ?_ | refine inBI ?_ | refine inBR ?_ | refine inBS ?_ | refine inBN (by decide) ?_)) | refine W_seqS ?_ | refine W_seqC ?_ | refine W_seqB ?_ | refine W_block ?_ | (refine W_skip ?_; repeat (first | refine thenI ?_ | refine thenE ?_ | refine thenR ?_ | refine inBI ?_ | refine inBR ?_ | refine inBS ?_ | refine inBN (by decide) ?_)) | (refine W_condT ?hc ?_; (case hc => (simp (disch := omega) only [go_sem, ↓reduceIte, Nat.reduceEqDiff, Nat.reduceAdd, Nat.reduceLeDiff, hnf]; done))) | (refine W_condF ?hc ?_; (case hc => (simp (disch := omega) only [go_sem, ↓reduceIte, Nat.reduceEqDiff, Nat.reduceAdd, Nat.reduceLeDiff, hnf]; done))))
  refine W_loop (fun d fr st' => ∃ (j : Nat) (acc : List T) (r : Value) (L : List Nat) (u : ByteArray), d = w.size - j ∧ j ≤ w.size ∧ (Src st' q u) ∧ (Away (some q) st st') ∧ (Sl st' acc r L) ∧ (Fresh st.length L) ∧ (u.size + j + 2 ≤ w.size) ∧ (acc.length ≤ j) ∧ ((∀ res, EvA nm acc u.data.toList res → EvT w.data.toList res)) ∧ (fr.env 0 = .pointer (some ⟨q, 0, none⟩)) ∧ (fr.env 2 = .pointer (some ⟨2, 0, some 1⟩)) ∧ (fr.env 7 = .pointer (some ⟨7, 0, some 1⟩)) ∧ ((fr.loc 2).1 = 1 ∧ (fr.loc 2).2.length = 4) ∧ (fr.loc 7 = (1, [.int .i64 2, .int .i64 0, .string nm, r]))) (w.size) ?_ ?_
  · exact ⟨0, [], _, _, _, by omega, by omega, s3, aw3, Sl.nil _, .nil _, by omega, by simp, fun res h => .node hn hv1 hm1 hp2 (by rw [← hnm, ← hcl]; exact h), (by (simp (disch := omega) only [go_sem, ↓reduceIte, Nat.reduceEqDiff, Nat.reduceAdd, Nat.reduceLeDiff, hnf]); try rfl), (by (simp (disch := omega) only [go_sem, ↓reduceIte, Nat.reduceEqDiff, Nat.reduceAdd, Nat.reduceLeDiff, hnf]); try rfl), (by (simp (disch := omega) only [go_sem, ↓reduceIte, Nat.reduceEqDiff, Nat.reduceAdd, Nat.reduceLeDiff, hnf]); try rfl), ⟨(by (simp (disch := omega) only [go_sem, ↓reduceIte, Nat.reduceEqDiff, Nat.reduceAdd, Nat.reduceLeDiff, hnf]); try rfl), (by (simp (disch := omega) only [go_sem, ↓reduceIte, Nat.reduceEqDiff, Nat.reduceAdd, Nat.reduceLeDiff, hnf]); try rfl)⟩, (by (simp (disch := omega) only [go_sem, ↓reduceIte, Nat.reduceEqDiff, Nat.reduceAdd, Nat.reduceLeDiff, hnf]); try rfl)⟩
  rintro d ⟨env, loc⟩ st' ⟨j, acc, r, L, u, hd, hj, hsrc, haw, hown, hfr, hlen, hacc, hE, e0, e2, e7, ⟨l2, l2'⟩, l7⟩
  simp only at e0 e2 e7 l2 l2' l7
  have ol := hown.loc
  have ok := hown.okv
  have oc := hown.cells
  have hL1 := hown.lt
  have hst := haw.1
  repeat (first | (refine W_reg rfl fun G K hG hK => ?_; simp (disch := omega) only [go_sem, ↓reduceIte, Nat.reduceEqDiff, Nat.reduceAdd, Nat.reduceLeDiff, hG, e0, e2, e7, l2, l2', l7]; refine hK _ _ ?_; clear hK K hG G) | (refine W_end rfl fun G K hG hK => ?_; simp (disch := omega) only [go_sem, ↓reduceIte, Nat.reduceEqDiff, Nat.reduceAdd, Nat.reduceLeDiff, hG, e0, e2, e7, l2, l2', l7]; refine hK _ _ ?_; clear hK K hG G; repeat (first | refine thenI ?_ | refine thenE ?_ | refine thenR ?_ | refine inBI ?_ | refine inBR ?_ | refine inBS ?_ | refine inBN (by decide) ?_)) | refine W_seqS ?_ | refine W_seqC ?_ | refine W_seqB ?_ | refine W_block ?_ | (refine W_skip ?_; repeat (first | refine thenI ?_ | refine thenE ?_ | refine thenR ?_ | refine inBI ?_ | refine inBR ?_ | refine inBS ?_ | refine inBN (by decide) ?_)) | (refine W_condT ?hc ?_; (case hc => (simp (disch := omega) only [go_sem, ↓reduceIte, Nat.reduceEqDiff, Nat.reduceAdd, Nat.reduceLeDiff, e0, e2, e7, l2, l2', l7]; done))) | (refine W_condF ?hc ?_; (case hc => (simp (disch := omega) only [go_sem, ↓reduceIte, Nat.reduceEqDiff, Nat.reduceAdd, Nat.reduceLeDiff, e0, e2, e7, l2, l2', l7]; done))))
  (repeat (first | refine W_seqS ?_ | refine W_seqC ?_ | refine W_seqB ?_ | refine W_block ?_)); refine W_reg rfl fun G K hG hK => ?_; simp (disch := omega) only [go_sem, ↓reduceIte, Nat.reduceEqDiff, Nat.reduceAdd, Nat.reduceLeDiff, hG, e0, e2, e7, l2, l2', l7]
  refine w_call (ih q u st' (by omega) (by omega) hsrc) (by simp (disch := omega) only [go_sem, ↓reduceIte, Nat.reduceEqDiff, e0, e2, e7, l2, l2', l7]) ?hl ?_
  case hl => first | rfl | (simp only [go_sem, List.all_cons, List.all_nil, Bool.not_false, Bool.and_self, e0, e2, e7, l2, l2', l7]; done)
  rintro r_ sd ⟨res, u1, hev, hs1, ha1, hm1'⟩; refine ⟨fun e => (by cases e), ?_⟩
  have aw4 : Away (some q) st sd := haw.trans ha1 (.inl rfl)
  cases res with
  | none =>
    obtain ⟨k0, n0, rfl⟩ := hm1'
    simp (disch := omega) only [go_sem, ↓reduceIte, Nat.reduceEqDiff, Nat.reduceAdd, Nat.reduceLeDiff, hG, e0, e2, e7, l2, l2', l7]; refine hK _ _ ?_; clear hK K hG G; repeat (first | refine thenI ?_ | refine thenE ?_ | refine thenR ?_ | refine inBI ?_ | refine inBR ?_ | refine inBS ?_ | refine inBN (by decide) ?_)
    repeat (first | (refine W_reg rfl fun G K hG hK => ?_; simp (disch := omega) only [go_sem, ↓reduceIte, Nat.reduceEqDiff, Nat.reduceAdd, Nat.reduceLeDiff, hG, e0, e2, e7, l2, l2', l7]; refine hK _ _ ?_; clear hK K hG G) | (refine W_end rfl fun G K hG hK => ?_; simp (disch := omega) only [go_sem, ↓reduceIte, Nat.reduceEqDiff, Nat.reduceAdd, Nat.reduceLeDiff, hG, e0, e2, e7, l2, l2', l7]; refine hK _ _ ?_; clear hK K hG G; repeat (first | refine thenI ?_ | refine thenE ?_ | refine thenR ?_ | refine inBI ?_ | refine inBR ?_ | refine inBS ?_ | refine inBN (by decide) ?_)) | refine W_seqS ?_ | refine W_seqC ?_ | refine W_seqB ?_ | refine W_block ?_ | (refine W_skip ?_; repeat (first | refine thenI ?_ | refine thenE ?_ | refine thenR ?_ | refine inBI ?_ | refine inBR ?_ | refine inBS ?_ | refine inBN (by decide) ?_)) | (refine W_condT ?hc ?_; (case hc => (simp (disch := omega) only [go_sem, ↓reduceIte, Nat.reduceEqDiff, Nat.reduceAdd, Nat.reduceLeDiff, e0, e2, e7, l2, l2', l7]; done))) | (refine W_condF ?hc ?_; (case hc => (simp (disch := omega) only [go_sem, ↓reduceIte, Nat.reduceEqDiff, Nat.reduceAdd, Nat.reduceLeDiff, e0, e2, e7, l2, l2', l7]; done))))
    refine W_ret ?_; try (repeat (first | refine thenI ?_ | refine thenE ?_ | refine thenR ?_ | refine inBI ?_ | refine inBR ?_ | refine inBS ?_ | refine inBN (by decide) ?_))
    refine finC2 (.inl rfl) (by (simp (disch := omega) only [go_sem, ↓reduceIte, Nat.reduceEqDiff, Nat.reduceAdd, Nat.reduceLeDiff, e0, e2, e7, l2, l2', l7]); try rfl) (by (simp (disch := omega) only [go_sem, ↓reduceIte, Nat.reduceEqDiff, Nat.reduceAdd, Nat.reduceLeDiff, e0, e2, e7, l2, l2', l7]); try rfl) rfl ⟨_, _, hE _ (.none hev), hs1, aw4, _, _, rfl⟩
  | some p1 =>
  obtain ⟨a, l1'⟩ := p1
  obtain ⟨rfl, hlt, ds, Lx, rfl, hox, hfx⟩ := hm1'
  obtain ⟨k1, n1, m1, z1, rfl, b1, b2, b3⟩ := hox.args_cells
  have hu1 := size_list u1
  rw [← hu1] at hlt
  simp (disch := omega) only [go_sem, ↓reduceIte, Nat.reduceEqDiff, Nat.reduceAdd, Nat.reduceLeDiff, hG, e0, e2, e7, l2, l2', l7, b1, b2, b3]; refine hK _ _ ?_; clear hK K hG G; repeat (first | refine thenI ?_ | refine thenE ?_ | refine thenR ?_ | refine inBI ?_ | refine inBR ?_ | refine inBS ?_ | refine inBN (by decide) ?_)
  obtain ⟨mid, ham, hem, hml⟩ := ha1.mid
  have hown2 : Sl mid acc r L := hown.away ham (n := st.length) (m := st'.length) (fun i hi => ⟨hfr.2 i hi, hL1 i hi⟩) (fun x hx => by cases hx; exact .inl hql)
  obtain ⟨r', se, L', hap, hown', hfr', hl3, hoth⟩ := Own.step hown2 hfr (by omega) hem hox (by rw [hml]; exact hfx) (by omega)
  have hownS : Sl se (acc ++ [a]) r' L' := hown'
  have ol' := hownS.loc
  have ok' := hownS.okv
  have oc' := hownS.cells
  have s5 : Src se q u1 := (hoth q hql).trans hs1
  have aw5 : Away (some q) st se := ⟨by have := aw4.1; omega, fun i hi hne => (hoth i hi).trans (aw4.2 i hi hne)⟩
  repeat (first | (refine W_reg rfl fun G K hG hK => ?_; simp (disch := omega) only [go_sem, ↓reduceIte, Nat.reduceEqDiff, Nat.reduceAdd, Nat.reduceLeDiff, hG, e0, e2, e7, l2, l2', l7, b1, b2, b3, ol, ok, oc, w_append, hap, ol', ok', oc']; refine hK _ _ ?_; clear hK K hG G) | (refine W_end rfl fun G K hG hK => ?_; simp (disch := omega) only [go_sem, ↓reduceIte, Nat.reduceEqDiff, Nat.reduceAdd, Nat.reduceLeDiff, hG, e0, e2, e7, l2, l2', l7, b1, b2, b3, ol, ok, oc, w_append, hap, ol', ok', oc']; refine hK _ _ ?_; clear hK K hG G; repeat (first | refine thenI ?_ | refine thenE ?_ | refine thenR ?_ | refine inBI ?_ | refine inBR ?_ | refine inBS ?_ | refine inBN (by decide) ?_)) | refine W_seqS ?_ | refine W_seqC ?_ | refine W_seqB ?_ | refine W_block ?_ | (refine W_skip ?_; repeat (first | refine thenI ?_ | refine thenE ?_ | refine thenR ?_ | refine inBI ?_ | refine inBR ?_ | refine inBS ?_ | refine inBN (by decide) ?_)) | (refine W_condT ?hc ?_; (case hc => (simp (disch := omega) only [go_sem, ↓reduceIte, Nat.reduceEqDiff, Nat.reduceAdd, Nat.reduceLeDiff, e0, e2, e7, l2, l2', l7, b1, b2, b3, ol, ok, oc, w_append, hap, ol', ok', oc']; done))) | (refine W_condF ?hc ?_; (case hc => (simp (disch := omega) only [go_sem, ↓reduceIte, Nat.reduceEqDiff, Nat.reduceAdd, Nat.reduceLeDiff, e0, e2, e7, l2, l2', l7, b1, b2, b3, ol, ok, oc, w_append, hap, ol', ok', oc']; done))))
  (repeat (first | refine W_seqS ?_ | refine W_seqC ?_ | refine W_seqB ?_ | refine W_block ?_)); refine W_reg rfl fun G K hG hK => ?_; simp (disch := omega) only [go_sem, ↓reduceIte, Nat.reduceEqDiff, Nat.reduceAdd, Nat.reduceLeDiff, hG, e0, e2, e7, l2, l2', l7, b1, b2, b3]
  refine w_call (take_ok q u1 ⟨#[41]⟩ se (by omega) (by decide) s5) (by simp (disch := omega) only [go_sem, ↓reduceIte, Nat.reduceEqDiff, e0, e2, e7, l2, l2', l7, b1, b2, b3]) ?hl ?_
  case hl => first | rfl | (simp only [go_sem, List.all_cons, List.all_nil, Bool.not_false, Bool.and_self, e0, e2, e7, l2, l2', l7, b1, b2, b3]; done)
  rintro r_ sf ⟨rfl, s6, aw6, l6⟩; refine ⟨fun e => (by cases e), ?_⟩
  have aw7 : Away (some q) st sf := aw5.trans aw6 (.inl rfl)
  have hL2 := hownS.lt
  have hown3 : Sl sf (acc ++ [a]) r' L' := hownS.away aw6 (n := st.length) (m := se.length) (fun i hi => ⟨hfr'.2 i hi, hL2 i hi⟩) (fun x hx => by cases hx; exact .inl hql)
  cases hp1 : preB u1 ⟨#[41]⟩ with
  | true =>
    have hp3 : u1.data.toList.take 1 = [41] := of_decide_eq_true hp1
    have hd3 := cutB_yes hp1
    simp (disch := omega) only [go_sem, ↓reduceIte, Nat.reduceEqDiff, Nat.reduceAdd, Nat.reduceLeDiff, hG, e0, e2, e7, l2, l2', l7, b1, b2, b3]; refine hK _ _ ?_; clear hK K hG G; repeat (first | refine thenI ?_ | refine thenE ?_ | refine thenR ?_ | refine inBI ?_ | refine inBR ?_ | refine inBS ?_ | refine inBN (by decide) ?_)
    repeat (first | (refine W_reg rfl fun G K hG hK => ?_; simp (disch := omega) only [go_sem, ↓reduceIte, Nat.reduceEqDiff, Nat.reduceAdd, Nat.reduceLeDiff, hG, e0, e2, e7, l2, l2', l7, b1, b2, b3, ol', ok', oc']; refine hK _ _ ?_; clear hK K hG G) | (refine W_end rfl fun G K hG hK => ?_; simp (disch := omega) only [go_sem, ↓reduceIte, Nat.reduceEqDiff, Nat.reduceAdd, Nat.reduceLeDiff, hG, e0, e2, e7, l2, l2', l7, b1, b2, b3, ol', ok', oc']; refine hK _ _ ?_; clear hK K hG G; repeat (first | refine thenI ?_ | refine thenE ?_ | refine thenR ?_ | refine inBI ?_ | refine inBR ?_ | refine inBS ?_ | refine inBN (by decide) ?_)) | refine W_seqS ?_ | refine W_seqC ?_ | refine W_seqB ?_ | refine W_block ?_ | (refine W_skip ?_; repeat (first | refine thenI ?_ | refine thenE ?_ | refine thenR ?_ | refine inBI ?_ | refine inBR ?_ | refine inBS ?_ | refine inBN (by decide) ?_)) | (refine W_condT ?hc ?_; (case hc => (simp (disch := omega) only [go_sem, ↓reduceIte, Nat.reduceEqDiff, Nat.reduceAdd, Nat.reduceLeDiff, e0, e2, e7, l2, l2', l7, b1, b2, b3, ol', ok', oc']; done))) | (refine W_condF ?hc ?_; (case hc => (simp (disch := omega) only [go_sem, ↓reduceIte, Nat.reduceEqDiff, Nat.reduceAdd, Nat.reduceLeDiff, e0, e2, e7, l2, l2', l7, b1, b2, b3, ol', ok', oc']; done))))
    refine W_ret ?_; try (repeat (first | refine thenI ?_ | refine thenE ?_ | refine thenR ?_ | refine inBI ?_ | refine inBR ?_ | refine inBS ?_ | refine inBN (by decide) ?_))
    refine finC2 (.inl rfl) (by (simp (disch := omega) only [go_sem, ↓reduceIte, Nat.reduceEqDiff, Nat.reduceAdd, Nat.reduceLeDiff, e0, e2, e7, l2, l2', l7, b1, b2, b3, ol', ok', oc']); try rfl) (by (simp (disch := omega) only [go_sem, ↓reduceIte, Nat.reduceEqDiff, Nat.reduceAdd, Nat.reduceLeDiff, e0, e2, e7, l2, l2', l7, b1, b2, b3]); try rfl) rfl ⟨_, _, hE _ (.close hev hp3), s6, aw7, hd3, by rw [List.length_drop]; omega, [_, _, _, _], L', rfl, Own.close _ _ _ hown3, hfr'⟩
  | false =>
  have hp3 : ¬ u1.data.toList.take 1 = [41] := of_decide_eq_false hp1
  rw [cutB_no hp1] at s6
  simp (disch := omega) only [go_sem, ↓reduceIte, Nat.reduceEqDiff, Nat.reduceAdd, Nat.reduceLeDiff, hG, e0, e2, e7, l2, l2', l7, b1, b2, b3]; refine hK _ _ ?_; clear hK K hG G; repeat (first | refine thenI ?_ | refine thenE ?_ | refine thenR ?_ | refine inBI ?_ | refine inBR ?_ | refine inBS ?_ | refine inBN (by decide) ?_)
  repeat (first | (refine W_reg rfl fun G K hG hK => ?_; simp (disch := omega) only [go_sem, ↓reduceIte, Nat.reduceEqDiff, Nat.reduceAdd, Nat.reduceLeDiff, hG, e0, e2, e7, l2, l2', l7, b1, b2, b3]; refine hK _ _ ?_; clear hK K hG G) | (refine W_end rfl fun G K hG hK => ?_; simp (disch := omega) only [go_sem, ↓reduceIte, Nat.reduceEqDiff, Nat.reduceAdd, Nat.reduceLeDiff, hG, e0, e2, e7, l2, l2', l7, b1, b2, b3]; refine hK _ _ ?_; clear hK K hG G; repeat (first | refine thenI ?_ | refine thenE ?_ | refine thenR ?_ | refine inBI ?_ | refine inBR ?_ | refine inBS ?_ | refine inBN (by decide) ?_)) | refine W_seqS ?_ | refine W_seqC ?_ | refine W_seqB ?_ | refine W_block ?_ | (refine W_skip ?_; repeat (first | refine thenI ?_ | refine thenE ?_ | refine thenR ?_ | refine inBI ?_ | refine inBR ?_ | refine inBS ?_ | refine inBN (by decide) ?_)) | (refine W_condT ?hc ?_; (case hc => (simp (disch := omega) only [go_sem, ↓reduceIte, Nat.reduceEqDiff, Nat.reduceAdd, Nat.reduceLeDiff, e0, e2, e7, l2, l2', l7, b1, b2, b3]; done))) | (refine W_condF ?hc ?_; (case hc => (simp (disch := omega) only [go_sem, ↓reduceIte, Nat.reduceEqDiff, Nat.reduceAdd, Nat.reduceLeDiff, e0, e2, e7, l2, l2', l7, b1, b2, b3]; done))))
  (repeat (first | refine W_seqS ?_ | refine W_seqC ?_ | refine W_seqB ?_ | refine W_block ?_)); refine W_reg rfl fun G K hG hK => ?_; simp (disch := omega) only [go_sem, ↓reduceIte, Nat.reduceEqDiff, Nat.reduceAdd, Nat.reduceLeDiff, hG, e0, e2, e7, l2, l2', l7, b1, b2, b3]
  refine w_call (take_ok q u1 ⟨#[44, 32]⟩ sf (by omega) (by decide) s6) (by simp (disch := omega) only [go_sem, ↓reduceIte, Nat.reduceEqDiff, e0, e2, e7, l2, l2', l7, b1, b2, b3]) ?hl ?_
  case hl => first | rfl | (simp only [go_sem, List.all_cons, List.all_nil, Bool.not_false, Bool.and_self, e0, e2, e7, l2, l2', l7, b1, b2, b3]; done)
  rintro r_ sg ⟨rfl, s7, aw8, l8⟩; refine ⟨fun e => (by cases e), ?_⟩
  have aw9 : Away (some q) st sg := aw7.trans aw8 (.inl rfl)
  have hL3 := hown3.lt
  have hown4 : Sl sg (acc ++ [a]) r' L' := hown3.away aw8 (n := st.length) (m := sf.length) (fun i hi => ⟨hfr'.2 i hi, hL3 i hi⟩) (fun x hx => by cases hx; exact .inl hql)
  cases hp2' : preB u1 ⟨#[44, 32]⟩ with
  | false =>
    have hp4 : ¬ u1.data.toList.take 2 = [44, 32] := of_decide_eq_false hp2'
    simp (disch := omega) only [go_sem, ↓reduceIte, Nat.reduceEqDiff, Nat.reduceAdd, Nat.reduceLeDiff, hG, e0, e2, e7, l2, l2', l7, b1, b2, b3]; refine hK _ _ ?_; clear hK K hG G; repeat (first | refine thenI ?_ | refine thenE ?_ | refine thenR ?_ | refine inBI ?_ | refine inBR ?_ | refine inBS ?_ | refine inBN (by decide) ?_)
    repeat (first | (refine W_reg rfl fun G K hG hK => ?_; simp (disch := omega) only [go_sem, ↓reduceIte, Nat.reduceEqDiff, Nat.reduceAdd, Nat.reduceLeDiff, hG, e0, e2, e7, l2, l2', l7, b1, b2, b3]; refine hK _ _ ?_; clear hK K hG G) | (refine W_end rfl fun G K hG hK => ?_; simp (disch := omega) only [go_sem, ↓reduceIte, Nat.reduceEqDiff, Nat.reduceAdd, Nat.reduceLeDiff, hG, e0, e2, e7, l2, l2', l7, b1, b2, b3]; refine hK _ _ ?_; clear hK K hG G; repeat (first | refine thenI ?_ | refine thenE ?_ | refine thenR ?_ | refine inBI ?_ | refine inBR ?_ | refine inBS ?_ | refine inBN (by decide) ?_)) | refine W_seqS ?_ | refine W_seqC ?_ | refine W_seqB ?_ | refine W_block ?_ | (refine W_skip ?_; repeat (first | refine thenI ?_ | refine thenE ?_ | refine thenR ?_ | refine inBI ?_ | refine inBR ?_ | refine inBS ?_ | refine inBN (by decide) ?_)) | (refine W_condT ?hc ?_; (case hc => (simp (disch := omega) only [go_sem, ↓reduceIte, Nat.reduceEqDiff, Nat.reduceAdd, Nat.reduceLeDiff, e0, e2, e7, l2, l2', l7, b1, b2, b3]; done))) | (refine W_condF ?hc ?_; (case hc => (simp (disch := omega) only [go_sem, ↓reduceIte, Nat.reduceEqDiff, Nat.reduceAdd, Nat.reduceLeDiff, e0, e2, e7, l2, l2', l7, b1, b2, b3]; done))))
    refine W_ret ?_; try (repeat (first | refine thenI ?_ | refine thenE ?_ | refine thenR ?_ | refine inBI ?_ | refine inBR ?_ | refine inBS ?_ | refine inBN (by decide) ?_))
    refine finC2 (.inl rfl) (by (simp (disch := omega) only [go_sem, ↓reduceIte, Nat.reduceEqDiff, Nat.reduceAdd, Nat.reduceLeDiff, e0, e2, e7, l2, l2', l7, b1, b2, b3]); try rfl) (by (simp (disch := omega) only [go_sem, ↓reduceIte, Nat.reduceEqDiff, Nat.reduceAdd, Nat.reduceLeDiff, e0, e2, e7, l2, l2', l7, b1, b2, b3]); try rfl) rfl ⟨_, _, hE _ (.bad hev hp3 hp4), s7, aw9, _, _, rfl⟩
  | true =>
    have hp4 : u1.data.toList.take 2 = [44, 32] := of_decide_eq_true hp2'
    have hd4 := cutB_yes hp2'
    have hz4 : (cutB u1 ⟨#[44, 32]⟩).size ≤ u1.size := by rw [size_list, hd4, List.length_drop, ← hu1]; omega
    simp (disch := omega) only [go_sem, ↓reduceIte, Nat.reduceEqDiff, Nat.reduceAdd, Nat.reduceLeDiff, hG, e0, e2, e7, l2, l2', l7, b1, b2, b3]; refine hK _ _ ?_; clear hK K hG G; repeat (first | refine thenI ?_ | refine thenE ?_ | refine thenR ?_ | refine inBI ?_ | refine inBR ?_ | refine inBS ?_ | refine inBN (by decide) ?_)
    repeat (first | (refine W_reg rfl fun G K hG hK => ?_; simp (disch := omega) only [go_sem, ↓reduceIte, Nat.reduceEqDiff, Nat.reduceAdd, Nat.reduceLeDiff, hG, e0, e2, e7, l2, l2', l7, b1, b2, b3, ol', ok', oc']; refine hK _ _ ?_; clear hK K hG G) | (refine W_end rfl fun G K hG hK => ?_; simp (disch := omega) only [go_sem, ↓reduceIte, Nat.reduceEqDiff, Nat.reduceAdd, Nat.reduceLeDiff, hG, e0, e2, e7, l2, l2', l7, b1, b2, b3, ol', ok', oc']; refine hK _ _ ?_; clear hK K hG G; repeat (first | refine thenI ?_ | refine thenE ?_ | refine thenR ?_ | refine inBI ?_ | refine inBR ?_ | refine inBS ?_ | refine inBN (by decide) ?_)) | refine W_seqS ?_ | refine W_seqC ?_ | refine W_seqB ?_ | refine W_block ?_ | (refine W_skip ?_; repeat (first | refine thenI ?_ | refine thenE ?_ | refine thenR ?_ | refine inBI ?_ | refine inBR ?_ | refine inBS ?_ | refine inBN (by decide) ?_)) | (refine W_condT ?hc ?_; (case hc => (simp (disch := omega) only [go_sem, ↓reduceIte, Nat.reduceEqDiff, Nat.reduceAdd, Nat.reduceLeDiff, e0, e2, e7, l2, l2', l7, b1, b2, b3, ol', ok', oc']; done))) | (refine W_condF ?hc ?_; (case hc => (simp (disch := omega) only [go_sem, ↓reduceIte, Nat.reduceEqDiff, Nat.reduceAdd, Nat.reduceLeDiff, e0, e2, e7, l2, l2', l7, b1, b2, b3, ol', ok', oc']; done))))
    refine ⟨w.size - (j + 1), by omega, j + 1, acc ++ [a], r', L', _, rfl, by omega, s7, aw9, hown4, hfr', by omega, by simp; omega, fun res h => hE _ (.next hev hp3 hp4 (by rw [hd4] at h; exact h)), (by (simp (disch := omega) only [go_sem, ↓reduceIte, Nat.reduceEqDiff, Nat.reduceAdd, Nat.reduceLeDiff, e0, e2, e7, l2, l2', l7, b1, b2, b3]); try rfl), (by (simp (disch := omega) only [go_sem, ↓reduceIte, Nat.reduceEqDiff, Nat.reduceAdd, Nat.reduceLeDiff, e0, e2, e7, l2, l2', l7, b1, b2, b3]); try rfl), (by (simp (disch := omega) only [go_sem, ↓reduceIte, Nat.reduceEqDiff, Nat.reduceAdd, Nat.reduceLeDiff, e0, e2, e7, l2, l2', l7, b1, b2, b3]); try rfl), ⟨(by (simp (disch := omega) only [go_sem, ↓reduceIte, Nat.reduceEqDiff, Nat.reduceAdd, Nat.reduceLeDiff, e0, e2, e7, l2, l2', l7, b1, b2, b3]); try rfl), (by (simp (disch := omega) only [go_sem, ↓reduceIte, Nat.reduceEqDiff, Nat.reduceAdd, Nat.reduceLeDiff, e0, e2, e7, l2, l2', l7, b1, b2, b3]); try rfl)⟩, (by (simp (disch := omega) only [go_sem, ↓reduceIte, Nat.reduceEqDiff, Nat.reduceAdd, Nat.reduceLeDiff, e0, e2, e7, l2, l2', l7, b1, b2, b3]); try rfl)⟩
end Go.Proofs.YtlmbmplhdfgmfaaDoor.AM


/- The whole world as an abstract store: what a law begins with. -/
namespace Go.Proofs.YtlmbmplhdfgmfaaDoor.AM
open Go Go.RowKit
set_option linter.unusedVariables false
set_option linter.unusedSimpArgs false

def jv : Value := .pointer (some ⟨0, 0, some 0⟩)
/-- A world's value, if it can be told of. -/
def absV (n : Nat) (v : Value) : Value := match v with
  | .slice (some a) l c => if a.spot = none ∧ a.block < n ∧ l ≤ c then v else if l = 0 ∧ c = 0 then .slice (some ⟨0, 0, some 0⟩) 0 0 else jv
  | v => if flat1 v then v else jv
def absB (W : World) (i : Nat) : Blk := match W.heap[i]? with
  | some (.cells c t _) => ⟨c.toList.map (absV W.heap.size), t, 1⟩
  | _ => ⟨[], 0, 1⟩
def size0 (W : World) (i : Nat) : Nat := match W.heap[i]? with
  | some (.cells c _ _) => c.size
  | _ => 0
def absS (W : World) : St := (List.range W.heap.size).map (absB W)
def absM (W : World) : List ME := (List.range W.heap.size).map fun i => ⟨i, size0 W i, 0, false⟩

theorem absS_get {W : World} {i : Nat} {b : Blk} (h : (absS W)[i]? = some b) : i < W.heap.size ∧ b = absB W i := by
  unfold absS at h
  rw [List.getElem?_map] at h
  by_cases hi : i < W.heap.size
  · rw [List.getElem?_range hi] at h
    exact ⟨hi, (Option.some.inj h).symm⟩
  · rw [List.getElem?_eq_none (by simp; omega)] at h; cases h
theorem absS_of {W : World} {i : Nat} (hi : i < W.heap.size) : (absS W)[i]? = some (absB W i) := by
  unfold absS
  rw [List.getElem?_map, List.getElem?_range hi]; rfl
theorem absM_get {W : World} {i : Nat} {m : ME} (h : (absM W)[i]? = some m) : i < W.heap.size ∧ m = ⟨i, size0 W i, 0, false⟩ := by
  unfold absM at h
  rw [List.getElem?_map] at h
  by_cases hi : i < W.heap.size
  · rw [List.getElem?_range hi] at h
    exact ⟨hi, (Option.some.inj h).symm⟩
  · rw [List.getElem?_eq_none (by simp; omega)] at h; cases h
theorem absM_of {W : World} {i : Nat} (hi : i < W.heap.size) : (absM W)[i]? = some ⟨i, size0 W i, 0, false⟩ := by
  unfold absM
  rw [List.getElem?_map, List.getElem?_range hi]; rfl
theorem absB_stat (W : World) (i : Nat) : (absB W i).stat = 1 := by unfold absB; split <;> rfl

theorem absV_vr {W : World} {v : Value} (h : isJ (absV W.heap.size v) = false) : one (absV W.heap.size v) = true ∧ VR (absM W) (absV W.heap.size v) v := by
  unfold absV at h ⊢
  split
  · rename_i a l c
    split
    · rename_i hc
      obtain ⟨b, o, sp⟩ := a
      obtain ⟨hsp, hb, hl⟩ := hc
      simp only at hsp
      subst hsp
      exact ⟨rfl, .sl _ _ _ _ _ _ _ (absM_of hb) hl (.inl ⟨rfl, fun _ e => by cases e⟩)⟩
    · rename_i hc
      simp only [if_neg hc] at h
      split
      · rename_i h0
        obtain ⟨rfl, rfl⟩ := h0
        exact ⟨rfl, .emp a⟩
      · rename_i h0
        rw [if_neg h0] at h
        cases h
  · rename_i hx
    split
    · rename_i hf
      exact ⟨flat1_one hf, .fl _ hf⟩
    · rename_i hf
      split at h
      · rename_i a l c
        exact absurd rfl (hx a l c)
      · rw [if_neg hf] at h; cases h

theorem Tab.lt {P : Program} {w : World} (h : Tab P w) : ∀ nm ∈ tabNm, ∀ g, P.globalNamed nm = some g → g < w.heap.size := by
  have key : ∀ nm g cs, P.globalNamed nm = some g → w.var? P nm = some cs → g < w.heap.size := fun nm g cs hg hv => by
    unfold World.var? at hv
    simp only [hg, Option.bind_some] at hv
    rcases Nat.lt_or_ge g w.heap.size with h' | h'
    · exact h'
    · rw [Array.getElem?_eq_none h'] at hv; cases hv
  intro nm hn g hg
  simp only [tabNm, List.mem_cons, List.not_mem_nil, or_false] at hn
  have hne : P.globalNamed nm ≠ none := by rw [hg]; simp
  rcases hn with rfl | hn
  · exact key _ g _ hg (h.pow hne)
  · obtain ⟨tp, p, hv⟩ := h.err nm hn hne
    exact key _ g _ hg hv
theorem abs_cov {P : Program} {W : World} (h : Tab P W) : Cov P (absM W) (absS W) := fun nm hn g hg => by
  have hlt := h.lt nm hn g hg
  exact ⟨g, _, _, absM_of hlt, rfl, absS_of hlt, absB_stat W g⟩
theorem abs_hr (P : Program) (W : World) (hT : Tab P W) : HR P ⟨W, absM W, absS W⟩ (absM W) (absS W) W := by
  refine ⟨by simp [absM, absS], fun _ _ h => h, fun i b m hb hm h2 hfar => ?_, fun i j b b' m m' hb hb' _ _ hm hm' e => ?_, fun i m hm => ?_, fun i m hm _ => ⟨i, m, hm, rfl⟩, fun i b m hb _ hm => ⟨hb, rfl⟩, rfl, rfl, rfl, Nat.le_refl _, fun _ _ _ => rfl, hT, abs_cov hT⟩
  · obtain ⟨hi, rfl⟩ := absS_get hb
    obtain ⟨_, rfl⟩ := absM_get hm
    cases hh : W.heap[i]? with
    | none => exact absurd ⟨absB_stat W i, by simp [absB, hh]⟩ hfar
    | some o =>
      cases o with
      | cells c t q =>
        have e1 : absB W i = ⟨c.toList.map (absV W.heap.size), t, 1⟩ := by unfold absB; rw [hh]
        have e2 : size0 W i = c.size := by unfold size0; rw [hh]
        rw [e1, e2]
        refine ⟨c, ⟨q, hh, fun e => by cases e⟩, rfl, by simp, fun j x hx => ?_, fun e => by cases e⟩
        simp only [List.getElem?_map, Option.map_eq_some_iff] at hx
        obtain ⟨y, hy, rfl⟩ := hx
        cases hj : isJ (absV W.heap.size y) with
        | true => exact .inl ⟨rfl, rfl⟩
        | false =>
          obtain ⟨h2, h3⟩ := absV_vr hj
          exact .inr ⟨h2, y, by simpa using hy, h3⟩
      | _ => exact absurd ⟨absB_stat W i, by simp [absB, hh]⟩ hfar
  · obtain ⟨_, rfl⟩ := absM_get hm
    obtain ⟨_, rfl⟩ := absM_get hm'
    exact e
  · obtain ⟨hi, rfl⟩ := absM_get hm
    exact hi

/-- An argument, and what the store says of it. -/
def ArgS (W : World) (x v : Value) : Prop := (isJ (absV W.heap.size v) = false ∧ x = absV W.heap.size v) ∨ ∃ cs : List Value, v = .agg cs.toArray ∧ x = .agg (cs.map (absV W.heap.size)).toArray ∧ ∀ c ∈ cs, isJ (absV W.heap.size c) = false

/-- What holds of a call that begins at the whole world. -/
theorem CallS.enter {P : Program} {f : FuncId} {args : List Value} {vals : Array Value} {W : World} {Q : Value → St → Prop} (hT : Tab P W) (h : CallS P f args (absS W) Q) (hl : args.length = vals.size) (hv : ∀ (i : Nat) x v, args[i]? = some x → vals[i]? = some v → ArgS W x v) :
    Calls P f vals W fun e w' => ∃ r v st' M', e = .returned v ∧ Q r st' ∧ VR M' r v ∧ Below W.heap.size W w' := by
  refine (h.2 (absM W) W vals (abs_hr P W hT) ⟨hl, fun i x y hx hy => ?_⟩).mono fun e w' ⟨r, v, st', M', he, hq, hvr, hr⟩ => ⟨r, v, st', M', he, hq, hvr, hr.os, hr.tape, hr.output, hr.size, fun k hk => ?_⟩
  · rcases hv i x y hx hy with ⟨h1, rfl⟩ | ⟨cs, rfl, rfl, hcs⟩
    · exact (absV_vr h1).2
    · refine .agg _ _ (by simp) (fun i c hc => ?_) fun i c d hc hd => ?_
      · simp only [List.getElem?_toArray, List.getElem?_map, Option.map_eq_some_iff] at hc
        obtain ⟨d, hd, rfl⟩ := hc
        exact (absV_vr (hcs d (List.mem_of_getElem? hd))).1
      · simp only [List.getElem?_toArray, List.getElem?_map] at hc hd
        rw [hd] at hc
        obtain rfl := Option.some.inj hc
        exact (absV_vr (hcs d (List.mem_of_getElem? hd))).2
  · exact (hr.ro k _ _ (absS_of hk) (absB_stat W k) (absM_of hk)).2

inductive ArgsS (W : World) : List Value → List Value → Prop
  | nil : ArgsS W [] []
  | cons (x v : Value) (xs vs : List Value) (h : ArgS W x v) (hs : ArgsS W xs vs) : ArgsS W (x :: xs) (v :: vs)
theorem ArgsS.get {W : World} {xs vs : List Value} (h : ArgsS W xs vs) : xs.length = vs.length ∧ ∀ (i : Nat) x v, xs[i]? = some x → vs[i]? = some v → ArgS W x v := by
  induction h with
  | nil => exact ⟨rfl, fun i x v hx => by simp at hx⟩
  | cons x v xs vs h hs ih =>
    refine ⟨by simp [ih.1], fun i y u hy hu => ?_⟩
    cases i with
    | zero =>
      simp only [List.getElem?_cons_zero, Option.some.injEq] at hy hu
      subst hy; subst hu; exact h
    | succ i => exact ih.2 i y u (by simpa using hy) (by simpa using hu)
/-- A program that has none of these variables. -/
theorem noTab {P : Program} {W : World} (h1 : P.globalNamed "internal/strconv.uint64pow10" = none) (h2 : P.globalNamed "strconv.ErrSyntax" = none) (h3 : P.globalNamed "strconv.ErrRange" = none) : Tab P W :=
  ⟨fun h => absurd h1 h, fun nm hn h => by
    rcases hn with rfl | rfl
    · exact absurd h2 h
    · exact absurd h3 h⟩
theorem CallS.enters {P : Program} {f : FuncId} {args : List Value} {vals : List Value} {W : World} {b : Bool} (hT : Tab P W) (h : CallS P f args (absS W) fun r _ => r = .bool b) (hv : ArgsS W args vals) :
    Calls P f vals.toArray W fun e w' => e = .returned (.bool b) ∧ Below W.heap.size W w' :=
  (h.enter hT (by simpa using hv.get.1) fun i x v hx hv' => hv.get.2 i x v hx (by simpa using hv')).mono fun e w' ⟨r, v, st', M', he, hq, hvr, bel⟩ => by
    subst he; subst hq
    obtain rfl := hvr.flat_eq rfl
    exact ⟨rfl, bel⟩
theorem ArgS.flat {W : World} {v : Value} (h : isJ (absV W.heap.size v) = false) (e : absV W.heap.size v = v) : ArgS W v v := .inl ⟨h, e.symm⟩
theorem ArgS.int (W : World) (k : IntKind) (i : Int) : ArgS W (.int k i) (.int k i) := .inl ⟨rfl, rfl⟩
theorem ArgS.str (W : World) (s : ByteArray) : ArgS W (.string s) (.string s) := .inl ⟨rfl, rfl⟩
theorem ArgS.agg {W : World} {cs : Array Value} (h : ∀ c ∈ (Value.agg cs).cells.toList, isJ (absV W.heap.size c) = false) : ArgS W (.agg ((Value.agg cs).cells.toList.map (absV W.heap.size)).toArray) (.agg cs) := .inr ⟨cs.toList, rfl, rfl, h⟩

/-- A world's cell, read in the store. -/
theorem abs_cell {W : World} {b o : Nat} {v : Value} (h : W.cell? ⟨b, o, none⟩ = some v) (hj : isJ (absV W.heap.size v) = false) : cell (absS W) b o = some (absV W.heap.size v) := by
  unfold World.cell? at h
  simp only at h
  split at h
  · rename_i c t q hb
    have hi : b < W.heap.size := (Array.getElem?_eq_some_iff.1 hb).1
    simp only [Option.isSome_none, Bool.false_eq_true, if_false] at h
    have e1 : absB W b = ⟨c.toList.map (absV W.heap.size), t, 1⟩ := by unfold absB; rw [hb]
    unfold cell
    rw [absS_of hi, e1]
    have e3 : (c.toList.map (absV W.heap.size))[o]? = some (absV W.heap.size v) := by
      rw [List.getElem?_map, Array.getElem?_toList, h]; rfl
    simp only [e3]
    simp [hj]
  · cases h

/-- What a cell that was read holds can be told of. -/
def Told (W : World) (v : Value) : Prop := isJ (absV W.heap.size v) = false

theorem told_int (W : World) (k : IntKind) (i : Int) : Told W (.int k i) ∧ absV W.heap.size (.int k i) = .int k i := ⟨rfl, rfl⟩
theorem told_str (W : World) (s : ByteArray) : Told W (.string s) ∧ absV W.heap.size (.string s) = .string s := ⟨rfl, rfl⟩
theorem told_bool (W : World) (b : Bool) : Told W (.bool b) ∧ absV W.heap.size (.bool b) = .bool b := ⟨rfl, rfl⟩

theorem spot_of {w : World} {a : Addr} {n b : Nat} {cs : List Value} (h : w.cells? b a n = some cs) (hn : 0 < n) : a.spot = none := by
  obtain ⟨_, hl, hc⟩ := World.cells?_some h
  have h1 := hc 0 hn
  rw [List.getElem?_eq_getElem (by omega)] at h1
  obtain ⟨b, o, sp⟩ := a
  cases sp with
  | none => rfl
  | some s =>
    unfold World.cell? Addr.add at h1
    simp only at h1
    split at h1
    · split at h1 <;> simp_all
    · cases h1
theorem spot_add {a : Addr} {k : Nat} (hk : k = 0) (h : (a.add k).spot = none) : a.spot = none := by
  subst hk
  exact h

/-- A slice that was read: its elements, one by one. -/
theorem open_rowA {H : Type} {enc : TypeId × Value → H} {P : Program} {w : World} {α : Type} {E : α → List Value → Prop} {G : α → Prop} {t e : TypeId} {sz : Nat} (ht : P.underlying t = some (.slice e)) (hc : P.cellsOf e = sz) (hsz : 0 < sz) {fuel : Nat} {cs : List Value} {x : DataW H × List MemPlace}
    (h : DataW.trod enc P w 0 (fun _ => true) true fuel t cs = some x) (hel : ∀ n cs y, n < fuel → DataW.trod enc P w 0 (fun _ => true) true n e cs = some y → ∃ z, E z (cs.map (absV w.heap.size)) ∧ G z ∧ ∀ c ∈ cs, Told w c) :
    ∃ s, ∃ xs : List α, cs = [s] ∧ Told w s ∧ Row E sz (absS w) xs (absV w.heap.size s) ∧ xs.length ≤ maxLen ∧ ∀ z ∈ xs, G z := by
  have hlt := DataW.trod_lt _ _ _ _ h
  rcases DataW.trod_slice ht h with ⟨rfl, _⟩ | ⟨a, len, cap, elems, rest, n, rfl, rfl, rfl, _, hl, hm, hlen, hel2, hrest, _⟩
  · exact ⟨_, [], rfl, rfl, .inl ⟨.inl rfl, rfl⟩, Nat.zero_le _, by simp⟩
  · simp only [hc] at hel2 hlt hrest
    by_cases h0 : cap = 0
    · subst h0
      obtain rfl : len = 0 := by omega
      by_cases hq : a.spot = none ∧ a.block < w.heap.size ∧ 0 ≤ 0
      · obtain ⟨b, o, sp⟩ := a
        obtain ⟨hsp, hb, _⟩ := hq
        simp only at hsp hb
        subst hsp
        have e1 : absV w.heap.size (.slice (some ⟨b, o, none⟩) 0 0) = .slice (some ⟨b, o, none⟩) 0 0 := by unfold absV; simp only; rw [if_pos (by exact ⟨trivial, hb, Nat.le_refl _⟩)]
        refine ⟨_, [], rfl, by unfold Told; rw [e1]; rfl, ?_, Nat.zero_le _, by simp⟩
        rw [e1]
        exact .inr ⟨b, o, 0, rfl, by simp⟩
      · have e1 : absV w.heap.size (.slice (some a) 0 0) = .slice (some ⟨0, 0, some 0⟩) 0 0 := by unfold absV; simp only; rw [if_neg hq]; simp
        refine ⟨_, [], rfl, by unfold Told; rw [e1]; rfl, ?_, Nat.zero_le _, by simp⟩
        rw [e1]
        exact .inl ⟨.inr rfl, rfl⟩
    · have hrl := (hrest trivial).1
      have hb : a.block < w.heap.size := hlt (.cell a.block (a.off + 0)) (by
        refine List.mem_append_left _ ?_
        unfold MemPlace.row
        refine List.mem_map.2 ⟨0, List.mem_range.2 (Nat.mul_pos (by omega) hsz), rfl⟩)
      have hsp : a.spot = none := by
        by_cases hl0 : 0 < len
        · have h1 := hel2 0 hl0
          rw [List.getElem?_eq_getElem (by omega), Option.bind_eq_some_iff] at h1
          obtain ⟨c, hcs, _⟩ := h1
          exact spot_add (by first | (simp; done) | (rw [show len = 0 by omega]; simp)) (spot_of hcs hsz)
        · have h1 := (hrest trivial).2 0 (by omega)
          rw [List.getElem?_eq_getElem (by omega), Option.bind_eq_some_iff] at h1
          obtain ⟨c, hcs, _⟩ := h1
          exact spot_add (by first | (simp; done) | (rw [show len = 0 by omega]; simp)) (spot_of hcs hsz)
      obtain ⟨b, o, sp⟩ := a
      simp only at hsp hb
      subst hsp
      have e1 : absV w.heap.size (.slice (some ⟨b, o, none⟩) len cap) = .slice (some ⟨b, o, none⟩) len cap := by unfold absV; simp only; rw [if_pos (by exact ⟨trivial, hb, hl⟩)]
      have each : ∀ i : _root_.Fin len, ∃ z, G z ∧ ∃ c : List Value, c.length = sz ∧ E z c ∧ CellsAt (absS w) b (o + i.1 * sz) c := by
        intro i
        have hi := hel2 i.1 i.2
        rw [List.getElem?_eq_getElem (by rw [hlen]; exact i.2), Option.bind_eq_some_iff] at hi
        obtain ⟨c, hcs, hy⟩ := hi
        obtain ⟨z, hz, hG, htold⟩ := hel n c _ (Nat.lt_succ_self n) hy
        obtain ⟨_, hcl, hcc⟩ := World.cells?_some hcs
        refine ⟨z, hG, _, by simpa using hcl, hz, fun q v hv => ?_⟩
        simp only [List.getElem?_map, Option.map_eq_some_iff] at hv
        obtain ⟨u, hu, rfl⟩ := hv
        have hq : q < sz := by have := (List.getElem?_eq_some_iff.1 hu).1; omega
        have h2 := hcc q hq
        rw [addr_add, addr_add, hu] at h2
        exact abs_cell h2 (htold u (List.mem_of_getElem? hu))
      have hlen3 : (List.ofFn fun i : _root_.Fin len => Classical.choose (each i)).length = len := List.length_ofFn
      refine ⟨_, List.ofFn fun i : _root_.Fin len => Classical.choose (each i), rfl, by unfold Told; rw [e1]; rfl, ?_, by rw [hlen3]; omega, ?_⟩
      · rw [e1]
        refine .inr ⟨b, o, cap, by rw [hlen3], fun j x hj => ?_⟩
        have hjl : j < len := by have := (List.getElem?_eq_some_iff.1 hj).1; rwa [hlen3] at this
        obtain ⟨_, c, h1, h2, h3⟩ := Classical.choose_spec (each ⟨j, hjl⟩)
        have hp : Classical.choose (each ⟨j, hjl⟩) = x := by
          have := (List.getElem?_eq_some_iff.1 hj).2
          rw [List.getElem_ofFn] at this
          exact this
        rw [hp] at h2
        exact ⟨c, h1, h2, h3⟩
      · intro z hz
        rw [List.mem_ofFn] at hz
        obtain ⟨i, rfl⟩ := hz
        exact (Classical.choose_spec (each i)).1
end Go.Proofs.YtlmbmplhdfgmfaaDoor.AM


/- What a law's arguments read as. -/
namespace Go.Proofs.YtlmbmplhdfgmfaaDoor.AM
open Go Go.Proofs
set_option linter.unusedVariables false
set_option linter.unusedSimpArgs false

theorem list_S {α : Type} {l : List α} {n : Nat} (h : l.length = n + 1) : ∃ a l2, l = a :: l2 ∧ l2.length = n := by
  match l, h with
  | a :: l2, h => exact ⟨a, l2, rfl, by simpa using h⟩
theorem toldA_int {H : Type} {enc : TypeId × Value → H} {P : Program} {w : World} {t : TypeId} {k : IntKind} (ht : P.underlying t = some (.int k)) {fuel : Nat} {cs : List Value} {x : DataW H × List MemPlace} (h : DataW.trod enc P w 0 (fun _ => true) true fuel t cs = some x) :
    ∃ z, cs = [.int k z] ∧ (Lit.int k z).wf = true := by
  obtain ⟨n, rfl, _, hw⟩ := DataW.trod_int ht h
  exact ⟨n, rfl, hw⟩
theorem toldA_str {H : Type} {enc : TypeId × Value → H} {P : Program} {w : World} {t : TypeId} (ht : P.underlying t = some .string) {fuel : Nat} {cs : List Value} {x : DataW H × List MemPlace} (h : DataW.trod enc P w 0 (fun _ => true) true fuel t cs = some x) :
    ∃ z, cs = [.string z] ∧ z.size ≤ maxLen := by
  obtain ⟨n, rfl, _, hw⟩ := DataW.trod_string ht h
  exact ⟨n, rfl, hw⟩

end Go.Proofs.YtlmbmplhdfgmfaaDoor.AM


/- What the laws of terms share. -/
namespace Go.Proofs.YtlmbmplhdfgmfaaDoor.AM
open Go Go.Proofs
set_option linter.unusedVariables false
set_option linter.unusedSimpArgs false
set_option maxRecDepth 100000
attribute [local go_sem] List.map_cons List.map_nil List.all_cons List.all_nil Bool.and_self Option.map_some List.getElem?_toArray Option.bind_some gye_b gye_t gsk_b gsk_t gb1 gb2 gb3 gb4 bne_self_eq_false beq_self_eq_true w_guard w_nil stepV_some step_some step_some' w_move w_assign w_pick w_binOp w_unOp w_load w_fieldAddr w_indexAddr w_len w_max w_index ev_max max_int ev_index w_box w_alloc w_store w_field w_extract w_nilCheck w_convert w_buildSlice w_build ev_buildL fillL_nil fillL_cons bs0 bs1 ev_conv ev_bin ev_un ev_pick ev_load ev_fieldAddr ev_indexAddr ev_len ev_field ev_extract ev_nilCheck fr_tmp fr_int fr_bool fr_str fr_nil fr_func put_some put_none bin_lss bin_leq bin_gtr bin_geq bin_eql bin_neq bin_add bin_sub bin_mul bin_seql bin_sneq un_not pick_ ext_ loadA_p cellAt_l cellAt_h okPtr_l okPtr_h fadA_p allocA_l storeA_l cells_agg cells_int cells_str cells_sl cells_bool flat_i flat_s flat_b flat_sl flat_nil loc_agg loc_int loc_str loc_sl loc_bool loc_fn loc_ptr okv_agg okv_int okv_str okv_sl okv_bool cellsFrom splice upd_eval argEnv_zero argEnv_succ ne_eq Nat.add_one_ne_zero not_false_eq_true List.not_mem_nil and_self decide_true List.getElem?_cons_zero List.getElem?_cons_succ List.size_toArray List.length_cons List.length_nil List.take_succ_cons List.take_zero List.drop_succ_cons List.drop_zero List.cons_append List.nil_append List.drop_nil Bool.not_true Bool.not_false Bool.false_eq_true Nat.zero_add Nat.add_zero wrap_in List.toList_toArray List.mem_cons or_self or_false false_or
attribute [local go_sem] ag22 ag24 ag3 ag4 ag5 ag58 ag70 ag9 bu24 bu32 bu37 bu76 bu87 by24 by5 el22 el54 of24_0 of24_1 of24_2 of24_3 of32_0 of32_1 of32_2 of37_0 ro24_1 ro5_1 sz22 sz24 sz3 sz4 sz5 sz58 sz70 sz9 ze24 ze5 ze78 ze92

theorem Own.ext {e : TypeId} {st st' : St} {t : T} {cs : List Value} {L : List Nat} (h : Own e st t cs L) (hx : Ext st st') : Own e st' t cs L := Own.frame _ _ _ (fun i hi => hx.get (Own.lt _ _ _ h i hi)) h
theorem Own.other {e : TypeId} {st st' : St} {t : T} {cs : List Value} {L K : List Nat} (h : Own e st t cs L) (hot : ∀ i, i < st.length → i ∉ K → st'[i]? = st[i]?) (hd : ∀ i ∈ L, i ∉ K) : Own e st' t cs L := Own.frame _ _ _ (fun i hi => hot i (Own.lt _ _ _ h i hi) (hd i hi)) h
theorem Own.apart {e : TypeId} {st : St} {t : T} {cs : List Value} {L K : List Nat} (h : Own e st t cs L) (hf : Fresh st.length K) : ∀ i ∈ L, i ∉ K := fun i hi hk => by
  have h1 := Own.lt _ _ _ h i hi
  have h2 := hf.2 i hk
  omega
theorem Enc.other {st st' : St} {K : List Nat} {n : Nat} (hK : ∀ i ∈ K, n ≤ i) (hot : ∀ i, i < st.length → i ∉ K → st'[i]? = st[i]?) {st0 : St} (hn : st0.length ≤ n) (hx : Ext st0 st) (t : T) (cs : List Value) (h : Enc st0 t cs) : Enc st' t cs :=
  Enc.ext (Ext.of_get fun i hi => by
    have := hx.length
    rw [hot i (by omega) (fun hm => by have := hK i hm; omega), hx.get hi]) t cs h
theorem Ext.other {st st' : St} {K : List Nat} {n : Nat} (hK : ∀ i ∈ K, n ≤ i) (hot : ∀ i, i < st.length → i ∉ K → st'[i]? = st[i]?) {st0 : St} (hn : st0.length ≤ n) (hx : Ext st0 st) : Ext st0 st' :=
  Ext.of_get fun i hi => by
    have := hx.length
    rw [hot i (by omega) (fun hm => by have := hK i hm; omega), hx.get hi]
theorem Lim.le {B C : Nat} (hb : B ≤ C) : ∀ t : T, Lim B t → Lim C t := by
  refine T.ind fun k n nm args ih h => ?_
  exact .mk _ _ _ _ (by have := h.args.1; omega) fun a ha => ih a ha (h.args.2 a ha)
theorem T.mkL_wt : ∀ (xs : List T) (k : Nat), (∀ x ∈ xs, ∀ k, (x.mk1 k).2 ≤ k + 3 + 3 * x.wt) → (T.mkL xs k).2 ≤ k + 3 * xs.length + 3 * T.wtL xs := by
  intro xs
  induction xs with
  | nil => intro k _; simp [T.mkL, T.wtL]
  | cons x xs ih =>
    intro k h
    have h1 := h x (by simp) k
    have h2 := ih (x.mk1 k).2 (fun y hy => h y (by simp [hy]))
    simp only [T.mkL, T.wtL, List.length_cons]
    omega
theorem T.mk1_wt : ∀ (t : T) (k : Nat), (t.mk1 k).2 ≤ k + 3 + 3 * t.wt := by
  refine T.ind fun k0 n nm args ih k => ?_
  have h := T.mkL_wt args (k + 3) ih
  simp only [T.mk1, T.wt]
  omega
theorem T.mk0_wt (t : T) (k : Nat) : (t.mk0 k).2 ≤ k + 3 * t.wt := by
  obtain ⟨k0, n, nm, args⟩ := t
  have h := T.mkL_wt args k (fun x _ k => T.mk1_wt x k)
  simp only [T.mk0, T.wt]
  omega
theorem T.mk0_ge (t : T) (k : Nat) : k ≤ (t.mk0 k).2 := by
  obtain ⟨k0, n, nm, args⟩ := t
  exact T.mkL_ge args k
end Go.Proofs.YtlmbmplhdfgmfaaDoor.AM


/- Two substitutions do the same: SameSubst on both sides. -/
namespace Go.Proofs.YtlmbmplhdfgmfaaDoor.AM
open Go Go.Proofs
set_option linter.unusedVariables false
set_option linter.unusedSimpArgs false
set_option maxRecDepth 100000
attribute [local go_sem] List.map_cons List.map_nil List.all_cons List.all_nil Bool.and_self Option.map_some List.getElem?_toArray Option.bind_some gye_b gye_t gsk_b gsk_t gb1 gb2 gb3 gb4 bne_self_eq_false beq_self_eq_true w_guard w_nil stepV_some step_some step_some' w_move w_assign w_pick w_binOp w_unOp w_load w_fieldAddr w_indexAddr w_len w_max w_index ev_max max_int ev_index w_box w_alloc w_store w_field w_extract w_nilCheck w_convert w_buildSlice w_build ev_buildL fillL_nil fillL_cons bs0 bs1 ev_conv ev_bin ev_un ev_pick ev_load ev_fieldAddr ev_indexAddr ev_len ev_field ev_extract ev_nilCheck fr_tmp fr_int fr_bool fr_str fr_nil fr_func put_some put_none bin_lss bin_leq bin_gtr bin_geq bin_eql bin_neq bin_add bin_sub bin_mul bin_seql bin_sneq un_not pick_ ext_ loadA_p cellAt_l cellAt_h okPtr_l okPtr_h fadA_p allocA_l storeA_l cells_agg cells_int cells_str cells_sl cells_bool flat_i flat_s flat_b flat_sl flat_nil loc_agg loc_int loc_str loc_sl loc_bool loc_fn loc_ptr okv_agg okv_int okv_str okv_sl okv_bool cellsFrom splice upd_eval argEnv_zero argEnv_succ ne_eq Nat.add_one_ne_zero not_false_eq_true List.not_mem_nil and_self decide_true List.getElem?_cons_zero List.getElem?_cons_succ List.size_toArray List.length_cons List.length_nil List.take_succ_cons List.take_zero List.drop_succ_cons List.drop_zero List.cons_append List.nil_append List.drop_nil Bool.not_true Bool.not_false Bool.false_eq_true Nat.zero_add Nat.add_zero wrap_in List.toList_toArray List.mem_cons or_self or_false false_or
attribute [local go_sem] ag22 ag24 ag3 ag4 ag5 ag58 ag70 ag9 bu24 bu32 bu37 bu76 bu87 by24 by5 el22 el54 of24_0 of24_1 of24_2 of24_3 of32_0 of32_1 of32_2 of37_0 ro24_1 ro5_1 sz22 sz24 sz3 sz4 sz5 sz58 sz70 sz9 ze24 ze5 ze78 ze92
-- AUTO

def T.var (nm : ByteArray) : T := .mk 1 0 nm []
theorem T.var_enc (st : St) (nm : ByteArray) : Enc st (T.var nm) [.int .i64 1, .int .i64 0, .string nm, .slice none 0 0] := Enc.close _ _ _ (.inl ⟨.inl rfl, rfl⟩)
theorem T.var_lim (nm : ByteArray) : Lim 1073741824 (T.var nm) := .mk _ _ _ _ (by simp) (by simp)
def sameAt (xs ys : List Bnd) (b : Bnd) : Bool := T.eqv (T.sub xs (T.var b.nm)) (T.sub ys (T.var b.nm))
def same (xs ys : List Bnd) : Bool := (xs ++ ys).all (sameAt xs ys)
theorem same_no {xs ys : List Bnd} {j : Nat} (h : j < (xs ++ ys).length) (hq : sameAt xs ys (xs ++ ys)[j] = false) : same xs ys = false := by
  unfold same
  rw [List.all_eq_false]
  exact ⟨_, List.getElem_mem h, by rw [hq]; simp⟩
theorem same_yes {xs ys : List Bnd} (h : ∀ j, (hj : j < (xs ++ ys).length) → sameAt xs ys (xs ++ ys)[j] = true) : same xs ys = true := by
  unfold same
  rw [List.all_eq_true]
  intro b hb
  obtain ⟨j, hj, rfl⟩ := List.mem_iff_getElem.1 hb
  exact h j hj
end Go.Proofs.YtlmbmplhdfgmfaaDoor.AM


/- List literals; l1Pick, l1PickInt, l3App. -/
namespace Go.Proofs.YtlmbmplhdfgmfaaDoor.AM
open Go Go.Proofs
set_option linter.unusedVariables false
set_option linter.unusedSimpArgs false
set_option maxRecDepth 100000
attribute [local go_sem] List.map_cons List.map_nil List.all_cons List.all_nil Bool.and_self Option.map_some List.getElem?_toArray Option.bind_some gye_b gye_t gsk_b gsk_t gb1 gb2 gb3 gb4 bne_self_eq_false beq_self_eq_true w_guard w_nil stepV_some step_some step_some' w_move w_assign w_pick w_binOp w_unOp w_load w_fieldAddr w_indexAddr w_len w_max w_index ev_max max_int ev_index w_box w_alloc w_store w_field w_extract w_nilCheck w_convert w_buildSlice w_build ev_buildL fillL_nil fillL_cons bs0 bs1 ev_conv ev_bin ev_un ev_pick ev_load ev_fieldAddr ev_indexAddr ev_len ev_field ev_extract ev_nilCheck fr_tmp fr_int fr_bool fr_str fr_nil fr_func put_some put_none bin_lss bin_leq bin_gtr bin_geq bin_eql bin_neq bin_add bin_sub bin_mul bin_seql bin_sneq un_not pick_ ext_ loadA_p cellAt_l cellAt_h okPtr_l okPtr_h fadA_p allocA_l storeA_l cells_agg cells_int cells_str cells_sl cells_bool flat_i flat_s flat_b flat_sl flat_nil loc_agg loc_int loc_str loc_sl loc_bool loc_fn loc_ptr okv_agg okv_int okv_str okv_sl okv_bool cellsFrom splice upd_eval argEnv_zero argEnv_succ ne_eq Nat.add_one_ne_zero not_false_eq_true List.not_mem_nil and_self decide_true List.getElem?_cons_zero List.getElem?_cons_succ List.size_toArray List.length_cons List.length_nil List.take_succ_cons List.take_zero List.drop_succ_cons List.drop_zero List.cons_append List.nil_append List.drop_nil Bool.not_true Bool.not_false Bool.false_eq_true Nat.zero_add Nat.add_zero wrap_in List.toList_toArray List.mem_cons or_self or_false false_or
attribute [local go_sem] ag22 ag24 ag3 ag4 ag5 ag58 ag70 ag9 bu24 bu32 bu37 bu76 bu87 by24 by5 el22 el54 of24_0 of24_1 of24_2 of24_3 of32_0 of32_1 of32_2 of37_0 ro24_1 ro5_1 sz22 sz24 sz3 sz4 sz5 sz58 sz70 sz9 ze24 ze5 ze78 ze92
-- AUTO

/-- The parts of a list literal are laid in. -/
def fillK (sz : Nat) : List Value → List (Nat × Value) → Option (List Value)
  | z, [] => some z
  | z, (i, v) :: rest => if (vc v).size = sz ∧ i * sz + sz ≤ z.length then fillK sz (splice z (i * sz) (vc v).toList) rest else none
theorem fillK_nil {sz : Nat} {z : List Value} : fillK sz z [] = some z := rfl
theorem fillK_cons {sz i : Nat} {z : List Value} {v : Value} {rest : List (Nat × Value)} : fillK sz z ((i, v) :: rest) = if (vc v).size = sz ∧ i * sz + sz ≤ z.length then fillK sz (splice z (i * sz) (vc v).toList) rest else none := rfl
theorem fill_K (sz : Nat) : ∀ (ps : List (Nat × Value)) (z : List Value), Instr.fill (fun i => some (i * sz, sz)) z.toArray ps = (fillK sz z ps).map List.toArray := by
  intro ps
  induction ps with
  | nil => intro z; rfl
  | cons p ps ih =>
    intro z
    obtain ⟨i, v⟩ := p
    unfold Instr.fill fillK
    simp only
    unfold vc
    by_cases h : v.cells.size = sz ∧ i * sz + sz ≤ z.length
    · rw [if_pos h, if_neg (by simp; omega)]
      rw [← ih]
      congr 1
      have := fold_splice v.cells.toList z.toArray (i * sz) 0 (by simp; omega)
      rw [← Array.foldl_toList]
      simpa [Array.toList_zipIdx] using this
    · rw [if_neg h, if_pos (by simp; omega)]
      rfl
theorem bsL {P : Program} {H : List Tmp} {ρ : Operand → Value} {loc : Nat → Nat × List Value} {st : St} {t : TypeId} {n : Nat} {ps : Array (Nat × Operand)} {d : Option Tmp} {ty : TypeId} {p : String} {af : Array Edge} {g : Option (Nat × Bool)} : evalEff P H ⟨d, .buildSlice t n ps, ty, p, af, g⟩ ρ loc st = (match elemA P t with
    | some e => (match rowA P e n, szA P e with
      | some row, some sz => if ps.toList.all (fun p => okv (ρ p.2)) then (fillK sz row (ps.toList.map fun p => (p.1, ρ p.2))).map (fun l => (Value.slice (some ⟨st.length, 0, none⟩) n n, loc, st ++ [⟨l, e, 0⟩])) else none
      | _, _ => none)
    | none => none) := by
  simp only [evalEff]
  cases elemA P t with
  | none => rfl
  | some e =>
    simp only
    cases rowA P e n with
    | none => rfl
    | some row =>
      cases szA P e with
      | none => rfl
      | some sz =>
        simp only
        have h1 : (ps.all fun p => okv (ρ p.2)) = ps.toList.all (fun p => okv (ρ p.2)) := by rw [Array.all_toList]
        have h2 : (ps.map fun (i, x) => (i, ρ x)).toList = ps.toList.map fun p => (p.1, ρ p.2) := by simp
        rw [h1, h2, fill_K, Option.map_map]
        split
        · cases fillK sz row (ps.toList.map fun p => (p.1, ρ p.2)) <;> rfl
        · rfl
/-- A row stays where another block alone has turned. -/
theorem rw_away {st st' : St} {xs : List ByteArray} {s : Value} {q : Nat} (h : Rw st xs s) (ha : Away (some q) st st') (hn : topId s ≠ some q) : Rw st' xs s := by
  rcases h with h | ⟨i, o, c, rfl, h⟩
  · exact .inl h
  · refine .inr ⟨i, o, c, rfl, fun j x hx => ?_⟩
    obtain ⟨cs, h1, h2, h3⟩ := h j x hx
    refine ⟨cs, h1, h2, fun k v hv => ?_⟩
    have h4 := h3 k v hv
    have hi : i < st.length := by
      unfold cell at h4
      rcases Nat.lt_or_ge i st.length with h5 | h5
      · exact h5
      · rw [List.getElem?_eq_none h5] at h4; cases h4
    have h5 := ha.2 i hi (fun e => hn e.symm)
    unfold cell at h4 ⊢
    rw [h5]; exact h4
end Go.Proofs.YtlmbmplhdfgmfaaDoor.AM


/- Names drawn: l1Pick out of a list literal, l2Any, l2List, DrawSortNames. -/
namespace Go.Proofs.YtlmbmplhdfgmfaaDoor.AM
open Go Go.Proofs
set_option linter.unusedVariables false
set_option linter.unusedSimpArgs false
set_option maxRecDepth 100000
attribute [local go_sem] List.map_cons List.map_nil List.all_cons List.all_nil Bool.and_self Option.map_some List.getElem?_toArray Option.bind_some gye_b gye_t gsk_b gsk_t gb1 gb2 gb3 gb4 bne_self_eq_false beq_self_eq_true w_guard w_nil stepV_some step_some step_some' w_move w_assign w_pick w_binOp w_unOp w_load w_fieldAddr w_indexAddr w_len w_max w_index ev_max max_int ev_index w_box w_alloc w_store w_field w_extract w_nilCheck w_convert w_buildSlice w_build ev_buildL fillL_nil fillL_cons bs0 bs1 ev_conv ev_bin ev_un ev_pick ev_load ev_fieldAddr ev_indexAddr ev_len ev_field ev_extract ev_nilCheck fr_tmp fr_int fr_bool fr_str fr_nil fr_func put_some put_none bin_lss bin_leq bin_gtr bin_geq bin_eql bin_neq bin_add bin_sub bin_mul bin_seql bin_sneq un_not pick_ ext_ loadA_p cellAt_l cellAt_h okPtr_l okPtr_h fadA_p allocA_l storeA_l cells_agg cells_int cells_str cells_sl cells_bool flat_i flat_s flat_b flat_sl flat_nil loc_agg loc_int loc_str loc_sl loc_bool loc_fn loc_ptr okv_agg okv_int okv_str okv_sl okv_bool cellsFrom splice upd_eval argEnv_zero argEnv_succ ne_eq Nat.add_one_ne_zero not_false_eq_true List.not_mem_nil and_self decide_true List.getElem?_cons_zero List.getElem?_cons_succ List.size_toArray List.length_cons List.length_nil List.take_succ_cons List.take_zero List.drop_succ_cons List.drop_zero List.cons_append List.nil_append List.drop_nil Bool.not_true Bool.not_false Bool.false_eq_true Nat.zero_add Nat.add_zero wrap_in List.toList_toArray List.mem_cons or_self or_false false_or
attribute [local go_sem] ag22 ag24 ag3 ag4 ag5 ag58 ag70 ag9 bu24 bu32 bu37 bu76 bu87 by24 by5 el22 el54 of24_0 of24_1 of24_2 of24_3 of32_0 of32_1 of32_2 of37_0 ro24_1 ro5_1 sz22 sz24 sz3 sz4 sz5 sz58 sz70 sz9 ze24 ze5 ze78 ze92
-- AUTO

def isStrB : Value → Bool
  | .string _ => true
  | _ => false
def strB : Value → ByteArray
  | .string s => s
  | _ => ⟨#[]⟩
theorem strs_map {cs : List Value} (h : cs.all isStrB = true) : cs = (cs.map strB).map Value.string := by
  rw [List.map_map]
  refine ((List.map_congr_left fun v hv => ?_).trans (List.map_id cs)).symm
  have := List.all_eq_true.1 h v hv
  cases v <;> first | rfl | cases this
theorem row_last (st : St) (ns : List ByteArray) (t : TypeId) (n : Nat) : Rw (st ++ [⟨ns.map Value.string, t, 0⟩]) ns (.slice (some ⟨st.length, 0, none⟩) ns.length n) := .inr ⟨st.length, 0, n, rfl, fun j x hx => ⟨[.string x], rfl, rfl, fun k v hv => by
  have hk : k = 0 := by have := (List.getElem?_eq_some_iff.1 hv).1; simp at this; omega
  subst hk
  have hj := List.getElem?_eq_some_iff.1 hx
  obtain ⟨hj1, hj2⟩ := hj
  have : v = .string x := by simpa using hv.symm
  subst this
  simp [cell, hx, show Kind.sz ByteArray = 1 from rfl]⟩⟩
theorem size_of_mem2 {w : ByteArray} {cs : List Value} {m : Nat} (h : Value.string w ∈ cs) (hs : cs.all (fun v => match v with | .string s => decide (s.size ≤ m) | _ => false) = true) : w.size ≤ m := by
  have := List.all_eq_true.1 hs _ h
  simpa using this
theorem rwI_away {st st' : St} {xs : List Int} {s : Value} {q : Nat} (h : Rw st xs s) (ha : Away (some q) st st') (hn : topId s ≠ some q) : Rw st' xs s := by
  rcases h with h | ⟨i, o, c, rfl, h⟩
  · exact .inl h
  · refine .inr ⟨i, o, c, rfl, fun j x hx => ?_⟩
    obtain ⟨cs, h1, h2, h3⟩ := h j x hx
    refine ⟨cs, h1, h2, fun k v hv => ?_⟩
    have h4 := h3 k v hv
    have hi : i < st.length := by
      unfold cell at h4
      rcases Nat.lt_or_ge i st.length with h5 | h5
      · exact h5
      · rw [List.getElem?_eq_none h5] at h4; cases h4
    have h5 := ha.2 i hi (fun e => hn e.symm)
    unfold cell at h4 ⊢
    rw [h5]; exact h4
end Go.Proofs.YtlmbmplhdfgmfaaDoor.AM


/- Regions that draw their order, walked in several orders; some pairs change places by what is known where they stand. -/
namespace Go.Proofs.YtlmbmplhdfgmfaaDoor.AM
open Go
set_option linter.unusedVariables false
set_option linter.unusedSimpArgs false

/-- What is known goes on over an operation. -/
def Keeps (P : Program) (A H : List Tmp) (G : Nat → Option Tmp) (I : Fr → St → Prop) (a : Oper × Bool) : Prop := ∀ (R : List (Oper × Bool)) (K : Fr → St → Prop) (fr : Fr) (st : St), I fr st → WOps P A H G (a :: R) K fr st → WOps P A H G [a] (fun fr st => I fr st ∧ WOps P A H G R K fr st) fr st
/-- Two operations change places, by what is known. -/
def SwI (P : Program) (A H : List Tmp) (G : Nat → Option Tmp) (I : Fr → St → Prop) (a x : Oper × Bool) : Prop := ∀ (R : List (Oper × Bool)) (K : Fr → St → Prop) (fr : Fr) (st : St), I fr st → WOps P A H G (a :: x :: R) K fr st → WOps P A H G (x :: a :: R) K fr st
theorem WOps_unhead {P : Program} {A H : List Tmp} {G : Nat → Option Tmp} {ox : Oper × Bool} {R : List (Oper × Bool)} {K : Fr → St → Prop} {fr : Fr} {st : St} (h : WOps P A H G [ox] (fun fr st => WOps P A H G R K fr st) fr st) : WOps P A H G (ox :: R) K fr st := by
  obtain ⟨o, x⟩ := ox
  unfold WOps at h ⊢
  exact h
theorem hopI {P : Program} {A H : List Tmp} {G : Nat → Option Tmp} {I : Fr → St → Prop} {x : Oper × Bool} {rest : List (Oper × Bool)} {K : Fr → St → Prop} : ∀ (As : List (Oper × Bool)), (∀ a ∈ As, SwI P A H G I a x ∧ Keeps P A H G I a) → ∀ fr st, I fr st → WOps P A H G (As ++ x :: rest) K fr st → WOps P A H G (x :: (As ++ rest)) K fr st := by
  intro As
  induction As with
  | nil => intro _ fr st _ h; exact h
  | cons a As ih =>
    intro hs fr st hI h
    refine (hs a (by simp)).1 _ _ _ _ hI (WOps_unhead ?_)
    exact ((hs a (by simp)).2 _ _ _ _ hI h).mono fun fr st ⟨h1, h2⟩ => ih (fun b hb => hs b (by simp [hb])) fr st h1 h2
def swapOkL (SP : List (Nat × Nat)) (A H : List Tmp) (l : List Oper) (p q : Nat × Bool) : Bool := swapOk A H l p q || SP.contains (p.1, q.1)
/-- Pairs of operations whose order counts. -/
def exmL (SP : List (Nat × Nat)) (A H : List Tmp) (l : List Oper) (T : List (List Nat)) : List (Nat × Bool) → List (Nat × Nat)
  | [] => []
  | p :: rest => ((rest.filter fun q => !((T.getD q.1 []).contains p.1 || swapOkL SP A H l p q)).map fun q => (p.1, q.1)) ++ exmL SP A H l T rest
def keepOL (SP : List (Nat × Nat)) (A H : List Tmp) (l : List Oper) (done : List Nat) (x : Nat) (π : List (Nat × Bool)) : Bool := (exmL SP A H l (ancT l) π).all fun pq => pq.2 != x || done.contains pq.1
/-- Whatever is drawn, one of the orders goes with it. -/
def gameL (SP : List (Nat × Nat)) (A H : List Tmp) (l : List Oper) (E : List Nat) : Nat → List (List (Nat × Bool)) → List Nat → Bool
  | 0, act, done => !act.isEmpty && E.all fun e => done.contains e
  | k + 1, act, done => !act.isEmpty && E.all fun e => done.contains e || !(((ancT l).getD e []).filter E.contains).all (done.contains ·) || gameL SP A H l E k (goOn l e (act.filter (keepOL SP A H l done e))) (e :: done)
def inEL (SP : List (Nat × Nat)) (A H : List Tmp) (l : List Oper) (E : List Nat) (π : List (Nat × Bool)) : Bool := (exmL SP A H l (ancT l) π).all fun pq => E.contains pq.1 && E.contains pq.2
def chkML (SP : List (Nat × Nat)) (A H : List Tmp) (l : List Oper) (E : List Nat) (PS : List (List (Nat × Bool))) : Bool :=
  tabOk l (ancT l) && (List.range l.length).all (fun i => E.contains i || !((l[i]?).bind fun o => callOf o.op).isSome) && PS.all (fun π => chk1 l π && inEL SP A H l E π) && gameL SP A H l E E.length PS []

theorem exm_specL {SP : List (Nat × Nat)} {A H : List Tmp} {l : List Oper} {T : List (List Nat)} : ∀ {π : List (Nat × Bool)} (X : List (Nat × Bool)) (q : Nat × Bool) (Y : List (Nat × Bool)), π = X ++ q :: Y → ∀ p ∈ X, p.1 ∈ T.getD q.1 [] ∨ swapOkL SP A H l p q = true ∨ (p.1, q.1) ∈ exmL SP A H l T π := by
  intro π
  induction π with
  | nil => intro X q Y e; cases X <;> cases e
  | cons r π ih =>
    intro X q Y e p hp
    cases X with
    | nil => cases hp
    | cons r' X =>
      injection e with e1 e2
      subst e1
      cases hp with
      | head =>
        cases hb : ((T.getD q.1 []).contains r.1 || swapOkL SP A H l r q) with
        | true =>
          rcases Bool.or_eq_true_iff.1 hb with h | h
          · exact .inl (by simpa using h)
          · exact .inr (.inl h)
        | false =>
          refine .inr (.inr ?_)
          simp only [exmL]
          refine List.mem_append_left _ (List.mem_map.2 ⟨q, List.mem_filter.2 ⟨by rw [e2]; simp, by rw [hb]; rfl⟩, rfl⟩)
      | tail _ hp =>
        rcases ih X q Y e2 p hp with h | h | h
        · exact .inl h
        · exact .inr (.inl h)
        · exact .inr (.inr (by simp only [exmL]; exact List.mem_append_right _ h))

section
variable {P : Program} {A H : List Tmp} {G : Nat → Option Tmp}
theorem wpAny_soundML {I : Fr → St → Prop} {SP : List (Nat × Nat)} {n : Nat} {B : Base} {l : List Oper} {E : List Nat} (hKeep : ∀ o ∈ l, ∀ x, Keeps P A H G I (o, x)) (hSP : ∀ p q a x, (p, q) ∈ SP → l[p]? = some a → l[q]? = some x → ∀ fp fq, SwI P A H G I (a, fp) (x, fq)) (ctab : tabOk l (ancT l) = true) (ccall : ∀ i o, l[i]? = some o → i ∉ E → callOf o.op = none) (hd : ∀ o ∈ l, ∀ t, o.dst = some t → t < n)
    (hG : ∀ j, G j = (l.toArray[j]?).bind (·.dst)) {K : Fr → St → Prop} {Q : Exit → Act → World → Prop}
    (hQ : ∀ fr' st' M' L' a' w', K fr' st' → Rel P B M' L' n fr' st' a' w' → Q .normal a' w') :
    ∀ (fuel k : Nat) (act : List (List (Nat × Bool))) (done : List Nat) (listed : Array Bool) (fr : Fr) (st : St) (M : List ME) (L : Nat → Nat) (a : Act) (w : World), (∀ π ∈ act, chk1 l π = true ∧ inEL SP A H l E π = true) → gameL SP A H l E k act done = true → (∀ e ∈ E, e ∈ done ↔ listed.getD e false = true) →
      listed.size = l.length → (∀ π ∈ act, (rem π listed).length = fuel) → (∀ i, i < l.length → listed.getD i false = true → ∀ d ∈ deps l i, listed.getD d false = true) →
      Rel P B M L n fr st a w → I fr st → (∀ π ∈ act, WOps P A H G (pickOps l (rem π listed)) K fr st) → wpAny P .any l.toArray Q fuel listed a w := by
  intro fuel
  induction fuel with
  | zero =>
    intro k act done listed fr st M L a w hchk hgame hdone hsz hlen hcl R hI h
    obtain ⟨π, hπ⟩ : ∃ π, π ∈ act := by
      cases act with
      | nil => cases k <;> simp [gameL] at hgame
      | cons π _ => exact ⟨π, by simp⟩
    have hc := (hchk π hπ).1
    unfold chk1 at hc
    simp only [Bool.and_eq_true] at hc
    obtain ⟨⟨⟨c1, c2⟩, c3⟩, c5⟩ := hc
    have cover : ∀ i, i < l.length → ∃ p ∈ π, p.1 = i := by
      intro i hi
      have := List.all_eq_true.1 c2 i (by simpa using hi)
      simpa using this
    have hrem : rem π listed = [] := List.eq_nil_of_length_eq_zero (hlen π hπ)
    refine ⟨?_, ?_⟩
    · apply List.eq_nil_iff_forall_not_mem.2
      intro i hi
      obtain ⟨h1, h2, h3⟩ := mem_ready.1 hi
      obtain ⟨p, hp, rfl⟩ := cover i h1
      have : p ∈ rem π listed := mem_rem.2 ⟨hp, h2⟩
      rw [hrem] at this
      cases this
    · have := h π hπ
      rw [hrem] at this
      exact hQ _ _ _ _ _ _ this R
  | succ fuel ih =>
    intro k act done listed fr st M L a w hchk hgame hdone hsz hlen hcl R hI h
    refine ⟨fun hr => ?_, fun i hi => ?_⟩
    · -- something is ready
      exfalso
      obtain ⟨π, hπ⟩ : ∃ π, π ∈ act := by
        cases act with
        | nil => cases k <;> simp [gameL] at hgame
        | cons π _ => exact ⟨π, by simp⟩
      have hc := (hchk π hπ).1
      unfold chk1 at hc
      simp only [Bool.and_eq_true] at hc
      obtain ⟨⟨⟨c1, c2⟩, c3⟩, c5⟩ := hc
      have inl : ∀ p ∈ π, p.1 < l.length := fun p hp => by have := List.all_eq_true.1 c3 p hp; simpa using this
      have hlen := hlen π hπ
      have hex := rem_split (π := π) (listed := listed) (by intro e; rw [e] at hlen; cases hlen)
      obtain ⟨X, q, Y, e, h1, h2⟩ := hex
      have hq : q.1 < l.length := inl q (by rw [e]; simp)
      have : q.1 ∈ Region.ready .any l.toArray listed := by
        refine mem_ready.2 ⟨hq, h2, fun d hd => ?_⟩
        rcases topoOk_spec c5 X q Y e d hd with hd | ⟨p, hp, rfl⟩
        · cases hd
        · have h3 := h1 p hp
          have hp' : p.1 < listed.size := by rw [hsz]; exact inl p (by rw [e]; simp [hp])
          rw [getD_lt hp' false true]; exact h3
      rw [hr] at this
      cases this
    · obtain ⟨h1, h2, h3⟩ := mem_ready.1 hi
      obtain ⟨o, ho⟩ : ∃ o, l[i]? = some o := ⟨_, List.getElem?_eq_getElem h1⟩
      have hq' : i < listed.size := by rw [hsz]; exact h1
      -- the orders that go on, and the gameL that goes on
      obtain ⟨k', act', done', hact, hgame', hone, hdone', hkeep⟩ : ∃ k' act' done', (∀ π ∈ act', π ∈ act) ∧ gameL SP A H l E k' act' done' = true ∧ (callOf o.op = none ∨ ∃ π, act' = [π]) ∧ (∀ e ∈ E, e ∈ done' ↔ (e = i ∨ listed.getD e false = true)) ∧ ∀ π ∈ act', ∀ p, (p, i) ∈ exmL SP A H l (ancT l) π → listed.getD p false = true := by
        by_cases hE : i ∈ E
        · have hnd : i ∉ done := fun hh => by
            have := (hdone i hE).1 hh
            rw [getD_lt hq' false true] at this
            rw [h2] at this; cases this
          cases k with
          | zero =>
            exfalso
            simp only [gameL, Bool.and_eq_true] at hgame
            have := List.all_eq_true.1 hgame.2 i hE
            exact hnd (by simpa using this)
          | succ k =>
            simp only [gameL, Bool.and_eq_true] at hgame
            have h4 := List.all_eq_true.1 hgame.2 i hE
            simp only [Bool.or_eq_true, Bool.not_eq_true'] at h4
            have h5 : gameL SP A H l E k (goOn l i (act.filter (keepOL SP A H l done i))) (i :: done) = true := by
              rcases h4 with (h4 | h4) | h4
              · exact absurd (by simpa using h4) hnd
              · exfalso
                have h6 : (((ancT l).getD i []).filter E.contains).all (done.contains ·) = true := by
                  refine List.all_eq_true.2 fun d hdm => ?_
                  obtain ⟨hd1, hd2⟩ := List.mem_filter.1 hdm
                  have hl2 := tab_closed ctab (fun j => listed.getD j false = true) hcl i h1 h3 d hd1
                  have := (hdone d (by simpa using hd2)).2 hl2
                  simpa using this
                rw [h6] at h4
                cases h4
              · exact h4
            refine ⟨k, _, _, fun π hπ => (List.mem_filter.1 (goOn_sub π hπ)).1, h5, ?_, fun e he => ?_, fun π hπ p hp => ?_⟩
            · cases hcl2 : callOf o.op with
              | none => exact .inl rfl
              | some c =>
                refine .inr ?_
                have hgo : goOn l i (act.filter (keepOL SP A H l done i)) = (act.filter (keepOL SP A H l done i)).take 1 := by unfold goOn; rw [ho]; simp [hcl2]
                rw [hgo]
                rw [hgo] at h5
                cases hf : act.filter (keepOL SP A H l done i) with
                | nil => rw [hf] at h5; cases k <;> simp [gameL] at h5
                | cons π _ => exact ⟨π, rfl⟩
            · rw [List.mem_cons, hdone e he]
            · have hπ := goOn_sub π hπ
              have h6 := (List.mem_filter.1 hπ).2
              unfold keepOL at h6
              have h7 := List.all_eq_true.1 h6 _ hp
              simp only [bne_self_eq_false, Bool.false_or] at h7
              have hpE : p ∈ E := by
                have := (hchk π (List.mem_filter.1 hπ).1).2
                unfold inEL at this
                have := List.all_eq_true.1 this _ hp
                simp only [Bool.and_eq_true] at this
                simpa using this.1
              exact (hdone p hpE).1 (by simpa using h7)
        · refine ⟨k, act, done, fun _ h => h, hgame, .inl (ccall i o ho hE), fun e he => ⟨fun hh => .inr ((hdone e he).1 hh), fun hh => ?_⟩, fun π hπ p hp => ?_⟩
          · rcases hh with rfl | hh
            · exact absurd he hE
            · exact (hdone e he).2 hh
          · exfalso
            have := (hchk π hπ).2
            unfold inEL at this
            have := List.all_eq_true.1 this _ hp
            simp only [Bool.and_eq_true] at this
            exact hE (by simpa using this.2)
      have hgetD : ∀ (j : Nat) (b : Bool), j < listed.size → (listed.setIfInBounds i true).getD j b = if j = i then true else listed.getD j b := by
        intro j b hj
        simp only [Array.getD_eq_getD_getElem?, Array.getElem?_setIfInBounds]
        by_cases e : j = i
        · subst e; simp [hj]
        · simp [e, Ne.symm e]
      -- one step, for each order
      have hall : ∀ π ∈ act', ∃ x R', rem π (listed.setIfInBounds i true) = R' ∧ R'.length = fuel ∧ WOps P A H G ((o, x) :: pickOps l R') K fr st := by
        intro π hπ'
        have hπ := hact π hπ'
        have hc := (hchk π hπ).1
        unfold chk1 at hc
        simp only [Bool.and_eq_true] at hc
        obtain ⟨⟨⟨c1, c2⟩, c3⟩, c5⟩ := hc
        have cover : ∀ i, i < l.length → ∃ p ∈ π, p.1 = i := by
          intro i hi
          have := List.all_eq_true.1 c2 i (by simpa using hi)
          simpa using this
        have inl : ∀ p ∈ π, p.1 < l.length := fun p hp => by have := List.all_eq_true.1 c3 p hp; simpa using this
        have hlen := hlen π hπ
        have h := h π hπ
        have hex : ∃ X q Y, rem π listed = X ++ q :: Y ∧ q.1 = i ∧ ∃ X' Y', π = X' ++ q :: Y' ∧ (∀ p ∈ X, p ∈ X') := by
          obtain ⟨q, hq, rfl⟩ := cover i h1
          obtain ⟨X', Y', e⟩ := List.append_of_mem hq
          refine ⟨rem X' listed, q, rem Y' listed, ?_, rfl, X', Y', e, fun p hp => (List.mem_filter.1 hp).1⟩
          rw [e]
          unfold rem
          rw [List.filter_append, List.filter_cons, h2]
          rfl
        obtain ⟨X, q, Y, e, rfl, X', Y', e', hX⟩ := hex
        have hop' := hopI (P := P) (A := A) (H := H) (G := G) (I := I) (K := K) (x := (o, q.2)) (rest := pickOps l Y) (pickOps l X) (fun ax hax => by
          obtain ⟨p, hp, hpo, hpx⟩ := mem_pickOps hax
          have hno : listed.getD p.1 false ≠ true := fun hl2 => by
            have hmem : p ∈ rem π listed := by rw [e]; simp [hp]
            have := (mem_rem.1 hmem).2
            have hp' : p.1 < listed.size := by rw [hsz]; exact (List.getElem?_eq_some_iff.1 hpo).1
            rw [getD_lt hp' true false] at this
            exact absurd (hl2.symm.trans this) (by simp)
          have hsw : swapOkL SP A H l p q = true := by
            rcases exm_specL (SP := SP) (A := A) (H := H) (l := l) (T := ancT l) X' q Y' e' p (hX p hp) with ht | hs | hx
            · exact absurd (tab_closed ctab (fun i => listed.getD i false = true) hcl q.1 h1 h3 p.1 ht) hno
            · exact hs
            · exact absurd (hkeep π hπ' p.1 hx) hno
          obtain ⟨a1, a2⟩ := ax
          simp only at hpx hpo
          refine ⟨?_, hKeep a1 (List.mem_of_getElem? hpo) a2⟩
          unfold swapOkL at hsw
          rcases Bool.or_eq_true_iff.1 hsw with hs | hs
          · have := swapOk_spec hpo ho hs
            rw [hpx] at this
            exact fun R K fr st _ h => hop (ops := l.toArray) (x := (o, q.2)) (rest := R) hG [(a1, a2)] (fun c hc => by rw [List.mem_singleton.1 hc]; exact this) fr st h
          · exact hSP p.1 q.1 a1 o (by simpa using hs) hpo ho a2 q.2) fr st hI (by rw [e, pickOps_app, pickOps_cons ho] at h; exact h)
        have hrem' : ∀ Z : List (Nat × Bool), (∀ p ∈ Z, p.1 < l.length) → rem Z (listed.setIfInBounds q.1 true) = (rem Z listed).filter fun p => p.1 != q.1 := by
          intro Z hZ
          unfold rem
          rw [List.filter_filter]
          apply List.filter_congr
          intro p hp
          rw [hgetD p.1 true (by rw [hsz]; exact hZ p hp)]
          by_cases e : p.1 = q.1
          · simp [e]
          · simp [e]
        have hnd : (π.map (·.1)).Nodup := nodupB_spec c1.2
        have hXY : rem π (listed.setIfInBounds q.1 true) = X ++ Y := by
          rw [hrem' π inl, e]
          have hnd2 : ((X ++ q :: Y).map (·.1)).Nodup := by
            rw [← e]
            exact hnd.sublist (List.Sublist.map _ List.filter_sublist)
          rw [List.map_append, List.map_cons] at hnd2
          have hni := List.nodup_append.1 hnd2
          rw [List.filter_append, List.filter_cons]
          simp only [bne_self_eq_false, Bool.false_eq_true, if_false]
          congr 1
          · apply List.filter_eq_self.2
            intro p hp
            have : p.1 ≠ q.1 := fun e => hni.2.2 p.1 (List.mem_map.2 ⟨p, hp, rfl⟩) q.1 (by simp) e
            simpa using this
          · apply List.filter_eq_self.2
            intro p hp
            have : p.1 ≠ q.1 := fun e => (List.nodup_cons.1 hni.2.1).1 (e ▸ List.mem_map.2 ⟨p, hp, rfl⟩)
            simpa using this
        refine ⟨q.2, X ++ Y, hXY, ?_, by rw [pickOps_app]; exact hop'⟩
        rw [e] at hlen
        simp only [List.length_append, List.length_cons] at hlen ⊢
        omega
      obtain ⟨π0, hπ0⟩ : ∃ π, π ∈ act' := by
        cases act' with
        | nil => cases k' <;> simp [gameL] at hgame'
        | cons π _ => exact ⟨π, by simp⟩
      have hone2 : ∃ x, WOps P A H G [(o, x)] (fun fr st => ∀ π ∈ act', WOps P A H G (pickOps l (rem π (listed.setIfInBounds i true))) K fr st) fr st := by
        rcases hone with hn | ⟨π, rfl⟩
        · refine ⟨false, WOps_conj hn ⟨π0, hπ0⟩ fun π hπ => ?_⟩
          obtain ⟨x, R', h4, _, h5⟩ := hall π hπ
          exact ⟨x, by rw [h4]; exact WOps_head h5⟩
        · obtain ⟨x, R', h4, _, h5⟩ := hall π (by simp)
          refine ⟨x, (WOps_head h5).mono fun fr st hq π' hπ' => ?_⟩
          obtain rfl := List.mem_singleton.1 hπ'
          rw [h4]; exact hq
      obtain ⟨x, hw1⟩ := hone2
      have hw2 := hKeep o (List.mem_of_getElem? ho) x [] _ fr st hI hw1
      have hstep := step_sound (Q := Q) R hG (hd o (List.mem_of_getElem? ho)) hw2 (K' := wpAny P .any l.toArray Q fuel (listed.setIfInBounds i true)) fun fr' st' M' L' a' w' h' R' => by
        obtain ⟨hI', h'⟩ := h'
        rw [w_nil] at h'
        refine ih k' act' done' (listed.setIfInBounds i true) fr' st' M' L' a' w' (fun π hπ => hchk π (hact π hπ)) hgame' (fun e he => ?_) (by simpa using hsz) (fun π hπ => ?_) ?_ R' hI' h'
        · rw [hdone' e he]
          by_cases hel : e < listed.size
          · rw [hgetD e false hel]
            by_cases ee : e = i
            · simp [ee]
            · simp [ee]
          · have h6 : e ≠ i := by omega
            simp [h6, Array.getD, hel]
        · obtain ⟨x, R', h4, h5, _⟩ := hall π hπ
          rw [h4]; exact h5
        · intro j hj hjl d hdj
          have hdl : d < listed.size ∨ listed.size ≤ d := by omega
          have base : listed.getD d false = true := by
            rw [hgetD j false (by rw [hsz]; exact hj)] at hjl
            split at hjl
            · rename_i ej; subst ej; exact h3 d hdj
            · exact hcl j hj hjl d hdj
          rcases hdl with hdl | hdl
          · rw [hgetD d false hdl]
            by_cases ed : d = i
            · rw [if_pos ed]
            · rw [if_neg ed]; exact base
          · simp [Array.getD, Nat.not_lt.2 hdl] at base
      unfold wpOp
      have ho' : l.toArray[i]? = some o := by simpa using ho
      rw [ho']
      simp only
      split at hstep
      · rename_i hw; rw [if_pos hw]; exact .inl hstep
      · rename_i hw; rw [if_neg hw]; exact hstep

/-- A region that draws its order, walked in several orders. -/
theorem W_regionML {I : Fr → St → Prop} {n id : Nat} {Q : Ex → Fr → St → Prop} {fr : Fr} {st : St} (hm : P.follows .mixedOrders = true) {l : List Oper} (SP : List (Nat × Nat)) (A : List Tmp) (E : List Nat) (PS : List (List (Nat × Bool))) (hd : dstsLt n l = true) (hc : chkML SP A H l E PS = true) (hI : I fr st)
    (hKeep : ∀ G, (∀ j, G j = (l[j]?).bind (·.dst)) → ∀ o ∈ l, ∀ x, Keeps P A H G I (o, x)) (hSP : ∀ G, (∀ j, G j = (l[j]?).bind (·.dst)) → ∀ p q a x, (p, q) ∈ SP → l[p]? = some a → l[q]? = some x → ∀ fp fq, SwI P A H G I (a, fp) (x, fq))
    (h : ∀ G : Nat → Option Tmp, (∀ j, G j = (l[j]?).bind (·.dst)) → ∀ π ∈ PS, WOps P A H G (pickOps l π) (Q .normal) fr st) : W P H n (.region id l.toArray true) Q fr st := by
  intro B M L a w R
  refine wp_region_any hm ?_
  unfold chkML at hc
  simp only [Bool.and_eq_true] at hc
  obtain ⟨⟨⟨h1, h2⟩, h3⟩, h4⟩ := hc
  have hchk : ∀ π ∈ PS, chk1 l π = true ∧ inEL SP A H l E π = true := fun π hπ => by have := List.all_eq_true.1 h3 π hπ; simpa using this
  have hrem : ∀ π ∈ PS, rem π (Array.replicate l.length false) = π ∧ π.length = l.length := by
    intro π hπ
    have hc1 := (hchk π hπ).1
    unfold chk1 at hc1
    simp only [Bool.and_eq_true] at hc1
    refine ⟨List.filter_eq_self.2 fun p hp => ?_, by simpa using hc1.1.1.1.1⟩
    have := List.all_eq_true.1 hc1.1.2 p hp
    have hp' : p.1 < l.length := by simpa using this
    simp [Array.getD, hp']
  refine wpAny_soundML (I := I) (SP := SP) (G := fun j => (l[j]?).bind (·.dst)) (E := E) (hKeep _ fun _ => rfl) (hSP _ fun _ => rfl) h1 (fun i o ho hE => ?_) (dstsLt_of hd) (fun j => by simp) (Q := fun e a' w' => ∃ x fr' st' M' L', e = Ex.to x ∧ Q x fr' st' ∧ Rel P B M' L' n fr' st' a' w')
    (fun fr' st' M' L' a' w' hK R' => ⟨.normal, fr', st', M', L', rfl, hK, R'⟩) l.toArray.size E.length PS [] (Array.replicate l.toArray.size false) fr st M L a _ hchk h4 (fun e he => ?_) (by simp) (fun π hπ => ?_) ?_ R.drewAt hI (fun π hπ => ?_)
  · have := List.all_eq_true.1 h2 i (by simpa using (List.getElem?_eq_some_iff.1 ho).1)
    simp only [ho, Option.bind_some, Bool.or_eq_true, Bool.not_eq_true'] at this
    rcases this with h | h
    · exact absurd (by simpa using h) hE
    · simpa using h
  · constructor
    · intro hh; cases hh
    · intro hh
      have : (Array.replicate l.toArray.size false).getD e false = false := by
        simp only [Array.getD_eq_getD_getElem?, Array.getElem?_replicate]
        split <;> rfl
      rw [this] at hh; cases hh
  · simp only [List.size_toArray]; rw [(hrem π hπ).1, (hrem π hπ).2]
  · intro i hi hli
    simp [Array.getD, hi] at hli
  · simp only [List.size_toArray]; rw [(hrem π hπ).1]; exact h _ (fun _ => rfl) π hπ

end

section
variable {P : Program} {A H : List Tmp} {G : Nat → Option Tmp}
/-! Loads of local boxes. -/
/-- No pointer into the store. -/
def nonH : Value → Bool
  | .pointer (some ⟨_, _, none⟩) => false
  | _ => true
def ldL (Ls : List Tmp) : Op → Bool
  | .load _ (.tmp t) => Ls.contains t
  | .fieldAddr _ (.tmp t) _ => Ls.contains t
  | _ => false
def faL (Ls : List Tmp) : Op → Bool
  | .fieldAddr _ (.tmp t) _ => Ls.contains t
  | _ => false
def isApp : Op → Bool
  | .call { callee := .builtin .append, .. } => true
  | _ => false
/-- These slots point to local boxes. -/
def InvL (Ls : List Tmp) (fr : Fr) (_ : St) : Prop := ∀ t ∈ Ls, nonH (fr.env t) = true
def okL (Ls : List Tmp) (l : List Oper) (p q : Nat) : Bool := match l[p]?, l[q]? with
  | some a, some x => (ldL Ls a.op && (a.guard.isNone && x.guard.isNone)) && ((((callOf x.op).isSome || isApp x.op)) && a.apart l.toArray x)
  | _, _ => false
def spL (Ls : List Tmp) (l : List Oper) : List (Nat × Nat) := (List.range l.length).flatMap fun p => ((List.range l.length).filter fun q => okL Ls l p q).map fun q => (p, q)
def dstL (Ls : List Tmp) (o : Oper) : Bool := match o.dst with
  | some d => !Ls.contains d || (faL Ls o.op && o.guard.isNone)
  | none => true
def chkLL (Ls A H : List Tmp) (l : List Oper) (E : List Nat) (PS : List (List (Nat × Bool))) : Bool :=
  l.all (dstL Ls) && chkML (spL Ls l) A H l E PS
theorem spL_mem {Ls : List Tmp} {l : List Oper} {p q : Nat} (h : (p, q) ∈ spL Ls l) : okL Ls l p q = true := by
  unfold spL at h
  obtain ⟨p', _, h2⟩ := List.mem_flatMap.1 h
  obtain ⟨q', h3, h4⟩ := List.mem_map.1 h2
  cases h4
  exact (List.mem_filter.1 h3).2
theorem InvL.put {Ls : List Tmp} {fr : Fr} {st st' : St} (h : InvL Ls fr st) {d : Option Tmp} {v : Value} (hd : ∀ t, d = some t → t ∉ Ls ∨ nonH v = true) (l : Nat → Nat × List Value) : InvL Ls ⟨AM.put fr.env d v, l⟩ st' := fun t ht => by
  cases d with
  | none => exact h t ht
  | some d =>
    show nonH (upd fr.env d v t) = true
    by_cases e : t = d
    · subst e
      rw [upd_same]
      exact (hd _ rfl).resolve_left fun h => h ht
    · rw [upd_ne _ _ _ _ e]
      exact h t ht
theorem keepsL {Ls : List Tmp} {o : Oper} (hd : dstL Ls o = true) (x : Bool) : Keeps P A H G (InvL Ls) (o, x) := by
  intro R K fr st hI h
  by_cases hn : ∀ t, o.dst = some t → t ∉ Ls
  · have hput : ∀ v (l : Nat → Nat × List Value) s, InvL Ls ⟨AM.put fr.env o.dst v, l⟩ s := fun v l s => hI.put (fun t ht => .inl (hn t ht)) l
    unfold WOps at h ⊢
    split at h
    · exact h.elim
    · exact ⟨hput _ _ _, h⟩
    · split at h
      · obtain ⟨g, h1, h2, h3⟩ := h
        exact ⟨g, h1, h2, h3.mono fun r st' ⟨q1, q2⟩ => ⟨q1, hput _ _ _, q2⟩⟩
      · split at h
        · exact ⟨hput _ _ _, h⟩
        · exact h.elim
  · have hex : ∃ d, o.dst = some d ∧ d ∈ Ls := Classical.byContradiction fun h2 => hn fun t ht hL => h2 ⟨t, ht, hL⟩
    obtain ⟨d, hdd, hdL⟩ := hex
    unfold dstL at hd
    rw [hdd] at hd
    simp only [Bool.or_eq_true, Bool.and_eq_true, Bool.not_eq_true'] at hd
    have hfa : faL Ls o.op = true ∧ o.guard.isNone = true := by
      rcases hd with hd | hd
      · have : Ls.contains d = true := by simpa using hdL
        rw [this] at hd; cases hd
      · exact hd
    obtain ⟨hf, hg⟩ := hfa
    unfold faL at hf
    split at hf
    · rename_i ty t f hop
      have htL : t ∈ Ls := by simpa using hf
      have hcn : callOf o.op = none := by rw [hop]; rfl
      have ht := hI t htL
      rw [WOps_cons hg, hcn] at h ⊢
      simp only at h ⊢
      split at h
      · rename_i v l s hs
        obtain ⟨q1, q2, q3⟩ := stepVal_pure (.inr (by rw [hop]; rfl)) hs
        replace q2 := q2.symm; replace q3 := q3.symm
        subst q2; subst q3
        refine ⟨hI.put (fun t' _ => .inr ?_) _, h⟩
        rw [hop] at q1
        have q1' : (match fr.env t with
          | .pointer (some ⟨b, o, sp⟩) => (match offA P ty f with
            | some d => if okPtr A fr.loc b sp then some (Value.pointer (some ⟨b, o + d, sp⟩)) else none
            | none => none)
          | _ => none) = some v := q1
        split at q1'
        · rename_i b o' sp he
          rw [he] at ht
          split at q1'
          · split at q1'
            · cases q1'
              cases sp with
              | none => cases ht
              | some _ => rfl
            · cases q1'
          · cases q1'
        · cases q1'
      · exact h.elim
    · cases hf
theorem loadA_loc {t : TypeId} {p : Value} (h : nonH p = true) (loc : Nat → Nat × List Value) (st st' : St) : loadA P A t p loc st' = loadA P A t p loc st := by
  cases p with
  | pointer a =>
    cases a with
    | none => rfl
    | some ad =>
      obtain ⟨b, o, w⟩ := ad
      cases w with
      | none => cases h
      | some w => rw [loadA_p, loadA_p]; rfl
  | _ => rfl
theorem app_loc {o : Oper} (h : isApp o.op = true) {fr : Fr} {st : St} {v : Value} {l : Nat → Nat × List Value} {s : St} (hs : stepVal P A H o fr st = some (v, l, s)) : l = fr.loc := by
  unfold isApp at h
  split at h
  · rename_i c1 c2 hop
    unfold stepVal at hs
    rw [hop] at hs
    have e : ∀ ρ loc st, evalVal P A (.call { callee := .builtin .append, args := c1, argTypes := c2 }) ρ loc st = none := fun _ _ _ => rfl
    rw [e] at hs
    simp only at hs
    unfold evalEff at hs
    rw [hop] at hs
    simp only at hs
    split at hs
    · simp only [Option.map_eq_some_iff] at hs
      obtain ⟨r, _, hr⟩ := hs
      cases hr; rfl
    · cases hs
  · cases h
theorem swL {ops : Array Oper} {Ls : List Tmp} {a x : Oper} (hld : ldL Ls a.op = true) (hga : a.guard.isNone = true) (hgx : x.guard.isNone = true) (hx : (callOf x.op).isSome = true ∨ isApp x.op = true) (hap : a.apart ops x = true) (fa fx : Bool) : SwI P A H G (InvL Ls) (a, fa) (x, fx) := by
  intro R K fr st hI h
  obtain ⟨env, loc⟩ := fr
  have sp := Oper.apart_spec hap
  have hrd : isPure a.op = true ∨ isRd a.op = true := .inr (by
    unfold ldL at hld
    split at hld
    · rename_i e; rw [e]; rfl
    · rename_i e; rw [e]; rfl
    · cases hld)
  have hcn : callOf a.op = none := by
    unfold ldL at hld
    split at hld
    · rename_i e; rw [e]; rfl
    · rename_i e; rw [e]; rfl
    · cases hld
  have hev : ∀ (l : Nat → Nat × List Value) (s s' : St), evalVal P A a.op (Fr.ev ⟨env, loc⟩) l s' = evalVal P A a.op (Fr.ev ⟨env, loc⟩) l s := by
    intro l s s'
    unfold ldL at hld
    split at hld
    · rename_i ty t e
      rw [e]
      exact loadA_loc (hI t (by simpa using hld)) l s s'
    · rename_i e; rw [e]; rfl
    · cases hld
  have hxa : ∀ (v : Value) (l l' : Nat → Nat × List Value) (y : Operand), y ∈ x.op.operands → Fr.ev ⟨put env a.dst v, l⟩ y = Fr.ev ⟨env, l'⟩ y := fun v l l' y hy => ev_put fun d hd e => by
    subst e; exact sp.1 d hd (mem_looks hy)
  rw [WOps_cons hga, hcn] at h
  simp only at h
  split at h
  rotate_left
  · exact h.elim
  rename_i va l s hs
  obtain ⟨q1, q2, q3⟩ := stepVal_pure hrd hs
  replace q2 := q2.symm; replace q3 := q3.symm
  subst q2; subst q3
  simp only at h q1
  have back : ∀ (v : Value) (s' : St), WOps P A H G R K ⟨put (put env a.dst va) x.dst v, loc⟩ s' → WOps P A H G ((a, fa) :: R) K ⟨put env x.dst v, loc⟩ s' := by
    intro v s' hh
    rw [WOps_cons hga, hcn]
    simp only
    have e : evalVal P A a.op (Fr.ev ⟨put env x.dst v, loc⟩) loc s' = some va := by
      rw [evalVal_apart hap]
      exact (hev loc _ _).trans q1
    rw [stepVal_of e]
    rw [put_comm _ _ _ sp.2.1] at hh
    exact hh
  rw [WOps_cons hgx] at h ⊢
  cases hc : callOf x.op with
  | some fa' =>
    obtain ⟨f, args⟩ := fa'
    rw [hc] at h
    simp only at h ⊢
    obtain ⟨o1, o2⟩ := callOf_operands hc
    obtain ⟨g, h1, h2, h3⟩ := h
    refine ⟨g, ?_, ?_, ?_⟩
    · rw [← hxa va loc loc f o2]; exact h1
    · rw [← Array.all_toList] at h2 ⊢
      rw [List.all_eq_true] at h2 ⊢
      intro y hy
      have := h2 y hy
      rw [hxa va loc loc y (o1 y (by simpa using hy))] at this
      exact this
    · have e3 : args.toList.map (Fr.ev ⟨put env a.dst va, loc⟩) = args.toList.map (Fr.ev ⟨env, loc⟩) := List.map_congr_left fun y hy => hxa va loc loc y (o1 y (by simpa using hy))
      rw [e3] at h3
      exact h3.mono fun r st' ⟨p1, p2⟩ => ⟨p1, back r st' p2⟩
  | none =>
    rw [hc] at h
    simp only at h ⊢
    have hxapp : isApp x.op = true := by
      rcases hx with hx | hx
      · rw [hc] at hx; cases hx
      · exact hx
    split at h
    · rename_i v l s' hs'
      have e := stepVal_congr (P := P) (A := A) (H := H) (o := x) (fr := ⟨put env a.dst va, loc⟩) (fr' := ⟨env, loc⟩) (st := st) rfl fun y hy => (hxa va _ _ y hy).symm
      rw [e, hs']
      have := app_loc hxapp hs'
      simp only at this
      subst this
      exact back v s' h
    · exact h.elim
end
/-- A region that draws its order, walked in several orders; loads of the local boxes Ls may change places with calls and appends. -/
theorem W_regL {P : Program} {H : List Tmp} {n : Nat} {Q : Ex → Fr → St → Prop} {fr : Fr} {st : St} {id : Nat} {l : List Oper} {rest : Code} (hm : P.follows .mixedOrders = true) (Ls A : List Tmp) (E : List Nat) (PS : List (List (Nat × Bool))) (hd : dstsLt n l = true) (hc : chkLL Ls A H l E PS = true) (hI : ∀ t ∈ Ls, nonH (fr.env t) = true)
    (h : ∀ (G : Nat → Option Tmp) (K : Fr → St → Prop), (∀ j, G j = (l[j]?).bind (·.dst)) → (∀ fr st, W P H n rest Q fr st → K fr st) → ∀ π ∈ PS, WOps P A H G (pickOps l π) K fr st) : W P H n (.seq (.region id l.toArray true) rest) Q fr st := by
  unfold chkLL at hc
  obtain ⟨h1, h2⟩ := Bool.and_eq_true_iff.1 hc
  refine W_seq (W_regionML (I := InvL Ls) hm _ A E PS hd h2 hI (fun G hG o ho x => keepsL (List.all_eq_true.1 h1 o ho) x) (fun G hG p q a x hpq ha hx fp fq => ?_) fun G hG => h G _ hG fun _ _ h => h)
  have := spL_mem hpq
  unfold okL at this
  rw [ha, hx] at this
  simp only [Bool.and_eq_true, Bool.or_eq_true] at this
  obtain ⟨⟨g1, g2, g3⟩, g4, g5⟩ := this
  exact swL g1 g2 g3 g4 g5 fp fq
theorem W_endL {P : Program} {H : List Tmp} {n : Nat} {Q : Ex → Fr → St → Prop} {fr : Fr} {st : St} {id : Nat} {l : List Oper} (hm : P.follows .mixedOrders = true) (Ls A : List Tmp) (E : List Nat) (PS : List (List (Nat × Bool))) (hd : dstsLt n l = true) (hc : chkLL Ls A H l E PS = true) (hI : ∀ t ∈ Ls, nonH (fr.env t) = true)
    (h : ∀ (G : Nat → Option Tmp) (K : Fr → St → Prop), (∀ j, G j = (l[j]?).bind (·.dst)) → (∀ fr st, Q .normal fr st → K fr st) → ∀ π ∈ PS, WOps P A H G (pickOps l π) K fr st) : W P H n (.region id l.toArray true) Q fr st := by
  unfold chkLL at hc
  obtain ⟨h1, h2⟩ := Bool.and_eq_true_iff.1 hc
  refine W_regionML (I := InvL Ls) hm _ A E PS hd h2 hI (fun G hG o ho x => keepsL (List.all_eq_true.1 h1 o ho) x) (fun G hG p q a x hpq ha hx fp fq => ?_) fun G hG => h G _ hG fun _ _ h => h
  have := spL_mem hpq
  unfold okL at this
  rw [ha, hx] at this
  simp only [Bool.and_eq_true, Bool.or_eq_true] at this
  obtain ⟨⟨g1, g2, g3⟩, g4, g5⟩ := this
  exact swL g1 g2 g3 g4 g5 fp fq
theorem fm_nil {α : Type} {P : α → Prop} : ∀ x ∈ ([] : List α), P x := fun x hx => by cases hx
theorem fm_cons {α : Type} {P : α → Prop} {a : α} {l : List α} (h1 : P a) (h2 : ∀ x ∈ l, P x) : ∀ x ∈ a :: l, P x := fun x hx => by
  rcases List.mem_cons.1 hx with rfl | hx
  · exact h1
  · exact h2 x hx
end Go.Proofs.YtlmbmplhdfgmfaaDoor.AM


/- ReduceWords. -/
namespace Go.Proofs.YtlmbmplhdfgmfaaDoor.AM
open Go Go.Proofs
set_option linter.unusedVariables false
set_option linter.unusedSimpArgs false
set_option maxRecDepth 100000
attribute [local go_sem] List.map_cons List.map_nil List.all_cons List.all_nil Bool.and_self Option.map_some List.getElem?_toArray Option.bind_some gye_b gye_t gsk_b gsk_t gb1 gb2 gb3 gb4 bne_self_eq_false beq_self_eq_true w_guard w_nil stepV_some step_some step_some' w_move w_assign w_pick w_binOp w_unOp w_load w_fieldAddr w_indexAddr w_len w_max w_index ev_max max_int ev_index w_box w_alloc w_store w_field w_extract w_nilCheck w_convert w_buildSlice w_build ev_buildL fillL_nil fillL_cons bs0 bs1 ev_conv ev_bin ev_un ev_pick ev_load ev_fieldAddr ev_indexAddr ev_len ev_field ev_extract ev_nilCheck fr_tmp fr_int fr_bool fr_str fr_nil fr_func put_some put_none bin_lss bin_leq bin_gtr bin_geq bin_eql bin_neq bin_add bin_sub bin_mul bin_seql bin_sneq un_not pick_ ext_ loadA_p cellAt_l cellAt_h okPtr_l okPtr_h fadA_p allocA_l storeA_l cells_agg cells_int cells_str cells_sl cells_bool flat_i flat_s flat_b flat_sl flat_nil loc_agg loc_int loc_str loc_sl loc_bool loc_fn loc_ptr okv_agg okv_int okv_str okv_sl okv_bool cellsFrom splice upd_eval argEnv_zero argEnv_succ ne_eq Nat.add_one_ne_zero not_false_eq_true List.not_mem_nil and_self decide_true List.getElem?_cons_zero List.getElem?_cons_succ List.size_toArray List.length_cons List.length_nil List.take_succ_cons List.take_zero List.drop_succ_cons List.drop_zero List.cons_append List.nil_append List.drop_nil Bool.not_true Bool.not_false Bool.false_eq_true Nat.zero_add Nat.add_zero wrap_in List.toList_toArray List.mem_cons or_self or_false false_or
attribute [local go_sem] ag22 ag24 ag3 ag4 ag5 ag58 ag70 ag9 bu24 bu32 bu37 bu76 bu87 by24 by5 el22 el54 of24_0 of24_1 of24_2 of24_3 of32_0 of32_1 of32_2 of37_0 ro24_1 ro5_1 sz22 sz24 sz3 sz4 sz5 sz58 sz70 sz9 ze24 ze5 ze78 ze92

def T.num : T → Int
  | .mk _ n _ _ => n
def word (v : Int) : T := .mk 3 v ⟨#[]⟩ []
/-- The last step of a reduction. -/
def redF (k n : Int) (nm : ByteArray) : List T → T
  | [x, y] => if (k == 2 && n == 0 && isB nm && x.isW && y.isW) = true then word (opW nm x.num y.num) else .mk k n nm [x, y]
  | ys => .mk k n nm ys
mutual
def T.red : T → T
  | .mk k n nm args => redF k n nm (T.redL args)
def T.redL : List T → List T
  | [] => []
  | x :: xs => x.red :: T.redL xs
end
theorem T.redL_map (xs : List T) : T.redL xs = xs.map T.red := by
  induction xs with
  | nil => rfl
  | cons x xs ih => simp only [T.redL, List.map_cons, ih]
theorem T.isW_num {t : T} (h : t.isW = true) : 0 ≤ t.num ∧ t.num ≤ 3 := by
  obtain ⟨k, n, nm, args⟩ := t
  simp only [T.isW, Bool.and_eq_true, decide_eq_true_eq] at h
  simp only [T.num]
  omega
theorem redF_no {k n : Int} {nm : ByteArray} {ys : List T} (h : k ≠ 2 ∨ n ≠ 0 ∨ isB nm = false ∨ ys.length ≠ 2) : redF k n nm ys = .mk k n nm ys := by
  unfold redF
  split
  · rw [if_neg]
    intro hh
    simp only [Bool.and_eq_true, beq_iff_eq] at hh
    rcases h with h | h | h | h
    · exact h hh.1.1.1.1
    · exact h hh.1.1.1.2
    · rw [h] at hh; simp at hh
    · simp at h
  · rfl
theorem redF_not {k n : Int} {nm : ByteArray} {x y : T} (h : x.isW = false ∨ y.isW = false) : redF k n nm [x, y] = .mk k n nm [x, y] := by
  show (if _ then _ else _) = _
  rw [if_neg]
  intro hh
  simp only [Bool.and_eq_true] at hh
  rcases h with h | h
  · rw [h] at hh; simp at hh
  · rw [h] at hh; simp at hh
theorem redF_yes {nm : ByteArray} {x y : T} (h3 : isB nm = true) (h1 : x.isW = true) (h2 : y.isW = true) : redF 2 0 nm [x, y] = word (opW nm x.num y.num) := by
  show (if _ then _ else _) = _
  rw [if_pos]
  simp [h1, h2, h3]
theorem own_word {e : TypeId} (st : St) (v : Int) : Own e st (word v) [.int .i64 3, .int .i64 v, .string ⟨#[]⟩, .slice none 0 0] [] := .nil _ _ _

theorem l3Word_ok (v : Int) (st : St) : CallS Tryd.prog 18 [.int .i64 v] st fun r st' => r = .agg #[.int .i64 3, .int .i64 v, .string ⟨#[]⟩, .slice none 0 0] ∧ st' = st := by
  refine CallS_of_W [] 5 Tryd.func18 rfl rfl rfl rfl (by simp) ?_
  repeat (first | (refine W_reg rfl fun G K hG hK => ?_; simp (disch := omega) only [go_sem, ↓reduceIte, Nat.reduceEqDiff, Nat.reduceAdd, Nat.reduceLeDiff, hG]; refine hK _ _ ?_; clear hK K hG G) | (refine W_end rfl fun G K hG hK => ?_; simp (disch := omega) only [go_sem, ↓reduceIte, Nat.reduceEqDiff, Nat.reduceAdd, Nat.reduceLeDiff, hG]; refine hK _ _ ?_; clear hK K hG G; repeat (first | refine thenI ?_ | refine thenE ?_ | refine thenR ?_ | refine inBI ?_ | refine inBR ?_ | refine inBS ?_ | refine inBN (by decide) ?_)) | refine W_seqS ?_ | refine W_seqC ?_ | refine W_seqB ?_ | refine W_block ?_ | (refine W_skip ?_; repeat (first | refine thenI ?_ | refine thenE ?_ | refine thenR ?_ | refine inBI ?_ | refine inBR ?_ | refine inBS ?_ | refine inBN (by decide) ?_)) | (refine W_condT ?hc ?_; (case hc => (simp (disch := omega) only [go_sem, ↓reduceIte, Nat.reduceEqDiff, Nat.reduceAdd, Nat.reduceLeDiff]; done))) | (refine W_condF ?hc ?_; (case hc => (simp (disch := omega) only [go_sem, ↓reduceIte, Nat.reduceEqDiff, Nat.reduceAdd, Nat.reduceLeDiff]; done))))
  refine W_ret ?_; try (repeat (first | refine thenI ?_ | refine thenE ?_ | refine thenR ?_ | refine inBI ?_ | refine inBR ?_ | refine inBS ?_ | refine inBN (by decide) ?_))
  refine finC (.inl rfl) (by (simp (disch := omega) only [go_sem, ↓reduceIte, Nat.reduceEqDiff, Nat.reduceAdd, Nat.reduceLeDiff]); try rfl) ⟨rfl, rfl⟩

end Go.Proofs.YtlmbmplhdfgmfaaDoor.AM


/- Terms drawn: spec.l3Draw. -/
namespace Go.Proofs.YtlmbmplhdfgmfaaDoor.AM
open Go Go.Proofs
set_option linter.unusedVariables false
set_option linter.unusedSimpArgs false
set_option maxRecDepth 100000
attribute [local go_sem] List.map_cons List.map_nil List.all_cons List.all_nil Bool.and_self Option.map_some List.getElem?_toArray Option.bind_some gye_b gye_t gsk_b gsk_t gb1 gb2 gb3 gb4 bne_self_eq_false beq_self_eq_true w_guard w_nil stepV_some step_some step_some' w_move w_assign w_pick w_binOp w_unOp w_load w_fieldAddr w_indexAddr w_len w_max w_index ev_max max_int ev_index w_box w_alloc w_store w_field w_extract w_nilCheck w_convert w_buildSlice w_build ev_buildL fillL_nil fillL_cons bs0 bs1 ev_conv ev_bin ev_un ev_pick ev_load ev_fieldAddr ev_indexAddr ev_len ev_field ev_extract ev_nilCheck fr_tmp fr_int fr_bool fr_str fr_nil fr_func put_some put_none bin_lss bin_leq bin_gtr bin_geq bin_eql bin_neq bin_add bin_sub bin_mul bin_seql bin_sneq un_not pick_ ext_ loadA_p cellAt_l cellAt_h okPtr_l okPtr_h fadA_p allocA_l storeA_l cells_agg cells_int cells_str cells_sl cells_bool flat_i flat_s flat_b flat_sl flat_nil loc_agg loc_int loc_str loc_sl loc_bool loc_fn loc_ptr okv_agg okv_int okv_str okv_sl okv_bool cellsFrom splice upd_eval argEnv_zero argEnv_succ ne_eq Nat.add_one_ne_zero not_false_eq_true List.not_mem_nil and_self decide_true List.getElem?_cons_zero List.getElem?_cons_succ List.size_toArray List.length_cons List.length_nil List.take_succ_cons List.take_zero List.drop_succ_cons List.drop_zero List.cons_append List.nil_append List.drop_nil Bool.not_true Bool.not_false Bool.false_eq_true Nat.zero_add Nat.add_zero wrap_in List.toList_toArray List.mem_cons or_self or_false false_or
attribute [local go_sem] ag22 ag24 ag3 ag4 ag5 ag58 ag70 ag9 bu24 bu32 bu37 bu76 bu87 by24 by5 el22 el54 of24_0 of24_1 of24_2 of24_3 of32_0 of32_1 of32_2 of37_0 ro24_1 ro5_1 sz22 sz24 sz3 sz4 sz5 sz58 sz70 sz9 ze24 ze5 ze78 ze92
-- AUTO

theorem Fresh.one {n k : Nat} (h : n ≤ k) : Fresh n [k] := ⟨by simp, fun i hi => by cases List.mem_singleton.1 hi; exact h⟩
theorem Fresh.cons {n k : Nat} {L : List Nat} (h : Fresh n L) (hlt : ∀ i ∈ L, i < k) (hk : n ≤ k) : Fresh n (k :: L) := ⟨List.nodup_cons.2 ⟨fun hm => by have := hlt k hm; omega, h.1⟩, fun i hi => by
  rcases List.mem_cons.1 hi with rfl | hi
  · exact hk
  · exact h.2 i hi⟩
theorem Fresh.app {n m : Nat} {L K : List Nat} (h : Fresh n L) (g : Fresh m K) (hlt : ∀ i ∈ L, i < m) (hn : n ≤ m) : Fresh n (L ++ K) := ⟨List.nodup_append.2 ⟨h.1, g.1, fun a ha b hb e => by
  subst e
  have h1 := hlt a ha
  have h2 := g.2 a hb
  omega⟩, fun i hi => by
  rcases List.mem_append.1 hi with hi | hi
  · exact h.2 i hi
  · have := g.2 i hi; omega⟩
theorem plain_var (nm : ByteArray) : Plain (.mk 1 0 nm []) := .mk _ _ _ _ (fun _ => ⟨rfl, rfl⟩) (fun a ha => by cases ha)
theorem plain_word (n : Int) (nm : ByteArray) : Plain (.mk 3 n nm []) := .mk _ _ _ _ (fun h => by cases h) (fun a ha => by cases ha)
theorem plain_app (n : Int) (nm : ByteArray) (args : List T) (h : ∀ a ∈ args, Plain a) : Plain (.mk 2 n nm args) := .mk _ _ _ _ (fun h => by cases h) h

def DrawP (d : Nat) (t : T) : Prop := Plain t ∧ t.wt + 3 ≤ 4 * 2 ^ d
theorem leaf_ok {d : Nat} {k n : Int} {nm : ByteArray} (hn : nm.size ≤ 1) (h : Plain (.mk k n nm [])) : DrawP d (.mk k n nm []) := ⟨h, by
  have : 1 ≤ 2 ^ d := Nat.one_le_two_pow
  simp only [T.wt, T.wtL, List.length_nil]; omega⟩
theorem size_of_mem {w : ByteArray} {cs : List Value} (h : Value.string w ∈ cs) (hs : cs.all (fun v => match v with | .string s => decide (s.size ≤ 1) | _ => false) = true) : w.size ≤ 1 := by
  have := List.all_eq_true.1 hs _ h
  simpa using this

end Go.Proofs.YtlmbmplhdfgmfaaDoor.AM


/- Terms drawn, turned a little: spec.l3Bent. -/
namespace Go.Proofs.YtlmbmplhdfgmfaaDoor.AM
open Go Go.Proofs
set_option linter.unusedVariables false
set_option linter.unusedSimpArgs false
set_option maxRecDepth 100000
attribute [local go_sem] List.map_cons List.map_nil List.all_cons List.all_nil Bool.and_self Option.map_some List.getElem?_toArray Option.bind_some gye_b gye_t gsk_b gsk_t gb1 gb2 gb3 gb4 bne_self_eq_false beq_self_eq_true w_guard w_nil stepV_some step_some step_some' w_move w_assign w_pick w_binOp w_unOp w_load w_fieldAddr w_indexAddr w_len w_max w_index ev_max max_int ev_index w_box w_alloc w_store w_field w_extract w_nilCheck w_convert w_buildSlice w_build ev_buildL fillL_nil fillL_cons bs0 bs1 ev_conv ev_bin ev_un ev_pick ev_load ev_fieldAddr ev_indexAddr ev_len ev_field ev_extract ev_nilCheck fr_tmp fr_int fr_bool fr_str fr_nil fr_func put_some put_none bin_lss bin_leq bin_gtr bin_geq bin_eql bin_neq bin_add bin_sub bin_mul bin_seql bin_sneq un_not pick_ ext_ loadA_p cellAt_l cellAt_h okPtr_l okPtr_h fadA_p allocA_l storeA_l cells_agg cells_int cells_str cells_sl cells_bool flat_i flat_s flat_b flat_sl flat_nil loc_agg loc_int loc_str loc_sl loc_bool loc_fn loc_ptr okv_agg okv_int okv_str okv_sl okv_bool cellsFrom splice upd_eval argEnv_zero argEnv_succ ne_eq Nat.add_one_ne_zero not_false_eq_true List.not_mem_nil and_self decide_true List.getElem?_cons_zero List.getElem?_cons_succ List.size_toArray List.length_cons List.length_nil List.take_succ_cons List.take_zero List.drop_succ_cons List.drop_zero List.cons_append List.nil_append List.drop_nil Bool.not_true Bool.not_false Bool.false_eq_true Nat.zero_add Nat.add_zero wrap_in List.toList_toArray List.mem_cons or_self or_false false_or
attribute [local go_sem] ag22 ag24 ag3 ag4 ag5 ag58 ag70 ag9 bu24 bu32 bu37 bu76 bu87 by24 by5 el22 el54 of24_0 of24_1 of24_2 of24_3 of32_0 of32_1 of32_2 of37_0 ro24_1 ro5_1 sz22 sz24 sz3 sz4 sz5 sz58 sz70 sz9 ze24 ze5 ze78 ze92
-- AUTO

def BentP (t : T) : Prop := PlainB t ∧ t.wt ≤ 100
theorem Plain.args {k n : Int} {nm : ByteArray} {args : List T} (h : Plain (.mk k n nm args)) : ∀ a ∈ args, Plain a := by cases h; assumption
theorem bent_of {t : T} (h : DrawP 4 t) : BentP t := ⟨h.1.b, by have := h.2; omega⟩
theorem drawP_mono {d e : Nat} (hde : d ≤ e) {t : T} (h : DrawP d t) : DrawP e t := ⟨h.1, by
  have h1 := h.2
  have h2 : 2 ^ d ≤ 2 ^ e := Nat.pow_le_pow_right (by omega) hde
  omega⟩
theorem row_low {st st' : St} {xs : List Byt} {s : Value} {q : Nat} (h : RowY st xs s) (ha : ∀ i, i < q → st'[i]? = st[i]?) (hn : xs = [] ∨ ∃ b, topId s = some b ∧ b < q) : RowY st' xs s := by
  rcases h with h | ⟨i, o, c, rfl, h⟩
  · exact .inl h
  · refine .inr ⟨i, o, c, rfl, fun j x hx => ?_⟩
    obtain ⟨cs, h1, h2, h3⟩ := h j x hx
    refine ⟨cs, h1, h2, fun k v hv => ?_⟩
    have h4 := h3 k v hv
    rcases hn with rfl | ⟨b, hb, hlt⟩
    · simp at hx
    simp only [topId, Option.some.injEq] at hb
    subst hb
    unfold cell at h4 ⊢
    rw [ha i hlt]; exact h4
theorem Own.args_slice {e : TypeId} {st : St} {k n : Int} {nm : ByteArray} {args : List T} {s : Value} {L : List Nat} (h : Own e st (.mk k n nm args) [.int .i64 k, .int .i64 n, .string nm, s] L) : SliceO (Own e st) e st args s L := by
  obtain ⟨s', h1, h2⟩ := h.open
  cases h1
  exact h2
def isIntB : Value → Bool
  | .int .i64 _ => true
  | _ => false
def intB : Value → Int
  | .int .i64 n => n
  | _ => 0
theorem ints_map {cs : List Value} (h : cs.all isIntB = true) : cs = (cs.map intB).map (Value.int .i64) := by
  rw [List.map_map]
  refine ((List.map_congr_left fun v hv => ?_).trans (List.map_id cs)).symm
  have := List.all_eq_true.1 h v hv
  unfold isIntB at this
  split at this
  · rfl
  · cases this
theorem row_lastI (st : St) (ns : List Int) (t : TypeId) (n : Nat) : Rw (st ++ [⟨ns.map (Value.int .i64), t, 0⟩]) ns (.slice (some ⟨st.length, 0, none⟩) ns.length n) := .inr ⟨st.length, 0, n, rfl, fun j x hx => ⟨[.int .i64 x], rfl, rfl, fun k v hv => by
  have hk : k = 0 := by have := (List.getElem?_eq_some_iff.1 hv).1; simp at this; omega
  subst hk
  obtain ⟨hj1, hj2⟩ := List.getElem?_eq_some_iff.1 hx
  have : v = .int .i64 x := by simpa using hv.symm
  subst this
  simp [cell, hx, show Kind.sz Int = 1 from rfl]⟩⟩
theorem T.wtL_snoc (xs : List T) (x : T) : T.wtL (xs ++ [x]) = T.wtL xs + x.wt := by
  induction xs with
  | nil => simp [T.wtL]
  | cons y ys ih => simp only [List.cons_append, T.wtL, ih]; omega
end Go.Proofs.YtlmbmplhdfgmfaaDoor.AM


/- Terms are totally ordered: the comparison, in plain Lean. -/
namespace Go.Proofs.YtlmbmplhdfgmfaaDoor.AM
open Go Go.Proofs
set_option linter.unusedVariables false
set_option linter.unusedSimpArgs false

def lexI : List Int → List Int → Int
  | [], [] => 0
  | [], _ :: _ => -1
  | _ :: _, [] => 1
  | a :: x, b :: y => if a < b then -1 else if b < a then 1 else lexI x y
theorem lexI_anti : ∀ x y, lexI y x = - lexI x y := by
  intro x
  induction x with
  | nil => intro y; cases y <;> rfl
  | cons a x ih =>
    intro y
    cases y with
    | nil => rfl
    | cons b y =>
      by_cases h1 : a < b
      · have h2 : ¬ b < a := by omega
        simp [lexI, h1, h2]
      · by_cases h2 : b < a
        · simp [lexI, h1, h2]
        · simp [lexI, h1, h2, ih y]
theorem lexI_nil (z : List Int) : lexI [] z ≤ 0 := by cases z <;> simp [lexI]
theorem lexI_trans : ∀ x y z, lexI x y ≤ 0 → lexI y z ≤ 0 → lexI x z ≤ 0 := by
  intro x
  induction x with
  | nil => intro y z _ _; exact lexI_nil z
  | cons a x ih =>
    intro y z h1 h2
    cases y with
    | nil => simp [lexI] at h1
    | cons b y =>
      cases z with
      | nil => simp [lexI] at h2
      | cons c z =>
        simp only [lexI] at h1 h2 ⊢
        by_cases e1 : a < b
        · by_cases e2 : b < c
          · rw [if_pos (by omega)]; omega
          · rw [if_neg e2] at h2
            by_cases e3 : c < b
            · rw [if_pos e3] at h2; omega
            · rw [if_pos (by omega)]; omega
        · rw [if_neg e1] at h1
          by_cases e2 : b < a
          · rw [if_pos e2] at h1; omega
          · rw [if_neg e2] at h1
            by_cases e3 : b < c
            · rw [if_pos (by omega)]; omega
            · rw [if_neg e3] at h2
              by_cases e4 : c < b
              · rw [if_pos e4] at h2; omega
              · rw [if_neg e4] at h2
                rw [if_neg (by omega), if_neg (by omega)]
                exact ih y z h1 h2

/-- The first of the numbers that is not 0. -/
def firstNZ : List Int → Int
  | [] => 0
  | x :: xs => if x = 0 then firstNZ xs else x
def ci (a b : Int) : Int := if a < b then -1 else if a > b then 1 else 0
def ct (a b : ByteArray) : Int := if Op.bytesLess a.toList b.toList = true then -1 else if Op.bytesLess b.toList a.toList = true then 1 else 0
def hdC (k n : Int) (nm : ByteArray) (m : Nat) (k' n' : Int) (nm' : ByteArray) (m' : Nat) : Int := firstNZ [ci k k', ci n n', ct nm nm', ci m m']
mutual
def T.cmp : T → T → Int
  | .mk k n nm xs, .mk k' n' nm' ys => if hdC k n nm xs.length k' n' nm' ys.length = 0 then T.cmpL xs ys else hdC k n nm xs.length k' n' nm' ys.length
def T.cmpL : List T → List T → Int
  | x :: xs, y :: ys => if T.cmp x y = 0 then T.cmpL xs ys else T.cmp x y
  | [], _ => 0
  | _ :: _, [] => 0
end

def keyB (s : ByteArray) : List Int := s.data.toList.map fun b => (b.toNat : Int)
mutual
def T.flatt : T → List Int
  | .mk k n nm xs => k :: n :: (keyB nm ++ (-1 :: (xs.length : Int) :: T.flatL xs))
def T.flatL : List T → List Int
  | [] => []
  | x :: xs => x.flatt ++ T.flatL xs
end
theorem lexI_cons (a b : Int) (x y : List Int) : lexI (a :: x) (b :: y) = if ci a b = 0 then lexI x y else ci a b := by
  unfold ci
  by_cases h1 : a < b
  · simp [lexI, h1]
  · by_cases h2 : b < a
    · simp [lexI, h1, h2]
    · simp [lexI, h1, h2]
theorem lexI_bytes : ∀ (x y : List UInt8) (r s : List Int), lexI (x.map (fun b => (b.toNat : Int)) ++ (-1 :: r)) (y.map (fun b => (b.toNat : Int)) ++ (-1 :: s)) = if x < y then -1 else if y < x then 1 else lexI r s := by
  intro x
  induction x with
  | nil =>
    intro y r s
    cases y with
    | nil => simp [lexI]
    | cons b y =>
      have h0 : (-1 : Int) < (b.toNat : Int) := by omega
      simp [lexI, h0]
  | cons a x ih =>
    intro y r s
    cases y with
    | nil =>
      have h0 : (-1 : Int) < (a.toNat : Int) := by omega
      have h1 : ¬ ((a.toNat : Int) < -1) := by omega
      simp [lexI, h0, h1]
    | cons b y =>
      have e : ∀ {p q : UInt8}, p < q ↔ p.toNat < q.toNat := fun {p q} => UInt8.lt_iff_toNat_lt
      simp only [List.map_cons, List.cons_append, lexI, List.cons_lt_cons_iff, ih y r s]
      by_cases h1 : a < b
      · have h2 : a.toNat < b.toNat := e.1 h1
        simp [h1, h2]
      · have h2 : ¬ a.toNat < b.toNat := fun h => h1 (e.2 h)
        by_cases h3 : b < a
        · have h4 : b.toNat < a.toNat := e.1 h3
          have h5 : ¬ a = b := fun h => by subst h; omega
          have h6 : ¬ (a.toNat : Int) < b.toNat := by omega
          have h7 : (b.toNat : Int) < a.toNat := by omega
          have h8 : ¬ b = a := fun h => h5 h.symm
          simp [h1, h3, h5, h8, h4, h2]
        · have h4 : ¬ b.toNat < a.toNat := fun h => h3 (e.2 h)
          have h5 : a = b := UInt8.toNat_inj.1 (by omega)
          subst h5
          simp
theorem lexI_ct (a b : ByteArray) (r s : List Int) : lexI (keyB a ++ (-1 :: r)) (keyB b ++ (-1 :: s)) = if ct a b = 0 then lexI r s else ct a b := by
  unfold keyB ct
  rw [lexI_bytes, Go.Proofs.bytesLess_eq, Go.Proofs.bytesLess_eq, Lib.toList_data, Lib.toList_data]
  by_cases h1 : a.data.toList < b.data.toList
  · simp [h1]
  · by_cases h2 : b.data.toList < a.data.toList
    · simp [h1, h2]
    · simp [h1, h2]
theorem T.cmp_flat : ∀ (a b : T) (r s : List Int), lexI (a.flatt ++ r) (b.flatt ++ s) = if T.cmp a b = 0 then lexI r s else T.cmp a b := by
  refine T.ind fun k n nm xs ih b r s => ?_
  obtain ⟨k', n', nm', ys⟩ := b
  have hL : ∀ (l : List T), (∀ a ∈ l, ∀ b r s, lexI (a.flatt ++ r) (b.flatt ++ s) = if T.cmp a b = 0 then lexI r s else T.cmp a b) → ∀ (m : List T), l.length = m.length → ∀ r s, lexI (T.flatL l ++ r) (T.flatL m ++ s) = if T.cmpL l m = 0 then lexI r s else T.cmpL l m := by
    intro l
    induction l with
    | nil =>
      intro _ m hm r s
      cases m with
      | nil => simp [T.flatL, T.cmpL]
      | cons y ys => simp at hm
    | cons x xs ihx =>
      intro h m hm r s
      cases m with
      | nil => simp at hm
      | cons y ys =>
        simp only [T.flatL, T.cmpL, List.append_assoc]
        rw [h x (by simp) y, ihx (fun a ha => h a (by simp [ha])) ys (by simpa using hm)]
        by_cases h1 : T.cmp x y = 0
        · simp [h1]
        · simp [h1]
  simp only [T.flatt, T.cmp, hdC, firstNZ, List.cons_append, List.append_assoc]
  rw [lexI_cons, lexI_cons, lexI_ct, lexI_cons]
  by_cases h1 : ci k k' = 0
  · by_cases h2 : ci n n' = 0
    · by_cases h3 : ct nm nm' = 0
      · by_cases h4 : ci (xs.length : Int) (ys.length : Int) = 0
        · have h5 : xs.length = ys.length := by
            unfold ci at h4
            split at h4
            · omega
            · split at h4 <;> omega
          rw [hL xs ih ys h5]
          simp [h1, h2, h3, h4]
        · simp [h1, h2, h3, h4]
      · simp [h1, h2, h3]
    · simp [h1, h2]
  · simp [h1]
theorem T.cmp_lex (a b : T) : T.cmp a b = lexI a.flatt b.flatt := by
  have h := T.cmp_flat a b [] []
  simp only [List.append_nil, lexI] at h
  rw [h]
  split
  · rename_i h1; exact h1
  · rfl
theorem T.cmp_anti (a b : T) : T.cmp b a = - T.cmp a b := by rw [T.cmp_lex, T.cmp_lex, lexI_anti]
theorem T.cmp_trans {a b c : T} (h1 : T.cmp a b ≤ 0) (h2 : T.cmp b c ≤ 0) : T.cmp a c ≤ 0 := by
  rw [T.cmp_lex] at h1 h2 ⊢
  exact lexI_trans _ _ _ h1 h2
theorem ct_zero {a b : ByteArray} : ct a b = 0 ↔ a = b := by
  unfold ct
  rw [Go.Proofs.bytesLess_eq, Go.Proofs.bytesLess_eq, Lib.toList_data, Lib.toList_data]
  constructor
  · intro h
    have h1 : ¬ a.data.toList < b.data.toList := fun h1 => by simp [h1] at h
    have h2 : ¬ b.data.toList < a.data.toList := fun h2 => by simp [h1, h2] at h
    have h3 : a.data.toList = b.data.toList := Std.le_antisymm (Std.not_lt.1 h2) (Std.not_lt.1 h1)
    exact ByteArray.ext (Array.ext' h3)
  · rintro rfl
    have : ¬ a.data.toList < a.data.toList := Std.lt_irrefl
    simp [this]
theorem ci_zero {a b : Int} : ci a b = 0 ↔ a = b := by
  unfold ci
  constructor
  · intro h
    split at h
    · omega
    · split at h <;> omega
  · rintro rfl; simp
theorem T.cmp_zero : ∀ (a b : T), T.cmp a b = 0 ↔ a = b := by
  refine T.ind fun k n nm xs ih b => ?_
  obtain ⟨k', n', nm', ys⟩ := b
  have hL : ∀ (l : List T), (∀ a ∈ l, ∀ b, T.cmp a b = 0 ↔ a = b) → ∀ (m : List T), l.length = m.length → (T.cmpL l m = 0 ↔ l = m) := by
    intro l
    induction l with
    | nil =>
      intro _ m hm
      cases m with
      | nil => simp [T.cmpL]
      | cons y ys => simp at hm
    | cons x xs ihx =>
      intro h m hm
      cases m with
      | nil => simp at hm
      | cons y ys =>
        simp only [T.cmpL, List.cons.injEq]
        rw [← h x (by simp) y, ← ihx (fun a ha => h a (by simp [ha])) ys (by simpa using hm)]
        by_cases h1 : T.cmp x y = 0
        · simp [h1]
        · simp [h1]
  simp only [T.cmp, hdC, firstNZ, T.mk.injEq]
  by_cases h1 : ci k k' = 0
  · by_cases h2 : ci n n' = 0
    · by_cases h3 : ct nm nm' = 0
      · by_cases h4 : ci (xs.length : Int) (ys.length : Int) = 0
        · have h5 : xs.length = ys.length := by have := ci_zero.1 h4; omega
          simp only [h1, h2, h3, h4, if_true]
          rw [hL xs ih ys h5]
          simp [ci_zero.1 h1, ci_zero.1 h2, ct_zero.1 h3]
        · have h5 : xs ≠ ys := fun e => h4 (by rw [e]; simp [ci])
          simp [h1, h2, h3, h4, h5]
      · have h5 : nm ≠ nm' := fun e => h3 (ct_zero.2 e)
        simp [h1, h2, h3, h5]
    · have h5 : n ≠ n' := fun e => h2 (ci_zero.2 e)
      simp [h1, h2, h5]
  · have h5 : k ≠ k' := fun e => h1 (ci_zero.2 e)
    simp [h1, h5]
end Go.Proofs.YtlmbmplhdfgmfaaDoor.AM


/- Terms are compared: cmp.Compare, cmp.Or, impl.CompareTerms, spec.l3Ints, l3Texts, spec.CompareTerms. -/
namespace Go.Proofs.YtlmbmplhdfgmfaaDoor.AM
open Go Go.Proofs
set_option linter.unusedVariables false
set_option linter.unusedSimpArgs false
set_option maxRecDepth 100000
attribute [local go_sem] List.map_cons List.map_nil List.all_cons List.all_nil Bool.and_self Option.map_some List.getElem?_toArray Option.bind_some gye_b gye_t gsk_b gsk_t gb1 gb2 gb3 gb4 bne_self_eq_false beq_self_eq_true w_guard w_nil stepV_some step_some step_some' w_move w_assign w_pick w_binOp w_unOp w_load w_fieldAddr w_indexAddr w_len w_max w_index ev_max max_int ev_index w_box w_alloc w_store w_field w_extract w_nilCheck w_convert w_buildSlice w_build ev_buildL fillL_nil fillL_cons bs0 bs1 ev_conv ev_bin ev_un ev_pick ev_load ev_fieldAddr ev_indexAddr ev_len ev_field ev_extract ev_nilCheck fr_tmp fr_int fr_bool fr_str fr_nil fr_func put_some put_none bin_lss bin_leq bin_gtr bin_geq bin_eql bin_neq bin_add bin_sub bin_mul bin_seql bin_sneq un_not pick_ ext_ loadA_p cellAt_l cellAt_h okPtr_l okPtr_h fadA_p allocA_l storeA_l cells_agg cells_int cells_str cells_sl cells_bool flat_i flat_s flat_b flat_sl flat_nil loc_agg loc_int loc_str loc_sl loc_bool loc_fn loc_ptr okv_agg okv_int okv_str okv_sl okv_bool cellsFrom splice upd_eval argEnv_zero argEnv_succ ne_eq Nat.add_one_ne_zero not_false_eq_true List.not_mem_nil and_self decide_true List.getElem?_cons_zero List.getElem?_cons_succ List.size_toArray List.length_cons List.length_nil List.take_succ_cons List.take_zero List.drop_succ_cons List.drop_zero List.cons_append List.nil_append List.drop_nil Bool.not_true Bool.not_false Bool.false_eq_true Nat.zero_add Nat.add_zero wrap_in List.toList_toArray List.mem_cons or_self or_false false_or
attribute [local go_sem] ag22 ag24 ag3 ag4 ag5 ag58 ag70 ag9 bu24 bu32 bu37 bu76 bu87 by24 by5 el22 el54 of24_0 of24_1 of24_2 of24_3 of32_0 of32_1 of32_2 of37_0 ro24_1 ro5_1 sz22 sz24 sz3 sz4 sz5 sz58 sz70 sz9 ze24 ze5 ze78 ze92
-- AUTO

theorem gtr_less (a b : List UInt8) : (!(Op.bytesLess a b || a == b)) = Op.bytesLess b a := by
  rw [Go.Proofs.bytesLess_eq, Go.Proofs.bytesLess_eq]
  by_cases h1 : a < b
  · have h2 : ¬ b < a := fun h => Std.lt_irrefl (Std.lt_trans h1 h)
    simp [h1, h2]
  · by_cases h2 : b < a
    · have h3 : ¬ a = b := fun e => by subst e; exact h1 h2
      simp [h1, h2, h3]
    · have h3 : a = b := Std.le_antisymm (Std.not_lt.1 h2) (Std.not_lt.1 h1)
      subst h3
      simp [h1]
theorem bin_sgtr2 {P : Program} {t : TypeId} {x y : Operand} {a b : ByteArray} : binE P .gtr t x y (.string a) (.string b) = some (.bool (Op.bytesLess b.toList a.toList)) := by rw [bin_sgtr, gtr_less]
theorem rowOk_ints {st : St} {i c : Nat} {ns : List Int} {e : TypeId} (h : st[i]? = some ⟨ns.map (Value.int .i64), e, 0⟩) (j : Nat) (hj : j < ns.length) : cell st i (j * 1) = some (.int .i64 ns[j]) := by
  rw [cell_of h, Nat.mul_one, List.getElem?_map, List.getElem?_eq_getElem hj]; rfl
theorem wt_arg {k n : Int} {nm : ByteArray} {args : List T} : args.length ≤ (T.mk k n nm args).wt := by simp only [T.wt]; omega
theorem cmpL_snoc : ∀ (xs ys : List T) (x y : T), xs.length = ys.length → T.cmpL (xs ++ [x]) (ys ++ [y]) = if T.cmpL xs ys = 0 then T.cmp x y else T.cmpL xs ys := by
  intro xs
  induction xs with
  | nil =>
    intro ys x y h
    cases ys with
    | nil => simp only [List.nil_append, T.cmpL, if_true]; split <;> simp_all
    | cons _ _ => simp at h
  | cons a xs ih =>
    intro ys x y h
    cases ys with
    | nil => simp at h
    | cons b ys =>
      simp only [List.cons_append, T.cmpL]
      rw [ih ys x y (by simpa using h)]
      by_cases h1 : T.cmp a b = 0
      · simp [h1]
      · simp [h1]
theorem cmpL_take : ∀ (xs ys : List T) (j : Nat), T.cmpL (xs.take j) (ys.take j) ≠ 0 → T.cmpL xs ys = T.cmpL (xs.take j) (ys.take j) := by
  intro xs
  induction xs with
  | nil => intro ys j h; simp [T.cmpL] at h
  | cons a xs ih =>
    intro ys j h
    cases ys with
    | nil => simp at h; cases j <;> simp [T.cmpL] at h
    | cons b ys =>
      cases j with
      | zero => simp [T.cmpL] at h
      | succ j =>
        simp only [List.take_succ_cons, T.cmpL] at h ⊢
        by_cases h1 : T.cmp a b = 0
        · simp only [h1, if_true] at h ⊢
          exact ih ys j h
        · simp only [if_neg h1]
theorem hd_len {a b c d : Int} {m p : Nat} (h : (if a = 0 then (if b = 0 then (if c = 0 then (if ci (m : Int) (p : Int) = 0 then d else ci m p) else c) else b) else a) = 0) : m = p := by
  by_cases h1 : a = 0
  · by_cases h2 : b = 0
    · by_cases h3 : c = 0
      · by_cases h4 : ci (m : Int) (p : Int) = 0
        · have := ci_zero.1 h4; omega
        · simp [h1, h2, h3, h4] at h
      · simp [h1, h2, h3] at h
    · simp [h1, h2] at h
  · simp [h1] at h
end Go.Proofs.YtlmbmplhdfgmfaaDoor.AM


/- Two terms drawn: spec.l3Two, DrawCompareTerms, DrawIsGround; the law FnOrder. -/
namespace Go.Proofs.YtlmbmplhdfgmfaaDoor.AM
open Go Go.Proofs
set_option linter.unusedVariables false
set_option linter.unusedSimpArgs false
set_option maxRecDepth 100000
attribute [local go_sem] List.map_cons List.map_nil List.all_cons List.all_nil Bool.and_self Option.map_some List.getElem?_toArray Option.bind_some gye_b gye_t gsk_b gsk_t gb1 gb2 gb3 gb4 bne_self_eq_false beq_self_eq_true w_guard w_nil stepV_some step_some step_some' w_move w_assign w_pick w_binOp w_unOp w_load w_fieldAddr w_indexAddr w_len w_max w_index ev_max max_int ev_index w_box w_alloc w_store w_field w_extract w_nilCheck w_convert w_buildSlice w_build ev_buildL fillL_nil fillL_cons bs0 bs1 ev_conv ev_bin ev_un ev_pick ev_load ev_fieldAddr ev_indexAddr ev_len ev_field ev_extract ev_nilCheck fr_tmp fr_int fr_bool fr_str fr_nil fr_func put_some put_none bin_lss bin_leq bin_gtr bin_geq bin_eql bin_neq bin_add bin_sub bin_mul bin_seql bin_sneq un_not pick_ ext_ loadA_p cellAt_l cellAt_h okPtr_l okPtr_h fadA_p allocA_l storeA_l cells_agg cells_int cells_str cells_sl cells_bool flat_i flat_s flat_b flat_sl flat_nil loc_agg loc_int loc_str loc_sl loc_bool loc_fn loc_ptr okv_agg okv_int okv_str okv_sl okv_bool cellsFrom splice upd_eval argEnv_zero argEnv_succ ne_eq Nat.add_one_ne_zero not_false_eq_true List.not_mem_nil and_self decide_true List.getElem?_cons_zero List.getElem?_cons_succ List.size_toArray List.length_cons List.length_nil List.take_succ_cons List.take_zero List.drop_succ_cons List.drop_zero List.cons_append List.nil_append List.drop_nil Bool.not_true Bool.not_false Bool.false_eq_true Nat.zero_add Nat.add_zero wrap_in List.toList_toArray List.mem_cons or_self or_false false_or
attribute [local go_sem] ag22 ag24 ag3 ag4 ag5 ag58 ag70 ag9 bu24 bu32 bu37 bu76 bu87 by24 by5 el22 el54 of24_0 of24_1 of24_2 of24_3 of32_0 of32_1 of32_2 of37_0 ro24_1 ro5_1 sz22 sz24 sz3 sz4 sz5 sz58 sz70 sz9 ze24 ze5 ze78 ze92
-- AUTO

theorem finCC {P : Program} {st : St} {F : Value → St → Prop} {env : Nat → Value} {loc : Nat → Nat × List Value} {a b : Tmp} {t u : TypeId} {x : Ex} (hx : x = .ret ∨ x = .normal) {v v' : Value} (hv : loadA P [] t (env a) loc st = some v) (hv' : loadA P [] u (env b) loc st = some v') (hq : F (.tuple #[v, v']) st) : Fin P [.cell a t, .cell b u] F x ⟨env, loc⟩ st := by
  have h : ∃ r, resA P [.cell a t, .cell b u] ⟨env, loc⟩ st = some r ∧ F r st := ⟨.tuple #[v, v'], by simp [resA, resL, resV, hv, hv'], hq⟩
  rcases hx with rfl | rfl <;> exact h
def DrawE (st : St) (R : T → Prop) (r : Value) (st2 : St) : Prop := Ext st st2 ∧ ∃ t ds, r = .agg ds.toArray ∧ Enc st2 t ds ∧ R t
theorem bent_lim {t : T} (h : BentP t) : Lim 1073741824 t := Lim.of_wt _ (by have := h.2; omega)
theorem Enc.args_cells {st : St} {t : T} {cs : List Value} (h : Enc st t cs) : ∃ k n nm s, cs = [.int .i64 k, .int .i64 n, .string nm, s] ∧ isLoc s = false ∧ okv s = true ∧ vc s = #[s] := by
  obtain ⟨k, n, nm, args⟩ := t
  obtain ⟨s, rfl, hr⟩ := h.open
  exact ⟨k, n, nm, s, rfl, hr.notLoc.1, hr.notLoc.2, Row.cells1 hr⟩
theorem lexI_bnd : ∀ x y, -1 ≤ lexI x y ∧ lexI x y ≤ 1 := by
  intro x
  induction x with
  | nil => intro y; cases y <;> simp [lexI]
  | cons a x ih =>
    intro y
    cases y with
    | nil => simp [lexI]
    | cons b y =>
      simp only [lexI]
      have := ih y
      split
      · omega
      · split <;> omega
theorem RowY.of_ext {st st' : St} {xs : List Byt} {s : Value} (h : RowY st xs s) (hx : Ext st st') : RowY st' xs s := h.ext hx
end Go.Proofs.YtlmbmplhdfgmfaaDoor.AM

