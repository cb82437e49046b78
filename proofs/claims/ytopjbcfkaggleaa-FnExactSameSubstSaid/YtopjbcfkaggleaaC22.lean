/- slices.Grow (out of the shelf), slices.Concat, impl.SameSubst. -/
import Derived.Test.YtopjbcfkaggleaaC21
import Derived.Shelf.Spec.SlicesGrow
namespace Go.Proofs.Ytopjbcfkaggleaa.AM
open Go Go.Proofs Go.RowKit
set_option linter.unusedVariables false
set_option linter.unusedSimpArgs false
set_option maxRecDepth 100000
attribute [local go_sem] List.map_cons List.map_nil List.all_cons List.all_nil Bool.and_self Option.map_some List.getElem?_toArray Option.bind_some gye_b gye_t gsk_b gsk_t gb1 gb2 gb3 gb4 bne_self_eq_false beq_self_eq_true w_guard w_nil stepV_some step_some step_some' w_move w_assign w_pick w_binOp w_unOp w_load w_fieldAddr w_indexAddr w_len w_box w_alloc w_store w_field w_extract w_nilCheck w_convert w_buildSlice w_build ev_buildL fillL_nil fillL_cons bs0 bs1 ev_conv ev_bin ev_un ev_pick ev_load ev_fieldAddr ev_indexAddr ev_len ev_field ev_extract ev_nilCheck fr_tmp fr_int fr_bool fr_str fr_nil fr_func put_some put_none bin_lss bin_leq bin_gtr bin_geq bin_eql bin_neq bin_add bin_sub bin_mul bin_seql bin_sneq un_not pick_ ext_ loadA_p cellAt_l cellAt_h okPtr_l okPtr_h fadA_p allocA_l storeA_l cells_agg cells_int cells_str cells_sl cells_bool flat_i flat_s flat_b flat_sl flat_nil loc_agg loc_int loc_str loc_sl loc_bool loc_fn loc_ptr okv_agg okv_int okv_str okv_sl okv_bool cellsFrom splice upd_eval argEnv_zero argEnv_succ ne_eq Nat.add_one_ne_zero not_false_eq_true List.not_mem_nil and_self decide_true List.getElem?_cons_zero List.getElem?_cons_succ List.size_toArray List.length_cons List.length_nil List.take_succ_cons List.take_zero List.drop_succ_cons List.drop_zero List.cons_append List.nil_append List.drop_nil Bool.not_true Bool.not_false Bool.false_eq_true Nat.zero_add Nat.add_zero wrap_in List.toList_toArray List.mem_cons or_self or_false false_or
attribute [local go_sem] ag25 ag29 ag3 ag31 ag33 ag34 ag36 ag39 ag9 bu36 by36 by39 el22 el25 el29 el34 el50 of31_0 of31_1 of31_2 of31_3 of33_0 of33_1 of36_0 of36_1 of36_2 of36_3 of39_0 of39_1 ro25_2 ro36_0 ro36_1 ro39_0 sz25 sz29 sz3 sz31 sz33 sz34 sz36 sz39 sz9 ze36 ze39
-- AUTO

def growRen : Go.Shelf.Ren := ⟨fun _ => 21, fun | 0 => 0 | 3 => 3 | 4 => 4 | 9 => 9 | 20 => 20 | 22 => 25 | 25 => 39 | n => n, fun n => n⟩
theorem growLays : Lays8.n4 Try.prog growRen := {
  mixed := by kernel_rfl
  f4 := ⟨Try.f21.name, by kernel_rfl, Try.func21.trans (congrArg some (by kernel_rfl))⟩
  t0 := Try.underlying0
  a0 := Try.isAgg0
  z0 := Try.sizeOf0
  v0 := Try.zeroValue0
  t3 := Try.underlying3
  a3 := Try.isAgg3
  z3 := Try.sizeOf3
  v3 := Try.zeroValue3
  t4 := Try.underlying4
  a4 := Try.isAgg4
  z4 := Try.sizeOf4
  v4 := Try.zeroValue4
  t9 := Try.underlying9
  a9 := Try.isAgg9
  z9 := Try.sizeOf9
  v9 := Try.zeroValue9
  t20 := Try.underlying20
  a20 := Try.isAgg20
  z20 := Try.sizeOf20
  v20 := Try.zeroValue20
  t22 := Try.underlying25
  a22 := Try.isAgg25
  z22 := Try.sizeOf25
  v22 := Try.zeroValue25 }
theorem VL.two {M : List ME} {s s' : Value} {vals : Array Value} (h : VL M [s, s'] vals) : ∃ v v', vals = #[v, v'] ∧ VR M s v ∧ VR M s' v' := by
  have hl := h.len
  obtain ⟨l⟩ := vals
  match l, hl with
  | [v, v'], _ => exact ⟨v, v', rfl, h.rel 0 s v rfl rfl, h.rel 1 s' v' rfl rfl⟩
/-- slices.Grow of nil: an empty row of one's own. -/
theorem growB_ok (n : Nat) (s0 st : St) (hn : n ≤ 4294967296) : CallS Try.prog 21 [.slice none 0 0, .int .i64 n] st fun r st2 => Ext st st2 ∧ ∃ L, ShB s0 st2 [] r L ∧ Fresh st.length L := by
  refine ⟨⟨_, Try.func21, rfl, rfl⟩, fun M w vals hH hV => ?_⟩
  obtain ⟨v1, v2, rfl, hv1, hv2⟩ := hV.two
  have e1 := hv1.flat_eq rfl
  have e2 := hv2.flat_eq rfl
  subst e1
  subst e2
  rcases Nat.eq_zero_or_pos n with h0 | hpos
  · subst h0
    refine (Any8.slices_Grow_room growLays none 0 0 0 w (by omega) (by omega) (by omega) (by omega)).mono fun e w' ⟨he, hw⟩ => ?_
    subst hw
    exact ⟨.slice none 0 0, _, st, M, he, ⟨Ext.refl _, [], .inl ⟨rfl, rfl, rfl⟩, .nil _⟩, .of_flat rfl, hH⟩
  · obtain ⟨i0, hi0⟩ : ∃ i0, Try.prog.info? 39 = some i0 := Option.isSome_iff_exists.1 (by kernel_rfl)
    have hsz : i0.size = 5 := by have := sz39; unfold szA at this; rw [hi0] at this; simpa using this
    obtain ⟨by_, hby, hby2⟩ : ∃ b, bytA Try.prog 39 = some b ∧ b ≤ 128 := ⟨_, by39, by decide⟩
    have hbyt : i0.bytes ≤ 128 := by unfold bytA at hby; rw [hi0] at hby; simp at hby; omega
    obtain ⟨z, hz0, hzc⟩ : ∃ z, i0.zero = some z ∧ z.cells.size = 5 := by
      have := ze39
      unfold zeroA at this
      rw [hi0] at this
      cases hq : i0.zero with
      | none => simp [hq] at this
      | some z =>
        simp only [hq] at this
        split at this
        · have h2 := Option.some.inj this
          exact ⟨z, rfl, by rw [← Array.length_toList, h2]; rfl⟩
        · cases this
    refine (Any8.slices_Grow_grow growLays i0 z hi0 hz0 (by omega) none 0 0 n [] w (by omega) (by omega) (by
      have : (0 + n) * i0.bytes ≤ (0 + n) * 128 := Nat.mul_le_mul_left _ hbyt
      omega) (by omega) (by simp) (fun _ => rfl) (fun a h => by cases h)).mono fun e w' ⟨he, hw⟩ => ?_
    obtain ⟨cs, hcs⟩ : ∃ cs, cs = (([] : List Value).toArray ++ Builtin.zeroCells z.cells (0 + n - 0) ++ Builtin.zeroCells z.cells (grownCap w (0 + n) 0 (growRen.t 25) - (0 + n))) := ⟨_, rfl⟩
    have hA := HR.alloc hH.drew [] cs 39 (by simp) (fun j x hx => by simp at hx)
    rw [← hcs] at hw
    refine ⟨.slice (some ⟨st.length, 0, none⟩) 0 0, _, st ++ [⟨[], 39, 0⟩], M ++ [⟨w.heap.size, cs.size, Try.prog.cellsOf 39, true⟩], he, ⟨Ext.app _ _, _, ShB.empty s0 st, ⟨by simp, by simp⟩⟩, ?_, by rw [hw]; exact hA⟩
    refine .sl st.length 0 0 0 0 _ ⟨w.heap.size, cs.size, Try.prog.cellsOf 39, true⟩ (by rw [← hH.len]; exact get_last _ _) (Nat.zero_le _) (.inl ⟨rfl, fun _ _ => ?_⟩)
    have hc5 : Try.prog.cellsOf 39 = 5 := by unfold Program.cellsOf; rw [hi0]; exact hsz
    have hge := grownCap_ge w (0 + n) 0 (growRen.t 25)
    have hzl : z.cells.toList.length = 5 := by rw [Array.length_toList]; exact hzc
    have hz1 := fun k => zrow_cells (z := z.cells.toList) (zv := z) (by simp) k
    show _ * Try.prog.cellsOf 39 ≤ cs.size
    rw [hcs, hc5, Array.size_append, Array.size_append, hz1, hz1, hzl]
    simp only [List.size_toArray, List.length_nil]
    omega
/-- Two rows, by their place. -/
def rowOf (xs ys : List Bnd) (j : Nat) : List Bnd := if j = 0 then xs else ys
def preOf (xs ys : List Bnd) (j : Nat) : List Bnd := if j = 0 then [] else if j = 1 then xs else xs ++ ys
theorem preOf_next {xs ys : List Bnd} {j : Nat} (h : j < 2) : preOf xs ys (j + 1) = preOf xs ys j ++ rowOf xs ys j := by
  have : j = 0 ∨ j = 1 := by omega
  rcases this with rfl | rfl <;> simp [preOf, rowOf]
theorem preOf_len {xs ys : List Bnd} {j : Nat} : (preOf xs ys j).length ≤ xs.length + ys.length := by
  unfold preOf
  split
  · simp
  · split
    · omega
    · rw [List.length_append]; omega

theorem concat_ok (xs ys : List Bnd) (s0 st : St) (q : Nat) (sa sb : Value) (hxb : xs.length ≤ 1073741824) (hyb : ys.length ≤ 1073741824) (h0 : cell st q 0 = some sa) (h1 : cell st q 1 = some sb) (hx0 : Ext s0 st) (ha : Rw s0 xs sa) (hb : Rw s0 ys sb) :
    CallS Try.prog 14 [.slice (some ⟨q, 0, none⟩) 2 2] st fun r st2 => Ext st st2 ∧ ∃ L, ShB s0 st2 (xs ++ ys) r L := by
  refine CallS_of_W [] 36 Try.func14 rfl rfl rfl rfl (by simp) ?_
  have hlen : lenE Try.prog 50 (.slice (some ⟨q, 0, none⟩) 2 2) = some (.int .i64 2) := by unfold lenE; rw [Try.underlying50]; rfl
  have hpick : ∀ j, j < 2 → ∃ v, cell st q (j * 1) = some v ∧ Rw s0 (rowOf xs ys j) v := by
    intro j hj
    have : j = 0 ∨ j = 1 := by omega
    rcases this with rfl | rfl
    · exact ⟨sa, h0, ha⟩
    · exact ⟨sb, h1, hb⟩
  have hrl : ∀ j, (rowOf xs ys j).length ≤ 1073741824 := by intro j; unfold rowOf; split <;> assumption
  repeat (first | (refine W_reg rfl fun G K hG hK => ?_; simp (disch := omega) only [go_sem, ↓reduceIte, Nat.reduceEqDiff, Nat.reduceAdd, Nat.reduceLeDiff, hG, hlen]; refine hK _ _ ?_; clear hK K hG G) | (refine W_end rfl fun G K hG hK => ?_; simp (disch := omega) only [go_sem, ↓reduceIte, Nat.reduceEqDiff, Nat.reduceAdd, Nat.reduceLeDiff, hG, hlen]; refine hK _ _ ?_; clear hK K hG G; repeat (first | refine thenI ?_ | refine thenE ?_ | refine thenR ?_ | refine inBI ?_ | refine inBR ?_ | refine inBS ?_ | refine inBN (by decide) ?_)) | refine W_seqS ?_ | refine W_seqC ?_ | refine W_seqB ?_ | refine W_block ?_ | (refine W_skip ?_; repeat (first | refine thenI ?_ | refine thenE ?_ | refine thenR ?_ | refine inBI ?_ | refine inBR ?_ | refine inBS ?_ | refine inBN (by decide) ?_)) | (refine W_condT ?hc ?_; (case hc => (simp (disch := omega) only [go_sem, ↓reduceIte, Nat.reduceEqDiff, Nat.reduceAdd, Nat.reduceLeDiff, hlen]; done))) | (refine W_condF ?hc ?_; (case hc => (simp (disch := omega) only [go_sem, ↓reduceIte, Nat.reduceEqDiff, Nat.reduceAdd, Nat.reduceLeDiff, hlen]; done))))
  refine W_loop (fun d fr st' => ∃ (j : Nat) , d = (2 : Nat) - j ∧ j ≤ (2 : Nat) ∧ (st = st') ∧ (fr.env 3 = .int .i64 (preOf xs ys j).length) ∧ (fr.env 0 = .slice (some ⟨q, 0, none⟩) 2 2) ∧ (fr.env 9 = .slice (some ⟨q, 0, none⟩) 2 2) ∧ (fr.env 10 = .int .i64 2) ∧ (fr.env 11 = .int .i64 j)) ((2 : Nat)) ?_ ?_
  · exact ⟨0, by omega, by omega, rfl, (by (simp (disch := omega) only [go_sem, ↓reduceIte, Nat.reduceEqDiff, Nat.reduceAdd, Nat.reduceLeDiff, hlen]); try rfl), (by (simp (disch := omega) only [go_sem, ↓reduceIte, Nat.reduceEqDiff, Nat.reduceAdd, Nat.reduceLeDiff, hlen]); try rfl), (by (simp (disch := omega) only [go_sem, ↓reduceIte, Nat.reduceEqDiff, Nat.reduceAdd, Nat.reduceLeDiff, hlen]); try rfl), (by (simp (disch := omega) only [go_sem, ↓reduceIte, Nat.reduceEqDiff, Nat.reduceAdd, Nat.reduceLeDiff, hlen]); try rfl), (by (simp (disch := omega) only [go_sem, ↓reduceIte, Nat.reduceEqDiff, Nat.reduceAdd, Nat.reduceLeDiff, hlen]); try rfl)⟩
  rintro d ⟨env, loc⟩ st' ⟨j, hd, hj, hst, e3, e0, e9, e10, e11⟩
  simp only at e3 e0 e9 e10 e11
  subst hst
  by_cases hlt : j < 2
  · have c1 : decide ((j : Int) < 2) = true := by simp; omega
    have hi : (0 ≤ (j : Int) ∧ (j : Int) < ((2 : Nat) : Int)) = True := by simp; omega
    obtain ⟨v, hce, hrv⟩ := hpick j hlt
    have hlv : lenE Try.prog 25 v = some (.int .i64 (rowOf xs ys j).length) := row_len hrv Try.underlying25
    have hvl := hrv.notLoc.1
    have hsum : ((preOf xs ys j).length : Int) + ((rowOf xs ys j).length : Int) = ((preOf xs ys (j + 1)).length : Int) := by rw [preOf_next hlt, List.length_append]; omega
    have hpl := preOf_len (xs := xs) (ys := ys) (j := j + 1)
    have hneg : decide (((preOf xs ys (j + 1)).length : Int) < 0) = false := by simp
    repeat (first | (refine W_reg rfl fun G K hG hK => ?_; simp (disch := omega) only [go_sem, ↓reduceIte, Nat.reduceEqDiff, Nat.reduceAdd, Nat.reduceLeDiff, hG, hlen, e3, e0, e9, e10, e11, c1, hi, idxA, Int.toNat_natCast, hce, hlv, hvl, hsum]; refine hK _ _ ?_; clear hK K hG G) | (refine W_end rfl fun G K hG hK => ?_; simp (disch := omega) only [go_sem, ↓reduceIte, Nat.reduceEqDiff, Nat.reduceAdd, Nat.reduceLeDiff, hG, hlen, e3, e0, e9, e10, e11, c1, hi, idxA, Int.toNat_natCast, hce, hlv, hvl, hsum]; refine hK _ _ ?_; clear hK K hG G; repeat (first | refine thenI ?_ | refine thenE ?_ | refine thenR ?_ | refine inBI ?_ | refine inBR ?_ | refine inBS ?_ | refine inBN (by decide) ?_)) | refine W_seqS ?_ | refine W_seqC ?_ | refine W_seqB ?_ | refine W_block ?_ | (refine W_skip ?_; repeat (first | refine thenI ?_ | refine thenE ?_ | refine thenR ?_ | refine inBI ?_ | refine inBR ?_ | refine inBS ?_ | refine inBN (by decide) ?_)) | (refine W_condT ?hc ?_; (case hc => (simp (disch := omega) only [go_sem, ↓reduceIte, Nat.reduceEqDiff, Nat.reduceAdd, Nat.reduceLeDiff, hlen, e3, e0, e9, e10, e11, c1, hi, idxA, Int.toNat_natCast, hce, hlv, hvl, hsum]; done))) | (refine W_condF ?hc ?_; (case hc => (simp (disch := omega) only [go_sem, ↓reduceIte, Nat.reduceEqDiff, Nat.reduceAdd, Nat.reduceLeDiff, hlen, e3, e0, e9, e10, e11, c1, hi, idxA, Int.toNat_natCast, hce, hlv, hvl, hsum]; done))))
    repeat (first | (refine W_reg rfl fun G K hG hK => ?_; simp (disch := omega) only [go_sem, ↓reduceIte, Nat.reduceEqDiff, Nat.reduceAdd, Nat.reduceLeDiff, hG, hlen, e3, e0, e9, e10, e11, hneg]; refine hK _ _ ?_; clear hK K hG G) | (refine W_end rfl fun G K hG hK => ?_; simp (disch := omega) only [go_sem, ↓reduceIte, Nat.reduceEqDiff, Nat.reduceAdd, Nat.reduceLeDiff, hG, hlen, e3, e0, e9, e10, e11, hneg]; refine hK _ _ ?_; clear hK K hG G; repeat (first | refine thenI ?_ | refine thenE ?_ | refine thenR ?_ | refine inBI ?_ | refine inBR ?_ | refine inBS ?_ | refine inBN (by decide) ?_)) | refine W_seqS ?_ | refine W_seqC ?_ | refine W_seqB ?_ | refine W_block ?_ | (refine W_skip ?_; repeat (first | refine thenI ?_ | refine thenE ?_ | refine thenR ?_ | refine inBI ?_ | refine inBR ?_ | refine inBS ?_ | refine inBN (by decide) ?_)) | (refine W_condT ?hc ?_; (case hc => (simp (disch := omega) only [go_sem, ↓reduceIte, Nat.reduceEqDiff, Nat.reduceAdd, Nat.reduceLeDiff, hlen, e3, e0, e9, e10, e11, hneg]; done))) | (refine W_condF ?hc ?_; (case hc => (simp (disch := omega) only [go_sem, ↓reduceIte, Nat.reduceEqDiff, Nat.reduceAdd, Nat.reduceLeDiff, hlen, e3, e0, e9, e10, e11, hneg]; done))))
    refine ⟨(2 : Nat) - (j + 1), by omega, j + 1, rfl, by omega, rfl, (by (simp (disch := omega) only [go_sem, ↓reduceIte, Nat.reduceEqDiff, Nat.reduceAdd, Nat.reduceLeDiff, hlen, e3, e0, e9, e10, e11]); try rfl), (by (simp (disch := omega) only [go_sem, ↓reduceIte, Nat.reduceEqDiff, Nat.reduceAdd, Nat.reduceLeDiff, hlen, e3, e0, e9, e10, e11]); try rfl), (by (simp (disch := omega) only [go_sem, ↓reduceIte, Nat.reduceEqDiff, Nat.reduceAdd, Nat.reduceLeDiff, hlen, e3, e0, e9, e10, e11]); try rfl), (by (simp (disch := omega) only [go_sem, ↓reduceIte, Nat.reduceEqDiff, Nat.reduceAdd, Nat.reduceLeDiff, hlen, e3, e0, e9, e10, e11]); try rfl), (by (simp (disch := omega) only [go_sem, ↓reduceIte, Nat.reduceEqDiff, Nat.reduceAdd, Nat.reduceLeDiff, hlen, e3, e0, e9, e10, e11]); try rfl)⟩
  · have c1 : decide ((j : Int) < 2) = false := by simp; omega
    have hj2 : j = 2 := by omega
    subst hj2
    repeat (first | (refine W_reg rfl fun G K hG hK => ?_; simp (disch := omega) only [go_sem, ↓reduceIte, Nat.reduceEqDiff, Nat.reduceAdd, Nat.reduceLeDiff, hG, hlen, e3, e0, e9, e10, e11, c1]; refine hK _ _ ?_; clear hK K hG G) | (refine W_end rfl fun G K hG hK => ?_; simp (disch := omega) only [go_sem, ↓reduceIte, Nat.reduceEqDiff, Nat.reduceAdd, Nat.reduceLeDiff, hG, hlen, e3, e0, e9, e10, e11, c1]; refine hK _ _ ?_; clear hK K hG G; repeat (first | refine thenI ?_ | refine thenE ?_ | refine thenR ?_ | refine inBI ?_ | refine inBR ?_ | refine inBS ?_ | refine inBN (by decide) ?_)) | refine W_seqS ?_ | refine W_seqC ?_ | refine W_seqB ?_ | refine W_block ?_ | (refine W_skip ?_; repeat (first | refine thenI ?_ | refine thenE ?_ | refine thenR ?_ | refine inBI ?_ | refine inBR ?_ | refine inBS ?_ | refine inBN (by decide) ?_)) | (refine W_condT ?hc ?_; (case hc => (simp (disch := omega) only [go_sem, ↓reduceIte, Nat.reduceEqDiff, Nat.reduceAdd, Nat.reduceLeDiff, hlen, e3, e0, e9, e10, e11, c1]; done))) | (refine W_condF ?hc ?_; (case hc => (simp (disch := omega) only [go_sem, ↓reduceIte, Nat.reduceEqDiff, Nat.reduceAdd, Nat.reduceLeDiff, hlen, e3, e0, e9, e10, e11, c1]; done))))
    refine W_exit ?_; repeat (first | refine thenI ?_ | refine thenE ?_ | refine thenR ?_ | refine inBI ?_ | refine inBR ?_ | refine inBS ?_ | refine inBN (by decide) ?_)
    repeat (first | (refine W_reg rfl fun G K hG hK => ?_; simp (disch := omega) only [go_sem, ↓reduceIte, Nat.reduceEqDiff, Nat.reduceAdd, Nat.reduceLeDiff, hG, hlen, e3, e0, e9, e10, e11]; refine hK _ _ ?_; clear hK K hG G) | (refine W_end rfl fun G K hG hK => ?_; simp (disch := omega) only [go_sem, ↓reduceIte, Nat.reduceEqDiff, Nat.reduceAdd, Nat.reduceLeDiff, hG, hlen, e3, e0, e9, e10, e11]; refine hK _ _ ?_; clear hK K hG G; repeat (first | refine thenI ?_ | refine thenE ?_ | refine thenR ?_ | refine inBI ?_ | refine inBR ?_ | refine inBS ?_ | refine inBN (by decide) ?_)) | refine W_seqS ?_ | refine W_seqC ?_ | refine W_seqB ?_ | refine W_block ?_ | (refine W_skip ?_; repeat (first | refine thenI ?_ | refine thenE ?_ | refine thenR ?_ | refine inBI ?_ | refine inBR ?_ | refine inBS ?_ | refine inBN (by decide) ?_)) | (refine W_condT ?hc ?_; (case hc => (simp (disch := omega) only [go_sem, ↓reduceIte, Nat.reduceEqDiff, Nat.reduceAdd, Nat.reduceLeDiff, hlen, e3, e0, e9, e10, e11]; done))) | (refine W_condF ?hc ?_; (case hc => (simp (disch := omega) only [go_sem, ↓reduceIte, Nat.reduceEqDiff, Nat.reduceAdd, Nat.reduceLeDiff, hlen, e3, e0, e9, e10, e11]; done))))
    (repeat (first | refine W_seqS ?_ | refine W_seqC ?_ | refine W_seqB ?_ | refine W_block ?_)); refine W_reg rfl fun G K hG hK => ?_; simp (disch := omega) only [go_sem, ↓reduceIte, Nat.reduceEqDiff, Nat.reduceAdd, Nat.reduceLeDiff, hG, hlen, e3, e0, e9, e10, e11]
    refine w_call (growB_ok (preOf xs ys 2).length s0 st (by have := preOf_len (xs := xs) (ys := ys) (j := 2); omega)) (by simp (disch := omega) only [go_sem, ↓reduceIte, Nat.reduceEqDiff, hlen, e3, e0, e9, e10, e11]) ?hl ?_
    case hl => first | rfl | (simp only [go_sem, List.all_cons, List.all_nil, Bool.not_false, Bool.and_self, hlen, e3, e0, e9, e10, e11]; done)
    rintro r_ sg ⟨xg, Lg, hg, hfg⟩; refine ⟨fun e => (by cases e), ?_⟩
    have og := hg.loc
    simp (disch := omega) only [go_sem, ↓reduceIte, Nat.reduceEqDiff, Nat.reduceAdd, Nat.reduceLeDiff, hG, hlen, e3, e0, e9, e10, e11, og]; refine hK _ _ ?_; clear hK K hG G; repeat (first | refine thenI ?_ | refine thenE ?_ | refine thenR ?_ | refine inBI ?_ | refine inBR ?_ | refine inBS ?_ | refine inBN (by decide) ?_)
    repeat (first | (refine W_reg rfl fun G K hG hK => ?_; simp (disch := omega) only [go_sem, ↓reduceIte, Nat.reduceEqDiff, Nat.reduceAdd, Nat.reduceLeDiff, hG, hlen, e3, e0, e9, e10, e11]; refine hK _ _ ?_; clear hK K hG G) | (refine W_end rfl fun G K hG hK => ?_; simp (disch := omega) only [go_sem, ↓reduceIte, Nat.reduceEqDiff, Nat.reduceAdd, Nat.reduceLeDiff, hG, hlen, e3, e0, e9, e10, e11]; refine hK _ _ ?_; clear hK K hG G; repeat (first | refine thenI ?_ | refine thenE ?_ | refine thenR ?_ | refine inBI ?_ | refine inBR ?_ | refine inBS ?_ | refine inBN (by decide) ?_)) | refine W_seqS ?_ | refine W_seqC ?_ | refine W_seqB ?_ | refine W_block ?_ | (refine W_skip ?_; repeat (first | refine thenI ?_ | refine thenE ?_ | refine thenR ?_ | refine inBI ?_ | refine inBR ?_ | refine inBS ?_ | refine inBN (by decide) ?_)) | (refine W_condT ?hc ?_; (case hc => (simp (disch := omega) only [go_sem, ↓reduceIte, Nat.reduceEqDiff, Nat.reduceAdd, Nat.reduceLeDiff, hlen, e3, e0, e9, e10, e11]; done))) | (refine W_condF ?hc ?_; (case hc => (simp (disch := omega) only [go_sem, ↓reduceIte, Nat.reduceEqDiff, Nat.reduceAdd, Nat.reduceLeDiff, hlen, e3, e0, e9, e10, e11]; done))))
    refine W_loop (fun d fr st' => ∃ (p : Nat) (r : Value) (L : List Nat), d = (2 : Nat) - p ∧ p ≤ (2 : Nat) ∧ (Ext st st') ∧ (ShB s0 st' (preOf xs ys p) r L) ∧ (Fresh st.length L) ∧ (fr.env 6 = r) ∧ (fr.env 25 = .slice (some ⟨q, 0, none⟩) 2 2) ∧ (fr.env 26 = .int .i64 2) ∧ (fr.env 27 = .int .i64 p)) ((2 : Nat)) ?_ ?_
    · exact ⟨0, _, _, by omega, by omega, xg, hg, hfg, (by (simp (disch := omega) only [go_sem, ↓reduceIte, Nat.reduceEqDiff, Nat.reduceAdd, Nat.reduceLeDiff, e3, e0, e9, e10, e11, hlen]); try rfl), (by (simp (disch := omega) only [go_sem, ↓reduceIte, Nat.reduceEqDiff, Nat.reduceAdd, Nat.reduceLeDiff, e3, e0, e9, e10, e11, hlen]); try rfl), (by (simp (disch := omega) only [go_sem, ↓reduceIte, Nat.reduceEqDiff, Nat.reduceAdd, Nat.reduceLeDiff, e3, e0, e9, e10, e11, hlen]); try rfl), (by (simp (disch := omega) only [go_sem, ↓reduceIte, Nat.reduceEqDiff, Nat.reduceAdd, Nat.reduceLeDiff, e3, e0, e9, e10, e11, hlen]); try rfl)⟩
    clear e3 e0 e9 e10 e11
    rintro d ⟨env, loc⟩ st' ⟨p, r, L, hd_p, hj_p, hext, hown, hfr, e6, e25, e26, e27⟩
    simp only at e6 e25 e26 e27
    by_cases hlp : p < 2
    · have c1 : decide ((p : Int) < 2) = true := by simp; omega
      have hi : (0 ≤ (p : Int) ∧ (p : Int) < ((2 : Nat) : Int)) = True := by simp; omega
      obtain ⟨v, hce, hrv⟩ := hpick p hlp
      have hce := cell_ext hext hce
      have hvl := hrv.notLoc.1
      have hpl := preOf_len (xs := xs) (ys := ys) (j := p)
      have hrp := hrl p
      obtain ⟨r', s2, L', hap, hown', hfr', hg'⟩ := ShB.join hown hfr hext.length (Ext.refl _) (hx0.trans hext) hrv (by omega)
      have or := hown.loc
      have or' := hown'.loc
      repeat (first | (refine W_reg rfl fun G K hG hK => ?_; simp (disch := omega) only [go_sem, ↓reduceIte, Nat.reduceEqDiff, Nat.reduceAdd, Nat.reduceLeDiff, hG, hlen, e6, e25, e26, e27, c1, hi, idxA, Int.toNat_natCast, hce, hvl, or]; refine hK _ _ ?_; clear hK K hG G) | (refine W_end rfl fun G K hG hK => ?_; simp (disch := omega) only [go_sem, ↓reduceIte, Nat.reduceEqDiff, Nat.reduceAdd, Nat.reduceLeDiff, hG, hlen, e6, e25, e26, e27, c1, hi, idxA, Int.toNat_natCast, hce, hvl, or]; refine hK _ _ ?_; clear hK K hG G; repeat (first | refine thenI ?_ | refine thenE ?_ | refine thenR ?_ | refine inBI ?_ | refine inBR ?_ | refine inBS ?_ | refine inBN (by decide) ?_)) | refine W_seqS ?_ | refine W_seqC ?_ | refine W_seqB ?_ | refine W_block ?_ | (refine W_skip ?_; repeat (first | refine thenI ?_ | refine thenE ?_ | refine thenR ?_ | refine inBI ?_ | refine inBR ?_ | refine inBS ?_ | refine inBN (by decide) ?_)) | (refine W_condT ?hc ?_; (case hc => (simp (disch := omega) only [go_sem, ↓reduceIte, Nat.reduceEqDiff, Nat.reduceAdd, Nat.reduceLeDiff, hlen, e6, e25, e26, e27, c1, hi, idxA, Int.toNat_natCast, hce, hvl, or]; done))) | (refine W_condF ?hc ?_; (case hc => (simp (disch := omega) only [go_sem, ↓reduceIte, Nat.reduceEqDiff, Nat.reduceAdd, Nat.reduceLeDiff, hlen, e6, e25, e26, e27, c1, hi, idxA, Int.toNat_natCast, hce, hvl, or]; done))))
      repeat (first | (refine W_reg rfl fun G K hG hK => ?_; simp (disch := omega) only [go_sem, ↓reduceIte, Nat.reduceEqDiff, Nat.reduceAdd, Nat.reduceLeDiff, hG, hlen, e6, e25, e26, e27, w_append, hap, or']; refine hK _ _ ?_; clear hK K hG G) | (refine W_end rfl fun G K hG hK => ?_; simp (disch := omega) only [go_sem, ↓reduceIte, Nat.reduceEqDiff, Nat.reduceAdd, Nat.reduceLeDiff, hG, hlen, e6, e25, e26, e27, w_append, hap, or']; refine hK _ _ ?_; clear hK K hG G; repeat (first | refine thenI ?_ | refine thenE ?_ | refine thenR ?_ | refine inBI ?_ | refine inBR ?_ | refine inBS ?_ | refine inBN (by decide) ?_)) | refine W_seqS ?_ | refine W_seqC ?_ | refine W_seqB ?_ | refine W_block ?_ | (refine W_skip ?_; repeat (first | refine thenI ?_ | refine thenE ?_ | refine thenR ?_ | refine inBI ?_ | refine inBR ?_ | refine inBS ?_ | refine inBN (by decide) ?_)) | (refine W_condT ?hc ?_; (case hc => (simp (disch := omega) only [go_sem, ↓reduceIte, Nat.reduceEqDiff, Nat.reduceAdd, Nat.reduceLeDiff, hlen, e6, e25, e26, e27, w_append, hap, or']; done))) | (refine W_condF ?hc ?_; (case hc => (simp (disch := omega) only [go_sem, ↓reduceIte, Nat.reduceEqDiff, Nat.reduceAdd, Nat.reduceLeDiff, hlen, e6, e25, e26, e27, w_append, hap, or']; done))))
      refine ⟨(2 : Nat) - (p + 1), by omega, p + 1, _, L', rfl, by omega, hg'.away.ext_of hext (hown.top hfr), by rw [preOf_next hlp]; exact hown', hfr', (by (simp (disch := omega) only [go_sem, ↓reduceIte, Nat.reduceEqDiff, Nat.reduceAdd, Nat.reduceLeDiff, hlen, e6, e25, e26, e27]); try rfl), (by (simp (disch := omega) only [go_sem, ↓reduceIte, Nat.reduceEqDiff, Nat.reduceAdd, Nat.reduceLeDiff, hlen, e6, e25, e26, e27]); try rfl), (by (simp (disch := omega) only [go_sem, ↓reduceIte, Nat.reduceEqDiff, Nat.reduceAdd, Nat.reduceLeDiff, hlen, e6, e25, e26, e27]); try rfl), (by (simp (disch := omega) only [go_sem, ↓reduceIte, Nat.reduceEqDiff, Nat.reduceAdd, Nat.reduceLeDiff, hlen, e6, e25, e26, e27]); try rfl)⟩
    · have c1 : decide ((p : Int) < 2) = false := by simp; omega
      have hp2 : p = 2 := by omega
      subst hp2
      have or := hown.loc
      repeat (first | (refine W_reg rfl fun G K hG hK => ?_; simp (disch := omega) only [go_sem, ↓reduceIte, Nat.reduceEqDiff, Nat.reduceAdd, Nat.reduceLeDiff, hG, hlen, e6, e25, e26, e27, c1]; refine hK _ _ ?_; clear hK K hG G) | (refine W_end rfl fun G K hG hK => ?_; simp (disch := omega) only [go_sem, ↓reduceIte, Nat.reduceEqDiff, Nat.reduceAdd, Nat.reduceLeDiff, hG, hlen, e6, e25, e26, e27, c1]; refine hK _ _ ?_; clear hK K hG G; repeat (first | refine thenI ?_ | refine thenE ?_ | refine thenR ?_ | refine inBI ?_ | refine inBR ?_ | refine inBS ?_ | refine inBN (by decide) ?_)) | refine W_seqS ?_ | refine W_seqC ?_ | refine W_seqB ?_ | refine W_block ?_ | (refine W_skip ?_; repeat (first | refine thenI ?_ | refine thenE ?_ | refine thenR ?_ | refine inBI ?_ | refine inBR ?_ | refine inBS ?_ | refine inBN (by decide) ?_)) | (refine W_condT ?hc ?_; (case hc => (simp (disch := omega) only [go_sem, ↓reduceIte, Nat.reduceEqDiff, Nat.reduceAdd, Nat.reduceLeDiff, hlen, e6, e25, e26, e27, c1]; done))) | (refine W_condF ?hc ?_; (case hc => (simp (disch := omega) only [go_sem, ↓reduceIte, Nat.reduceEqDiff, Nat.reduceAdd, Nat.reduceLeDiff, hlen, e6, e25, e26, e27, c1]; done))))
      refine W_exit ?_; repeat (first | refine thenI ?_ | refine thenE ?_ | refine thenR ?_ | refine inBI ?_ | refine inBR ?_ | refine inBS ?_ | refine inBN (by decide) ?_)
      repeat (first | (refine W_reg rfl fun G K hG hK => ?_; simp (disch := omega) only [go_sem, ↓reduceIte, Nat.reduceEqDiff, Nat.reduceAdd, Nat.reduceLeDiff, hG, hlen, e6, e25, e26, e27, or]; refine hK _ _ ?_; clear hK K hG G) | (refine W_end rfl fun G K hG hK => ?_; simp (disch := omega) only [go_sem, ↓reduceIte, Nat.reduceEqDiff, Nat.reduceAdd, Nat.reduceLeDiff, hG, hlen, e6, e25, e26, e27, or]; refine hK _ _ ?_; clear hK K hG G; repeat (first | refine thenI ?_ | refine thenE ?_ | refine thenR ?_ | refine inBI ?_ | refine inBR ?_ | refine inBS ?_ | refine inBN (by decide) ?_)) | refine W_seqS ?_ | refine W_seqC ?_ | refine W_seqB ?_ | refine W_block ?_ | (refine W_skip ?_; repeat (first | refine thenI ?_ | refine thenE ?_ | refine thenR ?_ | refine inBI ?_ | refine inBR ?_ | refine inBS ?_ | refine inBN (by decide) ?_)) | (refine W_condT ?hc ?_; (case hc => (simp (disch := omega) only [go_sem, ↓reduceIte, Nat.reduceEqDiff, Nat.reduceAdd, Nat.reduceLeDiff, hlen, e6, e25, e26, e27, or]; done))) | (refine W_condF ?hc ?_; (case hc => (simp (disch := omega) only [go_sem, ↓reduceIte, Nat.reduceEqDiff, Nat.reduceAdd, Nat.reduceLeDiff, hlen, e6, e25, e26, e27, or]; done))))
      refine W_ret ?_; try (repeat (first | refine thenI ?_ | refine thenE ?_ | refine thenR ?_ | refine inBI ?_ | refine inBR ?_ | refine inBS ?_ | refine inBN (by decide) ?_))
      refine fin1 (.inl rfl) (by (simp (disch := omega) only [go_sem, ↓reduceIte, Nat.reduceEqDiff, Nat.reduceAdd, Nat.reduceLeDiff, hlen, e6, e25, e26, e27]); try rfl) or ⟨hext, L, hown⟩

theorem fill_two (r0 r1 a b a' b' : Value) (ha : a.cells = #[a']) (hb : b.cells = #[b']) : Instr.fill (fun i => some (i * 1, 1)) #[r0, r1] [(0, a), (1, b)] = some #[a', b'] := by
  simp [Instr.fill, ha, hb]
/-- A slice of two slices is made. -/
theorem bs2 {H : List Tmp} {ρ : Operand → Value} {loc : Nat → Nat × List Value} {st : St} {x y : Operand} {d : Option Tmp} {ty : TypeId} {p : String} {af : Array Edge} {g : Option (Nat × Bool)} : evalEff Try.prog H ⟨d, .buildSlice 50 2 #[(0, x), (1, y)], ty, p, af, g⟩ ρ loc st =
    if okv (ρ x) = true ∧ okv (ρ y) = true ∧ (vc (ρ x)).size = 1 ∧ (vc (ρ y)).size = 1 then some (Value.slice (some ⟨st.length, 0, none⟩) 2 2, loc, st ++ [⟨(vc (ρ x)).toList ++ (vc (ρ y)).toList, 25, 0⟩]) else
      (if (#[((0 : Nat), x), (1, y)] : Array (Nat × Operand)).all (fun p => okv (ρ p.2)) then (Instr.fill (fun i => some (i * 1, 1)) #[Value.slice none 0 0, Value.slice none 0 0] ((#[((0 : Nat), x), (1, y)] : Array (Nat × Operand)).map fun (i, x) => (i, ρ x)).toList).map fun cs => (Value.slice (some ⟨st.length, 0, none⟩) 2 2, loc, st ++ [⟨cs.toList, 25, 0⟩]) else none) := by
  have h1 : elemA Try.prog 50 = some 25 := by unfold elemA; rw [Try.underlying50]
  have h2 : rowA Try.prog 25 2 = some [.slice none 0 0, .slice none 0 0] := by kernel_rfl
  have h3 : szA Try.prog 25 = some 1 := sz25
  have e : evalEff Try.prog H ⟨d, .buildSlice 50 2 #[(0, x), (1, y)], ty, p, af, g⟩ ρ loc st = (if (#[((0 : Nat), x), (1, y)] : Array (Nat × Operand)).all (fun p => okv (ρ p.2)) then (Instr.fill (fun i => some (i * 1, 1)) #[Value.slice none 0 0, Value.slice none 0 0] ((#[((0 : Nat), x), (1, y)] : Array (Nat × Operand)).map fun (i, x) => (i, ρ x)).toList).map fun cs => (Value.slice (some ⟨st.length, 0, none⟩) 2 2, loc, st ++ [⟨cs.toList, 25, 0⟩]) else none) := by
    simp only [evalEff, h1, h2, h3]
  rw [e]
  by_cases h : okv (ρ x) = true ∧ okv (ρ y) = true ∧ (vc (ρ x)).size = 1 ∧ (vc (ρ y)).size = 1
  · rw [if_pos h]
    obtain ⟨o1, o2, c1, c2⟩ := h
    have hall : ((#[((0 : Nat), x), (1, y)] : Array (Nat × Operand)).all fun p => okv (ρ p.2)) = true := by simp [o1, o2]
    rw [if_pos hall]
    have hm : ((#[((0 : Nat), x), (1, y)] : Array (Nat × Operand)).map fun (i, x) => (i, ρ x)).toList = [(0, ρ x), (1, ρ y)] := by simp
    obtain ⟨a', ha⟩ : ∃ a', vc (ρ x) = #[a'] := Array.size_eq_one_iff.1 c1
    obtain ⟨b', hb⟩ : ∃ b', vc (ρ y) = #[b'] := Array.size_eq_one_iff.1 c2
    rw [hm, fill_two _ _ _ _ a' b' ha hb, ha, hb]
    rfl
  · rw [if_neg h]
theorem Row.cells {α : Type} {E : α → List Value → Prop} {sz : Nat} {st : St} {xs : List α} {s : Value} (h : Row E sz st xs s) : vc s = #[s] := by
  rcases h with ⟨h | h, _⟩ | ⟨i, o, c, rfl, _⟩
  · subst h; rfl
  · subst h; rfl
  · rfl
theorem implSame_ok (xs ys : List Bnd) (st : St) (sa sb : Value) (hxb : xs.length ≤ 1073741824) (hyb : ys.length ≤ 1073741824) (hlx : ∀ b ∈ xs, Lim 1073741824 b.tm) (hly : ∀ b ∈ ys, Lim 1073741824 b.tm) (ha : Rw st xs sa) (hb : Rw st ys sb) :
    CallS Try.prog 7 [sa, sb] st fun r st2 => Ext st st2 ∧ r = .bool (same xs ys) := by
  refine CallS_of_W [] 27 Try.func7 rfl rfl rfl rfl (by simp) ?_
  have q1 := ha.notLoc.1
  have q2 := hb.notLoc.1
  have q3 := ha.notLoc.2
  have q4 := hb.notLoc.2
  have q5 := Row.cells ha
  have q6 := Row.cells hb
  repeat (first | (refine W_reg rfl fun G K hG hK => ?_; simp (disch := omega) only [go_sem, ↓reduceIte, Nat.reduceEqDiff, Nat.reduceAdd, Nat.reduceLeDiff, hG, q1, q2]; refine hK _ _ ?_; clear hK K hG G) | (refine W_end rfl fun G K hG hK => ?_; simp (disch := omega) only [go_sem, ↓reduceIte, Nat.reduceEqDiff, Nat.reduceAdd, Nat.reduceLeDiff, hG, q1, q2]; refine hK _ _ ?_; clear hK K hG G; repeat (first | refine thenI ?_ | refine thenE ?_ | refine thenR ?_ | refine inBI ?_ | refine inBR ?_ | refine inBS ?_ | refine inBN (by decide) ?_)) | refine W_seqS ?_ | refine W_seqC ?_ | refine W_seqB ?_ | refine W_block ?_ | (refine W_skip ?_; repeat (first | refine thenI ?_ | refine thenE ?_ | refine thenR ?_ | refine inBI ?_ | refine inBR ?_ | refine inBS ?_ | refine inBN (by decide) ?_)) | (refine W_condT ?hc ?_; (case hc => (simp (disch := omega) only [go_sem, ↓reduceIte, Nat.reduceEqDiff, Nat.reduceAdd, Nat.reduceLeDiff, q1, q2]; done))) | (refine W_condF ?hc ?_; (case hc => (simp (disch := omega) only [go_sem, ↓reduceIte, Nat.reduceEqDiff, Nat.reduceAdd, Nat.reduceLeDiff, q1, q2]; done))))
  (repeat (first | refine W_seqS ?_ | refine W_seqC ?_ | refine W_seqB ?_ | refine W_block ?_)); refine W_reg rfl fun G K hG hK => ?_; simp (disch := omega) only [go_sem, ↓reduceIte, Nat.reduceEqDiff, Nat.reduceAdd, Nat.reduceLeDiff, hG, q1, q2, bs2, q3, q4, q5, q6, List.size_toArray, List.toList_toArray]
  refine w_call (concat_ok xs ys st (st ++ [⟨[sa, sb], 25, 0⟩]) st.length sa sb hxb hyb (by simp [cell]) (by simp [cell]) (Ext.app _ _) ha hb) (by simp (disch := omega) only [go_sem, ↓reduceIte, Nat.reduceEqDiff, q1, q2]) ?hl ?_
  case hl => first | rfl | (simp only [go_sem, List.all_cons, List.all_nil, Bool.not_false, Bool.and_self, q1, q2]; done)
  rintro v2 s2 ⟨x2, L2, h2⟩; refine ⟨fun e => (by cases e), ?_⟩
  have o2 := h2.loc
  have x2 := (Ext.app st _).trans x2
  have hrow := h2.row x2
  have hlen : lenE Try.prog 25 v2 = some (.int .i64 (xs ++ ys).length) := row_len hrow Try.underlying25
  obtain ⟨zs, hzs⟩ : ∃ zs, zs = xs ++ ys := ⟨_, rfl⟩
  rw [← hzs] at hrow hlen
  have hzl : zs.length ≤ 2147483648 := by rw [hzs, List.length_append]; omega
  simp (disch := omega) only [go_sem, ↓reduceIte, Nat.reduceEqDiff, Nat.reduceAdd, Nat.reduceLeDiff, hG, q1, q2, o2, hlen]; refine hK _ _ ?_; clear hK K hG G; repeat (first | refine thenI ?_ | refine thenE ?_ | refine thenR ?_ | refine inBI ?_ | refine inBR ?_ | refine inBS ?_ | refine inBN (by decide) ?_)
  repeat (first | (refine W_reg rfl fun G K hG hK => ?_; simp (disch := omega) only [go_sem, ↓reduceIte, Nat.reduceEqDiff, Nat.reduceAdd, Nat.reduceLeDiff, hG, q1, q2, o2, hlen]; refine hK _ _ ?_; clear hK K hG G) | (refine W_end rfl fun G K hG hK => ?_; simp (disch := omega) only [go_sem, ↓reduceIte, Nat.reduceEqDiff, Nat.reduceAdd, Nat.reduceLeDiff, hG, q1, q2, o2, hlen]; refine hK _ _ ?_; clear hK K hG G; repeat (first | refine thenI ?_ | refine thenE ?_ | refine thenR ?_ | refine inBI ?_ | refine inBR ?_ | refine inBS ?_ | refine inBN (by decide) ?_)) | refine W_seqS ?_ | refine W_seqC ?_ | refine W_seqB ?_ | refine W_block ?_ | (refine W_skip ?_; repeat (first | refine thenI ?_ | refine thenE ?_ | refine thenR ?_ | refine inBI ?_ | refine inBR ?_ | refine inBS ?_ | refine inBN (by decide) ?_)) | (refine W_condT ?hc ?_; (case hc => (simp (disch := omega) only [go_sem, ↓reduceIte, Nat.reduceEqDiff, Nat.reduceAdd, Nat.reduceLeDiff, q1, q2, o2, hlen]; done))) | (refine W_condF ?hc ?_; (case hc => (simp (disch := omega) only [go_sem, ↓reduceIte, Nat.reduceEqDiff, Nat.reduceAdd, Nat.reduceLeDiff, q1, q2, o2, hlen]; done))))
  refine W_loop (fun d fr st' => ∃ (j : Nat) , d = zs.length - j ∧ j ≤ zs.length ∧ (Ext s2 st') ∧ ((∀ i, i < j → ∀ b, zs[i]? = some b → sameAt xs ys b = true)) ∧ (fr.env 0 = sa) ∧ (fr.env 1 = sb) ∧ (fr.env 10 = v2) ∧ (fr.env 11 = .int .i64 zs.length) ∧ (fr.env 12 = .int .i64 j)) (zs.length) ?_ ?_
  · exact ⟨0, by omega, by omega, Ext.refl _, fun i hi => absurd hi (by omega), (by (simp (disch := omega) only [go_sem, ↓reduceIte, Nat.reduceEqDiff, Nat.reduceAdd, Nat.reduceLeDiff, q1, q2, o2, hlen]); try rfl), (by (simp (disch := omega) only [go_sem, ↓reduceIte, Nat.reduceEqDiff, Nat.reduceAdd, Nat.reduceLeDiff, q1, q2, o2, hlen]); try rfl), (by (simp (disch := omega) only [go_sem, ↓reduceIte, Nat.reduceEqDiff, Nat.reduceAdd, Nat.reduceLeDiff, q1, q2, o2, hlen]); try rfl), (by (simp (disch := omega) only [go_sem, ↓reduceIte, Nat.reduceEqDiff, Nat.reduceAdd, Nat.reduceLeDiff, q1, q2, o2, hlen]); try rfl), (by (simp (disch := omega) only [go_sem, ↓reduceIte, Nat.reduceEqDiff, Nat.reduceAdd, Nat.reduceLeDiff, q1, q2, o2, hlen]); try rfl)⟩
  rintro d ⟨env, loc⟩ st' ⟨j, hd, hj, hext, hall, e0, e1, e10, e11, e12⟩
  simp only at e0 e1 e10 e11 e12
  by_cases hlt : j < zs.length
  · have c1 : decide ((j : Int) < (zs.length : Int)) = true := by simpa using hlt
    have hi := idxOk hlt
    have hx : zs[j]? = some zs[j] := List.getElem?_eq_getElem hlt
    have htk : zs.take (j + 1) = zs.take j ++ [zs[j]] := List.take_succ_eq_append_getElem hlt
    obtain ⟨i, o, c, k, m, mm, args, sx, rfl, htm, hrx, hcs⟩ := row_atB hrow hx
    have hld := fun loc => load_row (A := []) (loc := loc) (st := st') ag39 sz39 rfl (hcs.ext hext)
    have nx := hrx.notLoc.1
    have nx2 := hrx.notLoc.2
    have hx2 := x2.trans hext
    repeat (first | (refine W_reg rfl fun G K hG hK => ?_; simp (disch := omega) only [go_sem, ↓reduceIte, Nat.reduceEqDiff, Nat.reduceAdd, Nat.reduceLeDiff, hG, q1, q2, o2, hlen, e0, e1, e10, e11, e12, c1, hi, idxA, Int.toNat_natCast, nx, nx2, hld]; refine hK _ _ ?_; clear hK K hG G) | (refine W_end rfl fun G K hG hK => ?_; simp (disch := omega) only [go_sem, ↓reduceIte, Nat.reduceEqDiff, Nat.reduceAdd, Nat.reduceLeDiff, hG, q1, q2, o2, hlen, e0, e1, e10, e11, e12, c1, hi, idxA, Int.toNat_natCast, nx, nx2, hld]; refine hK _ _ ?_; clear hK K hG G; repeat (first | refine thenI ?_ | refine thenE ?_ | refine thenR ?_ | refine inBI ?_ | refine inBR ?_ | refine inBS ?_ | refine inBN (by decide) ?_)) | refine W_seqS ?_ | refine W_seqC ?_ | refine W_seqB ?_ | refine W_block ?_ | (refine W_skip ?_; repeat (first | refine thenI ?_ | refine thenE ?_ | refine thenR ?_ | refine inBI ?_ | refine inBR ?_ | refine inBS ?_ | refine inBN (by decide) ?_)) | (refine W_condT ?hc ?_; (case hc => (simp (disch := omega) only [go_sem, ↓reduceIte, Nat.reduceEqDiff, Nat.reduceAdd, Nat.reduceLeDiff, q1, q2, o2, hlen, e0, e1, e10, e11, e12, c1, hi, idxA, Int.toNat_natCast, nx, nx2, hld]; done))) | (refine W_condF ?hc ?_; (case hc => (simp (disch := omega) only [go_sem, ↓reduceIte, Nat.reduceEqDiff, Nat.reduceAdd, Nat.reduceLeDiff, q1, q2, o2, hlen, e0, e1, e10, e11, e12, c1, hi, idxA, Int.toNat_natCast, nx, nx2, hld]; done))))
    (repeat (first | refine W_seqS ?_ | refine W_seqC ?_ | refine W_seqB ?_ | refine W_block ?_)); refine W_regD mixed [] [(0,false),(1,false),(2,false),(4,false),(5,false),(6,false),(3,true),(7,true),(8,true),(9,false)] rfl (by decide +kernel) fun G K hG hK => ?_; simp only [pickOps, List.filterMap_cons, List.filterMap_nil, List.getElem?_cons_zero, List.getElem?_cons_succ, Option.map_some]; simp (disch := omega) only [go_sem, ↓reduceIte, Nat.reduceEqDiff, Nat.reduceAdd, Nat.reduceLeDiff, hG, q1, q2, o2, hlen, e0, e1, e10, e11, e12, c1, hi, idxA, Int.toNat_natCast, nx, nx2]
    refine w_call (value_ok xs zs[j].nm st' sa hxb hlx (ha.ext hx2)) (by simp (disch := omega) only [go_sem, ↓reduceIte, Nat.reduceEqDiff, q1, q2, o2, hlen, e0, e1, e10, e11, e12, c1, hi, idxA, Int.toNat_natCast, nx, nx2]) ?hl ?_
    case hl => first | rfl | (simp only [go_sem, List.all_cons, List.all_nil, Bool.not_false, Bool.and_self, q1, q2, o2, hlen, e0, e1, e10, e11, e12, c1, hi, idxA, Int.toNat_natCast, nx, nx2]; done)
    rintro r_ sc ⟨x3, d3, L3, rfl, o3, f3⟩; refine ⟨fun e => x3, ?_⟩
    obtain ⟨k3, n3, m3, s3, rfl, y1, y2, y3⟩ := o3.args_cells
    simp (disch := omega) only [go_sem, ↓reduceIte, Nat.reduceEqDiff, Nat.reduceAdd, Nat.reduceLeDiff, q1, q2, o2, hlen, e0, e1, e10, e11, e12, c1, hi, idxA, Int.toNat_natCast, nx, nx2, y1, y2, y3]
    refine w_call (value_ok ys zs[j].nm sc sb hyb hly (hb.ext (hx2.trans x3))) (by simp (disch := omega) only [go_sem, ↓reduceIte, Nat.reduceEqDiff, q1, q2, o2, hlen, e0, e1, e10, e11, e12, c1, hi, idxA, Int.toNat_natCast, nx, nx2]) ?hl ?_
    case hl => first | rfl | (simp only [go_sem, List.all_cons, List.all_nil, Bool.not_false, Bool.and_self, q1, q2, o2, hlen, e0, e1, e10, e11, e12, c1, hi, idxA, Int.toNat_natCast, nx, nx2]; done)
    rintro r_ sd ⟨x4, d4, L4, rfl, o4, f4⟩; refine ⟨fun e => x4, ?_⟩
    obtain ⟨k4, n4, m4, s4, rfl, y4, y5, y6⟩ := o4.args_cells
    simp (disch := omega) only [go_sem, ↓reduceIte, Nat.reduceEqDiff, Nat.reduceAdd, Nat.reduceLeDiff, q1, q2, o2, hlen, e0, e1, e10, e11, e12, c1, hi, idxA, Int.toNat_natCast, nx, nx2, y1, y2, y3, y4, y5, y6]
    refine w_call (implEq_ok (T.sub xs (T.var zs[j].nm)) (T.sub ys (T.var zs[j].nm)) sd _ _ (Lim.sub hlx _ (T.var_lim _)) (Lim.sub hly _ (T.var_lim _)) (o3.ext x4).enc o4.enc) (by simp (disch := omega) only [go_sem, ↓reduceIte, Nat.reduceEqDiff, q1, q2, o2, hlen, e0, e1, e10, e11, e12, c1, hi, idxA, Int.toNat_natCast, nx, nx2, y1, y2, y3, y4, y5, y6]) ?hl ?_
    case hl => first | rfl | (simp only [go_sem, List.all_cons, List.all_nil, Bool.not_false, Bool.and_self, q1, q2, o2, hlen, e0, e1, e10, e11, e12, c1, hi, idxA, Int.toNat_natCast, nx, nx2, y1, y2, y3, y4, y5, y6]; done)
    rintro r_ sd ⟨rfl, rfl⟩; refine ⟨fun e => Ext.refl _, ?_⟩
    have hdef : T.eqv (T.sub xs (T.var zs[j].nm)) (T.sub ys (T.var zs[j].nm)) = sameAt xs ys zs[j] := rfl
    rw [hdef]
    cases hq : sameAt xs ys zs[j] with
    | false =>
      simp (disch := omega) only [go_sem, ↓reduceIte, Nat.reduceEqDiff, Nat.reduceAdd, Nat.reduceLeDiff, hG, q1, q2, o2, hlen, e0, e1, e10, e11, e12, c1, hi, idxA, Int.toNat_natCast, nx, nx2]; refine hK _ _ ?_; clear hK K hG G; repeat (first | refine thenI ?_ | refine thenE ?_ | refine thenR ?_ | refine inBI ?_ | refine inBR ?_ | refine inBS ?_ | refine inBN (by decide) ?_)
      repeat (first | (refine W_reg rfl fun G K hG hK => ?_; simp (disch := omega) only [go_sem, ↓reduceIte, Nat.reduceEqDiff, Nat.reduceAdd, Nat.reduceLeDiff, hG, q1, q2, o2, hlen, e0, e1, e10, e11, e12, c1, hi, idxA, Int.toNat_natCast, nx, nx2]; refine hK _ _ ?_; clear hK K hG G) | (refine W_end rfl fun G K hG hK => ?_; simp (disch := omega) only [go_sem, ↓reduceIte, Nat.reduceEqDiff, Nat.reduceAdd, Nat.reduceLeDiff, hG, q1, q2, o2, hlen, e0, e1, e10, e11, e12, c1, hi, idxA, Int.toNat_natCast, nx, nx2]; refine hK _ _ ?_; clear hK K hG G; repeat (first | refine thenI ?_ | refine thenE ?_ | refine thenR ?_ | refine inBI ?_ | refine inBR ?_ | refine inBS ?_ | refine inBN (by decide) ?_)) | refine W_seqS ?_ | refine W_seqC ?_ | refine W_seqB ?_ | refine W_block ?_ | (refine W_skip ?_; repeat (first | refine thenI ?_ | refine thenE ?_ | refine thenR ?_ | refine inBI ?_ | refine inBR ?_ | refine inBS ?_ | refine inBN (by decide) ?_)) | (refine W_condT ?hc ?_; (case hc => (simp (disch := omega) only [go_sem, ↓reduceIte, Nat.reduceEqDiff, Nat.reduceAdd, Nat.reduceLeDiff, q1, q2, o2, hlen, e0, e1, e10, e11, e12, c1, hi, idxA, Int.toNat_natCast, nx, nx2]; done))) | (refine W_condF ?hc ?_; (case hc => (simp (disch := omega) only [go_sem, ↓reduceIte, Nat.reduceEqDiff, Nat.reduceAdd, Nat.reduceLeDiff, q1, q2, o2, hlen, e0, e1, e10, e11, e12, c1, hi, idxA, Int.toNat_natCast, nx, nx2]; done))))
      have hno : same xs ys = false := by subst hzs; exact same_no hlt hq
      refine W_ret ?_; try (repeat (first | refine thenI ?_ | refine thenE ?_ | refine thenR ?_ | refine inBI ?_ | refine inBR ?_ | refine inBS ?_ | refine inBN (by decide) ?_))
      refine fin1 (.inl rfl) (by (simp (disch := omega) only [go_sem, ↓reduceIte, Nat.reduceEqDiff, Nat.reduceAdd, Nat.reduceLeDiff, q1, q2, o2, hlen, e0, e1, e10, e11, e12, c1, hi, idxA, Int.toNat_natCast, nx, nx2]); try rfl) rfl ⟨((x2.trans hext).trans x3).trans x4, by rw [hno]⟩
    | true =>
      simp (disch := omega) only [go_sem, ↓reduceIte, Nat.reduceEqDiff, Nat.reduceAdd, Nat.reduceLeDiff, hG, q1, q2, o2, hlen, e0, e1, e10, e11, e12, c1, hi, idxA, Int.toNat_natCast, nx, nx2]; refine hK _ _ ?_; clear hK K hG G; repeat (first | refine thenI ?_ | refine thenE ?_ | refine thenR ?_ | refine inBI ?_ | refine inBR ?_ | refine inBS ?_ | refine inBN (by decide) ?_)
      repeat (first | (refine W_reg rfl fun G K hG hK => ?_; simp (disch := omega) only [go_sem, ↓reduceIte, Nat.reduceEqDiff, Nat.reduceAdd, Nat.reduceLeDiff, hG, q1, q2, o2, hlen, e0, e1, e10, e11, e12, c1, hi, idxA, Int.toNat_natCast, nx, nx2]; refine hK _ _ ?_; clear hK K hG G) | (refine W_end rfl fun G K hG hK => ?_; simp (disch := omega) only [go_sem, ↓reduceIte, Nat.reduceEqDiff, Nat.reduceAdd, Nat.reduceLeDiff, hG, q1, q2, o2, hlen, e0, e1, e10, e11, e12, c1, hi, idxA, Int.toNat_natCast, nx, nx2]; refine hK _ _ ?_; clear hK K hG G; repeat (first | refine thenI ?_ | refine thenE ?_ | refine thenR ?_ | refine inBI ?_ | refine inBR ?_ | refine inBS ?_ | refine inBN (by decide) ?_)) | refine W_seqS ?_ | refine W_seqC ?_ | refine W_seqB ?_ | refine W_block ?_ | (refine W_skip ?_; repeat (first | refine thenI ?_ | refine thenE ?_ | refine thenR ?_ | refine inBI ?_ | refine inBR ?_ | refine inBS ?_ | refine inBN (by decide) ?_)) | (refine W_condT ?hc ?_; (case hc => (simp (disch := omega) only [go_sem, ↓reduceIte, Nat.reduceEqDiff, Nat.reduceAdd, Nat.reduceLeDiff, q1, q2, o2, hlen, e0, e1, e10, e11, e12, c1, hi, idxA, Int.toNat_natCast, nx, nx2]; done))) | (refine W_condF ?hc ?_; (case hc => (simp (disch := omega) only [go_sem, ↓reduceIte, Nat.reduceEqDiff, Nat.reduceAdd, Nat.reduceLeDiff, q1, q2, o2, hlen, e0, e1, e10, e11, e12, c1, hi, idxA, Int.toNat_natCast, nx, nx2]; done))))
      refine ⟨zs.length - (j + 1), by omega, j + 1, rfl, by omega, (hext.trans x3).trans x4, fun i hi b hb => (by rcases Nat.lt_or_ge i j with h | h; exact hall i h b hb; have hij : i = j := (by omega); subst hij; rw [hx] at hb; cases hb; exact hq), (by (simp (disch := omega) only [go_sem, ↓reduceIte, Nat.reduceEqDiff, Nat.reduceAdd, Nat.reduceLeDiff, q1, q2, o2, hlen, e0, e1, e10, e11, e12, c1, hi, idxA, Int.toNat_natCast, nx, nx2]); try rfl), (by (simp (disch := omega) only [go_sem, ↓reduceIte, Nat.reduceEqDiff, Nat.reduceAdd, Nat.reduceLeDiff, q1, q2, o2, hlen, e0, e1, e10, e11, e12, c1, hi, idxA, Int.toNat_natCast, nx, nx2]); try rfl), (by (simp (disch := omega) only [go_sem, ↓reduceIte, Nat.reduceEqDiff, Nat.reduceAdd, Nat.reduceLeDiff, q1, q2, o2, hlen, e0, e1, e10, e11, e12, c1, hi, idxA, Int.toNat_natCast, nx, nx2]); try rfl), (by (simp (disch := omega) only [go_sem, ↓reduceIte, Nat.reduceEqDiff, Nat.reduceAdd, Nat.reduceLeDiff, q1, q2, o2, hlen, e0, e1, e10, e11, e12, c1, hi, idxA, Int.toNat_natCast, nx, nx2]); try rfl), (by (simp (disch := omega) only [go_sem, ↓reduceIte, Nat.reduceEqDiff, Nat.reduceAdd, Nat.reduceLeDiff, q1, q2, o2, hlen, e0, e1, e10, e11, e12, c1, hi, idxA, Int.toNat_natCast, nx, nx2]); try rfl)⟩
  · have c1 : decide ((j : Int) < (zs.length : Int)) = false := by simpa using hlt
    have hjn : j = zs.length := by omega
    subst hjn
    repeat (first | (refine W_reg rfl fun G K hG hK => ?_; simp (disch := omega) only [go_sem, ↓reduceIte, Nat.reduceEqDiff, Nat.reduceAdd, Nat.reduceLeDiff, hG, q1, q2, o2, hlen, e0, e1, e10, e11, e12, c1]; refine hK _ _ ?_; clear hK K hG G) | (refine W_end rfl fun G K hG hK => ?_; simp (disch := omega) only [go_sem, ↓reduceIte, Nat.reduceEqDiff, Nat.reduceAdd, Nat.reduceLeDiff, hG, q1, q2, o2, hlen, e0, e1, e10, e11, e12, c1]; refine hK _ _ ?_; clear hK K hG G; repeat (first | refine thenI ?_ | refine thenE ?_ | refine thenR ?_ | refine inBI ?_ | refine inBR ?_ | refine inBS ?_ | refine inBN (by decide) ?_)) | refine W_seqS ?_ | refine W_seqC ?_ | refine W_seqB ?_ | refine W_block ?_ | (refine W_skip ?_; repeat (first | refine thenI ?_ | refine thenE ?_ | refine thenR ?_ | refine inBI ?_ | refine inBR ?_ | refine inBS ?_ | refine inBN (by decide) ?_)) | (refine W_condT ?hc ?_; (case hc => (simp (disch := omega) only [go_sem, ↓reduceIte, Nat.reduceEqDiff, Nat.reduceAdd, Nat.reduceLeDiff, q1, q2, o2, hlen, e0, e1, e10, e11, e12, c1]; done))) | (refine W_condF ?hc ?_; (case hc => (simp (disch := omega) only [go_sem, ↓reduceIte, Nat.reduceEqDiff, Nat.reduceAdd, Nat.reduceLeDiff, q1, q2, o2, hlen, e0, e1, e10, e11, e12, c1]; done))))
    refine W_exit ?_; repeat (first | refine thenI ?_ | refine thenE ?_ | refine thenR ?_ | refine inBI ?_ | refine inBR ?_ | refine inBS ?_ | refine inBN (by decide) ?_)
    repeat (first | (refine W_reg rfl fun G K hG hK => ?_; simp (disch := omega) only [go_sem, ↓reduceIte, Nat.reduceEqDiff, Nat.reduceAdd, Nat.reduceLeDiff, hG, q1, q2, o2, hlen, e0, e1, e10, e11, e12, c1]; refine hK _ _ ?_; clear hK K hG G) | (refine W_end rfl fun G K hG hK => ?_; simp (disch := omega) only [go_sem, ↓reduceIte, Nat.reduceEqDiff, Nat.reduceAdd, Nat.reduceLeDiff, hG, q1, q2, o2, hlen, e0, e1, e10, e11, e12, c1]; refine hK _ _ ?_; clear hK K hG G; repeat (first | refine thenI ?_ | refine thenE ?_ | refine thenR ?_ | refine inBI ?_ | refine inBR ?_ | refine inBS ?_ | refine inBN (by decide) ?_)) | refine W_seqS ?_ | refine W_seqC ?_ | refine W_seqB ?_ | refine W_block ?_ | (refine W_skip ?_; repeat (first | refine thenI ?_ | refine thenE ?_ | refine thenR ?_ | refine inBI ?_ | refine inBR ?_ | refine inBS ?_ | refine inBN (by decide) ?_)) | (refine W_condT ?hc ?_; (case hc => (simp (disch := omega) only [go_sem, ↓reduceIte, Nat.reduceEqDiff, Nat.reduceAdd, Nat.reduceLeDiff, q1, q2, o2, hlen, e0, e1, e10, e11, e12, c1]; done))) | (refine W_condF ?hc ?_; (case hc => (simp (disch := omega) only [go_sem, ↓reduceIte, Nat.reduceEqDiff, Nat.reduceAdd, Nat.reduceLeDiff, q1, q2, o2, hlen, e0, e1, e10, e11, e12, c1]; done))))
    have hyes : same xs ys = true := by subst hzs; exact same_yes fun i hi => hall i hi _ (List.getElem?_eq_getElem hi)
    refine W_ret ?_; try (repeat (first | refine thenI ?_ | refine thenE ?_ | refine thenR ?_ | refine inBI ?_ | refine inBR ?_ | refine inBS ?_ | refine inBN (by decide) ?_))
    refine fin1 (.inl rfl) (by (simp (disch := omega) only [go_sem, ↓reduceIte, Nat.reduceEqDiff, Nat.reduceAdd, Nat.reduceLeDiff, q1, q2, o2, hlen, e0, e1, e10, e11, e12, c1]); try rfl) rfl ⟨x2.trans hext, by rw [hyes]⟩
end Go.Proofs.Ytopjbcfkaggleaa.AM
