/- My texts for the law, laid together (part 3): N3 Q4 C19 C18 O6 E7 ZFnNames. -/
import Derived.Test.YtojpgicdhflhpaaG2
import Derived.Test.YtojpgicdhflhpaaShelf
import Derived.Test.YtojpgicdhflhpaaRows
import Derived.WalkKit
import Derived.ProofKit
import Derived.OpenShut
import Derived.ShutString
import Derived.ChangeOld
import Derived.Below
import Derived.SizedLaws
import Derived.Carry
/- Names are sorted: impl.SortNames, out of the shelf's slices.Sort and slices.Compact. -/
namespace Go.Proofs.Ytojpgicdhflhpaa.AM
open Go Go.Proofs Go.RowKit Go.Sort
set_option linter.unusedVariables false
set_option linter.unusedSimpArgs false
set_option maxRecDepth 100000
attribute [local go_sem] List.map_cons List.map_nil List.all_cons List.all_nil Bool.and_self Option.map_some List.getElem?_toArray Option.bind_some gye_b gye_t gsk_b gsk_t gb1 gb2 gb3 gb4 bne_self_eq_false beq_self_eq_true w_guard w_nil stepV_some step_some step_some' w_move w_assign w_pick w_binOp w_unOp w_load w_fieldAddr w_indexAddr w_len w_max w_index ev_max max_int ev_index w_box w_alloc w_store w_field w_extract w_nilCheck w_convert w_buildSlice w_build ev_buildL fillL_nil fillL_cons bs0 bs1 ev_conv ev_bin ev_un ev_pick ev_load ev_fieldAddr ev_indexAddr ev_len ev_field ev_extract ev_nilCheck fr_tmp fr_int fr_bool fr_str fr_nil fr_func put_some put_none bin_lss bin_leq bin_gtr bin_geq bin_eql bin_neq bin_add bin_sub bin_mul bin_seql bin_sneq un_not pick_ ext_ loadA_p cellAt_l cellAt_h okPtr_l okPtr_h fadA_p allocA_l storeA_l cells_agg cells_int cells_str cells_sl cells_bool flat_i flat_s flat_b flat_sl flat_nil loc_agg loc_int loc_str loc_sl loc_bool loc_fn loc_ptr okv_agg okv_int okv_str okv_sl okv_bool cellsFrom splice upd_eval argEnv_zero argEnv_succ ne_eq Nat.add_one_ne_zero not_false_eq_true List.not_mem_nil and_self decide_true List.getElem?_cons_zero List.getElem?_cons_succ List.size_toArray List.length_cons List.length_nil List.take_succ_cons List.take_zero List.drop_succ_cons List.drop_zero List.cons_append List.nil_append List.drop_nil Bool.not_true Bool.not_false Bool.false_eq_true Nat.zero_add Nat.add_zero wrap_in List.toList_toArray List.mem_cons or_self or_false false_or
attribute [local go_sem] ag22 ag3 ag5 ag62 ag9 bu42 by9 el22 el24 of42_0 of42_1 of42_2 ro9_0 ro9_1 ro9_14 sz22 sz3 sz5 sz62 sz9 ze3 ze62 ze9
-- AUTO

/-- One live block has turned: the rest of the tie stays. -/
theorem HR.turn {P : Program} {w w' : World} {M : List ME} {st : St} {i : Nat} {cs cs' : List Value} {e : TypeId} {m : ME} {c' : Array Value} (hH : HR P ⟨w, M, st⟩ M st w) (hi : st[i]? = some ⟨cs, e, 0⟩) (hm : M[i]? = some m)
    (hos : w'.os = w.os) (htp : w'.tape = w.tape) (hout : w'.output = w.output) (hsz : w.heap.size ≤ w'.heap.size) (hoth : ∀ k, k < w.heap.size → k ≠ m.b → w'.heap[k]? = w.heap[k]?)
    (hb : w'.heap[m.b]? = some (.cells c' e (0, 0))) (hs : c'.size = m.n) (hl : cs'.length ≤ m.n) (hcr : CR M cs' c') : HR P ⟨w, M, st⟩ M (st.set i ⟨cs', e, 0⟩) w' := by
  obtain ⟨c, hc, hcs, hcl, hcr0, hap⟩ := hH.blk i _ m hi hm (by simp) (by simp)
  have hilt := (List.getElem?_eq_some_iff.1 hi).1
  have hne : ∀ (j : Nat) b m', st[j]? = some b → M[j]? = some m' → b.stat ≠ 2 → j ≠ i → m'.b ≠ m.b := fun j b m' hj hm' h2 hji e => hji (hH.inj j i b _ m' m hj hi h2 (by simp) hm' hm e)
  have hback : ∀ (j : Nat) b, (st.set i ⟨cs', e, 0⟩)[j]? = some b → b.stat ≠ 2 → ∃ b0, st[j]? = some b0 ∧ b0.stat ≠ 2 := by
    intro j b hj h2
    by_cases hji : i = j
    · subst hji; exact ⟨_, hi, by simp⟩
    · rw [List.getElem?_set_ne hji] at hj; exact ⟨b, hj, h2⟩
  exact {
    len := by rw [List.length_set]; exact hH.len
    pre := fun _ _ h => h
    blk := by
      intro j b m' hj hm' h2 h1
      by_cases hji : i = j
      · subst hji
        rw [List.getElem?_set_self hilt] at hj
        cases hj
        rw [hm] at hm'
        cases hm'
        exact ⟨c', HasC.of hb, hs, hl, hcr.s, hap⟩
      · rw [List.getElem?_set_ne hji] at hj
        obtain ⟨c2, q1, q2, q3, q4, q5⟩ := hH.blk j b m' hj hm' h2 h1
        exact ⟨c2, q1.to (hoth _ (hH.lt j m' hm') (hne j b m' hj hm' h2 (fun e => hji e.symm))), q2, q3, q4, q5⟩
    inj := by
      intro j k b b' m1 m2 hj hk h1 h2 e1 e2 e3
      obtain ⟨b1, hb1, hs1⟩ := hback j b hj h1
      obtain ⟨b2, hb2, hs2⟩ := hback k b' hk h2
      exact hH.inj j k b1 b2 m1 m2 hb1 hb2 hs1 hs2 e1 e2 e3
    lt := fun j m' h => Nat.lt_of_lt_of_le (hH.lt j m' h) hsz
    old := hH.old
    ro := by
      intro j b m' hj hs1 hm'
      have hji : j ≠ i := fun e => by
        subst e
        have hj : st[j]? = some b := hj
        rw [hi] at hj
        cases hj
        cases hs1
      exact ⟨by rw [List.getElem?_set_ne (fun e => hji e.symm)]; exact hj, hoth _ (hH.lt j m' hm') (hne j b m' hj hm' (by omega) hji)⟩
    os := hos
    tape := htp
    output := hout
    size := hsz
    frame := fun k hk hno => hoth k hk (fun e => hno i m hm e.symm)
    tab := hH.tab
    cov := hH.cov }

theorem put_turn (w : World) (g q : Nat) (d : Array (List UInt8)) (os : Array Obj) : let w' := grow (putRow encStr (Sort.ahead w q) g 0 d) os
    w'.os = w.os ∧ w'.tape = w.tape ∧ w'.output = w.output ∧ w.heap.size ≤ w'.heap.size ∧ ∀ k, k < w.heap.size → k ≠ g → w'.heap[k]? = w.heap[k]? := by
  refine ⟨rfl, rfl, rfl, ?_, ?_⟩
  · show w.heap.size ≤ ((w.heap.modify g (onCells (putCells encStr 0 d))) ++ os).size
    simp
  · intro k hk hne
    show ((w.heap.modify g (onCells (putCells encStr 0 d))) ++ os)[k]? = w.heap[k]?
    rw [Array.getElem?_append_left (by simpa using hk), Array.getElem?_modify, if_neg (fun e => hne e.symm)]
theorem put_block (w : World) (g q : Nat) (d : Array (List UInt8)) (os : Array Obj) (cur : Array Value) (e : TypeId) (h : w.heap[g]? = some (.cells cur e (0, 0))) : (grow (putRow encStr (Sort.ahead w q) g 0 d) os).heap[g]? = some (.cells (putCells encStr 0 d cur) e (0, 0)) := by
  have hlt : g < w.heap.size := (Array.getElem?_eq_some_iff.1 h).1
  show ((w.heap.modify g (onCells (putCells encStr 0 d))) ++ os)[g]? = _
  rw [Array.getElem?_append_left (by simpa using hlt), Array.getElem?_modify, if_pos rfl, h]
  rfl
theorem put_cr (M : List ME) (ys zs : List (List UInt8)) (cur : Array Value) (h : ys.length ≤ cur.size) : CR M ((unchs ys).map Value.string) (putCells encStr 0 (ys ++ zs).toArray cur) := by
  intro j x hx
  have hj : j < ys.length := by
    have := (List.getElem?_eq_some_iff.1 hx).1
    simpa [unchs] using this
  have hx2 : x = .string ⟨ys[j].toArray⟩ := by
    have := (List.getElem?_eq_some_iff.1 hx).2
    rw [← this]
    simp [unchs]
  subst hx2
  refine ⟨rfl, _, ?_, .fl _ rfl⟩
  unfold putCells
  rw [Array.getElem?_mapIdx, Array.getElem?_eq_getElem (by omega), Option.map_some, if_pos ⟨by omega, by simp; omega⟩]
  rw [Nat.sub_zero, getElem!_pos _ j (by simp; omega)]
  simp [encStr, List.getElem_append_left hj]
theorem rowO_str {st : St} {xs : List ByteArray} {cs : List Value} {K : List Nat} (h : RowO (Kind.own (α := ByteArray) st) xs cs K) : cs = xs.map Value.string ∧ K = [] := by
  induction h with
  | nil => exact ⟨rfl, rfl⟩
  | cons x xs cx cs Lx L h hs ih =>
    obtain ⟨rfl, rfl⟩ := h
    obtain ⟨rfl, rfl⟩ := ih
    exact ⟨rfl, rfl⟩
theorem str_rowO (st : St) (xs : List ByteArray) : RowO (Kind.own (α := ByteArray) st) xs (xs.map Value.string) [] := by
  induction xs with
  | nil => exact .nil
  | cons x xs ih => exact .cons x xs [.string x] _ [] [] ⟨rfl, rfl⟩ ih
theorem holds_cr {P : Program} {w : World} {M : List ME} {g : Nat} {xs : List ByteArray} {c : Array Value} {e : TypeId} (hb : w.heap[g]? = some (.cells c e (0, 0))) (h : CR M (xs.map Value.string) c) : Holds encStr w g 0 (chs xs).toArray := by
  intro j hj
  have hj' : j < xs.length := by simpa [chs] using hj
  obtain ⟨_, y, hy, hv⟩ := h j (.string xs[j]) (by simp [hj'])
  have := hv.flat_eq rfl
  subst this
  have e1 : (chs xs).toArray[j]! = xs[j].data.toList := by
    rw [getElem!_pos _ j hj]
    simp [chs]
  refine ⟨?_, ?_⟩
  · rw [e1]
    simp [World.cell?, hb, hy, encStr]
  · simp [World.frozen?, hb]
theorem VL.one {M : List ME} {s : Value} {vals : Array Value} (h : VL M [s] vals) : ∃ v, vals = #[v] ∧ VR M s v := by
  have hl := h.len
  obtain ⟨l⟩ := vals
  match l, hl with
  | [v], _ => exact ⟨v, rfl, h.rel 0 s v rfl rfl⟩
/-- A slice of a live block of one's own, in the world. -/
theorem sortS_ok (xs : List ByteArray) (st : St) (s : Value) (L : List Nat) (hbig : xs.length ≤ 1099511627776) (h : Sl st xs s L) :
    CallS Try.prog 20 [s] st fun r st2 => r = .tuple #[] ∧ Sl st2 (sortB xs) s L ∧ Away (topId s) st st2 ∧ st2.length = st.length := by
  refine ⟨⟨_, Try.func20, rfl, rfl⟩, fun M w vals hH hV => ?_⟩
  obtain ⟨v, rfl, hv⟩ := hV.one
  have hnil : ∀ a c, xs = [] → v = .slice a 0 c → Calls Try.prog 20 #[v] w fun e w' => ∃ r v' st' M', e = .returned v' ∧ (r = .tuple #[] ∧ Sl st' (sortB xs) s L ∧ Away (topId s) st st' ∧ st'.length = st.length) ∧ VR M' r v' ∧ HR Try.prog ⟨w, M, st⟩ M' st' w' := by
    rintro a c rfl rfl
    refine (Try.slices_Sort_string_none a c w).mono fun e w' ⟨he, hw⟩ => ?_
    subst hw
    exact ⟨_, _, st, M, he, ⟨rfl, by simpa [sortB, chs, unchs] using h, ⟨Nat.le_refl _, fun _ _ _ => rfl⟩, rfl⟩, .of_flat (by simp [flat]), hH⟩
  rcases h with ⟨rfl, hx, rfl⟩ | ⟨i, c, cs, K, rfl, hi, hrow, rfl⟩
  · have := hv.flat_eq rfl
    exact hnil none 0 hx this
  obtain ⟨rfl, rfl⟩ := rowO_str hrow
  cases hv with
  | fl _ hf => simp [flat1] at hf
  | sl _ _ o' n k c' m hm hn hc =>
    rcases Nat.eq_zero_or_pos xs.length with h0 | hpos
    · exact hnil _ c' (List.eq_nil_of_length_eq_zero h0) (by rw [h0])
    have ho : o' = 0 := by
      rcases hc with ⟨h1, _⟩ | h1
      · exact h1
      · omega
    subst ho
    obtain ⟨c0, hc0, hcs, hcl, hcr, hap⟩ := hH.blk i _ m hi hm (by simp) (by simp)
    have hlive := hc0.live rfl
    have hS := Try.slices_Sort_string m.b 0 c' (chs xs) w (holds_cr (P := Try.prog) hlive (hcr.cr (by simp))) (hH.lt i m hm) (by rw [chs_length]; omega)
    rw [chs_length] at hS
    refine hS.mono fun e w' ⟨he, q, os, hw⟩ => ?_
    obtain ⟨g1, g2, g3, g4, g5⟩ := put_turn w m.b q ((chs xs).mergeSort fun x y => decide (x ≤ y)).toArray os
    have g6 := put_block w m.b q ((chs xs).mergeSort fun x y => decide (x ≤ y)).toArray os c0 _ hlive
    rw [← hw] at g1 g2 g3 g4 g5 g6
    have hlen : ((chs xs).mergeSort fun x y => decide (x ≤ y)).length = xs.length := by rw [List.length_mergeSort, chs_length]
    have hcl' : xs.length ≤ m.n := by simpa using hcl
    have hcr' := put_cr M ((chs xs).mergeSort fun x y => decide (x ≤ y)) [] c0 (by rw [hlen, hcs]; exact hcl')
    rw [List.append_nil] at hcr'
    have hT := HR.turn (cs' := (sortB xs).map Value.string) hH hi hm g1 g2 g3 g4 g5 g6 (by unfold putCells; simpa using hcs) (by rw [List.length_map, sortB_length]; exact hcl') hcr'
    have hilt := (List.getElem?_eq_some_iff.1 hi).1
    refine ⟨_, _, _, M, he, ⟨rfl, .inr ⟨i, c, (sortB xs).map Value.string, [], by rw [sortB_length], List.getElem?_set_self hilt, str_rowO _ _, rfl⟩, ⟨by simp, fun k _ hk => List.getElem?_set_ne (fun e => hk (by rw [e]; rfl))⟩, by simp⟩, .of_flat (by simp [flat]), hT⟩
theorem compS_ok (xs : List ByteArray) (st : St) (s : Value) (L : List Nat) (hbig : xs.length ≤ 1099511627776) (h : Sl st xs s L) :
    CallS Try.prog 21 [s] st fun r st2 => Sl st2 (compS xs) r L ∧ Away (topId s) st st2 ∧ st2.length = st.length := by
  refine ⟨⟨_, Try.func21, rfl, rfl⟩, fun M w vals hH hV => ?_⟩
  obtain ⟨v, rfl, hv⟩ := hV.one
  have hnil : ∀ a c, xs = [] → v = .slice a 0 c → Calls Try.prog 21 #[v] w fun e w' => ∃ r v' st' M', e = .returned v' ∧ (Sl st' (compS xs) r L ∧ Away (topId s) st st' ∧ st'.length = st.length) ∧ VR M' r v' ∧ HR Try.prog ⟨w, M, st⟩ M' st' w' := by
    rintro a c rfl rfl
    refine (Try.slices_Compact_string_empty a c w).mono fun e w' ⟨he, hw⟩ => ?_
    subst hw
    exact ⟨s, _, st, M, he, ⟨by simpa [compS, chs, unchs, Lib.compact, Lib.compactUpTo] using h, ⟨Nat.le_refl _, fun _ _ _ => rfl⟩, rfl⟩, hv, hH⟩
  rcases h with ⟨rfl, hx, rfl⟩ | ⟨i, c, cs, K, rfl, hi, hrow, rfl⟩
  · have := hv.flat_eq rfl
    exact hnil none 0 hx this
  obtain ⟨rfl, rfl⟩ := rowO_str hrow
  have hv0 := hv
  cases hv with
  | fl _ hf => simp [flat1] at hf
  | sl _ _ o' n k c' m hm hn hc =>
    rcases Nat.eq_zero_or_pos xs.length with h0 | hpos
    · exact hnil _ c' (List.eq_nil_of_length_eq_zero h0) (by rw [h0])
    have ho : o' = 0 := by
      rcases hc with ⟨h1, _⟩ | h1
      · exact h1
      · omega
    subst ho
    obtain ⟨c0, hc0, hcs, hcl, hcr, hap⟩ := hH.blk i _ m hi hm (by simp) (by simp)
    have hlive := hc0.live rfl
    have hS := Try.slices_Compact_string m.b 0 c' (chs xs) w (holds_cr (P := Try.prog) hlive (hcr.cr (by simp))) (by rw [chs_length]; omega) (by rw [chs_length]; exact hn)
    rw [chs_length] at hS
    have hle : (Lib.compact (chs xs)).length ≤ xs.length := by
      have := compact_le (chs xs)
      rwa [chs_length] at this
    refine hS.mono fun e w' ⟨he, q, hw⟩ => ?_
    obtain ⟨g1, g2, g3, g4, g5⟩ := put_turn w m.b q (Lib.compact (chs xs) ++ List.replicate (xs.length - (Lib.compact (chs xs)).length) []).toArray #[]
    have g6 := put_block w m.b q (Lib.compact (chs xs) ++ List.replicate (xs.length - (Lib.compact (chs xs)).length) []).toArray #[] c0 _ hlive
    rw [Sort.grow_empty, ← hw] at g1 g2 g3 g4 g5 g6
    have hcl' : xs.length ≤ m.n := by simpa using hcl
    have hcr' := put_cr M (Lib.compact (chs xs)) (List.replicate (xs.length - (Lib.compact (chs xs)).length) []) c0 (by rw [hcs]; omega)
    have hlc : (compS xs).length = (Lib.compact (chs xs)).length := by unfold compS; rw [unchs_length]
    have hT := HR.turn (cs' := (compS xs).map Value.string) hH hi hm g1 g2 g3 g4 g5 g6 (by unfold putCells; simpa using hcs) (by rw [List.length_map, hlc]; omega) hcr'
    have hilt := (List.getElem?_eq_some_iff.1 hi).1
    refine ⟨.slice (some ⟨i, 0, none⟩) (compS xs).length c, _, _, M, he, ⟨.inr ⟨i, c, (compS xs).map Value.string, [], rfl, List.getElem?_set_self hilt, str_rowO _ _, rfl⟩, ⟨by simp, fun k _ hk => List.getElem?_set_ne (fun e => hk (by rw [e]; rfl))⟩, by simp⟩, ?_, hT⟩
    rw [hlc]
    exact .sl i 0 0 _ _ _ m hm (by omega) hc

theorem implSort_ok (xs : List ByteArray) (st : St) (s : Value) (hbig : xs.length ≤ 1073741824) (hr : Rw st xs s) :
    CallS Try.prog 6 [s] st fun r st2 => Ext st st2 ∧ ∃ L, Sl st2 (namesB xs) r L ∧ Fresh st.length L := by
  refine CallS_of_W [] 10 Try.func6 rfl rfl rfl rfl (by simp) ?_
  have q1 := hr.notLoc.1
  repeat (first | (refine W_reg rfl fun G K hG hK => ?_; simp (disch := omega) only [go_sem, ↓reduceIte, Nat.reduceEqDiff, Nat.reduceAdd, Nat.reduceLeDiff, hG, q1]; refine hK _ _ ?_; clear hK K hG G) | (refine W_end rfl fun G K hG hK => ?_; simp (disch := omega) only [go_sem, ↓reduceIte, Nat.reduceEqDiff, Nat.reduceAdd, Nat.reduceLeDiff, hG, q1]; refine hK _ _ ?_; clear hK K hG G; repeat (first | refine thenI ?_ | refine thenE ?_ | refine thenR ?_ | refine inBI ?_ | refine inBR ?_ | refine inBS ?_ | refine inBN (by decide) ?_)) | refine W_seqS ?_ | refine W_seqC ?_ | refine W_seqB ?_ | refine W_block ?_ | (refine W_skip ?_; repeat (first | refine thenI ?_ | refine thenE ?_ | refine thenR ?_ | refine inBI ?_ | refine inBR ?_ | refine inBS ?_ | refine inBN (by decide) ?_)) | (refine W_condT ?hc ?_; (case hc => (simp (disch := omega) only [go_sem, ↓reduceIte, Nat.reduceEqDiff, Nat.reduceAdd, Nat.reduceLeDiff, q1]; done))) | (refine W_condF ?hc ?_; (case hc => (simp (disch := omega) only [go_sem, ↓reduceIte, Nat.reduceEqDiff, Nat.reduceAdd, Nat.reduceLeDiff, q1]; done))))
  (repeat (first | refine W_seqS ?_ | refine W_seqC ?_ | refine W_seqB ?_ | refine W_block ?_)); refine W_reg rfl fun G K hG hK => ?_; simp (disch := omega) only [go_sem, ↓reduceIte, Nat.reduceEqDiff, Nat.reduceAdd, Nat.reduceLeDiff, hG, q1]
  refine w_call (cloneS_ok xs st s (by omega) hr) (by simp (disch := omega) only [go_sem, ↓reduceIte, Nat.reduceEqDiff, q1]) ?hl ?_
  case hl => first | rfl | (simp only [go_sem, List.all_cons, List.all_nil, Bool.not_false, Bool.and_self, q1]; done)
  rintro r1 sa ⟨x1, L, hs1, hf1⟩; refine ⟨fun e => (by cases e), ?_⟩
  have o1 := hs1.loc
  have t1 := hs1.top hf1
  have hl1 := x1.length
  simp (disch := omega) only [go_sem, ↓reduceIte, Nat.reduceEqDiff, Nat.reduceAdd, Nat.reduceLeDiff, hG, q1, o1]; refine hK _ _ ?_; clear hK K hG G; repeat (first | refine thenI ?_ | refine thenE ?_ | refine thenR ?_ | refine inBI ?_ | refine inBR ?_ | refine inBS ?_ | refine inBN (by decide) ?_)
  repeat (first | (refine W_reg rfl fun G K hG hK => ?_; simp (disch := omega) only [go_sem, ↓reduceIte, Nat.reduceEqDiff, Nat.reduceAdd, Nat.reduceLeDiff, hG, q1, o1]; refine hK _ _ ?_; clear hK K hG G) | (refine W_end rfl fun G K hG hK => ?_; simp (disch := omega) only [go_sem, ↓reduceIte, Nat.reduceEqDiff, Nat.reduceAdd, Nat.reduceLeDiff, hG, q1, o1]; refine hK _ _ ?_; clear hK K hG G; repeat (first | refine thenI ?_ | refine thenE ?_ | refine thenR ?_ | refine inBI ?_ | refine inBR ?_ | refine inBS ?_ | refine inBN (by decide) ?_)) | refine W_seqS ?_ | refine W_seqC ?_ | refine W_seqB ?_ | refine W_block ?_ | (refine W_skip ?_; repeat (first | refine thenI ?_ | refine thenE ?_ | refine thenR ?_ | refine inBI ?_ | refine inBR ?_ | refine inBS ?_ | refine inBN (by decide) ?_)) | (refine W_condT ?hc ?_; (case hc => (simp (disch := omega) only [go_sem, ↓reduceIte, Nat.reduceEqDiff, Nat.reduceAdd, Nat.reduceLeDiff, q1, o1]; done))) | (refine W_condF ?hc ?_; (case hc => (simp (disch := omega) only [go_sem, ↓reduceIte, Nat.reduceEqDiff, Nat.reduceAdd, Nat.reduceLeDiff, q1, o1]; done))))
  (repeat (first | refine W_seqS ?_ | refine W_seqC ?_ | refine W_seqB ?_ | refine W_block ?_)); refine W_reg rfl fun G K hG hK => ?_; simp (disch := omega) only [go_sem, ↓reduceIte, Nat.reduceEqDiff, Nat.reduceAdd, Nat.reduceLeDiff, hG, q1, o1]
  refine w_call (sortS_ok xs sa r1 L (by omega) hs1) (by simp (disch := omega) only [go_sem, ↓reduceIte, Nat.reduceEqDiff, q1, o1]) ?hl ?_
  case hl => first | rfl | (simp only [go_sem, List.all_cons, List.all_nil, Bool.not_false, Bool.and_self, q1, o1]; done)
  rintro r_ sb ⟨rfl, hs2, ha2, hl2⟩; refine ⟨fun e => (by cases e), ?_⟩
  simp (disch := omega) only [go_sem, ↓reduceIte, Nat.reduceEqDiff, Nat.reduceAdd, Nat.reduceLeDiff, hG, q1, o1]; refine hK _ _ ?_; clear hK K hG G; repeat (first | refine thenI ?_ | refine thenE ?_ | refine thenR ?_ | refine inBI ?_ | refine inBR ?_ | refine inBS ?_ | refine inBN (by decide) ?_)
  repeat (first | (refine W_reg rfl fun G K hG hK => ?_; simp (disch := omega) only [go_sem, ↓reduceIte, Nat.reduceEqDiff, Nat.reduceAdd, Nat.reduceLeDiff, hG, q1, o1]; refine hK _ _ ?_; clear hK K hG G) | (refine W_end rfl fun G K hG hK => ?_; simp (disch := omega) only [go_sem, ↓reduceIte, Nat.reduceEqDiff, Nat.reduceAdd, Nat.reduceLeDiff, hG, q1, o1]; refine hK _ _ ?_; clear hK K hG G; repeat (first | refine thenI ?_ | refine thenE ?_ | refine thenR ?_ | refine inBI ?_ | refine inBR ?_ | refine inBS ?_ | refine inBN (by decide) ?_)) | refine W_seqS ?_ | refine W_seqC ?_ | refine W_seqB ?_ | refine W_block ?_ | (refine W_skip ?_; repeat (first | refine thenI ?_ | refine thenE ?_ | refine thenR ?_ | refine inBI ?_ | refine inBR ?_ | refine inBS ?_ | refine inBN (by decide) ?_)) | (refine W_condT ?hc ?_; (case hc => (simp (disch := omega) only [go_sem, ↓reduceIte, Nat.reduceEqDiff, Nat.reduceAdd, Nat.reduceLeDiff, q1, o1]; done))) | (refine W_condF ?hc ?_; (case hc => (simp (disch := omega) only [go_sem, ↓reduceIte, Nat.reduceEqDiff, Nat.reduceAdd, Nat.reduceLeDiff, q1, o1]; done))))
  (repeat (first | refine W_seqS ?_ | refine W_seqC ?_ | refine W_seqB ?_ | refine W_block ?_)); refine W_reg rfl fun G K hG hK => ?_; simp (disch := omega) only [go_sem, ↓reduceIte, Nat.reduceEqDiff, Nat.reduceAdd, Nat.reduceLeDiff, hG, q1, o1]
  have hx2 := ha2.ext_of x1 t1
  refine w_call (compS_ok (sortB xs) sb r1 L (by rw [sortB_length]; omega) hs2) (by simp (disch := omega) only [go_sem, ↓reduceIte, Nat.reduceEqDiff, q1, o1]) ?hl ?_
  case hl => first | rfl | (simp only [go_sem, List.all_cons, List.all_nil, Bool.not_false, Bool.and_self, q1, o1]; done)
  rintro r_ sc ⟨hs3, ha3, hl3⟩; refine ⟨fun e => (by cases e), ?_⟩
  have o3 := hs3.loc
  have hx3 := ha3.ext_of hx2 t1
  simp (disch := omega) only [go_sem, ↓reduceIte, Nat.reduceEqDiff, Nat.reduceAdd, Nat.reduceLeDiff, hG, q1, o3]; refine hK _ _ ?_; clear hK K hG G; repeat (first | refine thenI ?_ | refine thenE ?_ | refine thenR ?_ | refine inBI ?_ | refine inBR ?_ | refine inBS ?_ | refine inBN (by decide) ?_)
  refine W_ret ?_; try (repeat (first | refine thenI ?_ | refine thenE ?_ | refine thenR ?_ | refine inBI ?_ | refine inBR ?_ | refine inBS ?_ | refine inBN (by decide) ?_))
  refine fin1 (.inl rfl) (by (simp (disch := omega) only [go_sem, ↓reduceIte, Nat.reduceEqDiff, Nat.reduceAdd, Nat.reduceLeDiff, q1]); try rfl) o3 ⟨hx3, L, by rw [← sort_same]; exact hs3, hf1⟩
end Go.Proofs.Ytojpgicdhflhpaa.AM


/- FnNames' helpers: laws.sameTexts, laws.rising, impl.AllDistinct. -/
namespace Go.Proofs.Ytojpgicdhflhpaa.AM
open Go Go.Proofs
set_option linter.unusedVariables false
set_option linter.unusedSimpArgs false
set_option maxRecDepth 100000
attribute [local go_sem] List.map_cons List.map_nil List.all_cons List.all_nil Bool.and_self Option.map_some List.getElem?_toArray Option.bind_some gye_b gye_t gsk_b gsk_t gb1 gb2 gb3 gb4 bne_self_eq_false beq_self_eq_true w_guard w_nil stepV_some step_some step_some' w_move w_assign w_pick w_binOp w_unOp w_load w_fieldAddr w_indexAddr w_len w_max w_index ev_max max_int ev_index w_box w_alloc w_store w_field w_extract w_nilCheck w_convert w_buildSlice w_build ev_buildL fillL_nil fillL_cons bs0 bs1 ev_conv ev_bin ev_un ev_pick ev_load ev_fieldAddr ev_indexAddr ev_len ev_field ev_extract ev_nilCheck fr_tmp fr_int fr_bool fr_str fr_nil fr_func put_some put_none bin_lss bin_leq bin_gtr bin_geq bin_eql bin_neq bin_add bin_sub bin_mul bin_seql bin_sneq un_not pick_ ext_ loadA_p cellAt_l cellAt_h okPtr_l okPtr_h fadA_p allocA_l storeA_l cells_agg cells_int cells_str cells_sl cells_bool flat_i flat_s flat_b flat_sl flat_nil loc_agg loc_int loc_str loc_sl loc_bool loc_fn loc_ptr okv_agg okv_int okv_str okv_sl okv_bool cellsFrom splice upd_eval argEnv_zero argEnv_succ ne_eq Nat.add_one_ne_zero not_false_eq_true List.not_mem_nil and_self decide_true List.getElem?_cons_zero List.getElem?_cons_succ List.size_toArray List.length_cons List.length_nil List.take_succ_cons List.take_zero List.drop_succ_cons List.drop_zero List.cons_append List.nil_append List.drop_nil Bool.not_true Bool.not_false Bool.false_eq_true Nat.zero_add Nat.add_zero wrap_in List.toList_toArray List.mem_cons or_self or_false false_or
attribute [local go_sem] ag22 ag3 ag5 ag62 ag9 bu42 by9 el22 el24 of42_0 of42_1 of42_2 ro9_0 ro9_1 ro9_14 sz22 sz3 sz5 sz62 sz9 ze3 ze62 ze9
-- AUTO

theorem sameTexts_ok (xs : List ByteArray) (st : St) (s s' : Value) (hbig : xs.length ≤ 4611686018427387904) (hr : Rw st xs s) (hr' : Rw st xs s') :
    CallS Try.prog 7 [s, s'] st fun r st' => r = .bool true ∧ st' = st := by
  refine CallS_of_W [] 26 Try.func7 rfl rfl rfl rfl (by simp) ?_
  have hlen : lenE Try.prog 24 s = some (.int .i64 xs.length) := row_len hr Try.underlying24
  have hlen' : lenE Try.prog 24 s' = some (.int .i64 xs.length) := row_len hr' Try.underlying24
  repeat (first | (refine W_reg rfl fun G K hG hK => ?_; simp (disch := omega) only [go_sem, ↓reduceIte, Nat.reduceEqDiff, Nat.reduceAdd, Nat.reduceLeDiff, hG, hlen, hlen']; refine hK _ _ ?_; clear hK K hG G) | (refine W_end rfl fun G K hG hK => ?_; simp (disch := omega) only [go_sem, ↓reduceIte, Nat.reduceEqDiff, Nat.reduceAdd, Nat.reduceLeDiff, hG, hlen, hlen']; refine hK _ _ ?_; clear hK K hG G; repeat (first | refine thenI ?_ | refine thenE ?_ | refine thenR ?_ | refine inBI ?_ | refine inBR ?_ | refine inBS ?_ | refine inBN (by decide) ?_)) | refine W_seqS ?_ | refine W_seqC ?_ | refine W_seqB ?_ | refine W_block ?_ | (refine W_skip ?_; repeat (first | refine thenI ?_ | refine thenE ?_ | refine thenR ?_ | refine inBI ?_ | refine inBR ?_ | refine inBS ?_ | refine inBN (by decide) ?_)) | (refine W_condT ?hc ?_; (case hc => (simp (disch := omega) only [go_sem, ↓reduceIte, Nat.reduceEqDiff, Nat.reduceAdd, Nat.reduceLeDiff, hlen, hlen']; done))) | (refine W_condF ?hc ?_; (case hc => (simp (disch := omega) only [go_sem, ↓reduceIte, Nat.reduceEqDiff, Nat.reduceAdd, Nat.reduceLeDiff, hlen, hlen']; done))))
  refine W_loop (fun d fr st' => ∃ (j : Nat) , d = xs.length - j ∧ j ≤ xs.length ∧ (st' = st) ∧ (fr.env 5 = .int .i64 j) ∧ (fr.env 0 = s) ∧ (fr.env 1 = s')) (xs.length) ?_ ?_
  · exact ⟨0, by omega, by omega, rfl, (by (simp (disch := omega) only [go_sem, ↓reduceIte, Nat.reduceEqDiff, Nat.reduceAdd, Nat.reduceLeDiff, hlen, hlen']); try rfl), (by (simp (disch := omega) only [go_sem, ↓reduceIte, Nat.reduceEqDiff, Nat.reduceAdd, Nat.reduceLeDiff, hlen, hlen']); try rfl), (by (simp (disch := omega) only [go_sem, ↓reduceIte, Nat.reduceEqDiff, Nat.reduceAdd, Nat.reduceLeDiff, hlen, hlen']); try rfl)⟩
  rintro d ⟨env, loc⟩ st' ⟨j, hd, hj, hst, e5, e0, e1⟩
  simp only at e5 e0 e1
  subst hst
  by_cases hlt : j < xs.length
  · have c1 : decide ((j : Int) < (xs.length : Int)) = true := by simpa using hlt
    have hi := idxOk hlt
    have hx : xs[j]? = some xs[j] := List.getElem?_eq_getElem hlt
    have htk : xs.take (j + 1) = xs.take j ++ [xs[j]] := List.take_succ_eq_append_getElem hlt
    obtain ⟨i, o, c, rfl, hcs⟩ := row_atS hr hx
    obtain ⟨i', o', c', rfl, hcs'⟩ := row_atS hr' hx
    repeat (first | (refine W_reg rfl fun G K hG hK => ?_; simp (disch := omega) only [go_sem, ↓reduceIte, Nat.reduceEqDiff, Nat.reduceAdd, Nat.reduceLeDiff, hG, hlen, hlen', e5, e0, e1, c1, hi, idxA, Int.toNat_natCast]; refine hK _ _ ?_; clear hK K hG G) | (refine W_end rfl fun G K hG hK => ?_; simp (disch := omega) only [go_sem, ↓reduceIte, Nat.reduceEqDiff, Nat.reduceAdd, Nat.reduceLeDiff, hG, hlen, hlen', e5, e0, e1, c1, hi, idxA, Int.toNat_natCast]; refine hK _ _ ?_; clear hK K hG G; repeat (first | refine thenI ?_ | refine thenE ?_ | refine thenR ?_ | refine inBI ?_ | refine inBR ?_ | refine inBS ?_ | refine inBN (by decide) ?_)) | refine W_seqS ?_ | refine W_seqC ?_ | refine W_seqB ?_ | refine W_block ?_ | (refine W_skip ?_; repeat (first | refine thenI ?_ | refine thenE ?_ | refine thenR ?_ | refine inBI ?_ | refine inBR ?_ | refine inBS ?_ | refine inBN (by decide) ?_)) | (refine W_condT ?hc ?_; (case hc => (simp (disch := omega) only [go_sem, ↓reduceIte, Nat.reduceEqDiff, Nat.reduceAdd, Nat.reduceLeDiff, hlen, hlen', e5, e0, e1, c1, hi, idxA, Int.toNat_natCast]; done))) | (refine W_condF ?hc ?_; (case hc => (simp (disch := omega) only [go_sem, ↓reduceIte, Nat.reduceEqDiff, Nat.reduceAdd, Nat.reduceLeDiff, hlen, hlen', e5, e0, e1, c1, hi, idxA, Int.toNat_natCast]; done))))
    (repeat (first | refine W_seqS ?_ | refine W_seqC ?_ | refine W_seqB ?_ | refine W_block ?_)); refine W_regD mixed [] [(0,false),(1,false),(2,false),(3,false),(4,false),(5,false),(6,false),(7,false),(8,false)] rfl (by decide +kernel) fun G K hG hK => ?_; simp only [pickOps, List.filterMap_cons, List.filterMap_nil, List.getElem?_cons_zero, List.getElem?_cons_succ, Option.map_some]; simp (disch := omega) only [go_sem, ↓reduceIte, Nat.reduceEqDiff, Nat.reduceAdd, Nat.reduceLeDiff, hG, hlen, hlen', e5, e0, e1, c1, hi, idxA, Int.toNat_natCast, hcs, hcs']
    refine hK _ _ ?_; clear hK K hG G; repeat (first | refine thenI ?_ | refine thenE ?_ | refine thenR ?_ | refine inBI ?_ | refine inBR ?_ | refine inBS ?_ | refine inBN (by decide) ?_)
    repeat (first | (refine W_reg rfl fun G K hG hK => ?_; simp (disch := omega) only [go_sem, ↓reduceIte, Nat.reduceEqDiff, Nat.reduceAdd, Nat.reduceLeDiff, hG, hlen, hlen', e5, e0, e1, c1, hi, idxA, Int.toNat_natCast]; refine hK _ _ ?_; clear hK K hG G) | (refine W_end rfl fun G K hG hK => ?_; simp (disch := omega) only [go_sem, ↓reduceIte, Nat.reduceEqDiff, Nat.reduceAdd, Nat.reduceLeDiff, hG, hlen, hlen', e5, e0, e1, c1, hi, idxA, Int.toNat_natCast]; refine hK _ _ ?_; clear hK K hG G; repeat (first | refine thenI ?_ | refine thenE ?_ | refine thenR ?_ | refine inBI ?_ | refine inBR ?_ | refine inBS ?_ | refine inBN (by decide) ?_)) | refine W_seqS ?_ | refine W_seqC ?_ | refine W_seqB ?_ | refine W_block ?_ | (refine W_skip ?_; repeat (first | refine thenI ?_ | refine thenE ?_ | refine thenR ?_ | refine inBI ?_ | refine inBR ?_ | refine inBS ?_ | refine inBN (by decide) ?_)) | (refine W_condT ?hc ?_; (case hc => (simp (disch := omega) only [go_sem, ↓reduceIte, Nat.reduceEqDiff, Nat.reduceAdd, Nat.reduceLeDiff, hlen, hlen', e5, e0, e1, c1, hi, idxA, Int.toNat_natCast]; done))) | (refine W_condF ?hc ?_; (case hc => (simp (disch := omega) only [go_sem, ↓reduceIte, Nat.reduceEqDiff, Nat.reduceAdd, Nat.reduceLeDiff, hlen, hlen', e5, e0, e1, c1, hi, idxA, Int.toNat_natCast]; done))))
    refine ⟨xs.length - (j + 1), by omega, j + 1, rfl, by omega, rfl, (by (simp (disch := omega) only [go_sem, ↓reduceIte, Nat.reduceEqDiff, Nat.reduceAdd, Nat.reduceLeDiff, hlen, hlen', e5, e0, e1, c1, hi, idxA, Int.toNat_natCast]); try rfl), (by (simp (disch := omega) only [go_sem, ↓reduceIte, Nat.reduceEqDiff, Nat.reduceAdd, Nat.reduceLeDiff, hlen, hlen', e5, e0, e1, c1, hi, idxA, Int.toNat_natCast]); try rfl), (by (simp (disch := omega) only [go_sem, ↓reduceIte, Nat.reduceEqDiff, Nat.reduceAdd, Nat.reduceLeDiff, hlen, hlen', e5, e0, e1, c1, hi, idxA, Int.toNat_natCast]); try rfl)⟩
  · have c1 : decide ((j : Int) < (xs.length : Int)) = false := by simpa using hlt
    have hjn : j = xs.length := by omega
    subst hjn
    repeat (first | (refine W_reg rfl fun G K hG hK => ?_; simp (disch := omega) only [go_sem, ↓reduceIte, Nat.reduceEqDiff, Nat.reduceAdd, Nat.reduceLeDiff, hG, hlen, hlen', e5, e0, e1, c1]; refine hK _ _ ?_; clear hK K hG G) | (refine W_end rfl fun G K hG hK => ?_; simp (disch := omega) only [go_sem, ↓reduceIte, Nat.reduceEqDiff, Nat.reduceAdd, Nat.reduceLeDiff, hG, hlen, hlen', e5, e0, e1, c1]; refine hK _ _ ?_; clear hK K hG G; repeat (first | refine thenI ?_ | refine thenE ?_ | refine thenR ?_ | refine inBI ?_ | refine inBR ?_ | refine inBS ?_ | refine inBN (by decide) ?_)) | refine W_seqS ?_ | refine W_seqC ?_ | refine W_seqB ?_ | refine W_block ?_ | (refine W_skip ?_; repeat (first | refine thenI ?_ | refine thenE ?_ | refine thenR ?_ | refine inBI ?_ | refine inBR ?_ | refine inBS ?_ | refine inBN (by decide) ?_)) | (refine W_condT ?hc ?_; (case hc => (simp (disch := omega) only [go_sem, ↓reduceIte, Nat.reduceEqDiff, Nat.reduceAdd, Nat.reduceLeDiff, hlen, hlen', e5, e0, e1, c1]; done))) | (refine W_condF ?hc ?_; (case hc => (simp (disch := omega) only [go_sem, ↓reduceIte, Nat.reduceEqDiff, Nat.reduceAdd, Nat.reduceLeDiff, hlen, hlen', e5, e0, e1, c1]; done))))
    refine W_exit ?_; repeat (first | refine thenI ?_ | refine thenE ?_ | refine thenR ?_ | refine inBI ?_ | refine inBR ?_ | refine inBS ?_ | refine inBN (by decide) ?_)
    repeat (first | (refine W_reg rfl fun G K hG hK => ?_; simp (disch := omega) only [go_sem, ↓reduceIte, Nat.reduceEqDiff, Nat.reduceAdd, Nat.reduceLeDiff, hG, hlen, hlen', e5, e0, e1, c1]; refine hK _ _ ?_; clear hK K hG G) | (refine W_end rfl fun G K hG hK => ?_; simp (disch := omega) only [go_sem, ↓reduceIte, Nat.reduceEqDiff, Nat.reduceAdd, Nat.reduceLeDiff, hG, hlen, hlen', e5, e0, e1, c1]; refine hK _ _ ?_; clear hK K hG G; repeat (first | refine thenI ?_ | refine thenE ?_ | refine thenR ?_ | refine inBI ?_ | refine inBR ?_ | refine inBS ?_ | refine inBN (by decide) ?_)) | refine W_seqS ?_ | refine W_seqC ?_ | refine W_seqB ?_ | refine W_block ?_ | (refine W_skip ?_; repeat (first | refine thenI ?_ | refine thenE ?_ | refine thenR ?_ | refine inBI ?_ | refine inBR ?_ | refine inBS ?_ | refine inBN (by decide) ?_)) | (refine W_condT ?hc ?_; (case hc => (simp (disch := omega) only [go_sem, ↓reduceIte, Nat.reduceEqDiff, Nat.reduceAdd, Nat.reduceLeDiff, hlen, hlen', e5, e0, e1, c1]; done))) | (refine W_condF ?hc ?_; (case hc => (simp (disch := omega) only [go_sem, ↓reduceIte, Nat.reduceEqDiff, Nat.reduceAdd, Nat.reduceLeDiff, hlen, hlen', e5, e0, e1, c1]; done))))
    refine W_ret ?_; try (repeat (first | refine thenI ?_ | refine thenE ?_ | refine thenR ?_ | refine inBI ?_ | refine inBR ?_ | refine inBS ?_ | refine inBN (by decide) ?_))
    refine fin1 (.inl rfl) (by (simp (disch := omega) only [go_sem, ↓reduceIte, Nat.reduceEqDiff, Nat.reduceAdd, Nat.reduceLeDiff, hlen, hlen', e5, e0, e1, c1]); try rfl) rfl ⟨rfl, rfl⟩


theorem distinct_ok (xs : List ByteArray) (st : St) (s : Value) (hbig : xs.length ≤ 1073741824) (hr : Rw st xs s) :
    CallS Try.prog 10 [s] st fun r st2 => Ext st st2 ∧ r = .bool (((namesB xs).length : Int) == (xs.length : Int)) := by
  refine CallS_of_W [] 9 Try.func10 rfl rfl rfl rfl (by simp) ?_
  have q1 := hr.notLoc.1
  have hlen : lenE Try.prog 24 s = some (.int .i64 xs.length) := row_len hr Try.underlying24
  repeat (first | (refine W_reg rfl fun G K hG hK => ?_; simp (disch := omega) only [go_sem, ↓reduceIte, Nat.reduceEqDiff, Nat.reduceAdd, Nat.reduceLeDiff, hG, q1, hlen]; refine hK _ _ ?_; clear hK K hG G) | (refine W_end rfl fun G K hG hK => ?_; simp (disch := omega) only [go_sem, ↓reduceIte, Nat.reduceEqDiff, Nat.reduceAdd, Nat.reduceLeDiff, hG, q1, hlen]; refine hK _ _ ?_; clear hK K hG G; repeat (first | refine thenI ?_ | refine thenE ?_ | refine thenR ?_ | refine inBI ?_ | refine inBR ?_ | refine inBS ?_ | refine inBN (by decide) ?_)) | refine W_seqS ?_ | refine W_seqC ?_ | refine W_seqB ?_ | refine W_block ?_ | (refine W_skip ?_; repeat (first | refine thenI ?_ | refine thenE ?_ | refine thenR ?_ | refine inBI ?_ | refine inBR ?_ | refine inBS ?_ | refine inBN (by decide) ?_)) | (refine W_condT ?hc ?_; (case hc => (simp (disch := omega) only [go_sem, ↓reduceIte, Nat.reduceEqDiff, Nat.reduceAdd, Nat.reduceLeDiff, q1, hlen]; done))) | (refine W_condF ?hc ?_; (case hc => (simp (disch := omega) only [go_sem, ↓reduceIte, Nat.reduceEqDiff, Nat.reduceAdd, Nat.reduceLeDiff, q1, hlen]; done))))
  (repeat (first | refine W_seqS ?_ | refine W_seqC ?_ | refine W_seqB ?_ | refine W_block ?_)); refine W_reg rfl fun G K hG hK => ?_; simp (disch := omega) only [go_sem, ↓reduceIte, Nat.reduceEqDiff, Nat.reduceAdd, Nat.reduceLeDiff, hG, q1, hlen]
  refine w_call (implSort_ok xs st s hbig hr) (by simp (disch := omega) only [go_sem, ↓reduceIte, Nat.reduceEqDiff, q1, hlen]) ?hl ?_
  case hl => first | rfl | (simp only [go_sem, List.all_cons, List.all_nil, Bool.not_false, Bool.and_self, q1, hlen]; done)
  rintro r_ sa ⟨x1, L, hs, hf⟩; refine ⟨fun e => (by cases e), ?_⟩
  have ol := hs.loc
  have hl2 : lenE Try.prog 24 r_ = some (.int .i64 (namesB xs).length) := row_len hs.row Try.underlying24
  simp (disch := omega) only [go_sem, ↓reduceIte, Nat.reduceEqDiff, Nat.reduceAdd, Nat.reduceLeDiff, hG, q1, hlen, ol, hl2]; refine hK _ _ ?_; clear hK K hG G; repeat (first | refine thenI ?_ | refine thenE ?_ | refine thenR ?_ | refine inBI ?_ | refine inBR ?_ | refine inBS ?_ | refine inBN (by decide) ?_)
  refine W_ret ?_; try (repeat (first | refine thenI ?_ | refine thenE ?_ | refine thenR ?_ | refine inBI ?_ | refine inBR ?_ | refine inBS ?_ | refine inBN (by decide) ?_))
  refine fin1 (.inl rfl) (by (simp (disch := omega) only [go_sem, ↓reduceIte, Nat.reduceEqDiff, Nat.reduceAdd, Nat.reduceLeDiff, q1, hlen]); try rfl) rfl ⟨x1, rfl⟩
theorem rising_ok (xs : List ByteArray) (st : St) (s : Value) (hbig : xs.length ≤ 1073741824) (hr : Rw st xs s) (hup : (chs xs).Pairwise (· < ·)) :
    CallS Try.prog 9 [s] st fun r st2 => r = .bool true ∧ st2 = st := by
  refine CallS_of_W [] 20 Try.func9 rfl rfl rfl rfl (by simp) ?_
  have q1 := hr.notLoc.1
  have hlen : lenE Try.prog 24 s = some (.int .i64 xs.length) := row_len hr Try.underlying24
  repeat (first | (refine W_reg rfl fun G K hG hK => ?_; simp (disch := omega) only [go_sem, ↓reduceIte, Nat.reduceEqDiff, Nat.reduceAdd, Nat.reduceLeDiff, hG, q1, hlen]; refine hK _ _ ?_; clear hK K hG G) | (refine W_end rfl fun G K hG hK => ?_; simp (disch := omega) only [go_sem, ↓reduceIte, Nat.reduceEqDiff, Nat.reduceAdd, Nat.reduceLeDiff, hG, q1, hlen]; refine hK _ _ ?_; clear hK K hG G; repeat (first | refine thenI ?_ | refine thenE ?_ | refine thenR ?_ | refine inBI ?_ | refine inBR ?_ | refine inBS ?_ | refine inBN (by decide) ?_)) | refine W_seqS ?_ | refine W_seqC ?_ | refine W_seqB ?_ | refine W_block ?_ | (refine W_skip ?_; repeat (first | refine thenI ?_ | refine thenE ?_ | refine thenR ?_ | refine inBI ?_ | refine inBR ?_ | refine inBS ?_ | refine inBN (by decide) ?_)) | (refine W_condT ?hc ?_; (case hc => (simp (disch := omega) only [go_sem, ↓reduceIte, Nat.reduceEqDiff, Nat.reduceAdd, Nat.reduceLeDiff, q1, hlen]; done))) | (refine W_condF ?hc ?_; (case hc => (simp (disch := omega) only [go_sem, ↓reduceIte, Nat.reduceEqDiff, Nat.reduceAdd, Nat.reduceLeDiff, q1, hlen]; done))))
  refine W_loop (fun d fr st' => ∃ (j : Nat) , d = xs.length - j ∧ j ≤ xs.length ∧ (st = st') ∧ (fr.env 0 = s) ∧ (fr.env 3 = .int .i64 ((j : Int) + 1))) (xs.length) ?_ ?_
  · exact ⟨0, by omega, by omega, rfl, (by (simp (disch := omega) only [go_sem, ↓reduceIte, Nat.reduceEqDiff, Nat.reduceAdd, Nat.reduceLeDiff, q1, hlen]); try rfl), (by (simp (disch := omega) only [go_sem, ↓reduceIte, Nat.reduceEqDiff, Nat.reduceAdd, Nat.reduceLeDiff, q1, hlen]); try rfl)⟩
  rintro d ⟨env, loc⟩ st' ⟨j, hd, hj, hst, e0, e3⟩
  simp only at e0 e3
  subst hst
  by_cases hlt : j + 1 < xs.length
  · have c1 : decide ((j : Int) + 1 < (xs.length : Int)) = true := by simp; omega
    have hj0 : j < xs.length := by omega
    obtain ⟨i, o, c, hs1, hce⟩ := row_atS hr (List.getElem?_eq_getElem hj0)
    obtain ⟨i', o', c', hs2, hce'⟩ := row_atS hr (List.getElem?_eq_getElem hlt)
    subst hs1
    cases hs2
    have hi := idxOk hj0
    have hi' : (0 ≤ (j : Int) + 1 ∧ (j : Int) + 1 < (xs.length : Int)) = True := by simp; omega
    have hsub : (j : Int) + 1 - 1 = (j : Int) := by omega
    have hnat : ((j : Int) + 1).toNat = j + 1 := by omega
    have hle : Op.bytesLess xs[j].toList xs[j + 1].toList = true := by
      rw [Go.Proofs.bytesLess_eq, Lib.toList_data, Lib.toList_data, decide_eq_true_eq]
      have := List.pairwise_iff_getElem.1 hup j (j + 1) (by simpa [chs] using hj0) (by simpa [chs] using hlt) (by omega)
      simpa [chs] using this
    repeat (first | (refine W_reg rfl fun G K hG hK => ?_; simp (disch := omega) only [go_sem, ↓reduceIte, Nat.reduceEqDiff, Nat.reduceAdd, Nat.reduceLeDiff, hG, q1, hlen, e0, e3, c1]; refine hK _ _ ?_; clear hK K hG G) | (refine W_end rfl fun G K hG hK => ?_; simp (disch := omega) only [go_sem, ↓reduceIte, Nat.reduceEqDiff, Nat.reduceAdd, Nat.reduceLeDiff, hG, q1, hlen, e0, e3, c1]; refine hK _ _ ?_; clear hK K hG G; repeat (first | refine thenI ?_ | refine thenE ?_ | refine thenR ?_ | refine inBI ?_ | refine inBR ?_ | refine inBS ?_ | refine inBN (by decide) ?_)) | refine W_seqS ?_ | refine W_seqC ?_ | refine W_seqB ?_ | refine W_block ?_ | (refine W_skip ?_; repeat (first | refine thenI ?_ | refine thenE ?_ | refine thenR ?_ | refine inBI ?_ | refine inBR ?_ | refine inBS ?_ | refine inBN (by decide) ?_)) | (refine W_condT ?hc ?_; (case hc => (simp (disch := omega) only [go_sem, ↓reduceIte, Nat.reduceEqDiff, Nat.reduceAdd, Nat.reduceLeDiff, q1, hlen, e0, e3, c1]; done))) | (refine W_condF ?hc ?_; (case hc => (simp (disch := omega) only [go_sem, ↓reduceIte, Nat.reduceEqDiff, Nat.reduceAdd, Nat.reduceLeDiff, q1, hlen, e0, e3, c1]; done))))
    (repeat (first | refine W_seqS ?_ | refine W_seqC ?_ | refine W_seqB ?_ | refine W_block ?_)); refine W_regD mixed [] [(0,false),(1,false),(2,false),(3,false),(4,false),(5,false),(6,false),(7,false),(8,false),(9,false)] rfl (by decide +kernel) fun G K hG hK => ?_; simp only [pickOps, List.filterMap_cons, List.filterMap_nil, List.getElem?_cons_zero, List.getElem?_cons_succ, Option.map_some]; simp (disch := omega) only [go_sem, ↓reduceIte, Nat.reduceEqDiff, Nat.reduceAdd, Nat.reduceLeDiff, hG, q1, hlen, e0, e3, hsub, hi, hi', idxA, hnat, Int.toNat_natCast, hce, hce', bin_sgeq, hle]
    refine hK _ _ ?_; clear hK K hG G; repeat (first | refine thenI ?_ | refine thenE ?_ | refine thenR ?_ | refine inBI ?_ | refine inBR ?_ | refine inBS ?_ | refine inBN (by decide) ?_)
    repeat (first | (refine W_reg rfl fun G K hG hK => ?_; simp (disch := omega) only [go_sem, ↓reduceIte, Nat.reduceEqDiff, Nat.reduceAdd, Nat.reduceLeDiff, hG, q1, hlen, e0, e3]; refine hK _ _ ?_; clear hK K hG G) | (refine W_end rfl fun G K hG hK => ?_; simp (disch := omega) only [go_sem, ↓reduceIte, Nat.reduceEqDiff, Nat.reduceAdd, Nat.reduceLeDiff, hG, q1, hlen, e0, e3]; refine hK _ _ ?_; clear hK K hG G; repeat (first | refine thenI ?_ | refine thenE ?_ | refine thenR ?_ | refine inBI ?_ | refine inBR ?_ | refine inBS ?_ | refine inBN (by decide) ?_)) | refine W_seqS ?_ | refine W_seqC ?_ | refine W_seqB ?_ | refine W_block ?_ | (refine W_skip ?_; repeat (first | refine thenI ?_ | refine thenE ?_ | refine thenR ?_ | refine inBI ?_ | refine inBR ?_ | refine inBS ?_ | refine inBN (by decide) ?_)) | (refine W_condT ?hc ?_; (case hc => (simp (disch := omega) only [go_sem, ↓reduceIte, Nat.reduceEqDiff, Nat.reduceAdd, Nat.reduceLeDiff, q1, hlen, e0, e3]; done))) | (refine W_condF ?hc ?_; (case hc => (simp (disch := omega) only [go_sem, ↓reduceIte, Nat.reduceEqDiff, Nat.reduceAdd, Nat.reduceLeDiff, q1, hlen, e0, e3]; done))))
    refine ⟨xs.length - (j + 1), by omega, j + 1, rfl, by omega, rfl, (by (simp (disch := omega) only [go_sem, ↓reduceIte, Nat.reduceEqDiff, Nat.reduceAdd, Nat.reduceLeDiff, q1, hlen, e0, e3]); try rfl), (by (simp (disch := omega) only [go_sem, ↓reduceIte, Nat.reduceEqDiff, Nat.reduceAdd, Nat.reduceLeDiff, q1, hlen, e0, e3]); try rfl)⟩
  · have c1 : decide ((j : Int) + 1 < (xs.length : Int)) = false := by simp; omega
    repeat (first | (refine W_reg rfl fun G K hG hK => ?_; simp (disch := omega) only [go_sem, ↓reduceIte, Nat.reduceEqDiff, Nat.reduceAdd, Nat.reduceLeDiff, hG, q1, hlen, e0, e3, c1]; refine hK _ _ ?_; clear hK K hG G) | (refine W_end rfl fun G K hG hK => ?_; simp (disch := omega) only [go_sem, ↓reduceIte, Nat.reduceEqDiff, Nat.reduceAdd, Nat.reduceLeDiff, hG, q1, hlen, e0, e3, c1]; refine hK _ _ ?_; clear hK K hG G; repeat (first | refine thenI ?_ | refine thenE ?_ | refine thenR ?_ | refine inBI ?_ | refine inBR ?_ | refine inBS ?_ | refine inBN (by decide) ?_)) | refine W_seqS ?_ | refine W_seqC ?_ | refine W_seqB ?_ | refine W_block ?_ | (refine W_skip ?_; repeat (first | refine thenI ?_ | refine thenE ?_ | refine thenR ?_ | refine inBI ?_ | refine inBR ?_ | refine inBS ?_ | refine inBN (by decide) ?_)) | (refine W_condT ?hc ?_; (case hc => (simp (disch := omega) only [go_sem, ↓reduceIte, Nat.reduceEqDiff, Nat.reduceAdd, Nat.reduceLeDiff, q1, hlen, e0, e3, c1]; done))) | (refine W_condF ?hc ?_; (case hc => (simp (disch := omega) only [go_sem, ↓reduceIte, Nat.reduceEqDiff, Nat.reduceAdd, Nat.reduceLeDiff, q1, hlen, e0, e3, c1]; done))))
    refine W_exit ?_; repeat (first | refine thenI ?_ | refine thenE ?_ | refine thenR ?_ | refine inBI ?_ | refine inBR ?_ | refine inBS ?_ | refine inBN (by decide) ?_)
    repeat (first | (refine W_reg rfl fun G K hG hK => ?_; simp (disch := omega) only [go_sem, ↓reduceIte, Nat.reduceEqDiff, Nat.reduceAdd, Nat.reduceLeDiff, hG, q1, hlen, e0, e3]; refine hK _ _ ?_; clear hK K hG G) | (refine W_end rfl fun G K hG hK => ?_; simp (disch := omega) only [go_sem, ↓reduceIte, Nat.reduceEqDiff, Nat.reduceAdd, Nat.reduceLeDiff, hG, q1, hlen, e0, e3]; refine hK _ _ ?_; clear hK K hG G; repeat (first | refine thenI ?_ | refine thenE ?_ | refine thenR ?_ | refine inBI ?_ | refine inBR ?_ | refine inBS ?_ | refine inBN (by decide) ?_)) | refine W_seqS ?_ | refine W_seqC ?_ | refine W_seqB ?_ | refine W_block ?_ | (refine W_skip ?_; repeat (first | refine thenI ?_ | refine thenE ?_ | refine thenR ?_ | refine inBI ?_ | refine inBR ?_ | refine inBS ?_ | refine inBN (by decide) ?_)) | (refine W_condT ?hc ?_; (case hc => (simp (disch := omega) only [go_sem, ↓reduceIte, Nat.reduceEqDiff, Nat.reduceAdd, Nat.reduceLeDiff, q1, hlen, e0, e3]; done))) | (refine W_condF ?hc ?_; (case hc => (simp (disch := omega) only [go_sem, ↓reduceIte, Nat.reduceEqDiff, Nat.reduceAdd, Nat.reduceLeDiff, q1, hlen, e0, e3]; done))))
    refine W_ret ?_; try (repeat (first | refine thenI ?_ | refine thenE ?_ | refine thenR ?_ | refine inBI ?_ | refine inBR ?_ | refine inBS ?_ | refine inBN (by decide) ?_))
    refine fin1 (.inl rfl) (by (simp (disch := omega) only [go_sem, ↓reduceIte, Nat.reduceEqDiff, Nat.reduceAdd, Nat.reduceLeDiff, q1, hlen, e0, e3]); try rfl) rfl ⟨rfl, rfl⟩
/-- Where a name stands: 0 or more where it is there, else -1. -/
theorem index_ok (xs : List ByteArray) (w : ByteArray) (st : St) (s : Value) (hbig : xs.length ≤ 1073741824) (hr : Rw st xs s) :
    CallS Try.prog 22 [s, .string w] st fun r st2 => (∃ k : Int, r = .int .i64 k ∧ ((w ∈ xs ∧ 0 ≤ k) ∨ (w ∉ xs ∧ k = -1))) ∧ st2 = st := by
  refine CallS_of_W [] 19 Try.func22 rfl rfl rfl rfl (by simp) ?_
  have q1 := hr.notLoc.1
  have hlen : lenE Try.prog 24 s = some (.int .i64 xs.length) := row_len hr Try.underlying24
  repeat (first | (refine W_reg rfl fun G K hG hK => ?_; simp (disch := omega) only [go_sem, ↓reduceIte, Nat.reduceEqDiff, Nat.reduceAdd, Nat.reduceLeDiff, hG, q1, hlen]; refine hK _ _ ?_; clear hK K hG G) | (refine W_end rfl fun G K hG hK => ?_; simp (disch := omega) only [go_sem, ↓reduceIte, Nat.reduceEqDiff, Nat.reduceAdd, Nat.reduceLeDiff, hG, q1, hlen]; refine hK _ _ ?_; clear hK K hG G; repeat (first | refine thenI ?_ | refine thenE ?_ | refine thenR ?_ | refine inBI ?_ | refine inBR ?_ | refine inBS ?_ | refine inBN (by decide) ?_)) | refine W_seqS ?_ | refine W_seqC ?_ | refine W_seqB ?_ | refine W_block ?_ | (refine W_skip ?_; repeat (first | refine thenI ?_ | refine thenE ?_ | refine thenR ?_ | refine inBI ?_ | refine inBR ?_ | refine inBS ?_ | refine inBN (by decide) ?_)) | (refine W_condT ?hc ?_; (case hc => (simp (disch := omega) only [go_sem, ↓reduceIte, Nat.reduceEqDiff, Nat.reduceAdd, Nat.reduceLeDiff, q1, hlen]; done))) | (refine W_condF ?hc ?_; (case hc => (simp (disch := omega) only [go_sem, ↓reduceIte, Nat.reduceEqDiff, Nat.reduceAdd, Nat.reduceLeDiff, q1, hlen]; done))))
  refine W_loop (fun d fr st' => ∃ (j : Nat) , d = xs.length - j ∧ j ≤ xs.length ∧ (st = st') ∧ ((∀ x ∈ xs.take j, x ≠ w)) ∧ (fr.env 0 = s) ∧ (fr.env 1 = .string w) ∧ (fr.env 7 = .int .i64 xs.length) ∧ (fr.env 8 = .int .i64 j)) (xs.length) ?_ ?_
  · exact ⟨0, by omega, by omega, rfl, by simp, (by (simp (disch := omega) only [go_sem, ↓reduceIte, Nat.reduceEqDiff, Nat.reduceAdd, Nat.reduceLeDiff, q1, hlen]); try rfl), (by (simp (disch := omega) only [go_sem, ↓reduceIte, Nat.reduceEqDiff, Nat.reduceAdd, Nat.reduceLeDiff, q1, hlen]); try rfl), (by (simp (disch := omega) only [go_sem, ↓reduceIte, Nat.reduceEqDiff, Nat.reduceAdd, Nat.reduceLeDiff, q1, hlen]); try rfl), (by (simp (disch := omega) only [go_sem, ↓reduceIte, Nat.reduceEqDiff, Nat.reduceAdd, Nat.reduceLeDiff, q1, hlen]); try rfl)⟩
  rintro d ⟨env, loc⟩ st' ⟨j, hd, hj, hst, hno, e0, e1, e7, e8⟩
  simp only at e0 e1 e7 e8
  subst hst
  by_cases hlt : j < xs.length
  · have c1 : decide ((j : Int) < (xs.length : Int)) = true := by simpa using hlt
    have hi := idxOk hlt
    have hx : xs[j]? = some xs[j] := List.getElem?_eq_getElem hlt
    have htk : xs.take (j + 1) = xs.take j ++ [xs[j]] := List.take_succ_eq_append_getElem hlt
    obtain ⟨i, o, c, rfl, hce⟩ := row_atS hr hx
    cases hq : (w.toList == xs[j].toList) with
    | true =>
      have hw : xs[j] = w := by
        have h : w.toList = xs[j].toList := by simpa using hq
        rw [Lib.toList_data, Lib.toList_data] at h
        exact (ByteArray.ext (Array.ext' h)).symm
      repeat (first | (refine W_reg rfl fun G K hG hK => ?_; simp (disch := omega) only [go_sem, ↓reduceIte, Nat.reduceEqDiff, Nat.reduceAdd, Nat.reduceLeDiff, hG, q1, hlen, e0, e1, e7, e8, c1, hi, idxA, Int.toNat_natCast, hce, hq]; refine hK _ _ ?_; clear hK K hG G) | (refine W_end rfl fun G K hG hK => ?_; simp (disch := omega) only [go_sem, ↓reduceIte, Nat.reduceEqDiff, Nat.reduceAdd, Nat.reduceLeDiff, hG, q1, hlen, e0, e1, e7, e8, c1, hi, idxA, Int.toNat_natCast, hce, hq]; refine hK _ _ ?_; clear hK K hG G; repeat (first | refine thenI ?_ | refine thenE ?_ | refine thenR ?_ | refine inBI ?_ | refine inBR ?_ | refine inBS ?_ | refine inBN (by decide) ?_)) | refine W_seqS ?_ | refine W_seqC ?_ | refine W_seqB ?_ | refine W_block ?_ | (refine W_skip ?_; repeat (first | refine thenI ?_ | refine thenE ?_ | refine thenR ?_ | refine inBI ?_ | refine inBR ?_ | refine inBS ?_ | refine inBN (by decide) ?_)) | (refine W_condT ?hc ?_; (case hc => (simp (disch := omega) only [go_sem, ↓reduceIte, Nat.reduceEqDiff, Nat.reduceAdd, Nat.reduceLeDiff, q1, hlen, e0, e1, e7, e8, c1, hi, idxA, Int.toNat_natCast, hce, hq]; done))) | (refine W_condF ?hc ?_; (case hc => (simp (disch := omega) only [go_sem, ↓reduceIte, Nat.reduceEqDiff, Nat.reduceAdd, Nat.reduceLeDiff, q1, hlen, e0, e1, e7, e8, c1, hi, idxA, Int.toNat_natCast, hce, hq]; done))))
      refine W_ret ?_; try (repeat (first | refine thenI ?_ | refine thenE ?_ | refine thenR ?_ | refine inBI ?_ | refine inBR ?_ | refine inBS ?_ | refine inBN (by decide) ?_))
      refine fin1 (.inl rfl) (by (simp (disch := omega) only [go_sem, ↓reduceIte, Nat.reduceEqDiff, Nat.reduceAdd, Nat.reduceLeDiff, q1, hlen, e0, e1, e7, e8, c1, hi, idxA, Int.toNat_natCast]); try rfl) rfl ⟨⟨_, rfl, .inl ⟨hw ▸ List.getElem_mem hlt, by omega⟩⟩, rfl⟩
    | false =>
      have hw : xs[j] ≠ w := fun e => by rw [e] at hq; simp at hq
      have hno' : ∀ x ∈ xs.take (j + 1), x ≠ w := by
        rw [htk]
        intro x hx
        rcases List.mem_append.1 hx with h | h
        · exact hno x h
        · rw [List.mem_singleton.1 h]; exact hw
      repeat (first | (refine W_reg rfl fun G K hG hK => ?_; simp (disch := omega) only [go_sem, ↓reduceIte, Nat.reduceEqDiff, Nat.reduceAdd, Nat.reduceLeDiff, hG, q1, hlen, e0, e1, e7, e8, c1, hi, idxA, Int.toNat_natCast, hce, hq]; refine hK _ _ ?_; clear hK K hG G) | (refine W_end rfl fun G K hG hK => ?_; simp (disch := omega) only [go_sem, ↓reduceIte, Nat.reduceEqDiff, Nat.reduceAdd, Nat.reduceLeDiff, hG, q1, hlen, e0, e1, e7, e8, c1, hi, idxA, Int.toNat_natCast, hce, hq]; refine hK _ _ ?_; clear hK K hG G; repeat (first | refine thenI ?_ | refine thenE ?_ | refine thenR ?_ | refine inBI ?_ | refine inBR ?_ | refine inBS ?_ | refine inBN (by decide) ?_)) | refine W_seqS ?_ | refine W_seqC ?_ | refine W_seqB ?_ | refine W_block ?_ | (refine W_skip ?_; repeat (first | refine thenI ?_ | refine thenE ?_ | refine thenR ?_ | refine inBI ?_ | refine inBR ?_ | refine inBS ?_ | refine inBN (by decide) ?_)) | (refine W_condT ?hc ?_; (case hc => (simp (disch := omega) only [go_sem, ↓reduceIte, Nat.reduceEqDiff, Nat.reduceAdd, Nat.reduceLeDiff, q1, hlen, e0, e1, e7, e8, c1, hi, idxA, Int.toNat_natCast, hce, hq]; done))) | (refine W_condF ?hc ?_; (case hc => (simp (disch := omega) only [go_sem, ↓reduceIte, Nat.reduceEqDiff, Nat.reduceAdd, Nat.reduceLeDiff, q1, hlen, e0, e1, e7, e8, c1, hi, idxA, Int.toNat_natCast, hce, hq]; done))))
      refine ⟨xs.length - (j + 1), by omega, j + 1, rfl, by omega, rfl, hno', (by (simp (disch := omega) only [go_sem, ↓reduceIte, Nat.reduceEqDiff, Nat.reduceAdd, Nat.reduceLeDiff, q1, hlen, e0, e1, e7, e8, c1, hi, idxA, Int.toNat_natCast]); try rfl), (by (simp (disch := omega) only [go_sem, ↓reduceIte, Nat.reduceEqDiff, Nat.reduceAdd, Nat.reduceLeDiff, q1, hlen, e0, e1, e7, e8, c1, hi, idxA, Int.toNat_natCast]); try rfl), (by (simp (disch := omega) only [go_sem, ↓reduceIte, Nat.reduceEqDiff, Nat.reduceAdd, Nat.reduceLeDiff, q1, hlen, e0, e1, e7, e8, c1, hi, idxA, Int.toNat_natCast]); try rfl), (by (simp (disch := omega) only [go_sem, ↓reduceIte, Nat.reduceEqDiff, Nat.reduceAdd, Nat.reduceLeDiff, q1, hlen, e0, e1, e7, e8, c1, hi, idxA, Int.toNat_natCast]); try rfl)⟩
  · have c1 : decide ((j : Int) < (xs.length : Int)) = false := by simpa using hlt
    have hjn : j = xs.length := by omega
    subst hjn
    rw [List.take_length] at hno
    repeat (first | (refine W_reg rfl fun G K hG hK => ?_; simp (disch := omega) only [go_sem, ↓reduceIte, Nat.reduceEqDiff, Nat.reduceAdd, Nat.reduceLeDiff, hG, q1, hlen, e0, e1, e7, e8, c1]; refine hK _ _ ?_; clear hK K hG G) | (refine W_end rfl fun G K hG hK => ?_; simp (disch := omega) only [go_sem, ↓reduceIte, Nat.reduceEqDiff, Nat.reduceAdd, Nat.reduceLeDiff, hG, q1, hlen, e0, e1, e7, e8, c1]; refine hK _ _ ?_; clear hK K hG G; repeat (first | refine thenI ?_ | refine thenE ?_ | refine thenR ?_ | refine inBI ?_ | refine inBR ?_ | refine inBS ?_ | refine inBN (by decide) ?_)) | refine W_seqS ?_ | refine W_seqC ?_ | refine W_seqB ?_ | refine W_block ?_ | (refine W_skip ?_; repeat (first | refine thenI ?_ | refine thenE ?_ | refine thenR ?_ | refine inBI ?_ | refine inBR ?_ | refine inBS ?_ | refine inBN (by decide) ?_)) | (refine W_condT ?hc ?_; (case hc => (simp (disch := omega) only [go_sem, ↓reduceIte, Nat.reduceEqDiff, Nat.reduceAdd, Nat.reduceLeDiff, q1, hlen, e0, e1, e7, e8, c1]; done))) | (refine W_condF ?hc ?_; (case hc => (simp (disch := omega) only [go_sem, ↓reduceIte, Nat.reduceEqDiff, Nat.reduceAdd, Nat.reduceLeDiff, q1, hlen, e0, e1, e7, e8, c1]; done))))
    refine W_exit ?_; repeat (first | refine thenI ?_ | refine thenE ?_ | refine thenR ?_ | refine inBI ?_ | refine inBR ?_ | refine inBS ?_ | refine inBN (by decide) ?_)
    repeat (first | (refine W_reg rfl fun G K hG hK => ?_; simp (disch := omega) only [go_sem, ↓reduceIte, Nat.reduceEqDiff, Nat.reduceAdd, Nat.reduceLeDiff, hG, q1, hlen, e0, e1, e7, e8, c1]; refine hK _ _ ?_; clear hK K hG G) | (refine W_end rfl fun G K hG hK => ?_; simp (disch := omega) only [go_sem, ↓reduceIte, Nat.reduceEqDiff, Nat.reduceAdd, Nat.reduceLeDiff, hG, q1, hlen, e0, e1, e7, e8, c1]; refine hK _ _ ?_; clear hK K hG G; repeat (first | refine thenI ?_ | refine thenE ?_ | refine thenR ?_ | refine inBI ?_ | refine inBR ?_ | refine inBS ?_ | refine inBN (by decide) ?_)) | refine W_seqS ?_ | refine W_seqC ?_ | refine W_seqB ?_ | refine W_block ?_ | (refine W_skip ?_; repeat (first | refine thenI ?_ | refine thenE ?_ | refine thenR ?_ | refine inBI ?_ | refine inBR ?_ | refine inBS ?_ | refine inBN (by decide) ?_)) | (refine W_condT ?hc ?_; (case hc => (simp (disch := omega) only [go_sem, ↓reduceIte, Nat.reduceEqDiff, Nat.reduceAdd, Nat.reduceLeDiff, q1, hlen, e0, e1, e7, e8, c1]; done))) | (refine W_condF ?hc ?_; (case hc => (simp (disch := omega) only [go_sem, ↓reduceIte, Nat.reduceEqDiff, Nat.reduceAdd, Nat.reduceLeDiff, q1, hlen, e0, e1, e7, e8, c1]; done))))
    refine W_ret ?_; try (repeat (first | refine thenI ?_ | refine thenE ?_ | refine thenR ?_ | refine inBI ?_ | refine inBR ?_ | refine inBS ?_ | refine inBN (by decide) ?_))
    refine fin1 (.inl rfl) (by (simp (disch := omega) only [go_sem, ↓reduceIte, Nat.reduceEqDiff, Nat.reduceAdd, Nat.reduceLeDiff, q1, hlen, e0, e1, e7, e8, c1]); try rfl) rfl ⟨⟨_, rfl, .inr ⟨fun h => hno w h rfl, rfl⟩⟩, rfl⟩
theorem indexOf_ok (xs : List ByteArray) (w : ByteArray) (st : St) (s : Value) (hbig : xs.length ≤ 1073741824) (hr : Rw st xs s) :
    CallS Try.prog 11 [s, .string w] st fun r st2 => (∃ k : Int, r = .int .i64 k ∧ ((w ∈ xs ∧ 0 ≤ k) ∨ (w ∉ xs ∧ k = -1))) ∧ st2 = st := by
  refine CallS_of_W [] 8 Try.func11 rfl rfl rfl rfl (by simp) ?_
  have q1 := hr.notLoc.1
  repeat (first | (refine W_reg rfl fun G K hG hK => ?_; simp (disch := omega) only [go_sem, ↓reduceIte, Nat.reduceEqDiff, Nat.reduceAdd, Nat.reduceLeDiff, hG, q1]; refine hK _ _ ?_; clear hK K hG G) | (refine W_end rfl fun G K hG hK => ?_; simp (disch := omega) only [go_sem, ↓reduceIte, Nat.reduceEqDiff, Nat.reduceAdd, Nat.reduceLeDiff, hG, q1]; refine hK _ _ ?_; clear hK K hG G; repeat (first | refine thenI ?_ | refine thenE ?_ | refine thenR ?_ | refine inBI ?_ | refine inBR ?_ | refine inBS ?_ | refine inBN (by decide) ?_)) | refine W_seqS ?_ | refine W_seqC ?_ | refine W_seqB ?_ | refine W_block ?_ | (refine W_skip ?_; repeat (first | refine thenI ?_ | refine thenE ?_ | refine thenR ?_ | refine inBI ?_ | refine inBR ?_ | refine inBS ?_ | refine inBN (by decide) ?_)) | (refine W_condT ?hc ?_; (case hc => (simp (disch := omega) only [go_sem, ↓reduceIte, Nat.reduceEqDiff, Nat.reduceAdd, Nat.reduceLeDiff, q1]; done))) | (refine W_condF ?hc ?_; (case hc => (simp (disch := omega) only [go_sem, ↓reduceIte, Nat.reduceEqDiff, Nat.reduceAdd, Nat.reduceLeDiff, q1]; done))))
  (repeat (first | refine W_seqS ?_ | refine W_seqC ?_ | refine W_seqB ?_ | refine W_block ?_)); refine W_reg rfl fun G K hG hK => ?_; simp (disch := omega) only [go_sem, ↓reduceIte, Nat.reduceEqDiff, Nat.reduceAdd, Nat.reduceLeDiff, hG, q1]
  refine w_call (index_ok xs w st s hbig hr) (by simp (disch := omega) only [go_sem, ↓reduceIte, Nat.reduceEqDiff, q1]) ?hl ?_
  case hl => first | rfl | (simp only [go_sem, List.all_cons, List.all_nil, Bool.not_false, Bool.and_self, q1]; done)
  rintro r_ st ⟨⟨k, rfl, hk⟩, rfl⟩; refine ⟨fun e => (by cases e), ?_⟩
  simp (disch := omega) only [go_sem, ↓reduceIte, Nat.reduceEqDiff, Nat.reduceAdd, Nat.reduceLeDiff, hG, q1]; refine hK _ _ ?_; clear hK K hG G; repeat (first | refine thenI ?_ | refine thenE ?_ | refine thenR ?_ | refine inBI ?_ | refine inBR ?_ | refine inBS ?_ | refine inBN (by decide) ?_)
  refine W_ret ?_; try (repeat (first | refine thenI ?_ | refine thenE ?_ | refine thenR ?_ | refine inBI ?_ | refine inBR ?_ | refine inBS ?_ | refine inBN (by decide) ?_))
  refine fin1 (.inl rfl) (by (simp (disch := omega) only [go_sem, ↓reduceIte, Nat.reduceEqDiff, Nat.reduceAdd, Nat.reduceLeDiff, q1]); try rfl) rfl ⟨⟨k, rfl, hk⟩, rfl⟩
theorem contains_ok (xs : List ByteArray) (w : ByteArray) (st : St) (s : Value) (hbig : xs.length ≤ 1073741824) (hr : Rw st xs s) :
    CallS Try.prog 26 [s, .string w] st fun r st2 => (∃ b : Bool, r = .bool b ∧ (b = true ↔ w ∈ xs)) ∧ st2 = st := by
  refine CallS_of_W [] 9 Try.func26 rfl rfl rfl rfl (by simp) ?_
  have q1 := hr.notLoc.1
  repeat (first | (refine W_reg rfl fun G K hG hK => ?_; simp (disch := omega) only [go_sem, ↓reduceIte, Nat.reduceEqDiff, Nat.reduceAdd, Nat.reduceLeDiff, hG, q1]; refine hK _ _ ?_; clear hK K hG G) | (refine W_end rfl fun G K hG hK => ?_; simp (disch := omega) only [go_sem, ↓reduceIte, Nat.reduceEqDiff, Nat.reduceAdd, Nat.reduceLeDiff, hG, q1]; refine hK _ _ ?_; clear hK K hG G; repeat (first | refine thenI ?_ | refine thenE ?_ | refine thenR ?_ | refine inBI ?_ | refine inBR ?_ | refine inBS ?_ | refine inBN (by decide) ?_)) | refine W_seqS ?_ | refine W_seqC ?_ | refine W_seqB ?_ | refine W_block ?_ | (refine W_skip ?_; repeat (first | refine thenI ?_ | refine thenE ?_ | refine thenR ?_ | refine inBI ?_ | refine inBR ?_ | refine inBS ?_ | refine inBN (by decide) ?_)) | (refine W_condT ?hc ?_; (case hc => (simp (disch := omega) only [go_sem, ↓reduceIte, Nat.reduceEqDiff, Nat.reduceAdd, Nat.reduceLeDiff, q1]; done))) | (refine W_condF ?hc ?_; (case hc => (simp (disch := omega) only [go_sem, ↓reduceIte, Nat.reduceEqDiff, Nat.reduceAdd, Nat.reduceLeDiff, q1]; done))))
  (repeat (first | refine W_seqS ?_ | refine W_seqC ?_ | refine W_seqB ?_ | refine W_block ?_)); refine W_reg rfl fun G K hG hK => ?_; simp (disch := omega) only [go_sem, ↓reduceIte, Nat.reduceEqDiff, Nat.reduceAdd, Nat.reduceLeDiff, hG, q1]
  refine w_call (index_ok xs w st s hbig hr) (by simp (disch := omega) only [go_sem, ↓reduceIte, Nat.reduceEqDiff, q1]) ?hl ?_
  case hl => first | rfl | (simp only [go_sem, List.all_cons, List.all_nil, Bool.not_false, Bool.and_self, q1]; done)
  rintro r_ st ⟨⟨k, rfl, hk⟩, rfl⟩; refine ⟨fun e => (by cases e), ?_⟩
  simp (disch := omega) only [go_sem, ↓reduceIte, Nat.reduceEqDiff, Nat.reduceAdd, Nat.reduceLeDiff, hG, q1]; refine hK _ _ ?_; clear hK K hG G; repeat (first | refine thenI ?_ | refine thenE ?_ | refine thenR ?_ | refine inBI ?_ | refine inBR ?_ | refine inBS ?_ | refine inBN (by decide) ?_)
  refine W_ret ?_; try (repeat (first | refine thenI ?_ | refine thenE ?_ | refine thenR ?_ | refine inBI ?_ | refine inBR ?_ | refine inBS ?_ | refine inBN (by decide) ?_))
  refine fin1 (.inl rfl) (by (simp (disch := omega) only [go_sem, ↓reduceIte, Nat.reduceEqDiff, Nat.reduceAdd, Nat.reduceLeDiff, q1]); try rfl) rfl ⟨⟨_, rfl, ?_⟩, rfl⟩
  rcases hk with ⟨h1, h2⟩ | ⟨h1, h2⟩
  · simp [h1, h2]
  · simp [h1, h2]
/-- Where all are taken away, nothing is left. -/
theorem without_ok (xs rs : List ByteArray) (st : St) (s s' : Value) (hbig : xs.length ≤ 1073741824) (hbig' : rs.length ≤ 1073741824) (hr : Rw st xs s) (hr' : Rw st rs s') (hall : ∀ x ∈ xs, x ∈ rs) :
    CallS Try.prog 16 [s, s'] st fun r st2 => r = .slice none 0 0 ∧ st2 = st := by
  refine CallS_of_W [] 24 Try.func16 rfl rfl rfl rfl (by simp) ?_
  have q1 := hr.notLoc.1
  have q2 := hr'.notLoc.1
  have hlen : lenE Try.prog 24 s = some (.int .i64 xs.length) := row_len hr Try.underlying24
  repeat (first | (refine W_reg rfl fun G K hG hK => ?_; simp (disch := omega) only [go_sem, ↓reduceIte, Nat.reduceEqDiff, Nat.reduceAdd, Nat.reduceLeDiff, hG, q1, q2, hlen]; refine hK _ _ ?_; clear hK K hG G) | (refine W_end rfl fun G K hG hK => ?_; simp (disch := omega) only [go_sem, ↓reduceIte, Nat.reduceEqDiff, Nat.reduceAdd, Nat.reduceLeDiff, hG, q1, q2, hlen]; refine hK _ _ ?_; clear hK K hG G; repeat (first | refine thenI ?_ | refine thenE ?_ | refine thenR ?_ | refine inBI ?_ | refine inBR ?_ | refine inBS ?_ | refine inBN (by decide) ?_)) | refine W_seqS ?_ | refine W_seqC ?_ | refine W_seqB ?_ | refine W_block ?_ | (refine W_skip ?_; repeat (first | refine thenI ?_ | refine thenE ?_ | refine thenR ?_ | refine inBI ?_ | refine inBR ?_ | refine inBS ?_ | refine inBN (by decide) ?_)) | (refine W_condT ?hc ?_; (case hc => (simp (disch := omega) only [go_sem, ↓reduceIte, Nat.reduceEqDiff, Nat.reduceAdd, Nat.reduceLeDiff, q1, q2, hlen]; done))) | (refine W_condF ?hc ?_; (case hc => (simp (disch := omega) only [go_sem, ↓reduceIte, Nat.reduceEqDiff, Nat.reduceAdd, Nat.reduceLeDiff, q1, q2, hlen]; done))))
  refine W_loop (fun d fr st' => ∃ (j : Nat) , d = xs.length - j ∧ j ≤ xs.length ∧ (st = st') ∧ (fr.env 1 = s') ∧ (fr.env 5 = .slice none 0 0) ∧ (fr.env 8 = s) ∧ (fr.env 9 = .int .i64 xs.length) ∧ (fr.env 10 = .int .i64 j)) (xs.length) ?_ ?_
  · exact ⟨0, by omega, by omega, rfl, (by (simp (disch := omega) only [go_sem, ↓reduceIte, Nat.reduceEqDiff, Nat.reduceAdd, Nat.reduceLeDiff, q1, q2, hlen]); try rfl), (by (simp (disch := omega) only [go_sem, ↓reduceIte, Nat.reduceEqDiff, Nat.reduceAdd, Nat.reduceLeDiff, q1, q2, hlen]); try rfl), (by (simp (disch := omega) only [go_sem, ↓reduceIte, Nat.reduceEqDiff, Nat.reduceAdd, Nat.reduceLeDiff, q1, q2, hlen]); try rfl), (by (simp (disch := omega) only [go_sem, ↓reduceIte, Nat.reduceEqDiff, Nat.reduceAdd, Nat.reduceLeDiff, q1, q2, hlen]); try rfl), (by (simp (disch := omega) only [go_sem, ↓reduceIte, Nat.reduceEqDiff, Nat.reduceAdd, Nat.reduceLeDiff, q1, q2, hlen]); try rfl)⟩
  rintro d ⟨env, loc⟩ st' ⟨j, hd, hj, hst, e1, e5, e8, e9, e10⟩
  simp only at e1 e5 e8 e9 e10
  subst hst
  by_cases hlt : j < xs.length
  · have c1 : decide ((j : Int) < (xs.length : Int)) = true := by simpa using hlt
    have hi := idxOk hlt
    have hx : xs[j]? = some xs[j] := List.getElem?_eq_getElem hlt
    have htk : xs.take (j + 1) = xs.take j ++ [xs[j]] := List.take_succ_eq_append_getElem hlt
    obtain ⟨i, o, c, rfl, hce⟩ := row_atS hr hx
    repeat (first | (refine W_reg rfl fun G K hG hK => ?_; simp (disch := omega) only [go_sem, ↓reduceIte, Nat.reduceEqDiff, Nat.reduceAdd, Nat.reduceLeDiff, hG, q1, q2, hlen, e1, e5, e8, e9, e10, c1, hi, idxA, Int.toNat_natCast, hce]; refine hK _ _ ?_; clear hK K hG G) | (refine W_end rfl fun G K hG hK => ?_; simp (disch := omega) only [go_sem, ↓reduceIte, Nat.reduceEqDiff, Nat.reduceAdd, Nat.reduceLeDiff, hG, q1, q2, hlen, e1, e5, e8, e9, e10, c1, hi, idxA, Int.toNat_natCast, hce]; refine hK _ _ ?_; clear hK K hG G; repeat (first | refine thenI ?_ | refine thenE ?_ | refine thenR ?_ | refine inBI ?_ | refine inBR ?_ | refine inBS ?_ | refine inBN (by decide) ?_)) | refine W_seqS ?_ | refine W_seqC ?_ | refine W_seqB ?_ | refine W_block ?_ | (refine W_skip ?_; repeat (first | refine thenI ?_ | refine thenE ?_ | refine thenR ?_ | refine inBI ?_ | refine inBR ?_ | refine inBS ?_ | refine inBN (by decide) ?_)) | (refine W_condT ?hc ?_; (case hc => (simp (disch := omega) only [go_sem, ↓reduceIte, Nat.reduceEqDiff, Nat.reduceAdd, Nat.reduceLeDiff, q1, q2, hlen, e1, e5, e8, e9, e10, c1, hi, idxA, Int.toNat_natCast, hce]; done))) | (refine W_condF ?hc ?_; (case hc => (simp (disch := omega) only [go_sem, ↓reduceIte, Nat.reduceEqDiff, Nat.reduceAdd, Nat.reduceLeDiff, q1, q2, hlen, e1, e5, e8, e9, e10, c1, hi, idxA, Int.toNat_natCast, hce]; done))))
    (repeat (first | refine W_seqS ?_ | refine W_seqC ?_ | refine W_seqB ?_ | refine W_block ?_)); refine W_reg rfl fun G K hG hK => ?_; simp (disch := omega) only [go_sem, ↓reduceIte, Nat.reduceEqDiff, Nat.reduceAdd, Nat.reduceLeDiff, hG, q1, q2, hlen, e1, e5, e8, e9, e10, c1, hi, idxA, Int.toNat_natCast]
    refine w_call (contains_ok rs xs[j] st s' hbig' hr') (by simp (disch := omega) only [go_sem, ↓reduceIte, Nat.reduceEqDiff, q1, q2, hlen, e1, e5, e8, e9, e10, c1, hi, idxA, Int.toNat_natCast]) ?hl ?_
    case hl => first | rfl | (simp only [go_sem, List.all_cons, List.all_nil, Bool.not_false, Bool.and_self, q1, q2, hlen, e1, e5, e8, e9, e10, c1, hi, idxA, Int.toNat_natCast]; done)
    rintro r_ st ⟨⟨b, rfl, hb⟩, rfl⟩; refine ⟨fun e => (by cases e), ?_⟩
    have hbt : b = true := hb.2 (hall _ (List.getElem_mem hlt))
    subst hbt
    simp (disch := omega) only [go_sem, ↓reduceIte, Nat.reduceEqDiff, Nat.reduceAdd, Nat.reduceLeDiff, hG, q1, q2, hlen, e1, e5, e8, e9, e10, c1, hi, idxA, Int.toNat_natCast]; refine hK _ _ ?_; clear hK K hG G; repeat (first | refine thenI ?_ | refine thenE ?_ | refine thenR ?_ | refine inBI ?_ | refine inBR ?_ | refine inBS ?_ | refine inBN (by decide) ?_)
    repeat (first | (refine W_reg rfl fun G K hG hK => ?_; simp (disch := omega) only [go_sem, ↓reduceIte, Nat.reduceEqDiff, Nat.reduceAdd, Nat.reduceLeDiff, hG, q1, q2, hlen, e1, e5, e8, e9, e10, c1, hi, idxA, Int.toNat_natCast]; refine hK _ _ ?_; clear hK K hG G) | (refine W_end rfl fun G K hG hK => ?_; simp (disch := omega) only [go_sem, ↓reduceIte, Nat.reduceEqDiff, Nat.reduceAdd, Nat.reduceLeDiff, hG, q1, q2, hlen, e1, e5, e8, e9, e10, c1, hi, idxA, Int.toNat_natCast]; refine hK _ _ ?_; clear hK K hG G; repeat (first | refine thenI ?_ | refine thenE ?_ | refine thenR ?_ | refine inBI ?_ | refine inBR ?_ | refine inBS ?_ | refine inBN (by decide) ?_)) | refine W_seqS ?_ | refine W_seqC ?_ | refine W_seqB ?_ | refine W_block ?_ | (refine W_skip ?_; repeat (first | refine thenI ?_ | refine thenE ?_ | refine thenR ?_ | refine inBI ?_ | refine inBR ?_ | refine inBS ?_ | refine inBN (by decide) ?_)) | (refine W_condT ?hc ?_; (case hc => (simp (disch := omega) only [go_sem, ↓reduceIte, Nat.reduceEqDiff, Nat.reduceAdd, Nat.reduceLeDiff, q1, q2, hlen, e1, e5, e8, e9, e10, c1, hi, idxA, Int.toNat_natCast]; done))) | (refine W_condF ?hc ?_; (case hc => (simp (disch := omega) only [go_sem, ↓reduceIte, Nat.reduceEqDiff, Nat.reduceAdd, Nat.reduceLeDiff, q1, q2, hlen, e1, e5, e8, e9, e10, c1, hi, idxA, Int.toNat_natCast]; done))))
    refine ⟨xs.length - (j + 1), by omega, j + 1, rfl, by omega, rfl, (by (simp (disch := omega) only [go_sem, ↓reduceIte, Nat.reduceEqDiff, Nat.reduceAdd, Nat.reduceLeDiff, q1, q2, hlen, e1, e5, e8, e9, e10, c1, hi, idxA, Int.toNat_natCast]); try rfl), (by (simp (disch := omega) only [go_sem, ↓reduceIte, Nat.reduceEqDiff, Nat.reduceAdd, Nat.reduceLeDiff, q1, q2, hlen, e1, e5, e8, e9, e10, c1, hi, idxA, Int.toNat_natCast]); try rfl), (by (simp (disch := omega) only [go_sem, ↓reduceIte, Nat.reduceEqDiff, Nat.reduceAdd, Nat.reduceLeDiff, q1, q2, hlen, e1, e5, e8, e9, e10, c1, hi, idxA, Int.toNat_natCast]); try rfl), (by (simp (disch := omega) only [go_sem, ↓reduceIte, Nat.reduceEqDiff, Nat.reduceAdd, Nat.reduceLeDiff, q1, q2, hlen, e1, e5, e8, e9, e10, c1, hi, idxA, Int.toNat_natCast]); try rfl), (by (simp (disch := omega) only [go_sem, ↓reduceIte, Nat.reduceEqDiff, Nat.reduceAdd, Nat.reduceLeDiff, q1, q2, hlen, e1, e5, e8, e9, e10, c1, hi, idxA, Int.toNat_natCast]); try rfl)⟩
  · have c1 : decide ((j : Int) < (xs.length : Int)) = false := by simpa using hlt
    have hjn : j = xs.length := by omega
    subst hjn
    repeat (first | (refine W_reg rfl fun G K hG hK => ?_; simp (disch := omega) only [go_sem, ↓reduceIte, Nat.reduceEqDiff, Nat.reduceAdd, Nat.reduceLeDiff, hG, q1, q2, hlen, e1, e5, e8, e9, e10, c1]; refine hK _ _ ?_; clear hK K hG G) | (refine W_end rfl fun G K hG hK => ?_; simp (disch := omega) only [go_sem, ↓reduceIte, Nat.reduceEqDiff, Nat.reduceAdd, Nat.reduceLeDiff, hG, q1, q2, hlen, e1, e5, e8, e9, e10, c1]; refine hK _ _ ?_; clear hK K hG G; repeat (first | refine thenI ?_ | refine thenE ?_ | refine thenR ?_ | refine inBI ?_ | refine inBR ?_ | refine inBS ?_ | refine inBN (by decide) ?_)) | refine W_seqS ?_ | refine W_seqC ?_ | refine W_seqB ?_ | refine W_block ?_ | (refine W_skip ?_; repeat (first | refine thenI ?_ | refine thenE ?_ | refine thenR ?_ | refine inBI ?_ | refine inBR ?_ | refine inBS ?_ | refine inBN (by decide) ?_)) | (refine W_condT ?hc ?_; (case hc => (simp (disch := omega) only [go_sem, ↓reduceIte, Nat.reduceEqDiff, Nat.reduceAdd, Nat.reduceLeDiff, q1, q2, hlen, e1, e5, e8, e9, e10, c1]; done))) | (refine W_condF ?hc ?_; (case hc => (simp (disch := omega) only [go_sem, ↓reduceIte, Nat.reduceEqDiff, Nat.reduceAdd, Nat.reduceLeDiff, q1, q2, hlen, e1, e5, e8, e9, e10, c1]; done))))
    refine W_exit ?_; repeat (first | refine thenI ?_ | refine thenE ?_ | refine thenR ?_ | refine inBI ?_ | refine inBR ?_ | refine inBS ?_ | refine inBN (by decide) ?_)
    repeat (first | (refine W_reg rfl fun G K hG hK => ?_; simp (disch := omega) only [go_sem, ↓reduceIte, Nat.reduceEqDiff, Nat.reduceAdd, Nat.reduceLeDiff, hG, q1, q2, hlen, e1, e5, e8, e9, e10, c1]; refine hK _ _ ?_; clear hK K hG G) | (refine W_end rfl fun G K hG hK => ?_; simp (disch := omega) only [go_sem, ↓reduceIte, Nat.reduceEqDiff, Nat.reduceAdd, Nat.reduceLeDiff, hG, q1, q2, hlen, e1, e5, e8, e9, e10, c1]; refine hK _ _ ?_; clear hK K hG G; repeat (first | refine thenI ?_ | refine thenE ?_ | refine thenR ?_ | refine inBI ?_ | refine inBR ?_ | refine inBS ?_ | refine inBN (by decide) ?_)) | refine W_seqS ?_ | refine W_seqC ?_ | refine W_seqB ?_ | refine W_block ?_ | (refine W_skip ?_; repeat (first | refine thenI ?_ | refine thenE ?_ | refine thenR ?_ | refine inBI ?_ | refine inBR ?_ | refine inBS ?_ | refine inBN (by decide) ?_)) | (refine W_condT ?hc ?_; (case hc => (simp (disch := omega) only [go_sem, ↓reduceIte, Nat.reduceEqDiff, Nat.reduceAdd, Nat.reduceLeDiff, q1, q2, hlen, e1, e5, e8, e9, e10, c1]; done))) | (refine W_condF ?hc ?_; (case hc => (simp (disch := omega) only [go_sem, ↓reduceIte, Nat.reduceEqDiff, Nat.reduceAdd, Nat.reduceLeDiff, q1, q2, hlen, e1, e5, e8, e9, e10, c1]; done))))
    refine W_ret ?_; try (repeat (first | refine thenI ?_ | refine thenE ?_ | refine thenR ?_ | refine inBI ?_ | refine inBR ?_ | refine inBS ?_ | refine inBN (by decide) ?_))
    refine fin1 (.inl rfl) (by (simp (disch := omega) only [go_sem, ↓reduceIte, Nat.reduceEqDiff, Nat.reduceAdd, Nat.reduceLeDiff, q1, q2, hlen, e1, e5, e8, e9, e10, c1]); try rfl) rfl ⟨rfl, rfl⟩
end Go.Proofs.Ytojpgicdhflhpaa.AM


/- impl.namesIn; IsGround on both sides. -/
namespace Go.Proofs.Ytojpgicdhflhpaa.AM
open Go Go.Proofs
set_option linter.unusedVariables false
set_option linter.unusedSimpArgs false
set_option maxRecDepth 100000
attribute [local go_sem] List.map_cons List.map_nil List.all_cons List.all_nil Bool.and_self Option.map_some List.getElem?_toArray Option.bind_some gye_b gye_t gsk_b gsk_t gb1 gb2 gb3 gb4 bne_self_eq_false beq_self_eq_true w_guard w_nil stepV_some step_some step_some' w_move w_assign w_pick w_binOp w_unOp w_load w_fieldAddr w_indexAddr w_len w_max w_index ev_max max_int ev_index w_box w_alloc w_store w_field w_extract w_nilCheck w_convert w_buildSlice w_build ev_buildL fillL_nil fillL_cons bs0 bs1 ev_conv ev_bin ev_un ev_pick ev_load ev_fieldAddr ev_indexAddr ev_len ev_field ev_extract ev_nilCheck fr_tmp fr_int fr_bool fr_str fr_nil fr_func put_some put_none bin_lss bin_leq bin_gtr bin_geq bin_eql bin_neq bin_add bin_sub bin_mul bin_seql bin_sneq un_not pick_ ext_ loadA_p cellAt_l cellAt_h okPtr_l okPtr_h fadA_p allocA_l storeA_l cells_agg cells_int cells_str cells_sl cells_bool flat_i flat_s flat_b flat_sl flat_nil loc_agg loc_int loc_str loc_sl loc_bool loc_fn loc_ptr okv_agg okv_int okv_str okv_sl okv_bool cellsFrom splice upd_eval argEnv_zero argEnv_succ ne_eq Nat.add_one_ne_zero not_false_eq_true List.not_mem_nil and_self decide_true List.getElem?_cons_zero List.getElem?_cons_succ List.size_toArray List.length_cons List.length_nil List.take_succ_cons List.take_zero List.drop_succ_cons List.drop_zero List.cons_append List.nil_append List.drop_nil Bool.not_true Bool.not_false Bool.false_eq_true Nat.zero_add Nat.add_zero wrap_in List.toList_toArray List.mem_cons or_self or_false false_or
attribute [local go_sem] ag22 ag3 ag5 ag62 ag9 bu42 by9 el22 el24 of42_0 of42_1 of42_2 ro9_0 ro9_1 ro9_14 sz22 sz3 sz5 sz62 sz9 ze3 ze62 ze9
-- AUTO

end Go.Proofs.Ytojpgicdhflhpaa.AM


/- impl.namesIn, impl.VarsOfTerm, impl.RestrictSubst, impl.MatchTerm. -/
namespace Go.Proofs.Ytojpgicdhflhpaa.AM
open Go Go.Proofs
set_option linter.unusedVariables false
set_option linter.unusedSimpArgs false
set_option maxRecDepth 100000
attribute [local go_sem] List.map_cons List.map_nil List.all_cons List.all_nil Bool.and_self Option.map_some List.getElem?_toArray Option.bind_some gye_b gye_t gsk_b gsk_t gb1 gb2 gb3 gb4 bne_self_eq_false beq_self_eq_true w_guard w_nil stepV_some step_some step_some' w_move w_assign w_pick w_binOp w_unOp w_load w_fieldAddr w_indexAddr w_len w_max w_index ev_max max_int ev_index w_box w_alloc w_store w_field w_extract w_nilCheck w_convert w_buildSlice w_build ev_buildL fillL_nil fillL_cons bs0 bs1 ev_conv ev_bin ev_un ev_pick ev_load ev_fieldAddr ev_indexAddr ev_len ev_field ev_extract ev_nilCheck fr_tmp fr_int fr_bool fr_str fr_nil fr_func put_some put_none bin_lss bin_leq bin_gtr bin_geq bin_eql bin_neq bin_add bin_sub bin_mul bin_seql bin_sneq un_not pick_ ext_ loadA_p cellAt_l cellAt_h okPtr_l okPtr_h fadA_p allocA_l storeA_l cells_agg cells_int cells_str cells_sl cells_bool flat_i flat_s flat_b flat_sl flat_nil loc_agg loc_int loc_str loc_sl loc_bool loc_fn loc_ptr okv_agg okv_int okv_str okv_sl okv_bool cellsFrom splice upd_eval argEnv_zero argEnv_succ ne_eq Nat.add_one_ne_zero not_false_eq_true List.not_mem_nil and_self decide_true List.getElem?_cons_zero List.getElem?_cons_succ List.size_toArray List.length_cons List.length_nil List.take_succ_cons List.take_zero List.drop_succ_cons List.drop_zero List.cons_append List.nil_append List.drop_nil Bool.not_true Bool.not_false Bool.false_eq_true Nat.zero_add Nat.add_zero wrap_in List.toList_toArray List.mem_cons or_self or_false false_or
attribute [local go_sem] ag22 ag3 ag5 ag62 ag9 bu42 by9 el22 el24 of42_0 of42_1 of42_2 ro9_0 ro9_1 ro9_14 sz22 sz3 sz5 sz62 sz9 ze3 ze62 ze9
-- AUTO

end Go.Proofs.Ytojpgicdhflhpaa.AM


/- The laws FnTerms, FnNames. -/
namespace Go.Proofs.Ytojpgicdhflhpaa.AM
open Go Go.Proofs
set_option linter.unusedVariables false
set_option linter.unusedSimpArgs false
set_option maxRecDepth 100000
attribute [local go_sem] List.map_cons List.map_nil List.all_cons List.all_nil Bool.and_self Option.map_some List.getElem?_toArray Option.bind_some gye_b gye_t gsk_b gsk_t gb1 gb2 gb3 gb4 bne_self_eq_false beq_self_eq_true w_guard w_nil stepV_some step_some step_some' w_move w_assign w_pick w_binOp w_unOp w_load w_fieldAddr w_indexAddr w_len w_max w_index ev_max max_int ev_index w_box w_alloc w_store w_field w_extract w_nilCheck w_convert w_buildSlice w_build ev_buildL fillL_nil fillL_cons bs0 bs1 ev_conv ev_bin ev_un ev_pick ev_load ev_fieldAddr ev_indexAddr ev_len ev_field ev_extract ev_nilCheck fr_tmp fr_int fr_bool fr_str fr_nil fr_func put_some put_none bin_lss bin_leq bin_gtr bin_geq bin_eql bin_neq bin_add bin_sub bin_mul bin_seql bin_sneq un_not pick_ ext_ loadA_p cellAt_l cellAt_h okPtr_l okPtr_h fadA_p allocA_l storeA_l cells_agg cells_int cells_str cells_sl cells_bool flat_i flat_s flat_b flat_sl flat_nil loc_agg loc_int loc_str loc_sl loc_bool loc_fn loc_ptr okv_agg okv_int okv_str okv_sl okv_bool cellsFrom splice upd_eval argEnv_zero argEnv_succ ne_eq Nat.add_one_ne_zero not_false_eq_true List.not_mem_nil and_self decide_true List.getElem?_cons_zero List.getElem?_cons_succ List.size_toArray List.length_cons List.length_nil List.take_succ_cons List.take_zero List.drop_succ_cons List.drop_zero List.cons_append List.nil_append List.drop_nil Bool.not_true Bool.not_false Bool.false_eq_true Nat.zero_add Nat.add_zero wrap_in List.toList_toArray List.mem_cons or_self or_false false_or
attribute [local go_sem] ag22 ag3 ag5 ag62 ag9 bu42 by9 el22 el24 of42_0 of42_1 of42_2 ro9_0 ro9_1 ro9_14 sz22 sz3 sz5 sz62 sz9 ze3 ze62 ze9
-- AUTO

theorem bent_limN {t : T} (h : BentP t) : LimN 1073741824 t := LimN.of_wt _ (by have := h.2; omega)
theorem bent_count {t : T} (h : BentP t) : t.count ≤ 101 ∧ t.depth ≤ 101 := by
  have h1 := T.count_wt t
  have h2 := T.depth_count t
  have := h.2
  omega
theorem names_zero (l : List ByteArray) : (((namesB l).length : Int) == 0) = (((l.length : Int)) == 0) := by
  cases l with
  | nil => rfl
  | cons x xs =>
    have h1 : x.data.toList ∈ chs (namesB (x :: xs)) := (names_mem _ _).2 (by simp [chs])
    have h2 : (chs (namesB (x :: xs))).length ≠ 0 := fun e => by
      rw [List.eq_nil_of_length_eq_zero e] at h1; cases h1
    rw [chs_length] at h2
    have e1 : (((namesB (x :: xs)).length : Int) == 0) = false := by simp; intro e; rw [e] at h2; exact h2 rfl
    have e2 : ((((x :: xs).length : Int)) == 0) = false := by simp; omega
    rw [e1, e2]
theorem mem_names {xs : List ByteArray} {w : ByteArray} : w ∈ namesB xs ↔ w ∈ xs := by
  have h : ∀ l : List ByteArray, w ∈ l ↔ w.data.toList ∈ chs l := fun l => by
    unfold chs
    constructor
    · intro h; exact List.mem_map.2 ⟨w, h, rfl⟩
    · intro h
      obtain ⟨y, h1, h2⟩ := List.mem_map.1 h
      have : y = w := ByteArray.ext (Array.ext' h2)
      rw [← this]; exact h1
  rw [h, h, names_mem]
theorem wFnNames (st : St) (bs : List Byt) (s : Value) (hr : RowY st bs s) (hN : bs.length ≤ maxLen) : CallS Try.prog 3 [s] st fun r _ => r = .bool true := by
  refine CallS_of_W [] 85 Try.func3 rfl rfl rfl rfl (by simp) ?_
  have q1 := hr.notLoc.1
  have bne1 : ∀ (x y : Operand) (a b : Bool), binE Try.prog .neq 4 x y (.bool a) (.bool b) = some (.bool !(a == b)) := fun x y a b => bin_bneq Try.underlying4
  have beq1 : ∀ (x y : Operand) (a b : Bool), binE Try.prog .eql 4 x y (.bool a) (.bool b) = some (.bool (a == b)) := fun x y a b => bin_beql Try.underlying4
  repeat (first | (refine W_reg rfl fun G K hG hK => ?_; simp (disch := omega) only [go_sem, ↓reduceIte, Nat.reduceEqDiff, Nat.reduceAdd, Nat.reduceLeDiff, hG, q1, bne1, beq1]; refine hK _ _ ?_; clear hK K hG G) | (refine W_end rfl fun G K hG hK => ?_; simp (disch := omega) only [go_sem, ↓reduceIte, Nat.reduceEqDiff, Nat.reduceAdd, Nat.reduceLeDiff, hG, q1, bne1, beq1]; refine hK _ _ ?_; clear hK K hG G; repeat (first | refine thenI ?_ | refine thenE ?_ | refine thenR ?_ | refine inBI ?_ | refine inBR ?_ | refine inBS ?_ | refine inBN (by decide) ?_)) | refine W_seqS ?_ | refine W_seqC ?_ | refine W_seqB ?_ | refine W_block ?_ | (refine W_skip ?_; repeat (first | refine thenI ?_ | refine thenE ?_ | refine thenR ?_ | refine inBI ?_ | refine inBR ?_ | refine inBS ?_ | refine inBN (by decide) ?_)) | (refine W_condT ?hc ?_; (case hc => (simp (disch := omega) only [go_sem, ↓reduceIte, Nat.reduceEqDiff, Nat.reduceAdd, Nat.reduceLeDiff, q1, bne1, beq1]; done))) | (refine W_condF ?hc ?_; (case hc => (simp (disch := omega) only [go_sem, ↓reduceIte, Nat.reduceEqDiff, Nat.reduceAdd, Nat.reduceLeDiff, q1, bne1, beq1]; done))))
  (repeat (first | refine W_seqS ?_ | refine W_seqC ?_ | refine W_seqB ?_ | refine W_block ?_)); refine W_reg rfl fun G K hG hK => ?_; simp (disch := omega) only [go_sem, ↓reduceIte, Nat.reduceEqDiff, Nat.reduceAdd, Nat.reduceLeDiff, hG, q1, bne1, beq1]
  refine w_call (big_ok bs st s hr) (by simp (disch := omega) only [go_sem, ↓reduceIte, Nat.reduceEqDiff, q1, bne1, beq1]) ?hl ?_
  case hl => first | rfl | (simp only [go_sem, List.all_cons, List.all_nil, Bool.not_false, Bool.and_self, q1, bne1, beq1]; done)
  rintro r_ st ⟨rfl, rfl⟩; refine ⟨fun e => (by cases e), ?_⟩
  simp (disch := omega) only [go_sem, ↓reduceIte, Nat.reduceEqDiff, Nat.reduceAdd, Nat.reduceLeDiff, hG, q1, bne1, beq1]; refine hK _ _ ?_; clear hK K hG G; repeat (first | refine thenI ?_ | refine thenE ?_ | refine thenR ?_ | refine inBI ?_ | refine inBR ?_ | refine inBS ?_ | refine inBN (by decide) ?_)
  cases hb : decide ((bs.length : Int) > 1048576) with
  | true =>
    repeat (first | (refine W_reg rfl fun G K hG hK => ?_; simp (disch := omega) only [go_sem, ↓reduceIte, Nat.reduceEqDiff, Nat.reduceAdd, Nat.reduceLeDiff, hG, q1, bne1, beq1]; refine hK _ _ ?_; clear hK K hG G) | (refine W_end rfl fun G K hG hK => ?_; simp (disch := omega) only [go_sem, ↓reduceIte, Nat.reduceEqDiff, Nat.reduceAdd, Nat.reduceLeDiff, hG, q1, bne1, beq1]; refine hK _ _ ?_; clear hK K hG G; repeat (first | refine thenI ?_ | refine thenE ?_ | refine thenR ?_ | refine inBI ?_ | refine inBR ?_ | refine inBS ?_ | refine inBN (by decide) ?_)) | refine W_seqS ?_ | refine W_seqC ?_ | refine W_seqB ?_ | refine W_block ?_ | (refine W_skip ?_; repeat (first | refine thenI ?_ | refine thenE ?_ | refine thenR ?_ | refine inBI ?_ | refine inBR ?_ | refine inBS ?_ | refine inBN (by decide) ?_)) | (refine W_condT ?hc ?_; (case hc => (simp (disch := omega) only [go_sem, ↓reduceIte, Nat.reduceEqDiff, Nat.reduceAdd, Nat.reduceLeDiff, q1, bne1, beq1]; done))) | (refine W_condF ?hc ?_; (case hc => (simp (disch := omega) only [go_sem, ↓reduceIte, Nat.reduceEqDiff, Nat.reduceAdd, Nat.reduceLeDiff, q1, bne1, beq1]; done))))
    refine W_ret ?_; try (repeat (first | refine thenI ?_ | refine thenE ?_ | refine thenR ?_ | refine inBI ?_ | refine inBR ?_ | refine inBS ?_ | refine inBN (by decide) ?_))
    refine fin1 (.inl rfl) (by (simp (disch := omega) only [go_sem, ↓reduceIte, Nat.reduceEqDiff, Nat.reduceAdd, Nat.reduceLeDiff, q1, bne1, beq1]); try rfl) rfl rfl
  | false =>
  have hbig : bs.length ≤ 4611686018427387904 := by simp at hb; omega
  repeat (first | (refine W_reg rfl fun G K hG hK => ?_; simp (disch := omega) only [go_sem, ↓reduceIte, Nat.reduceEqDiff, Nat.reduceAdd, Nat.reduceLeDiff, hG, q1, bne1, beq1]; refine hK _ _ ?_; clear hK K hG G) | (refine W_end rfl fun G K hG hK => ?_; simp (disch := omega) only [go_sem, ↓reduceIte, Nat.reduceEqDiff, Nat.reduceAdd, Nat.reduceLeDiff, hG, q1, bne1, beq1]; refine hK _ _ ?_; clear hK K hG G; repeat (first | refine thenI ?_ | refine thenE ?_ | refine thenR ?_ | refine inBI ?_ | refine inBR ?_ | refine inBS ?_ | refine inBN (by decide) ?_)) | refine W_seqS ?_ | refine W_seqC ?_ | refine W_seqB ?_ | refine W_block ?_ | (refine W_skip ?_; repeat (first | refine thenI ?_ | refine thenE ?_ | refine thenR ?_ | refine inBI ?_ | refine inBR ?_ | refine inBS ?_ | refine inBN (by decide) ?_)) | (refine W_condT ?hc ?_; (case hc => (simp (disch := omega) only [go_sem, ↓reduceIte, Nat.reduceEqDiff, Nat.reduceAdd, Nat.reduceLeDiff, q1, bne1, beq1]; done))) | (refine W_condF ?hc ?_; (case hc => (simp (disch := omega) only [go_sem, ↓reduceIte, Nat.reduceEqDiff, Nat.reduceAdd, Nat.reduceLeDiff, q1, bne1, beq1]; done))))
  (repeat (first | refine W_seqS ?_ | refine W_seqC ?_ | refine W_seqB ?_ | refine W_block ?_)); refine W_reg rfl fun G K hG hK => ?_; simp (disch := omega) only [go_sem, ↓reduceIte, Nat.reduceEqDiff, Nat.reduceAdd, Nat.reduceLeDiff, hG, q1, bne1, beq1]
  refine w_call (drawNames_ok bs st s hbig hr) (by simp (disch := omega) only [go_sem, ↓reduceIte, Nat.reduceEqDiff, q1, bne1, beq1]) ?hl ?_
  case hl => first | rfl | (simp only [go_sem, List.all_cons, List.all_nil, Bool.not_false, Bool.and_self, q1, bne1, beq1]; done)
  rintro rv sa ⟨x1, xs, L, ⟨h6, hsz⟩, hs, hf⟩; refine ⟨fun e => (by cases e), ?_⟩
  have a1 := hs.loc
  simp (disch := omega) only [go_sem, ↓reduceIte, Nat.reduceEqDiff, Nat.reduceAdd, Nat.reduceLeDiff, hG, q1, bne1, beq1, a1]; refine hK _ _ ?_; clear hK K hG G; repeat (first | refine thenI ?_ | refine thenE ?_ | refine thenR ?_ | refine inBI ?_ | refine inBR ?_ | refine inBS ?_ | refine inBN (by decide) ?_)
  (repeat (first | refine W_seqS ?_ | refine W_seqC ?_ | refine W_seqB ?_ | refine W_block ?_)); refine W_reg rfl fun G K hG hK => ?_; simp (disch := omega) only [go_sem, ↓reduceIte, Nat.reduceEqDiff, Nat.reduceAdd, Nat.reduceLeDiff, hG, q1, bne1, beq1, a1]
  refine w_call (implSort_ok xs sa rv (by omega) hs.row) (by simp (disch := omega) only [go_sem, ↓reduceIte, Nat.reduceEqDiff, q1, bne1, beq1, a1]) ?hl ?_
  case hl => first | rfl | (simp only [go_sem, List.all_cons, List.all_nil, Bool.not_false, Bool.and_self, q1, bne1, beq1, a1]; done)
  rintro rw_ sb ⟨x2, L2, hs2, hf2⟩; refine ⟨fun e => (by cases e), ?_⟩
  have a2 := hs2.loc
  simp (disch := omega) only [go_sem, ↓reduceIte, Nat.reduceEqDiff, Nat.reduceAdd, Nat.reduceLeDiff, hG, q1, bne1, beq1, a1, a2]; refine hK _ _ ?_; clear hK K hG G; repeat (first | refine thenI ?_ | refine thenE ?_ | refine thenR ?_ | refine inBI ?_ | refine inBR ?_ | refine inBS ?_ | refine inBN (by decide) ?_)
  have hnl := names_length xs
  have hrow := hs.row.ext x2
  (repeat (first | refine W_seqS ?_ | refine W_seqC ?_ | refine W_seqB ?_ | refine W_block ?_)); refine W_reg rfl fun G K hG hK => ?_; simp (disch := omega) only [go_sem, ↓reduceIte, Nat.reduceEqDiff, Nat.reduceAdd, Nat.reduceLeDiff, hG, q1, bne1, beq1, a1, a2]
  refine w_call (specSort_ok xs sb rv (by omega) hrow) (by simp (disch := omega) only [go_sem, ↓reduceIte, Nat.reduceEqDiff, q1, bne1, beq1, a1, a2]) ?hl ?_
  case hl => first | rfl | (simp only [go_sem, List.all_cons, List.all_nil, Bool.not_false, Bool.and_self, q1, bne1, beq1, a1, a2]; done)
  rintro rx sc ⟨x3, L3, hs3, hf3⟩; refine ⟨fun e => (by cases e), ?_⟩
  have a3 := hs3.loc
  simp (disch := omega) only [go_sem, ↓reduceIte, Nat.reduceEqDiff, Nat.reduceAdd, Nat.reduceLeDiff, q1, bne1, beq1, a1, a2, hG, a3]
  refine w_call (sameTexts_ok (namesB xs) sc rw_ rx (by omega) (hs2.row.ext x3) hs3.row) (by simp (disch := omega) only [go_sem, ↓reduceIte, Nat.reduceEqDiff, q1, bne1, beq1, a1, a2, a3]) ?hl ?_
  case hl => first | rfl | (simp only [go_sem, List.all_cons, List.all_nil, Bool.not_false, Bool.and_self, q1, bne1, beq1, a1, a2, a3]; done)
  rintro r_ sc ⟨rfl, rfl⟩; refine ⟨fun e => (by cases e), ?_⟩
  simp (disch := omega) only [go_sem, ↓reduceIte, Nat.reduceEqDiff, Nat.reduceAdd, Nat.reduceLeDiff, q1, bne1, beq1, a1, a2, hG, a3]
  refine w_call (rising_ok (namesB xs) sc rw_ (by omega) (hs2.row.ext x3) (names_strict _)) (by simp (disch := omega) only [go_sem, ↓reduceIte, Nat.reduceEqDiff, q1, bne1, beq1, a1, a2]) ?hl ?_
  case hl => first | rfl | (simp only [go_sem, List.all_cons, List.all_nil, Bool.not_false, Bool.and_self, q1, bne1, beq1, a1, a2]; done)
  rintro r_ sc ⟨rfl, rfl⟩; refine ⟨fun e => (by cases e), ?_⟩
  simp (disch := omega) only [go_sem, ↓reduceIte, Nat.reduceEqDiff, Nat.reduceAdd, Nat.reduceLeDiff, q1, bne1, beq1, a1, a2, hG]
  refine w_call (distinct_ok (namesB xs) sc rw_ (by omega) (hs2.row.ext x3)) (by simp (disch := omega) only [go_sem, ↓reduceIte, Nat.reduceEqDiff, q1, bne1, beq1, a1, a2]) ?hl ?_
  case hl => first | rfl | (simp only [go_sem, List.all_cons, List.all_nil, Bool.not_false, Bool.and_self, q1, bne1, beq1, a1, a2]; done)
  rintro r_ sd ⟨x4, rfl⟩; refine ⟨fun e => (by cases e), ?_⟩
  have f1 : (((namesB (namesB xs)).length : Int) == ((namesB xs).length : Int)) = true := by
    have := (names_all (namesB xs)).2 (strict_nodup (names_strict xs))
    simp; omega
  simp (disch := omega) only [go_sem, ↓reduceIte, Nat.reduceEqDiff, Nat.reduceAdd, Nat.reduceLeDiff, hG, q1, bne1, beq1, a1, a2, f1]; refine hK _ _ ?_; clear hK K hG G; repeat (first | refine thenI ?_ | refine thenE ?_ | refine thenR ?_ | refine inBI ?_ | refine inBR ?_ | refine inBS ?_ | refine inBN (by decide) ?_)
  have hrow4 := (hrow.ext x3).ext x4
  have hout4 := (hs2.row.ext x3).ext x4
  have hlen : lenE Try.prog 24 rv = some (.int .i64 xs.length) := row_len hrow4 Try.underlying24
  repeat (first | (refine W_reg rfl fun G K hG hK => ?_; simp (disch := omega) only [go_sem, ↓reduceIte, Nat.reduceEqDiff, Nat.reduceAdd, Nat.reduceLeDiff, hG, q1, bne1, beq1, a1, a2, hlen]; refine hK _ _ ?_; clear hK K hG G) | (refine W_end rfl fun G K hG hK => ?_; simp (disch := omega) only [go_sem, ↓reduceIte, Nat.reduceEqDiff, Nat.reduceAdd, Nat.reduceLeDiff, hG, q1, bne1, beq1, a1, a2, hlen]; refine hK _ _ ?_; clear hK K hG G; repeat (first | refine thenI ?_ | refine thenE ?_ | refine thenR ?_ | refine inBI ?_ | refine inBR ?_ | refine inBS ?_ | refine inBN (by decide) ?_)) | refine W_seqS ?_ | refine W_seqC ?_ | refine W_seqB ?_ | refine W_block ?_ | (refine W_skip ?_; repeat (first | refine thenI ?_ | refine thenE ?_ | refine thenR ?_ | refine inBI ?_ | refine inBR ?_ | refine inBS ?_ | refine inBN (by decide) ?_)) | (refine W_condT ?hc ?_; (case hc => (simp (disch := omega) only [go_sem, ↓reduceIte, Nat.reduceEqDiff, Nat.reduceAdd, Nat.reduceLeDiff, q1, bne1, beq1, a1, a2, hlen]; done))) | (refine W_condF ?hc ?_; (case hc => (simp (disch := omega) only [go_sem, ↓reduceIte, Nat.reduceEqDiff, Nat.reduceAdd, Nat.reduceLeDiff, q1, bne1, beq1, a1, a2, hlen]; done))))
  refine W_loop (fun d fr st' => ∃ (j : Nat) , d = xs.length - j ∧ j ≤ xs.length ∧ (st' = sd) ∧ (fr.env 3 = rv) ∧ (fr.env 4 = rw_) ∧ (fr.env 5 = .int .i64 j)) (xs.length) ?_ ?_
  · exact ⟨0, by omega, by omega, rfl, (by (simp (disch := omega) only [go_sem, ↓reduceIte, Nat.reduceEqDiff, Nat.reduceAdd, Nat.reduceLeDiff, q1, bne1, beq1, a1, a2, hlen]); try rfl), (by (simp (disch := omega) only [go_sem, ↓reduceIte, Nat.reduceEqDiff, Nat.reduceAdd, Nat.reduceLeDiff, q1, bne1, beq1, a1, a2, hlen]); try rfl), (by (simp (disch := omega) only [go_sem, ↓reduceIte, Nat.reduceEqDiff, Nat.reduceAdd, Nat.reduceLeDiff, q1, bne1, beq1, a1, a2, hlen]); try rfl)⟩
  rintro d ⟨env, loc⟩ st' ⟨j, hd, hj, hst, e3, e4, e5⟩
  simp only at e3 e4 e5
  subst hst
  by_cases hlt : j < xs.length
  · have c1 : decide ((j : Int) < (xs.length : Int)) = true := by simpa using hlt
    have hi := idxOk hlt
    have hx : xs[j]? = some xs[j] := List.getElem?_eq_getElem hlt
    have htk : xs.take (j + 1) = xs.take j ++ [xs[j]] := List.take_succ_eq_append_getElem hlt
    obtain ⟨i, o, c, rfl, hce⟩ := row_atS hrow4 hx
    have hwb := hsz _ (List.getElem_mem hlt)
    have hin : xs[j] ∈ namesB xs := mem_names.2 (List.getElem_mem hlt)
    have hnv := name_var xs[j]
    have f2 : (!(isName xs[j] == isName xs[j])) = false := by simp
    have f3 : (!(isVar xs[j] == isVar xs[j])) = false := by simp
    repeat (first | (refine W_reg rfl fun G K hG hK => ?_; simp (disch := omega) only [go_sem, ↓reduceIte, Nat.reduceEqDiff, Nat.reduceAdd, Nat.reduceLeDiff, hG, q1, bne1, beq1, a1, a2, hlen, e3, e4, e5, c1, hi, idxA, Int.toNat_natCast]; refine hK _ _ ?_; clear hK K hG G) | (refine W_end rfl fun G K hG hK => ?_; simp (disch := omega) only [go_sem, ↓reduceIte, Nat.reduceEqDiff, Nat.reduceAdd, Nat.reduceLeDiff, hG, q1, bne1, beq1, a1, a2, hlen, e3, e4, e5, c1, hi, idxA, Int.toNat_natCast]; refine hK _ _ ?_; clear hK K hG G; repeat (first | refine thenI ?_ | refine thenE ?_ | refine thenR ?_ | refine inBI ?_ | refine inBR ?_ | refine inBS ?_ | refine inBN (by decide) ?_)) | refine W_seqS ?_ | refine W_seqC ?_ | refine W_seqB ?_ | refine W_block ?_ | (refine W_skip ?_; repeat (first | refine thenI ?_ | refine thenE ?_ | refine thenR ?_ | refine inBI ?_ | refine inBR ?_ | refine inBS ?_ | refine inBN (by decide) ?_)) | (refine W_condT ?hc ?_; (case hc => (simp (disch := omega) only [go_sem, ↓reduceIte, Nat.reduceEqDiff, Nat.reduceAdd, Nat.reduceLeDiff, q1, bne1, beq1, a1, a2, hlen, e3, e4, e5, c1, hi, idxA, Int.toNat_natCast]; done))) | (refine W_condF ?hc ?_; (case hc => (simp (disch := omega) only [go_sem, ↓reduceIte, Nat.reduceEqDiff, Nat.reduceAdd, Nat.reduceLeDiff, q1, bne1, beq1, a1, a2, hlen, e3, e4, e5, c1, hi, idxA, Int.toNat_natCast]; done))))
    (repeat (first | refine W_seqS ?_ | refine W_seqC ?_ | refine W_seqB ?_ | refine W_block ?_)); refine W_regD mixed [] [(0,false),(1,false),(2,false),(3,false),(4,false),(5,true),(6,false),(7,false),(8,false),(9,false),(10,false),(11,false),(12,true),(13,false),(14,false),(15,false),(16,false),(17,false),(18,true),(19,false),(20,false),(21,false),(22,false),(23,false),(24,false),(25,false),(27,false),(28,false),(29,false),(30,false),(26,true),(31,true),(32,false),(33,false),(34,false),(35,false),(36,false),(37,false),(38,false),(40,false),(41,false),(42,false),(43,false),(39,true),(44,true),(45,false),(46,false)] rfl (by decide +kernel) fun G K hG hK => ?_; simp only [pickOps, List.filterMap_cons, List.filterMap_nil, List.getElem?_cons_zero, List.getElem?_cons_succ, Option.map_some]; simp (disch := omega) only [go_sem, ↓reduceIte, Nat.reduceEqDiff, Nat.reduceAdd, Nat.reduceLeDiff, hG, q1, bne1, beq1, a1, a2, hlen, e3, e4, e5, c1, hi, idxA, Int.toNat_natCast, hce]
    refine w_call (indexOf_ok (namesB xs) xs[j] st' rw_ (by omega) hout4) (by simp (disch := omega) only [go_sem, ↓reduceIte, Nat.reduceEqDiff, q1, bne1, beq1, a1, a2, hlen, e3, e4, e5, c1, hi, idxA, Int.toNat_natCast]) ?hl ?_
    case hl => first | rfl | (simp only [go_sem, List.all_cons, List.all_nil, Bool.not_false, Bool.and_self, q1, bne1, beq1, a1, a2, hlen, e3, e4, e5, c1, hi, idxA, Int.toNat_natCast]; done)
    rintro r_ st' ⟨⟨z, rfl, hz⟩, rfl⟩; refine ⟨fun e => Ext.refl _, ?_⟩
    have hz0 : 0 ≤ z := by
      rcases hz with h | h
      · exact h.2
      · exact absurd hin h.1
    have f4 : decide (z < 0) = false := by simp; omega
    simp (disch := omega) only [go_sem, ↓reduceIte, Nat.reduceEqDiff, Nat.reduceAdd, Nat.reduceLeDiff, q1, bne1, beq1, a1, a2, hlen, e3, e4, e5, c1, hi, idxA, Int.toNat_natCast, hG, hce, f4]
    refine w_call (implIsName_ok xs[j] st') (by simp (disch := omega) only [go_sem, ↓reduceIte, Nat.reduceEqDiff, q1, bne1, beq1, a1, a2, hlen, e3, e4, e5, c1, hi, idxA, Int.toNat_natCast]) ?hl ?_
    case hl => first | rfl | (simp only [go_sem, List.all_cons, List.all_nil, Bool.not_false, Bool.and_self, q1, bne1, beq1, a1, a2, hlen, e3, e4, e5, c1, hi, idxA, Int.toNat_natCast]; done)
    rintro r_ st' ⟨rfl, rfl⟩; refine ⟨fun e => Ext.refl _, ?_⟩
    cases hnm : isName xs[j] with
    | true =>
      have hvr : isVar xs[j] = false := by rw [hnm] at hnv; simpa using hnv
      simp (disch := omega) only [go_sem, ↓reduceIte, Nat.reduceEqDiff, Nat.reduceAdd, Nat.reduceLeDiff, q1, bne1, beq1, a1, a2, hlen, e3, e4, e5, c1, hi, idxA, Int.toNat_natCast, hG, hce, f4]
      refine w_call (implIsVar_ok xs[j] st') (by simp (disch := omega) only [go_sem, ↓reduceIte, Nat.reduceEqDiff, q1, bne1, beq1, a1, a2, hlen, e3, e4, e5, c1, hi, idxA, Int.toNat_natCast]) ?hl ?_
      case hl => first | rfl | (simp only [go_sem, List.all_cons, List.all_nil, Bool.not_false, Bool.and_self, q1, bne1, beq1, a1, a2, hlen, e3, e4, e5, c1, hi, idxA, Int.toNat_natCast]; done)
      rintro r_ st' ⟨rfl, rfl⟩; refine ⟨fun e => Ext.refl _, ?_⟩
      rw [hvr]
      simp (disch := omega) only [go_sem, ↓reduceIte, Nat.reduceEqDiff, Nat.reduceAdd, Nat.reduceLeDiff, q1, bne1, beq1, a1, a2, hlen, e3, e4, e5, c1, hi, idxA, Int.toNat_natCast, hG, hce, f4]
      refine w_call (implIsName_ok xs[j] st') (by simp (disch := omega) only [go_sem, ↓reduceIte, Nat.reduceEqDiff, q1, bne1, beq1, a1, a2, hlen, e3, e4, e5, c1, hi, idxA, Int.toNat_natCast]) ?hl ?_
      case hl => first | rfl | (simp only [go_sem, List.all_cons, List.all_nil, Bool.not_false, Bool.and_self, q1, bne1, beq1, a1, a2, hlen, e3, e4, e5, c1, hi, idxA, Int.toNat_natCast]; done)
      rintro r_ st' ⟨rfl, rfl⟩; refine ⟨fun e => Ext.refl _, ?_⟩
      simp (disch := omega) only [go_sem, ↓reduceIte, Nat.reduceEqDiff, Nat.reduceAdd, Nat.reduceLeDiff, q1, bne1, beq1, a1, a2, hlen, e3, e4, e5, c1, hi, idxA, Int.toNat_natCast, hG, hce, f4]
      refine w_call (specIsName_ok xs[j] (by omega) st') (by simp (disch := omega) only [go_sem, ↓reduceIte, Nat.reduceEqDiff, q1, bne1, beq1, a1, a2, hlen, e3, e4, e5, c1, hi, idxA, Int.toNat_natCast]) ?hl ?_
      case hl => first | rfl | (simp only [go_sem, List.all_cons, List.all_nil, Bool.not_false, Bool.and_self, q1, bne1, beq1, a1, a2, hlen, e3, e4, e5, c1, hi, idxA, Int.toNat_natCast]; done)
      rintro r_ st' ⟨rfl, rfl⟩; refine ⟨fun e => Ext.refl _, ?_⟩
      simp (disch := omega) only [go_sem, ↓reduceIte, Nat.reduceEqDiff, Nat.reduceAdd, Nat.reduceLeDiff, q1, bne1, beq1, a1, a2, hlen, e3, e4, e5, c1, hi, idxA, Int.toNat_natCast, hG, hce, f4, f2]
      refine w_call (implIsVar_ok xs[j] st') (by simp (disch := omega) only [go_sem, ↓reduceIte, Nat.reduceEqDiff, q1, bne1, beq1, a1, a2, hlen, e3, e4, e5, c1, hi, idxA, Int.toNat_natCast]) ?hl ?_
      case hl => first | rfl | (simp only [go_sem, List.all_cons, List.all_nil, Bool.not_false, Bool.and_self, q1, bne1, beq1, a1, a2, hlen, e3, e4, e5, c1, hi, idxA, Int.toNat_natCast]; done)
      rintro r_ st' ⟨rfl, rfl⟩; refine ⟨fun e => Ext.refl _, ?_⟩
      simp (disch := omega) only [go_sem, ↓reduceIte, Nat.reduceEqDiff, Nat.reduceAdd, Nat.reduceLeDiff, q1, bne1, beq1, a1, a2, hlen, e3, e4, e5, c1, hi, idxA, Int.toNat_natCast, hG, hce, f4]
      refine w_call (specIsVar_ok xs[j] (by omega) st') (by simp (disch := omega) only [go_sem, ↓reduceIte, Nat.reduceEqDiff, q1, bne1, beq1, a1, a2, hlen, e3, e4, e5, c1, hi, idxA, Int.toNat_natCast]) ?hl ?_
      case hl => first | rfl | (simp only [go_sem, List.all_cons, List.all_nil, Bool.not_false, Bool.and_self, q1, bne1, beq1, a1, a2, hlen, e3, e4, e5, c1, hi, idxA, Int.toNat_natCast]; done)
      rintro r_ st' ⟨rfl, rfl⟩; refine ⟨fun e => Ext.refl _, ?_⟩
      simp (disch := omega) only [go_sem, ↓reduceIte, Nat.reduceEqDiff, Nat.reduceAdd, Nat.reduceLeDiff, hG, q1, bne1, beq1, a1, a2, hlen, e3, e4, e5, c1, hi, idxA, Int.toNat_natCast, f3]; refine hK _ _ ?_; clear hK K hG G; repeat (first | refine thenI ?_ | refine thenE ?_ | refine thenR ?_ | refine inBI ?_ | refine inBR ?_ | refine inBS ?_ | refine inBN (by decide) ?_)
      repeat (first | (refine W_reg rfl fun G K hG hK => ?_; simp (disch := omega) only [go_sem, ↓reduceIte, Nat.reduceEqDiff, Nat.reduceAdd, Nat.reduceLeDiff, hG, q1, bne1, beq1, a1, a2, hlen, e3, e4, e5, c1, hi, idxA, Int.toNat_natCast]; refine hK _ _ ?_; clear hK K hG G) | (refine W_end rfl fun G K hG hK => ?_; simp (disch := omega) only [go_sem, ↓reduceIte, Nat.reduceEqDiff, Nat.reduceAdd, Nat.reduceLeDiff, hG, q1, bne1, beq1, a1, a2, hlen, e3, e4, e5, c1, hi, idxA, Int.toNat_natCast]; refine hK _ _ ?_; clear hK K hG G; repeat (first | refine thenI ?_ | refine thenE ?_ | refine thenR ?_ | refine inBI ?_ | refine inBR ?_ | refine inBS ?_ | refine inBN (by decide) ?_)) | refine W_seqS ?_ | refine W_seqC ?_ | refine W_seqB ?_ | refine W_block ?_ | (refine W_skip ?_; repeat (first | refine thenI ?_ | refine thenE ?_ | refine thenR ?_ | refine inBI ?_ | refine inBR ?_ | refine inBS ?_ | refine inBN (by decide) ?_)) | (refine W_condT ?hc ?_; (case hc => (simp (disch := omega) only [go_sem, ↓reduceIte, Nat.reduceEqDiff, Nat.reduceAdd, Nat.reduceLeDiff, q1, bne1, beq1, a1, a2, hlen, e3, e4, e5, c1, hi, idxA, Int.toNat_natCast]; done))) | (refine W_condF ?hc ?_; (case hc => (simp (disch := omega) only [go_sem, ↓reduceIte, Nat.reduceEqDiff, Nat.reduceAdd, Nat.reduceLeDiff, q1, bne1, beq1, a1, a2, hlen, e3, e4, e5, c1, hi, idxA, Int.toNat_natCast]; done))))
      refine ⟨xs.length - (j + 1), by omega, j + 1, rfl, by omega, rfl, (by (simp (disch := omega) only [go_sem, ↓reduceIte, Nat.reduceEqDiff, Nat.reduceAdd, Nat.reduceLeDiff, q1, bne1, beq1, a1, a2, hlen, e3, e4, e5, c1, hi, idxA, Int.toNat_natCast]); try rfl), (by (simp (disch := omega) only [go_sem, ↓reduceIte, Nat.reduceEqDiff, Nat.reduceAdd, Nat.reduceLeDiff, q1, bne1, beq1, a1, a2, hlen, e3, e4, e5, c1, hi, idxA, Int.toNat_natCast]); try rfl), (by (simp (disch := omega) only [go_sem, ↓reduceIte, Nat.reduceEqDiff, Nat.reduceAdd, Nat.reduceLeDiff, q1, bne1, beq1, a1, a2, hlen, e3, e4, e5, c1, hi, idxA, Int.toNat_natCast]); try rfl)⟩
    | false =>
      simp (disch := omega) only [go_sem, ↓reduceIte, Nat.reduceEqDiff, Nat.reduceAdd, Nat.reduceLeDiff, q1, bne1, beq1, a1, a2, hlen, e3, e4, e5, c1, hi, idxA, Int.toNat_natCast, hG, hce, f4]
      refine w_call (implIsName_ok xs[j] st') (by simp (disch := omega) only [go_sem, ↓reduceIte, Nat.reduceEqDiff, q1, bne1, beq1, a1, a2, hlen, e3, e4, e5, c1, hi, idxA, Int.toNat_natCast]) ?hl ?_
      case hl => first | rfl | (simp only [go_sem, List.all_cons, List.all_nil, Bool.not_false, Bool.and_self, q1, bne1, beq1, a1, a2, hlen, e3, e4, e5, c1, hi, idxA, Int.toNat_natCast]; done)
      rintro r_ st' ⟨rfl, rfl⟩; refine ⟨fun e => Ext.refl _, ?_⟩
      simp (disch := omega) only [go_sem, ↓reduceIte, Nat.reduceEqDiff, Nat.reduceAdd, Nat.reduceLeDiff, q1, bne1, beq1, a1, a2, hlen, e3, e4, e5, c1, hi, idxA, Int.toNat_natCast, hG, hce, f4]
      refine w_call (specIsName_ok xs[j] (by omega) st') (by simp (disch := omega) only [go_sem, ↓reduceIte, Nat.reduceEqDiff, q1, bne1, beq1, a1, a2, hlen, e3, e4, e5, c1, hi, idxA, Int.toNat_natCast]) ?hl ?_
      case hl => first | rfl | (simp only [go_sem, List.all_cons, List.all_nil, Bool.not_false, Bool.and_self, q1, bne1, beq1, a1, a2, hlen, e3, e4, e5, c1, hi, idxA, Int.toNat_natCast]; done)
      rintro r_ st' ⟨rfl, rfl⟩; refine ⟨fun e => Ext.refl _, ?_⟩
      simp (disch := omega) only [go_sem, ↓reduceIte, Nat.reduceEqDiff, Nat.reduceAdd, Nat.reduceLeDiff, q1, bne1, beq1, a1, a2, hlen, e3, e4, e5, c1, hi, idxA, Int.toNat_natCast, hG, hce, f4, f2]
      refine w_call (implIsVar_ok xs[j] st') (by simp (disch := omega) only [go_sem, ↓reduceIte, Nat.reduceEqDiff, q1, bne1, beq1, a1, a2, hlen, e3, e4, e5, c1, hi, idxA, Int.toNat_natCast]) ?hl ?_
      case hl => first | rfl | (simp only [go_sem, List.all_cons, List.all_nil, Bool.not_false, Bool.and_self, q1, bne1, beq1, a1, a2, hlen, e3, e4, e5, c1, hi, idxA, Int.toNat_natCast]; done)
      rintro r_ st' ⟨rfl, rfl⟩; refine ⟨fun e => Ext.refl _, ?_⟩
      simp (disch := omega) only [go_sem, ↓reduceIte, Nat.reduceEqDiff, Nat.reduceAdd, Nat.reduceLeDiff, q1, bne1, beq1, a1, a2, hlen, e3, e4, e5, c1, hi, idxA, Int.toNat_natCast, hG, hce, f4]
      refine w_call (specIsVar_ok xs[j] (by omega) st') (by simp (disch := omega) only [go_sem, ↓reduceIte, Nat.reduceEqDiff, q1, bne1, beq1, a1, a2, hlen, e3, e4, e5, c1, hi, idxA, Int.toNat_natCast]) ?hl ?_
      case hl => first | rfl | (simp only [go_sem, List.all_cons, List.all_nil, Bool.not_false, Bool.and_self, q1, bne1, beq1, a1, a2, hlen, e3, e4, e5, c1, hi, idxA, Int.toNat_natCast]; done)
      rintro r_ st' ⟨rfl, rfl⟩; refine ⟨fun e => Ext.refl _, ?_⟩
      simp (disch := omega) only [go_sem, ↓reduceIte, Nat.reduceEqDiff, Nat.reduceAdd, Nat.reduceLeDiff, hG, q1, bne1, beq1, a1, a2, hlen, e3, e4, e5, c1, hi, idxA, Int.toNat_natCast, f3]; refine hK _ _ ?_; clear hK K hG G; repeat (first | refine thenI ?_ | refine thenE ?_ | refine thenR ?_ | refine inBI ?_ | refine inBR ?_ | refine inBS ?_ | refine inBN (by decide) ?_)
      repeat (first | (refine W_reg rfl fun G K hG hK => ?_; simp (disch := omega) only [go_sem, ↓reduceIte, Nat.reduceEqDiff, Nat.reduceAdd, Nat.reduceLeDiff, hG, q1, bne1, beq1, a1, a2, hlen, e3, e4, e5, c1, hi, idxA, Int.toNat_natCast]; refine hK _ _ ?_; clear hK K hG G) | (refine W_end rfl fun G K hG hK => ?_; simp (disch := omega) only [go_sem, ↓reduceIte, Nat.reduceEqDiff, Nat.reduceAdd, Nat.reduceLeDiff, hG, q1, bne1, beq1, a1, a2, hlen, e3, e4, e5, c1, hi, idxA, Int.toNat_natCast]; refine hK _ _ ?_; clear hK K hG G; repeat (first | refine thenI ?_ | refine thenE ?_ | refine thenR ?_ | refine inBI ?_ | refine inBR ?_ | refine inBS ?_ | refine inBN (by decide) ?_)) | refine W_seqS ?_ | refine W_seqC ?_ | refine W_seqB ?_ | refine W_block ?_ | (refine W_skip ?_; repeat (first | refine thenI ?_ | refine thenE ?_ | refine thenR ?_ | refine inBI ?_ | refine inBR ?_ | refine inBS ?_ | refine inBN (by decide) ?_)) | (refine W_condT ?hc ?_; (case hc => (simp (disch := omega) only [go_sem, ↓reduceIte, Nat.reduceEqDiff, Nat.reduceAdd, Nat.reduceLeDiff, q1, bne1, beq1, a1, a2, hlen, e3, e4, e5, c1, hi, idxA, Int.toNat_natCast]; done))) | (refine W_condF ?hc ?_; (case hc => (simp (disch := omega) only [go_sem, ↓reduceIte, Nat.reduceEqDiff, Nat.reduceAdd, Nat.reduceLeDiff, q1, bne1, beq1, a1, a2, hlen, e3, e4, e5, c1, hi, idxA, Int.toNat_natCast]; done))))
      refine ⟨xs.length - (j + 1), by omega, j + 1, rfl, by omega, rfl, (by (simp (disch := omega) only [go_sem, ↓reduceIte, Nat.reduceEqDiff, Nat.reduceAdd, Nat.reduceLeDiff, q1, bne1, beq1, a1, a2, hlen, e3, e4, e5, c1, hi, idxA, Int.toNat_natCast]); try rfl), (by (simp (disch := omega) only [go_sem, ↓reduceIte, Nat.reduceEqDiff, Nat.reduceAdd, Nat.reduceLeDiff, q1, bne1, beq1, a1, a2, hlen, e3, e4, e5, c1, hi, idxA, Int.toNat_natCast]); try rfl), (by (simp (disch := omega) only [go_sem, ↓reduceIte, Nat.reduceEqDiff, Nat.reduceAdd, Nat.reduceLeDiff, q1, bne1, beq1, a1, a2, hlen, e3, e4, e5, c1, hi, idxA, Int.toNat_natCast]); try rfl)⟩
  · have c1 : decide ((j : Int) < (xs.length : Int)) = false := by simpa using hlt
    have hjn : j = xs.length := by omega
    subst hjn
    repeat (first | (refine W_reg rfl fun G K hG hK => ?_; simp (disch := omega) only [go_sem, ↓reduceIte, Nat.reduceEqDiff, Nat.reduceAdd, Nat.reduceLeDiff, hG, q1, bne1, beq1, a1, a2, hlen, e3, e4, e5, c1]; refine hK _ _ ?_; clear hK K hG G) | (refine W_end rfl fun G K hG hK => ?_; simp (disch := omega) only [go_sem, ↓reduceIte, Nat.reduceEqDiff, Nat.reduceAdd, Nat.reduceLeDiff, hG, q1, bne1, beq1, a1, a2, hlen, e3, e4, e5, c1]; refine hK _ _ ?_; clear hK K hG G; repeat (first | refine thenI ?_ | refine thenE ?_ | refine thenR ?_ | refine inBI ?_ | refine inBR ?_ | refine inBS ?_ | refine inBN (by decide) ?_)) | refine W_seqS ?_ | refine W_seqC ?_ | refine W_seqB ?_ | refine W_block ?_ | (refine W_skip ?_; repeat (first | refine thenI ?_ | refine thenE ?_ | refine thenR ?_ | refine inBI ?_ | refine inBR ?_ | refine inBS ?_ | refine inBN (by decide) ?_)) | (refine W_condT ?hc ?_; (case hc => (simp (disch := omega) only [go_sem, ↓reduceIte, Nat.reduceEqDiff, Nat.reduceAdd, Nat.reduceLeDiff, q1, bne1, beq1, a1, a2, hlen, e3, e4, e5, c1]; done))) | (refine W_condF ?hc ?_; (case hc => (simp (disch := omega) only [go_sem, ↓reduceIte, Nat.reduceEqDiff, Nat.reduceAdd, Nat.reduceLeDiff, q1, bne1, beq1, a1, a2, hlen, e3, e4, e5, c1]; done))))
    refine W_exit ?_; repeat (first | refine thenI ?_ | refine thenE ?_ | refine thenR ?_ | refine inBI ?_ | refine inBR ?_ | refine inBS ?_ | refine inBN (by decide) ?_)
    repeat (first | (refine W_reg rfl fun G K hG hK => ?_; simp (disch := omega) only [go_sem, ↓reduceIte, Nat.reduceEqDiff, Nat.reduceAdd, Nat.reduceLeDiff, hG, q1, bne1, beq1, a1, a2, hlen, e3, e4, e5, c1]; refine hK _ _ ?_; clear hK K hG G) | (refine W_end rfl fun G K hG hK => ?_; simp (disch := omega) only [go_sem, ↓reduceIte, Nat.reduceEqDiff, Nat.reduceAdd, Nat.reduceLeDiff, hG, q1, bne1, beq1, a1, a2, hlen, e3, e4, e5, c1]; refine hK _ _ ?_; clear hK K hG G; repeat (first | refine thenI ?_ | refine thenE ?_ | refine thenR ?_ | refine inBI ?_ | refine inBR ?_ | refine inBS ?_ | refine inBN (by decide) ?_)) | refine W_seqS ?_ | refine W_seqC ?_ | refine W_seqB ?_ | refine W_block ?_ | (refine W_skip ?_; repeat (first | refine thenI ?_ | refine thenE ?_ | refine thenR ?_ | refine inBI ?_ | refine inBR ?_ | refine inBS ?_ | refine inBN (by decide) ?_)) | (refine W_condT ?hc ?_; (case hc => (simp (disch := omega) only [go_sem, ↓reduceIte, Nat.reduceEqDiff, Nat.reduceAdd, Nat.reduceLeDiff, q1, bne1, beq1, a1, a2, hlen, e3, e4, e5, c1]; done))) | (refine W_condF ?hc ?_; (case hc => (simp (disch := omega) only [go_sem, ↓reduceIte, Nat.reduceEqDiff, Nat.reduceAdd, Nat.reduceLeDiff, q1, bne1, beq1, a1, a2, hlen, e3, e4, e5, c1]; done))))
    (repeat (first | refine W_seqS ?_ | refine W_seqC ?_ | refine W_seqB ?_ | refine W_block ?_)); refine W_reg rfl fun G K hG hK => ?_; simp (disch := omega) only [go_sem, ↓reduceIte, Nat.reduceEqDiff, Nat.reduceAdd, Nat.reduceLeDiff, hG, q1, bne1, beq1, a1, a2, hlen, e3, e4, e5, c1]
    refine w_call (without_ok (namesB xs) xs st' rw_ rv (by omega) (by omega) hout4 hrow4 (fun x hx => mem_names.1 hx)) (by simp (disch := omega) only [go_sem, ↓reduceIte, Nat.reduceEqDiff, q1, bne1, beq1, a1, a2, hlen, e3, e4, e5, c1]) ?hl ?_
    case hl => first | rfl | (simp only [go_sem, List.all_cons, List.all_nil, Bool.not_false, Bool.and_self, q1, bne1, beq1, a1, a2, hlen, e3, e4, e5, c1]; done)
    rintro r_ st' ⟨rfl, rfl⟩; refine ⟨fun e => (by cases e), ?_⟩
    have hl0 : lenE Try.prog 24 (.slice none 0 0) = some (.int .i64 0) := len_sl Try.underlying24
    simp (disch := omega) only [go_sem, ↓reduceIte, Nat.reduceEqDiff, Nat.reduceAdd, Nat.reduceLeDiff, hG, q1, bne1, beq1, a1, a2, hlen, e3, e4, e5, c1, hl0]; refine hK _ _ ?_; clear hK K hG G; repeat (first | refine thenI ?_ | refine thenE ?_ | refine thenR ?_ | refine inBI ?_ | refine inBR ?_ | refine inBS ?_ | refine inBN (by decide) ?_)
    refine W_ret ?_; try (repeat (first | refine thenI ?_ | refine thenE ?_ | refine thenR ?_ | refine inBI ?_ | refine inBR ?_ | refine inBS ?_ | refine inBN (by decide) ?_))
    refine fin1 (.inl rfl) (by (simp (disch := omega) only [go_sem, ↓reduceIte, Nat.reduceEqDiff, Nat.reduceAdd, Nat.reduceLeDiff, q1, bne1, beq1, a1, a2, hlen, e3, e4, e5, c1]); try rfl) rfl rfl
end Go.Proofs.Ytojpgicdhflhpaa.AM


/- Arguments: rows of bytes. -/
namespace Go.Proofs.Ytojpgicdhflhpaa.AM
open Go Go.Proofs
set_option linter.unusedVariables false
theorem open_bytes {H : Type} {enc : TypeId × Value → H} {w : World} (fuel : Nat) (cs : List Value) (x : DataW H × List MemPlace) (h : DataW.trod enc Try.prog w 0 (fun _ => true) true fuel 22 cs = some x) :
    ∃ s, ∃ xs : List Byt, cs = [s] ∧ Told w s ∧ RowY (absS w) xs (absV w.heap.size s) ∧ xs.length ≤ maxLen ∧ ∀ z ∈ xs, (Lit.int .u8 z.v).wf = true :=
  open_rowA (E := EncY (absS w)) (G := fun z : Byt => (Lit.int .u8 z.v).wf = true) (sz := 1) Try.underlying22 (by kernel_rfl) (by omega) h fun n_ cs_ y_ hn_ hy_ => by
    obtain ⟨z, rfl, hw⟩ := toldA_int Try.underlying5 hy_
    exact ⟨⟨z⟩, rfl, hw, fun c hc => by cases List.mem_singleton.1 hc; rfl⟩
end Go.Proofs.Ytojpgicdhflhpaa.AM


/- The law FnNames, for every input: it returns true; the input reads as it did. -/
namespace Go.Proofs.Ytojpgicdhflhpaa.fnNames
open Go Go.Proofs Go.ChangeShapes Go.WideShapes Go.ChangeAt Go.RowKit Go.Proofs.Ytojpgicdhflhpaa.AM
open Go.ChangeMaps (open_string shut_string)
set_option linter.unusedVariables false
set_option linter.unusedSimpArgs false
theorem own : ownKnob Try.prog.godebug = none := by kernel_rfl
theorem laidOut : laidOutB Try.prog = true := by kernel_rfl
set_option maxRecDepth 100000 in
theorem lifted (os : Os) (started : os.Started) (H : Type) (enc : TypeId × Value → H) :
    ReturnsInHanded {} Try.checked os 3 .any (Rows.fnNamesSpec.pre6 enc Try.prog Try.f3 Rows.fnNamesRow.domain false) (Rows.fnNamesSpec.post enc Try.prog Try.f3 false true false false) := by
  refine returnsInHanded_of_change_sized (C := Try.checked) own started (by kernel_rfl) Try.func3
    (ChangeSpec.witness6 (enc := enc) (C := Try.checked) false ⟨#[], #[.slice none 0 0], []⟩ 8 (by kernel_rfl) (by kernel_rfl) (by kernel_rfl) (by kernel_rfl)) ?_
  intro W base args ds gs before hval0 hW hcnd hsz0 _
  have hval : ∀ (j : Nat) t v, Try.f3.params[j]? = some t → args[j]? = some v → Value.okWide Try.prog W .any base t v := hval0
  have hW' := hW
  obtain ⟨p, q, hA0, hV, rfl, hfz, hnd⟩ := hW
  have hA : DataW.TrodAll enc Try.prog W 0 (fun _ => true) true Try.f3.params.toList args.toList ds p := hA0
  rw [Try.params3] at hA hval
  obtain ⟨v0, vs0, d0, ds0, p0, q0, hargs, rfl, rfl, h0, r0⟩ := trodAll_cons hA
  obtain ⟨rfl, rfl, rfl⟩ := trodAll_nil r0
  obtain rfl : args = #[v0] := by cases args; simp_all
  obtain ⟨rfl, rfl⟩ := trodVars_none hV
  have k0 := h0
  have lt0 : ∀ x ∈ p0, x.block < W.heap.size := by obtain ⟨m, hm⟩ := k0; exact DataW.trod_lt m _ _ _ hm
  obtain ⟨ad0, len0, cap0, rfl⟩ := okWide_slice Try.underlying22 (hval 0 22 v0 rfl rfl)
  obtain ⟨fuel0, hf0⟩ := h0
  obtain ⟨s0, xs0, hs0, T0, R0, N0, G0⟩ := open_bytes fuel0 _ _ hf0
  obtain rfl : _ = s0 := (List.cons.inj hs0).1
  have hc := wFnNames (absS W) xs0 _ R0 N0
  clear hA0 hval0 hcnd hsz0 hval hA
  refine (hc.enters (noTab (by decide +kernel) (by decide +kernel) (by decide +kernel)) (.cons _ _ _ _ (.inl ⟨T0, rfl⟩) .nil)).mono fun e W' ⟨he, bel⟩ => ?_
  subst he
  exact ⟨_, rfl, _, _, _, [], _, [], hW', trodAll_mk1 (shut_bool Try.underlying4 _), (trodAll_cons_mk (Below.trod laidOut (by kernel_rfl) (of_decide_eq_true (by kernel_rfl)) k0 bel lt0) trodAll_mk0), rfl, bel.frame _, fun h => by cases h⟩
theorem over : Rows.fnNamesRow.holds Try.pinned (OpenSpec.ofChange Rows.fnNamesSpec) :=
  OpenClaim.holds_of_wide 3 Try.f3 rfl rfl rfl rfl rfl rfl rfl ⟨rfl, rfl, rfl, rfl, rfl⟩ rfl rfl rfl rfl rfl (by kernel_rfl) Try.func3 (by kernel_rfl)
    (of_decide_eq_true (by kernel_rfl)) (by unfold Func.isWrapper; first | (rw [if_pos (by decide +kernel)]; kernel_rfl) | (rw [if_neg (by decide +kernel)]; exact ⟨rfl, rfl⟩))
    (fun os started H enc _ => lifted os started H enc)
theorem proved : Rows.FnNamesSaid := over
end Go.Proofs.Ytojpgicdhflhpaa.fnNames
namespace Go.Proofs.Ytojpgicdhflhpaa
/-- The row, under a short name, for the claim. -/
theorem fnNames_holds : Rows.FnNamesSaid := fnNames.proved
end Go.Proofs.Ytojpgicdhflhpaa

