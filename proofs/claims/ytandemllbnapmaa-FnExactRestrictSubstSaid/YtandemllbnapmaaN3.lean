/- Names are sorted: impl.SortNames, out of the shelf's slices.Sort and slices.Compact. -/
import Derived.Test.YtandemllbnapmaaN2
import Derived.Test.YtandemllbnapmaaK4
import Derived.Test.YtandemllbnapmaaShelf
namespace Go.Proofs.Ytandemllbnapmaa.AM
open Go Go.Proofs Go.RowKit Go.Sort
set_option linter.unusedVariables false
set_option linter.unusedSimpArgs false
set_option maxRecDepth 100000
attribute [local go_sem] List.map_cons List.map_nil List.all_cons List.all_nil Bool.and_self Option.map_some List.getElem?_toArray Option.bind_some gye_b gye_t gsk_b gsk_t gb1 gb2 gb3 gb4 bne_self_eq_false beq_self_eq_true w_guard w_nil stepV_some step_some step_some' w_move w_assign w_pick w_binOp w_unOp w_load w_fieldAddr w_indexAddr w_len w_box w_alloc w_store w_field w_extract w_nilCheck w_convert w_buildSlice w_build ev_buildL fillL_nil fillL_cons bs0 bs1 ev_conv ev_bin ev_un ev_pick ev_load ev_fieldAddr ev_indexAddr ev_len ev_field ev_extract ev_nilCheck fr_tmp fr_int fr_bool fr_str fr_nil fr_func put_some put_none bin_lss bin_leq bin_gtr bin_geq bin_eql bin_neq bin_add bin_sub bin_mul bin_seql bin_sneq un_not pick_ ext_ loadA_p cellAt_l cellAt_h okPtr_l okPtr_h fadA_p allocA_l storeA_l cells_agg cells_int cells_str cells_sl cells_bool flat_i flat_s flat_b flat_sl flat_nil loc_agg loc_int loc_str loc_sl loc_bool loc_fn loc_ptr okv_agg okv_int okv_str okv_sl okv_bool cellsFrom splice upd_eval argEnv_zero argEnv_succ ne_eq Nat.add_one_ne_zero not_false_eq_true List.not_mem_nil and_self decide_true List.getElem?_cons_zero List.getElem?_cons_succ List.size_toArray List.length_cons List.length_nil List.take_succ_cons List.take_zero List.drop_succ_cons List.drop_zero List.cons_append List.nil_append List.drop_nil Bool.not_true Bool.not_false Bool.false_eq_true Nat.zero_add Nat.add_zero wrap_in List.toList_toArray List.mem_cons or_self or_false false_or
attribute [local go_sem] ag3 ag35 ag37 ag39 ag40 ag42 ag46 ag77 ag9 bu42 bu46 by42 by46 by9 el22 el23 el26 el35 el40 el57 of37_0 of37_1 of37_2 of37_3 of39_0 of39_1 of42_0 of42_1 of42_2 of42_3 of46_0 of46_1 ro42_0 ro42_1 ro46_0 ro46_1 ro5_1 ro9_0 ro9_1 sz3 sz35 sz37 sz39 sz40 sz42 sz46 sz5 sz77 sz9 ze3 ze42 ze46 ze77 ze9
-- AUTO

/-- One live block has turned: the rest of the tie stays. -/
theorem HR.turn {P : Program} {w w' : World} {M : List ME} {st : St} {i : Nat} {cs cs' : List Value} {e : TypeId} {m : ME} {c' : Array Value} (hH : HR P ⟨w, M, st⟩ M st w) (hi : st[i]? = some ⟨cs, e, 0⟩) (hm : M[i]? = some m)
    (hos : w'.os = w.os) (htp : w'.tape = w.tape) (hout : w'.output = w.output) (hsz : w.heap.size ≤ w'.heap.size) (hoth : ∀ k, k < w.heap.size → k ≠ m.b → w'.heap[k]? = w.heap[k]?)
    (hb : w'.heap[m.b]? = some (.cells c' e (0, 0))) (hs : c'.size = m.n) (hl : cs'.length ≤ m.n) (hcr : CR M cs' c') : HR P ⟨w, M, st⟩ M (st.set i ⟨cs', e, 0⟩) w' := by
  obtain ⟨c, hc, hcs, hcl, hcr0, hap⟩ := hH.blk i _ m hi hm (by simp) (by simp)
  have hilt := (List.getElem?_eq_some_iff.1 hi).1
  have hne : ∀ (j : Nat) b m', st[j]? = some b → M[j]? = some m' → b.stat ≠ 2 → j ≠ i → m'.b ≠ m.b := fun j b m' hj hm' h2 hji e => hji (hH.inj j i b _ m' m hj hi h2 (by simp) hm' hm e)
  have hback : ∀ (j : Nat) b, (st.set i ⟨cs', e, 0⟩)[j]? = some b → b.stat ≠ 2 → ∃ b0, st[j]? = some b0 ∧ b0.stat ≠ 2 := by
    intro j b hj h2
    by_cases hji : i = j
    · subst hji; exact ⟨_, hi, by simp⟩
    · rw [List.getElem?_set_ne hji] at hj; exact ⟨b, hj, h2⟩
  exact {
    len := by rw [List.length_set]; exact hH.len
    pre := fun _ _ h => h
    blk := by
      intro j b m' hj hm' h2 h1
      by_cases hji : i = j
      · subst hji
        rw [List.getElem?_set_self hilt] at hj
        cases hj
        rw [hm] at hm'
        cases hm'
        exact ⟨c', HasC.of hb, hs, hl, hcr.s, hap⟩
      · rw [List.getElem?_set_ne hji] at hj
        obtain ⟨c2, q1, q2, q3, q4, q5⟩ := hH.blk j b m' hj hm' h2 h1
        exact ⟨c2, q1.to (hoth _ (hH.lt j m' hm') (hne j b m' hj hm' h2 (fun e => hji e.symm))), q2, q3, q4, q5⟩
    inj := by
      intro j k b b' m1 m2 hj hk h1 h2 e1 e2 e3
      obtain ⟨b1, hb1, hs1⟩ := hback j b hj h1
      obtain ⟨b2, hb2, hs2⟩ := hback k b' hk h2
      exact hH.inj j k b1 b2 m1 m2 hb1 hb2 hs1 hs2 e1 e2 e3
    lt := fun j m' h => Nat.lt_of_lt_of_le (hH.lt j m' h) hsz
    old := hH.old
    ro := by
      intro j b m' hj hs1 hm'
      have hji : j ≠ i := fun e => by
        subst e
        have hj : st[j]? = some b := hj
        rw [hi] at hj
        cases hj
        cases hs1
      exact ⟨by rw [List.getElem?_set_ne (fun e => hji e.symm)]; exact hj, hoth _ (hH.lt j m' hm') (hne j b m' hj hm' (by omega) hji)⟩
    os := hos
    tape := htp
    output := hout
    size := hsz
    frame := fun k hk hno => hoth k hk (fun e => hno i m hm e.symm) }

theorem put_turn (w : World) (g q : Nat) (d : Array (List UInt8)) (os : Array Obj) : let w' := grow (putRow encStr (Sort.ahead w q) g 0 d) os
    w'.os = w.os ∧ w'.tape = w.tape ∧ w'.output = w.output ∧ w.heap.size ≤ w'.heap.size ∧ ∀ k, k < w.heap.size → k ≠ g → w'.heap[k]? = w.heap[k]? := by
  refine ⟨rfl, rfl, rfl, ?_, ?_⟩
  · show w.heap.size ≤ ((w.heap.modify g (onCells (putCells encStr 0 d))) ++ os).size
    simp
  · intro k hk hne
    show ((w.heap.modify g (onCells (putCells encStr 0 d))) ++ os)[k]? = w.heap[k]?
    rw [Array.getElem?_append_left (by simpa using hk), Array.getElem?_modify, if_neg (fun e => hne e.symm)]
theorem put_block (w : World) (g q : Nat) (d : Array (List UInt8)) (os : Array Obj) (cur : Array Value) (e : TypeId) (h : w.heap[g]? = some (.cells cur e (0, 0))) : (grow (putRow encStr (Sort.ahead w q) g 0 d) os).heap[g]? = some (.cells (putCells encStr 0 d cur) e (0, 0)) := by
  have hlt : g < w.heap.size := (Array.getElem?_eq_some_iff.1 h).1
  show ((w.heap.modify g (onCells (putCells encStr 0 d))) ++ os)[g]? = _
  rw [Array.getElem?_append_left (by simpa using hlt), Array.getElem?_modify, if_pos rfl, h]
  rfl
theorem put_cr (M : List ME) (ys zs : List (List UInt8)) (cur : Array Value) (h : ys.length ≤ cur.size) : CR M ((unchs ys).map Value.string) (putCells encStr 0 (ys ++ zs).toArray cur) := by
  intro j x hx
  have hj : j < ys.length := by
    have := (List.getElem?_eq_some_iff.1 hx).1
    simpa [unchs] using this
  have hx2 : x = .string ⟨ys[j].toArray⟩ := by
    have := (List.getElem?_eq_some_iff.1 hx).2
    rw [← this]
    simp [unchs]
  subst hx2
  refine ⟨rfl, _, ?_, .fl _ rfl⟩
  unfold putCells
  rw [Array.getElem?_mapIdx, Array.getElem?_eq_getElem (by omega), Option.map_some, if_pos ⟨by omega, by simp; omega⟩]
  rw [Nat.sub_zero, getElem!_pos _ j (by simp; omega)]
  simp [encStr, List.getElem_append_left hj]
theorem rowO_str {st : St} {xs : List ByteArray} {cs : List Value} {K : List Nat} (h : RowO (Kind.own (α := ByteArray) st) xs cs K) : cs = xs.map Value.string ∧ K = [] := by
  induction h with
  | nil => exact ⟨rfl, rfl⟩
  | cons x xs cx cs Lx L h hs ih =>
    obtain ⟨rfl, rfl⟩ := h
    obtain ⟨rfl, rfl⟩ := ih
    exact ⟨rfl, rfl⟩
theorem str_rowO (st : St) (xs : List ByteArray) : RowO (Kind.own (α := ByteArray) st) xs (xs.map Value.string) [] := by
  induction xs with
  | nil => exact .nil
  | cons x xs ih => exact .cons x xs [.string x] _ [] [] ⟨rfl, rfl⟩ ih
theorem holds_cr {P : Program} {w : World} {M : List ME} {g : Nat} {xs : List ByteArray} {c : Array Value} {e : TypeId} (hb : w.heap[g]? = some (.cells c e (0, 0))) (h : CR M (xs.map Value.string) c) : Holds encStr w g 0 (chs xs).toArray := by
  intro j hj
  have hj' : j < xs.length := by simpa [chs] using hj
  obtain ⟨_, y, hy, hv⟩ := h j (.string xs[j]) (by simp [hj'])
  have := hv.flat_eq rfl
  subst this
  have e1 : (chs xs).toArray[j]! = xs[j].data.toList := by
    rw [getElem!_pos _ j hj]
    simp [chs]
  refine ⟨?_, ?_⟩
  · rw [e1]
    simp [World.cell?, hb, hy, encStr]
  · simp [World.frozen?, hb]
theorem VL.one {M : List ME} {s : Value} {vals : Array Value} (h : VL M [s] vals) : ∃ v, vals = #[v] ∧ VR M s v := by
  have hl := h.len
  obtain ⟨l⟩ := vals
  match l, hl with
  | [v], _ => exact ⟨v, rfl, h.rel 0 s v rfl rfl⟩
/-- A slice of a live block of one's own, in the world. -/
theorem sortS_ok (xs : List ByteArray) (st : St) (s : Value) (L : List Nat) (hbig : xs.length ≤ 1099511627776) (h : Sl st xs s L) :
    CallS Try.prog 30 [s] st fun r st2 => r = .tuple #[] ∧ Sl st2 (sortB xs) s L ∧ Away (topId s) st st2 ∧ st2.length = st.length := by
  refine ⟨⟨_, Try.func30, rfl, rfl⟩, fun M w vals hH hV => ?_⟩
  obtain ⟨v, rfl, hv⟩ := hV.one
  have hnil : ∀ a c, xs = [] → v = .slice a 0 c → Calls Try.prog 30 #[v] w fun e w' => ∃ r v' st' M', e = .returned v' ∧ (r = .tuple #[] ∧ Sl st' (sortB xs) s L ∧ Away (topId s) st st' ∧ st'.length = st.length) ∧ VR M' r v' ∧ HR Try.prog ⟨w, M, st⟩ M' st' w' := by
    rintro a c rfl rfl
    refine (Try.slices_Sort_string_none a c w).mono fun e w' ⟨he, hw⟩ => ?_
    subst hw
    exact ⟨_, _, st, M, he, ⟨rfl, by simpa [sortB, chs, unchs] using h, ⟨Nat.le_refl _, fun _ _ _ => rfl⟩, rfl⟩, .of_flat (by simp [flat]), hH⟩
  rcases h with ⟨rfl, hx, rfl⟩ | ⟨i, c, cs, K, rfl, hi, hrow, rfl⟩
  · have := hv.flat_eq rfl
    exact hnil none 0 hx this
  obtain ⟨rfl, rfl⟩ := rowO_str hrow
  cases hv with
  | fl _ hf => simp [flat1] at hf
  | sl _ _ o' n k c' m hm hn hc =>
    rcases Nat.eq_zero_or_pos xs.length with h0 | hpos
    · exact hnil _ c' (List.eq_nil_of_length_eq_zero h0) (by rw [h0])
    have ho : o' = 0 := by
      rcases hc with ⟨h1, _⟩ | h1
      · exact h1
      · omega
    subst ho
    obtain ⟨c0, hc0, hcs, hcl, hcr, hap⟩ := hH.blk i _ m hi hm (by simp) (by simp)
    have hlive := hc0.live rfl
    have hS := Try.slices_Sort_string m.b 0 c' (chs xs) w (holds_cr (P := Try.prog) hlive (hcr.cr (by simp))) (hH.lt i m hm) (by rw [chs_length]; omega)
    rw [chs_length] at hS
    refine hS.mono fun e w' ⟨he, q, os, hw⟩ => ?_
    obtain ⟨g1, g2, g3, g4, g5⟩ := put_turn w m.b q ((chs xs).mergeSort fun x y => decide (x ≤ y)).toArray os
    have g6 := put_block w m.b q ((chs xs).mergeSort fun x y => decide (x ≤ y)).toArray os c0 _ hlive
    rw [← hw] at g1 g2 g3 g4 g5 g6
    have hlen : ((chs xs).mergeSort fun x y => decide (x ≤ y)).length = xs.length := by rw [List.length_mergeSort, chs_length]
    have hcl' : xs.length ≤ m.n := by simpa using hcl
    have hcr' := put_cr M ((chs xs).mergeSort fun x y => decide (x ≤ y)) [] c0 (by rw [hlen, hcs]; exact hcl')
    rw [List.append_nil] at hcr'
    have hT := HR.turn (cs' := (sortB xs).map Value.string) hH hi hm g1 g2 g3 g4 g5 g6 (by unfold putCells; simpa using hcs) (by rw [List.length_map, sortB_length]; exact hcl') hcr'
    have hilt := (List.getElem?_eq_some_iff.1 hi).1
    refine ⟨_, _, _, M, he, ⟨rfl, .inr ⟨i, c, (sortB xs).map Value.string, [], by rw [sortB_length], List.getElem?_set_self hilt, str_rowO _ _, rfl⟩, ⟨by simp, fun k _ hk => List.getElem?_set_ne (fun e => hk (by rw [e]; rfl))⟩, by simp⟩, .of_flat (by simp [flat]), hT⟩
theorem compS_ok (xs : List ByteArray) (st : St) (s : Value) (L : List Nat) (hbig : xs.length ≤ 1099511627776) (h : Sl st xs s L) :
    CallS Try.prog 31 [s] st fun r st2 => Sl st2 (compS xs) r L ∧ Away (topId s) st st2 ∧ st2.length = st.length := by
  refine ⟨⟨_, Try.func31, rfl, rfl⟩, fun M w vals hH hV => ?_⟩
  obtain ⟨v, rfl, hv⟩ := hV.one
  have hnil : ∀ a c, xs = [] → v = .slice a 0 c → Calls Try.prog 31 #[v] w fun e w' => ∃ r v' st' M', e = .returned v' ∧ (Sl st' (compS xs) r L ∧ Away (topId s) st st' ∧ st'.length = st.length) ∧ VR M' r v' ∧ HR Try.prog ⟨w, M, st⟩ M' st' w' := by
    rintro a c rfl rfl
    refine (Try.slices_Compact_string_empty a c w).mono fun e w' ⟨he, hw⟩ => ?_
    subst hw
    exact ⟨s, _, st, M, he, ⟨by simpa [compS, chs, unchs, Lib.compact, Lib.compactUpTo] using h, ⟨Nat.le_refl _, fun _ _ _ => rfl⟩, rfl⟩, hv, hH⟩
  rcases h with ⟨rfl, hx, rfl⟩ | ⟨i, c, cs, K, rfl, hi, hrow, rfl⟩
  · have := hv.flat_eq rfl
    exact hnil none 0 hx this
  obtain ⟨rfl, rfl⟩ := rowO_str hrow
  have hv0 := hv
  cases hv with
  | fl _ hf => simp [flat1] at hf
  | sl _ _ o' n k c' m hm hn hc =>
    rcases Nat.eq_zero_or_pos xs.length with h0 | hpos
    · exact hnil _ c' (List.eq_nil_of_length_eq_zero h0) (by rw [h0])
    have ho : o' = 0 := by
      rcases hc with ⟨h1, _⟩ | h1
      · exact h1
      · omega
    subst ho
    obtain ⟨c0, hc0, hcs, hcl, hcr, hap⟩ := hH.blk i _ m hi hm (by simp) (by simp)
    have hlive := hc0.live rfl
    have hS := Try.slices_Compact_string m.b 0 c' (chs xs) w (holds_cr (P := Try.prog) hlive (hcr.cr (by simp))) (by rw [chs_length]; omega) (by rw [chs_length]; exact hn)
    rw [chs_length] at hS
    have hle : (Lib.compact (chs xs)).length ≤ xs.length := by
      have := compact_le (chs xs)
      rwa [chs_length] at this
    refine hS.mono fun e w' ⟨he, q, hw⟩ => ?_
    obtain ⟨g1, g2, g3, g4, g5⟩ := put_turn w m.b q (Lib.compact (chs xs) ++ List.replicate (xs.length - (Lib.compact (chs xs)).length) []).toArray #[]
    have g6 := put_block w m.b q (Lib.compact (chs xs) ++ List.replicate (xs.length - (Lib.compact (chs xs)).length) []).toArray #[] c0 _ hlive
    rw [Sort.grow_empty, ← hw] at g1 g2 g3 g4 g5 g6
    have hcl' : xs.length ≤ m.n := by simpa using hcl
    have hcr' := put_cr M (Lib.compact (chs xs)) (List.replicate (xs.length - (Lib.compact (chs xs)).length) []) c0 (by rw [hcs]; omega)
    have hlc : (compS xs).length = (Lib.compact (chs xs)).length := by unfold compS; rw [unchs_length]
    have hT := HR.turn (cs' := (compS xs).map Value.string) hH hi hm g1 g2 g3 g4 g5 g6 (by unfold putCells; simpa using hcs) (by rw [List.length_map, hlc]; omega) hcr'
    have hilt := (List.getElem?_eq_some_iff.1 hi).1
    refine ⟨.slice (some ⟨i, 0, none⟩) (compS xs).length c, _, _, M, he, ⟨.inr ⟨i, c, (compS xs).map Value.string, [], rfl, List.getElem?_set_self hilt, str_rowO _ _, rfl⟩, ⟨by simp, fun k _ hk => List.getElem?_set_ne (fun e => hk (by rw [e]; rfl))⟩, by simp⟩, ?_, hT⟩
    rw [hlc]
    exact .sl i 0 0 _ _ _ m hm (by omega) hc

theorem implSort_ok (xs : List ByteArray) (st : St) (s : Value) (hbig : xs.length ≤ 1073741824) (hr : Rw st xs s) :
    CallS Try.prog 19 [s] st fun r st2 => Ext st st2 ∧ ∃ L, Sl st2 (namesB xs) r L ∧ Fresh st.length L := by
  refine CallS_of_W [] 10 Try.func19 rfl rfl rfl rfl (by simp) ?_
  have q1 := hr.notLoc.1
  repeat (first | (refine W_reg rfl fun G K hG hK => ?_; simp (disch := omega) only [go_sem, ↓reduceIte, Nat.reduceEqDiff, Nat.reduceAdd, Nat.reduceLeDiff, hG, q1]; refine hK _ _ ?_; clear hK K hG G) | (refine W_end rfl fun G K hG hK => ?_; simp (disch := omega) only [go_sem, ↓reduceIte, Nat.reduceEqDiff, Nat.reduceAdd, Nat.reduceLeDiff, hG, q1]; refine hK _ _ ?_; clear hK K hG G; repeat (first | refine thenI ?_ | refine thenE ?_ | refine thenR ?_ | refine inBI ?_ | refine inBR ?_ | refine inBS ?_ | refine inBN (by decide) ?_)) | refine W_seqS ?_ | refine W_seqC ?_ | refine W_seqB ?_ | refine W_block ?_ | (refine W_skip ?_; repeat (first | refine thenI ?_ | refine thenE ?_ | refine thenR ?_ | refine inBI ?_ | refine inBR ?_ | refine inBS ?_ | refine inBN (by decide) ?_)) | (refine W_condT ?hc ?_; (case hc => (simp (disch := omega) only [go_sem, ↓reduceIte, Nat.reduceEqDiff, Nat.reduceAdd, Nat.reduceLeDiff, q1]; done))) | (refine W_condF ?hc ?_; (case hc => (simp (disch := omega) only [go_sem, ↓reduceIte, Nat.reduceEqDiff, Nat.reduceAdd, Nat.reduceLeDiff, q1]; done))))
  (repeat (first | refine W_seqS ?_ | refine W_seqC ?_ | refine W_seqB ?_ | refine W_block ?_)); refine W_reg rfl fun G K hG hK => ?_; simp (disch := omega) only [go_sem, ↓reduceIte, Nat.reduceEqDiff, Nat.reduceAdd, Nat.reduceLeDiff, hG, q1]
  refine w_call (cloneS_ok xs st s (by omega) hr) (by simp (disch := omega) only [go_sem, ↓reduceIte, Nat.reduceEqDiff, q1]) ?hl ?_
  case hl => first | rfl | (simp only [go_sem, List.all_cons, List.all_nil, Bool.not_false, Bool.and_self, q1]; done)
  rintro r1 sa ⟨x1, L, hs1, hf1⟩; refine ⟨fun e => (by cases e), ?_⟩
  have o1 := hs1.loc
  have t1 := hs1.top hf1
  have hl1 := x1.length
  simp (disch := omega) only [go_sem, ↓reduceIte, Nat.reduceEqDiff, Nat.reduceAdd, Nat.reduceLeDiff, hG, q1, o1]; refine hK _ _ ?_; clear hK K hG G; repeat (first | refine thenI ?_ | refine thenE ?_ | refine thenR ?_ | refine inBI ?_ | refine inBR ?_ | refine inBS ?_ | refine inBN (by decide) ?_)
  repeat (first | (refine W_reg rfl fun G K hG hK => ?_; simp (disch := omega) only [go_sem, ↓reduceIte, Nat.reduceEqDiff, Nat.reduceAdd, Nat.reduceLeDiff, hG, q1, o1]; refine hK _ _ ?_; clear hK K hG G) | (refine W_end rfl fun G K hG hK => ?_; simp (disch := omega) only [go_sem, ↓reduceIte, Nat.reduceEqDiff, Nat.reduceAdd, Nat.reduceLeDiff, hG, q1, o1]; refine hK _ _ ?_; clear hK K hG G; repeat (first | refine thenI ?_ | refine thenE ?_ | refine thenR ?_ | refine inBI ?_ | refine inBR ?_ | refine inBS ?_ | refine inBN (by decide) ?_)) | refine W_seqS ?_ | refine W_seqC ?_ | refine W_seqB ?_ | refine W_block ?_ | (refine W_skip ?_; repeat (first | refine thenI ?_ | refine thenE ?_ | refine thenR ?_ | refine inBI ?_ | refine inBR ?_ | refine inBS ?_ | refine inBN (by decide) ?_)) | (refine W_condT ?hc ?_; (case hc => (simp (disch := omega) only [go_sem, ↓reduceIte, Nat.reduceEqDiff, Nat.reduceAdd, Nat.reduceLeDiff, q1, o1]; done))) | (refine W_condF ?hc ?_; (case hc => (simp (disch := omega) only [go_sem, ↓reduceIte, Nat.reduceEqDiff, Nat.reduceAdd, Nat.reduceLeDiff, q1, o1]; done))))
  (repeat (first | refine W_seqS ?_ | refine W_seqC ?_ | refine W_seqB ?_ | refine W_block ?_)); refine W_reg rfl fun G K hG hK => ?_; simp (disch := omega) only [go_sem, ↓reduceIte, Nat.reduceEqDiff, Nat.reduceAdd, Nat.reduceLeDiff, hG, q1, o1]
  refine w_call (sortS_ok xs sa r1 L (by omega) hs1) (by simp (disch := omega) only [go_sem, ↓reduceIte, Nat.reduceEqDiff, q1, o1]) ?hl ?_
  case hl => first | rfl | (simp only [go_sem, List.all_cons, List.all_nil, Bool.not_false, Bool.and_self, q1, o1]; done)
  rintro r_ sb ⟨rfl, hs2, ha2, hl2⟩; refine ⟨fun e => (by cases e), ?_⟩
  simp (disch := omega) only [go_sem, ↓reduceIte, Nat.reduceEqDiff, Nat.reduceAdd, Nat.reduceLeDiff, hG, q1, o1]; refine hK _ _ ?_; clear hK K hG G; repeat (first | refine thenI ?_ | refine thenE ?_ | refine thenR ?_ | refine inBI ?_ | refine inBR ?_ | refine inBS ?_ | refine inBN (by decide) ?_)
  repeat (first | (refine W_reg rfl fun G K hG hK => ?_; simp (disch := omega) only [go_sem, ↓reduceIte, Nat.reduceEqDiff, Nat.reduceAdd, Nat.reduceLeDiff, hG, q1, o1]; refine hK _ _ ?_; clear hK K hG G) | (refine W_end rfl fun G K hG hK => ?_; simp (disch := omega) only [go_sem, ↓reduceIte, Nat.reduceEqDiff, Nat.reduceAdd, Nat.reduceLeDiff, hG, q1, o1]; refine hK _ _ ?_; clear hK K hG G; repeat (first | refine thenI ?_ | refine thenE ?_ | refine thenR ?_ | refine inBI ?_ | refine inBR ?_ | refine inBS ?_ | refine inBN (by decide) ?_)) | refine W_seqS ?_ | refine W_seqC ?_ | refine W_seqB ?_ | refine W_block ?_ | (refine W_skip ?_; repeat (first | refine thenI ?_ | refine thenE ?_ | refine thenR ?_ | refine inBI ?_ | refine inBR ?_ | refine inBS ?_ | refine inBN (by decide) ?_)) | (refine W_condT ?hc ?_; (case hc => (simp (disch := omega) only [go_sem, ↓reduceIte, Nat.reduceEqDiff, Nat.reduceAdd, Nat.reduceLeDiff, q1, o1]; done))) | (refine W_condF ?hc ?_; (case hc => (simp (disch := omega) only [go_sem, ↓reduceIte, Nat.reduceEqDiff, Nat.reduceAdd, Nat.reduceLeDiff, q1, o1]; done))))
  (repeat (first | refine W_seqS ?_ | refine W_seqC ?_ | refine W_seqB ?_ | refine W_block ?_)); refine W_reg rfl fun G K hG hK => ?_; simp (disch := omega) only [go_sem, ↓reduceIte, Nat.reduceEqDiff, Nat.reduceAdd, Nat.reduceLeDiff, hG, q1, o1]
  have hx2 := ha2.ext_of x1 t1
  refine w_call (compS_ok (sortB xs) sb r1 L (by rw [sortB_length]; omega) hs2) (by simp (disch := omega) only [go_sem, ↓reduceIte, Nat.reduceEqDiff, q1, o1]) ?hl ?_
  case hl => first | rfl | (simp only [go_sem, List.all_cons, List.all_nil, Bool.not_false, Bool.and_self, q1, o1]; done)
  rintro r_ sc ⟨hs3, ha3, hl3⟩; refine ⟨fun e => (by cases e), ?_⟩
  have o3 := hs3.loc
  have hx3 := ha3.ext_of hx2 t1
  simp (disch := omega) only [go_sem, ↓reduceIte, Nat.reduceEqDiff, Nat.reduceAdd, Nat.reduceLeDiff, hG, q1, o3]; refine hK _ _ ?_; clear hK K hG G; repeat (first | refine thenI ?_ | refine thenE ?_ | refine thenR ?_ | refine inBI ?_ | refine inBR ?_ | refine inBS ?_ | refine inBN (by decide) ?_)
  refine W_ret ?_; try (repeat (first | refine thenI ?_ | refine thenE ?_ | refine thenR ?_ | refine inBI ?_ | refine inBR ?_ | refine inBS ?_ | refine inBN (by decide) ?_))
  refine fin1 (.inl rfl) (by (simp (disch := omega) only [go_sem, ↓reduceIte, Nat.reduceEqDiff, Nat.reduceAdd, Nat.reduceLeDiff, q1]); try rfl) o3 ⟨hx3, L, by rw [← sort_same]; exact hs3, hf1⟩
end Go.Proofs.Ytandemllbnapmaa.AM
