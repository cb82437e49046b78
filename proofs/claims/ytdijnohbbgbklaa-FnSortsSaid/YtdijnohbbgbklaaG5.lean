/- My texts for the law, laid together (part 5): N3 Q4 O16 O20 O21 O4 O5 PL8 C24. -/
import Derived.Test.YtdijnohbbgbklaaG4
import Derived.Test.YtdijnohbbgbklaaShelf
namespace Go.Proofs.Ytdijnohbbgbklaa.AM
open Go
attribute [local go_sem] List.map_cons List.map_nil List.all_cons List.all_nil Bool.and_self Option.map_some List.getElem?_toArray Option.bind_some gye_b gye_t gsk_b gsk_t gb1 gb2 gb3 gb4 bne_self_eq_false beq_self_eq_true w_guard w_nil stepV_some step_some step_some' w_move w_assign w_pick w_binOp w_unOp w_load w_fieldAddr w_indexAddr w_len w_max w_index ev_max max_int ev_index w_box w_alloc w_store w_field w_extract w_nilCheck w_convert w_buildSlice w_build ev_buildL fillL_nil fillL_cons bs0 bs1 ev_conv ev_bin ev_un ev_pick ev_load ev_fieldAddr ev_indexAddr ev_len ev_field ev_extract ev_nilCheck fr_tmp fr_int fr_bool fr_str fr_nil fr_func put_some put_none bin_lss bin_leq bin_gtr bin_geq bin_eql bin_neq bin_add bin_sub bin_mul bin_seql bin_sneq un_not pick_ ext_ loadA_p cellAt_l cellAt_h okPtr_l okPtr_h fadA_p allocA_l storeA_l cells_agg cells_int cells_str cells_sl cells_bool flat_i flat_s flat_b flat_sl flat_nil loc_agg loc_int loc_str loc_sl loc_bool loc_fn loc_ptr okv_agg okv_int okv_str okv_sl okv_bool cellsFrom splice upd_eval argEnv_zero argEnv_succ ne_eq Nat.add_one_ne_zero not_false_eq_true List.not_mem_nil and_self decide_true List.getElem?_cons_zero List.getElem?_cons_succ List.size_toArray List.length_cons List.length_nil List.take_succ_cons List.take_zero List.drop_succ_cons List.drop_zero List.cons_append List.nil_append List.drop_nil Bool.not_true Bool.not_false Bool.false_eq_true Nat.zero_add Nat.add_zero wrap_in List.toList_toArray List.mem_cons or_self or_false false_or
attribute [local go_sem] ag103 ag22 ag24 ag25 ag27 ag28 ag3 ag30 ag37 ag5 ag54 ag9 bu27 bu30 bu37 bu54 bu67 by30 by37 by54 by9 el22 el24 el25 el28 el33 el52 of27_0 of27_1 of30_0 of30_1 of30_2 of30_3 of37_0 of37_1 of54_0 of54_1 of54_2 of67_0 of67_1 of67_2 ro3_3 ro3_4 ro30_0 ro30_1 ro30_2 ro37_0 ro37_1 ro37_4 ro54_1 ro54_7 ro9_0 ro9_1 ro9_2 ro9_3 ro9_4 ro9_5 sz103 sz22 sz24 sz25 sz27 sz28 sz3 sz30 sz37 sz5 sz54 sz9 ze103 ze27 ze3 ze30 ze37 ze54 ze9
section
/- Names are sorted: impl.SortNames, out of the shelf's slices.Sort and slices.Compact. -/
open Go Go.Proofs Go.RowKit Go.Sort
set_option linter.unusedVariables false
set_option linter.unusedSimpArgs false
set_option maxRecDepth 100000
-- AUTO

/-- One live block has turned: the rest of the tie stays. -/
theorem HR.turn {P : Program} {w w' : World} {M : List ME} {st : St} {i : Nat} {cs cs' : List Value} {e : TypeId} {m : ME} {c' : Array Value} (hH : HR P ⟨w, M, st⟩ M st w) (hi : st[i]? = some ⟨cs, e, 0⟩) (hm : M[i]? = some m)
  (hos : w'.os = w.os) (htp : w'.tape = w.tape) (hout : w'.output = w.output) (hsz : w.heap.size ≤ w'.heap.size) (hoth : ∀ k, k < w.heap.size → k ≠ m.b → w'.heap[k]? = w.heap[k]?)
  (hb : w'.heap[m.b]? = some (.cells c' e (0, 0))) (hs : c'.size = m.n) (hl : cs'.length ≤ m.n) (hcr : CR M cs' c') : HR P ⟨w, M, st⟩ M (st.set i ⟨cs', e, 0⟩) w' := by
 obtain ⟨c, hc, hcs, hcl, hcr0, hap⟩ := hH.blk i _ m hi hm (by simp) (by simp)
 have hilt := (List.getElem?_eq_some_iff.1 hi).1
 have hne : ∀ (j : Nat) b m', st[j]? = some b → M[j]? = some m' → b.stat ≠ 2 → j ≠ i → m'.b ≠ m.b := fun j b m' hj hm' h2 hji e => hji (hH.inj j i b _ m' m hj hi h2 (by simp) hm' hm e)
 have hback : ∀ (j : Nat) b, (st.set i ⟨cs', e, 0⟩)[j]? = some b → b.stat ≠ 2 → ∃ b0, st[j]? = some b0 ∧ b0.stat ≠ 2 := by
  intro j b hj h2
  by_cases hji : i = j
  ·subst hji; exact ⟨_, hi, by simp⟩
  ·rw [List.getElem?_set_ne hji] at hj; exact ⟨b, hj, h2⟩
 exact {
  len := by rw [List.length_set]; exact hH.len
  pre := fun _ _ h => h
  blk := by
   intro j b m' hj hm' h2 h1
   by_cases hji : i = j
   ·subst hji
    rw [List.getElem?_set_self hilt] at hj
    cases hj
    rw [hm] at hm'
    cases hm'
    exact ⟨c', HasC.of hb, hs, hl, hcr.s, hap⟩
   ·rw [List.getElem?_set_ne hji] at hj
    obtain ⟨c2, q1, q2, q3, q4, q5⟩ := hH.blk j b m' hj hm' h2 h1
    exact ⟨c2, q1.to (hoth _ (hH.lt j m' hm') (hne j b m' hj hm' h2 (fun e => hji e.symm))), q2, q3, q4, q5⟩
  inj := by
   intro j k b b' m1 m2 hj hk h1 h2 e1 e2 e3
   obtain ⟨b1, hb1, hs1⟩ := hback j b hj h1
   obtain ⟨b2, hb2, hs2⟩ := hback k b' hk h2
   exact hH.inj j k b1 b2 m1 m2 hb1 hb2 hs1 hs2 e1 e2 e3
  lt := fun j m' h => Nat.lt_of_lt_of_le (hH.lt j m' h) hsz
  old := hH.old
  ro := by
   intro j b m' hj hs1 hm'
   have hji : j ≠ i := fun e => by
    subst e
    have hj : st[j]? = some b := hj
    rw [hi] at hj
    cases hj
    cases hs1
   exact ⟨by rw [List.getElem?_set_ne (fun e => hji e.symm)]; exact hj, hoth _ (hH.lt j m' hm') (hne j b m' hj hm' (by omega) hji)⟩
  os := hos
  tape := htp
  output := hout
  size := hsz
  frame := fun k hk hno => hoth k hk (fun e => hno i m hm e.symm)
  tab := hH.tab
  cov := hH.cov }

theorem put_turn (w : World) (g q : Nat) (d : Array (List UInt8)) (os : Array Obj) : let w' := grow (putRow encStr (Sort.ahead w q) g 0 d) os
  w'.os = w.os ∧ w'.tape = w.tape ∧ w'.output = w.output ∧ w.heap.size ≤ w'.heap.size ∧ ∀ k, k < w.heap.size → k ≠ g → w'.heap[k]? = w.heap[k]? := by
 refine ⟨rfl, rfl, rfl, ?_, ?_⟩
 ·show w.heap.size ≤ ((w.heap.modify g (onCells (putCells encStr 0 d))) ++ os).size
  simp
 ·intro k hk hne
  show ((w.heap.modify g (onCells (putCells encStr 0 d))) ++ os)[k]? = w.heap[k]?
  rw [Array.getElem?_append_left (by simpa using hk), Array.getElem?_modify, if_neg (fun e => hne e.symm)]
theorem put_block (w : World) (g q : Nat) (d : Array (List UInt8)) (os : Array Obj) (cur : Array Value) (e : TypeId) (h : w.heap[g]? = some (.cells cur e (0, 0))) : (grow (putRow encStr (Sort.ahead w q) g 0 d) os).heap[g]? = some (.cells (putCells encStr 0 d cur) e (0, 0)) := by
 have hlt : g < w.heap.size := (Array.getElem?_eq_some_iff.1 h).1
 show ((w.heap.modify g (onCells (putCells encStr 0 d))) ++ os)[g]? = _
 rw [Array.getElem?_append_left (by simpa using hlt), Array.getElem?_modify, if_pos rfl, h]
 rfl
theorem put_cr (M : List ME) (ys zs : List (List UInt8)) (cur : Array Value) (h : ys.length ≤ cur.size) : CR M ((unchs ys).map Value.string) (putCells encStr 0 (ys ++ zs).toArray cur) := by
 intro j x hx
 have hj : j < ys.length := by
  have := (List.getElem?_eq_some_iff.1 hx).1
  simpa [unchs] using this
 have hx2 : x = .string ⟨ys[j].toArray⟩ := by
  have := (List.getElem?_eq_some_iff.1 hx).2
  rw [← this]
  simp [unchs]
 subst hx2
 refine ⟨rfl, _, ?_, .fl _ rfl⟩
 unfold putCells
 rw [Array.getElem?_mapIdx, Array.getElem?_eq_getElem (by omega), Option.map_some, if_pos ⟨by omega, by simp; omega⟩]
 rw [Nat.sub_zero, getElem!_pos _ j (by simp; omega)]
 simp [encStr, List.getElem_append_left hj]
theorem rowO_str {st : St} {xs : List ByteArray} {cs : List Value} {K : List Nat} (h : RowO (Kind.own (α := ByteArray) st) xs cs K) : cs = xs.map Value.string ∧ K = [] := by
 induction h with
 | nil => exact ⟨rfl, rfl⟩
 | cons x xs cx cs Lx L h hs ih =>
  obtain ⟨rfl, rfl⟩ := h
  obtain ⟨rfl, rfl⟩ := ih
  exact ⟨rfl, rfl⟩
theorem str_rowO (st : St) (xs : List ByteArray) : RowO (Kind.own (α := ByteArray) st) xs (xs.map Value.string) [] := by
 induction xs with
 | nil => exact .nil
 | cons x xs ih => exact .cons x xs [.string x] _ [] [] ⟨rfl, rfl⟩ ih
theorem holds_cr {P : Program} {w : World} {M : List ME} {g : Nat} {xs : List ByteArray} {c : Array Value} {e : TypeId} (hb : w.heap[g]? = some (.cells c e (0, 0))) (h : CR M (xs.map Value.string) c) : Holds encStr w g 0 (chs xs).toArray := by
 intro j hj
 have hj' : j < xs.length := by simpa [chs] using hj
 obtain ⟨_, y, hy, hv⟩ := h j (.string xs[j]) (by simp [hj'])
 have := hv.flat_eq rfl
 subst this
 have e1 : (chs xs).toArray[j]! = xs[j].data.toList := by
  rw [getElem!_pos _ j hj]
  simp [chs]
 refine ⟨?_, ?_⟩
 ·rw [e1]
  simp [World.cell?, hb, hy, encStr]
 ·simp [World.frozen?, hb]
theorem VL.one {M : List ME} {s : Value} {vals : Array Value} (h : VL M [s] vals) : ∃ v, vals = #[v] ∧ VR M s v := by
 have hl := h.len
 obtain ⟨l⟩ := vals
 match l, hl with
 | [v], _ => exact ⟨v, rfl, h.rel 0 s v rfl rfl⟩
/-- A slice of a live block of one's own, in the world. -/
theorem sortS_ok (xs : List ByteArray) (st : St) (s : Value) (L : List Nat) (hbig : xs.length ≤ 1099511627776) (h : Sl st xs s L) :
  CallS Try.prog 62 [s] st fun r st2 => r = .tuple #[] ∧ Sl st2 (sortB xs) s L ∧ Away (topId s) st st2 ∧ st2.length = st.length := by
 refine ⟨⟨_, Try.func62, rfl, rfl⟩, fun M w vals hH hV => ?_⟩
 obtain ⟨v, rfl, hv⟩ := hV.one
 have hnil : ∀ a c, xs = [] → v = .slice a 0 c → Calls Try.prog 62 #[v] w fun e w' => ∃ r v' st' M', e = .returned v' ∧ (r = .tuple #[] ∧ Sl st' (sortB xs) s L ∧ Away (topId s) st st' ∧ st'.length = st.length) ∧ VR M' r v' ∧ HR Try.prog ⟨w, M, st⟩ M' st' w' := by
  rintro a c rfl rfl
  refine (Try.slices_Sort_string_none a c w).mono fun e w' ⟨he, hw⟩ => ?_
  subst hw
  exact ⟨_, _, st, M, he, ⟨rfl, by simpa [sortB, chs, unchs] using h, ⟨Nat.le_refl _, fun _ _ _ => rfl⟩, rfl⟩, .of_flat (by simp [flat]), hH⟩
 rcases h with ⟨rfl, hx, rfl⟩ | ⟨i, c, cs, K, rfl, hi, hrow, rfl⟩
 ·have := hv.flat_eq rfl
  exact hnil none 0 hx this
 obtain ⟨rfl, rfl⟩ := rowO_str hrow
 cases hv with
 | fl _ hf => simp [flat1] at hf
 | sl _ _ o' n k c' m hm hn hc =>
  rcases Nat.eq_zero_or_pos xs.length with h0 | hpos
  ·exact hnil _ c' (List.eq_nil_of_length_eq_zero h0) (by rw [h0])
  have ho : o' = 0 := by
   rcases hc with ⟨h1, _⟩ | h1
   ·exact h1
   ·omega
  subst ho
  obtain ⟨c0, hc0, hcs, hcl, hcr, hap⟩ := hH.blk i _ m hi hm (by simp) (by simp)
  have hlive := hc0.live rfl
  have hS := Try.slices_Sort_string m.b 0 c' (chs xs) w (holds_cr (P := Try.prog) hlive (hcr.cr (by simp))) (hH.lt i m hm) (by rw [chs_length]; omega)
  rw [chs_length] at hS
  refine hS.mono fun e w' ⟨he, q, os, hw⟩ => ?_
  obtain ⟨g1, g2, g3, g4, g5⟩ := put_turn w m.b q ((chs xs).mergeSort fun x y => decide (x ≤ y)).toArray os
  have g6 := put_block w m.b q ((chs xs).mergeSort fun x y => decide (x ≤ y)).toArray os c0 _ hlive
  rw [← hw] at g1 g2 g3 g4 g5 g6
  have hlen : ((chs xs).mergeSort fun x y => decide (x ≤ y)).length = xs.length := by rw [List.length_mergeSort, chs_length]
  have hcl' : xs.length ≤ m.n := by simpa using hcl
  have hcr' := put_cr M ((chs xs).mergeSort fun x y => decide (x ≤ y)) [] c0 (by rw [hlen, hcs]; exact hcl')
  rw [List.append_nil] at hcr'
  have hT := HR.turn (cs' := (sortB xs).map Value.string) hH hi hm g1 g2 g3 g4 g5 g6 (by unfold putCells; simpa using hcs) (by rw [List.length_map, sortB_length]; exact hcl') hcr'
  have hilt := (List.getElem?_eq_some_iff.1 hi).1
  refine ⟨_, _, _, M, he, ⟨rfl, .inr ⟨i, c, (sortB xs).map Value.string, [], by rw [sortB_length], List.getElem?_set_self hilt, str_rowO _ _, rfl⟩, ⟨by simp, fun k _ hk => List.getElem?_set_ne (fun e => hk (by rw [e]; rfl))⟩, by simp⟩, .of_flat (by simp [flat]), hT⟩
theorem compS_ok (xs : List ByteArray) (st : St) (s : Value) (L : List Nat) (hbig : xs.length ≤ 1099511627776) (h : Sl st xs s L) :
  CallS Try.prog 63 [s] st fun r st2 => Sl st2 (compS xs) r L ∧ Away (topId s) st st2 ∧ st2.length = st.length := by
 refine ⟨⟨_, Try.func63, rfl, rfl⟩, fun M w vals hH hV => ?_⟩
 obtain ⟨v, rfl, hv⟩ := hV.one
 have hnil : ∀ a c, xs = [] → v = .slice a 0 c → Calls Try.prog 63 #[v] w fun e w' => ∃ r v' st' M', e = .returned v' ∧ (Sl st' (compS xs) r L ∧ Away (topId s) st st' ∧ st'.length = st.length) ∧ VR M' r v' ∧ HR Try.prog ⟨w, M, st⟩ M' st' w' := by
  rintro a c rfl rfl
  refine (Try.slices_Compact_string_empty a c w).mono fun e w' ⟨he, hw⟩ => ?_
  subst hw
  exact ⟨s, _, st, M, he, ⟨by simpa [compS, chs, unchs, Lib.compact, Lib.compactUpTo] using h, ⟨Nat.le_refl _, fun _ _ _ => rfl⟩, rfl⟩, hv, hH⟩
 rcases h with ⟨rfl, hx, rfl⟩ | ⟨i, c, cs, K, rfl, hi, hrow, rfl⟩
 ·have := hv.flat_eq rfl
  exact hnil none 0 hx this
 obtain ⟨rfl, rfl⟩ := rowO_str hrow
 have hv0 := hv
 cases hv with
 | fl _ hf => simp [flat1] at hf
 | sl _ _ o' n k c' m hm hn hc =>
  rcases Nat.eq_zero_or_pos xs.length with h0 | hpos
  ·exact hnil _ c' (List.eq_nil_of_length_eq_zero h0) (by rw [h0])
  have ho : o' = 0 := by
   rcases hc with ⟨h1, _⟩ | h1
   ·exact h1
   ·omega
  subst ho
  obtain ⟨c0, hc0, hcs, hcl, hcr, hap⟩ := hH.blk i _ m hi hm (by simp) (by simp)
  have hlive := hc0.live rfl
  have hS := Try.slices_Compact_string m.b 0 c' (chs xs) w (holds_cr (P := Try.prog) hlive (hcr.cr (by simp))) (by rw [chs_length]; omega) (by rw [chs_length]; exact hn)
  rw [chs_length] at hS
  have hle : (Lib.compact (chs xs)).length ≤ xs.length := by
   have := compact_le (chs xs)
   rwa [chs_length] at this
  refine hS.mono fun e w' ⟨he, q, hw⟩ => ?_
  obtain ⟨g1, g2, g3, g4, g5⟩ := put_turn w m.b q (Lib.compact (chs xs) ++ List.replicate (xs.length - (Lib.compact (chs xs)).length) []).toArray #[]
  have g6 := put_block w m.b q (Lib.compact (chs xs) ++ List.replicate (xs.length - (Lib.compact (chs xs)).length) []).toArray #[] c0 _ hlive
  rw [Sort.grow_empty, ← hw] at g1 g2 g3 g4 g5 g6
  have hcl' : xs.length ≤ m.n := by simpa using hcl
  have hcr' := put_cr M (Lib.compact (chs xs)) (List.replicate (xs.length - (Lib.compact (chs xs)).length) []) c0 (by rw [hcs]; omega)
  have hlc : (compS xs).length = (Lib.compact (chs xs)).length := by unfold compS; rw [unchs_length]
  have hT := HR.turn (cs' := (compS xs).map Value.string) hH hi hm g1 g2 g3 g4 g5 g6 (by unfold putCells; simpa using hcs) (by rw [List.length_map, hlc]; omega) hcr'
  have hilt := (List.getElem?_eq_some_iff.1 hi).1
  refine ⟨.slice (some ⟨i, 0, none⟩) (compS xs).length c, _, _, M, he, ⟨.inr ⟨i, c, (compS xs).map Value.string, [], rfl, List.getElem?_set_self hilt, str_rowO _ _, rfl⟩, ⟨by simp, fun k _ hk => List.getElem?_set_ne (fun e => hk (by rw [e]; rfl))⟩, by simp⟩, ?_, hT⟩
  rw [hlc]
  exact .sl i 0 0 _ _ _ m hm (by omega) hc

theorem implSort_ok (xs : List ByteArray) (st : St) (s : Value) (hbig : xs.length ≤ 1073741824) (hr : Rw st xs s) :
  CallS Try.prog 46 [s] st fun r st2 => Ext st st2 ∧ ∃ L, Sl st2 (namesB xs) r L ∧ Fresh st.length L := by
 refine CallS_of_W [] 10 Try.func46 rfl rfl rfl rfl (by simp) ?_
 have q1 := hr.notLoc.1
 repeat (first | with_reducible (first | refine thenI ?_ | refine thenE ?_ | refine thenR ?_ | refine inBI ?_ | refine inBR ?_ | refine inBS ?_ | refine inBN (by decide) ?_) | refine W_seqS ?_ | refine W_seqC ?_ | refine W_seqB ?_ | refine W_block ?_ | refine W_skip ?_ | (apply W_condB; (case hc => (simp (disch := omega) only [go_sem, ↓reduceIte, Nat.reduceEqDiff, q1]); rfl); first | refine qzT ?_ | refine qzF ?_) | ((first | refine W_reg rfl fun G K hG hK => ?_ | refine W_end rfl fun G K hG hK => ?_); simp (disch := omega) only [go_sem, ↓reduceIte, Nat.reduceEqDiff, hG, q1]; refine hK _ _ ?_; clear hK K hG G))
 (repeat (first | refine W_seqS ?_ | refine W_seqC ?_ | refine W_seqB ?_ | refine W_block ?_)); refine W_reg rfl fun G K hG hK => ?_; simp (disch := omega) only [go_sem, ↓reduceIte, Nat.reduceEqDiff, hG, q1]
 refine w_call (cloneS_ok xs st s (by omega) hr) (by simp (disch := omega) only [go_sem, ↓reduceIte, Nat.reduceEqDiff, q1]) ?hl ?_
 case hl => first | rfl | (simp only [go_sem, List.all_cons, List.all_nil, Bool.not_false, Bool.and_self, q1]; done)
 rintro r1 sa ⟨x1, L, hs1, hf1⟩; refine ⟨fun e => (by cases e), ?_⟩
 have o1 := hs1.loc
 have t1 := hs1.top hf1
 have hl1 := x1.length
 simp (disch := omega) only [go_sem, ↓reduceIte, Nat.reduceEqDiff, hG, q1, o1]; refine hK _ _ ?_; clear hK K hG G; repeat (with_reducible first | refine thenI ?_ | refine thenE ?_ | refine thenR ?_ | refine inBI ?_ | refine inBR ?_ | refine inBS ?_ | refine inBN (by decide) ?_)
 repeat (first | with_reducible (first | refine thenI ?_ | refine thenE ?_ | refine thenR ?_ | refine inBI ?_ | refine inBR ?_ | refine inBS ?_ | refine inBN (by decide) ?_) | refine W_seqS ?_ | refine W_seqC ?_ | refine W_seqB ?_ | refine W_block ?_ | refine W_skip ?_ | (apply W_condB; (case hc => (simp (disch := omega) only [go_sem, ↓reduceIte, Nat.reduceEqDiff, q1, o1]); rfl); first | refine qzT ?_ | refine qzF ?_) | ((first | refine W_reg rfl fun G K hG hK => ?_ | refine W_end rfl fun G K hG hK => ?_); simp (disch := omega) only [go_sem, ↓reduceIte, Nat.reduceEqDiff, hG, q1, o1]; refine hK _ _ ?_; clear hK K hG G))
 (repeat (first | refine W_seqS ?_ | refine W_seqC ?_ | refine W_seqB ?_ | refine W_block ?_)); refine W_reg rfl fun G K hG hK => ?_; simp (disch := omega) only [go_sem, ↓reduceIte, Nat.reduceEqDiff, hG, q1, o1]
 refine w_call (sortS_ok xs sa r1 L (by omega) hs1) (by simp (disch := omega) only [go_sem, ↓reduceIte, Nat.reduceEqDiff, q1, o1]) ?hl ?_
 case hl => first | rfl | (simp only [go_sem, List.all_cons, List.all_nil, Bool.not_false, Bool.and_self, q1, o1]; done)
 rintro r_ sb ⟨rfl, hs2, ha2, hl2⟩; refine ⟨fun e => (by cases e), ?_⟩
 simp (disch := omega) only [go_sem, ↓reduceIte, Nat.reduceEqDiff, hG, q1, o1]; refine hK _ _ ?_; clear hK K hG G; repeat (with_reducible first | refine thenI ?_ | refine thenE ?_ | refine thenR ?_ | refine inBI ?_ | refine inBR ?_ | refine inBS ?_ | refine inBN (by decide) ?_)
 repeat (first | with_reducible (first | refine thenI ?_ | refine thenE ?_ | refine thenR ?_ | refine inBI ?_ | refine inBR ?_ | refine inBS ?_ | refine inBN (by decide) ?_) | refine W_seqS ?_ | refine W_seqC ?_ | refine W_seqB ?_ | refine W_block ?_ | refine W_skip ?_ | (apply W_condB; (case hc => (simp (disch := omega) only [go_sem, ↓reduceIte, Nat.reduceEqDiff, q1, o1]); rfl); first | refine qzT ?_ | refine qzF ?_) | ((first | refine W_reg rfl fun G K hG hK => ?_ | refine W_end rfl fun G K hG hK => ?_); simp (disch := omega) only [go_sem, ↓reduceIte, Nat.reduceEqDiff, hG, q1, o1]; refine hK _ _ ?_; clear hK K hG G))
 (repeat (first | refine W_seqS ?_ | refine W_seqC ?_ | refine W_seqB ?_ | refine W_block ?_)); refine W_reg rfl fun G K hG hK => ?_; simp (disch := omega) only [go_sem, ↓reduceIte, Nat.reduceEqDiff, hG, q1, o1]
 have hx2 := ha2.ext_of x1 t1
 refine w_call (compS_ok (sortB xs) sb r1 L (by rw [sortB_length]; omega) hs2) (by simp (disch := omega) only [go_sem, ↓reduceIte, Nat.reduceEqDiff, q1, o1]) ?hl ?_
 case hl => first | rfl | (simp only [go_sem, List.all_cons, List.all_nil, Bool.not_false, Bool.and_self, q1, o1]; done)
 rintro r_ sc ⟨hs3, ha3, hl3⟩; refine ⟨fun e => (by cases e), ?_⟩
 have o3 := hs3.loc
 have hx3 := ha3.ext_of hx2 t1
 simp (disch := omega) only [go_sem, ↓reduceIte, Nat.reduceEqDiff, hG, q1, o3]; refine hK _ _ ?_; clear hK K hG G; repeat (with_reducible first | refine thenI ?_ | refine thenE ?_ | refine thenR ?_ | refine inBI ?_ | refine inBR ?_ | refine inBS ?_ | refine inBN (by decide) ?_)
 refine W_ret ?_; try (repeat (with_reducible first | refine thenI ?_ | refine thenE ?_ | refine thenR ?_ | refine inBI ?_ | refine inBR ?_ | refine inBS ?_ | refine inBN (by decide) ?_))
 refine fin1 (.inl rfl) (by (simp (disch := omega) only [go_sem, ↓reduceIte, Nat.reduceEqDiff, q1]); try rfl) o3 ⟨hx3, L, by rw [← sort_same]; exact hs3, hf1⟩

end

section
/- FnNames' helpers: laws.sameTexts, laws.rising, impl.AllDistinct. -/
open Go Go.Proofs
set_option linter.unusedVariables false
set_option linter.unusedSimpArgs false
set_option maxRecDepth 100000
-- AUTO

theorem distinct_ok (xs : List ByteArray) (st : St) (s : Value) (hbig : xs.length ≤ 1073741824) (hr : Rw st xs s) :
  CallS Try.prog 26 [s] st fun r st2 => Ext st st2 ∧ r = .bool (((namesB xs).length : Int) == (xs.length : Int)) := by
 refine CallS_of_W [] 9 Try.func26 rfl rfl rfl rfl (by simp) ?_
 have q1 := hr.notLoc.1
 have hlen : lenE Try.prog 24 s = some (.int .i64 xs.length) := row_len hr Try.underlying24
 repeat (first | with_reducible (first | refine thenI ?_ | refine thenE ?_ | refine thenR ?_ | refine inBI ?_ | refine inBR ?_ | refine inBS ?_ | refine inBN (by decide) ?_) | refine W_seqS ?_ | refine W_seqC ?_ | refine W_seqB ?_ | refine W_block ?_ | refine W_skip ?_ | (apply W_condB; (case hc => (simp (disch := omega) only [go_sem, ↓reduceIte, Nat.reduceEqDiff, q1, hlen]); rfl); first | refine qzT ?_ | refine qzF ?_) | ((first | refine W_reg rfl fun G K hG hK => ?_ | refine W_end rfl fun G K hG hK => ?_); simp (disch := omega) only [go_sem, ↓reduceIte, Nat.reduceEqDiff, hG, q1, hlen]; refine hK _ _ ?_; clear hK K hG G))
 (repeat (first | refine W_seqS ?_ | refine W_seqC ?_ | refine W_seqB ?_ | refine W_block ?_)); refine W_reg rfl fun G K hG hK => ?_; simp (disch := omega) only [go_sem, ↓reduceIte, Nat.reduceEqDiff, hG, q1, hlen]
 refine w_call (implSort_ok xs st s hbig hr) (by simp (disch := omega) only [go_sem, ↓reduceIte, Nat.reduceEqDiff, q1, hlen]) ?hl ?_
 case hl => first | rfl | (simp only [go_sem, List.all_cons, List.all_nil, Bool.not_false, Bool.and_self, q1, hlen]; done)
 rintro r_ sa ⟨x1, L, hs, hf⟩; refine ⟨fun e => (by cases e), ?_⟩
 have ol := hs.loc
 have hl2 : lenE Try.prog 24 r_ = some (.int .i64 (namesB xs).length) := row_len hs.row Try.underlying24
 simp (disch := omega) only [go_sem, ↓reduceIte, Nat.reduceEqDiff, hG, q1, hlen, ol, hl2]; refine hK _ _ ?_; clear hK K hG G; repeat (with_reducible first | refine thenI ?_ | refine thenE ?_ | refine thenR ?_ | refine inBI ?_ | refine inBR ?_ | refine inBS ?_ | refine inBN (by decide) ?_)
 refine W_ret ?_; try (repeat (with_reducible first | refine thenI ?_ | refine thenE ?_ | refine thenR ?_ | refine inBI ?_ | refine inBR ?_ | refine inBS ?_ | refine inBN (by decide) ?_))
 refine fin1 (.inl rfl) (by (simp (disch := omega) only [go_sem, ↓reduceIte, Nat.reduceEqDiff, q1, hlen]); try rfl) rfl ⟨x1, rfl⟩
/-- Where a name stands: 0 or more where it is there, else -1. -/
theorem index_ok (xs : List ByteArray) (w : ByteArray) (st : St) (s : Value) (hbig : xs.length ≤ 1073741824) (hr : Rw st xs s) :
  CallS Try.prog 48 [s, .string w] st fun r st2 => (∃ k : Int, r = .int .i64 k ∧ ((w ∈ xs ∧ 0 ≤ k) ∨ (w ∉ xs ∧ k = -1))) ∧ st2 = st := by
 refine CallS_of_W [] 19 Try.func48 rfl rfl rfl rfl (by simp) ?_
 have q1 := hr.notLoc.1
 have hlen : lenE Try.prog 24 s = some (.int .i64 xs.length) := row_len hr Try.underlying24
 repeat (first | with_reducible (first | refine thenI ?_ | refine thenE ?_ | refine thenR ?_ | refine inBI ?_ | refine inBR ?_ | refine inBS ?_ | refine inBN (by decide) ?_) | refine W_seqS ?_ | refine W_seqC ?_ | refine W_seqB ?_ | refine W_block ?_ | refine W_skip ?_ | (apply W_condB; (case hc => (simp (disch := omega) only [go_sem, ↓reduceIte, Nat.reduceEqDiff, q1, hlen]); rfl); first | refine qzT ?_ | refine qzF ?_) | ((first | refine W_reg rfl fun G K hG hK => ?_ | refine W_end rfl fun G K hG hK => ?_); simp (disch := omega) only [go_sem, ↓reduceIte, Nat.reduceEqDiff, hG, q1, hlen]; refine hK _ _ ?_; clear hK K hG G))
 refine W_loop (fun d fr st' => ∃ (j : Nat) , d = xs.length - j ∧ j ≤ xs.length ∧ (st = st') ∧ ((∀ x ∈ xs.take j, x ≠ w)) ∧ (fr.env 0 = s) ∧ (fr.env 1 = .string w) ∧ (fr.env 7 = .int .i64 xs.length) ∧ (fr.env 8 = .int .i64 j)) (xs.length) ?_ ?_
 ·exact ⟨0, by omega, by omega, rfl, by simp, (by refine ⟨?_, ?_, ?_, ?_⟩ <;> ((simp (disch := omega) only [go_sem, ↓reduceIte, Nat.reduceEqDiff, q1, hlen]); try rfl))⟩
 rintro d ⟨env, loc⟩ st' ⟨j, hd, hj, hst, hno, e0, e1, e7, e8⟩
 simp only at e0 e1 e7 e8
 subst hst
 by_cases hlt : j < xs.length
 ·have c1 : decide ((j : Int) < (xs.length : Int)) = true := by simpa using hlt
  have hi := idxOk hlt
  have hx : xs[j]? = some xs[j] := List.getElem?_eq_getElem hlt
  have htk : xs.take (j + 1) = xs.take j ++ [xs[j]] := List.take_succ_eq_append_getElem hlt
  obtain ⟨i, o, c, rfl, hce⟩ := row_atS hr hx
  cases hq : (w.toList == xs[j].toList) with
  | true =>
   have hw : xs[j] = w := by
    have h : w.toList = xs[j].toList := by simpa using hq
    rw [Lib.toList_data, Lib.toList_data] at h
    exact (ByteArray.ext (Array.ext' h)).symm
   repeat (first | with_reducible (first | refine thenI ?_ | refine thenE ?_ | refine thenR ?_ | refine inBI ?_ | refine inBR ?_ | refine inBS ?_ | refine inBN (by decide) ?_) | refine W_seqS ?_ | refine W_seqC ?_ | refine W_seqB ?_ | refine W_block ?_ | refine W_skip ?_ | (apply W_condB; (case hc => (simp (disch := omega) only [go_sem, ↓reduceIte, Nat.reduceEqDiff, q1, hlen, e0, e1, e7, e8, c1, hi, idxA, Int.toNat_natCast, hce, hq]); rfl); first | refine qzT ?_ | refine qzF ?_) | ((first | refine W_reg rfl fun G K hG hK => ?_ | refine W_end rfl fun G K hG hK => ?_); simp (disch := omega) only [go_sem, ↓reduceIte, Nat.reduceEqDiff, hG, q1, hlen, e0, e1, e7, e8, c1, hi, idxA, Int.toNat_natCast, hce, hq]; refine hK _ _ ?_; clear hK K hG G))
   refine W_ret ?_; try (repeat (with_reducible first | refine thenI ?_ | refine thenE ?_ | refine thenR ?_ | refine inBI ?_ | refine inBR ?_ | refine inBS ?_ | refine inBN (by decide) ?_))
   refine fin1 (.inl rfl) (by (simp (disch := omega) only [go_sem, ↓reduceIte, Nat.reduceEqDiff, q1, hlen, e0, e1, e7, e8, c1, hi, idxA, Int.toNat_natCast]); try rfl) rfl ⟨⟨_, rfl, .inl ⟨hw ▸ List.getElem_mem hlt, by omega⟩⟩, rfl⟩
  | false =>
   have hw : xs[j] ≠ w := fun e => by rw [e] at hq; simp at hq
   have hno' : ∀ x ∈ xs.take (j + 1), x ≠ w := by
    rw [htk]
    intro x hx
    rcases List.mem_append.1 hx with h | h
    ·exact hno x h
    ·rw [List.mem_singleton.1 h]; exact hw
   repeat (first | with_reducible (first | refine thenI ?_ | refine thenE ?_ | refine thenR ?_ | refine inBI ?_ | refine inBR ?_ | refine inBS ?_ | refine inBN (by decide) ?_) | refine W_seqS ?_ | refine W_seqC ?_ | refine W_seqB ?_ | refine W_block ?_ | refine W_skip ?_ | (apply W_condB; (case hc => (simp (disch := omega) only [go_sem, ↓reduceIte, Nat.reduceEqDiff, q1, hlen, e0, e1, e7, e8, c1, hi, idxA, Int.toNat_natCast, hce, hq]); rfl); first | refine qzT ?_ | refine qzF ?_) | ((first | refine W_reg rfl fun G K hG hK => ?_ | refine W_end rfl fun G K hG hK => ?_); simp (disch := omega) only [go_sem, ↓reduceIte, Nat.reduceEqDiff, hG, q1, hlen, e0, e1, e7, e8, c1, hi, idxA, Int.toNat_natCast, hce, hq]; refine hK _ _ ?_; clear hK K hG G))
   refine ⟨xs.length - (j + 1), by omega, j + 1, rfl, by omega, rfl, hno', (by refine ⟨?_, ?_, ?_, ?_⟩ <;> ((simp (disch := omega) only [go_sem, ↓reduceIte, Nat.reduceEqDiff, q1, hlen, e0, e1, e7, e8, c1, hi, idxA, Int.toNat_natCast]); try rfl))⟩
 ·have c1 : decide ((j : Int) < (xs.length : Int)) = false := by simpa using hlt
  have hjn : j = xs.length := by omega
  subst hjn
  rw [List.take_length] at hno
  repeat (first | with_reducible (first | refine thenI ?_ | refine thenE ?_ | refine thenR ?_ | refine inBI ?_ | refine inBR ?_ | refine inBS ?_ | refine inBN (by decide) ?_) | refine W_seqS ?_ | refine W_seqC ?_ | refine W_seqB ?_ | refine W_block ?_ | refine W_skip ?_ | (apply W_condB; (case hc => (simp (disch := omega) only [go_sem, ↓reduceIte, Nat.reduceEqDiff, q1, hlen, e0, e1, e7, e8, c1]); rfl); first | refine qzT ?_ | refine qzF ?_) | ((first | refine W_reg rfl fun G K hG hK => ?_ | refine W_end rfl fun G K hG hK => ?_); simp (disch := omega) only [go_sem, ↓reduceIte, Nat.reduceEqDiff, hG, q1, hlen, e0, e1, e7, e8, c1]; refine hK _ _ ?_; clear hK K hG G))
  refine W_exit ?_; repeat (with_reducible first | refine thenI ?_ | refine thenE ?_ | refine thenR ?_ | refine inBI ?_ | refine inBR ?_ | refine inBS ?_ | refine inBN (by decide) ?_)
  repeat (first | with_reducible (first | refine thenI ?_ | refine thenE ?_ | refine thenR ?_ | refine inBI ?_ | refine inBR ?_ | refine inBS ?_ | refine inBN (by decide) ?_) | refine W_seqS ?_ | refine W_seqC ?_ | refine W_seqB ?_ | refine W_block ?_ | refine W_skip ?_ | (apply W_condB; (case hc => (simp (disch := omega) only [go_sem, ↓reduceIte, Nat.reduceEqDiff, q1, hlen, e0, e1, e7, e8, c1]); rfl); first | refine qzT ?_ | refine qzF ?_) | ((first | refine W_reg rfl fun G K hG hK => ?_ | refine W_end rfl fun G K hG hK => ?_); simp (disch := omega) only [go_sem, ↓reduceIte, Nat.reduceEqDiff, hG, q1, hlen, e0, e1, e7, e8, c1]; refine hK _ _ ?_; clear hK K hG G))
  refine W_ret ?_; try (repeat (with_reducible first | refine thenI ?_ | refine thenE ?_ | refine thenR ?_ | refine inBI ?_ | refine inBR ?_ | refine inBS ?_ | refine inBN (by decide) ?_))
  refine fin1 (.inl rfl) (by (simp (disch := omega) only [go_sem, ↓reduceIte, Nat.reduceEqDiff, q1, hlen, e0, e1, e7, e8, c1]); try rfl) rfl ⟨⟨_, rfl, .inr ⟨fun h => hno w h rfl, rfl⟩⟩, rfl⟩
theorem contains_ok (xs : List ByteArray) (w : ByteArray) (st : St) (s : Value) (hbig : xs.length ≤ 1073741824) (hr : Rw st xs s) :
  CallS Try.prog 30 [s, .string w] st fun r st2 => (∃ b : Bool, r = .bool b ∧ (b = true ↔ w ∈ xs)) ∧ st2 = st := by
 refine CallS_of_W [] 9 Try.func30 rfl rfl rfl rfl (by simp) ?_
 have q1 := hr.notLoc.1
 repeat (first | with_reducible (first | refine thenI ?_ | refine thenE ?_ | refine thenR ?_ | refine inBI ?_ | refine inBR ?_ | refine inBS ?_ | refine inBN (by decide) ?_) | refine W_seqS ?_ | refine W_seqC ?_ | refine W_seqB ?_ | refine W_block ?_ | refine W_skip ?_ | (apply W_condB; (case hc => (simp (disch := omega) only [go_sem, ↓reduceIte, Nat.reduceEqDiff, q1]); rfl); first | refine qzT ?_ | refine qzF ?_) | ((first | refine W_reg rfl fun G K hG hK => ?_ | refine W_end rfl fun G K hG hK => ?_); simp (disch := omega) only [go_sem, ↓reduceIte, Nat.reduceEqDiff, hG, q1]; refine hK _ _ ?_; clear hK K hG G))
 (repeat (first | refine W_seqS ?_ | refine W_seqC ?_ | refine W_seqB ?_ | refine W_block ?_)); refine W_reg rfl fun G K hG hK => ?_; simp (disch := omega) only [go_sem, ↓reduceIte, Nat.reduceEqDiff, hG, q1]
 refine w_call (index_ok xs w st s hbig hr) (by simp (disch := omega) only [go_sem, ↓reduceIte, Nat.reduceEqDiff, q1]) ?hl ?_
 case hl => first | rfl | (simp only [go_sem, List.all_cons, List.all_nil, Bool.not_false, Bool.and_self, q1]; done)
 rintro r_ st ⟨⟨k, rfl, hk⟩, rfl⟩; refine ⟨fun e => (by cases e), ?_⟩
 simp (disch := omega) only [go_sem, ↓reduceIte, Nat.reduceEqDiff, hG, q1]; refine hK _ _ ?_; clear hK K hG G; repeat (with_reducible first | refine thenI ?_ | refine thenE ?_ | refine thenR ?_ | refine inBI ?_ | refine inBR ?_ | refine inBS ?_ | refine inBN (by decide) ?_)
 refine W_ret ?_; try (repeat (with_reducible first | refine thenI ?_ | refine thenE ?_ | refine thenR ?_ | refine inBI ?_ | refine inBR ?_ | refine inBS ?_ | refine inBN (by decide) ?_))
 refine fin1 (.inl rfl) (by (simp (disch := omega) only [go_sem, ↓reduceIte, Nat.reduceEqDiff, q1]); try rfl) rfl ⟨⟨_, rfl, ?_⟩, rfl⟩
 rcases hk with ⟨h1, h2⟩ | ⟨h1, h2⟩
 ·simp [h1, h2]
 ·simp [h1, h2]

end

section
/- DrawFindOp, DrawIsBuiltin, the law FnOps. -/
open Go Go.Proofs
set_option linter.unusedVariables false
set_option linter.unusedSimpArgs false
set_option maxRecDepth 100000
-- AUTO

theorem SgP.lim {g : Sgn} (h : SgP g) : LimS 1073741824 g := ⟨by have := h.1; omega, by have := h.2.1; omega, fun o ho => by have := (h.2.2.1 o ho).1; omega⟩

end

section
/- Valid signatures, the reference: spec.AllDistinct, spec.IsValidSignature. -/
open Go Go.Proofs
set_option linter.unusedVariables false
set_option linter.unusedSimpArgs false
set_option maxRecDepth 100000
-- AUTO

theorem specIndexFirst_ok (xs : List ByteArray) (w : ByteArray) (st : St) (s : Value) (hbig : xs.length ≤ 1073741824) (hr : Rw st xs s) :
  CallS Try.prog 52 [s, .string w] st fun r st2 => (∃ k : Int, r = .int .i64 k ∧ ((∃ (n : Nat) (h : n < xs.length), k = n ∧ xs[n] = w ∧ ∀ x ∈ xs.take n, x ≠ w) ∨ (w ∉ xs ∧ k = -1))) ∧ st2 = st := by
 refine CallS_of_W [] 19 Try.func52 rfl rfl rfl rfl (by simp) ?_
 have q1 := hr.notLoc.1
 have hlen : lenE Try.prog 24 s = some (.int .i64 xs.length) := row_len hr Try.underlying24
 repeat (first | with_reducible (first | refine thenI ?_ | refine thenE ?_ | refine thenR ?_ | refine inBI ?_ | refine inBR ?_ | refine inBS ?_ | refine inBN (by decide) ?_) | refine W_seqS ?_ | refine W_seqC ?_ | refine W_seqB ?_ | refine W_block ?_ | refine W_skip ?_ | (apply W_condB; (case hc => (simp (disch := omega) only [go_sem, ↓reduceIte, Nat.reduceEqDiff, q1, hlen]); rfl); first | refine qzT ?_ | refine qzF ?_) | ((first | refine W_reg rfl fun G K hG hK => ?_ | refine W_end rfl fun G K hG hK => ?_); simp (disch := omega) only [go_sem, ↓reduceIte, Nat.reduceEqDiff, hG, q1, hlen]; refine hK _ _ ?_; clear hK K hG G))
 refine W_loop (fun d fr st' => ∃ (j : Nat) , d = xs.length - j ∧ j ≤ xs.length ∧ (st = st') ∧ ((∀ x ∈ xs.take j, x ≠ w)) ∧ (fr.env 0 = s) ∧ (fr.env 1 = .string w) ∧ (fr.env 5 = .int .i64 j)) (xs.length) ?_ ?_
 ·exact ⟨0, by omega, by omega, rfl, by simp, (by refine ⟨?_, ?_, ?_⟩ <;> ((simp (disch := omega) only [go_sem, ↓reduceIte, Nat.reduceEqDiff, q1, hlen]); try rfl))⟩
 rintro d ⟨env, loc⟩ st' ⟨j, hd, hj, hst, hno, e0, e1, e5⟩
 simp only at e0 e1 e5
 subst hst
 by_cases hlt : j < xs.length
 ·have c1 : decide ((j : Int) < (xs.length : Int)) = true := by simpa using hlt
  have hi := idxOk hlt
  have hx : xs[j]? = some xs[j] := List.getElem?_eq_getElem hlt
  have htk : xs.take (j + 1) = xs.take j ++ [xs[j]] := List.take_succ_eq_append_getElem hlt
  obtain ⟨i, o, c, rfl, hce⟩ := row_atS hr hx
  cases hq : (xs[j].toList == w.toList) with
  | true =>
   have hw : xs[j] = w := ba_toList hq
   repeat (first | with_reducible (first | refine thenI ?_ | refine thenE ?_ | refine thenR ?_ | refine inBI ?_ | refine inBR ?_ | refine inBS ?_ | refine inBN (by decide) ?_) | refine W_seqS ?_ | refine W_seqC ?_ | refine W_seqB ?_ | refine W_block ?_ | refine W_skip ?_ | (apply W_condB; (case hc => (simp (disch := omega) only [go_sem, ↓reduceIte, Nat.reduceEqDiff, q1, hlen, e0, e1, e5, c1, hi, idxA, Int.toNat_natCast, hce, hq]); rfl); first | refine qzT ?_ | refine qzF ?_) | ((first | refine W_reg rfl fun G K hG hK => ?_ | refine W_end rfl fun G K hG hK => ?_); simp (disch := omega) only [go_sem, ↓reduceIte, Nat.reduceEqDiff, hG, q1, hlen, e0, e1, e5, c1, hi, idxA, Int.toNat_natCast, hce, hq]; refine hK _ _ ?_; clear hK K hG G))
   refine W_ret ?_; try (repeat (with_reducible first | refine thenI ?_ | refine thenE ?_ | refine thenR ?_ | refine inBI ?_ | refine inBR ?_ | refine inBS ?_ | refine inBN (by decide) ?_))
   refine fin1 (.inl rfl) (by (simp (disch := omega) only [go_sem, ↓reduceIte, Nat.reduceEqDiff, q1, hlen, e0, e1, e5, c1, hi, idxA, Int.toNat_natCast]); try rfl) rfl ⟨⟨_, rfl, .inl ⟨j, hlt, rfl, hw, hno⟩⟩, rfl⟩
  | false =>
   have hw : xs[j] ≠ w := fun e => by rw [e] at hq; simp at hq
   have hno' : ∀ x ∈ xs.take (j + 1), x ≠ w := by
    rw [htk]
    intro x hx
    rcases List.mem_append.1 hx with h | h
    ·exact hno x h
    ·rw [List.mem_singleton.1 h]; exact hw
   repeat (first | with_reducible (first | refine thenI ?_ | refine thenE ?_ | refine thenR ?_ | refine inBI ?_ | refine inBR ?_ | refine inBS ?_ | refine inBN (by decide) ?_) | refine W_seqS ?_ | refine W_seqC ?_ | refine W_seqB ?_ | refine W_block ?_ | refine W_skip ?_ | (apply W_condB; (case hc => (simp (disch := omega) only [go_sem, ↓reduceIte, Nat.reduceEqDiff, q1, hlen, e0, e1, e5, c1, hi, idxA, Int.toNat_natCast, hce, hq]); rfl); first | refine qzT ?_ | refine qzF ?_) | ((first | refine W_reg rfl fun G K hG hK => ?_ | refine W_end rfl fun G K hG hK => ?_); simp (disch := omega) only [go_sem, ↓reduceIte, Nat.reduceEqDiff, hG, q1, hlen, e0, e1, e5, c1, hi, idxA, Int.toNat_natCast, hce, hq]; refine hK _ _ ?_; clear hK K hG G))
   refine ⟨xs.length - (j + 1), by omega, j + 1, rfl, by omega, rfl, hno', (by refine ⟨?_, ?_, ?_⟩ <;> ((simp (disch := omega) only [go_sem, ↓reduceIte, Nat.reduceEqDiff, q1, hlen, e0, e1, e5, c1, hi, idxA, Int.toNat_natCast]); try rfl))⟩
 ·have c1 : decide ((j : Int) < (xs.length : Int)) = false := by simpa using hlt
  have hjn : j = xs.length := by omega
  subst hjn
  rw [List.take_length] at hno
  repeat (first | with_reducible (first | refine thenI ?_ | refine thenE ?_ | refine thenR ?_ | refine inBI ?_ | refine inBR ?_ | refine inBS ?_ | refine inBN (by decide) ?_) | refine W_seqS ?_ | refine W_seqC ?_ | refine W_seqB ?_ | refine W_block ?_ | refine W_skip ?_ | (apply W_condB; (case hc => (simp (disch := omega) only [go_sem, ↓reduceIte, Nat.reduceEqDiff, q1, hlen, e0, e1, e5, c1]); rfl); first | refine qzT ?_ | refine qzF ?_) | ((first | refine W_reg rfl fun G K hG hK => ?_ | refine W_end rfl fun G K hG hK => ?_); simp (disch := omega) only [go_sem, ↓reduceIte, Nat.reduceEqDiff, hG, q1, hlen, e0, e1, e5, c1]; refine hK _ _ ?_; clear hK K hG G))
  refine W_exit ?_; repeat (with_reducible first | refine thenI ?_ | refine thenE ?_ | refine thenR ?_ | refine inBI ?_ | refine inBR ?_ | refine inBS ?_ | refine inBN (by decide) ?_)
  repeat (first | with_reducible (first | refine thenI ?_ | refine thenE ?_ | refine thenR ?_ | refine inBI ?_ | refine inBR ?_ | refine inBS ?_ | refine inBN (by decide) ?_) | refine W_seqS ?_ | refine W_seqC ?_ | refine W_seqB ?_ | refine W_block ?_ | refine W_skip ?_ | (apply W_condB; (case hc => (simp (disch := omega) only [go_sem, ↓reduceIte, Nat.reduceEqDiff, q1, hlen, e0, e1, e5, c1]); rfl); first | refine qzT ?_ | refine qzF ?_) | ((first | refine W_reg rfl fun G K hG hK => ?_ | refine W_end rfl fun G K hG hK => ?_); simp (disch := omega) only [go_sem, ↓reduceIte, Nat.reduceEqDiff, hG, q1, hlen, e0, e1, e5, c1]; refine hK _ _ ?_; clear hK K hG G))
  refine W_ret ?_; try (repeat (with_reducible first | refine thenI ?_ | refine thenE ?_ | refine thenR ?_ | refine inBI ?_ | refine inBR ?_ | refine inBS ?_ | refine inBN (by decide) ?_))
  refine fin1 (.inl rfl) (by (simp (disch := omega) only [go_sem, ↓reduceIte, Nat.reduceEqDiff, q1, hlen, e0, e1, e5, c1]); try rfl) rfl ⟨⟨_, rfl, .inr ⟨fun h => hno w h rfl, rfl⟩⟩, rfl⟩

/-- No name stands twice. -/
def distB (xs : List ByteArray) : Bool := ((namesB xs).length : Int) == (xs.length : Int)
theorem distB_iff {xs : List ByteArray} : distB xs = true ↔ xs.Nodup := by
 have h0 : distB xs = true ↔ (chs xs).Nodup := by
  unfold distB
  rw [beq_iff_eq, Int.ofNat_inj, names_all]
 rw [h0]
 unfold chs
 constructor
 ·intro h
  exact List.Pairwise.of_map _ (fun a b hab e => hab (by rw [e])) h
 ·intro h
  exact List.Pairwise.map _ (fun a b hab e => hab (ByteArray.ext (Array.ext' e))) h
theorem specDistinct_ok (xs : List ByteArray) (st : St) (s : Value) (hbig : xs.length ≤ 1073741824) (hr : Rw st xs s) :
  CallS Try.prog 33 [s] st fun r st2 => r = .bool (distB xs) ∧ st2 = st := by
 refine CallS_of_W [] 18 Try.func33 rfl rfl rfl rfl (by simp) ?_
 have q1 := hr.notLoc.1
 have hlen : lenE Try.prog 24 s = some (.int .i64 xs.length) := row_len hr Try.underlying24
 repeat (first | with_reducible (first | refine thenI ?_ | refine thenE ?_ | refine thenR ?_ | refine inBI ?_ | refine inBR ?_ | refine inBS ?_ | refine inBN (by decide) ?_) | refine W_seqS ?_ | refine W_seqC ?_ | refine W_seqB ?_ | refine W_block ?_ | refine W_skip ?_ | (apply W_condB; (case hc => (simp (disch := omega) only [go_sem, ↓reduceIte, Nat.reduceEqDiff, q1, hlen]); rfl); first | refine qzT ?_ | refine qzF ?_) | ((first | refine W_reg rfl fun G K hG hK => ?_ | refine W_end rfl fun G K hG hK => ?_); simp (disch := omega) only [go_sem, ↓reduceIte, Nat.reduceEqDiff, hG, q1, hlen]; refine hK _ _ ?_; clear hK K hG G))
 refine W_loop (fun d fr st' => ∃ (j : Nat) , d = xs.length - j ∧ j ≤ xs.length ∧ (st = st') ∧ ((xs.take j).Nodup) ∧ (fr.env 0 = s) ∧ (fr.env 3 = .int .i64 j)) (xs.length) ?_ ?_
 ·exact ⟨0, by omega, by omega, rfl, by simp, (by refine ⟨?_, ?_⟩ <;> ((simp (disch := omega) only [go_sem, ↓reduceIte, Nat.reduceEqDiff, q1, hlen]); try rfl))⟩
 rintro d ⟨env, loc⟩ st' ⟨j, hd, hj, hst, hnd, e0, e3⟩
 simp only at e0 e3
 subst hst
 by_cases hlt : j < xs.length
 ·have c1 : decide ((j : Int) < (xs.length : Int)) = true := by simpa using hlt
  have hi := idxOk hlt
  have hx : xs[j]? = some xs[j] := List.getElem?_eq_getElem hlt
  have htk : xs.take (j + 1) = xs.take j ++ [xs[j]] := List.take_succ_eq_append_getElem hlt
  have hr0 := hr
  obtain ⟨i, o, c, rfl, hce⟩ := row_atS hr hx
  repeat (first | with_reducible (first | refine thenI ?_ | refine thenE ?_ | refine thenR ?_ | refine inBI ?_ | refine inBR ?_ | refine inBS ?_ | refine inBN (by decide) ?_) | refine W_seqS ?_ | refine W_seqC ?_ | refine W_seqB ?_ | refine W_block ?_ | refine W_skip ?_ | (apply W_condB; (case hc => (simp (disch := omega) only [go_sem, ↓reduceIte, Nat.reduceEqDiff, q1, hlen, e0, e3, c1, hi, idxA, Int.toNat_natCast]); rfl); first | refine qzT ?_ | refine qzF ?_) | ((first | refine W_reg rfl fun G K hG hK => ?_ | refine W_end rfl fun G K hG hK => ?_); simp (disch := omega) only [go_sem, ↓reduceIte, Nat.reduceEqDiff, hG, q1, hlen, e0, e3, c1, hi, idxA, Int.toNat_natCast]; refine hK _ _ ?_; clear hK K hG G))
  (repeat (first | refine W_seqS ?_ | refine W_seqC ?_ | refine W_seqB ?_ | refine W_block ?_)); refine W_reg rfl fun G K hG hK => ?_; simp (disch := omega) only [go_sem, ↓reduceIte, Nat.reduceEqDiff, hG, q1, hlen, e0, e3, c1, hi, idxA, Int.toNat_natCast, hce]
  refine w_call (specIndexFirst_ok xs xs[j] st _ hbig hr0) (by simp (disch := omega) only [go_sem, ↓reduceIte, Nat.reduceEqDiff, q1, hlen, e0, e3, c1, hi, idxA, Int.toNat_natCast, hce]) ?hl ?_
  case hl => first | rfl | (simp only [go_sem, List.all_cons, List.all_nil, Bool.not_false, Bool.and_self, q1, hlen, e0, e3, c1, hi, idxA, Int.toNat_natCast, hce]; done)
  rintro r_ st ⟨⟨k, rfl, hk⟩, rfl⟩; refine ⟨fun e => (by cases e), ?_⟩
  rcases hk with ⟨n, hn, rfl, he, hf⟩ | ⟨hout, rfl⟩
  ·by_cases hnj : n = j
   ·have hnj' : j = n := hnj.symm
    subst hnj'
    have hnd2 : (xs.take (j + 1)).Nodup := by
     rw [htk]
     exact List.nodup_append.2 ⟨hnd, by simp, fun a ha b hb => by rw [List.mem_singleton.1 hb]; exact hf a ha⟩
    simp (disch := omega) only [go_sem, ↓reduceIte, Nat.reduceEqDiff, hG, q1, hlen, e0, e3, c1, hi, idxA, Int.toNat_natCast, hce]; refine hK _ _ ?_; clear hK K hG G; repeat (with_reducible first | refine thenI ?_ | refine thenE ?_ | refine thenR ?_ | refine inBI ?_ | refine inBR ?_ | refine inBS ?_ | refine inBN (by decide) ?_)
    repeat (first | with_reducible (first | refine thenI ?_ | refine thenE ?_ | refine thenR ?_ | refine inBI ?_ | refine inBR ?_ | refine inBS ?_ | refine inBN (by decide) ?_) | refine W_seqS ?_ | refine W_seqC ?_ | refine W_seqB ?_ | refine W_block ?_ | refine W_skip ?_ | (apply W_condB; (case hc => (simp (disch := omega) only [go_sem, ↓reduceIte, Nat.reduceEqDiff, q1, hlen, e0, e3, c1, hi, idxA, Int.toNat_natCast]); rfl); first | refine qzT ?_ | refine qzF ?_) | ((first | refine W_reg rfl fun G K hG hK => ?_ | refine W_end rfl fun G K hG hK => ?_); simp (disch := omega) only [go_sem, ↓reduceIte, Nat.reduceEqDiff, hG, q1, hlen, e0, e3, c1, hi, idxA, Int.toNat_natCast]; refine hK _ _ ?_; clear hK K hG G))
    refine ⟨xs.length - (j + 1), by omega, j + 1, rfl, by omega, rfl, hnd2, (by refine ⟨?_, ?_⟩ <;> ((simp (disch := omega) only [go_sem, ↓reduceIte, Nat.reduceEqDiff, q1, hlen, e0, e3, c1, hi, idxA, Int.toNat_natCast]); try rfl))⟩
   ·have c2 : ((n : Int) != (j : Int)) = true := by simp; omega
    have hbad : distB xs = false := by
     rw [Bool.eq_false_iff]
     intro h
     have h2 := distB_iff.1 h
     have h3 := List.pairwise_iff_getElem.1 h2
     rcases Nat.lt_or_gt_of_ne hnj with h | h
     ·exact h3 n j hn hlt h he
     ·exact h3 j n hlt hn h he.symm
    simp (disch := omega) only [go_sem, ↓reduceIte, Nat.reduceEqDiff, hG, q1, hlen, e0, e3, c1, hi, idxA, Int.toNat_natCast, hce, c2]; refine hK _ _ ?_; clear hK K hG G; repeat (with_reducible first | refine thenI ?_ | refine thenE ?_ | refine thenR ?_ | refine inBI ?_ | refine inBR ?_ | refine inBS ?_ | refine inBN (by decide) ?_)
    repeat (first | with_reducible (first | refine thenI ?_ | refine thenE ?_ | refine thenR ?_ | refine inBI ?_ | refine inBR ?_ | refine inBS ?_ | refine inBN (by decide) ?_) | refine W_seqS ?_ | refine W_seqC ?_ | refine W_seqB ?_ | refine W_block ?_ | refine W_skip ?_ | (apply W_condB; (case hc => (simp (disch := omega) only [go_sem, ↓reduceIte, Nat.reduceEqDiff, q1, hlen, e0, e3, c1, hi, idxA, Int.toNat_natCast]); rfl); first | refine qzT ?_ | refine qzF ?_) | ((first | refine W_reg rfl fun G K hG hK => ?_ | refine W_end rfl fun G K hG hK => ?_); simp (disch := omega) only [go_sem, ↓reduceIte, Nat.reduceEqDiff, hG, q1, hlen, e0, e3, c1, hi, idxA, Int.toNat_natCast]; refine hK _ _ ?_; clear hK K hG G))
    refine W_ret ?_; try (repeat (with_reducible first | refine thenI ?_ | refine thenE ?_ | refine thenR ?_ | refine inBI ?_ | refine inBR ?_ | refine inBS ?_ | refine inBN (by decide) ?_))
    refine fin1 (.inl rfl) (by (simp (disch := omega) only [go_sem, ↓reduceIte, Nat.reduceEqDiff, q1, hlen, e0, e3, c1, hi, idxA, Int.toNat_natCast]); try rfl) rfl ⟨by rw [hbad], rfl⟩
  ·exact absurd (List.getElem_mem hlt) hout
 ·have c1 : decide ((j : Int) < (xs.length : Int)) = false := by simpa using hlt
  have hjn : j = xs.length := by omega
  subst hjn
  rw [List.take_length] at hnd
  repeat (first | with_reducible (first | refine thenI ?_ | refine thenE ?_ | refine thenR ?_ | refine inBI ?_ | refine inBR ?_ | refine inBS ?_ | refine inBN (by decide) ?_) | refine W_seqS ?_ | refine W_seqC ?_ | refine W_seqB ?_ | refine W_block ?_ | refine W_skip ?_ | (apply W_condB; (case hc => (simp (disch := omega) only [go_sem, ↓reduceIte, Nat.reduceEqDiff, q1, hlen, e0, e3, c1]); rfl); first | refine qzT ?_ | refine qzF ?_) | ((first | refine W_reg rfl fun G K hG hK => ?_ | refine W_end rfl fun G K hG hK => ?_); simp (disch := omega) only [go_sem, ↓reduceIte, Nat.reduceEqDiff, hG, q1, hlen, e0, e3, c1]; refine hK _ _ ?_; clear hK K hG G))
  refine W_exit ?_; repeat (with_reducible first | refine thenI ?_ | refine thenE ?_ | refine thenR ?_ | refine inBI ?_ | refine inBR ?_ | refine inBS ?_ | refine inBN (by decide) ?_)
  repeat (first | with_reducible (first | refine thenI ?_ | refine thenE ?_ | refine thenR ?_ | refine inBI ?_ | refine inBR ?_ | refine inBS ?_ | refine inBN (by decide) ?_) | refine W_seqS ?_ | refine W_seqC ?_ | refine W_seqB ?_ | refine W_block ?_ | refine W_skip ?_ | (apply W_condB; (case hc => (simp (disch := omega) only [go_sem, ↓reduceIte, Nat.reduceEqDiff, q1, hlen, e0, e3, c1]); rfl); first | refine qzT ?_ | refine qzF ?_) | ((first | refine W_reg rfl fun G K hG hK => ?_ | refine W_end rfl fun G K hG hK => ?_); simp (disch := omega) only [go_sem, ↓reduceIte, Nat.reduceEqDiff, hG, q1, hlen, e0, e3, c1]; refine hK _ _ ?_; clear hK K hG G))
  refine W_ret ?_; try (repeat (with_reducible first | refine thenI ?_ | refine thenE ?_ | refine thenR ?_ | refine inBI ?_ | refine inBR ?_ | refine inBS ?_ | refine inBN (by decide) ?_))
  refine fin1 (.inl rfl) (by (simp (disch := omega) only [go_sem, ↓reduceIte, Nat.reduceEqDiff, q1, hlen, e0, e3, c1]); try rfl) rfl ⟨by rw [distB_iff.2 hnd], rfl⟩

/-- A name that a sort may bear. -/
def sortN (x : ByteArray) : Bool := isName x && !(x.toList == wordB.toList)
def validS (g : Sgn) : Bool := decide ((g.sorts.length : Int) ≤ 4) && (distB g.sorts && (decide ((g.ops.length : Int) ≤ 16) && (g.sorts.all sortN && (g.ops.all (opOk g) && distB (g.ops.map Opr.nm)))))
theorem validS_bad1 {g : Sgn} {j : Nat} (h : j < g.sorts.length) (hb : sortN g.sorts[j] = false) : validS g = false := by
 unfold validS
 rw [show g.sorts.all sortN = false from List.all_eq_false.2 ⟨_, List.getElem_mem h, by rw [hb]; simp⟩]
 simp
theorem validS_bad2 {g : Sgn} {j : Nat} (h : j < g.ops.length) (hb : opOk g g.ops[j] = false) : validS g = false := by
 unfold validS
 rw [show g.ops.all (opOk g) = false from List.all_eq_false.2 ⟨_, List.getElem_mem h, by rw [hb]; simp⟩]
 simp
theorem specValidS_ok (g : Sgn) (st : St) (cs : List Value) (hl : LimS 1073741824 g) (hss : ∀ x ∈ g.sorts, x.size ≤ 8) (hon : ∀ o ∈ g.ops, o.nm.size ≤ 8) (hE : EncS st g cs) :
  CallS Try.prog 12 [.agg cs.toArray] st fun r st2 => Ext st st2 ∧ r = .bool (validS g) := by
 have hE0 := hE
 obtain ⟨s, u, rfl, hs, hu⟩ := hE
 refine CallS_of_W [] 72 Try.func12 rfl rfl rfl rfl (by simp) ?_
 have p1 := hs.notLoc.1
 have p2 := hs.notLoc.2
 have p3 := hu.notLoc.1
 have p4 := hu.notLoc.2
 have hb1 := hl.1
 have hb2 := hl.2.1
 have hs0 := hs
 have hu0 := hu
 have hlen : lenE Try.prog 24 s = some (.int .i64 g.sorts.length) := row_len hs Try.underlying24
 have hlen2 : lenE Try.prog 25 u = some (.int .i64 g.ops.length) := row_len hu Try.underlying25
 repeat (first | with_reducible (first | refine thenI ?_ | refine thenE ?_ | refine thenR ?_ | refine inBI ?_ | refine inBR ?_ | refine inBS ?_ | refine inBN (by decide) ?_) | refine W_seqS ?_ | refine W_seqC ?_ | refine W_seqB ?_ | refine W_block ?_ | refine W_skip ?_ | (apply W_condB; (case hc => (simp (disch := omega) only [go_sem, ↓reduceIte, Nat.reduceEqDiff, p1, p2, p3, p4, hlen, hlen2]); rfl); first | refine qzT ?_ | refine qzF ?_) | ((first | refine W_reg rfl fun G K hG hK => ?_ | refine W_end rfl fun G K hG hK => ?_); simp (disch := omega) only [go_sem, ↓reduceIte, Nat.reduceEqDiff, hG, p1, p2, p3, p4, hlen, hlen2]; refine hK _ _ ?_; clear hK K hG G))
 refine W_loop (fun d fr st' => ∃ (j : Nat) (r : Value) (L : List Nat), d = g.sorts.length - j ∧ j ≤ g.sorts.length ∧ (Ext st st') ∧ (Sl st' ([] : List ByteArray) r L) ∧ (Fresh st.length L) ∧ ((topId r = none ∨ ∃ m, st.length ≤ m ∧ topId r = some m)) ∧ ((∀ x ∈ g.sorts.take j, sortN x = true)) ∧ (fr.env 1 = .pointer (some ⟨1, 0, some 1⟩)) ∧ (fr.env 3 = r) ∧ (fr.env 4 = .int .i64 j) ∧ (fr.loc 1 = (1, [s, u]))) (g.sorts.length) ?_ ?_
 ·exact ⟨0, _, _, by omega, by omega, Ext.app _ _, Sl.empty (α := ByteArray) _, ⟨by simp, by simp⟩, .inr ⟨_, Nat.le_refl _, rfl⟩, by simp, (by refine ⟨?_, ?_, ?_, ?_⟩ <;> ((simp (disch := omega) only [go_sem, ↓reduceIte, Nat.reduceEqDiff, p1, p2, p3, p4, hlen, hlen2]); try rfl))⟩
 rintro d ⟨env, loc⟩ st' ⟨j, r, L, hd, hj, hext, hown, hfr, htop, hall, e1, e3, e4, l1⟩
 simp only at e1 e3 e4 l1
 have ol := hown.loc
 by_cases hlt : j < g.sorts.length
 ·have c1 : decide ((j : Int) < (g.sorts.length : Int)) = true := by simpa using hlt
  have hi := idxOk hlt
  have hx : g.sorts[j]? = some g.sorts[j] := List.getElem?_eq_getElem hlt
  have htk : g.sorts.take (j + 1) = g.sorts.take j ++ [g.sorts[j]] := List.take_succ_eq_append_getElem hlt
  obtain ⟨i, o, c, rfl, hce0⟩ := row_atS hs hx
  have hce := cell_ext hext hce0
  repeat (first | with_reducible (first | refine thenI ?_ | refine thenE ?_ | refine thenR ?_ | refine inBI ?_ | refine inBR ?_ | refine inBS ?_ | refine inBN (by decide) ?_) | refine W_seqS ?_ | refine W_seqC ?_ | refine W_seqB ?_ | refine W_block ?_ | refine W_skip ?_ | (apply W_condB; (case hc => (simp (disch := omega) only [go_sem, ↓reduceIte, Nat.reduceEqDiff, p1, p2, p3, p4, hlen, hlen2, e1, e3, e4, l1, c1, hi, idxA, Int.toNat_natCast]); rfl); first | refine qzT ?_ | refine qzF ?_) | ((first | refine W_reg rfl fun G K hG hK => ?_ | refine W_end rfl fun G K hG hK => ?_); simp (disch := omega) only [go_sem, ↓reduceIte, Nat.reduceEqDiff, hG, p1, p2, p3, p4, hlen, hlen2, e1, e3, e4, l1, c1, hi, idxA, Int.toNat_natCast]; refine hK _ _ ?_; clear hK K hG G))
  (repeat (first | refine W_seqS ?_ | refine W_seqC ?_ | refine W_seqB ?_ | refine W_block ?_)); refine W_reg rfl fun G K hG hK => ?_; simp (disch := omega) only [go_sem, ↓reduceIte, Nat.reduceEqDiff, hG, p1, p2, p3, p4, hlen, hlen2, e1, e3, e4, l1, c1, hi, idxA, Int.toNat_natCast, hce, ol]
  refine w_call (specIsName_ok g.sorts[j] (by have := hss _ (List.getElem_mem hlt); omega) st') (by simp (disch := omega) only [go_sem, ↓reduceIte, Nat.reduceEqDiff, p1, p2, p3, p4, hlen, hlen2, e1, e3, e4, l1, c1, hi, idxA, Int.toNat_natCast, hce, ol]) ?hl ?_
  case hl => first | rfl | (simp only [go_sem, List.all_cons, List.all_nil, Bool.not_false, Bool.and_self, p1, p2, p3, p4, hlen, hlen2, e1, e3, e4, l1, c1, hi, idxA, Int.toNat_natCast, hce, ol]; done)
  rintro r_ st' ⟨rfl, rfl⟩; refine ⟨fun e => (by cases e), ?_⟩
  cases h1 : isName g.sorts[j] with
  | false =>
   have hbad : validS g = false := validS_bad1 hlt (by unfold sortN; rw [h1]; rfl)
   simp (disch := omega) only [go_sem, ↓reduceIte, Nat.reduceEqDiff, hG, p1, p2, p3, p4, hlen, hlen2, e1, e3, e4, l1, c1, hi, idxA, Int.toNat_natCast, hce, ol]; refine hK _ _ ?_; clear hK K hG G; repeat (with_reducible first | refine thenI ?_ | refine thenE ?_ | refine thenR ?_ | refine inBI ?_ | refine inBR ?_ | refine inBS ?_ | refine inBN (by decide) ?_)
   repeat (first | with_reducible (first | refine thenI ?_ | refine thenE ?_ | refine thenR ?_ | refine inBI ?_ | refine inBR ?_ | refine inBS ?_ | refine inBN (by decide) ?_) | refine W_seqS ?_ | refine W_seqC ?_ | refine W_seqB ?_ | refine W_block ?_ | refine W_skip ?_ | (apply W_condB; (case hc => (simp (disch := omega) only [go_sem, ↓reduceIte, Nat.reduceEqDiff, p1, p2, p3, p4, hlen, hlen2, e1, e3, e4, l1, c1, hi, idxA, Int.toNat_natCast]); rfl); first | refine qzT ?_ | refine qzF ?_) | ((first | refine W_reg rfl fun G K hG hK => ?_ | refine W_end rfl fun G K hG hK => ?_); simp (disch := omega) only [go_sem, ↓reduceIte, Nat.reduceEqDiff, hG, p1, p2, p3, p4, hlen, hlen2, e1, e3, e4, l1, c1, hi, idxA, Int.toNat_natCast]; refine hK _ _ ?_; clear hK K hG G))
   refine W_ret ?_; try (repeat (with_reducible first | refine thenI ?_ | refine thenE ?_ | refine thenR ?_ | refine inBI ?_ | refine inBR ?_ | refine inBS ?_ | refine inBN (by decide) ?_))
   refine fin1 (.inl rfl) (by (simp (disch := omega) only [go_sem, ↓reduceIte, Nat.reduceEqDiff, p1, p2, p3, p4, hlen, hlen2, e1, e3, e4, l1, c1, hi, idxA, Int.toNat_natCast]); try rfl) rfl ⟨hext, by rw [hbad]⟩
  | true =>
   cases hw : (g.sorts[j].toList == wordB.toList) with
   | true =>
    have hw' : (g.sorts[j].toList == (⟨#[119, 111, 114, 100]⟩ : ByteArray).toList) = true := hw
    have hbad : validS g = false := validS_bad1 hlt (by unfold sortN; rw [h1, hw]; rfl)
    simp (disch := omega) only [go_sem, ↓reduceIte, Nat.reduceEqDiff, hG, p1, p2, p3, p4, hlen, hlen2, e1, e3, e4, l1, c1, hi, idxA, Int.toNat_natCast, hce, ol, hw']; refine hK _ _ ?_; clear hK K hG G; repeat (with_reducible first | refine thenI ?_ | refine thenE ?_ | refine thenR ?_ | refine inBI ?_ | refine inBR ?_ | refine inBS ?_ | refine inBN (by decide) ?_)
    repeat (first | with_reducible (first | refine thenI ?_ | refine thenE ?_ | refine thenR ?_ | refine inBI ?_ | refine inBR ?_ | refine inBS ?_ | refine inBN (by decide) ?_) | refine W_seqS ?_ | refine W_seqC ?_ | refine W_seqB ?_ | refine W_block ?_ | refine W_skip ?_ | (apply W_condB; (case hc => (simp (disch := omega) only [go_sem, ↓reduceIte, Nat.reduceEqDiff, p1, p2, p3, p4, hlen, hlen2, e1, e3, e4, l1, c1, hi, idxA, Int.toNat_natCast]); rfl); first | refine qzT ?_ | refine qzF ?_) | ((first | refine W_reg rfl fun G K hG hK => ?_ | refine W_end rfl fun G K hG hK => ?_); simp (disch := omega) only [go_sem, ↓reduceIte, Nat.reduceEqDiff, hG, p1, p2, p3, p4, hlen, hlen2, e1, e3, e4, l1, c1, hi, idxA, Int.toNat_natCast]; refine hK _ _ ?_; clear hK K hG G))
    refine W_ret ?_; try (repeat (with_reducible first | refine thenI ?_ | refine thenE ?_ | refine thenR ?_ | refine inBI ?_ | refine inBR ?_ | refine inBS ?_ | refine inBN (by decide) ?_))
    refine fin1 (.inl rfl) (by (simp (disch := omega) only [go_sem, ↓reduceIte, Nat.reduceEqDiff, p1, p2, p3, p4, hlen, hlen2, e1, e3, e4, l1, c1, hi, idxA, Int.toNat_natCast]); try rfl) rfl ⟨hext, by rw [hbad]⟩
   | false =>
    have hw' : (g.sorts[j].toList == (⟨#[119, 111, 114, 100]⟩ : ByteArray).toList) = false := hw
    have hall2 : ∀ x ∈ g.sorts.take (j + 1), sortN x = true := fun x hx => by
     rw [htk] at hx
     rcases List.mem_append.1 hx with h | h
     ·exact hall x h
     ·cases List.mem_singleton.1 h; unfold sortN; rw [h1, hw]; rfl
    simp (disch := omega) only [go_sem, ↓reduceIte, Nat.reduceEqDiff, hG, p1, p2, p3, p4, hlen, hlen2, e1, e3, e4, l1, c1, hi, idxA, Int.toNat_natCast, hce, ol, hw']; refine hK _ _ ?_; clear hK K hG G; repeat (with_reducible first | refine thenI ?_ | refine thenE ?_ | refine thenR ?_ | refine inBI ?_ | refine inBR ?_ | refine inBS ?_ | refine inBN (by decide) ?_)
    repeat (first | with_reducible (first | refine thenI ?_ | refine thenE ?_ | refine thenR ?_ | refine inBI ?_ | refine inBR ?_ | refine inBS ?_ | refine inBN (by decide) ?_) | refine W_seqS ?_ | refine W_seqC ?_ | refine W_seqB ?_ | refine W_block ?_ | refine W_skip ?_ | (apply W_condB; (case hc => (simp (disch := omega) only [go_sem, ↓reduceIte, Nat.reduceEqDiff, p1, p2, p3, p4, hlen, hlen2, e1, e3, e4, l1, c1, hi, idxA, Int.toNat_natCast]); rfl); first | refine qzT ?_ | refine qzF ?_) | ((first | refine W_reg rfl fun G K hG hK => ?_ | refine W_end rfl fun G K hG hK => ?_); simp (disch := omega) only [go_sem, ↓reduceIte, Nat.reduceEqDiff, hG, p1, p2, p3, p4, hlen, hlen2, e1, e3, e4, l1, c1, hi, idxA, Int.toNat_natCast]; refine hK _ _ ?_; clear hK K hG G))
    refine ⟨g.sorts.length - (j + 1), by omega, j + 1, r, L, rfl, by omega, hext, hown, hfr, htop, hall2, (by refine ⟨?_, ?_, ?_, ?_⟩ <;> ((simp (disch := omega) only [go_sem, ↓reduceIte, Nat.reduceEqDiff, p1, p2, p3, p4, hlen, hlen2, e1, e3, e4, l1, c1, hi, idxA, Int.toNat_natCast]); try rfl))⟩
 ·have c1 : decide ((j : Int) < (g.sorts.length : Int)) = false := by simpa using hlt
  have hjn : j = g.sorts.length := by omega
  subst hjn
  rw [List.take_length] at hall
  have hS : g.sorts.all sortN = true := List.all_eq_true.2 hall
  repeat (first | with_reducible (first | refine thenI ?_ | refine thenE ?_ | refine thenR ?_ | refine inBI ?_ | refine inBR ?_ | refine inBS ?_ | refine inBN (by decide) ?_) | refine W_seqS ?_ | refine W_seqC ?_ | refine W_seqB ?_ | refine W_block ?_ | refine W_skip ?_ | (apply W_condB; (case hc => (simp (disch := omega) only [go_sem, ↓reduceIte, Nat.reduceEqDiff, p1, p2, p3, p4, hlen, hlen2, e1, e3, e4, l1, c1, ol]); rfl); first | refine qzT ?_ | refine qzF ?_) | ((first | refine W_reg rfl fun G K hG hK => ?_ | refine W_end rfl fun G K hG hK => ?_); simp (disch := omega) only [go_sem, ↓reduceIte, Nat.reduceEqDiff, hG, p1, p2, p3, p4, hlen, hlen2, e1, e3, e4, l1, c1, ol]; refine hK _ _ ?_; clear hK K hG G))
  refine W_exit ?_; repeat (with_reducible first | refine thenI ?_ | refine thenE ?_ | refine thenR ?_ | refine inBI ?_ | refine inBR ?_ | refine inBS ?_ | refine inBN (by decide) ?_)
  repeat (first | with_reducible (first | refine thenI ?_ | refine thenE ?_ | refine thenR ?_ | refine inBI ?_ | refine inBR ?_ | refine inBS ?_ | refine inBN (by decide) ?_) | refine W_seqS ?_ | refine W_seqC ?_ | refine W_seqB ?_ | refine W_block ?_ | refine W_skip ?_ | (apply W_condB; (case hc => (simp (disch := omega) only [go_sem, ↓reduceIte, Nat.reduceEqDiff, p1, p2, p3, p4, hlen, hlen2, e1, e3, e4, l1, c1, ol]); rfl); first | refine qzT ?_ | refine qzF ?_) | ((first | refine W_reg rfl fun G K hG hK => ?_ | refine W_end rfl fun G K hG hK => ?_); simp (disch := omega) only [go_sem, ↓reduceIte, Nat.reduceEqDiff, hG, p1, p2, p3, p4, hlen, hlen2, e1, e3, e4, l1, c1, ol]; refine hK _ _ ?_; clear hK K hG G))
  clear hlt c1 hd hj
  refine W_loop (fun d fr st' => ∃ (j : Nat) (r : Value) (L : List Nat), d = g.ops.length - j ∧ j ≤ g.ops.length ∧ (Ext st st') ∧ (Sl st' ((g.ops.take j).map Opr.nm) r L) ∧ (Fresh st.length L) ∧ ((topId r = none ∨ ∃ m, st.length ≤ m ∧ topId r = some m)) ∧ ((∀ x ∈ g.ops.take j, opOk g x = true)) ∧ (fr.env 1 = .pointer (some ⟨1, 0, some 1⟩)) ∧ (fr.env 3 = r) ∧ (fr.env 5 = .int .i64 j) ∧ (fr.loc 1 = (1, [s, u]))) (g.ops.length) ?_ ?_
  ·exact ⟨0, _, _, by omega, by omega, hext, hown, hfr, htop, by simp, (by refine ⟨?_, ?_, ?_, ?_⟩ <;> ((simp (disch := omega) only [go_sem, ↓reduceIte, Nat.reduceEqDiff, p1, p2, p3, p4, hlen, hlen2, e1, e3, e4, l1, ol]); try rfl))⟩
  clear e1 e3 e4 l1
  rintro d ⟨env, loc⟩ st' ⟨j, r, L, hd, hj, hext, hown, hfr, htop, hall2, e1, e3, e5, l1⟩
  simp only at e1 e3 e5 l1
  have ol := hown.loc
  by_cases hlt : j < g.ops.length
  ·have c1 : decide ((j : Int) < (g.ops.length : Int)) = true := by simpa using hlt
   have hi := idxOk hlt
   have hx : g.ops[j]? = some g.ops[j] := List.getElem?_eq_getElem hlt
   have htk : g.ops.take (j + 1) = g.ops.take j ++ [g.ops[j]] := List.take_succ_eq_append_getElem hlt
   obtain ⟨i, o, c, sx, rfl, hrx, hcs⟩ := row_atO hu hx
   have hld := fun loc => load_row (A := []) (loc := loc) ag54 sz54 rfl (hcs.ext hext)
   have hc0 : cell st' i (o + j * 3) = some (.string g.ops[j].nm) := by have := cell_ext hext (hcs 0 _ rfl); rwa [Nat.add_zero] at this
   have nx := hrx.notLoc.1
   have nx2 := hrx.notLoc.2
   have nx3 := Row.cells1 hrx
   repeat (first | with_reducible (first | refine thenI ?_ | refine thenE ?_ | refine thenR ?_ | refine inBI ?_ | refine inBR ?_ | refine inBS ?_ | refine inBN (by decide) ?_) | refine W_seqS ?_ | refine W_seqC ?_ | refine W_seqB ?_ | refine W_block ?_ | refine W_skip ?_ | (apply W_condB; (case hc => (simp (disch := omega) only [go_sem, ↓reduceIte, Nat.reduceEqDiff, p1, p2, p3, p4, hlen, hlen2, ol, e1, e3, e5, l1, c1, hi, idxA, Int.toNat_natCast, nx, nx2, nx3, ol]); rfl); first | refine qzT ?_ | refine qzF ?_) | ((first | refine W_reg rfl fun G K hG hK => ?_ | refine W_end rfl fun G K hG hK => ?_); simp (disch := omega) only [go_sem, ↓reduceIte, Nat.reduceEqDiff, hG, p1, p2, p3, p4, hlen, hlen2, ol, e1, e3, e5, l1, c1, hi, idxA, Int.toNat_natCast, nx, nx2, nx3, ol]; refine hK _ _ ?_; clear hK K hG G))
   (repeat (first | refine W_seqS ?_ | refine W_seqC ?_ | refine W_seqB ?_ | refine W_block ?_)); refine W_regD mixed [] [(0,false),(1,false),(2,false),(3,false),(4,false),(5,false),(6,false),(7,false)] rfl (by decide +kernel) fun G K hG hK => ?_; simp only [pickOps, List.filterMap_cons, List.filterMap_nil, List.getElem?_cons_zero, List.getElem?_cons_succ, Option.map_some]; simp (disch := omega) only [go_sem, ↓reduceIte, Nat.reduceEqDiff, hG, p1, p2, p3, p4, hlen, hlen2, ol, e1, e3, e5, l1, c1, hi, idxA, Int.toNat_natCast, nx, nx2, nx3, ol, hld]
   refine w_call (l6Op_ok g g.ops[j] st' _ _ hl (hE0.ext hext) ⟨_, rfl, hrx.ext hext⟩ (hl.2.2 _ (List.getElem_mem hlt)) (hon _ (List.getElem_mem hlt))) (by simp (disch := omega) only [go_sem, ↓reduceIte, Nat.reduceEqDiff, p1, p2, p3, p4, hlen, hlen2, ol, e1, e3, e5, l1, c1, hi, idxA, Int.toNat_natCast, nx, nx2, nx3, ol, hld]) ?hl ?_
   case hl => first | rfl | (simp only [go_sem, List.all_cons, List.all_nil, Bool.not_false, Bool.and_self, p1, p2, p3, p4, hlen, hlen2, ol, e1, e3, e5, l1, c1, hi, idxA, Int.toNat_natCast, nx, nx2, nx3, ol, hld]; done)
   rintro r_ st' ⟨rfl, rfl⟩; refine ⟨fun e => (by cases e), ?_⟩
   cases ho : opOk g g.ops[j] with
   | false =>
    have hbad : validS g = false := validS_bad2 hlt ho
    simp (disch := omega) only [go_sem, ↓reduceIte, Nat.reduceEqDiff, hG, p1, p2, p3, p4, hlen, hlen2, ol, e1, e3, e5, l1, c1, hi, idxA, Int.toNat_natCast, nx, nx2, nx3, ol, hld]; refine hK _ _ ?_; clear hK K hG G; repeat (with_reducible first | refine thenI ?_ | refine thenE ?_ | refine thenR ?_ | refine inBI ?_ | refine inBR ?_ | refine inBS ?_ | refine inBN (by decide) ?_)
    repeat (first | with_reducible (first | refine thenI ?_ | refine thenE ?_ | refine thenR ?_ | refine inBI ?_ | refine inBR ?_ | refine inBS ?_ | refine inBN (by decide) ?_) | refine W_seqS ?_ | refine W_seqC ?_ | refine W_seqB ?_ | refine W_block ?_ | refine W_skip ?_ | (apply W_condB; (case hc => (simp (disch := omega) only [go_sem, ↓reduceIte, Nat.reduceEqDiff, p1, p2, p3, p4, hlen, hlen2, ol, e1, e3, e5, l1, c1, hi, idxA, Int.toNat_natCast, nx, nx2, nx3, ol]); rfl); first | refine qzT ?_ | refine qzF ?_) | ((first | refine W_reg rfl fun G K hG hK => ?_ | refine W_end rfl fun G K hG hK => ?_); simp (disch := omega) only [go_sem, ↓reduceIte, Nat.reduceEqDiff, hG, p1, p2, p3, p4, hlen, hlen2, ol, e1, e3, e5, l1, c1, hi, idxA, Int.toNat_natCast, nx, nx2, nx3, ol]; refine hK _ _ ?_; clear hK K hG G))
    refine W_ret ?_; try (repeat (with_reducible first | refine thenI ?_ | refine thenE ?_ | refine thenR ?_ | refine inBI ?_ | refine inBR ?_ | refine inBS ?_ | refine inBN (by decide) ?_))
    refine fin1 (.inl rfl) (by (simp (disch := omega) only [go_sem, ↓reduceIte, Nat.reduceEqDiff, p1, p2, p3, p4, hlen, hlen2, ol, e1, e3, e5, l1, c1, hi, idxA, Int.toNat_natCast, nx, nx2, nx3, ol]); try rfl) rfl ⟨hext, by rw [hbad]⟩
   | true =>
    have hall3 : ∀ x ∈ g.ops.take (j + 1), opOk g x = true := fun x hx => by
     rw [htk] at hx
     rcases List.mem_append.1 hx with h | h
     ·exact hall2 x h
     ·cases List.mem_singleton.1 h; exact ho
    obtain ⟨s', sb, L', hap, hs', hf', hg⟩ := OwnS.step (x := g.ops[j].nm) hown hfr hext.length (Ext.refl st') (by simp; omega)
    simp (disch := omega) only [go_sem, ↓reduceIte, Nat.reduceEqDiff, hG, p1, p2, p3, p4, hlen, hlen2, ol, e1, e3, e5, l1, c1, hi, idxA, Int.toNat_natCast, nx, nx2, nx3, ol, hld]; refine hK _ _ ?_; clear hK K hG G; repeat (with_reducible first | refine thenI ?_ | refine thenE ?_ | refine thenR ?_ | refine inBI ?_ | refine inBR ?_ | refine inBS ?_ | refine inBN (by decide) ?_)
    repeat (first | with_reducible (first | refine thenI ?_ | refine thenE ?_ | refine thenR ?_ | refine inBI ?_ | refine inBR ?_ | refine inBS ?_ | refine inBN (by decide) ?_) | refine W_seqS ?_ | refine W_seqC ?_ | refine W_seqB ?_ | refine W_block ?_ | refine W_skip ?_ | (apply W_condB; (case hc => (simp (disch := omega) only [go_sem, ↓reduceIte, Nat.reduceEqDiff, p1, p2, p3, p4, hlen, hlen2, ol, e1, e3, e5, l1, c1, hi, idxA, Int.toNat_natCast, nx, nx2, nx3, ol]); rfl); first | refine qzT ?_ | refine qzF ?_) | ((first | refine W_reg rfl fun G K hG hK => ?_ | refine W_end rfl fun G K hG hK => ?_); simp (disch := omega) only [go_sem, ↓reduceIte, Nat.reduceEqDiff, hG, p1, p2, p3, p4, hlen, hlen2, ol, e1, e3, e5, l1, c1, hi, idxA, Int.toNat_natCast, nx, nx2, nx3, ol]; refine hK _ _ ?_; clear hK K hG G))
    refine W_end rfl fun G K hG hK => ?_; simp (disch := omega) only [go_sem, ↓reduceIte, Nat.reduceEqDiff, hG, p1, p2, p3, p4, hlen, hlen2, ol, e1, e3, e5, l1, c1, hi, idxA, Int.toNat_natCast, nx, nx2, nx3, ol, hc0, w_append, hap]
    refine hK _ _ ?_; clear hK K hG G; repeat (with_reducible first | refine thenI ?_ | refine thenE ?_ | refine thenR ?_ | refine inBI ?_ | refine inBR ?_ | refine inBS ?_ | refine inBN (by decide) ?_)
    repeat (first | with_reducible (first | refine thenI ?_ | refine thenE ?_ | refine thenR ?_ | refine inBI ?_ | refine inBR ?_ | refine inBS ?_ | refine inBN (by decide) ?_) | refine W_seqS ?_ | refine W_seqC ?_ | refine W_seqB ?_ | refine W_block ?_ | refine W_skip ?_ | (apply W_condB; (case hc => (simp (disch := omega) only [go_sem, ↓reduceIte, Nat.reduceEqDiff, p1, p2, p3, p4, hlen, hlen2, ol, e1, e3, e5, l1, c1, hi, idxA, Int.toNat_natCast, nx, nx2, nx3, ol]); rfl); first | refine qzT ?_ | refine qzF ?_) | ((first | refine W_reg rfl fun G K hG hK => ?_ | refine W_end rfl fun G K hG hK => ?_); simp (disch := omega) only [go_sem, ↓reduceIte, Nat.reduceEqDiff, hG, p1, p2, p3, p4, hlen, hlen2, ol, e1, e3, e5, l1, c1, hi, idxA, Int.toNat_natCast, nx, nx2, nx3, ol]; refine hK _ _ ?_; clear hK K hG G))
    refine ⟨g.ops.length - (j + 1), by omega, j + 1, s', L', rfl, by omega, hg.away.ext_of hext htop, by rw [htk, List.map_append]; exact hs', hf', hg.topOk htop hext.length, hall3, (by refine ⟨?_, ?_, ?_, ?_⟩ <;> ((simp (disch := omega) only [go_sem, ↓reduceIte, Nat.reduceEqDiff, p1, p2, p3, p4, hlen, hlen2, ol, e1, e3, e5, l1, c1, hi, idxA, Int.toNat_natCast, nx, nx2, nx3, ol]); try rfl))⟩
  ·have c1 : decide ((j : Int) < (g.ops.length : Int)) = false := by simpa using hlt
   have hjn : j = g.ops.length := by omega
   subst hjn
   rw [List.take_length] at hall2 hown
   have hO : g.ops.all (opOk g) = true := List.all_eq_true.2 hall2
   have hv : validS g = (decide ((g.sorts.length : Int) ≤ 4) && (distB g.sorts && (decide ((g.ops.length : Int) ≤ 16) && distB (g.ops.map Opr.nm)))) := by unfold validS; rw [hS, hO]; simp
   repeat (first | with_reducible (first | refine thenI ?_ | refine thenE ?_ | refine thenR ?_ | refine inBI ?_ | refine inBR ?_ | refine inBS ?_ | refine inBN (by decide) ?_) | refine W_seqS ?_ | refine W_seqC ?_ | refine W_seqB ?_ | refine W_block ?_ | refine W_skip ?_ | (apply W_condB; (case hc => (simp (disch := omega) only [go_sem, ↓reduceIte, Nat.reduceEqDiff, p1, p2, p3, p4, hlen, hlen2, ol, e1, e3, e5, l1, c1, ol]); rfl); first | refine qzT ?_ | refine qzF ?_) | ((first | refine W_reg rfl fun G K hG hK => ?_ | refine W_end rfl fun G K hG hK => ?_); simp (disch := omega) only [go_sem, ↓reduceIte, Nat.reduceEqDiff, hG, p1, p2, p3, p4, hlen, hlen2, ol, e1, e3, e5, l1, c1, ol]; refine hK _ _ ?_; clear hK K hG G))
   refine W_exit ?_; repeat (with_reducible first | refine thenI ?_ | refine thenE ?_ | refine thenR ?_ | refine inBI ?_ | refine inBR ?_ | refine inBS ?_ | refine inBN (by decide) ?_)
   repeat (first | with_reducible (first | refine thenI ?_ | refine thenE ?_ | refine thenR ?_ | refine inBI ?_ | refine inBR ?_ | refine inBS ?_ | refine inBN (by decide) ?_) | refine W_seqS ?_ | refine W_seqC ?_ | refine W_seqB ?_ | refine W_block ?_ | refine W_skip ?_ | (apply W_condB; (case hc => (simp (disch := omega) only [go_sem, ↓reduceIte, Nat.reduceEqDiff, p1, p2, p3, p4, hlen, hlen2, ol, e1, e3, e5, l1, c1, ol]); rfl); first | refine qzT ?_ | refine qzF ?_) | ((first | refine W_reg rfl fun G K hG hK => ?_ | refine W_end rfl fun G K hG hK => ?_); simp (disch := omega) only [go_sem, ↓reduceIte, Nat.reduceEqDiff, hG, p1, p2, p3, p4, hlen, hlen2, ol, e1, e3, e5, l1, c1, ol]; refine hK _ _ ?_; clear hK K hG G))
   clear c1
   cases c4 : decide ((g.sorts.length : Int) ≤ 4) with
   | false =>
    repeat (first | with_reducible (first | refine thenI ?_ | refine thenE ?_ | refine thenR ?_ | refine inBI ?_ | refine inBR ?_ | refine inBS ?_ | refine inBN (by decide) ?_) | refine W_seqS ?_ | refine W_seqC ?_ | refine W_seqB ?_ | refine W_block ?_ | refine W_skip ?_ | (apply W_condB; (case hc => (simp (disch := omega) only [go_sem, ↓reduceIte, Nat.reduceEqDiff, p1, p2, p3, p4, hlen, hlen2, ol, e1, e3, e5, l1, ol, c4]); rfl); first | refine qzT ?_ | refine qzF ?_) | ((first | refine W_reg rfl fun G K hG hK => ?_ | refine W_end rfl fun G K hG hK => ?_); simp (disch := omega) only [go_sem, ↓reduceIte, Nat.reduceEqDiff, hG, p1, p2, p3, p4, hlen, hlen2, ol, e1, e3, e5, l1, ol, c4]; refine hK _ _ ?_; clear hK K hG G))
    refine W_ret ?_; try (repeat (with_reducible first | refine thenI ?_ | refine thenE ?_ | refine thenR ?_ | refine inBI ?_ | refine inBR ?_ | refine inBS ?_ | refine inBN (by decide) ?_))
    refine fin1 (.inl rfl) (by (simp (disch := omega) only [go_sem, ↓reduceIte, Nat.reduceEqDiff, p1, p2, p3, p4, hlen, hlen2, ol, e1, e3, e5, l1, ol]); try rfl) rfl ⟨hext, by rw [hv, c4]; rfl⟩
   | true =>
    (repeat (first | refine W_seqS ?_ | refine W_seqC ?_ | refine W_seqB ?_ | refine W_block ?_)); refine W_reg rfl fun G K hG hK => ?_; simp (disch := omega) only [go_sem, ↓reduceIte, Nat.reduceEqDiff, hG, p1, p2, p3, p4, hlen, hlen2, ol, e1, e3, e5, l1, ol, c4]
    refine w_call (specDistinct_ok g.sorts st' s hb1 (hs0.ext hext)) (by simp (disch := omega) only [go_sem, ↓reduceIte, Nat.reduceEqDiff, p1, p2, p3, p4, hlen, hlen2, ol, e1, e3, e5, l1, ol, c4]) ?hl ?_
    case hl => first | rfl | (simp only [go_sem, List.all_cons, List.all_nil, Bool.not_false, Bool.and_self, p1, p2, p3, p4, hlen, hlen2, ol, e1, e3, e5, l1, ol, c4]; done)
    rintro r_ st' ⟨rfl, rfl⟩; refine ⟨fun e => (by cases e), ?_⟩
    cases d4 : distB g.sorts with
    | false =>
     simp (disch := omega) only [go_sem, ↓reduceIte, Nat.reduceEqDiff, hG, p1, p2, p3, p4, hlen, hlen2, ol, e1, e3, e5, l1, ol, c4]; refine hK _ _ ?_; clear hK K hG G; repeat (with_reducible first | refine thenI ?_ | refine thenE ?_ | refine thenR ?_ | refine inBI ?_ | refine inBR ?_ | refine inBS ?_ | refine inBN (by decide) ?_)
     refine W_ret ?_; try (repeat (with_reducible first | refine thenI ?_ | refine thenE ?_ | refine thenR ?_ | refine inBI ?_ | refine inBR ?_ | refine inBS ?_ | refine inBN (by decide) ?_))
     refine fin1 (.inl rfl) (by (simp (disch := omega) only [go_sem, ↓reduceIte, Nat.reduceEqDiff, p1, p2, p3, p4, hlen, hlen2, ol, e1, e3, e5, l1, ol]); try rfl) rfl ⟨hext, by rw [hv, c4, d4]; rfl⟩
    | true =>
     cases c6 : decide ((g.ops.length : Int) ≤ 16) with
     | false =>
      simp (disch := omega) only [go_sem, ↓reduceIte, Nat.reduceEqDiff, hG, p1, p2, p3, p4, hlen, hlen2, ol, e1, e3, e5, l1, ol, c4, c6]; refine hK _ _ ?_; clear hK K hG G; repeat (with_reducible first | refine thenI ?_ | refine thenE ?_ | refine thenR ?_ | refine inBI ?_ | refine inBR ?_ | refine inBS ?_ | refine inBN (by decide) ?_)
      refine W_ret ?_; try (repeat (with_reducible first | refine thenI ?_ | refine thenE ?_ | refine thenR ?_ | refine inBI ?_ | refine inBR ?_ | refine inBS ?_ | refine inBN (by decide) ?_))
      refine fin1 (.inl rfl) (by (simp (disch := omega) only [go_sem, ↓reduceIte, Nat.reduceEqDiff, p1, p2, p3, p4, hlen, hlen2, ol, e1, e3, e5, l1, ol]); try rfl) rfl ⟨hext, by rw [hv, c4, d4, c6]; rfl⟩
     | true =>
      simp (disch := omega) only [go_sem, ↓reduceIte, Nat.reduceEqDiff, p1, p2, p3, p4, hlen, hlen2, ol, e1, e3, e5, l1, ol, hG, c4, c6]
      refine w_call (specDistinct_ok (g.ops.map Opr.nm) st' r (by simpa using hb2) hown.row) (by simp (disch := omega) only [go_sem, ↓reduceIte, Nat.reduceEqDiff, p1, p2, p3, p4, hlen, hlen2, ol, e1, e3, e5, l1, ol, c4, c6]) ?hl ?_
      case hl => first | rfl | (simp only [go_sem, List.all_cons, List.all_nil, Bool.not_false, Bool.and_self, p1, p2, p3, p4, hlen, hlen2, ol, e1, e3, e5, l1, ol, c4, c6]; done)
      rintro r_ st' ⟨rfl, rfl⟩; refine ⟨fun e => (by cases e), ?_⟩
      simp (disch := omega) only [go_sem, ↓reduceIte, Nat.reduceEqDiff, hG, p1, p2, p3, p4, hlen, hlen2, ol, e1, e3, e5, l1, ol, c4, c6]; refine hK _ _ ?_; clear hK K hG G; repeat (with_reducible first | refine thenI ?_ | refine thenE ?_ | refine thenR ?_ | refine inBI ?_ | refine inBR ?_ | refine inBS ?_ | refine inBN (by decide) ?_)
      refine W_ret ?_; try (repeat (with_reducible first | refine thenI ?_ | refine thenE ?_ | refine thenR ?_ | refine inBI ?_ | refine inBR ?_ | refine inBS ?_ | refine inBN (by decide) ?_))
      refine fin1 (.inl rfl) (by (simp (disch := omega) only [go_sem, ↓reduceIte, Nat.reduceEqDiff, p1, p2, p3, p4, hlen, hlen2, ol, e1, e3, e5, l1, ol]); try rfl) rfl ⟨hext, by rw [hv, c4, d4, c6]; rfl⟩

end

section
/- Valid signatures: impl.IsValidSignature. -/
open Go Go.Proofs
set_option linter.unusedVariables false
set_option linter.unusedSimpArgs false
set_option maxRecDepth 100000
-- AUTO

theorem implDistinct_ok (xs : List ByteArray) (st : St) (s : Value) (hbig : xs.length ≤ 1073741824) (hr : Rw st xs s) :
  CallS Try.prog 26 [s] st fun r st2 => Ext st st2 ∧ r = .bool (distB xs) := distinct_ok xs st s hbig hr
theorem sortOk_mem {g : Sgn} {w : ByteArray} (h : w ∈ g.sorts) : sortOk g w = true := by
 unfold sortOk
 rw [List.any_eq_true.2 ⟨w, h, by simp⟩]
 simp
theorem sortOk_not {g : Sgn} {w : ByteArray} (hw : (w.toList == wordB.toList) = false) (h : w ∉ g.sorts) : sortOk g w = false := by
 unfold sortOk
 rw [hw, List.any_eq_false.2 fun x hx e => h (by have h9 := ba_toList (a := x) (b := w) e; rw [← h9]; exact hx)]
 rfl
theorem opOk_bad {g : Sgn} {o : Opr} {x : ByteArray} (hx : x ∈ o.args ++ [o.res]) (hb : sortOk g x = false) : opOk g o = false := by
 unfold opOk opArgs
 rcases List.mem_append.1 hx with h | h
 ·rw [List.all_eq_false.2 ⟨x, h, by rw [hb]; simp⟩]
  rfl
 ·cases List.mem_singleton.1 h
  rw [hb]
  simp
theorem opOk_all {g : Sgn} {o : Opr} (h1 : isName o.nm = true) (h2 : isB o.nm = false) (h3 : decide ((o.args.length : Int) ≤ 3) = true) (h : ∀ x ∈ o.args ++ [o.res], sortOk g x = true) : opOk g o = true := by
 unfold opOk opArgs
 rw [h1, h2, h3, List.all_eq_true.2 fun x hx => h x (by simp [hx]), h o.res (by simp)]
 rfl
set_option maxHeartbeats 2000000 in
theorem implValidS_ok (g : Sgn) (st : St) (cs : List Value) (hl : LimS 1073741824 g) (hE : EncS st g cs) :
  CallS Try.prog 11 [.agg cs.toArray] st fun r st2 => Ext st st2 ∧ r = .bool (validS g) := by
 obtain ⟨s, u, rfl, hs, hu⟩ := hE
 refine CallS_of_W [] 93 Try.func11 rfl rfl rfl rfl (by simp) ?_
 have p1 := hs.notLoc.1
 have p2 := hs.notLoc.2
 have p3 := hu.notLoc.1
 have p4 := hu.notLoc.2
 have hb1 := hl.1
 have hb2 := hl.2.1
 have hs0 := hs
 have hlen : lenE Try.prog 24 s = some (.int .i64 g.sorts.length) := row_len hs Try.underlying24
 have hlen2 : lenE Try.prog 25 u = some (.int .i64 g.ops.length) := row_len hu Try.underlying25
 repeat (first | with_reducible (first | refine thenI ?_ | refine thenE ?_ | refine thenR ?_ | refine inBI ?_ | refine inBR ?_ | refine inBS ?_ | refine inBN (by decide) ?_) | refine W_seqS ?_ | refine W_seqC ?_ | refine W_seqB ?_ | refine W_block ?_ | refine W_skip ?_ | (apply W_condB; (case hc => (simp (disch := omega) only [go_sem, ↓reduceIte, Nat.reduceEqDiff, p1, p2, p3, p4, hlen, hlen2]); rfl); first | refine qzT ?_ | refine qzF ?_) | ((first | refine W_reg rfl fun G K hG hK => ?_ | refine W_end rfl fun G K hG hK => ?_); simp (disch := omega) only [go_sem, ↓reduceIte, Nat.reduceEqDiff, hG, p1, p2, p3, p4, hlen, hlen2]; refine hK _ _ ?_; clear hK K hG G))
 cases c4 : decide ((g.sorts.length : Int) > 4) with
 | true =>
  have hbad : validS g = false := by unfold validS; rw [decide_eq_false (by simp at c4; omega)]; simp
  (repeat (first | refine W_seqS ?_ | refine W_seqC ?_ | refine W_seqB ?_ | refine W_block ?_)); refine W_reg rfl fun G K hG hK => ?_; simp (disch := omega) only [go_sem, ↓reduceIte, Nat.reduceEqDiff, hG, p1, p2, p3, p4, hlen, hlen2, c4]
  refine hK _ _ ?_; clear hK K hG G; repeat (with_reducible first | refine thenI ?_ | refine thenE ?_ | refine thenR ?_ | refine inBI ?_ | refine inBR ?_ | refine inBS ?_ | refine inBN (by decide) ?_)
  repeat (first | with_reducible (first | refine thenI ?_ | refine thenE ?_ | refine thenR ?_ | refine inBI ?_ | refine inBR ?_ | refine inBS ?_ | refine inBN (by decide) ?_) | refine W_seqS ?_ | refine W_seqC ?_ | refine W_seqB ?_ | refine W_block ?_ | refine W_skip ?_ | (apply W_condB; (case hc => (simp (disch := omega) only [go_sem, ↓reduceIte, Nat.reduceEqDiff, p1, p2, p3, p4, hlen, hlen2]); rfl); first | refine qzT ?_ | refine qzF ?_) | ((first | refine W_reg rfl fun G K hG hK => ?_ | refine W_end rfl fun G K hG hK => ?_); simp (disch := omega) only [go_sem, ↓reduceIte, Nat.reduceEqDiff, hG, p1, p2, p3, p4, hlen, hlen2]; refine hK _ _ ?_; clear hK K hG G))
  refine W_ret ?_; try (repeat (with_reducible first | refine thenI ?_ | refine thenE ?_ | refine thenR ?_ | refine inBI ?_ | refine inBR ?_ | refine inBS ?_ | refine inBN (by decide) ?_))
  refine fin1 (.inl rfl) (by (simp (disch := omega) only [go_sem, ↓reduceIte, Nat.reduceEqDiff, p1, p2, p3, p4, hlen, hlen2]); try rfl) rfl ⟨Ext.refl _, by rw [hbad]⟩
 | false =>
  have k4 : decide ((g.sorts.length : Int) ≤ 4) = true := decide_eq_true (by simp at c4; omega)
  (repeat (first | refine W_seqS ?_ | refine W_seqC ?_ | refine W_seqB ?_ | refine W_block ?_)); refine W_reg rfl fun G K hG hK => ?_; simp (disch := omega) only [go_sem, ↓reduceIte, Nat.reduceEqDiff, hG, p1, p2, p3, p4, hlen, hlen2, c4]
  refine w_call (implDistinct_ok g.sorts st s hb1 hs) (by simp (disch := omega) only [go_sem, ↓reduceIte, Nat.reduceEqDiff, p1, p2, p3, p4, hlen, hlen2, c4]) ?hl ?_
  case hl => first | rfl | (simp only [go_sem, List.all_cons, List.all_nil, Bool.not_false, Bool.and_self, p1, p2, p3, p4, hlen, hlen2, c4]; done)
  rintro r_ sa ⟨x1, rfl⟩; refine ⟨fun e => (by cases e), ?_⟩
  cases d4 : distB g.sorts with
  | false =>
   have hbad : validS g = false := by unfold validS; rw [d4]; simp
   simp (disch := omega) only [go_sem, ↓reduceIte, Nat.reduceEqDiff, hG, p1, p2, p3, p4, hlen, hlen2, c4]; refine hK _ _ ?_; clear hK K hG G; repeat (with_reducible first | refine thenI ?_ | refine thenE ?_ | refine thenR ?_ | refine inBI ?_ | refine inBR ?_ | refine inBS ?_ | refine inBN (by decide) ?_)
   repeat (first | with_reducible (first | refine thenI ?_ | refine thenE ?_ | refine thenR ?_ | refine inBI ?_ | refine inBR ?_ | refine inBS ?_ | refine inBN (by decide) ?_) | refine W_seqS ?_ | refine W_seqC ?_ | refine W_seqB ?_ | refine W_block ?_ | refine W_skip ?_ | (apply W_condB; (case hc => (simp (disch := omega) only [go_sem, ↓reduceIte, Nat.reduceEqDiff, p1, p2, p3, p4, hlen, hlen2]); rfl); first | refine qzT ?_ | refine qzF ?_) | ((first | refine W_reg rfl fun G K hG hK => ?_ | refine W_end rfl fun G K hG hK => ?_); simp (disch := omega) only [go_sem, ↓reduceIte, Nat.reduceEqDiff, hG, p1, p2, p3, p4, hlen, hlen2]; refine hK _ _ ?_; clear hK K hG G))
   refine W_ret ?_; try (repeat (with_reducible first | refine thenI ?_ | refine thenE ?_ | refine thenR ?_ | refine inBI ?_ | refine inBR ?_ | refine inBS ?_ | refine inBN (by decide) ?_))
   refine fin1 (.inl rfl) (by (simp (disch := omega) only [go_sem, ↓reduceIte, Nat.reduceEqDiff, p1, p2, p3, p4, hlen, hlen2]); try rfl) rfl ⟨x1, by rw [hbad]⟩
  | true =>
   cases c6 : decide ((g.ops.length : Int) > 16) with
   | true =>
    have hbad : validS g = false := by unfold validS; rw [decide_eq_false (p := (g.ops.length : Int) ≤ 16) (by simp at c6; omega)]; simp
    simp (disch := omega) only [go_sem, ↓reduceIte, Nat.reduceEqDiff, hG, p1, p2, p3, p4, hlen, hlen2, c4, c6]; refine hK _ _ ?_; clear hK K hG G; repeat (with_reducible first | refine thenI ?_ | refine thenE ?_ | refine thenR ?_ | refine inBI ?_ | refine inBR ?_ | refine inBS ?_ | refine inBN (by decide) ?_)
    repeat (first | with_reducible (first | refine thenI ?_ | refine thenE ?_ | refine thenR ?_ | refine inBI ?_ | refine inBR ?_ | refine inBS ?_ | refine inBN (by decide) ?_) | refine W_seqS ?_ | refine W_seqC ?_ | refine W_seqB ?_ | refine W_block ?_ | refine W_skip ?_ | (apply W_condB; (case hc => (simp (disch := omega) only [go_sem, ↓reduceIte, Nat.reduceEqDiff, p1, p2, p3, p4, hlen, hlen2]); rfl); first | refine qzT ?_ | refine qzF ?_) | ((first | refine W_reg rfl fun G K hG hK => ?_ | refine W_end rfl fun G K hG hK => ?_); simp (disch := omega) only [go_sem, ↓reduceIte, Nat.reduceEqDiff, hG, p1, p2, p3, p4, hlen, hlen2]; refine hK _ _ ?_; clear hK K hG G))
    refine W_ret ?_; try (repeat (with_reducible first | refine thenI ?_ | refine thenE ?_ | refine thenR ?_ | refine inBI ?_ | refine inBR ?_ | refine inBS ?_ | refine inBN (by decide) ?_))
    refine fin1 (.inl rfl) (by (simp (disch := omega) only [go_sem, ↓reduceIte, Nat.reduceEqDiff, p1, p2, p3, p4, hlen, hlen2]); try rfl) rfl ⟨x1, by rw [hbad]⟩
   | false =>
    have k6 : decide ((g.ops.length : Int) ≤ 16) = true := decide_eq_true (by simp at c6; omega)
    simp (disch := omega) only [go_sem, ↓reduceIte, Nat.reduceEqDiff, hG, p1, p2, p3, p4, hlen, hlen2, c4, c6]; refine hK _ _ ?_; clear hK K hG G; repeat (with_reducible first | refine thenI ?_ | refine thenE ?_ | refine thenR ?_ | refine inBI ?_ | refine inBR ?_ | refine inBS ?_ | refine inBN (by decide) ?_)
    repeat (first | with_reducible (first | refine thenI ?_ | refine thenE ?_ | refine thenR ?_ | refine inBI ?_ | refine inBR ?_ | refine inBS ?_ | refine inBN (by decide) ?_) | refine W_seqS ?_ | refine W_seqC ?_ | refine W_seqB ?_ | refine W_block ?_ | refine W_skip ?_ | (apply W_condB; (case hc => (simp (disch := omega) only [go_sem, ↓reduceIte, Nat.reduceEqDiff, p1, p2, p3, p4, hlen, hlen2]); rfl); first | refine qzT ?_ | refine qzF ?_) | ((first | refine W_reg rfl fun G K hG hK => ?_ | refine W_end rfl fun G K hG hK => ?_); simp (disch := omega) only [go_sem, ↓reduceIte, Nat.reduceEqDiff, hG, p1, p2, p3, p4, hlen, hlen2]; refine hK _ _ ?_; clear hK K hG G))
    refine W_loop (fun d fr st' => ∃ (a : Nat) (z1 : Value) (z2 : Value), d = g.sorts.length - a ∧ a ≤ g.sorts.length ∧ (Ext st st') ∧ ((∀ x ∈ g.sorts.take a, sortN x = true)) ∧ (nonH z1 = true) ∧ (nonH z2 = true) ∧ (fr.env 1 = .pointer (some ⟨1, 0, some 1⟩)) ∧ (fr.env 27 = s) ∧ (fr.env 28 = .int .i64 g.sorts.length) ∧ (fr.env 29 = .int .i64 a) ∧ (fr.env 63 = z1) ∧ (fr.env 66 = z2) ∧ (fr.loc 1 = (1, [s, u]))) (g.sorts.length) ?_ ?_
    ·exact ⟨0, _, _, by omega, by omega, x1, (by simp), rfl, rfl, (by refine ⟨?_, ?_, ?_, ?_, ?_, ?_, ?_⟩ <;> ((simp (disch := omega) only [go_sem, ↓reduceIte, Nat.reduceEqDiff, p1, p2, p3, p4, hlen, hlen2]); try rfl))⟩
    rintro d ⟨env, loc⟩ st' ⟨a, z1, z2, hd_a, hj_a, hext, hall, hz1, hz2, e1, e27, e28, e29, e63, e66, l1⟩
    simp only at e1 e27 e28 e29 e63 e66 l1
    by_cases hlt_a : a < g.sorts.length
    ·have c1_a : decide ((a : Int) < (g.sorts.length : Int)) = true := by simpa using hlt_a
     have hi_a := idxOk hlt_a
     have hx_a : g.sorts[a]? = some g.sorts[a] := List.getElem?_eq_getElem hlt_a
     have htk_a : g.sorts.take (a + 1) = g.sorts.take a ++ [g.sorts[a]] := List.take_succ_eq_append_getElem hlt_a
     obtain ⟨b0, o0, c0, rfl, hce0⟩ := row_atS hs hx_a
     have hce := cell_ext hext hce0
     repeat (first | with_reducible (first | refine thenI ?_ | refine thenE ?_ | refine thenR ?_ | refine inBI ?_ | refine inBR ?_ | refine inBS ?_ | refine inBN (by decide) ?_) | refine W_seqS ?_ | refine W_seqC ?_ | refine W_seqB ?_ | refine W_block ?_ | refine W_skip ?_ | (apply W_condB; (case hc => (simp (disch := omega) only [go_sem, ↓reduceIte, Nat.reduceEqDiff, p1, p2, p3, p4, hlen, hlen2, e1, e27, e28, e29, e63, e66, l1, c1_a, hi_a, idxA, Int.toNat_natCast, hce]); rfl); first | refine qzT ?_ | refine qzF ?_) | ((first | refine W_reg rfl fun G K hG hK => ?_ | refine W_end rfl fun G K hG hK => ?_); simp (disch := omega) only [go_sem, ↓reduceIte, Nat.reduceEqDiff, hG, p1, p2, p3, p4, hlen, hlen2, e1, e27, e28, e29, e63, e66, l1, c1_a, hi_a, idxA, Int.toNat_natCast, hce]; refine hK _ _ ?_; clear hK K hG G))
     (repeat (first | refine W_seqS ?_ | refine W_seqC ?_ | refine W_seqB ?_ | refine W_block ?_)); refine W_reg rfl fun G K hG hK => ?_; simp (disch := omega) only [go_sem, ↓reduceIte, Nat.reduceEqDiff, hG, p1, p2, p3, p4, hlen, hlen2, e1, e27, e28, e29, e63, e66, l1, c1_a, hi_a, idxA, Int.toNat_natCast]
     refine w_call (implIsName_ok g.sorts[a] st') (by simp (disch := omega) only [go_sem, ↓reduceIte, Nat.reduceEqDiff, p1, p2, p3, p4, hlen, hlen2, e1, e27, e28, e29, e63, e66, l1, c1_a, hi_a, idxA, Int.toNat_natCast]) ?hl ?_
     case hl => first | rfl | (simp only [go_sem, List.all_cons, List.all_nil, Bool.not_false, Bool.and_self, p1, p2, p3, p4, hlen, hlen2, e1, e27, e28, e29, e63, e66, l1, c1_a, hi_a, idxA, Int.toNat_natCast]; done)
     rintro r_ st' ⟨rfl, rfl⟩; refine ⟨fun e => (by cases e), ?_⟩
     cases h1 : isName g.sorts[a] with
     | false =>
      have hbad : validS g = false := validS_bad1 hlt_a (by unfold sortN; rw [h1]; rfl)
      simp (disch := omega) only [go_sem, ↓reduceIte, Nat.reduceEqDiff, hG, p1, p2, p3, p4, hlen, hlen2, e1, e27, e28, e29, e63, e66, l1, c1_a, hi_a, idxA, Int.toNat_natCast]; refine hK _ _ ?_; clear hK K hG G; repeat (with_reducible first | refine thenI ?_ | refine thenE ?_ | refine thenR ?_ | refine inBI ?_ | refine inBR ?_ | refine inBS ?_ | refine inBN (by decide) ?_)
      repeat (first | with_reducible (first | refine thenI ?_ | refine thenE ?_ | refine thenR ?_ | refine inBI ?_ | refine inBR ?_ | refine inBS ?_ | refine inBN (by decide) ?_) | refine W_seqS ?_ | refine W_seqC ?_ | refine W_seqB ?_ | refine W_block ?_ | refine W_skip ?_ | (apply W_condB; (case hc => (simp (disch := omega) only [go_sem, ↓reduceIte, Nat.reduceEqDiff, p1, p2, p3, p4, hlen, hlen2, e1, e27, e28, e29, e63, e66, l1, c1_a, hi_a, idxA, Int.toNat_natCast]); rfl); first | refine qzT ?_ | refine qzF ?_) | ((first | refine W_reg rfl fun G K hG hK => ?_ | refine W_end rfl fun G K hG hK => ?_); simp (disch := omega) only [go_sem, ↓reduceIte, Nat.reduceEqDiff, hG, p1, p2, p3, p4, hlen, hlen2, e1, e27, e28, e29, e63, e66, l1, c1_a, hi_a, idxA, Int.toNat_natCast]; refine hK _ _ ?_; clear hK K hG G))
      refine W_ret ?_; try (repeat (with_reducible first | refine thenI ?_ | refine thenE ?_ | refine thenR ?_ | refine inBI ?_ | refine inBR ?_ | refine inBS ?_ | refine inBN (by decide) ?_))
      refine fin1 (.inl rfl) (by (simp (disch := omega) only [go_sem, ↓reduceIte, Nat.reduceEqDiff, p1, p2, p3, p4, hlen, hlen2, e1, e27, e28, e29, e63, e66, l1, c1_a, hi_a, idxA, Int.toNat_natCast]); try rfl) rfl ⟨hext, by rw [hbad]⟩
     | true =>
      cases hw : (g.sorts[a].toList == wordB.toList) with
      | true =>
       have hw' : (g.sorts[a].toList == (⟨#[119, 111, 114, 100]⟩ : ByteArray).toList) = true := hw
       have hbad : validS g = false := validS_bad1 hlt_a (by unfold sortN; rw [h1, hw]; rfl)
       simp (disch := omega) only [go_sem, ↓reduceIte, Nat.reduceEqDiff, hG, p1, p2, p3, p4, hlen, hlen2, e1, e27, e28, e29, e63, e66, l1, c1_a, hi_a, idxA, Int.toNat_natCast, hw']; refine hK _ _ ?_; clear hK K hG G; repeat (with_reducible first | refine thenI ?_ | refine thenE ?_ | refine thenR ?_ | refine inBI ?_ | refine inBR ?_ | refine inBS ?_ | refine inBN (by decide) ?_)
       repeat (first | with_reducible (first | refine thenI ?_ | refine thenE ?_ | refine thenR ?_ | refine inBI ?_ | refine inBR ?_ | refine inBS ?_ | refine inBN (by decide) ?_) | refine W_seqS ?_ | refine W_seqC ?_ | refine W_seqB ?_ | refine W_block ?_ | refine W_skip ?_ | (apply W_condB; (case hc => (simp (disch := omega) only [go_sem, ↓reduceIte, Nat.reduceEqDiff, p1, p2, p3, p4, hlen, hlen2, e1, e27, e28, e29, e63, e66, l1, c1_a, hi_a, idxA, Int.toNat_natCast]); rfl); first | refine qzT ?_ | refine qzF ?_) | ((first | refine W_reg rfl fun G K hG hK => ?_ | refine W_end rfl fun G K hG hK => ?_); simp (disch := omega) only [go_sem, ↓reduceIte, Nat.reduceEqDiff, hG, p1, p2, p3, p4, hlen, hlen2, e1, e27, e28, e29, e63, e66, l1, c1_a, hi_a, idxA, Int.toNat_natCast]; refine hK _ _ ?_; clear hK K hG G))
       refine W_ret ?_; try (repeat (with_reducible first | refine thenI ?_ | refine thenE ?_ | refine thenR ?_ | refine inBI ?_ | refine inBR ?_ | refine inBS ?_ | refine inBN (by decide) ?_))
       refine fin1 (.inl rfl) (by (simp (disch := omega) only [go_sem, ↓reduceIte, Nat.reduceEqDiff, p1, p2, p3, p4, hlen, hlen2, e1, e27, e28, e29, e63, e66, l1, c1_a, hi_a, idxA, Int.toNat_natCast]); try rfl) rfl ⟨hext, by rw [hbad]⟩
      | false =>
       have hw' : (g.sorts[a].toList == (⟨#[119, 111, 114, 100]⟩ : ByteArray).toList) = false := hw
       have hall2 : ∀ x ∈ g.sorts.take (a + 1), sortN x = true := fun x hx => by
        rw [htk_a] at hx
        rcases List.mem_append.1 hx with h | h
        ·exact hall x h
        ·cases List.mem_singleton.1 h; unfold sortN; rw [h1, hw]; rfl
       simp (disch := omega) only [go_sem, ↓reduceIte, Nat.reduceEqDiff, hG, p1, p2, p3, p4, hlen, hlen2, e1, e27, e28, e29, e63, e66, l1, c1_a, hi_a, idxA, Int.toNat_natCast, hw']; refine hK _ _ ?_; clear hK K hG G; repeat (with_reducible first | refine thenI ?_ | refine thenE ?_ | refine thenR ?_ | refine inBI ?_ | refine inBR ?_ | refine inBS ?_ | refine inBN (by decide) ?_)
       repeat (first | with_reducible (first | refine thenI ?_ | refine thenE ?_ | refine thenR ?_ | refine inBI ?_ | refine inBR ?_ | refine inBS ?_ | refine inBN (by decide) ?_) | refine W_seqS ?_ | refine W_seqC ?_ | refine W_seqB ?_ | refine W_block ?_ | refine W_skip ?_ | (apply W_condB; (case hc => (simp (disch := omega) only [go_sem, ↓reduceIte, Nat.reduceEqDiff, p1, p2, p3, p4, hlen, hlen2, e1, e27, e28, e29, e63, e66, l1, c1_a, hi_a, idxA, Int.toNat_natCast]); rfl); first | refine qzT ?_ | refine qzF ?_) | ((first | refine W_reg rfl fun G K hG hK => ?_ | refine W_end rfl fun G K hG hK => ?_); simp (disch := omega) only [go_sem, ↓reduceIte, Nat.reduceEqDiff, hG, p1, p2, p3, p4, hlen, hlen2, e1, e27, e28, e29, e63, e66, l1, c1_a, hi_a, idxA, Int.toNat_natCast]; refine hK _ _ ?_; clear hK K hG G))
       refine ⟨g.sorts.length - (a + 1), by omega, a + 1, z1, z2, rfl, by omega, hext, hall2, hz1, hz2, (by refine ⟨?_, ?_, ?_, ?_, ?_, ?_, ?_⟩ <;> ((simp (disch := omega) only [go_sem, ↓reduceIte, Nat.reduceEqDiff, p1, p2, p3, p4, hlen, hlen2, e1, e27, e28, e29, e63, e66, l1, c1_a, hi_a, idxA, Int.toNat_natCast]); try rfl))⟩
    ·have c1_a : decide ((a : Int) < (g.sorts.length : Int)) = false := by simpa using hlt_a
     have hjn_a : a = g.sorts.length := by omega
     subst hjn_a
     rw [List.take_length] at hall
     have hS : g.sorts.all sortN = true := List.all_eq_true.2 hall
     repeat (first | with_reducible (first | refine thenI ?_ | refine thenE ?_ | refine thenR ?_ | refine inBI ?_ | refine inBR ?_ | refine inBS ?_ | refine inBN (by decide) ?_) | refine W_seqS ?_ | refine W_seqC ?_ | refine W_seqB ?_ | refine W_block ?_ | refine W_skip ?_ | (apply W_condB; (case hc => (simp (disch := omega) only [go_sem, ↓reduceIte, Nat.reduceEqDiff, p1, p2, p3, p4, hlen, hlen2, e1, e27, e28, e29, e63, e66, l1, c1_a]); rfl); first | refine qzT ?_ | refine qzF ?_) | ((first | refine W_reg rfl fun G K hG hK => ?_ | refine W_end rfl fun G K hG hK => ?_); simp (disch := omega) only [go_sem, ↓reduceIte, Nat.reduceEqDiff, hG, p1, p2, p3, p4, hlen, hlen2, e1, e27, e28, e29, e63, e66, l1, c1_a]; refine hK _ _ ?_; clear hK K hG G))
     refine W_exit ?_; repeat (with_reducible first | refine thenI ?_ | refine thenE ?_ | refine thenR ?_ | refine inBI ?_ | refine inBR ?_ | refine inBS ?_ | refine inBN (by decide) ?_)
     repeat (first | with_reducible (first | refine thenI ?_ | refine thenE ?_ | refine thenR ?_ | refine inBI ?_ | refine inBR ?_ | refine inBS ?_ | refine inBN (by decide) ?_) | refine W_seqS ?_ | refine W_seqC ?_ | refine W_seqB ?_ | refine W_block ?_ | refine W_skip ?_ | (apply W_condB; (case hc => (simp (disch := omega) only [go_sem, ↓reduceIte, Nat.reduceEqDiff, p1, p2, p3, p4, hlen, hlen2, e1, e27, e28, e29, e63, e66, l1, c1_a]); rfl); first | refine qzT ?_ | refine qzF ?_) | ((first | refine W_reg rfl fun G K hG hK => ?_ | refine W_end rfl fun G K hG hK => ?_); simp (disch := omega) only [go_sem, ↓reduceIte, Nat.reduceEqDiff, hG, p1, p2, p3, p4, hlen, hlen2, e1, e27, e28, e29, e63, e66, l1, c1_a]; refine hK _ _ ?_; clear hK K hG G))
     clear hlt_a c1_a hd_a hj_a
     refine W_loop (fun d fr st' => ∃ (j : Nat) (r : Value) (L : List Nat) (z1 : Value) (z2 : Value), d = g.ops.length - j ∧ j ≤ g.ops.length ∧ (Ext st st') ∧ (nonH z1 = true) ∧ (nonH z2 = true) ∧ (Sl st' ((g.ops.take j).map Opr.nm) r L) ∧ (Fresh st.length L) ∧ ((topId r = none ∨ ∃ m, st.length ≤ m ∧ topId r = some m)) ∧ ((∀ x ∈ g.ops.take j, opOk g x = true)) ∧ (fr.env 1 = .pointer (some ⟨1, 0, some 1⟩)) ∧ (fr.env 5 = r) ∧ (fr.env 42 = u) ∧ (fr.env 43 = .int .i64 g.ops.length) ∧ (fr.env 44 = .int .i64 j) ∧ (fr.env 63 = z1) ∧ (fr.env 66 = z2) ∧ (fr.loc 1 = (1, [s, u]))) (g.ops.length) ?_ ?_
     ·exact ⟨0, .slice none 0 0, [], z1, z2, by omega, by omega, hext, hz1, hz2, Sl.nil _, .nil _, .inl rfl, by simp, (by refine ⟨?_, ?_, ?_, ?_, ?_, ?_, ?_, ?_⟩ <;> ((simp (disch := omega) only [go_sem, ↓reduceIte, Nat.reduceEqDiff, p1, p2, p3, p4, hlen, hlen2, e1, e27, e28, e29, e63, e66, l1]); try rfl))⟩
     clear e1 e27 e28 e29 e63 e66 l1
     rintro d ⟨env, loc⟩ st' ⟨j, r, L, z1, z2, hd, hj, hext, hz1, hz2, hown, hfr, htop, hall2, e1, e5, e42, e43, e44, e63, e66, l1⟩
     simp only at e1 e5 e42 e43 e44 e63 e66 l1
     have ol := hown.loc
     by_cases hlt : j < g.ops.length
     ·have c1 : decide ((j : Int) < (g.ops.length : Int)) = true := by simpa using hlt
      have hi := idxOk hlt
      have hx : g.ops[j]? = some g.ops[j] := List.getElem?_eq_getElem hlt
      have htk : g.ops.take (j + 1) = g.ops.take j ++ [g.ops[j]] := List.take_succ_eq_append_getElem hlt
      obtain ⟨b0, o0, c0, sx, rfl, hrx, hcs⟩ := row_atO hu hx
      have hld := fun loc => load_row (A := []) (loc := loc) ag54 sz54 rfl (hcs.ext hext)
      have hlen3 : lenE Try.prog 24 sx = some (.int .i64 g.ops[j].args.length) := row_len hrx Try.underlying24
      have nx := hrx.notLoc.1
      have nx2 := hrx.notLoc.2
      have nx3 := Row.cells1 hrx
      obtain ⟨sm, rfl⟩ : ∃ sm, sm = st' := ⟨_, rfl⟩
      repeat (first | with_reducible (first | refine thenI ?_ | refine thenE ?_ | refine thenR ?_ | refine inBI ?_ | refine inBR ?_ | refine inBS ?_ | refine inBN (by decide) ?_) | refine W_seqS ?_ | refine W_seqC ?_ | refine W_seqB ?_ | refine W_block ?_ | refine W_skip ?_ | (apply W_condB; (case hc => (simp (disch := omega) only [go_sem, ↓reduceIte, Nat.reduceEqDiff, p1, p2, p3, p4, hlen, hlen2, e1, e5, e42, e43, e44, e63, e66, l1, c1, hi, idxA, Int.toNat_natCast, nx, nx2, nx3, ol, hlen3, hld]); rfl); first | refine qzT ?_ | refine qzF ?_) | ((first | refine W_reg rfl fun G K hG hK => ?_ | refine W_end rfl fun G K hG hK => ?_); simp (disch := omega) only [go_sem, ↓reduceIte, Nat.reduceEqDiff, hG, p1, p2, p3, p4, hlen, hlen2, e1, e5, e42, e43, e44, e63, e66, l1, c1, hi, idxA, Int.toNat_natCast, nx, nx2, nx3, ol, hlen3, hld]; refine hK _ _ ?_; clear hK K hG G))
      (repeat (first | refine W_seqS ?_ | refine W_seqC ?_ | refine W_seqB ?_ | refine W_block ?_)); refine W_reg rfl fun G K hG hK => ?_; simp (disch := omega) only [go_sem, ↓reduceIte, Nat.reduceEqDiff, hG, p1, p2, p3, p4, hlen, hlen2, e1, e5, e42, e43, e44, e63, e66, l1, c1, hi, idxA, Int.toNat_natCast, nx, nx2, nx3, ol, hlen3]
      refine w_call (implIsName_ok g.ops[j].nm sm) (by simp (disch := omega) only [go_sem, ↓reduceIte, Nat.reduceEqDiff, p1, p2, p3, p4, hlen, hlen2, e1, e5, e42, e43, e44, e63, e66, l1, c1, hi, idxA, Int.toNat_natCast, nx, nx2, nx3, ol, hlen3]) ?hl ?_
      case hl => first | rfl | (simp only [go_sem, List.all_cons, List.all_nil, Bool.not_false, Bool.and_self, p1, p2, p3, p4, hlen, hlen2, e1, e5, e42, e43, e44, e63, e66, l1, c1, hi, idxA, Int.toNat_natCast, nx, nx2, nx3, ol, hlen3]; done)
      rintro r_ sm ⟨rfl, rfl⟩; refine ⟨fun e => (by cases e), ?_⟩
      cases h1 : isName g.ops[j].nm with
      | false =>
       have hbad : validS g = false := validS_bad2 hlt (by unfold opOk; rw [h1]; simp)
       simp (disch := omega) only [go_sem, ↓reduceIte, Nat.reduceEqDiff, hG, p1, p2, p3, p4, hlen, hlen2, e1, e5, e42, e43, e44, e63, e66, l1, c1, hi, idxA, Int.toNat_natCast, nx, nx2, nx3, ol, hlen3]; refine hK _ _ ?_; clear hK K hG G; repeat (with_reducible first | refine thenI ?_ | refine thenE ?_ | refine thenR ?_ | refine inBI ?_ | refine inBR ?_ | refine inBS ?_ | refine inBN (by decide) ?_)
       repeat (first | with_reducible (first | refine thenI ?_ | refine thenE ?_ | refine thenR ?_ | refine inBI ?_ | refine inBR ?_ | refine inBS ?_ | refine inBN (by decide) ?_) | refine W_seqS ?_ | refine W_seqC ?_ | refine W_seqB ?_ | refine W_block ?_ | refine W_skip ?_ | (apply W_condB; (case hc => (simp (disch := omega) only [go_sem, ↓reduceIte, Nat.reduceEqDiff, p1, p2, p3, p4, hlen, hlen2, e1, e5, e42, e43, e44, e63, e66, l1, c1, hi, idxA, Int.toNat_natCast, nx, nx2, nx3, ol, hlen3]); rfl); first | refine qzT ?_ | refine qzF ?_) | ((first | refine W_reg rfl fun G K hG hK => ?_ | refine W_end rfl fun G K hG hK => ?_); simp (disch := omega) only [go_sem, ↓reduceIte, Nat.reduceEqDiff, hG, p1, p2, p3, p4, hlen, hlen2, e1, e5, e42, e43, e44, e63, e66, l1, c1, hi, idxA, Int.toNat_natCast, nx, nx2, nx3, ol, hlen3]; refine hK _ _ ?_; clear hK K hG G))
       refine W_ret ?_; try (repeat (with_reducible first | refine thenI ?_ | refine thenE ?_ | refine thenR ?_ | refine inBI ?_ | refine inBR ?_ | refine inBS ?_ | refine inBN (by decide) ?_))
       refine fin1 (.inl rfl) (by (simp (disch := omega) only [go_sem, ↓reduceIte, Nat.reduceEqDiff, p1, p2, p3, p4, hlen, hlen2, e1, e5, e42, e43, e44, e63, e66, l1, c1, hi, idxA, Int.toNat_natCast, nx, nx2, nx3, ol, hlen3]); try rfl) rfl ⟨hext, by rw [hbad]⟩
      | true =>
       simp (disch := omega) only [go_sem, ↓reduceIte, Nat.reduceEqDiff, p1, p2, p3, p4, hlen, hlen2, e1, e5, e42, e43, e44, e63, e66, l1, c1, hi, idxA, Int.toNat_natCast, nx, nx2, nx3, ol, hlen3, hG]
       refine w_call (implIsB_ok g.ops[j].nm sm) (by simp (disch := omega) only [go_sem, ↓reduceIte, Nat.reduceEqDiff, p1, p2, p3, p4, hlen, hlen2, e1, e5, e42, e43, e44, e63, e66, l1, c1, hi, idxA, Int.toNat_natCast, nx, nx2, nx3, ol, hlen3]) ?hl ?_
       case hl => first | rfl | (simp only [go_sem, List.all_cons, List.all_nil, Bool.not_false, Bool.and_self, p1, p2, p3, p4, hlen, hlen2, e1, e5, e42, e43, e44, e63, e66, l1, c1, hi, idxA, Int.toNat_natCast, nx, nx2, nx3, ol, hlen3]; done)
       rintro r_ sm ⟨rfl, rfl⟩; refine ⟨fun e => (by cases e), ?_⟩
       cases h2 : isB g.ops[j].nm with
       | true =>
        have hbad : validS g = false := validS_bad2 hlt (by unfold opOk; rw [h2]; simp)
        simp (disch := omega) only [go_sem, ↓reduceIte, Nat.reduceEqDiff, hG, p1, p2, p3, p4, hlen, hlen2, e1, e5, e42, e43, e44, e63, e66, l1, c1, hi, idxA, Int.toNat_natCast, nx, nx2, nx3, ol, hlen3]; refine hK _ _ ?_; clear hK K hG G; repeat (with_reducible first | refine thenI ?_ | refine thenE ?_ | refine thenR ?_ | refine inBI ?_ | refine inBR ?_ | refine inBS ?_ | refine inBN (by decide) ?_)
        repeat (first | with_reducible (first | refine thenI ?_ | refine thenE ?_ | refine thenR ?_ | refine inBI ?_ | refine inBR ?_ | refine inBS ?_ | refine inBN (by decide) ?_) | refine W_seqS ?_ | refine W_seqC ?_ | refine W_seqB ?_ | refine W_block ?_ | refine W_skip ?_ | (apply W_condB; (case hc => (simp (disch := omega) only [go_sem, ↓reduceIte, Nat.reduceEqDiff, p1, p2, p3, p4, hlen, hlen2, e1, e5, e42, e43, e44, e63, e66, l1, c1, hi, idxA, Int.toNat_natCast, nx, nx2, nx3, ol, hlen3]); rfl); first | refine qzT ?_ | refine qzF ?_) | ((first | refine W_reg rfl fun G K hG hK => ?_ | refine W_end rfl fun G K hG hK => ?_); simp (disch := omega) only [go_sem, ↓reduceIte, Nat.reduceEqDiff, hG, p1, p2, p3, p4, hlen, hlen2, e1, e5, e42, e43, e44, e63, e66, l1, c1, hi, idxA, Int.toNat_natCast, nx, nx2, nx3, ol, hlen3]; refine hK _ _ ?_; clear hK K hG G))
        refine W_ret ?_; try (repeat (with_reducible first | refine thenI ?_ | refine thenE ?_ | refine thenR ?_ | refine inBI ?_ | refine inBR ?_ | refine inBS ?_ | refine inBN (by decide) ?_))
        refine fin1 (.inl rfl) (by (simp (disch := omega) only [go_sem, ↓reduceIte, Nat.reduceEqDiff, p1, p2, p3, p4, hlen, hlen2, e1, e5, e42, e43, e44, e63, e66, l1, c1, hi, idxA, Int.toNat_natCast, nx, nx2, nx3, ol, hlen3]); try rfl) rfl ⟨hext, by rw [hbad]⟩
       | false =>
        cases c3 : decide ((g.ops[j].args.length : Int) > 3) with
        | true =>
         have hbad : validS g = false := validS_bad2 hlt (by unfold opOk; rw [decide_eq_false (by simpa using c3)]; simp)
         simp (disch := omega) only [go_sem, ↓reduceIte, Nat.reduceEqDiff, hG, p1, p2, p3, p4, hlen, hlen2, e1, e5, e42, e43, e44, e63, e66, l1, c1, hi, idxA, Int.toNat_natCast, nx, nx2, nx3, ol, hlen3, c3]; refine hK _ _ ?_; clear hK K hG G; repeat (with_reducible first | refine thenI ?_ | refine thenE ?_ | refine thenR ?_ | refine inBI ?_ | refine inBR ?_ | refine inBS ?_ | refine inBN (by decide) ?_)
         repeat (first | with_reducible (first | refine thenI ?_ | refine thenE ?_ | refine thenR ?_ | refine inBI ?_ | refine inBR ?_ | refine inBS ?_ | refine inBN (by decide) ?_) | refine W_seqS ?_ | refine W_seqC ?_ | refine W_seqB ?_ | refine W_block ?_ | refine W_skip ?_ | (apply W_condB; (case hc => (simp (disch := omega) only [go_sem, ↓reduceIte, Nat.reduceEqDiff, p1, p2, p3, p4, hlen, hlen2, e1, e5, e42, e43, e44, e63, e66, l1, c1, hi, idxA, Int.toNat_natCast, nx, nx2, nx3, ol, hlen3]); rfl); first | refine qzT ?_ | refine qzF ?_) | ((first | refine W_reg rfl fun G K hG hK => ?_ | refine W_end rfl fun G K hG hK => ?_); simp (disch := omega) only [go_sem, ↓reduceIte, Nat.reduceEqDiff, hG, p1, p2, p3, p4, hlen, hlen2, e1, e5, e42, e43, e44, e63, e66, l1, c1, hi, idxA, Int.toNat_natCast, nx, nx2, nx3, ol, hlen3]; refine hK _ _ ?_; clear hK K hG G))
         refine W_ret ?_; try (repeat (with_reducible first | refine thenI ?_ | refine thenE ?_ | refine thenR ?_ | refine inBI ?_ | refine inBR ?_ | refine inBS ?_ | refine inBN (by decide) ?_))
         refine fin1 (.inl rfl) (by (simp (disch := omega) only [go_sem, ↓reduceIte, Nat.reduceEqDiff, p1, p2, p3, p4, hlen, hlen2, e1, e5, e42, e43, e44, e63, e66, l1, c1, hi, idxA, Int.toNat_natCast, nx, nx2, nx3, ol, hlen3]); try rfl) rfl ⟨hext, by rw [hbad]⟩
        | false =>
         have h3 : (g.ops[j].args.length : Int) ≤ 3 := by simp at c3; omega
         have k3 : decide ((g.ops[j].args.length : Int) ≤ 3) = true := decide_eq_true h3
         simp (disch := omega) only [go_sem, ↓reduceIte, Nat.reduceEqDiff, hG, p1, p2, p3, p4, hlen, hlen2, e1, e5, e42, e43, e44, e63, e66, l1, c1, hi, idxA, Int.toNat_natCast, nx, nx2, nx3, ol, hlen3, c3]; refine hK _ _ ?_; clear hK K hG G; repeat (with_reducible first | refine thenI ?_ | refine thenE ?_ | refine thenR ?_ | refine inBI ?_ | refine inBR ?_ | refine inBS ?_ | refine inBN (by decide) ?_)
         repeat (first | with_reducible (first | refine thenI ?_ | refine thenE ?_ | refine thenR ?_ | refine inBI ?_ | refine inBR ?_ | refine inBS ?_ | refine inBN (by decide) ?_) | refine W_seqS ?_ | refine W_seqC ?_ | refine W_seqB ?_ | refine W_block ?_ | refine W_skip ?_ | (apply W_condB; (case hc => (simp (disch := omega) only [go_sem, ↓reduceIte, Nat.reduceEqDiff, p1, p2, p3, p4, hlen, hlen2, e1, e5, e42, e43, e44, e63, e66, l1, c1, hi, idxA, Int.toNat_natCast, nx, nx2, nx3, ol, hlen3]); rfl); first | refine qzT ?_ | refine qzF ?_) | ((first | refine W_reg rfl fun G K hG hK => ?_ | refine W_end rfl fun G K hG hK => ?_); simp (disch := omega) only [go_sem, ↓reduceIte, Nat.reduceEqDiff, hG, p1, p2, p3, p4, hlen, hlen2, e1, e5, e42, e43, e44, e63, e66, l1, c1, hi, idxA, Int.toNat_natCast, nx, nx2, nx3, ol, hlen3]; refine hK _ _ ?_; clear hK K hG G))
         have hpx : Rw sm g.ops[j].args sx := hrx.ext hext
         refine W_seq ?_
         refine W_to (fun fr st' => ∃ (s4 : Value) (L4 : List Nat) (q7 : Nat), (Ext sm st') ∧ (Sl st' (g.ops[j].args ++ [g.ops[j].res]) s4 L4) ∧ (¬ q7 = 0) ∧ (fr.env 1 = .pointer (some ⟨1, 0, some 1⟩)) ∧ (fr.env 5 = r) ∧ (fr.env 7 = .pointer (some ⟨7, 0, some q7⟩)) ∧ (fr.env 42 = .slice (some ⟨b0, o0, none⟩) g.ops.length c0) ∧ (fr.env 43 = .int .i64 g.ops.length) ∧ (fr.env 44 = .int .i64 j) ∧ (fr.env 69 = s4) ∧ (fr.env 70 = .int .i64 (g.ops[j].args ++ [g.ops[j].res]).length) ∧ (fr.env 71 = .int .i64 0) ∧ (fr.env 63 = .pointer (some ⟨7, 1, some q7⟩)) ∧ (fr.env 66 = .pointer (some ⟨7, 2, some q7⟩)) ∧ (fr.loc 1 = (1, [s, .slice (some ⟨b0, o0, none⟩) g.ops.length c0])) ∧ (fr.loc 7 = (q7, [.string g.ops[j].nm, sx, .string g.ops[j].res]))) ?_ ?_
         ·refine W_endL mixed [7, 63, 66] [] [2, 5] [[(8, false), (0, false), (3, false), (4, false), (1, false), (2, true), (5, false), (6, false), (7, false)], [(8, false), (0, false), (3, false), (4, false), (1, false), (5, false), (2, true), (6, false), (7, false)]] rfl (by decide +kernel) (by intro t ht; simp only [List.mem_cons, List.not_mem_nil, or_false] at ht; (rcases ht with rfl | rfl | rfl) <;> (first | rfl | (simp only [p1, p2, p3, p4, hlen, hlen2, e1, e5, e42, e43, e44, e63, e66, l1, c1, hi, idxA, Int.toNat_natCast, nx, nx2, nx3, ol, hlen3, hz1, hz2, put_some, upd_eval, Nat.reduceEqDiff, ↓reduceIte, e63, e66]; done) | (simp only [p1, p2, p3, p4, hlen, hlen2, e1, e5, e42, e43, e44, e63, e66, l1, c1, hi, idxA, Int.toNat_natCast, nx, nx2, nx3, ol, hlen3, hz1, hz2, put_some, upd_eval, Nat.reduceEqDiff, ↓reduceIte, e63, e66]; rfl))) fun G K hG hK => (fm_cons ?_ (fm_cons ?_ fm_nil))
          ·simp only [pickOps, List.filterMap_cons, List.filterMap_nil, List.getElem?_cons_zero, List.getElem?_cons_succ, Option.map_some]; simp (disch := omega) only [go_sem, ↓reduceIte, Nat.reduceEqDiff, hG, p1, p2, p3, p4, hlen, hlen2, e1, e5, e42, e43, e44, e63, e66, l1, c1, hi, idxA, Int.toNat_natCast, nx, nx2, nx3, ol, hlen3]
           refine w_call (cloneS_ok g.ops[j].args sm sx (by omega) hpx) (by simp (disch := omega) only [go_sem, ↓reduceIte, Nat.reduceEqDiff, p1, p2, p3, p4, hlen, hlen2, e1, e5, e42, e43, e44, e63, e66, l1, c1, hi, idxA, Int.toNat_natCast, nx, nx2, nx3, ol, hlen3]) ?hl ?_
           case hl => first | rfl | (simp only [go_sem, List.all_cons, List.all_nil, Bool.not_false, Bool.and_self, p1, p2, p3, p4, hlen, hlen2, e1, e5, e42, e43, e44, e63, e66, l1, c1, hi, idxA, Int.toNat_natCast, nx, nx2, nx3, ol, hlen3]; done)
           rintro va sb ⟨x1, L3, hs3, hf3⟩; refine ⟨fun e => x1, ?_⟩
           have a1 := hs3.loc
           have hb1 : (sb ++ [(⟨[.string g.ops[j].res], 9, 0⟩ : Blk)])[sb.length]? = some ⟨[.string g.ops[j].res], 9, 0⟩ := by simp
           have hw1 : Rw (sb ++ [(⟨[.string g.ops[j].res], 9, 0⟩ : Blk)]) [g.ops[j].res] (.slice (some ⟨sb.length, 0, none⟩) 1 1) := (sl_at (c := 1) [g.ops[j].res] hb1).row
           obtain ⟨s4, sc, L4, hap4, hs4, hf4, hg4⟩ := Sl.appRow (ys := [g.ops[j].res]) (t := 24) (u := 24) Try.underlying24 Try.underlying24 sz9 rfl by9 ze9 rfl hs3 hf3 x1.length (Ext.app sb [(⟨[.string g.ops[j].res], 9, 0⟩ : Blk)]) hw1 (by simp; omega) (by simp; omega)
           have x4 : Ext sm sc := hg4.away.ext_of (x1.trans (Ext.app _ _)) (hs3.top hf3)
           have a4 := hs4.loc
           have hl4 : lenE Try.prog 24 s4 = some (.int .i64 (g.ops[j].args ++ [g.ops[j].res]).length) := row_len hs4.row Try.underlying24
           simp (disch := omega) only [go_sem, ↓reduceIte, Nat.reduceEqDiff, hG, p1, p2, p3, p4, hlen, hlen2, e1, e5, e42, e43, e44, e63, e66, l1, c1, hi, idxA, Int.toNat_natCast, nx, nx2, nx3, ol, hlen3, w_append, hap4, a4, hl4]; refine hK _ _ ?_; clear hK K hG G; repeat (with_reducible first | refine thenI ?_ | refine thenE ?_ | refine thenR ?_ | refine inBI ?_ | refine inBR ?_ | refine inBS ?_ | refine inBN (by decide) ?_)
           exact ⟨s4, L4, (loc 7).1 + 1, x4, hs4, Nat.succ_ne_zero _, (by refine ⟨?_, ?_, ?_, ?_, ?_, ?_, ?_, ?_, ?_, ?_, ?_, ?_, ?_⟩ <;> ((simp (disch := omega) only [go_sem, ↓reduceIte, Nat.reduceEqDiff, p1, p2, p3, p4, hlen, hlen2, e1, e5, e42, e43, e44, e63, e66, l1, c1, hi, idxA, Int.toNat_natCast, nx, nx2, nx3, ol, hlen3]); try rfl))⟩
          ·simp only [pickOps, List.filterMap_cons, List.filterMap_nil, List.getElem?_cons_zero, List.getElem?_cons_succ, Option.map_some]; simp (disch := omega) only [go_sem, ↓reduceIte, Nat.reduceEqDiff, hG, p1, p2, p3, p4, hlen, hlen2, e1, e5, e42, e43, e44, e63, e66, l1, c1, hi, idxA, Int.toNat_natCast, nx, nx2, nx3, ol, hlen3]
           have x0 : Ext sm (sm ++ [(⟨[.string g.ops[j].res], 9, 0⟩ : Blk)]) := Ext.app _ _
           refine w_call (cloneS_ok g.ops[j].args _ sx (by omega) (hpx.ext x0)) (by simp (disch := omega) only [go_sem, ↓reduceIte, Nat.reduceEqDiff, p1, p2, p3, p4, hlen, hlen2, e1, e5, e42, e43, e44, e63, e66, l1, c1, hi, idxA, Int.toNat_natCast, nx, nx2, nx3, ol, hlen3]) ?hl ?_
           case hl => first | rfl | (simp only [go_sem, List.all_cons, List.all_nil, Bool.not_false, Bool.and_self, p1, p2, p3, p4, hlen, hlen2, e1, e5, e42, e43, e44, e63, e66, l1, c1, hi, idxA, Int.toNat_natCast, nx, nx2, nx3, ol, hlen3]; done)
           rintro va sb ⟨x1, L3, hs3, hf3⟩; refine ⟨fun e => x1, ?_⟩
           have a1 := hs3.loc
           have x1' := x0.trans x1
           have hf3' : Fresh sm.length L3 := hf3.mono (by simp)
           have hb1 : sb[sm.length]? = some ⟨[.string g.ops[j].res], 9, 0⟩ := by rw [x1.get (by simp)]; simp
           have hw1 : Rw sb [g.ops[j].res] (.slice (some ⟨sm.length, 0, none⟩) 1 1) := (sl_at (c := 1) [g.ops[j].res] hb1).row
           obtain ⟨s4, sc, L4, hap4, hs4, hf4, hg4⟩ := Sl.appRow (ys := [g.ops[j].res]) (t := 24) (u := 24) Try.underlying24 Try.underlying24 sz9 rfl by9 ze9 rfl hs3 hf3' x1'.length (Ext.refl sb) hw1 (by simp; omega) (by simp; omega)
           have x4 : Ext sm sc := hg4.away.ext_of x1' (hs3.top hf3')
           have a4 := hs4.loc
           have hl4 : lenE Try.prog 24 s4 = some (.int .i64 (g.ops[j].args ++ [g.ops[j].res]).length) := row_len hs4.row Try.underlying24
           simp (disch := omega) only [go_sem, ↓reduceIte, Nat.reduceEqDiff, hG, p1, p2, p3, p4, hlen, hlen2, e1, e5, e42, e43, e44, e63, e66, l1, c1, hi, idxA, Int.toNat_natCast, nx, nx2, nx3, ol, hlen3, w_append, hap4, a4, hl4]; refine hK _ _ ?_; clear hK K hG G; repeat (with_reducible first | refine thenI ?_ | refine thenE ?_ | refine thenR ?_ | refine inBI ?_ | refine inBR ?_ | refine inBS ?_ | refine inBN (by decide) ?_)
           exact ⟨s4, L4, (loc 7).1 + 1, x4, hs4, Nat.succ_ne_zero _, (by refine ⟨?_, ?_, ?_, ?_, ?_, ?_, ?_, ?_, ?_, ?_, ?_, ?_, ?_⟩ <;> ((simp (disch := omega) only [go_sem, ↓reduceIte, Nat.reduceEqDiff, p1, p2, p3, p4, hlen, hlen2, e1, e5, e42, e43, e44, e63, e66, l1, c1, hi, idxA, Int.toNat_natCast, nx, nx2, nx3, ol, hlen3]); try rfl))⟩
         clear e1 e5 e42 e43 e44 e63 e66 l1
         rintro ⟨env, loc⟩ st' ⟨s4, L4, q7, hx4, hs4, hq7, e1, e5, e7, e42, e43, e44, e69, e70, e71, e63, e66, l1, l7⟩
         simp only at e1 e5 e7 e42 e43 e44 e69 e70 e71 e63 e66 l1 l7
         obtain ⟨ws, hws⟩ : ∃ ws, ws = g.ops[j].args ++ [g.ops[j].res] := ⟨_, rfl⟩
         rw [← hws] at hs4 e70
         obtain ⟨sn, rfl⟩ : ∃ sn, sn = st' := ⟨_, rfl⟩
         have a4 := hs4.loc
         have hbw : ws.length ≤ 1073741824 := by rw [hws]; simp; omega
         repeat (first | with_reducible (first | refine thenI ?_ | refine thenE ?_ | refine thenR ?_ | refine inBI ?_ | refine inBR ?_ | refine inBS ?_ | refine inBN (by decide) ?_) | refine W_seqS ?_ | refine W_seqC ?_ | refine W_seqB ?_ | refine W_block ?_ | refine W_skip ?_ | (apply W_condB; (case hc => (simp (disch := omega) only [go_sem, ↓reduceIte, Nat.reduceEqDiff, p1, p2, p3, p4, hlen, hlen2, c1, hi, idxA, Int.toNat_natCast, nx, nx2, nx3, ol, hlen3, e1, e5, e7, e42, e43, e44, e69, e70, e71, e63, e66, l1, l7, a4, hq7]); rfl); first | refine qzT ?_ | refine qzF ?_) | ((first | refine W_reg rfl fun G K hG hK => ?_ | refine W_end rfl fun G K hG hK => ?_); simp (disch := omega) only [go_sem, ↓reduceIte, Nat.reduceEqDiff, hG, p1, p2, p3, p4, hlen, hlen2, c1, hi, idxA, Int.toNat_natCast, nx, nx2, nx3, ol, hlen3, e1, e5, e7, e42, e43, e44, e69, e70, e71, e63, e66, l1, l7, a4, hq7]; refine hK _ _ ?_; clear hK K hG G))
         refine W_loop (fun d fr st' => ∃ (i : Nat) , d = ws.length - i ∧ i ≤ ws.length ∧ (sn = st') ∧ ((∀ x ∈ ws.take i, sortOk g x = true)) ∧ (fr.env 1 = .pointer (some ⟨1, 0, some 1⟩)) ∧ (fr.env 5 = r) ∧ (fr.env 7 = .pointer (some ⟨7, 0, some q7⟩)) ∧ (fr.env 42 = .slice (some ⟨b0, o0, none⟩) g.ops.length c0) ∧ (fr.env 43 = .int .i64 g.ops.length) ∧ (fr.env 44 = .int .i64 j) ∧ (fr.env 69 = s4) ∧ (fr.env 70 = .int .i64 ws.length) ∧ (fr.env 71 = .int .i64 i) ∧ (fr.env 63 = .pointer (some ⟨7, 1, some q7⟩)) ∧ (fr.env 66 = .pointer (some ⟨7, 2, some q7⟩)) ∧ (fr.loc 1 = (1, [s, .slice (some ⟨b0, o0, none⟩) g.ops.length c0])) ∧ (fr.loc 7 = (q7, [.string g.ops[j].nm, sx, .string g.ops[j].res]))) (ws.length) ?_ ?_
         ·exact ⟨0, by omega, by omega, rfl, by simp, (by refine ⟨?_, ?_, ?_, ?_, ?_, ?_, ?_, ?_, ?_, ?_, ?_, ?_, ?_⟩ <;> ((simp (disch := omega) only [go_sem, ↓reduceIte, Nat.reduceEqDiff, p1, p2, p3, p4, hlen, hlen2, c1, hi, idxA, Int.toNat_natCast, nx, nx2, nx3, ol, hlen3, e1, e5, e7, e42, e43, e44, e69, e70, e71, e63, e66, l1, l7, a4, hq7]); try rfl))⟩
         clear e1 e5 e7 e42 e43 e44 e69 e70 e71 e63 e66 l1 l7
         rintro d ⟨env, loc⟩ st' ⟨i, hd_i, hj_i, hst, hall4, e1, e5, e7, e42, e43, e44, e69, e70, e71, e63, e66, l1, l7⟩
         simp only at e1 e5 e7 e42 e43 e44 e69 e70 e71 e63 e66 l1 l7
         subst hst
         by_cases hlt_i : i < ws.length
         ·have c1_i : decide ((i : Int) < (ws.length : Int)) = true := by simpa using hlt_i
          have hi_i := idxOk hlt_i
          have hx_i : ws[i]? = some ws[i] := List.getElem?_eq_getElem hlt_i
          have htk_i : ws.take (i + 1) = ws.take i ++ [ws[i]] := List.take_succ_eq_append_getElem hlt_i
          obtain ⟨b5, o5, c5, rfl, hce⟩ := row_atS hs4.row hx_i
          repeat (first | with_reducible (first | refine thenI ?_ | refine thenE ?_ | refine thenR ?_ | refine inBI ?_ | refine inBR ?_ | refine inBS ?_ | refine inBN (by decide) ?_) | refine W_seqS ?_ | refine W_seqC ?_ | refine W_seqB ?_ | refine W_block ?_ | refine W_skip ?_ | (apply W_condB; (case hc => (simp (disch := omega) only [go_sem, ↓reduceIte, Nat.reduceEqDiff, p1, p2, p3, p4, hlen, hlen2, c1, hi, nx, nx2, nx3, ol, hlen3, a4, hq7, e1, e5, e7, e42, e43, e44, e69, e70, e71, e63, e66, l1, l7, c1_i, hi_i, idxA, Int.toNat_natCast, hce]); rfl); first | refine qzT ?_ | refine qzF ?_) | ((first | refine W_reg rfl fun G K hG hK => ?_ | refine W_end rfl fun G K hG hK => ?_); simp (disch := omega) only [go_sem, ↓reduceIte, Nat.reduceEqDiff, hG, p1, p2, p3, p4, hlen, hlen2, c1, hi, nx, nx2, nx3, ol, hlen3, a4, hq7, e1, e5, e7, e42, e43, e44, e69, e70, e71, e63, e66, l1, l7, c1_i, hi_i, idxA, Int.toNat_natCast, hce]; refine hK _ _ ?_; clear hK K hG G))
          cases hw : (ws[i].toList == wordB.toList) with
          | true =>
           have hw' : (ws[i].toList == (⟨#[119, 111, 114, 100]⟩ : ByteArray).toList) = true := hw
           have hall5 : ∀ x ∈ ws.take (i + 1), sortOk g x = true := fun x hx => by
            rw [htk_i] at hx
            rcases List.mem_append.1 hx with h | h
            ·exact hall4 x h
            ·cases List.mem_singleton.1 h; unfold sortOk; rw [hw]; rfl
           (repeat (first | refine W_seqS ?_ | refine W_seqC ?_ | refine W_seqB ?_ | refine W_block ?_)); refine W_reg rfl fun G K hG hK => ?_; simp (disch := omega) only [go_sem, ↓reduceIte, Nat.reduceEqDiff, hG, p1, p2, p3, p4, hlen, hlen2, c1, hi, nx, nx2, nx3, ol, hlen3, a4, hq7, e1, e5, e7, e42, e43, e44, e69, e70, e71, e63, e66, l1, l7, c1_i, hi_i, idxA, Int.toNat_natCast, hw']
           refine hK _ _ ?_; clear hK K hG G; repeat (with_reducible first | refine thenI ?_ | refine thenE ?_ | refine thenR ?_ | refine inBI ?_ | refine inBR ?_ | refine inBS ?_ | refine inBN (by decide) ?_)
           repeat (first | with_reducible (first | refine thenI ?_ | refine thenE ?_ | refine thenR ?_ | refine inBI ?_ | refine inBR ?_ | refine inBS ?_ | refine inBN (by decide) ?_) | refine W_seqS ?_ | refine W_seqC ?_ | refine W_seqB ?_ | refine W_block ?_ | refine W_skip ?_ | (apply W_condB; (case hc => (simp (disch := omega) only [go_sem, ↓reduceIte, Nat.reduceEqDiff, p1, p2, p3, p4, hlen, hlen2, c1, hi, nx, nx2, nx3, ol, hlen3, a4, hq7, e1, e5, e7, e42, e43, e44, e69, e70, e71, e63, e66, l1, l7, c1_i, hi_i, idxA, Int.toNat_natCast]); rfl); first | refine qzT ?_ | refine qzF ?_) | ((first | refine W_reg rfl fun G K hG hK => ?_ | refine W_end rfl fun G K hG hK => ?_); simp (disch := omega) only [go_sem, ↓reduceIte, Nat.reduceEqDiff, hG, p1, p2, p3, p4, hlen, hlen2, c1, hi, nx, nx2, nx3, ol, hlen3, a4, hq7, e1, e5, e7, e42, e43, e44, e69, e70, e71, e63, e66, l1, l7, c1_i, hi_i, idxA, Int.toNat_natCast]; refine hK _ _ ?_; clear hK K hG G))
           refine ⟨ws.length - (i + 1), by omega, i + 1, rfl, by omega, rfl, hall5, (by refine ⟨?_, ?_, ?_, ?_, ?_, ?_, ?_, ?_, ?_, ?_, ?_, ?_, ?_⟩ <;> ((simp (disch := omega) only [go_sem, ↓reduceIte, Nat.reduceEqDiff, p1, p2, p3, p4, hlen, hlen2, c1, hi, nx, nx2, nx3, ol, hlen3, a4, hq7, e1, e5, e7, e42, e43, e44, e69, e70, e71, e63, e66, l1, l7, c1_i, hi_i, idxA, Int.toNat_natCast]); try rfl))⟩
          | false =>
           have hw' : (ws[i].toList == (⟨#[119, 111, 114, 100]⟩ : ByteArray).toList) = false := hw
           (repeat (first | refine W_seqS ?_ | refine W_seqC ?_ | refine W_seqB ?_ | refine W_block ?_)); refine W_reg rfl fun G K hG hK => ?_; simp (disch := omega) only [go_sem, ↓reduceIte, Nat.reduceEqDiff, hG, p1, p2, p3, p4, hlen, hlen2, c1, hi, nx, nx2, nx3, ol, hlen3, a4, hq7, e1, e5, e7, e42, e43, e44, e69, e70, e71, e63, e66, l1, l7, c1_i, hi_i, idxA, Int.toNat_natCast, hw']
           refine w_call (contains_ok g.sorts ws[i] sn s hb1 (hs0.ext (hext.trans hx4))) (by simp (disch := omega) only [go_sem, ↓reduceIte, Nat.reduceEqDiff, p1, p2, p3, p4, hlen, hlen2, c1, hi, nx, nx2, nx3, ol, hlen3, a4, hq7, e1, e5, e7, e42, e43, e44, e69, e70, e71, e63, e66, l1, l7, c1_i, hi_i, idxA, Int.toNat_natCast, hw']) ?hl ?_
           case hl => first | rfl | (simp only [go_sem, List.all_cons, List.all_nil, Bool.not_false, Bool.and_self, p1, p2, p3, p4, hlen, hlen2, c1, hi, nx, nx2, nx3, ol, hlen3, a4, hq7, e1, e5, e7, e42, e43, e44, e69, e70, e71, e63, e66, l1, l7, c1_i, hi_i, idxA, Int.toNat_natCast, hw']; done)
           rintro r_ sn ⟨⟨bb, rfl, hbb⟩, rfl⟩; refine ⟨fun e => (by cases e), ?_⟩
           cases bb with
           | true =>
            have hall5 : ∀ x ∈ ws.take (i + 1), sortOk g x = true := fun x hx => by
             rw [htk_i] at hx
             rcases List.mem_append.1 hx with h | h
             ·exact hall4 x h
             ·cases List.mem_singleton.1 h; exact sortOk_mem (hbb.1 rfl)
            simp (disch := omega) only [go_sem, ↓reduceIte, Nat.reduceEqDiff, hG, p1, p2, p3, p4, hlen, hlen2, c1, hi, nx, nx2, nx3, ol, hlen3, a4, hq7, e1, e5, e7, e42, e43, e44, e69, e70, e71, e63, e66, l1, l7, c1_i, hi_i, idxA, Int.toNat_natCast, hw']; refine hK _ _ ?_; clear hK K hG G; repeat (with_reducible first | refine thenI ?_ | refine thenE ?_ | refine thenR ?_ | refine inBI ?_ | refine inBR ?_ | refine inBS ?_ | refine inBN (by decide) ?_)
            repeat (first | with_reducible (first | refine thenI ?_ | refine thenE ?_ | refine thenR ?_ | refine inBI ?_ | refine inBR ?_ | refine inBS ?_ | refine inBN (by decide) ?_) | refine W_seqS ?_ | refine W_seqC ?_ | refine W_seqB ?_ | refine W_block ?_ | refine W_skip ?_ | (apply W_condB; (case hc => (simp (disch := omega) only [go_sem, ↓reduceIte, Nat.reduceEqDiff, p1, p2, p3, p4, hlen, hlen2, c1, hi, nx, nx2, nx3, ol, hlen3, a4, hq7, e1, e5, e7, e42, e43, e44, e69, e70, e71, e63, e66, l1, l7, c1_i, hi_i, idxA, Int.toNat_natCast]); rfl); first | refine qzT ?_ | refine qzF ?_) | ((first | refine W_reg rfl fun G K hG hK => ?_ | refine W_end rfl fun G K hG hK => ?_); simp (disch := omega) only [go_sem, ↓reduceIte, Nat.reduceEqDiff, hG, p1, p2, p3, p4, hlen, hlen2, c1, hi, nx, nx2, nx3, ol, hlen3, a4, hq7, e1, e5, e7, e42, e43, e44, e69, e70, e71, e63, e66, l1, l7, c1_i, hi_i, idxA, Int.toNat_natCast]; refine hK _ _ ?_; clear hK K hG G))
            refine ⟨ws.length - (i + 1), by omega, i + 1, rfl, by omega, rfl, hall5, (by refine ⟨?_, ?_, ?_, ?_, ?_, ?_, ?_, ?_, ?_, ?_, ?_, ?_, ?_⟩ <;> ((simp (disch := omega) only [go_sem, ↓reduceIte, Nat.reduceEqDiff, p1, p2, p3, p4, hlen, hlen2, c1, hi, nx, nx2, nx3, ol, hlen3, a4, hq7, e1, e5, e7, e42, e43, e44, e69, e70, e71, e63, e66, l1, l7, c1_i, hi_i, idxA, Int.toNat_natCast]); try rfl))⟩
           | false =>
            have hbad : validS g = false := validS_bad2 hlt (opOk_bad (x := ws[i]) (by rw [← hws]; exact List.getElem_mem hlt_i) (sortOk_not hw fun h => by have := hbb.2 h; cases this))
            simp (disch := omega) only [go_sem, ↓reduceIte, Nat.reduceEqDiff, hG, p1, p2, p3, p4, hlen, hlen2, c1, hi, nx, nx2, nx3, ol, hlen3, a4, hq7, e1, e5, e7, e42, e43, e44, e69, e70, e71, e63, e66, l1, l7, c1_i, hi_i, idxA, Int.toNat_natCast, hw']; refine hK _ _ ?_; clear hK K hG G; repeat (with_reducible first | refine thenI ?_ | refine thenE ?_ | refine thenR ?_ | refine inBI ?_ | refine inBR ?_ | refine inBS ?_ | refine inBN (by decide) ?_)
            repeat (first | with_reducible (first | refine thenI ?_ | refine thenE ?_ | refine thenR ?_ | refine inBI ?_ | refine inBR ?_ | refine inBS ?_ | refine inBN (by decide) ?_) | refine W_seqS ?_ | refine W_seqC ?_ | refine W_seqB ?_ | refine W_block ?_ | refine W_skip ?_ | (apply W_condB; (case hc => (simp (disch := omega) only [go_sem, ↓reduceIte, Nat.reduceEqDiff, p1, p2, p3, p4, hlen, hlen2, c1, hi, nx, nx2, nx3, ol, hlen3, a4, hq7, e1, e5, e7, e42, e43, e44, e69, e70, e71, e63, e66, l1, l7, c1_i, hi_i, idxA, Int.toNat_natCast]); rfl); first | refine qzT ?_ | refine qzF ?_) | ((first | refine W_reg rfl fun G K hG hK => ?_ | refine W_end rfl fun G K hG hK => ?_); simp (disch := omega) only [go_sem, ↓reduceIte, Nat.reduceEqDiff, hG, p1, p2, p3, p4, hlen, hlen2, c1, hi, nx, nx2, nx3, ol, hlen3, a4, hq7, e1, e5, e7, e42, e43, e44, e69, e70, e71, e63, e66, l1, l7, c1_i, hi_i, idxA, Int.toNat_natCast]; refine hK _ _ ?_; clear hK K hG G))
            refine W_ret ?_; try (repeat (with_reducible first | refine thenI ?_ | refine thenE ?_ | refine thenR ?_ | refine inBI ?_ | refine inBR ?_ | refine inBS ?_ | refine inBN (by decide) ?_))
            refine fin1 (.inl rfl) (by (simp (disch := omega) only [go_sem, ↓reduceIte, Nat.reduceEqDiff, p1, p2, p3, p4, hlen, hlen2, c1, hi, nx, nx2, nx3, ol, hlen3, a4, hq7, e1, e5, e7, e42, e43, e44, e69, e70, e71, e63, e66, l1, l7, c1_i, hi_i, idxA, Int.toNat_natCast]); try rfl) rfl ⟨hext.trans hx4, by rw [hbad]⟩
         ·have c1_i : decide ((i : Int) < (ws.length : Int)) = false := by simpa using hlt_i
          have hjn_i : i = ws.length := by omega
          subst hjn_i
          rw [List.take_length] at hall4
          have ho : opOk g g.ops[j] = true := opOk_all h1 h2 k3 (by rw [← hws]; exact hall4)
          have hall3 : ∀ x ∈ g.ops.take (j + 1), opOk g x = true := fun x hx => by
           rw [htk] at hx
           rcases List.mem_append.1 hx with h | h
           ·exact hall2 x h
           ·cases List.mem_singleton.1 h; exact ho
          obtain ⟨s', sb, L', hap, hs', hf', hg⟩ := OwnS.step (x := g.ops[j].nm) (hown.ext hx4) hfr (hext.trans hx4).length (Ext.refl sn) (by simp; omega)
          repeat (first | with_reducible (first | refine thenI ?_ | refine thenE ?_ | refine thenR ?_ | refine inBI ?_ | refine inBR ?_ | refine inBS ?_ | refine inBN (by decide) ?_) | refine W_seqS ?_ | refine W_seqC ?_ | refine W_seqB ?_ | refine W_block ?_ | refine W_skip ?_ | (apply W_condB; (case hc => (simp (disch := omega) only [go_sem, ↓reduceIte, Nat.reduceEqDiff, p1, p2, p3, p4, hlen, hlen2, c1, hi, idxA, Int.toNat_natCast, nx, nx2, nx3, ol, hlen3, a4, hq7, e1, e5, e7, e42, e43, e44, e69, e70, e71, e63, e66, l1, l7, c1_i]); rfl); first | refine qzT ?_ | refine qzF ?_) | ((first | refine W_reg rfl fun G K hG hK => ?_ | refine W_end rfl fun G K hG hK => ?_); simp (disch := omega) only [go_sem, ↓reduceIte, Nat.reduceEqDiff, hG, p1, p2, p3, p4, hlen, hlen2, c1, hi, idxA, Int.toNat_natCast, nx, nx2, nx3, ol, hlen3, a4, hq7, e1, e5, e7, e42, e43, e44, e69, e70, e71, e63, e66, l1, l7, c1_i]; refine hK _ _ ?_; clear hK K hG G))
          refine W_exit ?_; repeat (with_reducible first | refine thenI ?_ | refine thenE ?_ | refine thenR ?_ | refine inBI ?_ | refine inBR ?_ | refine inBS ?_ | refine inBN (by decide) ?_)
          refine W_end rfl fun G K hG hK => ?_; simp (disch := omega) only [go_sem, ↓reduceIte, Nat.reduceEqDiff, hG, p1, p2, p3, p4, hlen, hlen2, c1, hi, idxA, Int.toNat_natCast, nx, nx2, nx3, ol, hlen3, a4, hq7, e1, e5, e7, e42, e43, e44, e69, e70, e71, e63, e66, l1, l7, c1_i, w_append, hap]
          refine hK _ _ ?_; clear hK K hG G; repeat (with_reducible first | refine thenI ?_ | refine thenE ?_ | refine thenR ?_ | refine inBI ?_ | refine inBR ?_ | refine inBS ?_ | refine inBN (by decide) ?_)
          repeat (first | with_reducible (first | refine thenI ?_ | refine thenE ?_ | refine thenR ?_ | refine inBI ?_ | refine inBR ?_ | refine inBS ?_ | refine inBN (by decide) ?_) | refine W_seqS ?_ | refine W_seqC ?_ | refine W_seqB ?_ | refine W_block ?_ | refine W_skip ?_ | (apply W_condB; (case hc => (simp (disch := omega) only [go_sem, ↓reduceIte, Nat.reduceEqDiff, p1, p2, p3, p4, hlen, hlen2, c1, hi, idxA, Int.toNat_natCast, nx, nx2, nx3, ol, hlen3, a4, hq7, e1, e5, e7, e42, e43, e44, e69, e70, e71, e63, e66, l1, l7, c1_i]); rfl); first | refine qzT ?_ | refine qzF ?_) | ((first | refine W_reg rfl fun G K hG hK => ?_ | refine W_end rfl fun G K hG hK => ?_); simp (disch := omega) only [go_sem, ↓reduceIte, Nat.reduceEqDiff, hG, p1, p2, p3, p4, hlen, hlen2, c1, hi, idxA, Int.toNat_natCast, nx, nx2, nx3, ol, hlen3, a4, hq7, e1, e5, e7, e42, e43, e44, e69, e70, e71, e63, e66, l1, l7, c1_i]; refine hK _ _ ?_; clear hK K hG G))
          refine ⟨g.ops.length - (j + 1), by omega, j + 1, s', L', .pointer (some ⟨7, 1, some q7⟩), .pointer (some ⟨7, 2, some q7⟩), rfl, by omega, hg.away.ext_of (hext.trans hx4) htop, rfl, rfl, by rw [htk, List.map_append]; exact hs', hf', hg.topOk htop (hext.trans hx4).length, hall3, (by refine ⟨?_, ?_, ?_, ?_, ?_, ?_, ?_, ?_⟩ <;> ((simp (disch := omega) only [go_sem, ↓reduceIte, Nat.reduceEqDiff, p1, p2, p3, p4, hlen, hlen2, c1, hi, idxA, Int.toNat_natCast, nx, nx2, nx3, ol, hlen3, a4, hq7, e1, e5, e7, e42, e43, e44, e69, e70, e71, e63, e66, l1, l7, c1_i]); try rfl))⟩
     ·have c1 : decide ((j : Int) < (g.ops.length : Int)) = false := by simpa using hlt
      have hjn : j = g.ops.length := by omega
      subst hjn
      rw [List.take_length] at hall2 hown
      have hO : g.ops.all (opOk g) = true := List.all_eq_true.2 hall2
      have hv : validS g = distB (g.ops.map Opr.nm) := by unfold validS; rw [hS, hO, k4, d4, k6]; simp
      repeat (first | with_reducible (first | refine thenI ?_ | refine thenE ?_ | refine thenR ?_ | refine inBI ?_ | refine inBR ?_ | refine inBS ?_ | refine inBN (by decide) ?_) | refine W_seqS ?_ | refine W_seqC ?_ | refine W_seqB ?_ | refine W_block ?_ | refine W_skip ?_ | (apply W_condB; (case hc => (simp (disch := omega) only [go_sem, ↓reduceIte, Nat.reduceEqDiff, p1, p2, p3, p4, hlen, hlen2, e1, e5, e42, e43, e44, e63, e66, l1, c1, ol]); rfl); first | refine qzT ?_ | refine qzF ?_) | ((first | refine W_reg rfl fun G K hG hK => ?_ | refine W_end rfl fun G K hG hK => ?_); simp (disch := omega) only [go_sem, ↓reduceIte, Nat.reduceEqDiff, hG, p1, p2, p3, p4, hlen, hlen2, e1, e5, e42, e43, e44, e63, e66, l1, c1, ol]; refine hK _ _ ?_; clear hK K hG G))
      refine W_exit ?_; repeat (with_reducible first | refine thenI ?_ | refine thenE ?_ | refine thenR ?_ | refine inBI ?_ | refine inBR ?_ | refine inBS ?_ | refine inBN (by decide) ?_)
      (repeat (first | refine W_seqS ?_ | refine W_seqC ?_ | refine W_seqB ?_ | refine W_block ?_)); refine W_reg rfl fun G K hG hK => ?_; simp (disch := omega) only [go_sem, ↓reduceIte, Nat.reduceEqDiff, hG, p1, p2, p3, p4, hlen, hlen2, e1, e5, e42, e43, e44, e63, e66, l1, c1, ol]
      refine w_call (implDistinct_ok (g.ops.map Opr.nm) st' r (by simpa using hb2) hown.row) (by simp (disch := omega) only [go_sem, ↓reduceIte, Nat.reduceEqDiff, p1, p2, p3, p4, hlen, hlen2, e1, e5, e42, e43, e44, e63, e66, l1, c1, ol]) ?hl ?_
      case hl => first | rfl | (simp only [go_sem, List.all_cons, List.all_nil, Bool.not_false, Bool.and_self, p1, p2, p3, p4, hlen, hlen2, e1, e5, e42, e43, e44, e63, e66, l1, c1, ol]; done)
      rintro r_ sz ⟨x9, rfl⟩; refine ⟨fun e => (by cases e), ?_⟩
      simp (disch := omega) only [go_sem, ↓reduceIte, Nat.reduceEqDiff, hG, p1, p2, p3, p4, hlen, hlen2, e1, e5, e42, e43, e44, e63, e66, l1, c1, ol]; refine hK _ _ ?_; clear hK K hG G; repeat (with_reducible first | refine thenI ?_ | refine thenE ?_ | refine thenR ?_ | refine inBI ?_ | refine inBR ?_ | refine inBS ?_ | refine inBN (by decide) ?_)
      refine W_ret ?_; try (repeat (with_reducible first | refine thenI ?_ | refine thenE ?_ | refine thenR ?_ | refine inBI ?_ | refine inBR ?_ | refine inBS ?_ | refine inBN (by decide) ?_))
      refine fin1 (.inl rfl) (by (simp (disch := omega) only [go_sem, ↓reduceIte, Nat.reduceEqDiff, p1, p2, p3, p4, hlen, hlen2, e1, e5, e42, e43, e44, e63, e66, l1, c1, ol]); try rfl) rfl ⟨hext.trans x9, by rw [hv]⟩

end

section
/- Counts and depths of terms; validity: impl and spec. -/
open Go Go.Proofs
set_option linter.unusedVariables false
set_option linter.unusedSimpArgs false
set_option maxRecDepth 100000
-- AUTO

theorem count_take {xs : List T} {j : Nat} (h : j < xs.length) : T.countL (xs.take (j + 1)) = T.countL (xs.take j) + xs[j].count := by
 rw [List.take_succ_eq_append_getElem h, T.countL_app]; simp [T.countL]
theorem count_le {xs : List T} (j : Nat) : T.countL (xs.take j) ≤ T.countL xs := by
 have := T.countL_app (xs.take j) (xs.drop j)
 rw [List.take_append_drop] at this; omega
theorem depth_take {xs : List T} {j : Nat} (h : j < xs.length) : T.depthL (xs.take (j + 1)) = max (T.depthL (xs.take j)) xs[j].depth := by
 rw [List.take_succ_eq_append_getElem h, T.depthL_app]; simp [T.depthL]
theorem depthL_mem' {a : T} {l : List T} (h : a ∈ l) : a.depth ≤ T.depthL l := by
 induction l with
 | nil => cases h
 | cons y ys ih =>
  simp only [T.depthL]
  rcases List.mem_cons.1 h with rfl | h
  ·omega
  ·have := ih h; omega
theorem depth_le {xs : List T} (j : Nat) : T.depthL (xs.take j) ≤ T.depthL xs := by
 have := T.depthL_app (xs.take j) (xs.drop j)
 rw [List.take_append_drop] at this; omega
theorem l1Max_ok (a b : Int) (st : St) : CallS Try.prog 53 [.int .i64 a, .int .i64 b] st fun r st' => r = .int .i64 (max a b) ∧ st' = st := by
 refine CallS_of_W [] 10 Try.func53 rfl rfl rfl rfl (by simp) ?_
 by_cases h : a > b
 ·have c1 : decide (a > b) = true := by simpa using h
  repeat (first | with_reducible (first | refine thenI ?_ | refine thenE ?_ | refine thenR ?_ | refine inBI ?_ | refine inBR ?_ | refine inBS ?_ | refine inBN (by decide) ?_) | refine W_seqS ?_ | refine W_seqC ?_ | refine W_seqB ?_ | refine W_block ?_ | refine W_skip ?_ | (apply W_condB; (case hc => (simp (disch := omega) only [go_sem, ↓reduceIte, Nat.reduceEqDiff, c1]); rfl); first | refine qzT ?_ | refine qzF ?_) | ((first | refine W_reg rfl fun G K hG hK => ?_ | refine W_end rfl fun G K hG hK => ?_); simp (disch := omega) only [go_sem, ↓reduceIte, Nat.reduceEqDiff, hG, c1]; refine hK _ _ ?_; clear hK K hG G))
  refine W_ret ?_; try (repeat (with_reducible first | refine thenI ?_ | refine thenE ?_ | refine thenR ?_ | refine inBI ?_ | refine inBR ?_ | refine inBS ?_ | refine inBN (by decide) ?_))
  refine fin1 (.inl rfl) (by (simp (disch := omega) only [go_sem, ↓reduceIte, Nat.reduceEqDiff]); try rfl) rfl ⟨by congr 1; omega, rfl⟩
 ·have c1 : decide (a > b) = false := by simpa using h
  repeat (first | with_reducible (first | refine thenI ?_ | refine thenE ?_ | refine thenR ?_ | refine inBI ?_ | refine inBR ?_ | refine inBS ?_ | refine inBN (by decide) ?_) | refine W_seqS ?_ | refine W_seqC ?_ | refine W_seqB ?_ | refine W_block ?_ | refine W_skip ?_ | (apply W_condB; (case hc => (simp (disch := omega) only [go_sem, ↓reduceIte, Nat.reduceEqDiff, c1]); rfl); first | refine qzT ?_ | refine qzF ?_) | ((first | refine W_reg rfl fun G K hG hK => ?_ | refine W_end rfl fun G K hG hK => ?_); simp (disch := omega) only [go_sem, ↓reduceIte, Nat.reduceEqDiff, hG, c1]; refine hK _ _ ?_; clear hK K hG G))
  refine W_ret ?_; try (repeat (with_reducible first | refine thenI ?_ | refine thenE ?_ | refine thenR ?_ | refine inBI ?_ | refine inBR ?_ | refine inBS ?_ | refine inBN (by decide) ?_))
  refine fin1 (.inl rfl) (by (simp (disch := omega) only [go_sem, ↓reduceIte, Nat.reduceEqDiff]); try rfl) rfl ⟨by congr 1; omega, rfl⟩
theorem specDepth_ok : ∀ (t : T) (st : St) (cs : List Value), Lim 1073741824 t → t.depth ≤ 4611686018427387904 → Enc st t cs →
  CallS Try.prog 35 [.agg cs.toArray] st fun r st' => r = .int .i64 (t.depth : Nat) ∧ st' = st := by
 refine T.ind fun k n nm xs ih st cs hl hc hE => ?_
 obtain ⟨s, rfl, hr⟩ := hE.open
 have hxl := hl.args.1
 have hcm : (T.mk k n nm xs).depth = 1 + T.depthL xs := by simp only [T.depth]
 refine CallS_of_W [] 22 Try.func35 rfl rfl rfl rfl (by simp) ?_
 have q1 := hr.notLoc.1
 have q2 := hr.notLoc.2
 have q3 := Row.cells1 hr
 have hlen : lenE Try.prog 28 s = some (.int .i64 xs.length) := row_len hr Try.underlying28
 repeat (first | with_reducible (first | refine thenI ?_ | refine thenE ?_ | refine thenR ?_ | refine inBI ?_ | refine inBR ?_ | refine inBS ?_ | refine inBN (by decide) ?_) | refine W_seqS ?_ | refine W_seqC ?_ | refine W_seqB ?_ | refine W_block ?_ | refine W_skip ?_ | (apply W_condB; (case hc => (simp (disch := omega) only [go_sem, ↓reduceIte, Nat.reduceEqDiff, q1, q2, q3, hlen]); rfl); first | refine qzT ?_ | refine qzF ?_) | ((first | refine W_reg rfl fun G K hG hK => ?_ | refine W_end rfl fun G K hG hK => ?_); simp (disch := omega) only [go_sem, ↓reduceIte, Nat.reduceEqDiff, hG, q1, q2, q3, hlen]; refine hK _ _ ?_; clear hK K hG G))
 refine W_loop (fun d fr st' => ∃ (j : Nat) , d = xs.length - j ∧ j ≤ xs.length ∧ (st' = st) ∧ (fr.env 1 = .pointer (some ⟨1, 0, some 1⟩)) ∧ (fr.env 3 = .int .i64 ((T.depthL (xs.take j) : Nat) : Int)) ∧ (fr.env 4 = .int .i64 j) ∧ (fr.loc 1 = (1, [.int .i64 k, .int .i64 n, .string nm, s]))) (xs.length) ?_ ?_
 ·exact ⟨0, by omega, by omega, rfl, (by refine ⟨?_, ?_, ?_, ?_⟩ <;> ((simp (disch := omega) only [go_sem, ↓reduceIte, Nat.reduceEqDiff, q1, q2, q3, hlen]); try rfl))⟩
 rintro d ⟨env, loc⟩ st' ⟨j, hd, hj, hst, e1, e3, e4, l1⟩
 simp only at e1 e3 e4 l1
 subst hst
 have hle := depth_le (xs := xs) j
 by_cases hlt : j < xs.length
 ·have c1 : decide ((j : Int) < (xs.length : Int)) = true := by simpa using hlt
  have hi := idxOk hlt
  have hx : xs[j]? = some xs[j] := List.getElem?_eq_getElem hlt
  have htk : xs.take (j + 1) = xs.take j ++ [xs[j]] := List.take_succ_eq_append_getElem hlt
  obtain ⟨i, o, c, es, rfl, hcl, hE1, hcs⟩ := row_at hr hx
  have hld := fun loc => load_row (A := []) (loc := loc) ag30 sz30 hcl hcs
  have htake := depth_take hlt
  have hdm := depthL_mem' (List.getElem_mem hlt)
  repeat (first | with_reducible (first | refine thenI ?_ | refine thenE ?_ | refine thenR ?_ | refine inBI ?_ | refine inBR ?_ | refine inBS ?_ | refine inBN (by decide) ?_) | refine W_seqS ?_ | refine W_seqC ?_ | refine W_seqB ?_ | refine W_block ?_ | refine W_skip ?_ | (apply W_condB; (case hc => (simp (disch := omega) only [go_sem, ↓reduceIte, Nat.reduceEqDiff, q1, q2, q3, hlen, e1, e3, e4, l1, c1, hi, idxA, Int.toNat_natCast]); rfl); first | refine qzT ?_ | refine qzF ?_) | ((first | refine W_reg rfl fun G K hG hK => ?_ | refine W_end rfl fun G K hG hK => ?_); simp (disch := omega) only [go_sem, ↓reduceIte, Nat.reduceEqDiff, hG, q1, q2, q3, hlen, e1, e3, e4, l1, c1, hi, idxA, Int.toNat_natCast]; refine hK _ _ ?_; clear hK K hG G))
  refine W_end rfl fun G K hG hK => ?_; simp (disch := omega) only [go_sem, ↓reduceIte, Nat.reduceEqDiff, hG, q1, q2, q3, hlen, e1, e3, e4, l1, c1, hi, idxA, Int.toNat_natCast, hld]
  refine w_call (ih xs[j] (List.getElem_mem hlt) st' es (hl.args.2 _ (List.getElem_mem hlt)) (by omega) hE1) (by simp (disch := omega) only [go_sem, ↓reduceIte, Nat.reduceEqDiff, q1, q2, q3, hlen, e1, e3, e4, l1, c1, hi, idxA, Int.toNat_natCast]) ?hl ?_
  case hl => first | rfl | (simp only [go_sem, List.all_cons, List.all_nil, Bool.not_false, Bool.and_self, q1, q2, q3, hlen, e1, e3, e4, l1, c1, hi, idxA, Int.toNat_natCast]; done)
  rintro r_ st' ⟨rfl, rfl⟩; refine ⟨fun e => (by cases e), ?_⟩
  simp (disch := omega) only [go_sem, ↓reduceIte, Nat.reduceEqDiff, q1, q2, q3, hlen, e1, e3, e4, l1, c1, hi, idxA, Int.toNat_natCast]
  refine w_call (l1Max_ok ((T.depthL (xs.take j) : Nat) : Int) ((xs[j].depth : Nat) : Int) st') (by simp (disch := omega) only [go_sem, ↓reduceIte, Nat.reduceEqDiff, q1, q2, q3, hlen, e1, e3, e4, l1, c1, hi, idxA, Int.toNat_natCast]) ?hl ?_
  case hl => first | rfl | (simp only [go_sem, List.all_cons, List.all_nil, Bool.not_false, Bool.and_self, q1, q2, q3, hlen, e1, e3, e4, l1, c1, hi, idxA, Int.toNat_natCast]; done)
  rintro r_ st' ⟨rfl, rfl⟩; refine ⟨fun e => (by cases e), ?_⟩
  have hadd : max ((T.depthL (xs.take j) : Nat) : Int) ((xs[j].depth : Nat) : Int) = ((T.depthL (xs.take (j + 1)) : Nat) : Int) := by rw [htake]; omega
  simp (disch := omega) only [go_sem, ↓reduceIte, Nat.reduceEqDiff, hG, q1, q2, q3, hlen, e1, e3, e4, l1, c1, hi, idxA, Int.toNat_natCast, hadd]; refine hK _ _ ?_; clear hK K hG G; repeat (with_reducible first | refine thenI ?_ | refine thenE ?_ | refine thenR ?_ | refine inBI ?_ | refine inBR ?_ | refine inBS ?_ | refine inBN (by decide) ?_)
  repeat (first | with_reducible (first | refine thenI ?_ | refine thenE ?_ | refine thenR ?_ | refine inBI ?_ | refine inBR ?_ | refine inBS ?_ | refine inBN (by decide) ?_) | refine W_seqS ?_ | refine W_seqC ?_ | refine W_seqB ?_ | refine W_block ?_ | refine W_skip ?_ | (apply W_condB; (case hc => (simp (disch := omega) only [go_sem, ↓reduceIte, Nat.reduceEqDiff, q1, q2, q3, hlen, e1, e3, e4, l1, c1, hi, idxA, Int.toNat_natCast]); rfl); first | refine qzT ?_ | refine qzF ?_) | ((first | refine W_reg rfl fun G K hG hK => ?_ | refine W_end rfl fun G K hG hK => ?_); simp (disch := omega) only [go_sem, ↓reduceIte, Nat.reduceEqDiff, hG, q1, q2, q3, hlen, e1, e3, e4, l1, c1, hi, idxA, Int.toNat_natCast]; refine hK _ _ ?_; clear hK K hG G))
  refine ⟨xs.length - (j + 1), by omega, j + 1, rfl, by omega, rfl, (by refine ⟨?_, ?_, ?_, ?_⟩ <;> ((simp (disch := omega) only [go_sem, ↓reduceIte, Nat.reduceEqDiff, q1, q2, q3, hlen, e1, e3, e4, l1, c1, hi, idxA, Int.toNat_natCast]); try rfl))⟩
 ·have c1 : decide ((j : Int) < (xs.length : Int)) = false := by simpa using hlt
  have hjn : j = xs.length := by omega
  subst hjn
  repeat (first | with_reducible (first | refine thenI ?_ | refine thenE ?_ | refine thenR ?_ | refine inBI ?_ | refine inBR ?_ | refine inBS ?_ | refine inBN (by decide) ?_) | refine W_seqS ?_ | refine W_seqC ?_ | refine W_seqB ?_ | refine W_block ?_ | refine W_skip ?_ | (apply W_condB; (case hc => (simp (disch := omega) only [go_sem, ↓reduceIte, Nat.reduceEqDiff, q1, q2, q3, hlen, e1, e3, e4, l1, c1]); rfl); first | refine qzT ?_ | refine qzF ?_) | ((first | refine W_reg rfl fun G K hG hK => ?_ | refine W_end rfl fun G K hG hK => ?_); simp (disch := omega) only [go_sem, ↓reduceIte, Nat.reduceEqDiff, hG, q1, q2, q3, hlen, e1, e3, e4, l1, c1]; refine hK _ _ ?_; clear hK K hG G))
  refine W_exit ?_; repeat (with_reducible first | refine thenI ?_ | refine thenE ?_ | refine thenR ?_ | refine inBI ?_ | refine inBR ?_ | refine inBS ?_ | refine inBN (by decide) ?_)
  have hadd : ((T.depthL (xs.take xs.length) : Nat) : Int) + 1 = ((1 + T.depthL xs : Nat) : Int) := by rw [List.take_length]; omega
  repeat (first | with_reducible (first | refine thenI ?_ | refine thenE ?_ | refine thenR ?_ | refine inBI ?_ | refine inBR ?_ | refine inBS ?_ | refine inBN (by decide) ?_) | refine W_seqS ?_ | refine W_seqC ?_ | refine W_seqB ?_ | refine W_block ?_ | refine W_skip ?_ | (apply W_condB; (case hc => (simp (disch := omega) only [go_sem, ↓reduceIte, Nat.reduceEqDiff, q1, q2, q3, hlen, e1, e3, e4, l1, c1, hadd]); rfl); first | refine qzT ?_ | refine qzF ?_) | ((first | refine W_reg rfl fun G K hG hK => ?_ | refine W_end rfl fun G K hG hK => ?_); simp (disch := omega) only [go_sem, ↓reduceIte, Nat.reduceEqDiff, hG, q1, q2, q3, hlen, e1, e3, e4, l1, c1, hadd]; refine hK _ _ ?_; clear hK K hG G))
  refine W_ret ?_; try (repeat (with_reducible first | refine thenI ?_ | refine thenE ?_ | refine thenR ?_ | refine inBI ?_ | refine inBR ?_ | refine inBS ?_ | refine inBN (by decide) ?_))
  refine fin1 (.inl rfl) (by (simp (disch := omega) only [go_sem, ↓reduceIte, Nat.reduceEqDiff, q1, q2, q3, hlen, e1, e3, e4, l1, c1]); try rfl) rfl ⟨by rw [hcm], rfl⟩

end

section
/- Valid terms: impl.areNodes, IsValidTerm; spec.l3Left, l3Node, l3All, IsValidTerm. -/
open Go Go.Proofs
set_option linter.unusedVariables false
set_option linter.unusedSimpArgs false
set_option maxRecDepth 100000
-- AUTO

def leftV (left : Int) (c : Nat) : Int := if (c : Int) ≤ left then left - c else -1
theorem l3Left_ok : ∀ (t : T) (left : Int) (st : St) (cs : List Value), 0 ≤ left → left ≤ 4611686018427387904 → Lim 1073741824 t → Enc st t cs →
  CallS Try.prog 34 [.agg cs.toArray, .int .i64 left] st fun r st' => r = .int .i64 (leftV left t.count) ∧ st' = st := by
 refine T.ind fun k n nm xs ih left st cs h0 hbig hl hE => ?_
 obtain ⟨s, rfl, hr⟩ := hE.open
 have hxl := hl.args.1
 have hcm : (T.mk k n nm xs).count = 1 + T.countL xs := by simp only [T.count]
 refine CallS_of_W [] 27 Try.func34 rfl rfl rfl rfl (by simp) ?_
 have q1 := hr.notLoc.1
 have q2 := hr.notLoc.2
 have q3 := Row.cells1 hr
 have hlen : lenE Try.prog 28 s = some (.int .i64 xs.length) := row_len hr Try.underlying28
 repeat (first | with_reducible (first | refine thenI ?_ | refine thenE ?_ | refine thenR ?_ | refine inBI ?_ | refine inBR ?_ | refine inBS ?_ | refine inBN (by decide) ?_) | refine W_seqS ?_ | refine W_seqC ?_ | refine W_seqB ?_ | refine W_block ?_ | refine W_skip ?_ | (apply W_condB; (case hc => (simp (disch := omega) only [go_sem, ↓reduceIte, Nat.reduceEqDiff, q1, q2, q3, hlen]); rfl); first | refine qzT ?_ | refine qzF ?_) | ((first | refine W_reg rfl fun G K hG hK => ?_ | refine W_end rfl fun G K hG hK => ?_); simp (disch := omega) only [go_sem, ↓reduceIte, Nat.reduceEqDiff, hG, q1, q2, q3, hlen]; refine hK _ _ ?_; clear hK K hG G))
 refine W_loop (fun d fr st' => ∃ (j : Nat) (v : Int), d = xs.length - j ∧ j ≤ xs.length ∧ (st' = st) ∧ (v = leftV left (1 + T.countL (xs.take j))) ∧ (fr.env 1 = .int .i64 v) ∧ (fr.env 2 = .pointer (some ⟨2, 0, some 1⟩)) ∧ (fr.env 5 = .int .i64 j) ∧ (fr.loc 2 = (1, [.int .i64 k, .int .i64 n, .string nm, s]))) (xs.length) ?_ ?_
 ·exact ⟨0, left - 1, by omega, by omega, rfl, by simp only [List.take_zero, T.countL, leftV]; split <;> omega, (by refine ⟨?_, ?_, ?_, ?_⟩ <;> ((simp (disch := omega) only [go_sem, ↓reduceIte, Nat.reduceEqDiff, q1, q2, q3, hlen]); try rfl))⟩
 rintro d ⟨env, loc⟩ st' ⟨j, v, hd, hj, hst, hv, e1, e2, e5, l2⟩
 simp only at e1 e2 e5 l2
 subst hst
 have hle := count_le (xs := xs) j
 have hvb : -1 ≤ v ∧ v ≤ left := by rw [hv]; unfold leftV; split <;> omega
 by_cases hlt : j < xs.length
 ·have c1 : decide ((j : Int) < (xs.length : Int)) = true := by simpa using hlt
  have hi := idxOk hlt
  have hx : xs[j]? = some xs[j] := List.getElem?_eq_getElem hlt
  have htk : xs.take (j + 1) = xs.take j ++ [xs[j]] := List.take_succ_eq_append_getElem hlt
  by_cases hv0 : v ≥ 0
  ·have c2 : decide (v ≥ 0) = true := by simpa using hv0
   obtain ⟨i, o, c, es, rfl, hcl, hE1, hcs⟩ := row_at hr hx
   have hld := fun loc => load_row (A := []) (loc := loc) ag30 sz30 hcl hcs
   have htake := count_take hlt
   have hv1 : v = left - (1 + T.countL (xs.take j) : Nat) ∧ ((1 + T.countL (xs.take j) : Nat) : Int) ≤ left := by
    rw [hv] at hv0 ⊢
    unfold leftV at hv0 ⊢
    split
    ·rename_i h; exact ⟨rfl, h⟩
    ·rename_i h; rw [if_neg h] at hv0; omega
   repeat (first | with_reducible (first | refine thenI ?_ | refine thenE ?_ | refine thenR ?_ | refine inBI ?_ | refine inBR ?_ | refine inBS ?_ | refine inBN (by decide) ?_) | refine W_seqS ?_ | refine W_seqC ?_ | refine W_seqB ?_ | refine W_block ?_ | refine W_skip ?_ | (apply W_condB; (case hc => (simp (disch := omega) only [go_sem, ↓reduceIte, Nat.reduceEqDiff, q1, q2, q3, hlen, e1, e2, e5, l2, c1, hi, idxA, Int.toNat_natCast, c2]); rfl); first | refine qzT ?_ | refine qzF ?_) | ((first | refine W_reg rfl fun G K hG hK => ?_ | refine W_end rfl fun G K hG hK => ?_); simp (disch := omega) only [go_sem, ↓reduceIte, Nat.reduceEqDiff, hG, q1, q2, q3, hlen, e1, e2, e5, l2, c1, hi, idxA, Int.toNat_natCast, c2]; refine hK _ _ ?_; clear hK K hG G))
   refine W_end rfl fun G K hG hK => ?_; simp (disch := omega) only [go_sem, ↓reduceIte, Nat.reduceEqDiff, hG, q1, q2, q3, hlen, e1, e2, e5, l2, c1, hi, idxA, Int.toNat_natCast, hld]
   refine w_call (ih xs[j] (List.getElem_mem hlt) v st' es hv0 (by omega) (hl.args.2 _ (List.getElem_mem hlt)) hE1) (by simp (disch := omega) only [go_sem, ↓reduceIte, Nat.reduceEqDiff, q1, q2, q3, hlen, e1, e2, e5, l2, c1, hi, idxA, Int.toNat_natCast]) ?hl ?_
   case hl => first | rfl | (simp only [go_sem, List.all_cons, List.all_nil, Bool.not_false, Bool.and_self, q1, q2, q3, hlen, e1, e2, e5, l2, c1, hi, idxA, Int.toNat_natCast]; done)
   rintro r_ st' ⟨rfl, rfl⟩; refine ⟨fun e => (by cases e), ?_⟩
   simp (disch := omega) only [go_sem, ↓reduceIte, Nat.reduceEqDiff, hG, q1, q2, q3, hlen, e1, e2, e5, l2, c1, hi, idxA, Int.toNat_natCast]; refine hK _ _ ?_; clear hK K hG G; repeat (with_reducible first | refine thenI ?_ | refine thenE ?_ | refine thenR ?_ | refine inBI ?_ | refine inBR ?_ | refine inBS ?_ | refine inBN (by decide) ?_)
   repeat (first | with_reducible (first | refine thenI ?_ | refine thenE ?_ | refine thenR ?_ | refine inBI ?_ | refine inBR ?_ | refine inBS ?_ | refine inBN (by decide) ?_) | refine W_seqS ?_ | refine W_seqC ?_ | refine W_seqB ?_ | refine W_block ?_ | refine W_skip ?_ | (apply W_condB; (case hc => (simp (disch := omega) only [go_sem, ↓reduceIte, Nat.reduceEqDiff, q1, q2, q3, hlen, e1, e2, e5, l2, c1, hi, idxA, Int.toNat_natCast]); rfl); first | refine qzT ?_ | refine qzF ?_) | ((first | refine W_reg rfl fun G K hG hK => ?_ | refine W_end rfl fun G K hG hK => ?_); simp (disch := omega) only [go_sem, ↓reduceIte, Nat.reduceEqDiff, hG, q1, q2, q3, hlen, e1, e2, e5, l2, c1, hi, idxA, Int.toNat_natCast]; refine hK _ _ ?_; clear hK K hG G))
   refine ⟨xs.length - (j + 1), by omega, j + 1, leftV v xs[j].count, rfl, by omega, rfl, by unfold leftV; rw [htake, hv1.1]; split <;> split <;> omega, (by refine ⟨?_, ?_, ?_, ?_⟩ <;> ((simp (disch := omega) only [go_sem, ↓reduceIte, Nat.reduceEqDiff, q1, q2, q3, hlen, e1, e2, e5, l2, c1, hi, idxA, Int.toNat_natCast]); try rfl))⟩
  ·have c2 : decide (v ≥ 0) = false := by simpa using hv0
   repeat (first | with_reducible (first | refine thenI ?_ | refine thenE ?_ | refine thenR ?_ | refine inBI ?_ | refine inBR ?_ | refine inBS ?_ | refine inBN (by decide) ?_) | refine W_seqS ?_ | refine W_seqC ?_ | refine W_seqB ?_ | refine W_block ?_ | refine W_skip ?_ | (apply W_condB; (case hc => (simp (disch := omega) only [go_sem, ↓reduceIte, Nat.reduceEqDiff, q1, q2, q3, hlen, e1, e2, e5, l2, c1, hi, idxA, Int.toNat_natCast, c2]); rfl); first | refine qzT ?_ | refine qzF ?_) | ((first | refine W_reg rfl fun G K hG hK => ?_ | refine W_end rfl fun G K hG hK => ?_); simp (disch := omega) only [go_sem, ↓reduceIte, Nat.reduceEqDiff, hG, q1, q2, q3, hlen, e1, e2, e5, l2, c1, hi, idxA, Int.toNat_natCast, c2]; refine hK _ _ ?_; clear hK K hG G))
   refine W_exit ?_; repeat (with_reducible first | refine thenI ?_ | refine thenE ?_ | refine thenR ?_ | refine inBI ?_ | refine inBR ?_ | refine inBS ?_ | refine inBN (by decide) ?_)
   repeat (first | with_reducible (first | refine thenI ?_ | refine thenE ?_ | refine thenR ?_ | refine inBI ?_ | refine inBR ?_ | refine inBS ?_ | refine inBN (by decide) ?_) | refine W_seqS ?_ | refine W_seqC ?_ | refine W_seqB ?_ | refine W_block ?_ | refine W_skip ?_ | (apply W_condB; (case hc => (simp (disch := omega) only [go_sem, ↓reduceIte, Nat.reduceEqDiff, q1, q2, q3, hlen, e1, e2, e5, l2, c1, hi, idxA, Int.toNat_natCast]); rfl); first | refine qzT ?_ | refine qzF ?_) | ((first | refine W_reg rfl fun G K hG hK => ?_ | refine W_end rfl fun G K hG hK => ?_); simp (disch := omega) only [go_sem, ↓reduceIte, Nat.reduceEqDiff, hG, q1, q2, q3, hlen, e1, e2, e5, l2, c1, hi, idxA, Int.toNat_natCast]; refine hK _ _ ?_; clear hK K hG G))
   refine W_ret ?_; try (repeat (with_reducible first | refine thenI ?_ | refine thenE ?_ | refine thenR ?_ | refine inBI ?_ | refine inBR ?_ | refine inBS ?_ | refine inBN (by decide) ?_))
   refine fin1 (.inl rfl) (by (simp (disch := omega) only [go_sem, ↓reduceIte, Nat.reduceEqDiff, q1, q2, q3, hlen, e1, e2, e5, l2, c1, hi, idxA, Int.toNat_natCast]); try rfl) rfl ⟨?_, rfl⟩
   rw [hcm]
   have : v = -1 := by omega
   rw [this] at hv ⊢
   congr 1
   unfold leftV at hv ⊢
   split at hv
   ·omega
   ·rw [if_neg (by omega)]
 ·have c1 : decide ((j : Int) < (xs.length : Int)) = false := by simpa using hlt
  have hjn : j = xs.length := by omega
  subst hjn
  repeat (first | with_reducible (first | refine thenI ?_ | refine thenE ?_ | refine thenR ?_ | refine inBI ?_ | refine inBR ?_ | refine inBS ?_ | refine inBN (by decide) ?_) | refine W_seqS ?_ | refine W_seqC ?_ | refine W_seqB ?_ | refine W_block ?_ | refine W_skip ?_ | (apply W_condB; (case hc => (simp (disch := omega) only [go_sem, ↓reduceIte, Nat.reduceEqDiff, q1, q2, q3, hlen, e1, e2, e5, l2, c1]); rfl); first | refine qzT ?_ | refine qzF ?_) | ((first | refine W_reg rfl fun G K hG hK => ?_ | refine W_end rfl fun G K hG hK => ?_); simp (disch := omega) only [go_sem, ↓reduceIte, Nat.reduceEqDiff, hG, q1, q2, q3, hlen, e1, e2, e5, l2, c1]; refine hK _ _ ?_; clear hK K hG G))
  refine W_exit ?_; repeat (with_reducible first | refine thenI ?_ | refine thenE ?_ | refine thenR ?_ | refine inBI ?_ | refine inBR ?_ | refine inBS ?_ | refine inBN (by decide) ?_)
  repeat (first | with_reducible (first | refine thenI ?_ | refine thenE ?_ | refine thenR ?_ | refine inBI ?_ | refine inBR ?_ | refine inBS ?_ | refine inBN (by decide) ?_) | refine W_seqS ?_ | refine W_seqC ?_ | refine W_seqB ?_ | refine W_block ?_ | refine W_skip ?_ | (apply W_condB; (case hc => (simp (disch := omega) only [go_sem, ↓reduceIte, Nat.reduceEqDiff, q1, q2, q3, hlen, e1, e2, e5, l2, c1]); rfl); first | refine qzT ?_ | refine qzF ?_) | ((first | refine W_reg rfl fun G K hG hK => ?_ | refine W_end rfl fun G K hG hK => ?_); simp (disch := omega) only [go_sem, ↓reduceIte, Nat.reduceEqDiff, hG, q1, q2, q3, hlen, e1, e2, e5, l2, c1]; refine hK _ _ ?_; clear hK K hG G))
  refine W_ret ?_; try (repeat (with_reducible first | refine thenI ?_ | refine thenE ?_ | refine thenR ?_ | refine inBI ?_ | refine inBR ?_ | refine inBS ?_ | refine inBN (by decide) ?_))
  refine fin1 (.inl rfl) (by (simp (disch := omega) only [go_sem, ↓reduceIte, Nat.reduceEqDiff, q1, q2, q3, hlen, e1, e2, e5, l2, c1]); try rfl) rfl ⟨by rw [hcm, hv, List.take_length], rfl⟩
theorem l3Node_of (k n : Int) (nm : ByteArray) (args : List T) (st : St) (s : Value) (hbig : nm.size ≤ 9223372036854775807) (hr : RowT st args s) : CallS Try.prog 54 [.agg #[.int .i64 k, .int .i64 n, .string nm, s]] st fun r st' => r = .bool (nodeOk k n nm args) ∧ st' = st := by
 refine CallS_of_W [] 47 Try.func54 rfl rfl rfl rfl (by simp) ?_
 have q1 := hr.notLoc.1
 have q2 := hr.notLoc.2
 have q3 := Row.cells1 hr
 have hlen : lenE Try.prog 28 s = some (.int .i64 args.length) := row_len hr Try.underlying28
 by_cases h1 : k = 1
 ·have c1 : (k == 1) = true := by simpa using h1
  repeat (first | with_reducible (first | refine thenI ?_ | refine thenE ?_ | refine thenR ?_ | refine inBI ?_ | refine inBR ?_ | refine inBS ?_ | refine inBN (by decide) ?_) | refine W_seqS ?_ | refine W_seqC ?_ | refine W_seqB ?_ | refine W_block ?_ | refine W_skip ?_ | (apply W_condB; (case hc => (simp (disch := omega) only [go_sem, ↓reduceIte, Nat.reduceEqDiff, q1, q2, q3, hlen, c1]); rfl); first | refine qzT ?_ | refine qzF ?_) | ((first | refine W_reg rfl fun G K hG hK => ?_ | refine W_end rfl fun G K hG hK => ?_); simp (disch := omega) only [go_sem, ↓reduceIte, Nat.reduceEqDiff, hG, q1, q2, q3, hlen, c1]; refine hK _ _ ?_; clear hK K hG G))
  (repeat (first | refine W_seqS ?_ | refine W_seqC ?_ | refine W_seqB ?_ | refine W_block ?_)); refine W_reg rfl fun G K hG hK => ?_; simp (disch := omega) only [go_sem, ↓reduceIte, Nat.reduceEqDiff, hG, q1, q2, q3, hlen]
  refine w_call (specIsVar_ok nm hbig st) (by simp (disch := omega) only [go_sem, ↓reduceIte, Nat.reduceEqDiff, q1, q2, q3, hlen]) ?hl ?_
  case hl => first | rfl | (simp only [go_sem, List.all_cons, List.all_nil, Bool.not_false, Bool.and_self, q1, q2, q3, hlen]; done)
  rintro r_ st ⟨rfl, rfl⟩; refine ⟨fun e => (by cases e), ?_⟩
  cases g1 : isVar nm with
  | false =>
   simp (disch := omega) only [go_sem, ↓reduceIte, Nat.reduceEqDiff, hG, q1, q2, q3, hlen, g1]; refine hK _ _ ?_; clear hK K hG G; repeat (with_reducible first | refine thenI ?_ | refine thenE ?_ | refine thenR ?_ | refine inBI ?_ | refine inBR ?_ | refine inBS ?_ | refine inBN (by decide) ?_)
   refine W_ret ?_; try (repeat (with_reducible first | refine thenI ?_ | refine thenE ?_ | refine thenR ?_ | refine inBI ?_ | refine inBR ?_ | refine inBS ?_ | refine inBN (by decide) ?_))
   refine fin1 (.inl rfl) (by (simp (disch := omega) only [go_sem, ↓reduceIte, Nat.reduceEqDiff, q1, q2, q3, hlen]); try rfl) rfl ⟨by unfold nodeOk; rw [if_pos h1, g1]; rfl, rfl⟩
  | true =>
   cases g2 : (n == 0) with
   | false =>
    simp (disch := omega) only [go_sem, ↓reduceIte, Nat.reduceEqDiff, hG, q1, q2, q3, hlen, g1, g2]; refine hK _ _ ?_; clear hK K hG G; repeat (with_reducible first | refine thenI ?_ | refine thenE ?_ | refine thenR ?_ | refine inBI ?_ | refine inBR ?_ | refine inBS ?_ | refine inBN (by decide) ?_)
    refine W_ret ?_; try (repeat (with_reducible first | refine thenI ?_ | refine thenE ?_ | refine thenR ?_ | refine inBI ?_ | refine inBR ?_ | refine inBS ?_ | refine inBN (by decide) ?_))
    refine fin1 (.inl rfl) (by (simp (disch := omega) only [go_sem, ↓reduceIte, Nat.reduceEqDiff, q1, q2, q3, hlen]); try rfl) rfl ⟨by unfold nodeOk; rw [if_pos h1, g1, g2]; rfl, rfl⟩
   | true =>
    simp (disch := omega) only [go_sem, ↓reduceIte, Nat.reduceEqDiff, hG, q1, q2, q3, hlen, g1, g2]; refine hK _ _ ?_; clear hK K hG G; repeat (with_reducible first | refine thenI ?_ | refine thenE ?_ | refine thenR ?_ | refine inBI ?_ | refine inBR ?_ | refine inBS ?_ | refine inBN (by decide) ?_)
    refine W_ret ?_; try (repeat (with_reducible first | refine thenI ?_ | refine thenE ?_ | refine thenR ?_ | refine inBI ?_ | refine inBR ?_ | refine inBS ?_ | refine inBN (by decide) ?_))
    refine fin1 (.inl rfl) (by (simp (disch := omega) only [go_sem, ↓reduceIte, Nat.reduceEqDiff, q1, q2, q3, hlen]); try rfl) rfl ⟨by unfold nodeOk; rw [if_pos h1, g1, g2]; rfl, rfl⟩
 have c1 : (k == 1) = false := by simpa using h1
 by_cases h2 : k = 2
 ·have c2 : (k == 2) = true := by simpa using h2
  repeat (first | with_reducible (first | refine thenI ?_ | refine thenE ?_ | refine thenR ?_ | refine inBI ?_ | refine inBR ?_ | refine inBS ?_ | refine inBN (by decide) ?_) | refine W_seqS ?_ | refine W_seqC ?_ | refine W_seqB ?_ | refine W_block ?_ | refine W_skip ?_ | (apply W_condB; (case hc => (simp (disch := omega) only [go_sem, ↓reduceIte, Nat.reduceEqDiff, q1, q2, q3, hlen, c1, c2]); rfl); first | refine qzT ?_ | refine qzF ?_) | ((first | refine W_reg rfl fun G K hG hK => ?_ | refine W_end rfl fun G K hG hK => ?_); simp (disch := omega) only [go_sem, ↓reduceIte, Nat.reduceEqDiff, hG, q1, q2, q3, hlen, c1, c2]; refine hK _ _ ?_; clear hK K hG G))
  (repeat (first | refine W_seqS ?_ | refine W_seqC ?_ | refine W_seqB ?_ | refine W_block ?_)); refine W_reg rfl fun G K hG hK => ?_; simp (disch := omega) only [go_sem, ↓reduceIte, Nat.reduceEqDiff, hG, q1, q2, q3, hlen]
  refine w_call (specIsName_ok nm hbig st) (by simp (disch := omega) only [go_sem, ↓reduceIte, Nat.reduceEqDiff, q1, q2, q3, hlen]) ?hl ?_
  case hl => first | rfl | (simp only [go_sem, List.all_cons, List.all_nil, Bool.not_false, Bool.and_self, q1, q2, q3, hlen]; done)
  rintro r_ st ⟨rfl, rfl⟩; refine ⟨fun e => (by cases e), ?_⟩
  cases g1 : isName nm with
  | false =>
   simp (disch := omega) only [go_sem, ↓reduceIte, Nat.reduceEqDiff, hG, q1, q2, q3, hlen, g1]; refine hK _ _ ?_; clear hK K hG G; repeat (with_reducible first | refine thenI ?_ | refine thenE ?_ | refine thenR ?_ | refine inBI ?_ | refine inBR ?_ | refine inBS ?_ | refine inBN (by decide) ?_)
   refine W_ret ?_; try (repeat (with_reducible first | refine thenI ?_ | refine thenE ?_ | refine thenR ?_ | refine inBI ?_ | refine inBR ?_ | refine inBS ?_ | refine inBN (by decide) ?_))
   refine fin1 (.inl rfl) (by (simp (disch := omega) only [go_sem, ↓reduceIte, Nat.reduceEqDiff, q1, q2, q3, hlen]); try rfl) rfl ⟨by unfold nodeOk; rw [if_neg h1, if_pos h2, g1]; rfl, rfl⟩
  | true =>
   simp (disch := omega) only [go_sem, ↓reduceIte, Nat.reduceEqDiff, hG, q1, q2, q3, hlen, g1]; refine hK _ _ ?_; clear hK K hG G; repeat (with_reducible first | refine thenI ?_ | refine thenE ?_ | refine thenR ?_ | refine inBI ?_ | refine inBR ?_ | refine inBS ?_ | refine inBN (by decide) ?_)
   refine W_ret ?_; try (repeat (with_reducible first | refine thenI ?_ | refine thenE ?_ | refine thenR ?_ | refine inBI ?_ | refine inBR ?_ | refine inBS ?_ | refine inBN (by decide) ?_))
   refine fin1 (.inl rfl) (by (simp (disch := omega) only [go_sem, ↓reduceIte, Nat.reduceEqDiff, q1, q2, q3, hlen]); try rfl) rfl ⟨by unfold nodeOk; rw [if_neg h1, if_pos h2, g1]; rfl, rfl⟩
 have c2 : (k == 2) = false := by simpa using h2
 by_cases h3 : k = 3
 ·have c3 : (k == 3) = true := by simpa using h3
  cases g1 : (nm.toList == (⟨#[]⟩ : ByteArray).toList) with
  | false =>
   repeat (first | with_reducible (first | refine thenI ?_ | refine thenE ?_ | refine thenR ?_ | refine inBI ?_ | refine inBR ?_ | refine inBS ?_ | refine inBN (by decide) ?_) | refine W_seqS ?_ | refine W_seqC ?_ | refine W_seqB ?_ | refine W_block ?_ | refine W_skip ?_ | (apply W_condB; (case hc => (simp (disch := omega) only [go_sem, ↓reduceIte, Nat.reduceEqDiff, q1, q2, q3, hlen, c1, c2, c3, g1]); rfl); first | refine qzT ?_ | refine qzF ?_) | ((first | refine W_reg rfl fun G K hG hK => ?_ | refine W_end rfl fun G K hG hK => ?_); simp (disch := omega) only [go_sem, ↓reduceIte, Nat.reduceEqDiff, hG, q1, q2, q3, hlen, c1, c2, c3, g1]; refine hK _ _ ?_; clear hK K hG G))
   refine W_ret ?_; try (repeat (with_reducible first | refine thenI ?_ | refine thenE ?_ | refine thenR ?_ | refine inBI ?_ | refine inBR ?_ | refine inBS ?_ | refine inBN (by decide) ?_))
   refine fin1 (.inl rfl) (by (simp (disch := omega) only [go_sem, ↓reduceIte, Nat.reduceEqDiff, q1, q2, q3, hlen]); try rfl) rfl ⟨by unfold nodeOk; rw [if_neg h1, if_neg h2, if_pos h3, g1]; rfl, rfl⟩
  | true =>
   repeat (first | with_reducible (first | refine thenI ?_ | refine thenE ?_ | refine thenR ?_ | refine inBI ?_ | refine inBR ?_ | refine inBS ?_ | refine inBN (by decide) ?_) | refine W_seqS ?_ | refine W_seqC ?_ | refine W_seqB ?_ | refine W_block ?_ | refine W_skip ?_ | (apply W_condB; (case hc => (simp (disch := omega) only [go_sem, ↓reduceIte, Nat.reduceEqDiff, q1, q2, q3, hlen, c1, c2, c3]); rfl); first | refine qzT ?_ | refine qzF ?_) | ((first | refine W_reg rfl fun G K hG hK => ?_ | refine W_end rfl fun G K hG hK => ?_); simp (disch := omega) only [go_sem, ↓reduceIte, Nat.reduceEqDiff, hG, q1, q2, q3, hlen, c1, c2, c3]; refine hK _ _ ?_; clear hK K hG G))
   (repeat (first | refine W_seqS ?_ | refine W_seqC ?_ | refine W_seqB ?_ | refine W_block ?_)); refine W_reg rfl fun G K hG hK => ?_; simp (disch := omega) only [go_sem, ↓reduceIte, Nat.reduceEqDiff, hG, q1, q2, q3, hlen, g1]
   refine w_call (l1In_ok n 0 3 st) (by simp (disch := omega) only [go_sem, ↓reduceIte, Nat.reduceEqDiff, q1, q2, q3, hlen]) ?hl ?_
   case hl => first | rfl | (simp only [go_sem, List.all_cons, List.all_nil, Bool.not_false, Bool.and_self, q1, q2, q3, hlen]; done)
   rintro r_ st ⟨rfl, rfl⟩; refine ⟨fun e => (by cases e), ?_⟩
   cases g2 : (decide (n ≥ 0) && decide (n ≤ 3)) with
   | false =>
    simp (disch := omega) only [go_sem, ↓reduceIte, Nat.reduceEqDiff, hG, q1, q2, q3, hlen, g1, g2]; refine hK _ _ ?_; clear hK K hG G; repeat (with_reducible first | refine thenI ?_ | refine thenE ?_ | refine thenR ?_ | refine inBI ?_ | refine inBR ?_ | refine inBS ?_ | refine inBN (by decide) ?_)
    refine W_ret ?_; try (repeat (with_reducible first | refine thenI ?_ | refine thenE ?_ | refine thenR ?_ | refine inBI ?_ | refine inBR ?_ | refine inBS ?_ | refine inBN (by decide) ?_))
    refine fin1 (.inl rfl) (by (simp (disch := omega) only [go_sem, ↓reduceIte, Nat.reduceEqDiff, q1, q2, q3, hlen]); try rfl) rfl ⟨by unfold nodeOk; rw [if_neg h1, if_neg h2, if_pos h3, g1, g2]; rfl, rfl⟩
   | true =>
    simp (disch := omega) only [go_sem, ↓reduceIte, Nat.reduceEqDiff, hG, q1, q2, q3, hlen, g1, g2]; refine hK _ _ ?_; clear hK K hG G; repeat (with_reducible first | refine thenI ?_ | refine thenE ?_ | refine thenR ?_ | refine inBI ?_ | refine inBR ?_ | refine inBS ?_ | refine inBN (by decide) ?_)
    refine W_ret ?_; try (repeat (with_reducible first | refine thenI ?_ | refine thenE ?_ | refine thenR ?_ | refine inBI ?_ | refine inBR ?_ | refine inBS ?_ | refine inBN (by decide) ?_))
    refine fin1 (.inl rfl) (by (simp (disch := omega) only [go_sem, ↓reduceIte, Nat.reduceEqDiff, q1, q2, q3, hlen]); try rfl) rfl ⟨by unfold nodeOk; rw [if_neg h1, if_neg h2, if_pos h3, g1, g2]; rfl, rfl⟩
 ·have c3 : (k == 3) = false := by simpa using h3
  repeat (first | with_reducible (first | refine thenI ?_ | refine thenE ?_ | refine thenR ?_ | refine inBI ?_ | refine inBR ?_ | refine inBS ?_ | refine inBN (by decide) ?_) | refine W_seqS ?_ | refine W_seqC ?_ | refine W_seqB ?_ | refine W_block ?_ | refine W_skip ?_ | (apply W_condB; (case hc => (simp (disch := omega) only [go_sem, ↓reduceIte, Nat.reduceEqDiff, q1, q2, q3, hlen, c1, c2, c3]); rfl); first | refine qzT ?_ | refine qzF ?_) | ((first | refine W_reg rfl fun G K hG hK => ?_ | refine W_end rfl fun G K hG hK => ?_); simp (disch := omega) only [go_sem, ↓reduceIte, Nat.reduceEqDiff, hG, q1, q2, q3, hlen, c1, c2, c3]; refine hK _ _ ?_; clear hK K hG G))
  refine W_ret ?_; try (repeat (with_reducible first | refine thenI ?_ | refine thenE ?_ | refine thenR ?_ | refine inBI ?_ | refine inBR ?_ | refine inBS ?_ | refine inBN (by decide) ?_))
  refine fin1 (.inl rfl) (by (simp (disch := omega) only [go_sem, ↓reduceIte, Nat.reduceEqDiff, q1, q2, q3, hlen]); try rfl) rfl ⟨by unfold nodeOk; rw [if_neg h1, if_neg h2, if_neg h3], rfl⟩
theorem nodesL_bad {xs : List T} {j : Nat} (h : j < xs.length) (hb : xs[j].nodes = false) : T.nodesL xs = false := by
 rw [T.nodesL_all]
 refine Bool.eq_false_iff.2 fun ha => ?_
 have := List.all_eq_true.1 ha _ (List.getElem_mem h)
 rw [hb] at this; cases this
theorem nodesL_take {xs : List T} {j : Nat} (h : j < xs.length) : T.nodesL (xs.take (j + 1)) = (T.nodesL (xs.take j) && xs[j].nodes) := by
 rw [List.take_succ_eq_append_getElem h, T.nodesL_all, T.nodesL_all, List.all_append]; simp
theorem l3All_ok : ∀ (t : T) (st : St) (cs : List Value), Lim 1073741824 t → LimN 1073741824 t → Enc st t cs →
  CallS Try.prog 36 [.agg cs.toArray] st fun r st' => r = .bool t.nodes ∧ st' = st := by
 refine T.ind fun k n nm xs ih st cs hl hn hE => ?_
 obtain ⟨s, rfl, hr⟩ := hE.open
 have hxl := hl.args.1
 have hnm := hn.args.1
 have hcm : (T.mk k n nm xs).nodes = (T.nodesL xs && nodeOk k n nm xs) := by simp only [T.nodes]
 refine CallS_of_W [] 20 Try.func36 rfl rfl rfl rfl (by simp) ?_
 have q1 := hr.notLoc.1
 have q2 := hr.notLoc.2
 have q3 := Row.cells1 hr
 have hlen : lenE Try.prog 28 s = some (.int .i64 xs.length) := row_len hr Try.underlying28
 repeat (first | with_reducible (first | refine thenI ?_ | refine thenE ?_ | refine thenR ?_ | refine inBI ?_ | refine inBR ?_ | refine inBS ?_ | refine inBN (by decide) ?_) | refine W_seqS ?_ | refine W_seqC ?_ | refine W_seqB ?_ | refine W_block ?_ | refine W_skip ?_ | (apply W_condB; (case hc => (simp (disch := omega) only [go_sem, ↓reduceIte, Nat.reduceEqDiff, q1, q2, q3, hlen]); rfl); first | refine qzT ?_ | refine qzF ?_) | ((first | refine W_reg rfl fun G K hG hK => ?_ | refine W_end rfl fun G K hG hK => ?_); simp (disch := omega) only [go_sem, ↓reduceIte, Nat.reduceEqDiff, hG, q1, q2, q3, hlen]; refine hK _ _ ?_; clear hK K hG G))
 refine W_loop (fun d fr st' => ∃ (j : Nat) , d = xs.length - j ∧ j ≤ xs.length ∧ (st' = st) ∧ (T.nodesL (xs.take j) = true) ∧ (fr.env 1 = .pointer (some ⟨1, 0, some 1⟩)) ∧ (fr.env 3 = .int .i64 j) ∧ (fr.loc 1 = (1, [.int .i64 k, .int .i64 n, .string nm, s]))) (xs.length) ?_ ?_
 ·exact ⟨0, by omega, by omega, rfl, rfl, (by refine ⟨?_, ?_, ?_⟩ <;> ((simp (disch := omega) only [go_sem, ↓reduceIte, Nat.reduceEqDiff, q1, q2, q3, hlen]); try rfl))⟩
 rintro d ⟨env, loc⟩ st' ⟨j, hd, hj, hst, hall, e1, e3, l1⟩
 simp only at e1 e3 l1
 subst hst
 by_cases hlt : j < xs.length
 ·have c1 : decide ((j : Int) < (xs.length : Int)) = true := by simpa using hlt
  have hi := idxOk hlt
  have hx : xs[j]? = some xs[j] := List.getElem?_eq_getElem hlt
  have htk : xs.take (j + 1) = xs.take j ++ [xs[j]] := List.take_succ_eq_append_getElem hlt
  obtain ⟨i, o, c, es, rfl, hcl, hE1, hcs⟩ := row_at hr hx
  have hld := fun loc => load_row (A := []) (loc := loc) ag30 sz30 hcl hcs
  repeat (first | with_reducible (first | refine thenI ?_ | refine thenE ?_ | refine thenR ?_ | refine inBI ?_ | refine inBR ?_ | refine inBS ?_ | refine inBN (by decide) ?_) | refine W_seqS ?_ | refine W_seqC ?_ | refine W_seqB ?_ | refine W_block ?_ | refine W_skip ?_ | (apply W_condB; (case hc => (simp (disch := omega) only [go_sem, ↓reduceIte, Nat.reduceEqDiff, q1, q2, q3, hlen, e1, e3, l1, c1, hi, idxA, Int.toNat_natCast]); rfl); first | refine qzT ?_ | refine qzF ?_) | ((first | refine W_reg rfl fun G K hG hK => ?_ | refine W_end rfl fun G K hG hK => ?_); simp (disch := omega) only [go_sem, ↓reduceIte, Nat.reduceEqDiff, hG, q1, q2, q3, hlen, e1, e3, l1, c1, hi, idxA, Int.toNat_natCast]; refine hK _ _ ?_; clear hK K hG G))
  (repeat (first | refine W_seqS ?_ | refine W_seqC ?_ | refine W_seqB ?_ | refine W_block ?_)); refine W_reg rfl fun G K hG hK => ?_; simp (disch := omega) only [go_sem, ↓reduceIte, Nat.reduceEqDiff, hG, q1, q2, q3, hlen, e1, e3, l1, c1, hi, idxA, Int.toNat_natCast, hld]
  refine w_call (ih xs[j] (List.getElem_mem hlt) st' es (hl.args.2 _ (List.getElem_mem hlt)) (hn.args.2 _ (List.getElem_mem hlt)) hE1) (by simp (disch := omega) only [go_sem, ↓reduceIte, Nat.reduceEqDiff, q1, q2, q3, hlen, e1, e3, l1, c1, hi, idxA, Int.toNat_natCast]) ?hl ?_
  case hl => first | rfl | (simp only [go_sem, List.all_cons, List.all_nil, Bool.not_false, Bool.and_self, q1, q2, q3, hlen, e1, e3, l1, c1, hi, idxA, Int.toNat_natCast]; done)
  rintro r_ st' ⟨rfl, rfl⟩; refine ⟨fun e => (by cases e), ?_⟩
  cases hb : xs[j].nodes with
  | false =>
   simp (disch := omega) only [go_sem, ↓reduceIte, Nat.reduceEqDiff, hG, q1, q2, q3, hlen, e1, e3, l1, c1, hi, idxA, Int.toNat_natCast]; refine hK _ _ ?_; clear hK K hG G; repeat (with_reducible first | refine thenI ?_ | refine thenE ?_ | refine thenR ?_ | refine inBI ?_ | refine inBR ?_ | refine inBS ?_ | refine inBN (by decide) ?_)
   repeat (first | with_reducible (first | refine thenI ?_ | refine thenE ?_ | refine thenR ?_ | refine inBI ?_ | refine inBR ?_ | refine inBS ?_ | refine inBN (by decide) ?_) | refine W_seqS ?_ | refine W_seqC ?_ | refine W_seqB ?_ | refine W_block ?_ | refine W_skip ?_ | (apply W_condB; (case hc => (simp (disch := omega) only [go_sem, ↓reduceIte, Nat.reduceEqDiff, q1, q2, q3, hlen, e1, e3, l1, c1, hi, idxA, Int.toNat_natCast]); rfl); first | refine qzT ?_ | refine qzF ?_) | ((first | refine W_reg rfl fun G K hG hK => ?_ | refine W_end rfl fun G K hG hK => ?_); simp (disch := omega) only [go_sem, ↓reduceIte, Nat.reduceEqDiff, hG, q1, q2, q3, hlen, e1, e3, l1, c1, hi, idxA, Int.toNat_natCast]; refine hK _ _ ?_; clear hK K hG G))
   refine W_ret ?_; try (repeat (with_reducible first | refine thenI ?_ | refine thenE ?_ | refine thenR ?_ | refine inBI ?_ | refine inBR ?_ | refine inBS ?_ | refine inBN (by decide) ?_))
   refine fin1 (.inl rfl) (by (simp (disch := omega) only [go_sem, ↓reduceIte, Nat.reduceEqDiff, q1, q2, q3, hlen, e1, e3, l1, c1, hi, idxA, Int.toNat_natCast]); try rfl) rfl ⟨by rw [hcm, nodesL_bad hlt hb]; rfl, rfl⟩
  | true =>
   simp (disch := omega) only [go_sem, ↓reduceIte, Nat.reduceEqDiff, hG, q1, q2, q3, hlen, e1, e3, l1, c1, hi, idxA, Int.toNat_natCast]; refine hK _ _ ?_; clear hK K hG G; repeat (with_reducible first | refine thenI ?_ | refine thenE ?_ | refine thenR ?_ | refine inBI ?_ | refine inBR ?_ | refine inBS ?_ | refine inBN (by decide) ?_)
   repeat (first | with_reducible (first | refine thenI ?_ | refine thenE ?_ | refine thenR ?_ | refine inBI ?_ | refine inBR ?_ | refine inBS ?_ | refine inBN (by decide) ?_) | refine W_seqS ?_ | refine W_seqC ?_ | refine W_seqB ?_ | refine W_block ?_ | refine W_skip ?_ | (apply W_condB; (case hc => (simp (disch := omega) only [go_sem, ↓reduceIte, Nat.reduceEqDiff, q1, q2, q3, hlen, e1, e3, l1, c1, hi, idxA, Int.toNat_natCast]); rfl); first | refine qzT ?_ | refine qzF ?_) | ((first | refine W_reg rfl fun G K hG hK => ?_ | refine W_end rfl fun G K hG hK => ?_); simp (disch := omega) only [go_sem, ↓reduceIte, Nat.reduceEqDiff, hG, q1, q2, q3, hlen, e1, e3, l1, c1, hi, idxA, Int.toNat_natCast]; refine hK _ _ ?_; clear hK K hG G))
   refine ⟨xs.length - (j + 1), by omega, j + 1, rfl, by omega, rfl, by rw [nodesL_take hlt, hall, hb]; rfl, (by refine ⟨?_, ?_, ?_⟩ <;> ((simp (disch := omega) only [go_sem, ↓reduceIte, Nat.reduceEqDiff, q1, q2, q3, hlen, e1, e3, l1, c1, hi, idxA, Int.toNat_natCast]); try rfl))⟩
 ·have c1 : decide ((j : Int) < (xs.length : Int)) = false := by simpa using hlt
  have hjn : j = xs.length := by omega
  subst hjn
  rw [List.take_length] at hall
  repeat (first | with_reducible (first | refine thenI ?_ | refine thenE ?_ | refine thenR ?_ | refine inBI ?_ | refine inBR ?_ | refine inBS ?_ | refine inBN (by decide) ?_) | refine W_seqS ?_ | refine W_seqC ?_ | refine W_seqB ?_ | refine W_block ?_ | refine W_skip ?_ | (apply W_condB; (case hc => (simp (disch := omega) only [go_sem, ↓reduceIte, Nat.reduceEqDiff, q1, q2, q3, hlen, e1, e3, l1, c1]); rfl); first | refine qzT ?_ | refine qzF ?_) | ((first | refine W_reg rfl fun G K hG hK => ?_ | refine W_end rfl fun G K hG hK => ?_); simp (disch := omega) only [go_sem, ↓reduceIte, Nat.reduceEqDiff, hG, q1, q2, q3, hlen, e1, e3, l1, c1]; refine hK _ _ ?_; clear hK K hG G))
  refine W_exit ?_; repeat (with_reducible first | refine thenI ?_ | refine thenE ?_ | refine thenR ?_ | refine inBI ?_ | refine inBR ?_ | refine inBS ?_ | refine inBN (by decide) ?_)
  repeat (first | with_reducible (first | refine thenI ?_ | refine thenE ?_ | refine thenR ?_ | refine inBI ?_ | refine inBR ?_ | refine inBS ?_ | refine inBN (by decide) ?_) | refine W_seqS ?_ | refine W_seqC ?_ | refine W_seqB ?_ | refine W_block ?_ | refine W_skip ?_ | (apply W_condB; (case hc => (simp (disch := omega) only [go_sem, ↓reduceIte, Nat.reduceEqDiff, q1, q2, q3, hlen, e1, e3, l1, c1]); rfl); first | refine qzT ?_ | refine qzF ?_) | ((first | refine W_reg rfl fun G K hG hK => ?_ | refine W_end rfl fun G K hG hK => ?_); simp (disch := omega) only [go_sem, ↓reduceIte, Nat.reduceEqDiff, hG, q1, q2, q3, hlen, e1, e3, l1, c1]; refine hK _ _ ?_; clear hK K hG G))
  (repeat (first | refine W_seqS ?_ | refine W_seqC ?_ | refine W_seqB ?_ | refine W_block ?_)); refine W_reg rfl fun G K hG hK => ?_; simp (disch := omega) only [go_sem, ↓reduceIte, Nat.reduceEqDiff, hG, q1, q2, q3, hlen, e1, e3, l1, c1]
  refine w_call (l3Node_of k n nm xs st' s (by omega) hr) (by simp (disch := omega) only [go_sem, ↓reduceIte, Nat.reduceEqDiff, q1, q2, q3, hlen, e1, e3, l1, c1]) ?hl ?_
  case hl => first | rfl | (simp only [go_sem, List.all_cons, List.all_nil, Bool.not_false, Bool.and_self, q1, q2, q3, hlen, e1, e3, l1, c1]; done)
  rintro r_ st' ⟨rfl, rfl⟩; refine ⟨fun e => (by cases e), ?_⟩
  simp (disch := omega) only [go_sem, ↓reduceIte, Nat.reduceEqDiff, hG, q1, q2, q3, hlen, e1, e3, l1, c1]; refine hK _ _ ?_; clear hK K hG G; repeat (with_reducible first | refine thenI ?_ | refine thenE ?_ | refine thenR ?_ | refine inBI ?_ | refine inBR ?_ | refine inBS ?_ | refine inBN (by decide) ?_)
  refine W_ret ?_; try (repeat (with_reducible first | refine thenI ?_ | refine thenE ?_ | refine thenR ?_ | refine inBI ?_ | refine inBR ?_ | refine inBS ?_ | refine inBN (by decide) ?_))
  refine fin1 (.inl rfl) (by (simp (disch := omega) only [go_sem, ↓reduceIte, Nat.reduceEqDiff, q1, q2, q3, hlen, e1, e3, l1, c1]); try rfl) rfl ⟨by rw [hcm, hall]; rfl, rfl⟩
theorem specValid_ok (t : T) (st : St) (cs : List Value) (hl : Lim 1073741824 t) (hn : LimN 1073741824 t) (hd : t.depth ≤ 4611686018427387904) (hE : Enc st t cs) :
  CallS Try.prog 13 [.agg cs.toArray] st fun r st' => r = .bool t.valid ∧ st' = st := by
 refine CallS_of_W [] 15 Try.func13 rfl rfl rfl rfl (by simp) ?_
 obtain ⟨k1, n1, m1, s1, rfl, a1, a2, a3⟩ := hE.args_cells
 repeat (first | with_reducible (first | refine thenI ?_ | refine thenE ?_ | refine thenR ?_ | refine inBI ?_ | refine inBR ?_ | refine inBS ?_ | refine inBN (by decide) ?_) | refine W_seqS ?_ | refine W_seqC ?_ | refine W_seqB ?_ | refine W_block ?_ | refine W_skip ?_ | (apply W_condB; (case hc => (simp (disch := omega) only [go_sem, ↓reduceIte, Nat.reduceEqDiff, a1, a2, a3]); rfl); first | refine qzT ?_ | refine qzF ?_) | ((first | refine W_reg rfl fun G K hG hK => ?_ | refine W_end rfl fun G K hG hK => ?_); simp (disch := omega) only [go_sem, ↓reduceIte, Nat.reduceEqDiff, hG, a1, a2, a3]; refine hK _ _ ?_; clear hK K hG G))
 (repeat (first | refine W_seqS ?_ | refine W_seqC ?_ | refine W_seqB ?_ | refine W_block ?_)); refine W_reg rfl fun G K hG hK => ?_; simp (disch := omega) only [go_sem, ↓reduceIte, Nat.reduceEqDiff, hG, a1, a2, a3]
 refine w_call (l3Left_ok t 60 st _ (by omega) (by omega) hl hE) (by simp (disch := omega) only [go_sem, ↓reduceIte, Nat.reduceEqDiff, a1, a2, a3]) ?hl ?_
 case hl => first | rfl | (simp only [go_sem, List.all_cons, List.all_nil, Bool.not_false, Bool.and_self, a1, a2, a3]; done)
 rintro r_ st ⟨rfl, rfl⟩; refine ⟨fun e => (by cases e), ?_⟩
 by_cases h1 : t.count ≤ 60
 ·have c1 : decide (leftV 60 t.count ≥ 0) = true := by unfold leftV; rw [if_pos (by omega)]; simp; omega
  simp (disch := omega) only [go_sem, ↓reduceIte, Nat.reduceEqDiff, a1, a2, a3, hG, c1]
  refine w_call (specDepth_ok t st _ hl hd hE) (by simp (disch := omega) only [go_sem, ↓reduceIte, Nat.reduceEqDiff, a1, a2, a3]) ?hl ?_
  case hl => first | rfl | (simp only [go_sem, List.all_cons, List.all_nil, Bool.not_false, Bool.and_self, a1, a2, a3]; done)
  rintro r_ st ⟨rfl, rfl⟩; refine ⟨fun e => (by cases e), ?_⟩
  by_cases h2 : t.depth ≤ 16
  ·have c2 : decide (((t.depth : Nat) : Int) ≤ 16) = true := by simp; omega
   simp (disch := omega) only [go_sem, ↓reduceIte, Nat.reduceEqDiff, a1, a2, a3, hG, c1, c2]
   refine w_call (l3All_ok t st _ hl hn hE) (by simp (disch := omega) only [go_sem, ↓reduceIte, Nat.reduceEqDiff, a1, a2, a3]) ?hl ?_
   case hl => first | rfl | (simp only [go_sem, List.all_cons, List.all_nil, Bool.not_false, Bool.and_self, a1, a2, a3]; done)
   rintro r_ st ⟨rfl, rfl⟩; refine ⟨fun e => (by cases e), ?_⟩
   simp (disch := omega) only [go_sem, ↓reduceIte, Nat.reduceEqDiff, hG, a1, a2, a3]; refine hK _ _ ?_; clear hK K hG G; repeat (with_reducible first | refine thenI ?_ | refine thenE ?_ | refine thenR ?_ | refine inBI ?_ | refine inBR ?_ | refine inBS ?_ | refine inBN (by decide) ?_)
   refine W_ret ?_; try (repeat (with_reducible first | refine thenI ?_ | refine thenE ?_ | refine thenR ?_ | refine inBI ?_ | refine inBR ?_ | refine inBS ?_ | refine inBN (by decide) ?_))
   refine fin1 (.inl rfl) (by (simp (disch := omega) only [go_sem, ↓reduceIte, Nat.reduceEqDiff, a1, a2, a3]); try rfl) rfl ⟨by simp [T.valid, h1, h2], rfl⟩
  ·have c2 : decide (((t.depth : Nat) : Int) ≤ 16) = false := by simp; omega
   simp (disch := omega) only [go_sem, ↓reduceIte, Nat.reduceEqDiff, hG, a1, a2, a3, c1, c2]; refine hK _ _ ?_; clear hK K hG G; repeat (with_reducible first | refine thenI ?_ | refine thenE ?_ | refine thenR ?_ | refine inBI ?_ | refine inBR ?_ | refine inBS ?_ | refine inBN (by decide) ?_)
   refine W_ret ?_; try (repeat (with_reducible first | refine thenI ?_ | refine thenE ?_ | refine thenR ?_ | refine inBI ?_ | refine inBR ?_ | refine inBS ?_ | refine inBN (by decide) ?_))
   refine fin1 (.inl rfl) (by (simp (disch := omega) only [go_sem, ↓reduceIte, Nat.reduceEqDiff, a1, a2, a3]); try rfl) rfl ⟨by simp [T.valid, h1, h2], rfl⟩
 ·have c1 : decide (leftV 60 t.count ≥ 0) = false := by unfold leftV; rw [if_neg (by omega)]; rfl
  simp (disch := omega) only [go_sem, ↓reduceIte, Nat.reduceEqDiff, hG, a1, a2, a3, c1]; refine hK _ _ ?_; clear hK K hG G; repeat (with_reducible first | refine thenI ?_ | refine thenE ?_ | refine thenR ?_ | refine inBI ?_ | refine inBR ?_ | refine inBS ?_ | refine inBN (by decide) ?_)
  refine W_ret ?_; try (repeat (with_reducible first | refine thenI ?_ | refine thenE ?_ | refine thenR ?_ | refine inBI ?_ | refine inBR ?_ | refine inBS ?_ | refine inBN (by decide) ?_))
  refine fin1 (.inl rfl) (by (simp (disch := omega) only [go_sem, ↓reduceIte, Nat.reduceEqDiff, a1, a2, a3]); try rfl) rfl ⟨by simp [T.valid, h1], rfl⟩

end

end Go.Proofs.Ytdijnohbbgbklaa.AM
/- Sorts of terms; sorts of variables inferred. -/
namespace Go.Proofs.Ytdijnohbbgbklaa.AM
open Go Go.Proofs
set_option linter.unusedVariables false
set_option linter.unusedSimpArgs false

def emptyB : ByteArray := ⟨#[]⟩
def lookV (nm : ByteArray) (vs : List VSort) : Option VSort := vs.find? fun v => v.nm.toList == nm.toList
def lookS (nm : ByteArray) (vs : List VSort) : ByteArray := match lookV nm vs with
 | some v => v.srt
 | none => emptyB
/-- The sorts of the arguments are those that the operation asks for. -/
def okSorts : List ByteArray → List ByteArray → Bool
 | x :: xs, y :: ys => !(x.toList == emptyB.toList) && ((x.toList == y.toList) && okSorts xs ys)
 | _, _ => true
mutual
def T.sortOf (g : Sgn) (vs : List VSort) : T → ByteArray
 | .mk k n nm args => if (k == 3) = true then wordB else if (k == 1) = true then lookS nm vs
  else if (k == 2) = true then (if (findOp g nm).2 = true then (if (((findOp g nm).1.args.length : Int) == (args.length : Int)) = true then (if okSorts (T.sortsL g vs args) (findOp g nm).1.args = true then (findOp g nm).1.res else emptyB) else emptyB) else emptyB)
  else emptyB
def T.sortsL (g : Sgn) (vs : List VSort) : List T → List ByteArray
 | [] => []
 | x :: xs => T.sortOf g vs x :: T.sortsL g vs xs
end
theorem T.sortOf_word {g : Sgn} {vs : List VSort} {k n : Int} {nm : ByteArray} {args : List T} (h : (k == 3) = true) : T.sortOf g vs (.mk k n nm args) = wordB := by simp only [T.sortOf, h, if_true]
theorem T.sortOf_var {g : Sgn} {vs : List VSort} {k n : Int} {nm : ByteArray} {args : List T} (h3 : (k == 3) = false) (h : (k == 1) = true) : T.sortOf g vs (.mk k n nm args) = lookS nm vs := by simp only [T.sortOf, h3, h, if_true, Bool.false_eq_true, if_false]
theorem T.sortOf_none {g : Sgn} {vs : List VSort} {k n : Int} {nm : ByteArray} {args : List T} (h3 : (k == 3) = false) (h1 : (k == 1) = false) (h2 : (k == 2) = false) : T.sortOf g vs (.mk k n nm args) = emptyB := by simp only [T.sortOf, h3, h1, h2, Bool.false_eq_true, if_false]
theorem T.sortOf_app {g : Sgn} {vs : List VSort} {k n : Int} {nm : ByteArray} {args : List T} (h3 : (k == 3) = false) (h1 : (k == 1) = false) (h2 : (k == 2) = true) : T.sortOf g vs (.mk k n nm args) = if (findOp g nm).2 = true then (if (((findOp g nm).1.args.length : Int) == (args.length : Int)) = true then (if okSorts (T.sortsL g vs args) (findOp g nm).1.args = true then (findOp g nm).1.res else emptyB) else emptyB) else emptyB := by simp only [T.sortOf, h3, h1, h2, if_true, Bool.false_eq_true, if_false]
theorem T.sortsL_map (g : Sgn) (vs : List VSort) (xs : List T) : T.sortsL g vs xs = xs.map (T.sortOf g vs) := by
 induction xs with
 | nil => rfl
 | cons x xs ih => simp only [T.sortsL, List.map_cons, ih]
theorem okSorts_step {xs ys : List ByteArray} {j : Nat} (h1 : j < xs.length) (h2 : j < ys.length) : okSorts (xs.drop j) (ys.drop j) = (!(xs[j].toList == emptyB.toList) && ((xs[j].toList == ys[j].toList) && okSorts (xs.drop (j + 1)) (ys.drop (j + 1)))) := by
 rw [List.drop_eq_getElem_cons h1, List.drop_eq_getElem_cons h2]; rfl
def opOf (g : Sgn) (k : Int) (nm : ByteArray) : Opr := if (k == 2) = true then (findOp g nm).1 else Opr.zero
mutual
def T.inferF (g : Sgn) : T → ByteArray → List VSort → Option (List VSort)
 | .mk k n nm args, w, vs => if (k == 1) = true then (match lookV nm vs with
   | some v => if (v.srt.toList == w.toList) = true then some vs else none
   | none => some (vs ++ [⟨nm, w⟩]))
  else T.inferL g args (opOf g k nm).args vs
def T.inferL (g : Sgn) : List T → List ByteArray → List VSort → Option (List VSort)
 | [], _, vs => some vs
 | x :: xs, ws, vs => match T.inferF g x (ws.headD emptyB) vs with
  | none => none
  | some vs' => T.inferL g xs ws.tail vs'
end
theorem T.inferF_var {g : Sgn} {k n : Int} {nm w : ByteArray} {args : List T} {vs : List VSort} (h : (k == 1) = true) : T.inferF g (.mk k n nm args) w vs = (match lookV nm vs with
   | some v => if (v.srt.toList == w.toList) = true then some vs else none
   | none => some (vs ++ [⟨nm, w⟩])) := by simp only [T.inferF, h, if_true]
theorem T.inferF_app {g : Sgn} {k n : Int} {nm w : ByteArray} {args : List T} {vs : List VSort} (h : (k == 1) = false) : T.inferF g (.mk k n nm args) w vs = T.inferL g args (opOf g k nm).args vs := by simp only [T.inferF, h, Bool.false_eq_true, if_false]
theorem T.inferF_len (g : Sgn) : ∀ (t : T) (w : ByteArray) (vs vs' : List VSort), T.inferF g t w vs = some vs' → vs'.length ≤ vs.length + t.wt + 1 := by
 refine T.ind fun k n nm args ih w vs vs' h => ?_
 cases hk : (k == 1) with
 | true =>
  rw [T.inferF_var hk] at h
  cases hl : lookV nm vs with
  | some v =>
   rw [hl] at h
   simp only at h
   split at h
   ·cases h; omega
   ·cases h
  | none =>
   rw [hl] at h
   cases h
   simp
 | false =>
  rw [T.inferF_app hk] at h
  have hL : ∀ (xs : List T) (ws : List ByteArray) (vs : List VSort), (∀ a ∈ xs, a ∈ args) → T.inferL g xs ws vs = some vs' → vs'.length ≤ vs.length + T.wtL xs + xs.length := by
   intro xs
   induction xs with
   | nil => intro ws vs _ h; simp only [T.inferL, Option.some.injEq] at h; subst h; simp
   | cons x xs ihx =>
    intro ws vs hm h
    simp only [T.inferL] at h
    split at h
    ·cases h
    ·rename_i vs2 h2
     have h3 := ih x (hm x (by simp)) _ _ _ h2
     have h4 := ihx _ _ (fun a ha => hm a (by simp [ha])) h
     simp only [T.wtL, List.length_cons]; omega
  have := hL args _ vs (fun a ha => ha) h
  simp only [T.wt]; omega
/-- What the inference comes to. -/
def inferV (g : Sgn) (t : T) (w : ByteArray) : List VSort × Bool := match T.inferF g t w [] with
 | none => ([], false)
 | some vs => if (w.toList == emptyB.toList) = true then ([], false) else if ((T.sortOf g vs t).toList == w.toList) = true then (vs, true) else ([], false)
theorem inferV_len (g : Sgn) (t : T) (w : ByteArray) : (inferV g t w).1.length ≤ t.wt + 1 := by
 unfold inferV
 split
 ·simp
 ·rename_i vs h
  have := T.inferF_len g t w [] vs h
  simp only [List.length_nil, Nat.zero_add] at this
  split
  ·simp
  ·split
   ·exact this
   ·simp
end Go.Proofs.Ytdijnohbbgbklaa.AM


namespace Go.Proofs.Ytdijnohbbgbklaa.AM
open Go
attribute [local go_sem] List.map_cons List.map_nil List.all_cons List.all_nil Bool.and_self Option.map_some List.getElem?_toArray Option.bind_some gye_b gye_t gsk_b gsk_t gb1 gb2 gb3 gb4 bne_self_eq_false beq_self_eq_true w_guard w_nil stepV_some step_some step_some' w_move w_assign w_pick w_binOp w_unOp w_load w_fieldAddr w_indexAddr w_len w_max w_index ev_max max_int ev_index w_box w_alloc w_store w_field w_extract w_nilCheck w_convert w_buildSlice w_build ev_buildL fillL_nil fillL_cons bs0 bs1 ev_conv ev_bin ev_un ev_pick ev_load ev_fieldAddr ev_indexAddr ev_len ev_field ev_extract ev_nilCheck fr_tmp fr_int fr_bool fr_str fr_nil fr_func put_some put_none bin_lss bin_leq bin_gtr bin_geq bin_eql bin_neq bin_add bin_sub bin_mul bin_seql bin_sneq un_not pick_ ext_ loadA_p cellAt_l cellAt_h okPtr_l okPtr_h fadA_p allocA_l storeA_l cells_agg cells_int cells_str cells_sl cells_bool flat_i flat_s flat_b flat_sl flat_nil loc_agg loc_int loc_str loc_sl loc_bool loc_fn loc_ptr okv_agg okv_int okv_str okv_sl okv_bool cellsFrom splice upd_eval argEnv_zero argEnv_succ ne_eq Nat.add_one_ne_zero not_false_eq_true List.not_mem_nil and_self decide_true List.getElem?_cons_zero List.getElem?_cons_succ List.size_toArray List.length_cons List.length_nil List.take_succ_cons List.take_zero List.drop_succ_cons List.drop_zero List.cons_append List.nil_append List.drop_nil Bool.not_true Bool.not_false Bool.false_eq_true Nat.zero_add Nat.add_zero wrap_in List.toList_toArray List.mem_cons or_self or_false false_or
attribute [local go_sem] ag103 ag22 ag24 ag25 ag27 ag28 ag3 ag30 ag37 ag5 ag54 ag9 bu27 bu30 bu37 bu54 bu67 by30 by37 by54 by9 el22 el24 el25 el28 el33 el52 of27_0 of27_1 of30_0 of30_1 of30_2 of30_3 of37_0 of37_1 of54_0 of54_1 of54_2 of67_0 of67_1 of67_2 ro3_3 ro3_4 ro30_0 ro30_1 ro30_2 ro37_0 ro37_1 ro37_4 ro54_1 ro54_7 ro9_0 ro9_1 ro9_2 ro9_3 ro9_4 ro9_5 sz103 sz22 sz24 sz25 sz27 sz28 sz3 sz30 sz37 sz5 sz54 sz9 ze103 ze27 ze3 ze30 ze37 ze54 ze9
section
/- Sorts of terms: impl.SortOf, spec.l6Var, spec.SortOf; sorts inferred: impl.infer, spec.l6Infer, impl.InferVars, spec.InferVars. -/
open Go Go.Proofs
set_option linter.unusedVariables false
set_option linter.unusedSimpArgs false
set_option maxRecDepth 100000
-- AUTO

theorem Sl.growA {α : Type} [Kind α] {st st2 : St} {xs : List α} {pv s s' : Value} {Lp : List Nat} (h : Sl st xs pv Lp) (hg : Grow st s st2 s') (hd : ∀ i ∈ Lp, topId s ≠ some i) : Sl st2 xs pv Lp ∧ ∀ i ∈ Lp, topId s' ≠ some i := by
 refine ⟨h.frame fun i hi => hg.away.2 i (h.lt i hi) (hd i hi), fun i hi e => ?_⟩
 rcases hg.top with h1 | ⟨m, h1, h2⟩
 ·exact hd i hi (h1 ▸ e)
 ·rw [h2] at e; injection e with e
  have := h.lt i hi; omega
theorem Sl.topOff {α : Type} [Kind α] {st : St} {xs : List α} {s : Value} {L Lp : List Nat} (h : Sl st xs s L) (hp : Fresh st.length Lp) : ∀ i ∈ Lp, topId s ≠ some i := fun i hi e => by
 rcases h with ⟨rfl, _⟩ | ⟨i', c, cs, K, rfl, h1, _⟩
 ·cases e
 ·injection e with e
  subst e
  have h2 := (List.getElem?_eq_some_iff.1 h1).1
  have h3 := hp.2 _ hi
  omega
/-- What an inference comes to, in memory. -/
def InfQ (s0 st : St) (s : Value) (m : Option (List VSort)) (r : Value) (st2 : St) : Prop := Ext s0 st2 ∧ match m with
 | some l' => ∃ s' L', r = .tuple #[s', .bool true] ∧ Sl st2 l' s' L' ∧ Fresh s0.length L' ∧ Grow st s st2 s'
 | none => ∃ v, isLoc v = false ∧ r = .tuple #[v, .bool false]

set_option maxHeartbeats 1000000 in
theorem implInf_ok (g : Sgn) (hlg : LimS 1073741824 g) : ∀ (t : T) (w : ByteArray) (s0 st : St) (cg ct : List Value) (vs : List VSort) (s : Value) (L : List Nat), Lim 1073741824 t → vs.length + t.wt + 1 ≤ 1073741824 → Ext s0 st → EncS s0 g cg → Enc s0 t ct → Sl st vs s L → Fresh s0.length L →
  CallS Try.prog 19 [.agg cg.toArray, .agg ct.toArray, .string w, s] st (InfQ s0 st s (T.inferF g t w vs)) := by
 refine T.ind fun k n nm args ih w s0 st cg ct vs s L hlt0 hB hx0 hG hE hs hf => ?_
 have hG' := hG
 obtain ⟨sa, ua, rfl, ha, hu⟩ := hG
 obtain ⟨s1, rfl, hr⟩ := hE.open
 refine CallS_of_W [] 84 Try.func19 rfl rfl rfl rfl (by simp) ?_
 have q1 := hr.notLoc.1
 have q2 := hr.notLoc.2
 have q3 := ha.notLoc.1
 have q4 := ha.notLoc.2
 have q5 := hu.notLoc.1
 have q6 := hu.notLoc.2
 have q7 := hs.loc
 have hlen : lenE Try.prog 28 s1 = some (.int .i64 args.length) := row_len hr Try.underlying28
 have hwt : (T.mk k n nm args).wt = nm.size + args.length + T.wtL args := by simp only [T.wt]
 have hal := hlt0.args.1
 cases hk : (k == 1) with
 | true =>
  rw [T.inferF_var hk]
  have hlv : lenE Try.prog 33 s = some (.int .i64 vs.length) := row_len hs.row Try.underlying33
  repeat (first | with_reducible (first | refine thenI ?_ | refine thenE ?_ | refine thenR ?_ | refine inBI ?_ | refine inBR ?_ | refine inBS ?_ | refine inBN (by decide) ?_) | refine W_seqS ?_ | refine W_seqC ?_ | refine W_seqB ?_ | refine W_block ?_ | refine W_skip ?_ | (apply W_condB; (case hc => (simp (disch := omega) only [go_sem, ↓reduceIte, Nat.reduceEqDiff, q1, q2, q3, q4, q5, q6, q7, hlen, hk, hlv]); rfl); first | refine qzT ?_ | refine qzF ?_) | ((first | refine W_reg rfl fun G K hG hK => ?_ | refine W_end rfl fun G K hG hK => ?_); simp (disch := omega) only [go_sem, ↓reduceIte, Nat.reduceEqDiff, hG, q1, q2, q3, q4, q5, q6, q7, hlen, hk, hlv]; refine hK _ _ ?_; clear hK K hG G))
  refine W_loop (fun d fr st' => ∃ (j : Nat) , d = vs.length - j ∧ j ≤ vs.length ∧ (st' = st) ∧ (lookV nm vs = lookV nm (vs.drop j)) ∧ (fr.env 2 = .string w) ∧ (fr.env 3 = s) ∧ (fr.env 5 = .pointer (some ⟨5, 0, some 1⟩)) ∧ (fr.env 20 = s) ∧ (fr.env 21 = .int .i64 vs.length) ∧ (fr.env 22 = .int .i64 j) ∧ (fr.loc 5 = (1, [.int .i64 k, .int .i64 n, .string nm, s1]))) (vs.length) ?_ ?_
  ·exact ⟨0, by omega, by omega, rfl, by simp, (by refine ⟨?_, ?_, ?_, ?_, ?_, ?_, ?_⟩ <;> ((simp (disch := omega) only [go_sem, ↓reduceIte, Nat.reduceEqDiff, q1, q2, q3, q4, q5, q6, q7, hlen]); try rfl))⟩
  rintro d ⟨env, loc⟩ st' ⟨j, hd, hj, hst, hfd, e2, e3, e5, e20, e21, e22, l5⟩
  simp only at e2 e3 e5 e20 e21 e22 l5
  subst hst
  by_cases hlt : j < vs.length
  ·have c1 : decide ((j : Int) < (vs.length : Int)) = true := by simpa using hlt
   have hi := idxOk hlt
   have hx : vs[j]? = some vs[j] := List.getElem?_eq_getElem hlt
   have htk : vs.take (j + 1) = vs.take j ++ [vs[j]] := List.take_succ_eq_append_getElem hlt
   obtain ⟨i, o, c, hse, hcs⟩ := row_atV hs.row hx
   have hld := fun loc => load_row (A := []) (loc := loc) ag37 sz37 rfl hcs
   rw [List.drop_eq_getElem_cons hlt] at hfd
   unfold lookV at hfd ⊢
   rw [List.find?_cons] at hfd
   cases hn : (vs[j].nm.toList == nm.toList) with
   | true =>
    rw [hn] at hfd
    simp only at hfd
    rw [hfd]
    subst hse
    repeat (first | with_reducible (first | refine thenI ?_ | refine thenE ?_ | refine thenR ?_ | refine inBI ?_ | refine inBR ?_ | refine inBS ?_ | refine inBN (by decide) ?_) | refine W_seqS ?_ | refine W_seqC ?_ | refine W_seqB ?_ | refine W_block ?_ | refine W_skip ?_ | (apply W_condB; (case hc => (simp (disch := omega) only [go_sem, ↓reduceIte, Nat.reduceEqDiff, q1, q2, q3, q4, q5, q6, q7, hlen, e2, e3, e5, e20, e21, e22, l5, c1, hi, idxA, Int.toNat_natCast, hld, hn]); rfl); first | refine qzT ?_ | refine qzF ?_) | ((first | refine W_reg rfl fun G K hG hK => ?_ | refine W_end rfl fun G K hG hK => ?_); simp (disch := omega) only [go_sem, ↓reduceIte, Nat.reduceEqDiff, hG, q1, q2, q3, q4, q5, q6, q7, hlen, e2, e3, e5, e20, e21, e22, l5, c1, hi, idxA, Int.toNat_natCast, hld, hn]; refine hK _ _ ?_; clear hK K hG G))
    (repeat (first | refine W_seqS ?_ | refine W_seqC ?_ | refine W_seqB ?_ | refine W_block ?_)); refine W_regD mixed [] [(0,false),(1,false),(2,false),(3,false),(4,false),(5,false),(6,false)] rfl (by decide +kernel) fun G K hG hK => ?_; simp only [pickOps, List.filterMap_cons, List.filterMap_nil, List.getElem?_cons_zero, List.getElem?_cons_succ, Option.map_some]; simp (disch := omega) only [go_sem, ↓reduceIte, Nat.reduceEqDiff, hG, q1, q2, q3, q4, q5, q6, q7, hlen, e2, e3, e5, e20, e21, e22, l5, c1, hi, idxA, Int.toNat_natCast]
    refine hK _ _ ?_; clear hK K hG G; repeat (with_reducible first | refine thenI ?_ | refine thenE ?_ | refine thenR ?_ | refine inBI ?_ | refine inBR ?_ | refine inBS ?_ | refine inBN (by decide) ?_)
    repeat (first | with_reducible (first | refine thenI ?_ | refine thenE ?_ | refine thenR ?_ | refine inBI ?_ | refine inBR ?_ | refine inBS ?_ | refine inBN (by decide) ?_) | refine W_seqS ?_ | refine W_seqC ?_ | refine W_seqB ?_ | refine W_block ?_ | refine W_skip ?_ | (apply W_condB; (case hc => (simp (disch := omega) only [go_sem, ↓reduceIte, Nat.reduceEqDiff, q1, q2, q3, q4, q5, q6, q7, hlen, e2, e3, e5, e20, e21, e22, l5, c1, hi, idxA, Int.toNat_natCast]); rfl); first | refine qzT ?_ | refine qzF ?_) | ((first | refine W_reg rfl fun G K hG hK => ?_ | refine W_end rfl fun G K hG hK => ?_); simp (disch := omega) only [go_sem, ↓reduceIte, Nat.reduceEqDiff, hG, q1, q2, q3, q4, q5, q6, q7, hlen, e2, e3, e5, e20, e21, e22, l5, c1, hi, idxA, Int.toNat_natCast]; refine hK _ _ ?_; clear hK K hG G))
    cases hsrt : (vs[j].srt.toList == w.toList) with
    | true =>
     refine W_ret ?_; try (repeat (with_reducible first | refine thenI ?_ | refine thenE ?_ | refine thenR ?_ | refine inBI ?_ | refine inBR ?_ | refine inBS ?_ | refine inBN (by decide) ?_))
     refine fin2 (.inl rfl) (by (simp (disch := omega) only [go_sem, ↓reduceIte, Nat.reduceEqDiff, q1, q2, q3, q4, q5, q6, q7, hlen, e2, e3, e5, e20, e21, e22, l5, c1, hi, idxA, Int.toNat_natCast]); try rfl) rfl (by (simp (disch := omega) only [go_sem, ↓reduceIte, Nat.reduceEqDiff, q1, q2, q3, q4, q5, q6, q7, hlen, e2, e3, e5, e20, e21, e22, l5, c1, hi, idxA, Int.toNat_natCast]); try rfl) rfl ⟨hx0, (by simp only [hsrt, if_true]; exact ⟨_, L, rfl, hs, hf, Grow.refl _ _⟩)⟩
    | false =>
     refine W_ret ?_; try (repeat (with_reducible first | refine thenI ?_ | refine thenE ?_ | refine thenR ?_ | refine inBI ?_ | refine inBR ?_ | refine inBS ?_ | refine inBN (by decide) ?_))
     refine fin2 (.inl rfl) (by (simp (disch := omega) only [go_sem, ↓reduceIte, Nat.reduceEqDiff, q1, q2, q3, q4, q5, q6, q7, hlen, e2, e3, e5, e20, e21, e22, l5, c1, hi, idxA, Int.toNat_natCast]); try rfl) rfl (by (simp (disch := omega) only [go_sem, ↓reduceIte, Nat.reduceEqDiff, q1, q2, q3, q4, q5, q6, q7, hlen, e2, e3, e5, e20, e21, e22, l5, c1, hi, idxA, Int.toNat_natCast]); try rfl) rfl ⟨hx0, (by simp only [hsrt, Bool.false_eq_true, if_false]; exact ⟨_, rfl, rfl⟩)⟩
   | false =>
    rw [hn] at hfd
    simp only at hfd
    subst hse
    repeat (first | with_reducible (first | refine thenI ?_ | refine thenE ?_ | refine thenR ?_ | refine inBI ?_ | refine inBR ?_ | refine inBS ?_ | refine inBN (by decide) ?_) | refine W_seqS ?_ | refine W_seqC ?_ | refine W_seqB ?_ | refine W_block ?_ | refine W_skip ?_ | (apply W_condB; (case hc => (simp (disch := omega) only [go_sem, ↓reduceIte, Nat.reduceEqDiff, q1, q2, q3, q4, q5, q6, q7, hlen, e2, e3, e5, e20, e21, e22, l5, c1, hi, idxA, Int.toNat_natCast, hld, hn]); rfl); first | refine qzT ?_ | refine qzF ?_) | ((first | refine W_reg rfl fun G K hG hK => ?_ | refine W_end rfl fun G K hG hK => ?_); simp (disch := omega) only [go_sem, ↓reduceIte, Nat.reduceEqDiff, hG, q1, q2, q3, q4, q5, q6, q7, hlen, e2, e3, e5, e20, e21, e22, l5, c1, hi, idxA, Int.toNat_natCast, hld, hn]; refine hK _ _ ?_; clear hK K hG G))
    refine ⟨vs.length - (j + 1), by omega, j + 1, rfl, by omega, rfl, hfd, (by refine ⟨?_, ?_, ?_, ?_, ?_, ?_, ?_⟩ <;> ((simp (disch := omega) only [go_sem, ↓reduceIte, Nat.reduceEqDiff, q1, q2, q3, q4, q5, q6, q7, hlen, e2, e3, e5, e20, e21, e22, l5, c1, hi, idxA, Int.toNat_natCast]); try rfl))⟩
  ·have c1 : decide ((j : Int) < (vs.length : Int)) = false := by simpa using hlt
   have hjn : j = vs.length := by omega
   subst hjn
   rw [List.drop_length] at hfd
   have hfd2 : lookV nm vs = none := hfd
   rw [hfd2]
   obtain ⟨r', sb, L', hap0, hown', hfr', hg⟩ := Sl.push (α := VSort) (t := 33) (u := 33) Try.underlying33 Try.underlying33 sz37 rfl by37 ze37 rfl hs hf hx0.length (Ext.refl st') (x := (⟨nm, w⟩ : VSort)) (cx := [.string nm, .string w]) (Lx := []) ⟨rfl, rfl⟩ ⟨by simp, by simp⟩ (by omega) (by omega)
   have hap : appendA Try.prog 33 33 s (.slice (some ⟨st'.length, 0, none⟩) 1 1) (st' ++ [⟨[.string nm, .string w], 37, 0⟩]) = some (r', sb) := hap0
   have ol' := hown'.loc
   repeat (first | with_reducible (first | refine thenI ?_ | refine thenE ?_ | refine thenR ?_ | refine inBI ?_ | refine inBR ?_ | refine inBS ?_ | refine inBN (by decide) ?_) | refine W_seqS ?_ | refine W_seqC ?_ | refine W_seqB ?_ | refine W_block ?_ | refine W_skip ?_ | (apply W_condB; (case hc => (simp (disch := omega) only [go_sem, ↓reduceIte, Nat.reduceEqDiff, q1, q2, q3, q4, q5, q6, q7, hlen, e2, e3, e5, e20, e21, e22, l5, c1]); rfl); first | refine qzT ?_ | refine qzF ?_) | ((first | refine W_reg rfl fun G K hG hK => ?_ | refine W_end rfl fun G K hG hK => ?_); simp (disch := omega) only [go_sem, ↓reduceIte, Nat.reduceEqDiff, hG, q1, q2, q3, q4, q5, q6, q7, hlen, e2, e3, e5, e20, e21, e22, l5, c1]; refine hK _ _ ?_; clear hK K hG G))
   refine W_exit ?_; repeat (with_reducible first | refine thenI ?_ | refine thenE ?_ | refine thenR ?_ | refine inBI ?_ | refine inBR ?_ | refine inBS ?_ | refine inBN (by decide) ?_)
   repeat (first | with_reducible (first | refine thenI ?_ | refine thenE ?_ | refine thenR ?_ | refine inBI ?_ | refine inBR ?_ | refine inBS ?_ | refine inBN (by decide) ?_) | refine W_seqS ?_ | refine W_seqC ?_ | refine W_seqB ?_ | refine W_block ?_ | refine W_skip ?_ | (apply W_condB; (case hc => (simp (disch := omega) only [go_sem, ↓reduceIte, Nat.reduceEqDiff, q1, q2, q3, q4, q5, q6, q7, hlen, e2, e3, e5, e20, e21, e22, l5, c1]); rfl); first | refine qzT ?_ | refine qzF ?_) | ((first | refine W_reg rfl fun G K hG hK => ?_ | refine W_end rfl fun G K hG hK => ?_); simp (disch := omega) only [go_sem, ↓reduceIte, Nat.reduceEqDiff, hG, q1, q2, q3, q4, q5, q6, q7, hlen, e2, e3, e5, e20, e21, e22, l5, c1]; refine hK _ _ ?_; clear hK K hG G))
   (repeat (first | refine W_seqS ?_ | refine W_seqC ?_ | refine W_seqB ?_ | refine W_block ?_)); refine W_reg rfl fun G K hG hK => ?_; simp (disch := omega) only [go_sem, ↓reduceIte, Nat.reduceEqDiff, hG, q1, q2, q3, q4, q5, q6, q7, hlen, e2, e3, e5, e20, e21, e22, l5, c1, w_append, hap, ol', Nat.reduceAdd, Nat.reduceLeDiff]
   refine hK _ _ ?_; clear hK K hG G; repeat (with_reducible first | refine thenI ?_ | refine thenE ?_ | refine thenR ?_ | refine inBI ?_ | refine inBR ?_ | refine inBS ?_ | refine inBN (by decide) ?_)
   repeat (first | with_reducible (first | refine thenI ?_ | refine thenE ?_ | refine thenR ?_ | refine inBI ?_ | refine inBR ?_ | refine inBS ?_ | refine inBN (by decide) ?_) | refine W_seqS ?_ | refine W_seqC ?_ | refine W_seqB ?_ | refine W_block ?_ | refine W_skip ?_ | (apply W_condB; (case hc => (simp (disch := omega) only [go_sem, ↓reduceIte, Nat.reduceEqDiff, q1, q2, q3, q4, q5, q6, q7, hlen, e2, e3, e5, e20, e21, e22, l5, c1]); rfl); first | refine qzT ?_ | refine qzF ?_) | ((first | refine W_reg rfl fun G K hG hK => ?_ | refine W_end rfl fun G K hG hK => ?_); simp (disch := omega) only [go_sem, ↓reduceIte, Nat.reduceEqDiff, hG, q1, q2, q3, q4, q5, q6, q7, hlen, e2, e3, e5, e20, e21, e22, l5, c1]; refine hK _ _ ?_; clear hK K hG G))
   refine W_ret ?_; try (repeat (with_reducible first | refine thenI ?_ | refine thenE ?_ | refine thenR ?_ | refine inBI ?_ | refine inBR ?_ | refine inBS ?_ | refine inBN (by decide) ?_))
   refine fin2 (.inl rfl) (by (simp (disch := omega) only [go_sem, ↓reduceIte, Nat.reduceEqDiff, q1, q2, q3, q4, q5, q6, q7, hlen, e2, e3, e5, e20, e21, e22, l5, c1]); try rfl) ol' (by (simp (disch := omega) only [go_sem, ↓reduceIte, Nat.reduceEqDiff, q1, q2, q3, q4, q5, q6, q7, hlen, e2, e3, e5, e20, e21, e22, l5, c1]); try rfl) rfl ⟨hg.away.ext_of hx0 (hs.top hf), r', L', rfl, hown', hfr', hg⟩
 | false =>
  rw [T.inferF_app hk]
  repeat (first | with_reducible (first | refine thenI ?_ | refine thenE ?_ | refine thenR ?_ | refine inBI ?_ | refine inBR ?_ | refine inBS ?_ | refine inBN (by decide) ?_) | refine W_seqS ?_ | refine W_seqC ?_ | refine W_seqB ?_ | refine W_block ?_ | refine W_skip ?_ | (apply W_condB; (case hc => (simp (disch := omega) only [go_sem, ↓reduceIte, Nat.reduceEqDiff, q1, q2, q3, q4, q5, q6, q7, hlen, hk]); rfl); first | refine qzT ?_ | refine qzF ?_) | ((first | refine W_reg rfl fun G K hG hK => ?_ | refine W_end rfl fun G K hG hK => ?_); simp (disch := omega) only [go_sem, ↓reduceIte, Nat.reduceEqDiff, hG, q1, q2, q3, q4, q5, q6, q7, hlen, hk]; refine hK _ _ ?_; clear hK K hG G))
  refine W_to (fun fr st' => ∃ (so : Value) (no : ByteArray) (mo : ByteArray) (Lo : List Nat), (Ext st st') ∧ (Sl st' (opOf g k nm).args so Lo) ∧ (Fresh st.length Lo) ∧ (fr.env 3 = s) ∧ (fr.env 4 = .pointer (some ⟨4, 0, some 1⟩)) ∧ (fr.env 5 = .pointer (some ⟨5, 0, some 1⟩)) ∧ (fr.env 12 = .pointer (some ⟨12, 0, some 1⟩)) ∧ (fr.loc 4 = (1, [sa, ua])) ∧ (fr.loc 5 = (1, [.int .i64 k, .int .i64 n, .string nm, s1])) ∧ (fr.loc 12 = (1, [.string no, so, .string mo]))) ?_ ?_
  ·cases hk2 : (k == 2) with
   | true =>
    have ho2 : opOf g k nm = (findOp g nm).1 := by unfold opOf; rw [hk2]; rfl
    rw [ho2]
    repeat (first | with_reducible (first | refine thenI ?_ | refine thenE ?_ | refine thenR ?_ | refine inBI ?_ | refine inBR ?_ | refine inBS ?_ | refine inBN (by decide) ?_) | refine W_seqS ?_ | refine W_seqC ?_ | refine W_seqB ?_ | refine W_block ?_ | refine W_skip ?_ | (apply W_condB; (case hc => (simp (disch := omega) only [go_sem, ↓reduceIte, Nat.reduceEqDiff, q1, q2, q3, q4, q5, q6, q7, hlen, hk, hk2]); rfl); first | refine qzT ?_ | refine qzF ?_) | ((first | refine W_reg rfl fun G K hG hK => ?_ | refine W_end rfl fun G K hG hK => ?_); simp (disch := omega) only [go_sem, ↓reduceIte, Nat.reduceEqDiff, hG, q1, q2, q3, q4, q5, q6, q7, hlen, hk, hk2]; refine hK _ _ ?_; clear hK K hG G))
    refine W_end rfl fun G K hG hK => ?_; simp (disch := omega) only [go_sem, ↓reduceIte, Nat.reduceEqDiff, hG, q1, q2, q3, q4, q5, q6, q7, hlen]
    refine w_call (implFindOp_ok g nm st _ hlg (hG'.ext hx0)) (by simp (disch := omega) only [go_sem, ↓reduceIte, Nat.reduceEqDiff, q1, q2, q3, q4, q5, q6, q7, hlen]) ?hl ?_
    case hl => first | rfl | (simp only [go_sem, List.all_cons, List.all_nil, Bool.not_false, Bool.and_self, q1, q2, q3, q4, q5, q6, q7, hlen]; done)
    rintro r_ sb ⟨x1, ds, Lo, rfl, ho, hfo⟩; refine ⟨fun e => (by cases e), ?_⟩
    obtain ⟨so, rfl, hso⟩ := ho
    have a1 := hso.okv
    have a2 := hso.loc
    have a3 := hso.cells
    simp (disch := omega) only [go_sem, ↓reduceIte, Nat.reduceEqDiff, hG, q1, q2, q3, q4, q5, q6, q7, hlen, a1, a2, a3]; refine hK _ _ ?_; clear hK K hG G; repeat (with_reducible first | refine thenI ?_ | refine thenE ?_ | refine thenR ?_ | refine inBI ?_ | refine inBR ?_ | refine inBS ?_ | refine inBN (by decide) ?_)
    exact ⟨so, _, _, Lo, x1, hso, hfo, (by refine ⟨?_, ?_, ?_, ?_, ?_, ?_, ?_⟩ <;> ((simp (disch := omega) only [go_sem, ↓reduceIte, Nat.reduceEqDiff, q1, q2, q3, q4, q5, q6, q7, hlen]); try rfl))⟩
   | false =>
    have ho2 : opOf g k nm = Opr.zero := by unfold opOf; rw [hk2]; rfl
    rw [ho2]
    repeat (first | with_reducible (first | refine thenI ?_ | refine thenE ?_ | refine thenR ?_ | refine inBI ?_ | refine inBR ?_ | refine inBS ?_ | refine inBN (by decide) ?_) | refine W_seqS ?_ | refine W_seqC ?_ | refine W_seqB ?_ | refine W_block ?_ | refine W_skip ?_ | (apply W_condB; (case hc => (simp (disch := omega) only [go_sem, ↓reduceIte, Nat.reduceEqDiff, q1, q2, q3, q4, q5, q6, q7, hlen, hk, hk2]); rfl); first | refine qzT ?_ | refine qzF ?_) | ((first | refine W_reg rfl fun G K hG hK => ?_ | refine W_end rfl fun G K hG hK => ?_); simp (disch := omega) only [go_sem, ↓reduceIte, Nat.reduceEqDiff, hG, q1, q2, q3, q4, q5, q6, q7, hlen, hk, hk2]; refine hK _ _ ?_; clear hK K hG G))
    exact ⟨.slice none 0 0, ⟨#[]⟩, ⟨#[]⟩, [], Ext.refl _, Sl.nil _, .nil _, (by refine ⟨?_, ?_, ?_, ?_, ?_, ?_, ?_⟩ <;> ((simp (disch := omega) only [go_sem, ↓reduceIte, Nat.reduceEqDiff, q1, q2, q3, q4, q5, q6, q7, hlen]); try rfl))⟩
  rintro ⟨env, loc⟩ st' ⟨so, no, mo, Lo, hxs, hso, hfo, e3, e4, e5, e12, l4, l5, l12⟩
  simp only at e3 e4 e5 e12 l4 l5 l12
  have ho1 := hso.okv
  have ho2 := hso.loc
  have hlo : lenE Try.prog 24 so = some (.int .i64 (opOf g k nm).args.length) := row_len hso.row Try.underlying24
  generalize (opOf g k nm).args = os at hso hlo
  generalize hsA : st' = sA at hxs hso
  have hs1 := hs.ext hxs
  have hdis := hs.topOff hfo
  repeat (first | with_reducible (first | refine thenI ?_ | refine thenE ?_ | refine thenR ?_ | refine inBI ?_ | refine inBR ?_ | refine inBS ?_ | refine inBN (by decide) ?_) | refine W_seqS ?_ | refine W_seqC ?_ | refine W_seqB ?_ | refine W_block ?_ | refine W_skip ?_ | (apply W_condB; (case hc => (simp (disch := omega) only [go_sem, ↓reduceIte, Nat.reduceEqDiff, q1, q2, q3, q4, q5, q6, q7, hlen, e3, e4, e5, e12, l4, l5, l12, ho1, ho2, hlo]); rfl); first | refine qzT ?_ | refine qzF ?_) | ((first | refine W_reg rfl fun G K hG hK => ?_ | refine W_end rfl fun G K hG hK => ?_); simp (disch := omega) only [go_sem, ↓reduceIte, Nat.reduceEqDiff, hG, q1, q2, q3, q4, q5, q6, q7, hlen, e3, e4, e5, e12, l4, l5, l12, ho1, ho2, hlo]; refine hK _ _ ?_; clear hK K hG G))
  refine W_loop (fun d fr st' => ∃ (j : Nat) (vs1 : List VSort) (r : Value) (L1 : List Nat), d = args.length - j ∧ j ≤ args.length ∧ (Grow sA s st' r) ∧ (Sl st' vs1 r L1) ∧ (Fresh s0.length L1) ∧ (T.inferL g (args.drop j) (os.drop j) vs1 = T.inferL g args os vs) ∧ (vs1.length + T.wtL (args.drop j) + (args.length - j) + 1 ≤ 1073741824) ∧ (fr.env 3 = r) ∧ (fr.env 4 = .pointer (some ⟨4, 0, some 1⟩)) ∧ (fr.env 5 = .pointer (some ⟨5, 0, some 1⟩)) ∧ (fr.env 12 = .pointer (some ⟨12, 0, some 1⟩)) ∧ (fr.env 55 = s1) ∧ (fr.env 56 = .int .i64 args.length) ∧ (fr.env 57 = .int .i64 j) ∧ (fr.loc 4 = (1, [sa, ua])) ∧ (fr.loc 5 = (1, [.int .i64 k, .int .i64 n, .string nm, s1])) ∧ (fr.loc 12 = (1, [.string no, so, .string mo]))) (args.length) ?_ ?_
  ·exact ⟨0, vs, s, L, by omega, by omega, Grow.refl _ _, hs1, hf, by simp, by simp only [List.drop_zero]; omega, (by refine ⟨?_, ?_, ?_, ?_, ?_, ?_, ?_, ?_, ?_, ?_⟩ <;> ((simp (disch := omega) only [go_sem, ↓reduceIte, Nat.reduceEqDiff, q1, q2, q3, q4, q5, q6, q7, hlen, e3, e4, e5, e12, l4, l5, l12, ho1, ho2, hlo]); try rfl))⟩
  clear e3 e4 e5 e12 l4 l5 l12
  rintro d ⟨env, loc⟩ st' ⟨j, vs1, r, L1, hd, hj, hgr, hown, hfr, hinf, hln, e3, e4, e5, e12, e55, e56, e57, l4, l5, l12⟩
  simp only at e3 e4 e5 e12 e55 e56 e57 l4 l5 l12
  by_cases hlt : j < args.length
  ·have c1 : decide ((j : Int) < (args.length : Int)) = true := by simpa using hlt
   have hi := idxOk hlt
   have hx : args[j]? = some args[j] := List.getElem?_eq_getElem hlt
   have htk : args.take (j + 1) = args.take j ++ [args[j]] := List.take_succ_eq_append_getElem hlt
   obtain ⟨i, o, c, cs, rfl, hcl, hE', hcs⟩ := row_at hr hx
   have hext : Ext s0 st' := hgr.away.ext_of (hx0.trans hxs) (hs.top hf)
   have hld := fun loc => load_row (A := []) (loc := loc) ag30 sz30 hcl (hcs.ext hext)
   obtain ⟨v0, v1, v2, v3, rfl⟩ : ∃ v0 v1 v2 v3, cs = [v0, v1, v2, v3] := by
    match cs, hcl with
    | [v0, v1, v2, v3], _ => exact ⟨v0, v1, v2, v3, rfl⟩
   obtain ⟨ka, na, ma, sa', hce, c1', c2', c3'⟩ := hE'.args_cells
   cases hce
   have ol := hown.loc
   have hwd := T.wtL_drop hx
   obtain ⟨hsoS, _⟩ := hso.growA hgr hdis
   have hil := T.inferF_len g args[j]
   rw [List.drop_eq_getElem_cons hlt] at hinf
   simp only [T.inferL] at hinf
   by_cases hja : j < os.length
   ·have c9 : decide ((j : Int) < (os.length : Int)) = true := by simpa using hja
    obtain ⟨i2, o2, c2, hse2, hce2⟩ := row_atS hsoS.row (List.getElem?_eq_getElem hja)
    have hi2 := idxOk hja
    have hhd : (os.drop j).headD emptyB = os[j] := by rw [List.drop_eq_getElem_cons hja]; rfl
    rw [hhd] at hinf
    have htl : (os.drop j).tail = os.drop (j + 1) := by rw [List.tail_drop]
    rw [htl] at hinf
    subst hse2
    repeat (first | with_reducible (first | refine thenI ?_ | refine thenE ?_ | refine thenR ?_ | refine inBI ?_ | refine inBR ?_ | refine inBS ?_ | refine inBN (by decide) ?_) | refine W_seqS ?_ | refine W_seqC ?_ | refine W_seqB ?_ | refine W_block ?_ | refine W_skip ?_ | (apply W_condB; (case hc => (simp (disch := omega) only [go_sem, ↓reduceIte, Nat.reduceEqDiff, q1, q2, q3, q4, q5, q6, q7, hlen, ho1, ho2, hlo, e3, e4, e5, e12, e55, e56, e57, l4, l5, l12, c1, hi, idxA, Int.toNat_natCast, ol, c1', c2', c3', hld, c9, hce2, hi2, ag9]); rfl); first | refine qzT ?_ | refine qzF ?_) | ((first | refine W_reg rfl fun G K hG hK => ?_ | refine W_end rfl fun G K hG hK => ?_); simp (disch := omega) only [go_sem, ↓reduceIte, Nat.reduceEqDiff, hG, q1, q2, q3, q4, q5, q6, q7, hlen, ho1, ho2, hlo, e3, e4, e5, e12, e55, e56, e57, l4, l5, l12, c1, hi, idxA, Int.toNat_natCast, ol, c1', c2', c3', hld, c9, hce2, hi2, ag9]; refine hK _ _ ?_; clear hK K hG G))
    (repeat (first | refine W_seqS ?_ | refine W_seqC ?_ | refine W_seqB ?_ | refine W_block ?_)); refine W_reg rfl fun G K hG hK => ?_; simp (disch := omega) only [go_sem, ↓reduceIte, Nat.reduceEqDiff, hG, q1, q2, q3, q4, q5, q6, q7, hlen, ho1, ho2, hlo, e3, e4, e5, e12, e55, e56, e57, l4, l5, l12, c1, hi, idxA, Int.toNat_natCast, ol, c1', c2', c3']
    refine w_call (ih args[j] (List.getElem_mem hlt) os[j] s0 st' _ _ vs1 r L1 (hlt0.args.2 _ (List.getElem_mem hlt)) (by omega) hext hG' hE' hown hfr) (by simp (disch := omega) only [go_sem, ↓reduceIte, Nat.reduceEqDiff, q1, q2, q3, q4, q5, q6, q7, hlen, ho1, ho2, hlo, e3, e4, e5, e12, e55, e56, e57, l4, l5, l12, c1, hi, idxA, Int.toNat_natCast, ol, c1', c2', c3']) ?hl ?_
    case hl => first | rfl | (simp only [go_sem, List.all_cons, List.all_nil, Bool.not_false, Bool.and_self, q1, q2, q3, q4, q5, q6, q7, hlen, ho1, ho2, hlo, e3, e4, e5, e12, e55, e56, e57, l4, l5, l12, c1, hi, idxA, Int.toNat_natCast, ol, c1', c2', c3']; done)
    rintro r_ sb ⟨x1, hres⟩; refine ⟨fun e => (by cases e), ?_⟩
    cases hmf : T.inferF g args[j] os[j] vs1 with
    | none =>
     rw [hmf] at hres hinf
     obtain ⟨v, hv, rfl⟩ := hres
     simp (disch := omega) only [go_sem, ↓reduceIte, Nat.reduceEqDiff, hG, q1, q2, q3, q4, q5, q6, q7, hlen, ho1, ho2, hlo, e3, e4, e5, e12, e55, e56, e57, l4, l5, l12, c1, hi, idxA, Int.toNat_natCast, ol, c1', c2', c3', hv]; refine hK _ _ ?_; clear hK K hG G; repeat (with_reducible first | refine thenI ?_ | refine thenE ?_ | refine thenR ?_ | refine inBI ?_ | refine inBR ?_ | refine inBS ?_ | refine inBN (by decide) ?_)
     repeat (first | with_reducible (first | refine thenI ?_ | refine thenE ?_ | refine thenR ?_ | refine inBI ?_ | refine inBR ?_ | refine inBS ?_ | refine inBN (by decide) ?_) | refine W_seqS ?_ | refine W_seqC ?_ | refine W_seqB ?_ | refine W_block ?_ | refine W_skip ?_ | (apply W_condB; (case hc => (simp (disch := omega) only [go_sem, ↓reduceIte, Nat.reduceEqDiff, q1, q2, q3, q4, q5, q6, q7, hlen, ho1, ho2, hlo, e3, e4, e5, e12, e55, e56, e57, l4, l5, l12, c1, hi, idxA, Int.toNat_natCast, ol, c1', c2', c3']); rfl); first | refine qzT ?_ | refine qzF ?_) | ((first | refine W_reg rfl fun G K hG hK => ?_ | refine W_end rfl fun G K hG hK => ?_); simp (disch := omega) only [go_sem, ↓reduceIte, Nat.reduceEqDiff, hG, q1, q2, q3, q4, q5, q6, q7, hlen, ho1, ho2, hlo, e3, e4, e5, e12, e55, e56, e57, l4, l5, l12, c1, hi, idxA, Int.toNat_natCast, ol, c1', c2', c3']; refine hK _ _ ?_; clear hK K hG G))
     rw [← hinf]
     refine W_ret ?_; try (repeat (with_reducible first | refine thenI ?_ | refine thenE ?_ | refine thenR ?_ | refine inBI ?_ | refine inBR ?_ | refine inBS ?_ | refine inBN (by decide) ?_))
     refine fin2 (.inl rfl) (by (simp (disch := omega) only [go_sem, ↓reduceIte, Nat.reduceEqDiff, q1, q2, q3, q4, q5, q6, q7, hlen, ho1, ho2, hlo, e3, e4, e5, e12, e55, e56, e57, l4, l5, l12, c1, hi, idxA, Int.toNat_natCast, ol, c1', c2', c3']); try rfl) rfl (by (simp (disch := omega) only [go_sem, ↓reduceIte, Nat.reduceEqDiff, q1, q2, q3, q4, q5, q6, q7, hlen, ho1, ho2, hlo, e3, e4, e5, e12, e55, e56, e57, l4, l5, l12, c1, hi, idxA, Int.toNat_natCast, ol, c1', c2', c3']); try rfl) rfl ⟨x1, _, rfl, rfl⟩
    | some l2 =>
     rw [hmf] at hres hinf
     obtain ⟨v, L2, rfl, hown2, hfr2, hg2⟩ := hres
     have ov := hown2.loc
     have hl2 := hil _ _ _ hmf
     simp (disch := omega) only [go_sem, ↓reduceIte, Nat.reduceEqDiff, hG, q1, q2, q3, q4, q5, q6, q7, hlen, ho1, ho2, hlo, e3, e4, e5, e12, e55, e56, e57, l4, l5, l12, c1, hi, idxA, Int.toNat_natCast, ol, c1', c2', c3', ov]; refine hK _ _ ?_; clear hK K hG G; repeat (with_reducible first | refine thenI ?_ | refine thenE ?_ | refine thenR ?_ | refine inBI ?_ | refine inBR ?_ | refine inBS ?_ | refine inBN (by decide) ?_)
     repeat (first | with_reducible (first | refine thenI ?_ | refine thenE ?_ | refine thenR ?_ | refine inBI ?_ | refine inBR ?_ | refine inBS ?_ | refine inBN (by decide) ?_) | refine W_seqS ?_ | refine W_seqC ?_ | refine W_seqB ?_ | refine W_block ?_ | refine W_skip ?_ | (apply W_condB; (case hc => (simp (disch := omega) only [go_sem, ↓reduceIte, Nat.reduceEqDiff, q1, q2, q3, q4, q5, q6, q7, hlen, ho1, ho2, hlo, e3, e4, e5, e12, e55, e56, e57, l4, l5, l12, c1, hi, idxA, Int.toNat_natCast, ol, c1', c2', c3', ov]); rfl); first | refine qzT ?_ | refine qzF ?_) | ((first | refine W_reg rfl fun G K hG hK => ?_ | refine W_end rfl fun G K hG hK => ?_); simp (disch := omega) only [go_sem, ↓reduceIte, Nat.reduceEqDiff, hG, q1, q2, q3, q4, q5, q6, q7, hlen, ho1, ho2, hlo, e3, e4, e5, e12, e55, e56, e57, l4, l5, l12, c1, hi, idxA, Int.toNat_natCast, ol, c1', c2', c3', ov]; refine hK _ _ ?_; clear hK K hG G))
     refine ⟨args.length - (j + 1), by omega, j + 1, l2, v, L2, rfl, by omega, hgr.trans hg2, hown2, hfr2, hinf, by omega, (by refine ⟨?_, ?_, ?_, ?_, ?_, ?_, ?_, ?_, ?_, ?_⟩ <;> ((simp (disch := omega) only [go_sem, ↓reduceIte, Nat.reduceEqDiff, q1, q2, q3, q4, q5, q6, q7, hlen, ho1, ho2, hlo, e3, e4, e5, e12, e55, e56, e57, l4, l5, l12, c1, hi, idxA, Int.toNat_natCast, ol, c1', c2', c3']); try rfl))⟩
   ·have c9 : decide ((j : Int) < (os.length : Int)) = false := by simpa using hja
    have hhd : (os.drop j).headD emptyB = (⟨#[]⟩ : ByteArray) := by rw [List.drop_eq_nil_of_le (by omega)]; rfl
    rw [hhd] at hinf
    have htl : (os.drop j).tail = os.drop (j + 1) := by rw [List.tail_drop]
    rw [htl] at hinf
    repeat (first | with_reducible (first | refine thenI ?_ | refine thenE ?_ | refine thenR ?_ | refine inBI ?_ | refine inBR ?_ | refine inBS ?_ | refine inBN (by decide) ?_) | refine W_seqS ?_ | refine W_seqC ?_ | refine W_seqB ?_ | refine W_block ?_ | refine W_skip ?_ | (apply W_condB; (case hc => (simp (disch := omega) only [go_sem, ↓reduceIte, Nat.reduceEqDiff, q1, q2, q3, q4, q5, q6, q7, hlen, ho1, ho2, hlo, e3, e4, e5, e12, e55, e56, e57, l4, l5, l12, c1, hi, idxA, Int.toNat_natCast, ol, c1', c2', c3', hld, c9]); rfl); first | refine qzT ?_ | refine qzF ?_) | ((first | refine W_reg rfl fun G K hG hK => ?_ | refine W_end rfl fun G K hG hK => ?_); simp (disch := omega) only [go_sem, ↓reduceIte, Nat.reduceEqDiff, hG, q1, q2, q3, q4, q5, q6, q7, hlen, ho1, ho2, hlo, e3, e4, e5, e12, e55, e56, e57, l4, l5, l12, c1, hi, idxA, Int.toNat_natCast, ol, c1', c2', c3', hld, c9]; refine hK _ _ ?_; clear hK K hG G))
    (repeat (first | refine W_seqS ?_ | refine W_seqC ?_ | refine W_seqB ?_ | refine W_block ?_)); refine W_reg rfl fun G K hG hK => ?_; simp (disch := omega) only [go_sem, ↓reduceIte, Nat.reduceEqDiff, hG, q1, q2, q3, q4, q5, q6, q7, hlen, ho1, ho2, hlo, e3, e4, e5, e12, e55, e56, e57, l4, l5, l12, c1, hi, idxA, Int.toNat_natCast, ol, c1', c2', c3']
    refine w_call (ih args[j] (List.getElem_mem hlt) (⟨#[]⟩ : ByteArray) s0 st' _ _ vs1 r L1 (hlt0.args.2 _ (List.getElem_mem hlt)) (by omega) hext hG' hE' hown hfr) (by simp (disch := omega) only [go_sem, ↓reduceIte, Nat.reduceEqDiff, q1, q2, q3, q4, q5, q6, q7, hlen, ho1, ho2, hlo, e3, e4, e5, e12, e55, e56, e57, l4, l5, l12, c1, hi, idxA, Int.toNat_natCast, ol, c1', c2', c3']) ?hl ?_
    case hl => first | rfl | (simp only [go_sem, List.all_cons, List.all_nil, Bool.not_false, Bool.and_self, q1, q2, q3, q4, q5, q6, q7, hlen, ho1, ho2, hlo, e3, e4, e5, e12, e55, e56, e57, l4, l5, l12, c1, hi, idxA, Int.toNat_natCast, ol, c1', c2', c3']; done)
    rintro r_ sb ⟨x1, hres⟩; refine ⟨fun e => (by cases e), ?_⟩
    cases hmf : T.inferF g args[j] (⟨#[]⟩ : ByteArray) vs1 with
    | none =>
     rw [hmf] at hres hinf
     obtain ⟨v, hv, rfl⟩ := hres
     simp (disch := omega) only [go_sem, ↓reduceIte, Nat.reduceEqDiff, hG, q1, q2, q3, q4, q5, q6, q7, hlen, ho1, ho2, hlo, e3, e4, e5, e12, e55, e56, e57, l4, l5, l12, c1, hi, idxA, Int.toNat_natCast, ol, c1', c2', c3', hv]; refine hK _ _ ?_; clear hK K hG G; repeat (with_reducible first | refine thenI ?_ | refine thenE ?_ | refine thenR ?_ | refine inBI ?_ | refine inBR ?_ | refine inBS ?_ | refine inBN (by decide) ?_)
     repeat (first | with_reducible (first | refine thenI ?_ | refine thenE ?_ | refine thenR ?_ | refine inBI ?_ | refine inBR ?_ | refine inBS ?_ | refine inBN (by decide) ?_) | refine W_seqS ?_ | refine W_seqC ?_ | refine W_seqB ?_ | refine W_block ?_ | refine W_skip ?_ | (apply W_condB; (case hc => (simp (disch := omega) only [go_sem, ↓reduceIte, Nat.reduceEqDiff, q1, q2, q3, q4, q5, q6, q7, hlen, ho1, ho2, hlo, e3, e4, e5, e12, e55, e56, e57, l4, l5, l12, c1, hi, idxA, Int.toNat_natCast, ol, c1', c2', c3']); rfl); first | refine qzT ?_ | refine qzF ?_) | ((first | refine W_reg rfl fun G K hG hK => ?_ | refine W_end rfl fun G K hG hK => ?_); simp (disch := omega) only [go_sem, ↓reduceIte, Nat.reduceEqDiff, hG, q1, q2, q3, q4, q5, q6, q7, hlen, ho1, ho2, hlo, e3, e4, e5, e12, e55, e56, e57, l4, l5, l12, c1, hi, idxA, Int.toNat_natCast, ol, c1', c2', c3']; refine hK _ _ ?_; clear hK K hG G))
     rw [← hinf]
     refine W_ret ?_; try (repeat (with_reducible first | refine thenI ?_ | refine thenE ?_ | refine thenR ?_ | refine inBI ?_ | refine inBR ?_ | refine inBS ?_ | refine inBN (by decide) ?_))
     refine fin2 (.inl rfl) (by (simp (disch := omega) only [go_sem, ↓reduceIte, Nat.reduceEqDiff, q1, q2, q3, q4, q5, q6, q7, hlen, ho1, ho2, hlo, e3, e4, e5, e12, e55, e56, e57, l4, l5, l12, c1, hi, idxA, Int.toNat_natCast, ol, c1', c2', c3']); try rfl) rfl (by (simp (disch := omega) only [go_sem, ↓reduceIte, Nat.reduceEqDiff, q1, q2, q3, q4, q5, q6, q7, hlen, ho1, ho2, hlo, e3, e4, e5, e12, e55, e56, e57, l4, l5, l12, c1, hi, idxA, Int.toNat_natCast, ol, c1', c2', c3']); try rfl) rfl ⟨x1, _, rfl, rfl⟩
    | some l2 =>
     rw [hmf] at hres hinf
     obtain ⟨v, L2, rfl, hown2, hfr2, hg2⟩ := hres
     have ov := hown2.loc
     have hl2 := hil _ _ _ hmf
     simp (disch := omega) only [go_sem, ↓reduceIte, Nat.reduceEqDiff, hG, q1, q2, q3, q4, q5, q6, q7, hlen, ho1, ho2, hlo, e3, e4, e5, e12, e55, e56, e57, l4, l5, l12, c1, hi, idxA, Int.toNat_natCast, ol, c1', c2', c3', ov]; refine hK _ _ ?_; clear hK K hG G; repeat (with_reducible first | refine thenI ?_ | refine thenE ?_ | refine thenR ?_ | refine inBI ?_ | refine inBR ?_ | refine inBS ?_ | refine inBN (by decide) ?_)
     repeat (first | with_reducible (first | refine thenI ?_ | refine thenE ?_ | refine thenR ?_ | refine inBI ?_ | refine inBR ?_ | refine inBS ?_ | refine inBN (by decide) ?_) | refine W_seqS ?_ | refine W_seqC ?_ | refine W_seqB ?_ | refine W_block ?_ | refine W_skip ?_ | (apply W_condB; (case hc => (simp (disch := omega) only [go_sem, ↓reduceIte, Nat.reduceEqDiff, q1, q2, q3, q4, q5, q6, q7, hlen, ho1, ho2, hlo, e3, e4, e5, e12, e55, e56, e57, l4, l5, l12, c1, hi, idxA, Int.toNat_natCast, ol, c1', c2', c3', ov]); rfl); first | refine qzT ?_ | refine qzF ?_) | ((first | refine W_reg rfl fun G K hG hK => ?_ | refine W_end rfl fun G K hG hK => ?_); simp (disch := omega) only [go_sem, ↓reduceIte, Nat.reduceEqDiff, hG, q1, q2, q3, q4, q5, q6, q7, hlen, ho1, ho2, hlo, e3, e4, e5, e12, e55, e56, e57, l4, l5, l12, c1, hi, idxA, Int.toNat_natCast, ol, c1', c2', c3', ov]; refine hK _ _ ?_; clear hK K hG G))
     refine ⟨args.length - (j + 1), by omega, j + 1, l2, v, L2, rfl, by omega, hgr.trans hg2, hown2, hfr2, hinf, by omega, (by refine ⟨?_, ?_, ?_, ?_, ?_, ?_, ?_, ?_, ?_, ?_⟩ <;> ((simp (disch := omega) only [go_sem, ↓reduceIte, Nat.reduceEqDiff, q1, q2, q3, q4, q5, q6, q7, hlen, ho1, ho2, hlo, e3, e4, e5, e12, e55, e56, e57, l4, l5, l12, c1, hi, idxA, Int.toNat_natCast, ol, c1', c2', c3']); try rfl))⟩
  ·have c1 : decide ((j : Int) < (args.length : Int)) = false := by simpa using hlt
   have hjn : j = args.length := by omega
   subst hjn
   have hnil : args.drop args.length = [] := List.drop_length
   rw [hnil] at hinf
   simp only [T.inferL] at hinf
   have ol := hown.loc
   repeat (first | with_reducible (first | refine thenI ?_ | refine thenE ?_ | refine thenR ?_ | refine inBI ?_ | refine inBR ?_ | refine inBS ?_ | refine inBN (by decide) ?_) | refine W_seqS ?_ | refine W_seqC ?_ | refine W_seqB ?_ | refine W_block ?_ | refine W_skip ?_ | (apply W_condB; (case hc => (simp (disch := omega) only [go_sem, ↓reduceIte, Nat.reduceEqDiff, q1, q2, q3, q4, q5, q6, q7, hlen, ho1, ho2, hlo, e3, e4, e5, e12, e55, e56, e57, l4, l5, l12, c1]); rfl); first | refine qzT ?_ | refine qzF ?_) | ((first | refine W_reg rfl fun G K hG hK => ?_ | refine W_end rfl fun G K hG hK => ?_); simp (disch := omega) only [go_sem, ↓reduceIte, Nat.reduceEqDiff, hG, q1, q2, q3, q4, q5, q6, q7, hlen, ho1, ho2, hlo, e3, e4, e5, e12, e55, e56, e57, l4, l5, l12, c1]; refine hK _ _ ?_; clear hK K hG G))
   refine W_exit ?_; repeat (with_reducible first | refine thenI ?_ | refine thenE ?_ | refine thenR ?_ | refine inBI ?_ | refine inBR ?_ | refine inBS ?_ | refine inBN (by decide) ?_)
   repeat (first | with_reducible (first | refine thenI ?_ | refine thenE ?_ | refine thenR ?_ | refine inBI ?_ | refine inBR ?_ | refine inBS ?_ | refine inBN (by decide) ?_) | refine W_seqS ?_ | refine W_seqC ?_ | refine W_seqB ?_ | refine W_block ?_ | refine W_skip ?_ | (apply W_condB; (case hc => (simp (disch := omega) only [go_sem, ↓reduceIte, Nat.reduceEqDiff, q1, q2, q3, q4, q5, q6, q7, hlen, ho1, ho2, hlo, e3, e4, e5, e12, e55, e56, e57, l4, l5, l12, c1]); rfl); first | refine qzT ?_ | refine qzF ?_) | ((first | refine W_reg rfl fun G K hG hK => ?_ | refine W_end rfl fun G K hG hK => ?_); simp (disch := omega) only [go_sem, ↓reduceIte, Nat.reduceEqDiff, hG, q1, q2, q3, q4, q5, q6, q7, hlen, ho1, ho2, hlo, e3, e4, e5, e12, e55, e56, e57, l4, l5, l12, c1]; refine hK _ _ ?_; clear hK K hG G))
   rw [← hinf]
   refine W_ret ?_; try (repeat (with_reducible first | refine thenI ?_ | refine thenE ?_ | refine thenR ?_ | refine inBI ?_ | refine inBR ?_ | refine inBS ?_ | refine inBN (by decide) ?_))
   refine fin2 (.inl rfl) (by (simp (disch := omega) only [go_sem, ↓reduceIte, Nat.reduceEqDiff, q1, q2, q3, q4, q5, q6, q7, hlen, ho1, ho2, hlo, e3, e4, e5, e12, e55, e56, e57, l4, l5, l12, c1]); try rfl) ol (by (simp (disch := omega) only [go_sem, ↓reduceIte, Nat.reduceEqDiff, q1, q2, q3, q4, q5, q6, q7, hlen, ho1, ho2, hlo, e3, e4, e5, e12, e55, e56, e57, l4, l5, l12, c1]); try rfl) rfl ⟨hgr.away.ext_of (hx0.trans hxs) (hs.top hf), r, L1, rfl, hown, hfr, (Grow.of_ext hxs s).trans hgr⟩

end

end Go.Proofs.Ytdijnohbbgbklaa.AM