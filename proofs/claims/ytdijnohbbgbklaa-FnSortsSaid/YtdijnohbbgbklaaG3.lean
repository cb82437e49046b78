/- My texts for the law, laid together (part 3): O15 Q6 PL1 O1 O2 K6. -/
import Derived.Test.YtdijnohbbgbklaaG2
import Derived.Sort.Walk0
import Derived.Lib.Strings
namespace Go.Proofs.Ytdijnohbbgbklaa.AM
open Go
attribute [local go_sem] List.map_cons List.map_nil List.all_cons List.all_nil Bool.and_self Option.map_some List.getElem?_toArray Option.bind_some gye_b gye_t gsk_b gsk_t gb1 gb2 gb3 gb4 bne_self_eq_false beq_self_eq_true w_guard w_nil stepV_some step_some step_some' w_move w_assign w_pick w_binOp w_unOp w_load w_fieldAddr w_indexAddr w_len w_max w_index ev_max max_int ev_index w_box w_alloc w_store w_field w_extract w_nilCheck w_convert w_buildSlice w_build ev_buildL fillL_nil fillL_cons bs0 bs1 ev_conv ev_bin ev_un ev_pick ev_load ev_fieldAddr ev_indexAddr ev_len ev_field ev_extract ev_nilCheck fr_tmp fr_int fr_bool fr_str fr_nil fr_func put_some put_none bin_lss bin_leq bin_gtr bin_geq bin_eql bin_neq bin_add bin_sub bin_mul bin_seql bin_sneq un_not pick_ ext_ loadA_p cellAt_l cellAt_h okPtr_l okPtr_h fadA_p allocA_l storeA_l cells_agg cells_int cells_str cells_sl cells_bool flat_i flat_s flat_b flat_sl flat_nil loc_agg loc_int loc_str loc_sl loc_bool loc_fn loc_ptr okv_agg okv_int okv_str okv_sl okv_bool cellsFrom splice upd_eval argEnv_zero argEnv_succ ne_eq Nat.add_one_ne_zero not_false_eq_true List.not_mem_nil and_self decide_true List.getElem?_cons_zero List.getElem?_cons_succ List.size_toArray List.length_cons List.length_nil List.take_succ_cons List.take_zero List.drop_succ_cons List.drop_zero List.cons_append List.nil_append List.drop_nil Bool.not_true Bool.not_false Bool.false_eq_true Nat.zero_add Nat.add_zero wrap_in List.toList_toArray List.mem_cons or_self or_false false_or
attribute [local go_sem] ag103 ag22 ag24 ag25 ag27 ag28 ag3 ag30 ag37 ag5 ag54 ag9 bu27 bu30 bu37 bu54 bu67 by30 by37 by54 by9 el22 el24 el25 el28 el33 el52 of27_0 of27_1 of30_0 of30_1 of30_2 of30_3 of37_0 of37_1 of54_0 of54_1 of54_2 of67_0 of67_1 of67_2 ro3_3 ro3_4 ro30_0 ro30_1 ro30_2 ro37_0 ro37_1 ro37_4 ro54_1 ro54_7 ro9_0 ro9_1 ro9_2 ro9_3 ro9_4 ro9_5 sz103 sz22 sz24 sz25 sz27 sz28 sz3 sz30 sz37 sz5 sz54 sz9 ze103 ze27 ze3 ze30 ze37 ze54 ze9
section
/- Signatures drawn: l6Bent. -/
open Go Go.Proofs
set_option linter.unusedVariables false
set_option linter.unusedSimpArgs false
set_option maxRecDepth 100000
-- AUTO

def SgP (g : Sgn) : Prop := g.sorts.length ≤ 3 ∧ g.ops.length ≤ 8 ∧ (∀ o ∈ g.ops, o.args.length ≤ 4 ∧ o.nm.size ≤ 8) ∧ ∀ x ∈ g.sorts, x.size ≤ 8
theorem sl_rowBl {α : Type} [Kind α] {q n0 : Nat} {st : St} {xs : List α} {v : Value} {L : List Nat} (h : Sl st xs v L) (hf : Fresh n0 L) (hq : q < n0) : Rw (bl q st) xs v := (sl_bl h hf hq).row
theorem baseP : ∀ o ∈ baseOps, o.args.length ≤ 4 ∧ o.nm.size ≤ 8 := by decide +kernel
theorem baseS : ∀ x ∈ [bE, (⟨#[107]⟩ : ByteArray)], x.size ≤ 8 := by decide +kernel
theorem litBl {q : Nat} {st : St} (ns : List ByteArray) (hq : q < st.length) : Rw (bl q (st ++ [(⟨ns.map Value.string, 9, 0⟩ : Blk)])) ns (.slice (some ⟨st.length, 0, none⟩) ns.length ns.length) := row_bl (row_last st ns 9 ns.length) fun e => by simp only [topId, Option.some.injEq] at e; omega
theorem rowO_head {S : St} {o : Opr} {os : List Opr} {cs : List Value} {K : List Nat} (h : RowO (Kind.own S) (o :: os) cs K) : ∃ s cs' K1 K2, cs = .string o.nm :: s :: .string o.res :: cs' ∧ Sl S o.args s K1 ∧ RowO (Kind.own S) os cs' K2 ∧ K = K1 ++ K2 := by
 cases h with
 | cons x xs cx cs Lx L h hs =>
  obtain ⟨s, rfl, h2⟩ := h
  exact ⟨s, cs, Lx, L, rfl, h2, hs, rfl⟩
/-- A row of operations, read where neither q nor its own block is needed. -/
theorem ops_fin {q i : Nat} {S st3 : St} {ops : List Opr} {v' : Value} {L' : List Nat} (h2 : SliceO (fun (p : Opr) cs Lx => EncO (bl i (bl q S)) p cs ∧ Lx = []) 54 st3 ops v' L') (h3 : Fresh (q + 1) L') (ha : Away (some i) S st3) : Rw (bl q st3) ops v' := by
 have hrow : Row (EncO (bl i (bl q S))) 3 st3 ops v' := SliceO.row (fun x cx Lx h => by obtain ⟨⟨z, rfl, _⟩, _⟩ := h; rfl) (fun x _ cx Lx h => h.1) h2
 have hrb : Row (EncO (bl i (bl q S))) 3 (bl q st3) ops v' := row_bl hrow fun e => by
  rcases h2.top h3 with h | ⟨m, hm, h⟩ <;> rw [h] at e
  ·cases e
  ·cases e; omega
 have hx2 : Ext (bl i (bl q S)) (bl i (bl q st3)) := bl_away (bl_awayk ha)
 exact Row.mono hrb (Ext.refl _) fun x _ cx he => by
  obtain ⟨z, rfl, hz⟩ := EncO.ext he hx2
  exact ⟨z, rfl, rwS_ci ci_bl hz⟩
/-- The first operation's arguments are set anew. -/
theorem ops_set {q i c : Nat} {S st1 : St} {o : Opr} {os : List Opr} {sx : Value} {args : List ByteArray} {cs' : List Value} {K2 : List Nat} (hr : RowO (Kind.own S) os cs' K2) (hi : i ∉ K2) (hqi : q < i) (hqK : ∀ j ∈ K2, j ≠ q) (hx : Rw (bl q S) args sx) (hne : topId sx ≠ some i)
  (h1 : st1[i]? = some ⟨.string o.nm :: sx :: .string o.res :: cs', 54, 0⟩) (hl : st1.length = S.length) (hf : ∀ j, j ≠ i → st1[j]? = S[j]?) : Rw (bl q st1) (⟨o.nm, args, o.res⟩ :: os) (.slice (some ⟨i, 0, none⟩) (os.length + 1) c) := by
 have hr' := ops_blank (X := bl i (bl q S)) hr fun j hj => by rw [bl_get (q := i) (i := j) (fun e => hi (by rw [← e]; exact hj)), bl_get (q := q) (i := j) (hqK j hj)]
 have hE : EncO (bl i (bl q S)) ⟨o.nm, args, o.res⟩ [.string o.nm, sx, .string o.res] := ⟨sx, rfl, row_bl hx hne⟩
 exact ops_fin (L' := [i]) (S := S) (.inr ⟨i, c, _, [], rfl, h1, RowO.cons ⟨o.nm, args, o.res⟩ os [.string o.nm, sx, .string o.res] cs' [] [] ⟨hE, rfl⟩ hr', rfl⟩) ⟨by simp, fun j hj => by cases List.mem_singleton.1 hj; omega⟩ ⟨by omega, fun j _ hj => hf j (fun e => hj (by rw [e]))⟩
/-- What stays over the steps of the tree. -/
structure TreeI (q : Nat) (xs : List Byt) (st sb : St) (s u : Value) (L1 L2 : List Nat) (S : St) : Prop where
 hd : Drawn q xs st S
 hS : Sl S [bE, ⟨#[107]⟩] s L1
 hU : Sl S baseOps u L2
 hle : sb.length ≤ S.length
theorem TreeI.make {q : Nat} {xs : List Byt} {st sb S : St} {s u : Value} {L1 L2 : List Nat} (h : TreeI q xs st sb s u L1 L2 S) (b : Blk) : TreeI q xs st sb s u L1 L2 (S ++ [b]) := ⟨h.hd.ext2 (Ext.app _ _), h.hS.ext (Ext.app _ _), h.hU.ext (Ext.app _ _), by rw [List.length_append]; have := h.hle; omega⟩
theorem TreeI.draw {q : Nat} {xs : List Byt} {st sb S S' : St} {s u : Value} {L1 L2 : List Nat} (h : TreeI q xs st sb s u L1 L2 S) (hf1 : Fresh st.length L1) (hf2 : Fresh st.length L2) (hq : q < st.length) (hdr : Drawn q xs S S') : TreeI q xs st sb s u L1 L2 S' := ⟨h.hd.trans hdr, hdr.sl h.hS hf1 hq, hdr.sl h.hU hf2 hq, Nat.le_trans h.hle hdr.away.1⟩
theorem TreeI.lit {q : Nat} {xs : List Byt} {st sb S : St} {s u : Value} {L1 L2 : List Nat} (h : TreeI q xs st sb s u L1 L2 S) (hq : q < sb.length) (ns : List ByteArray) : Rw (bl q (S ++ [(⟨ns.map Value.string, 9, 0⟩ : Blk)])) ns (.slice (some ⟨S.length, 0, none⟩) ns.length ns.length) ∧ sb.length ≤ S.length := ⟨litBl ns (by have := h.hle; omega), h.hle⟩
theorem rw_make {q : Nat} {S : St} {ns : List ByteArray} {v : Value} (h : Rw (bl q S) ns v) (b : Blk) : Rw (bl q (S ++ [b])) ns v := h.ext (bl_away (Away.of_ext (Ext.app _ _)))
theorem rw_draw {q : Nat} {xs : List Byt} {S S' : St} {ns : List ByteArray} {v : Value} (h : Rw (bl q S) ns v) (hdr : Drawn q xs S S') : Rw (bl q S') ns v := h.ext (bl_away hdr.away)
theorem lit_pick {q : Nat} {xs : List Byt} {S : St} {ns : List ByteArray} {i n m : Nat} (hn : 0 < ns.length) (hn2 : ns.length ≤ 256) (hz : ∀ x ∈ ns, x.size ≤ 8) (hc : Cur S q xs) (h : Rw (bl q S) ns (.slice (some ⟨i, 0, none⟩) n m)) (hi : q < i) : CallS Try.prog 18 [.pointer (some ⟨q, 0, none⟩), .slice (some ⟨i, 0, none⟩) n m] S fun r st2 => (∃ w, r = .string w ∧ w.size ≤ 8) ∧ Drawn q xs S st2 :=
 (l1Pick_ok q xs S ns _ hn hn2 hc (rwS_ci ci_bl h) (fun e => by simp only [topId, Option.some.injEq] at e; omega)).mono fun r st2 ⟨⟨w, hw, hm⟩, hd, _⟩ => ⟨⟨w, hw, hz w hm⟩, hd⟩
theorem lit_take {q : Nat} {S : St} {ns : List ByteArray} {i n : Nat} {y : Int} (h : Rw (bl q S) ns (.slice (some ⟨i, 0, none⟩) n n)) (hn : ns.length = n) (h0 : 0 ≤ y) (h1 : y < n + 1) :
  ∃ k : Nat, k ≤ n ∧ sliceA Try.prog 24 (.slice (some ⟨i, 0, none⟩) n n) none (some (.int .i64 y)) = some (.slice (some ⟨i, 0, none⟩) k k) ∧ Rw (bl q S) (ns.take k) (.slice (some ⟨i, 0, none⟩) k k) := by
 subst hn
 obtain ⟨k, rfl⟩ : ∃ k : Nat, y = k := ⟨y.toNat, by omega⟩
 obtain ⟨g1, g2⟩ := row_take2 (sz := 0) (P := Try.prog) (t := 24) h Try.underlying24 sz9 (k := k) (by omega)
 exact ⟨k, by omega, g1, g2⟩
set_option maxHeartbeats 8000000 in
theorem l6Bent_ok (q : Nat) (xs : List Byt) (st : St) (hq : Cur st q xs) :
  CallS Try.prog 16 [.pointer (some ⟨q, 0, none⟩)] st fun r st2 => Drawn q xs st st2 ∧ ∃ g s u, r = .agg #[s, u] ∧ Rw (bl q st2) (Sgn.sorts g) s ∧ Rw (bl q st2) (Sgn.ops g) u ∧ SgP g := by
 refine CallS_of_W [] 43 Try.func16 rfl rfl rfl rfl (by simp) ?_
 repeat (first | with_reducible (first | refine thenI ?_ | refine thenE ?_ | refine thenR ?_ | refine inBI ?_ | refine inBR ?_ | refine inBS ?_ | refine inBN (by decide) ?_) | refine W_seqS ?_ | refine W_seqC ?_ | refine W_seqB ?_ | refine W_block ?_ | refine W_skip ?_ | (apply W_condB; (case hc => (simp (disch := omega) only [go_sem, ↓reduceIte, Nat.reduceEqDiff]); rfl); first | refine qzT ?_ | refine qzF ?_) | ((first | refine W_reg rfl fun G K hG hK => ?_ | refine W_end rfl fun G K hG hK => ?_); simp (disch := omega) only [go_sem, ↓reduceIte, Nat.reduceEqDiff, hG]; refine hK _ _ ?_; clear hK K hG G))
 (repeat (first | refine W_seqS ?_ | refine W_seqC ?_ | refine W_seqB ?_ | refine W_block ?_)); refine W_reg rfl fun G K hG hK => ?_; simp (disch := omega) only [go_sem, ↓reduceIte, Nat.reduceEqDiff, hG]
 refine w_call (l6Base_ok st) (by simp (disch := omega) only [go_sem, ↓reduceIte, Nat.reduceEqDiff]) ?hl ?_
 case hl => first | rfl | (simp only [go_sem, List.all_cons, List.all_nil, Bool.not_false, Bool.and_self]; done)
 rintro r_ sa ⟨x0, s, u, L1, L2, rfl, hS0, hU0, hf0⟩; refine ⟨fun e => (by cases e), ?_⟩
 have a1 := hS0.okv
 have a2 := hS0.loc
 have a3 := hS0.cells
 have a4 := hU0.okv
 have a5 := hU0.loc
 have a6 := hU0.cells
 simp (disch := omega) only [go_sem, ↓reduceIte, Nat.reduceEqDiff, hG, a1, a2, a3, a4, a5, a6]; refine hK _ _ ?_; clear hK K hG G; repeat (with_reducible first | refine thenI ?_ | refine thenE ?_ | refine thenR ?_ | refine inBI ?_ | refine inBR ?_ | refine inBS ?_ | refine inBN (by decide) ?_)
 (repeat (first | refine W_seqS ?_ | refine W_seqC ?_ | refine W_seqB ?_ | refine W_block ?_)); refine W_reg rfl fun G K hG hK => ?_; simp (disch := omega) only [go_sem, ↓reduceIte, Nat.reduceEqDiff, hG]
 refine w_call (l1Below_ok q xs sa 10 (by omega) (by omega) (hq.ext x0)) (by simp (disch := omega) only [go_sem, ↓reduceIte, Nat.reduceEqDiff]) ?hl ?_
 case hl => first | rfl | (simp only [go_sem, List.all_cons, List.all_nil, Bool.not_false, Bool.and_self]; done)
 rintro r_ sb ⟨⟨x, rfl, hx0, hx1⟩, hd0, hl0⟩; refine ⟨fun e => (by cases e), ?_⟩
 simp (disch := omega) only [go_sem, ↓reduceIte, Nat.reduceEqDiff, hG]; refine hK _ _ ?_; clear hK K hG G; repeat (with_reducible first | refine thenI ?_ | refine thenE ?_ | refine thenR ?_ | refine inBI ?_ | refine inBR ?_ | refine inBS ?_ | refine inBN (by decide) ?_)
 have hq0 := hq.lt
 have hf1 : Fresh st.length L1 := ⟨(List.nodup_append.1 hf0.1).1, fun i hi => hf0.2 i (by simp [hi])⟩
 have hf2 : Fresh st.length L2 := ⟨(List.nodup_append.1 hf0.1).2.1, fun i hi => hf0.2 i (by simp [hi])⟩
 have hap0 : ∀ i ∈ L1, i ∉ L2 := fun i h1 h2 => (List.nodup_append.1 hf0.1).2.2 i h1 i h2 rfl
 have hS := hd0.sl hS0 hf1 hq0
 have hU := hd0.sl hU0 hf2 hq0
 have hd := Drawn.pre x0 hd0
 clear hS0 hU0 hd0
 refine W_to (fun fr st' => ∃ (g : Sgn) (s' u' : Value), (Drawn q xs st st') ∧ (Rw (bl q st') g.sorts s') ∧ (Rw (bl q st') g.ops u') ∧ (SgP g) ∧ (okv s' = true) ∧ (isLoc s' = false) ∧ (vc s' = #[s']) ∧ (okv u' = true) ∧ (isLoc u' = false) ∧ (vc u' = #[u']) ∧ (fr.env 2 = .pointer (some ⟨2, 0, some 1⟩)) ∧ (fr.env 3 = .pointer (some ⟨3, 0, some 1⟩)) ∧ (fr.loc 3 = (1, [s', u'])) ∧ ((fr.loc 2).1 = 1 ∧ (fr.loc 2).2.length = 2)) ?_ ?_
 ·have hx : x = 0 ∨ x = 1 ∨ x = 2 ∨ 3 ≤ x := by omega
  rcases hx with rfl | rfl | rfl | hx3
  ·repeat (first | with_reducible (first | refine thenI ?_ | refine thenE ?_ | refine thenR ?_ | refine inBI ?_ | refine inBR ?_ | refine inBS ?_ | refine inBN (by decide) ?_) | refine W_seqS ?_ | refine W_seqC ?_ | refine W_seqB ?_ | refine W_block ?_ | refine W_skip ?_ | (apply W_condB; (case hc => (simp (disch := omega) only [go_sem, ↓reduceIte, Nat.reduceEqDiff, a1, a2, a3, a4, a5, a6]); rfl); first | refine qzT ?_ | refine qzF ?_) | ((first | refine W_reg rfl fun G K hG hK => ?_ | refine W_end rfl fun G K hG hK => ?_); simp (disch := omega) only [go_sem, ↓reduceIte, Nat.reduceEqDiff, hG, a1, a2, a3, a4, a5, a6]; refine hK _ _ ?_; clear hK K hG G))
   refine W_endL mixed [3, 9] [] [4] [[(0, false), (1, false), (2, false), (3, false), (4, false), (5, false), (6, false), (7, false), (8, false)]] rfl (by decide +kernel) (by intro t ht; simp only [List.mem_cons, List.not_mem_nil, or_false] at ht; (rcases ht with rfl | rfl) <;> (first | rfl | (simp only [a1, a2, a3, a4, a5, a6]; done) | (simp only [a1, a2, a3, a4, a5, a6]; rfl))) fun G K hG hK => (fm_cons ?_ fm_nil)
   simp only [pickOps, List.filterMap_cons, List.filterMap_nil, List.getElem?_cons_zero, List.getElem?_cons_succ, Option.map_some]; simp (disch := omega) only [go_sem, ↓reduceIte, Nat.reduceEqDiff, Nat.reduceAdd, Nat.reduceLeDiff, hG, a1, a2, a3, a4, a5, a6, bsL, fillK_cons, fillK_nil, Nat.reduceMul]
   refine w_call (l1Pick_lit q xs sb _ _ 4 hd.cur rfl (by simp) (by simp)) (by simp (disch := omega) only [go_sem, ↓reduceIte, Nat.reduceEqDiff, a1, a2, a3, a4, a5, a6]) ?hl ?_
   case hl => first | rfl | (simp only [go_sem, List.all_cons, List.all_nil, Bool.not_false, Bool.and_self, a1, a2, a3, a4, a5, a6]; done)
   rintro r_ sc ⟨⟨w, rfl, hw⟩, hd3, hl3⟩; refine ⟨fun e => (by cases e), ?_⟩
   have hdp := Drawn.pre (Ext.app sb _) hd3
   have hS2 := hdp.sl hS hf1 hq0
   have hU2 := hdp.sl hU hf2 hq0
   have hl1 := hd.away.1
   have hl2 := hdp.away.1
   obtain ⟨s2, sd, L', hap, hs2, hf3, hg⟩ := OwnS.step (x := w) hS2 hf1 (by omega) (Ext.refl sc) (by simp)
   have b1 := hs2.okv
   have b2 := hs2.loc
   have b3 := hs2.cells
   have htop : ∀ j, topId s = some j → j ∈ L1 := by
    rcases hS2 with ⟨rfl, _, _⟩ | ⟨i', c', cs', K', rfl, _, _, rfl⟩
    ·intro j e; cases e
    ·intro j e; cases e; simp
   have hU3 := hU2.frame fun j hj => hg.away.2 j (hU2.lt j hj) fun e => hap0 j (htop j e) hj
   simp (disch := omega) only [go_sem, ↓reduceIte, Nat.reduceEqDiff, hG, a1, a2, a3, a4, a5, a6, w_append, hap, b1, b2, b3]; refine hK _ _ ?_; clear hK K hG G; repeat (with_reducible first | refine thenI ?_ | refine thenE ?_ | refine thenR ?_ | refine inBI ?_ | refine inBR ?_ | refine inBS ?_ | refine inBN (by decide) ?_)
   have hd5 : Drawn q xs st sd := Drawn.grow (hd.trans hdp) hg (hS2.top hf1) hq0 rfl
   exact ⟨⟨[bE, ⟨#[107]⟩] ++ [w], baseOps⟩, s2, u, hd5, sl_rowBl hs2 hf3 hq0, sl_rowBl hU3 hf2 hq0, ⟨by simp, (by decide : baseOps.length ≤ 8), baseP, fun x hx => (List.mem_append.1 hx).elim (baseS x) (fun h => by cases List.mem_singleton.1 h; exact size_of_mem2 (m := 8) hw rfl)⟩, b1, b2, b3, a4, a5, a6, (by refine ⟨?_, ?_, ?_, ⟨?_, ?_⟩⟩ <;> ((simp (disch := omega) only [go_sem, ↓reduceIte, Nat.reduceEqDiff, a1, a2, a3, a4, a5, a6]); try rfl))⟩
  ·have v10 : ((1 : Int) == 0) = false := by decide
   repeat (first | with_reducible (first | refine thenI ?_ | refine thenE ?_ | refine thenR ?_ | refine inBI ?_ | refine inBR ?_ | refine inBS ?_ | refine inBN (by decide) ?_) | refine W_seqS ?_ | refine W_seqC ?_ | refine W_seqB ?_ | refine W_block ?_ | refine W_skip ?_ | (apply W_condB; (case hc => (simp (disch := omega) only [go_sem, ↓reduceIte, Nat.reduceEqDiff, a1, a2, a3, a4, a5, a6, v10]); rfl); first | refine qzT ?_ | refine qzF ?_) | ((first | refine W_reg rfl fun G K hG hK => ?_ | refine W_end rfl fun G K hG hK => ?_); simp (disch := omega) only [go_sem, ↓reduceIte, Nat.reduceEqDiff, hG, a1, a2, a3, a4, a5, a6, v10]; refine hK _ _ ?_; clear hK K hG G))
   have hsl : q < sb.length := by have := hd.away.1; omega
   have hT : TreeI q xs st sb s u L1 L2 sb := ⟨hd, hS, hU, Nat.le_refl _⟩
   refine W_endT mixed [3, 19] [] rfl (by decide +kernel) ?_ fun G K F hG hK hF hE => ?_
   ·intro t ht
    simp only [List.mem_cons, List.not_mem_nil, or_false] at ht
    rcases ht with rfl | rfl
    all_goals rfl
   refine hF _ [0] _ _ (by decide +kernel) (fm_cons ?_ fm_nil)
   simp only [pickOps, List.filterMap_cons, List.filterMap_nil, List.getElem?_cons_zero, List.getElem?_cons_succ, Option.map_some]; simp (disch := omega) only [go_sem, ↓reduceIte, Nat.reduceEqDiff, hG]
   refine hF _ [1] _ _ (by decide +kernel) (fm_cons ?_ fm_nil)
   simp only [pickOps, List.filterMap_cons, List.filterMap_nil, List.getElem?_cons_zero, List.getElem?_cons_succ, Option.map_some]; simp (disch := omega) only [go_sem, ↓reduceIte, Nat.reduceEqDiff, hG]
   refine hF _ [2] _ _ (by decide +kernel) (fm_cons ?_ fm_nil)
   simp only [pickOps, List.filterMap_cons, List.filterMap_nil, List.getElem?_cons_zero, List.getElem?_cons_succ, Option.map_some]; simp (disch := omega) only [go_sem, ↓reduceIte, Nat.reduceEqDiff, hG]
   refine hF _ [6] _ _ (by decide +kernel) (fm_cons ?_ fm_nil)
   simp only [pickOps, List.filterMap_cons, List.filterMap_nil, List.getElem?_cons_zero, List.getElem?_cons_succ, Option.map_some]; simp (disch := omega) only [go_sem, ↓reduceIte, Nat.reduceEqDiff, hG]
   refine hF _ [9] _ _ (by decide +kernel) (fm_cons ?_ fm_nil)
   simp only [pickOps, List.filterMap_cons, List.filterMap_nil, List.getElem?_cons_zero, List.getElem?_cons_succ, Option.map_some]; simp (disch := omega) only [go_sem, ↓reduceIte, Nat.reduceEqDiff, hG]
   refine hF _ [3, 5, 10] _ _ (by decide +kernel) (fm_cons ?_ (fm_cons ?_ (fm_cons ?_ fm_nil)))
   ·simp only [pickOps, List.filterMap_cons, List.filterMap_nil, List.getElem?_cons_zero, List.getElem?_cons_succ, Option.map_some]; simp (disch := omega) only [go_sem, ↓reduceIte, Nat.reduceEqDiff, Nat.reduceAdd, Nat.reduceLeDiff, hG, bsL, fillK_cons, fillK_nil, Nat.reduceMul]
    obtain ⟨r3, i3⟩ := hT.lit hsl [⟨#[97]⟩, ⟨#[112, 108, 117, 115]⟩, ⟨#[110, 101, 119]⟩]
    have hT := hT.make (⟨[.string ⟨#[97]⟩, .string ⟨#[112, 108, 117, 115]⟩, .string ⟨#[110, 101, 119]⟩], 9, 0⟩ : Blk)
    refine hF _ [4, 5, 10] _ _ (by decide +kernel) (fm_cons ?_ (fm_cons ?_ (fm_cons ?_ fm_nil)))
    ·simp only [pickOps, List.filterMap_cons, List.filterMap_nil, List.getElem?_cons_zero, List.getElem?_cons_succ, Option.map_some]
     refine w_call (lit_pick (by decide) (by decide) (by decide +kernel) hT.hd.cur r3 (by omega)) (by simp (disch := omega) only [go_sem, ↓reduceIte, Nat.reduceEqDiff]) ?hl ?_
     case hl => first | rfl | (simp only [go_sem, List.all_cons, List.all_nil, Bool.not_false, Bool.and_self]; done)
     rintro r_ s4 ⟨⟨w4, rfl, z4⟩, hdr⟩; refine ⟨fun e => (by cases e), ?_⟩
     simp (disch := omega) only [go_sem, ↓reduceIte, Nat.reduceEqDiff]
     have r3 := rw_draw r3 hdr
     have hT := hT.draw hf1 hf2 hq0 hdr
     refine hF _ [5, 7, 10] _ _ (by decide +kernel) (fm_cons ?_ (fm_cons ?_ (fm_cons ?_ fm_nil)))
     ·simp only [pickOps, List.filterMap_cons, List.filterMap_nil, List.getElem?_cons_zero, List.getElem?_cons_succ, Option.map_some]; simp (disch := omega) only [go_sem, ↓reduceIte, Nat.reduceEqDiff, Nat.reduceAdd, Nat.reduceLeDiff, hG, bsL, fillK_cons, fillK_nil, Nat.reduceMul]
      obtain ⟨r5, i5⟩ := hT.lit hsl [⟨#[101]⟩, ⟨#[101]⟩, ⟨#[101]⟩, ⟨#[101]⟩]
      have r3 := rw_make r3 (⟨[.string ⟨#[101]⟩, .string ⟨#[101]⟩, .string ⟨#[101]⟩, .string ⟨#[101]⟩], 9, 0⟩ : Blk)
      have hT := hT.make (⟨[.string ⟨#[101]⟩, .string ⟨#[101]⟩, .string ⟨#[101]⟩, .string ⟨#[101]⟩], 9, 0⟩ : Blk)
      refine hF _ [7, 10] _ _ (by decide +kernel) (fm_cons ?_ (fm_cons ?_ fm_nil))
      ·simp only [pickOps, List.filterMap_cons, List.filterMap_nil, List.getElem?_cons_zero, List.getElem?_cons_succ, Option.map_some]
       refine w_call (l1Below_ok q xs _ 5 (by omega) (by omega) hT.hd.cur) (by simp (disch := omega) only [go_sem, ↓reduceIte, Nat.reduceEqDiff]) ?hl ?_
       case hl => first | rfl | (simp only [go_sem, List.all_cons, List.all_nil, Bool.not_false, Bool.and_self]; done)
       rintro r_ s7 ⟨⟨y, rfl, hy0, hy1⟩, hdr, _⟩; refine ⟨fun e => (by cases e), ?_⟩
       simp (disch := omega) only [go_sem, ↓reduceIte, Nat.reduceEqDiff]
       have r3 := rw_draw r3 hdr
       have r5 := rw_draw r5 hdr
       have hT := hT.draw hf1 hf2 hq0 hdr
       obtain ⟨k, hk4, htk, r8⟩ := lit_take (n := 4) r5 rfl hy0 hy1
       refine hF _ [8] _ _ (by decide +kernel) (fm_cons ?_ fm_nil)
       simp only [pickOps, List.filterMap_cons, List.filterMap_nil, List.getElem?_cons_zero, List.getElem?_cons_succ, Option.map_some]; simp (disch := omega) only [go_sem, ↓reduceIte, Nat.reduceEqDiff, hG, w_slice, ev_slice, htk, flat_i, Bool.false_and, Option.all_some, Option.map_some, Option.all_none, Option.map_none]
       refine hF _ [10] _ _ (by decide +kernel) (fm_cons ?_ fm_nil)
       ·simp only [pickOps, List.filterMap_cons, List.filterMap_nil, List.getElem?_cons_zero, List.getElem?_cons_succ, Option.map_some]; simp (disch := omega) only [go_sem, ↓reduceIte, Nat.reduceEqDiff, Nat.reduceAdd, Nat.reduceLeDiff, hG, bsL, fillK_cons, fillK_nil, Nat.reduceMul]
        obtain ⟨r10, i10⟩ := hT.lit hsl [⟨#[101]⟩, ⟨#[122, 122]⟩]
        have r3 := rw_make r3 (⟨[.string ⟨#[101]⟩, .string ⟨#[122, 122]⟩], 9, 0⟩ : Blk)
        have r5 := rw_make r5 (⟨[.string ⟨#[101]⟩, .string ⟨#[122, 122]⟩], 9, 0⟩ : Blk)
        have r8 := rw_make r8 (⟨[.string ⟨#[101]⟩, .string ⟨#[122, 122]⟩], 9, 0⟩ : Blk)
        have hT := hT.make (⟨[.string ⟨#[101]⟩, .string ⟨#[122, 122]⟩], 9, 0⟩ : Blk)
        refine hF _ [11] _ _ (by decide +kernel) (fm_cons ?_ fm_nil)
        ·simp only [pickOps, List.filterMap_cons, List.filterMap_nil, List.getElem?_cons_zero, List.getElem?_cons_succ, Option.map_some]
         refine w_call (lit_pick (by decide) (by decide) (by decide +kernel) hT.hd.cur r10 (by omega)) (by simp (disch := omega) only [go_sem, ↓reduceIte, Nat.reduceEqDiff]) ?hl ?_
         case hl => first | rfl | (simp only [go_sem, List.all_cons, List.all_nil, Bool.not_false, Bool.and_self]; done)
         rintro r_ s11 ⟨⟨w11, rfl, z11⟩, hdr⟩; refine ⟨fun e => (by cases e), ?_⟩
         simp (disch := omega) only [go_sem, ↓reduceIte, Nat.reduceEqDiff]
         have r3 := rw_draw r3 hdr
         have r5 := rw_draw r5 hdr
         have r8 := rw_draw r8 hdr
         have r10 := rw_draw r10 hdr
         have hT := hT.draw hf1 hf2 hq0 hdr
         refine hF _ [12] _ _ (by decide +kernel) (fm_cons ?_ fm_nil)
         simp only [pickOps, List.filterMap_cons, List.filterMap_nil, List.getElem?_cons_zero, List.getElem?_cons_succ, Option.map_some]; simp (disch := omega) only [go_sem, ↓reduceIte, Nat.reduceEqDiff, hG]
         refine hF _ [13] _ _ (by decide +kernel) (fm_cons ?_ fm_nil)
         simp only [pickOps, List.filterMap_cons, List.filterMap_nil, List.getElem?_cons_zero, List.getElem?_cons_succ, Option.map_some]; simp (disch := omega) only [go_sem, ↓reduceIte, Nat.reduceEqDiff, hG]
         obtain ⟨hd9, hS9, hU9, hle9⟩ := hT
         have hi9 := hU.lt
         rcases hU9 with ⟨_, h, _⟩ | ⟨i, c, cs, K, hu, hb, hr, hL2⟩
         ·cases h
         have hu' : u = .slice (some ⟨i, 0, none⟩) 7 c := hu
         subst hu'
         subst hL2
         have hi8 := hi9 i (by simp)
         have hiK := (List.nodup_cons.1 hf2.1).1
         have hqi : q < i := by have := hf2.2 i (by simp); omega
         obtain ⟨v', st3, hap, hrow, hvl, hg⟩ := ops_push (c := c) (o := ⟨w4, ([⟨#[101]⟩, ⟨#[101]⟩, ⟨#[101]⟩, ⟨#[101]⟩] : List ByteArray).take k, w11⟩) (ops := baseOps) hb hr hiK hqi (fun j hj e => by have := hf2.2 j (List.mem_cons_of_mem _ hj); omega) r8 (by simp only [topId, ne_eq, Option.some.injEq]; omega) (by decide)
         have hap' : appendA Try.prog 25 25 (.slice (some ⟨i, 0, none⟩) 7 c) _ _ = some (v', st3) := hap
         have hv1 := hrow.notLoc.2
         have hv2 := Row.cells1 hrow
         refine hF _ [14] _ _ (by decide +kernel) (fm_cons ?_ fm_nil)
         simp only [pickOps, List.filterMap_cons, List.filterMap_nil, List.getElem?_cons_zero, List.getElem?_cons_succ, Option.map_some]; simp (disch := omega) only [go_sem, ↓reduceIte, Nat.reduceEqDiff, hG, w_append, hap', hvl]
         refine hF _ [15] _ _ (by decide +kernel) (fm_cons ?_ fm_nil)
         simp only [pickOps, List.filterMap_cons, List.filterMap_nil, List.getElem?_cons_zero, List.getElem?_cons_succ, Option.map_some]; simp (disch := omega) only [go_sem, ↓reduceIte, Nat.reduceEqDiff, hG]
         refine hF _ [16] _ _ (by decide +kernel) (fm_cons ?_ fm_nil)
         simp only [pickOps, List.filterMap_cons, List.filterMap_nil, List.getElem?_cons_zero, List.getElem?_cons_succ, Option.map_some]; simp (disch := omega) only [go_sem, ↓reduceIte, Nat.reduceEqDiff, hG, hv1, hv2, hvl]
         refine hE _ _ _ (by decide +kernel) (hK _ _ ?_)
         exact ⟨⟨[bE, ⟨#[107]⟩], baseOps ++ [⟨w4, ([⟨#[101]⟩, ⟨#[101]⟩, ⟨#[101]⟩, ⟨#[101]⟩] : List ByteArray).take k, w11⟩]⟩, s, v', Drawn.grow hd9 hg (.inr ⟨i, hf2.2 i (by simp), rfl⟩) hq0 rfl, sl_rowBl (hS9.frame fun j hj => hg.away.2 j (hS9.lt j hj) (fun e => by cases e; exact hap0 _ hj (by simp))) hf1 hq0, hrow, ⟨by simp, by simp [baseOps], fun o ho => (List.mem_append.1 ho).elim (baseP o) (fun h => by cases List.mem_singleton.1 h; exact ⟨by simp only [List.length_take]; omega, z4⟩), baseS⟩, a1, a2, a3, hv1, hvl, hv2, (by refine ⟨?_, ?_, ?_, ⟨?_, ?_⟩⟩ <;> ((simp (disch := omega) only [go_sem, ↓reduceIte, Nat.reduceEqDiff]); try rfl))⟩
      ·simp only [pickOps, List.filterMap_cons, List.filterMap_nil, List.getElem?_cons_zero, List.getElem?_cons_succ, Option.map_some]; simp (disch := omega) only [go_sem, ↓reduceIte, Nat.reduceEqDiff, Nat.reduceAdd, Nat.reduceLeDiff, hG, bsL, fillK_cons, fillK_nil, Nat.reduceMul]
       obtain ⟨r10, i10⟩ := hT.lit hsl [⟨#[101]⟩, ⟨#[122, 122]⟩]
       have r3 := rw_make r3 (⟨[.string ⟨#[101]⟩, .string ⟨#[122, 122]⟩], 9, 0⟩ : Blk)
       have r5 := rw_make r5 (⟨[.string ⟨#[101]⟩, .string ⟨#[122, 122]⟩], 9, 0⟩ : Blk)
       have hT := hT.make (⟨[.string ⟨#[101]⟩, .string ⟨#[122, 122]⟩], 9, 0⟩ : Blk)
       refine hF _ [7] _ _ (by decide +kernel) (fm_cons ?_ fm_nil)
       ·simp only [pickOps, List.filterMap_cons, List.filterMap_nil, List.getElem?_cons_zero, List.getElem?_cons_succ, Option.map_some]
        refine w_call (l1Below_ok q xs _ 5 (by omega) (by omega) hT.hd.cur) (by simp (disch := omega) only [go_sem, ↓reduceIte, Nat.reduceEqDiff]) ?hl ?_
        case hl => first | rfl | (simp only [go_sem, List.all_cons, List.all_nil, Bool.not_false, Bool.and_self]; done)
        rintro r_ s7 ⟨⟨y, rfl, hy0, hy1⟩, hdr, _⟩; refine ⟨fun e => (by cases e), ?_⟩
        simp (disch := omega) only [go_sem, ↓reduceIte, Nat.reduceEqDiff]
        have r3 := rw_draw r3 hdr
        have r5 := rw_draw r5 hdr
        have r10 := rw_draw r10 hdr
        have hT := hT.draw hf1 hf2 hq0 hdr
        obtain ⟨k, hk4, htk, r8⟩ := lit_take (n := 4) r5 rfl hy0 hy1
        refine hF _ [8] _ _ (by decide +kernel) (fm_cons ?_ fm_nil)
        simp only [pickOps, List.filterMap_cons, List.filterMap_nil, List.getElem?_cons_zero, List.getElem?_cons_succ, Option.map_some]; simp (disch := omega) only [go_sem, ↓reduceIte, Nat.reduceEqDiff, hG, w_slice, ev_slice, htk, flat_i, Bool.false_and, Option.all_some, Option.map_some, Option.all_none, Option.map_none]
        refine hF _ [11] _ _ (by decide +kernel) (fm_cons ?_ fm_nil)
        ·simp only [pickOps, List.filterMap_cons, List.filterMap_nil, List.getElem?_cons_zero, List.getElem?_cons_succ, Option.map_some]
         refine w_call (lit_pick (by decide) (by decide) (by decide +kernel) hT.hd.cur r10 (by omega)) (by simp (disch := omega) only [go_sem, ↓reduceIte, Nat.reduceEqDiff]) ?hl ?_
         case hl => first | rfl | (simp only [go_sem, List.all_cons, List.all_nil, Bool.not_false, Bool.and_self]; done)
         rintro r_ s11 ⟨⟨w11, rfl, z11⟩, hdr⟩; refine ⟨fun e => (by cases e), ?_⟩
         simp (disch := omega) only [go_sem, ↓reduceIte, Nat.reduceEqDiff]
         have r3 := rw_draw r3 hdr
         have r5 := rw_draw r5 hdr
         have r10 := rw_draw r10 hdr
         have r8 := rw_draw r8 hdr
         have hT := hT.draw hf1 hf2 hq0 hdr
         refine hF _ [12] _ _ (by decide +kernel) (fm_cons ?_ fm_nil)
         simp only [pickOps, List.filterMap_cons, List.filterMap_nil, List.getElem?_cons_zero, List.getElem?_cons_succ, Option.map_some]; simp (disch := omega) only [go_sem, ↓reduceIte, Nat.reduceEqDiff, hG]
         refine hF _ [13] _ _ (by decide +kernel) (fm_cons ?_ fm_nil)
         simp only [pickOps, List.filterMap_cons, List.filterMap_nil, List.getElem?_cons_zero, List.getElem?_cons_succ, Option.map_some]; simp (disch := omega) only [go_sem, ↓reduceIte, Nat.reduceEqDiff, hG]
         obtain ⟨hd9, hS9, hU9, hle9⟩ := hT
         have hi9 := hU.lt
         rcases hU9 with ⟨_, h, _⟩ | ⟨i, c, cs, K, hu, hb, hr, hL2⟩
         ·cases h
         have hu' : u = .slice (some ⟨i, 0, none⟩) 7 c := hu
         subst hu'
         subst hL2
         have hi8 := hi9 i (by simp)
         have hiK := (List.nodup_cons.1 hf2.1).1
         have hqi : q < i := by have := hf2.2 i (by simp); omega
         obtain ⟨v', st3, hap, hrow, hvl, hg⟩ := ops_push (c := c) (o := ⟨w4, ([⟨#[101]⟩, ⟨#[101]⟩, ⟨#[101]⟩, ⟨#[101]⟩] : List ByteArray).take k, w11⟩) (ops := baseOps) hb hr hiK hqi (fun j hj e => by have := hf2.2 j (List.mem_cons_of_mem _ hj); omega) r8 (by simp only [topId, ne_eq, Option.some.injEq]; omega) (by decide)
         have hap' : appendA Try.prog 25 25 (.slice (some ⟨i, 0, none⟩) 7 c) _ _ = some (v', st3) := hap
         have hv1 := hrow.notLoc.2
         have hv2 := Row.cells1 hrow
         refine hF _ [14] _ _ (by decide +kernel) (fm_cons ?_ fm_nil)
         simp only [pickOps, List.filterMap_cons, List.filterMap_nil, List.getElem?_cons_zero, List.getElem?_cons_succ, Option.map_some]; simp (disch := omega) only [go_sem, ↓reduceIte, Nat.reduceEqDiff, hG, w_append, hap', hvl]
         refine hF _ [15] _ _ (by decide +kernel) (fm_cons ?_ fm_nil)
         simp only [pickOps, List.filterMap_cons, List.filterMap_nil, List.getElem?_cons_zero, List.getElem?_cons_succ, Option.map_some]; simp (disch := omega) only [go_sem, ↓reduceIte, Nat.reduceEqDiff, hG]
         refine hF _ [16] _ _ (by decide +kernel) (fm_cons ?_ fm_nil)
         simp only [pickOps, List.filterMap_cons, List.filterMap_nil, List.getElem?_cons_zero, List.getElem?_cons_succ, Option.map_some]; simp (disch := omega) only [go_sem, ↓reduceIte, Nat.reduceEqDiff, hG, hv1, hv2, hvl]
         refine hE _ _ _ (by decide +kernel) (hK _ _ ?_)
         exact ⟨⟨[bE, ⟨#[107]⟩], baseOps ++ [⟨w4, ([⟨#[101]⟩, ⟨#[101]⟩, ⟨#[101]⟩, ⟨#[101]⟩] : List ByteArray).take k, w11⟩]⟩, s, v', Drawn.grow hd9 hg (.inr ⟨i, hf2.2 i (by simp), rfl⟩) hq0 rfl, sl_rowBl (hS9.frame fun j hj => hg.away.2 j (hS9.lt j hj) (fun e => by cases e; exact hap0 _ hj (by simp))) hf1 hq0, hrow, ⟨by simp, by simp [baseOps], fun o ho => (List.mem_append.1 ho).elim (baseP o) (fun h => by cases List.mem_singleton.1 h; exact ⟨by simp only [List.length_take]; omega, z4⟩), baseS⟩, a1, a2, a3, hv1, hvl, hv2, (by refine ⟨?_, ?_, ?_, ⟨?_, ?_⟩⟩ <;> ((simp (disch := omega) only [go_sem, ↓reduceIte, Nat.reduceEqDiff]); try rfl))⟩
     ·simp only [pickOps, List.filterMap_cons, List.filterMap_nil, List.getElem?_cons_zero, List.getElem?_cons_succ, Option.map_some]
      refine w_call (l1Below_ok q xs _ 5 (by omega) (by omega) hT.hd.cur) (by simp (disch := omega) only [go_sem, ↓reduceIte, Nat.reduceEqDiff]) ?hl ?_
      case hl => first | rfl | (simp only [go_sem, List.all_cons, List.all_nil, Bool.not_false, Bool.and_self]; done)
      rintro r_ s7 ⟨⟨y, rfl, hy0, hy1⟩, hdr, _⟩; refine ⟨fun e => (by cases e), ?_⟩
      simp (disch := omega) only [go_sem, ↓reduceIte, Nat.reduceEqDiff]
      have r3 := rw_draw r3 hdr
      have hT := hT.draw hf1 hf2 hq0 hdr
      refine hF _ [5, 10] _ _ (by decide +kernel) (fm_cons ?_ (fm_cons ?_ fm_nil))
      ·simp only [pickOps, List.filterMap_cons, List.filterMap_nil, List.getElem?_cons_zero, List.getElem?_cons_succ, Option.map_some]; simp (disch := omega) only [go_sem, ↓reduceIte, Nat.reduceEqDiff, Nat.reduceAdd, Nat.reduceLeDiff, hG, bsL, fillK_cons, fillK_nil, Nat.reduceMul]
       obtain ⟨r5, i5⟩ := hT.lit hsl [⟨#[101]⟩, ⟨#[101]⟩, ⟨#[101]⟩, ⟨#[101]⟩]
       have r3 := rw_make r3 (⟨[.string ⟨#[101]⟩, .string ⟨#[101]⟩, .string ⟨#[101]⟩, .string ⟨#[101]⟩], 9, 0⟩ : Blk)
       have hT := hT.make (⟨[.string ⟨#[101]⟩, .string ⟨#[101]⟩, .string ⟨#[101]⟩, .string ⟨#[101]⟩], 9, 0⟩ : Blk)
       obtain ⟨k, hk4, htk, r8⟩ := lit_take (n := 4) r5 rfl hy0 hy1
       refine hF _ [8] _ _ (by decide +kernel) (fm_cons ?_ fm_nil)
       simp only [pickOps, List.filterMap_cons, List.filterMap_nil, List.getElem?_cons_zero, List.getElem?_cons_succ, Option.map_some]; simp (disch := omega) only [go_sem, ↓reduceIte, Nat.reduceEqDiff, hG, w_slice, ev_slice, htk, flat_i, Bool.false_and, Option.all_some, Option.map_some, Option.all_none, Option.map_none]
       refine hF _ [10] _ _ (by decide +kernel) (fm_cons ?_ fm_nil)
       ·simp only [pickOps, List.filterMap_cons, List.filterMap_nil, List.getElem?_cons_zero, List.getElem?_cons_succ, Option.map_some]; simp (disch := omega) only [go_sem, ↓reduceIte, Nat.reduceEqDiff, Nat.reduceAdd, Nat.reduceLeDiff, hG, bsL, fillK_cons, fillK_nil, Nat.reduceMul]
        obtain ⟨r10, i10⟩ := hT.lit hsl [⟨#[101]⟩, ⟨#[122, 122]⟩]
        have r3 := rw_make r3 (⟨[.string ⟨#[101]⟩, .string ⟨#[122, 122]⟩], 9, 0⟩ : Blk)
        have r5 := rw_make r5 (⟨[.string ⟨#[101]⟩, .string ⟨#[122, 122]⟩], 9, 0⟩ : Blk)
        have r8 := rw_make r8 (⟨[.string ⟨#[101]⟩, .string ⟨#[122, 122]⟩], 9, 0⟩ : Blk)
        have hT := hT.make (⟨[.string ⟨#[101]⟩, .string ⟨#[122, 122]⟩], 9, 0⟩ : Blk)
        refine hF _ [11] _ _ (by decide +kernel) (fm_cons ?_ fm_nil)
        ·simp only [pickOps, List.filterMap_cons, List.filterMap_nil, List.getElem?_cons_zero, List.getElem?_cons_succ, Option.map_some]
         refine w_call (lit_pick (by decide) (by decide) (by decide +kernel) hT.hd.cur r10 (by omega)) (by simp (disch := omega) only [go_sem, ↓reduceIte, Nat.reduceEqDiff]) ?hl ?_
         case hl => first | rfl | (simp only [go_sem, List.all_cons, List.all_nil, Bool.not_false, Bool.and_self]; done)
         rintro r_ s11 ⟨⟨w11, rfl, z11⟩, hdr⟩; refine ⟨fun e => (by cases e), ?_⟩
         simp (disch := omega) only [go_sem, ↓reduceIte, Nat.reduceEqDiff]
         have r3 := rw_draw r3 hdr
         have r5 := rw_draw r5 hdr
         have r8 := rw_draw r8 hdr
         have r10 := rw_draw r10 hdr
         have hT := hT.draw hf1 hf2 hq0 hdr
         refine hF _ [12] _ _ (by decide +kernel) (fm_cons ?_ fm_nil)
         simp only [pickOps, List.filterMap_cons, List.filterMap_nil, List.getElem?_cons_zero, List.getElem?_cons_succ, Option.map_some]; simp (disch := omega) only [go_sem, ↓reduceIte, Nat.reduceEqDiff, hG]
         refine hF _ [13] _ _ (by decide +kernel) (fm_cons ?_ fm_nil)
         simp only [pickOps, List.filterMap_cons, List.filterMap_nil, List.getElem?_cons_zero, List.getElem?_cons_succ, Option.map_some]; simp (disch := omega) only [go_sem, ↓reduceIte, Nat.reduceEqDiff, hG]
         obtain ⟨hd9, hS9, hU9, hle9⟩ := hT
         have hi9 := hU.lt
         rcases hU9 with ⟨_, h, _⟩ | ⟨i, c, cs, K, hu, hb, hr, hL2⟩
         ·cases h
         have hu' : u = .slice (some ⟨i, 0, none⟩) 7 c := hu
         subst hu'
         subst hL2
         have hi8 := hi9 i (by simp)
         have hiK := (List.nodup_cons.1 hf2.1).1
         have hqi : q < i := by have := hf2.2 i (by simp); omega
         obtain ⟨v', st3, hap, hrow, hvl, hg⟩ := ops_push (c := c) (o := ⟨w4, ([⟨#[101]⟩, ⟨#[101]⟩, ⟨#[101]⟩, ⟨#[101]⟩] : List ByteArray).take k, w11⟩) (ops := baseOps) hb hr hiK hqi (fun j hj e => by have := hf2.2 j (List.mem_cons_of_mem _ hj); omega) r8 (by simp only [topId, ne_eq, Option.some.injEq]; omega) (by decide)
         have hap' : appendA Try.prog 25 25 (.slice (some ⟨i, 0, none⟩) 7 c) _ _ = some (v', st3) := hap
         have hv1 := hrow.notLoc.2
         have hv2 := Row.cells1 hrow
         refine hF _ [14] _ _ (by decide +kernel) (fm_cons ?_ fm_nil)
         simp only [pickOps, List.filterMap_cons, List.filterMap_nil, List.getElem?_cons_zero, List.getElem?_cons_succ, Option.map_some]; simp (disch := omega) only [go_sem, ↓reduceIte, Nat.reduceEqDiff, hG, w_append, hap', hvl]
         refine hF _ [15] _ _ (by decide +kernel) (fm_cons ?_ fm_nil)
         simp only [pickOps, List.filterMap_cons, List.filterMap_nil, List.getElem?_cons_zero, List.getElem?_cons_succ, Option.map_some]; simp (disch := omega) only [go_sem, ↓reduceIte, Nat.reduceEqDiff, hG]
         refine hF _ [16] _ _ (by decide +kernel) (fm_cons ?_ fm_nil)
         simp only [pickOps, List.filterMap_cons, List.filterMap_nil, List.getElem?_cons_zero, List.getElem?_cons_succ, Option.map_some]; simp (disch := omega) only [go_sem, ↓reduceIte, Nat.reduceEqDiff, hG, hv1, hv2, hvl]
         refine hE _ _ _ (by decide +kernel) (hK _ _ ?_)
         exact ⟨⟨[bE, ⟨#[107]⟩], baseOps ++ [⟨w4, ([⟨#[101]⟩, ⟨#[101]⟩, ⟨#[101]⟩, ⟨#[101]⟩] : List ByteArray).take k, w11⟩]⟩, s, v', Drawn.grow hd9 hg (.inr ⟨i, hf2.2 i (by simp), rfl⟩) hq0 rfl, sl_rowBl (hS9.frame fun j hj => hg.away.2 j (hS9.lt j hj) (fun e => by cases e; exact hap0 _ hj (by simp))) hf1 hq0, hrow, ⟨by simp, by simp [baseOps], fun o ho => (List.mem_append.1 ho).elim (baseP o) (fun h => by cases List.mem_singleton.1 h; exact ⟨by simp only [List.length_take]; omega, z4⟩), baseS⟩, a1, a2, a3, hv1, hvl, hv2, (by refine ⟨?_, ?_, ?_, ⟨?_, ?_⟩⟩ <;> ((simp (disch := omega) only [go_sem, ↓reduceIte, Nat.reduceEqDiff]); try rfl))⟩
      ·simp only [pickOps, List.filterMap_cons, List.filterMap_nil, List.getElem?_cons_zero, List.getElem?_cons_succ, Option.map_some]; simp (disch := omega) only [go_sem, ↓reduceIte, Nat.reduceEqDiff, Nat.reduceAdd, Nat.reduceLeDiff, hG, bsL, fillK_cons, fillK_nil, Nat.reduceMul]
       obtain ⟨r10, i10⟩ := hT.lit hsl [⟨#[101]⟩, ⟨#[122, 122]⟩]
       have r3 := rw_make r3 (⟨[.string ⟨#[101]⟩, .string ⟨#[122, 122]⟩], 9, 0⟩ : Blk)
       have hT := hT.make (⟨[.string ⟨#[101]⟩, .string ⟨#[122, 122]⟩], 9, 0⟩ : Blk)
       refine hF _ [5, 11] _ _ (by decide +kernel) (fm_cons ?_ (fm_cons ?_ fm_nil))
       ·simp only [pickOps, List.filterMap_cons, List.filterMap_nil, List.getElem?_cons_zero, List.getElem?_cons_succ, Option.map_some]; simp (disch := omega) only [go_sem, ↓reduceIte, Nat.reduceEqDiff, Nat.reduceAdd, Nat.reduceLeDiff, hG, bsL, fillK_cons, fillK_nil, Nat.reduceMul]
        obtain ⟨r5, i5⟩ := hT.lit hsl [⟨#[101]⟩, ⟨#[101]⟩, ⟨#[101]⟩, ⟨#[101]⟩]
        have r3 := rw_make r3 (⟨[.string ⟨#[101]⟩, .string ⟨#[101]⟩, .string ⟨#[101]⟩, .string ⟨#[101]⟩], 9, 0⟩ : Blk)
        have r10 := rw_make r10 (⟨[.string ⟨#[101]⟩, .string ⟨#[101]⟩, .string ⟨#[101]⟩, .string ⟨#[101]⟩], 9, 0⟩ : Blk)
        have hT := hT.make (⟨[.string ⟨#[101]⟩, .string ⟨#[101]⟩, .string ⟨#[101]⟩, .string ⟨#[101]⟩], 9, 0⟩ : Blk)
        obtain ⟨k, hk4, htk, r8⟩ := lit_take (n := 4) r5 rfl hy0 hy1
        refine hF _ [8] _ _ (by decide +kernel) (fm_cons ?_ fm_nil)
        simp only [pickOps, List.filterMap_cons, List.filterMap_nil, List.getElem?_cons_zero, List.getElem?_cons_succ, Option.map_some]; simp (disch := omega) only [go_sem, ↓reduceIte, Nat.reduceEqDiff, hG, w_slice, ev_slice, htk, flat_i, Bool.false_and, Option.all_some, Option.map_some, Option.all_none, Option.map_none]
        refine hF _ [11] _ _ (by decide +kernel) (fm_cons ?_ fm_nil)
        ·simp only [pickOps, List.filterMap_cons, List.filterMap_nil, List.getElem?_cons_zero, List.getElem?_cons_succ, Option.map_some]
         refine w_call (lit_pick (by decide) (by decide) (by decide +kernel) hT.hd.cur r10 (by omega)) (by simp (disch := omega) only [go_sem, ↓reduceIte, Nat.reduceEqDiff]) ?hl ?_
         case hl => first | rfl | (simp only [go_sem, List.all_cons, List.all_nil, Bool.not_false, Bool.and_self]; done)
         rintro r_ s11 ⟨⟨w11, rfl, z11⟩, hdr⟩; refine ⟨fun e => (by cases e), ?_⟩
         simp (disch := omega) only [go_sem, ↓reduceIte, Nat.reduceEqDiff]
         have r3 := rw_draw r3 hdr
         have r10 := rw_draw r10 hdr
         have r5 := rw_draw r5 hdr
         have r8 := rw_draw r8 hdr
         have hT := hT.draw hf1 hf2 hq0 hdr
         refine hF _ [12] _ _ (by decide +kernel) (fm_cons ?_ fm_nil)
         simp only [pickOps, List.filterMap_cons, List.filterMap_nil, List.getElem?_cons_zero, List.getElem?_cons_succ, Option.map_some]; simp (disch := omega) only [go_sem, ↓reduceIte, Nat.reduceEqDiff, hG]
         refine hF _ [13] _ _ (by decide +kernel) (fm_cons ?_ fm_nil)
         simp only [pickOps, List.filterMap_cons, List.filterMap_nil, List.getElem?_cons_zero, List.getElem?_cons_succ, Option.map_some]; simp (disch := omega) only [go_sem, ↓reduceIte, Nat.reduceEqDiff, hG]
         obtain ⟨hd9, hS9, hU9, hle9⟩ := hT
         have hi9 := hU.lt
         rcases hU9 with ⟨_, h, _⟩ | ⟨i, c, cs, K, hu, hb, hr, hL2⟩
         ·cases h
         have hu' : u = .slice (some ⟨i, 0, none⟩) 7 c := hu
         subst hu'
         subst hL2
         have hi8 := hi9 i (by simp)
         have hiK := (List.nodup_cons.1 hf2.1).1
         have hqi : q < i := by have := hf2.2 i (by simp); omega
         obtain ⟨v', st3, hap, hrow, hvl, hg⟩ := ops_push (c := c) (o := ⟨w4, ([⟨#[101]⟩, ⟨#[101]⟩, ⟨#[101]⟩, ⟨#[101]⟩] : List ByteArray).take k, w11⟩) (ops := baseOps) hb hr hiK hqi (fun j hj e => by have := hf2.2 j (List.mem_cons_of_mem _ hj); omega) r8 (by simp only [topId, ne_eq, Option.some.injEq]; omega) (by decide)
         have hap' : appendA Try.prog 25 25 (.slice (some ⟨i, 0, none⟩) 7 c) _ _ = some (v', st3) := hap
         have hv1 := hrow.notLoc.2
         have hv2 := Row.cells1 hrow
         refine hF _ [14] _ _ (by decide +kernel) (fm_cons ?_ fm_nil)
         simp only [pickOps, List.filterMap_cons, List.filterMap_nil, List.getElem?_cons_zero, List.getElem?_cons_succ, Option.map_some]; simp (disch := omega) only [go_sem, ↓reduceIte, Nat.reduceEqDiff, hG, w_append, hap', hvl]
         refine hF _ [15] _ _ (by decide +kernel) (fm_cons ?_ fm_nil)
         simp only [pickOps, List.filterMap_cons, List.filterMap_nil, List.getElem?_cons_zero, List.getElem?_cons_succ, Option.map_some]; simp (disch := omega) only [go_sem, ↓reduceIte, Nat.reduceEqDiff, hG]
         refine hF _ [16] _ _ (by decide +kernel) (fm_cons ?_ fm_nil)
         simp only [pickOps, List.filterMap_cons, List.filterMap_nil, List.getElem?_cons_zero, List.getElem?_cons_succ, Option.map_some]; simp (disch := omega) only [go_sem, ↓reduceIte, Nat.reduceEqDiff, hG, hv1, hv2, hvl]
         refine hE _ _ _ (by decide +kernel) (hK _ _ ?_)
         exact ⟨⟨[bE, ⟨#[107]⟩], baseOps ++ [⟨w4, ([⟨#[101]⟩, ⟨#[101]⟩, ⟨#[101]⟩, ⟨#[101]⟩] : List ByteArray).take k, w11⟩]⟩, s, v', Drawn.grow hd9 hg (.inr ⟨i, hf2.2 i (by simp), rfl⟩) hq0 rfl, sl_rowBl (hS9.frame fun j hj => hg.away.2 j (hS9.lt j hj) (fun e => by cases e; exact hap0 _ hj (by simp))) hf1 hq0, hrow, ⟨by simp, by simp [baseOps], fun o ho => (List.mem_append.1 ho).elim (baseP o) (fun h => by cases List.mem_singleton.1 h; exact ⟨by simp only [List.length_take]; omega, z4⟩), baseS⟩, a1, a2, a3, hv1, hvl, hv2, (by refine ⟨?_, ?_, ?_, ⟨?_, ?_⟩⟩ <;> ((simp (disch := omega) only [go_sem, ↓reduceIte, Nat.reduceEqDiff]); try rfl))⟩
       ·simp only [pickOps, List.filterMap_cons, List.filterMap_nil, List.getElem?_cons_zero, List.getElem?_cons_succ, Option.map_some]
        refine w_call (lit_pick (by decide) (by decide) (by decide +kernel) hT.hd.cur r10 (by omega)) (by simp (disch := omega) only [go_sem, ↓reduceIte, Nat.reduceEqDiff]) ?hl ?_
        case hl => first | rfl | (simp only [go_sem, List.all_cons, List.all_nil, Bool.not_false, Bool.and_self]; done)
        rintro r_ s11 ⟨⟨w11, rfl, z11⟩, hdr⟩; refine ⟨fun e => (by cases e), ?_⟩
        simp (disch := omega) only [go_sem, ↓reduceIte, Nat.reduceEqDiff]
        have r3 := rw_draw r3 hdr
        have r10 := rw_draw r10 hdr
        have hT := hT.draw hf1 hf2 hq0 hdr
        refine hF _ [5] _ _ (by decide +kernel) (fm_cons ?_ fm_nil)
        ·simp only [pickOps, List.filterMap_cons, List.filterMap_nil, List.getElem?_cons_zero, List.getElem?_cons_succ, Option.map_some]; simp (disch := omega) only [go_sem, ↓reduceIte, Nat.reduceEqDiff, Nat.reduceAdd, Nat.reduceLeDiff, hG, bsL, fillK_cons, fillK_nil, Nat.reduceMul]
         obtain ⟨r5, i5⟩ := hT.lit hsl [⟨#[101]⟩, ⟨#[101]⟩, ⟨#[101]⟩, ⟨#[101]⟩]
         have r3 := rw_make r3 (⟨[.string ⟨#[101]⟩, .string ⟨#[101]⟩, .string ⟨#[101]⟩, .string ⟨#[101]⟩], 9, 0⟩ : Blk)
         have r10 := rw_make r10 (⟨[.string ⟨#[101]⟩, .string ⟨#[101]⟩, .string ⟨#[101]⟩, .string ⟨#[101]⟩], 9, 0⟩ : Blk)
         have hT := hT.make (⟨[.string ⟨#[101]⟩, .string ⟨#[101]⟩, .string ⟨#[101]⟩, .string ⟨#[101]⟩], 9, 0⟩ : Blk)
         obtain ⟨k, hk4, htk, r8⟩ := lit_take (n := 4) r5 rfl hy0 hy1
         refine hF _ [8] _ _ (by decide +kernel) (fm_cons ?_ fm_nil)
         simp only [pickOps, List.filterMap_cons, List.filterMap_nil, List.getElem?_cons_zero, List.getElem?_cons_succ, Option.map_some]; simp (disch := omega) only [go_sem, ↓reduceIte, Nat.reduceEqDiff, hG, w_slice, ev_slice, htk, flat_i, Bool.false_and, Option.all_some, Option.map_some, Option.all_none, Option.map_none]
         refine hF _ [12] _ _ (by decide +kernel) (fm_cons ?_ fm_nil)
         simp only [pickOps, List.filterMap_cons, List.filterMap_nil, List.getElem?_cons_zero, List.getElem?_cons_succ, Option.map_some]; simp (disch := omega) only [go_sem, ↓reduceIte, Nat.reduceEqDiff, hG]
         refine hF _ [13] _ _ (by decide +kernel) (fm_cons ?_ fm_nil)
         simp only [pickOps, List.filterMap_cons, List.filterMap_nil, List.getElem?_cons_zero, List.getElem?_cons_succ, Option.map_some]; simp (disch := omega) only [go_sem, ↓reduceIte, Nat.reduceEqDiff, hG]
         obtain ⟨hd9, hS9, hU9, hle9⟩ := hT
         have hi9 := hU.lt
         rcases hU9 with ⟨_, h, _⟩ | ⟨i, c, cs, K, hu, hb, hr, hL2⟩
         ·cases h
         have hu' : u = .slice (some ⟨i, 0, none⟩) 7 c := hu
         subst hu'
         subst hL2
         have hi8 := hi9 i (by simp)
         have hiK := (List.nodup_cons.1 hf2.1).1
         have hqi : q < i := by have := hf2.2 i (by simp); omega
         obtain ⟨v', st3, hap, hrow, hvl, hg⟩ := ops_push (c := c) (o := ⟨w4, ([⟨#[101]⟩, ⟨#[101]⟩, ⟨#[101]⟩, ⟨#[101]⟩] : List ByteArray).take k, w11⟩) (ops := baseOps) hb hr hiK hqi (fun j hj e => by have := hf2.2 j (List.mem_cons_of_mem _ hj); omega) r8 (by simp only [topId, ne_eq, Option.some.injEq]; omega) (by decide)
         have hap' : appendA Try.prog 25 25 (.slice (some ⟨i, 0, none⟩) 7 c) _ _ = some (v', st3) := hap
         have hv1 := hrow.notLoc.2
         have hv2 := Row.cells1 hrow
         refine hF _ [14] _ _ (by decide +kernel) (fm_cons ?_ fm_nil)
         simp only [pickOps, List.filterMap_cons, List.filterMap_nil, List.getElem?_cons_zero, List.getElem?_cons_succ, Option.map_some]; simp (disch := omega) only [go_sem, ↓reduceIte, Nat.reduceEqDiff, hG, w_append, hap', hvl]
         refine hF _ [15] _ _ (by decide +kernel) (fm_cons ?_ fm_nil)
         simp only [pickOps, List.filterMap_cons, List.filterMap_nil, List.getElem?_cons_zero, List.getElem?_cons_succ, Option.map_some]; simp (disch := omega) only [go_sem, ↓reduceIte, Nat.reduceEqDiff, hG]
         refine hF _ [16] _ _ (by decide +kernel) (fm_cons ?_ fm_nil)
         simp only [pickOps, List.filterMap_cons, List.filterMap_nil, List.getElem?_cons_zero, List.getElem?_cons_succ, Option.map_some]; simp (disch := omega) only [go_sem, ↓reduceIte, Nat.reduceEqDiff, hG, hv1, hv2, hvl]
         refine hE _ _ _ (by decide +kernel) (hK _ _ ?_)
         exact ⟨⟨[bE, ⟨#[107]⟩], baseOps ++ [⟨w4, ([⟨#[101]⟩, ⟨#[101]⟩, ⟨#[101]⟩, ⟨#[101]⟩] : List ByteArray).take k, w11⟩]⟩, s, v', Drawn.grow hd9 hg (.inr ⟨i, hf2.2 i (by simp), rfl⟩) hq0 rfl, sl_rowBl (hS9.frame fun j hj => hg.away.2 j (hS9.lt j hj) (fun e => by cases e; exact hap0 _ hj (by simp))) hf1 hq0, hrow, ⟨by simp, by simp [baseOps], fun o ho => (List.mem_append.1 ho).elim (baseP o) (fun h => by cases List.mem_singleton.1 h; exact ⟨by simp only [List.length_take]; omega, z4⟩), baseS⟩, a1, a2, a3, hv1, hvl, hv2, (by refine ⟨?_, ?_, ?_, ⟨?_, ?_⟩⟩ <;> ((simp (disch := omega) only [go_sem, ↓reduceIte, Nat.reduceEqDiff]); try rfl))⟩
     ·simp only [pickOps, List.filterMap_cons, List.filterMap_nil, List.getElem?_cons_zero, List.getElem?_cons_succ, Option.map_some]; simp (disch := omega) only [go_sem, ↓reduceIte, Nat.reduceEqDiff, Nat.reduceAdd, Nat.reduceLeDiff, hG, bsL, fillK_cons, fillK_nil, Nat.reduceMul]
      obtain ⟨r10, i10⟩ := hT.lit hsl [⟨#[101]⟩, ⟨#[122, 122]⟩]
      have r3 := rw_make r3 (⟨[.string ⟨#[101]⟩, .string ⟨#[122, 122]⟩], 9, 0⟩ : Blk)
      have hT := hT.make (⟨[.string ⟨#[101]⟩, .string ⟨#[122, 122]⟩], 9, 0⟩ : Blk)
      refine hF _ [5, 7] _ _ (by decide +kernel) (fm_cons ?_ (fm_cons ?_ fm_nil))
      ·simp only [pickOps, List.filterMap_cons, List.filterMap_nil, List.getElem?_cons_zero, List.getElem?_cons_succ, Option.map_some]; simp (disch := omega) only [go_sem, ↓reduceIte, Nat.reduceEqDiff, Nat.reduceAdd, Nat.reduceLeDiff, hG, bsL, fillK_cons, fillK_nil, Nat.reduceMul]
       obtain ⟨r5, i5⟩ := hT.lit hsl [⟨#[101]⟩, ⟨#[101]⟩, ⟨#[101]⟩, ⟨#[101]⟩]
       have r3 := rw_make r3 (⟨[.string ⟨#[101]⟩, .string ⟨#[101]⟩, .string ⟨#[101]⟩, .string ⟨#[101]⟩], 9, 0⟩ : Blk)
       have r10 := rw_make r10 (⟨[.string ⟨#[101]⟩, .string ⟨#[101]⟩, .string ⟨#[101]⟩, .string ⟨#[101]⟩], 9, 0⟩ : Blk)
       have hT := hT.make (⟨[.string ⟨#[101]⟩, .string ⟨#[101]⟩, .string ⟨#[101]⟩, .string ⟨#[101]⟩], 9, 0⟩ : Blk)
       refine hF _ [7] _ _ (by decide +kernel) (fm_cons ?_ fm_nil)
       ·simp only [pickOps, List.filterMap_cons, List.filterMap_nil, List.getElem?_cons_zero, List.getElem?_cons_succ, Option.map_some]
        refine w_call (l1Below_ok q xs _ 5 (by omega) (by omega) hT.hd.cur) (by simp (disch := omega) only [go_sem, ↓reduceIte, Nat.reduceEqDiff]) ?hl ?_
        case hl => first | rfl | (simp only [go_sem, List.all_cons, List.all_nil, Bool.not_false, Bool.and_self]; done)
        rintro r_ s7 ⟨⟨y, rfl, hy0, hy1⟩, hdr, _⟩; refine ⟨fun e => (by cases e), ?_⟩
        simp (disch := omega) only [go_sem, ↓reduceIte, Nat.reduceEqDiff]
        have r3 := rw_draw r3 hdr
        have r10 := rw_draw r10 hdr
        have r5 := rw_draw r5 hdr
        have hT := hT.draw hf1 hf2 hq0 hdr
        obtain ⟨k, hk4, htk, r8⟩ := lit_take (n := 4) r5 rfl hy0 hy1
        refine hF _ [8] _ _ (by decide +kernel) (fm_cons ?_ fm_nil)
        simp only [pickOps, List.filterMap_cons, List.filterMap_nil, List.getElem?_cons_zero, List.getElem?_cons_succ, Option.map_some]; simp (disch := omega) only [go_sem, ↓reduceIte, Nat.reduceEqDiff, hG, w_slice, ev_slice, htk, flat_i, Bool.false_and, Option.all_some, Option.map_some, Option.all_none, Option.map_none]
        refine hF _ [11] _ _ (by decide +kernel) (fm_cons ?_ fm_nil)
        ·simp only [pickOps, List.filterMap_cons, List.filterMap_nil, List.getElem?_cons_zero, List.getElem?_cons_succ, Option.map_some]
         refine w_call (lit_pick (by decide) (by decide) (by decide +kernel) hT.hd.cur r10 (by omega)) (by simp (disch := omega) only [go_sem, ↓reduceIte, Nat.reduceEqDiff]) ?hl ?_
         case hl => first | rfl | (simp only [go_sem, List.all_cons, List.all_nil, Bool.not_false, Bool.and_self]; done)
         rintro r_ s11 ⟨⟨w11, rfl, z11⟩, hdr⟩; refine ⟨fun e => (by cases e), ?_⟩
         simp (disch := omega) only [go_sem, ↓reduceIte, Nat.reduceEqDiff]
         have r3 := rw_draw r3 hdr
         have r10 := rw_draw r10 hdr
         have r5 := rw_draw r5 hdr
         have r8 := rw_draw r8 hdr
         have hT := hT.draw hf1 hf2 hq0 hdr
         refine hF _ [12] _ _ (by decide +kernel) (fm_cons ?_ fm_nil)
         simp only [pickOps, List.filterMap_cons, List.filterMap_nil, List.getElem?_cons_zero, List.getElem?_cons_succ, Option.map_some]; simp (disch := omega) only [go_sem, ↓reduceIte, Nat.reduceEqDiff, hG]
         refine hF _ [13] _ _ (by decide +kernel) (fm_cons ?_ fm_nil)
         simp only [pickOps, List.filterMap_cons, List.filterMap_nil, List.getElem?_cons_zero, List.getElem?_cons_succ, Option.map_some]; simp (disch := omega) only [go_sem, ↓reduceIte, Nat.reduceEqDiff, hG]
         obtain ⟨hd9, hS9, hU9, hle9⟩ := hT
         have hi9 := hU.lt
         rcases hU9 with ⟨_, h, _⟩ | ⟨i, c, cs, K, hu, hb, hr, hL2⟩
         ·cases h
         have hu' : u = .slice (some ⟨i, 0, none⟩) 7 c := hu
         subst hu'
         subst hL2
         have hi8 := hi9 i (by simp)
         have hiK := (List.nodup_cons.1 hf2.1).1
         have hqi : q < i := by have := hf2.2 i (by simp); omega
         obtain ⟨v', st3, hap, hrow, hvl, hg⟩ := ops_push (c := c) (o := ⟨w4, ([⟨#[101]⟩, ⟨#[101]⟩, ⟨#[101]⟩, ⟨#[101]⟩] : List ByteArray).take k, w11⟩) (ops := baseOps) hb hr hiK hqi (fun j hj e => by have := hf2.2 j (List.mem_cons_of_mem _ hj); omega) r8 (by simp only [topId, ne_eq, Option.some.injEq]; omega) (by decide)
         have hap' : appendA Try.prog 25 25 (.slice (some ⟨i, 0, none⟩) 7 c) _ _ = some (v', st3) := hap
         have hv1 := hrow.notLoc.2
         have hv2 := Row.cells1 hrow
         refine hF _ [14] _ _ (by decide +kernel) (fm_cons ?_ fm_nil)
         simp only [pickOps, List.filterMap_cons, List.filterMap_nil, List.getElem?_cons_zero, List.getElem?_cons_succ, Option.map_some]; simp (disch := omega) only [go_sem, ↓reduceIte, Nat.reduceEqDiff, hG, w_append, hap', hvl]
         refine hF _ [15] _ _ (by decide +kernel) (fm_cons ?_ fm_nil)
         simp only [pickOps, List.filterMap_cons, List.filterMap_nil, List.getElem?_cons_zero, List.getElem?_cons_succ, Option.map_some]; simp (disch := omega) only [go_sem, ↓reduceIte, Nat.reduceEqDiff, hG]
         refine hF _ [16] _ _ (by decide +kernel) (fm_cons ?_ fm_nil)
         simp only [pickOps, List.filterMap_cons, List.filterMap_nil, List.getElem?_cons_zero, List.getElem?_cons_succ, Option.map_some]; simp (disch := omega) only [go_sem, ↓reduceIte, Nat.reduceEqDiff, hG, hv1, hv2, hvl]
         refine hE _ _ _ (by decide +kernel) (hK _ _ ?_)
         exact ⟨⟨[bE, ⟨#[107]⟩], baseOps ++ [⟨w4, ([⟨#[101]⟩, ⟨#[101]⟩, ⟨#[101]⟩, ⟨#[101]⟩] : List ByteArray).take k, w11⟩]⟩, s, v', Drawn.grow hd9 hg (.inr ⟨i, hf2.2 i (by simp), rfl⟩) hq0 rfl, sl_rowBl (hS9.frame fun j hj => hg.away.2 j (hS9.lt j hj) (fun e => by cases e; exact hap0 _ hj (by simp))) hf1 hq0, hrow, ⟨by simp, by simp [baseOps], fun o ho => (List.mem_append.1 ho).elim (baseP o) (fun h => by cases List.mem_singleton.1 h; exact ⟨by simp only [List.length_take]; omega, z4⟩), baseS⟩, a1, a2, a3, hv1, hvl, hv2, (by refine ⟨?_, ?_, ?_, ⟨?_, ?_⟩⟩ <;> ((simp (disch := omega) only [go_sem, ↓reduceIte, Nat.reduceEqDiff]); try rfl))⟩
      ·simp only [pickOps, List.filterMap_cons, List.filterMap_nil, List.getElem?_cons_zero, List.getElem?_cons_succ, Option.map_some]
       refine w_call (l1Below_ok q xs _ 5 (by omega) (by omega) hT.hd.cur) (by simp (disch := omega) only [go_sem, ↓reduceIte, Nat.reduceEqDiff]) ?hl ?_
       case hl => first | rfl | (simp only [go_sem, List.all_cons, List.all_nil, Bool.not_false, Bool.and_self]; done)
       rintro r_ s7 ⟨⟨y, rfl, hy0, hy1⟩, hdr, _⟩; refine ⟨fun e => (by cases e), ?_⟩
       simp (disch := omega) only [go_sem, ↓reduceIte, Nat.reduceEqDiff]
       have r3 := rw_draw r3 hdr
       have r10 := rw_draw r10 hdr
       have hT := hT.draw hf1 hf2 hq0 hdr
       refine hF _ [5, 11] _ _ (by decide +kernel) (fm_cons ?_ (fm_cons ?_ fm_nil))
       ·simp only [pickOps, List.filterMap_cons, List.filterMap_nil, List.getElem?_cons_zero, List.getElem?_cons_succ, Option.map_some]; simp (disch := omega) only [go_sem, ↓reduceIte, Nat.reduceEqDiff, Nat.reduceAdd, Nat.reduceLeDiff, hG, bsL, fillK_cons, fillK_nil, Nat.reduceMul]
        obtain ⟨r5, i5⟩ := hT.lit hsl [⟨#[101]⟩, ⟨#[101]⟩, ⟨#[101]⟩, ⟨#[101]⟩]
        have r3 := rw_make r3 (⟨[.string ⟨#[101]⟩, .string ⟨#[101]⟩, .string ⟨#[101]⟩, .string ⟨#[101]⟩], 9, 0⟩ : Blk)
        have r10 := rw_make r10 (⟨[.string ⟨#[101]⟩, .string ⟨#[101]⟩, .string ⟨#[101]⟩, .string ⟨#[101]⟩], 9, 0⟩ : Blk)
        have hT := hT.make (⟨[.string ⟨#[101]⟩, .string ⟨#[101]⟩, .string ⟨#[101]⟩, .string ⟨#[101]⟩], 9, 0⟩ : Blk)
        obtain ⟨k, hk4, htk, r8⟩ := lit_take (n := 4) r5 rfl hy0 hy1
        refine hF _ [8] _ _ (by decide +kernel) (fm_cons ?_ fm_nil)
        simp only [pickOps, List.filterMap_cons, List.filterMap_nil, List.getElem?_cons_zero, List.getElem?_cons_succ, Option.map_some]; simp (disch := omega) only [go_sem, ↓reduceIte, Nat.reduceEqDiff, hG, w_slice, ev_slice, htk, flat_i, Bool.false_and, Option.all_some, Option.map_some, Option.all_none, Option.map_none]
        refine hF _ [11] _ _ (by decide +kernel) (fm_cons ?_ fm_nil)
        ·simp only [pickOps, List.filterMap_cons, List.filterMap_nil, List.getElem?_cons_zero, List.getElem?_cons_succ, Option.map_some]
         refine w_call (lit_pick (by decide) (by decide) (by decide +kernel) hT.hd.cur r10 (by omega)) (by simp (disch := omega) only [go_sem, ↓reduceIte, Nat.reduceEqDiff]) ?hl ?_
         case hl => first | rfl | (simp only [go_sem, List.all_cons, List.all_nil, Bool.not_false, Bool.and_self]; done)
         rintro r_ s11 ⟨⟨w11, rfl, z11⟩, hdr⟩; refine ⟨fun e => (by cases e), ?_⟩
         simp (disch := omega) only [go_sem, ↓reduceIte, Nat.reduceEqDiff]
         have r3 := rw_draw r3 hdr
         have r10 := rw_draw r10 hdr
         have r5 := rw_draw r5 hdr
         have r8 := rw_draw r8 hdr
         have hT := hT.draw hf1 hf2 hq0 hdr
         refine hF _ [12] _ _ (by decide +kernel) (fm_cons ?_ fm_nil)
         simp only [pickOps, List.filterMap_cons, List.filterMap_nil, List.getElem?_cons_zero, List.getElem?_cons_succ, Option.map_some]; simp (disch := omega) only [go_sem, ↓reduceIte, Nat.reduceEqDiff, hG]
         refine hF _ [13] _ _ (by decide +kernel) (fm_cons ?_ fm_nil)
         simp only [pickOps, List.filterMap_cons, List.filterMap_nil, List.getElem?_cons_zero, List.getElem?_cons_succ, Option.map_some]; simp (disch := omega) only [go_sem, ↓reduceIte, Nat.reduceEqDiff, hG]
         obtain ⟨hd9, hS9, hU9, hle9⟩ := hT
         have hi9 := hU.lt
         rcases hU9 with ⟨_, h, _⟩ | ⟨i, c, cs, K, hu, hb, hr, hL2⟩
         ·cases h
         have hu' : u = .slice (some ⟨i, 0, none⟩) 7 c := hu
         subst hu'
         subst hL2
         have hi8 := hi9 i (by simp)
         have hiK := (List.nodup_cons.1 hf2.1).1
         have hqi : q < i := by have := hf2.2 i (by simp); omega
         obtain ⟨v', st3, hap, hrow, hvl, hg⟩ := ops_push (c := c) (o := ⟨w4, ([⟨#[101]⟩, ⟨#[101]⟩, ⟨#[101]⟩, ⟨#[101]⟩] : List ByteArray).take k, w11⟩) (ops := baseOps) hb hr hiK hqi (fun j hj e => by have := hf2.2 j (List.mem_cons_of_mem _ hj); omega) r8 (by simp only [topId, ne_eq, Option.some.injEq]; omega) (by decide)
         have hap' : appendA Try.prog 25 25 (.slice (some ⟨i, 0, none⟩) 7 c) _ _ = some (v', st3) := hap
         have hv1 := hrow.notLoc.2
         have hv2 := Row.cells1 hrow
         refine hF _ [14] _ _ (by decide +kernel) (fm_cons ?_ fm_nil)
         simp only [pickOps, List.filterMap_cons, List.filterMap_nil, List.getElem?_cons_zero, List.getElem?_cons_succ, Option.map_some]; simp (disch := omega) only [go_sem, ↓reduceIte, Nat.reduceEqDiff, hG, w_append, hap', hvl]
         refine hF _ [15] _ _ (by decide +kernel) (fm_cons ?_ fm_nil)
         simp only [pickOps, List.filterMap_cons, List.filterMap_nil, List.getElem?_cons_zero, List.getElem?_cons_succ, Option.map_some]; simp (disch := omega) only [go_sem, ↓reduceIte, Nat.reduceEqDiff, hG]
         refine hF _ [16] _ _ (by decide +kernel) (fm_cons ?_ fm_nil)
         simp only [pickOps, List.filterMap_cons, List.filterMap_nil, List.getElem?_cons_zero, List.getElem?_cons_succ, Option.map_some]; simp (disch := omega) only [go_sem, ↓reduceIte, Nat.reduceEqDiff, hG, hv1, hv2, hvl]
         refine hE _ _ _ (by decide +kernel) (hK _ _ ?_)
         exact ⟨⟨[bE, ⟨#[107]⟩], baseOps ++ [⟨w4, ([⟨#[101]⟩, ⟨#[101]⟩, ⟨#[101]⟩, ⟨#[101]⟩] : List ByteArray).take k, w11⟩]⟩, s, v', Drawn.grow hd9 hg (.inr ⟨i, hf2.2 i (by simp), rfl⟩) hq0 rfl, sl_rowBl (hS9.frame fun j hj => hg.away.2 j (hS9.lt j hj) (fun e => by cases e; exact hap0 _ hj (by simp))) hf1 hq0, hrow, ⟨by simp, by simp [baseOps], fun o ho => (List.mem_append.1 ho).elim (baseP o) (fun h => by cases List.mem_singleton.1 h; exact ⟨by simp only [List.length_take]; omega, z4⟩), baseS⟩, a1, a2, a3, hv1, hvl, hv2, (by refine ⟨?_, ?_, ?_, ⟨?_, ?_⟩⟩ <;> ((simp (disch := omega) only [go_sem, ↓reduceIte, Nat.reduceEqDiff]); try rfl))⟩
       ·simp only [pickOps, List.filterMap_cons, List.filterMap_nil, List.getElem?_cons_zero, List.getElem?_cons_succ, Option.map_some]
        refine w_call (lit_pick (by decide) (by decide) (by decide +kernel) hT.hd.cur r10 (by omega)) (by simp (disch := omega) only [go_sem, ↓reduceIte, Nat.reduceEqDiff]) ?hl ?_
        case hl => first | rfl | (simp only [go_sem, List.all_cons, List.all_nil, Bool.not_false, Bool.and_self]; done)
        rintro r_ s11 ⟨⟨w11, rfl, z11⟩, hdr⟩; refine ⟨fun e => (by cases e), ?_⟩
        simp (disch := omega) only [go_sem, ↓reduceIte, Nat.reduceEqDiff]
        have r3 := rw_draw r3 hdr
        have r10 := rw_draw r10 hdr
        have hT := hT.draw hf1 hf2 hq0 hdr
        refine hF _ [5] _ _ (by decide +kernel) (fm_cons ?_ fm_nil)
        ·simp only [pickOps, List.filterMap_cons, List.filterMap_nil, List.getElem?_cons_zero, List.getElem?_cons_succ, Option.map_some]; simp (disch := omega) only [go_sem, ↓reduceIte, Nat.reduceEqDiff, Nat.reduceAdd, Nat.reduceLeDiff, hG, bsL, fillK_cons, fillK_nil, Nat.reduceMul]
         obtain ⟨r5, i5⟩ := hT.lit hsl [⟨#[101]⟩, ⟨#[101]⟩, ⟨#[101]⟩, ⟨#[101]⟩]
         have r3 := rw_make r3 (⟨[.string ⟨#[101]⟩, .string ⟨#[101]⟩, .string ⟨#[101]⟩, .string ⟨#[101]⟩], 9, 0⟩ : Blk)
         have r10 := rw_make r10 (⟨[.string ⟨#[101]⟩, .string ⟨#[101]⟩, .string ⟨#[101]⟩, .string ⟨#[101]⟩], 9, 0⟩ : Blk)
         have hT := hT.make (⟨[.string ⟨#[101]⟩, .string ⟨#[101]⟩, .string ⟨#[101]⟩, .string ⟨#[101]⟩], 9, 0⟩ : Blk)
         obtain ⟨k, hk4, htk, r8⟩ := lit_take (n := 4) r5 rfl hy0 hy1
         refine hF _ [8] _ _ (by decide +kernel) (fm_cons ?_ fm_nil)
         simp only [pickOps, List.filterMap_cons, List.filterMap_nil, List.getElem?_cons_zero, List.getElem?_cons_succ, Option.map_some]; simp (disch := omega) only [go_sem, ↓reduceIte, Nat.reduceEqDiff, hG, w_slice, ev_slice, htk, flat_i, Bool.false_and, Option.all_some, Option.map_some, Option.all_none, Option.map_none]
         refine hF _ [12] _ _ (by decide +kernel) (fm_cons ?_ fm_nil)
         simp only [pickOps, List.filterMap_cons, List.filterMap_nil, List.getElem?_cons_zero, List.getElem?_cons_succ, Option.map_some]; simp (disch := omega) only [go_sem, ↓reduceIte, Nat.reduceEqDiff, hG]
         refine hF _ [13] _ _ (by decide +kernel) (fm_cons ?_ fm_nil)
         simp only [pickOps, List.filterMap_cons, List.filterMap_nil, List.getElem?_cons_zero, List.getElem?_cons_succ, Option.map_some]; simp (disch := omega) only [go_sem, ↓reduceIte, Nat.reduceEqDiff, hG]
         obtain ⟨hd9, hS9, hU9, hle9⟩ := hT
         have hi9 := hU.lt
         rcases hU9 with ⟨_, h, _⟩ | ⟨i, c, cs, K, hu, hb, hr, hL2⟩
         ·cases h
         have hu' : u = .slice (some ⟨i, 0, none⟩) 7 c := hu
         subst hu'
         subst hL2
         have hi8 := hi9 i (by simp)
         have hiK := (List.nodup_cons.1 hf2.1).1
         have hqi : q < i := by have := hf2.2 i (by simp); omega
         obtain ⟨v', st3, hap, hrow, hvl, hg⟩ := ops_push (c := c) (o := ⟨w4, ([⟨#[101]⟩, ⟨#[101]⟩, ⟨#[101]⟩, ⟨#[101]⟩] : List ByteArray).take k, w11⟩) (ops := baseOps) hb hr hiK hqi (fun j hj e => by have := hf2.2 j (List.mem_cons_of_mem _ hj); omega) r8 (by simp only [topId, ne_eq, Option.some.injEq]; omega) (by decide)
         have hap' : appendA Try.prog 25 25 (.slice (some ⟨i, 0, none⟩) 7 c) _ _ = some (v', st3) := hap
         have hv1 := hrow.notLoc.2
         have hv2 := Row.cells1 hrow
         refine hF _ [14] _ _ (by decide +kernel) (fm_cons ?_ fm_nil)
         simp only [pickOps, List.filterMap_cons, List.filterMap_nil, List.getElem?_cons_zero, List.getElem?_cons_succ, Option.map_some]; simp (disch := omega) only [go_sem, ↓reduceIte, Nat.reduceEqDiff, hG, w_append, hap', hvl]
         refine hF _ [15] _ _ (by decide +kernel) (fm_cons ?_ fm_nil)
         simp only [pickOps, List.filterMap_cons, List.filterMap_nil, List.getElem?_cons_zero, List.getElem?_cons_succ, Option.map_some]; simp (disch := omega) only [go_sem, ↓reduceIte, Nat.reduceEqDiff, hG]
         refine hF _ [16] _ _ (by decide +kernel) (fm_cons ?_ fm_nil)
         simp only [pickOps, List.filterMap_cons, List.filterMap_nil, List.getElem?_cons_zero, List.getElem?_cons_succ, Option.map_some]; simp (disch := omega) only [go_sem, ↓reduceIte, Nat.reduceEqDiff, hG, hv1, hv2, hvl]
         refine hE _ _ _ (by decide +kernel) (hK _ _ ?_)
         exact ⟨⟨[bE, ⟨#[107]⟩], baseOps ++ [⟨w4, ([⟨#[101]⟩, ⟨#[101]⟩, ⟨#[101]⟩, ⟨#[101]⟩] : List ByteArray).take k, w11⟩]⟩, s, v', Drawn.grow hd9 hg (.inr ⟨i, hf2.2 i (by simp), rfl⟩) hq0 rfl, sl_rowBl (hS9.frame fun j hj => hg.away.2 j (hS9.lt j hj) (fun e => by cases e; exact hap0 _ hj (by simp))) hf1 hq0, hrow, ⟨by simp, by simp [baseOps], fun o ho => (List.mem_append.1 ho).elim (baseP o) (fun h => by cases List.mem_singleton.1 h; exact ⟨by simp only [List.length_take]; omega, z4⟩), baseS⟩, a1, a2, a3, hv1, hvl, hv2, (by refine ⟨?_, ?_, ?_, ⟨?_, ?_⟩⟩ <;> ((simp (disch := omega) only [go_sem, ↓reduceIte, Nat.reduceEqDiff]); try rfl))⟩
    ·simp only [pickOps, List.filterMap_cons, List.filterMap_nil, List.getElem?_cons_zero, List.getElem?_cons_succ, Option.map_some]; simp (disch := omega) only [go_sem, ↓reduceIte, Nat.reduceEqDiff, Nat.reduceAdd, Nat.reduceLeDiff, hG, bsL, fillK_cons, fillK_nil, Nat.reduceMul]
     obtain ⟨r5, i5⟩ := hT.lit hsl [⟨#[101]⟩, ⟨#[101]⟩, ⟨#[101]⟩, ⟨#[101]⟩]
     have r3 := rw_make r3 (⟨[.string ⟨#[101]⟩, .string ⟨#[101]⟩, .string ⟨#[101]⟩, .string ⟨#[101]⟩], 9, 0⟩ : Blk)
     have hT := hT.make (⟨[.string ⟨#[101]⟩, .string ⟨#[101]⟩, .string ⟨#[101]⟩, .string ⟨#[101]⟩], 9, 0⟩ : Blk)
     refine hF _ [4, 10] _ _ (by decide +kernel) (fm_cons ?_ (fm_cons ?_ fm_nil))
     ·simp only [pickOps, List.filterMap_cons, List.filterMap_nil, List.getElem?_cons_zero, List.getElem?_cons_succ, Option.map_some]
      refine w_call (lit_pick (by decide) (by decide) (by decide +kernel) hT.hd.cur r3 (by omega)) (by simp (disch := omega) only [go_sem, ↓reduceIte, Nat.reduceEqDiff]) ?hl ?_
      case hl => first | rfl | (simp only [go_sem, List.all_cons, List.all_nil, Bool.not_false, Bool.and_self]; done)
      rintro r_ s4 ⟨⟨w4, rfl, z4⟩, hdr⟩; refine ⟨fun e => (by cases e), ?_⟩
      simp (disch := omega) only [go_sem, ↓reduceIte, Nat.reduceEqDiff]
      have r3 := rw_draw r3 hdr
      have r5 := rw_draw r5 hdr
      have hT := hT.draw hf1 hf2 hq0 hdr
      refine hF _ [7, 10] _ _ (by decide +kernel) (fm_cons ?_ (fm_cons ?_ fm_nil))
      ·simp only [pickOps, List.filterMap_cons, List.filterMap_nil, List.getElem?_cons_zero, List.getElem?_cons_succ, Option.map_some]
       refine w_call (l1Below_ok q xs _ 5 (by omega) (by omega) hT.hd.cur) (by simp (disch := omega) only [go_sem, ↓reduceIte, Nat.reduceEqDiff]) ?hl ?_
       case hl => first | rfl | (simp only [go_sem, List.all_cons, List.all_nil, Bool.not_false, Bool.and_self]; done)
       rintro r_ s7 ⟨⟨y, rfl, hy0, hy1⟩, hdr, _⟩; refine ⟨fun e => (by cases e), ?_⟩
       simp (disch := omega) only [go_sem, ↓reduceIte, Nat.reduceEqDiff]
       have r3 := rw_draw r3 hdr
       have r5 := rw_draw r5 hdr
       have hT := hT.draw hf1 hf2 hq0 hdr
       obtain ⟨k, hk4, htk, r8⟩ := lit_take (n := 4) r5 rfl hy0 hy1
       refine hF _ [8] _ _ (by decide +kernel) (fm_cons ?_ fm_nil)
       simp only [pickOps, List.filterMap_cons, List.filterMap_nil, List.getElem?_cons_zero, List.getElem?_cons_succ, Option.map_some]; simp (disch := omega) only [go_sem, ↓reduceIte, Nat.reduceEqDiff, hG, w_slice, ev_slice, htk, flat_i, Bool.false_and, Option.all_some, Option.map_some, Option.all_none, Option.map_none]
       refine hF _ [10] _ _ (by decide +kernel) (fm_cons ?_ fm_nil)
       ·simp only [pickOps, List.filterMap_cons, List.filterMap_nil, List.getElem?_cons_zero, List.getElem?_cons_succ, Option.map_some]; simp (disch := omega) only [go_sem, ↓reduceIte, Nat.reduceEqDiff, Nat.reduceAdd, Nat.reduceLeDiff, hG, bsL, fillK_cons, fillK_nil, Nat.reduceMul]
        obtain ⟨r10, i10⟩ := hT.lit hsl [⟨#[101]⟩, ⟨#[122, 122]⟩]
        have r3 := rw_make r3 (⟨[.string ⟨#[101]⟩, .string ⟨#[122, 122]⟩], 9, 0⟩ : Blk)
        have r5 := rw_make r5 (⟨[.string ⟨#[101]⟩, .string ⟨#[122, 122]⟩], 9, 0⟩ : Blk)
        have r8 := rw_make r8 (⟨[.string ⟨#[101]⟩, .string ⟨#[122, 122]⟩], 9, 0⟩ : Blk)
        have hT := hT.make (⟨[.string ⟨#[101]⟩, .string ⟨#[122, 122]⟩], 9, 0⟩ : Blk)
        refine hF _ [11] _ _ (by decide +kernel) (fm_cons ?_ fm_nil)
        ·simp only [pickOps, List.filterMap_cons, List.filterMap_nil, List.getElem?_cons_zero, List.getElem?_cons_succ, Option.map_some]
         refine w_call (lit_pick (by decide) (by decide) (by decide +kernel) hT.hd.cur r10 (by omega)) (by simp (disch := omega) only [go_sem, ↓reduceIte, Nat.reduceEqDiff]) ?hl ?_
         case hl => first | rfl | (simp only [go_sem, List.all_cons, List.all_nil, Bool.not_false, Bool.and_self]; done)
         rintro r_ s11 ⟨⟨w11, rfl, z11⟩, hdr⟩; refine ⟨fun e => (by cases e), ?_⟩
         simp (disch := omega) only [go_sem, ↓reduceIte, Nat.reduceEqDiff]
         have r3 := rw_draw r3 hdr
         have r5 := rw_draw r5 hdr
         have r8 := rw_draw r8 hdr
         have r10 := rw_draw r10 hdr
         have hT := hT.draw hf1 hf2 hq0 hdr
         refine hF _ [12] _ _ (by decide +kernel) (fm_cons ?_ fm_nil)
         simp only [pickOps, List.filterMap_cons, List.filterMap_nil, List.getElem?_cons_zero, List.getElem?_cons_succ, Option.map_some]; simp (disch := omega) only [go_sem, ↓reduceIte, Nat.reduceEqDiff, hG]
         refine hF _ [13] _ _ (by decide +kernel) (fm_cons ?_ fm_nil)
         simp only [pickOps, List.filterMap_cons, List.filterMap_nil, List.getElem?_cons_zero, List.getElem?_cons_succ, Option.map_some]; simp (disch := omega) only [go_sem, ↓reduceIte, Nat.reduceEqDiff, hG]
         obtain ⟨hd9, hS9, hU9, hle9⟩ := hT
         have hi9 := hU.lt
         rcases hU9 with ⟨_, h, _⟩ | ⟨i, c, cs, K, hu, hb, hr, hL2⟩
         ·cases h
         have hu' : u = .slice (some ⟨i, 0, none⟩) 7 c := hu
         subst hu'
         subst hL2
         have hi8 := hi9 i (by simp)
         have hiK := (List.nodup_cons.1 hf2.1).1
         have hqi : q < i := by have := hf2.2 i (by simp); omega
         obtain ⟨v', st3, hap, hrow, hvl, hg⟩ := ops_push (c := c) (o := ⟨w4, ([⟨#[101]⟩, ⟨#[101]⟩, ⟨#[101]⟩, ⟨#[101]⟩] : List ByteArray).take k, w11⟩) (ops := baseOps) hb hr hiK hqi (fun j hj e => by have := hf2.2 j (List.mem_cons_of_mem _ hj); omega) r8 (by simp only [topId, ne_eq, Option.some.injEq]; omega) (by decide)
         have hap' : appendA Try.prog 25 25 (.slice (some ⟨i, 0, none⟩) 7 c) _ _ = some (v', st3) := hap
         have hv1 := hrow.notLoc.2
         have hv2 := Row.cells1 hrow
         refine hF _ [14] _ _ (by decide +kernel) (fm_cons ?_ fm_nil)
         simp only [pickOps, List.filterMap_cons, List.filterMap_nil, List.getElem?_cons_zero, List.getElem?_cons_succ, Option.map_some]; simp (disch := omega) only [go_sem, ↓reduceIte, Nat.reduceEqDiff, hG, w_append, hap', hvl]
         refine hF _ [15] _ _ (by decide +kernel) (fm_cons ?_ fm_nil)
         simp only [pickOps, List.filterMap_cons, List.filterMap_nil, List.getElem?_cons_zero, List.getElem?_cons_succ, Option.map_some]; simp (disch := omega) only [go_sem, ↓reduceIte, Nat.reduceEqDiff, hG]
         refine hF _ [16] _ _ (by decide +kernel) (fm_cons ?_ fm_nil)
         simp only [pickOps, List.filterMap_cons, List.filterMap_nil, List.getElem?_cons_zero, List.getElem?_cons_succ, Option.map_some]; simp (disch := omega) only [go_sem, ↓reduceIte, Nat.reduceEqDiff, hG, hv1, hv2, hvl]
         refine hE _ _ _ (by decide +kernel) (hK _ _ ?_)
         exact ⟨⟨[bE, ⟨#[107]⟩], baseOps ++ [⟨w4, ([⟨#[101]⟩, ⟨#[101]⟩, ⟨#[101]⟩, ⟨#[101]⟩] : List ByteArray).take k, w11⟩]⟩, s, v', Drawn.grow hd9 hg (.inr ⟨i, hf2.2 i (by simp), rfl⟩) hq0 rfl, sl_rowBl (hS9.frame fun j hj => hg.away.2 j (hS9.lt j hj) (fun e => by cases e; exact hap0 _ hj (by simp))) hf1 hq0, hrow, ⟨by simp, by simp [baseOps], fun o ho => (List.mem_append.1 ho).elim (baseP o) (fun h => by cases List.mem_singleton.1 h; exact ⟨by simp only [List.length_take]; omega, z4⟩), baseS⟩, a1, a2, a3, hv1, hvl, hv2, (by refine ⟨?_, ?_, ?_, ⟨?_, ?_⟩⟩ <;> ((simp (disch := omega) only [go_sem, ↓reduceIte, Nat.reduceEqDiff]); try rfl))⟩
      ·simp only [pickOps, List.filterMap_cons, List.filterMap_nil, List.getElem?_cons_zero, List.getElem?_cons_succ, Option.map_some]; simp (disch := omega) only [go_sem, ↓reduceIte, Nat.reduceEqDiff, Nat.reduceAdd, Nat.reduceLeDiff, hG, bsL, fillK_cons, fillK_nil, Nat.reduceMul]
       obtain ⟨r10, i10⟩ := hT.lit hsl [⟨#[101]⟩, ⟨#[122, 122]⟩]
       have r3 := rw_make r3 (⟨[.string ⟨#[101]⟩, .string ⟨#[122, 122]⟩], 9, 0⟩ : Blk)
       have r5 := rw_make r5 (⟨[.string ⟨#[101]⟩, .string ⟨#[122, 122]⟩], 9, 0⟩ : Blk)
       have hT := hT.make (⟨[.string ⟨#[101]⟩, .string ⟨#[122, 122]⟩], 9, 0⟩ : Blk)
       refine hF _ [7] _ _ (by decide +kernel) (fm_cons ?_ fm_nil)
       ·simp only [pickOps, List.filterMap_cons, List.filterMap_nil, List.getElem?_cons_zero, List.getElem?_cons_succ, Option.map_some]
        refine w_call (l1Below_ok q xs _ 5 (by omega) (by omega) hT.hd.cur) (by simp (disch := omega) only [go_sem, ↓reduceIte, Nat.reduceEqDiff]) ?hl ?_
        case hl => first | rfl | (simp only [go_sem, List.all_cons, List.all_nil, Bool.not_false, Bool.and_self]; done)
        rintro r_ s7 ⟨⟨y, rfl, hy0, hy1⟩, hdr, _⟩; refine ⟨fun e => (by cases e), ?_⟩
        simp (disch := omega) only [go_sem, ↓reduceIte, Nat.reduceEqDiff]
        have r3 := rw_draw r3 hdr
        have r5 := rw_draw r5 hdr
        have r10 := rw_draw r10 hdr
        have hT := hT.draw hf1 hf2 hq0 hdr
        obtain ⟨k, hk4, htk, r8⟩ := lit_take (n := 4) r5 rfl hy0 hy1
        refine hF _ [8] _ _ (by decide +kernel) (fm_cons ?_ fm_nil)
        simp only [pickOps, List.filterMap_cons, List.filterMap_nil, List.getElem?_cons_zero, List.getElem?_cons_succ, Option.map_some]; simp (disch := omega) only [go_sem, ↓reduceIte, Nat.reduceEqDiff, hG, w_slice, ev_slice, htk, flat_i, Bool.false_and, Option.all_some, Option.map_some, Option.all_none, Option.map_none]
        refine hF _ [11] _ _ (by decide +kernel) (fm_cons ?_ fm_nil)
        ·simp only [pickOps, List.filterMap_cons, List.filterMap_nil, List.getElem?_cons_zero, List.getElem?_cons_succ, Option.map_some]
         refine w_call (lit_pick (by decide) (by decide) (by decide +kernel) hT.hd.cur r10 (by omega)) (by simp (disch := omega) only [go_sem, ↓reduceIte, Nat.reduceEqDiff]) ?hl ?_
         case hl => first | rfl | (simp only [go_sem, List.all_cons, List.all_nil, Bool.not_false, Bool.and_self]; done)
         rintro r_ s11 ⟨⟨w11, rfl, z11⟩, hdr⟩; refine ⟨fun e => (by cases e), ?_⟩
         simp (disch := omega) only [go_sem, ↓reduceIte, Nat.reduceEqDiff]
         have r3 := rw_draw r3 hdr
         have r5 := rw_draw r5 hdr
         have r10 := rw_draw r10 hdr
         have r8 := rw_draw r8 hdr
         have hT := hT.draw hf1 hf2 hq0 hdr
         refine hF _ [12] _ _ (by decide +kernel) (fm_cons ?_ fm_nil)
         simp only [pickOps, List.filterMap_cons, List.filterMap_nil, List.getElem?_cons_zero, List.getElem?_cons_succ, Option.map_some]; simp (disch := omega) only [go_sem, ↓reduceIte, Nat.reduceEqDiff, hG]
         refine hF _ [13] _ _ (by decide +kernel) (fm_cons ?_ fm_nil)
         simp only [pickOps, List.filterMap_cons, List.filterMap_nil, List.getElem?_cons_zero, List.getElem?_cons_succ, Option.map_some]; simp (disch := omega) only [go_sem, ↓reduceIte, Nat.reduceEqDiff, hG]
         obtain ⟨hd9, hS9, hU9, hle9⟩ := hT
         have hi9 := hU.lt
         rcases hU9 with ⟨_, h, _⟩ | ⟨i, c, cs, K, hu, hb, hr, hL2⟩
         ·cases h
         have hu' : u = .slice (some ⟨i, 0, none⟩) 7 c := hu
         subst hu'
         subst hL2
         have hi8 := hi9 i (by simp)
         have hiK := (List.nodup_cons.1 hf2.1).1
         have hqi : q < i := by have := hf2.2 i (by simp); omega
         obtain ⟨v', st3, hap, hrow, hvl, hg⟩ := ops_push (c := c) (o := ⟨w4, ([⟨#[101]⟩, ⟨#[101]⟩, ⟨#[101]⟩, ⟨#[101]⟩] : List ByteArray).take k, w11⟩) (ops := baseOps) hb hr hiK hqi (fun j hj e => by have := hf2.2 j (List.mem_cons_of_mem _ hj); omega) r8 (by simp only [topId, ne_eq, Option.some.injEq]; omega) (by decide)
         have hap' : appendA Try.prog 25 25 (.slice (some ⟨i, 0, none⟩) 7 c) _ _ = some (v', st3) := hap
         have hv1 := hrow.notLoc.2
         have hv2 := Row.cells1 hrow
         refine hF _ [14] _ _ (by decide +kernel) (fm_cons ?_ fm_nil)
         simp only [pickOps, List.filterMap_cons, List.filterMap_nil, List.getElem?_cons_zero, List.getElem?_cons_succ, Option.map_some]; simp (disch := omega) only [go_sem, ↓reduceIte, Nat.reduceEqDiff, hG, w_append, hap', hvl]
         refine hF _ [15] _ _ (by decide +kernel) (fm_cons ?_ fm_nil)
         simp only [pickOps, List.filterMap_cons, List.filterMap_nil, List.getElem?_cons_zero, List.getElem?_cons_succ, Option.map_some]; simp (disch := omega) only [go_sem, ↓reduceIte, Nat.reduceEqDiff, hG]
         refine hF _ [16] _ _ (by decide +kernel) (fm_cons ?_ fm_nil)
         simp only [pickOps, List.filterMap_cons, List.filterMap_nil, List.getElem?_cons_zero, List.getElem?_cons_succ, Option.map_some]; simp (disch := omega) only [go_sem, ↓reduceIte, Nat.reduceEqDiff, hG, hv1, hv2, hvl]
         refine hE _ _ _ (by decide +kernel) (hK _ _ ?_)
         exact ⟨⟨[bE, ⟨#[107]⟩], baseOps ++ [⟨w4, ([⟨#[101]⟩, ⟨#[101]⟩, ⟨#[101]⟩, ⟨#[101]⟩] : List ByteArray).take k, w11⟩]⟩, s, v', Drawn.grow hd9 hg (.inr ⟨i, hf2.2 i (by simp), rfl⟩) hq0 rfl, sl_rowBl (hS9.frame fun j hj => hg.away.2 j (hS9.lt j hj) (fun e => by cases e; exact hap0 _ hj (by simp))) hf1 hq0, hrow, ⟨by simp, by simp [baseOps], fun o ho => (List.mem_append.1 ho).elim (baseP o) (fun h => by cases List.mem_singleton.1 h; exact ⟨by simp only [List.length_take]; omega, z4⟩), baseS⟩, a1, a2, a3, hv1, hvl, hv2, (by refine ⟨?_, ?_, ?_, ⟨?_, ?_⟩⟩ <;> ((simp (disch := omega) only [go_sem, ↓reduceIte, Nat.reduceEqDiff]); try rfl))⟩
     ·simp only [pickOps, List.filterMap_cons, List.filterMap_nil, List.getElem?_cons_zero, List.getElem?_cons_succ, Option.map_some]; simp (disch := omega) only [go_sem, ↓reduceIte, Nat.reduceEqDiff, Nat.reduceAdd, Nat.reduceLeDiff, hG, bsL, fillK_cons, fillK_nil, Nat.reduceMul]
      obtain ⟨r10, i10⟩ := hT.lit hsl [⟨#[101]⟩, ⟨#[122, 122]⟩]
      have r3 := rw_make r3 (⟨[.string ⟨#[101]⟩, .string ⟨#[122, 122]⟩], 9, 0⟩ : Blk)
      have r5 := rw_make r5 (⟨[.string ⟨#[101]⟩, .string ⟨#[122, 122]⟩], 9, 0⟩ : Blk)
      have hT := hT.make (⟨[.string ⟨#[101]⟩, .string ⟨#[122, 122]⟩], 9, 0⟩ : Blk)
      refine hF _ [4] _ _ (by decide +kernel) (fm_cons ?_ fm_nil)
      ·simp only [pickOps, List.filterMap_cons, List.filterMap_nil, List.getElem?_cons_zero, List.getElem?_cons_succ, Option.map_some]
       refine w_call (lit_pick (by decide) (by decide) (by decide +kernel) hT.hd.cur r3 (by omega)) (by simp (disch := omega) only [go_sem, ↓reduceIte, Nat.reduceEqDiff]) ?hl ?_
       case hl => first | rfl | (simp only [go_sem, List.all_cons, List.all_nil, Bool.not_false, Bool.and_self]; done)
       rintro r_ s4 ⟨⟨w4, rfl, z4⟩, hdr⟩; refine ⟨fun e => (by cases e), ?_⟩
       simp (disch := omega) only [go_sem, ↓reduceIte, Nat.reduceEqDiff]
       have r3 := rw_draw r3 hdr
       have r5 := rw_draw r5 hdr
       have r10 := rw_draw r10 hdr
       have hT := hT.draw hf1 hf2 hq0 hdr
       refine hF _ [7] _ _ (by decide +kernel) (fm_cons ?_ fm_nil)
       ·simp only [pickOps, List.filterMap_cons, List.filterMap_nil, List.getElem?_cons_zero, List.getElem?_cons_succ, Option.map_some]
        refine w_call (l1Below_ok q xs _ 5 (by omega) (by omega) hT.hd.cur) (by simp (disch := omega) only [go_sem, ↓reduceIte, Nat.reduceEqDiff]) ?hl ?_
        case hl => first | rfl | (simp only [go_sem, List.all_cons, List.all_nil, Bool.not_false, Bool.and_self]; done)
        rintro r_ s7 ⟨⟨y, rfl, hy0, hy1⟩, hdr, _⟩; refine ⟨fun e => (by cases e), ?_⟩
        simp (disch := omega) only [go_sem, ↓reduceIte, Nat.reduceEqDiff]
        have r3 := rw_draw r3 hdr
        have r5 := rw_draw r5 hdr
        have r10 := rw_draw r10 hdr
        have hT := hT.draw hf1 hf2 hq0 hdr
        obtain ⟨k, hk4, htk, r8⟩ := lit_take (n := 4) r5 rfl hy0 hy1
        refine hF _ [8] _ _ (by decide +kernel) (fm_cons ?_ fm_nil)
        simp only [pickOps, List.filterMap_cons, List.filterMap_nil, List.getElem?_cons_zero, List.getElem?_cons_succ, Option.map_some]; simp (disch := omega) only [go_sem, ↓reduceIte, Nat.reduceEqDiff, hG, w_slice, ev_slice, htk, flat_i, Bool.false_and, Option.all_some, Option.map_some, Option.all_none, Option.map_none]
        refine hF _ [11] _ _ (by decide +kernel) (fm_cons ?_ fm_nil)
        ·simp only [pickOps, List.filterMap_cons, List.filterMap_nil, List.getElem?_cons_zero, List.getElem?_cons_succ, Option.map_some]
         refine w_call (lit_pick (by decide) (by decide) (by decide +kernel) hT.hd.cur r10 (by omega)) (by simp (disch := omega) only [go_sem, ↓reduceIte, Nat.reduceEqDiff]) ?hl ?_
         case hl => first | rfl | (simp only [go_sem, List.all_cons, List.all_nil, Bool.not_false, Bool.and_self]; done)
         rintro r_ s11 ⟨⟨w11, rfl, z11⟩, hdr⟩; refine ⟨fun e => (by cases e), ?_⟩
         simp (disch := omega) only [go_sem, ↓reduceIte, Nat.reduceEqDiff]
         have r3 := rw_draw r3 hdr
         have r5 := rw_draw r5 hdr
         have r10 := rw_draw r10 hdr
         have r8 := rw_draw r8 hdr
         have hT := hT.draw hf1 hf2 hq0 hdr
         refine hF _ [12] _ _ (by decide +kernel) (fm_cons ?_ fm_nil)
         simp only [pickOps, List.filterMap_cons, List.filterMap_nil, List.getElem?_cons_zero, List.getElem?_cons_succ, Option.map_some]; simp (disch := omega) only [go_sem, ↓reduceIte, Nat.reduceEqDiff, hG]
         refine hF _ [13] _ _ (by decide +kernel) (fm_cons ?_ fm_nil)
         simp only [pickOps, List.filterMap_cons, List.filterMap_nil, List.getElem?_cons_zero, List.getElem?_cons_succ, Option.map_some]; simp (disch := omega) only [go_sem, ↓reduceIte, Nat.reduceEqDiff, hG]
         obtain ⟨hd9, hS9, hU9, hle9⟩ := hT
         have hi9 := hU.lt
         rcases hU9 with ⟨_, h, _⟩ | ⟨i, c, cs, K, hu, hb, hr, hL2⟩
         ·cases h
         have hu' : u = .slice (some ⟨i, 0, none⟩) 7 c := hu
         subst hu'
         subst hL2
         have hi8 := hi9 i (by simp)
         have hiK := (List.nodup_cons.1 hf2.1).1
         have hqi : q < i := by have := hf2.2 i (by simp); omega
         obtain ⟨v', st3, hap, hrow, hvl, hg⟩ := ops_push (c := c) (o := ⟨w4, ([⟨#[101]⟩, ⟨#[101]⟩, ⟨#[101]⟩, ⟨#[101]⟩] : List ByteArray).take k, w11⟩) (ops := baseOps) hb hr hiK hqi (fun j hj e => by have := hf2.2 j (List.mem_cons_of_mem _ hj); omega) r8 (by simp only [topId, ne_eq, Option.some.injEq]; omega) (by decide)
         have hap' : appendA Try.prog 25 25 (.slice (some ⟨i, 0, none⟩) 7 c) _ _ = some (v', st3) := hap
         have hv1 := hrow.notLoc.2
         have hv2 := Row.cells1 hrow
         refine hF _ [14] _ _ (by decide +kernel) (fm_cons ?_ fm_nil)
         simp only [pickOps, List.filterMap_cons, List.filterMap_nil, List.getElem?_cons_zero, List.getElem?_cons_succ, Option.map_some]; simp (disch := omega) only [go_sem, ↓reduceIte, Nat.reduceEqDiff, hG, w_append, hap', hvl]
         refine hF _ [15] _ _ (by decide +kernel) (fm_cons ?_ fm_nil)
         simp only [pickOps, List.filterMap_cons, List.filterMap_nil, List.getElem?_cons_zero, List.getElem?_cons_succ, Option.map_some]; simp (disch := omega) only [go_sem, ↓reduceIte, Nat.reduceEqDiff, hG]
         refine hF _ [16] _ _ (by decide +kernel) (fm_cons ?_ fm_nil)
         simp only [pickOps, List.filterMap_cons, List.filterMap_nil, List.getElem?_cons_zero, List.getElem?_cons_succ, Option.map_some]; simp (disch := omega) only [go_sem, ↓reduceIte, Nat.reduceEqDiff, hG, hv1, hv2, hvl]
         refine hE _ _ _ (by decide +kernel) (hK _ _ ?_)
         exact ⟨⟨[bE, ⟨#[107]⟩], baseOps ++ [⟨w4, ([⟨#[101]⟩, ⟨#[101]⟩, ⟨#[101]⟩, ⟨#[101]⟩] : List ByteArray).take k, w11⟩]⟩, s, v', Drawn.grow hd9 hg (.inr ⟨i, hf2.2 i (by simp), rfl⟩) hq0 rfl, sl_rowBl (hS9.frame fun j hj => hg.away.2 j (hS9.lt j hj) (fun e => by cases e; exact hap0 _ hj (by simp))) hf1 hq0, hrow, ⟨by simp, by simp [baseOps], fun o ho => (List.mem_append.1 ho).elim (baseP o) (fun h => by cases List.mem_singleton.1 h; exact ⟨by simp only [List.length_take]; omega, z4⟩), baseS⟩, a1, a2, a3, hv1, hvl, hv2, (by refine ⟨?_, ?_, ?_, ⟨?_, ?_⟩⟩ <;> ((simp (disch := omega) only [go_sem, ↓reduceIte, Nat.reduceEqDiff]); try rfl))⟩
    ·simp only [pickOps, List.filterMap_cons, List.filterMap_nil, List.getElem?_cons_zero, List.getElem?_cons_succ, Option.map_some]; simp (disch := omega) only [go_sem, ↓reduceIte, Nat.reduceEqDiff, Nat.reduceAdd, Nat.reduceLeDiff, hG, bsL, fillK_cons, fillK_nil, Nat.reduceMul]
     obtain ⟨r10, i10⟩ := hT.lit hsl [⟨#[101]⟩, ⟨#[122, 122]⟩]
     have r3 := rw_make r3 (⟨[.string ⟨#[101]⟩, .string ⟨#[122, 122]⟩], 9, 0⟩ : Blk)
     have hT := hT.make (⟨[.string ⟨#[101]⟩, .string ⟨#[122, 122]⟩], 9, 0⟩ : Blk)
     refine hF _ [4, 5] _ _ (by decide +kernel) (fm_cons ?_ (fm_cons ?_ fm_nil))
     ·simp only [pickOps, List.filterMap_cons, List.filterMap_nil, List.getElem?_cons_zero, List.getElem?_cons_succ, Option.map_some]
      refine w_call (lit_pick (by decide) (by decide) (by decide +kernel) hT.hd.cur r3 (by omega)) (by simp (disch := omega) only [go_sem, ↓reduceIte, Nat.reduceEqDiff]) ?hl ?_
      case hl => first | rfl | (simp only [go_sem, List.all_cons, List.all_nil, Bool.not_false, Bool.and_self]; done)
      rintro r_ s4 ⟨⟨w4, rfl, z4⟩, hdr⟩; refine ⟨fun e => (by cases e), ?_⟩
      simp (disch := omega) only [go_sem, ↓reduceIte, Nat.reduceEqDiff]
      have r3 := rw_draw r3 hdr
      have r10 := rw_draw r10 hdr
      have hT := hT.draw hf1 hf2 hq0 hdr
      refine hF _ [5, 7] _ _ (by decide +kernel) (fm_cons ?_ (fm_cons ?_ fm_nil))
      ·simp only [pickOps, List.filterMap_cons, List.filterMap_nil, List.getElem?_cons_zero, List.getElem?_cons_succ, Option.map_some]; simp (disch := omega) only [go_sem, ↓reduceIte, Nat.reduceEqDiff, Nat.reduceAdd, Nat.reduceLeDiff, hG, bsL, fillK_cons, fillK_nil, Nat.reduceMul]
       obtain ⟨r5, i5⟩ := hT.lit hsl [⟨#[101]⟩, ⟨#[101]⟩, ⟨#[101]⟩, ⟨#[101]⟩]
       have r3 := rw_make r3 (⟨[.string ⟨#[101]⟩, .string ⟨#[101]⟩, .string ⟨#[101]⟩, .string ⟨#[101]⟩], 9, 0⟩ : Blk)
       have r10 := rw_make r10 (⟨[.string ⟨#[101]⟩, .string ⟨#[101]⟩, .string ⟨#[101]⟩, .string ⟨#[101]⟩], 9, 0⟩ : Blk)
       have hT := hT.make (⟨[.string ⟨#[101]⟩, .string ⟨#[101]⟩, .string ⟨#[101]⟩, .string ⟨#[101]⟩], 9, 0⟩ : Blk)
       refine hF _ [7] _ _ (by decide +kernel) (fm_cons ?_ fm_nil)
       ·simp only [pickOps, List.filterMap_cons, List.filterMap_nil, List.getElem?_cons_zero, List.getElem?_cons_succ, Option.map_some]
        refine w_call (l1Below_ok q xs _ 5 (by omega) (by omega) hT.hd.cur) (by simp (disch := omega) only [go_sem, ↓reduceIte, Nat.reduceEqDiff]) ?hl ?_
        case hl => first | rfl | (simp only [go_sem, List.all_cons, List.all_nil, Bool.not_false, Bool.and_self]; done)
        rintro r_ s7 ⟨⟨y, rfl, hy0, hy1⟩, hdr, _⟩; refine ⟨fun e => (by cases e), ?_⟩
        simp (disch := omega) only [go_sem, ↓reduceIte, Nat.reduceEqDiff]
        have r3 := rw_draw r3 hdr
        have r10 := rw_draw r10 hdr
        have r5 := rw_draw r5 hdr
        have hT := hT.draw hf1 hf2 hq0 hdr
        obtain ⟨k, hk4, htk, r8⟩ := lit_take (n := 4) r5 rfl hy0 hy1
        refine hF _ [8] _ _ (by decide +kernel) (fm_cons ?_ fm_nil)
        simp only [pickOps, List.filterMap_cons, List.filterMap_nil, List.getElem?_cons_zero, List.getElem?_cons_succ, Option.map_some]; simp (disch := omega) only [go_sem, ↓reduceIte, Nat.reduceEqDiff, hG, w_slice, ev_slice, htk, flat_i, Bool.false_and, Option.all_some, Option.map_some, Option.all_none, Option.map_none]
        refine hF _ [11] _ _ (by decide +kernel) (fm_cons ?_ fm_nil)
        ·simp only [pickOps, List.filterMap_cons, List.filterMap_nil, List.getElem?_cons_zero, List.getElem?_cons_succ, Option.map_some]
         refine w_call (lit_pick (by decide) (by decide) (by decide +kernel) hT.hd.cur r10 (by omega)) (by simp (disch := omega) only [go_sem, ↓reduceIte, Nat.reduceEqDiff]) ?hl ?_
         case hl => first | rfl | (simp only [go_sem, List.all_cons, List.all_nil, Bool.not_false, Bool.and_self]; done)
         rintro r_ s11 ⟨⟨w11, rfl, z11⟩, hdr⟩; refine ⟨fun e => (by cases e), ?_⟩
         simp (disch := omega) only [go_sem, ↓reduceIte, Nat.reduceEqDiff]
         have r3 := rw_draw r3 hdr
         have r10 := rw_draw r10 hdr
         have r5 := rw_draw r5 hdr
         have r8 := rw_draw r8 hdr
         have hT := hT.draw hf1 hf2 hq0 hdr
         refine hF _ [12] _ _ (by decide +kernel) (fm_cons ?_ fm_nil)
         simp only [pickOps, List.filterMap_cons, List.filterMap_nil, List.getElem?_cons_zero, List.getElem?_cons_succ, Option.map_some]; simp (disch := omega) only [go_sem, ↓reduceIte, Nat.reduceEqDiff, hG]
         refine hF _ [13] _ _ (by decide +kernel) (fm_cons ?_ fm_nil)
         simp only [pickOps, List.filterMap_cons, List.filterMap_nil, List.getElem?_cons_zero, List.getElem?_cons_succ, Option.map_some]; simp (disch := omega) only [go_sem, ↓reduceIte, Nat.reduceEqDiff, hG]
         obtain ⟨hd9, hS9, hU9, hle9⟩ := hT
         have hi9 := hU.lt
         rcases hU9 with ⟨_, h, _⟩ | ⟨i, c, cs, K, hu, hb, hr, hL2⟩
         ·cases h
         have hu' : u = .slice (some ⟨i, 0, none⟩) 7 c := hu
         subst hu'
         subst hL2
         have hi8 := hi9 i (by simp)
         have hiK := (List.nodup_cons.1 hf2.1).1
         have hqi : q < i := by have := hf2.2 i (by simp); omega
         obtain ⟨v', st3, hap, hrow, hvl, hg⟩ := ops_push (c := c) (o := ⟨w4, ([⟨#[101]⟩, ⟨#[101]⟩, ⟨#[101]⟩, ⟨#[101]⟩] : List ByteArray).take k, w11⟩) (ops := baseOps) hb hr hiK hqi (fun j hj e => by have := hf2.2 j (List.mem_cons_of_mem _ hj); omega) r8 (by simp only [topId, ne_eq, Option.some.injEq]; omega) (by decide)
         have hap' : appendA Try.prog 25 25 (.slice (some ⟨i, 0, none⟩) 7 c) _ _ = some (v', st3) := hap
         have hv1 := hrow.notLoc.2
         have hv2 := Row.cells1 hrow
         refine hF _ [14] _ _ (by decide +kernel) (fm_cons ?_ fm_nil)
         simp only [pickOps, List.filterMap_cons, List.filterMap_nil, List.getElem?_cons_zero, List.getElem?_cons_succ, Option.map_some]; simp (disch := omega) only [go_sem, ↓reduceIte, Nat.reduceEqDiff, hG, w_append, hap', hvl]
         refine hF _ [15] _ _ (by decide +kernel) (fm_cons ?_ fm_nil)
         simp only [pickOps, List.filterMap_cons, List.filterMap_nil, List.getElem?_cons_zero, List.getElem?_cons_succ, Option.map_some]; simp (disch := omega) only [go_sem, ↓reduceIte, Nat.reduceEqDiff, hG]
         refine hF _ [16] _ _ (by decide +kernel) (fm_cons ?_ fm_nil)
         simp only [pickOps, List.filterMap_cons, List.filterMap_nil, List.getElem?_cons_zero, List.getElem?_cons_succ, Option.map_some]; simp (disch := omega) only [go_sem, ↓reduceIte, Nat.reduceEqDiff, hG, hv1, hv2, hvl]
         refine hE _ _ _ (by decide +kernel) (hK _ _ ?_)
         exact ⟨⟨[bE, ⟨#[107]⟩], baseOps ++ [⟨w4, ([⟨#[101]⟩, ⟨#[101]⟩, ⟨#[101]⟩, ⟨#[101]⟩] : List ByteArray).take k, w11⟩]⟩, s, v', Drawn.grow hd9 hg (.inr ⟨i, hf2.2 i (by simp), rfl⟩) hq0 rfl, sl_rowBl (hS9.frame fun j hj => hg.away.2 j (hS9.lt j hj) (fun e => by cases e; exact hap0 _ hj (by simp))) hf1 hq0, hrow, ⟨by simp, by simp [baseOps], fun o ho => (List.mem_append.1 ho).elim (baseP o) (fun h => by cases List.mem_singleton.1 h; exact ⟨by simp only [List.length_take]; omega, z4⟩), baseS⟩, a1, a2, a3, hv1, hvl, hv2, (by refine ⟨?_, ?_, ?_, ⟨?_, ?_⟩⟩ <;> ((simp (disch := omega) only [go_sem, ↓reduceIte, Nat.reduceEqDiff]); try rfl))⟩
      ·simp only [pickOps, List.filterMap_cons, List.filterMap_nil, List.getElem?_cons_zero, List.getElem?_cons_succ, Option.map_some]
       refine w_call (l1Below_ok q xs _ 5 (by omega) (by omega) hT.hd.cur) (by simp (disch := omega) only [go_sem, ↓reduceIte, Nat.reduceEqDiff]) ?hl ?_
       case hl => first | rfl | (simp only [go_sem, List.all_cons, List.all_nil, Bool.not_false, Bool.and_self]; done)
       rintro r_ s7 ⟨⟨y, rfl, hy0, hy1⟩, hdr, _⟩; refine ⟨fun e => (by cases e), ?_⟩
       simp (disch := omega) only [go_sem, ↓reduceIte, Nat.reduceEqDiff]
       have r3 := rw_draw r3 hdr
       have r10 := rw_draw r10 hdr
       have hT := hT.draw hf1 hf2 hq0 hdr
       refine hF _ [5, 11] _ _ (by decide +kernel) (fm_cons ?_ (fm_cons ?_ fm_nil))
       ·simp only [pickOps, List.filterMap_cons, List.filterMap_nil, List.getElem?_cons_zero, List.getElem?_cons_succ, Option.map_some]; simp (disch := omega) only [go_sem, ↓reduceIte, Nat.reduceEqDiff, Nat.reduceAdd, Nat.reduceLeDiff, hG, bsL, fillK_cons, fillK_nil, Nat.reduceMul]
        obtain ⟨r5, i5⟩ := hT.lit hsl [⟨#[101]⟩, ⟨#[101]⟩, ⟨#[101]⟩, ⟨#[101]⟩]
        have r3 := rw_make r3 (⟨[.string ⟨#[101]⟩, .string ⟨#[101]⟩, .string ⟨#[101]⟩, .string ⟨#[101]⟩], 9, 0⟩ : Blk)
        have r10 := rw_make r10 (⟨[.string ⟨#[101]⟩, .string ⟨#[101]⟩, .string ⟨#[101]⟩, .string ⟨#[101]⟩], 9, 0⟩ : Blk)
        have hT := hT.make (⟨[.string ⟨#[101]⟩, .string ⟨#[101]⟩, .string ⟨#[101]⟩, .string ⟨#[101]⟩], 9, 0⟩ : Blk)
        obtain ⟨k, hk4, htk, r8⟩ := lit_take (n := 4) r5 rfl hy0 hy1
        refine hF _ [8] _ _ (by decide +kernel) (fm_cons ?_ fm_nil)
        simp only [pickOps, List.filterMap_cons, List.filterMap_nil, List.getElem?_cons_zero, List.getElem?_cons_succ, Option.map_some]; simp (disch := omega) only [go_sem, ↓reduceIte, Nat.reduceEqDiff, hG, w_slice, ev_slice, htk, flat_i, Bool.false_and, Option.all_some, Option.map_some, Option.all_none, Option.map_none]
        refine hF _ [11] _ _ (by decide +kernel) (fm_cons ?_ fm_nil)
        ·simp only [pickOps, List.filterMap_cons, List.filterMap_nil, List.getElem?_cons_zero, List.getElem?_cons_succ, Option.map_some]
         refine w_call (lit_pick (by decide) (by decide) (by decide +kernel) hT.hd.cur r10 (by omega)) (by simp (disch := omega) only [go_sem, ↓reduceIte, Nat.reduceEqDiff]) ?hl ?_
         case hl => first | rfl | (simp only [go_sem, List.all_cons, List.all_nil, Bool.not_false, Bool.and_self]; done)
         rintro r_ s11 ⟨⟨w11, rfl, z11⟩, hdr⟩; refine ⟨fun e => (by cases e), ?_⟩
         simp (disch := omega) only [go_sem, ↓reduceIte, Nat.reduceEqDiff]
         have r3 := rw_draw r3 hdr
         have r10 := rw_draw r10 hdr
         have r5 := rw_draw r5 hdr
         have r8 := rw_draw r8 hdr
         have hT := hT.draw hf1 hf2 hq0 hdr
         refine hF _ [12] _ _ (by decide +kernel) (fm_cons ?_ fm_nil)
         simp only [pickOps, List.filterMap_cons, List.filterMap_nil, List.getElem?_cons_zero, List.getElem?_cons_succ, Option.map_some]; simp (disch := omega) only [go_sem, ↓reduceIte, Nat.reduceEqDiff, hG]
         refine hF _ [13] _ _ (by decide +kernel) (fm_cons ?_ fm_nil)
         simp only [pickOps, List.filterMap_cons, List.filterMap_nil, List.getElem?_cons_zero, List.getElem?_cons_succ, Option.map_some]; simp (disch := omega) only [go_sem, ↓reduceIte, Nat.reduceEqDiff, hG]
         obtain ⟨hd9, hS9, hU9, hle9⟩ := hT
         have hi9 := hU.lt
         rcases hU9 with ⟨_, h, _⟩ | ⟨i, c, cs, K, hu, hb, hr, hL2⟩
         ·cases h
         have hu' : u = .slice (some ⟨i, 0, none⟩) 7 c := hu
         subst hu'
         subst hL2
         have hi8 := hi9 i (by simp)
         have hiK := (List.nodup_cons.1 hf2.1).1
         have hqi : q < i := by have := hf2.2 i (by simp); omega
         obtain ⟨v', st3, hap, hrow, hvl, hg⟩ := ops_push (c := c) (o := ⟨w4, ([⟨#[101]⟩, ⟨#[101]⟩, ⟨#[101]⟩, ⟨#[101]⟩] : List ByteArray).take k, w11⟩) (ops := baseOps) hb hr hiK hqi (fun j hj e => by have := hf2.2 j (List.mem_cons_of_mem _ hj); omega) r8 (by simp only [topId, ne_eq, Option.some.injEq]; omega) (by decide)
         have hap' : appendA Try.prog 25 25 (.slice (some ⟨i, 0, none⟩) 7 c) _ _ = some (v', st3) := hap
         have hv1 := hrow.notLoc.2
         have hv2 := Row.cells1 hrow
         refine hF _ [14] _ _ (by decide +kernel) (fm_cons ?_ fm_nil)
         simp only [pickOps, List.filterMap_cons, List.filterMap_nil, List.getElem?_cons_zero, List.getElem?_cons_succ, Option.map_some]; simp (disch := omega) only [go_sem, ↓reduceIte, Nat.reduceEqDiff, hG, w_append, hap', hvl]
         refine hF _ [15] _ _ (by decide +kernel) (fm_cons ?_ fm_nil)
         simp only [pickOps, List.filterMap_cons, List.filterMap_nil, List.getElem?_cons_zero, List.getElem?_cons_succ, Option.map_some]; simp (disch := omega) only [go_sem, ↓reduceIte, Nat.reduceEqDiff, hG]
         refine hF _ [16] _ _ (by decide +kernel) (fm_cons ?_ fm_nil)
         simp only [pickOps, List.filterMap_cons, List.filterMap_nil, List.getElem?_cons_zero, List.getElem?_cons_succ, Option.map_some]; simp (disch := omega) only [go_sem, ↓reduceIte, Nat.reduceEqDiff, hG, hv1, hv2, hvl]
         refine hE _ _ _ (by decide +kernel) (hK _ _ ?_)
         exact ⟨⟨[bE, ⟨#[107]⟩], baseOps ++ [⟨w4, ([⟨#[101]⟩, ⟨#[101]⟩, ⟨#[101]⟩, ⟨#[101]⟩] : List ByteArray).take k, w11⟩]⟩, s, v', Drawn.grow hd9 hg (.inr ⟨i, hf2.2 i (by simp), rfl⟩) hq0 rfl, sl_rowBl (hS9.frame fun j hj => hg.away.2 j (hS9.lt j hj) (fun e => by cases e; exact hap0 _ hj (by simp))) hf1 hq0, hrow, ⟨by simp, by simp [baseOps], fun o ho => (List.mem_append.1 ho).elim (baseP o) (fun h => by cases List.mem_singleton.1 h; exact ⟨by simp only [List.length_take]; omega, z4⟩), baseS⟩, a1, a2, a3, hv1, hvl, hv2, (by refine ⟨?_, ?_, ?_, ⟨?_, ?_⟩⟩ <;> ((simp (disch := omega) only [go_sem, ↓reduceIte, Nat.reduceEqDiff]); try rfl))⟩
       ·simp only [pickOps, List.filterMap_cons, List.filterMap_nil, List.getElem?_cons_zero, List.getElem?_cons_succ, Option.map_some]
        refine w_call (lit_pick (by decide) (by decide) (by decide +kernel) hT.hd.cur r10 (by omega)) (by simp (disch := omega) only [go_sem, ↓reduceIte, Nat.reduceEqDiff]) ?hl ?_
        case hl => first | rfl | (simp only [go_sem, List.all_cons, List.all_nil, Bool.not_false, Bool.and_self]; done)
        rintro r_ s11 ⟨⟨w11, rfl, z11⟩, hdr⟩; refine ⟨fun e => (by cases e), ?_⟩
        simp (disch := omega) only [go_sem, ↓reduceIte, Nat.reduceEqDiff]
        have r3 := rw_draw r3 hdr
        have r10 := rw_draw r10 hdr
        have hT := hT.draw hf1 hf2 hq0 hdr
        refine hF _ [5] _ _ (by decide +kernel) (fm_cons ?_ fm_nil)
        ·simp only [pickOps, List.filterMap_cons, List.filterMap_nil, List.getElem?_cons_zero, List.getElem?_cons_succ, Option.map_some]; simp (disch := omega) only [go_sem, ↓reduceIte, Nat.reduceEqDiff, Nat.reduceAdd, Nat.reduceLeDiff, hG, bsL, fillK_cons, fillK_nil, Nat.reduceMul]
         obtain ⟨r5, i5⟩ := hT.lit hsl [⟨#[101]⟩, ⟨#[101]⟩, ⟨#[101]⟩, ⟨#[101]⟩]
         have r3 := rw_make r3 (⟨[.string ⟨#[101]⟩, .string ⟨#[101]⟩, .string ⟨#[101]⟩, .string ⟨#[101]⟩], 9, 0⟩ : Blk)
         have r10 := rw_make r10 (⟨[.string ⟨#[101]⟩, .string ⟨#[101]⟩, .string ⟨#[101]⟩, .string ⟨#[101]⟩], 9, 0⟩ : Blk)
         have hT := hT.make (⟨[.string ⟨#[101]⟩, .string ⟨#[101]⟩, .string ⟨#[101]⟩, .string ⟨#[101]⟩], 9, 0⟩ : Blk)
         obtain ⟨k, hk4, htk, r8⟩ := lit_take (n := 4) r5 rfl hy0 hy1
         refine hF _ [8] _ _ (by decide +kernel) (fm_cons ?_ fm_nil)
         simp only [pickOps, List.filterMap_cons, List.filterMap_nil, List.getElem?_cons_zero, List.getElem?_cons_succ, Option.map_some]; simp (disch := omega) only [go_sem, ↓reduceIte, Nat.reduceEqDiff, hG, w_slice, ev_slice, htk, flat_i, Bool.false_and, Option.all_some, Option.map_some, Option.all_none, Option.map_none]
         refine hF _ [12] _ _ (by decide +kernel) (fm_cons ?_ fm_nil)
         simp only [pickOps, List.filterMap_cons, List.filterMap_nil, List.getElem?_cons_zero, List.getElem?_cons_succ, Option.map_some]; simp (disch := omega) only [go_sem, ↓reduceIte, Nat.reduceEqDiff, hG]
         refine hF _ [13] _ _ (by decide +kernel) (fm_cons ?_ fm_nil)
         simp only [pickOps, List.filterMap_cons, List.filterMap_nil, List.getElem?_cons_zero, List.getElem?_cons_succ, Option.map_some]; simp (disch := omega) only [go_sem, ↓reduceIte, Nat.reduceEqDiff, hG]
         obtain ⟨hd9, hS9, hU9, hle9⟩ := hT
         have hi9 := hU.lt
         rcases hU9 with ⟨_, h, _⟩ | ⟨i, c, cs, K, hu, hb, hr, hL2⟩
         ·cases h
         have hu' : u = .slice (some ⟨i, 0, none⟩) 7 c := hu
         subst hu'
         subst hL2
         have hi8 := hi9 i (by simp)
         have hiK := (List.nodup_cons.1 hf2.1).1
         have hqi : q < i := by have := hf2.2 i (by simp); omega
         obtain ⟨v', st3, hap, hrow, hvl, hg⟩ := ops_push (c := c) (o := ⟨w4, ([⟨#[101]⟩, ⟨#[101]⟩, ⟨#[101]⟩, ⟨#[101]⟩] : List ByteArray).take k, w11⟩) (ops := baseOps) hb hr hiK hqi (fun j hj e => by have := hf2.2 j (List.mem_cons_of_mem _ hj); omega) r8 (by simp only [topId, ne_eq, Option.some.injEq]; omega) (by decide)
         have hap' : appendA Try.prog 25 25 (.slice (some ⟨i, 0, none⟩) 7 c) _ _ = some (v', st3) := hap
         have hv1 := hrow.notLoc.2
         have hv2 := Row.cells1 hrow
         refine hF _ [14] _ _ (by decide +kernel) (fm_cons ?_ fm_nil)
         simp only [pickOps, List.filterMap_cons, List.filterMap_nil, List.getElem?_cons_zero, List.getElem?_cons_succ, Option.map_some]; simp (disch := omega) only [go_sem, ↓reduceIte, Nat.reduceEqDiff, hG, w_append, hap', hvl]
         refine hF _ [15] _ _ (by decide +kernel) (fm_cons ?_ fm_nil)
         simp only [pickOps, List.filterMap_cons, List.filterMap_nil, List.getElem?_cons_zero, List.getElem?_cons_succ, Option.map_some]; simp (disch := omega) only [go_sem, ↓reduceIte, Nat.reduceEqDiff, hG]
         refine hF _ [16] _ _ (by decide +kernel) (fm_cons ?_ fm_nil)
         simp only [pickOps, List.filterMap_cons, List.filterMap_nil, List.getElem?_cons_zero, List.getElem?_cons_succ, Option.map_some]; simp (disch := omega) only [go_sem, ↓reduceIte, Nat.reduceEqDiff, hG, hv1, hv2, hvl]
         refine hE _ _ _ (by decide +kernel) (hK _ _ ?_)
         exact ⟨⟨[bE, ⟨#[107]⟩], baseOps ++ [⟨w4, ([⟨#[101]⟩, ⟨#[101]⟩, ⟨#[101]⟩, ⟨#[101]⟩] : List ByteArray).take k, w11⟩]⟩, s, v', Drawn.grow hd9 hg (.inr ⟨i, hf2.2 i (by simp), rfl⟩) hq0 rfl, sl_rowBl (hS9.frame fun j hj => hg.away.2 j (hS9.lt j hj) (fun e => by cases e; exact hap0 _ hj (by simp))) hf1 hq0, hrow, ⟨by simp, by simp [baseOps], fun o ho => (List.mem_append.1 ho).elim (baseP o) (fun h => by cases List.mem_singleton.1 h; exact ⟨by simp only [List.length_take]; omega, z4⟩), baseS⟩, a1, a2, a3, hv1, hvl, hv2, (by refine ⟨?_, ?_, ?_, ⟨?_, ?_⟩⟩ <;> ((simp (disch := omega) only [go_sem, ↓reduceIte, Nat.reduceEqDiff]); try rfl))⟩
     ·simp only [pickOps, List.filterMap_cons, List.filterMap_nil, List.getElem?_cons_zero, List.getElem?_cons_succ, Option.map_some]; simp (disch := omega) only [go_sem, ↓reduceIte, Nat.reduceEqDiff, Nat.reduceAdd, Nat.reduceLeDiff, hG, bsL, fillK_cons, fillK_nil, Nat.reduceMul]
      obtain ⟨r5, i5⟩ := hT.lit hsl [⟨#[101]⟩, ⟨#[101]⟩, ⟨#[101]⟩, ⟨#[101]⟩]
      have r3 := rw_make r3 (⟨[.string ⟨#[101]⟩, .string ⟨#[101]⟩, .string ⟨#[101]⟩, .string ⟨#[101]⟩], 9, 0⟩ : Blk)
      have r10 := rw_make r10 (⟨[.string ⟨#[101]⟩, .string ⟨#[101]⟩, .string ⟨#[101]⟩, .string ⟨#[101]⟩], 9, 0⟩ : Blk)
      have hT := hT.make (⟨[.string ⟨#[101]⟩, .string ⟨#[101]⟩, .string ⟨#[101]⟩, .string ⟨#[101]⟩], 9, 0⟩ : Blk)
      refine hF _ [4] _ _ (by decide +kernel) (fm_cons ?_ fm_nil)
      ·simp only [pickOps, List.filterMap_cons, List.filterMap_nil, List.getElem?_cons_zero, List.getElem?_cons_succ, Option.map_some]
       refine w_call (lit_pick (by decide) (by decide) (by decide +kernel) hT.hd.cur r3 (by omega)) (by simp (disch := omega) only [go_sem, ↓reduceIte, Nat.reduceEqDiff]) ?hl ?_
       case hl => first | rfl | (simp only [go_sem, List.all_cons, List.all_nil, Bool.not_false, Bool.and_self]; done)
       rintro r_ s4 ⟨⟨w4, rfl, z4⟩, hdr⟩; refine ⟨fun e => (by cases e), ?_⟩
       simp (disch := omega) only [go_sem, ↓reduceIte, Nat.reduceEqDiff]
       have r3 := rw_draw r3 hdr
       have r10 := rw_draw r10 hdr
       have r5 := rw_draw r5 hdr
       have hT := hT.draw hf1 hf2 hq0 hdr
       refine hF _ [7] _ _ (by decide +kernel) (fm_cons ?_ fm_nil)
       ·simp only [pickOps, List.filterMap_cons, List.filterMap_nil, List.getElem?_cons_zero, List.getElem?_cons_succ, Option.map_some]
        refine w_call (l1Below_ok q xs _ 5 (by omega) (by omega) hT.hd.cur) (by simp (disch := omega) only [go_sem, ↓reduceIte, Nat.reduceEqDiff]) ?hl ?_
        case hl => first | rfl | (simp only [go_sem, List.all_cons, List.all_nil, Bool.not_false, Bool.and_self]; done)
        rintro r_ s7 ⟨⟨y, rfl, hy0, hy1⟩, hdr, _⟩; refine ⟨fun e => (by cases e), ?_⟩
        simp (disch := omega) only [go_sem, ↓reduceIte, Nat.reduceEqDiff]
        have r3 := rw_draw r3 hdr
        have r10 := rw_draw r10 hdr
        have r5 := rw_draw r5 hdr
        have hT := hT.draw hf1 hf2 hq0 hdr
        obtain ⟨k, hk4, htk, r8⟩ := lit_take (n := 4) r5 rfl hy0 hy1
        refine hF _ [8] _ _ (by decide +kernel) (fm_cons ?_ fm_nil)
        simp only [pickOps, List.filterMap_cons, List.filterMap_nil, List.getElem?_cons_zero, List.getElem?_cons_succ, Option.map_some]; simp (disch := omega) only [go_sem, ↓reduceIte, Nat.reduceEqDiff, hG, w_slice, ev_slice, htk, flat_i, Bool.false_and, Option.all_some, Option.map_some, Option.all_none, Option.map_none]
        refine hF _ [11] _ _ (by decide +kernel) (fm_cons ?_ fm_nil)
        ·simp only [pickOps, List.filterMap_cons, List.filterMap_nil, List.getElem?_cons_zero, List.getElem?_cons_succ, Option.map_some]
         refine w_call (lit_pick (by decide) (by decide) (by decide +kernel) hT.hd.cur r10 (by omega)) (by simp (disch := omega) only [go_sem, ↓reduceIte, Nat.reduceEqDiff]) ?hl ?_
         case hl => first | rfl | (simp only [go_sem, List.all_cons, List.all_nil, Bool.not_false, Bool.and_self]; done)
         rintro r_ s11 ⟨⟨w11, rfl, z11⟩, hdr⟩; refine ⟨fun e => (by cases e), ?_⟩
         simp (disch := omega) only [go_sem, ↓reduceIte, Nat.reduceEqDiff]
         have r3 := rw_draw r3 hdr
         have r10 := rw_draw r10 hdr
         have r5 := rw_draw r5 hdr
         have r8 := rw_draw r8 hdr
         have hT := hT.draw hf1 hf2 hq0 hdr
         refine hF _ [12] _ _ (by decide +kernel) (fm_cons ?_ fm_nil)
         simp only [pickOps, List.filterMap_cons, List.filterMap_nil, List.getElem?_cons_zero, List.getElem?_cons_succ, Option.map_some]; simp (disch := omega) only [go_sem, ↓reduceIte, Nat.reduceEqDiff, hG]
         refine hF _ [13] _ _ (by decide +kernel) (fm_cons ?_ fm_nil)
         simp only [pickOps, List.filterMap_cons, List.filterMap_nil, List.getElem?_cons_zero, List.getElem?_cons_succ, Option.map_some]; simp (disch := omega) only [go_sem, ↓reduceIte, Nat.reduceEqDiff, hG]
         obtain ⟨hd9, hS9, hU9, hle9⟩ := hT
         have hi9 := hU.lt
         rcases hU9 with ⟨_, h, _⟩ | ⟨i, c, cs, K, hu, hb, hr, hL2⟩
         ·cases h
         have hu' : u = .slice (some ⟨i, 0, none⟩) 7 c := hu
         subst hu'
         subst hL2
         have hi8 := hi9 i (by simp)
         have hiK := (List.nodup_cons.1 hf2.1).1
         have hqi : q < i := by have := hf2.2 i (by simp); omega
         obtain ⟨v', st3, hap, hrow, hvl, hg⟩ := ops_push (c := c) (o := ⟨w4, ([⟨#[101]⟩, ⟨#[101]⟩, ⟨#[101]⟩, ⟨#[101]⟩] : List ByteArray).take k, w11⟩) (ops := baseOps) hb hr hiK hqi (fun j hj e => by have := hf2.2 j (List.mem_cons_of_mem _ hj); omega) r8 (by simp only [topId, ne_eq, Option.some.injEq]; omega) (by decide)
         have hap' : appendA Try.prog 25 25 (.slice (some ⟨i, 0, none⟩) 7 c) _ _ = some (v', st3) := hap
         have hv1 := hrow.notLoc.2
         have hv2 := Row.cells1 hrow
         refine hF _ [14] _ _ (by decide +kernel) (fm_cons ?_ fm_nil)
         simp only [pickOps, List.filterMap_cons, List.filterMap_nil, List.getElem?_cons_zero, List.getElem?_cons_succ, Option.map_some]; simp (disch := omega) only [go_sem, ↓reduceIte, Nat.reduceEqDiff, hG, w_append, hap', hvl]
         refine hF _ [15] _ _ (by decide +kernel) (fm_cons ?_ fm_nil)
         simp only [pickOps, List.filterMap_cons, List.filterMap_nil, List.getElem?_cons_zero, List.getElem?_cons_succ, Option.map_some]; simp (disch := omega) only [go_sem, ↓reduceIte, Nat.reduceEqDiff, hG]
         refine hF _ [16] _ _ (by decide +kernel) (fm_cons ?_ fm_nil)
         simp only [pickOps, List.filterMap_cons, List.filterMap_nil, List.getElem?_cons_zero, List.getElem?_cons_succ, Option.map_some]; simp (disch := omega) only [go_sem, ↓reduceIte, Nat.reduceEqDiff, hG, hv1, hv2, hvl]
         refine hE _ _ _ (by decide +kernel) (hK _ _ ?_)
         exact ⟨⟨[bE, ⟨#[107]⟩], baseOps ++ [⟨w4, ([⟨#[101]⟩, ⟨#[101]⟩, ⟨#[101]⟩, ⟨#[101]⟩] : List ByteArray).take k, w11⟩]⟩, s, v', Drawn.grow hd9 hg (.inr ⟨i, hf2.2 i (by simp), rfl⟩) hq0 rfl, sl_rowBl (hS9.frame fun j hj => hg.away.2 j (hS9.lt j hj) (fun e => by cases e; exact hap0 _ hj (by simp))) hf1 hq0, hrow, ⟨by simp, by simp [baseOps], fun o ho => (List.mem_append.1 ho).elim (baseP o) (fun h => by cases List.mem_singleton.1 h; exact ⟨by simp only [List.length_take]; omega, z4⟩), baseS⟩, a1, a2, a3, hv1, hvl, hv2, (by refine ⟨?_, ?_, ?_, ⟨?_, ?_⟩⟩ <;> ((simp (disch := omega) only [go_sem, ↓reduceIte, Nat.reduceEqDiff]); try rfl))⟩
   ·simp only [pickOps, List.filterMap_cons, List.filterMap_nil, List.getElem?_cons_zero, List.getElem?_cons_succ, Option.map_some]; simp (disch := omega) only [go_sem, ↓reduceIte, Nat.reduceEqDiff, Nat.reduceAdd, Nat.reduceLeDiff, hG, bsL, fillK_cons, fillK_nil, Nat.reduceMul]
    obtain ⟨r5, i5⟩ := hT.lit hsl [⟨#[101]⟩, ⟨#[101]⟩, ⟨#[101]⟩, ⟨#[101]⟩]
    have hT := hT.make (⟨[.string ⟨#[101]⟩, .string ⟨#[101]⟩, .string ⟨#[101]⟩, .string ⟨#[101]⟩], 9, 0⟩ : Blk)
    refine hF _ [3, 10] _ _ (by decide +kernel) (fm_cons ?_ (fm_cons ?_ fm_nil))
    ·simp only [pickOps, List.filterMap_cons, List.filterMap_nil, List.getElem?_cons_zero, List.getElem?_cons_succ, Option.map_some]; simp (disch := omega) only [go_sem, ↓reduceIte, Nat.reduceEqDiff, Nat.reduceAdd, Nat.reduceLeDiff, hG, bsL, fillK_cons, fillK_nil, Nat.reduceMul]
     obtain ⟨r3, i3⟩ := hT.lit hsl [⟨#[97]⟩, ⟨#[112, 108, 117, 115]⟩, ⟨#[110, 101, 119]⟩]
     have r5 := rw_make r5 (⟨[.string ⟨#[97]⟩, .string ⟨#[112, 108, 117, 115]⟩, .string ⟨#[110, 101, 119]⟩], 9, 0⟩ : Blk)
     have hT := hT.make (⟨[.string ⟨#[97]⟩, .string ⟨#[112, 108, 117, 115]⟩, .string ⟨#[110, 101, 119]⟩], 9, 0⟩ : Blk)
     refine hF _ [4, 10] _ _ (by decide +kernel) (fm_cons ?_ (fm_cons ?_ fm_nil))
     ·simp only [pickOps, List.filterMap_cons, List.filterMap_nil, List.getElem?_cons_zero, List.getElem?_cons_succ, Option.map_some]
      refine w_call (lit_pick (by decide) (by decide) (by decide +kernel) hT.hd.cur r3 (by omega)) (by simp (disch := omega) only [go_sem, ↓reduceIte, Nat.reduceEqDiff]) ?hl ?_
      case hl => first | rfl | (simp only [go_sem, List.all_cons, List.all_nil, Bool.not_false, Bool.and_self]; done)
      rintro r_ s4 ⟨⟨w4, rfl, z4⟩, hdr⟩; refine ⟨fun e => (by cases e), ?_⟩
      simp (disch := omega) only [go_sem, ↓reduceIte, Nat.reduceEqDiff]
      have r5 := rw_draw r5 hdr
      have r3 := rw_draw r3 hdr
      have hT := hT.draw hf1 hf2 hq0 hdr
      refine hF _ [7, 10] _ _ (by decide +kernel) (fm_cons ?_ (fm_cons ?_ fm_nil))
      ·simp only [pickOps, List.filterMap_cons, List.filterMap_nil, List.getElem?_cons_zero, List.getElem?_cons_succ, Option.map_some]
       refine w_call (l1Below_ok q xs _ 5 (by omega) (by omega) hT.hd.cur) (by simp (disch := omega) only [go_sem, ↓reduceIte, Nat.reduceEqDiff]) ?hl ?_
       case hl => first | rfl | (simp only [go_sem, List.all_cons, List.all_nil, Bool.not_false, Bool.and_self]; done)
       rintro r_ s7 ⟨⟨y, rfl, hy0, hy1⟩, hdr, _⟩; refine ⟨fun e => (by cases e), ?_⟩
       simp (disch := omega) only [go_sem, ↓reduceIte, Nat.reduceEqDiff]
       have r5 := rw_draw r5 hdr
       have r3 := rw_draw r3 hdr
       have hT := hT.draw hf1 hf2 hq0 hdr
       obtain ⟨k, hk4, htk, r8⟩ := lit_take (n := 4) r5 rfl hy0 hy1
       refine hF _ [8] _ _ (by decide +kernel) (fm_cons ?_ fm_nil)
       simp only [pickOps, List.filterMap_cons, List.filterMap_nil, List.getElem?_cons_zero, List.getElem?_cons_succ, Option.map_some]; simp (disch := omega) only [go_sem, ↓reduceIte, Nat.reduceEqDiff, hG, w_slice, ev_slice, htk, flat_i, Bool.false_and, Option.all_some, Option.map_some, Option.all_none, Option.map_none]
       refine hF _ [10] _ _ (by decide +kernel) (fm_cons ?_ fm_nil)
       ·simp only [pickOps, List.filterMap_cons, List.filterMap_nil, List.getElem?_cons_zero, List.getElem?_cons_succ, Option.map_some]; simp (disch := omega) only [go_sem, ↓reduceIte, Nat.reduceEqDiff, Nat.reduceAdd, Nat.reduceLeDiff, hG, bsL, fillK_cons, fillK_nil, Nat.reduceMul]
        obtain ⟨r10, i10⟩ := hT.lit hsl [⟨#[101]⟩, ⟨#[122, 122]⟩]
        have r5 := rw_make r5 (⟨[.string ⟨#[101]⟩, .string ⟨#[122, 122]⟩], 9, 0⟩ : Blk)
        have r3 := rw_make r3 (⟨[.string ⟨#[101]⟩, .string ⟨#[122, 122]⟩], 9, 0⟩ : Blk)
        have r8 := rw_make r8 (⟨[.string ⟨#[101]⟩, .string ⟨#[122, 122]⟩], 9, 0⟩ : Blk)
        have hT := hT.make (⟨[.string ⟨#[101]⟩, .string ⟨#[122, 122]⟩], 9, 0⟩ : Blk)
        refine hF _ [11] _ _ (by decide +kernel) (fm_cons ?_ fm_nil)
        ·simp only [pickOps, List.filterMap_cons, List.filterMap_nil, List.getElem?_cons_zero, List.getElem?_cons_succ, Option.map_some]
         refine w_call (lit_pick (by decide) (by decide) (by decide +kernel) hT.hd.cur r10 (by omega)) (by simp (disch := omega) only [go_sem, ↓reduceIte, Nat.reduceEqDiff]) ?hl ?_
         case hl => first | rfl | (simp only [go_sem, List.all_cons, List.all_nil, Bool.not_false, Bool.and_self]; done)
         rintro r_ s11 ⟨⟨w11, rfl, z11⟩, hdr⟩; refine ⟨fun e => (by cases e), ?_⟩
         simp (disch := omega) only [go_sem, ↓reduceIte, Nat.reduceEqDiff]
         have r5 := rw_draw r5 hdr
         have r3 := rw_draw r3 hdr
         have r8 := rw_draw r8 hdr
         have r10 := rw_draw r10 hdr
         have hT := hT.draw hf1 hf2 hq0 hdr
         refine hF _ [12] _ _ (by decide +kernel) (fm_cons ?_ fm_nil)
         simp only [pickOps, List.filterMap_cons, List.filterMap_nil, List.getElem?_cons_zero, List.getElem?_cons_succ, Option.map_some]; simp (disch := omega) only [go_sem, ↓reduceIte, Nat.reduceEqDiff, hG]
         refine hF _ [13] _ _ (by decide +kernel) (fm_cons ?_ fm_nil)
         simp only [pickOps, List.filterMap_cons, List.filterMap_nil, List.getElem?_cons_zero, List.getElem?_cons_succ, Option.map_some]; simp (disch := omega) only [go_sem, ↓reduceIte, Nat.reduceEqDiff, hG]
         obtain ⟨hd9, hS9, hU9, hle9⟩ := hT
         have hi9 := hU.lt
         rcases hU9 with ⟨_, h, _⟩ | ⟨i, c, cs, K, hu, hb, hr, hL2⟩
         ·cases h
         have hu' : u = .slice (some ⟨i, 0, none⟩) 7 c := hu
         subst hu'
         subst hL2
         have hi8 := hi9 i (by simp)
         have hiK := (List.nodup_cons.1 hf2.1).1
         have hqi : q < i := by have := hf2.2 i (by simp); omega
         obtain ⟨v', st3, hap, hrow, hvl, hg⟩ := ops_push (c := c) (o := ⟨w4, ([⟨#[101]⟩, ⟨#[101]⟩, ⟨#[101]⟩, ⟨#[101]⟩] : List ByteArray).take k, w11⟩) (ops := baseOps) hb hr hiK hqi (fun j hj e => by have := hf2.2 j (List.mem_cons_of_mem _ hj); omega) r8 (by simp only [topId, ne_eq, Option.some.injEq]; omega) (by decide)
         have hap' : appendA Try.prog 25 25 (.slice (some ⟨i, 0, none⟩) 7 c) _ _ = some (v', st3) := hap
         have hv1 := hrow.notLoc.2
         have hv2 := Row.cells1 hrow
         refine hF _ [14] _ _ (by decide +kernel) (fm_cons ?_ fm_nil)
         simp only [pickOps, List.filterMap_cons, List.filterMap_nil, List.getElem?_cons_zero, List.getElem?_cons_succ, Option.map_some]; simp (disch := omega) only [go_sem, ↓reduceIte, Nat.reduceEqDiff, hG, w_append, hap', hvl]
         refine hF _ [15] _ _ (by decide +kernel) (fm_cons ?_ fm_nil)
         simp only [pickOps, List.filterMap_cons, List.filterMap_nil, List.getElem?_cons_zero, List.getElem?_cons_succ, Option.map_some]; simp (disch := omega) only [go_sem, ↓reduceIte, Nat.reduceEqDiff, hG]
         refine hF _ [16] _ _ (by decide +kernel) (fm_cons ?_ fm_nil)
         simp only [pickOps, List.filterMap_cons, List.filterMap_nil, List.getElem?_cons_zero, List.getElem?_cons_succ, Option.map_some]; simp (disch := omega) only [go_sem, ↓reduceIte, Nat.reduceEqDiff, hG, hv1, hv2, hvl]
         refine hE _ _ _ (by decide +kernel) (hK _ _ ?_)
         exact ⟨⟨[bE, ⟨#[107]⟩], baseOps ++ [⟨w4, ([⟨#[101]⟩, ⟨#[101]⟩, ⟨#[101]⟩, ⟨#[101]⟩] : List ByteArray).take k, w11⟩]⟩, s, v', Drawn.grow hd9 hg (.inr ⟨i, hf2.2 i (by simp), rfl⟩) hq0 rfl, sl_rowBl (hS9.frame fun j hj => hg.away.2 j (hS9.lt j hj) (fun e => by cases e; exact hap0 _ hj (by simp))) hf1 hq0, hrow, ⟨by simp, by simp [baseOps], fun o ho => (List.mem_append.1 ho).elim (baseP o) (fun h => by cases List.mem_singleton.1 h; exact ⟨by simp only [List.length_take]; omega, z4⟩), baseS⟩, a1, a2, a3, hv1, hvl, hv2, (by refine ⟨?_, ?_, ?_, ⟨?_, ?_⟩⟩ <;> ((simp (disch := omega) only [go_sem, ↓reduceIte, Nat.reduceEqDiff]); try rfl))⟩
      ·simp only [pickOps, List.filterMap_cons, List.filterMap_nil, List.getElem?_cons_zero, List.getElem?_cons_succ, Option.map_some]; simp (disch := omega) only [go_sem, ↓reduceIte, Nat.reduceEqDiff, Nat.reduceAdd, Nat.reduceLeDiff, hG, bsL, fillK_cons, fillK_nil, Nat.reduceMul]
       obtain ⟨r10, i10⟩ := hT.lit hsl [⟨#[101]⟩, ⟨#[122, 122]⟩]
       have r5 := rw_make r5 (⟨[.string ⟨#[101]⟩, .string ⟨#[122, 122]⟩], 9, 0⟩ : Blk)
       have r3 := rw_make r3 (⟨[.string ⟨#[101]⟩, .string ⟨#[122, 122]⟩], 9, 0⟩ : Blk)
       have hT := hT.make (⟨[.string ⟨#[101]⟩, .string ⟨#[122, 122]⟩], 9, 0⟩ : Blk)
       refine hF _ [7] _ _ (by decide +kernel) (fm_cons ?_ fm_nil)
       ·simp only [pickOps, List.filterMap_cons, List.filterMap_nil, List.getElem?_cons_zero, List.getElem?_cons_succ, Option.map_some]
        refine w_call (l1Below_ok q xs _ 5 (by omega) (by omega) hT.hd.cur) (by simp (disch := omega) only [go_sem, ↓reduceIte, Nat.reduceEqDiff]) ?hl ?_
        case hl => first | rfl | (simp only [go_sem, List.all_cons, List.all_nil, Bool.not_false, Bool.and_self]; done)
        rintro r_ s7 ⟨⟨y, rfl, hy0, hy1⟩, hdr, _⟩; refine ⟨fun e => (by cases e), ?_⟩
        simp (disch := omega) only [go_sem, ↓reduceIte, Nat.reduceEqDiff]
        have r5 := rw_draw r5 hdr
        have r3 := rw_draw r3 hdr
        have r10 := rw_draw r10 hdr
        have hT := hT.draw hf1 hf2 hq0 hdr
        obtain ⟨k, hk4, htk, r8⟩ := lit_take (n := 4) r5 rfl hy0 hy1
        refine hF _ [8] _ _ (by decide +kernel) (fm_cons ?_ fm_nil)
        simp only [pickOps, List.filterMap_cons, List.filterMap_nil, List.getElem?_cons_zero, List.getElem?_cons_succ, Option.map_some]; simp (disch := omega) only [go_sem, ↓reduceIte, Nat.reduceEqDiff, hG, w_slice, ev_slice, htk, flat_i, Bool.false_and, Option.all_some, Option.map_some, Option.all_none, Option.map_none]
        refine hF _ [11] _ _ (by decide +kernel) (fm_cons ?_ fm_nil)
        ·simp only [pickOps, List.filterMap_cons, List.filterMap_nil, List.getElem?_cons_zero, List.getElem?_cons_succ, Option.map_some]
         refine w_call (lit_pick (by decide) (by decide) (by decide +kernel) hT.hd.cur r10 (by omega)) (by simp (disch := omega) only [go_sem, ↓reduceIte, Nat.reduceEqDiff]) ?hl ?_
         case hl => first | rfl | (simp only [go_sem, List.all_cons, List.all_nil, Bool.not_false, Bool.and_self]; done)
         rintro r_ s11 ⟨⟨w11, rfl, z11⟩, hdr⟩; refine ⟨fun e => (by cases e), ?_⟩
         simp (disch := omega) only [go_sem, ↓reduceIte, Nat.reduceEqDiff]
         have r5 := rw_draw r5 hdr
         have r3 := rw_draw r3 hdr
         have r10 := rw_draw r10 hdr
         have r8 := rw_draw r8 hdr
         have hT := hT.draw hf1 hf2 hq0 hdr
         refine hF _ [12] _ _ (by decide +kernel) (fm_cons ?_ fm_nil)
         simp only [pickOps, List.filterMap_cons, List.filterMap_nil, List.getElem?_cons_zero, List.getElem?_cons_succ, Option.map_some]; simp (disch := omega) only [go_sem, ↓reduceIte, Nat.reduceEqDiff, hG]
         refine hF _ [13] _ _ (by decide +kernel) (fm_cons ?_ fm_nil)
         simp only [pickOps, List.filterMap_cons, List.filterMap_nil, List.getElem?_cons_zero, List.getElem?_cons_succ, Option.map_some]; simp (disch := omega) only [go_sem, ↓reduceIte, Nat.reduceEqDiff, hG]
         obtain ⟨hd9, hS9, hU9, hle9⟩ := hT
         have hi9 := hU.lt
         rcases hU9 with ⟨_, h, _⟩ | ⟨i, c, cs, K, hu, hb, hr, hL2⟩
         ·cases h
         have hu' : u = .slice (some ⟨i, 0, none⟩) 7 c := hu
         subst hu'
         subst hL2
         have hi8 := hi9 i (by simp)
         have hiK := (List.nodup_cons.1 hf2.1).1
         have hqi : q < i := by have := hf2.2 i (by simp); omega
         obtain ⟨v', st3, hap, hrow, hvl, hg⟩ := ops_push (c := c) (o := ⟨w4, ([⟨#[101]⟩, ⟨#[101]⟩, ⟨#[101]⟩, ⟨#[101]⟩] : List ByteArray).take k, w11⟩) (ops := baseOps) hb hr hiK hqi (fun j hj e => by have := hf2.2 j (List.mem_cons_of_mem _ hj); omega) r8 (by simp only [topId, ne_eq, Option.some.injEq]; omega) (by decide)
         have hap' : appendA Try.prog 25 25 (.slice (some ⟨i, 0, none⟩) 7 c) _ _ = some (v', st3) := hap
         have hv1 := hrow.notLoc.2
         have hv2 := Row.cells1 hrow
         refine hF _ [14] _ _ (by decide +kernel) (fm_cons ?_ fm_nil)
         simp only [pickOps, List.filterMap_cons, List.filterMap_nil, List.getElem?_cons_zero, List.getElem?_cons_succ, Option.map_some]; simp (disch := omega) only [go_sem, ↓reduceIte, Nat.reduceEqDiff, hG, w_append, hap', hvl]
         refine hF _ [15] _ _ (by decide +kernel) (fm_cons ?_ fm_nil)
         simp only [pickOps, List.filterMap_cons, List.filterMap_nil, List.getElem?_cons_zero, List.getElem?_cons_succ, Option.map_some]; simp (disch := omega) only [go_sem, ↓reduceIte, Nat.reduceEqDiff, hG]
         refine hF _ [16] _ _ (by decide +kernel) (fm_cons ?_ fm_nil)
         simp only [pickOps, List.filterMap_cons, List.filterMap_nil, List.getElem?_cons_zero, List.getElem?_cons_succ, Option.map_some]; simp (disch := omega) only [go_sem, ↓reduceIte, Nat.reduceEqDiff, hG, hv1, hv2, hvl]
         refine hE _ _ _ (by decide +kernel) (hK _ _ ?_)
         exact ⟨⟨[bE, ⟨#[107]⟩], baseOps ++ [⟨w4, ([⟨#[101]⟩, ⟨#[101]⟩, ⟨#[101]⟩, ⟨#[101]⟩] : List ByteArray).take k, w11⟩]⟩, s, v', Drawn.grow hd9 hg (.inr ⟨i, hf2.2 i (by simp), rfl⟩) hq0 rfl, sl_rowBl (hS9.frame fun j hj => hg.away.2 j (hS9.lt j hj) (fun e => by cases e; exact hap0 _ hj (by simp))) hf1 hq0, hrow, ⟨by simp, by simp [baseOps], fun o ho => (List.mem_append.1 ho).elim (baseP o) (fun h => by cases List.mem_singleton.1 h; exact ⟨by simp only [List.length_take]; omega, z4⟩), baseS⟩, a1, a2, a3, hv1, hvl, hv2, (by refine ⟨?_, ?_, ?_, ⟨?_, ?_⟩⟩ <;> ((simp (disch := omega) only [go_sem, ↓reduceIte, Nat.reduceEqDiff]); try rfl))⟩
     ·simp only [pickOps, List.filterMap_cons, List.filterMap_nil, List.getElem?_cons_zero, List.getElem?_cons_succ, Option.map_some]; simp (disch := omega) only [go_sem, ↓reduceIte, Nat.reduceEqDiff, Nat.reduceAdd, Nat.reduceLeDiff, hG, bsL, fillK_cons, fillK_nil, Nat.reduceMul]
      obtain ⟨r10, i10⟩ := hT.lit hsl [⟨#[101]⟩, ⟨#[122, 122]⟩]
      have r5 := rw_make r5 (⟨[.string ⟨#[101]⟩, .string ⟨#[122, 122]⟩], 9, 0⟩ : Blk)
      have r3 := rw_make r3 (⟨[.string ⟨#[101]⟩, .string ⟨#[122, 122]⟩], 9, 0⟩ : Blk)
      have hT := hT.make (⟨[.string ⟨#[101]⟩, .string ⟨#[122, 122]⟩], 9, 0⟩ : Blk)
      refine hF _ [4] _ _ (by decide +kernel) (fm_cons ?_ fm_nil)
      ·simp only [pickOps, List.filterMap_cons, List.filterMap_nil, List.getElem?_cons_zero, List.getElem?_cons_succ, Option.map_some]
       refine w_call (lit_pick (by decide) (by decide) (by decide +kernel) hT.hd.cur r3 (by omega)) (by simp (disch := omega) only [go_sem, ↓reduceIte, Nat.reduceEqDiff]) ?hl ?_
       case hl => first | rfl | (simp only [go_sem, List.all_cons, List.all_nil, Bool.not_false, Bool.and_self]; done)
       rintro r_ s4 ⟨⟨w4, rfl, z4⟩, hdr⟩; refine ⟨fun e => (by cases e), ?_⟩
       simp (disch := omega) only [go_sem, ↓reduceIte, Nat.reduceEqDiff]
       have r5 := rw_draw r5 hdr
       have r3 := rw_draw r3 hdr
       have r10 := rw_draw r10 hdr
       have hT := hT.draw hf1 hf2 hq0 hdr
       refine hF _ [7] _ _ (by decide +kernel) (fm_cons ?_ fm_nil)
       ·simp only [pickOps, List.filterMap_cons, List.filterMap_nil, List.getElem?_cons_zero, List.getElem?_cons_succ, Option.map_some]
        refine w_call (l1Below_ok q xs _ 5 (by omega) (by omega) hT.hd.cur) (by simp (disch := omega) only [go_sem, ↓reduceIte, Nat.reduceEqDiff]) ?hl ?_
        case hl => first | rfl | (simp only [go_sem, List.all_cons, List.all_nil, Bool.not_false, Bool.and_self]; done)
        rintro r_ s7 ⟨⟨y, rfl, hy0, hy1⟩, hdr, _⟩; refine ⟨fun e => (by cases e), ?_⟩
        simp (disch := omega) only [go_sem, ↓reduceIte, Nat.reduceEqDiff]
        have r5 := rw_draw r5 hdr
        have r3 := rw_draw r3 hdr
        have r10 := rw_draw r10 hdr
        have hT := hT.draw hf1 hf2 hq0 hdr
        obtain ⟨k, hk4, htk, r8⟩ := lit_take (n := 4) r5 rfl hy0 hy1
        refine hF _ [8] _ _ (by decide +kernel) (fm_cons ?_ fm_nil)
        simp only [pickOps, List.filterMap_cons, List.filterMap_nil, List.getElem?_cons_zero, List.getElem?_cons_succ, Option.map_some]; simp (disch := omega) only [go_sem, ↓reduceIte, Nat.reduceEqDiff, hG, w_slice, ev_slice, htk, flat_i, Bool.false_and, Option.all_some, Option.map_some, Option.all_none, Option.map_none]
        refine hF _ [11] _ _ (by decide +kernel) (fm_cons ?_ fm_nil)
        ·simp only [pickOps, List.filterMap_cons, List.filterMap_nil, List.getElem?_cons_zero, List.getElem?_cons_succ, Option.map_some]
         refine w_call (lit_pick (by decide) (by decide) (by decide +kernel) hT.hd.cur r10 (by omega)) (by simp (disch := omega) only [go_sem, ↓reduceIte, Nat.reduceEqDiff]) ?hl ?_
         case hl => first | rfl | (simp only [go_sem, List.all_cons, List.all_nil, Bool.not_false, Bool.and_self]; done)
         rintro r_ s11 ⟨⟨w11, rfl, z11⟩, hdr⟩; refine ⟨fun e => (by cases e), ?_⟩
         simp (disch := omega) only [go_sem, ↓reduceIte, Nat.reduceEqDiff]
         have r5 := rw_draw r5 hdr
         have r3 := rw_draw r3 hdr
         have r10 := rw_draw r10 hdr
         have r8 := rw_draw r8 hdr
         have hT := hT.draw hf1 hf2 hq0 hdr
         refine hF _ [12] _ _ (by decide +kernel) (fm_cons ?_ fm_nil)
         simp only [pickOps, List.filterMap_cons, List.filterMap_nil, List.getElem?_cons_zero, List.getElem?_cons_succ, Option.map_some]; simp (disch := omega) only [go_sem, ↓reduceIte, Nat.reduceEqDiff, hG]
         refine hF _ [13] _ _ (by decide +kernel) (fm_cons ?_ fm_nil)
         simp only [pickOps, List.filterMap_cons, List.filterMap_nil, List.getElem?_cons_zero, List.getElem?_cons_succ, Option.map_some]; simp (disch := omega) only [go_sem, ↓reduceIte, Nat.reduceEqDiff, hG]
         obtain ⟨hd9, hS9, hU9, hle9⟩ := hT
         have hi9 := hU.lt
         rcases hU9 with ⟨_, h, _⟩ | ⟨i, c, cs, K, hu, hb, hr, hL2⟩
         ·cases h
         have hu' : u = .slice (some ⟨i, 0, none⟩) 7 c := hu
         subst hu'
         subst hL2
         have hi8 := hi9 i (by simp)
         have hiK := (List.nodup_cons.1 hf2.1).1
         have hqi : q < i := by have := hf2.2 i (by simp); omega
         obtain ⟨v', st3, hap, hrow, hvl, hg⟩ := ops_push (c := c) (o := ⟨w4, ([⟨#[101]⟩, ⟨#[101]⟩, ⟨#[101]⟩, ⟨#[101]⟩] : List ByteArray).take k, w11⟩) (ops := baseOps) hb hr hiK hqi (fun j hj e => by have := hf2.2 j (List.mem_cons_of_mem _ hj); omega) r8 (by simp only [topId, ne_eq, Option.some.injEq]; omega) (by decide)
         have hap' : appendA Try.prog 25 25 (.slice (some ⟨i, 0, none⟩) 7 c) _ _ = some (v', st3) := hap
         have hv1 := hrow.notLoc.2
         have hv2 := Row.cells1 hrow
         refine hF _ [14] _ _ (by decide +kernel) (fm_cons ?_ fm_nil)
         simp only [pickOps, List.filterMap_cons, List.filterMap_nil, List.getElem?_cons_zero, List.getElem?_cons_succ, Option.map_some]; simp (disch := omega) only [go_sem, ↓reduceIte, Nat.reduceEqDiff, hG, w_append, hap', hvl]
         refine hF _ [15] _ _ (by decide +kernel) (fm_cons ?_ fm_nil)
         simp only [pickOps, List.filterMap_cons, List.filterMap_nil, List.getElem?_cons_zero, List.getElem?_cons_succ, Option.map_some]; simp (disch := omega) only [go_sem, ↓reduceIte, Nat.reduceEqDiff, hG]
         refine hF _ [16] _ _ (by decide +kernel) (fm_cons ?_ fm_nil)
         simp only [pickOps, List.filterMap_cons, List.filterMap_nil, List.getElem?_cons_zero, List.getElem?_cons_succ, Option.map_some]; simp (disch := omega) only [go_sem, ↓reduceIte, Nat.reduceEqDiff, hG, hv1, hv2, hvl]
         refine hE _ _ _ (by decide +kernel) (hK _ _ ?_)
         exact ⟨⟨[bE, ⟨#[107]⟩], baseOps ++ [⟨w4, ([⟨#[101]⟩, ⟨#[101]⟩, ⟨#[101]⟩, ⟨#[101]⟩] : List ByteArray).take k, w11⟩]⟩, s, v', Drawn.grow hd9 hg (.inr ⟨i, hf2.2 i (by simp), rfl⟩) hq0 rfl, sl_rowBl (hS9.frame fun j hj => hg.away.2 j (hS9.lt j hj) (fun e => by cases e; exact hap0 _ hj (by simp))) hf1 hq0, hrow, ⟨by simp, by simp [baseOps], fun o ho => (List.mem_append.1 ho).elim (baseP o) (fun h => by cases List.mem_singleton.1 h; exact ⟨by simp only [List.length_take]; omega, z4⟩), baseS⟩, a1, a2, a3, hv1, hvl, hv2, (by refine ⟨?_, ?_, ?_, ⟨?_, ?_⟩⟩ <;> ((simp (disch := omega) only [go_sem, ↓reduceIte, Nat.reduceEqDiff]); try rfl))⟩
    ·simp only [pickOps, List.filterMap_cons, List.filterMap_nil, List.getElem?_cons_zero, List.getElem?_cons_succ, Option.map_some]; simp (disch := omega) only [go_sem, ↓reduceIte, Nat.reduceEqDiff, Nat.reduceAdd, Nat.reduceLeDiff, hG, bsL, fillK_cons, fillK_nil, Nat.reduceMul]
     obtain ⟨r10, i10⟩ := hT.lit hsl [⟨#[101]⟩, ⟨#[122, 122]⟩]
     have r5 := rw_make r5 (⟨[.string ⟨#[101]⟩, .string ⟨#[122, 122]⟩], 9, 0⟩ : Blk)
     have hT := hT.make (⟨[.string ⟨#[101]⟩, .string ⟨#[122, 122]⟩], 9, 0⟩ : Blk)
     refine hF _ [3] _ _ (by decide +kernel) (fm_cons ?_ fm_nil)
     ·simp only [pickOps, List.filterMap_cons, List.filterMap_nil, List.getElem?_cons_zero, List.getElem?_cons_succ, Option.map_some]; simp (disch := omega) only [go_sem, ↓reduceIte, Nat.reduceEqDiff, Nat.reduceAdd, Nat.reduceLeDiff, hG, bsL, fillK_cons, fillK_nil, Nat.reduceMul]
      obtain ⟨r3, i3⟩ := hT.lit hsl [⟨#[97]⟩, ⟨#[112, 108, 117, 115]⟩, ⟨#[110, 101, 119]⟩]
      have r5 := rw_make r5 (⟨[.string ⟨#[97]⟩, .string ⟨#[112, 108, 117, 115]⟩, .string ⟨#[110, 101, 119]⟩], 9, 0⟩ : Blk)
      have r10 := rw_make r10 (⟨[.string ⟨#[97]⟩, .string ⟨#[112, 108, 117, 115]⟩, .string ⟨#[110, 101, 119]⟩], 9, 0⟩ : Blk)
      have hT := hT.make (⟨[.string ⟨#[97]⟩, .string ⟨#[112, 108, 117, 115]⟩, .string ⟨#[110, 101, 119]⟩], 9, 0⟩ : Blk)
      refine hF _ [4] _ _ (by decide +kernel) (fm_cons ?_ fm_nil)
      ·simp only [pickOps, List.filterMap_cons, List.filterMap_nil, List.getElem?_cons_zero, List.getElem?_cons_succ, Option.map_some]
       refine w_call (lit_pick (by decide) (by decide) (by decide +kernel) hT.hd.cur r3 (by omega)) (by simp (disch := omega) only [go_sem, ↓reduceIte, Nat.reduceEqDiff]) ?hl ?_
       case hl => first | rfl | (simp only [go_sem, List.all_cons, List.all_nil, Bool.not_false, Bool.and_self]; done)
       rintro r_ s4 ⟨⟨w4, rfl, z4⟩, hdr⟩; refine ⟨fun e => (by cases e), ?_⟩
       simp (disch := omega) only [go_sem, ↓reduceIte, Nat.reduceEqDiff]
       have r5 := rw_draw r5 hdr
       have r10 := rw_draw r10 hdr
       have r3 := rw_draw r3 hdr
       have hT := hT.draw hf1 hf2 hq0 hdr
       refine hF _ [7] _ _ (by decide +kernel) (fm_cons ?_ fm_nil)
       ·simp only [pickOps, List.filterMap_cons, List.filterMap_nil, List.getElem?_cons_zero, List.getElem?_cons_succ, Option.map_some]
        refine w_call (l1Below_ok q xs _ 5 (by omega) (by omega) hT.hd.cur) (by simp (disch := omega) only [go_sem, ↓reduceIte, Nat.reduceEqDiff]) ?hl ?_
        case hl => first | rfl | (simp only [go_sem, List.all_cons, List.all_nil, Bool.not_false, Bool.and_self]; done)
        rintro r_ s7 ⟨⟨y, rfl, hy0, hy1⟩, hdr, _⟩; refine ⟨fun e => (by cases e), ?_⟩
        simp (disch := omega) only [go_sem, ↓reduceIte, Nat.reduceEqDiff]
        have r5 := rw_draw r5 hdr
        have r10 := rw_draw r10 hdr
        have r3 := rw_draw r3 hdr
        have hT := hT.draw hf1 hf2 hq0 hdr
        obtain ⟨k, hk4, htk, r8⟩ := lit_take (n := 4) r5 rfl hy0 hy1
        refine hF _ [8] _ _ (by decide +kernel) (fm_cons ?_ fm_nil)
        simp only [pickOps, List.filterMap_cons, List.filterMap_nil, List.getElem?_cons_zero, List.getElem?_cons_succ, Option.map_some]; simp (disch := omega) only [go_sem, ↓reduceIte, Nat.reduceEqDiff, hG, w_slice, ev_slice, htk, flat_i, Bool.false_and, Option.all_some, Option.map_some, Option.all_none, Option.map_none]
        refine hF _ [11] _ _ (by decide +kernel) (fm_cons ?_ fm_nil)
        ·simp only [pickOps, List.filterMap_cons, List.filterMap_nil, List.getElem?_cons_zero, List.getElem?_cons_succ, Option.map_some]
         refine w_call (lit_pick (by decide) (by decide) (by decide +kernel) hT.hd.cur r10 (by omega)) (by simp (disch := omega) only [go_sem, ↓reduceIte, Nat.reduceEqDiff]) ?hl ?_
         case hl => first | rfl | (simp only [go_sem, List.all_cons, List.all_nil, Bool.not_false, Bool.and_self]; done)
         rintro r_ s11 ⟨⟨w11, rfl, z11⟩, hdr⟩; refine ⟨fun e => (by cases e), ?_⟩
         simp (disch := omega) only [go_sem, ↓reduceIte, Nat.reduceEqDiff]
         have r5 := rw_draw r5 hdr
         have r10 := rw_draw r10 hdr
         have r3 := rw_draw r3 hdr
         have r8 := rw_draw r8 hdr
         have hT := hT.draw hf1 hf2 hq0 hdr
         refine hF _ [12] _ _ (by decide +kernel) (fm_cons ?_ fm_nil)
         simp only [pickOps, List.filterMap_cons, List.filterMap_nil, List.getElem?_cons_zero, List.getElem?_cons_succ, Option.map_some]; simp (disch := omega) only [go_sem, ↓reduceIte, Nat.reduceEqDiff, hG]
         refine hF _ [13] _ _ (by decide +kernel) (fm_cons ?_ fm_nil)
         simp only [pickOps, List.filterMap_cons, List.filterMap_nil, List.getElem?_cons_zero, List.getElem?_cons_succ, Option.map_some]; simp (disch := omega) only [go_sem, ↓reduceIte, Nat.reduceEqDiff, hG]
         obtain ⟨hd9, hS9, hU9, hle9⟩ := hT
         have hi9 := hU.lt
         rcases hU9 with ⟨_, h, _⟩ | ⟨i, c, cs, K, hu, hb, hr, hL2⟩
         ·cases h
         have hu' : u = .slice (some ⟨i, 0, none⟩) 7 c := hu
         subst hu'
         subst hL2
         have hi8 := hi9 i (by simp)
         have hiK := (List.nodup_cons.1 hf2.1).1
         have hqi : q < i := by have := hf2.2 i (by simp); omega
         obtain ⟨v', st3, hap, hrow, hvl, hg⟩ := ops_push (c := c) (o := ⟨w4, ([⟨#[101]⟩, ⟨#[101]⟩, ⟨#[101]⟩, ⟨#[101]⟩] : List ByteArray).take k, w11⟩) (ops := baseOps) hb hr hiK hqi (fun j hj e => by have := hf2.2 j (List.mem_cons_of_mem _ hj); omega) r8 (by simp only [topId, ne_eq, Option.some.injEq]; omega) (by decide)
         have hap' : appendA Try.prog 25 25 (.slice (some ⟨i, 0, none⟩) 7 c) _ _ = some (v', st3) := hap
         have hv1 := hrow.notLoc.2
         have hv2 := Row.cells1 hrow
         refine hF _ [14] _ _ (by decide +kernel) (fm_cons ?_ fm_nil)
         simp only [pickOps, List.filterMap_cons, List.filterMap_nil, List.getElem?_cons_zero, List.getElem?_cons_succ, Option.map_some]; simp (disch := omega) only [go_sem, ↓reduceIte, Nat.reduceEqDiff, hG, w_append, hap', hvl]
         refine hF _ [15] _ _ (by decide +kernel) (fm_cons ?_ fm_nil)
         simp only [pickOps, List.filterMap_cons, List.filterMap_nil, List.getElem?_cons_zero, List.getElem?_cons_succ, Option.map_some]; simp (disch := omega) only [go_sem, ↓reduceIte, Nat.reduceEqDiff, hG]
         refine hF _ [16] _ _ (by decide +kernel) (fm_cons ?_ fm_nil)
         simp only [pickOps, List.filterMap_cons, List.filterMap_nil, List.getElem?_cons_zero, List.getElem?_cons_succ, Option.map_some]; simp (disch := omega) only [go_sem, ↓reduceIte, Nat.reduceEqDiff, hG, hv1, hv2, hvl]
         refine hE _ _ _ (by decide +kernel) (hK _ _ ?_)
         exact ⟨⟨[bE, ⟨#[107]⟩], baseOps ++ [⟨w4, ([⟨#[101]⟩, ⟨#[101]⟩, ⟨#[101]⟩, ⟨#[101]⟩] : List ByteArray).take k, w11⟩]⟩, s, v', Drawn.grow hd9 hg (.inr ⟨i, hf2.2 i (by simp), rfl⟩) hq0 rfl, sl_rowBl (hS9.frame fun j hj => hg.away.2 j (hS9.lt j hj) (fun e => by cases e; exact hap0 _ hj (by simp))) hf1 hq0, hrow, ⟨by simp, by simp [baseOps], fun o ho => (List.mem_append.1 ho).elim (baseP o) (fun h => by cases List.mem_singleton.1 h; exact ⟨by simp only [List.length_take]; omega, z4⟩), baseS⟩, a1, a2, a3, hv1, hvl, hv2, (by refine ⟨?_, ?_, ?_, ⟨?_, ?_⟩⟩ <;> ((simp (disch := omega) only [go_sem, ↓reduceIte, Nat.reduceEqDiff]); try rfl))⟩
   ·simp only [pickOps, List.filterMap_cons, List.filterMap_nil, List.getElem?_cons_zero, List.getElem?_cons_succ, Option.map_some]; simp (disch := omega) only [go_sem, ↓reduceIte, Nat.reduceEqDiff, Nat.reduceAdd, Nat.reduceLeDiff, hG, bsL, fillK_cons, fillK_nil, Nat.reduceMul]
    obtain ⟨r10, i10⟩ := hT.lit hsl [⟨#[101]⟩, ⟨#[122, 122]⟩]
    have hT := hT.make (⟨[.string ⟨#[101]⟩, .string ⟨#[122, 122]⟩], 9, 0⟩ : Blk)
    refine hF _ [3, 5] _ _ (by decide +kernel) (fm_cons ?_ (fm_cons ?_ fm_nil))
    ·simp only [pickOps, List.filterMap_cons, List.filterMap_nil, List.getElem?_cons_zero, List.getElem?_cons_succ, Option.map_some]; simp (disch := omega) only [go_sem, ↓reduceIte, Nat.reduceEqDiff, Nat.reduceAdd, Nat.reduceLeDiff, hG, bsL, fillK_cons, fillK_nil, Nat.reduceMul]
     obtain ⟨r3, i3⟩ := hT.lit hsl [⟨#[97]⟩, ⟨#[112, 108, 117, 115]⟩, ⟨#[110, 101, 119]⟩]
     have r10 := rw_make r10 (⟨[.string ⟨#[97]⟩, .string ⟨#[112, 108, 117, 115]⟩, .string ⟨#[110, 101, 119]⟩], 9, 0⟩ : Blk)
     have hT := hT.make (⟨[.string ⟨#[97]⟩, .string ⟨#[112, 108, 117, 115]⟩, .string ⟨#[110, 101, 119]⟩], 9, 0⟩ : Blk)
     refine hF _ [4, 5] _ _ (by decide +kernel) (fm_cons ?_ (fm_cons ?_ fm_nil))
     ·simp only [pickOps, List.filterMap_cons, List.filterMap_nil, List.getElem?_cons_zero, List.getElem?_cons_succ, Option.map_some]
      refine w_call (lit_pick (by decide) (by decide) (by decide +kernel) hT.hd.cur r3 (by omega)) (by simp (disch := omega) only [go_sem, ↓reduceIte, Nat.reduceEqDiff]) ?hl ?_
      case hl => first | rfl | (simp only [go_sem, List.all_cons, List.all_nil, Bool.not_false, Bool.and_self]; done)
      rintro r_ s4 ⟨⟨w4, rfl, z4⟩, hdr⟩; refine ⟨fun e => (by cases e), ?_⟩
      simp (disch := omega) only [go_sem, ↓reduceIte, Nat.reduceEqDiff]
      have r10 := rw_draw r10 hdr
      have r3 := rw_draw r3 hdr
      have hT := hT.draw hf1 hf2 hq0 hdr
      refine hF _ [5, 7] _ _ (by decide +kernel) (fm_cons ?_ (fm_cons ?_ fm_nil))
      ·simp only [pickOps, List.filterMap_cons, List.filterMap_nil, List.getElem?_cons_zero, List.getElem?_cons_succ, Option.map_some]; simp (disch := omega) only [go_sem, ↓reduceIte, Nat.reduceEqDiff, Nat.reduceAdd, Nat.reduceLeDiff, hG, bsL, fillK_cons, fillK_nil, Nat.reduceMul]
       obtain ⟨r5, i5⟩ := hT.lit hsl [⟨#[101]⟩, ⟨#[101]⟩, ⟨#[101]⟩, ⟨#[101]⟩]
       have r10 := rw_make r10 (⟨[.string ⟨#[101]⟩, .string ⟨#[101]⟩, .string ⟨#[101]⟩, .string ⟨#[101]⟩], 9, 0⟩ : Blk)
       have r3 := rw_make r3 (⟨[.string ⟨#[101]⟩, .string ⟨#[101]⟩, .string ⟨#[101]⟩, .string ⟨#[101]⟩], 9, 0⟩ : Blk)
       have hT := hT.make (⟨[.string ⟨#[101]⟩, .string ⟨#[101]⟩, .string ⟨#[101]⟩, .string ⟨#[101]⟩], 9, 0⟩ : Blk)
       refine hF _ [7] _ _ (by decide +kernel) (fm_cons ?_ fm_nil)
       ·simp only [pickOps, List.filterMap_cons, List.filterMap_nil, List.getElem?_cons_zero, List.getElem?_cons_succ, Option.map_some]
        refine w_call (l1Below_ok q xs _ 5 (by omega) (by omega) hT.hd.cur) (by simp (disch := omega) only [go_sem, ↓reduceIte, Nat.reduceEqDiff]) ?hl ?_
        case hl => first | rfl | (simp only [go_sem, List.all_cons, List.all_nil, Bool.not_false, Bool.and_self]; done)
        rintro r_ s7 ⟨⟨y, rfl, hy0, hy1⟩, hdr, _⟩; refine ⟨fun e => (by cases e), ?_⟩
        simp (disch := omega) only [go_sem, ↓reduceIte, Nat.reduceEqDiff]
        have r10 := rw_draw r10 hdr
        have r3 := rw_draw r3 hdr
        have r5 := rw_draw r5 hdr
        have hT := hT.draw hf1 hf2 hq0 hdr
        obtain ⟨k, hk4, htk, r8⟩ := lit_take (n := 4) r5 rfl hy0 hy1
        refine hF _ [8] _ _ (by decide +kernel) (fm_cons ?_ fm_nil)
        simp only [pickOps, List.filterMap_cons, List.filterMap_nil, List.getElem?_cons_zero, List.getElem?_cons_succ, Option.map_some]; simp (disch := omega) only [go_sem, ↓reduceIte, Nat.reduceEqDiff, hG, w_slice, ev_slice, htk, flat_i, Bool.false_and, Option.all_some, Option.map_some, Option.all_none, Option.map_none]
        refine hF _ [11] _ _ (by decide +kernel) (fm_cons ?_ fm_nil)
        ·simp only [pickOps, List.filterMap_cons, List.filterMap_nil, List.getElem?_cons_zero, List.getElem?_cons_succ, Option.map_some]
         refine w_call (lit_pick (by decide) (by decide) (by decide +kernel) hT.hd.cur r10 (by omega)) (by simp (disch := omega) only [go_sem, ↓reduceIte, Nat.reduceEqDiff]) ?hl ?_
         case hl => first | rfl | (simp only [go_sem, List.all_cons, List.all_nil, Bool.not_false, Bool.and_self]; done)
         rintro r_ s11 ⟨⟨w11, rfl, z11⟩, hdr⟩; refine ⟨fun e => (by cases e), ?_⟩
         simp (disch := omega) only [go_sem, ↓reduceIte, Nat.reduceEqDiff]
         have r10 := rw_draw r10 hdr
         have r3 := rw_draw r3 hdr
         have r5 := rw_draw r5 hdr
         have r8 := rw_draw r8 hdr
         have hT := hT.draw hf1 hf2 hq0 hdr
         refine hF _ [12] _ _ (by decide +kernel) (fm_cons ?_ fm_nil)
         simp only [pickOps, List.filterMap_cons, List.filterMap_nil, List.getElem?_cons_zero, List.getElem?_cons_succ, Option.map_some]; simp (disch := omega) only [go_sem, ↓reduceIte, Nat.reduceEqDiff, hG]
         refine hF _ [13] _ _ (by decide +kernel) (fm_cons ?_ fm_nil)
         simp only [pickOps, List.filterMap_cons, List.filterMap_nil, List.getElem?_cons_zero, List.getElem?_cons_succ, Option.map_some]; simp (disch := omega) only [go_sem, ↓reduceIte, Nat.reduceEqDiff, hG]
         obtain ⟨hd9, hS9, hU9, hle9⟩ := hT
         have hi9 := hU.lt
         rcases hU9 with ⟨_, h, _⟩ | ⟨i, c, cs, K, hu, hb, hr, hL2⟩
         ·cases h
         have hu' : u = .slice (some ⟨i, 0, none⟩) 7 c := hu
         subst hu'
         subst hL2
         have hi8 := hi9 i (by simp)
         have hiK := (List.nodup_cons.1 hf2.1).1
         have hqi : q < i := by have := hf2.2 i (by simp); omega
         obtain ⟨v', st3, hap, hrow, hvl, hg⟩ := ops_push (c := c) (o := ⟨w4, ([⟨#[101]⟩, ⟨#[101]⟩, ⟨#[101]⟩, ⟨#[101]⟩] : List ByteArray).take k, w11⟩) (ops := baseOps) hb hr hiK hqi (fun j hj e => by have := hf2.2 j (List.mem_cons_of_mem _ hj); omega) r8 (by simp only [topId, ne_eq, Option.some.injEq]; omega) (by decide)
         have hap' : appendA Try.prog 25 25 (.slice (some ⟨i, 0, none⟩) 7 c) _ _ = some (v', st3) := hap
         have hv1 := hrow.notLoc.2
         have hv2 := Row.cells1 hrow
         refine hF _ [14] _ _ (by decide +kernel) (fm_cons ?_ fm_nil)
         simp only [pickOps, List.filterMap_cons, List.filterMap_nil, List.getElem?_cons_zero, List.getElem?_cons_succ, Option.map_some]; simp (disch := omega) only [go_sem, ↓reduceIte, Nat.reduceEqDiff, hG, w_append, hap', hvl]
         refine hF _ [15] _ _ (by decide +kernel) (fm_cons ?_ fm_nil)
         simp only [pickOps, List.filterMap_cons, List.filterMap_nil, List.getElem?_cons_zero, List.getElem?_cons_succ, Option.map_some]; simp (disch := omega) only [go_sem, ↓reduceIte, Nat.reduceEqDiff, hG]
         refine hF _ [16] _ _ (by decide +kernel) (fm_cons ?_ fm_nil)
         simp only [pickOps, List.filterMap_cons, List.filterMap_nil, List.getElem?_cons_zero, List.getElem?_cons_succ, Option.map_some]; simp (disch := omega) only [go_sem, ↓reduceIte, Nat.reduceEqDiff, hG, hv1, hv2, hvl]
         refine hE _ _ _ (by decide +kernel) (hK _ _ ?_)
         exact ⟨⟨[bE, ⟨#[107]⟩], baseOps ++ [⟨w4, ([⟨#[101]⟩, ⟨#[101]⟩, ⟨#[101]⟩, ⟨#[101]⟩] : List ByteArray).take k, w11⟩]⟩, s, v', Drawn.grow hd9 hg (.inr ⟨i, hf2.2 i (by simp), rfl⟩) hq0 rfl, sl_rowBl (hS9.frame fun j hj => hg.away.2 j (hS9.lt j hj) (fun e => by cases e; exact hap0 _ hj (by simp))) hf1 hq0, hrow, ⟨by simp, by simp [baseOps], fun o ho => (List.mem_append.1 ho).elim (baseP o) (fun h => by cases List.mem_singleton.1 h; exact ⟨by simp only [List.length_take]; omega, z4⟩), baseS⟩, a1, a2, a3, hv1, hvl, hv2, (by refine ⟨?_, ?_, ?_, ⟨?_, ?_⟩⟩ <;> ((simp (disch := omega) only [go_sem, ↓reduceIte, Nat.reduceEqDiff]); try rfl))⟩
      ·simp only [pickOps, List.filterMap_cons, List.filterMap_nil, List.getElem?_cons_zero, List.getElem?_cons_succ, Option.map_some]
       refine w_call (l1Below_ok q xs _ 5 (by omega) (by omega) hT.hd.cur) (by simp (disch := omega) only [go_sem, ↓reduceIte, Nat.reduceEqDiff]) ?hl ?_
       case hl => first | rfl | (simp only [go_sem, List.all_cons, List.all_nil, Bool.not_false, Bool.and_self]; done)
       rintro r_ s7 ⟨⟨y, rfl, hy0, hy1⟩, hdr, _⟩; refine ⟨fun e => (by cases e), ?_⟩
       simp (disch := omega) only [go_sem, ↓reduceIte, Nat.reduceEqDiff]
       have r10 := rw_draw r10 hdr
       have r3 := rw_draw r3 hdr
       have hT := hT.draw hf1 hf2 hq0 hdr
       refine hF _ [5, 11] _ _ (by decide +kernel) (fm_cons ?_ (fm_cons ?_ fm_nil))
       ·simp only [pickOps, List.filterMap_cons, List.filterMap_nil, List.getElem?_cons_zero, List.getElem?_cons_succ, Option.map_some]; simp (disch := omega) only [go_sem, ↓reduceIte, Nat.reduceEqDiff, Nat.reduceAdd, Nat.reduceLeDiff, hG, bsL, fillK_cons, fillK_nil, Nat.reduceMul]
        obtain ⟨r5, i5⟩ := hT.lit hsl [⟨#[101]⟩, ⟨#[101]⟩, ⟨#[101]⟩, ⟨#[101]⟩]
        have r10 := rw_make r10 (⟨[.string ⟨#[101]⟩, .string ⟨#[101]⟩, .string ⟨#[101]⟩, .string ⟨#[101]⟩], 9, 0⟩ : Blk)
        have r3 := rw_make r3 (⟨[.string ⟨#[101]⟩, .string ⟨#[101]⟩, .string ⟨#[101]⟩, .string ⟨#[101]⟩], 9, 0⟩ : Blk)
        have hT := hT.make (⟨[.string ⟨#[101]⟩, .string ⟨#[101]⟩, .string ⟨#[101]⟩, .string ⟨#[101]⟩], 9, 0⟩ : Blk)
        obtain ⟨k, hk4, htk, r8⟩ := lit_take (n := 4) r5 rfl hy0 hy1
        refine hF _ [8] _ _ (by decide +kernel) (fm_cons ?_ fm_nil)
        simp only [pickOps, List.filterMap_cons, List.filterMap_nil, List.getElem?_cons_zero, List.getElem?_cons_succ, Option.map_some]; simp (disch := omega) only [go_sem, ↓reduceIte, Nat.reduceEqDiff, hG, w_slice, ev_slice, htk, flat_i, Bool.false_and, Option.all_some, Option.map_some, Option.all_none, Option.map_none]
        refine hF _ [11] _ _ (by decide +kernel) (fm_cons ?_ fm_nil)
        ·simp only [pickOps, List.filterMap_cons, List.filterMap_nil, List.getElem?_cons_zero, List.getElem?_cons_succ, Option.map_some]
         refine w_call (lit_pick (by decide) (by decide) (by decide +kernel) hT.hd.cur r10 (by omega)) (by simp (disch := omega) only [go_sem, ↓reduceIte, Nat.reduceEqDiff]) ?hl ?_
         case hl => first | rfl | (simp only [go_sem, List.all_cons, List.all_nil, Bool.not_false, Bool.and_self]; done)
         rintro r_ s11 ⟨⟨w11, rfl, z11⟩, hdr⟩; refine ⟨fun e => (by cases e), ?_⟩
         simp (disch := omega) only [go_sem, ↓reduceIte, Nat.reduceEqDiff]
         have r10 := rw_draw r10 hdr
         have r3 := rw_draw r3 hdr
         have r5 := rw_draw r5 hdr
         have r8 := rw_draw r8 hdr
         have hT := hT.draw hf1 hf2 hq0 hdr
         refine hF _ [12] _ _ (by decide +kernel) (fm_cons ?_ fm_nil)
         simp only [pickOps, List.filterMap_cons, List.filterMap_nil, List.getElem?_cons_zero, List.getElem?_cons_succ, Option.map_some]; simp (disch := omega) only [go_sem, ↓reduceIte, Nat.reduceEqDiff, hG]
         refine hF _ [13] _ _ (by decide +kernel) (fm_cons ?_ fm_nil)
         simp only [pickOps, List.filterMap_cons, List.filterMap_nil, List.getElem?_cons_zero, List.getElem?_cons_succ, Option.map_some]; simp (disch := omega) only [go_sem, ↓reduceIte, Nat.reduceEqDiff, hG]
         obtain ⟨hd9, hS9, hU9, hle9⟩ := hT
         have hi9 := hU.lt
         rcases hU9 with ⟨_, h, _⟩ | ⟨i, c, cs, K, hu, hb, hr, hL2⟩
         ·cases h
         have hu' : u = .slice (some ⟨i, 0, none⟩) 7 c := hu
         subst hu'
         subst hL2
         have hi8 := hi9 i (by simp)
         have hiK := (List.nodup_cons.1 hf2.1).1
         have hqi : q < i := by have := hf2.2 i (by simp); omega
         obtain ⟨v', st3, hap, hrow, hvl, hg⟩ := ops_push (c := c) (o := ⟨w4, ([⟨#[101]⟩, ⟨#[101]⟩, ⟨#[101]⟩, ⟨#[101]⟩] : List ByteArray).take k, w11⟩) (ops := baseOps) hb hr hiK hqi (fun j hj e => by have := hf2.2 j (List.mem_cons_of_mem _ hj); omega) r8 (by simp only [topId, ne_eq, Option.some.injEq]; omega) (by decide)
         have hap' : appendA Try.prog 25 25 (.slice (some ⟨i, 0, none⟩) 7 c) _ _ = some (v', st3) := hap
         have hv1 := hrow.notLoc.2
         have hv2 := Row.cells1 hrow
         refine hF _ [14] _ _ (by decide +kernel) (fm_cons ?_ fm_nil)
         simp only [pickOps, List.filterMap_cons, List.filterMap_nil, List.getElem?_cons_zero, List.getElem?_cons_succ, Option.map_some]; simp (disch := omega) only [go_sem, ↓reduceIte, Nat.reduceEqDiff, hG, w_append, hap', hvl]
         refine hF _ [15] _ _ (by decide +kernel) (fm_cons ?_ fm_nil)
         simp only [pickOps, List.filterMap_cons, List.filterMap_nil, List.getElem?_cons_zero, List.getElem?_cons_succ, Option.map_some]; simp (disch := omega) only [go_sem, ↓reduceIte, Nat.reduceEqDiff, hG]
         refine hF _ [16] _ _ (by decide +kernel) (fm_cons ?_ fm_nil)
         simp only [pickOps, List.filterMap_cons, List.filterMap_nil, List.getElem?_cons_zero, List.getElem?_cons_succ, Option.map_some]; simp (disch := omega) only [go_sem, ↓reduceIte, Nat.reduceEqDiff, hG, hv1, hv2, hvl]
         refine hE _ _ _ (by decide +kernel) (hK _ _ ?_)
         exact ⟨⟨[bE, ⟨#[107]⟩], baseOps ++ [⟨w4, ([⟨#[101]⟩, ⟨#[101]⟩, ⟨#[101]⟩, ⟨#[101]⟩] : List ByteArray).take k, w11⟩]⟩, s, v', Drawn.grow hd9 hg (.inr ⟨i, hf2.2 i (by simp), rfl⟩) hq0 rfl, sl_rowBl (hS9.frame fun j hj => hg.away.2 j (hS9.lt j hj) (fun e => by cases e; exact hap0 _ hj (by simp))) hf1 hq0, hrow, ⟨by simp, by simp [baseOps], fun o ho => (List.mem_append.1 ho).elim (baseP o) (fun h => by cases List.mem_singleton.1 h; exact ⟨by simp only [List.length_take]; omega, z4⟩), baseS⟩, a1, a2, a3, hv1, hvl, hv2, (by refine ⟨?_, ?_, ?_, ⟨?_, ?_⟩⟩ <;> ((simp (disch := omega) only [go_sem, ↓reduceIte, Nat.reduceEqDiff]); try rfl))⟩
       ·simp only [pickOps, List.filterMap_cons, List.filterMap_nil, List.getElem?_cons_zero, List.getElem?_cons_succ, Option.map_some]
        refine w_call (lit_pick (by decide) (by decide) (by decide +kernel) hT.hd.cur r10 (by omega)) (by simp (disch := omega) only [go_sem, ↓reduceIte, Nat.reduceEqDiff]) ?hl ?_
        case hl => first | rfl | (simp only [go_sem, List.all_cons, List.all_nil, Bool.not_false, Bool.and_self]; done)
        rintro r_ s11 ⟨⟨w11, rfl, z11⟩, hdr⟩; refine ⟨fun e => (by cases e), ?_⟩
        simp (disch := omega) only [go_sem, ↓reduceIte, Nat.reduceEqDiff]
        have r10 := rw_draw r10 hdr
        have r3 := rw_draw r3 hdr
        have hT := hT.draw hf1 hf2 hq0 hdr
        refine hF _ [5] _ _ (by decide +kernel) (fm_cons ?_ fm_nil)
        ·simp only [pickOps, List.filterMap_cons, List.filterMap_nil, List.getElem?_cons_zero, List.getElem?_cons_succ, Option.map_some]; simp (disch := omega) only [go_sem, ↓reduceIte, Nat.reduceEqDiff, Nat.reduceAdd, Nat.reduceLeDiff, hG, bsL, fillK_cons, fillK_nil, Nat.reduceMul]
         obtain ⟨r5, i5⟩ := hT.lit hsl [⟨#[101]⟩, ⟨#[101]⟩, ⟨#[101]⟩, ⟨#[101]⟩]
         have r10 := rw_make r10 (⟨[.string ⟨#[101]⟩, .string ⟨#[101]⟩, .string ⟨#[101]⟩, .string ⟨#[101]⟩], 9, 0⟩ : Blk)
         have r3 := rw_make r3 (⟨[.string ⟨#[101]⟩, .string ⟨#[101]⟩, .string ⟨#[101]⟩, .string ⟨#[101]⟩], 9, 0⟩ : Blk)
         have hT := hT.make (⟨[.string ⟨#[101]⟩, .string ⟨#[101]⟩, .string ⟨#[101]⟩, .string ⟨#[101]⟩], 9, 0⟩ : Blk)
         obtain ⟨k, hk4, htk, r8⟩ := lit_take (n := 4) r5 rfl hy0 hy1
         refine hF _ [8] _ _ (by decide +kernel) (fm_cons ?_ fm_nil)
         simp only [pickOps, List.filterMap_cons, List.filterMap_nil, List.getElem?_cons_zero, List.getElem?_cons_succ, Option.map_some]; simp (disch := omega) only [go_sem, ↓reduceIte, Nat.reduceEqDiff, hG, w_slice, ev_slice, htk, flat_i, Bool.false_and, Option.all_some, Option.map_some, Option.all_none, Option.map_none]
         refine hF _ [12] _ _ (by decide +kernel) (fm_cons ?_ fm_nil)
         simp only [pickOps, List.filterMap_cons, List.filterMap_nil, List.getElem?_cons_zero, List.getElem?_cons_succ, Option.map_some]; simp (disch := omega) only [go_sem, ↓reduceIte, Nat.reduceEqDiff, hG]
         refine hF _ [13] _ _ (by decide +kernel) (fm_cons ?_ fm_nil)
         simp only [pickOps, List.filterMap_cons, List.filterMap_nil, List.getElem?_cons_zero, List.getElem?_cons_succ, Option.map_some]; simp (disch := omega) only [go_sem, ↓reduceIte, Nat.reduceEqDiff, hG]
         obtain ⟨hd9, hS9, hU9, hle9⟩ := hT
         have hi9 := hU.lt
         rcases hU9 with ⟨_, h, _⟩ | ⟨i, c, cs, K, hu, hb, hr, hL2⟩
         ·cases h
         have hu' : u = .slice (some ⟨i, 0, none⟩) 7 c := hu
         subst hu'
         subst hL2
         have hi8 := hi9 i (by simp)
         have hiK := (List.nodup_cons.1 hf2.1).1
         have hqi : q < i := by have := hf2.2 i (by simp); omega
         obtain ⟨v', st3, hap, hrow, hvl, hg⟩ := ops_push (c := c) (o := ⟨w4, ([⟨#[101]⟩, ⟨#[101]⟩, ⟨#[101]⟩, ⟨#[101]⟩] : List ByteArray).take k, w11⟩) (ops := baseOps) hb hr hiK hqi (fun j hj e => by have := hf2.2 j (List.mem_cons_of_mem _ hj); omega) r8 (by simp only [topId, ne_eq, Option.some.injEq]; omega) (by decide)
         have hap' : appendA Try.prog 25 25 (.slice (some ⟨i, 0, none⟩) 7 c) _ _ = some (v', st3) := hap
         have hv1 := hrow.notLoc.2
         have hv2 := Row.cells1 hrow
         refine hF _ [14] _ _ (by decide +kernel) (fm_cons ?_ fm_nil)
         simp only [pickOps, List.filterMap_cons, List.filterMap_nil, List.getElem?_cons_zero, List.getElem?_cons_succ, Option.map_some]; simp (disch := omega) only [go_sem, ↓reduceIte, Nat.reduceEqDiff, hG, w_append, hap', hvl]
         refine hF _ [15] _ _ (by decide +kernel) (fm_cons ?_ fm_nil)
         simp only [pickOps, List.filterMap_cons, List.filterMap_nil, List.getElem?_cons_zero, List.getElem?_cons_succ, Option.map_some]; simp (disch := omega) only [go_sem, ↓reduceIte, Nat.reduceEqDiff, hG]
         refine hF _ [16] _ _ (by decide +kernel) (fm_cons ?_ fm_nil)
         simp only [pickOps, List.filterMap_cons, List.filterMap_nil, List.getElem?_cons_zero, List.getElem?_cons_succ, Option.map_some]; simp (disch := omega) only [go_sem, ↓reduceIte, Nat.reduceEqDiff, hG, hv1, hv2, hvl]
         refine hE _ _ _ (by decide +kernel) (hK _ _ ?_)
         exact ⟨⟨[bE, ⟨#[107]⟩], baseOps ++ [⟨w4, ([⟨#[101]⟩, ⟨#[101]⟩, ⟨#[101]⟩, ⟨#[101]⟩] : List ByteArray).take k, w11⟩]⟩, s, v', Drawn.grow hd9 hg (.inr ⟨i, hf2.2 i (by simp), rfl⟩) hq0 rfl, sl_rowBl (hS9.frame fun j hj => hg.away.2 j (hS9.lt j hj) (fun e => by cases e; exact hap0 _ hj (by simp))) hf1 hq0, hrow, ⟨by simp, by simp [baseOps], fun o ho => (List.mem_append.1 ho).elim (baseP o) (fun h => by cases List.mem_singleton.1 h; exact ⟨by simp only [List.length_take]; omega, z4⟩), baseS⟩, a1, a2, a3, hv1, hvl, hv2, (by refine ⟨?_, ?_, ?_, ⟨?_, ?_⟩⟩ <;> ((simp (disch := omega) only [go_sem, ↓reduceIte, Nat.reduceEqDiff]); try rfl))⟩
     ·simp only [pickOps, List.filterMap_cons, List.filterMap_nil, List.getElem?_cons_zero, List.getElem?_cons_succ, Option.map_some]; simp (disch := omega) only [go_sem, ↓reduceIte, Nat.reduceEqDiff, Nat.reduceAdd, Nat.reduceLeDiff, hG, bsL, fillK_cons, fillK_nil, Nat.reduceMul]
      obtain ⟨r5, i5⟩ := hT.lit hsl [⟨#[101]⟩, ⟨#[101]⟩, ⟨#[101]⟩, ⟨#[101]⟩]
      have r10 := rw_make r10 (⟨[.string ⟨#[101]⟩, .string ⟨#[101]⟩, .string ⟨#[101]⟩, .string ⟨#[101]⟩], 9, 0⟩ : Blk)
      have r3 := rw_make r3 (⟨[.string ⟨#[101]⟩, .string ⟨#[101]⟩, .string ⟨#[101]⟩, .string ⟨#[101]⟩], 9, 0⟩ : Blk)
      have hT := hT.make (⟨[.string ⟨#[101]⟩, .string ⟨#[101]⟩, .string ⟨#[101]⟩, .string ⟨#[101]⟩], 9, 0⟩ : Blk)
      refine hF _ [4] _ _ (by decide +kernel) (fm_cons ?_ fm_nil)
      ·simp only [pickOps, List.filterMap_cons, List.filterMap_nil, List.getElem?_cons_zero, List.getElem?_cons_succ, Option.map_some]
       refine w_call (lit_pick (by decide) (by decide) (by decide +kernel) hT.hd.cur r3 (by omega)) (by simp (disch := omega) only [go_sem, ↓reduceIte, Nat.reduceEqDiff]) ?hl ?_
       case hl => first | rfl | (simp only [go_sem, List.all_cons, List.all_nil, Bool.not_false, Bool.and_self]; done)
       rintro r_ s4 ⟨⟨w4, rfl, z4⟩, hdr⟩; refine ⟨fun e => (by cases e), ?_⟩
       simp (disch := omega) only [go_sem, ↓reduceIte, Nat.reduceEqDiff]
       have r10 := rw_draw r10 hdr
       have r3 := rw_draw r3 hdr
       have r5 := rw_draw r5 hdr
       have hT := hT.draw hf1 hf2 hq0 hdr
       refine hF _ [7] _ _ (by decide +kernel) (fm_cons ?_ fm_nil)
       ·simp only [pickOps, List.filterMap_cons, List.filterMap_nil, List.getElem?_cons_zero, List.getElem?_cons_succ, Option.map_some]
        refine w_call (l1Below_ok q xs _ 5 (by omega) (by omega) hT.hd.cur) (by simp (disch := omega) only [go_sem, ↓reduceIte, Nat.reduceEqDiff]) ?hl ?_
        case hl => first | rfl | (simp only [go_sem, List.all_cons, List.all_nil, Bool.not_false, Bool.and_self]; done)
        rintro r_ s7 ⟨⟨y, rfl, hy0, hy1⟩, hdr, _⟩; refine ⟨fun e => (by cases e), ?_⟩
        simp (disch := omega) only [go_sem, ↓reduceIte, Nat.reduceEqDiff]
        have r10 := rw_draw r10 hdr
        have r3 := rw_draw r3 hdr
        have r5 := rw_draw r5 hdr
        have hT := hT.draw hf1 hf2 hq0 hdr
        obtain ⟨k, hk4, htk, r8⟩ := lit_take (n := 4) r5 rfl hy0 hy1
        refine hF _ [8] _ _ (by decide +kernel) (fm_cons ?_ fm_nil)
        simp only [pickOps, List.filterMap_cons, List.filterMap_nil, List.getElem?_cons_zero, List.getElem?_cons_succ, Option.map_some]; simp (disch := omega) only [go_sem, ↓reduceIte, Nat.reduceEqDiff, hG, w_slice, ev_slice, htk, flat_i, Bool.false_and, Option.all_some, Option.map_some, Option.all_none, Option.map_none]
        refine hF _ [11] _ _ (by decide +kernel) (fm_cons ?_ fm_nil)
        ·simp only [pickOps, List.filterMap_cons, List.filterMap_nil, List.getElem?_cons_zero, List.getElem?_cons_succ, Option.map_some]
         refine w_call (lit_pick (by decide) (by decide) (by decide +kernel) hT.hd.cur r10 (by omega)) (by simp (disch := omega) only [go_sem, ↓reduceIte, Nat.reduceEqDiff]) ?hl ?_
         case hl => first | rfl | (simp only [go_sem, List.all_cons, List.all_nil, Bool.not_false, Bool.and_self]; done)
         rintro r_ s11 ⟨⟨w11, rfl, z11⟩, hdr⟩; refine ⟨fun e => (by cases e), ?_⟩
         simp (disch := omega) only [go_sem, ↓reduceIte, Nat.reduceEqDiff]
         have r10 := rw_draw r10 hdr
         have r3 := rw_draw r3 hdr
         have r5 := rw_draw r5 hdr
         have r8 := rw_draw r8 hdr
         have hT := hT.draw hf1 hf2 hq0 hdr
         refine hF _ [12] _ _ (by decide +kernel) (fm_cons ?_ fm_nil)
         simp only [pickOps, List.filterMap_cons, List.filterMap_nil, List.getElem?_cons_zero, List.getElem?_cons_succ, Option.map_some]; simp (disch := omega) only [go_sem, ↓reduceIte, Nat.reduceEqDiff, hG]
         refine hF _ [13] _ _ (by decide +kernel) (fm_cons ?_ fm_nil)
         simp only [pickOps, List.filterMap_cons, List.filterMap_nil, List.getElem?_cons_zero, List.getElem?_cons_succ, Option.map_some]; simp (disch := omega) only [go_sem, ↓reduceIte, Nat.reduceEqDiff, hG]
         obtain ⟨hd9, hS9, hU9, hle9⟩ := hT
         have hi9 := hU.lt
         rcases hU9 with ⟨_, h, _⟩ | ⟨i, c, cs, K, hu, hb, hr, hL2⟩
         ·cases h
         have hu' : u = .slice (some ⟨i, 0, none⟩) 7 c := hu
         subst hu'
         subst hL2
         have hi8 := hi9 i (by simp)
         have hiK := (List.nodup_cons.1 hf2.1).1
         have hqi : q < i := by have := hf2.2 i (by simp); omega
         obtain ⟨v', st3, hap, hrow, hvl, hg⟩ := ops_push (c := c) (o := ⟨w4, ([⟨#[101]⟩, ⟨#[101]⟩, ⟨#[101]⟩, ⟨#[101]⟩] : List ByteArray).take k, w11⟩) (ops := baseOps) hb hr hiK hqi (fun j hj e => by have := hf2.2 j (List.mem_cons_of_mem _ hj); omega) r8 (by simp only [topId, ne_eq, Option.some.injEq]; omega) (by decide)
         have hap' : appendA Try.prog 25 25 (.slice (some ⟨i, 0, none⟩) 7 c) _ _ = some (v', st3) := hap
         have hv1 := hrow.notLoc.2
         have hv2 := Row.cells1 hrow
         refine hF _ [14] _ _ (by decide +kernel) (fm_cons ?_ fm_nil)
         simp only [pickOps, List.filterMap_cons, List.filterMap_nil, List.getElem?_cons_zero, List.getElem?_cons_succ, Option.map_some]; simp (disch := omega) only [go_sem, ↓reduceIte, Nat.reduceEqDiff, hG, w_append, hap', hvl]
         refine hF _ [15] _ _ (by decide +kernel) (fm_cons ?_ fm_nil)
         simp only [pickOps, List.filterMap_cons, List.filterMap_nil, List.getElem?_cons_zero, List.getElem?_cons_succ, Option.map_some]; simp (disch := omega) only [go_sem, ↓reduceIte, Nat.reduceEqDiff, hG]
         refine hF _ [16] _ _ (by decide +kernel) (fm_cons ?_ fm_nil)
         simp only [pickOps, List.filterMap_cons, List.filterMap_nil, List.getElem?_cons_zero, List.getElem?_cons_succ, Option.map_some]; simp (disch := omega) only [go_sem, ↓reduceIte, Nat.reduceEqDiff, hG, hv1, hv2, hvl]
         refine hE _ _ _ (by decide +kernel) (hK _ _ ?_)
         exact ⟨⟨[bE, ⟨#[107]⟩], baseOps ++ [⟨w4, ([⟨#[101]⟩, ⟨#[101]⟩, ⟨#[101]⟩, ⟨#[101]⟩] : List ByteArray).take k, w11⟩]⟩, s, v', Drawn.grow hd9 hg (.inr ⟨i, hf2.2 i (by simp), rfl⟩) hq0 rfl, sl_rowBl (hS9.frame fun j hj => hg.away.2 j (hS9.lt j hj) (fun e => by cases e; exact hap0 _ hj (by simp))) hf1 hq0, hrow, ⟨by simp, by simp [baseOps], fun o ho => (List.mem_append.1 ho).elim (baseP o) (fun h => by cases List.mem_singleton.1 h; exact ⟨by simp only [List.length_take]; omega, z4⟩), baseS⟩, a1, a2, a3, hv1, hvl, hv2, (by refine ⟨?_, ?_, ?_, ⟨?_, ?_⟩⟩ <;> ((simp (disch := omega) only [go_sem, ↓reduceIte, Nat.reduceEqDiff]); try rfl))⟩
    ·simp only [pickOps, List.filterMap_cons, List.filterMap_nil, List.getElem?_cons_zero, List.getElem?_cons_succ, Option.map_some]; simp (disch := omega) only [go_sem, ↓reduceIte, Nat.reduceEqDiff, Nat.reduceAdd, Nat.reduceLeDiff, hG, bsL, fillK_cons, fillK_nil, Nat.reduceMul]
     obtain ⟨r5, i5⟩ := hT.lit hsl [⟨#[101]⟩, ⟨#[101]⟩, ⟨#[101]⟩, ⟨#[101]⟩]
     have r10 := rw_make r10 (⟨[.string ⟨#[101]⟩, .string ⟨#[101]⟩, .string ⟨#[101]⟩, .string ⟨#[101]⟩], 9, 0⟩ : Blk)
     have hT := hT.make (⟨[.string ⟨#[101]⟩, .string ⟨#[101]⟩, .string ⟨#[101]⟩, .string ⟨#[101]⟩], 9, 0⟩ : Blk)
     refine hF _ [3] _ _ (by decide +kernel) (fm_cons ?_ fm_nil)
     ·simp only [pickOps, List.filterMap_cons, List.filterMap_nil, List.getElem?_cons_zero, List.getElem?_cons_succ, Option.map_some]; simp (disch := omega) only [go_sem, ↓reduceIte, Nat.reduceEqDiff, Nat.reduceAdd, Nat.reduceLeDiff, hG, bsL, fillK_cons, fillK_nil, Nat.reduceMul]
      obtain ⟨r3, i3⟩ := hT.lit hsl [⟨#[97]⟩, ⟨#[112, 108, 117, 115]⟩, ⟨#[110, 101, 119]⟩]
      have r10 := rw_make r10 (⟨[.string ⟨#[97]⟩, .string ⟨#[112, 108, 117, 115]⟩, .string ⟨#[110, 101, 119]⟩], 9, 0⟩ : Blk)
      have r5 := rw_make r5 (⟨[.string ⟨#[97]⟩, .string ⟨#[112, 108, 117, 115]⟩, .string ⟨#[110, 101, 119]⟩], 9, 0⟩ : Blk)
      have hT := hT.make (⟨[.string ⟨#[97]⟩, .string ⟨#[112, 108, 117, 115]⟩, .string ⟨#[110, 101, 119]⟩], 9, 0⟩ : Blk)
      refine hF _ [4] _ _ (by decide +kernel) (fm_cons ?_ fm_nil)
      ·simp only [pickOps, List.filterMap_cons, List.filterMap_nil, List.getElem?_cons_zero, List.getElem?_cons_succ, Option.map_some]
       refine w_call (lit_pick (by decide) (by decide) (by decide +kernel) hT.hd.cur r3 (by omega)) (by simp (disch := omega) only [go_sem, ↓reduceIte, Nat.reduceEqDiff]) ?hl ?_
       case hl => first | rfl | (simp only [go_sem, List.all_cons, List.all_nil, Bool.not_false, Bool.and_self]; done)
       rintro r_ s4 ⟨⟨w4, rfl, z4⟩, hdr⟩; refine ⟨fun e => (by cases e), ?_⟩
       simp (disch := omega) only [go_sem, ↓reduceIte, Nat.reduceEqDiff]
       have r10 := rw_draw r10 hdr
       have r5 := rw_draw r5 hdr
       have r3 := rw_draw r3 hdr
       have hT := hT.draw hf1 hf2 hq0 hdr
       refine hF _ [7] _ _ (by decide +kernel) (fm_cons ?_ fm_nil)
       ·simp only [pickOps, List.filterMap_cons, List.filterMap_nil, List.getElem?_cons_zero, List.getElem?_cons_succ, Option.map_some]
        refine w_call (l1Below_ok q xs _ 5 (by omega) (by omega) hT.hd.cur) (by simp (disch := omega) only [go_sem, ↓reduceIte, Nat.reduceEqDiff]) ?hl ?_
        case hl => first | rfl | (simp only [go_sem, List.all_cons, List.all_nil, Bool.not_false, Bool.and_self]; done)
        rintro r_ s7 ⟨⟨y, rfl, hy0, hy1⟩, hdr, _⟩; refine ⟨fun e => (by cases e), ?_⟩
        simp (disch := omega) only [go_sem, ↓reduceIte, Nat.reduceEqDiff]
        have r10 := rw_draw r10 hdr
        have r5 := rw_draw r5 hdr
        have r3 := rw_draw r3 hdr
        have hT := hT.draw hf1 hf2 hq0 hdr
        obtain ⟨k, hk4, htk, r8⟩ := lit_take (n := 4) r5 rfl hy0 hy1
        refine hF _ [8] _ _ (by decide +kernel) (fm_cons ?_ fm_nil)
        simp only [pickOps, List.filterMap_cons, List.filterMap_nil, List.getElem?_cons_zero, List.getElem?_cons_succ, Option.map_some]; simp (disch := omega) only [go_sem, ↓reduceIte, Nat.reduceEqDiff, hG, w_slice, ev_slice, htk, flat_i, Bool.false_and, Option.all_some, Option.map_some, Option.all_none, Option.map_none]
        refine hF _ [11] _ _ (by decide +kernel) (fm_cons ?_ fm_nil)
        ·simp only [pickOps, List.filterMap_cons, List.filterMap_nil, List.getElem?_cons_zero, List.getElem?_cons_succ, Option.map_some]
         refine w_call (lit_pick (by decide) (by decide) (by decide +kernel) hT.hd.cur r10 (by omega)) (by simp (disch := omega) only [go_sem, ↓reduceIte, Nat.reduceEqDiff]) ?hl ?_
         case hl => first | rfl | (simp only [go_sem, List.all_cons, List.all_nil, Bool.not_false, Bool.and_self]; done)
         rintro r_ s11 ⟨⟨w11, rfl, z11⟩, hdr⟩; refine ⟨fun e => (by cases e), ?_⟩
         simp (disch := omega) only [go_sem, ↓reduceIte, Nat.reduceEqDiff]
         have r10 := rw_draw r10 hdr
         have r5 := rw_draw r5 hdr
         have r3 := rw_draw r3 hdr
         have r8 := rw_draw r8 hdr
         have hT := hT.draw hf1 hf2 hq0 hdr
         refine hF _ [12] _ _ (by decide +kernel) (fm_cons ?_ fm_nil)
         simp only [pickOps, List.filterMap_cons, List.filterMap_nil, List.getElem?_cons_zero, List.getElem?_cons_succ, Option.map_some]; simp (disch := omega) only [go_sem, ↓reduceIte, Nat.reduceEqDiff, hG]
         refine hF _ [13] _ _ (by decide +kernel) (fm_cons ?_ fm_nil)
         simp only [pickOps, List.filterMap_cons, List.filterMap_nil, List.getElem?_cons_zero, List.getElem?_cons_succ, Option.map_some]; simp (disch := omega) only [go_sem, ↓reduceIte, Nat.reduceEqDiff, hG]
         obtain ⟨hd9, hS9, hU9, hle9⟩ := hT
         have hi9 := hU.lt
         rcases hU9 with ⟨_, h, _⟩ | ⟨i, c, cs, K, hu, hb, hr, hL2⟩
         ·cases h
         have hu' : u = .slice (some ⟨i, 0, none⟩) 7 c := hu
         subst hu'
         subst hL2
         have hi8 := hi9 i (by simp)
         have hiK := (List.nodup_cons.1 hf2.1).1
         have hqi : q < i := by have := hf2.2 i (by simp); omega
         obtain ⟨v', st3, hap, hrow, hvl, hg⟩ := ops_push (c := c) (o := ⟨w4, ([⟨#[101]⟩, ⟨#[101]⟩, ⟨#[101]⟩, ⟨#[101]⟩] : List ByteArray).take k, w11⟩) (ops := baseOps) hb hr hiK hqi (fun j hj e => by have := hf2.2 j (List.mem_cons_of_mem _ hj); omega) r8 (by simp only [topId, ne_eq, Option.some.injEq]; omega) (by decide)
         have hap' : appendA Try.prog 25 25 (.slice (some ⟨i, 0, none⟩) 7 c) _ _ = some (v', st3) := hap
         have hv1 := hrow.notLoc.2
         have hv2 := Row.cells1 hrow
         refine hF _ [14] _ _ (by decide +kernel) (fm_cons ?_ fm_nil)
         simp only [pickOps, List.filterMap_cons, List.filterMap_nil, List.getElem?_cons_zero, List.getElem?_cons_succ, Option.map_some]; simp (disch := omega) only [go_sem, ↓reduceIte, Nat.reduceEqDiff, hG, w_append, hap', hvl]
         refine hF _ [15] _ _ (by decide +kernel) (fm_cons ?_ fm_nil)
         simp only [pickOps, List.filterMap_cons, List.filterMap_nil, List.getElem?_cons_zero, List.getElem?_cons_succ, Option.map_some]; simp (disch := omega) only [go_sem, ↓reduceIte, Nat.reduceEqDiff, hG]
         refine hF _ [16] _ _ (by decide +kernel) (fm_cons ?_ fm_nil)
         simp only [pickOps, List.filterMap_cons, List.filterMap_nil, List.getElem?_cons_zero, List.getElem?_cons_succ, Option.map_some]; simp (disch := omega) only [go_sem, ↓reduceIte, Nat.reduceEqDiff, hG, hv1, hv2, hvl]
         refine hE _ _ _ (by decide +kernel) (hK _ _ ?_)
         exact ⟨⟨[bE, ⟨#[107]⟩], baseOps ++ [⟨w4, ([⟨#[101]⟩, ⟨#[101]⟩, ⟨#[101]⟩, ⟨#[101]⟩] : List ByteArray).take k, w11⟩]⟩, s, v', Drawn.grow hd9 hg (.inr ⟨i, hf2.2 i (by simp), rfl⟩) hq0 rfl, sl_rowBl (hS9.frame fun j hj => hg.away.2 j (hS9.lt j hj) (fun e => by cases e; exact hap0 _ hj (by simp))) hf1 hq0, hrow, ⟨by simp, by simp [baseOps], fun o ho => (List.mem_append.1 ho).elim (baseP o) (fun h => by cases List.mem_singleton.1 h; exact ⟨by simp only [List.length_take]; omega, z4⟩), baseS⟩, a1, a2, a3, hv1, hvl, hv2, (by refine ⟨?_, ?_, ?_, ⟨?_, ?_⟩⟩ <;> ((simp (disch := omega) only [go_sem, ↓reduceIte, Nat.reduceEqDiff]); try rfl))⟩
  ·have v20 : ((2 : Int) == 0) = false := by decide
   have v21 : ((2 : Int) == 1) = false := by decide
   repeat (first | with_reducible (first | refine thenI ?_ | refine thenE ?_ | refine thenR ?_ | refine inBI ?_ | refine inBR ?_ | refine inBS ?_ | refine inBN (by decide) ?_) | refine W_seqS ?_ | refine W_seqC ?_ | refine W_seqB ?_ | refine W_block ?_ | refine W_skip ?_ | (apply W_condB; (case hc => (simp (disch := omega) only [go_sem, ↓reduceIte, Nat.reduceEqDiff, v20, v21]); rfl); first | refine qzT ?_ | refine qzF ?_) | ((first | refine W_reg rfl fun G K hG hK => ?_ | refine W_end rfl fun G K hG hK => ?_); simp (disch := omega) only [go_sem, ↓reduceIte, Nat.reduceEqDiff, hG, v20, v21]; refine hK _ _ ?_; clear hK K hG G))
   rcases hU with ⟨_, h, _⟩ | ⟨i, c, cs, K, hu, hb, hr, hL2⟩
   ·cases h
   have hu' : u = .slice (some ⟨i, 0, none⟩) 7 c := hu
   subst hu'
   subst hL2
   obtain ⟨s0, cs', K1, K2, rfl, hs0, hr2, rfl⟩ := rowO_head hr
   have hiK := (List.nodup_cons.1 hf2.1).1
   have hqi : q < i := by have := hf2.2 i (by simp); omega
   have hsl : q < sb.length := by have := hd.away.1; omega
   have hlit := litBl (q := q) (st := sb) [⟨#[122, 122]⟩] hsl
   have hil : i < sb.length := (List.getElem?_eq_some_iff.1 hb).1
   obtain ⟨st1, k1, hb1, hn1, hf1'⟩ := store_at (P := Try.prog) (t := 24) (c1 := [.string ⟨#[97]⟩]) (x := s0) (c2 := .string bE :: cs') (i := i) (e := 54) (o := 1) (.slice (some ⟨sb.length, 0, none⟩) 1 1) (st := sb ++ [(⟨[.string ⟨#[122, 122]⟩], 9, 0⟩ : Blk)]) sz24 (Ext.app _ _ _ _ hb) rfl rfl rfl
   have hi0 : (0 ≤ (0 : Int) ∧ (0 : Int) < ((7 : Nat) : Int)) = True := eq_true ⟨by omega, by omega⟩
   have z0 : (0 : Int).toNat = 0 := rfl
   refine W_end rfl fun G K hG hK => ?_; simp (disch := omega) only [go_sem, ↓reduceIte, Nat.reduceEqDiff, Nat.reduceAdd, Nat.reduceLeDiff, hG, bsL, fillK_cons, fillK_nil, Nat.reduceMul, idxA, z0, hi0, k1]
   refine hK _ _ ?_; clear hK K hG G; repeat (with_reducible first | refine thenI ?_ | refine thenE ?_ | refine thenR ?_ | refine inBI ?_ | refine inBR ?_ | refine inBS ?_ | refine inBN (by decide) ?_)
   have hxs : Ext sb (sb ++ [(⟨[.string ⟨#[122, 122]⟩], 9, 0⟩ : Blk)]) := Ext.app _ _
   have hKq : ∀ j ∈ K1 ++ K2, j ≠ q := fun j hj e => by have := hf2.2 j (List.mem_cons_of_mem _ hj); omega
   have hK2 : ∀ j ∈ K2, j < sb.length := fun j hj => (Sl.lt (.inr ⟨i, c, _, K1 ++ K2, hu, hb, hr, rfl⟩ : Sl sb baseOps _ _)) j (List.mem_cons_of_mem _ (List.mem_append_right _ hj))
   have hr3 : RowO (Kind.own (sb ++ [(⟨[.string ⟨#[122, 122]⟩], 9, 0⟩ : Blk)])) _ cs' K2 := hr2.mono fun x _ cx Lx hLx hx => Kind.own_frame _ _ _ _ _ (fun j hj => hxs.get (hK2 j (hLx j hj))) hx
   have hset := ops_set (c := c) (o := ⟨⟨#[97]⟩, [], bE⟩) hr3 (fun h => hiK (List.mem_append_right _ h)) hqi (fun j hj => hKq j (List.mem_append_right _ hj)) hlit (by simp only [topId, ne_eq, Option.some.injEq]; omega) hb1 hn1 hf1'
   have hS3 : Sl st1 [bE, ⟨#[107]⟩] s L1 := (hS.ext hxs).frame fun j hj => hf1' j (fun e => hap0 j hj (by rw [e]; simp))
   have hcur : Cur st1 q xs := (hd.cur.ext hxs).far (k := i) ⟨by omega, fun j _ hj => hf1' j (fun e => hj (by rw [e]))⟩ hqi
   have hd5 : Drawn q xs st st1 := ⟨hcur, (hd.away.same (Away.of_ext hxs)).trans (k' := some i) ⟨by omega, fun j _ hj => hf1' j (fun e => hj (by rw [e]))⟩ (.inr ⟨i, hf2.2 i (by simp), rfl⟩)⟩
   exact ⟨⟨[bE, ⟨#[107]⟩], ⟨⟨#[97]⟩, [⟨#[122, 122]⟩], bE⟩ :: baseOps.tail⟩, s, .slice (some ⟨i, 0, none⟩) 7 c, hd5, sl_rowBl hS3 hf1 hq0, hset, ⟨by simp, (by decide : baseOps.length ≤ 8), (by decide +kernel), baseS⟩, a1, a2, a3, rfl, rfl, rfl, (by refine ⟨?_, ?_, ?_, ⟨?_, ?_⟩⟩ <;> ((simp (disch := omega) only [go_sem, ↓reduceIte, Nat.reduceEqDiff]); try rfl))⟩
  ·have v30 : (x == 0) = false := by simpa using (by omega : x ≠ 0)
   have v31 : (x == 1) = false := by simpa using (by omega : x ≠ 1)
   have v32 : (x == 2) = false := by simpa using (by omega : x ≠ 2)
   repeat (first | with_reducible (first | refine thenI ?_ | refine thenE ?_ | refine thenR ?_ | refine inBI ?_ | refine inBR ?_ | refine inBS ?_ | refine inBN (by decide) ?_) | refine W_seqS ?_ | refine W_seqC ?_ | refine W_seqB ?_ | refine W_block ?_ | refine W_skip ?_ | (apply W_condB; (case hc => (simp (disch := omega) only [go_sem, ↓reduceIte, Nat.reduceEqDiff, v30, v31, v32]); rfl); first | refine qzT ?_ | refine qzF ?_) | ((first | refine W_reg rfl fun G K hG hK => ?_ | refine W_end rfl fun G K hG hK => ?_); simp (disch := omega) only [go_sem, ↓reduceIte, Nat.reduceEqDiff, hG, v30, v31, v32]; refine hK _ _ ?_; clear hK K hG G))
   exact ⟨⟨[bE, ⟨#[107]⟩], baseOps⟩, s, u, hd, sl_rowBl hS hf1 hq0, sl_rowBl hU hf2 hq0, ⟨by simp, (by decide : baseOps.length ≤ 8), baseP, baseS⟩, a1, a2, a3, a4, a5, a6, (by refine ⟨?_, ?_, ?_, ⟨?_, ?_⟩⟩ <;> ((simp (disch := omega) only [go_sem, ↓reduceIte, Nat.reduceEqDiff]); try rfl))⟩
 rintro ⟨env, loc⟩ st' ⟨g, s', u', hdr, hgs, hgu, hgp, o1, o2, o3, o4, o5, o6, e2, e3, l3, ⟨l2, l2'⟩⟩
 simp only at e2 e3 l3 l2 l2'
 (repeat (first | refine W_seqS ?_ | refine W_seqC ?_ | refine W_seqB ?_ | refine W_block ?_)); refine W_reg rfl fun G K hG hK => ?_; simp (disch := omega) only [go_sem, ↓reduceIte, Nat.reduceEqDiff, hG, e2, e3, l3, l2, l2', o1, o2, o3, o4, o5, o6]
 refine hK _ _ ?_; clear hK K hG G; repeat (with_reducible first | refine thenI ?_ | refine thenE ?_ | refine thenR ?_ | refine inBI ?_ | refine inBR ?_ | refine inBS ?_ | refine inBN (by decide) ?_)
 refine W_ret ?_; try (repeat (with_reducible first | refine thenI ?_ | refine thenE ?_ | refine thenR ?_ | refine inBI ?_ | refine inBR ?_ | refine inBS ?_ | refine inBN (by decide) ?_))
 refine finC (.inl rfl) (by (simp (disch := omega) only [go_sem, ↓reduceIte, Nat.reduceEqDiff, e2, e3, l3, l2, l2', o1, o2, o3, o4, o5, o6]); try rfl) ⟨hdr, g, s', u', rfl, hgs, hgu, hgp⟩

end

section
/- Terms drawn, turned a little: spec.l3Bent. -/
open Go Go.Proofs
set_option linter.unusedVariables false
set_option linter.unusedSimpArgs false
set_option maxRecDepth 100000
-- AUTO

def BentP (t : T) : Prop := PlainB t ∧ t.wt ≤ 100
theorem Plain.args {k n : Int} {nm : ByteArray} {args : List T} (h : Plain (.mk k n nm args)) : ∀ a ∈ args, Plain a := by cases h; assumption
theorem bent_of {t : T} (h : DrawP 4 t) : BentP t := ⟨h.1.b, by have := h.2; omega⟩
theorem drawP_mono {d e : Nat} (hde : d ≤ e) {t : T} (h : DrawP d t) : DrawP e t := ⟨h.1, by
 have h1 := h.2
 have h2 : 2 ^ d ≤ 2 ^ e := Nat.pow_le_pow_right (by omega) hde
 omega⟩
theorem row_low {st st' : St} {xs : List Byt} {s : Value} {q : Nat} (h : RowY st xs s) (ha : ∀ i, i < q → st'[i]? = st[i]?) (hn : xs = [] ∨ ∃ b, topId s = some b ∧ b < q) : RowY st' xs s := by
 rcases h with h | ⟨i, o, c, rfl, h⟩
 ·exact .inl h
 ·refine .inr ⟨i, o, c, rfl, fun j x hx => ?_⟩
  obtain ⟨cs, h1, h2, h3⟩ := h j x hx
  refine ⟨cs, h1, h2, fun k v hv => ?_⟩
  have h4 := h3 k v hv
  rcases hn with rfl | ⟨b, hb, hlt⟩
  ·simp at hx
  simp only [topId, Option.some.injEq] at hb
  subst hb
  unfold cell at h4 ⊢
  rw [ha i hlt]; exact h4
theorem Drawn.low {q n0 : Nat} {xs : List Byt} {a b c : St} (h : Drawn q xs a b) (hn : n0 = a.length) (hq : q < n0) (hc : ∀ i, i < n0 → c[i]? = b[i]?) (hl : b.length ≤ c.length) : Drawn q xs a c := by
 subst hn
 obtain ⟨sb, i, hh, h1, h2, h3, h4⟩ := h.cur
 exact ⟨⟨sb, i, hh, by rw [hc q hq]; exact h1, row_low h2 (fun i hi => hc i (by omega)) h3, h3, h4⟩, Nat.le_trans h.away.1 hl, fun i hi hne => by rw [hc i hi]; exact h.away.2 i hi hne⟩
theorem Own.args_slice {e : TypeId} {st : St} {k n : Int} {nm : ByteArray} {args : List T} {s : Value} {L : List Nat} (h : Own e st (.mk k n nm args) [.int .i64 k, .int .i64 n, .string nm, s] L) : SliceO (Own e st) e st args s L := by
 obtain ⟨s', h1, h2⟩ := h.open
 cases h1
 exact h2
def isIntB : Value → Bool
 | .int .i64 _ => true
 | _ => false
def intB : Value → Int
 | .int .i64 n => n
 | _ => 0
theorem ints_map {cs : List Value} (h : cs.all isIntB = true) : cs = (cs.map intB).map (Value.int .i64) := by
 rw [List.map_map]
 refine ((List.map_congr_left fun v hv => ?_).trans (List.map_id cs)).symm
 have := List.all_eq_true.1 h v hv
 unfold isIntB at this
 split at this
 ·rfl
 ·cases this
theorem row_lastI (st : St) (ns : List Int) (t : TypeId) (n : Nat) : Rw (st ++ [⟨ns.map (Value.int .i64), t, 0⟩]) ns (.slice (some ⟨st.length, 0, none⟩) ns.length n) := .inr ⟨st.length, 0, n, rfl, fun j x hx => ⟨[.int .i64 x], rfl, rfl, fun k v hv => by
 have hk : k = 0 := by have := (List.getElem?_eq_some_iff.1 hv).1; simp at this; omega
 subst hk
 obtain ⟨hj1, hj2⟩ := List.getElem?_eq_some_iff.1 hx
 have : v = .int .i64 x := by simpa using hv.symm
 subst this
 simp [cell, hx, show Kind.sz Int = 1 from rfl]⟩⟩
theorem l1PickInt_lit (q : Nat) (xs : List Byt) (sa : St) (cs : List Value) (t : TypeId) (n : Nat) (hq : Cur sa q xs) (hs : cs.all isIntB = true) (h0 : 0 < cs.length) (h1 : cs.length ≤ 256) :
  CallS Try.prog 22 [.pointer (some ⟨q, 0, none⟩), .slice (some ⟨sa.length, 0, none⟩) cs.length n] (sa ++ [⟨cs, t, 0⟩]) fun r st2 => (∃ w, r = .int .i64 w ∧ .int .i64 w ∈ cs) ∧ Drawn q xs (sa ++ [⟨cs, t, 0⟩]) st2 ∧ st2.length = sa.length + 1 := by
 have hcs := ints_map hs
 have hr := row_lastI sa (cs.map intB) t n
 rw [← hcs, List.length_map] at hr
 refine (l1PickInt_ok q xs _ (cs.map intB) _ (by simpa using h0) (by simpa using h1) (hq.ext (Ext.app _ _)) hr (fun e => by simp only [topId, Option.some.injEq] at e; have := hq.lt; omega)).mono fun r st2 ⟨⟨w, hw, hm⟩, hd, hl⟩ => ⟨⟨w, hw, ?_⟩, hd, by simpa using hl⟩
 rw [hcs]
 exact List.mem_map.2 ⟨w, hm, rfl⟩
theorem T.wtL_snoc (xs : List T) (x : T) : T.wtL (xs ++ [x]) = T.wtL xs + x.wt := by
 induction xs with
 | nil => simp [T.wtL]
 | cons y ys ih => simp only [List.cons_append, T.wtL, ih]; omega
theorem l3Bent_ok (q : Nat) (xs : List Byt) (st : St) (hq : Cur st q xs) :
  CallS Try.prog 42 [.pointer (some ⟨q, 0, none⟩)] st (DrawT q xs st BentP) := by
 refine CallS_of_W [] 48 Try.func42 rfl rfl rfl rfl (by simp) ?_
 repeat (first | with_reducible (first | refine thenI ?_ | refine thenE ?_ | refine thenR ?_ | refine inBI ?_ | refine inBR ?_ | refine inBS ?_ | refine inBN (by decide) ?_) | refine W_seqS ?_ | refine W_seqC ?_ | refine W_seqB ?_ | refine W_block ?_ | refine W_skip ?_ | (apply W_condB; (case hc => (simp (disch := omega) only [go_sem, ↓reduceIte, Nat.reduceEqDiff]); rfl); first | refine qzT ?_ | refine qzF ?_) | ((first | refine W_reg rfl fun G K hG hK => ?_ | refine W_end rfl fun G K hG hK => ?_); simp (disch := omega) only [go_sem, ↓reduceIte, Nat.reduceEqDiff, hG]; refine hK _ _ ?_; clear hK K hG G))
 (repeat (first | refine W_seqS ?_ | refine W_seqC ?_ | refine W_seqB ?_ | refine W_block ?_)); refine W_reg rfl fun G K hG hK => ?_; simp (disch := omega) only [go_sem, ↓reduceIte, Nat.reduceEqDiff, hG]
 refine w_call (l1Below_ok q xs st 4 (by omega) (by omega) hq) (by simp (disch := omega) only [go_sem, ↓reduceIte, Nat.reduceEqDiff]) ?hl ?_
 case hl => first | rfl | (simp only [go_sem, List.all_cons, List.all_nil, Bool.not_false, Bool.and_self]; done)
 rintro r_ sa ⟨⟨x, rfl, hx0, hx1⟩, hd, hl⟩; refine ⟨fun e => (by cases e), ?_⟩
 obtain ⟨n, rfl⟩ : ∃ n : Nat, x = n := ⟨x.toNat, by omega⟩
 have hadd : (1 : Int) + (n : Int) = ((n + 1 : Nat) : Int) := by omega
 simp (disch := omega) only [go_sem, ↓reduceIte, Nat.reduceEqDiff, hadd]
 refine w_call (l1Once_ok q xs sa 2 (by omega) (by omega) hd.cur) (by simp (disch := omega) only [go_sem, ↓reduceIte, Nat.reduceEqDiff]) ?hl ?_
 case hl => first | rfl | (simp only [go_sem, List.all_cons, List.all_nil, Bool.not_false, Bool.and_self]; done)
 rintro r_ sb ⟨⟨g, rfl⟩, hd2, hl2⟩; refine ⟨fun e => (by cases e), ?_⟩
 simp (disch := omega) only [go_sem, ↓reduceIte, Nat.reduceEqDiff, hadd]
 refine w_call (l3Draw_ok q xs g (n + 1) (by omega) sb hd2.cur) (by simp (disch := omega) only [go_sem, ↓reduceIte, Nat.reduceEqDiff, hadd]) ?hl ?_
 case hl => first | rfl | (simp only [go_sem, List.all_cons, List.all_nil, Bool.not_false, Bool.and_self, hadd]; done)
 rintro r_ sc ⟨hd3, t, ds, L, rfl, ho, hf, hp⟩; refine ⟨fun e => (by cases e), ?_⟩
 obtain ⟨k, m, nm, args⟩ := t
 obtain ⟨s, rfl, hs⟩ := ho.open
 have a1 := hs.loc
 have a2 := hs.okv
 have a3 := hs.cells
 simp (disch := omega) only [go_sem, ↓reduceIte, Nat.reduceEqDiff, hG, a1, a2, a3]; refine hK _ _ ?_; clear hK K hG G; repeat (with_reducible first | refine thenI ?_ | refine thenE ?_ | refine thenR ?_ | refine inBI ?_ | refine inBR ?_ | refine inBS ?_ | refine inBN (by decide) ?_)
 have hdr := (hd.trans hd2).trans hd3
 have hp4 := drawP_mono (e := 4) (by omega) hp
 have hf0 := hf.mono (hd.trans hd2).away.1
 repeat (first | with_reducible (first | refine thenI ?_ | refine thenE ?_ | refine thenR ?_ | refine inBI ?_ | refine inBR ?_ | refine inBS ?_ | refine inBN (by decide) ?_) | refine W_seqS ?_ | refine W_seqC ?_ | refine W_seqB ?_ | refine W_block ?_ | refine W_skip ?_ | (apply W_condB; (case hc => (simp (disch := omega) only [go_sem, ↓reduceIte, Nat.reduceEqDiff, a1, a2, a3]); rfl); first | refine qzT ?_ | refine qzF ?_) | ((first | refine W_reg rfl fun G K hG hK => ?_ | refine W_end rfl fun G K hG hK => ?_); simp (disch := omega) only [go_sem, ↓reduceIte, Nat.reduceEqDiff, hG, a1, a2, a3]; refine hK _ _ ?_; clear hK K hG G))
 (repeat (first | refine W_seqS ?_ | refine W_seqC ?_ | refine W_seqB ?_ | refine W_block ?_)); refine W_reg rfl fun G K hG hK => ?_; simp (disch := omega) only [go_sem, ↓reduceIte, Nat.reduceEqDiff, hG, a1, a2, a3]
 refine w_call (l1Below_ok q xs sc 12 (by omega) (by omega) hdr.cur) (by simp (disch := omega) only [go_sem, ↓reduceIte, Nat.reduceEqDiff]) ?hl ?_
 case hl => first | rfl | (simp only [go_sem, List.all_cons, List.all_nil, Bool.not_false, Bool.and_self]; done)
 rintro r_ sd ⟨⟨y, rfl, hy0, hy1⟩, hd4, hl4⟩; refine ⟨fun e => (by cases e), ?_⟩
 simp (disch := omega) only [go_sem, ↓reduceIte, Nat.reduceEqDiff, hG, a1, a2, a3]; refine hK _ _ ?_; clear hK K hG G; repeat (with_reducible first | refine thenI ?_ | refine thenE ?_ | refine thenR ?_ | refine inBI ?_ | refine inBR ?_ | refine inBS ?_ | refine inBN (by decide) ?_)
 have hdr4 := hdr.trans hd4
 have ho4 := hd4.own ho hf0 (by have := hq.lt; omega)
 have hwt : nm.size + args.length + T.wtL args + 3 ≤ 64 := by have := hp4.2; simp only [T.wt] at this; omega
 have hpa := hp4.1.args
 refine W_to (fun fr st' => ∃ (t : T) (ds : List Value) (L : List Nat), (Drawn q xs st st') ∧ (OwnT st' t ds L) ∧ (Fresh st.length L) ∧ (BentP t) ∧ (fr.env 2 = .pointer (some ⟨2, 0, some 1⟩)) ∧ (fr.env 3 = .pointer (some ⟨3, 0, some 1⟩)) ∧ ((fr.loc 2).1 = 1 ∧ (fr.loc 2).2.length = 4) ∧ (fr.loc 3 = (1, ds))) ?_ ?_
 ·have hy : y = 0 ∨ y = 1 ∨ y = 2 ∨ y = 3 ∨ y = 4 ∨ 5 ≤ y := by omega
  have v10 : ((1 : Int) == 0) = false := by decide
  have v20 : ((2 : Int) == 0) = false := by decide
  have v21 : ((2 : Int) == 1) = false := by decide
  have v30 : ((3 : Int) == 0) = false := by decide
  have v31 : ((3 : Int) == 1) = false := by decide
  have v32 : ((3 : Int) == 2) = false := by decide
  have v40 : ((4 : Int) == 0) = false := by decide
  have v41 : ((4 : Int) == 1) = false := by decide
  have v42 : ((4 : Int) == 2) = false := by decide
  have v43 : ((4 : Int) == 3) = false := by decide
  rcases hy with rfl | rfl | rfl | rfl | rfl | hy
  ·repeat (first | with_reducible (first | refine thenI ?_ | refine thenE ?_ | refine thenR ?_ | refine inBI ?_ | refine inBR ?_ | refine inBS ?_ | refine inBN (by decide) ?_) | refine W_seqS ?_ | refine W_seqC ?_ | refine W_seqB ?_ | refine W_block ?_ | refine W_skip ?_ | (apply W_condB; (case hc => (simp (disch := omega) only [go_sem, ↓reduceIte, Nat.reduceEqDiff, a1, a2, a3, v10, v20, v21, v30, v31, v32, v40, v41, v42, v43]); rfl); first | refine qzT ?_ | refine qzF ?_) | ((first | refine W_reg rfl fun G K hG hK => ?_ | refine W_end rfl fun G K hG hK => ?_); simp (disch := omega) only [go_sem, ↓reduceIte, Nat.reduceEqDiff, hG, a1, a2, a3, v10, v20, v21, v30, v31, v32, v40, v41, v42, v43]; refine hK _ _ ?_; clear hK K hG G))
   refine W_end rfl fun G K hG hK => ?_; simp (disch := omega) only [go_sem, ↓reduceIte, Nat.reduceEqDiff, hG, a1, a2, a3, v10, v20, v21, v30, v31, v32, v40, v41, v42, v43]
   refine w_call (l1Below_ok q xs sd 5 (by omega) (by omega) hdr4.cur) (by simp (disch := omega) only [go_sem, ↓reduceIte, Nat.reduceEqDiff, a1, a2, a3, v10, v20, v21, v30, v31, v32, v40, v41, v42, v43]) ?hl ?_
   case hl => first | rfl | (simp only [go_sem, List.all_cons, List.all_nil, Bool.not_false, Bool.and_self, a1, a2, a3, v10, v20, v21, v30, v31, v32, v40, v41, v42, v43]; done)
   rintro r_ se ⟨⟨z, rfl, hz0, hz1⟩, hd6, hl6⟩; refine ⟨fun e => (by cases e), ?_⟩
   simp (disch := omega) only [go_sem, ↓reduceIte, Nat.reduceEqDiff, hG, a1, a2, a3, v10, v20, v21, v30, v31, v32, v40, v41, v42, v43]; refine hK _ _ ?_; clear hK K hG G; repeat (with_reducible first | refine thenI ?_ | refine thenE ?_ | refine thenR ?_ | refine inBI ?_ | refine inBR ?_ | refine inBS ?_ | refine inBN (by decide) ?_)
   exact ⟨.mk z m nm args, _, L, hdr4.trans hd6, Own.close z m nm ((hd6.own ho4 hf0 (by have := hq.lt; omega)).args_slice), hf0, ⟨.inr hpa, by simp only [T.wt]; omega⟩, (by refine ⟨?_, ?_, ⟨?_, ?_⟩, ?_⟩ <;> ((simp (disch := omega) only [go_sem, ↓reduceIte, Nat.reduceEqDiff, a1, a2, a3, v10, v20, v21, v30, v31, v32, v40, v41, v42, v43]); try rfl))⟩
  ·repeat (first | with_reducible (first | refine thenI ?_ | refine thenE ?_ | refine thenR ?_ | refine inBI ?_ | refine inBR ?_ | refine inBS ?_ | refine inBN (by decide) ?_) | refine W_seqS ?_ | refine W_seqC ?_ | refine W_seqB ?_ | refine W_block ?_ | refine W_skip ?_ | (apply W_condB; (case hc => (simp (disch := omega) only [go_sem, ↓reduceIte, Nat.reduceEqDiff, a1, a2, a3, v10, v20, v21, v30, v31, v32, v40, v41, v42, v43]); rfl); first | refine qzT ?_ | refine qzF ?_) | ((first | refine W_reg rfl fun G K hG hK => ?_ | refine W_end rfl fun G K hG hK => ?_); simp (disch := omega) only [go_sem, ↓reduceIte, Nat.reduceEqDiff, hG, a1, a2, a3, v10, v20, v21, v30, v31, v32, v40, v41, v42, v43]; refine hK _ _ ?_; clear hK K hG G))
   refine W_end rfl fun G K hG hK => ?_; simp (disch := omega) only [go_sem, ↓reduceIte, Nat.reduceEqDiff, Nat.reduceAdd, Nat.reduceLeDiff, hG, a1, a2, a3, v10, v20, v21, v30, v31, v32, v40, v41, v42, v43, bsL, fillK_cons, fillK_nil, Nat.reduceMul]
   refine w_call (l1PickInt_lit q xs sd _ _ 3 hdr4.cur rfl (by simp) (by simp)) (by simp (disch := omega) only [go_sem, ↓reduceIte, Nat.reduceEqDiff, a1, a2, a3, v10, v20, v21, v30, v31, v32, v40, v41, v42, v43]) ?hl ?_
   case hl => first | rfl | (simp only [go_sem, List.all_cons, List.all_nil, Bool.not_false, Bool.and_self, a1, a2, a3, v10, v20, v21, v30, v31, v32, v40, v41, v42, v43]; done)
   rintro r_ se ⟨⟨z, rfl, hz⟩, hd6, hl6⟩; refine ⟨fun e => (by cases e), ?_⟩
   have hd7 := Drawn.pre (Ext.app _ _) hd6
   simp (disch := omega) only [go_sem, ↓reduceIte, Nat.reduceEqDiff, hG, a1, a2, a3, v10, v20, v21, v30, v31, v32, v40, v41, v42, v43]; refine hK _ _ ?_; clear hK K hG G; repeat (with_reducible first | refine thenI ?_ | refine thenE ?_ | refine thenR ?_ | refine inBI ?_ | refine inBR ?_ | refine inBS ?_ | refine inBN (by decide) ?_)
   exact ⟨.mk k z nm args, _, L, hdr4.trans hd7, Own.close k z nm ((hd7.own ho4 hf0 (by have := hq.lt; omega)).args_slice), hf0, ⟨.inr hpa, by simp only [T.wt]; omega⟩, (by refine ⟨?_, ?_, ⟨?_, ?_⟩, ?_⟩ <;> ((simp (disch := omega) only [go_sem, ↓reduceIte, Nat.reduceEqDiff, a1, a2, a3, v10, v20, v21, v30, v31, v32, v40, v41, v42, v43]); try rfl))⟩
  ·repeat (first | with_reducible (first | refine thenI ?_ | refine thenE ?_ | refine thenR ?_ | refine inBI ?_ | refine inBR ?_ | refine inBS ?_ | refine inBN (by decide) ?_) | refine W_seqS ?_ | refine W_seqC ?_ | refine W_seqB ?_ | refine W_block ?_ | refine W_skip ?_ | (apply W_condB; (case hc => (simp (disch := omega) only [go_sem, ↓reduceIte, Nat.reduceEqDiff, a1, a2, a3, v10, v20, v21, v30, v31, v32, v40, v41, v42, v43]); rfl); first | refine qzT ?_ | refine qzF ?_) | ((first | refine W_reg rfl fun G K hG hK => ?_ | refine W_end rfl fun G K hG hK => ?_); simp (disch := omega) only [go_sem, ↓reduceIte, Nat.reduceEqDiff, hG, a1, a2, a3, v10, v20, v21, v30, v31, v32, v40, v41, v42, v43]; refine hK _ _ ?_; clear hK K hG G))
   refine W_end rfl fun G K hG hK => ?_; simp (disch := omega) only [go_sem, ↓reduceIte, Nat.reduceEqDiff, Nat.reduceAdd, Nat.reduceLeDiff, hG, a1, a2, a3, v10, v20, v21, v30, v31, v32, v40, v41, v42, v43, bsL, fillK_cons, fillK_nil, Nat.reduceMul]
   refine w_call (l1Pick_lit q xs sd _ _ 4 hdr4.cur rfl (by simp) (by simp)) (by simp (disch := omega) only [go_sem, ↓reduceIte, Nat.reduceEqDiff, a1, a2, a3, v10, v20, v21, v30, v31, v32, v40, v41, v42, v43]) ?hl ?_
   case hl => first | rfl | (simp only [go_sem, List.all_cons, List.all_nil, Bool.not_false, Bool.and_self, a1, a2, a3, v10, v20, v21, v30, v31, v32, v40, v41, v42, v43]; done)
   rintro r_ se ⟨⟨w, rfl, hw⟩, hd6, hl6⟩; refine ⟨fun e => (by cases e), ?_⟩
   have hd7 := Drawn.pre (Ext.app _ _) hd6
   have hw2 := size_of_mem2 (m := 2) hw rfl
   simp (disch := omega) only [go_sem, ↓reduceIte, Nat.reduceEqDiff, hG, a1, a2, a3, v10, v20, v21, v30, v31, v32, v40, v41, v42, v43]; refine hK _ _ ?_; clear hK K hG G; repeat (with_reducible first | refine thenI ?_ | refine thenE ?_ | refine thenR ?_ | refine inBI ?_ | refine inBR ?_ | refine inBS ?_ | refine inBN (by decide) ?_)
   exact ⟨.mk k m w args, _, L, hdr4.trans hd7, Own.close k m w ((hd7.own ho4 hf0 (by have := hq.lt; omega)).args_slice), hf0, ⟨.inr hpa, by simp only [T.wt]; omega⟩, (by refine ⟨?_, ?_, ⟨?_, ?_⟩, ?_⟩ <;> ((simp (disch := omega) only [go_sem, ↓reduceIte, Nat.reduceEqDiff, a1, a2, a3, v10, v20, v21, v30, v31, v32, v40, v41, v42, v43]); try rfl))⟩
  ·repeat (first | with_reducible (first | refine thenI ?_ | refine thenE ?_ | refine thenR ?_ | refine inBI ?_ | refine inBR ?_ | refine inBS ?_ | refine inBN (by decide) ?_) | refine W_seqS ?_ | refine W_seqC ?_ | refine W_seqB ?_ | refine W_block ?_ | refine W_skip ?_ | (apply W_condB; (case hc => (simp (disch := omega) only [go_sem, ↓reduceIte, Nat.reduceEqDiff, a1, a2, a3, v10, v20, v21, v30, v31, v32, v40, v41, v42, v43]); rfl); first | refine qzT ?_ | refine qzF ?_) | ((first | refine W_reg rfl fun G K hG hK => ?_ | refine W_end rfl fun G K hG hK => ?_); simp (disch := omega) only [go_sem, ↓reduceIte, Nat.reduceEqDiff, hG, a1, a2, a3, v10, v20, v21, v30, v31, v32, v40, v41, v42, v43]; refine hK _ _ ?_; clear hK K hG G))
   refine W_endD mixed [] [(0,false),(1,false),(2,true),(3,false),(4,false),(5,false),(6,false)] rfl (by decide +kernel) fun G K hG hK => ?_; simp only [pickOps, List.filterMap_cons, List.filterMap_nil, List.getElem?_cons_zero, List.getElem?_cons_succ, Option.map_some]; simp (disch := omega) only [go_sem, ↓reduceIte, Nat.reduceEqDiff, hG, a1, a2, a3, v10, v20, v21, v30, v31, v32, v40, v41, v42, v43]
   refine w_call (l3Word_ok 1 sd) (by simp (disch := omega) only [go_sem, ↓reduceIte, Nat.reduceEqDiff, a1, a2, a3, v10, v20, v21, v30, v31, v32, v40, v41, v42, v43]) ?hl ?_
   case hl => first | rfl | (simp only [go_sem, List.all_cons, List.all_nil, Bool.not_false, Bool.and_self, a1, a2, a3, v10, v20, v21, v30, v31, v32, v40, v41, v42, v43]; done)
   rintro r_ se ⟨rfl, rfl⟩; refine ⟨fun e => Ext.refl _, ?_⟩
   have hw1 : OwnT se (.mk 3 1 ⟨#[]⟩ []) [.int .i64 3, .int .i64 1, .string ⟨#[]⟩, .slice none 0 0] [] := .nil _ _ _
   obtain ⟨s', sf, L', hap, hs', hf', hll, hlow⟩ := Own.step ho4.args_slice hf0 hdr4.away.1 (Ext.refl se) hw1 (.nil _) (by omega)
   have b1 := hs'.loc
   have b2 := hs'.okv
   have b3 := hs'.cells
   simp (disch := omega) only [go_sem, ↓reduceIte, Nat.reduceEqDiff, Nat.reduceAdd, Nat.reduceLeDiff, hG, a1, a2, a3, v10, v20, v21, v30, v31, v32, v40, v41, v42, v43, bsL, fillK_cons, fillK_nil, Nat.reduceMul, w_append, hap, b1, b2, b3]; refine hK _ _ ?_; clear hK K hG G; repeat (with_reducible first | refine thenI ?_ | refine thenE ?_ | refine thenR ?_ | refine inBI ?_ | refine inBR ?_ | refine inBS ?_ | refine inBN (by decide) ?_)
   have hz : (⟨#[]⟩ : ByteArray).size = 0 := rfl
   have hb : BentP (.mk k m nm (args ++ [.mk 3 1 ⟨#[]⟩ []])) := ⟨.inr (fun a ha => (List.mem_append.1 ha).elim (hpa a) fun h => by cases List.mem_singleton.1 h; exact plain_word _ _), by
    simp only [T.wt, List.length_append, List.length_singleton, T.wtL_snoc, T.wtL, List.length_nil, hz]; omega⟩
   exact ⟨.mk k m nm (args ++ [.mk 3 1 ⟨#[]⟩ []]), _, L', hdr4.low rfl hq.lt hlow hll, Own.close k m nm hs', hf', hb, (by refine ⟨?_, ?_, ⟨?_, ?_⟩, ?_⟩ <;> ((simp (disch := omega) only [go_sem, ↓reduceIte, Nat.reduceEqDiff, a1, a2, a3, v10, v20, v21, v30, v31, v32, v40, v41, v42, v43]); try rfl))⟩
  ·repeat (first | with_reducible (first | refine thenI ?_ | refine thenE ?_ | refine thenR ?_ | refine inBI ?_ | refine inBR ?_ | refine inBS ?_ | refine inBN (by decide) ?_) | refine W_seqS ?_ | refine W_seqC ?_ | refine W_seqB ?_ | refine W_block ?_ | refine W_skip ?_ | (apply W_condB; (case hc => (simp (disch := omega) only [go_sem, ↓reduceIte, Nat.reduceEqDiff, a1, a2, a3, v10, v20, v21, v30, v31, v32, v40, v41, v42, v43]); rfl); first | refine qzT ?_ | refine qzF ?_) | ((first | refine W_reg rfl fun G K hG hK => ?_ | refine W_end rfl fun G K hG hK => ?_); simp (disch := omega) only [go_sem, ↓reduceIte, Nat.reduceEqDiff, hG, a1, a2, a3, v10, v20, v21, v30, v31, v32, v40, v41, v42, v43]; refine hK _ _ ?_; clear hK K hG G))
   refine W_loop (fun d fr st' => ∃ (j : Nat) (t : T) (ds : List Value) (L : List Nat), d = 16 - j ∧ j ≤ 16 ∧ (Drawn q xs st st') ∧ (OwnT st' t ds L) ∧ (Fresh st.length L) ∧ (Plain t) ∧ (t.wt ≤ 61 + 2 * j) ∧ (fr.env 2 = .pointer (some ⟨2, 0, some 1⟩)) ∧ (fr.env 3 = .pointer (some ⟨3, 0, some 1⟩)) ∧ (fr.env 4 = .int .i64 j) ∧ ((fr.loc 2).1 = 1 ∧ (fr.loc 2).2.length = 4) ∧ (fr.loc 3 = (1, ds))) (16) ?_ ?_
   ·exact ⟨0, _, _, _, by omega, by omega, hdr4, ho4, hf0, hp4.1, by simp only [T.wt]; omega, (by refine ⟨?_, ?_, ?_, ⟨?_, ?_⟩, ?_⟩ <;> ((simp (disch := omega) only [go_sem, ↓reduceIte, Nat.reduceEqDiff, a1, a2, a3, v10, v20, v21, v30, v31, v32, v40, v41, v42, v43]); try rfl))⟩
   rintro d ⟨env, loc⟩ st' ⟨j, t, ds, L, hd, hj, hdr5, ho5, hf5, hp5, hw5, e2, e3, e4, ⟨l2, l2'⟩, l3⟩
   simp only at e2 e3 e4 l2 l2' l3
   by_cases hlt : j < 16
   ·have c1 : decide ((j : Int) < 16) = true := by simp; omega
    obtain ⟨k5, n5, m5, s5, rfl, d1, d2, d3⟩ := ho5.args_cells
    repeat (first | with_reducible (first | refine thenI ?_ | refine thenE ?_ | refine thenR ?_ | refine inBI ?_ | refine inBR ?_ | refine inBS ?_ | refine inBN (by decide) ?_) | refine W_seqS ?_ | refine W_seqC ?_ | refine W_seqB ?_ | refine W_block ?_ | refine W_skip ?_ | (apply W_condB; (case hc => (simp (disch := omega) only [go_sem, ↓reduceIte, Nat.reduceEqDiff, a1, a2, a3, v10, v20, v21, v30, v31, v32, v40, v41, v42, v43, e2, e3, e4, l2, l2', l3, c1, d1, d2, d3]); rfl); first | refine qzT ?_ | refine qzF ?_) | ((first | refine W_reg rfl fun G K hG hK => ?_ | refine W_end rfl fun G K hG hK => ?_); simp (disch := omega) only [go_sem, ↓reduceIte, Nat.reduceEqDiff, hG, a1, a2, a3, v10, v20, v21, v30, v31, v32, v40, v41, v42, v43, e2, e3, e4, l2, l2', l3, c1, d1, d2, d3]; refine hK _ _ ?_; clear hK K hG G))
    refine W_end rfl fun G K hG hK => ?_; simp (disch := omega) only [go_sem, ↓reduceIte, Nat.reduceEqDiff, hG, a1, a2, a3, v10, v20, v21, v30, v31, v32, v40, v41, v42, v43, e2, e3, e4, l2, l2', l3, d1, d2, d3]
    refine w_call (l3One_ok ⟨#[103]⟩ t st' [.int .i64 k5, .int .i64 n5, .string m5, s5] L ho5) (by simp (disch := omega) only [go_sem, ↓reduceIte, Nat.reduceEqDiff, a1, a2, a3, v10, v20, v21, v30, v31, v32, v40, v41, v42, v43, e2, e3, e4, l2, l2', l3, d1, d2, d3]) ?hl ?_
    case hl => first | rfl | (simp only [go_sem, List.all_cons, List.all_nil, Bool.not_false, Bool.and_self, a1, a2, a3, v10, v20, v21, v30, v31, v32, v40, v41, v42, v43, e2, e3, e4, l2, l2', l3, d1, d2, d3]; done)
    rintro r_ se ⟨x1, es, rfl, ho6⟩; refine ⟨fun e => (by cases e), ?_⟩
    obtain ⟨k6, n6, m6, s6, rfl, g1, g2, g3⟩ := ho6.args_cells
    simp (disch := omega) only [go_sem, ↓reduceIte, Nat.reduceEqDiff, hG, a1, a2, a3, v10, v20, v21, v30, v31, v32, v40, v41, v42, v43, e2, e3, e4, l2, l2', l3, d1, d2, d3, g1, g2, g3]; refine hK _ _ ?_; clear hK K hG G; repeat (with_reducible first | refine thenI ?_ | refine thenE ?_ | refine thenR ?_ | refine inBI ?_ | refine inBR ?_ | refine inBS ?_ | refine inBN (by decide) ?_)
    repeat (first | with_reducible (first | refine thenI ?_ | refine thenE ?_ | refine thenR ?_ | refine inBI ?_ | refine inBR ?_ | refine inBS ?_ | refine inBN (by decide) ?_) | refine W_seqS ?_ | refine W_seqC ?_ | refine W_seqB ?_ | refine W_block ?_ | refine W_skip ?_ | (apply W_condB; (case hc => (simp (disch := omega) only [go_sem, ↓reduceIte, Nat.reduceEqDiff, a1, a2, a3, v10, v20, v21, v30, v31, v32, v40, v41, v42, v43, e2, e3, e4, l2, l2', l3]); rfl); first | refine qzT ?_ | refine qzF ?_) | ((first | refine W_reg rfl fun G K hG hK => ?_ | refine W_end rfl fun G K hG hK => ?_); simp (disch := omega) only [go_sem, ↓reduceIte, Nat.reduceEqDiff, hG, a1, a2, a3, v10, v20, v21, v30, v31, v32, v40, v41, v42, v43, e2, e3, e4, l2, l2', l3]; refine hK _ _ ?_; clear hK K hG G))
    have hz : (⟨#[103]⟩ : ByteArray).size = 1 := rfl
    have hw6 : (T.mk 2 0 ⟨#[103]⟩ [t]).wt ≤ 61 + 2 * (j + 1) := by simp only [T.wt, T.wtL, List.length_cons, List.length_nil, hz]; omega
    refine ⟨16 - (j + 1), by omega, j + 1, _, _, _, rfl, by omega, hdr5.ext2 x1, ho6, hf5.cons (Own.lt _ _ _ ho5) hdr5.away.1, plain_app 0 _ _ (fun a ha => (by cases List.mem_singleton.1 ha; exact hp5)), hw6, (by refine ⟨?_, ?_, ?_, ⟨?_, ?_⟩, ?_⟩ <;> ((simp (disch := omega) only [go_sem, ↓reduceIte, Nat.reduceEqDiff, a1, a2, a3, v10, v20, v21, v30, v31, v32, v40, v41, v42, v43, e2, e3, e4, l2, l2', l3]); try rfl))⟩
   ·have c1 : decide ((j : Int) < 16) = false := by simp; omega
    repeat (first | with_reducible (first | refine thenI ?_ | refine thenE ?_ | refine thenR ?_ | refine inBI ?_ | refine inBR ?_ | refine inBS ?_ | refine inBN (by decide) ?_) | refine W_seqS ?_ | refine W_seqC ?_ | refine W_seqB ?_ | refine W_block ?_ | refine W_skip ?_ | (apply W_condB; (case hc => (simp (disch := omega) only [go_sem, ↓reduceIte, Nat.reduceEqDiff, a1, a2, a3, v10, v20, v21, v30, v31, v32, v40, v41, v42, v43, e2, e3, e4, l2, l2', l3, c1]); rfl); first | refine qzT ?_ | refine qzF ?_) | ((first | refine W_reg rfl fun G K hG hK => ?_ | refine W_end rfl fun G K hG hK => ?_); simp (disch := omega) only [go_sem, ↓reduceIte, Nat.reduceEqDiff, hG, a1, a2, a3, v10, v20, v21, v30, v31, v32, v40, v41, v42, v43, e2, e3, e4, l2, l2', l3, c1]; refine hK _ _ ?_; clear hK K hG G))
    refine W_exit ?_; repeat (with_reducible first | refine thenI ?_ | refine thenE ?_ | refine thenR ?_ | refine inBI ?_ | refine inBR ?_ | refine inBS ?_ | refine inBN (by decide) ?_)
    exact ⟨_, _, _, hdr5, ho5, hf5, ⟨hp5.b, by omega⟩, (by refine ⟨?_, ?_, ⟨?_, ?_⟩, ?_⟩ <;> ((simp (disch := omega) only [go_sem, ↓reduceIte, Nat.reduceEqDiff, a1, a2, a3, v10, v20, v21, v30, v31, v32, v40, v41, v42, v43, e2, e3, e4, l2, l2', l3]); try rfl))⟩
  ·have w0 : (y == 0) = false := by simp; omega
   have w1 : (y == 1) = false := by simp; omega
   have w2 : (y == 2) = false := by simp; omega
   have w3 : (y == 3) = false := by simp; omega
   have w4 : (y == 4) = false := by simp; omega
   repeat (first | with_reducible (first | refine thenI ?_ | refine thenE ?_ | refine thenR ?_ | refine inBI ?_ | refine inBR ?_ | refine inBS ?_ | refine inBN (by decide) ?_) | refine W_seqS ?_ | refine W_seqC ?_ | refine W_seqB ?_ | refine W_block ?_ | refine W_skip ?_ | (apply W_condB; (case hc => (simp (disch := omega) only [go_sem, ↓reduceIte, Nat.reduceEqDiff, a1, a2, a3, v10, v20, v21, v30, v31, v32, v40, v41, v42, v43, w0, w1, w2, w3, w4]); rfl); first | refine qzT ?_ | refine qzF ?_) | ((first | refine W_reg rfl fun G K hG hK => ?_ | refine W_end rfl fun G K hG hK => ?_); simp (disch := omega) only [go_sem, ↓reduceIte, Nat.reduceEqDiff, hG, a1, a2, a3, v10, v20, v21, v30, v31, v32, v40, v41, v42, v43, w0, w1, w2, w3, w4]; refine hK _ _ ?_; clear hK K hG G))
   exact ⟨_, _, L, hdr4, ho4, hf0, bent_of hp4, (by refine ⟨?_, ?_, ⟨?_, ?_⟩, ?_⟩ <;> ((simp (disch := omega) only [go_sem, ↓reduceIte, Nat.reduceEqDiff, a1, a2, a3, v10, v20, v21, v30, v31, v32, v40, v41, v42, v43]); try rfl))⟩
 rintro ⟨env, loc⟩ st' ⟨t, ds, L, hdr5, ho5, hf5, hp5, e2, e3, ⟨l2, l2'⟩, l3⟩
 simp only at e2 e3 l2 l2' l3
 obtain ⟨k5, n5, m5, s5, rfl, d1, d2, d3⟩ := ho5.args_cells
 repeat (first | with_reducible (first | refine thenI ?_ | refine thenE ?_ | refine thenR ?_ | refine inBI ?_ | refine inBR ?_ | refine inBS ?_ | refine inBN (by decide) ?_) | refine W_seqS ?_ | refine W_seqC ?_ | refine W_seqB ?_ | refine W_block ?_ | refine W_skip ?_ | (apply W_condB; (case hc => (simp (disch := omega) only [go_sem, ↓reduceIte, Nat.reduceEqDiff, e2, e3, l2, l2', l3, d1, d2, d3]); rfl); first | refine qzT ?_ | refine qzF ?_) | ((first | refine W_reg rfl fun G K hG hK => ?_ | refine W_end rfl fun G K hG hK => ?_); simp (disch := omega) only [go_sem, ↓reduceIte, Nat.reduceEqDiff, hG, e2, e3, l2, l2', l3, d1, d2, d3]; refine hK _ _ ?_; clear hK K hG G))
 refine W_ret ?_; try (repeat (with_reducible first | refine thenI ?_ | refine thenE ?_ | refine thenR ?_ | refine inBI ?_ | refine inBR ?_ | refine inBS ?_ | refine inBN (by decide) ?_))
 refine finC (.inl rfl) (by (simp (disch := omega) only [go_sem, ↓reduceIte, Nat.reduceEqDiff, e2, e3, l2, l2', l3, d1, d2, d3]); try rfl) ⟨hdr5, t, [_, _, _, _], L, rfl, ho5, hf5, hp5⟩

end

end Go.Proofs.Ytdijnohbbgbklaa.AM
/- Terms are totally ordered: the comparison, in plain Lean. -/
namespace Go.Proofs.Ytdijnohbbgbklaa.AM
open Go Go.Proofs
set_option linter.unusedVariables false
set_option linter.unusedSimpArgs false

def ci (a b : Int) : Int := if a < b then -1 else if a > b then 1 else 0
def ct (a b : ByteArray) : Int := if Op.bytesLess a.toList b.toList = true then -1 else if Op.bytesLess b.toList a.toList = true then 1 else 0
end Go.Proofs.Ytdijnohbbgbklaa.AM


namespace Go.Proofs.Ytdijnohbbgbklaa.AM
open Go
attribute [local go_sem] List.map_cons List.map_nil List.all_cons List.all_nil Bool.and_self Option.map_some List.getElem?_toArray Option.bind_some gye_b gye_t gsk_b gsk_t gb1 gb2 gb3 gb4 bne_self_eq_false beq_self_eq_true w_guard w_nil stepV_some step_some step_some' w_move w_assign w_pick w_binOp w_unOp w_load w_fieldAddr w_indexAddr w_len w_max w_index ev_max max_int ev_index w_box w_alloc w_store w_field w_extract w_nilCheck w_convert w_buildSlice w_build ev_buildL fillL_nil fillL_cons bs0 bs1 ev_conv ev_bin ev_un ev_pick ev_load ev_fieldAddr ev_indexAddr ev_len ev_field ev_extract ev_nilCheck fr_tmp fr_int fr_bool fr_str fr_nil fr_func put_some put_none bin_lss bin_leq bin_gtr bin_geq bin_eql bin_neq bin_add bin_sub bin_mul bin_seql bin_sneq un_not pick_ ext_ loadA_p cellAt_l cellAt_h okPtr_l okPtr_h fadA_p allocA_l storeA_l cells_agg cells_int cells_str cells_sl cells_bool flat_i flat_s flat_b flat_sl flat_nil loc_agg loc_int loc_str loc_sl loc_bool loc_fn loc_ptr okv_agg okv_int okv_str okv_sl okv_bool cellsFrom splice upd_eval argEnv_zero argEnv_succ ne_eq Nat.add_one_ne_zero not_false_eq_true List.not_mem_nil and_self decide_true List.getElem?_cons_zero List.getElem?_cons_succ List.size_toArray List.length_cons List.length_nil List.take_succ_cons List.take_zero List.drop_succ_cons List.drop_zero List.cons_append List.nil_append List.drop_nil Bool.not_true Bool.not_false Bool.false_eq_true Nat.zero_add Nat.add_zero wrap_in List.toList_toArray List.mem_cons or_self or_false false_or
attribute [local go_sem] ag103 ag22 ag24 ag25 ag27 ag28 ag3 ag30 ag37 ag5 ag54 ag9 bu27 bu30 bu37 bu54 bu67 by30 by37 by54 by9 el22 el24 el25 el28 el33 el52 of27_0 of27_1 of30_0 of30_1 of30_2 of30_3 of37_0 of37_1 of54_0 of54_1 of54_2 of67_0 of67_1 of67_2 ro3_3 ro3_4 ro30_0 ro30_1 ro30_2 ro37_0 ro37_1 ro37_4 ro54_1 ro54_7 ro9_0 ro9_1 ro9_2 ro9_3 ro9_4 ro9_5 sz103 sz22 sz24 sz25 sz27 sz28 sz3 sz30 sz37 sz5 sz54 sz9 ze103 ze27 ze3 ze30 ze37 ze54 ze9
section
/- Terms are compared: cmp.Compare, cmp.Or, impl.CompareTerms, spec.l3Ints, l3Texts, spec.CompareTerms. -/
open Go Go.Proofs
set_option linter.unusedVariables false
set_option linter.unusedSimpArgs false
set_option maxRecDepth 100000
-- AUTO


end

section
/- Two terms drawn: spec.l3Two, DrawCompareTerms, DrawIsGround; the law FnOrder. -/
open Go Go.Proofs
set_option linter.unusedVariables false
set_option linter.unusedSimpArgs false
set_option maxRecDepth 100000
-- AUTO

theorem Enc.args_cells {st : St} {t : T} {cs : List Value} (h : Enc st t cs) : ∃ k n nm s, cs = [.int .i64 k, .int .i64 n, .string nm, s] ∧ isLoc s = false ∧ okv s = true ∧ vc s = #[s] := by
 obtain ⟨k, n, nm, args⟩ := t
 obtain ⟨s, rfl, hr⟩ := h.open
 exact ⟨k, n, nm, s, rfl, hr.notLoc.1, hr.notLoc.2, Row.cells1 hr⟩
theorem RowY.of_ext {st st' : St} {xs : List Byt} {s : Value} (h : RowY st xs s) (hx : Ext st st') : RowY st' xs s := h.ext hx

end

section
/- Guards: laws.szGuard, toGuard, eqGuard, markGuard, heldGuard. -/
open Go Go.Proofs
set_option linter.unusedVariables false
set_option linter.unusedSimpArgs false
set_option maxRecDepth 100000
-- AUTO

/-- A guard. -/
structure Grd where
 k : Int
 l : T
 r : T
def EncG (st : St) (g : Grd) (cs : List Value) : Prop := ∃ c1 c2, cs = .int .i64 g.k :: (c1 ++ c2) ∧ Enc st g.l c1 ∧ Enc st g.r c2
def OwnG (st : St) (g : Grd) (cs : List Value) (L : List Nat) : Prop := ∃ c1 c2 L1 L2, cs = .int .i64 g.k :: (c1 ++ c2) ∧ OwnT st g.l c1 L1 ∧ OwnT st g.r c2 L2 ∧ L = L1 ++ L2
instance : Wt Grd := ⟨fun g => g.l.wt + g.r.wt⟩
theorem EncG.ext {st st' : St} {g : Grd} {cs : List Value} (h : EncG st g cs) (hx : Ext st st') : EncG st' g cs := by
 obtain ⟨c1, c2, rfl, h1, h2⟩ := h
 exact ⟨c1, c2, rfl, Enc.ext hx _ _ h1, Enc.ext hx _ _ h2⟩
theorem OwnG.enc {st : St} {g : Grd} {cs : List Value} {L : List Nat} (h : OwnG st g cs L) : EncG st g cs := by
 obtain ⟨c1, c2, L1, L2, rfl, h1, h2, rfl⟩ := h
 exact ⟨c1, c2, rfl, h1.enc, h2.enc⟩
theorem OwnG.ext {st st' : St} {g : Grd} {cs : List Value} {L : List Nat} (h : OwnG st g cs L) (hx : Ext st st') : OwnG st' g cs L := by
 obtain ⟨c1, c2, L1, L2, rfl, h1, h2, rfl⟩ := h
 exact ⟨c1, c2, L1, L2, rfl, h1.ext hx, h2.ext hx, rfl⟩
theorem OwnG.lt {st : St} {g : Grd} {cs : List Value} {L : List Nat} (h : OwnG st g cs L) : ∀ i ∈ L, i < st.length := by
 obtain ⟨c1, c2, L1, L2, rfl, h1, h2, rfl⟩ := h
 intro i hi
 rcases List.mem_append.1 hi with hi | hi
 ·exact Own.lt _ _ _ h1 i hi
 ·exact Own.lt _ _ _ h2 i hi
theorem EncG.arg_cells {st : St} {g : Grd} {cs : List Value} (h : EncG st g cs) : ∃ kl nl ml sl kr nr mr sr, cs = [.int .i64 g.k, .int .i64 kl, .int .i64 nl, .string ml, sl, .int .i64 kr, .int .i64 nr, .string mr, sr] ∧ isLoc sl = false ∧ okv sl = true ∧ isLoc sr = false ∧ okv sr = true := by
 obtain ⟨c1, c2, rfl, h1, h2⟩ := h
 obtain ⟨gk, ⟨kl, nl, ml, al⟩, ⟨kr, nr, mr, ar⟩⟩ := g
 obtain ⟨sl, rfl, hl⟩ := h1.open
 obtain ⟨sr, rfl, hr⟩ := h2.open
 exact ⟨kl, nl, ml, sl, kr, nr, mr, sr, rfl, hl.notLoc.1, hl.notLoc.2, hr.notLoc.1, hr.notLoc.2⟩
theorem OwnG.args_cells {st : St} {g : Grd} {cs : List Value} {L : List Nat} (h : OwnG st g cs L) : ∃ k kl nl ml sl kr nr mr sr, cs = [.int .i64 k, .int .i64 kl, .int .i64 nl, .string ml, sl, .int .i64 kr, .int .i64 nr, .string mr, sr] ∧ okv sl = true ∧ isLoc sl = false ∧ vc sl = #[sl] ∧ okv sr = true ∧ isLoc sr = false ∧ vc sr = #[sr] := by
 obtain ⟨c1, c2, L1, L2, rfl, h1, h2, rfl⟩ := h
 obtain ⟨kl, nl, ml, sl, rfl, a1, a2, a3⟩ := h1.args_cells
 obtain ⟨kr, nr, mr, sr, rfl, b1, b2, b3⟩ := h2.args_cells
 exact ⟨_, kl, nl, ml, sl, kr, nr, mr, sr, rfl, a1, a2, a3, b1, b2, b3⟩
/-- A guard's cells, and what of it they are. -/
theorem EncG.cells {st : St} {g : Grd} {cs : List Value} (h : EncG st g cs) : ∃ kl nl ml sl kr nr mr sr, cs = [.int .i64 g.k, .int .i64 kl, .int .i64 nl, .string ml, sl, .int .i64 kr, .int .i64 nr, .string mr, sr] ∧ Enc st g.l [.int .i64 kl, .int .i64 nl, .string ml, sl] ∧ Enc st g.r [.int .i64 kr, .int .i64 nr, .string mr, sr] ∧ isLoc sl = false ∧ okv sl = true ∧ isLoc sr = false ∧ okv sr = true := by
 obtain ⟨c1, c2, rfl, h1, h2⟩ := h
 obtain ⟨gk, ⟨kl, nl, ml, al⟩, ⟨kr, nr, mr, ar⟩⟩ := g
 obtain ⟨sl, rfl, hl⟩ := h1.open
 obtain ⟨sr, rfl, hr⟩ := h2.open
 exact ⟨kl, nl, ml, sl, kr, nr, mr, sr, rfl, h1, h2, hl.notLoc.1, hl.notLoc.2, hr.notLoc.1, hr.notLoc.2⟩


end

end Go.Proofs.Ytdijnohbbgbklaa.AM