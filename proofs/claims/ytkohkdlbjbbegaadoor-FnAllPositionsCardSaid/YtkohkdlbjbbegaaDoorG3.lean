/- My texts for the law, laid together (part 3): C9 C9b O8 S1 PL4 O3 O4 F15 PLN DR1 F1 F2 PL7. -/
import Derived.Test.YtkohkdlbjbbegaaDoorG2
import Derived.Lib.Strings
import Derived.Lib.AtoiTie
import Derived.Lib.ItoaMem
import Derived.Lib.ItoaLen
import Derived.Test.YtkohkdlbjbbegaaDoorShelf
import Derived.Lib.AppendIntMem
import Derived.Lib.Join
/- Positions: impl.positionsFrom, impl.PositionsOf, spec.l4Walk, spec.PositionsOf. -/
namespace Go.Proofs.YtkohkdlbjbbegaaDoor.AM
open Go Go.Proofs
set_option linter.unusedVariables false
set_option linter.unusedSimpArgs false
set_option maxRecDepth 100000
attribute [local go_sem] List.map_cons List.map_nil List.all_cons List.all_nil Bool.and_self Option.map_some List.getElem?_toArray Option.bind_some gye_b gye_t gsk_b gsk_t gb1 gb2 gb3 gb4 bne_self_eq_false beq_self_eq_true w_guard w_nil stepV_some step_some step_some' w_move w_assign w_pick w_binOp w_unOp w_load w_fieldAddr w_indexAddr w_len w_max w_index ev_max max_int ev_index w_box w_alloc w_store w_field w_extract w_nilCheck w_convert w_buildSlice w_build ev_buildL fillL_nil fillL_cons bs0 bs1 ev_conv ev_bin ev_un ev_pick ev_load ev_fieldAddr ev_indexAddr ev_len ev_field ev_extract ev_nilCheck fr_tmp fr_int fr_bool fr_str fr_nil fr_func put_some put_none bin_lss bin_leq bin_gtr bin_geq bin_eql bin_neq bin_add bin_sub bin_mul bin_seql bin_sneq un_not pick_ ext_ loadA_p cellAt_l cellAt_h okPtr_l okPtr_h fadA_p allocA_l storeA_l cells_agg cells_int cells_str cells_sl cells_bool flat_i flat_s flat_b flat_sl flat_nil loc_agg loc_int loc_str loc_sl loc_bool loc_fn loc_ptr okv_agg okv_int okv_str okv_sl okv_bool cellsFrom splice upd_eval argEnv_zero argEnv_succ ne_eq Nat.add_one_ne_zero not_false_eq_true List.not_mem_nil and_self decide_true List.getElem?_cons_zero List.getElem?_cons_succ List.size_toArray List.length_cons List.length_nil List.take_succ_cons List.take_zero List.drop_succ_cons List.drop_zero List.cons_append List.nil_append List.drop_nil Bool.not_true Bool.not_false Bool.false_eq_true Nat.zero_add Nat.add_zero wrap_in List.toList_toArray List.mem_cons or_self or_false false_or
attribute [local go_sem] ag22 ag24 ag26 ag3 ag33 ag5 ag62 ag76 ag9 bu26 bu56 by26 by3 by33 by5 by9 el22 el24 el28 el33 el44 of26_0 of26_1 of26_2 of26_3 of56_0 of56_1 of56_2 of64_0 of64_1 ro26_0 ro26_1 ro26_2 ro3_0 ro3_1 ro3_3 ro33_0 ro33_1 ro5_0 ro5_1 ro9_0 ro9_1 ro9_2 ro9_3 ro9_4 sz22 sz24 sz26 sz3 sz33 sz5 sz62 sz76 sz9 ze26 ze3 ze33 ze5 ze64 ze75 ze88 ze9
-- AUTO

mutual
def T.pos : T → List Int → List (List Int)
  | .mk _ _ _ args, p => p :: T.posL args p 0
def T.posL : List T → List Int → Nat → List (List Int)
  | [], _, _ => []
  | x :: xs, p, i => T.pos x (p ++ [(i : Int)]) ++ T.posL xs p (i + 1)
end
theorem T.posL_snoc (xs : List T) (x : T) (p : List Int) (i : Nat) : T.posL (xs ++ [x]) p i = T.posL xs p i ++ T.pos x (p ++ [((i + xs.length : Nat) : Int)]) := by
  induction xs generalizing i with
  | nil => simp [T.posL]
  | cons y ys ih =>
    simp only [List.cons_append, T.posL, ih, List.length_cons]
    rw [show i + 1 + ys.length = i + (ys.length + 1) by omega, List.append_assoc]
theorem T.pos_len : ∀ (t : T) (p : List Int), (t.pos p).length ≤ t.wt + 1 := by
  refine T.ind fun k n nm args ih p => ?_
  have h : ∀ (l : List T), (∀ a ∈ l, ∀ p, (a.pos p).length ≤ a.wt + 1) → ∀ i, (T.posL l p i).length ≤ T.wtL l + l.length := by
    intro l
    induction l with
    | nil => intro _ i; simp [T.posL]
    | cons x xs ihx =>
      intro h i
      have h1 := h x (by simp) (p ++ [(i : Int)])
      have h2 := ihx (fun a ha => h a (by simp [ha])) (i + 1)
      simp only [T.posL, List.length_append, T.wtL, List.length_cons]
      omega
  have := h args ih 0
  simp only [T.pos, List.length_cons, T.wt]
  omega
theorem T.posL_len (xs : List T) (p : List Int) (i : Nat) : (T.posL xs p i).length ≤ T.wtL xs + xs.length := by
  induction xs generalizing i with
  | nil => simp [T.posL]
  | cons x xs ih =>
    have h1 := T.pos_len x (p ++ [(i : Int)])
    have h2 := ih (i + 1)
    simp only [T.posL, List.length_append, T.wtL, List.length_cons]
    omega
theorem T.pos_each : ∀ (t : T) (p : List Int), ∀ q ∈ t.pos p, q.length ≤ p.length + t.wt := by
  refine T.ind fun k n nm args ih p q hq => ?_
  have h : ∀ (l : List T), (∀ a ∈ l, ∀ p, ∀ q ∈ a.pos p, q.length ≤ p.length + a.wt) → ∀ i, ∀ q ∈ T.posL l p i, q.length ≤ p.length + 1 + T.wtL l := by
    intro l
    induction l with
    | nil => intro _ i q hq; simp [T.posL] at hq
    | cons x xs ihx =>
      intro h i q hq
      simp only [T.posL, List.mem_append] at hq
      simp only [T.wtL]
      rcases hq with hq | hq
      · have := h x (by simp) _ q hq
        simp at this
        omega
      · have := ihx (fun a ha => h a (by simp [ha])) (i + 1) q hq
        omega
  simp only [T.pos, List.mem_cons] at hq
  simp only [T.wt]
  rcases hq with rfl | hq
  · omega
  · have := h args ih 0 q hq
    cases args with
    | nil => simp [T.posL] at hq
    | cons a tl => simp only [List.length_cons]; omega
theorem rw_one {st : St} {i c : Nat} {n : Int} {e : TypeId} (h : st[i]? = some ⟨[.int .i64 n], e, 0⟩) : Rw st [n] (.slice (some ⟨i, 0, none⟩) 1 c) := .inr ⟨i, 0, c, rfl, fun j x hx => by
  have hj : j = 0 := by have := (List.getElem?_eq_some_iff.1 hx).1; simp at this; omega
  subst hj
  obtain rfl : n = x := by simpa using hx
  refine ⟨[.int .i64 n], rfl, rfl, fun q v hq => ?_⟩
  have hq0 : q = 0 := by have := (List.getElem?_eq_some_iff.1 hq).1; simp at this; omega
  subst hq0
  rw [cell_of h]
  simpa using hq⟩

theorem implPos_ok : ∀ (t : T) (p : List Int) (st : St) (cs : List Value) (sp : Value) (L : List Nat) (n0 : Nat), p.length + t.wt ≤ 1073741824 → Enc st t cs → Sl st p sp L → Fresh n0 L → n0 ≤ st.length →
    CallS Tryd.prog 16 [.agg cs.toArray, sp] st fun r st2 => Ext st st2 ∧ ∃ L2, Sl st2 (t.pos p) r L2 ∧ Fresh n0 L2 := by
  refine T.ind fun k n nm args ih p st cs sp L n0 hB hE hp hf hn0 => ?_
  obtain ⟨s, rfl, hr⟩ := hE.open
  refine CallS_of_W [] 29 Tryd.func16 rfl rfl rfl rfl (by simp) ?_
  have hlen : lenE Tryd.prog 24 s = some (.int .i64 args.length) := row_len hr Tryd.underlying24
  have hwt : (T.mk k n nm args).wt = nm.size + args.length + T.wtL args := by simp only [T.wt]
  have n1 := hr.notLoc.1
  have n2 := hr.notLoc.2
  have m1 := hp.loc
  have m2 := hp.okv
  have m3 := hp.cells
  have hown0 : Kind.own (α := List Int) (st ++ [⟨[sp], 33, 0⟩]) p [sp] L := ⟨sp, rfl, hp.ext (Ext.app _ _)⟩
  have hbeg : Sl (st ++ [⟨[sp], 33, 0⟩]) [p] (.slice (some ⟨st.length, 0, none⟩) 1 1) (st.length :: L) := .inr ⟨st.length, 1, [sp], L, rfl, by simp; rfl, RowO.one hown0, rfl⟩
  have hfb : Fresh n0 (st.length :: L) := ⟨List.nodup_cons.2 ⟨fun hm => by have := hp.lt _ hm; omega, hf.1⟩, fun i hi => by
    rcases List.mem_cons.1 hi with rfl | hi
    · exact hn0
    · exact hf.2 i hi⟩
  repeat (first | (refine W_reg rfl fun G K hG hK => ?_; simp (disch := omega) only [go_sem, ↓reduceIte, Nat.reduceEqDiff, Nat.reduceAdd, Nat.reduceLeDiff, hG, m1, m2, m3, hlen]; refine hK _ _ ?_; clear hK K hG G) | (refine W_end rfl fun G K hG hK => ?_; simp (disch := omega) only [go_sem, ↓reduceIte, Nat.reduceEqDiff, Nat.reduceAdd, Nat.reduceLeDiff, hG, m1, m2, m3, hlen]; refine hK _ _ ?_; clear hK K hG G; repeat (first | refine thenI ?_ | refine thenE ?_ | refine thenR ?_ | refine inBI ?_ | refine inBR ?_ | refine inBS ?_ | refine inBN (by decide) ?_)) | refine W_seqS ?_ | refine W_seqC ?_ | refine W_seqB ?_ | refine W_block ?_ | (refine W_skip ?_; repeat (first | refine thenI ?_ | refine thenE ?_ | refine thenR ?_ | refine inBI ?_ | refine inBR ?_ | refine inBS ?_ | refine inBN (by decide) ?_)) | (refine W_condT ?hc ?_; (case hc => (simp (disch := omega) only [go_sem, ↓reduceIte, Nat.reduceEqDiff, Nat.reduceAdd, Nat.reduceLeDiff, m1, m2, m3, hlen]; done))) | (refine W_condF ?hc ?_; (case hc => (simp (disch := omega) only [go_sem, ↓reduceIte, Nat.reduceEqDiff, Nat.reduceAdd, Nat.reduceLeDiff, m1, m2, m3, hlen]; done))))
  refine W_loop (fun d fr st' => ∃ (j : Nat) (r : Value) (L1 : List Nat), d = args.length - j ∧ j ≤ args.length ∧ (Ext st st') ∧ (Sl st' (p :: T.posL (args.take j) p 0) r L1) ∧ (Fresh n0 L1) ∧ (topId r = none ∨ ∃ m, st.length ≤ m ∧ topId r = some m) ∧ (fr.env 1 = sp) ∧ (fr.env 5 = r) ∧ (fr.env 11 = s) ∧ (fr.env 12 = .int .i64 args.length) ∧ (fr.env 13 = .int .i64 j)) (args.length) ?_ ?_
  · exact ⟨0, _, _, by omega, by omega, Ext.app _ _, hbeg, hfb, .inr ⟨st.length, Nat.le_refl _, rfl⟩, (by (simp (disch := omega) only [go_sem, ↓reduceIte, Nat.reduceEqDiff, Nat.reduceAdd, Nat.reduceLeDiff]); try rfl), (by (simp (disch := omega) only [go_sem, ↓reduceIte, Nat.reduceEqDiff, Nat.reduceAdd, Nat.reduceLeDiff]); try rfl), (by (simp (disch := omega) only [go_sem, ↓reduceIte, Nat.reduceEqDiff, Nat.reduceAdd, Nat.reduceLeDiff]); try rfl), (by (simp (disch := omega) only [go_sem, ↓reduceIte, Nat.reduceEqDiff, Nat.reduceAdd, Nat.reduceLeDiff]); try rfl), (by (simp (disch := omega) only [go_sem, ↓reduceIte, Nat.reduceEqDiff, Nat.reduceAdd, Nat.reduceLeDiff]); try rfl)⟩
  rintro d ⟨env, loc⟩ st' ⟨j, r, L1, hd, hj, hext, hown, hfr, htop, e1, e5, e11, e12, e13⟩
  simp only at e1 e5 e11 e12 e13
  by_cases hlt : j < args.length
  · have c1 : decide ((j : Int) < (args.length : Int)) = true := by simpa using hlt
    have hi := idxOk hlt
    have hx : args[j]? = some args[j] := List.getElem?_eq_getElem hlt
    have htk : args.take (j + 1) = args.take j ++ [args[j]] := List.take_succ_eq_append_getElem hlt
    obtain ⟨i, o, c, cs, rfl, hcl, hE', hcs⟩ := row_at hr hx
    have hE2 := Enc.ext hext _ _ hE'
    have hwx := T.wtL_drop hx
    have hwd : T.wtL (args.drop j) ≤ T.wtL args := by
      have := T.wtL_take args j; omega
    have ihx := ih args[j] (List.getElem_mem hlt)
    have hpl := T.pos_len args[j] (p ++ [(j : Int)])
    have hal := T.posL_len (args.take j) p 0
    have htw := T.wtL_take args j
    have htl : (args.take j).length = j := by simp; omega
    obtain ⟨v0, v1, v2, v3, rfl⟩ : ∃ v0 v1 v2 v3, cs = [v0, v1, v2, v3] := by
      match cs, hcl with
      | [v0, v1, v2, v3], _ => exact ⟨v0, v1, v2, v3, rfl⟩
    have hld := fun loc => load_row (A := []) (loc := loc) ag26 sz26 hcl (hcs.ext hext)
    have hpx := hp.row.ext hext
    have o1 := hown.okv
    have o2 := hown.loc
    have o3 := hown.cells
    have hnext : T.posL (args.take (j + 1)) p 0 = T.posL (args.take j) p 0 ++ T.pos args[j] (p ++ [(j : Int)]) := by rw [htk, T.posL_snoc, htl, Nat.zero_add]
    have hl0 := hext.length
    repeat (first | (refine W_reg rfl fun G K hG hK => ?_; simp (disch := omega) only [go_sem, ↓reduceIte, Nat.reduceEqDiff, Nat.reduceAdd, Nat.reduceLeDiff, hG, e1, e5, e11, e12, e13, c1, hi, idxA, Int.toNat_natCast, m1, o2, hld]; refine hK _ _ ?_; clear hK K hG G) | (refine W_end rfl fun G K hG hK => ?_; simp (disch := omega) only [go_sem, ↓reduceIte, Nat.reduceEqDiff, Nat.reduceAdd, Nat.reduceLeDiff, hG, e1, e5, e11, e12, e13, c1, hi, idxA, Int.toNat_natCast, m1, o2, hld]; refine hK _ _ ?_; clear hK K hG G; repeat (first | refine thenI ?_ | refine thenE ?_ | refine thenR ?_ | refine inBI ?_ | refine inBR ?_ | refine inBS ?_ | refine inBN (by decide) ?_)) | refine W_seqS ?_ | refine W_seqC ?_ | refine W_seqB ?_ | refine W_block ?_ | (refine W_skip ?_; repeat (first | refine thenI ?_ | refine thenE ?_ | refine thenR ?_ | refine inBI ?_ | refine inBR ?_ | refine inBS ?_ | refine inBN (by decide) ?_)) | (refine W_condT ?hc ?_; (case hc => (simp (disch := omega) only [go_sem, ↓reduceIte, Nat.reduceEqDiff, Nat.reduceAdd, Nat.reduceLeDiff, e1, e5, e11, e12, e13, c1, hi, idxA, Int.toNat_natCast, m1, o2, hld]; done))) | (refine W_condF ?hc ?_; (case hc => (simp (disch := omega) only [go_sem, ↓reduceIte, Nat.reduceEqDiff, Nat.reduceAdd, Nat.reduceLeDiff, e1, e5, e11, e12, e13, c1, hi, idxA, Int.toNat_natCast, m1, o2, hld]; done))))
    refine W_endL mixed [7] [] [3, 5, 7] [[(0, false), (1, false), (2, false), (4, false), (3, true), (5, false), (6, false), (7, true), (8, false), (9, false)], [(0, false), (1, false), (2, false), (4, false), (5, false), (3, true), (6, false), (7, true), (8, false), (9, false)]] rfl (by decide +kernel) (by intro t ht; simp only [List.mem_cons, List.not_mem_nil, or_false] at ht; (rcases ht with rfl) <;> (first | rfl | (simp only [e1, e5, e11, e12, e13, c1, hi, idxA, Int.toNat_natCast, m1, o2]; done) | (simp only [e1, e5, e11, e12, e13, c1, hi, idxA, Int.toNat_natCast, m1, o2]; rfl))) fun G K hG hK => (fm_cons ?_ (fm_cons ?_ fm_nil))
    · simp only [pickOps, List.filterMap_cons, List.filterMap_nil, List.getElem?_cons_zero, List.getElem?_cons_succ, Option.map_some]; simp (disch := omega) only [go_sem, ↓reduceIte, Nat.reduceEqDiff, Nat.reduceAdd, Nat.reduceLeDiff, hG, e1, e5, e11, e12, e13, c1, hi, idxA, Int.toNat_natCast, m1, o2]
      refine w_call (cloneI_ok p st' sp (by omega) hpx) (by simp (disch := omega) only [go_sem, ↓reduceIte, Nat.reduceEqDiff, e1, e5, e11, e12, e13, c1, hi, idxA, Int.toNat_natCast, m1, o2]) ?hl ?_
      case hl => first | rfl | (simp only [go_sem, List.all_cons, List.all_nil, Bool.not_false, Bool.and_self, e1, e5, e11, e12, e13, c1, hi, idxA, Int.toNat_natCast, m1, o2]; done)
      rintro va sa ⟨x1, L3, hs3, hf3⟩; refine ⟨fun e => x1, ?_⟩
      have a1 := hs3.loc
      have hb1 : (sa ++ [(⟨[.int .i64 j], 3, 0⟩ : Blk)])[sa.length]? = some ⟨[.int .i64 j], 3, 0⟩ := by simp
      obtain ⟨s4, sb, L4, hap4, hs4, hf4, hg4⟩ := Sl.appRow (ys := [(j : Int)]) (t := 33) (u := 33) Tryd.underlying33 Tryd.underlying33 sz3 rfl by3 ze3 rfl hs3 hf3 x1.length (Ext.app sa [(⟨[.int .i64 j], 3, 0⟩ : Blk)]) (rw_one (c := 1) hb1) (by simp; omega) (by simp; omega)
      have x4 : Ext st' sb := hg4.away.ext_of (x1.trans (Ext.app _ _)) (hs3.top hf3)
      have a4 := hs4.loc
      simp (disch := omega) only [go_sem, ↓reduceIte, Nat.reduceEqDiff, Nat.reduceAdd, Nat.reduceLeDiff, e1, e5, e11, e12, e13, c1, hi, idxA, Int.toNat_natCast, m1, o2, w_append, hap4]
      refine w_call (ihx (p ++ [(j : Int)]) sb _ s4 L4 st'.length (by simp; omega) (Enc.ext x4 _ _ hE2) hs4 hf4 x4.length) (by simp (disch := omega) only [go_sem, ↓reduceIte, Nat.reduceEqDiff, e1, e5, e11, e12, e13, c1, hi, idxA, Int.toNat_natCast, m1, o2, a4]) ?hl ?_
      case hl => first | rfl | (simp only [go_sem, List.all_cons, List.all_nil, Bool.not_false, Bool.and_self, e1, e5, e11, e12, e13, c1, hi, idxA, Int.toNat_natCast, m1, o2, a4]; done)
      rintro vc_ sc ⟨x5, L5, hs5, hf5⟩; refine ⟨fun e => x5, ?_⟩
      have a5 := hs5.loc
      obtain ⟨s6, sd, L6, hap6, hs6, hf6, hg6⟩ := Sl.join (t := 28) (u := 28) Tryd.underlying28 Tryd.underlying28 sz33 rfl by33 ze33 rfl hown hfr (by omega) (x4.trans x5) hs5 hf5 (by simp; omega) (by simp; omega)
      have a6 := hs6.loc
      simp (disch := omega) only [go_sem, ↓reduceIte, Nat.reduceEqDiff, Nat.reduceAdd, Nat.reduceLeDiff, hG, e1, e5, e11, e12, e13, c1, hi, idxA, Int.toNat_natCast, m1, o2, w_append, hap6]; refine hK _ _ ?_; clear hK K hG G; repeat (first | refine thenI ?_ | refine thenE ?_ | refine thenR ?_ | refine inBI ?_ | refine inBR ?_ | refine inBS ?_ | refine inBN (by decide) ?_)
      repeat (first | (refine W_reg rfl fun G K hG hK => ?_; simp (disch := omega) only [go_sem, ↓reduceIte, Nat.reduceEqDiff, Nat.reduceAdd, Nat.reduceLeDiff, hG, e1, e5, e11, e12, e13, c1, hi, idxA, Int.toNat_natCast, m1, o2]; refine hK _ _ ?_; clear hK K hG G) | (refine W_end rfl fun G K hG hK => ?_; simp (disch := omega) only [go_sem, ↓reduceIte, Nat.reduceEqDiff, Nat.reduceAdd, Nat.reduceLeDiff, hG, e1, e5, e11, e12, e13, c1, hi, idxA, Int.toNat_natCast, m1, o2]; refine hK _ _ ?_; clear hK K hG G; repeat (first | refine thenI ?_ | refine thenE ?_ | refine thenR ?_ | refine inBI ?_ | refine inBR ?_ | refine inBS ?_ | refine inBN (by decide) ?_)) | refine W_seqS ?_ | refine W_seqC ?_ | refine W_seqB ?_ | refine W_block ?_ | (refine W_skip ?_; repeat (first | refine thenI ?_ | refine thenE ?_ | refine thenR ?_ | refine inBI ?_ | refine inBR ?_ | refine inBS ?_ | refine inBN (by decide) ?_)) | (refine W_condT ?hc ?_; (case hc => (simp (disch := omega) only [go_sem, ↓reduceIte, Nat.reduceEqDiff, Nat.reduceAdd, Nat.reduceLeDiff, e1, e5, e11, e12, e13, c1, hi, idxA, Int.toNat_natCast, m1, o2]; done))) | (refine W_condF ?hc ?_; (case hc => (simp (disch := omega) only [go_sem, ↓reduceIte, Nat.reduceEqDiff, Nat.reduceAdd, Nat.reduceLeDiff, e1, e5, e11, e12, e13, c1, hi, idxA, Int.toNat_natCast, m1, o2]; done))))
      refine ⟨args.length - (j + 1), by omega, j + 1, s6, L6, rfl, by omega, hg6.away.ext_of hext htop, by rw [hnext]; exact hs6, hf6, hg6.topOk htop (by omega), (by (simp (disch := omega) only [go_sem, ↓reduceIte, Nat.reduceEqDiff, Nat.reduceAdd, Nat.reduceLeDiff, e1, e5, e11, e12, e13, c1, hi, idxA, Int.toNat_natCast, m1, o2]); try rfl), (by (simp (disch := omega) only [go_sem, ↓reduceIte, Nat.reduceEqDiff, Nat.reduceAdd, Nat.reduceLeDiff, e1, e5, e11, e12, e13, c1, hi, idxA, Int.toNat_natCast, m1, o2]); try rfl), (by (simp (disch := omega) only [go_sem, ↓reduceIte, Nat.reduceEqDiff, Nat.reduceAdd, Nat.reduceLeDiff, e1, e5, e11, e12, e13, c1, hi, idxA, Int.toNat_natCast, m1, o2]); try rfl), (by (simp (disch := omega) only [go_sem, ↓reduceIte, Nat.reduceEqDiff, Nat.reduceAdd, Nat.reduceLeDiff, e1, e5, e11, e12, e13, c1, hi, idxA, Int.toNat_natCast, m1, o2]); try rfl), (by (simp (disch := omega) only [go_sem, ↓reduceIte, Nat.reduceEqDiff, Nat.reduceAdd, Nat.reduceLeDiff, e1, e5, e11, e12, e13, c1, hi, idxA, Int.toNat_natCast, m1, o2]); try rfl)⟩
    · simp only [pickOps, List.filterMap_cons, List.filterMap_nil, List.getElem?_cons_zero, List.getElem?_cons_succ, Option.map_some]; simp (disch := omega) only [go_sem, ↓reduceIte, Nat.reduceEqDiff, Nat.reduceAdd, Nat.reduceLeDiff, hG, e1, e5, e11, e12, e13, c1, hi, idxA, Int.toNat_natCast, m1, o2]
      have x0 : Ext st' (st' ++ [(⟨[.int .i64 j], 3, 0⟩ : Blk)]) := Ext.app _ _
      refine w_call (cloneI_ok p _ sp (by omega) (hpx.ext x0)) (by simp (disch := omega) only [go_sem, ↓reduceIte, Nat.reduceEqDiff, e1, e5, e11, e12, e13, c1, hi, idxA, Int.toNat_natCast, m1, o2]) ?hl ?_
      case hl => first | rfl | (simp only [go_sem, List.all_cons, List.all_nil, Bool.not_false, Bool.and_self, e1, e5, e11, e12, e13, c1, hi, idxA, Int.toNat_natCast, m1, o2]; done)
      rintro va sa ⟨x1, L3, hs3, hf3⟩; refine ⟨fun e => x1, ?_⟩
      have a1 := hs3.loc
      have x1' := x0.trans x1
      have hf3' : Fresh st'.length L3 := hf3.mono (by simp)
      have hb1 : sa[st'.length]? = some ⟨[.int .i64 j], 3, 0⟩ := by rw [x1.get (by simp)]; simp
      obtain ⟨s4, sb, L4, hap4, hs4, hf4, hg4⟩ := Sl.appRow (ys := [(j : Int)]) (t := 33) (u := 33) Tryd.underlying33 Tryd.underlying33 sz3 rfl by3 ze3 rfl hs3 hf3' x1'.length (Ext.refl sa) (rw_one (c := 1) hb1) (by simp; omega) (by simp; omega)
      have x4 : Ext st' sb := hg4.away.ext_of x1' (hs3.top hf3')
      have a4 := hs4.loc
      simp (disch := omega) only [go_sem, ↓reduceIte, Nat.reduceEqDiff, Nat.reduceAdd, Nat.reduceLeDiff, e1, e5, e11, e12, e13, c1, hi, idxA, Int.toNat_natCast, m1, o2, w_append, hap4]
      refine w_call (ihx (p ++ [(j : Int)]) sb _ s4 L4 st'.length (by simp; omega) (Enc.ext x4 _ _ hE2) hs4 hf4 x4.length) (by simp (disch := omega) only [go_sem, ↓reduceIte, Nat.reduceEqDiff, e1, e5, e11, e12, e13, c1, hi, idxA, Int.toNat_natCast, m1, o2, a4]) ?hl ?_
      case hl => first | rfl | (simp only [go_sem, List.all_cons, List.all_nil, Bool.not_false, Bool.and_self, e1, e5, e11, e12, e13, c1, hi, idxA, Int.toNat_natCast, m1, o2, a4]; done)
      rintro vc_ sc ⟨x5, L5, hs5, hf5⟩; refine ⟨fun e => x5, ?_⟩
      have a5 := hs5.loc
      obtain ⟨s6, sd, L6, hap6, hs6, hf6, hg6⟩ := Sl.join (t := 28) (u := 28) Tryd.underlying28 Tryd.underlying28 sz33 rfl by33 ze33 rfl hown hfr (by omega) (x4.trans x5) hs5 hf5 (by simp; omega) (by simp; omega)
      have a6 := hs6.loc
      simp (disch := omega) only [go_sem, ↓reduceIte, Nat.reduceEqDiff, Nat.reduceAdd, Nat.reduceLeDiff, hG, e1, e5, e11, e12, e13, c1, hi, idxA, Int.toNat_natCast, m1, o2, w_append, hap6]; refine hK _ _ ?_; clear hK K hG G; repeat (first | refine thenI ?_ | refine thenE ?_ | refine thenR ?_ | refine inBI ?_ | refine inBR ?_ | refine inBS ?_ | refine inBN (by decide) ?_)
      repeat (first | (refine W_reg rfl fun G K hG hK => ?_; simp (disch := omega) only [go_sem, ↓reduceIte, Nat.reduceEqDiff, Nat.reduceAdd, Nat.reduceLeDiff, hG, e1, e5, e11, e12, e13, c1, hi, idxA, Int.toNat_natCast, m1, o2]; refine hK _ _ ?_; clear hK K hG G) | (refine W_end rfl fun G K hG hK => ?_; simp (disch := omega) only [go_sem, ↓reduceIte, Nat.reduceEqDiff, Nat.reduceAdd, Nat.reduceLeDiff, hG, e1, e5, e11, e12, e13, c1, hi, idxA, Int.toNat_natCast, m1, o2]; refine hK _ _ ?_; clear hK K hG G; repeat (first | refine thenI ?_ | refine thenE ?_ | refine thenR ?_ | refine inBI ?_ | refine inBR ?_ | refine inBS ?_ | refine inBN (by decide) ?_)) | refine W_seqS ?_ | refine W_seqC ?_ | refine W_seqB ?_ | refine W_block ?_ | (refine W_skip ?_; repeat (first | refine thenI ?_ | refine thenE ?_ | refine thenR ?_ | refine inBI ?_ | refine inBR ?_ | refine inBS ?_ | refine inBN (by decide) ?_)) | (refine W_condT ?hc ?_; (case hc => (simp (disch := omega) only [go_sem, ↓reduceIte, Nat.reduceEqDiff, Nat.reduceAdd, Nat.reduceLeDiff, e1, e5, e11, e12, e13, c1, hi, idxA, Int.toNat_natCast, m1, o2]; done))) | (refine W_condF ?hc ?_; (case hc => (simp (disch := omega) only [go_sem, ↓reduceIte, Nat.reduceEqDiff, Nat.reduceAdd, Nat.reduceLeDiff, e1, e5, e11, e12, e13, c1, hi, idxA, Int.toNat_natCast, m1, o2]; done))))
      refine ⟨args.length - (j + 1), by omega, j + 1, s6, L6, rfl, by omega, hg6.away.ext_of hext htop, by rw [hnext]; exact hs6, hf6, hg6.topOk htop (by omega), (by (simp (disch := omega) only [go_sem, ↓reduceIte, Nat.reduceEqDiff, Nat.reduceAdd, Nat.reduceLeDiff, e1, e5, e11, e12, e13, c1, hi, idxA, Int.toNat_natCast, m1, o2]); try rfl), (by (simp (disch := omega) only [go_sem, ↓reduceIte, Nat.reduceEqDiff, Nat.reduceAdd, Nat.reduceLeDiff, e1, e5, e11, e12, e13, c1, hi, idxA, Int.toNat_natCast, m1, o2]); try rfl), (by (simp (disch := omega) only [go_sem, ↓reduceIte, Nat.reduceEqDiff, Nat.reduceAdd, Nat.reduceLeDiff, e1, e5, e11, e12, e13, c1, hi, idxA, Int.toNat_natCast, m1, o2]); try rfl), (by (simp (disch := omega) only [go_sem, ↓reduceIte, Nat.reduceEqDiff, Nat.reduceAdd, Nat.reduceLeDiff, e1, e5, e11, e12, e13, c1, hi, idxA, Int.toNat_natCast, m1, o2]); try rfl), (by (simp (disch := omega) only [go_sem, ↓reduceIte, Nat.reduceEqDiff, Nat.reduceAdd, Nat.reduceLeDiff, e1, e5, e11, e12, e13, c1, hi, idxA, Int.toNat_natCast, m1, o2]); try rfl)⟩
  · have c1 : decide ((j : Int) < (args.length : Int)) = false := by simpa using hlt
    have hjn : j = args.length := by omega
    subst hjn
    rw [List.take_length] at hown
    have o2 := hown.loc
    repeat (first | (refine W_reg rfl fun G K hG hK => ?_; simp (disch := omega) only [go_sem, ↓reduceIte, Nat.reduceEqDiff, Nat.reduceAdd, Nat.reduceLeDiff, hG, e1, e5, e11, e12, e13, c1]; refine hK _ _ ?_; clear hK K hG G) | (refine W_end rfl fun G K hG hK => ?_; simp (disch := omega) only [go_sem, ↓reduceIte, Nat.reduceEqDiff, Nat.reduceAdd, Nat.reduceLeDiff, hG, e1, e5, e11, e12, e13, c1]; refine hK _ _ ?_; clear hK K hG G; repeat (first | refine thenI ?_ | refine thenE ?_ | refine thenR ?_ | refine inBI ?_ | refine inBR ?_ | refine inBS ?_ | refine inBN (by decide) ?_)) | refine W_seqS ?_ | refine W_seqC ?_ | refine W_seqB ?_ | refine W_block ?_ | (refine W_skip ?_; repeat (first | refine thenI ?_ | refine thenE ?_ | refine thenR ?_ | refine inBI ?_ | refine inBR ?_ | refine inBS ?_ | refine inBN (by decide) ?_)) | (refine W_condT ?hc ?_; (case hc => (simp (disch := omega) only [go_sem, ↓reduceIte, Nat.reduceEqDiff, Nat.reduceAdd, Nat.reduceLeDiff, e1, e5, e11, e12, e13, c1]; done))) | (refine W_condF ?hc ?_; (case hc => (simp (disch := omega) only [go_sem, ↓reduceIte, Nat.reduceEqDiff, Nat.reduceAdd, Nat.reduceLeDiff, e1, e5, e11, e12, e13, c1]; done))))
    refine W_exit ?_; repeat (first | refine thenI ?_ | refine thenE ?_ | refine thenR ?_ | refine inBI ?_ | refine inBR ?_ | refine inBS ?_ | refine inBN (by decide) ?_)
    repeat (first | (refine W_reg rfl fun G K hG hK => ?_; simp (disch := omega) only [go_sem, ↓reduceIte, Nat.reduceEqDiff, Nat.reduceAdd, Nat.reduceLeDiff, hG, e1, e5, e11, e12, e13, c1]; refine hK _ _ ?_; clear hK K hG G) | (refine W_end rfl fun G K hG hK => ?_; simp (disch := omega) only [go_sem, ↓reduceIte, Nat.reduceEqDiff, Nat.reduceAdd, Nat.reduceLeDiff, hG, e1, e5, e11, e12, e13, c1]; refine hK _ _ ?_; clear hK K hG G; repeat (first | refine thenI ?_ | refine thenE ?_ | refine thenR ?_ | refine inBI ?_ | refine inBR ?_ | refine inBS ?_ | refine inBN (by decide) ?_)) | refine W_seqS ?_ | refine W_seqC ?_ | refine W_seqB ?_ | refine W_block ?_ | (refine W_skip ?_; repeat (first | refine thenI ?_ | refine thenE ?_ | refine thenR ?_ | refine inBI ?_ | refine inBR ?_ | refine inBS ?_ | refine inBN (by decide) ?_)) | (refine W_condT ?hc ?_; (case hc => (simp (disch := omega) only [go_sem, ↓reduceIte, Nat.reduceEqDiff, Nat.reduceAdd, Nat.reduceLeDiff, e1, e5, e11, e12, e13, c1]; done))) | (refine W_condF ?hc ?_; (case hc => (simp (disch := omega) only [go_sem, ↓reduceIte, Nat.reduceEqDiff, Nat.reduceAdd, Nat.reduceLeDiff, e1, e5, e11, e12, e13, c1]; done))))
    refine W_ret ?_; try (repeat (first | refine thenI ?_ | refine thenE ?_ | refine thenR ?_ | refine inBI ?_ | refine inBR ?_ | refine inBS ?_ | refine inBN (by decide) ?_))
    refine fin1 (.inl rfl) (by (simp (disch := omega) only [go_sem, ↓reduceIte, Nat.reduceEqDiff, Nat.reduceAdd, Nat.reduceLeDiff, e1, e5, e11, e12, e13, c1]); try rfl) o2 ⟨hext, L1, hown, hfr⟩
end Go.Proofs.YtkohkdlbjbbegaaDoor.AM


/- Positions: impl.PositionsOf, spec.l4Walk, spec.PositionsOf. -/
namespace Go.Proofs.YtkohkdlbjbbegaaDoor.AM
open Go Go.Proofs
set_option linter.unusedVariables false
set_option linter.unusedSimpArgs false
set_option maxRecDepth 100000
attribute [local go_sem] List.map_cons List.map_nil List.all_cons List.all_nil Bool.and_self Option.map_some List.getElem?_toArray Option.bind_some gye_b gye_t gsk_b gsk_t gb1 gb2 gb3 gb4 bne_self_eq_false beq_self_eq_true w_guard w_nil stepV_some step_some step_some' w_move w_assign w_pick w_binOp w_unOp w_load w_fieldAddr w_indexAddr w_len w_max w_index ev_max max_int ev_index w_box w_alloc w_store w_field w_extract w_nilCheck w_convert w_buildSlice w_build ev_buildL fillL_nil fillL_cons bs0 bs1 ev_conv ev_bin ev_un ev_pick ev_load ev_fieldAddr ev_indexAddr ev_len ev_field ev_extract ev_nilCheck fr_tmp fr_int fr_bool fr_str fr_nil fr_func put_some put_none bin_lss bin_leq bin_gtr bin_geq bin_eql bin_neq bin_add bin_sub bin_mul bin_seql bin_sneq un_not pick_ ext_ loadA_p cellAt_l cellAt_h okPtr_l okPtr_h fadA_p allocA_l storeA_l cells_agg cells_int cells_str cells_sl cells_bool flat_i flat_s flat_b flat_sl flat_nil loc_agg loc_int loc_str loc_sl loc_bool loc_fn loc_ptr okv_agg okv_int okv_str okv_sl okv_bool cellsFrom splice upd_eval argEnv_zero argEnv_succ ne_eq Nat.add_one_ne_zero not_false_eq_true List.not_mem_nil and_self decide_true List.getElem?_cons_zero List.getElem?_cons_succ List.size_toArray List.length_cons List.length_nil List.take_succ_cons List.take_zero List.drop_succ_cons List.drop_zero List.cons_append List.nil_append List.drop_nil Bool.not_true Bool.not_false Bool.false_eq_true Nat.zero_add Nat.add_zero wrap_in List.toList_toArray List.mem_cons or_self or_false false_or
attribute [local go_sem] ag22 ag24 ag26 ag3 ag33 ag5 ag62 ag76 ag9 bu26 bu56 by26 by3 by33 by5 by9 el22 el24 el28 el33 el44 of26_0 of26_1 of26_2 of26_3 of56_0 of56_1 of56_2 of64_0 of64_1 ro26_0 ro26_1 ro26_2 ro3_0 ro3_1 ro3_3 ro33_0 ro33_1 ro5_0 ro5_1 ro9_0 ro9_1 ro9_2 ro9_3 ro9_4 sz22 sz24 sz26 sz3 sz33 sz5 sz62 sz76 sz9 ze26 ze3 ze33 ze5 ze64 ze75 ze88 ze9
-- AUTO

theorem walkApp {st' X : St} {p : List Int} {pv : Value} {Lp : List Nat} {e : Nat} (hpp : Sl st' p pv Lp) (hX : Ext st' X) (he : X[e]? = some ⟨[], 3, 0⟩) (hle : st'.length ≤ e) (hb : p.length ≤ 1073741824) :
    ∃ s1 sB L1, appendA Tryd.prog 33 33 (.slice (some ⟨e, 0, none⟩) 0 0) pv X = some (s1, sB) ∧ Sl sB p s1 L1 ∧ Fresh st'.length L1 ∧ Ext st' sB ∧ ∀ i, i < X.length → i ≠ e → sB[i]? = X[i]? := by
  have h0 : Sl (α := Int) X [] (.slice (some ⟨e, 0, none⟩) 0 0) [e] := .inr ⟨e, 0, [], [], rfl, he, .nil, rfl⟩
  obtain ⟨s1, sB, L1, h1, h2, h3, h4⟩ := Sl.appRow (α := Int) (t := 33) (u := 33) (n0 := st'.length) Tryd.underlying33 Tryd.underlying33 sz3 rfl by3 ze3 rfl h0 ⟨by simp, by simpa using hle⟩ hX.length (Ext.refl X) (hpp.ext hX).row (by simp; omega) (by simp; omega)
  refine ⟨s1, sB, L1, h1, by simpa using h2, h3, h4.away.ext_of hX (.inr ⟨e, hle, rfl⟩), fun i hi hne => h4.away.2 i hi ?_⟩
  intro h
  injection h with h
  exact hne h.symm
theorem walkApp2 {st' sB Y : St} {p : List Int} {s1 : Value} {L1 : List Nat} {n i : Nat} (h : Sl sB p s1 L1) (hf : Fresh st'.length L1) (xB : Ext st' sB) (x : Ext sB Y) (hI : Y[i]? = some ⟨[.int .i64 n], 3, 0⟩) (hb : p.length ≤ 1073741824) :
    ∃ s2 sC L2, appendA Tryd.prog 33 33 s1 (.slice (some ⟨i, 0, none⟩) 1 1) Y = some (s2, sC) ∧ Sl sC (p ++ [(n : Int)]) s2 L2 ∧ Fresh st'.length L2 ∧ Ext st' sC := by
  obtain ⟨s2, sC, L2, h1, h2, h3, h4⟩ := Sl.appRow (α := Int) (ys := [(n : Int)]) (t := 33) (u := 33) (n0 := st'.length) Tryd.underlying33 Tryd.underlying33 sz3 rfl by3 ze3 rfl h hf xB.length x (rw_one (c := 1) hI) (by simp; omega) (by simp; omega)
  exact ⟨s2, sC, L2, h1, h2, h3, h4.away.ext_of (xB.trans x) (h.top hf)⟩
theorem getA2 {st : St} {x y : Blk} : ((st ++ [x]) ++ [y])[st.length]? = some x := by rw [List.append_assoc, List.getElem?_append_right (Nat.le_refl _), Nat.sub_self]; rfl
theorem getB2 {st : St} {y : Blk} : (st ++ [y])[st.length]? = some y := by rw [List.getElem?_append_right (Nat.le_refl _), Nat.sub_self]; rfl
theorem Sl.topLt {α : Type} [Kind α] {st : St} {xs : List α} {s : Value} {L : List Nat} (h : Sl st xs s L) : topId s = none ∨ ∃ m, m < st.length ∧ topId s = some m := by
  rcases h with ⟨rfl, _⟩ | ⟨i, c, cs, K, rfl, h1, _⟩
  · exact .inl rfl
  · exact .inr ⟨i, (List.getElem?_eq_some_iff.1 h1).1, rfl⟩
theorem Sl.grow {st st2 : St} {p : List Int} {pv s s' : Value} {Lp : List Nat} (h : Sl st p pv Lp) (hg : Grow st s st2 s') (hd : ∀ i ∈ Lp, topId s ≠ some i) : Sl st2 p pv Lp ∧ ∀ i ∈ Lp, topId s' ≠ some i := by
  refine ⟨h.frame fun i hi => hg.away.2 i (h.lt i hi) (hd i hi), fun i hi e => ?_⟩
  rcases hg.top with h1 | ⟨m, h1, h2⟩
  · exact hd i hi (h1 ▸ e)
  · rw [h2] at e; injection e with e
    have := h.lt i hi; omega

theorem specWalk_ok : ∀ (t : T) (p : List Int) (acc : List (List Int)) (s0 st : St) (cs : List Value) (pv sa : Value) (L Lp : List Nat), p.length + t.wt ≤ 1073741824 → acc.length + t.wt + 1 ≤ 4294967296 → Ext s0 st → Enc s0 t cs → Sl st p pv Lp → (∀ i ∈ Lp, topId sa ≠ some i) → Sl st acc sa L → Fresh s0.length L →
    CallS Tryd.prog 44 [.agg cs.toArray, pv, sa] st fun r st2 => Grow st sa st2 r ∧ ∃ L2, Sl st2 (acc ++ t.pos p) r L2 ∧ Fresh s0.length L2 := by
  refine T.ind fun k n nm args ih p acc s0 st cs pv sa L Lp hB hA hx0 hE hp hd hs hf => ?_
  obtain ⟨s, rfl, hr⟩ := hE.open
  refine CallS_of_W [] 35 Tryd.func44 rfl rfl rfl rfl (by simp) ?_
  have hlen : lenE Tryd.prog 24 s = some (.int .i64 args.length) := row_len hr Tryd.underlying24
  have hwt : (T.mk k n nm args).wt = nm.size + args.length + T.wtL args := by simp only [T.wt]
  have n1 := hr.notLoc.1
  have n2 := hr.notLoc.2
  have m1 := hp.loc
  have m2 := hs.loc
  obtain ⟨s1, sB, L1b, hap1, hs1, hf1, xB, hot⟩ := walkApp (X := st ++ [(⟨[], 3, 0⟩ : Blk)]) (e := st.length) hp (Ext.app _ _) (by simp) (by simp) (by omega)
  have m3 := hs1.loc
  have m4 := hs1.cells
  have m5 := hs1.okv
  obtain ⟨s2, sC, L2, hap2, hs2, hf2, hg2⟩ := Sl.push (α := List Int) (t := 28) (u := 28) (n0 := s0.length) Tryd.underlying28 Tryd.underlying28 sz33 rfl by33 ze33 rfl hs hf hx0.length xB (x := p) (cx := [s1]) (Lx := L1b) ⟨s1, rfl, hs1⟩ hf1 (by omega) (by omega)
  have hap3 : appendA Tryd.prog 28 28 sa (.slice (some ⟨sB.length, 0, none⟩) 1 1) (sB ++ [⟨[s1], 33, 0⟩]) = some (s2, sC) := hap2
  have m6 := hs2.loc
  obtain ⟨hpC, hdC⟩ := hp.grow hg2 hd
  repeat (first | (refine W_reg rfl fun G K hG hK => ?_; simp (disch := omega) only [go_sem, ↓reduceIte, Nat.reduceEqDiff, Nat.reduceAdd, Nat.reduceLeDiff, hG, m1, m2, n1, n2, hlen]; refine hK _ _ ?_; clear hK K hG G) | (refine W_end rfl fun G K hG hK => ?_; simp (disch := omega) only [go_sem, ↓reduceIte, Nat.reduceEqDiff, Nat.reduceAdd, Nat.reduceLeDiff, hG, m1, m2, n1, n2, hlen]; refine hK _ _ ?_; clear hK K hG G; repeat (first | refine thenI ?_ | refine thenE ?_ | refine thenR ?_ | refine inBI ?_ | refine inBR ?_ | refine inBS ?_ | refine inBN (by decide) ?_)) | refine W_seqS ?_ | refine W_seqC ?_ | refine W_seqB ?_ | refine W_block ?_ | (refine W_skip ?_; repeat (first | refine thenI ?_ | refine thenE ?_ | refine thenR ?_ | refine inBI ?_ | refine inBR ?_ | refine inBS ?_ | refine inBN (by decide) ?_)) | (refine W_condT ?hc ?_; (case hc => (simp (disch := omega) only [go_sem, ↓reduceIte, Nat.reduceEqDiff, Nat.reduceAdd, Nat.reduceLeDiff, m1, m2, n1, n2, hlen]; done))) | (refine W_condF ?hc ?_; (case hc => (simp (disch := omega) only [go_sem, ↓reduceIte, Nat.reduceEqDiff, Nat.reduceAdd, Nat.reduceLeDiff, m1, m2, n1, n2, hlen]; done))))
  (repeat (first | refine W_seqS ?_ | refine W_seqC ?_ | refine W_seqB ?_ | refine W_block ?_)); refine W_reg rfl fun G K hG hK => ?_; simp (disch := omega) only [go_sem, ↓reduceIte, Nat.reduceEqDiff, Nat.reduceAdd, Nat.reduceLeDiff, hG, m1, m2, n1, n2, hlen]
  simp (disch := omega) only [go_sem, ↓reduceIte, Nat.reduceEqDiff, Nat.reduceAdd, Nat.reduceLeDiff, hG, m1, m2, n1, n2, hlen, w_append, hap1, hap3, m3, m4, m5, m6]; refine hK _ _ ?_; clear hK K hG G; repeat (first | refine thenI ?_ | refine thenE ?_ | refine thenR ?_ | refine inBI ?_ | refine inBR ?_ | refine inBS ?_ | refine inBN (by decide) ?_)
  repeat (first | (refine W_reg rfl fun G K hG hK => ?_; simp (disch := omega) only [go_sem, ↓reduceIte, Nat.reduceEqDiff, Nat.reduceAdd, Nat.reduceLeDiff, hG, m1, m2, n1, n2, hlen]; refine hK _ _ ?_; clear hK K hG G) | (refine W_end rfl fun G K hG hK => ?_; simp (disch := omega) only [go_sem, ↓reduceIte, Nat.reduceEqDiff, Nat.reduceAdd, Nat.reduceLeDiff, hG, m1, m2, n1, n2, hlen]; refine hK _ _ ?_; clear hK K hG G; repeat (first | refine thenI ?_ | refine thenE ?_ | refine thenR ?_ | refine inBI ?_ | refine inBR ?_ | refine inBS ?_ | refine inBN (by decide) ?_)) | refine W_seqS ?_ | refine W_seqC ?_ | refine W_seqB ?_ | refine W_block ?_ | (refine W_skip ?_; repeat (first | refine thenI ?_ | refine thenE ?_ | refine thenR ?_ | refine inBI ?_ | refine inBR ?_ | refine inBS ?_ | refine inBN (by decide) ?_)) | (refine W_condT ?hc ?_; (case hc => (simp (disch := omega) only [go_sem, ↓reduceIte, Nat.reduceEqDiff, Nat.reduceAdd, Nat.reduceLeDiff, m1, m2, n1, n2, hlen]; done))) | (refine W_condF ?hc ?_; (case hc => (simp (disch := omega) only [go_sem, ↓reduceIte, Nat.reduceEqDiff, Nat.reduceAdd, Nat.reduceLeDiff, m1, m2, n1, n2, hlen]; done))))
  refine W_loop (fun d fr st' => ∃ (j : Nat) (r : Value) (L1 : List Nat) (z : Value), d = args.length - j ∧ j ≤ args.length ∧ (Grow st sa st' r) ∧ (Sl st' (acc ++ p :: T.posL (args.take j) p 0) r L1) ∧ (Fresh s0.length L1) ∧ (Sl st' p pv Lp) ∧ ((∀ i ∈ Lp, topId r ≠ some i)) ∧ (nonH z = true) ∧ (fr.env 1 = pv) ∧ (fr.env 2 = r) ∧ (fr.env 3 = .pointer (some ⟨3, 0, some 1⟩)) ∧ (fr.env 7 = .int .i64 j) ∧ (fr.env 21 = z) ∧ (fr.loc 3 = (1, [.int .i64 k, .int .i64 n, .string nm, s]))) (args.length) ?_ ?_
  · exact ⟨0, _, _, _, by omega, by omega, hg2, (by simpa [T.posL] using hs2), hf2, hpC, hdC, rfl, (by (simp (disch := omega) only [go_sem, ↓reduceIte, Nat.reduceEqDiff, Nat.reduceAdd, Nat.reduceLeDiff, m1, m2, n1, n2, hlen]); try rfl), (by (simp (disch := omega) only [go_sem, ↓reduceIte, Nat.reduceEqDiff, Nat.reduceAdd, Nat.reduceLeDiff, m1, m2, n1, n2, hlen]); try rfl), (by (simp (disch := omega) only [go_sem, ↓reduceIte, Nat.reduceEqDiff, Nat.reduceAdd, Nat.reduceLeDiff, m1, m2, n1, n2, hlen]); try rfl), (by (simp (disch := omega) only [go_sem, ↓reduceIte, Nat.reduceEqDiff, Nat.reduceAdd, Nat.reduceLeDiff, m1, m2, n1, n2, hlen]); try rfl), (by (simp (disch := omega) only [go_sem, ↓reduceIte, Nat.reduceEqDiff, Nat.reduceAdd, Nat.reduceLeDiff, m1, m2, n1, n2, hlen]); try rfl), (by (simp (disch := omega) only [go_sem, ↓reduceIte, Nat.reduceEqDiff, Nat.reduceAdd, Nat.reduceLeDiff, m1, m2, n1, n2, hlen]); try rfl)⟩
  rintro d ⟨env, loc⟩ st' ⟨j, r, L1, z, hd, hj, hgr, hown, hfr, hpp, hdis, hz, e1, e2, e3, e7, e21, l3⟩
  simp only at e1 e2 e3 e7 e21 l3
  by_cases hlt : j < args.length
  · have c1 : decide ((j : Int) < (args.length : Int)) = true := by simpa using hlt
    have hi := idxOk hlt
    have hx : args[j]? = some args[j] := List.getElem?_eq_getElem hlt
    have htk : args.take (j + 1) = args.take j ++ [args[j]] := List.take_succ_eq_append_getElem hlt
    obtain ⟨i, o, c, cs, rfl, hcl, hE', hcs⟩ := row_at hr hx
    have hext : Ext s0 st' := hgr.away.ext_of hx0 (hs.top hf)
    have hwx := T.wtL_drop hx
    have hwd : T.wtL (args.drop j) ≤ T.wtL args := by
      have := T.wtL_take args j; omega
    have hpl := T.pos_len args[j] (p ++ [(j : Int)])
    have hal := T.posL_len (args.take j) p 0
    have htw := T.wtL_take args j
    have htl : (args.take j).length = j := by simp; omega
    obtain ⟨v0, v1, v2, v3, rfl⟩ : ∃ v0 v1 v2 v3, cs = [v0, v1, v2, v3] := by
      match cs, hcl with
      | [v0, v1, v2, v3], _ => exact ⟨v0, v1, v2, v3, rfl⟩
    have hld0 := fun loc => load_row (A := []) (loc := loc) ag26 sz26 hcl (hcs.ext hext)
    have hnext : T.posL (args.take (j + 1)) p 0 = T.posL (args.take j) p 0 ++ T.pos args[j] (p ++ [(j : Int)]) := by rw [htk, T.posL_snoc, htl, Nat.zero_add]
    have o2 := hown.loc
    have hcall : ∀ sC s2 L2, Sl sC (p ++ [(j : Int)]) s2 L2 → Fresh st'.length L2 → Ext st' sC → CallS Tryd.prog 44 [.agg #[v0, v1, v2, v3], s2, r] sC (fun r' sD => Grow st sa sD r' ∧ (∃ L', Sl sD (acc ++ p :: T.posL (args.take (j + 1)) p 0) r' L' ∧ Fresh s0.length L') ∧ Sl sD p pv Lp ∧ (∀ i ∈ Lp, topId r' ≠ some i)) := fun sC s2 L2 h1 h2 h3 =>
      (ih args[j] (List.getElem_mem hlt) (p ++ [(j : Int)]) (acc ++ p :: T.posL (args.take j) p 0) s0 sC _ s2 r L1 L2 (by simp; omega) (by simp; omega) (hext.trans h3) hE' h1 (fun i hi e => by
        rcases hown.topLt with h | ⟨m, hm, h⟩
        · rw [h] at e; cases e
        · rw [h] at e; injection e with e
          subst e
          have h4 := h2.2 _ hi
          omega) (hown.ext h3) hfr).mono fun r' sD ⟨g, L', g1, g2⟩ => by
        have gg : Grow st' r sD r' := (Grow.of_ext h3 r).trans g
        obtain ⟨q1, q2⟩ := hpp.grow gg hdis
        exact ⟨hgr.trans gg, ⟨L', by rw [hnext]; simpa using g1, g2⟩, q1, q2⟩
    repeat (first | (refine W_reg rfl fun G K hG hK => ?_; simp (disch := omega) only [go_sem, ↓reduceIte, Nat.reduceEqDiff, Nat.reduceAdd, Nat.reduceLeDiff, hG, m1, m2, n1, n2, hlen, e1, e2, e3, e7, e21, l3, c1, hi, idxA, Int.toNat_natCast, o2, hld0]; refine hK _ _ ?_; clear hK K hG G) | (refine W_end rfl fun G K hG hK => ?_; simp (disch := omega) only [go_sem, ↓reduceIte, Nat.reduceEqDiff, Nat.reduceAdd, Nat.reduceLeDiff, hG, m1, m2, n1, n2, hlen, e1, e2, e3, e7, e21, l3, c1, hi, idxA, Int.toNat_natCast, o2, hld0]; refine hK _ _ ?_; clear hK K hG G; repeat (first | refine thenI ?_ | refine thenE ?_ | refine thenR ?_ | refine inBI ?_ | refine inBR ?_ | refine inBS ?_ | refine inBN (by decide) ?_)) | refine W_seqS ?_ | refine W_seqC ?_ | refine W_seqB ?_ | refine W_block ?_ | (refine W_skip ?_; repeat (first | refine thenI ?_ | refine thenE ?_ | refine thenR ?_ | refine inBI ?_ | refine inBR ?_ | refine inBS ?_ | refine inBN (by decide) ?_)) | (refine W_condT ?hc ?_; (case hc => (simp (disch := omega) only [go_sem, ↓reduceIte, Nat.reduceEqDiff, Nat.reduceAdd, Nat.reduceLeDiff, m1, m2, n1, n2, hlen, e1, e2, e3, e7, e21, l3, c1, hi, idxA, Int.toNat_natCast, o2, hld0]; done))) | (refine W_condF ?hc ?_; (case hc => (simp (disch := omega) only [go_sem, ↓reduceIte, Nat.reduceEqDiff, Nat.reduceAdd, Nat.reduceLeDiff, m1, m2, n1, n2, hlen, e1, e2, e3, e7, e21, l3, c1, hi, idxA, Int.toNat_natCast, o2, hld0]; done))))
    refine W_endL mixed [3, 21] [] [4, 5, 7, 9, 10, 12] [[(0, false), (1, false), (2, false), (3, false), (4, false), (6, false), (8, false), (11, false), (9, false), (5, false), (7, false), (10, false), (12, false), (13, false)], [(0, false), (1, false), (2, false), (3, false), (6, false), (8, false), (11, false), (9, false), (5, false), (7, false), (4, false), (10, false), (12, false), (13, false)], [(0, false), (1, false), (2, false), (3, false), (6, false), (8, false), (11, false), (9, false), (5, false), (7, false), (10, false), (4, false), (12, false), (13, false)], [(0, false), (1, false), (2, false), (3, false), (4, false), (6, false), (8, false), (11, false), (5, false), (9, false), (7, false), (10, false), (12, false), (13, false)], [(0, false), (1, false), (2, false), (3, false), (6, false), (8, false), (11, false), (5, false), (9, false), (7, false), (4, false), (10, false), (12, false), (13, false)], [(0, false), (1, false), (2, false), (3, false), (6, false), (8, false), (11, false), (5, false), (9, false), (7, false), (10, false), (4, false), (12, false), (13, false)], [(0, false), (1, false), (2, false), (3, false), (4, false), (6, false), (8, false), (11, false), (5, false), (7, false), (9, false), (10, false), (12, false), (13, false)], [(0, false), (1, false), (2, false), (3, false), (6, false), (8, false), (11, false), (5, false), (7, false), (4, false), (9, false), (10, false), (12, false), (13, false)], [(0, false), (1, false), (2, false), (3, false), (6, false), (8, false), (11, false), (5, false), (7, false), (9, false), (10, false), (4, false), (12, false), (13, false)]] rfl (by decide +kernel) (by intro t ht; simp only [List.mem_cons, List.not_mem_nil, or_false] at ht; (rcases ht with rfl | rfl) <;> (first | rfl | (simp only [m1, m2, n1, n2, hlen, e1, e2, e3, e7, e21, l3, c1, hi, idxA, Int.toNat_natCast, o2, e3, e21, hz, put_some, upd_eval, Nat.reduceEqDiff, ↓reduceIte]; done) | (simp only [m1, m2, n1, n2, hlen, e1, e2, e3, e7, e21, l3, c1, hi, idxA, Int.toNat_natCast, o2, e3, e21, hz, put_some, upd_eval, Nat.reduceEqDiff, ↓reduceIte]; rfl))) fun G K hG hK => (fm_cons ?_ (fm_cons ?_ (fm_cons ?_ (fm_cons ?_ (fm_cons ?_ (fm_cons ?_ (fm_cons ?_ (fm_cons ?_ (fm_cons ?_ fm_nil)))))))))
    · simp only [pickOps, List.filterMap_cons, List.filterMap_nil, List.getElem?_cons_zero, List.getElem?_cons_succ, Option.map_some]; simp (disch := omega) only [go_sem, ↓reduceIte, Nat.reduceEqDiff, Nat.reduceAdd, Nat.reduceLeDiff, hG, m1, m2, n1, n2, hlen, e1, e2, e3, e7, e21, l3, c1, hi, idxA, Int.toNat_natCast, o2, hld0, o2]
      obtain ⟨s1, sB, L1b, hap1, hs1, hf1, xB, hot⟩ := walkApp (X := st' ++ [(⟨[.int .i64 j], 3, 0⟩ : Blk)] ++ [(⟨[], 3, 0⟩ : Blk)]) (e := (st' ++ [(⟨[.int .i64 j], 3, 0⟩ : Blk)]).length) hpp ((Ext.app _ _).trans (Ext.app _ _)) getB2 (by simp) (by omega)
      have hbI : sB[st'.length]? = some (⟨[.int .i64 j], 3, 0⟩ : Blk) := by rw [hot _ (by simp) (by simp)]; exact getA2
      obtain ⟨s2, sC, L2, hap2, hs2, hf2, xC⟩ := walkApp2 (n := j) hs1 hf1 xB (Ext.refl _) hbI (by omega)
      have k1 := hs1.loc
      have k2 := hs2.loc
      simp (disch := omega) only [go_sem, ↓reduceIte, Nat.reduceEqDiff, Nat.reduceAdd, Nat.reduceLeDiff, m1, m2, n1, n2, hlen, e1, e2, e3, e7, e21, l3, c1, hi, idxA, Int.toNat_natCast, o2, w_append, hap1, hap2, o2, k1, k2]
      refine w_call (hcall sC s2 L2 hs2 hf2 xC) (by simp (disch := omega) only [go_sem, ↓reduceIte, Nat.reduceEqDiff, m1, m2, n1, n2, hlen, e1, e2, e3, e7, e21, l3, c1, hi, idxA, Int.toNat_natCast, o2, k2]) ?hl ?_
      case hl => first | rfl | (simp only [go_sem, List.all_cons, List.all_nil, Bool.not_false, Bool.and_self, m1, m2, n1, n2, hlen, e1, e2, e3, e7, e21, l3, c1, hi, idxA, Int.toNat_natCast, o2, k2]; done)
      rintro rD sD ⟨hgD, ⟨L', hD, hfD⟩, hpD, hdD⟩; refine ⟨fun e => (by cases e), ?_⟩
      have k3 := hD.loc
      simp (disch := omega) only [go_sem, ↓reduceIte, Nat.reduceEqDiff, Nat.reduceAdd, Nat.reduceLeDiff, hG, m1, m2, n1, n2, hlen, e1, e2, e3, e7, e21, l3, c1, hi, idxA, Int.toNat_natCast, o2, k3, k3]; refine hK _ _ ?_; clear hK K hG G; repeat (first | refine thenI ?_ | refine thenE ?_ | refine thenR ?_ | refine inBI ?_ | refine inBR ?_ | refine inBS ?_ | refine inBN (by decide) ?_)
      repeat (first | (refine W_reg rfl fun G K hG hK => ?_; simp (disch := omega) only [go_sem, ↓reduceIte, Nat.reduceEqDiff, Nat.reduceAdd, Nat.reduceLeDiff, hG, m1, m2, n1, n2, hlen, e1, e2, e3, e7, e21, l3, c1, hi, idxA, Int.toNat_natCast, o2, k3]; refine hK _ _ ?_; clear hK K hG G) | (refine W_end rfl fun G K hG hK => ?_; simp (disch := omega) only [go_sem, ↓reduceIte, Nat.reduceEqDiff, Nat.reduceAdd, Nat.reduceLeDiff, hG, m1, m2, n1, n2, hlen, e1, e2, e3, e7, e21, l3, c1, hi, idxA, Int.toNat_natCast, o2, k3]; refine hK _ _ ?_; clear hK K hG G; repeat (first | refine thenI ?_ | refine thenE ?_ | refine thenR ?_ | refine inBI ?_ | refine inBR ?_ | refine inBS ?_ | refine inBN (by decide) ?_)) | refine W_seqS ?_ | refine W_seqC ?_ | refine W_seqB ?_ | refine W_block ?_ | (refine W_skip ?_; repeat (first | refine thenI ?_ | refine thenE ?_ | refine thenR ?_ | refine inBI ?_ | refine inBR ?_ | refine inBS ?_ | refine inBN (by decide) ?_)) | (refine W_condT ?hc ?_; (case hc => (simp (disch := omega) only [go_sem, ↓reduceIte, Nat.reduceEqDiff, Nat.reduceAdd, Nat.reduceLeDiff, m1, m2, n1, n2, hlen, e1, e2, e3, e7, e21, l3, c1, hi, idxA, Int.toNat_natCast, o2, k3]; done))) | (refine W_condF ?hc ?_; (case hc => (simp (disch := omega) only [go_sem, ↓reduceIte, Nat.reduceEqDiff, Nat.reduceAdd, Nat.reduceLeDiff, m1, m2, n1, n2, hlen, e1, e2, e3, e7, e21, l3, c1, hi, idxA, Int.toNat_natCast, o2, k3]; done))))
      refine ⟨args.length - (j + 1), by omega, j + 1, rD, L', .pointer (some ⟨3, 3, some 1⟩), rfl, by omega, hgD, hD, hfD, hpD, hdD, rfl, (by (simp (disch := omega) only [go_sem, ↓reduceIte, Nat.reduceEqDiff, Nat.reduceAdd, Nat.reduceLeDiff, m1, m2, n1, n2, hlen, e1, e2, e3, e7, e21, l3, c1, hi, idxA, Int.toNat_natCast, o2, k3]); try rfl), (by (simp (disch := omega) only [go_sem, ↓reduceIte, Nat.reduceEqDiff, Nat.reduceAdd, Nat.reduceLeDiff, m1, m2, n1, n2, hlen, e1, e2, e3, e7, e21, l3, c1, hi, idxA, Int.toNat_natCast, o2, k3]); try rfl), (by (simp (disch := omega) only [go_sem, ↓reduceIte, Nat.reduceEqDiff, Nat.reduceAdd, Nat.reduceLeDiff, m1, m2, n1, n2, hlen, e1, e2, e3, e7, e21, l3, c1, hi, idxA, Int.toNat_natCast, o2, k3]); try rfl), (by (simp (disch := omega) only [go_sem, ↓reduceIte, Nat.reduceEqDiff, Nat.reduceAdd, Nat.reduceLeDiff, m1, m2, n1, n2, hlen, e1, e2, e3, e7, e21, l3, c1, hi, idxA, Int.toNat_natCast, o2, k3]); try rfl), (by (simp (disch := omega) only [go_sem, ↓reduceIte, Nat.reduceEqDiff, Nat.reduceAdd, Nat.reduceLeDiff, m1, m2, n1, n2, hlen, e1, e2, e3, e7, e21, l3, c1, hi, idxA, Int.toNat_natCast, o2, k3]); try rfl), (by (simp (disch := omega) only [go_sem, ↓reduceIte, Nat.reduceEqDiff, Nat.reduceAdd, Nat.reduceLeDiff, m1, m2, n1, n2, hlen, e1, e2, e3, e7, e21, l3, c1, hi, idxA, Int.toNat_natCast, o2, k3]); try rfl)⟩
    · simp only [pickOps, List.filterMap_cons, List.filterMap_nil, List.getElem?_cons_zero, List.getElem?_cons_succ, Option.map_some]; simp (disch := omega) only [go_sem, ↓reduceIte, Nat.reduceEqDiff, Nat.reduceAdd, Nat.reduceLeDiff, hG, m1, m2, n1, n2, hlen, e1, e2, e3, e7, e21, l3, c1, hi, idxA, Int.toNat_natCast, o2, hld0, o2]
      obtain ⟨s1, sB, L1b, hap1, hs1, hf1, xB, hot⟩ := walkApp (X := st' ++ [(⟨[.int .i64 j], 3, 0⟩ : Blk)] ++ [(⟨[], 3, 0⟩ : Blk)]) (e := (st' ++ [(⟨[.int .i64 j], 3, 0⟩ : Blk)]).length) hpp ((Ext.app _ _).trans (Ext.app _ _)) getB2 (by simp) (by omega)
      have hbI : sB[st'.length]? = some (⟨[.int .i64 j], 3, 0⟩ : Blk) := by rw [hot _ (by simp) (by simp)]; exact getA2
      obtain ⟨s2, sC, L2, hap2, hs2, hf2, xC⟩ := walkApp2 (n := j) hs1 hf1 xB (Ext.refl _) hbI (by omega)
      have k1 := hs1.loc
      have k2 := hs2.loc
      have hldB := fun loc => load_row (A := []) (loc := loc) ag26 sz26 hcl (hcs.ext (hext.trans xB))
      simp (disch := omega) only [go_sem, ↓reduceIte, Nat.reduceEqDiff, Nat.reduceAdd, Nat.reduceLeDiff, m1, m2, n1, n2, hlen, e1, e2, e3, e7, e21, l3, c1, hi, idxA, Int.toNat_natCast, o2, w_append, hap1, hap2, o2, k1, k2, hldB]
      refine w_call (hcall sC s2 L2 hs2 hf2 xC) (by simp (disch := omega) only [go_sem, ↓reduceIte, Nat.reduceEqDiff, m1, m2, n1, n2, hlen, e1, e2, e3, e7, e21, l3, c1, hi, idxA, Int.toNat_natCast, o2, k2]) ?hl ?_
      case hl => first | rfl | (simp only [go_sem, List.all_cons, List.all_nil, Bool.not_false, Bool.and_self, m1, m2, n1, n2, hlen, e1, e2, e3, e7, e21, l3, c1, hi, idxA, Int.toNat_natCast, o2, k2]; done)
      rintro rD sD ⟨hgD, ⟨L', hD, hfD⟩, hpD, hdD⟩; refine ⟨fun e => (by cases e), ?_⟩
      have k3 := hD.loc
      simp (disch := omega) only [go_sem, ↓reduceIte, Nat.reduceEqDiff, Nat.reduceAdd, Nat.reduceLeDiff, hG, m1, m2, n1, n2, hlen, e1, e2, e3, e7, e21, l3, c1, hi, idxA, Int.toNat_natCast, o2, k3, k3]; refine hK _ _ ?_; clear hK K hG G; repeat (first | refine thenI ?_ | refine thenE ?_ | refine thenR ?_ | refine inBI ?_ | refine inBR ?_ | refine inBS ?_ | refine inBN (by decide) ?_)
      repeat (first | (refine W_reg rfl fun G K hG hK => ?_; simp (disch := omega) only [go_sem, ↓reduceIte, Nat.reduceEqDiff, Nat.reduceAdd, Nat.reduceLeDiff, hG, m1, m2, n1, n2, hlen, e1, e2, e3, e7, e21, l3, c1, hi, idxA, Int.toNat_natCast, o2, k3]; refine hK _ _ ?_; clear hK K hG G) | (refine W_end rfl fun G K hG hK => ?_; simp (disch := omega) only [go_sem, ↓reduceIte, Nat.reduceEqDiff, Nat.reduceAdd, Nat.reduceLeDiff, hG, m1, m2, n1, n2, hlen, e1, e2, e3, e7, e21, l3, c1, hi, idxA, Int.toNat_natCast, o2, k3]; refine hK _ _ ?_; clear hK K hG G; repeat (first | refine thenI ?_ | refine thenE ?_ | refine thenR ?_ | refine inBI ?_ | refine inBR ?_ | refine inBS ?_ | refine inBN (by decide) ?_)) | refine W_seqS ?_ | refine W_seqC ?_ | refine W_seqB ?_ | refine W_block ?_ | (refine W_skip ?_; repeat (first | refine thenI ?_ | refine thenE ?_ | refine thenR ?_ | refine inBI ?_ | refine inBR ?_ | refine inBS ?_ | refine inBN (by decide) ?_)) | (refine W_condT ?hc ?_; (case hc => (simp (disch := omega) only [go_sem, ↓reduceIte, Nat.reduceEqDiff, Nat.reduceAdd, Nat.reduceLeDiff, m1, m2, n1, n2, hlen, e1, e2, e3, e7, e21, l3, c1, hi, idxA, Int.toNat_natCast, o2, k3]; done))) | (refine W_condF ?hc ?_; (case hc => (simp (disch := omega) only [go_sem, ↓reduceIte, Nat.reduceEqDiff, Nat.reduceAdd, Nat.reduceLeDiff, m1, m2, n1, n2, hlen, e1, e2, e3, e7, e21, l3, c1, hi, idxA, Int.toNat_natCast, o2, k3]; done))))
      refine ⟨args.length - (j + 1), by omega, j + 1, rD, L', .pointer (some ⟨3, 3, some 1⟩), rfl, by omega, hgD, hD, hfD, hpD, hdD, rfl, (by (simp (disch := omega) only [go_sem, ↓reduceIte, Nat.reduceEqDiff, Nat.reduceAdd, Nat.reduceLeDiff, m1, m2, n1, n2, hlen, e1, e2, e3, e7, e21, l3, c1, hi, idxA, Int.toNat_natCast, o2, k3]); try rfl), (by (simp (disch := omega) only [go_sem, ↓reduceIte, Nat.reduceEqDiff, Nat.reduceAdd, Nat.reduceLeDiff, m1, m2, n1, n2, hlen, e1, e2, e3, e7, e21, l3, c1, hi, idxA, Int.toNat_natCast, o2, k3]); try rfl), (by (simp (disch := omega) only [go_sem, ↓reduceIte, Nat.reduceEqDiff, Nat.reduceAdd, Nat.reduceLeDiff, m1, m2, n1, n2, hlen, e1, e2, e3, e7, e21, l3, c1, hi, idxA, Int.toNat_natCast, o2, k3]); try rfl), (by (simp (disch := omega) only [go_sem, ↓reduceIte, Nat.reduceEqDiff, Nat.reduceAdd, Nat.reduceLeDiff, m1, m2, n1, n2, hlen, e1, e2, e3, e7, e21, l3, c1, hi, idxA, Int.toNat_natCast, o2, k3]); try rfl), (by (simp (disch := omega) only [go_sem, ↓reduceIte, Nat.reduceEqDiff, Nat.reduceAdd, Nat.reduceLeDiff, m1, m2, n1, n2, hlen, e1, e2, e3, e7, e21, l3, c1, hi, idxA, Int.toNat_natCast, o2, k3]); try rfl), (by (simp (disch := omega) only [go_sem, ↓reduceIte, Nat.reduceEqDiff, Nat.reduceAdd, Nat.reduceLeDiff, m1, m2, n1, n2, hlen, e1, e2, e3, e7, e21, l3, c1, hi, idxA, Int.toNat_natCast, o2, k3]); try rfl)⟩
    · simp only [pickOps, List.filterMap_cons, List.filterMap_nil, List.getElem?_cons_zero, List.getElem?_cons_succ, Option.map_some]; simp (disch := omega) only [go_sem, ↓reduceIte, Nat.reduceEqDiff, Nat.reduceAdd, Nat.reduceLeDiff, hG, m1, m2, n1, n2, hlen, e1, e2, e3, e7, e21, l3, c1, hi, idxA, Int.toNat_natCast, o2, hld0, o2]
      obtain ⟨s1, sB, L1b, hap1, hs1, hf1, xB, hot⟩ := walkApp (X := st' ++ [(⟨[.int .i64 j], 3, 0⟩ : Blk)] ++ [(⟨[], 3, 0⟩ : Blk)]) (e := (st' ++ [(⟨[.int .i64 j], 3, 0⟩ : Blk)]).length) hpp ((Ext.app _ _).trans (Ext.app _ _)) getB2 (by simp) (by omega)
      have hbI : sB[st'.length]? = some (⟨[.int .i64 j], 3, 0⟩ : Blk) := by rw [hot _ (by simp) (by simp)]; exact getA2
      obtain ⟨s2, sC, L2, hap2, hs2, hf2, xC⟩ := walkApp2 (n := j) hs1 hf1 xB (Ext.refl _) hbI (by omega)
      have k1 := hs1.loc
      have k2 := hs2.loc
      have hldC := fun loc => load_row (A := []) (loc := loc) ag26 sz26 hcl (hcs.ext (hext.trans xC))
      simp (disch := omega) only [go_sem, ↓reduceIte, Nat.reduceEqDiff, Nat.reduceAdd, Nat.reduceLeDiff, m1, m2, n1, n2, hlen, e1, e2, e3, e7, e21, l3, c1, hi, idxA, Int.toNat_natCast, o2, w_append, hap1, hap2, o2, k1, k2, hldC]
      refine w_call (hcall sC s2 L2 hs2 hf2 xC) (by simp (disch := omega) only [go_sem, ↓reduceIte, Nat.reduceEqDiff, m1, m2, n1, n2, hlen, e1, e2, e3, e7, e21, l3, c1, hi, idxA, Int.toNat_natCast, o2, k2]) ?hl ?_
      case hl => first | rfl | (simp only [go_sem, List.all_cons, List.all_nil, Bool.not_false, Bool.and_self, m1, m2, n1, n2, hlen, e1, e2, e3, e7, e21, l3, c1, hi, idxA, Int.toNat_natCast, o2, k2]; done)
      rintro rD sD ⟨hgD, ⟨L', hD, hfD⟩, hpD, hdD⟩; refine ⟨fun e => (by cases e), ?_⟩
      have k3 := hD.loc
      simp (disch := omega) only [go_sem, ↓reduceIte, Nat.reduceEqDiff, Nat.reduceAdd, Nat.reduceLeDiff, hG, m1, m2, n1, n2, hlen, e1, e2, e3, e7, e21, l3, c1, hi, idxA, Int.toNat_natCast, o2, k3, k3]; refine hK _ _ ?_; clear hK K hG G; repeat (first | refine thenI ?_ | refine thenE ?_ | refine thenR ?_ | refine inBI ?_ | refine inBR ?_ | refine inBS ?_ | refine inBN (by decide) ?_)
      repeat (first | (refine W_reg rfl fun G K hG hK => ?_; simp (disch := omega) only [go_sem, ↓reduceIte, Nat.reduceEqDiff, Nat.reduceAdd, Nat.reduceLeDiff, hG, m1, m2, n1, n2, hlen, e1, e2, e3, e7, e21, l3, c1, hi, idxA, Int.toNat_natCast, o2, k3]; refine hK _ _ ?_; clear hK K hG G) | (refine W_end rfl fun G K hG hK => ?_; simp (disch := omega) only [go_sem, ↓reduceIte, Nat.reduceEqDiff, Nat.reduceAdd, Nat.reduceLeDiff, hG, m1, m2, n1, n2, hlen, e1, e2, e3, e7, e21, l3, c1, hi, idxA, Int.toNat_natCast, o2, k3]; refine hK _ _ ?_; clear hK K hG G; repeat (first | refine thenI ?_ | refine thenE ?_ | refine thenR ?_ | refine inBI ?_ | refine inBR ?_ | refine inBS ?_ | refine inBN (by decide) ?_)) | refine W_seqS ?_ | refine W_seqC ?_ | refine W_seqB ?_ | refine W_block ?_ | (refine W_skip ?_; repeat (first | refine thenI ?_ | refine thenE ?_ | refine thenR ?_ | refine inBI ?_ | refine inBR ?_ | refine inBS ?_ | refine inBN (by decide) ?_)) | (refine W_condT ?hc ?_; (case hc => (simp (disch := omega) only [go_sem, ↓reduceIte, Nat.reduceEqDiff, Nat.reduceAdd, Nat.reduceLeDiff, m1, m2, n1, n2, hlen, e1, e2, e3, e7, e21, l3, c1, hi, idxA, Int.toNat_natCast, o2, k3]; done))) | (refine W_condF ?hc ?_; (case hc => (simp (disch := omega) only [go_sem, ↓reduceIte, Nat.reduceEqDiff, Nat.reduceAdd, Nat.reduceLeDiff, m1, m2, n1, n2, hlen, e1, e2, e3, e7, e21, l3, c1, hi, idxA, Int.toNat_natCast, o2, k3]; done))))
      refine ⟨args.length - (j + 1), by omega, j + 1, rD, L', .pointer (some ⟨3, 3, some 1⟩), rfl, by omega, hgD, hD, hfD, hpD, hdD, rfl, (by (simp (disch := omega) only [go_sem, ↓reduceIte, Nat.reduceEqDiff, Nat.reduceAdd, Nat.reduceLeDiff, m1, m2, n1, n2, hlen, e1, e2, e3, e7, e21, l3, c1, hi, idxA, Int.toNat_natCast, o2, k3]); try rfl), (by (simp (disch := omega) only [go_sem, ↓reduceIte, Nat.reduceEqDiff, Nat.reduceAdd, Nat.reduceLeDiff, m1, m2, n1, n2, hlen, e1, e2, e3, e7, e21, l3, c1, hi, idxA, Int.toNat_natCast, o2, k3]); try rfl), (by (simp (disch := omega) only [go_sem, ↓reduceIte, Nat.reduceEqDiff, Nat.reduceAdd, Nat.reduceLeDiff, m1, m2, n1, n2, hlen, e1, e2, e3, e7, e21, l3, c1, hi, idxA, Int.toNat_natCast, o2, k3]); try rfl), (by (simp (disch := omega) only [go_sem, ↓reduceIte, Nat.reduceEqDiff, Nat.reduceAdd, Nat.reduceLeDiff, m1, m2, n1, n2, hlen, e1, e2, e3, e7, e21, l3, c1, hi, idxA, Int.toNat_natCast, o2, k3]); try rfl), (by (simp (disch := omega) only [go_sem, ↓reduceIte, Nat.reduceEqDiff, Nat.reduceAdd, Nat.reduceLeDiff, m1, m2, n1, n2, hlen, e1, e2, e3, e7, e21, l3, c1, hi, idxA, Int.toNat_natCast, o2, k3]); try rfl), (by (simp (disch := omega) only [go_sem, ↓reduceIte, Nat.reduceEqDiff, Nat.reduceAdd, Nat.reduceLeDiff, m1, m2, n1, n2, hlen, e1, e2, e3, e7, e21, l3, c1, hi, idxA, Int.toNat_natCast, o2, k3]); try rfl)⟩
    · simp only [pickOps, List.filterMap_cons, List.filterMap_nil, List.getElem?_cons_zero, List.getElem?_cons_succ, Option.map_some]; simp (disch := omega) only [go_sem, ↓reduceIte, Nat.reduceEqDiff, Nat.reduceAdd, Nat.reduceLeDiff, hG, m1, m2, n1, n2, hlen, e1, e2, e3, e7, e21, l3, c1, hi, idxA, Int.toNat_natCast, o2, hld0, o2]
      obtain ⟨s1, sB, L1b, hap1, hs1, hf1, xB, hot⟩ := walkApp (X := st' ++ [(⟨[], 3, 0⟩ : Blk)] ++ [(⟨[.int .i64 j], 3, 0⟩ : Blk)]) (e := st'.length) hpp ((Ext.app _ _).trans (Ext.app _ _)) getA2 (by simp) (by omega)
      have hbI : sB[(st' ++ [(⟨[], 3, 0⟩ : Blk)]).length]? = some (⟨[.int .i64 j], 3, 0⟩ : Blk) := by rw [hot _ (by simp) (by simp)]; exact getB2
      obtain ⟨s2, sC, L2, hap2, hs2, hf2, xC⟩ := walkApp2 (n := j) hs1 hf1 xB (Ext.refl _) hbI (by omega)
      have k1 := hs1.loc
      have k2 := hs2.loc
      simp (disch := omega) only [go_sem, ↓reduceIte, Nat.reduceEqDiff, Nat.reduceAdd, Nat.reduceLeDiff, m1, m2, n1, n2, hlen, e1, e2, e3, e7, e21, l3, c1, hi, idxA, Int.toNat_natCast, o2, w_append, hap1, hap2, o2, k1, k2]
      refine w_call (hcall sC s2 L2 hs2 hf2 xC) (by simp (disch := omega) only [go_sem, ↓reduceIte, Nat.reduceEqDiff, m1, m2, n1, n2, hlen, e1, e2, e3, e7, e21, l3, c1, hi, idxA, Int.toNat_natCast, o2, k2]) ?hl ?_
      case hl => first | rfl | (simp only [go_sem, List.all_cons, List.all_nil, Bool.not_false, Bool.and_self, m1, m2, n1, n2, hlen, e1, e2, e3, e7, e21, l3, c1, hi, idxA, Int.toNat_natCast, o2, k2]; done)
      rintro rD sD ⟨hgD, ⟨L', hD, hfD⟩, hpD, hdD⟩; refine ⟨fun e => (by cases e), ?_⟩
      have k3 := hD.loc
      simp (disch := omega) only [go_sem, ↓reduceIte, Nat.reduceEqDiff, Nat.reduceAdd, Nat.reduceLeDiff, hG, m1, m2, n1, n2, hlen, e1, e2, e3, e7, e21, l3, c1, hi, idxA, Int.toNat_natCast, o2, k3, k3]; refine hK _ _ ?_; clear hK K hG G; repeat (first | refine thenI ?_ | refine thenE ?_ | refine thenR ?_ | refine inBI ?_ | refine inBR ?_ | refine inBS ?_ | refine inBN (by decide) ?_)
      repeat (first | (refine W_reg rfl fun G K hG hK => ?_; simp (disch := omega) only [go_sem, ↓reduceIte, Nat.reduceEqDiff, Nat.reduceAdd, Nat.reduceLeDiff, hG, m1, m2, n1, n2, hlen, e1, e2, e3, e7, e21, l3, c1, hi, idxA, Int.toNat_natCast, o2, k3]; refine hK _ _ ?_; clear hK K hG G) | (refine W_end rfl fun G K hG hK => ?_; simp (disch := omega) only [go_sem, ↓reduceIte, Nat.reduceEqDiff, Nat.reduceAdd, Nat.reduceLeDiff, hG, m1, m2, n1, n2, hlen, e1, e2, e3, e7, e21, l3, c1, hi, idxA, Int.toNat_natCast, o2, k3]; refine hK _ _ ?_; clear hK K hG G; repeat (first | refine thenI ?_ | refine thenE ?_ | refine thenR ?_ | refine inBI ?_ | refine inBR ?_ | refine inBS ?_ | refine inBN (by decide) ?_)) | refine W_seqS ?_ | refine W_seqC ?_ | refine W_seqB ?_ | refine W_block ?_ | (refine W_skip ?_; repeat (first | refine thenI ?_ | refine thenE ?_ | refine thenR ?_ | refine inBI ?_ | refine inBR ?_ | refine inBS ?_ | refine inBN (by decide) ?_)) | (refine W_condT ?hc ?_; (case hc => (simp (disch := omega) only [go_sem, ↓reduceIte, Nat.reduceEqDiff, Nat.reduceAdd, Nat.reduceLeDiff, m1, m2, n1, n2, hlen, e1, e2, e3, e7, e21, l3, c1, hi, idxA, Int.toNat_natCast, o2, k3]; done))) | (refine W_condF ?hc ?_; (case hc => (simp (disch := omega) only [go_sem, ↓reduceIte, Nat.reduceEqDiff, Nat.reduceAdd, Nat.reduceLeDiff, m1, m2, n1, n2, hlen, e1, e2, e3, e7, e21, l3, c1, hi, idxA, Int.toNat_natCast, o2, k3]; done))))
      refine ⟨args.length - (j + 1), by omega, j + 1, rD, L', .pointer (some ⟨3, 3, some 1⟩), rfl, by omega, hgD, hD, hfD, hpD, hdD, rfl, (by (simp (disch := omega) only [go_sem, ↓reduceIte, Nat.reduceEqDiff, Nat.reduceAdd, Nat.reduceLeDiff, m1, m2, n1, n2, hlen, e1, e2, e3, e7, e21, l3, c1, hi, idxA, Int.toNat_natCast, o2, k3]); try rfl), (by (simp (disch := omega) only [go_sem, ↓reduceIte, Nat.reduceEqDiff, Nat.reduceAdd, Nat.reduceLeDiff, m1, m2, n1, n2, hlen, e1, e2, e3, e7, e21, l3, c1, hi, idxA, Int.toNat_natCast, o2, k3]); try rfl), (by (simp (disch := omega) only [go_sem, ↓reduceIte, Nat.reduceEqDiff, Nat.reduceAdd, Nat.reduceLeDiff, m1, m2, n1, n2, hlen, e1, e2, e3, e7, e21, l3, c1, hi, idxA, Int.toNat_natCast, o2, k3]); try rfl), (by (simp (disch := omega) only [go_sem, ↓reduceIte, Nat.reduceEqDiff, Nat.reduceAdd, Nat.reduceLeDiff, m1, m2, n1, n2, hlen, e1, e2, e3, e7, e21, l3, c1, hi, idxA, Int.toNat_natCast, o2, k3]); try rfl), (by (simp (disch := omega) only [go_sem, ↓reduceIte, Nat.reduceEqDiff, Nat.reduceAdd, Nat.reduceLeDiff, m1, m2, n1, n2, hlen, e1, e2, e3, e7, e21, l3, c1, hi, idxA, Int.toNat_natCast, o2, k3]); try rfl), (by (simp (disch := omega) only [go_sem, ↓reduceIte, Nat.reduceEqDiff, Nat.reduceAdd, Nat.reduceLeDiff, m1, m2, n1, n2, hlen, e1, e2, e3, e7, e21, l3, c1, hi, idxA, Int.toNat_natCast, o2, k3]); try rfl)⟩
    · simp only [pickOps, List.filterMap_cons, List.filterMap_nil, List.getElem?_cons_zero, List.getElem?_cons_succ, Option.map_some]; simp (disch := omega) only [go_sem, ↓reduceIte, Nat.reduceEqDiff, Nat.reduceAdd, Nat.reduceLeDiff, hG, m1, m2, n1, n2, hlen, e1, e2, e3, e7, e21, l3, c1, hi, idxA, Int.toNat_natCast, o2, hld0, o2]
      obtain ⟨s1, sB, L1b, hap1, hs1, hf1, xB, hot⟩ := walkApp (X := st' ++ [(⟨[], 3, 0⟩ : Blk)] ++ [(⟨[.int .i64 j], 3, 0⟩ : Blk)]) (e := st'.length) hpp ((Ext.app _ _).trans (Ext.app _ _)) getA2 (by simp) (by omega)
      have hbI : sB[(st' ++ [(⟨[], 3, 0⟩ : Blk)]).length]? = some (⟨[.int .i64 j], 3, 0⟩ : Blk) := by rw [hot _ (by simp) (by simp)]; exact getB2
      obtain ⟨s2, sC, L2, hap2, hs2, hf2, xC⟩ := walkApp2 (n := j) hs1 hf1 xB (Ext.refl _) hbI (by omega)
      have k1 := hs1.loc
      have k2 := hs2.loc
      have hldB := fun loc => load_row (A := []) (loc := loc) ag26 sz26 hcl (hcs.ext (hext.trans xB))
      simp (disch := omega) only [go_sem, ↓reduceIte, Nat.reduceEqDiff, Nat.reduceAdd, Nat.reduceLeDiff, m1, m2, n1, n2, hlen, e1, e2, e3, e7, e21, l3, c1, hi, idxA, Int.toNat_natCast, o2, w_append, hap1, hap2, o2, k1, k2, hldB]
      refine w_call (hcall sC s2 L2 hs2 hf2 xC) (by simp (disch := omega) only [go_sem, ↓reduceIte, Nat.reduceEqDiff, m1, m2, n1, n2, hlen, e1, e2, e3, e7, e21, l3, c1, hi, idxA, Int.toNat_natCast, o2, k2]) ?hl ?_
      case hl => first | rfl | (simp only [go_sem, List.all_cons, List.all_nil, Bool.not_false, Bool.and_self, m1, m2, n1, n2, hlen, e1, e2, e3, e7, e21, l3, c1, hi, idxA, Int.toNat_natCast, o2, k2]; done)
      rintro rD sD ⟨hgD, ⟨L', hD, hfD⟩, hpD, hdD⟩; refine ⟨fun e => (by cases e), ?_⟩
      have k3 := hD.loc
      simp (disch := omega) only [go_sem, ↓reduceIte, Nat.reduceEqDiff, Nat.reduceAdd, Nat.reduceLeDiff, hG, m1, m2, n1, n2, hlen, e1, e2, e3, e7, e21, l3, c1, hi, idxA, Int.toNat_natCast, o2, k3, k3]; refine hK _ _ ?_; clear hK K hG G; repeat (first | refine thenI ?_ | refine thenE ?_ | refine thenR ?_ | refine inBI ?_ | refine inBR ?_ | refine inBS ?_ | refine inBN (by decide) ?_)
      repeat (first | (refine W_reg rfl fun G K hG hK => ?_; simp (disch := omega) only [go_sem, ↓reduceIte, Nat.reduceEqDiff, Nat.reduceAdd, Nat.reduceLeDiff, hG, m1, m2, n1, n2, hlen, e1, e2, e3, e7, e21, l3, c1, hi, idxA, Int.toNat_natCast, o2, k3]; refine hK _ _ ?_; clear hK K hG G) | (refine W_end rfl fun G K hG hK => ?_; simp (disch := omega) only [go_sem, ↓reduceIte, Nat.reduceEqDiff, Nat.reduceAdd, Nat.reduceLeDiff, hG, m1, m2, n1, n2, hlen, e1, e2, e3, e7, e21, l3, c1, hi, idxA, Int.toNat_natCast, o2, k3]; refine hK _ _ ?_; clear hK K hG G; repeat (first | refine thenI ?_ | refine thenE ?_ | refine thenR ?_ | refine inBI ?_ | refine inBR ?_ | refine inBS ?_ | refine inBN (by decide) ?_)) | refine W_seqS ?_ | refine W_seqC ?_ | refine W_seqB ?_ | refine W_block ?_ | (refine W_skip ?_; repeat (first | refine thenI ?_ | refine thenE ?_ | refine thenR ?_ | refine inBI ?_ | refine inBR ?_ | refine inBS ?_ | refine inBN (by decide) ?_)) | (refine W_condT ?hc ?_; (case hc => (simp (disch := omega) only [go_sem, ↓reduceIte, Nat.reduceEqDiff, Nat.reduceAdd, Nat.reduceLeDiff, m1, m2, n1, n2, hlen, e1, e2, e3, e7, e21, l3, c1, hi, idxA, Int.toNat_natCast, o2, k3]; done))) | (refine W_condF ?hc ?_; (case hc => (simp (disch := omega) only [go_sem, ↓reduceIte, Nat.reduceEqDiff, Nat.reduceAdd, Nat.reduceLeDiff, m1, m2, n1, n2, hlen, e1, e2, e3, e7, e21, l3, c1, hi, idxA, Int.toNat_natCast, o2, k3]; done))))
      refine ⟨args.length - (j + 1), by omega, j + 1, rD, L', .pointer (some ⟨3, 3, some 1⟩), rfl, by omega, hgD, hD, hfD, hpD, hdD, rfl, (by (simp (disch := omega) only [go_sem, ↓reduceIte, Nat.reduceEqDiff, Nat.reduceAdd, Nat.reduceLeDiff, m1, m2, n1, n2, hlen, e1, e2, e3, e7, e21, l3, c1, hi, idxA, Int.toNat_natCast, o2, k3]); try rfl), (by (simp (disch := omega) only [go_sem, ↓reduceIte, Nat.reduceEqDiff, Nat.reduceAdd, Nat.reduceLeDiff, m1, m2, n1, n2, hlen, e1, e2, e3, e7, e21, l3, c1, hi, idxA, Int.toNat_natCast, o2, k3]); try rfl), (by (simp (disch := omega) only [go_sem, ↓reduceIte, Nat.reduceEqDiff, Nat.reduceAdd, Nat.reduceLeDiff, m1, m2, n1, n2, hlen, e1, e2, e3, e7, e21, l3, c1, hi, idxA, Int.toNat_natCast, o2, k3]); try rfl), (by (simp (disch := omega) only [go_sem, ↓reduceIte, Nat.reduceEqDiff, Nat.reduceAdd, Nat.reduceLeDiff, m1, m2, n1, n2, hlen, e1, e2, e3, e7, e21, l3, c1, hi, idxA, Int.toNat_natCast, o2, k3]); try rfl), (by (simp (disch := omega) only [go_sem, ↓reduceIte, Nat.reduceEqDiff, Nat.reduceAdd, Nat.reduceLeDiff, m1, m2, n1, n2, hlen, e1, e2, e3, e7, e21, l3, c1, hi, idxA, Int.toNat_natCast, o2, k3]); try rfl), (by (simp (disch := omega) only [go_sem, ↓reduceIte, Nat.reduceEqDiff, Nat.reduceAdd, Nat.reduceLeDiff, m1, m2, n1, n2, hlen, e1, e2, e3, e7, e21, l3, c1, hi, idxA, Int.toNat_natCast, o2, k3]); try rfl)⟩
    · simp only [pickOps, List.filterMap_cons, List.filterMap_nil, List.getElem?_cons_zero, List.getElem?_cons_succ, Option.map_some]; simp (disch := omega) only [go_sem, ↓reduceIte, Nat.reduceEqDiff, Nat.reduceAdd, Nat.reduceLeDiff, hG, m1, m2, n1, n2, hlen, e1, e2, e3, e7, e21, l3, c1, hi, idxA, Int.toNat_natCast, o2, hld0, o2]
      obtain ⟨s1, sB, L1b, hap1, hs1, hf1, xB, hot⟩ := walkApp (X := st' ++ [(⟨[], 3, 0⟩ : Blk)] ++ [(⟨[.int .i64 j], 3, 0⟩ : Blk)]) (e := st'.length) hpp ((Ext.app _ _).trans (Ext.app _ _)) getA2 (by simp) (by omega)
      have hbI : sB[(st' ++ [(⟨[], 3, 0⟩ : Blk)]).length]? = some (⟨[.int .i64 j], 3, 0⟩ : Blk) := by rw [hot _ (by simp) (by simp)]; exact getB2
      obtain ⟨s2, sC, L2, hap2, hs2, hf2, xC⟩ := walkApp2 (n := j) hs1 hf1 xB (Ext.refl _) hbI (by omega)
      have k1 := hs1.loc
      have k2 := hs2.loc
      have hldC := fun loc => load_row (A := []) (loc := loc) ag26 sz26 hcl (hcs.ext (hext.trans xC))
      simp (disch := omega) only [go_sem, ↓reduceIte, Nat.reduceEqDiff, Nat.reduceAdd, Nat.reduceLeDiff, m1, m2, n1, n2, hlen, e1, e2, e3, e7, e21, l3, c1, hi, idxA, Int.toNat_natCast, o2, w_append, hap1, hap2, o2, k1, k2, hldC]
      refine w_call (hcall sC s2 L2 hs2 hf2 xC) (by simp (disch := omega) only [go_sem, ↓reduceIte, Nat.reduceEqDiff, m1, m2, n1, n2, hlen, e1, e2, e3, e7, e21, l3, c1, hi, idxA, Int.toNat_natCast, o2, k2]) ?hl ?_
      case hl => first | rfl | (simp only [go_sem, List.all_cons, List.all_nil, Bool.not_false, Bool.and_self, m1, m2, n1, n2, hlen, e1, e2, e3, e7, e21, l3, c1, hi, idxA, Int.toNat_natCast, o2, k2]; done)
      rintro rD sD ⟨hgD, ⟨L', hD, hfD⟩, hpD, hdD⟩; refine ⟨fun e => (by cases e), ?_⟩
      have k3 := hD.loc
      simp (disch := omega) only [go_sem, ↓reduceIte, Nat.reduceEqDiff, Nat.reduceAdd, Nat.reduceLeDiff, hG, m1, m2, n1, n2, hlen, e1, e2, e3, e7, e21, l3, c1, hi, idxA, Int.toNat_natCast, o2, k3, k3]; refine hK _ _ ?_; clear hK K hG G; repeat (first | refine thenI ?_ | refine thenE ?_ | refine thenR ?_ | refine inBI ?_ | refine inBR ?_ | refine inBS ?_ | refine inBN (by decide) ?_)
      repeat (first | (refine W_reg rfl fun G K hG hK => ?_; simp (disch := omega) only [go_sem, ↓reduceIte, Nat.reduceEqDiff, Nat.reduceAdd, Nat.reduceLeDiff, hG, m1, m2, n1, n2, hlen, e1, e2, e3, e7, e21, l3, c1, hi, idxA, Int.toNat_natCast, o2, k3]; refine hK _ _ ?_; clear hK K hG G) | (refine W_end rfl fun G K hG hK => ?_; simp (disch := omega) only [go_sem, ↓reduceIte, Nat.reduceEqDiff, Nat.reduceAdd, Nat.reduceLeDiff, hG, m1, m2, n1, n2, hlen, e1, e2, e3, e7, e21, l3, c1, hi, idxA, Int.toNat_natCast, o2, k3]; refine hK _ _ ?_; clear hK K hG G; repeat (first | refine thenI ?_ | refine thenE ?_ | refine thenR ?_ | refine inBI ?_ | refine inBR ?_ | refine inBS ?_ | refine inBN (by decide) ?_)) | refine W_seqS ?_ | refine W_seqC ?_ | refine W_seqB ?_ | refine W_block ?_ | (refine W_skip ?_; repeat (first | refine thenI ?_ | refine thenE ?_ | refine thenR ?_ | refine inBI ?_ | refine inBR ?_ | refine inBS ?_ | refine inBN (by decide) ?_)) | (refine W_condT ?hc ?_; (case hc => (simp (disch := omega) only [go_sem, ↓reduceIte, Nat.reduceEqDiff, Nat.reduceAdd, Nat.reduceLeDiff, m1, m2, n1, n2, hlen, e1, e2, e3, e7, e21, l3, c1, hi, idxA, Int.toNat_natCast, o2, k3]; done))) | (refine W_condF ?hc ?_; (case hc => (simp (disch := omega) only [go_sem, ↓reduceIte, Nat.reduceEqDiff, Nat.reduceAdd, Nat.reduceLeDiff, m1, m2, n1, n2, hlen, e1, e2, e3, e7, e21, l3, c1, hi, idxA, Int.toNat_natCast, o2, k3]; done))))
      refine ⟨args.length - (j + 1), by omega, j + 1, rD, L', .pointer (some ⟨3, 3, some 1⟩), rfl, by omega, hgD, hD, hfD, hpD, hdD, rfl, (by (simp (disch := omega) only [go_sem, ↓reduceIte, Nat.reduceEqDiff, Nat.reduceAdd, Nat.reduceLeDiff, m1, m2, n1, n2, hlen, e1, e2, e3, e7, e21, l3, c1, hi, idxA, Int.toNat_natCast, o2, k3]); try rfl), (by (simp (disch := omega) only [go_sem, ↓reduceIte, Nat.reduceEqDiff, Nat.reduceAdd, Nat.reduceLeDiff, m1, m2, n1, n2, hlen, e1, e2, e3, e7, e21, l3, c1, hi, idxA, Int.toNat_natCast, o2, k3]); try rfl), (by (simp (disch := omega) only [go_sem, ↓reduceIte, Nat.reduceEqDiff, Nat.reduceAdd, Nat.reduceLeDiff, m1, m2, n1, n2, hlen, e1, e2, e3, e7, e21, l3, c1, hi, idxA, Int.toNat_natCast, o2, k3]); try rfl), (by (simp (disch := omega) only [go_sem, ↓reduceIte, Nat.reduceEqDiff, Nat.reduceAdd, Nat.reduceLeDiff, m1, m2, n1, n2, hlen, e1, e2, e3, e7, e21, l3, c1, hi, idxA, Int.toNat_natCast, o2, k3]); try rfl), (by (simp (disch := omega) only [go_sem, ↓reduceIte, Nat.reduceEqDiff, Nat.reduceAdd, Nat.reduceLeDiff, m1, m2, n1, n2, hlen, e1, e2, e3, e7, e21, l3, c1, hi, idxA, Int.toNat_natCast, o2, k3]); try rfl), (by (simp (disch := omega) only [go_sem, ↓reduceIte, Nat.reduceEqDiff, Nat.reduceAdd, Nat.reduceLeDiff, m1, m2, n1, n2, hlen, e1, e2, e3, e7, e21, l3, c1, hi, idxA, Int.toNat_natCast, o2, k3]); try rfl)⟩
    · simp only [pickOps, List.filterMap_cons, List.filterMap_nil, List.getElem?_cons_zero, List.getElem?_cons_succ, Option.map_some]; simp (disch := omega) only [go_sem, ↓reduceIte, Nat.reduceEqDiff, Nat.reduceAdd, Nat.reduceLeDiff, hG, m1, m2, n1, n2, hlen, e1, e2, e3, e7, e21, l3, c1, hi, idxA, Int.toNat_natCast, o2, hld0, o2]
      obtain ⟨s1, sB, L1b, hap1, hs1, hf1, xB, hot⟩ := walkApp (X := st' ++ [(⟨[], 3, 0⟩ : Blk)]) (e := st'.length) hpp (Ext.app _ _) (by simp) (by simp) (by omega)
      have hbI : (sB ++ [(⟨[.int .i64 j], 3, 0⟩ : Blk)])[sB.length]? = some (⟨[.int .i64 j], 3, 0⟩ : Blk) := by simp
      obtain ⟨s2, sC, L2, hap2, hs2, hf2, xC⟩ := walkApp2 (n := j) hs1 hf1 xB (Ext.app _ _) hbI (by omega)
      have k1 := hs1.loc
      have k2 := hs2.loc
      simp (disch := omega) only [go_sem, ↓reduceIte, Nat.reduceEqDiff, Nat.reduceAdd, Nat.reduceLeDiff, m1, m2, n1, n2, hlen, e1, e2, e3, e7, e21, l3, c1, hi, idxA, Int.toNat_natCast, o2, w_append, hap1, hap2, o2, k1, k2]
      refine w_call (hcall sC s2 L2 hs2 hf2 xC) (by simp (disch := omega) only [go_sem, ↓reduceIte, Nat.reduceEqDiff, m1, m2, n1, n2, hlen, e1, e2, e3, e7, e21, l3, c1, hi, idxA, Int.toNat_natCast, o2, k2]) ?hl ?_
      case hl => first | rfl | (simp only [go_sem, List.all_cons, List.all_nil, Bool.not_false, Bool.and_self, m1, m2, n1, n2, hlen, e1, e2, e3, e7, e21, l3, c1, hi, idxA, Int.toNat_natCast, o2, k2]; done)
      rintro rD sD ⟨hgD, ⟨L', hD, hfD⟩, hpD, hdD⟩; refine ⟨fun e => (by cases e), ?_⟩
      have k3 := hD.loc
      simp (disch := omega) only [go_sem, ↓reduceIte, Nat.reduceEqDiff, Nat.reduceAdd, Nat.reduceLeDiff, hG, m1, m2, n1, n2, hlen, e1, e2, e3, e7, e21, l3, c1, hi, idxA, Int.toNat_natCast, o2, k3, k3]; refine hK _ _ ?_; clear hK K hG G; repeat (first | refine thenI ?_ | refine thenE ?_ | refine thenR ?_ | refine inBI ?_ | refine inBR ?_ | refine inBS ?_ | refine inBN (by decide) ?_)
      repeat (first | (refine W_reg rfl fun G K hG hK => ?_; simp (disch := omega) only [go_sem, ↓reduceIte, Nat.reduceEqDiff, Nat.reduceAdd, Nat.reduceLeDiff, hG, m1, m2, n1, n2, hlen, e1, e2, e3, e7, e21, l3, c1, hi, idxA, Int.toNat_natCast, o2, k3]; refine hK _ _ ?_; clear hK K hG G) | (refine W_end rfl fun G K hG hK => ?_; simp (disch := omega) only [go_sem, ↓reduceIte, Nat.reduceEqDiff, Nat.reduceAdd, Nat.reduceLeDiff, hG, m1, m2, n1, n2, hlen, e1, e2, e3, e7, e21, l3, c1, hi, idxA, Int.toNat_natCast, o2, k3]; refine hK _ _ ?_; clear hK K hG G; repeat (first | refine thenI ?_ | refine thenE ?_ | refine thenR ?_ | refine inBI ?_ | refine inBR ?_ | refine inBS ?_ | refine inBN (by decide) ?_)) | refine W_seqS ?_ | refine W_seqC ?_ | refine W_seqB ?_ | refine W_block ?_ | (refine W_skip ?_; repeat (first | refine thenI ?_ | refine thenE ?_ | refine thenR ?_ | refine inBI ?_ | refine inBR ?_ | refine inBS ?_ | refine inBN (by decide) ?_)) | (refine W_condT ?hc ?_; (case hc => (simp (disch := omega) only [go_sem, ↓reduceIte, Nat.reduceEqDiff, Nat.reduceAdd, Nat.reduceLeDiff, m1, m2, n1, n2, hlen, e1, e2, e3, e7, e21, l3, c1, hi, idxA, Int.toNat_natCast, o2, k3]; done))) | (refine W_condF ?hc ?_; (case hc => (simp (disch := omega) only [go_sem, ↓reduceIte, Nat.reduceEqDiff, Nat.reduceAdd, Nat.reduceLeDiff, m1, m2, n1, n2, hlen, e1, e2, e3, e7, e21, l3, c1, hi, idxA, Int.toNat_natCast, o2, k3]; done))))
      refine ⟨args.length - (j + 1), by omega, j + 1, rD, L', .pointer (some ⟨3, 3, some 1⟩), rfl, by omega, hgD, hD, hfD, hpD, hdD, rfl, (by (simp (disch := omega) only [go_sem, ↓reduceIte, Nat.reduceEqDiff, Nat.reduceAdd, Nat.reduceLeDiff, m1, m2, n1, n2, hlen, e1, e2, e3, e7, e21, l3, c1, hi, idxA, Int.toNat_natCast, o2, k3]); try rfl), (by (simp (disch := omega) only [go_sem, ↓reduceIte, Nat.reduceEqDiff, Nat.reduceAdd, Nat.reduceLeDiff, m1, m2, n1, n2, hlen, e1, e2, e3, e7, e21, l3, c1, hi, idxA, Int.toNat_natCast, o2, k3]); try rfl), (by (simp (disch := omega) only [go_sem, ↓reduceIte, Nat.reduceEqDiff, Nat.reduceAdd, Nat.reduceLeDiff, m1, m2, n1, n2, hlen, e1, e2, e3, e7, e21, l3, c1, hi, idxA, Int.toNat_natCast, o2, k3]); try rfl), (by (simp (disch := omega) only [go_sem, ↓reduceIte, Nat.reduceEqDiff, Nat.reduceAdd, Nat.reduceLeDiff, m1, m2, n1, n2, hlen, e1, e2, e3, e7, e21, l3, c1, hi, idxA, Int.toNat_natCast, o2, k3]); try rfl), (by (simp (disch := omega) only [go_sem, ↓reduceIte, Nat.reduceEqDiff, Nat.reduceAdd, Nat.reduceLeDiff, m1, m2, n1, n2, hlen, e1, e2, e3, e7, e21, l3, c1, hi, idxA, Int.toNat_natCast, o2, k3]); try rfl), (by (simp (disch := omega) only [go_sem, ↓reduceIte, Nat.reduceEqDiff, Nat.reduceAdd, Nat.reduceLeDiff, m1, m2, n1, n2, hlen, e1, e2, e3, e7, e21, l3, c1, hi, idxA, Int.toNat_natCast, o2, k3]); try rfl)⟩
    · simp only [pickOps, List.filterMap_cons, List.filterMap_nil, List.getElem?_cons_zero, List.getElem?_cons_succ, Option.map_some]; simp (disch := omega) only [go_sem, ↓reduceIte, Nat.reduceEqDiff, Nat.reduceAdd, Nat.reduceLeDiff, hG, m1, m2, n1, n2, hlen, e1, e2, e3, e7, e21, l3, c1, hi, idxA, Int.toNat_natCast, o2, hld0, o2]
      obtain ⟨s1, sB, L1b, hap1, hs1, hf1, xB, hot⟩ := walkApp (X := st' ++ [(⟨[], 3, 0⟩ : Blk)]) (e := st'.length) hpp (Ext.app _ _) (by simp) (by simp) (by omega)
      have hbI : (sB ++ [(⟨[.int .i64 j], 3, 0⟩ : Blk)])[sB.length]? = some (⟨[.int .i64 j], 3, 0⟩ : Blk) := by simp
      obtain ⟨s2, sC, L2, hap2, hs2, hf2, xC⟩ := walkApp2 (n := j) hs1 hf1 xB (Ext.app _ _) hbI (by omega)
      have k1 := hs1.loc
      have k2 := hs2.loc
      have hldB := fun loc => load_row (A := []) (loc := loc) ag26 sz26 hcl (hcs.ext (hext.trans xB))
      simp (disch := omega) only [go_sem, ↓reduceIte, Nat.reduceEqDiff, Nat.reduceAdd, Nat.reduceLeDiff, m1, m2, n1, n2, hlen, e1, e2, e3, e7, e21, l3, c1, hi, idxA, Int.toNat_natCast, o2, w_append, hap1, hap2, o2, k1, k2, hldB]
      refine w_call (hcall sC s2 L2 hs2 hf2 xC) (by simp (disch := omega) only [go_sem, ↓reduceIte, Nat.reduceEqDiff, m1, m2, n1, n2, hlen, e1, e2, e3, e7, e21, l3, c1, hi, idxA, Int.toNat_natCast, o2, k2]) ?hl ?_
      case hl => first | rfl | (simp only [go_sem, List.all_cons, List.all_nil, Bool.not_false, Bool.and_self, m1, m2, n1, n2, hlen, e1, e2, e3, e7, e21, l3, c1, hi, idxA, Int.toNat_natCast, o2, k2]; done)
      rintro rD sD ⟨hgD, ⟨L', hD, hfD⟩, hpD, hdD⟩; refine ⟨fun e => (by cases e), ?_⟩
      have k3 := hD.loc
      simp (disch := omega) only [go_sem, ↓reduceIte, Nat.reduceEqDiff, Nat.reduceAdd, Nat.reduceLeDiff, hG, m1, m2, n1, n2, hlen, e1, e2, e3, e7, e21, l3, c1, hi, idxA, Int.toNat_natCast, o2, k3, k3]; refine hK _ _ ?_; clear hK K hG G; repeat (first | refine thenI ?_ | refine thenE ?_ | refine thenR ?_ | refine inBI ?_ | refine inBR ?_ | refine inBS ?_ | refine inBN (by decide) ?_)
      repeat (first | (refine W_reg rfl fun G K hG hK => ?_; simp (disch := omega) only [go_sem, ↓reduceIte, Nat.reduceEqDiff, Nat.reduceAdd, Nat.reduceLeDiff, hG, m1, m2, n1, n2, hlen, e1, e2, e3, e7, e21, l3, c1, hi, idxA, Int.toNat_natCast, o2, k3]; refine hK _ _ ?_; clear hK K hG G) | (refine W_end rfl fun G K hG hK => ?_; simp (disch := omega) only [go_sem, ↓reduceIte, Nat.reduceEqDiff, Nat.reduceAdd, Nat.reduceLeDiff, hG, m1, m2, n1, n2, hlen, e1, e2, e3, e7, e21, l3, c1, hi, idxA, Int.toNat_natCast, o2, k3]; refine hK _ _ ?_; clear hK K hG G; repeat (first | refine thenI ?_ | refine thenE ?_ | refine thenR ?_ | refine inBI ?_ | refine inBR ?_ | refine inBS ?_ | refine inBN (by decide) ?_)) | refine W_seqS ?_ | refine W_seqC ?_ | refine W_seqB ?_ | refine W_block ?_ | (refine W_skip ?_; repeat (first | refine thenI ?_ | refine thenE ?_ | refine thenR ?_ | refine inBI ?_ | refine inBR ?_ | refine inBS ?_ | refine inBN (by decide) ?_)) | (refine W_condT ?hc ?_; (case hc => (simp (disch := omega) only [go_sem, ↓reduceIte, Nat.reduceEqDiff, Nat.reduceAdd, Nat.reduceLeDiff, m1, m2, n1, n2, hlen, e1, e2, e3, e7, e21, l3, c1, hi, idxA, Int.toNat_natCast, o2, k3]; done))) | (refine W_condF ?hc ?_; (case hc => (simp (disch := omega) only [go_sem, ↓reduceIte, Nat.reduceEqDiff, Nat.reduceAdd, Nat.reduceLeDiff, m1, m2, n1, n2, hlen, e1, e2, e3, e7, e21, l3, c1, hi, idxA, Int.toNat_natCast, o2, k3]; done))))
      refine ⟨args.length - (j + 1), by omega, j + 1, rD, L', .pointer (some ⟨3, 3, some 1⟩), rfl, by omega, hgD, hD, hfD, hpD, hdD, rfl, (by (simp (disch := omega) only [go_sem, ↓reduceIte, Nat.reduceEqDiff, Nat.reduceAdd, Nat.reduceLeDiff, m1, m2, n1, n2, hlen, e1, e2, e3, e7, e21, l3, c1, hi, idxA, Int.toNat_natCast, o2, k3]); try rfl), (by (simp (disch := omega) only [go_sem, ↓reduceIte, Nat.reduceEqDiff, Nat.reduceAdd, Nat.reduceLeDiff, m1, m2, n1, n2, hlen, e1, e2, e3, e7, e21, l3, c1, hi, idxA, Int.toNat_natCast, o2, k3]); try rfl), (by (simp (disch := omega) only [go_sem, ↓reduceIte, Nat.reduceEqDiff, Nat.reduceAdd, Nat.reduceLeDiff, m1, m2, n1, n2, hlen, e1, e2, e3, e7, e21, l3, c1, hi, idxA, Int.toNat_natCast, o2, k3]); try rfl), (by (simp (disch := omega) only [go_sem, ↓reduceIte, Nat.reduceEqDiff, Nat.reduceAdd, Nat.reduceLeDiff, m1, m2, n1, n2, hlen, e1, e2, e3, e7, e21, l3, c1, hi, idxA, Int.toNat_natCast, o2, k3]); try rfl), (by (simp (disch := omega) only [go_sem, ↓reduceIte, Nat.reduceEqDiff, Nat.reduceAdd, Nat.reduceLeDiff, m1, m2, n1, n2, hlen, e1, e2, e3, e7, e21, l3, c1, hi, idxA, Int.toNat_natCast, o2, k3]); try rfl), (by (simp (disch := omega) only [go_sem, ↓reduceIte, Nat.reduceEqDiff, Nat.reduceAdd, Nat.reduceLeDiff, m1, m2, n1, n2, hlen, e1, e2, e3, e7, e21, l3, c1, hi, idxA, Int.toNat_natCast, o2, k3]); try rfl)⟩
    · simp only [pickOps, List.filterMap_cons, List.filterMap_nil, List.getElem?_cons_zero, List.getElem?_cons_succ, Option.map_some]; simp (disch := omega) only [go_sem, ↓reduceIte, Nat.reduceEqDiff, Nat.reduceAdd, Nat.reduceLeDiff, hG, m1, m2, n1, n2, hlen, e1, e2, e3, e7, e21, l3, c1, hi, idxA, Int.toNat_natCast, o2, hld0, o2]
      obtain ⟨s1, sB, L1b, hap1, hs1, hf1, xB, hot⟩ := walkApp (X := st' ++ [(⟨[], 3, 0⟩ : Blk)]) (e := st'.length) hpp (Ext.app _ _) (by simp) (by simp) (by omega)
      have hbI : (sB ++ [(⟨[.int .i64 j], 3, 0⟩ : Blk)])[sB.length]? = some (⟨[.int .i64 j], 3, 0⟩ : Blk) := by simp
      obtain ⟨s2, sC, L2, hap2, hs2, hf2, xC⟩ := walkApp2 (n := j) hs1 hf1 xB (Ext.app _ _) hbI (by omega)
      have k1 := hs1.loc
      have k2 := hs2.loc
      have hldC := fun loc => load_row (A := []) (loc := loc) ag26 sz26 hcl (hcs.ext (hext.trans xC))
      simp (disch := omega) only [go_sem, ↓reduceIte, Nat.reduceEqDiff, Nat.reduceAdd, Nat.reduceLeDiff, m1, m2, n1, n2, hlen, e1, e2, e3, e7, e21, l3, c1, hi, idxA, Int.toNat_natCast, o2, w_append, hap1, hap2, o2, k1, k2, hldC]
      refine w_call (hcall sC s2 L2 hs2 hf2 xC) (by simp (disch := omega) only [go_sem, ↓reduceIte, Nat.reduceEqDiff, m1, m2, n1, n2, hlen, e1, e2, e3, e7, e21, l3, c1, hi, idxA, Int.toNat_natCast, o2, k2]) ?hl ?_
      case hl => first | rfl | (simp only [go_sem, List.all_cons, List.all_nil, Bool.not_false, Bool.and_self, m1, m2, n1, n2, hlen, e1, e2, e3, e7, e21, l3, c1, hi, idxA, Int.toNat_natCast, o2, k2]; done)
      rintro rD sD ⟨hgD, ⟨L', hD, hfD⟩, hpD, hdD⟩; refine ⟨fun e => (by cases e), ?_⟩
      have k3 := hD.loc
      simp (disch := omega) only [go_sem, ↓reduceIte, Nat.reduceEqDiff, Nat.reduceAdd, Nat.reduceLeDiff, hG, m1, m2, n1, n2, hlen, e1, e2, e3, e7, e21, l3, c1, hi, idxA, Int.toNat_natCast, o2, k3, k3]; refine hK _ _ ?_; clear hK K hG G; repeat (first | refine thenI ?_ | refine thenE ?_ | refine thenR ?_ | refine inBI ?_ | refine inBR ?_ | refine inBS ?_ | refine inBN (by decide) ?_)
      repeat (first | (refine W_reg rfl fun G K hG hK => ?_; simp (disch := omega) only [go_sem, ↓reduceIte, Nat.reduceEqDiff, Nat.reduceAdd, Nat.reduceLeDiff, hG, m1, m2, n1, n2, hlen, e1, e2, e3, e7, e21, l3, c1, hi, idxA, Int.toNat_natCast, o2, k3]; refine hK _ _ ?_; clear hK K hG G) | (refine W_end rfl fun G K hG hK => ?_; simp (disch := omega) only [go_sem, ↓reduceIte, Nat.reduceEqDiff, Nat.reduceAdd, Nat.reduceLeDiff, hG, m1, m2, n1, n2, hlen, e1, e2, e3, e7, e21, l3, c1, hi, idxA, Int.toNat_natCast, o2, k3]; refine hK _ _ ?_; clear hK K hG G; repeat (first | refine thenI ?_ | refine thenE ?_ | refine thenR ?_ | refine inBI ?_ | refine inBR ?_ | refine inBS ?_ | refine inBN (by decide) ?_)) | refine W_seqS ?_ | refine W_seqC ?_ | refine W_seqB ?_ | refine W_block ?_ | (refine W_skip ?_; repeat (first | refine thenI ?_ | refine thenE ?_ | refine thenR ?_ | refine inBI ?_ | refine inBR ?_ | refine inBS ?_ | refine inBN (by decide) ?_)) | (refine W_condT ?hc ?_; (case hc => (simp (disch := omega) only [go_sem, ↓reduceIte, Nat.reduceEqDiff, Nat.reduceAdd, Nat.reduceLeDiff, m1, m2, n1, n2, hlen, e1, e2, e3, e7, e21, l3, c1, hi, idxA, Int.toNat_natCast, o2, k3]; done))) | (refine W_condF ?hc ?_; (case hc => (simp (disch := omega) only [go_sem, ↓reduceIte, Nat.reduceEqDiff, Nat.reduceAdd, Nat.reduceLeDiff, m1, m2, n1, n2, hlen, e1, e2, e3, e7, e21, l3, c1, hi, idxA, Int.toNat_natCast, o2, k3]; done))))
      refine ⟨args.length - (j + 1), by omega, j + 1, rD, L', .pointer (some ⟨3, 3, some 1⟩), rfl, by omega, hgD, hD, hfD, hpD, hdD, rfl, (by (simp (disch := omega) only [go_sem, ↓reduceIte, Nat.reduceEqDiff, Nat.reduceAdd, Nat.reduceLeDiff, m1, m2, n1, n2, hlen, e1, e2, e3, e7, e21, l3, c1, hi, idxA, Int.toNat_natCast, o2, k3]); try rfl), (by (simp (disch := omega) only [go_sem, ↓reduceIte, Nat.reduceEqDiff, Nat.reduceAdd, Nat.reduceLeDiff, m1, m2, n1, n2, hlen, e1, e2, e3, e7, e21, l3, c1, hi, idxA, Int.toNat_natCast, o2, k3]); try rfl), (by (simp (disch := omega) only [go_sem, ↓reduceIte, Nat.reduceEqDiff, Nat.reduceAdd, Nat.reduceLeDiff, m1, m2, n1, n2, hlen, e1, e2, e3, e7, e21, l3, c1, hi, idxA, Int.toNat_natCast, o2, k3]); try rfl), (by (simp (disch := omega) only [go_sem, ↓reduceIte, Nat.reduceEqDiff, Nat.reduceAdd, Nat.reduceLeDiff, m1, m2, n1, n2, hlen, e1, e2, e3, e7, e21, l3, c1, hi, idxA, Int.toNat_natCast, o2, k3]); try rfl), (by (simp (disch := omega) only [go_sem, ↓reduceIte, Nat.reduceEqDiff, Nat.reduceAdd, Nat.reduceLeDiff, m1, m2, n1, n2, hlen, e1, e2, e3, e7, e21, l3, c1, hi, idxA, Int.toNat_natCast, o2, k3]); try rfl), (by (simp (disch := omega) only [go_sem, ↓reduceIte, Nat.reduceEqDiff, Nat.reduceAdd, Nat.reduceLeDiff, m1, m2, n1, n2, hlen, e1, e2, e3, e7, e21, l3, c1, hi, idxA, Int.toNat_natCast, o2, k3]); try rfl)⟩
  · have c1 : decide ((j : Int) < (args.length : Int)) = false := by simpa using hlt
    have hjn : j = args.length := by omega
    subst hjn
    rw [List.take_length] at hown
    have o2 := hown.loc
    repeat (first | (refine W_reg rfl fun G K hG hK => ?_; simp (disch := omega) only [go_sem, ↓reduceIte, Nat.reduceEqDiff, Nat.reduceAdd, Nat.reduceLeDiff, hG, m1, m2, n1, n2, hlen, e1, e2, e3, e7, e21, l3, c1]; refine hK _ _ ?_; clear hK K hG G) | (refine W_end rfl fun G K hG hK => ?_; simp (disch := omega) only [go_sem, ↓reduceIte, Nat.reduceEqDiff, Nat.reduceAdd, Nat.reduceLeDiff, hG, m1, m2, n1, n2, hlen, e1, e2, e3, e7, e21, l3, c1]; refine hK _ _ ?_; clear hK K hG G; repeat (first | refine thenI ?_ | refine thenE ?_ | refine thenR ?_ | refine inBI ?_ | refine inBR ?_ | refine inBS ?_ | refine inBN (by decide) ?_)) | refine W_seqS ?_ | refine W_seqC ?_ | refine W_seqB ?_ | refine W_block ?_ | (refine W_skip ?_; repeat (first | refine thenI ?_ | refine thenE ?_ | refine thenR ?_ | refine inBI ?_ | refine inBR ?_ | refine inBS ?_ | refine inBN (by decide) ?_)) | (refine W_condT ?hc ?_; (case hc => (simp (disch := omega) only [go_sem, ↓reduceIte, Nat.reduceEqDiff, Nat.reduceAdd, Nat.reduceLeDiff, m1, m2, n1, n2, hlen, e1, e2, e3, e7, e21, l3, c1]; done))) | (refine W_condF ?hc ?_; (case hc => (simp (disch := omega) only [go_sem, ↓reduceIte, Nat.reduceEqDiff, Nat.reduceAdd, Nat.reduceLeDiff, m1, m2, n1, n2, hlen, e1, e2, e3, e7, e21, l3, c1]; done))))
    refine W_exit ?_; repeat (first | refine thenI ?_ | refine thenE ?_ | refine thenR ?_ | refine inBI ?_ | refine inBR ?_ | refine inBS ?_ | refine inBN (by decide) ?_)
    repeat (first | (refine W_reg rfl fun G K hG hK => ?_; simp (disch := omega) only [go_sem, ↓reduceIte, Nat.reduceEqDiff, Nat.reduceAdd, Nat.reduceLeDiff, hG, m1, m2, n1, n2, hlen, e1, e2, e3, e7, e21, l3, c1]; refine hK _ _ ?_; clear hK K hG G) | (refine W_end rfl fun G K hG hK => ?_; simp (disch := omega) only [go_sem, ↓reduceIte, Nat.reduceEqDiff, Nat.reduceAdd, Nat.reduceLeDiff, hG, m1, m2, n1, n2, hlen, e1, e2, e3, e7, e21, l3, c1]; refine hK _ _ ?_; clear hK K hG G; repeat (first | refine thenI ?_ | refine thenE ?_ | refine thenR ?_ | refine inBI ?_ | refine inBR ?_ | refine inBS ?_ | refine inBN (by decide) ?_)) | refine W_seqS ?_ | refine W_seqC ?_ | refine W_seqB ?_ | refine W_block ?_ | (refine W_skip ?_; repeat (first | refine thenI ?_ | refine thenE ?_ | refine thenR ?_ | refine inBI ?_ | refine inBR ?_ | refine inBS ?_ | refine inBN (by decide) ?_)) | (refine W_condT ?hc ?_; (case hc => (simp (disch := omega) only [go_sem, ↓reduceIte, Nat.reduceEqDiff, Nat.reduceAdd, Nat.reduceLeDiff, m1, m2, n1, n2, hlen, e1, e2, e3, e7, e21, l3, c1]; done))) | (refine W_condF ?hc ?_; (case hc => (simp (disch := omega) only [go_sem, ↓reduceIte, Nat.reduceEqDiff, Nat.reduceAdd, Nat.reduceLeDiff, m1, m2, n1, n2, hlen, e1, e2, e3, e7, e21, l3, c1]; done))))
    refine W_ret ?_; try (repeat (first | refine thenI ?_ | refine thenE ?_ | refine thenR ?_ | refine inBI ?_ | refine inBR ?_ | refine inBS ?_ | refine inBN (by decide) ?_))
    refine fin1 (.inl rfl) (by (simp (disch := omega) only [go_sem, ↓reduceIte, Nat.reduceEqDiff, Nat.reduceAdd, Nat.reduceLeDiff, m1, m2, n1, n2, hlen, e1, e2, e3, e7, e21, l3, c1]); try rfl) o2 ⟨hgr, L1, hown, hfr⟩
theorem implPosOf_ok (t : T) (st : St) (cs : List Value) (hB : t.wt ≤ 1073741824) (hE : Enc st t cs) :
    CallS Tryd.prog 6 [.agg cs.toArray] st fun r st2 => Ext st st2 ∧ ∃ L2, Sl st2 (t.pos []) r L2 ∧ Fresh st.length L2 := by
  obtain ⟨k, n, m, s, rfl, a1, a2, a3⟩ := hE.args_cells
  refine CallS_of_W [] 5 Tryd.func6 rfl rfl rfl rfl (by simp) ?_
  repeat (first | (refine W_reg rfl fun G K hG hK => ?_; simp (disch := omega) only [go_sem, ↓reduceIte, Nat.reduceEqDiff, Nat.reduceAdd, Nat.reduceLeDiff, hG, a1, a2, a3]; refine hK _ _ ?_; clear hK K hG G) | (refine W_end rfl fun G K hG hK => ?_; simp (disch := omega) only [go_sem, ↓reduceIte, Nat.reduceEqDiff, Nat.reduceAdd, Nat.reduceLeDiff, hG, a1, a2, a3]; refine hK _ _ ?_; clear hK K hG G; repeat (first | refine thenI ?_ | refine thenE ?_ | refine thenR ?_ | refine inBI ?_ | refine inBR ?_ | refine inBS ?_ | refine inBN (by decide) ?_)) | refine W_seqS ?_ | refine W_seqC ?_ | refine W_seqB ?_ | refine W_block ?_ | (refine W_skip ?_; repeat (first | refine thenI ?_ | refine thenE ?_ | refine thenR ?_ | refine inBI ?_ | refine inBR ?_ | refine inBS ?_ | refine inBN (by decide) ?_)) | (refine W_condT ?hc ?_; (case hc => (simp (disch := omega) only [go_sem, ↓reduceIte, Nat.reduceEqDiff, Nat.reduceAdd, Nat.reduceLeDiff, a1, a2, a3]; done))) | (refine W_condF ?hc ?_; (case hc => (simp (disch := omega) only [go_sem, ↓reduceIte, Nat.reduceEqDiff, Nat.reduceAdd, Nat.reduceLeDiff, a1, a2, a3]; done))))
  (repeat (first | refine W_seqS ?_ | refine W_seqC ?_ | refine W_seqB ?_ | refine W_block ?_)); refine W_reg rfl fun G K hG hK => ?_; simp (disch := omega) only [go_sem, ↓reduceIte, Nat.reduceEqDiff, Nat.reduceAdd, Nat.reduceLeDiff, hG, a1, a2, a3]
  refine w_call (implPos_ok t [] st _ _ [] st.length (by simp; omega) hE (Sl.nil _) ⟨by simp, by simp⟩ (Nat.le_refl _)) (by simp (disch := omega) only [go_sem, ↓reduceIte, Nat.reduceEqDiff, a1, a2, a3]) ?hl ?_
  case hl => first | rfl | (simp only [go_sem, List.all_cons, List.all_nil, Bool.not_false, Bool.and_self, a1, a2, a3]; done)
  rintro ra sa ⟨x, L2, h1, h2⟩; refine ⟨fun e => (by cases e), ?_⟩
  have b := h1.loc
  simp (disch := omega) only [go_sem, ↓reduceIte, Nat.reduceEqDiff, Nat.reduceAdd, Nat.reduceLeDiff, hG, a1, a2, a3, b]; refine hK _ _ ?_; clear hK K hG G; repeat (first | refine thenI ?_ | refine thenE ?_ | refine thenR ?_ | refine inBI ?_ | refine inBR ?_ | refine inBS ?_ | refine inBN (by decide) ?_)
  refine W_ret ?_; try (repeat (first | refine thenI ?_ | refine thenE ?_ | refine thenR ?_ | refine inBI ?_ | refine inBR ?_ | refine inBS ?_ | refine inBN (by decide) ?_))
  refine fin1 (.inl rfl) (by (simp (disch := omega) only [go_sem, ↓reduceIte, Nat.reduceEqDiff, Nat.reduceAdd, Nat.reduceLeDiff, a1, a2, a3]); try rfl) b ⟨x, L2, h1, h2⟩
theorem specPosOf_ok (t : T) (st : St) (cs : List Value) (hB : t.wt ≤ 1073741824) (hE : Enc st t cs) :
    CallS Tryd.prog 35 [.agg cs.toArray] st fun r st2 => Ext st st2 ∧ ∃ L2, Sl st2 (t.pos []) r L2 ∧ Fresh st.length L2 := by
  obtain ⟨k, n, m, s, rfl, a1, a2, a3⟩ := hE.args_cells
  refine CallS_of_W [] 7 Tryd.func35 rfl rfl rfl rfl (by simp) ?_
  repeat (first | (refine W_reg rfl fun G K hG hK => ?_; simp (disch := omega) only [go_sem, ↓reduceIte, Nat.reduceEqDiff, Nat.reduceAdd, Nat.reduceLeDiff, hG, a1, a2, a3]; refine hK _ _ ?_; clear hK K hG G) | (refine W_end rfl fun G K hG hK => ?_; simp (disch := omega) only [go_sem, ↓reduceIte, Nat.reduceEqDiff, Nat.reduceAdd, Nat.reduceLeDiff, hG, a1, a2, a3]; refine hK _ _ ?_; clear hK K hG G; repeat (first | refine thenI ?_ | refine thenE ?_ | refine thenR ?_ | refine inBI ?_ | refine inBR ?_ | refine inBS ?_ | refine inBN (by decide) ?_)) | refine W_seqS ?_ | refine W_seqC ?_ | refine W_seqB ?_ | refine W_block ?_ | (refine W_skip ?_; repeat (first | refine thenI ?_ | refine thenE ?_ | refine thenR ?_ | refine inBI ?_ | refine inBR ?_ | refine inBS ?_ | refine inBN (by decide) ?_)) | (refine W_condT ?hc ?_; (case hc => (simp (disch := omega) only [go_sem, ↓reduceIte, Nat.reduceEqDiff, Nat.reduceAdd, Nat.reduceLeDiff, a1, a2, a3]; done))) | (refine W_condF ?hc ?_; (case hc => (simp (disch := omega) only [go_sem, ↓reduceIte, Nat.reduceEqDiff, Nat.reduceAdd, Nat.reduceLeDiff, a1, a2, a3]; done))))
  (repeat (first | refine W_seqS ?_ | refine W_seqC ?_ | refine W_seqB ?_ | refine W_block ?_)); refine W_reg rfl fun G K hG hK => ?_; simp (disch := omega) only [go_sem, ↓reduceIte, Nat.reduceEqDiff, Nat.reduceAdd, Nat.reduceLeDiff, hG, a1, a2, a3]
  have x0 : Ext st (st ++ [(⟨[], 3, 0⟩ : Blk)] ++ [(⟨[], 33, 0⟩ : Blk)]) := (Ext.app _ _).trans (Ext.app _ _)
  refine w_call (specWalk_ok t [] [] st _ _ (.slice (some ⟨st.length, 0, none⟩) 0 0) _ _ [st.length] (by simp; omega) (by simp; omega) x0 hE ((Sl.empty (α := Int) st).ext (Ext.app _ _)) (by simp [topId]) (Sl.empty (α := List Int) _) ⟨by simp, by simp⟩) (by simp (disch := omega) only [go_sem, ↓reduceIte, Nat.reduceEqDiff, a1, a2, a3]) ?hl ?_
  case hl => first | rfl | (simp only [go_sem, List.all_cons, List.all_nil, Bool.not_false, Bool.and_self, a1, a2, a3]; done)
  rintro ra sa ⟨hg, L2, h1, h2⟩; refine ⟨fun e => (by cases e), ?_⟩
  have b := h1.loc
  simp (disch := omega) only [go_sem, ↓reduceIte, Nat.reduceEqDiff, Nat.reduceAdd, Nat.reduceLeDiff, hG, a1, a2, a3, b]; refine hK _ _ ?_; clear hK K hG G; repeat (first | refine thenI ?_ | refine thenE ?_ | refine thenR ?_ | refine inBI ?_ | refine inBR ?_ | refine inBS ?_ | refine inBN (by decide) ?_)
  refine W_ret ?_; try (repeat (first | refine thenI ?_ | refine thenE ?_ | refine thenR ?_ | refine inBI ?_ | refine inBR ?_ | refine inBS ?_ | refine inBN (by decide) ?_))
  refine fin1 (.inl rfl) (by (simp (disch := omega) only [go_sem, ↓reduceIte, Nat.reduceEqDiff, Nat.reduceAdd, Nat.reduceLeDiff, a1, a2, a3]); try rfl) b ⟨hg.away.ext_of x0 (.inr ⟨_, by simp, rfl⟩), L2, h1, h2⟩
end Go.Proofs.YtkohkdlbjbbegaaDoor.AM


/- Positions drawn; the law FnPositions. -/
namespace Go.Proofs.YtkohkdlbjbbegaaDoor.AM
open Go Go.Proofs
set_option linter.unusedVariables false
set_option linter.unusedSimpArgs false
set_option maxRecDepth 100000
attribute [local go_sem] List.map_cons List.map_nil List.all_cons List.all_nil Bool.and_self Option.map_some List.getElem?_toArray Option.bind_some gye_b gye_t gsk_b gsk_t gb1 gb2 gb3 gb4 bne_self_eq_false beq_self_eq_true w_guard w_nil stepV_some step_some step_some' w_move w_assign w_pick w_binOp w_unOp w_load w_fieldAddr w_indexAddr w_len w_max w_index ev_max max_int ev_index w_box w_alloc w_store w_field w_extract w_nilCheck w_convert w_buildSlice w_build ev_buildL fillL_nil fillL_cons bs0 bs1 ev_conv ev_bin ev_un ev_pick ev_load ev_fieldAddr ev_indexAddr ev_len ev_field ev_extract ev_nilCheck fr_tmp fr_int fr_bool fr_str fr_nil fr_func put_some put_none bin_lss bin_leq bin_gtr bin_geq bin_eql bin_neq bin_add bin_sub bin_mul bin_seql bin_sneq un_not pick_ ext_ loadA_p cellAt_l cellAt_h okPtr_l okPtr_h fadA_p allocA_l storeA_l cells_agg cells_int cells_str cells_sl cells_bool flat_i flat_s flat_b flat_sl flat_nil loc_agg loc_int loc_str loc_sl loc_bool loc_fn loc_ptr okv_agg okv_int okv_str okv_sl okv_bool cellsFrom splice upd_eval argEnv_zero argEnv_succ ne_eq Nat.add_one_ne_zero not_false_eq_true List.not_mem_nil and_self decide_true List.getElem?_cons_zero List.getElem?_cons_succ List.size_toArray List.length_cons List.length_nil List.take_succ_cons List.take_zero List.drop_succ_cons List.drop_zero List.cons_append List.nil_append List.drop_nil Bool.not_true Bool.not_false Bool.false_eq_true Nat.zero_add Nat.add_zero wrap_in List.toList_toArray List.mem_cons or_self or_false false_or
attribute [local go_sem] ag22 ag24 ag26 ag3 ag33 ag5 ag62 ag76 ag9 bu26 bu56 by26 by3 by33 by5 by9 el22 el24 el28 el33 el44 of26_0 of26_1 of26_2 of26_3 of56_0 of56_1 of56_2 of64_0 of64_1 ro26_0 ro26_1 ro26_2 ro3_0 ro3_1 ro3_3 ro33_0 ro33_1 ro5_0 ro5_1 ro9_0 ro9_1 ro9_2 ro9_3 ro9_4 sz22 sz24 sz26 sz3 sz33 sz5 sz62 sz76 sz9 ze26 ze3 ze33 ze5 ze64 ze75 ze88 ze9
-- AUTO

theorem finCTC {P : Program} {st : St} {F : Value → St → Prop} {env : Nat → Value} {loc : Nat → Nat × List Value} {a u b : Tmp} {t t' : TypeId} {x : Ex} (hx : x = .ret ∨ x = .normal) {v v' v'' : Value} (hv : loadA P [] t (env a) loc st = some v) (hv' : env u = v') (hl' : isLoc v' = false) (hv'' : loadA P [] t' (env b) loc st = some v'') (hq : F (.tuple #[v, v', v'']) st) : Fin P [.cell a t, .tmp u, .cell b t'] F x ⟨env, loc⟩ st := by
  have h : ∃ r, resA P [.cell a t, .tmp u, .cell b t'] ⟨env, loc⟩ st = some r ∧ F r st := ⟨.tuple #[v, v', v''], by simp [resA, resL, resV, hv, hv', hl', hv''], hq⟩
  rcases hx with rfl | rfl <;> exact h
theorem Sl.elem {st : St} {xs : List (List Int)} {s : Value} {L : List Nat} {n0 : Nat} (h : Sl st xs s L) (hf : Fresh n0 L) {j : Nat} {x : List Int} (hx : xs[j]? = some x) :
    ∃ i c sx Lx, s = .slice (some ⟨i, 0, none⟩) xs.length c ∧ cell st i (j * 1) = some sx ∧ Sl st x sx Lx ∧ Fresh n0 Lx := by
  rcases h with ⟨rfl, rfl, _⟩ | ⟨i, c, cs, K, rfl, h1, h2, rfl⟩
  · simp at hx
  · obtain ⟨c1, cx, c2, L1, Lx, L2, g1, ⟨sx, rfl, g2⟩, g3, rfl, rfl⟩ := h2.split j x hx
    have hl := g1.len (sz := 1) (fun y cy Ly hy => by obtain ⟨s, rfl, _⟩ := hy; rfl)
    have hj : j < xs.length := (List.getElem?_eq_some_iff.1 hx).1
    have hl2 : c1.length = j := by rw [hl, List.length_take]; omega
    refine ⟨i, c, sx, Lx, rfl, ?_, g2, ?_, fun q hq => hf.2 q (by simp [hq])⟩
    · rw [cell_of h1, Nat.mul_one]
      simp [← hl2]
    · have := (List.nodup_cons.1 hf.1).2
      exact (List.nodup_append.1 (List.nodup_append.1 this).1).2.1
theorem l4Draw_ok (q : Nat) (bs : List Byt) (t : T) (st : St) (cs : List Value) (hB : t.wt ≤ 200) (hE : Enc st t cs) (hq : Cur st q bs) :
    CallS Tryd.prog 24 [.pointer (some ⟨q, 0, none⟩), .agg cs.toArray] st fun r st2 => Drawn q bs st st2 ∧ ∃ (p : List Int) (L : List Nat), Sl st2 p r L ∧ Fresh st.length L ∧ p.length ≤ 201 := by
  obtain ⟨k, n, m, s, rfl, a1, a2, a3⟩ := hE.args_cells
  refine CallS_of_W [] 25 Tryd.func24 rfl rfl rfl rfl (by simp) ?_
  have hlq := hq.lt
  repeat (first | (refine W_reg rfl fun G K hG hK => ?_; simp (disch := omega) only [go_sem, ↓reduceIte, Nat.reduceEqDiff, Nat.reduceAdd, Nat.reduceLeDiff, hG, a1, a2, a3]; refine hK _ _ ?_; clear hK K hG G) | (refine W_end rfl fun G K hG hK => ?_; simp (disch := omega) only [go_sem, ↓reduceIte, Nat.reduceEqDiff, Nat.reduceAdd, Nat.reduceLeDiff, hG, a1, a2, a3]; refine hK _ _ ?_; clear hK K hG G; repeat (first | refine thenI ?_ | refine thenE ?_ | refine thenR ?_ | refine inBI ?_ | refine inBR ?_ | refine inBS ?_ | refine inBN (by decide) ?_)) | refine W_seqS ?_ | refine W_seqC ?_ | refine W_seqB ?_ | refine W_block ?_ | (refine W_skip ?_; repeat (first | refine thenI ?_ | refine thenE ?_ | refine thenR ?_ | refine inBI ?_ | refine inBR ?_ | refine inBS ?_ | refine inBN (by decide) ?_)) | (refine W_condT ?hc ?_; (case hc => (simp (disch := omega) only [go_sem, ↓reduceIte, Nat.reduceEqDiff, Nat.reduceAdd, Nat.reduceLeDiff, a1, a2, a3]; done))) | (refine W_condF ?hc ?_; (case hc => (simp (disch := omega) only [go_sem, ↓reduceIte, Nat.reduceEqDiff, Nat.reduceAdd, Nat.reduceLeDiff, a1, a2, a3]; done))))
  (repeat (first | refine W_seqS ?_ | refine W_seqC ?_ | refine W_seqB ?_ | refine W_block ?_)); refine W_reg rfl fun G K hG hK => ?_; simp (disch := omega) only [go_sem, ↓reduceIte, Nat.reduceEqDiff, Nat.reduceAdd, Nat.reduceLeDiff, hG, a1, a2, a3]
  refine w_call (specPosOf_ok t st _ (by omega) hE) (by simp (disch := omega) only [go_sem, ↓reduceIte, Nat.reduceEqDiff, a1, a2, a3]) ?hl ?_
  case hl => first | rfl | (simp only [go_sem, List.all_cons, List.all_nil, Bool.not_false, Bool.and_self, a1, a2, a3]; done)
  rintro rv sa ⟨x1, L, hs, hf⟩; refine ⟨fun e => (by cases e), ?_⟩
  have b1 := hs.loc
  simp (disch := omega) only [go_sem, ↓reduceIte, Nat.reduceEqDiff, Nat.reduceAdd, Nat.reduceLeDiff, hG, a1, a2, a3, b1]; refine hK _ _ ?_; clear hK K hG G; repeat (first | refine thenI ?_ | refine thenE ?_ | refine thenR ?_ | refine inBI ?_ | refine inBR ?_ | refine inBS ?_ | refine inBN (by decide) ?_)
  have hpl := T.pos_len t []
  have hp0 : 0 < (t.pos []).length := by cases t; simp [T.pos]
  have hlen : lenE Tryd.prog 28 rv = some (.int .i64 (t.pos []).length) := row_len hs.row Tryd.underlying28
  (repeat (first | refine W_seqS ?_ | refine W_seqC ?_ | refine W_seqB ?_ | refine W_block ?_)); refine W_reg rfl fun G K hG hK => ?_; simp (disch := omega) only [go_sem, ↓reduceIte, Nat.reduceEqDiff, Nat.reduceAdd, Nat.reduceLeDiff, hG, a1, a2, a3, b1, hlen]
  refine w_call (l1Below_ok q bs sa ((t.pos []).length : Int) (by omega) (by omega) (hq.ext x1)) (by simp (disch := omega) only [go_sem, ↓reduceIte, Nat.reduceEqDiff, a1, a2, a3, b1, hlen]) ?hl ?_
  case hl => first | rfl | (simp only [go_sem, List.all_cons, List.all_nil, Bool.not_false, Bool.and_self, a1, a2, a3, b1, hlen]; done)
  rintro r_ sb ⟨⟨x, rfl, hx0, hx1⟩, hd, hl⟩; refine ⟨fun e => (by cases e), ?_⟩
  obtain ⟨y, rfl⟩ : ∃ y : Nat, x = y := ⟨x.toNat, by omega⟩
  have hlt : y < (t.pos []).length := by omega
  have hs2 := hd.sl hs hf hlq
  obtain ⟨i, c, sx, Lx, rfl, hcx, hsx, hfx⟩ := hs2.elem hf (List.getElem?_eq_getElem hlt)
  have hi := idxOk hlt
  have hld := fun loc => load_cell (A := []) (loc := loc) ag33 hcx
  have b2 := hsx.loc
  have hpe := T.pos_each t [] (t.pos [])[y] (List.getElem_mem hlt)
  simp only [List.length_nil] at hpe
  generalize (t.pos [])[y] = p at hsx hpe
  simp (disch := omega) only [go_sem, ↓reduceIte, Nat.reduceEqDiff, Nat.reduceAdd, Nat.reduceLeDiff, hG, a1, a2, a3, hi, idxA, Int.toNat_natCast, hld, b2]; refine hK _ _ ?_; clear hK K hG G; repeat (first | refine thenI ?_ | refine thenE ?_ | refine thenR ?_ | refine inBI ?_ | refine inBR ?_ | refine inBS ?_ | refine inBN (by decide) ?_)
  (repeat (first | refine W_seqS ?_ | refine W_seqC ?_ | refine W_seqB ?_ | refine W_block ?_)); refine W_reg rfl fun G K hG hK => ?_; simp (disch := omega) only [go_sem, ↓reduceIte, Nat.reduceEqDiff, Nat.reduceAdd, Nat.reduceLeDiff, hG, a1, a2, a3, b2]
  refine w_call (l1Once_ok q bs sb 8 (by omega) (by omega) hd.cur) (by simp (disch := omega) only [go_sem, ↓reduceIte, Nat.reduceEqDiff, a1, a2, a3, b2]) ?hl ?_
  case hl => first | rfl | (simp only [go_sem, List.all_cons, List.all_nil, Bool.not_false, Bool.and_self, a1, a2, a3, b2]; done)
  rintro r_ sc ⟨⟨b, rfl⟩, hd2, hl2⟩; refine ⟨fun e => (by cases e), ?_⟩
  simp (disch := omega) only [go_sem, ↓reduceIte, Nat.reduceEqDiff, Nat.reduceAdd, Nat.reduceLeDiff, hG, a1, a2, a3, b2]; refine hK _ _ ?_; clear hK K hG G; repeat (first | refine thenI ?_ | refine thenE ?_ | refine thenR ?_ | refine inBI ?_ | refine inBR ?_ | refine inBS ?_ | refine inBN (by decide) ?_)
  have hd3 := Drawn.pre x1 (hd.trans hd2)
  have hsx2 := hd2.sl hsx hfx hlq
  cases b with
  | true =>
    repeat (first | (refine W_reg rfl fun G K hG hK => ?_; simp (disch := omega) only [go_sem, ↓reduceIte, Nat.reduceEqDiff, Nat.reduceAdd, Nat.reduceLeDiff, hG, a1, a2, a3, b2]; refine hK _ _ ?_; clear hK K hG G) | (refine W_end rfl fun G K hG hK => ?_; simp (disch := omega) only [go_sem, ↓reduceIte, Nat.reduceEqDiff, Nat.reduceAdd, Nat.reduceLeDiff, hG, a1, a2, a3, b2]; refine hK _ _ ?_; clear hK K hG G; repeat (first | refine thenI ?_ | refine thenE ?_ | refine thenR ?_ | refine inBI ?_ | refine inBR ?_ | refine inBS ?_ | refine inBN (by decide) ?_)) | refine W_seqS ?_ | refine W_seqC ?_ | refine W_seqB ?_ | refine W_block ?_ | (refine W_skip ?_; repeat (first | refine thenI ?_ | refine thenE ?_ | refine thenR ?_ | refine inBI ?_ | refine inBR ?_ | refine inBS ?_ | refine inBN (by decide) ?_)) | (refine W_condT ?hc ?_; (case hc => (simp (disch := omega) only [go_sem, ↓reduceIte, Nat.reduceEqDiff, Nat.reduceAdd, Nat.reduceLeDiff, a1, a2, a3, b2]; done))) | (refine W_condF ?hc ?_; (case hc => (simp (disch := omega) only [go_sem, ↓reduceIte, Nat.reduceEqDiff, Nat.reduceAdd, Nat.reduceLeDiff, a1, a2, a3, b2]; done))))
    refine W_end rfl fun G K hG hK => ?_; simp (disch := omega) only [go_sem, ↓reduceIte, Nat.reduceEqDiff, Nat.reduceAdd, Nat.reduceLeDiff, hG, a1, a2, a3, b2]
    refine w_call (l1Below_ok q bs sc 4 (by omega) (by omega) hd3.cur) (by simp (disch := omega) only [go_sem, ↓reduceIte, Nat.reduceEqDiff, a1, a2, a3, b2]) ?hl ?_
    case hl => first | rfl | (simp only [go_sem, List.all_cons, List.all_nil, Bool.not_false, Bool.and_self, a1, a2, a3, b2]; done)
    rintro r_ sd ⟨⟨z, rfl, hz0, hz1⟩, hd4, hl4⟩; refine ⟨fun e => (by cases e), ?_⟩
    have hs4 := hd4.sl hsx2 hfx hlq
    have hd5 := (hd3.trans hd4).ext2 (Ext.app sd [(⟨[.int .i64 (z - 1)], 3, 0⟩ : Blk)])
    have hb : (sd ++ [(⟨[.int .i64 (z - 1)], 3, 0⟩ : Blk)])[sd.length]? = some ⟨[.int .i64 (z - 1)], 3, 0⟩ := getB2
    obtain ⟨s5, se, L5, hap, hs5, hf5, hg5⟩ := Sl.appRow (ys := [z - 1]) (t := 33) (u := 33) Tryd.underlying33 Tryd.underlying33 sz3 rfl by3 ze3 rfl hs4 hfx (by have := (hd3.trans hd4).away.1; omega) (Ext.app sd [(⟨[.int .i64 (z - 1)], 3, 0⟩ : Blk)]) (rw_one (c := 1) hb) (by simp; omega) (by simp; omega)
    have b5 := hs5.loc
    simp (disch := omega) only [go_sem, ↓reduceIte, Nat.reduceEqDiff, Nat.reduceAdd, Nat.reduceLeDiff, hG, a1, a2, a3, b2, w_append, hap, b5]; refine hK _ _ ?_; clear hK K hG G; repeat (first | refine thenI ?_ | refine thenE ?_ | refine thenR ?_ | refine inBI ?_ | refine inBR ?_ | refine inBS ?_ | refine inBN (by decide) ?_)
    repeat (first | (refine W_reg rfl fun G K hG hK => ?_; simp (disch := omega) only [go_sem, ↓reduceIte, Nat.reduceEqDiff, Nat.reduceAdd, Nat.reduceLeDiff, hG, a1, a2, a3, b5]; refine hK _ _ ?_; clear hK K hG G) | (refine W_end rfl fun G K hG hK => ?_; simp (disch := omega) only [go_sem, ↓reduceIte, Nat.reduceEqDiff, Nat.reduceAdd, Nat.reduceLeDiff, hG, a1, a2, a3, b5]; refine hK _ _ ?_; clear hK K hG G; repeat (first | refine thenI ?_ | refine thenE ?_ | refine thenR ?_ | refine inBI ?_ | refine inBR ?_ | refine inBS ?_ | refine inBN (by decide) ?_)) | refine W_seqS ?_ | refine W_seqC ?_ | refine W_seqB ?_ | refine W_block ?_ | (refine W_skip ?_; repeat (first | refine thenI ?_ | refine thenE ?_ | refine thenR ?_ | refine inBI ?_ | refine inBR ?_ | refine inBS ?_ | refine inBN (by decide) ?_)) | (refine W_condT ?hc ?_; (case hc => (simp (disch := omega) only [go_sem, ↓reduceIte, Nat.reduceEqDiff, Nat.reduceAdd, Nat.reduceLeDiff, a1, a2, a3, b5]; done))) | (refine W_condF ?hc ?_; (case hc => (simp (disch := omega) only [go_sem, ↓reduceIte, Nat.reduceEqDiff, Nat.reduceAdd, Nat.reduceLeDiff, a1, a2, a3, b5]; done))))
    refine W_ret ?_; try (repeat (first | refine thenI ?_ | refine thenE ?_ | refine thenR ?_ | refine inBI ?_ | refine inBR ?_ | refine inBS ?_ | refine inBN (by decide) ?_))
    refine fin1 (.inl rfl) (by (simp (disch := omega) only [go_sem, ↓reduceIte, Nat.reduceEqDiff, Nat.reduceAdd, Nat.reduceLeDiff, a1, a2, a3]); try rfl) b5 ⟨hd5.grow hg5 (hs4.top hfx) hlq rfl, p ++ [z - 1], L5, hs5, hf5, by simp; omega⟩
  | false =>
    repeat (first | (refine W_reg rfl fun G K hG hK => ?_; simp (disch := omega) only [go_sem, ↓reduceIte, Nat.reduceEqDiff, Nat.reduceAdd, Nat.reduceLeDiff, hG, a1, a2, a3, b2]; refine hK _ _ ?_; clear hK K hG G) | (refine W_end rfl fun G K hG hK => ?_; simp (disch := omega) only [go_sem, ↓reduceIte, Nat.reduceEqDiff, Nat.reduceAdd, Nat.reduceLeDiff, hG, a1, a2, a3, b2]; refine hK _ _ ?_; clear hK K hG G; repeat (first | refine thenI ?_ | refine thenE ?_ | refine thenR ?_ | refine inBI ?_ | refine inBR ?_ | refine inBS ?_ | refine inBN (by decide) ?_)) | refine W_seqS ?_ | refine W_seqC ?_ | refine W_seqB ?_ | refine W_block ?_ | (refine W_skip ?_; repeat (first | refine thenI ?_ | refine thenE ?_ | refine thenR ?_ | refine inBI ?_ | refine inBR ?_ | refine inBS ?_ | refine inBN (by decide) ?_)) | (refine W_condT ?hc ?_; (case hc => (simp (disch := omega) only [go_sem, ↓reduceIte, Nat.reduceEqDiff, Nat.reduceAdd, Nat.reduceLeDiff, a1, a2, a3, b2]; done))) | (refine W_condF ?hc ?_; (case hc => (simp (disch := omega) only [go_sem, ↓reduceIte, Nat.reduceEqDiff, Nat.reduceAdd, Nat.reduceLeDiff, a1, a2, a3, b2]; done))))
    refine W_ret ?_; try (repeat (first | refine thenI ?_ | refine thenE ?_ | refine thenR ?_ | refine inBI ?_ | refine inBR ?_ | refine inBS ?_ | refine inBN (by decide) ?_))
    refine fin1 (.inl rfl) (by (simp (disch := omega) only [go_sem, ↓reduceIte, Nat.reduceEqDiff, Nat.reduceAdd, Nat.reduceLeDiff, a1, a2, a3]); try rfl) b2 ⟨hd3, p, Lx, hsx2, hfx, by omega⟩
end Go.Proofs.YtkohkdlbjbbegaaDoor.AM


/- Strings: a byte, a part. -/
namespace Go.Proofs.YtkohkdlbjbbegaaDoor.AM
open Go Go.Proofs
set_option linter.unusedVariables false
set_option linter.unusedSimpArgs false

def byteAt (s : ByteArray) (i : Nat) : Int := ((s.data.toList.getD i 0).toNat : Int)
theorem byteAt_bnd (s : ByteArray) (i : Nat) : 0 ≤ byteAt s i ∧ byteAt s i ≤ 255 := by
  unfold byteAt
  have := (s.data.toList.getD i 0).toNat_lt
  omega
section
variable {P : Program} {t : TypeId} {s : ByteArray}
theorem idxS (ht : P.underlying t = some .string) {k : IntKind} {i : Int} (h0 : 0 ≤ i) (h1 : i < s.size) : flatRun P (Instr.index t (.string s) (.int k i)) = some (.int .u8 (byteAt s i.toNat)) := by
  have h2 : i.toNat < s.size := by omega
  have h3 : (if 0 ≤ i then s[i.toNat]? else none) = some s[i.toNat] := by rw [if_pos h0, ByteArray.getElem?_lt' s _ h2]
  have h4 : ((s[i.toNat]).toNat : Int) = byteAt s i.toNat := by
    unfold byteAt
    have h5 : i.toNat < s.data.toList.length := by simpa using h2
    rw [List.getD_eq_getElem?_getD, List.getElem?_eq_getElem h5]
    simp [ByteArray.getElem_eq_getElem_data]
  have hc : pureRun P (Instr.index t (.string s) (.int k i)) = some (.int .u8 (byteAt s i.toNat)) := by
    unfold Instr.index
    rw [pureRun_bind]
    show (some (k, i)).bind _ = _
    simp only [Option.bind_some]
    rw [pureRun_bind, pureRun_und ht]
    simp only [Option.bind_some]
    rw [h3, ← h4]
    rfl
  unfold flatRun
  rw [hc]; rfl
theorem bndS {x : Value} {k : IntKind} {i : Int} {y : Nat} {c : BoundsCode} (hx : x = .int k i) (h0 : 0 ≤ i) (h1 : i ≤ y) : pureRun P (Instr.sliceBound x y c) = some i.toNat := by
  subst hx
  unfold Instr.sliceBound
  rw [pureRun_bind]
  show (some (k, i)).bind _ = _
  simp only [Option.bind_some]
  rw [if_pos ⟨h0, h1⟩]
  rfl
theorem slice_of (ht : P.underlying t = some .string) {lo hi : Option Value} {l h : Nat} (hb : pureRun P (Instr.sliceBounds false s.size s.size lo hi none) = some (l, h, s.size)) : flatRun P (Instr.sliceAt t (.string s) lo hi none) = some (.string (s.extract l h)) := by
  have hc : pureRun P (Instr.sliceAt t (.string s) lo hi none) = some (.string (s.extract l h)) := by
    unfold Instr.sliceAt
    rw [pureRun_bind, pureRun_und ht]
    simp only [Option.bind_some]
    unfold Instr.slice
    rw [pureRun_bind, pureRun_und ht]
    simp only [Option.bind_some, Option.isSome_none, Bool.false_eq_true, if_false]
    rw [pureRun_bind, hb]
    rfl
  unfold flatRun
  rw [hc]; rfl
theorem sliceS_lh (ht : P.underlying t = some .string) {k k' : IntKind} {l h : Int} (h0 : 0 ≤ l) (h1 : l ≤ h) (h2 : h ≤ s.size) : flatRun P (Instr.sliceAt t (.string s) (some (.int k l)) (some (.int k' h)) none) = some (.string (s.extract l.toNat h.toNat)) := by
  refine slice_of ht ?_
  unfold Instr.sliceBounds
  rw [pureRun_bind]
  show (some s.size).bind _ = _
  simp only [Option.bind_some]
  rw [pureRun_bind, bndS rfl (by omega) h2]
  simp only [Option.bind_some]
  rw [pureRun_bind, bndS rfl h0 (by omega)]
  rfl
theorem sliceS_l (ht : P.underlying t = some .string) {k : IntKind} {l : Int} (h0 : 0 ≤ l) (h1 : l ≤ s.size) : flatRun P (Instr.sliceAt t (.string s) (some (.int k l)) none none) = some (.string (s.extract l.toNat s.size)) := by
  refine slice_of ht ?_
  unfold Instr.sliceBounds
  rw [pureRun_bind]
  show (some s.size).bind _ = _
  simp only [Option.bind_some]
  rw [pureRun_bind]
  show (some s.size).bind _ = _
  simp only [Option.bind_some]
  rw [pureRun_bind, bndS rfl h0 h1]
  rfl
theorem sliceS_h (ht : P.underlying t = some .string) {k : IntKind} {h : Int} (h0 : 0 ≤ h) (h1 : h ≤ s.size) : flatRun P (Instr.sliceAt t (.string s) none (some (.int k h)) none) = some (.string (s.extract 0 h.toNat)) := by
  refine slice_of ht ?_
  unfold Instr.sliceBounds
  rw [pureRun_bind]
  show (some s.size).bind _ = _
  simp only [Option.bind_some]
  rw [pureRun_bind, bndS rfl h0 h1]
  simp only [Option.bind_some]
  rw [pureRun_bind]
  rfl
end
theorem ext_toList (s : ByteArray) (l h : Nat) : (s.extract l h).data.toList = (s.data.toList.drop l).take (h - l) := by
  simp [ByteArray.data_extract]
end Go.Proofs.YtkohkdlbjbbegaaDoor.AM


/- Nodes, depth, names, validity of terms, in plain Lean. -/
namespace Go.Proofs.YtkohkdlbjbbegaaDoor.AM
open Go Go.Proofs
set_option linter.unusedVariables false
set_option linter.unusedSimpArgs false

mutual
def T.depth : T → Nat
  | .mk _ _ _ args => 1 + T.depthL args
def T.depthL : List T → Nat
  | [] => 0
  | x :: xs => max x.depth (T.depthL xs)
end
theorem T.countL_app (xs ys : List T) : T.countL (xs ++ ys) = T.countL xs + T.countL ys := by
  induction xs with
  | nil => simp [T.countL]
  | cons x xs ih => simp only [List.cons_append, T.countL, ih]; omega
theorem T.depthL_app (xs ys : List T) : T.depthL (xs ++ ys) = max (T.depthL xs) (T.depthL ys) := by
  induction xs with
  | nil => simp [T.depthL]
  | cons x xs ih => simp only [List.cons_append, T.depthL, ih]; omega
theorem T.depth_count : ∀ t : T, t.depth ≤ t.count := by
  refine T.ind fun k n nm args ih => ?_
  have hL : ∀ l : List T, (∀ a ∈ l, a.depth ≤ a.count) → T.depthL l ≤ T.countL l := by
    intro l
    induction l with
    | nil => intro _; exact Nat.le_refl _
    | cons x xs ihx =>
      intro h
      have h1 := h x (by simp)
      have h2 := ihx fun a ha => h a (by simp [ha])
      simp only [T.depthL, T.countL]; omega
  have := hL args ih
  simp only [T.depth, T.count]; omega
theorem T.count_pos (t : T) : 1 ≤ t.count := by cases t; simp only [T.count]; omega
theorem T.count_wt : ∀ t : T, t.count ≤ t.wt + 1 := by
  refine T.ind fun k n nm args ih => ?_
  have hL : ∀ l : List T, (∀ a ∈ l, a.count ≤ a.wt + 1) → T.countL l ≤ T.wtL l + l.length := by
    intro l
    induction l with
    | nil => intro _; exact Nat.le_refl _
    | cons x xs ihx =>
      intro h
      have h1 := h x (by simp)
      have h2 := ihx fun a ha => h a (by simp [ha])
      simp only [T.wtL, T.countL, List.length_cons]; omega
  have := hL args ih
  simp only [T.wt, T.count]; omega
theorem T.countL_wt (l : List T) : T.countL l ≤ T.wtL l + l.length := by
  induction l with
  | nil => exact Nat.le_refl _
  | cons x xs ihx =>
    have h1 := T.count_wt x
    simp only [T.wtL, T.countL, List.length_cons]; omega

/-- A small letter, or a digit. -/
def lowDig (b : UInt8) : Bool := (decide (97 ≤ b.toNat) && decide (b.toNat ≤ 122)) || (decide (48 ≤ b.toNat) && decide (b.toNat ≤ 57))
/-- A name: 1 to 8 bytes, the first between two letters, the others small letters and digits. -/
def isNm (lo hi : Nat) : List UInt8 → Bool
  | [] => false
  | b :: bs => (decide (lo ≤ b.toNat) && decide (b.toNat ≤ hi)) && (bs.all lowDig && decide (bs.length ≤ 7))
def isName (s : ByteArray) : Bool := isNm 97 122 s.data.toList
def isVar (s : ByteArray) : Bool := isNm 65 90 s.data.toList
theorem name_var (s : ByteArray) : (isName s && isVar s) = false := by
  unfold isName isVar isNm
  split
  · rfl
  · rename_i b bs h
    by_cases h1 : 97 ≤ b.toNat
    · have h2 : ¬ b.toNat ≤ 90 := by omega
      simp [h1, h2]
    · simp [h1]
def nodeOk (k n : Int) (nm : ByteArray) (args : List T) : Bool :=
  if k = 1 then isVar nm && ((n == 0) && ((args.length : Int) == 0))
  else if k = 2 then isName nm && (n == 0)
  else if k = 3 then (nm.toList == (⟨#[]⟩ : ByteArray).toList) && ((decide (n ≥ 0) && decide (n ≤ 3)) && ((args.length : Int) == 0))
  else false
mutual
def T.nodes : T → Bool
  | .mk k n nm args => T.nodesL args && nodeOk k n nm args
def T.nodesL : List T → Bool
  | [] => true
  | x :: xs => x.nodes && T.nodesL xs
end
theorem T.nodesL_all (xs : List T) : T.nodesL xs = xs.all T.nodes := by
  induction xs with
  | nil => rfl
  | cons x xs ih => simp only [T.nodesL, List.all_cons, ih]
def T.valid (t : T) : Bool := decide (t.count ≤ 60) && (decide (t.depth ≤ 16) && t.nodes)
end Go.Proofs.YtkohkdlbjbbegaaDoor.AM


/- Names: impl.isNamed, IsName, IsVarName; spec.l2Lower, l2Digit, l2Rest, IsName, IsVarName. -/
namespace Go.Proofs.YtkohkdlbjbbegaaDoor.AM
open Go Go.Proofs
set_option linter.unusedVariables false
set_option linter.unusedSimpArgs false
set_option maxRecDepth 100000
attribute [local go_sem] List.map_cons List.map_nil List.all_cons List.all_nil Bool.and_self Option.map_some List.getElem?_toArray Option.bind_some gye_b gye_t gsk_b gsk_t gb1 gb2 gb3 gb4 bne_self_eq_false beq_self_eq_true w_guard w_nil stepV_some step_some step_some' w_move w_assign w_pick w_binOp w_unOp w_load w_fieldAddr w_indexAddr w_len w_max w_index ev_max max_int ev_index w_box w_alloc w_store w_field w_extract w_nilCheck w_convert w_buildSlice w_build ev_buildL fillL_nil fillL_cons bs0 bs1 ev_conv ev_bin ev_un ev_pick ev_load ev_fieldAddr ev_indexAddr ev_len ev_field ev_extract ev_nilCheck fr_tmp fr_int fr_bool fr_str fr_nil fr_func put_some put_none bin_lss bin_leq bin_gtr bin_geq bin_eql bin_neq bin_add bin_sub bin_mul bin_seql bin_sneq un_not pick_ ext_ loadA_p cellAt_l cellAt_h okPtr_l okPtr_h fadA_p allocA_l storeA_l cells_agg cells_int cells_str cells_sl cells_bool flat_i flat_s flat_b flat_sl flat_nil loc_agg loc_int loc_str loc_sl loc_bool loc_fn loc_ptr okv_agg okv_int okv_str okv_sl okv_bool cellsFrom splice upd_eval argEnv_zero argEnv_succ ne_eq Nat.add_one_ne_zero not_false_eq_true List.not_mem_nil and_self decide_true List.getElem?_cons_zero List.getElem?_cons_succ List.size_toArray List.length_cons List.length_nil List.take_succ_cons List.take_zero List.drop_succ_cons List.drop_zero List.cons_append List.nil_append List.drop_nil Bool.not_true Bool.not_false Bool.false_eq_true Nat.zero_add Nat.add_zero wrap_in List.toList_toArray List.mem_cons or_self or_false false_or
attribute [local go_sem] ag22 ag24 ag26 ag3 ag33 ag5 ag62 ag76 ag9 bu26 bu56 by26 by3 by33 by5 by9 el22 el24 el28 el33 el44 of26_0 of26_1 of26_2 of26_3 of56_0 of56_1 of56_2 of64_0 of64_1 ro26_0 ro26_1 ro26_2 ro3_0 ro3_1 ro3_3 ro33_0 ro33_1 ro5_0 ro5_1 ro9_0 ro9_1 ro9_2 ro9_3 ro9_4 sz22 sz24 sz26 sz3 sz33 sz5 sz62 sz76 sz9 ze26 ze3 ze33 ze5 ze64 ze75 ze88 ze9
-- AUTO

theorem flat_i8 {k : IntKind} {i : Int} : flat (.int k i) = true := rfl
theorem wrap_u8 (x : Int) (h0 : 0 ≤ x) (h1 : x ≤ 255) : IntKind.u8.wrap x = x := by
  rw [IntKind.wrap_u8]; omega
theorem drop_byte {s : ByteArray} {i : Nat} (h : i < s.size) : ∃ b r, s.data.toList.drop i = b :: r ∧ byteAt s i = (b.toNat : Int) ∧ s.data.toList.drop (i + 1) = r := by
  have h5 : i < s.data.toList.length := by simpa using h
  refine ⟨s.data.toList[i], s.data.toList.drop (i + 1), List.drop_eq_getElem_cons h5, ?_, rfl⟩
  unfold byteAt
  rw [List.getD_eq_getElem?_getD, List.getElem?_eq_getElem h5]
  rfl
theorem size_list (s : ByteArray) : s.size = s.data.toList.length := by simp
theorem nm_of {lo hi : Nat} {s : ByteArray} {b : UInt8} {r : List UInt8} (h : s.data.toList = b :: r) : isNm lo hi s.data.toList = ((decide (lo ≤ b.toNat) && decide (b.toNat ≤ hi)) && (r.all lowDig && decide (r.length ≤ 7))) := by rw [h]; rfl
theorem neq_empty {s : ByteArray} : (s.toList == (⟨#[]⟩ : ByteArray).toList) = s.data.toList.isEmpty := by
  rw [Lib.toList_data, Lib.toList_data]
  cases s.data.toList <;> rfl
end Go.Proofs.YtkohkdlbjbbegaaDoor.AM


/- Counts and depths of terms; validity: impl and spec. -/
namespace Go.Proofs.YtkohkdlbjbbegaaDoor.AM
open Go Go.Proofs
set_option linter.unusedVariables false
set_option linter.unusedSimpArgs false
set_option maxRecDepth 100000
attribute [local go_sem] List.map_cons List.map_nil List.all_cons List.all_nil Bool.and_self Option.map_some List.getElem?_toArray Option.bind_some gye_b gye_t gsk_b gsk_t gb1 gb2 gb3 gb4 bne_self_eq_false beq_self_eq_true w_guard w_nil stepV_some step_some step_some' w_move w_assign w_pick w_binOp w_unOp w_load w_fieldAddr w_indexAddr w_len w_max w_index ev_max max_int ev_index w_box w_alloc w_store w_field w_extract w_nilCheck w_convert w_buildSlice w_build ev_buildL fillL_nil fillL_cons bs0 bs1 ev_conv ev_bin ev_un ev_pick ev_load ev_fieldAddr ev_indexAddr ev_len ev_field ev_extract ev_nilCheck fr_tmp fr_int fr_bool fr_str fr_nil fr_func put_some put_none bin_lss bin_leq bin_gtr bin_geq bin_eql bin_neq bin_add bin_sub bin_mul bin_seql bin_sneq un_not pick_ ext_ loadA_p cellAt_l cellAt_h okPtr_l okPtr_h fadA_p allocA_l storeA_l cells_agg cells_int cells_str cells_sl cells_bool flat_i flat_s flat_b flat_sl flat_nil loc_agg loc_int loc_str loc_sl loc_bool loc_fn loc_ptr okv_agg okv_int okv_str okv_sl okv_bool cellsFrom splice upd_eval argEnv_zero argEnv_succ ne_eq Nat.add_one_ne_zero not_false_eq_true List.not_mem_nil and_self decide_true List.getElem?_cons_zero List.getElem?_cons_succ List.size_toArray List.length_cons List.length_nil List.take_succ_cons List.take_zero List.drop_succ_cons List.drop_zero List.cons_append List.nil_append List.drop_nil Bool.not_true Bool.not_false Bool.false_eq_true Nat.zero_add Nat.add_zero wrap_in List.toList_toArray List.mem_cons or_self or_false false_or
attribute [local go_sem] ag22 ag24 ag26 ag3 ag33 ag5 ag62 ag76 ag9 bu26 bu56 by26 by3 by33 by5 by9 el22 el24 el28 el33 el44 of26_0 of26_1 of26_2 of26_3 of56_0 of56_1 of56_2 of64_0 of64_1 ro26_0 ro26_1 ro26_2 ro3_0 ro3_1 ro3_3 ro33_0 ro33_1 ro5_0 ro5_1 ro9_0 ro9_1 ro9_2 ro9_3 ro9_4 sz22 sz24 sz26 sz3 sz33 sz5 sz62 sz76 sz9 ze26 ze3 ze33 ze5 ze64 ze75 ze88 ze9
-- AUTO

theorem count_take {xs : List T} {j : Nat} (h : j < xs.length) : T.countL (xs.take (j + 1)) = T.countL (xs.take j) + xs[j].count := by
  rw [List.take_succ_eq_append_getElem h, T.countL_app]; simp [T.countL]
theorem count_le {xs : List T} (j : Nat) : T.countL (xs.take j) ≤ T.countL xs := by
  have := T.countL_app (xs.take j) (xs.drop j)
  rw [List.take_append_drop] at this; omega
theorem depth_take {xs : List T} {j : Nat} (h : j < xs.length) : T.depthL (xs.take (j + 1)) = max (T.depthL (xs.take j)) xs[j].depth := by
  rw [List.take_succ_eq_append_getElem h, T.depthL_app]; simp [T.depthL]
theorem depthL_mem' {a : T} {l : List T} (h : a ∈ l) : a.depth ≤ T.depthL l := by
  induction l with
  | nil => cases h
  | cons y ys ih =>
    simp only [T.depthL]
    rcases List.mem_cons.1 h with rfl | h
    · omega
    · have := ih h; omega
theorem depth_le {xs : List T} (j : Nat) : T.depthL (xs.take j) ≤ T.depthL xs := by
  have := T.depthL_app (xs.take j) (xs.drop j)
  rw [List.take_append_drop] at this; omega
theorem specCount_ok : ∀ (t : T) (st : St) (cs : List Value), Lim 1073741824 t → t.count ≤ 4611686018427387904 → Enc st t cs →
    CallS Tryd.prog 7 [.agg cs.toArray] st fun r st' => r = .int .i64 (t.count : Nat) ∧ st' = st := by
  refine T.ind fun k n nm xs ih st cs hl hc hE => ?_
  obtain ⟨s, rfl, hr⟩ := hE.open
  have hxl := hl.args.1
  have hcm : (T.mk k n nm xs).count = 1 + T.countL xs := by simp only [T.count]
  refine CallS_of_W [] 21 Tryd.func7 rfl rfl rfl rfl (by simp) ?_
  have q1 := hr.notLoc.1
  have q2 := hr.notLoc.2
  have q3 := Row.cells1 hr
  have hlen : lenE Tryd.prog 24 s = some (.int .i64 xs.length) := row_len hr Tryd.underlying24
  repeat (first | (refine W_reg rfl fun G K hG hK => ?_; simp (disch := omega) only [go_sem, ↓reduceIte, Nat.reduceEqDiff, Nat.reduceAdd, Nat.reduceLeDiff, hG, q1, q2, q3, hlen]; refine hK _ _ ?_; clear hK K hG G) | (refine W_end rfl fun G K hG hK => ?_; simp (disch := omega) only [go_sem, ↓reduceIte, Nat.reduceEqDiff, Nat.reduceAdd, Nat.reduceLeDiff, hG, q1, q2, q3, hlen]; refine hK _ _ ?_; clear hK K hG G; repeat (first | refine thenI ?_ | refine thenE ?_ | refine thenR ?_ | refine inBI ?_ | refine inBR ?_ | refine inBS ?_ | refine inBN (by decide) ?_)) | refine W_seqS ?_ | refine W_seqC ?_ | refine W_seqB ?_ | refine W_block ?_ | (refine W_skip ?_; repeat (first | refine thenI ?_ | refine thenE ?_ | refine thenR ?_ | refine inBI ?_ | refine inBR ?_ | refine inBS ?_ | refine inBN (by decide) ?_)) | (refine W_condT ?hc ?_; (case hc => (simp (disch := omega) only [go_sem, ↓reduceIte, Nat.reduceEqDiff, Nat.reduceAdd, Nat.reduceLeDiff, q1, q2, q3, hlen]; done))) | (refine W_condF ?hc ?_; (case hc => (simp (disch := omega) only [go_sem, ↓reduceIte, Nat.reduceEqDiff, Nat.reduceAdd, Nat.reduceLeDiff, q1, q2, q3, hlen]; done))))
  refine W_loop (fun d fr st' => ∃ (j : Nat) , d = xs.length - j ∧ j ≤ xs.length ∧ (st' = st) ∧ (fr.env 1 = .pointer (some ⟨1, 0, some 1⟩)) ∧ (fr.env 3 = .int .i64 ((1 + T.countL (xs.take j) : Nat) : Int)) ∧ (fr.env 4 = .int .i64 j) ∧ (fr.loc 1 = (1, [.int .i64 k, .int .i64 n, .string nm, s]))) (xs.length) ?_ ?_
  · exact ⟨0, by omega, by omega, rfl, (by (simp (disch := omega) only [go_sem, ↓reduceIte, Nat.reduceEqDiff, Nat.reduceAdd, Nat.reduceLeDiff, q1, q2, q3, hlen]); try rfl), (by (simp (disch := omega) only [go_sem, ↓reduceIte, Nat.reduceEqDiff, Nat.reduceAdd, Nat.reduceLeDiff, q1, q2, q3, hlen]); try rfl), (by (simp (disch := omega) only [go_sem, ↓reduceIte, Nat.reduceEqDiff, Nat.reduceAdd, Nat.reduceLeDiff, q1, q2, q3, hlen]); try rfl), (by (simp (disch := omega) only [go_sem, ↓reduceIte, Nat.reduceEqDiff, Nat.reduceAdd, Nat.reduceLeDiff, q1, q2, q3, hlen]); try rfl)⟩
  rintro d ⟨env, loc⟩ st' ⟨j, hd, hj, hst, e1, e3, e4, l1⟩
  simp only at e1 e3 e4 l1
  subst hst
  have hle := count_le (xs := xs) j
  by_cases hlt : j < xs.length
  · have c1 : decide ((j : Int) < (xs.length : Int)) = true := by simpa using hlt
    have hi := idxOk hlt
    have hx : xs[j]? = some xs[j] := List.getElem?_eq_getElem hlt
    have htk : xs.take (j + 1) = xs.take j ++ [xs[j]] := List.take_succ_eq_append_getElem hlt
    obtain ⟨i, o, c, es, rfl, hcl, hE1, hcs⟩ := row_at hr hx
    have hld := fun loc => load_row (A := []) (loc := loc) ag26 sz26 hcl hcs
    have htake := count_take hlt
    have hle1 := count_le (xs := xs) (j + 1)
    repeat (first | (refine W_reg rfl fun G K hG hK => ?_; simp (disch := omega) only [go_sem, ↓reduceIte, Nat.reduceEqDiff, Nat.reduceAdd, Nat.reduceLeDiff, hG, q1, q2, q3, hlen, e1, e3, e4, l1, c1, hi, idxA, Int.toNat_natCast]; refine hK _ _ ?_; clear hK K hG G) | (refine W_end rfl fun G K hG hK => ?_; simp (disch := omega) only [go_sem, ↓reduceIte, Nat.reduceEqDiff, Nat.reduceAdd, Nat.reduceLeDiff, hG, q1, q2, q3, hlen, e1, e3, e4, l1, c1, hi, idxA, Int.toNat_natCast]; refine hK _ _ ?_; clear hK K hG G; repeat (first | refine thenI ?_ | refine thenE ?_ | refine thenR ?_ | refine inBI ?_ | refine inBR ?_ | refine inBS ?_ | refine inBN (by decide) ?_)) | refine W_seqS ?_ | refine W_seqC ?_ | refine W_seqB ?_ | refine W_block ?_ | (refine W_skip ?_; repeat (first | refine thenI ?_ | refine thenE ?_ | refine thenR ?_ | refine inBI ?_ | refine inBR ?_ | refine inBS ?_ | refine inBN (by decide) ?_)) | (refine W_condT ?hc ?_; (case hc => (simp (disch := omega) only [go_sem, ↓reduceIte, Nat.reduceEqDiff, Nat.reduceAdd, Nat.reduceLeDiff, q1, q2, q3, hlen, e1, e3, e4, l1, c1, hi, idxA, Int.toNat_natCast]; done))) | (refine W_condF ?hc ?_; (case hc => (simp (disch := omega) only [go_sem, ↓reduceIte, Nat.reduceEqDiff, Nat.reduceAdd, Nat.reduceLeDiff, q1, q2, q3, hlen, e1, e3, e4, l1, c1, hi, idxA, Int.toNat_natCast]; done))))
    refine W_end rfl fun G K hG hK => ?_; simp (disch := omega) only [go_sem, ↓reduceIte, Nat.reduceEqDiff, Nat.reduceAdd, Nat.reduceLeDiff, hG, q1, q2, q3, hlen, e1, e3, e4, l1, c1, hi, idxA, Int.toNat_natCast, hld]
    refine w_call (ih xs[j] (List.getElem_mem hlt) st' es (hl.args.2 _ (List.getElem_mem hlt)) (by omega) hE1) (by simp (disch := omega) only [go_sem, ↓reduceIte, Nat.reduceEqDiff, q1, q2, q3, hlen, e1, e3, e4, l1, c1, hi, idxA, Int.toNat_natCast]) ?hl ?_
    case hl => first | rfl | (simp only [go_sem, List.all_cons, List.all_nil, Bool.not_false, Bool.and_self, q1, q2, q3, hlen, e1, e3, e4, l1, c1, hi, idxA, Int.toNat_natCast]; done)
    rintro r_ st' ⟨rfl, rfl⟩; refine ⟨fun e => (by cases e), ?_⟩
    have hadd : ((1 + T.countL (xs.take j) : Nat) : Int) + ((xs[j].count : Nat) : Int) = ((1 + T.countL (xs.take (j + 1)) : Nat) : Int) := by omega
    simp (disch := omega) only [go_sem, ↓reduceIte, Nat.reduceEqDiff, Nat.reduceAdd, Nat.reduceLeDiff, hG, q1, q2, q3, hlen, e1, e3, e4, l1, c1, hi, idxA, Int.toNat_natCast, hadd]; refine hK _ _ ?_; clear hK K hG G; repeat (first | refine thenI ?_ | refine thenE ?_ | refine thenR ?_ | refine inBI ?_ | refine inBR ?_ | refine inBS ?_ | refine inBN (by decide) ?_)
    repeat (first | (refine W_reg rfl fun G K hG hK => ?_; simp (disch := omega) only [go_sem, ↓reduceIte, Nat.reduceEqDiff, Nat.reduceAdd, Nat.reduceLeDiff, hG, q1, q2, q3, hlen, e1, e3, e4, l1, c1, hi, idxA, Int.toNat_natCast]; refine hK _ _ ?_; clear hK K hG G) | (refine W_end rfl fun G K hG hK => ?_; simp (disch := omega) only [go_sem, ↓reduceIte, Nat.reduceEqDiff, Nat.reduceAdd, Nat.reduceLeDiff, hG, q1, q2, q3, hlen, e1, e3, e4, l1, c1, hi, idxA, Int.toNat_natCast]; refine hK _ _ ?_; clear hK K hG G; repeat (first | refine thenI ?_ | refine thenE ?_ | refine thenR ?_ | refine inBI ?_ | refine inBR ?_ | refine inBS ?_ | refine inBN (by decide) ?_)) | refine W_seqS ?_ | refine W_seqC ?_ | refine W_seqB ?_ | refine W_block ?_ | (refine W_skip ?_; repeat (first | refine thenI ?_ | refine thenE ?_ | refine thenR ?_ | refine inBI ?_ | refine inBR ?_ | refine inBS ?_ | refine inBN (by decide) ?_)) | (refine W_condT ?hc ?_; (case hc => (simp (disch := omega) only [go_sem, ↓reduceIte, Nat.reduceEqDiff, Nat.reduceAdd, Nat.reduceLeDiff, q1, q2, q3, hlen, e1, e3, e4, l1, c1, hi, idxA, Int.toNat_natCast]; done))) | (refine W_condF ?hc ?_; (case hc => (simp (disch := omega) only [go_sem, ↓reduceIte, Nat.reduceEqDiff, Nat.reduceAdd, Nat.reduceLeDiff, q1, q2, q3, hlen, e1, e3, e4, l1, c1, hi, idxA, Int.toNat_natCast]; done))))
    refine ⟨xs.length - (j + 1), by omega, j + 1, rfl, by omega, rfl, (by (simp (disch := omega) only [go_sem, ↓reduceIte, Nat.reduceEqDiff, Nat.reduceAdd, Nat.reduceLeDiff, q1, q2, q3, hlen, e1, e3, e4, l1, c1, hi, idxA, Int.toNat_natCast]); try rfl), (by (simp (disch := omega) only [go_sem, ↓reduceIte, Nat.reduceEqDiff, Nat.reduceAdd, Nat.reduceLeDiff, q1, q2, q3, hlen, e1, e3, e4, l1, c1, hi, idxA, Int.toNat_natCast]); try rfl), (by (simp (disch := omega) only [go_sem, ↓reduceIte, Nat.reduceEqDiff, Nat.reduceAdd, Nat.reduceLeDiff, q1, q2, q3, hlen, e1, e3, e4, l1, c1, hi, idxA, Int.toNat_natCast]); try rfl), (by (simp (disch := omega) only [go_sem, ↓reduceIte, Nat.reduceEqDiff, Nat.reduceAdd, Nat.reduceLeDiff, q1, q2, q3, hlen, e1, e3, e4, l1, c1, hi, idxA, Int.toNat_natCast]); try rfl)⟩
  · have c1 : decide ((j : Int) < (xs.length : Int)) = false := by simpa using hlt
    have hjn : j = xs.length := by omega
    subst hjn
    repeat (first | (refine W_reg rfl fun G K hG hK => ?_; simp (disch := omega) only [go_sem, ↓reduceIte, Nat.reduceEqDiff, Nat.reduceAdd, Nat.reduceLeDiff, hG, q1, q2, q3, hlen, e1, e3, e4, l1, c1]; refine hK _ _ ?_; clear hK K hG G) | (refine W_end rfl fun G K hG hK => ?_; simp (disch := omega) only [go_sem, ↓reduceIte, Nat.reduceEqDiff, Nat.reduceAdd, Nat.reduceLeDiff, hG, q1, q2, q3, hlen, e1, e3, e4, l1, c1]; refine hK _ _ ?_; clear hK K hG G; repeat (first | refine thenI ?_ | refine thenE ?_ | refine thenR ?_ | refine inBI ?_ | refine inBR ?_ | refine inBS ?_ | refine inBN (by decide) ?_)) | refine W_seqS ?_ | refine W_seqC ?_ | refine W_seqB ?_ | refine W_block ?_ | (refine W_skip ?_; repeat (first | refine thenI ?_ | refine thenE ?_ | refine thenR ?_ | refine inBI ?_ | refine inBR ?_ | refine inBS ?_ | refine inBN (by decide) ?_)) | (refine W_condT ?hc ?_; (case hc => (simp (disch := omega) only [go_sem, ↓reduceIte, Nat.reduceEqDiff, Nat.reduceAdd, Nat.reduceLeDiff, q1, q2, q3, hlen, e1, e3, e4, l1, c1]; done))) | (refine W_condF ?hc ?_; (case hc => (simp (disch := omega) only [go_sem, ↓reduceIte, Nat.reduceEqDiff, Nat.reduceAdd, Nat.reduceLeDiff, q1, q2, q3, hlen, e1, e3, e4, l1, c1]; done))))
    refine W_exit ?_; repeat (first | refine thenI ?_ | refine thenE ?_ | refine thenR ?_ | refine inBI ?_ | refine inBR ?_ | refine inBS ?_ | refine inBN (by decide) ?_)
    repeat (first | (refine W_reg rfl fun G K hG hK => ?_; simp (disch := omega) only [go_sem, ↓reduceIte, Nat.reduceEqDiff, Nat.reduceAdd, Nat.reduceLeDiff, hG, q1, q2, q3, hlen, e1, e3, e4, l1, c1]; refine hK _ _ ?_; clear hK K hG G) | (refine W_end rfl fun G K hG hK => ?_; simp (disch := omega) only [go_sem, ↓reduceIte, Nat.reduceEqDiff, Nat.reduceAdd, Nat.reduceLeDiff, hG, q1, q2, q3, hlen, e1, e3, e4, l1, c1]; refine hK _ _ ?_; clear hK K hG G; repeat (first | refine thenI ?_ | refine thenE ?_ | refine thenR ?_ | refine inBI ?_ | refine inBR ?_ | refine inBS ?_ | refine inBN (by decide) ?_)) | refine W_seqS ?_ | refine W_seqC ?_ | refine W_seqB ?_ | refine W_block ?_ | (refine W_skip ?_; repeat (first | refine thenI ?_ | refine thenE ?_ | refine thenR ?_ | refine inBI ?_ | refine inBR ?_ | refine inBS ?_ | refine inBN (by decide) ?_)) | (refine W_condT ?hc ?_; (case hc => (simp (disch := omega) only [go_sem, ↓reduceIte, Nat.reduceEqDiff, Nat.reduceAdd, Nat.reduceLeDiff, q1, q2, q3, hlen, e1, e3, e4, l1, c1]; done))) | (refine W_condF ?hc ?_; (case hc => (simp (disch := omega) only [go_sem, ↓reduceIte, Nat.reduceEqDiff, Nat.reduceAdd, Nat.reduceLeDiff, q1, q2, q3, hlen, e1, e3, e4, l1, c1]; done))))
    refine W_ret ?_; try (repeat (first | refine thenI ?_ | refine thenE ?_ | refine thenR ?_ | refine inBI ?_ | refine inBR ?_ | refine inBS ?_ | refine inBN (by decide) ?_))
    refine fin1 (.inl rfl) (by (simp (disch := omega) only [go_sem, ↓reduceIte, Nat.reduceEqDiff, Nat.reduceAdd, Nat.reduceLeDiff, q1, q2, q3, hlen, e1, e3, e4, l1, c1]); try rfl) rfl ⟨by rw [hcm, List.take_length], rfl⟩
end Go.Proofs.YtkohkdlbjbbegaaDoor.AM


/- Prefixes: slices.Equal, impl.IsPrefix, spec.IsPrefix; positions of a term, plain. -/
namespace Go.Proofs.YtkohkdlbjbbegaaDoor.AM
open Go Go.Proofs
set_option linter.unusedVariables false
set_option linter.unusedSimpArgs false
set_option maxRecDepth 100000
attribute [local go_sem] List.map_cons List.map_nil List.all_cons List.all_nil Bool.and_self Option.map_some List.getElem?_toArray Option.bind_some gye_b gye_t gsk_b gsk_t gb1 gb2 gb3 gb4 bne_self_eq_false beq_self_eq_true w_guard w_nil stepV_some step_some step_some' w_move w_assign w_pick w_binOp w_unOp w_load w_fieldAddr w_indexAddr w_len w_max w_index ev_max max_int ev_index w_box w_alloc w_store w_field w_extract w_nilCheck w_convert w_buildSlice w_build ev_buildL fillL_nil fillL_cons bs0 bs1 ev_conv ev_bin ev_un ev_pick ev_load ev_fieldAddr ev_indexAddr ev_len ev_field ev_extract ev_nilCheck fr_tmp fr_int fr_bool fr_str fr_nil fr_func put_some put_none bin_lss bin_leq bin_gtr bin_geq bin_eql bin_neq bin_add bin_sub bin_mul bin_seql bin_sneq un_not pick_ ext_ loadA_p cellAt_l cellAt_h okPtr_l okPtr_h fadA_p allocA_l storeA_l cells_agg cells_int cells_str cells_sl cells_bool flat_i flat_s flat_b flat_sl flat_nil loc_agg loc_int loc_str loc_sl loc_bool loc_fn loc_ptr okv_agg okv_int okv_str okv_sl okv_bool cellsFrom splice upd_eval argEnv_zero argEnv_succ ne_eq Nat.add_one_ne_zero not_false_eq_true List.not_mem_nil and_self decide_true List.getElem?_cons_zero List.getElem?_cons_succ List.size_toArray List.length_cons List.length_nil List.take_succ_cons List.take_zero List.drop_succ_cons List.drop_zero List.cons_append List.nil_append List.drop_nil Bool.not_true Bool.not_false Bool.false_eq_true Nat.zero_add Nat.add_zero wrap_in List.toList_toArray List.mem_cons or_self or_false false_or
attribute [local go_sem] ag22 ag24 ag26 ag3 ag33 ag5 ag62 ag76 ag9 bu26 bu56 by26 by3 by33 by5 by9 el22 el24 el28 el33 el44 of26_0 of26_1 of26_2 of26_3 of56_0 of56_1 of56_2 of64_0 of64_1 ro26_0 ro26_1 ro26_2 ro3_0 ro3_1 ro3_3 ro33_0 ro33_1 ro5_0 ro5_1 ro9_0 ro9_1 ro9_2 ro9_3 ro9_4 sz22 sz24 sz26 sz3 sz33 sz5 sz62 sz76 sz9 ze26 ze3 ze33 ze5 ze64 ze75 ze88 ze9
-- AUTO

theorem eqInts_ok (xs ys : List Int) (st : St) (s1 s2 : Value) (hb : xs.length ≤ 1073741824) (hb2 : ys.length ≤ 1073741824) (h1 : Rw st xs s1) (h2 : Rw st ys s2) :
    CallS Tryd.prog 19 [s1, s2] st fun r st2 => r = .bool (decide (xs = ys)) ∧ st2 = st := by
  refine CallS_of_W [] 26 Tryd.func19 rfl rfl rfl rfl (by simp) ?_
  have q1 := h1.notLoc.1
  have q2 := h2.notLoc.1
  have hlen1 : lenE Tryd.prog 33 s1 = some (.int .i64 xs.length) := row_len h1 Tryd.underlying33
  have hlen2 : lenE Tryd.prog 33 s2 = some (.int .i64 ys.length) := row_len h2 Tryd.underlying33
  by_cases hl : ¬ xs.length = ys.length
  · have c1 : ((xs.length : Int) != (ys.length : Int)) = true := by simp; omega
    repeat (first | (refine W_reg rfl fun G K hG hK => ?_; simp (disch := omega) only [go_sem, ↓reduceIte, Nat.reduceEqDiff, Nat.reduceAdd, Nat.reduceLeDiff, hG, q1, q2, hlen1, hlen2, c1]; refine hK _ _ ?_; clear hK K hG G) | (refine W_end rfl fun G K hG hK => ?_; simp (disch := omega) only [go_sem, ↓reduceIte, Nat.reduceEqDiff, Nat.reduceAdd, Nat.reduceLeDiff, hG, q1, q2, hlen1, hlen2, c1]; refine hK _ _ ?_; clear hK K hG G; repeat (first | refine thenI ?_ | refine thenE ?_ | refine thenR ?_ | refine inBI ?_ | refine inBR ?_ | refine inBS ?_ | refine inBN (by decide) ?_)) | refine W_seqS ?_ | refine W_seqC ?_ | refine W_seqB ?_ | refine W_block ?_ | (refine W_skip ?_; repeat (first | refine thenI ?_ | refine thenE ?_ | refine thenR ?_ | refine inBI ?_ | refine inBR ?_ | refine inBS ?_ | refine inBN (by decide) ?_)) | (refine W_condT ?hc ?_; (case hc => (simp (disch := omega) only [go_sem, ↓reduceIte, Nat.reduceEqDiff, Nat.reduceAdd, Nat.reduceLeDiff, q1, q2, hlen1, hlen2, c1]; done))) | (refine W_condF ?hc ?_; (case hc => (simp (disch := omega) only [go_sem, ↓reduceIte, Nat.reduceEqDiff, Nat.reduceAdd, Nat.reduceLeDiff, q1, q2, hlen1, hlen2, c1]; done))))
    refine W_ret ?_; try (repeat (first | refine thenI ?_ | refine thenE ?_ | refine thenR ?_ | refine inBI ?_ | refine inBR ?_ | refine inBS ?_ | refine inBN (by decide) ?_))
    refine fin1 (.inl rfl) (by (simp (disch := omega) only [go_sem, ↓reduceIte, Nat.reduceEqDiff, Nat.reduceAdd, Nat.reduceLeDiff, q1, q2, hlen1, hlen2]); try rfl) rfl ⟨by rw [decide_eq_false (fun e => hl (by rw [e]))], rfl⟩
  · have hl : xs.length = ys.length := Decidable.not_not.1 hl
    have c1 : ((xs.length : Int) != (ys.length : Int)) = false := by simp; omega
    repeat (first | (refine W_reg rfl fun G K hG hK => ?_; simp (disch := omega) only [go_sem, ↓reduceIte, Nat.reduceEqDiff, Nat.reduceAdd, Nat.reduceLeDiff, hG, q1, q2, hlen1, hlen2, c1]; refine hK _ _ ?_; clear hK K hG G) | (refine W_end rfl fun G K hG hK => ?_; simp (disch := omega) only [go_sem, ↓reduceIte, Nat.reduceEqDiff, Nat.reduceAdd, Nat.reduceLeDiff, hG, q1, q2, hlen1, hlen2, c1]; refine hK _ _ ?_; clear hK K hG G; repeat (first | refine thenI ?_ | refine thenE ?_ | refine thenR ?_ | refine inBI ?_ | refine inBR ?_ | refine inBS ?_ | refine inBN (by decide) ?_)) | refine W_seqS ?_ | refine W_seqC ?_ | refine W_seqB ?_ | refine W_block ?_ | (refine W_skip ?_; repeat (first | refine thenI ?_ | refine thenE ?_ | refine thenR ?_ | refine inBI ?_ | refine inBR ?_ | refine inBS ?_ | refine inBN (by decide) ?_)) | (refine W_condT ?hc ?_; (case hc => (simp (disch := omega) only [go_sem, ↓reduceIte, Nat.reduceEqDiff, Nat.reduceAdd, Nat.reduceLeDiff, q1, q2, hlen1, hlen2, c1]; done))) | (refine W_condF ?hc ?_; (case hc => (simp (disch := omega) only [go_sem, ↓reduceIte, Nat.reduceEqDiff, Nat.reduceAdd, Nat.reduceLeDiff, q1, q2, hlen1, hlen2, c1]; done))))
    refine W_loop (fun d fr st' => ∃ (j : Nat) , d = xs.length - j ∧ j ≤ xs.length ∧ (st = st') ∧ (xs.take j = ys.take j) ∧ (fr.env 0 = s1) ∧ (fr.env 1 = s2) ∧ (fr.env 12 = .int .i64 xs.length) ∧ (fr.env 13 = .int .i64 j)) (xs.length) ?_ ?_
    · exact ⟨0, by omega, by omega, rfl, by simp, (by (simp (disch := omega) only [go_sem, ↓reduceIte, Nat.reduceEqDiff, Nat.reduceAdd, Nat.reduceLeDiff, q1, q2, hlen1, hlen2]); try rfl), (by (simp (disch := omega) only [go_sem, ↓reduceIte, Nat.reduceEqDiff, Nat.reduceAdd, Nat.reduceLeDiff, q1, q2, hlen1, hlen2]); try rfl), (by (simp (disch := omega) only [go_sem, ↓reduceIte, Nat.reduceEqDiff, Nat.reduceAdd, Nat.reduceLeDiff, q1, q2, hlen1, hlen2]); try rfl), (by (simp (disch := omega) only [go_sem, ↓reduceIte, Nat.reduceEqDiff, Nat.reduceAdd, Nat.reduceLeDiff, q1, q2, hlen1, hlen2]); try rfl)⟩
    rintro d ⟨env, loc⟩ st' ⟨j, hd, hj, hst, heq, e0, e1, e12, e13⟩
    simp only at e0 e1 e12 e13
    subst hst
    by_cases hlt : j < xs.length
    · have c1 : decide ((j : Int) < (xs.length : Int)) = true := by simpa using hlt
      have hi := idxOk hlt
      have hx : xs[j]? = some xs[j] := List.getElem?_eq_getElem hlt
      have htk : xs.take (j + 1) = xs.take j ++ [xs[j]] := List.take_succ_eq_append_getElem hlt
      have hlt2 : j < ys.length := by omega
      have hy : ys[j]? = some ys[j] := List.getElem?_eq_getElem hlt2
      obtain ⟨i1, o1, c1', rfl, hce1⟩ := row_atI h1 hx
      obtain ⟨i2, o2, c2', rfl, hce2⟩ := row_atI h2 hy
      have hi2 := idxOk hlt2
      have htk2 : ys.take (j + 1) = ys.take j ++ [ys[j]] := List.take_succ_eq_append_getElem hlt2
      repeat (first | (refine W_reg rfl fun G K hG hK => ?_; simp (disch := omega) only [go_sem, ↓reduceIte, Nat.reduceEqDiff, Nat.reduceAdd, Nat.reduceLeDiff, hG, q1, q2, hlen1, hlen2, e0, e1, e12, e13, c1, hi, idxA, Int.toNat_natCast]; refine hK _ _ ?_; clear hK K hG G) | (refine W_end rfl fun G K hG hK => ?_; simp (disch := omega) only [go_sem, ↓reduceIte, Nat.reduceEqDiff, Nat.reduceAdd, Nat.reduceLeDiff, hG, q1, q2, hlen1, hlen2, e0, e1, e12, e13, c1, hi, idxA, Int.toNat_natCast]; refine hK _ _ ?_; clear hK K hG G; repeat (first | refine thenI ?_ | refine thenE ?_ | refine thenR ?_ | refine inBI ?_ | refine inBR ?_ | refine inBS ?_ | refine inBN (by decide) ?_)) | refine W_seqS ?_ | refine W_seqC ?_ | refine W_seqB ?_ | refine W_block ?_ | (refine W_skip ?_; repeat (first | refine thenI ?_ | refine thenE ?_ | refine thenR ?_ | refine inBI ?_ | refine inBR ?_ | refine inBS ?_ | refine inBN (by decide) ?_)) | (refine W_condT ?hc ?_; (case hc => (simp (disch := omega) only [go_sem, ↓reduceIte, Nat.reduceEqDiff, Nat.reduceAdd, Nat.reduceLeDiff, q1, q2, hlen1, hlen2, e0, e1, e12, e13, c1, hi, idxA, Int.toNat_natCast]; done))) | (refine W_condF ?hc ?_; (case hc => (simp (disch := omega) only [go_sem, ↓reduceIte, Nat.reduceEqDiff, Nat.reduceAdd, Nat.reduceLeDiff, q1, q2, hlen1, hlen2, e0, e1, e12, e13, c1, hi, idxA, Int.toNat_natCast]; done))))
      by_cases he : xs[j] = ys[j]
      · have c3 : (xs[j] != ys[j]) = false := by simpa using he
        (repeat (first | refine W_seqS ?_ | refine W_seqC ?_ | refine W_seqB ?_ | refine W_block ?_)); refine W_regD mixed [] [(0,false),(1,false),(2,false),(3,false),(4,false),(5,false),(6,false),(7,false),(8,false)] rfl (by decide +kernel) fun G K hG hK => ?_; simp only [pickOps, List.filterMap_cons, List.filterMap_nil, List.getElem?_cons_zero, List.getElem?_cons_succ, Option.map_some]; simp (disch := omega) only [go_sem, ↓reduceIte, Nat.reduceEqDiff, Nat.reduceAdd, Nat.reduceLeDiff, hG, q1, q2, hlen1, hlen2, e0, e1, e12, e13, c1, hi, idxA, Int.toNat_natCast, hce1, hce2, hi2, c3]
        refine hK _ _ ?_; clear hK K hG G; repeat (first | refine thenI ?_ | refine thenE ?_ | refine thenR ?_ | refine inBI ?_ | refine inBR ?_ | refine inBS ?_ | refine inBN (by decide) ?_)
        repeat (first | (refine W_reg rfl fun G K hG hK => ?_; simp (disch := omega) only [go_sem, ↓reduceIte, Nat.reduceEqDiff, Nat.reduceAdd, Nat.reduceLeDiff, hG, q1, q2, hlen1, hlen2, e0, e1, e12, e13, c1, hi, idxA, Int.toNat_natCast]; refine hK _ _ ?_; clear hK K hG G) | (refine W_end rfl fun G K hG hK => ?_; simp (disch := omega) only [go_sem, ↓reduceIte, Nat.reduceEqDiff, Nat.reduceAdd, Nat.reduceLeDiff, hG, q1, q2, hlen1, hlen2, e0, e1, e12, e13, c1, hi, idxA, Int.toNat_natCast]; refine hK _ _ ?_; clear hK K hG G; repeat (first | refine thenI ?_ | refine thenE ?_ | refine thenR ?_ | refine inBI ?_ | refine inBR ?_ | refine inBS ?_ | refine inBN (by decide) ?_)) | refine W_seqS ?_ | refine W_seqC ?_ | refine W_seqB ?_ | refine W_block ?_ | (refine W_skip ?_; repeat (first | refine thenI ?_ | refine thenE ?_ | refine thenR ?_ | refine inBI ?_ | refine inBR ?_ | refine inBS ?_ | refine inBN (by decide) ?_)) | (refine W_condT ?hc ?_; (case hc => (simp (disch := omega) only [go_sem, ↓reduceIte, Nat.reduceEqDiff, Nat.reduceAdd, Nat.reduceLeDiff, q1, q2, hlen1, hlen2, e0, e1, e12, e13, c1, hi, idxA, Int.toNat_natCast]; done))) | (refine W_condF ?hc ?_; (case hc => (simp (disch := omega) only [go_sem, ↓reduceIte, Nat.reduceEqDiff, Nat.reduceAdd, Nat.reduceLeDiff, q1, q2, hlen1, hlen2, e0, e1, e12, e13, c1, hi, idxA, Int.toNat_natCast]; done))))
        refine ⟨xs.length - (j + 1), by omega, j + 1, rfl, by omega, rfl, by rw [htk, htk2, heq, he], (by (simp (disch := omega) only [go_sem, ↓reduceIte, Nat.reduceEqDiff, Nat.reduceAdd, Nat.reduceLeDiff, q1, q2, hlen1, hlen2, e0, e1, e12, e13, c1, hi, idxA, Int.toNat_natCast]); try rfl), (by (simp (disch := omega) only [go_sem, ↓reduceIte, Nat.reduceEqDiff, Nat.reduceAdd, Nat.reduceLeDiff, q1, q2, hlen1, hlen2, e0, e1, e12, e13, c1, hi, idxA, Int.toNat_natCast]); try rfl), (by (simp (disch := omega) only [go_sem, ↓reduceIte, Nat.reduceEqDiff, Nat.reduceAdd, Nat.reduceLeDiff, q1, q2, hlen1, hlen2, e0, e1, e12, e13, c1, hi, idxA, Int.toNat_natCast]); try rfl), (by (simp (disch := omega) only [go_sem, ↓reduceIte, Nat.reduceEqDiff, Nat.reduceAdd, Nat.reduceLeDiff, q1, q2, hlen1, hlen2, e0, e1, e12, e13, c1, hi, idxA, Int.toNat_natCast]); try rfl)⟩
      · have c3 : (xs[j] != ys[j]) = true := by simpa using he
        (repeat (first | refine W_seqS ?_ | refine W_seqC ?_ | refine W_seqB ?_ | refine W_block ?_)); refine W_regD mixed [] [(0,false),(1,false),(2,false),(3,false),(4,false),(5,false),(6,false),(7,false),(8,false)] rfl (by decide +kernel) fun G K hG hK => ?_; simp only [pickOps, List.filterMap_cons, List.filterMap_nil, List.getElem?_cons_zero, List.getElem?_cons_succ, Option.map_some]; simp (disch := omega) only [go_sem, ↓reduceIte, Nat.reduceEqDiff, Nat.reduceAdd, Nat.reduceLeDiff, hG, q1, q2, hlen1, hlen2, e0, e1, e12, e13, c1, hi, idxA, Int.toNat_natCast, hce1, hce2, hi2, c3]
        refine hK _ _ ?_; clear hK K hG G; repeat (first | refine thenI ?_ | refine thenE ?_ | refine thenR ?_ | refine inBI ?_ | refine inBR ?_ | refine inBS ?_ | refine inBN (by decide) ?_)
        repeat (first | (refine W_reg rfl fun G K hG hK => ?_; simp (disch := omega) only [go_sem, ↓reduceIte, Nat.reduceEqDiff, Nat.reduceAdd, Nat.reduceLeDiff, hG, q1, q2, hlen1, hlen2, e0, e1, e12, e13, c1, hi, idxA, Int.toNat_natCast]; refine hK _ _ ?_; clear hK K hG G) | (refine W_end rfl fun G K hG hK => ?_; simp (disch := omega) only [go_sem, ↓reduceIte, Nat.reduceEqDiff, Nat.reduceAdd, Nat.reduceLeDiff, hG, q1, q2, hlen1, hlen2, e0, e1, e12, e13, c1, hi, idxA, Int.toNat_natCast]; refine hK _ _ ?_; clear hK K hG G; repeat (first | refine thenI ?_ | refine thenE ?_ | refine thenR ?_ | refine inBI ?_ | refine inBR ?_ | refine inBS ?_ | refine inBN (by decide) ?_)) | refine W_seqS ?_ | refine W_seqC ?_ | refine W_seqB ?_ | refine W_block ?_ | (refine W_skip ?_; repeat (first | refine thenI ?_ | refine thenE ?_ | refine thenR ?_ | refine inBI ?_ | refine inBR ?_ | refine inBS ?_ | refine inBN (by decide) ?_)) | (refine W_condT ?hc ?_; (case hc => (simp (disch := omega) only [go_sem, ↓reduceIte, Nat.reduceEqDiff, Nat.reduceAdd, Nat.reduceLeDiff, q1, q2, hlen1, hlen2, e0, e1, e12, e13, c1, hi, idxA, Int.toNat_natCast]; done))) | (refine W_condF ?hc ?_; (case hc => (simp (disch := omega) only [go_sem, ↓reduceIte, Nat.reduceEqDiff, Nat.reduceAdd, Nat.reduceLeDiff, q1, q2, hlen1, hlen2, e0, e1, e12, e13, c1, hi, idxA, Int.toNat_natCast]; done))))
        refine W_ret ?_; try (repeat (first | refine thenI ?_ | refine thenE ?_ | refine thenR ?_ | refine inBI ?_ | refine inBR ?_ | refine inBS ?_ | refine inBN (by decide) ?_))
        refine fin1 (.inl rfl) (by (simp (disch := omega) only [go_sem, ↓reduceIte, Nat.reduceEqDiff, Nat.reduceAdd, Nat.reduceLeDiff, q1, q2, hlen1, hlen2, e0, e1, e12, e13, c1, hi, idxA, Int.toNat_natCast]); try rfl) rfl ⟨?_, rfl⟩
        have : xs ≠ ys := fun e => he (by subst e; rfl)
        rw [decide_eq_false this]
    · have c1 : decide ((j : Int) < (xs.length : Int)) = false := by simpa using hlt
      have hjn : j = xs.length := by omega
      subst hjn
      rw [List.take_length, hl, List.take_length] at heq
      repeat (first | (refine W_reg rfl fun G K hG hK => ?_; simp (disch := omega) only [go_sem, ↓reduceIte, Nat.reduceEqDiff, Nat.reduceAdd, Nat.reduceLeDiff, hG, q1, q2, hlen1, hlen2, e0, e1, e12, e13, c1]; refine hK _ _ ?_; clear hK K hG G) | (refine W_end rfl fun G K hG hK => ?_; simp (disch := omega) only [go_sem, ↓reduceIte, Nat.reduceEqDiff, Nat.reduceAdd, Nat.reduceLeDiff, hG, q1, q2, hlen1, hlen2, e0, e1, e12, e13, c1]; refine hK _ _ ?_; clear hK K hG G; repeat (first | refine thenI ?_ | refine thenE ?_ | refine thenR ?_ | refine inBI ?_ | refine inBR ?_ | refine inBS ?_ | refine inBN (by decide) ?_)) | refine W_seqS ?_ | refine W_seqC ?_ | refine W_seqB ?_ | refine W_block ?_ | (refine W_skip ?_; repeat (first | refine thenI ?_ | refine thenE ?_ | refine thenR ?_ | refine inBI ?_ | refine inBR ?_ | refine inBS ?_ | refine inBN (by decide) ?_)) | (refine W_condT ?hc ?_; (case hc => (simp (disch := omega) only [go_sem, ↓reduceIte, Nat.reduceEqDiff, Nat.reduceAdd, Nat.reduceLeDiff, q1, q2, hlen1, hlen2, e0, e1, e12, e13, c1]; done))) | (refine W_condF ?hc ?_; (case hc => (simp (disch := omega) only [go_sem, ↓reduceIte, Nat.reduceEqDiff, Nat.reduceAdd, Nat.reduceLeDiff, q1, q2, hlen1, hlen2, e0, e1, e12, e13, c1]; done))))
      refine W_exit ?_; repeat (first | refine thenI ?_ | refine thenE ?_ | refine thenR ?_ | refine inBI ?_ | refine inBR ?_ | refine inBS ?_ | refine inBN (by decide) ?_)
      repeat (first | (refine W_reg rfl fun G K hG hK => ?_; simp (disch := omega) only [go_sem, ↓reduceIte, Nat.reduceEqDiff, Nat.reduceAdd, Nat.reduceLeDiff, hG, q1, q2, hlen1, hlen2, e0, e1, e12, e13, c1]; refine hK _ _ ?_; clear hK K hG G) | (refine W_end rfl fun G K hG hK => ?_; simp (disch := omega) only [go_sem, ↓reduceIte, Nat.reduceEqDiff, Nat.reduceAdd, Nat.reduceLeDiff, hG, q1, q2, hlen1, hlen2, e0, e1, e12, e13, c1]; refine hK _ _ ?_; clear hK K hG G; repeat (first | refine thenI ?_ | refine thenE ?_ | refine thenR ?_ | refine inBI ?_ | refine inBR ?_ | refine inBS ?_ | refine inBN (by decide) ?_)) | refine W_seqS ?_ | refine W_seqC ?_ | refine W_seqB ?_ | refine W_block ?_ | (refine W_skip ?_; repeat (first | refine thenI ?_ | refine thenE ?_ | refine thenR ?_ | refine inBI ?_ | refine inBR ?_ | refine inBS ?_ | refine inBN (by decide) ?_)) | (refine W_condT ?hc ?_; (case hc => (simp (disch := omega) only [go_sem, ↓reduceIte, Nat.reduceEqDiff, Nat.reduceAdd, Nat.reduceLeDiff, q1, q2, hlen1, hlen2, e0, e1, e12, e13, c1]; done))) | (refine W_condF ?hc ?_; (case hc => (simp (disch := omega) only [go_sem, ↓reduceIte, Nat.reduceEqDiff, Nat.reduceAdd, Nat.reduceLeDiff, q1, q2, hlen1, hlen2, e0, e1, e12, e13, c1]; done))))
      refine W_ret ?_; try (repeat (first | refine thenI ?_ | refine thenE ?_ | refine thenR ?_ | refine inBI ?_ | refine inBR ?_ | refine inBS ?_ | refine inBN (by decide) ?_))
      refine fin1 (.inl rfl) (by (simp (disch := omega) only [go_sem, ↓reduceIte, Nat.reduceEqDiff, Nat.reduceAdd, Nat.reduceLeDiff, q1, q2, hlen1, hlen2, e0, e1, e12, e13, c1]); try rfl) rfl ⟨by rw [decide_eq_true heq], rfl⟩
/-- Is it a prefix? -/
def isPre (p q : List Int) : Bool := decide (p = q.take p.length)
theorem isPre_long {p q : List Int} (h : q.length < p.length) : isPre p q = false := decide_eq_false fun e => by
  have := congrArg List.length e
  rw [List.length_take] at this
  omega
theorem slice_nil0 {P : Program} {t e : TypeId} {n : Nat} (ht : P.underlying t = some (.slice e)) (hs : szA P e = some n) : flatRun P (Instr.sliceAt t (.slice none 0 0) none (some (.int .i64 0)) none) = some (.slice none 0 0) := by
  have hz : pureRun P (sizeOf e) = some n := by
    unfold szA at hs
    cases hi : P.info? e with
    | none => rw [hi] at hs; cases hs
    | some i =>
      rw [hi] at hs
      simp only [Option.map_some, Option.some.injEq] at hs
      subst hs
      show pureRun P (typeInfo e >>= fun i => pure i.size) = _
      rw [pureRun_bind]
      have : pureRun P (typeInfo e) = some i := by
        show pureRun P (program >>= fun p => match p.info? e with | some i => pure i | none => _) = _
        rw [pureRun_bind]
        show (some P).bind _ = _
        simp only [Option.bind_some, hi]
        rfl
      rw [this]
      rfl
  have hb : pureRun P (Instr.sliceBounds true 0 0 none (some (.int .i64 0)) none) = some (0, 0, 0) := rfl
  have hc : pureRun P (Instr.sliceAt t (.slice none 0 0) none (some (.int .i64 0)) none) = some (.slice none 0 0) := by
    unfold Instr.sliceAt
    rw [pureRun_bind, pureRun_und ht]
    simp only [Option.bind_some]
    unfold Instr.slice
    rw [pureRun_bind, pureRun_und ht]
    simp only [Option.bind_some]
    rw [pureRun_bind, hb]
    simp only [Option.bind_some]
    rw [pureRun_bind, hz]
    rfl
  unfold flatRun
  rw [hc]; rfl
/-- The beginning of a row. -/
theorem row_take {α : Type} {E : α → List Value → Prop} {sz : Nat} {st : St} {xs : List α} {i o c : Nat} (h : Row E (sz + 1) st xs (.slice (some ⟨i, o, none⟩) xs.length c)) {P : Program} {t e : TypeId} (hu : P.underlying t = some (.slice e)) (hs : szA P e = some (sz + 1)) {k : Nat} (hk : k ≤ xs.length) :
    sliceA P t (.slice (some ⟨i, o, none⟩) xs.length c) none (some (.int .i64 k)) = some (.slice (some ⟨i, o, none⟩) k k) ∧ Row E (sz + 1) st (xs.take k) (.slice (some ⟨i, o, none⟩) k k) := by
  have he : elemA P t = some e := by unfold elemA; rw [hu]
  refine ⟨?_, ?_⟩
  · unfold sliceA
    simp only [he, hs, Int.toNat_natCast]
    rw [if_pos (by omega)]
    simp
  · rcases h with ⟨hem, rfl⟩ | ⟨i', o', c', hv, h⟩
    · have hk0 : k = 0 := by simpa using hk
      subst hk0
      exact .inr ⟨i, o, 0, rfl, fun j x hx => by simp at hx⟩
    · cases hv
      refine .inr ⟨i, o, k, by rw [List.length_take, Nat.min_eq_left hk], fun j x hx => ?_⟩
      rw [List.getElem?_take] at hx
      split at hx
      · exact h j x hx
      · cases hx
theorem implPre_ok (p q : List Int) (st : St) (s1 s2 : Value) (hb : p.length ≤ 1073741824) (hb2 : q.length ≤ 1073741824) (h1 : Rw st p s1) (h2 : Rw st q s2) (hsp : s2 ≠ .slice (some ⟨0, 0, some 0⟩) 0 0) :
    CallS Tryd.prog 9 [s1, s2] st fun r st2 => r = .bool (isPre p q) ∧ st2 = st := by
  refine CallS_of_W [] 18 Tryd.func9 rfl rfl rfl rfl (by simp) ?_
  have q1 := h1.notLoc.1
  have q2 := h2.notLoc.1
  have hlen1 : lenE Tryd.prog 33 s1 = some (.int .i64 p.length) := row_len h1 Tryd.underlying33
  have hlen2 : lenE Tryd.prog 33 s2 = some (.int .i64 q.length) := row_len h2 Tryd.underlying33
  by_cases hl : p.length ≤ q.length
  · have c1 : decide ((p.length : Int) ≤ (q.length : Int)) = true := decide_eq_true (by omega)
    have hsl : ∃ s3, isLoc s3 = false ∧ Rw st (q.take p.length) s3 ∧ ((flat s2 = false ∧ sliceA Tryd.prog 33 s2 none (some (.int .i64 p.length)) = some s3) ∨ (s2 = .slice none 0 0 ∧ p = [] ∧ s3 = .slice none 0 0)) := by
      rcases h2 with ⟨rfl | rfl, rfl⟩ | ⟨i, o, c, rfl, h⟩
      · have hp : p = [] := List.eq_nil_of_length_eq_zero (by simpa using hl)
        exact ⟨_, rfl, by simp; exact Rw.nil st, .inr ⟨rfl, hp, rfl⟩⟩
      · exact absurd rfl hsp
      · have h3 := row_take (P := Tryd.prog) (t := 33) (e := 3) (sz := 0) (.inr ⟨i, o, c, rfl, h⟩) Tryd.underlying33 sz3 hl
        exact ⟨_, rfl, h3.2, .inl ⟨rfl, h3.1⟩⟩
    obtain ⟨s3, l3, r3, hcase⟩ := hsl
    rcases hcase with ⟨f2, hs3⟩ | ⟨rfl, rfl, rfl⟩
    · repeat (first | (refine W_reg rfl fun G K hG hK => ?_; simp (disch := omega) only [go_sem, ↓reduceIte, Nat.reduceEqDiff, Nat.reduceAdd, Nat.reduceLeDiff, hG, q1, q2, hlen1, hlen2]; refine hK _ _ ?_; clear hK K hG G) | (refine W_end rfl fun G K hG hK => ?_; simp (disch := omega) only [go_sem, ↓reduceIte, Nat.reduceEqDiff, Nat.reduceAdd, Nat.reduceLeDiff, hG, q1, q2, hlen1, hlen2]; refine hK _ _ ?_; clear hK K hG G; repeat (first | refine thenI ?_ | refine thenE ?_ | refine thenR ?_ | refine inBI ?_ | refine inBR ?_ | refine inBS ?_ | refine inBN (by decide) ?_)) | refine W_seqS ?_ | refine W_seqC ?_ | refine W_seqB ?_ | refine W_block ?_ | (refine W_skip ?_; repeat (first | refine thenI ?_ | refine thenE ?_ | refine thenR ?_ | refine inBI ?_ | refine inBR ?_ | refine inBS ?_ | refine inBN (by decide) ?_)) | (refine W_condT ?hc ?_; (case hc => (simp (disch := omega) only [go_sem, ↓reduceIte, Nat.reduceEqDiff, Nat.reduceAdd, Nat.reduceLeDiff, q1, q2, hlen1, hlen2]; done))) | (refine W_condF ?hc ?_; (case hc => (simp (disch := omega) only [go_sem, ↓reduceIte, Nat.reduceEqDiff, Nat.reduceAdd, Nat.reduceLeDiff, q1, q2, hlen1, hlen2]; done))))
      (repeat (first | refine W_seqS ?_ | refine W_seqC ?_ | refine W_seqB ?_ | refine W_block ?_)); refine W_reg rfl fun G K hG hK => ?_; simp (disch := omega) only [go_sem, ↓reduceIte, Nat.reduceEqDiff, Nat.reduceAdd, Nat.reduceLeDiff, hG, q1, q2, hlen1, hlen2, c1, w_slice, ev_slice, f2, hs3, Bool.false_and, Option.all_none, Option.map_none, Option.all_some, Option.map_some]
      refine w_call (eqInts_ok p (q.take p.length) st s1 s3 hb (by rw [List.length_take]; omega) h1 r3) (by simp (disch := omega) only [go_sem, ↓reduceIte, Nat.reduceEqDiff, q1, q2, hlen1, hlen2, l3]) ?hl ?_
      case hl => first | rfl | (simp only [go_sem, List.all_cons, List.all_nil, Bool.not_false, Bool.and_self, q1, q2, hlen1, hlen2, l3]; done)
      rintro r_ st ⟨rfl, rfl⟩; refine ⟨fun e => (by cases e), ?_⟩
      simp (disch := omega) only [go_sem, ↓reduceIte, Nat.reduceEqDiff, Nat.reduceAdd, Nat.reduceLeDiff, hG, q1, q2, hlen1, hlen2]; refine hK _ _ ?_; clear hK K hG G; repeat (first | refine thenI ?_ | refine thenE ?_ | refine thenR ?_ | refine inBI ?_ | refine inBR ?_ | refine inBS ?_ | refine inBN (by decide) ?_)
      refine W_ret ?_; try (repeat (first | refine thenI ?_ | refine thenE ?_ | refine thenR ?_ | refine inBI ?_ | refine inBR ?_ | refine inBS ?_ | refine inBN (by decide) ?_))
      refine fin1 (.inl rfl) (by (simp (disch := omega) only [go_sem, ↓reduceIte, Nat.reduceEqDiff, Nat.reduceAdd, Nat.reduceLeDiff, q1, q2, hlen1, hlen2]); try rfl) rfl ⟨rfl, rfl⟩
    · have hn0 : flatRun Tryd.prog (Instr.sliceAt 33 (.slice none 0 0) none (some (.int .i64 ((0 : Nat) : Int))) none) = some (.slice none 0 0) := slice_nil0 Tryd.underlying33 sz3
      have hn1 : flatRun Tryd.prog (Instr.sliceAt 33 (.slice none 0 0) none (some (.int .i64 0)) none) = some (.slice none 0 0) := slice_nil0 Tryd.underlying33 sz3
      have c2 : decide (((0 : Nat) : Int) ≤ (q.length : Int)) = true := c1
      repeat (first | (refine W_reg rfl fun G K hG hK => ?_; simp (disch := omega) only [go_sem, ↓reduceIte, Nat.reduceEqDiff, Nat.reduceAdd, Nat.reduceLeDiff, hG, q1, q2, hlen1, hlen2]; refine hK _ _ ?_; clear hK K hG G) | (refine W_end rfl fun G K hG hK => ?_; simp (disch := omega) only [go_sem, ↓reduceIte, Nat.reduceEqDiff, Nat.reduceAdd, Nat.reduceLeDiff, hG, q1, q2, hlen1, hlen2]; refine hK _ _ ?_; clear hK K hG G; repeat (first | refine thenI ?_ | refine thenE ?_ | refine thenR ?_ | refine inBI ?_ | refine inBR ?_ | refine inBS ?_ | refine inBN (by decide) ?_)) | refine W_seqS ?_ | refine W_seqC ?_ | refine W_seqB ?_ | refine W_block ?_ | (refine W_skip ?_; repeat (first | refine thenI ?_ | refine thenE ?_ | refine thenR ?_ | refine inBI ?_ | refine inBR ?_ | refine inBS ?_ | refine inBN (by decide) ?_)) | (refine W_condT ?hc ?_; (case hc => (simp (disch := omega) only [go_sem, ↓reduceIte, Nat.reduceEqDiff, Nat.reduceAdd, Nat.reduceLeDiff, q1, q2, hlen1, hlen2]; done))) | (refine W_condF ?hc ?_; (case hc => (simp (disch := omega) only [go_sem, ↓reduceIte, Nat.reduceEqDiff, Nat.reduceAdd, Nat.reduceLeDiff, q1, q2, hlen1, hlen2]; done))))
      (repeat (first | refine W_seqS ?_ | refine W_seqC ?_ | refine W_seqB ?_ | refine W_block ?_)); refine W_reg rfl fun G K hG hK => ?_; simp (disch := omega) only [go_sem, ↓reduceIte, Nat.reduceEqDiff, Nat.reduceAdd, Nat.reduceLeDiff, hG, q1, q2, hlen1, hlen2, c2, w_slice, ev_slice, flat_nil, flat_i, hn0, hn1, Option.all_none, Option.map_none, Option.all_some, Option.map_some]
      refine w_call (eqInts_ok [] (q.take 0) st s1 (.slice none 0 0) hb (by simp) h1 r3) (by simp (disch := omega) only [go_sem, ↓reduceIte, Nat.reduceEqDiff, q1, q2, hlen1, hlen2, l3]) ?hl ?_
      case hl => first | rfl | (simp only [go_sem, List.all_cons, List.all_nil, Bool.not_false, Bool.and_self, q1, q2, hlen1, hlen2, l3]; done)
      rintro r_ st ⟨rfl, rfl⟩; refine ⟨fun e => (by cases e), ?_⟩
      simp (disch := omega) only [go_sem, ↓reduceIte, Nat.reduceEqDiff, Nat.reduceAdd, Nat.reduceLeDiff, hG, q1, q2, hlen1, hlen2]; refine hK _ _ ?_; clear hK K hG G; repeat (first | refine thenI ?_ | refine thenE ?_ | refine thenR ?_ | refine inBI ?_ | refine inBR ?_ | refine inBS ?_ | refine inBN (by decide) ?_)
      refine W_ret ?_; try (repeat (first | refine thenI ?_ | refine thenE ?_ | refine thenR ?_ | refine inBI ?_ | refine inBR ?_ | refine inBS ?_ | refine inBN (by decide) ?_))
      refine fin1 (.inl rfl) (by (simp (disch := omega) only [go_sem, ↓reduceIte, Nat.reduceEqDiff, Nat.reduceAdd, Nat.reduceLeDiff, q1, q2, hlen1, hlen2]); try rfl) rfl ⟨rfl, rfl⟩
  · have c1 : decide ((p.length : Int) ≤ (q.length : Int)) = false := decide_eq_false (by omega)
    repeat (first | (refine W_reg rfl fun G K hG hK => ?_; simp (disch := omega) only [go_sem, ↓reduceIte, Nat.reduceEqDiff, Nat.reduceAdd, Nat.reduceLeDiff, hG, q1, q2, hlen1, hlen2, c1]; refine hK _ _ ?_; clear hK K hG G) | (refine W_end rfl fun G K hG hK => ?_; simp (disch := omega) only [go_sem, ↓reduceIte, Nat.reduceEqDiff, Nat.reduceAdd, Nat.reduceLeDiff, hG, q1, q2, hlen1, hlen2, c1]; refine hK _ _ ?_; clear hK K hG G; repeat (first | refine thenI ?_ | refine thenE ?_ | refine thenR ?_ | refine inBI ?_ | refine inBR ?_ | refine inBS ?_ | refine inBN (by decide) ?_)) | refine W_seqS ?_ | refine W_seqC ?_ | refine W_seqB ?_ | refine W_block ?_ | (refine W_skip ?_; repeat (first | refine thenI ?_ | refine thenE ?_ | refine thenR ?_ | refine inBI ?_ | refine inBR ?_ | refine inBS ?_ | refine inBN (by decide) ?_)) | (refine W_condT ?hc ?_; (case hc => (simp (disch := omega) only [go_sem, ↓reduceIte, Nat.reduceEqDiff, Nat.reduceAdd, Nat.reduceLeDiff, q1, q2, hlen1, hlen2, c1]; done))) | (refine W_condF ?hc ?_; (case hc => (simp (disch := omega) only [go_sem, ↓reduceIte, Nat.reduceEqDiff, Nat.reduceAdd, Nat.reduceLeDiff, q1, q2, hlen1, hlen2, c1]; done))))
    refine W_ret ?_; try (repeat (first | refine thenI ?_ | refine thenE ?_ | refine thenR ?_ | refine inBI ?_ | refine inBR ?_ | refine inBS ?_ | refine inBN (by decide) ?_))
    refine fin1 (.inl rfl) (by (simp (disch := omega) only [go_sem, ↓reduceIte, Nat.reduceEqDiff, Nat.reduceAdd, Nat.reduceLeDiff, q1, q2, hlen1, hlen2]); try rfl) rfl ⟨by rw [isPre_long (by omega)], rfl⟩
theorem isPre_step {p q : List Int} {j : Nat} (h1 : j < p.length) (h2 : j < q.length) (h : p.take j = q.take j) (he : p[j] = q[j]) : p.take (j + 1) = q.take (j + 1) := by
  rw [List.take_succ_eq_append_getElem h1, List.take_succ_eq_append_getElem h2, h, he]
theorem isPre_ne {p q : List Int} {j : Nat} (h1 : j < p.length) (h2 : j < q.length) (he : p[j] ≠ q[j]) : isPre p q = false := decide_eq_false fun e => he (by
  have h3 : p[j]? = (q.take p.length)[j]? := by rw [← e]
  rw [List.getElem?_take, if_pos h1, List.getElem?_eq_getElem h1, List.getElem?_eq_getElem h2] at h3
  exact Option.some.inj h3)
theorem specPre_ok (p q : List Int) (st : St) (s1 s2 : Value) (hb : p.length ≤ 1073741824) (hb2 : q.length ≤ 1073741824) (h1 : Rw st p s1) (h2 : Rw st q s2) :
    CallS Tryd.prog 13 [s1, s2] st fun r st2 => r = .bool (isPre p q) ∧ st2 = st := by
  refine CallS_of_W [] 27 Tryd.func13 rfl rfl rfl rfl (by simp) ?_
  have q1 := h1.notLoc.1
  have q2 := h2.notLoc.1
  have hlen1 : lenE Tryd.prog 33 s1 = some (.int .i64 p.length) := row_len h1 Tryd.underlying33
  have hlen2 : lenE Tryd.prog 33 s2 = some (.int .i64 q.length) := row_len h2 Tryd.underlying33
  repeat (first | (refine W_reg rfl fun G K hG hK => ?_; simp (disch := omega) only [go_sem, ↓reduceIte, Nat.reduceEqDiff, Nat.reduceAdd, Nat.reduceLeDiff, hG, q1, q2, hlen1, hlen2]; refine hK _ _ ?_; clear hK K hG G) | (refine W_end rfl fun G K hG hK => ?_; simp (disch := omega) only [go_sem, ↓reduceIte, Nat.reduceEqDiff, Nat.reduceAdd, Nat.reduceLeDiff, hG, q1, q2, hlen1, hlen2]; refine hK _ _ ?_; clear hK K hG G; repeat (first | refine thenI ?_ | refine thenE ?_ | refine thenR ?_ | refine inBI ?_ | refine inBR ?_ | refine inBS ?_ | refine inBN (by decide) ?_)) | refine W_seqS ?_ | refine W_seqC ?_ | refine W_seqB ?_ | refine W_block ?_ | (refine W_skip ?_; repeat (first | refine thenI ?_ | refine thenE ?_ | refine thenR ?_ | refine inBI ?_ | refine inBR ?_ | refine inBS ?_ | refine inBN (by decide) ?_)) | (refine W_condT ?hc ?_; (case hc => (simp (disch := omega) only [go_sem, ↓reduceIte, Nat.reduceEqDiff, Nat.reduceAdd, Nat.reduceLeDiff, q1, q2, hlen1, hlen2]; done))) | (refine W_condF ?hc ?_; (case hc => (simp (disch := omega) only [go_sem, ↓reduceIte, Nat.reduceEqDiff, Nat.reduceAdd, Nat.reduceLeDiff, q1, q2, hlen1, hlen2]; done))))
  refine W_loop (fun d fr st' => ∃ (j : Nat) , d = p.length - j ∧ j ≤ p.length ∧ (st = st') ∧ (p.take j = q.take j) ∧ (j ≤ q.length) ∧ (fr.env 0 = s1) ∧ (fr.env 1 = s2) ∧ (fr.env 5 = .int .i64 j)) (p.length) ?_ ?_
  · exact ⟨0, by omega, by omega, rfl, by simp, by omega, (by (simp (disch := omega) only [go_sem, ↓reduceIte, Nat.reduceEqDiff, Nat.reduceAdd, Nat.reduceLeDiff, q1, q2, hlen1, hlen2]); try rfl), (by (simp (disch := omega) only [go_sem, ↓reduceIte, Nat.reduceEqDiff, Nat.reduceAdd, Nat.reduceLeDiff, q1, q2, hlen1, hlen2]); try rfl), (by (simp (disch := omega) only [go_sem, ↓reduceIte, Nat.reduceEqDiff, Nat.reduceAdd, Nat.reduceLeDiff, q1, q2, hlen1, hlen2]); try rfl)⟩
  rintro d ⟨env, loc⟩ st' ⟨j, hd, hj, hst, heq, hjq, e0, e1, e5⟩
  simp only at e0 e1 e5
  subst hst
  by_cases hlt : j < p.length
  · have c1 : decide ((j : Int) < (p.length : Int)) = true := by simpa using hlt
    have hi := idxOk hlt
    have hx : p[j]? = some p[j] := List.getElem?_eq_getElem hlt
    have htk : p.take (j + 1) = p.take j ++ [p[j]] := List.take_succ_eq_append_getElem hlt
    obtain ⟨i1, o1, c1', rfl, hce1⟩ := row_atI h1 hx
    repeat (first | (refine W_reg rfl fun G K hG hK => ?_; simp (disch := omega) only [go_sem, ↓reduceIte, Nat.reduceEqDiff, Nat.reduceAdd, Nat.reduceLeDiff, hG, q1, q2, hlen1, hlen2, e0, e1, e5, c1, hi, idxA, Int.toNat_natCast]; refine hK _ _ ?_; clear hK K hG G) | (refine W_end rfl fun G K hG hK => ?_; simp (disch := omega) only [go_sem, ↓reduceIte, Nat.reduceEqDiff, Nat.reduceAdd, Nat.reduceLeDiff, hG, q1, q2, hlen1, hlen2, e0, e1, e5, c1, hi, idxA, Int.toNat_natCast]; refine hK _ _ ?_; clear hK K hG G; repeat (first | refine thenI ?_ | refine thenE ?_ | refine thenR ?_ | refine inBI ?_ | refine inBR ?_ | refine inBS ?_ | refine inBN (by decide) ?_)) | refine W_seqS ?_ | refine W_seqC ?_ | refine W_seqB ?_ | refine W_block ?_ | (refine W_skip ?_; repeat (first | refine thenI ?_ | refine thenE ?_ | refine thenR ?_ | refine inBI ?_ | refine inBR ?_ | refine inBS ?_ | refine inBN (by decide) ?_)) | (refine W_condT ?hc ?_; (case hc => (simp (disch := omega) only [go_sem, ↓reduceIte, Nat.reduceEqDiff, Nat.reduceAdd, Nat.reduceLeDiff, q1, q2, hlen1, hlen2, e0, e1, e5, c1, hi, idxA, Int.toNat_natCast]; done))) | (refine W_condF ?hc ?_; (case hc => (simp (disch := omega) only [go_sem, ↓reduceIte, Nat.reduceEqDiff, Nat.reduceAdd, Nat.reduceLeDiff, q1, q2, hlen1, hlen2, e0, e1, e5, c1, hi, idxA, Int.toNat_natCast]; done))))
    by_cases hlt2 : ¬ j < q.length
    · have c2 : decide ((j : Int) ≥ (q.length : Int)) = true := decide_eq_true (by omega)
      (repeat (first | refine W_seqS ?_ | refine W_seqC ?_ | refine W_seqB ?_ | refine W_block ?_)); refine W_regD mixed [] [(0,false),(1,false),(2,false),(3,false),(4,false),(5,false),(6,false),(7,false),(8,false),(9,false),(10,false),(11,false),(12,false),(13,false),(14,false)] rfl (by decide +kernel) fun G K hG hK => ?_; simp only [pickOps, List.filterMap_cons, List.filterMap_nil, List.getElem?_cons_zero, List.getElem?_cons_succ, Option.map_some]; simp (disch := omega) only [go_sem, ↓reduceIte, Nat.reduceEqDiff, Nat.reduceAdd, Nat.reduceLeDiff, hG, q1, q2, hlen1, hlen2, e0, e1, e5, c1, hi, idxA, Int.toNat_natCast, c2]
      refine hK _ _ ?_; clear hK K hG G; repeat (first | refine thenI ?_ | refine thenE ?_ | refine thenR ?_ | refine inBI ?_ | refine inBR ?_ | refine inBS ?_ | refine inBN (by decide) ?_)
      repeat (first | (refine W_reg rfl fun G K hG hK => ?_; simp (disch := omega) only [go_sem, ↓reduceIte, Nat.reduceEqDiff, Nat.reduceAdd, Nat.reduceLeDiff, hG, q1, q2, hlen1, hlen2, e0, e1, e5, c1, hi, idxA, Int.toNat_natCast]; refine hK _ _ ?_; clear hK K hG G) | (refine W_end rfl fun G K hG hK => ?_; simp (disch := omega) only [go_sem, ↓reduceIte, Nat.reduceEqDiff, Nat.reduceAdd, Nat.reduceLeDiff, hG, q1, q2, hlen1, hlen2, e0, e1, e5, c1, hi, idxA, Int.toNat_natCast]; refine hK _ _ ?_; clear hK K hG G; repeat (first | refine thenI ?_ | refine thenE ?_ | refine thenR ?_ | refine inBI ?_ | refine inBR ?_ | refine inBS ?_ | refine inBN (by decide) ?_)) | refine W_seqS ?_ | refine W_seqC ?_ | refine W_seqB ?_ | refine W_block ?_ | (refine W_skip ?_; repeat (first | refine thenI ?_ | refine thenE ?_ | refine thenR ?_ | refine inBI ?_ | refine inBR ?_ | refine inBS ?_ | refine inBN (by decide) ?_)) | (refine W_condT ?hc ?_; (case hc => (simp (disch := omega) only [go_sem, ↓reduceIte, Nat.reduceEqDiff, Nat.reduceAdd, Nat.reduceLeDiff, q1, q2, hlen1, hlen2, e0, e1, e5, c1, hi, idxA, Int.toNat_natCast]; done))) | (refine W_condF ?hc ?_; (case hc => (simp (disch := omega) only [go_sem, ↓reduceIte, Nat.reduceEqDiff, Nat.reduceAdd, Nat.reduceLeDiff, q1, q2, hlen1, hlen2, e0, e1, e5, c1, hi, idxA, Int.toNat_natCast]; done))))
      refine W_ret ?_; try (repeat (first | refine thenI ?_ | refine thenE ?_ | refine thenR ?_ | refine inBI ?_ | refine inBR ?_ | refine inBS ?_ | refine inBN (by decide) ?_))
      refine fin1 (.inl rfl) (by (simp (disch := omega) only [go_sem, ↓reduceIte, Nat.reduceEqDiff, Nat.reduceAdd, Nat.reduceLeDiff, q1, q2, hlen1, hlen2, e0, e1, e5, c1, hi, idxA, Int.toNat_natCast]); try rfl) rfl ⟨by rw [isPre_long (by omega)], rfl⟩
    · have hlt2 : j < q.length := Decidable.not_not.1 hlt2
      have c2 : decide ((j : Int) ≥ (q.length : Int)) = false := decide_eq_false (by omega)
      have hy : q[j]? = some q[j] := List.getElem?_eq_getElem hlt2
      obtain ⟨i2, o2, c2', rfl, hce2⟩ := row_atI h2 hy
      have hi2 := idxOk hlt2
      by_cases he : p[j] = q[j]
      · have c3 : (p[j] != q[j]) = false := by simpa using he
        (repeat (first | refine W_seqS ?_ | refine W_seqC ?_ | refine W_seqB ?_ | refine W_block ?_)); refine W_regD mixed [] [(0,false),(1,false),(2,false),(3,false),(4,false),(5,false),(6,false),(7,false),(8,false),(9,false),(10,false),(11,false),(12,false),(13,false),(14,false)] rfl (by decide +kernel) fun G K hG hK => ?_; simp only [pickOps, List.filterMap_cons, List.filterMap_nil, List.getElem?_cons_zero, List.getElem?_cons_succ, Option.map_some]; simp (disch := omega) only [go_sem, ↓reduceIte, Nat.reduceEqDiff, Nat.reduceAdd, Nat.reduceLeDiff, hG, q1, q2, hlen1, hlen2, e0, e1, e5, c1, hi, idxA, Int.toNat_natCast, hce1, hce2, hi2, c2, c3]
        refine hK _ _ ?_; clear hK K hG G; repeat (first | refine thenI ?_ | refine thenE ?_ | refine thenR ?_ | refine inBI ?_ | refine inBR ?_ | refine inBS ?_ | refine inBN (by decide) ?_)
        repeat (first | (refine W_reg rfl fun G K hG hK => ?_; simp (disch := omega) only [go_sem, ↓reduceIte, Nat.reduceEqDiff, Nat.reduceAdd, Nat.reduceLeDiff, hG, q1, q2, hlen1, hlen2, e0, e1, e5, c1, hi, idxA, Int.toNat_natCast]; refine hK _ _ ?_; clear hK K hG G) | (refine W_end rfl fun G K hG hK => ?_; simp (disch := omega) only [go_sem, ↓reduceIte, Nat.reduceEqDiff, Nat.reduceAdd, Nat.reduceLeDiff, hG, q1, q2, hlen1, hlen2, e0, e1, e5, c1, hi, idxA, Int.toNat_natCast]; refine hK _ _ ?_; clear hK K hG G; repeat (first | refine thenI ?_ | refine thenE ?_ | refine thenR ?_ | refine inBI ?_ | refine inBR ?_ | refine inBS ?_ | refine inBN (by decide) ?_)) | refine W_seqS ?_ | refine W_seqC ?_ | refine W_seqB ?_ | refine W_block ?_ | (refine W_skip ?_; repeat (first | refine thenI ?_ | refine thenE ?_ | refine thenR ?_ | refine inBI ?_ | refine inBR ?_ | refine inBS ?_ | refine inBN (by decide) ?_)) | (refine W_condT ?hc ?_; (case hc => (simp (disch := omega) only [go_sem, ↓reduceIte, Nat.reduceEqDiff, Nat.reduceAdd, Nat.reduceLeDiff, q1, q2, hlen1, hlen2, e0, e1, e5, c1, hi, idxA, Int.toNat_natCast]; done))) | (refine W_condF ?hc ?_; (case hc => (simp (disch := omega) only [go_sem, ↓reduceIte, Nat.reduceEqDiff, Nat.reduceAdd, Nat.reduceLeDiff, q1, q2, hlen1, hlen2, e0, e1, e5, c1, hi, idxA, Int.toNat_natCast]; done))))
        refine ⟨p.length - (j + 1), by omega, j + 1, rfl, by omega, rfl, isPre_step hlt hlt2 heq he, by omega, (by (simp (disch := omega) only [go_sem, ↓reduceIte, Nat.reduceEqDiff, Nat.reduceAdd, Nat.reduceLeDiff, q1, q2, hlen1, hlen2, e0, e1, e5, c1, hi, idxA, Int.toNat_natCast]); try rfl), (by (simp (disch := omega) only [go_sem, ↓reduceIte, Nat.reduceEqDiff, Nat.reduceAdd, Nat.reduceLeDiff, q1, q2, hlen1, hlen2, e0, e1, e5, c1, hi, idxA, Int.toNat_natCast]); try rfl), (by (simp (disch := omega) only [go_sem, ↓reduceIte, Nat.reduceEqDiff, Nat.reduceAdd, Nat.reduceLeDiff, q1, q2, hlen1, hlen2, e0, e1, e5, c1, hi, idxA, Int.toNat_natCast]); try rfl)⟩
      · have c3 : (p[j] != q[j]) = true := by simpa using he
        (repeat (first | refine W_seqS ?_ | refine W_seqC ?_ | refine W_seqB ?_ | refine W_block ?_)); refine W_regD mixed [] [(0,false),(1,false),(2,false),(3,false),(4,false),(5,false),(6,false),(7,false),(8,false),(9,false),(10,false),(11,false),(12,false),(13,false),(14,false)] rfl (by decide +kernel) fun G K hG hK => ?_; simp only [pickOps, List.filterMap_cons, List.filterMap_nil, List.getElem?_cons_zero, List.getElem?_cons_succ, Option.map_some]; simp (disch := omega) only [go_sem, ↓reduceIte, Nat.reduceEqDiff, Nat.reduceAdd, Nat.reduceLeDiff, hG, q1, q2, hlen1, hlen2, e0, e1, e5, c1, hi, idxA, Int.toNat_natCast, hce1, hce2, hi2, c2, c3]
        refine hK _ _ ?_; clear hK K hG G; repeat (first | refine thenI ?_ | refine thenE ?_ | refine thenR ?_ | refine inBI ?_ | refine inBR ?_ | refine inBS ?_ | refine inBN (by decide) ?_)
        repeat (first | (refine W_reg rfl fun G K hG hK => ?_; simp (disch := omega) only [go_sem, ↓reduceIte, Nat.reduceEqDiff, Nat.reduceAdd, Nat.reduceLeDiff, hG, q1, q2, hlen1, hlen2, e0, e1, e5, c1, hi, idxA, Int.toNat_natCast]; refine hK _ _ ?_; clear hK K hG G) | (refine W_end rfl fun G K hG hK => ?_; simp (disch := omega) only [go_sem, ↓reduceIte, Nat.reduceEqDiff, Nat.reduceAdd, Nat.reduceLeDiff, hG, q1, q2, hlen1, hlen2, e0, e1, e5, c1, hi, idxA, Int.toNat_natCast]; refine hK _ _ ?_; clear hK K hG G; repeat (first | refine thenI ?_ | refine thenE ?_ | refine thenR ?_ | refine inBI ?_ | refine inBR ?_ | refine inBS ?_ | refine inBN (by decide) ?_)) | refine W_seqS ?_ | refine W_seqC ?_ | refine W_seqB ?_ | refine W_block ?_ | (refine W_skip ?_; repeat (first | refine thenI ?_ | refine thenE ?_ | refine thenR ?_ | refine inBI ?_ | refine inBR ?_ | refine inBS ?_ | refine inBN (by decide) ?_)) | (refine W_condT ?hc ?_; (case hc => (simp (disch := omega) only [go_sem, ↓reduceIte, Nat.reduceEqDiff, Nat.reduceAdd, Nat.reduceLeDiff, q1, q2, hlen1, hlen2, e0, e1, e5, c1, hi, idxA, Int.toNat_natCast]; done))) | (refine W_condF ?hc ?_; (case hc => (simp (disch := omega) only [go_sem, ↓reduceIte, Nat.reduceEqDiff, Nat.reduceAdd, Nat.reduceLeDiff, q1, q2, hlen1, hlen2, e0, e1, e5, c1, hi, idxA, Int.toNat_natCast]; done))))
        refine W_ret ?_; try (repeat (first | refine thenI ?_ | refine thenE ?_ | refine thenR ?_ | refine inBI ?_ | refine inBR ?_ | refine inBS ?_ | refine inBN (by decide) ?_))
        refine fin1 (.inl rfl) (by (simp (disch := omega) only [go_sem, ↓reduceIte, Nat.reduceEqDiff, Nat.reduceAdd, Nat.reduceLeDiff, q1, q2, hlen1, hlen2, e0, e1, e5, c1, hi, idxA, Int.toNat_natCast]); try rfl) rfl ⟨by rw [isPre_ne hlt hlt2 he], rfl⟩
  · have c1 : decide ((j : Int) < (p.length : Int)) = false := by simpa using hlt
    have hjn : j = p.length := by omega
    subst hjn
    rw [List.take_length] at heq
    repeat (first | (refine W_reg rfl fun G K hG hK => ?_; simp (disch := omega) only [go_sem, ↓reduceIte, Nat.reduceEqDiff, Nat.reduceAdd, Nat.reduceLeDiff, hG, q1, q2, hlen1, hlen2, e0, e1, e5, c1]; refine hK _ _ ?_; clear hK K hG G) | (refine W_end rfl fun G K hG hK => ?_; simp (disch := omega) only [go_sem, ↓reduceIte, Nat.reduceEqDiff, Nat.reduceAdd, Nat.reduceLeDiff, hG, q1, q2, hlen1, hlen2, e0, e1, e5, c1]; refine hK _ _ ?_; clear hK K hG G; repeat (first | refine thenI ?_ | refine thenE ?_ | refine thenR ?_ | refine inBI ?_ | refine inBR ?_ | refine inBS ?_ | refine inBN (by decide) ?_)) | refine W_seqS ?_ | refine W_seqC ?_ | refine W_seqB ?_ | refine W_block ?_ | (refine W_skip ?_; repeat (first | refine thenI ?_ | refine thenE ?_ | refine thenR ?_ | refine inBI ?_ | refine inBR ?_ | refine inBS ?_ | refine inBN (by decide) ?_)) | (refine W_condT ?hc ?_; (case hc => (simp (disch := omega) only [go_sem, ↓reduceIte, Nat.reduceEqDiff, Nat.reduceAdd, Nat.reduceLeDiff, q1, q2, hlen1, hlen2, e0, e1, e5, c1]; done))) | (refine W_condF ?hc ?_; (case hc => (simp (disch := omega) only [go_sem, ↓reduceIte, Nat.reduceEqDiff, Nat.reduceAdd, Nat.reduceLeDiff, q1, q2, hlen1, hlen2, e0, e1, e5, c1]; done))))
    refine W_exit ?_; repeat (first | refine thenI ?_ | refine thenE ?_ | refine thenR ?_ | refine inBI ?_ | refine inBR ?_ | refine inBS ?_ | refine inBN (by decide) ?_)
    repeat (first | (refine W_reg rfl fun G K hG hK => ?_; simp (disch := omega) only [go_sem, ↓reduceIte, Nat.reduceEqDiff, Nat.reduceAdd, Nat.reduceLeDiff, hG, q1, q2, hlen1, hlen2, e0, e1, e5, c1]; refine hK _ _ ?_; clear hK K hG G) | (refine W_end rfl fun G K hG hK => ?_; simp (disch := omega) only [go_sem, ↓reduceIte, Nat.reduceEqDiff, Nat.reduceAdd, Nat.reduceLeDiff, hG, q1, q2, hlen1, hlen2, e0, e1, e5, c1]; refine hK _ _ ?_; clear hK K hG G; repeat (first | refine thenI ?_ | refine thenE ?_ | refine thenR ?_ | refine inBI ?_ | refine inBR ?_ | refine inBS ?_ | refine inBN (by decide) ?_)) | refine W_seqS ?_ | refine W_seqC ?_ | refine W_seqB ?_ | refine W_block ?_ | (refine W_skip ?_; repeat (first | refine thenI ?_ | refine thenE ?_ | refine thenR ?_ | refine inBI ?_ | refine inBR ?_ | refine inBS ?_ | refine inBN (by decide) ?_)) | (refine W_condT ?hc ?_; (case hc => (simp (disch := omega) only [go_sem, ↓reduceIte, Nat.reduceEqDiff, Nat.reduceAdd, Nat.reduceLeDiff, q1, q2, hlen1, hlen2, e0, e1, e5, c1]; done))) | (refine W_condF ?hc ?_; (case hc => (simp (disch := omega) only [go_sem, ↓reduceIte, Nat.reduceEqDiff, Nat.reduceAdd, Nat.reduceLeDiff, q1, q2, hlen1, hlen2, e0, e1, e5, c1]; done))))
    refine W_ret ?_; try (repeat (first | refine thenI ?_ | refine thenE ?_ | refine thenR ?_ | refine inBI ?_ | refine inBR ?_ | refine inBS ?_ | refine inBN (by decide) ?_))
    refine fin1 (.inl rfl) (by (simp (disch := omega) only [go_sem, ↓reduceIte, Nat.reduceEqDiff, Nat.reduceAdd, Nat.reduceLeDiff, q1, q2, hlen1, hlen2, e0, e1, e5, c1]); try rfl) rfl ⟨by unfold isPre; rw [decide_eq_true heq], rfl⟩
/-! Positions, plain. -/
theorem T.posL_count {l : List T} (h : ∀ a ∈ l, ∀ p, (a.pos p).length = a.count) (p : List Int) (i : Nat) : (T.posL l p i).length = T.countL l := by
  induction l generalizing i with
  | nil => rfl
  | cons x xs ih =>
    have h1 := h x (by simp) (p ++ [(i : Int)])
    have h2 := ih (fun a ha => h a (by simp [ha])) (i + 1)
    simp only [T.posL, List.length_append, T.countL]
    omega
theorem T.pos_count : ∀ (t : T) (p : List Int), (t.pos p).length = t.count := by
  refine T.ind fun k n nm args ih p => ?_
  simp only [T.pos, List.length_cons, T.count, T.posL_count ih]
  omega
/-- Where the positions lead. -/
theorem T.pos_at : ∀ (t : T) (p : List Int), ∀ q ∈ t.pos p, ∃ r, q = p ++ r ∧ (T.at r t).isSome = true := by
  refine T.ind fun k n nm args ih p q hq => ?_
  have h : ∀ (l : List T), (∀ a ∈ l, ∀ p, ∀ q ∈ a.pos p, ∃ r, q = p ++ r ∧ (T.at r a).isSome = true) → ∀ i, ∀ q ∈ T.posL l p i, ∃ j r, ∃ (hj : j < l.length), q = p ++ (((i + j : Nat) : Int) :: r) ∧ (T.at r l[j]).isSome = true := by
    intro l
    induction l with
    | nil => intro _ i q hq; simp [T.posL] at hq
    | cons x xs ihx =>
      intro h i q hq
      simp only [T.posL, List.mem_append] at hq
      rcases hq with hq | hq
      · obtain ⟨r, h1, h2⟩ := h x (by simp) _ q hq
        exact ⟨0, r, by simp, by rw [h1]; simp, h2⟩
      · obtain ⟨j, r, hj, h1, h2⟩ := ihx (fun a ha => h a (by simp [ha])) (i + 1) q hq
        refine ⟨j + 1, r, by simp; omega, ?_, h2⟩
        rw [h1, show i + 1 + j = i + (j + 1) by omega]
  simp only [T.pos, List.mem_cons] at hq
  rcases hq with rfl | hq
  · exact ⟨[], by simp, rfl⟩
  · obtain ⟨j, r, hj, h1, h2⟩ := h args ih 0 q hq
    refine ⟨_, h1, ?_⟩
    rw [T.at_in (t := .mk k n nm args) (x := args[j]) (by omega) (by show _ < (args.length : Int); omega) (by show args[_]? = _; rw [show ((0 + j : Nat) : Int).toNat = j by omega]; exact List.getElem?_eq_getElem hj)]
    exact h2
/-- The numbers in a position are small. -/
theorem T.pos_num : ∀ (t : T) (p : List Int), ∀ q ∈ t.pos p, ∀ n ∈ q, n ∈ p ∨ (0 ≤ n ∧ n ≤ (t.wt : Int)) := by
  refine T.ind fun k n nm args ih p q hq => ?_
  have h : ∀ (l : List T), (∀ a ∈ l, ∀ p, ∀ q ∈ a.pos p, ∀ n ∈ q, n ∈ p ∨ (0 ≤ n ∧ n ≤ (a.wt : Int))) → ∀ i, ∀ q ∈ T.posL l p i, ∀ n ∈ q, n ∈ p ∨ (0 ≤ n ∧ n ≤ ((i + l.length + T.wtL l : Nat) : Int)) := by
    intro l
    induction l with
    | nil => intro _ i q hq; simp [T.posL] at hq
    | cons x xs ihx =>
      intro h i q hq n hn
      simp only [T.posL, List.mem_append] at hq
      simp only [List.length_cons, T.wtL]
      rcases hq with hq | hq
      · rcases h x (by simp) _ q hq n hn with h1 | h1
        · rcases List.mem_append.1 h1 with h1 | h1
          · exact .inl h1
          · cases List.mem_singleton.1 h1
            exact .inr ⟨by omega, by omega⟩
        · exact .inr ⟨h1.1, by omega⟩
      · rcases ihx (fun a ha => h a (by simp [ha])) (i + 1) q hq n hn with h1 | h1
        · exact .inl h1
        · exact .inr ⟨h1.1, by omega⟩
  simp only [T.pos, List.mem_cons] at hq
  intro m hm
  rcases hq with rfl | hq
  · exact .inl hm
  · rcases h args ih 0 q hq m hm with h1 | h1
    · exact .inl h1
    · refine .inr ⟨h1.1, ?_⟩
      simp only [T.wt]
      omega
end Go.Proofs.YtkohkdlbjbbegaaDoor.AM


/- Whole numbers and their decimal form, in plain Lean. -/
namespace Go.Proofs.YtkohkdlbjbbegaaDoor.AM
open Go Go.Proofs Go.Lib
set_option linter.unusedVariables false
set_option linter.unusedSimpArgs false

theorem decFrom_app (l m : List UInt8) : ∀ acc, decFrom acc (l ++ m) = (decFrom acc l).bind fun n => decFrom n m := by
  induction l with
  | nil => intro acc; rfl
  | cons b r ih =>
    intro acc
    simp only [List.cons_append, decFrom]
    cases digitVal b with
    | none => rfl
    | some d => exact ih _
theorem digit_of (d : Nat) (h : d < 10) : digitVal (UInt8.ofNat (48 + d)) = some d := by
  unfold digitVal
  have e : (UInt8.ofNat (48 + d)).toNat = 48 + d := by simp; omega
  rw [e, if_pos (by omega)]
  simp
theorem decFrom_digits (u : Nat) : decFrom 0 (decDigits u) = some u := by
  induction u using Nat.strongRecOn with
  | _ u ih =>
    rw [decDigits]
    split
    · rename_i h
      simp only [decFrom, digit_of u h]
      simp
    · rename_i h
      rw [decFrom_app, ih (u / 10) (by omega)]
      simp only [Option.bind_some, decFrom, digit_of (u % 10) (by omega)]
      congr 1; omega
theorem digits_ne (u : Nat) : decDigits u ≠ [] := by
  intro h
  have := decDigits_length u
  rw [h] at this
  have := nDigits_pos u
  simp at *
  omega
theorem decNat_digits (u : Nat) : decNat (decDigits u) = some u := by
  unfold decNat
  rw [if_neg (by simpa using digits_ne u), decFrom_digits]
theorem digits_head (u : Nat) : ∃ b r, decDigits u = b :: r ∧ 48 ≤ b.toNat ∧ b.toNat ≤ 57 := by
  cases h : decDigits u with
  | nil => exact absurd h (digits_ne u)
  | cons b r =>
    refine ⟨b, r, rfl, ?_⟩
    obtain ⟨d, hd⟩ := digit_of_decFrom (decDigits u) 0 u (decFrom_digits u) 0 b (by rw [h]; rfl)
    have := digitVal_eq hd
    omega
theorem atoi_itoa (n : Int) : atoi (itoa n) = some n := by
  by_cases h : n < 0
  · obtain ⟨u, hu, rfl⟩ : ∃ u : Nat, 1 ≤ u ∧ n = -(u : Int) := ⟨n.natAbs, by omega, by omega⟩
    rw [itoa_neg u hu]
    simp [atoi, decNat_digits]
  · obtain ⟨u, rfl⟩ : ∃ u : Nat, n = u := ⟨n.toNat, by omega⟩
    rw [itoa_nonneg]
    obtain ⟨b, r, h1, h2, h3⟩ := digits_head u
    have h4 := decNat_digits u
    rw [h1] at h4 ⊢
    have e1 : ¬ (b == 45) = true := fun e => by have : b = 45 := by simpa using e
                                                subst this; simp at h2
    have e2 : ¬ (b == 43) = true := fun e => by have : b = 43 := by simpa using e
                                                subst this; simp at h2
    simp only [atoi, if_neg e1, if_neg e2, h4, Option.map_some]
theorem nDigits_le : ∀ (k u : Nat), u < 10 ^ (k + 1) → nDigits u ≤ k + 1 := by
  intro k
  induction k with
  | zero => intro u h; rw [nDigits_small (by simpa using h)]; omega
  | succ k ih =>
    intro u h
    by_cases h1 : u < 10
    · rw [nDigits_small h1]; omega
    · rw [nDigits_big h1]
      have := ih (u / 10) (by rw [Nat.pow_succ] at h; omega)
      omega
theorem itoa_short {n : Int} (h0 : -1000000000000 < n) (h1 : n < 1000000000000) : (itoa n).length ≤ 13 := by
  by_cases h : n < 0
  · obtain ⟨u, hu, rfl⟩ : ∃ u : Nat, 1 ≤ u ∧ n = -(u : Int) := ⟨n.natAbs, by omega, by omega⟩
    rw [itoa_neg u hu, List.length_cons, decDigits_length]
    have := nDigits_le 11 u (by omega)
    omega
  · obtain ⟨u, rfl⟩ : ∃ u : Nat, n = u := ⟨n.toNat, by omega⟩
    rw [itoa_nonneg, decDigits_length]
    have := nDigits_le 11 u (by omega)
    omega

/-- A number between two ends, written as it is formatted. -/
def wholeN (lo hi : Int) (l : List UInt8) : Option Int := match atoiAll l with
  | .ok v => if (lo ≤ v ∧ v ≤ hi) ∧ itoa v = l then some v else none
  | _ => none
theorem wholeN_some {lo hi v : Int} {l : List UInt8} (hlo : -1000000000000 < lo) (hhi : hi < 1000000000000) : wholeN lo hi l = some v ↔ (lo ≤ v ∧ v ≤ hi) ∧ itoa v = l := by
  constructor
  · intro h
    unfold wholeN at h
    split at h
    · split at h
      · rename_i hc; cases h; exact hc
      · cases h
    · cases h
  · rintro ⟨h1, rfl⟩
    have h2 := itoa_short (n := v) (by omega) (by omega)
    unfold wholeN
    rw [atoiAll_short _ (by omega), atoi_itoa]
    simp only [NumEnd.ofOption]
    rw [if_pos ⟨h1, trivial⟩]
/-- The reference's reading: a sign, digits, not too many, and the same form. -/
def readM (most : Nat) (below : Bool) (t l : List UInt8) : Option Int :=
  if t.length < 1 ∨ most < t.length then none else match decFrom 0 t with
  | some m => if itoa (if below then -(m : Int) else m) = l then some (if below then -(m : Int) else m) else none
  | none => none
def readN (most : Nat) (l : List UInt8) : Option Int := if l.head? = some 45 then readM most true l.tail l else readM most false l l
theorem readM_some {most : Nat} {below : Bool} {t l : List UInt8} {v : Int} (h : readM most below t l = some v) : v.natAbs < 10 ^ most ∧ itoa v = l := by
  unfold readM at h
  split at h
  · cases h
  rename_i hl
  cases hd : decFrom 0 t with
  | none => rw [hd] at h; cases h
  | some m =>
    rw [hd] at h
    simp only at h
    have h1 := decFrom_lt _ _ _ hd
    have h2 : 10 ^ t.length ≤ 10 ^ most := Nat.pow_le_pow_right (by omega) (by omega)
    by_cases he : itoa (if below = true then -(m : Int) else m) = l
    · rw [if_pos he] at h
      cases h
      refine ⟨?_, he⟩
      cases below <;> simp <;> omega
    · rw [if_neg he] at h; cases h
theorem readN_some {most : Nat} (hm : 1 ≤ most) {v : Int} {l : List UInt8} : readN most l = some v ↔ v.natAbs < 10 ^ most ∧ itoa v = l := by
  constructor
  · intro h
    unfold readN at h
    split at h
    · exact readM_some h
    · exact readM_some h
  · rintro ⟨h1, rfl⟩
    obtain ⟨k, rfl⟩ : ∃ k, most = k + 1 := ⟨most - 1, by omega⟩
    unfold readN readM
    by_cases h : v < 0
    · obtain ⟨u, hu, rfl⟩ : ∃ u : Nat, 1 ≤ u ∧ v = -(u : Int) := ⟨v.natAbs, by omega, by omega⟩
      have h2 := nDigits_le k u (by simpa using h1)
      have h3 := nDigits_pos u
      have e : itoa (-(u : Int)) = 45 :: decDigits u := itoa_neg u hu
      simp only [e, List.head?_cons, if_true, List.tail_cons, decDigits_length, decFrom_digits]
      rw [if_neg (by omega)]
    · obtain ⟨u, rfl⟩ : ∃ u : Nat, v = u := ⟨v.toNat, by omega⟩
      have h2 := nDigits_le k u (by simpa using h1)
      have h3 := nDigits_pos u
      have e : itoa (u : Int) = decDigits u := itoa_nonneg u
      obtain ⟨b, r, g1, g2, g3⟩ := digits_head u
      have hb : ¬ (decDigits u).head? = some 45 := by
        rw [g1, List.head?_cons]
        intro e2
        cases e2
        simp at g2
      simp only [e, if_neg hb, decDigits_length, decFrom_digits]
      rw [if_neg (by omega)]
      simp [e]
theorem opt_ext {α : Type} {a b : Option α} (h : ∀ v, a = some v ↔ b = some v) : a = b := by
  cases a with
  | none =>
    cases b with
    | none => rfl
    | some v => exact ((h v).2 rfl)
  | some v => exact ((h v).1 rfl).symm
theorem int_same (l : List UInt8) : wholeN (-999999999999) 999999999999 l = readN 12 l := opt_ext fun v => by
  rw [wholeN_some (by omega) (by omega), readN_some (by omega)]
  constructor
  · rintro ⟨h1, h2⟩; exact ⟨by omega, h2⟩
  · rintro ⟨h1, h2⟩; exact ⟨by omega, h2⟩
theorem num_same (l : List UInt8) : wholeN 0 999999 l = (readN 6 l).filter fun v => decide (0 ≤ v) := opt_ext fun v => by
  rw [wholeN_some (by omega) (by omega), Option.filter_eq_some_iff, readN_some (by omega)]
  constructor
  · rintro ⟨h1, h2⟩; exact ⟨⟨by omega, h2⟩, by simp; omega⟩
  · rintro ⟨⟨h1, h2⟩, h3⟩
    have : 0 ≤ v := by simpa using h3
    exact ⟨by omega, h2⟩
end Go.Proofs.YtkohkdlbjbbegaaDoor.AM


/- Contracts of the library, lifted: a world that grows; a block of which nothing is told. -/
namespace Go.Proofs.YtkohkdlbjbbegaaDoor.AM
open Go Go.Proofs
set_option linter.unusedVariables false
set_option linter.unusedSimpArgs false

theorem HR.below {P : Program} {B : Base} {M : List ME} {st : St} {w w' : World} (h : HR P B M st w) (k : Go.RowKit.Below w.heap.size w w') : HR P B M st w' := by
  refine ⟨h.len, h.pre, fun i b m hb hm hs hfar => ?_, h.inj, fun i m hm => Nat.lt_of_lt_of_le (h.lt i m hm) k.size, h.old, fun i b m hb hs hm => ?_, k.os.trans h.os, k.tape.trans h.tape, k.output.trans h.output, Nat.le_trans h.size k.size, fun q hq hqm => ?_, h.tab, h.cov⟩
  · obtain ⟨c, h1, h2⟩ := h.blk i b m hb hm hs hfar
    exact ⟨c, h1.to (k.block _ (h.lt i m hm)), h2⟩
  · obtain ⟨h1, h2⟩ := h.ro i b m hb hs hm
    exact ⟨h1, (k.block _ (h.lt i m (h.pre i m hm))).trans h2⟩
  · exact (k.block q (Nat.lt_of_lt_of_le hq h.size)).trans (h.frame q hq hqm)
/-- A block of which nothing is told. -/
def farB : Blk := ⟨[], 0, 1⟩
theorem HR.far {P : Program} {B : Base} {M : List ME} {st : St} {w : World} {N n : Nat} (h : HR P B M st w) (hn : ∀ (i : Nat) m, M[i]? = some m → m.b < n) (h1 : n ≤ N) (h2 : N < w.heap.size) (h3 : B.w0.heap.size ≤ N) : HR P B (M ++ [⟨N, 0, 0, false⟩]) (st ++ [farB]) w := by
  have getM : ∀ (i : Nat) m, (M ++ [(⟨N, 0, 0, false⟩ : ME)])[i]? = some m → M[i]? = some m ∨ (i = st.length ∧ m = ⟨N, 0, 0, false⟩) := fun i m hm => by
    rcases Nat.lt_or_ge i M.length with hi | hi
    · rw [List.getElem?_append_left hi] at hm; exact .inl hm
    · rw [List.getElem?_append_right hi] at hm
      have h4 := (List.getElem?_eq_some_iff.1 hm).1
      simp only [List.length_singleton] at h4
      have h5 : i - M.length = 0 := by omega
      rw [h5] at hm
      simp only [List.getElem?_cons_zero, Option.some.injEq] at hm
      exact .inr ⟨by have := h.len; omega, hm.symm⟩
  have getS : ∀ (i : Nat) b, (st ++ [farB])[i]? = some b → st[i]? = some b ∨ (i = st.length ∧ b = farB) := fun i b hb => by
    rcases Nat.lt_or_ge i st.length with hi | hi
    · rw [List.getElem?_append_left hi] at hb; exact .inl hb
    · rw [List.getElem?_append_right hi] at hb
      have h4 := (List.getElem?_eq_some_iff.1 hb).1
      simp only [List.length_singleton] at h4
      have h5 : i - st.length = 0 := by omega
      rw [h5] at hb
      simp only [List.getElem?_cons_zero, Option.some.injEq] at hb
      exact .inr ⟨by omega, hb.symm⟩
  have hM := Mono.app M [(⟨N, 0, 0, false⟩ : ME)]
  have hin : ∀ (i : Nat) b m, st[i]? = some b → (M ++ [(⟨N, 0, 0, false⟩ : ME)])[i]? = some m → M[i]? = some m := fun i b m hb hm => by
    rcases getM i m hm with h4 | ⟨h4, _⟩
    · exact h4
    · have := (List.getElem?_eq_some_iff.1 hb).1; omega
  refine ⟨by simp [h.len], fun i m hm => hM i m (h.pre i m hm), fun i b m hb hm hs hfar => ?_, fun i j b b' m m' hb hb' hs hs' hm hm' e => ?_, fun i m hm => ?_, fun i m hm hlt => ?_, fun i b m hb hs hm => ?_, h.os, h.tape, h.output, h.size, h.frame, h.tab, h.cov⟩
  · rcases getS i b hb with hb | ⟨_, rfl⟩
    · obtain ⟨c, q1, q2, q3, q4, q5⟩ := h.blk i b m hb (hin i b m hb hm) hs hfar
      exact ⟨c, q1, q2, q3, q4.mono hM, q5⟩
    · exact absurd ⟨rfl, rfl⟩ hfar
  · rcases getS i b hb with hb | ⟨rfl, rfl⟩ <;> rcases getS j b' hb' with hb' | ⟨rfl, rfl⟩
    · exact h.inj i j b b' m m' hb hb' hs hs' (hin i b m hb hm) (hin j b' m' hb' hm') e
    · have h4 := hn i m (hin i b m hb hm)
      rcases getM st.length m' hm' with h5 | ⟨_, h5⟩
      · have := (List.getElem?_eq_some_iff.1 h5).1; have := h.len; omega
      · subst h5; simp only at e; omega
    · have h4 := hn j m' (hin j b' m' hb' hm')
      rcases getM st.length m hm with h5 | ⟨_, h5⟩
      · have := (List.getElem?_eq_some_iff.1 h5).1; have := h.len; omega
      · subst h5; simp only at e; omega
    · rfl
  · rcases getM i m hm with h4 | ⟨_, rfl⟩
    · exact h.lt i m h4
    · exact h2
  · rcases getM i m hm with h4 | ⟨_, rfl⟩
    · exact h.old i m h4 hlt
    · simp only at hlt; omega
  · obtain ⟨q1, q2⟩ := h.ro i b m hb hs hm
    exact ⟨by rw [List.getElem?_append_left (List.getElem?_eq_some_iff.1 q1).1]; exact q1, q2⟩
theorem VL.one' {M : List ME} {s : Value} {vals : Array Value} (h : VL M [s] vals) : ∃ v, vals = #[v] ∧ VR M s v := by
  have hl := h.len
  obtain ⟨l⟩ := vals
  match l, hl with
  | [v], _ => exact ⟨v, rfl, h.rel 0 s v rfl rfl⟩
theorem VL.two' {M : List ME} {s t : Value} {vals : Array Value} (h : VL M [s, t] vals) : ∃ v u, vals = #[v, u] ∧ VR M s v ∧ VR M t u := by
  have hl := h.len
  obtain ⟨l⟩ := vals
  match l, hl with
  | [v, u], _ => exact ⟨v, u, rfl, h.rel 0 s v rfl rfl, h.rel 1 t u rfl rfl⟩
end Go.Proofs.YtkohkdlbjbbegaaDoor.AM


/- Whole numbers as texts: spec.FormatInt, strconv.Itoa, impl.FormatInt; the law FnExactFormatInt. -/
namespace Go.Proofs.YtkohkdlbjbbegaaDoor.AM
open Go Go.Proofs Go.Lib
set_option linter.unusedVariables false
set_option linter.unusedSimpArgs false
set_option maxRecDepth 100000
attribute [local go_sem] List.map_cons List.map_nil List.all_cons List.all_nil Bool.and_self Option.map_some List.getElem?_toArray Option.bind_some gye_b gye_t gsk_b gsk_t gb1 gb2 gb3 gb4 bne_self_eq_false beq_self_eq_true w_guard w_nil stepV_some step_some step_some' w_move w_assign w_pick w_binOp w_unOp w_load w_fieldAddr w_indexAddr w_len w_max w_index ev_max max_int ev_index w_box w_alloc w_store w_field w_extract w_nilCheck w_convert w_buildSlice w_build ev_buildL fillL_nil fillL_cons bs0 bs1 ev_conv ev_bin ev_un ev_pick ev_load ev_fieldAddr ev_indexAddr ev_len ev_field ev_extract ev_nilCheck fr_tmp fr_int fr_bool fr_str fr_nil fr_func put_some put_none bin_lss bin_leq bin_gtr bin_geq bin_eql bin_neq bin_add bin_sub bin_mul bin_seql bin_sneq un_not pick_ ext_ loadA_p cellAt_l cellAt_h okPtr_l okPtr_h fadA_p allocA_l storeA_l cells_agg cells_int cells_str cells_sl cells_bool flat_i flat_s flat_b flat_sl flat_nil loc_agg loc_int loc_str loc_sl loc_bool loc_fn loc_ptr okv_agg okv_int okv_str okv_sl okv_bool cellsFrom splice upd_eval argEnv_zero argEnv_succ ne_eq Nat.add_one_ne_zero not_false_eq_true List.not_mem_nil and_self decide_true List.getElem?_cons_zero List.getElem?_cons_succ List.size_toArray List.length_cons List.length_nil List.take_succ_cons List.take_zero List.drop_succ_cons List.drop_zero List.cons_append List.nil_append List.drop_nil Bool.not_true Bool.not_false Bool.false_eq_true Nat.zero_add Nat.add_zero wrap_in List.toList_toArray List.mem_cons or_self or_false false_or
attribute [local go_sem] ag22 ag24 ag26 ag3 ag33 ag5 ag62 ag76 ag9 bu26 bu56 by26 by3 by33 by5 by9 el22 el24 el28 el33 el44 of26_0 of26_1 of26_2 of26_3 of56_0 of56_1 of56_2 of64_0 of64_1 ro26_0 ro26_1 ro26_2 ro3_0 ro3_1 ro3_3 ro33_0 ro33_1 ro5_0 ro5_1 ro9_0 ro9_1 ro9_2 ro9_3 ro9_4 sz22 sz24 sz26 sz3 sz33 sz5 sz62 sz76 sz9 ze26 ze3 ze33 ze5 ze64 ze75 ze88 ze9
-- AUTO

/-- The digits of a number that is not nought. -/
def digs (m : Nat) : List UInt8 := if m = 0 then [] else decDigits m
theorem digs_step {m : Nat} (h : m ≠ 0) : digs m = digs (m / 10) ++ [UInt8.ofNat (48 + m % 10)] := by
  unfold digs
  rw [if_neg h]
  by_cases h10 : m < 10
  · rw [if_pos (by omega), decDigits, dif_pos h10, show m % 10 = m by omega]; rfl
  · rw [if_neg (by omega), decDigits, dif_neg h10]
theorem wrap_digit : ∀ k : Nat, k < 10 → IntKind.u8.wrap (48 + (k : Int)) = (((UInt8.ofNat (48 + k)).toNat : Nat) : Int) := by decide
theorem getB2f {st : St} {y : Blk} : (st ++ [y])[st.length]? = some y := by rw [List.getElem?_append_right (Nat.le_refl _), Nat.sub_self]; rfl
theorem app_mk (c : UInt8) (o : ByteArray) : (⟨#[c]⟩ : ByteArray) ++ o = ⟨(c :: o.data.toList).toArray⟩ := by
  apply ByteArray.ext
  apply Array.ext'
  simp
theorem size_mk (l : List UInt8) : (⟨l.toArray⟩ : ByteArray).size = l.length := by
  show l.toArray.size = _
  simp
theorem nat_tdiv (m : Int) : (m.tdiv 10).natAbs = m.natAbs / 10 := by
  rw [Int.natAbs_tdiv]; rfl
theorem nat_tmod (m : Int) : (m.tmod 10).natAbs = m.natAbs % 10 := by
  rw [Int.natAbs_tmod]; rfl
theorem specFormatInt_ok (n : Int) (st : St) (h0 : -9223372036854775808 ≤ n) (h1 : n ≤ 9223372036854775807) :
    CallS Tryd.prog 22 [.int .i64 n] st fun r st2 => Ext st st2 ∧ r = .string ⟨(itoa n).toArray⟩ := by
  refine CallS_of_W [] 31 Tryd.func22 rfl rfl rfl rfl (by simp) ?_
  by_cases hn : n = 0
  · subst hn
    have e : (⟨(itoa 0).toArray⟩ : ByteArray) = ⟨#[48]⟩ := by
      have : itoa 0 = [48] := by decide +kernel
      rw [this]
    rw [e]
    repeat (first | (refine W_reg rfl fun G K hG hK => ?_; simp (disch := omega) only [go_sem, ↓reduceIte, Nat.reduceEqDiff, Nat.reduceAdd, Nat.reduceLeDiff, hG]; refine hK _ _ ?_; clear hK K hG G) | (refine W_end rfl fun G K hG hK => ?_; simp (disch := omega) only [go_sem, ↓reduceIte, Nat.reduceEqDiff, Nat.reduceAdd, Nat.reduceLeDiff, hG]; refine hK _ _ ?_; clear hK K hG G; repeat (first | refine thenI ?_ | refine thenE ?_ | refine thenR ?_ | refine inBI ?_ | refine inBR ?_ | refine inBS ?_ | refine inBN (by decide) ?_)) | refine W_seqS ?_ | refine W_seqC ?_ | refine W_seqB ?_ | refine W_block ?_ | (refine W_skip ?_; repeat (first | refine thenI ?_ | refine thenE ?_ | refine thenR ?_ | refine inBI ?_ | refine inBR ?_ | refine inBS ?_ | refine inBN (by decide) ?_)) | (refine W_condT ?hc ?_; (case hc => (simp (disch := omega) only [go_sem, ↓reduceIte, Nat.reduceEqDiff, Nat.reduceAdd, Nat.reduceLeDiff]; done))) | (refine W_condF ?hc ?_; (case hc => (simp (disch := omega) only [go_sem, ↓reduceIte, Nat.reduceEqDiff, Nat.reduceAdd, Nat.reduceLeDiff]; done))))
    refine W_ret ?_; try (repeat (first | refine thenI ?_ | refine thenE ?_ | refine thenR ?_ | refine inBI ?_ | refine inBR ?_ | refine inBS ?_ | refine inBN (by decide) ?_))
    refine fin1 (.inl rfl) (by (simp (disch := omega) only [go_sem, ↓reduceIte, Nat.reduceEqDiff, Nat.reduceAdd, Nat.reduceLeDiff]); try rfl) rfl ⟨Ext.refl _, rfl⟩
  have c0 : (n == 0) = false := by simpa using hn
  have hlen : ∀ m, m = n.natAbs → (decDigits m).length ≤ 20 := fun m hm => by
    rw [decDigits_length]
    exact nDigits_le20 m (by omega)
  repeat (first | (refine W_reg rfl fun G K hG hK => ?_; simp (disch := omega) only [go_sem, ↓reduceIte, Nat.reduceEqDiff, Nat.reduceAdd, Nat.reduceLeDiff, hG, c0]; refine hK _ _ ?_; clear hK K hG G) | (refine W_end rfl fun G K hG hK => ?_; simp (disch := omega) only [go_sem, ↓reduceIte, Nat.reduceEqDiff, Nat.reduceAdd, Nat.reduceLeDiff, hG, c0]; refine hK _ _ ?_; clear hK K hG G; repeat (first | refine thenI ?_ | refine thenE ?_ | refine thenR ?_ | refine inBI ?_ | refine inBR ?_ | refine inBS ?_ | refine inBN (by decide) ?_)) | refine W_seqS ?_ | refine W_seqC ?_ | refine W_seqB ?_ | refine W_block ?_ | (refine W_skip ?_; repeat (first | refine thenI ?_ | refine thenE ?_ | refine thenR ?_ | refine inBI ?_ | refine inBR ?_ | refine inBS ?_ | refine inBN (by decide) ?_)) | (refine W_condT ?hc ?_; (case hc => (simp (disch := omega) only [go_sem, ↓reduceIte, Nat.reduceEqDiff, Nat.reduceAdd, Nat.reduceLeDiff, c0]; done))) | (refine W_condF ?hc ?_; (case hc => (simp (disch := omega) only [go_sem, ↓reduceIte, Nat.reduceEqDiff, Nat.reduceAdd, Nat.reduceLeDiff, c0]; done))))
  refine W_loop (fun d fr st' => ∃ (j : Nat) (m : Int) (o : ByteArray), d = n.natAbs - j ∧ j ≤ n.natAbs ∧ (Ext st st') ∧ (m.natAbs ≤ n.natAbs - j) ∧ (digs m.natAbs ++ o.data.toList = digs n.natAbs) ∧ (fr.env 0 = .int .i64 m) ∧ (fr.env 3 = .bool (decide (n < 0))) ∧ (fr.env 4 = .string o)) (n.natAbs) ?_ ?_
  · exact ⟨0, n, ⟨#[]⟩, by omega, by omega, Ext.refl _, by omega, by simp, (by (simp (disch := omega) only [go_sem, ↓reduceIte, Nat.reduceEqDiff, Nat.reduceAdd, Nat.reduceLeDiff]); try rfl), (by (simp (disch := omega) only [go_sem, ↓reduceIte, Nat.reduceEqDiff, Nat.reduceAdd, Nat.reduceLeDiff]); try rfl), (by (simp (disch := omega) only [go_sem, ↓reduceIte, Nat.reduceEqDiff, Nat.reduceAdd, Nat.reduceLeDiff]); try rfl)⟩
  rintro d ⟨env, loc⟩ st' ⟨j, m, o, hd, hj, hext, hm, ho, e0, e3, e4⟩
  simp only at e0 e3 e4
  have hol : o.size ≤ 20 := by
    have h2 := congrArg List.length ho
    have h3 := hlen _ rfl
    have h4 : digs n.natAbs = decDigits n.natAbs := by unfold digs; rw [if_neg (by omega)]
    rw [h4, List.length_append] at h2
    have h5 : o.data.toList.length = o.size := by simp
    omega
  by_cases hm0 : m = 0
  · subst hm0
    have c1 : ((0 : Int) != 0) = false := by decide
    have ho2 : o.data.toList = decDigits n.natAbs := by
      have h4 : digs n.natAbs = decDigits n.natAbs := by unfold digs; rw [if_neg (by omega)]
      rw [h4] at ho
      have h5 : digs (0 : Int).natAbs = [] := rfl
      rw [h5, List.nil_append] at ho
      exact ho
    cases hneg : decide (n < 0) with
    | true =>
      have hn2 : n < 0 := by simpa using hneg
      have e : (⟨#[45]⟩ : ByteArray) ++ o = ⟨(itoa n).toArray⟩ := by
        rw [app_mk, ho2]; unfold itoa; rw [if_pos hn2]
      have hs : (⟨#[45]⟩ : ByteArray).size + o.size ≤ 2 ^ 62 := by
        have : (⟨#[45]⟩ : ByteArray).size = 1 := rfl
        omega
      have had : ∀ (x y : Operand), binE Tryd.prog .add 9 x y (.string ⟨#[45]⟩) (.string o) = some (.string (⟨#[45]⟩ ++ o)) := fun x y => bin_sadd hs
      rw [← e]
      repeat (first | (refine W_reg rfl fun G K hG hK => ?_; simp (disch := omega) only [go_sem, ↓reduceIte, Nat.reduceEqDiff, Nat.reduceAdd, Nat.reduceLeDiff, hG, e0, e3, e4, c1, hneg]; refine hK _ _ ?_; clear hK K hG G) | (refine W_end rfl fun G K hG hK => ?_; simp (disch := omega) only [go_sem, ↓reduceIte, Nat.reduceEqDiff, Nat.reduceAdd, Nat.reduceLeDiff, hG, e0, e3, e4, c1, hneg]; refine hK _ _ ?_; clear hK K hG G; repeat (first | refine thenI ?_ | refine thenE ?_ | refine thenR ?_ | refine inBI ?_ | refine inBR ?_ | refine inBS ?_ | refine inBN (by decide) ?_)) | refine W_seqS ?_ | refine W_seqC ?_ | refine W_seqB ?_ | refine W_block ?_ | (refine W_skip ?_; repeat (first | refine thenI ?_ | refine thenE ?_ | refine thenR ?_ | refine inBI ?_ | refine inBR ?_ | refine inBS ?_ | refine inBN (by decide) ?_)) | (refine W_condT ?hc ?_; (case hc => (simp (disch := omega) only [go_sem, ↓reduceIte, Nat.reduceEqDiff, Nat.reduceAdd, Nat.reduceLeDiff, e0, e3, e4, c1, hneg]; done))) | (refine W_condF ?hc ?_; (case hc => (simp (disch := omega) only [go_sem, ↓reduceIte, Nat.reduceEqDiff, Nat.reduceAdd, Nat.reduceLeDiff, e0, e3, e4, c1, hneg]; done))))
      refine W_exit ?_; repeat (first | refine thenI ?_ | refine thenE ?_ | refine thenR ?_ | refine inBI ?_ | refine inBR ?_ | refine inBS ?_ | refine inBN (by decide) ?_)
      repeat (first | (refine W_reg rfl fun G K hG hK => ?_; simp (disch := omega) only [go_sem, ↓reduceIte, Nat.reduceEqDiff, Nat.reduceAdd, Nat.reduceLeDiff, hG, e0, e3, e4, hneg, had]; refine hK _ _ ?_; clear hK K hG G) | (refine W_end rfl fun G K hG hK => ?_; simp (disch := omega) only [go_sem, ↓reduceIte, Nat.reduceEqDiff, Nat.reduceAdd, Nat.reduceLeDiff, hG, e0, e3, e4, hneg, had]; refine hK _ _ ?_; clear hK K hG G; repeat (first | refine thenI ?_ | refine thenE ?_ | refine thenR ?_ | refine inBI ?_ | refine inBR ?_ | refine inBS ?_ | refine inBN (by decide) ?_)) | refine W_seqS ?_ | refine W_seqC ?_ | refine W_seqB ?_ | refine W_block ?_ | (refine W_skip ?_; repeat (first | refine thenI ?_ | refine thenE ?_ | refine thenR ?_ | refine inBI ?_ | refine inBR ?_ | refine inBS ?_ | refine inBN (by decide) ?_)) | (refine W_condT ?hc ?_; (case hc => (simp (disch := omega) only [go_sem, ↓reduceIte, Nat.reduceEqDiff, Nat.reduceAdd, Nat.reduceLeDiff, e0, e3, e4, hneg, had]; done))) | (refine W_condF ?hc ?_; (case hc => (simp (disch := omega) only [go_sem, ↓reduceIte, Nat.reduceEqDiff, Nat.reduceAdd, Nat.reduceLeDiff, e0, e3, e4, hneg, had]; done))))
      refine W_ret ?_; try (repeat (first | refine thenI ?_ | refine thenE ?_ | refine thenR ?_ | refine inBI ?_ | refine inBR ?_ | refine inBS ?_ | refine inBN (by decide) ?_))
      refine fin1 (.inl rfl) (by (simp (disch := omega) only [go_sem, ↓reduceIte, Nat.reduceEqDiff, Nat.reduceAdd, Nat.reduceLeDiff, e0, e3, e4]); try rfl) rfl ⟨hext, rfl⟩
    | false =>
      have hn2 : ¬ n < 0 := by simpa using hneg
      have e : o = ⟨(itoa n).toArray⟩ := by
        have h6 : itoa n = o.data.toList := by
          rw [ho2]; unfold itoa; rw [if_neg hn2, show n.toNat = n.natAbs by omega]
        rw [h6]
      rw [← e]
      repeat (first | (refine W_reg rfl fun G K hG hK => ?_; simp (disch := omega) only [go_sem, ↓reduceIte, Nat.reduceEqDiff, Nat.reduceAdd, Nat.reduceLeDiff, hG, e0, e3, e4, c1, hneg]; refine hK _ _ ?_; clear hK K hG G) | (refine W_end rfl fun G K hG hK => ?_; simp (disch := omega) only [go_sem, ↓reduceIte, Nat.reduceEqDiff, Nat.reduceAdd, Nat.reduceLeDiff, hG, e0, e3, e4, c1, hneg]; refine hK _ _ ?_; clear hK K hG G; repeat (first | refine thenI ?_ | refine thenE ?_ | refine thenR ?_ | refine inBI ?_ | refine inBR ?_ | refine inBS ?_ | refine inBN (by decide) ?_)) | refine W_seqS ?_ | refine W_seqC ?_ | refine W_seqB ?_ | refine W_block ?_ | (refine W_skip ?_; repeat (first | refine thenI ?_ | refine thenE ?_ | refine thenR ?_ | refine inBI ?_ | refine inBR ?_ | refine inBS ?_ | refine inBN (by decide) ?_)) | (refine W_condT ?hc ?_; (case hc => (simp (disch := omega) only [go_sem, ↓reduceIte, Nat.reduceEqDiff, Nat.reduceAdd, Nat.reduceLeDiff, e0, e3, e4, c1, hneg]; done))) | (refine W_condF ?hc ?_; (case hc => (simp (disch := omega) only [go_sem, ↓reduceIte, Nat.reduceEqDiff, Nat.reduceAdd, Nat.reduceLeDiff, e0, e3, e4, c1, hneg]; done))))
      refine W_exit ?_; repeat (first | refine thenI ?_ | refine thenE ?_ | refine thenR ?_ | refine inBI ?_ | refine inBR ?_ | refine inBS ?_ | refine inBN (by decide) ?_)
      repeat (first | (refine W_reg rfl fun G K hG hK => ?_; simp (disch := omega) only [go_sem, ↓reduceIte, Nat.reduceEqDiff, Nat.reduceAdd, Nat.reduceLeDiff, hG, e0, e3, e4, hneg]; refine hK _ _ ?_; clear hK K hG G) | (refine W_end rfl fun G K hG hK => ?_; simp (disch := omega) only [go_sem, ↓reduceIte, Nat.reduceEqDiff, Nat.reduceAdd, Nat.reduceLeDiff, hG, e0, e3, e4, hneg]; refine hK _ _ ?_; clear hK K hG G; repeat (first | refine thenI ?_ | refine thenE ?_ | refine thenR ?_ | refine inBI ?_ | refine inBR ?_ | refine inBS ?_ | refine inBN (by decide) ?_)) | refine W_seqS ?_ | refine W_seqC ?_ | refine W_seqB ?_ | refine W_block ?_ | (refine W_skip ?_; repeat (first | refine thenI ?_ | refine thenE ?_ | refine thenR ?_ | refine inBI ?_ | refine inBR ?_ | refine inBS ?_ | refine inBN (by decide) ?_)) | (refine W_condT ?hc ?_; (case hc => (simp (disch := omega) only [go_sem, ↓reduceIte, Nat.reduceEqDiff, Nat.reduceAdd, Nat.reduceLeDiff, e0, e3, e4, hneg]; done))) | (refine W_condF ?hc ?_; (case hc => (simp (disch := omega) only [go_sem, ↓reduceIte, Nat.reduceEqDiff, Nat.reduceAdd, Nat.reduceLeDiff, e0, e3, e4, hneg]; done))))
      refine W_ret ?_; try (repeat (first | refine thenI ?_ | refine thenE ?_ | refine thenR ?_ | refine inBI ?_ | refine inBR ?_ | refine inBS ?_ | refine inBN (by decide) ?_))
      refine fin1 (.inl rfl) (by (simp (disch := omega) only [go_sem, ↓reduceIte, Nat.reduceEqDiff, Nat.reduceAdd, Nat.reduceLeDiff, e0, e3, e4]); try rfl) rfl ⟨hext, rfl⟩
  · have c1 : (m != 0) = true := by simpa using hm0
    have hk : m.natAbs % 10 < 10 := Nat.mod_lt _ (by omega)
    have hmod := nat_tmod m
    have hdiv := nat_tdiv m
    generalize hc : UInt8.ofNat (48 + m.natAbs % 10) = c at *
    have hwd : IntKind.u8.wrap (48 + ((m.natAbs % 10 : Nat) : Int)) = ((c.toNat : Nat) : Int) := by rw [← hc]; exact wrap_digit _ hk
    have hstep : digs m.natAbs = digs (m.tdiv 10).natAbs ++ [c] := by rw [digs_step (by omega), hdiv, hc]
    have hcell : ∀ (j : Nat) v, (strCells ⟨#[c]⟩)[j]? = some v → cell (st' ++ [(⟨[.int .u8 (c.toNat : Int)], 5, 0⟩ : Blk)]) st'.length (0 + j) = some v := fun j v hv => by
      rw [cell_of getB2f, Nat.zero_add]
      exact hv
    have hcv : ∀ (A : List Tmp) (loc : Nat → Nat × List Value), cvB Tryd.prog A 22 9 (.slice (some ⟨st'.length, 0, none⟩) 1 1) loc (st' ++ [(⟨[.int .u8 (c.toNat : Int)], 5, 0⟩ : Blk)]) = some (.string ⟨#[c]⟩) := fun A loc => cvB_str (q := ⟨#[c]⟩) Tryd.underlying22 Tryd.underlying5 Tryd.underlying9 hcell
    have hci : ∀ x : Int, cvI Tryd.prog 3 5 (.int .i64 x) = some (.int .u8 (IntKind.u8.wrap x)) := fun x => cvI_int Tryd.underlying3 Tryd.underlying5
    have hs : (⟨#[c]⟩ : ByteArray).size + o.size ≤ 2 ^ 62 := by
      have : (⟨#[c]⟩ : ByteArray).size = 1 := rfl
      omega
    have had : ∀ (x y : Operand), binE Tryd.prog .add 9 x y (.string ⟨#[c]⟩) (.string o) = some (.string (⟨#[c]⟩ ++ o)) := fun x y => bin_sadd hs
    have hq : IntKind.i64.wrap (m.tdiv 10) = m.tdiv 10 := wrap_in (by omega) (by omega)
    have hnext : digs (m.tdiv 10).natAbs ++ ((⟨#[c]⟩ : ByteArray) ++ o).data.toList = digs n.natAbs := by
      rw [app_mk, ← ho, hstep]
      simp
    by_cases hneg : m.tmod 10 < 0
    · have c2 : decide (m.tmod 10 < 0) = true := by simpa using hneg
      have hw1 : IntKind.i64.wrap (0 - m.tmod 10) = ((m.natAbs % 10 : Nat) : Int) := by rw [wrap_in (by omega) (by omega)]; omega
      have hw2 : IntKind.i64.wrap (48 + ((m.natAbs % 10 : Nat) : Int)) = 48 + ((m.natAbs % 10 : Nat) : Int) := wrap_in (by omega) (by omega)
      repeat (first | (refine W_reg rfl fun G K hG hK => ?_; simp (disch := omega) only [go_sem, ↓reduceIte, Nat.reduceEqDiff, Nat.reduceAdd, Nat.reduceLeDiff, hG, e0, e3, e4, c1, ne_rem, c2, hw1, hw2, ev_conv, hci, hwd, hcv, had, ne_quo, hq]; refine hK _ _ ?_; clear hK K hG G) | (refine W_end rfl fun G K hG hK => ?_; simp (disch := omega) only [go_sem, ↓reduceIte, Nat.reduceEqDiff, Nat.reduceAdd, Nat.reduceLeDiff, hG, e0, e3, e4, c1, ne_rem, c2, hw1, hw2, ev_conv, hci, hwd, hcv, had, ne_quo, hq]; refine hK _ _ ?_; clear hK K hG G; repeat (first | refine thenI ?_ | refine thenE ?_ | refine thenR ?_ | refine inBI ?_ | refine inBR ?_ | refine inBS ?_ | refine inBN (by decide) ?_)) | refine W_seqS ?_ | refine W_seqC ?_ | refine W_seqB ?_ | refine W_block ?_ | (refine W_skip ?_; repeat (first | refine thenI ?_ | refine thenE ?_ | refine thenR ?_ | refine inBI ?_ | refine inBR ?_ | refine inBS ?_ | refine inBN (by decide) ?_)) | (refine W_condT ?hc ?_; (case hc => (simp (disch := omega) only [go_sem, ↓reduceIte, Nat.reduceEqDiff, Nat.reduceAdd, Nat.reduceLeDiff, e0, e3, e4, c1, ne_rem, c2, hw1, hw2, ev_conv, hci, hwd, hcv, had, ne_quo, hq]; done))) | (refine W_condF ?hc ?_; (case hc => (simp (disch := omega) only [go_sem, ↓reduceIte, Nat.reduceEqDiff, Nat.reduceAdd, Nat.reduceLeDiff, e0, e3, e4, c1, ne_rem, c2, hw1, hw2, ev_conv, hci, hwd, hcv, had, ne_quo, hq]; done))))
      refine ⟨n.natAbs - (j + 1), by omega, j + 1, m.tdiv 10, _, rfl, by omega, hext.trans (Ext.app _ _), by omega, hnext, (by (simp (disch := omega) only [go_sem, ↓reduceIte, Nat.reduceEqDiff, Nat.reduceAdd, Nat.reduceLeDiff, e0, e3, e4]); try rfl), (by (simp (disch := omega) only [go_sem, ↓reduceIte, Nat.reduceEqDiff, Nat.reduceAdd, Nat.reduceLeDiff, e0, e3, e4]); try rfl), (by (simp (disch := omega) only [go_sem, ↓reduceIte, Nat.reduceEqDiff, Nat.reduceAdd, Nat.reduceLeDiff, e0, e3, e4]); try rfl)⟩
    · have c2 : decide (m.tmod 10 < 0) = false := by simpa using hneg
      have hw1 : m.tmod 10 = ((m.natAbs % 10 : Nat) : Int) := by omega
      have hw2 : IntKind.i64.wrap (48 + ((m.natAbs % 10 : Nat) : Int)) = 48 + ((m.natAbs % 10 : Nat) : Int) := wrap_in (by omega) (by omega)
      rw [hw1] at c2
      repeat (first | (refine W_reg rfl fun G K hG hK => ?_; simp (disch := omega) only [go_sem, ↓reduceIte, Nat.reduceEqDiff, Nat.reduceAdd, Nat.reduceLeDiff, hG, e0, e3, e4, c1, ne_rem, hw1, c2, hw2, ev_conv, hci, hwd, hcv, had, ne_quo, hq]; refine hK _ _ ?_; clear hK K hG G) | (refine W_end rfl fun G K hG hK => ?_; simp (disch := omega) only [go_sem, ↓reduceIte, Nat.reduceEqDiff, Nat.reduceAdd, Nat.reduceLeDiff, hG, e0, e3, e4, c1, ne_rem, hw1, c2, hw2, ev_conv, hci, hwd, hcv, had, ne_quo, hq]; refine hK _ _ ?_; clear hK K hG G; repeat (first | refine thenI ?_ | refine thenE ?_ | refine thenR ?_ | refine inBI ?_ | refine inBR ?_ | refine inBS ?_ | refine inBN (by decide) ?_)) | refine W_seqS ?_ | refine W_seqC ?_ | refine W_seqB ?_ | refine W_block ?_ | (refine W_skip ?_; repeat (first | refine thenI ?_ | refine thenE ?_ | refine thenR ?_ | refine inBI ?_ | refine inBR ?_ | refine inBS ?_ | refine inBN (by decide) ?_)) | (refine W_condT ?hc ?_; (case hc => (simp (disch := omega) only [go_sem, ↓reduceIte, Nat.reduceEqDiff, Nat.reduceAdd, Nat.reduceLeDiff, e0, e3, e4, c1, ne_rem, hw1, c2, hw2, ev_conv, hci, hwd, hcv, had, ne_quo, hq]; done))) | (refine W_condF ?hc ?_; (case hc => (simp (disch := omega) only [go_sem, ↓reduceIte, Nat.reduceEqDiff, Nat.reduceAdd, Nat.reduceLeDiff, e0, e3, e4, c1, ne_rem, hw1, c2, hw2, ev_conv, hci, hwd, hcv, had, ne_quo, hq]; done))))
      refine ⟨n.natAbs - (j + 1), by omega, j + 1, m.tdiv 10, _, rfl, by omega, hext.trans (Ext.app _ _), by omega, hnext, (by (simp (disch := omega) only [go_sem, ↓reduceIte, Nat.reduceEqDiff, Nat.reduceAdd, Nat.reduceLeDiff, e0, e3, e4]); try rfl), (by (simp (disch := omega) only [go_sem, ↓reduceIte, Nat.reduceEqDiff, Nat.reduceAdd, Nat.reduceLeDiff, e0, e3, e4]); try rfl), (by (simp (disch := omega) only [go_sem, ↓reduceIte, Nat.reduceEqDiff, Nat.reduceAdd, Nat.reduceLeDiff, e0, e3, e4]); try rfl)⟩
end Go.Proofs.YtkohkdlbjbbegaaDoor.AM


/- The law FnExactFormatInt. -/
namespace Go.Proofs.YtkohkdlbjbbegaaDoor.AM
open Go Go.Proofs Go.Lib
set_option linter.unusedVariables false
set_option linter.unusedSimpArgs false
set_option maxRecDepth 100000
attribute [local go_sem] List.map_cons List.map_nil List.all_cons List.all_nil Bool.and_self Option.map_some List.getElem?_toArray Option.bind_some gye_b gye_t gsk_b gsk_t gb1 gb2 gb3 gb4 bne_self_eq_false beq_self_eq_true w_guard w_nil stepV_some step_some step_some' w_move w_assign w_pick w_binOp w_unOp w_load w_fieldAddr w_indexAddr w_len w_max w_index ev_max max_int ev_index w_box w_alloc w_store w_field w_extract w_nilCheck w_convert w_buildSlice w_build ev_buildL fillL_nil fillL_cons bs0 bs1 ev_conv ev_bin ev_un ev_pick ev_load ev_fieldAddr ev_indexAddr ev_len ev_field ev_extract ev_nilCheck fr_tmp fr_int fr_bool fr_str fr_nil fr_func put_some put_none bin_lss bin_leq bin_gtr bin_geq bin_eql bin_neq bin_add bin_sub bin_mul bin_seql bin_sneq un_not pick_ ext_ loadA_p cellAt_l cellAt_h okPtr_l okPtr_h fadA_p allocA_l storeA_l cells_agg cells_int cells_str cells_sl cells_bool flat_i flat_s flat_b flat_sl flat_nil loc_agg loc_int loc_str loc_sl loc_bool loc_fn loc_ptr okv_agg okv_int okv_str okv_sl okv_bool cellsFrom splice upd_eval argEnv_zero argEnv_succ ne_eq Nat.add_one_ne_zero not_false_eq_true List.not_mem_nil and_self decide_true List.getElem?_cons_zero List.getElem?_cons_succ List.size_toArray List.length_cons List.length_nil List.take_succ_cons List.take_zero List.drop_succ_cons List.drop_zero List.cons_append List.nil_append List.drop_nil Bool.not_true Bool.not_false Bool.false_eq_true Nat.zero_add Nat.add_zero wrap_in List.toList_toArray List.mem_cons or_self or_false false_or
attribute [local go_sem] ag22 ag24 ag26 ag3 ag33 ag5 ag62 ag76 ag9 bu26 bu56 by26 by3 by33 by5 by9 el22 el24 el28 el33 el44 of26_0 of26_1 of26_2 of26_3 of56_0 of56_1 of56_2 of64_0 of64_1 ro26_0 ro26_1 ro26_2 ro3_0 ro3_1 ro3_3 ro33_0 ro33_1 ro5_0 ro5_1 ro9_0 ro9_1 ro9_2 ro9_3 ro9_4 sz22 sz24 sz26 sz3 sz33 sz5 sz62 sz76 sz9 ze26 ze3 ze33 ze5 ze64 ze75 ze88 ze9
-- AUTO

theorem int_bounds {z : Int} (h : (Lit.int .i64 z).wf = true) : -9223372036854775808 ≤ z ∧ z ≤ 9223372036854775807 := by
  have h2 : (decide (IntKind.i64.min ≤ z) && decide (z ≤ IntKind.i64.max)) = true := h
  rw [Bool.and_eq_true, decide_eq_true_eq, decide_eq_true_eq] at h2
  exact h2
theorem itoa_ok (n : Int) (st : St) (h0 : -9223372036854775808 ≤ n) (h1 : n ≤ 9223372036854775807) :
    CallS Tryd.prog 33 [.int .i64 n] st fun r st2 => r = .string ⟨(itoa n).toArray⟩ ∧ st2 = st := by
  refine ⟨⟨_, Tryd.func33, rfl, rfl⟩, fun M w vals hH hV => ?_⟩
  obtain ⟨v, rfl, hv⟩ := hV.one'
  obtain rfl := hv.flat_eq rfl
  have htab := hH.tab.pow (by decide +kernel)
  refine (Tryd.strconv_Itoa n h0 h1 w htab).mono fun e w' ⟨he, k, os, hw⟩ => ?_
  subst hw
  exact ⟨_, _, st, M, he, ⟨rfl, rfl⟩, .fl _ rfl, hH.below (below_grow _ w (Nat.le_refl _) k os)⟩
theorem implFormatInt_ok (n : Int) (st : St) (h0 : -9223372036854775808 ≤ n) (h1 : n ≤ 9223372036854775807) :
    CallS Tryd.prog 20 [.int .i64 n] st fun r st2 => r = .string ⟨(itoa n).toArray⟩ ∧ st2 = st := by
  refine CallS_of_W [] 5 Tryd.func20 rfl rfl rfl rfl (by simp) ?_
  repeat (first | (refine W_reg rfl fun G K hG hK => ?_; simp (disch := omega) only [go_sem, ↓reduceIte, Nat.reduceEqDiff, Nat.reduceAdd, Nat.reduceLeDiff, hG]; refine hK _ _ ?_; clear hK K hG G) | (refine W_end rfl fun G K hG hK => ?_; simp (disch := omega) only [go_sem, ↓reduceIte, Nat.reduceEqDiff, Nat.reduceAdd, Nat.reduceLeDiff, hG]; refine hK _ _ ?_; clear hK K hG G; repeat (first | refine thenI ?_ | refine thenE ?_ | refine thenR ?_ | refine inBI ?_ | refine inBR ?_ | refine inBS ?_ | refine inBN (by decide) ?_)) | refine W_seqS ?_ | refine W_seqC ?_ | refine W_seqB ?_ | refine W_block ?_ | (refine W_skip ?_; repeat (first | refine thenI ?_ | refine thenE ?_ | refine thenR ?_ | refine inBI ?_ | refine inBR ?_ | refine inBS ?_ | refine inBN (by decide) ?_)) | (refine W_condT ?hc ?_; (case hc => (simp (disch := omega) only [go_sem, ↓reduceIte, Nat.reduceEqDiff, Nat.reduceAdd, Nat.reduceLeDiff]; done))) | (refine W_condF ?hc ?_; (case hc => (simp (disch := omega) only [go_sem, ↓reduceIte, Nat.reduceEqDiff, Nat.reduceAdd, Nat.reduceLeDiff]; done))))
  (repeat (first | refine W_seqS ?_ | refine W_seqC ?_ | refine W_seqB ?_ | refine W_block ?_)); refine W_reg rfl fun G K hG hK => ?_; simp (disch := omega) only [go_sem, ↓reduceIte, Nat.reduceEqDiff, Nat.reduceAdd, Nat.reduceLeDiff, hG]
  refine w_call (itoa_ok n st h0 h1) (by simp (disch := omega) only [go_sem, ↓reduceIte, Nat.reduceEqDiff]) ?hl ?_
  case hl => first | rfl | (simp only [go_sem, List.all_cons, List.all_nil, Bool.not_false, Bool.and_self]; done)
  rintro r_ st ⟨rfl, rfl⟩; refine ⟨fun e => (by cases e), ?_⟩
  simp (disch := omega) only [go_sem, ↓reduceIte, Nat.reduceEqDiff, Nat.reduceAdd, Nat.reduceLeDiff, hG]; refine hK _ _ ?_; clear hK K hG G; repeat (first | refine thenI ?_ | refine thenE ?_ | refine thenR ?_ | refine inBI ?_ | refine inBR ?_ | refine inBS ?_ | refine inBN (by decide) ?_)
  refine W_ret ?_; try (repeat (first | refine thenI ?_ | refine thenE ?_ | refine thenR ?_ | refine inBI ?_ | refine inBR ?_ | refine inBS ?_ | refine inBN (by decide) ?_))
  refine fin1 (.inl rfl) (by (simp (disch := omega) only [go_sem, ↓reduceIte, Nat.reduceEqDiff, Nat.reduceAdd, Nat.reduceLeDiff]); try rfl) rfl ⟨rfl, rfl⟩
end Go.Proofs.YtkohkdlbjbbegaaDoor.AM


/- A text is split at a byte. -/
namespace Go.Proofs.YtkohkdlbjbbegaaDoor.AM
open Go Go.Proofs
set_option linter.unusedVariables false
set_option linter.unusedSimpArgs false

def splitL (c : UInt8) : List UInt8 → List (List UInt8)
  | [] => [[]]
  | x :: xs => if x = c then [] :: splitL c xs else match splitL c xs with
    | [] => [[x]]
    | h :: t => (x :: h) :: t
theorem splitL_noc {c : UInt8} : ∀ {xs : List UInt8}, c ∉ xs → splitL c xs = [xs]
  | [], _ => rfl
  | x :: xs, h => by
    have h1 : x ≠ c := fun e => h (by simp [e])
    have h2 : c ∉ xs := fun e => h (by simp [e])
    simp only [splitL, if_neg h1, splitL_noc h2]
theorem splitL_app {c : UInt8} {ys : List UInt8} : ∀ {xs : List UInt8}, c ∉ xs → splitL c (xs ++ c :: ys) = xs :: splitL c ys
  | [], _ => by simp [splitL]
  | x :: xs, h => by
    have h1 : x ≠ c := fun e => h (by simp [e])
    have h2 : c ∉ xs := fun e => h (by simp [e])
    simp only [List.cons_append, splitL, if_neg h1, splitL_app h2]
theorem splitL_pos (c : UInt8) (xs : List UInt8) : ∃ h t, splitL c xs = h :: t := by
  induction xs with
  | nil => exact ⟨_, _, rfl⟩
  | cons x xs ih =>
    obtain ⟨h, t, e⟩ := ih
    simp only [splitL, e]
    split
    · exact ⟨_, _, rfl⟩
    · exact ⟨_, _, rfl⟩
theorem splitL_each (c : UInt8) : ∀ (xs : List UInt8), ∀ p ∈ splitL c xs, c ∉ p
  | [], p, hp => by simp [splitL] at hp; simp [hp]
  | x :: xs, p, hp => by
    obtain ⟨h, t, e⟩ := splitL_pos c xs
    have ih := splitL_each c xs
    rw [e] at ih
    simp only [splitL, e] at hp
    split at hp
    · rcases List.mem_cons.1 hp with rfl | hp
      · simp
      · exact ih p hp
    · rename_i hx
      rcases List.mem_cons.1 hp with rfl | hp
      · intro hm
        rcases List.mem_cons.1 hm with e | hm
        · exact hx e.symm
        · exact ih h (by simp) hm
      · exact ih p (by simp [hp])
theorem splitL_len (c : UInt8) (xs : List UInt8) : (splitL c xs).length ≤ xs.length + 1 := by
  induction xs with
  | nil => simp [splitL]
  | cons x xs ih =>
    obtain ⟨h, t, e⟩ := splitL_pos c xs
    rw [e] at ih
    simp only [splitL, e, List.length_cons] at ih ⊢
    split <;> simp only [List.length_cons] <;> omega
theorem joinTail_split (c : UInt8) : ∀ (xs : List UInt8), Lib.join (splitL c xs) [c] = xs
  | [] => by simp [splitL, Lib.join_one]
  | x :: xs => by
    have ih := joinTail_split c xs
    obtain ⟨h, t, e⟩ := splitL_pos c xs
    rw [e, Lib.join_cons] at ih
    simp only [splitL, e]
    split
    · rename_i hx
      rw [Lib.join_cons]
      simp only [Lib.joinTail, List.map_cons, List.flatten_cons, List.nil_append, List.singleton_append, List.cons_append] at ih ⊢
      rw [hx]
      congr 1
    · rw [Lib.join_cons]
      simp only [List.cons_append]
      rw [ih]
def splitB (c : UInt8) (s : ByteArray) : List ByteArray := (splitL c s.data.toList).map fun l => ⟨l.toArray⟩
theorem splitB_join (c : UInt8) (s : ByteArray) : Lib.join ((splitB c s).map (·.data.toList)) [c] = s.data.toList := by
  unfold splitB
  rw [List.map_map]
  have : ((fun x : ByteArray => x.data.toList) ∘ fun l : List UInt8 => (⟨l.toArray⟩ : ByteArray)) = id := by funext l; simp
  rw [this, List.map_id, joinTail_split]
theorem splitB_each {c : UInt8} {s p : ByteArray} (h : p ∈ splitB c s) : (splitB c p).length = 1 := by
  obtain ⟨l, hl, rfl⟩ := List.mem_map.1 h
  have := splitL_each c _ l hl
  unfold splitB
  simp [splitL_noc this]
theorem splitL_size (c : UInt8) : ∀ (xs : List UInt8), ∀ p ∈ splitL c xs, p.length ≤ xs.length
  | [], p, hp => by simp [splitL] at hp; simp [hp]
  | x :: xs, p, hp => by
    obtain ⟨h, t, e⟩ := splitL_pos c xs
    have ih := splitL_size c xs
    rw [e] at ih
    simp only [splitL, e] at hp
    split at hp
    · rcases List.mem_cons.1 hp with rfl | hp
      · simp
      · have := ih p hp
        simp only [List.length_cons]; omega
    · rcases List.mem_cons.1 hp with rfl | hp
      · have := ih h (by simp)
        simp only [List.length_cons]; omega
      · have := ih p (by simp [hp])
        simp only [List.length_cons]; omega
theorem splitB_size {c : UInt8} {s p : ByteArray} (h : p ∈ splitB c s) : p.size ≤ s.size := by
  obtain ⟨l, hl, rfl⟩ := List.mem_map.1 h
  have := splitL_size c _ l hl
  show l.toArray.size ≤ s.size
  simpa using this
theorem splitB_len (c : UInt8) (s : ByteArray) : (splitB c s).length ≤ s.size + 1 := by
  unfold splitB
  have := splitL_len c s.data.toList
  rw [List.length_map]
  simpa using this
theorem extract_list (s : ByteArray) (f j : Nat) : (s.extract f j).data.toList = (s.data.toList.drop f).take (j - f) := by
  simp
theorem extract_mk (s : ByteArray) (f j : Nat) : s.extract f j = ⟨((s.data.toList.drop f).take (j - f)).toArray⟩ := by
  apply ByteArray.ext
  apply Array.ext'
  rw [extract_list]
/-- What stands after `j` steps: the parts so far, and where the next one begins. -/
def SplitI (c : UInt8) (s : ByteArray) (j f : Nat) (out : List ByteArray) : Prop :=
  if j = s.size + 1 then out = splitB c s else f ≤ j ∧ j ≤ s.size ∧ (∀ i, f ≤ i → i < j → s.data.toList[i]? ≠ some c) ∧ out ++ (splitL c (s.data.toList.drop f)).map (fun l => (⟨l.toArray⟩ : ByteArray)) = splitB c s ∧ out.length ≤ j
theorem SplitI.zero (c : UInt8) (s : ByteArray) : SplitI c s 0 0 [] := by
  unfold SplitI
  rw [if_neg (by omega)]
  exact ⟨Nat.le_refl _, Nat.zero_le _, fun i h1 h2 => by omega, by simp [splitB], by simp⟩
theorem SplitI.keep {c : UInt8} {s : ByteArray} {j f : Nat} {out : List ByteArray} (h : SplitI c s j f out) (hj : j < s.size) (hc : s.data.toList[j]? ≠ some c) : SplitI c s (j + 1) f out := by
  unfold SplitI at h ⊢
  rw [if_neg (by omega)] at h ⊢
  obtain ⟨h1, h2, h3, h4, h5⟩ := h
  exact ⟨by omega, by omega, fun i q1 q2 => by
    rcases Nat.lt_or_ge i j with h | h
    · exact h3 i q1 h
    · have : i = j := by omega
      subst this; exact hc, h4, by omega⟩
theorem noc_take {c : UInt8} {l : List UInt8} {f j : Nat} (h : ∀ i, f ≤ i → i < j → l[i]? ≠ some c) : c ∉ (l.drop f).take (j - f) := by
  intro hm
  obtain ⟨i, hi, he⟩ := List.getElem_of_mem hm
  have h1 : i < j - f := by simp at hi; omega
  refine h (f + i) (by omega) (by omega) ?_
  rw [List.getElem_take, List.getElem_drop] at he
  rw [← he]
  exact List.getElem?_eq_getElem _
theorem SplitI.cut {c : UInt8} {s : ByteArray} {j f : Nat} {out : List ByteArray} (h : SplitI c s j f out) (hj : j < s.size) (hc : s.data.toList[j]? = some c) : SplitI c s (j + 1) (j + 1) (out ++ [s.extract f j]) := by
  unfold SplitI at h ⊢
  rw [if_neg (by omega)] at h ⊢
  obtain ⟨h1, h2, h3, h4, h5⟩ := h
  have hlt : j < s.data.toList.length := by simpa using hj
  refine ⟨Nat.le_refl _, by omega, fun i q1 q2 => by omega, ?_, by simp; omega⟩
  have e : s.data.toList.drop f = (s.data.toList.drop f).take (j - f) ++ c :: s.data.toList.drop (j + 1) := by
    have e1 : (s.data.toList.drop f).drop (j - f) = c :: s.data.toList.drop (j + 1) := by
      rw [List.drop_drop, show f + (j - f) = j by omega, List.drop_eq_getElem_cons hlt]
      rw [List.getElem?_eq_getElem hlt] at hc
      rw [Option.some.inj hc]
    conv => lhs; rw [← List.take_append_drop (j - f) (s.data.toList.drop f)]
    rw [e1]
  rw [e, splitL_app (noc_take h3)] at h4
  rw [← h4, extract_mk]
  simp
theorem SplitI.last {c : UInt8} {s : ByteArray} {f : Nat} {out : List ByteArray} (h : SplitI c s s.size f out) (g : Nat) : SplitI c s (s.size + 1) g (out ++ [s.extract f s.size]) := by
  unfold SplitI at h ⊢
  rw [if_neg (by omega)] at h
  rw [if_pos rfl]
  obtain ⟨h1, h2, h3, h4, h5⟩ := h
  have hl : s.data.toList.length = s.size := by simp
  have e : s.data.toList.drop f = (s.data.toList.drop f).take (s.size - f) := by
    rw [List.take_of_length_le]; simp
  have h6 := noc_take h3
  rw [← e] at h6
  rw [splitL_noc h6] at h4
  rw [← h4, extract_mk, ← e]
  simp
theorem SplitI.done {c : UInt8} {s : ByteArray} {f : Nat} {out : List ByteArray} (h : SplitI c s (s.size + 1) f out) : out = splitB c s := by
  unfold SplitI at h
  rwa [if_pos rfl] at h
theorem SplitI.in {c : UInt8} {s : ByteArray} {j f : Nat} {out : List ByteArray} (h : SplitI c s j f out) (hj : j ≤ s.size) : f ≤ j ∧ out.length ≤ j := by
  unfold SplitI at h
  rw [if_neg (by omega)] at h
  exact ⟨h.1, h.2.2.2.2⟩
end Go.Proofs.YtkohkdlbjbbegaaDoor.AM

