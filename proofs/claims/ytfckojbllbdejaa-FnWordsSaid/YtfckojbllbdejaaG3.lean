/- My texts for the law, laid together (part 3): Q5 Q6 PL1 O1 O2 K6 O9 K1 C8 K4 C10 PL2 C5. -/
import Derived.Test.YtfckojbllbdejaaG2
import Derived.Sort.Walk0
import Derived.Lib.Strings
/- Terms drawn: spec.l3Draw. -/
namespace Go.Proofs.Ytfckojbllbdejaa.AM
open Go Go.Proofs
set_option linter.unusedVariables false
set_option linter.unusedSimpArgs false
set_option maxRecDepth 100000
attribute [local go_sem] List.map_cons List.map_nil List.all_cons List.all_nil Bool.and_self Option.map_some List.getElem?_toArray Option.bind_some gye_b gye_t gsk_b gsk_t gb1 gb2 gb3 gb4 bne_self_eq_false beq_self_eq_true w_guard w_nil stepV_some step_some step_some' w_move w_assign w_pick w_binOp w_unOp w_load w_fieldAddr w_indexAddr w_len w_max w_index ev_max max_int ev_index w_box w_alloc w_store w_field w_extract w_nilCheck w_convert w_buildSlice w_build ev_buildL fillL_nil fillL_cons bs0 bs1 ev_conv ev_bin ev_un ev_pick ev_load ev_fieldAddr ev_indexAddr ev_len ev_field ev_extract ev_nilCheck fr_tmp fr_int fr_bool fr_str fr_nil fr_func put_some put_none bin_lss bin_leq bin_gtr bin_geq bin_eql bin_neq bin_add bin_sub bin_mul bin_seql bin_sneq un_not pick_ ext_ loadA_p cellAt_l cellAt_h okPtr_l okPtr_h fadA_p allocA_l storeA_l cells_agg cells_int cells_str cells_sl cells_bool flat_i flat_s flat_b flat_sl flat_nil loc_agg loc_int loc_str loc_sl loc_bool loc_fn loc_ptr okv_agg okv_int okv_str okv_sl okv_bool cellsFrom splice upd_eval argEnv_zero argEnv_succ ne_eq Nat.add_one_ne_zero not_false_eq_true List.not_mem_nil and_self decide_true List.getElem?_cons_zero List.getElem?_cons_succ List.size_toArray List.length_cons List.length_nil List.take_succ_cons List.take_zero List.drop_succ_cons List.drop_zero List.cons_append List.nil_append List.drop_nil Bool.not_true Bool.not_false Bool.false_eq_true Nat.zero_add Nat.add_zero wrap_in List.toList_toArray List.mem_cons or_self or_false false_or
attribute [local go_sem] ag22 ag24 ag26 ag3 ag31 ag5 ag9 bu26 bu31 bu51 by26 by9 el22 el24 el42 el45 of26_0 of26_1 of26_2 of26_3 of31_0 of31_1 of31_2 of51_0 of51_1 of51_2 ro26_0 ro26_1 ro26_2 ro3_3 ro9_0 ro9_1 ro9_2 ro9_3 ro9_4 sz22 sz24 sz26 sz3 sz31 sz5 sz9 ze26 ze31 ze9
-- AUTO

/-- A term drawn: the cursor turned, the term's memory new. -/
def DrawT (q : Nat) (xs : List Byt) (st : St) (R : T → Prop) (r : Value) (st2 : St) : Prop := Drawn q xs st st2 ∧ ∃ t ds L, r = .agg ds.toArray ∧ OwnT st2 t ds L ∧ Fresh st.length L ∧ R t
theorem Drawn.own {q : Nat} {bs : List Byt} {n0 : Nat} {a b : St} {t : T} {cs : List Value} {L : List Nat} (h : Drawn q bs a b) (ho : OwnT a t cs L) (hf : Fresh n0 L) (hq : q < n0) : OwnT b t cs L :=
  Own.frame _ _ _ (fun i hi => h.away.2 i (Own.lt _ _ _ ho i hi) fun e => by
    have := hf.2 i hi
    cases e; omega) ho
theorem Drawn.enc {q : Nat} {bs : List Byt} {n0 : Nat} {a b : St} {t : T} {cs : List Value} {L : List Nat} (h : Drawn q bs a b) (ho : OwnT a t cs L) (hf : Fresh n0 L) (hq : q < n0) : Enc b t cs := Own.enc _ _ _ (h.own ho hf hq)
theorem Drawn.ext2 {q : Nat} {xs : List Byt} {a b c : St} (h : Drawn q xs a b) (hx : Ext b c) : Drawn q xs a c := ⟨h.cur.ext hx, h.away.same (Away.of_ext hx)⟩
theorem Cur.lt {st : St} {q : Nat} {xs : List Byt} (h : Cur st q xs) : q < st.length := by obtain ⟨_, _, _, h, _⟩ := h; exact (List.getElem?_eq_some_iff.1 h).1
theorem Fresh.one {n k : Nat} (h : n ≤ k) : Fresh n [k] := ⟨by simp, fun i hi => by cases List.mem_singleton.1 hi; exact h⟩
theorem Fresh.cons {n k : Nat} {L : List Nat} (h : Fresh n L) (hlt : ∀ i ∈ L, i < k) (hk : n ≤ k) : Fresh n (k :: L) := ⟨List.nodup_cons.2 ⟨fun hm => by have := hlt k hm; omega, h.1⟩, fun i hi => by
  rcases List.mem_cons.1 hi with rfl | hi
  · exact hk
  · exact h.2 i hi⟩
theorem Fresh.app {n m : Nat} {L K : List Nat} (h : Fresh n L) (g : Fresh m K) (hlt : ∀ i ∈ L, i < m) (hn : n ≤ m) : Fresh n (L ++ K) := ⟨List.nodup_append.2 ⟨h.1, g.1, fun a ha b hb e => by
  subst e
  have h1 := hlt a ha
  have h2 := g.2 a hb
  omega⟩, fun i hi => by
  rcases List.mem_append.1 hi with hi | hi
  · exact h.2 i hi
  · have := g.2 i hi; omega⟩
theorem plain_var (nm : ByteArray) : Plain (.mk 1 0 nm []) := .mk _ _ _ _ (fun _ => ⟨rfl, rfl⟩) (fun a ha => by cases ha)
theorem plain_word (n : Int) (nm : ByteArray) : Plain (.mk 3 n nm []) := .mk _ _ _ _ (fun h => by cases h) (fun a ha => by cases ha)
theorem plain_app (n : Int) (nm : ByteArray) (args : List T) (h : ∀ a ∈ args, Plain a) : Plain (.mk 2 n nm args) := .mk _ _ _ _ (fun h => by cases h) h

def DrawP (d : Nat) (t : T) : Prop := Plain t ∧ t.wt + 3 ≤ 4 * 2 ^ d
theorem leaf_ok {d : Nat} {k n : Int} {nm : ByteArray} (hn : nm.size ≤ 1) (h : Plain (.mk k n nm [])) : DrawP d (.mk k n nm []) := ⟨h, by
  have : 1 ≤ 2 ^ d := Nat.one_le_two_pow
  simp only [T.wt, T.wtL, List.length_nil]; omega⟩
theorem size_of_mem {w : ByteArray} {cs : List Value} (h : Value.string w ∈ cs) (hs : cs.all (fun v => match v with | .string s => decide (s.size ≤ 1) | _ => false) = true) : w.size ≤ 1 := by
  have := List.all_eq_true.1 hs _ h
  simpa using this

theorem l3Draw_of (q : Nat) (xs : List Byt) (g : Bool) (d : Nat) (hd10 : d ≤ 10) (st : St) (hq : Cur st q xs)
    (ih : ∀ e, d = e + 1 → ∀ st, Cur st q xs → CallS Try.prog 33 [.pointer (some ⟨q, 0, none⟩), .int .i64 (e : Nat), .bool g] st (DrawT q xs st (DrawP e))) :
    CallS Try.prog 33 [.pointer (some ⟨q, 0, none⟩), .int .i64 (d : Nat), .bool g] st (DrawT q xs st (DrawP d)) := by
  refine CallS_of_W [] 57 Try.func33 rfl rfl rfl rfl (by simp) ?_
  repeat (first | (refine W_reg rfl fun G K hG hK => ?_; simp (disch := omega) only [go_sem, ↓reduceIte, Nat.reduceEqDiff, Nat.reduceAdd, Nat.reduceLeDiff, hG]; refine hK _ _ ?_; clear hK K hG G) | (refine W_end rfl fun G K hG hK => ?_; simp (disch := omega) only [go_sem, ↓reduceIte, Nat.reduceEqDiff, Nat.reduceAdd, Nat.reduceLeDiff, hG]; refine hK _ _ ?_; clear hK K hG G; repeat (first | refine thenI ?_ | refine thenE ?_ | refine thenR ?_ | refine inBI ?_ | refine inBR ?_ | refine inBS ?_ | refine inBN (by decide) ?_)) | refine W_seqS ?_ | refine W_seqC ?_ | refine W_seqB ?_ | refine W_block ?_ | (refine W_skip ?_; repeat (first | refine thenI ?_ | refine thenE ?_ | refine thenR ?_ | refine inBI ?_ | refine inBR ?_ | refine inBS ?_ | refine inBN (by decide) ?_)) | (refine W_condT ?hc ?_; (case hc => (simp (disch := omega) only [go_sem, ↓reduceIte, Nat.reduceEqDiff, Nat.reduceAdd, Nat.reduceLeDiff]; done))) | (refine W_condF ?hc ?_; (case hc => (simp (disch := omega) only [go_sem, ↓reduceIte, Nat.reduceEqDiff, Nat.reduceAdd, Nat.reduceLeDiff]; done))))
  refine W_seq ?_
  refine W_to (fun fr st' => ∃ (b : Bool), (Drawn q xs st st') ∧ (b = false → 2 ≤ d) ∧ (fr.env 0 = .pointer (some ⟨q, 0, none⟩)) ∧ (fr.env 1 = .int .i64 (d : Nat)) ∧ (fr.env 2 = .bool g) ∧ (fr.env 6 = .pointer (some ⟨6, 0, some 1⟩)) ∧ (fr.env 13 = .bool b) ∧ ((fr.loc 6).1 = 1 ∧ (fr.loc 6).2.length = 4) ∧ ((fr.loc 7).1 = 0)) ?_ ?_
  · by_cases h2 : d < 2
    · have c1 : decide ((d : Int) < 2) = true := by simp; omega
      repeat (first | (refine W_reg rfl fun G K hG hK => ?_; simp (disch := omega) only [go_sem, ↓reduceIte, Nat.reduceEqDiff, Nat.reduceAdd, Nat.reduceLeDiff, hG, c1]; refine hK _ _ ?_; clear hK K hG G) | (refine W_end rfl fun G K hG hK => ?_; simp (disch := omega) only [go_sem, ↓reduceIte, Nat.reduceEqDiff, Nat.reduceAdd, Nat.reduceLeDiff, hG, c1]; refine hK _ _ ?_; clear hK K hG G; repeat (first | refine thenI ?_ | refine thenE ?_ | refine thenR ?_ | refine inBI ?_ | refine inBR ?_ | refine inBS ?_ | refine inBN (by decide) ?_)) | refine W_seqS ?_ | refine W_seqC ?_ | refine W_seqB ?_ | refine W_block ?_ | (refine W_skip ?_; repeat (first | refine thenI ?_ | refine thenE ?_ | refine thenR ?_ | refine inBI ?_ | refine inBR ?_ | refine inBS ?_ | refine inBN (by decide) ?_)) | (refine W_condT ?hc ?_; (case hc => (simp (disch := omega) only [go_sem, ↓reduceIte, Nat.reduceEqDiff, Nat.reduceAdd, Nat.reduceLeDiff, c1]; done))) | (refine W_condF ?hc ?_; (case hc => (simp (disch := omega) only [go_sem, ↓reduceIte, Nat.reduceEqDiff, Nat.reduceAdd, Nat.reduceLeDiff, c1]; done))))
      exact ⟨true, .refl hq, fun h => (by cases h), (by (simp (disch := omega) only [go_sem, ↓reduceIte, Nat.reduceEqDiff, Nat.reduceAdd, Nat.reduceLeDiff]); try rfl), (by (simp (disch := omega) only [go_sem, ↓reduceIte, Nat.reduceEqDiff, Nat.reduceAdd, Nat.reduceLeDiff]); try rfl), (by (simp (disch := omega) only [go_sem, ↓reduceIte, Nat.reduceEqDiff, Nat.reduceAdd, Nat.reduceLeDiff]); try rfl), (by (simp (disch := omega) only [go_sem, ↓reduceIte, Nat.reduceEqDiff, Nat.reduceAdd, Nat.reduceLeDiff]); try rfl), (by (simp (disch := omega) only [go_sem, ↓reduceIte, Nat.reduceEqDiff, Nat.reduceAdd, Nat.reduceLeDiff]); try rfl), ⟨(by (simp (disch := omega) only [go_sem, ↓reduceIte, Nat.reduceEqDiff, Nat.reduceAdd, Nat.reduceLeDiff]); try rfl), (by (simp (disch := omega) only [go_sem, ↓reduceIte, Nat.reduceEqDiff, Nat.reduceAdd, Nat.reduceLeDiff]); try rfl)⟩, (by (simp (disch := omega) only [go_sem, ↓reduceIte, Nat.reduceEqDiff, Nat.reduceAdd, Nat.reduceLeDiff]); try rfl)⟩
    · have c1 : decide ((d : Int) < 2) = false := by simp; omega
      refine W_end rfl fun G K hG hK => ?_; simp (disch := omega) only [go_sem, ↓reduceIte, Nat.reduceEqDiff, Nat.reduceAdd, Nat.reduceLeDiff, hG, c1]
      refine w_call (l1Once_ok q xs st 4 (by omega) (by omega) hq) (by simp (disch := omega) only [go_sem, ↓reduceIte, Nat.reduceEqDiff]) ?hl ?_
      case hl => first | rfl | (simp only [go_sem, List.all_cons, List.all_nil, Bool.not_false, Bool.and_self]; done)
      rintro r_ sa ⟨⟨b, rfl⟩, hd, hl⟩; refine ⟨fun e => (by cases e), ?_⟩
      simp (disch := omega) only [go_sem, ↓reduceIte, Nat.reduceEqDiff, Nat.reduceAdd, Nat.reduceLeDiff, hG]; refine hK _ _ ?_; clear hK K hG G; repeat (first | refine thenI ?_ | refine thenE ?_ | refine thenR ?_ | refine inBI ?_ | refine inBR ?_ | refine inBS ?_ | refine inBN (by decide) ?_)
      exact ⟨b, hd, fun _ => (by omega), (by (simp (disch := omega) only [go_sem, ↓reduceIte, Nat.reduceEqDiff, Nat.reduceAdd, Nat.reduceLeDiff]); try rfl), (by (simp (disch := omega) only [go_sem, ↓reduceIte, Nat.reduceEqDiff, Nat.reduceAdd, Nat.reduceLeDiff]); try rfl), (by (simp (disch := omega) only [go_sem, ↓reduceIte, Nat.reduceEqDiff, Nat.reduceAdd, Nat.reduceLeDiff]); try rfl), (by (simp (disch := omega) only [go_sem, ↓reduceIte, Nat.reduceEqDiff, Nat.reduceAdd, Nat.reduceLeDiff]); try rfl), (by (simp (disch := omega) only [go_sem, ↓reduceIte, Nat.reduceEqDiff, Nat.reduceAdd, Nat.reduceLeDiff]); try rfl), ⟨(by (simp (disch := omega) only [go_sem, ↓reduceIte, Nat.reduceEqDiff, Nat.reduceAdd, Nat.reduceLeDiff]); try rfl), (by (simp (disch := omega) only [go_sem, ↓reduceIte, Nat.reduceEqDiff, Nat.reduceAdd, Nat.reduceLeDiff]); try rfl)⟩, (by (simp (disch := omega) only [go_sem, ↓reduceIte, Nat.reduceEqDiff, Nat.reduceAdd, Nat.reduceLeDiff]); try rfl)⟩
  rintro ⟨env, loc⟩ st' ⟨b, hdr, hb, e0, e1, e2, e6, e13, ⟨l6, l6'⟩, l7⟩
  simp only at e0 e1 e2 e6 e13 l6 l6' l7
  cases b with
  | true =>
    repeat (first | (refine W_reg rfl fun G K hG hK => ?_; simp (disch := omega) only [go_sem, ↓reduceIte, Nat.reduceEqDiff, Nat.reduceAdd, Nat.reduceLeDiff, hG, e0, e1, e2, e6, e13, l6, l6', l7]; refine hK _ _ ?_; clear hK K hG G) | (refine W_end rfl fun G K hG hK => ?_; simp (disch := omega) only [go_sem, ↓reduceIte, Nat.reduceEqDiff, Nat.reduceAdd, Nat.reduceLeDiff, hG, e0, e1, e2, e6, e13, l6, l6', l7]; refine hK _ _ ?_; clear hK K hG G; repeat (first | refine thenI ?_ | refine thenE ?_ | refine thenR ?_ | refine inBI ?_ | refine inBR ?_ | refine inBS ?_ | refine inBN (by decide) ?_)) | refine W_seqS ?_ | refine W_seqC ?_ | refine W_seqB ?_ | refine W_block ?_ | (refine W_skip ?_; repeat (first | refine thenI ?_ | refine thenE ?_ | refine thenR ?_ | refine inBI ?_ | refine inBR ?_ | refine inBS ?_ | refine inBN (by decide) ?_)) | (refine W_condT ?hc ?_; (case hc => (simp (disch := omega) only [go_sem, ↓reduceIte, Nat.reduceEqDiff, Nat.reduceAdd, Nat.reduceLeDiff, e0, e1, e2, e6, e13, l6, l6', l7]; done))) | (refine W_condF ?hc ?_; (case hc => (simp (disch := omega) only [go_sem, ↓reduceIte, Nat.reduceEqDiff, Nat.reduceAdd, Nat.reduceLeDiff, e0, e1, e2, e6, e13, l6, l6', l7]; done))))
    refine W_seq ?_
    refine W_to (fun fr st' => ∃ (b : Bool), (Drawn q xs st st') ∧ (fr.env 0 = .pointer (some ⟨q, 0, none⟩)) ∧ (fr.env 6 = .pointer (some ⟨6, 0, some 1⟩)) ∧ (fr.env 19 = .bool b) ∧ ((fr.loc 6).1 = 1 ∧ (fr.loc 6).2.length = 4)) ?_ ?_
    · cases g with
      | true =>
        repeat (first | (refine W_reg rfl fun G K hG hK => ?_; simp (disch := omega) only [go_sem, ↓reduceIte, Nat.reduceEqDiff, Nat.reduceAdd, Nat.reduceLeDiff, hG, e0, e1, e2, e6, e13, l6, l6', l7]; refine hK _ _ ?_; clear hK K hG G) | (refine W_end rfl fun G K hG hK => ?_; simp (disch := omega) only [go_sem, ↓reduceIte, Nat.reduceEqDiff, Nat.reduceAdd, Nat.reduceLeDiff, hG, e0, e1, e2, e6, e13, l6, l6', l7]; refine hK _ _ ?_; clear hK K hG G; repeat (first | refine thenI ?_ | refine thenE ?_ | refine thenR ?_ | refine inBI ?_ | refine inBR ?_ | refine inBS ?_ | refine inBN (by decide) ?_)) | refine W_seqS ?_ | refine W_seqC ?_ | refine W_seqB ?_ | refine W_block ?_ | (refine W_skip ?_; repeat (first | refine thenI ?_ | refine thenE ?_ | refine thenR ?_ | refine inBI ?_ | refine inBR ?_ | refine inBS ?_ | refine inBN (by decide) ?_)) | (refine W_condT ?hc ?_; (case hc => (simp (disch := omega) only [go_sem, ↓reduceIte, Nat.reduceEqDiff, Nat.reduceAdd, Nat.reduceLeDiff, e0, e1, e2, e6, e13, l6, l6', l7]; done))) | (refine W_condF ?hc ?_; (case hc => (simp (disch := omega) only [go_sem, ↓reduceIte, Nat.reduceEqDiff, Nat.reduceAdd, Nat.reduceLeDiff, e0, e1, e2, e6, e13, l6, l6', l7]; done))))
        exact ⟨false, hdr, (by (simp (disch := omega) only [go_sem, ↓reduceIte, Nat.reduceEqDiff, Nat.reduceAdd, Nat.reduceLeDiff, e0, e1, e2, e6, e13, l6, l6', l7]); try rfl), (by (simp (disch := omega) only [go_sem, ↓reduceIte, Nat.reduceEqDiff, Nat.reduceAdd, Nat.reduceLeDiff, e0, e1, e2, e6, e13, l6, l6', l7]); try rfl), (by (simp (disch := omega) only [go_sem, ↓reduceIte, Nat.reduceEqDiff, Nat.reduceAdd, Nat.reduceLeDiff, e0, e1, e2, e6, e13, l6, l6', l7]); try rfl), ⟨(by (simp (disch := omega) only [go_sem, ↓reduceIte, Nat.reduceEqDiff, Nat.reduceAdd, Nat.reduceLeDiff, e0, e1, e2, e6, e13, l6, l6', l7]); try rfl), (by (simp (disch := omega) only [go_sem, ↓reduceIte, Nat.reduceEqDiff, Nat.reduceAdd, Nat.reduceLeDiff, e0, e1, e2, e6, e13, l6, l6', l7]); try rfl)⟩⟩
      | false =>
        refine W_end rfl fun G K hG hK => ?_; simp (disch := omega) only [go_sem, ↓reduceIte, Nat.reduceEqDiff, Nat.reduceAdd, Nat.reduceLeDiff, hG, e0, e1, e2, e6, e13, l6, l6', l7]
        refine w_call (l1Once_ok q xs _ 2 (by omega) (by omega) hdr.cur) (by simp (disch := omega) only [go_sem, ↓reduceIte, Nat.reduceEqDiff, e0, e1, e2, e6, e13, l6, l6', l7]) ?hl ?_
        case hl => first | rfl | (simp only [go_sem, List.all_cons, List.all_nil, Bool.not_false, Bool.and_self, e0, e1, e2, e6, e13, l6, l6', l7]; done)
        rintro r_ sa ⟨⟨b, rfl⟩, hd, hl⟩; refine ⟨fun e => (by cases e), ?_⟩
        simp (disch := omega) only [go_sem, ↓reduceIte, Nat.reduceEqDiff, Nat.reduceAdd, Nat.reduceLeDiff, hG, e0, e1, e2, e6, e13, l6, l6', l7]; refine hK _ _ ?_; clear hK K hG G; repeat (first | refine thenI ?_ | refine thenE ?_ | refine thenR ?_ | refine inBI ?_ | refine inBR ?_ | refine inBS ?_ | refine inBN (by decide) ?_)
        exact ⟨b, hdr.trans hd, (by (simp (disch := omega) only [go_sem, ↓reduceIte, Nat.reduceEqDiff, Nat.reduceAdd, Nat.reduceLeDiff, e0, e1, e2, e6, e13, l6, l6', l7]); try rfl), (by (simp (disch := omega) only [go_sem, ↓reduceIte, Nat.reduceEqDiff, Nat.reduceAdd, Nat.reduceLeDiff, e0, e1, e2, e6, e13, l6, l6', l7]); try rfl), (by (simp (disch := omega) only [go_sem, ↓reduceIte, Nat.reduceEqDiff, Nat.reduceAdd, Nat.reduceLeDiff, e0, e1, e2, e6, e13, l6, l6', l7]); try rfl), ⟨(by (simp (disch := omega) only [go_sem, ↓reduceIte, Nat.reduceEqDiff, Nat.reduceAdd, Nat.reduceLeDiff, e0, e1, e2, e6, e13, l6, l6', l7]); try rfl), (by (simp (disch := omega) only [go_sem, ↓reduceIte, Nat.reduceEqDiff, Nat.reduceAdd, Nat.reduceLeDiff, e0, e1, e2, e6, e13, l6, l6', l7]); try rfl)⟩⟩
    clear e0 e1 e2 e6 e13 l6 l6' l7
    rintro ⟨env, loc⟩ st' ⟨b, hdr2, e0, e6, e19, ⟨l6, l6'⟩⟩
    simp only at e0 e6 e19 l6 l6'
    cases b with
    | true =>
      repeat (first | (refine W_reg rfl fun G K hG hK => ?_; simp (disch := omega) only [go_sem, ↓reduceIte, Nat.reduceEqDiff, Nat.reduceAdd, Nat.reduceLeDiff, hG, e0, e6, e19, l6, l6']; refine hK _ _ ?_; clear hK K hG G) | (refine W_end rfl fun G K hG hK => ?_; simp (disch := omega) only [go_sem, ↓reduceIte, Nat.reduceEqDiff, Nat.reduceAdd, Nat.reduceLeDiff, hG, e0, e6, e19, l6, l6']; refine hK _ _ ?_; clear hK K hG G; repeat (first | refine thenI ?_ | refine thenE ?_ | refine thenR ?_ | refine inBI ?_ | refine inBR ?_ | refine inBS ?_ | refine inBN (by decide) ?_)) | refine W_seqS ?_ | refine W_seqC ?_ | refine W_seqB ?_ | refine W_block ?_ | (refine W_skip ?_; repeat (first | refine thenI ?_ | refine thenE ?_ | refine thenR ?_ | refine inBI ?_ | refine inBR ?_ | refine inBS ?_ | refine inBN (by decide) ?_)) | (refine W_condT ?hc ?_; (case hc => (simp (disch := omega) only [go_sem, ↓reduceIte, Nat.reduceEqDiff, Nat.reduceAdd, Nat.reduceLeDiff, e0, e6, e19, l6, l6']; done))) | (refine W_condF ?hc ?_; (case hc => (simp (disch := omega) only [go_sem, ↓reduceIte, Nat.reduceEqDiff, Nat.reduceAdd, Nat.reduceLeDiff, e0, e6, e19, l6, l6']; done))))
      (repeat (first | refine W_seqS ?_ | refine W_seqC ?_ | refine W_seqB ?_ | refine W_block ?_)); refine W_reg rfl fun G K hG hK => ?_; simp (disch := omega) only [go_sem, ↓reduceIte, Nat.reduceEqDiff, Nat.reduceAdd, Nat.reduceLeDiff, hG, e0, e6, e19, l6, l6', bsL, fillK_cons, fillK_nil, Nat.reduceMul]
      refine w_call (l1Pick_lit q xs st' _ _ 3 hdr2.cur rfl (by simp) (by simp)) (by simp (disch := omega) only [go_sem, ↓reduceIte, Nat.reduceEqDiff, e0, e6, e19, l6, l6']) ?hl ?_
      case hl => first | rfl | (simp only [go_sem, List.all_cons, List.all_nil, Bool.not_false, Bool.and_self, e0, e6, e19, l6, l6']; done)
      rintro r_ sa ⟨⟨w, rfl, hw⟩, hd, hl⟩; refine ⟨fun e => (by cases e), ?_⟩
      simp (disch := omega) only [go_sem, ↓reduceIte, Nat.reduceEqDiff, Nat.reduceAdd, Nat.reduceLeDiff, e0, e6, e19, l6, l6']
      refine w_call (l3Var_ok w sa) (by simp (disch := omega) only [go_sem, ↓reduceIte, Nat.reduceEqDiff, e0, e6, e19, l6, l6']) ?hl ?_
      case hl => first | rfl | (simp only [go_sem, List.all_cons, List.all_nil, Bool.not_false, Bool.and_self, e0, e6, e19, l6, l6']; done)
      rintro r_ sb ⟨rfl, rfl⟩; refine ⟨fun e => (by cases e), ?_⟩
      simp (disch := omega) only [go_sem, ↓reduceIte, Nat.reduceEqDiff, Nat.reduceAdd, Nat.reduceLeDiff, hG, e0, e6, e19, l6, l6']; refine hK _ _ ?_; clear hK K hG G; repeat (first | refine thenI ?_ | refine thenE ?_ | refine thenR ?_ | refine inBI ?_ | refine inBR ?_ | refine inBS ?_ | refine inBN (by decide) ?_)
      refine W_ret ?_; try (repeat (first | refine thenI ?_ | refine thenE ?_ | refine thenR ?_ | refine inBI ?_ | refine inBR ?_ | refine inBS ?_ | refine inBN (by decide) ?_))
      refine finC (.inl rfl) (by (simp (disch := omega) only [go_sem, ↓reduceIte, Nat.reduceEqDiff, Nat.reduceAdd, Nat.reduceLeDiff, e0, e6, e19, l6, l6']); try rfl) ⟨hdr2.trans (.pre (Ext.app _ _) hd), .mk 1 0 w [], [_, _, _, _], [], rfl, .nil _ _ _, .nil _, leaf_ok (size_of_mem hw rfl) (plain_var w)⟩
    | false =>
      repeat (first | (refine W_reg rfl fun G K hG hK => ?_; simp (disch := omega) only [go_sem, ↓reduceIte, Nat.reduceEqDiff, Nat.reduceAdd, Nat.reduceLeDiff, hG, e0, e6, e19, l6, l6']; refine hK _ _ ?_; clear hK K hG G) | (refine W_end rfl fun G K hG hK => ?_; simp (disch := omega) only [go_sem, ↓reduceIte, Nat.reduceEqDiff, Nat.reduceAdd, Nat.reduceLeDiff, hG, e0, e6, e19, l6, l6']; refine hK _ _ ?_; clear hK K hG G; repeat (first | refine thenI ?_ | refine thenE ?_ | refine thenR ?_ | refine inBI ?_ | refine inBR ?_ | refine inBS ?_ | refine inBN (by decide) ?_)) | refine W_seqS ?_ | refine W_seqC ?_ | refine W_seqB ?_ | refine W_block ?_ | (refine W_skip ?_; repeat (first | refine thenI ?_ | refine thenE ?_ | refine thenR ?_ | refine inBI ?_ | refine inBR ?_ | refine inBS ?_ | refine inBN (by decide) ?_)) | (refine W_condT ?hc ?_; (case hc => (simp (disch := omega) only [go_sem, ↓reduceIte, Nat.reduceEqDiff, Nat.reduceAdd, Nat.reduceLeDiff, e0, e6, e19, l6, l6']; done))) | (refine W_condF ?hc ?_; (case hc => (simp (disch := omega) only [go_sem, ↓reduceIte, Nat.reduceEqDiff, Nat.reduceAdd, Nat.reduceLeDiff, e0, e6, e19, l6, l6']; done))))
      (repeat (first | refine W_seqS ?_ | refine W_seqC ?_ | refine W_seqB ?_ | refine W_block ?_)); refine W_reg rfl fun G K hG hK => ?_; simp (disch := omega) only [go_sem, ↓reduceIte, Nat.reduceEqDiff, Nat.reduceAdd, Nat.reduceLeDiff, hG, e0, e6, e19, l6, l6']
      refine w_call (l1Once_ok q xs _ 2 (by omega) (by omega) hdr2.cur) (by simp (disch := omega) only [go_sem, ↓reduceIte, Nat.reduceEqDiff, e0, e6, e19, l6, l6']) ?hl ?_
      case hl => first | rfl | (simp only [go_sem, List.all_cons, List.all_nil, Bool.not_false, Bool.and_self, e0, e6, e19, l6, l6']; done)
      rintro r_ sa ⟨⟨b, rfl⟩, hd, hl⟩; refine ⟨fun e => (by cases e), ?_⟩
      simp (disch := omega) only [go_sem, ↓reduceIte, Nat.reduceEqDiff, Nat.reduceAdd, Nat.reduceLeDiff, hG, e0, e6, e19, l6, l6']; refine hK _ _ ?_; clear hK K hG G; repeat (first | refine thenI ?_ | refine thenE ?_ | refine thenR ?_ | refine inBI ?_ | refine inBR ?_ | refine inBS ?_ | refine inBN (by decide) ?_)
      have hdr3 := hdr2.trans hd
      cases b with
      | true =>
        repeat (first | (refine W_reg rfl fun G K hG hK => ?_; simp (disch := omega) only [go_sem, ↓reduceIte, Nat.reduceEqDiff, Nat.reduceAdd, Nat.reduceLeDiff, hG, e0, e6, e19, l6, l6']; refine hK _ _ ?_; clear hK K hG G) | (refine W_end rfl fun G K hG hK => ?_; simp (disch := omega) only [go_sem, ↓reduceIte, Nat.reduceEqDiff, Nat.reduceAdd, Nat.reduceLeDiff, hG, e0, e6, e19, l6, l6']; refine hK _ _ ?_; clear hK K hG G; repeat (first | refine thenI ?_ | refine thenE ?_ | refine thenR ?_ | refine inBI ?_ | refine inBR ?_ | refine inBS ?_ | refine inBN (by decide) ?_)) | refine W_seqS ?_ | refine W_seqC ?_ | refine W_seqB ?_ | refine W_block ?_ | (refine W_skip ?_; repeat (first | refine thenI ?_ | refine thenE ?_ | refine thenR ?_ | refine inBI ?_ | refine inBR ?_ | refine inBS ?_ | refine inBN (by decide) ?_)) | (refine W_condT ?hc ?_; (case hc => (simp (disch := omega) only [go_sem, ↓reduceIte, Nat.reduceEqDiff, Nat.reduceAdd, Nat.reduceLeDiff, e0, e6, e19, l6, l6']; done))) | (refine W_condF ?hc ?_; (case hc => (simp (disch := omega) only [go_sem, ↓reduceIte, Nat.reduceEqDiff, Nat.reduceAdd, Nat.reduceLeDiff, e0, e6, e19, l6, l6']; done))))
        (repeat (first | refine W_seqS ?_ | refine W_seqC ?_ | refine W_seqB ?_ | refine W_block ?_)); refine W_reg rfl fun G K hG hK => ?_; simp (disch := omega) only [go_sem, ↓reduceIte, Nat.reduceEqDiff, Nat.reduceAdd, Nat.reduceLeDiff, hG, e0, e6, e19, l6, l6']
        refine w_call (l1Below_ok q xs _ 4 (by omega) (by omega) hdr3.cur) (by simp (disch := omega) only [go_sem, ↓reduceIte, Nat.reduceEqDiff, e0, e6, e19, l6, l6']) ?hl ?_
        case hl => first | rfl | (simp only [go_sem, List.all_cons, List.all_nil, Bool.not_false, Bool.and_self, e0, e6, e19, l6, l6']; done)
        rintro r_ sb ⟨⟨x, rfl, hx0, hx1⟩, hd2, hl⟩; refine ⟨fun e => (by cases e), ?_⟩
        simp (disch := omega) only [go_sem, ↓reduceIte, Nat.reduceEqDiff, Nat.reduceAdd, Nat.reduceLeDiff, e0, e6, e19, l6, l6']
        refine w_call (l3Word_ok x sb) (by simp (disch := omega) only [go_sem, ↓reduceIte, Nat.reduceEqDiff, e0, e6, e19, l6, l6']) ?hl ?_
        case hl => first | rfl | (simp only [go_sem, List.all_cons, List.all_nil, Bool.not_false, Bool.and_self, e0, e6, e19, l6, l6']; done)
        rintro r_ sc ⟨rfl, rfl⟩; refine ⟨fun e => (by cases e), ?_⟩
        simp (disch := omega) only [go_sem, ↓reduceIte, Nat.reduceEqDiff, Nat.reduceAdd, Nat.reduceLeDiff, hG, e0, e6, e19, l6, l6']; refine hK _ _ ?_; clear hK K hG G; repeat (first | refine thenI ?_ | refine thenE ?_ | refine thenR ?_ | refine inBI ?_ | refine inBR ?_ | refine inBS ?_ | refine inBN (by decide) ?_)
        refine W_ret ?_; try (repeat (first | refine thenI ?_ | refine thenE ?_ | refine thenR ?_ | refine inBI ?_ | refine inBR ?_ | refine inBS ?_ | refine inBN (by decide) ?_))
        refine finC (.inl rfl) (by (simp (disch := omega) only [go_sem, ↓reduceIte, Nat.reduceEqDiff, Nat.reduceAdd, Nat.reduceLeDiff, e0, e6, e19, l6, l6']); try rfl) ⟨hdr3.trans hd2, .mk 3 x ⟨#[]⟩ [], [_, _, _, _], [], rfl, .nil _ _ _, .nil _, leaf_ok (by decide) (plain_word x _)⟩
      | false =>
        repeat (first | (refine W_reg rfl fun G K hG hK => ?_; simp (disch := omega) only [go_sem, ↓reduceIte, Nat.reduceEqDiff, Nat.reduceAdd, Nat.reduceLeDiff, hG, e0, e6, e19, l6, l6']; refine hK _ _ ?_; clear hK K hG G) | (refine W_end rfl fun G K hG hK => ?_; simp (disch := omega) only [go_sem, ↓reduceIte, Nat.reduceEqDiff, Nat.reduceAdd, Nat.reduceLeDiff, hG, e0, e6, e19, l6, l6']; refine hK _ _ ?_; clear hK K hG G; repeat (first | refine thenI ?_ | refine thenE ?_ | refine thenR ?_ | refine inBI ?_ | refine inBR ?_ | refine inBS ?_ | refine inBN (by decide) ?_)) | refine W_seqS ?_ | refine W_seqC ?_ | refine W_seqB ?_ | refine W_block ?_ | (refine W_skip ?_; repeat (first | refine thenI ?_ | refine thenE ?_ | refine thenR ?_ | refine inBI ?_ | refine inBR ?_ | refine inBS ?_ | refine inBN (by decide) ?_)) | (refine W_condT ?hc ?_; (case hc => (simp (disch := omega) only [go_sem, ↓reduceIte, Nat.reduceEqDiff, Nat.reduceAdd, Nat.reduceLeDiff, e0, e6, e19, l6, l6']; done))) | (refine W_condF ?hc ?_; (case hc => (simp (disch := omega) only [go_sem, ↓reduceIte, Nat.reduceEqDiff, Nat.reduceAdd, Nat.reduceLeDiff, e0, e6, e19, l6, l6']; done))))
        (repeat (first | refine W_seqS ?_ | refine W_seqC ?_ | refine W_seqB ?_ | refine W_block ?_)); refine W_reg rfl fun G K hG hK => ?_; simp (disch := omega) only [go_sem, ↓reduceIte, Nat.reduceEqDiff, Nat.reduceAdd, Nat.reduceLeDiff, hG, e0, e6, e19, l6, l6', bsL, fillK_cons, fillK_nil, Nat.reduceMul]
        refine w_call (l1Pick_lit q xs sa _ _ 2 hdr3.cur rfl (by simp) (by simp)) (by simp (disch := omega) only [go_sem, ↓reduceIte, Nat.reduceEqDiff, e0, e6, e19, l6, l6']) ?hl ?_
        case hl => first | rfl | (simp only [go_sem, List.all_cons, List.all_nil, Bool.not_false, Bool.and_self, e0, e6, e19, l6, l6']; done)
        rintro r_ sb ⟨⟨w, rfl, hw⟩, hd2, hl2⟩; refine ⟨fun e => (by cases e), ?_⟩
        simp (disch := omega) only [go_sem, ↓reduceIte, Nat.reduceEqDiff, Nat.reduceAdd, Nat.reduceLeDiff, e0, e6, e19, l6, l6']
        refine w_call (l3App_ok w (.slice (some ⟨sb.length, 0, none⟩) 0 0) (sb ++ [⟨[], 26, 0⟩]) rfl rfl rfl) (by simp (disch := omega) only [go_sem, ↓reduceIte, Nat.reduceEqDiff, e0, e6, e19, l6, l6']) ?hl ?_
        case hl => first | rfl | (simp only [go_sem, List.all_cons, List.all_nil, Bool.not_false, Bool.and_self, e0, e6, e19, l6, l6']; done)
        rintro r_ sc ⟨rfl, rfl⟩; refine ⟨fun e => (by cases e), ?_⟩
        simp (disch := omega) only [go_sem, ↓reduceIte, Nat.reduceEqDiff, Nat.reduceAdd, Nat.reduceLeDiff, hG, e0, e6, e19, l6, l6']; refine hK _ _ ?_; clear hK K hG G; repeat (first | refine thenI ?_ | refine thenE ?_ | refine thenR ?_ | refine inBI ?_ | refine inBR ?_ | refine inBS ?_ | refine inBN (by decide) ?_)
        refine W_ret ?_; try (repeat (first | refine thenI ?_ | refine thenE ?_ | refine thenR ?_ | refine inBI ?_ | refine inBR ?_ | refine inBS ?_ | refine inBN (by decide) ?_))
        refine finC (.inl rfl) (by (simp (disch := omega) only [go_sem, ↓reduceIte, Nat.reduceEqDiff, Nat.reduceAdd, Nat.reduceLeDiff, e0, e6, e19, l6, l6']); try rfl) ⟨(hdr3.trans (.pre (Ext.app _ _) hd2)).ext2 (Ext.app _ _), .mk 2 0 w [], [_, _, _, _], [sb.length], rfl, Own.close _ _ _ (.inr ⟨sb.length, 0, [], [], rfl, by simp, .nil, rfl⟩), .one (Nat.le_trans hdr3.away.1 (by rw [hl2]; omega)), leaf_ok (size_of_mem hw rfl) (plain_app 0 w [] (fun a ha => by cases ha))⟩
  | false =>
    obtain ⟨e, rfl⟩ : ∃ e, d = e + 1 := ⟨d - 1, by have := hb rfl; omega⟩
    have hsub : ((e + 1 : Nat) : Int) - 1 = (e : Nat) := by omega
    repeat (first | (refine W_reg rfl fun G K hG hK => ?_; simp (disch := omega) only [go_sem, ↓reduceIte, Nat.reduceEqDiff, Nat.reduceAdd, Nat.reduceLeDiff, hG, e0, e6, l6, l6', e1, e2, e13, l7]; refine hK _ _ ?_; clear hK K hG G) | (refine W_end rfl fun G K hG hK => ?_; simp (disch := omega) only [go_sem, ↓reduceIte, Nat.reduceEqDiff, Nat.reduceAdd, Nat.reduceLeDiff, hG, e0, e6, l6, l6', e1, e2, e13, l7]; refine hK _ _ ?_; clear hK K hG G; repeat (first | refine thenI ?_ | refine thenE ?_ | refine thenR ?_ | refine inBI ?_ | refine inBR ?_ | refine inBS ?_ | refine inBN (by decide) ?_)) | refine W_seqS ?_ | refine W_seqC ?_ | refine W_seqB ?_ | refine W_block ?_ | (refine W_skip ?_; repeat (first | refine thenI ?_ | refine thenE ?_ | refine thenR ?_ | refine inBI ?_ | refine inBR ?_ | refine inBS ?_ | refine inBN (by decide) ?_)) | (refine W_condT ?hc ?_; (case hc => (simp (disch := omega) only [go_sem, ↓reduceIte, Nat.reduceEqDiff, Nat.reduceAdd, Nat.reduceLeDiff, e0, e6, l6, l6', e1, e2, e13, l7]; done))) | (refine W_condF ?hc ?_; (case hc => (simp (disch := omega) only [go_sem, ↓reduceIte, Nat.reduceEqDiff, Nat.reduceAdd, Nat.reduceLeDiff, e0, e6, l6, l6', e1, e2, e13, l7]; done))))
    (repeat (first | refine W_seqS ?_ | refine W_seqC ?_ | refine W_seqB ?_ | refine W_block ?_)); refine W_reg rfl fun G K hG hK => ?_; simp (disch := omega) only [go_sem, ↓reduceIte, Nat.reduceEqDiff, Nat.reduceAdd, Nat.reduceLeDiff, hG, e0, e6, l6, l6', e1, e2, e13, l7]
    refine w_call (l1Once_ok q xs _ 3 (by omega) (by omega) hdr.cur) (by simp (disch := omega) only [go_sem, ↓reduceIte, Nat.reduceEqDiff, e0, e6, l6, l6', e1, e2, e13, l7]) ?hl ?_
    case hl => first | rfl | (simp only [go_sem, List.all_cons, List.all_nil, Bool.not_false, Bool.and_self, e0, e6, l6, l6', e1, e2, e13, l7]; done)
    rintro r_ sa ⟨⟨b, rfl⟩, hd, hl⟩; refine ⟨fun e => (by cases e), ?_⟩
    simp (disch := omega) only [go_sem, ↓reduceIte, Nat.reduceEqDiff, Nat.reduceAdd, Nat.reduceLeDiff, hG, e0, e6, l6, l6', e1, e2, e13, l7]; refine hK _ _ ?_; clear hK K hG G; repeat (first | refine thenI ?_ | refine thenE ?_ | refine thenR ?_ | refine inBI ?_ | refine inBR ?_ | refine inBS ?_ | refine inBN (by decide) ?_)
    have hdr1 := hdr.trans hd
    cases b with
    | true =>
      repeat (first | (refine W_reg rfl fun G K hG hK => ?_; simp (disch := omega) only [go_sem, ↓reduceIte, Nat.reduceEqDiff, Nat.reduceAdd, Nat.reduceLeDiff, hG, e0, e6, l6, l6', e1, e2, e13, l7]; refine hK _ _ ?_; clear hK K hG G) | (refine W_end rfl fun G K hG hK => ?_; simp (disch := omega) only [go_sem, ↓reduceIte, Nat.reduceEqDiff, Nat.reduceAdd, Nat.reduceLeDiff, hG, e0, e6, l6, l6', e1, e2, e13, l7]; refine hK _ _ ?_; clear hK K hG G; repeat (first | refine thenI ?_ | refine thenE ?_ | refine thenR ?_ | refine inBI ?_ | refine inBR ?_ | refine inBS ?_ | refine inBN (by decide) ?_)) | refine W_seqS ?_ | refine W_seqC ?_ | refine W_seqB ?_ | refine W_block ?_ | (refine W_skip ?_; repeat (first | refine thenI ?_ | refine thenE ?_ | refine thenR ?_ | refine inBI ?_ | refine inBR ?_ | refine inBS ?_ | refine inBN (by decide) ?_)) | (refine W_condT ?hc ?_; (case hc => (simp (disch := omega) only [go_sem, ↓reduceIte, Nat.reduceEqDiff, Nat.reduceAdd, Nat.reduceLeDiff, e0, e6, l6, l6', e1, e2, e13, l7]; done))) | (refine W_condF ?hc ?_; (case hc => (simp (disch := omega) only [go_sem, ↓reduceIte, Nat.reduceEqDiff, Nat.reduceAdd, Nat.reduceLeDiff, e0, e6, l6, l6', e1, e2, e13, l7]; done))))
      (repeat (first | refine W_seqS ?_ | refine W_seqC ?_ | refine W_seqB ?_ | refine W_block ?_)); refine W_reg rfl fun G K hG hK => ?_; simp (disch := omega) only [go_sem, ↓reduceIte, Nat.reduceEqDiff, Nat.reduceAdd, Nat.reduceLeDiff, hG, e0, e6, l6, l6', e1, e2, e13, l7, hsub]
      refine w_call (ih e rfl sa hdr1.cur) (by simp (disch := omega) only [go_sem, ↓reduceIte, Nat.reduceEqDiff, e0, e6, l6, l6', e1, e2, e13, l7]) ?hl ?_
      case hl => first | rfl | (simp only [go_sem, List.all_cons, List.all_nil, Bool.not_false, Bool.and_self, e0, e6, l6, l6', e1, e2, e13, l7]; done)
      rintro r_ sb ⟨hd2, t, ds, L, rfl, ho, hf, hp⟩; refine ⟨fun e => (by cases e), ?_⟩
      simp (disch := omega) only [go_sem, ↓reduceIte, Nat.reduceEqDiff, Nat.reduceAdd, Nat.reduceLeDiff, e0, e6, l6, l6', e1, e2, e13, l7]
      refine w_call (l3One_ok ⟨#[103]⟩ t sb ds L ho) (by simp (disch := omega) only [go_sem, ↓reduceIte, Nat.reduceEqDiff, e0, e6, l6, l6', e1, e2, e13, l7]) ?hl ?_
      case hl => first | rfl | (simp only [go_sem, List.all_cons, List.all_nil, Bool.not_false, Bool.and_self, e0, e6, l6, l6', e1, e2, e13, l7]; done)
      rintro r_ sc ⟨x1, es, rfl, ho2⟩; refine ⟨fun e => (by cases e), ?_⟩
      obtain ⟨k1, n1, m1, s1, rfl, a1, a2, a3⟩ := ho2.args_cells
      simp (disch := omega) only [go_sem, ↓reduceIte, Nat.reduceEqDiff, Nat.reduceAdd, Nat.reduceLeDiff, hG, e0, e6, l6, l6', e1, e2, e13, l7, a1, a2, a3]; refine hK _ _ ?_; clear hK K hG G; repeat (first | refine thenI ?_ | refine thenE ?_ | refine thenR ?_ | refine inBI ?_ | refine inBR ?_ | refine inBS ?_ | refine inBN (by decide) ?_)
      refine W_ret ?_; try (repeat (first | refine thenI ?_ | refine thenE ?_ | refine thenR ?_ | refine inBI ?_ | refine inBR ?_ | refine inBS ?_ | refine inBN (by decide) ?_))
      refine finC (.inl rfl) (by (simp (disch := omega) only [go_sem, ↓reduceIte, Nat.reduceEqDiff, Nat.reduceAdd, Nat.reduceLeDiff, e0, e6, l6, l6', e1, e2, e13, l7, a1, a2, a3]); try rfl) ⟨(hdr1.trans hd2).ext2 x1, _, [_, _, _, _], _, rfl, ho2, (hf.mono hdr1.away.1).cons (Own.lt _ _ _ ho) (hdr1.trans hd2).away.1, plain_app 0 _ _ (fun a ha => by cases List.mem_singleton.1 ha; exact hp.1), ?_⟩
      have := hp.2
      have h1 : 1 ≤ 2 ^ e := Nat.one_le_two_pow
      simp only [T.wt, T.wtL, List.length_cons, List.length_nil, Nat.pow_succ]
      have h2 : (⟨#[103]⟩ : ByteArray).size = 1 := rfl
      omega
    | false =>
      repeat (first | (refine W_reg rfl fun G K hG hK => ?_; simp (disch := omega) only [go_sem, ↓reduceIte, Nat.reduceEqDiff, Nat.reduceAdd, Nat.reduceLeDiff, hG, e0, e6, l6, l6', e1, e2, e13, l7]; refine hK _ _ ?_; clear hK K hG G) | (refine W_end rfl fun G K hG hK => ?_; simp (disch := omega) only [go_sem, ↓reduceIte, Nat.reduceEqDiff, Nat.reduceAdd, Nat.reduceLeDiff, hG, e0, e6, l6, l6', e1, e2, e13, l7]; refine hK _ _ ?_; clear hK K hG G; repeat (first | refine thenI ?_ | refine thenE ?_ | refine thenR ?_ | refine inBI ?_ | refine inBR ?_ | refine inBS ?_ | refine inBN (by decide) ?_)) | refine W_seqS ?_ | refine W_seqC ?_ | refine W_seqB ?_ | refine W_block ?_ | (refine W_skip ?_; repeat (first | refine thenI ?_ | refine thenE ?_ | refine thenR ?_ | refine inBI ?_ | refine inBR ?_ | refine inBS ?_ | refine inBN (by decide) ?_)) | (refine W_condT ?hc ?_; (case hc => (simp (disch := omega) only [go_sem, ↓reduceIte, Nat.reduceEqDiff, Nat.reduceAdd, Nat.reduceLeDiff, e0, e6, l6, l6', e1, e2, e13, l7]; done))) | (refine W_condF ?hc ?_; (case hc => (simp (disch := omega) only [go_sem, ↓reduceIte, Nat.reduceEqDiff, Nat.reduceAdd, Nat.reduceLeDiff, e0, e6, l6, l6', e1, e2, e13, l7]; done))))
      (repeat (first | refine W_seqS ?_ | refine W_seqC ?_ | refine W_seqB ?_ | refine W_block ?_)); refine W_reg rfl fun G K hG hK => ?_; simp (disch := omega) only [go_sem, ↓reduceIte, Nat.reduceEqDiff, Nat.reduceAdd, Nat.reduceLeDiff, hG, e0, e6, l6, l6', e1, e2, e13, l7, hsub]
      refine w_call (ih e rfl sa hdr1.cur) (by simp (disch := omega) only [go_sem, ↓reduceIte, Nat.reduceEqDiff, e0, e6, l6, l6', e1, e2, e13, l7]) ?hl ?_
      case hl => first | rfl | (simp only [go_sem, List.all_cons, List.all_nil, Bool.not_false, Bool.and_self, e0, e6, l6, l6', e1, e2, e13, l7]; done)
      rintro r_ sb ⟨hd2, t, ds, L, rfl, ho, hf, hp⟩; refine ⟨fun e => (by cases e), ?_⟩
      obtain ⟨k1, n1, m1, s1, rfl, a1, a2, a3⟩ := ho.args_cells
      simp (disch := omega) only [go_sem, ↓reduceIte, Nat.reduceEqDiff, Nat.reduceAdd, Nat.reduceLeDiff, hG, e0, e6, l6, l6', e1, e2, e13, l7, a1, a2, a3]; refine hK _ _ ?_; clear hK K hG G; repeat (first | refine thenI ?_ | refine thenE ?_ | refine thenR ?_ | refine inBI ?_ | refine inBR ?_ | refine inBS ?_ | refine inBN (by decide) ?_)
      have hdr2 := hdr1.trans hd2
      (repeat (first | refine W_seqS ?_ | refine W_seqC ?_ | refine W_seqB ?_ | refine W_block ?_)); refine W_regL mixed [7] [] [2, 8, 9] [[(3, false), (0, false), (4, false), (5, false), (6, false), (7, false), (1, false), (2, false), (8, false), (9, false), (10, false)]] rfl (by decide +kernel) (by intro t ht; simp only [List.mem_cons, List.not_mem_nil, or_false] at ht; (rcases ht with rfl) <;> (first | (simp only [e0, e6, l6, l6', e1, e2, e13, l7]; done) | (simp only [e0, e6, l6, l6', e1, e2, e13, l7]; rfl))) fun G K hG hK => (fm_cons ?_ fm_nil)
      simp only [pickOps, List.filterMap_cons, List.filterMap_nil, List.getElem?_cons_zero, List.getElem?_cons_succ, Option.map_some]; simp (disch := omega) only [go_sem, ↓reduceIte, Nat.reduceEqDiff, Nat.reduceAdd, Nat.reduceLeDiff, hG, e0, e6, l6, l6', e1, e2, e13, l7, bsL, fillK_cons, fillK_nil, Nat.reduceMul, hsub, a1, a2, a3]
      refine w_call (l1Pick_lit q xs sb _ _ 3 hdr2.cur rfl (by simp) (by simp)) (by simp (disch := omega) only [go_sem, ↓reduceIte, Nat.reduceEqDiff, e0, e6, l6, l6', e1, e2, e13, l7]) ?hl ?_
      case hl => first | rfl | (simp only [go_sem, List.all_cons, List.all_nil, Bool.not_false, Bool.and_self, e0, e6, l6, l6', e1, e2, e13, l7]; done)
      rintro r_ sc ⟨⟨w, rfl, hw⟩, hd3, hl3⟩; refine ⟨fun e => (by cases e), ?_⟩
      simp (disch := omega) only [go_sem, ↓reduceIte, Nat.reduceEqDiff, Nat.reduceAdd, Nat.reduceLeDiff, e0, e6, l6, l6', e1, e2, e13, l7, a1, a2, a3]
      refine w_call (ih e rfl sc hd3.cur) (by simp (disch := omega) only [go_sem, ↓reduceIte, Nat.reduceEqDiff, e0, e6, l6, l6', e1, e2, e13, l7, hsub]) ?hl ?_
      case hl => first | rfl | (simp only [go_sem, List.all_cons, List.all_nil, Bool.not_false, Bool.and_self, e0, e6, l6, l6', e1, e2, e13, l7, hsub]; done)
      rintro r_ sd ⟨hd4, t2, ds2, L2, rfl, ho2, hf2, hp2⟩; refine ⟨fun e => (by cases e), ?_⟩
      have hdr4 := Drawn.pre (Ext.app _ _) (hd3.trans hd4)
      have hl0 := Nat.le_trans hdr1.away.1 hd2.away.1
      have hoA := hdr4.own ho hf (Nat.lt_of_lt_of_le hq.lt hdr1.away.1)
      refine w_call (l3Pair_ok w t t2 sd [.int .i64 k1, .int .i64 n1, .string m1, s1] ds2 L L2 hoA ho2) (by simp (disch := omega) only [go_sem, ↓reduceIte, Nat.reduceEqDiff, e0, e6, l6, l6', e1, e2, e13, l7, a1, a2, a3]) ?hl ?_
      case hl => first | rfl | (simp only [go_sem, List.all_cons, List.all_nil, Bool.not_false, Bool.and_self, e0, e6, l6, l6', e1, e2, e13, l7, a1, a2, a3]; done)
      rintro r_ se ⟨x1, es, rfl, ho3⟩; refine ⟨fun e => (by cases e), ?_⟩
      obtain ⟨k3, n3, m3, s3, rfl, b1, b2, b3⟩ := ho3.args_cells
      simp (disch := omega) only [go_sem, ↓reduceIte, Nat.reduceEqDiff, Nat.reduceAdd, Nat.reduceLeDiff, hG, e0, e6, l6, l6', e1, e2, e13, l7, b1, b2, b3]; refine hK _ _ ?_; clear hK K hG G; repeat (first | refine thenI ?_ | refine thenE ?_ | refine thenR ?_ | refine inBI ?_ | refine inBR ?_ | refine inBS ?_ | refine inBN (by decide) ?_)
      have hlt := Own.lt _ _ _ ho
      have hll := hdr4.away.1
      have hl5 := hd4.away.1
      refine W_ret ?_; try (repeat (first | refine thenI ?_ | refine thenE ?_ | refine thenR ?_ | refine inBI ?_ | refine inBR ?_ | refine inBS ?_ | refine inBN (by decide) ?_))
      refine finC (.inl rfl) (by (simp (disch := omega) only [go_sem, ↓reduceIte, Nat.reduceEqDiff, Nat.reduceAdd, Nat.reduceLeDiff, e0, e6, l6, l6', e1, e2, e13, l7, b1, b2, b3]); try rfl) ⟨((hdr2.trans hdr4).ext2 x1), _, [_, _, _, _], _, rfl, ho3, ((hf.mono hdr1.away.1).app hf2 (fun i hi => by have := hlt i hi; omega) (by omega)).cons (fun i hi => ?_) (by omega), plain_app 0 _ _ (fun a ha => ?_), ?_⟩
      · rcases List.mem_append.1 hi with hi | hi
        · have := hlt i hi; omega
        · exact Own.lt _ _ _ ho2 i hi
      · rcases List.mem_cons.1 ha with rfl | ha
        · exact hp.1
        · cases List.mem_singleton.1 ha; exact hp2.1
      · have h1 := hp.2
        have h2 := hp2.2
        have h3 := size_of_mem hw rfl
        simp only [T.wt, T.wtL, List.length_cons, List.length_nil, Nat.pow_succ]
        omega
theorem l3Draw_ok (q : Nat) (xs : List Byt) (g : Bool) : ∀ (d : Nat), d ≤ 10 → ∀ (st : St), Cur st q xs → CallS Try.prog 33 [.pointer (some ⟨q, 0, none⟩), .int .i64 (d : Nat), .bool g] st (DrawT q xs st (DrawP d)) := by
  intro d
  induction d with
  | zero => intro h st hq; exact l3Draw_of q xs g 0 h st hq fun e he => by omega
  | succ d ih => intro h st hq; exact l3Draw_of q xs g (d + 1) h st hq fun e he st hq => (by
    obtain rfl : d = e := by omega
    exact ih (by omega) st hq)
end Go.Proofs.Ytfckojbllbdejaa.AM


/- Terms drawn, turned a little: spec.l3Bent. -/
namespace Go.Proofs.Ytfckojbllbdejaa.AM
open Go Go.Proofs
set_option linter.unusedVariables false
set_option linter.unusedSimpArgs false
set_option maxRecDepth 100000
attribute [local go_sem] List.map_cons List.map_nil List.all_cons List.all_nil Bool.and_self Option.map_some List.getElem?_toArray Option.bind_some gye_b gye_t gsk_b gsk_t gb1 gb2 gb3 gb4 bne_self_eq_false beq_self_eq_true w_guard w_nil stepV_some step_some step_some' w_move w_assign w_pick w_binOp w_unOp w_load w_fieldAddr w_indexAddr w_len w_max w_index ev_max max_int ev_index w_box w_alloc w_store w_field w_extract w_nilCheck w_convert w_buildSlice w_build ev_buildL fillL_nil fillL_cons bs0 bs1 ev_conv ev_bin ev_un ev_pick ev_load ev_fieldAddr ev_indexAddr ev_len ev_field ev_extract ev_nilCheck fr_tmp fr_int fr_bool fr_str fr_nil fr_func put_some put_none bin_lss bin_leq bin_gtr bin_geq bin_eql bin_neq bin_add bin_sub bin_mul bin_seql bin_sneq un_not pick_ ext_ loadA_p cellAt_l cellAt_h okPtr_l okPtr_h fadA_p allocA_l storeA_l cells_agg cells_int cells_str cells_sl cells_bool flat_i flat_s flat_b flat_sl flat_nil loc_agg loc_int loc_str loc_sl loc_bool loc_fn loc_ptr okv_agg okv_int okv_str okv_sl okv_bool cellsFrom splice upd_eval argEnv_zero argEnv_succ ne_eq Nat.add_one_ne_zero not_false_eq_true List.not_mem_nil and_self decide_true List.getElem?_cons_zero List.getElem?_cons_succ List.size_toArray List.length_cons List.length_nil List.take_succ_cons List.take_zero List.drop_succ_cons List.drop_zero List.cons_append List.nil_append List.drop_nil Bool.not_true Bool.not_false Bool.false_eq_true Nat.zero_add Nat.add_zero wrap_in List.toList_toArray List.mem_cons or_self or_false false_or
attribute [local go_sem] ag22 ag24 ag26 ag3 ag31 ag5 ag9 bu26 bu31 bu51 by26 by9 el22 el24 el42 el45 of26_0 of26_1 of26_2 of26_3 of31_0 of31_1 of31_2 of51_0 of51_1 of51_2 ro26_0 ro26_1 ro26_2 ro3_3 ro9_0 ro9_1 ro9_2 ro9_3 ro9_4 sz22 sz24 sz26 sz3 sz31 sz5 sz9 ze26 ze31 ze9
-- AUTO

def BentP (t : T) : Prop := PlainB t ∧ t.wt ≤ 100
theorem Plain.args {k n : Int} {nm : ByteArray} {args : List T} (h : Plain (.mk k n nm args)) : ∀ a ∈ args, Plain a := by cases h; assumption
theorem bent_of {t : T} (h : DrawP 4 t) : BentP t := ⟨h.1.b, by have := h.2; omega⟩
theorem drawP_mono {d e : Nat} (hde : d ≤ e) {t : T} (h : DrawP d t) : DrawP e t := ⟨h.1, by
  have h1 := h.2
  have h2 : 2 ^ d ≤ 2 ^ e := Nat.pow_le_pow_right (by omega) hde
  omega⟩
theorem row_low {st st' : St} {xs : List Byt} {s : Value} {q : Nat} (h : RowY st xs s) (ha : ∀ i, i < q → st'[i]? = st[i]?) (hn : xs = [] ∨ ∃ b, topId s = some b ∧ b < q) : RowY st' xs s := by
  rcases h with h | ⟨i, o, c, rfl, h⟩
  · exact .inl h
  · refine .inr ⟨i, o, c, rfl, fun j x hx => ?_⟩
    obtain ⟨cs, h1, h2, h3⟩ := h j x hx
    refine ⟨cs, h1, h2, fun k v hv => ?_⟩
    have h4 := h3 k v hv
    rcases hn with rfl | ⟨b, hb, hlt⟩
    · simp at hx
    simp only [topId, Option.some.injEq] at hb
    subst hb
    unfold cell at h4 ⊢
    rw [ha i hlt]; exact h4
theorem Drawn.low {q n0 : Nat} {xs : List Byt} {a b c : St} (h : Drawn q xs a b) (hn : n0 = a.length) (hq : q < n0) (hc : ∀ i, i < n0 → c[i]? = b[i]?) (hl : b.length ≤ c.length) : Drawn q xs a c := by
  subst hn
  obtain ⟨sb, i, hh, h1, h2, h3, h4⟩ := h.cur
  exact ⟨⟨sb, i, hh, by rw [hc q hq]; exact h1, row_low h2 (fun i hi => hc i (by omega)) h3, h3, h4⟩, Nat.le_trans h.away.1 hl, fun i hi hne => by rw [hc i hi]; exact h.away.2 i hi hne⟩
theorem Own.args_slice {e : TypeId} {st : St} {k n : Int} {nm : ByteArray} {args : List T} {s : Value} {L : List Nat} (h : Own e st (.mk k n nm args) [.int .i64 k, .int .i64 n, .string nm, s] L) : SliceO (Own e st) e st args s L := by
  obtain ⟨s', h1, h2⟩ := h.open
  cases h1
  exact h2
def isIntB : Value → Bool
  | .int .i64 _ => true
  | _ => false
def intB : Value → Int
  | .int .i64 n => n
  | _ => 0
theorem ints_map {cs : List Value} (h : cs.all isIntB = true) : cs = (cs.map intB).map (Value.int .i64) := by
  rw [List.map_map]
  refine ((List.map_congr_left fun v hv => ?_).trans (List.map_id cs)).symm
  have := List.all_eq_true.1 h v hv
  unfold isIntB at this
  split at this
  · rfl
  · cases this
theorem row_lastI (st : St) (ns : List Int) (t : TypeId) (n : Nat) : Rw (st ++ [⟨ns.map (Value.int .i64), t, 0⟩]) ns (.slice (some ⟨st.length, 0, none⟩) ns.length n) := .inr ⟨st.length, 0, n, rfl, fun j x hx => ⟨[.int .i64 x], rfl, rfl, fun k v hv => by
  have hk : k = 0 := by have := (List.getElem?_eq_some_iff.1 hv).1; simp at this; omega
  subst hk
  obtain ⟨hj1, hj2⟩ := List.getElem?_eq_some_iff.1 hx
  have : v = .int .i64 x := by simpa using hv.symm
  subst this
  simp [cell, hx, show Kind.sz Int = 1 from rfl]⟩⟩
theorem l1PickInt_lit (q : Nat) (xs : List Byt) (sa : St) (cs : List Value) (t : TypeId) (n : Nat) (hq : Cur sa q xs) (hs : cs.all isIntB = true) (h0 : 0 < cs.length) (h1 : cs.length ≤ 256) :
    CallS Try.prog 18 [.pointer (some ⟨q, 0, none⟩), .slice (some ⟨sa.length, 0, none⟩) cs.length n] (sa ++ [⟨cs, t, 0⟩]) fun r st2 => (∃ w, r = .int .i64 w ∧ .int .i64 w ∈ cs) ∧ Drawn q xs (sa ++ [⟨cs, t, 0⟩]) st2 ∧ st2.length = sa.length + 1 := by
  have hcs := ints_map hs
  have hr := row_lastI sa (cs.map intB) t n
  rw [← hcs, List.length_map] at hr
  refine (l1PickInt_ok q xs _ (cs.map intB) _ (by simpa using h0) (by simpa using h1) (hq.ext (Ext.app _ _)) hr (fun e => by simp only [topId, Option.some.injEq] at e; have := hq.lt; omega)).mono fun r st2 ⟨⟨w, hw, hm⟩, hd, hl⟩ => ⟨⟨w, hw, ?_⟩, hd, by simpa using hl⟩
  rw [hcs]
  exact List.mem_map.2 ⟨w, hm, rfl⟩
theorem T.wtL_snoc (xs : List T) (x : T) : T.wtL (xs ++ [x]) = T.wtL xs + x.wt := by
  induction xs with
  | nil => simp [T.wtL]
  | cons y ys ih => simp only [List.cons_append, T.wtL, ih]; omega
theorem l3Bent_ok (q : Nat) (xs : List Byt) (st : St) (hq : Cur st q xs) :
    CallS Try.prog 16 [.pointer (some ⟨q, 0, none⟩)] st (DrawT q xs st BentP) := by
  refine CallS_of_W [] 48 Try.func16 rfl rfl rfl rfl (by simp) ?_
  repeat (first | (refine W_reg rfl fun G K hG hK => ?_; simp (disch := omega) only [go_sem, ↓reduceIte, Nat.reduceEqDiff, Nat.reduceAdd, Nat.reduceLeDiff, hG]; refine hK _ _ ?_; clear hK K hG G) | (refine W_end rfl fun G K hG hK => ?_; simp (disch := omega) only [go_sem, ↓reduceIte, Nat.reduceEqDiff, Nat.reduceAdd, Nat.reduceLeDiff, hG]; refine hK _ _ ?_; clear hK K hG G; repeat (first | refine thenI ?_ | refine thenE ?_ | refine thenR ?_ | refine inBI ?_ | refine inBR ?_ | refine inBS ?_ | refine inBN (by decide) ?_)) | refine W_seqS ?_ | refine W_seqC ?_ | refine W_seqB ?_ | refine W_block ?_ | (refine W_skip ?_; repeat (first | refine thenI ?_ | refine thenE ?_ | refine thenR ?_ | refine inBI ?_ | refine inBR ?_ | refine inBS ?_ | refine inBN (by decide) ?_)) | (refine W_condT ?hc ?_; (case hc => (simp (disch := omega) only [go_sem, ↓reduceIte, Nat.reduceEqDiff, Nat.reduceAdd, Nat.reduceLeDiff]; done))) | (refine W_condF ?hc ?_; (case hc => (simp (disch := omega) only [go_sem, ↓reduceIte, Nat.reduceEqDiff, Nat.reduceAdd, Nat.reduceLeDiff]; done))))
  (repeat (first | refine W_seqS ?_ | refine W_seqC ?_ | refine W_seqB ?_ | refine W_block ?_)); refine W_reg rfl fun G K hG hK => ?_; simp (disch := omega) only [go_sem, ↓reduceIte, Nat.reduceEqDiff, Nat.reduceAdd, Nat.reduceLeDiff, hG]
  refine w_call (l1Below_ok q xs st 4 (by omega) (by omega) hq) (by simp (disch := omega) only [go_sem, ↓reduceIte, Nat.reduceEqDiff]) ?hl ?_
  case hl => first | rfl | (simp only [go_sem, List.all_cons, List.all_nil, Bool.not_false, Bool.and_self]; done)
  rintro r_ sa ⟨⟨x, rfl, hx0, hx1⟩, hd, hl⟩; refine ⟨fun e => (by cases e), ?_⟩
  obtain ⟨n, rfl⟩ : ∃ n : Nat, x = n := ⟨x.toNat, by omega⟩
  have hadd : (1 : Int) + (n : Int) = ((n + 1 : Nat) : Int) := by omega
  simp (disch := omega) only [go_sem, ↓reduceIte, Nat.reduceEqDiff, Nat.reduceAdd, Nat.reduceLeDiff, hadd]
  refine w_call (l1Once_ok q xs sa 2 (by omega) (by omega) hd.cur) (by simp (disch := omega) only [go_sem, ↓reduceIte, Nat.reduceEqDiff]) ?hl ?_
  case hl => first | rfl | (simp only [go_sem, List.all_cons, List.all_nil, Bool.not_false, Bool.and_self]; done)
  rintro r_ sb ⟨⟨g, rfl⟩, hd2, hl2⟩; refine ⟨fun e => (by cases e), ?_⟩
  simp (disch := omega) only [go_sem, ↓reduceIte, Nat.reduceEqDiff, Nat.reduceAdd, Nat.reduceLeDiff, hadd]
  refine w_call (l3Draw_ok q xs g (n + 1) (by omega) sb hd2.cur) (by simp (disch := omega) only [go_sem, ↓reduceIte, Nat.reduceEqDiff, hadd]) ?hl ?_
  case hl => first | rfl | (simp only [go_sem, List.all_cons, List.all_nil, Bool.not_false, Bool.and_self, hadd]; done)
  rintro r_ sc ⟨hd3, t, ds, L, rfl, ho, hf, hp⟩; refine ⟨fun e => (by cases e), ?_⟩
  obtain ⟨k, m, nm, args⟩ := t
  obtain ⟨s, rfl, hs⟩ := ho.open
  have a1 := hs.loc
  have a2 := hs.okv
  have a3 := hs.cells
  simp (disch := omega) only [go_sem, ↓reduceIte, Nat.reduceEqDiff, Nat.reduceAdd, Nat.reduceLeDiff, hG, a1, a2, a3]; refine hK _ _ ?_; clear hK K hG G; repeat (first | refine thenI ?_ | refine thenE ?_ | refine thenR ?_ | refine inBI ?_ | refine inBR ?_ | refine inBS ?_ | refine inBN (by decide) ?_)
  have hdr := (hd.trans hd2).trans hd3
  have hp4 := drawP_mono (e := 4) (by omega) hp
  have hf0 := hf.mono (hd.trans hd2).away.1
  repeat (first | (refine W_reg rfl fun G K hG hK => ?_; simp (disch := omega) only [go_sem, ↓reduceIte, Nat.reduceEqDiff, Nat.reduceAdd, Nat.reduceLeDiff, hG, a1, a2, a3]; refine hK _ _ ?_; clear hK K hG G) | (refine W_end rfl fun G K hG hK => ?_; simp (disch := omega) only [go_sem, ↓reduceIte, Nat.reduceEqDiff, Nat.reduceAdd, Nat.reduceLeDiff, hG, a1, a2, a3]; refine hK _ _ ?_; clear hK K hG G; repeat (first | refine thenI ?_ | refine thenE ?_ | refine thenR ?_ | refine inBI ?_ | refine inBR ?_ | refine inBS ?_ | refine inBN (by decide) ?_)) | refine W_seqS ?_ | refine W_seqC ?_ | refine W_seqB ?_ | refine W_block ?_ | (refine W_skip ?_; repeat (first | refine thenI ?_ | refine thenE ?_ | refine thenR ?_ | refine inBI ?_ | refine inBR ?_ | refine inBS ?_ | refine inBN (by decide) ?_)) | (refine W_condT ?hc ?_; (case hc => (simp (disch := omega) only [go_sem, ↓reduceIte, Nat.reduceEqDiff, Nat.reduceAdd, Nat.reduceLeDiff, a1, a2, a3]; done))) | (refine W_condF ?hc ?_; (case hc => (simp (disch := omega) only [go_sem, ↓reduceIte, Nat.reduceEqDiff, Nat.reduceAdd, Nat.reduceLeDiff, a1, a2, a3]; done))))
  (repeat (first | refine W_seqS ?_ | refine W_seqC ?_ | refine W_seqB ?_ | refine W_block ?_)); refine W_reg rfl fun G K hG hK => ?_; simp (disch := omega) only [go_sem, ↓reduceIte, Nat.reduceEqDiff, Nat.reduceAdd, Nat.reduceLeDiff, hG, a1, a2, a3]
  refine w_call (l1Below_ok q xs sc 12 (by omega) (by omega) hdr.cur) (by simp (disch := omega) only [go_sem, ↓reduceIte, Nat.reduceEqDiff]) ?hl ?_
  case hl => first | rfl | (simp only [go_sem, List.all_cons, List.all_nil, Bool.not_false, Bool.and_self]; done)
  rintro r_ sd ⟨⟨y, rfl, hy0, hy1⟩, hd4, hl4⟩; refine ⟨fun e => (by cases e), ?_⟩
  simp (disch := omega) only [go_sem, ↓reduceIte, Nat.reduceEqDiff, Nat.reduceAdd, Nat.reduceLeDiff, hG, a1, a2, a3]; refine hK _ _ ?_; clear hK K hG G; repeat (first | refine thenI ?_ | refine thenE ?_ | refine thenR ?_ | refine inBI ?_ | refine inBR ?_ | refine inBS ?_ | refine inBN (by decide) ?_)
  have hdr4 := hdr.trans hd4
  have ho4 := hd4.own ho hf0 (by have := hq.lt; omega)
  have hwt : nm.size + args.length + T.wtL args + 3 ≤ 64 := by have := hp4.2; simp only [T.wt] at this; omega
  have hpa := hp4.1.args
  refine W_to (fun fr st' => ∃ (t : T) (ds : List Value) (L : List Nat), (Drawn q xs st st') ∧ (OwnT st' t ds L) ∧ (Fresh st.length L) ∧ (BentP t) ∧ (fr.env 2 = .pointer (some ⟨2, 0, some 1⟩)) ∧ (fr.env 3 = .pointer (some ⟨3, 0, some 1⟩)) ∧ ((fr.loc 2).1 = 1 ∧ (fr.loc 2).2.length = 4) ∧ (fr.loc 3 = (1, ds))) ?_ ?_
  · have hy : y = 0 ∨ y = 1 ∨ y = 2 ∨ y = 3 ∨ y = 4 ∨ 5 ≤ y := by omega
    have v10 : ((1 : Int) == 0) = false := by decide
    have v20 : ((2 : Int) == 0) = false := by decide
    have v21 : ((2 : Int) == 1) = false := by decide
    have v30 : ((3 : Int) == 0) = false := by decide
    have v31 : ((3 : Int) == 1) = false := by decide
    have v32 : ((3 : Int) == 2) = false := by decide
    have v40 : ((4 : Int) == 0) = false := by decide
    have v41 : ((4 : Int) == 1) = false := by decide
    have v42 : ((4 : Int) == 2) = false := by decide
    have v43 : ((4 : Int) == 3) = false := by decide
    rcases hy with rfl | rfl | rfl | rfl | rfl | hy
    · repeat (first | (refine W_reg rfl fun G K hG hK => ?_; simp (disch := omega) only [go_sem, ↓reduceIte, Nat.reduceEqDiff, Nat.reduceAdd, Nat.reduceLeDiff, hG, a1, a2, a3, v10, v20, v21, v30, v31, v32, v40, v41, v42, v43]; refine hK _ _ ?_; clear hK K hG G) | (refine W_end rfl fun G K hG hK => ?_; simp (disch := omega) only [go_sem, ↓reduceIte, Nat.reduceEqDiff, Nat.reduceAdd, Nat.reduceLeDiff, hG, a1, a2, a3, v10, v20, v21, v30, v31, v32, v40, v41, v42, v43]; refine hK _ _ ?_; clear hK K hG G; repeat (first | refine thenI ?_ | refine thenE ?_ | refine thenR ?_ | refine inBI ?_ | refine inBR ?_ | refine inBS ?_ | refine inBN (by decide) ?_)) | refine W_seqS ?_ | refine W_seqC ?_ | refine W_seqB ?_ | refine W_block ?_ | (refine W_skip ?_; repeat (first | refine thenI ?_ | refine thenE ?_ | refine thenR ?_ | refine inBI ?_ | refine inBR ?_ | refine inBS ?_ | refine inBN (by decide) ?_)) | (refine W_condT ?hc ?_; (case hc => (simp (disch := omega) only [go_sem, ↓reduceIte, Nat.reduceEqDiff, Nat.reduceAdd, Nat.reduceLeDiff, a1, a2, a3, v10, v20, v21, v30, v31, v32, v40, v41, v42, v43]; done))) | (refine W_condF ?hc ?_; (case hc => (simp (disch := omega) only [go_sem, ↓reduceIte, Nat.reduceEqDiff, Nat.reduceAdd, Nat.reduceLeDiff, a1, a2, a3, v10, v20, v21, v30, v31, v32, v40, v41, v42, v43]; done))))
      refine W_end rfl fun G K hG hK => ?_; simp (disch := omega) only [go_sem, ↓reduceIte, Nat.reduceEqDiff, Nat.reduceAdd, Nat.reduceLeDiff, hG, a1, a2, a3, v10, v20, v21, v30, v31, v32, v40, v41, v42, v43]
      refine w_call (l1Below_ok q xs sd 5 (by omega) (by omega) hdr4.cur) (by simp (disch := omega) only [go_sem, ↓reduceIte, Nat.reduceEqDiff, a1, a2, a3, v10, v20, v21, v30, v31, v32, v40, v41, v42, v43]) ?hl ?_
      case hl => first | rfl | (simp only [go_sem, List.all_cons, List.all_nil, Bool.not_false, Bool.and_self, a1, a2, a3, v10, v20, v21, v30, v31, v32, v40, v41, v42, v43]; done)
      rintro r_ se ⟨⟨z, rfl, hz0, hz1⟩, hd6, hl6⟩; refine ⟨fun e => (by cases e), ?_⟩
      simp (disch := omega) only [go_sem, ↓reduceIte, Nat.reduceEqDiff, Nat.reduceAdd, Nat.reduceLeDiff, hG, a1, a2, a3, v10, v20, v21, v30, v31, v32, v40, v41, v42, v43]; refine hK _ _ ?_; clear hK K hG G; repeat (first | refine thenI ?_ | refine thenE ?_ | refine thenR ?_ | refine inBI ?_ | refine inBR ?_ | refine inBS ?_ | refine inBN (by decide) ?_)
      exact ⟨.mk z m nm args, _, L, hdr4.trans hd6, Own.close z m nm ((hd6.own ho4 hf0 (by have := hq.lt; omega)).args_slice), hf0, ⟨.inr hpa, by simp only [T.wt]; omega⟩, (by (simp (disch := omega) only [go_sem, ↓reduceIte, Nat.reduceEqDiff, Nat.reduceAdd, Nat.reduceLeDiff, a1, a2, a3, v10, v20, v21, v30, v31, v32, v40, v41, v42, v43]); try rfl), (by (simp (disch := omega) only [go_sem, ↓reduceIte, Nat.reduceEqDiff, Nat.reduceAdd, Nat.reduceLeDiff, a1, a2, a3, v10, v20, v21, v30, v31, v32, v40, v41, v42, v43]); try rfl), ⟨(by (simp (disch := omega) only [go_sem, ↓reduceIte, Nat.reduceEqDiff, Nat.reduceAdd, Nat.reduceLeDiff, a1, a2, a3, v10, v20, v21, v30, v31, v32, v40, v41, v42, v43]); try rfl), (by (simp (disch := omega) only [go_sem, ↓reduceIte, Nat.reduceEqDiff, Nat.reduceAdd, Nat.reduceLeDiff, a1, a2, a3, v10, v20, v21, v30, v31, v32, v40, v41, v42, v43]); try rfl)⟩, (by (simp (disch := omega) only [go_sem, ↓reduceIte, Nat.reduceEqDiff, Nat.reduceAdd, Nat.reduceLeDiff, a1, a2, a3, v10, v20, v21, v30, v31, v32, v40, v41, v42, v43]); try rfl)⟩
    · repeat (first | (refine W_reg rfl fun G K hG hK => ?_; simp (disch := omega) only [go_sem, ↓reduceIte, Nat.reduceEqDiff, Nat.reduceAdd, Nat.reduceLeDiff, hG, a1, a2, a3, v10, v20, v21, v30, v31, v32, v40, v41, v42, v43]; refine hK _ _ ?_; clear hK K hG G) | (refine W_end rfl fun G K hG hK => ?_; simp (disch := omega) only [go_sem, ↓reduceIte, Nat.reduceEqDiff, Nat.reduceAdd, Nat.reduceLeDiff, hG, a1, a2, a3, v10, v20, v21, v30, v31, v32, v40, v41, v42, v43]; refine hK _ _ ?_; clear hK K hG G; repeat (first | refine thenI ?_ | refine thenE ?_ | refine thenR ?_ | refine inBI ?_ | refine inBR ?_ | refine inBS ?_ | refine inBN (by decide) ?_)) | refine W_seqS ?_ | refine W_seqC ?_ | refine W_seqB ?_ | refine W_block ?_ | (refine W_skip ?_; repeat (first | refine thenI ?_ | refine thenE ?_ | refine thenR ?_ | refine inBI ?_ | refine inBR ?_ | refine inBS ?_ | refine inBN (by decide) ?_)) | (refine W_condT ?hc ?_; (case hc => (simp (disch := omega) only [go_sem, ↓reduceIte, Nat.reduceEqDiff, Nat.reduceAdd, Nat.reduceLeDiff, a1, a2, a3, v10, v20, v21, v30, v31, v32, v40, v41, v42, v43]; done))) | (refine W_condF ?hc ?_; (case hc => (simp (disch := omega) only [go_sem, ↓reduceIte, Nat.reduceEqDiff, Nat.reduceAdd, Nat.reduceLeDiff, a1, a2, a3, v10, v20, v21, v30, v31, v32, v40, v41, v42, v43]; done))))
      refine W_end rfl fun G K hG hK => ?_; simp (disch := omega) only [go_sem, ↓reduceIte, Nat.reduceEqDiff, Nat.reduceAdd, Nat.reduceLeDiff, hG, a1, a2, a3, v10, v20, v21, v30, v31, v32, v40, v41, v42, v43, bsL, fillK_cons, fillK_nil, Nat.reduceMul]
      refine w_call (l1PickInt_lit q xs sd _ _ 3 hdr4.cur rfl (by simp) (by simp)) (by simp (disch := omega) only [go_sem, ↓reduceIte, Nat.reduceEqDiff, a1, a2, a3, v10, v20, v21, v30, v31, v32, v40, v41, v42, v43]) ?hl ?_
      case hl => first | rfl | (simp only [go_sem, List.all_cons, List.all_nil, Bool.not_false, Bool.and_self, a1, a2, a3, v10, v20, v21, v30, v31, v32, v40, v41, v42, v43]; done)
      rintro r_ se ⟨⟨z, rfl, hz⟩, hd6, hl6⟩; refine ⟨fun e => (by cases e), ?_⟩
      have hd7 := Drawn.pre (Ext.app _ _) hd6
      simp (disch := omega) only [go_sem, ↓reduceIte, Nat.reduceEqDiff, Nat.reduceAdd, Nat.reduceLeDiff, hG, a1, a2, a3, v10, v20, v21, v30, v31, v32, v40, v41, v42, v43]; refine hK _ _ ?_; clear hK K hG G; repeat (first | refine thenI ?_ | refine thenE ?_ | refine thenR ?_ | refine inBI ?_ | refine inBR ?_ | refine inBS ?_ | refine inBN (by decide) ?_)
      exact ⟨.mk k z nm args, _, L, hdr4.trans hd7, Own.close k z nm ((hd7.own ho4 hf0 (by have := hq.lt; omega)).args_slice), hf0, ⟨.inr hpa, by simp only [T.wt]; omega⟩, (by (simp (disch := omega) only [go_sem, ↓reduceIte, Nat.reduceEqDiff, Nat.reduceAdd, Nat.reduceLeDiff, a1, a2, a3, v10, v20, v21, v30, v31, v32, v40, v41, v42, v43]); try rfl), (by (simp (disch := omega) only [go_sem, ↓reduceIte, Nat.reduceEqDiff, Nat.reduceAdd, Nat.reduceLeDiff, a1, a2, a3, v10, v20, v21, v30, v31, v32, v40, v41, v42, v43]); try rfl), ⟨(by (simp (disch := omega) only [go_sem, ↓reduceIte, Nat.reduceEqDiff, Nat.reduceAdd, Nat.reduceLeDiff, a1, a2, a3, v10, v20, v21, v30, v31, v32, v40, v41, v42, v43]); try rfl), (by (simp (disch := omega) only [go_sem, ↓reduceIte, Nat.reduceEqDiff, Nat.reduceAdd, Nat.reduceLeDiff, a1, a2, a3, v10, v20, v21, v30, v31, v32, v40, v41, v42, v43]); try rfl)⟩, (by (simp (disch := omega) only [go_sem, ↓reduceIte, Nat.reduceEqDiff, Nat.reduceAdd, Nat.reduceLeDiff, a1, a2, a3, v10, v20, v21, v30, v31, v32, v40, v41, v42, v43]); try rfl)⟩
    · repeat (first | (refine W_reg rfl fun G K hG hK => ?_; simp (disch := omega) only [go_sem, ↓reduceIte, Nat.reduceEqDiff, Nat.reduceAdd, Nat.reduceLeDiff, hG, a1, a2, a3, v10, v20, v21, v30, v31, v32, v40, v41, v42, v43]; refine hK _ _ ?_; clear hK K hG G) | (refine W_end rfl fun G K hG hK => ?_; simp (disch := omega) only [go_sem, ↓reduceIte, Nat.reduceEqDiff, Nat.reduceAdd, Nat.reduceLeDiff, hG, a1, a2, a3, v10, v20, v21, v30, v31, v32, v40, v41, v42, v43]; refine hK _ _ ?_; clear hK K hG G; repeat (first | refine thenI ?_ | refine thenE ?_ | refine thenR ?_ | refine inBI ?_ | refine inBR ?_ | refine inBS ?_ | refine inBN (by decide) ?_)) | refine W_seqS ?_ | refine W_seqC ?_ | refine W_seqB ?_ | refine W_block ?_ | (refine W_skip ?_; repeat (first | refine thenI ?_ | refine thenE ?_ | refine thenR ?_ | refine inBI ?_ | refine inBR ?_ | refine inBS ?_ | refine inBN (by decide) ?_)) | (refine W_condT ?hc ?_; (case hc => (simp (disch := omega) only [go_sem, ↓reduceIte, Nat.reduceEqDiff, Nat.reduceAdd, Nat.reduceLeDiff, a1, a2, a3, v10, v20, v21, v30, v31, v32, v40, v41, v42, v43]; done))) | (refine W_condF ?hc ?_; (case hc => (simp (disch := omega) only [go_sem, ↓reduceIte, Nat.reduceEqDiff, Nat.reduceAdd, Nat.reduceLeDiff, a1, a2, a3, v10, v20, v21, v30, v31, v32, v40, v41, v42, v43]; done))))
      refine W_end rfl fun G K hG hK => ?_; simp (disch := omega) only [go_sem, ↓reduceIte, Nat.reduceEqDiff, Nat.reduceAdd, Nat.reduceLeDiff, hG, a1, a2, a3, v10, v20, v21, v30, v31, v32, v40, v41, v42, v43, bsL, fillK_cons, fillK_nil, Nat.reduceMul]
      refine w_call (l1Pick_lit q xs sd _ _ 4 hdr4.cur rfl (by simp) (by simp)) (by simp (disch := omega) only [go_sem, ↓reduceIte, Nat.reduceEqDiff, a1, a2, a3, v10, v20, v21, v30, v31, v32, v40, v41, v42, v43]) ?hl ?_
      case hl => first | rfl | (simp only [go_sem, List.all_cons, List.all_nil, Bool.not_false, Bool.and_self, a1, a2, a3, v10, v20, v21, v30, v31, v32, v40, v41, v42, v43]; done)
      rintro r_ se ⟨⟨w, rfl, hw⟩, hd6, hl6⟩; refine ⟨fun e => (by cases e), ?_⟩
      have hd7 := Drawn.pre (Ext.app _ _) hd6
      have hw2 := size_of_mem2 (m := 2) hw rfl
      simp (disch := omega) only [go_sem, ↓reduceIte, Nat.reduceEqDiff, Nat.reduceAdd, Nat.reduceLeDiff, hG, a1, a2, a3, v10, v20, v21, v30, v31, v32, v40, v41, v42, v43]; refine hK _ _ ?_; clear hK K hG G; repeat (first | refine thenI ?_ | refine thenE ?_ | refine thenR ?_ | refine inBI ?_ | refine inBR ?_ | refine inBS ?_ | refine inBN (by decide) ?_)
      exact ⟨.mk k m w args, _, L, hdr4.trans hd7, Own.close k m w ((hd7.own ho4 hf0 (by have := hq.lt; omega)).args_slice), hf0, ⟨.inr hpa, by simp only [T.wt]; omega⟩, (by (simp (disch := omega) only [go_sem, ↓reduceIte, Nat.reduceEqDiff, Nat.reduceAdd, Nat.reduceLeDiff, a1, a2, a3, v10, v20, v21, v30, v31, v32, v40, v41, v42, v43]); try rfl), (by (simp (disch := omega) only [go_sem, ↓reduceIte, Nat.reduceEqDiff, Nat.reduceAdd, Nat.reduceLeDiff, a1, a2, a3, v10, v20, v21, v30, v31, v32, v40, v41, v42, v43]); try rfl), ⟨(by (simp (disch := omega) only [go_sem, ↓reduceIte, Nat.reduceEqDiff, Nat.reduceAdd, Nat.reduceLeDiff, a1, a2, a3, v10, v20, v21, v30, v31, v32, v40, v41, v42, v43]); try rfl), (by (simp (disch := omega) only [go_sem, ↓reduceIte, Nat.reduceEqDiff, Nat.reduceAdd, Nat.reduceLeDiff, a1, a2, a3, v10, v20, v21, v30, v31, v32, v40, v41, v42, v43]); try rfl)⟩, (by (simp (disch := omega) only [go_sem, ↓reduceIte, Nat.reduceEqDiff, Nat.reduceAdd, Nat.reduceLeDiff, a1, a2, a3, v10, v20, v21, v30, v31, v32, v40, v41, v42, v43]); try rfl)⟩
    · repeat (first | (refine W_reg rfl fun G K hG hK => ?_; simp (disch := omega) only [go_sem, ↓reduceIte, Nat.reduceEqDiff, Nat.reduceAdd, Nat.reduceLeDiff, hG, a1, a2, a3, v10, v20, v21, v30, v31, v32, v40, v41, v42, v43]; refine hK _ _ ?_; clear hK K hG G) | (refine W_end rfl fun G K hG hK => ?_; simp (disch := omega) only [go_sem, ↓reduceIte, Nat.reduceEqDiff, Nat.reduceAdd, Nat.reduceLeDiff, hG, a1, a2, a3, v10, v20, v21, v30, v31, v32, v40, v41, v42, v43]; refine hK _ _ ?_; clear hK K hG G; repeat (first | refine thenI ?_ | refine thenE ?_ | refine thenR ?_ | refine inBI ?_ | refine inBR ?_ | refine inBS ?_ | refine inBN (by decide) ?_)) | refine W_seqS ?_ | refine W_seqC ?_ | refine W_seqB ?_ | refine W_block ?_ | (refine W_skip ?_; repeat (first | refine thenI ?_ | refine thenE ?_ | refine thenR ?_ | refine inBI ?_ | refine inBR ?_ | refine inBS ?_ | refine inBN (by decide) ?_)) | (refine W_condT ?hc ?_; (case hc => (simp (disch := omega) only [go_sem, ↓reduceIte, Nat.reduceEqDiff, Nat.reduceAdd, Nat.reduceLeDiff, a1, a2, a3, v10, v20, v21, v30, v31, v32, v40, v41, v42, v43]; done))) | (refine W_condF ?hc ?_; (case hc => (simp (disch := omega) only [go_sem, ↓reduceIte, Nat.reduceEqDiff, Nat.reduceAdd, Nat.reduceLeDiff, a1, a2, a3, v10, v20, v21, v30, v31, v32, v40, v41, v42, v43]; done))))
      refine W_endD mixed [] [(0,false),(1,false),(2,true),(3,false),(4,false),(5,false),(6,false)] rfl (by decide +kernel) fun G K hG hK => ?_; simp only [pickOps, List.filterMap_cons, List.filterMap_nil, List.getElem?_cons_zero, List.getElem?_cons_succ, Option.map_some]; simp (disch := omega) only [go_sem, ↓reduceIte, Nat.reduceEqDiff, Nat.reduceAdd, Nat.reduceLeDiff, hG, a1, a2, a3, v10, v20, v21, v30, v31, v32, v40, v41, v42, v43]
      refine w_call (l3Word_ok 1 sd) (by simp (disch := omega) only [go_sem, ↓reduceIte, Nat.reduceEqDiff, a1, a2, a3, v10, v20, v21, v30, v31, v32, v40, v41, v42, v43]) ?hl ?_
      case hl => first | rfl | (simp only [go_sem, List.all_cons, List.all_nil, Bool.not_false, Bool.and_self, a1, a2, a3, v10, v20, v21, v30, v31, v32, v40, v41, v42, v43]; done)
      rintro r_ se ⟨rfl, rfl⟩; refine ⟨fun e => Ext.refl _, ?_⟩
      have hw1 : OwnT se (.mk 3 1 ⟨#[]⟩ []) [.int .i64 3, .int .i64 1, .string ⟨#[]⟩, .slice none 0 0] [] := .nil _ _ _
      obtain ⟨s', sf, L', hap, hs', hf', hll, hlow⟩ := Own.step ho4.args_slice hf0 hdr4.away.1 (Ext.refl se) hw1 (.nil _) (by omega)
      have b1 := hs'.loc
      have b2 := hs'.okv
      have b3 := hs'.cells
      simp (disch := omega) only [go_sem, ↓reduceIte, Nat.reduceEqDiff, Nat.reduceAdd, Nat.reduceLeDiff, hG, a1, a2, a3, v10, v20, v21, v30, v31, v32, v40, v41, v42, v43, bsL, fillK_cons, fillK_nil, Nat.reduceMul, w_append, hap, b1, b2, b3]; refine hK _ _ ?_; clear hK K hG G; repeat (first | refine thenI ?_ | refine thenE ?_ | refine thenR ?_ | refine inBI ?_ | refine inBR ?_ | refine inBS ?_ | refine inBN (by decide) ?_)
      have hz : (⟨#[]⟩ : ByteArray).size = 0 := rfl
      have hb : BentP (.mk k m nm (args ++ [.mk 3 1 ⟨#[]⟩ []])) := ⟨.inr (fun a ha => (List.mem_append.1 ha).elim (hpa a) fun h => by cases List.mem_singleton.1 h; exact plain_word _ _), by
        simp only [T.wt, List.length_append, List.length_singleton, T.wtL_snoc, T.wtL, List.length_nil, hz]; omega⟩
      exact ⟨.mk k m nm (args ++ [.mk 3 1 ⟨#[]⟩ []]), _, L', hdr4.low rfl hq.lt hlow hll, Own.close k m nm hs', hf', hb, (by (simp (disch := omega) only [go_sem, ↓reduceIte, Nat.reduceEqDiff, Nat.reduceAdd, Nat.reduceLeDiff, a1, a2, a3, v10, v20, v21, v30, v31, v32, v40, v41, v42, v43]); try rfl), (by (simp (disch := omega) only [go_sem, ↓reduceIte, Nat.reduceEqDiff, Nat.reduceAdd, Nat.reduceLeDiff, a1, a2, a3, v10, v20, v21, v30, v31, v32, v40, v41, v42, v43]); try rfl), ⟨(by (simp (disch := omega) only [go_sem, ↓reduceIte, Nat.reduceEqDiff, Nat.reduceAdd, Nat.reduceLeDiff, a1, a2, a3, v10, v20, v21, v30, v31, v32, v40, v41, v42, v43]); try rfl), (by (simp (disch := omega) only [go_sem, ↓reduceIte, Nat.reduceEqDiff, Nat.reduceAdd, Nat.reduceLeDiff, a1, a2, a3, v10, v20, v21, v30, v31, v32, v40, v41, v42, v43]); try rfl)⟩, (by (simp (disch := omega) only [go_sem, ↓reduceIte, Nat.reduceEqDiff, Nat.reduceAdd, Nat.reduceLeDiff, a1, a2, a3, v10, v20, v21, v30, v31, v32, v40, v41, v42, v43]); try rfl)⟩
    · repeat (first | (refine W_reg rfl fun G K hG hK => ?_; simp (disch := omega) only [go_sem, ↓reduceIte, Nat.reduceEqDiff, Nat.reduceAdd, Nat.reduceLeDiff, hG, a1, a2, a3, v10, v20, v21, v30, v31, v32, v40, v41, v42, v43]; refine hK _ _ ?_; clear hK K hG G) | (refine W_end rfl fun G K hG hK => ?_; simp (disch := omega) only [go_sem, ↓reduceIte, Nat.reduceEqDiff, Nat.reduceAdd, Nat.reduceLeDiff, hG, a1, a2, a3, v10, v20, v21, v30, v31, v32, v40, v41, v42, v43]; refine hK _ _ ?_; clear hK K hG G; repeat (first | refine thenI ?_ | refine thenE ?_ | refine thenR ?_ | refine inBI ?_ | refine inBR ?_ | refine inBS ?_ | refine inBN (by decide) ?_)) | refine W_seqS ?_ | refine W_seqC ?_ | refine W_seqB ?_ | refine W_block ?_ | (refine W_skip ?_; repeat (first | refine thenI ?_ | refine thenE ?_ | refine thenR ?_ | refine inBI ?_ | refine inBR ?_ | refine inBS ?_ | refine inBN (by decide) ?_)) | (refine W_condT ?hc ?_; (case hc => (simp (disch := omega) only [go_sem, ↓reduceIte, Nat.reduceEqDiff, Nat.reduceAdd, Nat.reduceLeDiff, a1, a2, a3, v10, v20, v21, v30, v31, v32, v40, v41, v42, v43]; done))) | (refine W_condF ?hc ?_; (case hc => (simp (disch := omega) only [go_sem, ↓reduceIte, Nat.reduceEqDiff, Nat.reduceAdd, Nat.reduceLeDiff, a1, a2, a3, v10, v20, v21, v30, v31, v32, v40, v41, v42, v43]; done))))
      refine W_loop (fun d fr st' => ∃ (j : Nat) (t : T) (ds : List Value) (L : List Nat), d = 16 - j ∧ j ≤ 16 ∧ (Drawn q xs st st') ∧ (OwnT st' t ds L) ∧ (Fresh st.length L) ∧ (Plain t) ∧ (t.wt ≤ 61 + 2 * j) ∧ (fr.env 2 = .pointer (some ⟨2, 0, some 1⟩)) ∧ (fr.env 3 = .pointer (some ⟨3, 0, some 1⟩)) ∧ (fr.env 4 = .int .i64 j) ∧ ((fr.loc 2).1 = 1 ∧ (fr.loc 2).2.length = 4) ∧ (fr.loc 3 = (1, ds))) (16) ?_ ?_
      · exact ⟨0, _, _, _, by omega, by omega, hdr4, ho4, hf0, hp4.1, by simp only [T.wt]; omega, (by (simp (disch := omega) only [go_sem, ↓reduceIte, Nat.reduceEqDiff, Nat.reduceAdd, Nat.reduceLeDiff, a1, a2, a3, v10, v20, v21, v30, v31, v32, v40, v41, v42, v43]); try rfl), (by (simp (disch := omega) only [go_sem, ↓reduceIte, Nat.reduceEqDiff, Nat.reduceAdd, Nat.reduceLeDiff, a1, a2, a3, v10, v20, v21, v30, v31, v32, v40, v41, v42, v43]); try rfl), (by (simp (disch := omega) only [go_sem, ↓reduceIte, Nat.reduceEqDiff, Nat.reduceAdd, Nat.reduceLeDiff, a1, a2, a3, v10, v20, v21, v30, v31, v32, v40, v41, v42, v43]); try rfl), ⟨(by (simp (disch := omega) only [go_sem, ↓reduceIte, Nat.reduceEqDiff, Nat.reduceAdd, Nat.reduceLeDiff, a1, a2, a3, v10, v20, v21, v30, v31, v32, v40, v41, v42, v43]); try rfl), (by (simp (disch := omega) only [go_sem, ↓reduceIte, Nat.reduceEqDiff, Nat.reduceAdd, Nat.reduceLeDiff, a1, a2, a3, v10, v20, v21, v30, v31, v32, v40, v41, v42, v43]); try rfl)⟩, (by (simp (disch := omega) only [go_sem, ↓reduceIte, Nat.reduceEqDiff, Nat.reduceAdd, Nat.reduceLeDiff, a1, a2, a3, v10, v20, v21, v30, v31, v32, v40, v41, v42, v43]); try rfl)⟩
      rintro d ⟨env, loc⟩ st' ⟨j, t, ds, L, hd, hj, hdr5, ho5, hf5, hp5, hw5, e2, e3, e4, ⟨l2, l2'⟩, l3⟩
      simp only at e2 e3 e4 l2 l2' l3
      by_cases hlt : j < 16
      · have c1 : decide ((j : Int) < 16) = true := by simp; omega
        obtain ⟨k5, n5, m5, s5, rfl, d1, d2, d3⟩ := ho5.args_cells
        repeat (first | (refine W_reg rfl fun G K hG hK => ?_; simp (disch := omega) only [go_sem, ↓reduceIte, Nat.reduceEqDiff, Nat.reduceAdd, Nat.reduceLeDiff, hG, a1, a2, a3, v10, v20, v21, v30, v31, v32, v40, v41, v42, v43, e2, e3, e4, l2, l2', l3, c1, d1, d2, d3]; refine hK _ _ ?_; clear hK K hG G) | (refine W_end rfl fun G K hG hK => ?_; simp (disch := omega) only [go_sem, ↓reduceIte, Nat.reduceEqDiff, Nat.reduceAdd, Nat.reduceLeDiff, hG, a1, a2, a3, v10, v20, v21, v30, v31, v32, v40, v41, v42, v43, e2, e3, e4, l2, l2', l3, c1, d1, d2, d3]; refine hK _ _ ?_; clear hK K hG G; repeat (first | refine thenI ?_ | refine thenE ?_ | refine thenR ?_ | refine inBI ?_ | refine inBR ?_ | refine inBS ?_ | refine inBN (by decide) ?_)) | refine W_seqS ?_ | refine W_seqC ?_ | refine W_seqB ?_ | refine W_block ?_ | (refine W_skip ?_; repeat (first | refine thenI ?_ | refine thenE ?_ | refine thenR ?_ | refine inBI ?_ | refine inBR ?_ | refine inBS ?_ | refine inBN (by decide) ?_)) | (refine W_condT ?hc ?_; (case hc => (simp (disch := omega) only [go_sem, ↓reduceIte, Nat.reduceEqDiff, Nat.reduceAdd, Nat.reduceLeDiff, a1, a2, a3, v10, v20, v21, v30, v31, v32, v40, v41, v42, v43, e2, e3, e4, l2, l2', l3, c1, d1, d2, d3]; done))) | (refine W_condF ?hc ?_; (case hc => (simp (disch := omega) only [go_sem, ↓reduceIte, Nat.reduceEqDiff, Nat.reduceAdd, Nat.reduceLeDiff, a1, a2, a3, v10, v20, v21, v30, v31, v32, v40, v41, v42, v43, e2, e3, e4, l2, l2', l3, c1, d1, d2, d3]; done))))
        refine W_end rfl fun G K hG hK => ?_; simp (disch := omega) only [go_sem, ↓reduceIte, Nat.reduceEqDiff, Nat.reduceAdd, Nat.reduceLeDiff, hG, a1, a2, a3, v10, v20, v21, v30, v31, v32, v40, v41, v42, v43, e2, e3, e4, l2, l2', l3, d1, d2, d3]
        refine w_call (l3One_ok ⟨#[103]⟩ t st' [.int .i64 k5, .int .i64 n5, .string m5, s5] L ho5) (by simp (disch := omega) only [go_sem, ↓reduceIte, Nat.reduceEqDiff, a1, a2, a3, v10, v20, v21, v30, v31, v32, v40, v41, v42, v43, e2, e3, e4, l2, l2', l3, d1, d2, d3]) ?hl ?_
        case hl => first | rfl | (simp only [go_sem, List.all_cons, List.all_nil, Bool.not_false, Bool.and_self, a1, a2, a3, v10, v20, v21, v30, v31, v32, v40, v41, v42, v43, e2, e3, e4, l2, l2', l3, d1, d2, d3]; done)
        rintro r_ se ⟨x1, es, rfl, ho6⟩; refine ⟨fun e => (by cases e), ?_⟩
        obtain ⟨k6, n6, m6, s6, rfl, g1, g2, g3⟩ := ho6.args_cells
        simp (disch := omega) only [go_sem, ↓reduceIte, Nat.reduceEqDiff, Nat.reduceAdd, Nat.reduceLeDiff, hG, a1, a2, a3, v10, v20, v21, v30, v31, v32, v40, v41, v42, v43, e2, e3, e4, l2, l2', l3, d1, d2, d3, g1, g2, g3]; refine hK _ _ ?_; clear hK K hG G; repeat (first | refine thenI ?_ | refine thenE ?_ | refine thenR ?_ | refine inBI ?_ | refine inBR ?_ | refine inBS ?_ | refine inBN (by decide) ?_)
        repeat (first | (refine W_reg rfl fun G K hG hK => ?_; simp (disch := omega) only [go_sem, ↓reduceIte, Nat.reduceEqDiff, Nat.reduceAdd, Nat.reduceLeDiff, hG, a1, a2, a3, v10, v20, v21, v30, v31, v32, v40, v41, v42, v43, e2, e3, e4, l2, l2', l3]; refine hK _ _ ?_; clear hK K hG G) | (refine W_end rfl fun G K hG hK => ?_; simp (disch := omega) only [go_sem, ↓reduceIte, Nat.reduceEqDiff, Nat.reduceAdd, Nat.reduceLeDiff, hG, a1, a2, a3, v10, v20, v21, v30, v31, v32, v40, v41, v42, v43, e2, e3, e4, l2, l2', l3]; refine hK _ _ ?_; clear hK K hG G; repeat (first | refine thenI ?_ | refine thenE ?_ | refine thenR ?_ | refine inBI ?_ | refine inBR ?_ | refine inBS ?_ | refine inBN (by decide) ?_)) | refine W_seqS ?_ | refine W_seqC ?_ | refine W_seqB ?_ | refine W_block ?_ | (refine W_skip ?_; repeat (first | refine thenI ?_ | refine thenE ?_ | refine thenR ?_ | refine inBI ?_ | refine inBR ?_ | refine inBS ?_ | refine inBN (by decide) ?_)) | (refine W_condT ?hc ?_; (case hc => (simp (disch := omega) only [go_sem, ↓reduceIte, Nat.reduceEqDiff, Nat.reduceAdd, Nat.reduceLeDiff, a1, a2, a3, v10, v20, v21, v30, v31, v32, v40, v41, v42, v43, e2, e3, e4, l2, l2', l3]; done))) | (refine W_condF ?hc ?_; (case hc => (simp (disch := omega) only [go_sem, ↓reduceIte, Nat.reduceEqDiff, Nat.reduceAdd, Nat.reduceLeDiff, a1, a2, a3, v10, v20, v21, v30, v31, v32, v40, v41, v42, v43, e2, e3, e4, l2, l2', l3]; done))))
        have hz : (⟨#[103]⟩ : ByteArray).size = 1 := rfl
        have hw6 : (T.mk 2 0 ⟨#[103]⟩ [t]).wt ≤ 61 + 2 * (j + 1) := by simp only [T.wt, T.wtL, List.length_cons, List.length_nil, hz]; omega
        refine ⟨16 - (j + 1), by omega, j + 1, _, _, _, rfl, by omega, hdr5.ext2 x1, ho6, hf5.cons (Own.lt _ _ _ ho5) hdr5.away.1, plain_app 0 _ _ (fun a ha => (by cases List.mem_singleton.1 ha; exact hp5)), hw6, (by (simp (disch := omega) only [go_sem, ↓reduceIte, Nat.reduceEqDiff, Nat.reduceAdd, Nat.reduceLeDiff, a1, a2, a3, v10, v20, v21, v30, v31, v32, v40, v41, v42, v43, e2, e3, e4, l2, l2', l3]); try rfl), (by (simp (disch := omega) only [go_sem, ↓reduceIte, Nat.reduceEqDiff, Nat.reduceAdd, Nat.reduceLeDiff, a1, a2, a3, v10, v20, v21, v30, v31, v32, v40, v41, v42, v43, e2, e3, e4, l2, l2', l3]); try rfl), (by (simp (disch := omega) only [go_sem, ↓reduceIte, Nat.reduceEqDiff, Nat.reduceAdd, Nat.reduceLeDiff, a1, a2, a3, v10, v20, v21, v30, v31, v32, v40, v41, v42, v43, e2, e3, e4, l2, l2', l3]); try rfl), ⟨(by (simp (disch := omega) only [go_sem, ↓reduceIte, Nat.reduceEqDiff, Nat.reduceAdd, Nat.reduceLeDiff, a1, a2, a3, v10, v20, v21, v30, v31, v32, v40, v41, v42, v43, e2, e3, e4, l2, l2', l3]); try rfl), (by (simp (disch := omega) only [go_sem, ↓reduceIte, Nat.reduceEqDiff, Nat.reduceAdd, Nat.reduceLeDiff, a1, a2, a3, v10, v20, v21, v30, v31, v32, v40, v41, v42, v43, e2, e3, e4, l2, l2', l3]); try rfl)⟩, (by (simp (disch := omega) only [go_sem, ↓reduceIte, Nat.reduceEqDiff, Nat.reduceAdd, Nat.reduceLeDiff, a1, a2, a3, v10, v20, v21, v30, v31, v32, v40, v41, v42, v43, e2, e3, e4, l2, l2', l3]); try rfl)⟩
      · have c1 : decide ((j : Int) < 16) = false := by simp; omega
        repeat (first | (refine W_reg rfl fun G K hG hK => ?_; simp (disch := omega) only [go_sem, ↓reduceIte, Nat.reduceEqDiff, Nat.reduceAdd, Nat.reduceLeDiff, hG, a1, a2, a3, v10, v20, v21, v30, v31, v32, v40, v41, v42, v43, e2, e3, e4, l2, l2', l3, c1]; refine hK _ _ ?_; clear hK K hG G) | (refine W_end rfl fun G K hG hK => ?_; simp (disch := omega) only [go_sem, ↓reduceIte, Nat.reduceEqDiff, Nat.reduceAdd, Nat.reduceLeDiff, hG, a1, a2, a3, v10, v20, v21, v30, v31, v32, v40, v41, v42, v43, e2, e3, e4, l2, l2', l3, c1]; refine hK _ _ ?_; clear hK K hG G; repeat (first | refine thenI ?_ | refine thenE ?_ | refine thenR ?_ | refine inBI ?_ | refine inBR ?_ | refine inBS ?_ | refine inBN (by decide) ?_)) | refine W_seqS ?_ | refine W_seqC ?_ | refine W_seqB ?_ | refine W_block ?_ | (refine W_skip ?_; repeat (first | refine thenI ?_ | refine thenE ?_ | refine thenR ?_ | refine inBI ?_ | refine inBR ?_ | refine inBS ?_ | refine inBN (by decide) ?_)) | (refine W_condT ?hc ?_; (case hc => (simp (disch := omega) only [go_sem, ↓reduceIte, Nat.reduceEqDiff, Nat.reduceAdd, Nat.reduceLeDiff, a1, a2, a3, v10, v20, v21, v30, v31, v32, v40, v41, v42, v43, e2, e3, e4, l2, l2', l3, c1]; done))) | (refine W_condF ?hc ?_; (case hc => (simp (disch := omega) only [go_sem, ↓reduceIte, Nat.reduceEqDiff, Nat.reduceAdd, Nat.reduceLeDiff, a1, a2, a3, v10, v20, v21, v30, v31, v32, v40, v41, v42, v43, e2, e3, e4, l2, l2', l3, c1]; done))))
        refine W_exit ?_; repeat (first | refine thenI ?_ | refine thenE ?_ | refine thenR ?_ | refine inBI ?_ | refine inBR ?_ | refine inBS ?_ | refine inBN (by decide) ?_)
        exact ⟨_, _, _, hdr5, ho5, hf5, ⟨hp5.b, by omega⟩, (by (simp (disch := omega) only [go_sem, ↓reduceIte, Nat.reduceEqDiff, Nat.reduceAdd, Nat.reduceLeDiff, a1, a2, a3, v10, v20, v21, v30, v31, v32, v40, v41, v42, v43, e2, e3, e4, l2, l2', l3]); try rfl), (by (simp (disch := omega) only [go_sem, ↓reduceIte, Nat.reduceEqDiff, Nat.reduceAdd, Nat.reduceLeDiff, a1, a2, a3, v10, v20, v21, v30, v31, v32, v40, v41, v42, v43, e2, e3, e4, l2, l2', l3]); try rfl), ⟨(by (simp (disch := omega) only [go_sem, ↓reduceIte, Nat.reduceEqDiff, Nat.reduceAdd, Nat.reduceLeDiff, a1, a2, a3, v10, v20, v21, v30, v31, v32, v40, v41, v42, v43, e2, e3, e4, l2, l2', l3]); try rfl), (by (simp (disch := omega) only [go_sem, ↓reduceIte, Nat.reduceEqDiff, Nat.reduceAdd, Nat.reduceLeDiff, a1, a2, a3, v10, v20, v21, v30, v31, v32, v40, v41, v42, v43, e2, e3, e4, l2, l2', l3]); try rfl)⟩, (by (simp (disch := omega) only [go_sem, ↓reduceIte, Nat.reduceEqDiff, Nat.reduceAdd, Nat.reduceLeDiff, a1, a2, a3, v10, v20, v21, v30, v31, v32, v40, v41, v42, v43, e2, e3, e4, l2, l2', l3]); try rfl)⟩
    · have w0 : (y == 0) = false := by simp; omega
      have w1 : (y == 1) = false := by simp; omega
      have w2 : (y == 2) = false := by simp; omega
      have w3 : (y == 3) = false := by simp; omega
      have w4 : (y == 4) = false := by simp; omega
      repeat (first | (refine W_reg rfl fun G K hG hK => ?_; simp (disch := omega) only [go_sem, ↓reduceIte, Nat.reduceEqDiff, Nat.reduceAdd, Nat.reduceLeDiff, hG, a1, a2, a3, v10, v20, v21, v30, v31, v32, v40, v41, v42, v43, w0, w1, w2, w3, w4]; refine hK _ _ ?_; clear hK K hG G) | (refine W_end rfl fun G K hG hK => ?_; simp (disch := omega) only [go_sem, ↓reduceIte, Nat.reduceEqDiff, Nat.reduceAdd, Nat.reduceLeDiff, hG, a1, a2, a3, v10, v20, v21, v30, v31, v32, v40, v41, v42, v43, w0, w1, w2, w3, w4]; refine hK _ _ ?_; clear hK K hG G; repeat (first | refine thenI ?_ | refine thenE ?_ | refine thenR ?_ | refine inBI ?_ | refine inBR ?_ | refine inBS ?_ | refine inBN (by decide) ?_)) | refine W_seqS ?_ | refine W_seqC ?_ | refine W_seqB ?_ | refine W_block ?_ | (refine W_skip ?_; repeat (first | refine thenI ?_ | refine thenE ?_ | refine thenR ?_ | refine inBI ?_ | refine inBR ?_ | refine inBS ?_ | refine inBN (by decide) ?_)) | (refine W_condT ?hc ?_; (case hc => (simp (disch := omega) only [go_sem, ↓reduceIte, Nat.reduceEqDiff, Nat.reduceAdd, Nat.reduceLeDiff, a1, a2, a3, v10, v20, v21, v30, v31, v32, v40, v41, v42, v43, w0, w1, w2, w3, w4]; done))) | (refine W_condF ?hc ?_; (case hc => (simp (disch := omega) only [go_sem, ↓reduceIte, Nat.reduceEqDiff, Nat.reduceAdd, Nat.reduceLeDiff, a1, a2, a3, v10, v20, v21, v30, v31, v32, v40, v41, v42, v43, w0, w1, w2, w3, w4]; done))))
      exact ⟨_, _, L, hdr4, ho4, hf0, bent_of hp4, (by (simp (disch := omega) only [go_sem, ↓reduceIte, Nat.reduceEqDiff, Nat.reduceAdd, Nat.reduceLeDiff, a1, a2, a3, v10, v20, v21, v30, v31, v32, v40, v41, v42, v43]); try rfl), (by (simp (disch := omega) only [go_sem, ↓reduceIte, Nat.reduceEqDiff, Nat.reduceAdd, Nat.reduceLeDiff, a1, a2, a3, v10, v20, v21, v30, v31, v32, v40, v41, v42, v43]); try rfl), ⟨(by (simp (disch := omega) only [go_sem, ↓reduceIte, Nat.reduceEqDiff, Nat.reduceAdd, Nat.reduceLeDiff, a1, a2, a3, v10, v20, v21, v30, v31, v32, v40, v41, v42, v43]); try rfl), (by (simp (disch := omega) only [go_sem, ↓reduceIte, Nat.reduceEqDiff, Nat.reduceAdd, Nat.reduceLeDiff, a1, a2, a3, v10, v20, v21, v30, v31, v32, v40, v41, v42, v43]); try rfl)⟩, (by (simp (disch := omega) only [go_sem, ↓reduceIte, Nat.reduceEqDiff, Nat.reduceAdd, Nat.reduceLeDiff, a1, a2, a3, v10, v20, v21, v30, v31, v32, v40, v41, v42, v43]); try rfl)⟩
  rintro ⟨env, loc⟩ st' ⟨t, ds, L, hdr5, ho5, hf5, hp5, e2, e3, ⟨l2, l2'⟩, l3⟩
  simp only at e2 e3 l2 l2' l3
  obtain ⟨k5, n5, m5, s5, rfl, d1, d2, d3⟩ := ho5.args_cells
  repeat (first | (refine W_reg rfl fun G K hG hK => ?_; simp (disch := omega) only [go_sem, ↓reduceIte, Nat.reduceEqDiff, Nat.reduceAdd, Nat.reduceLeDiff, hG, e2, e3, l2, l2', l3, d1, d2, d3]; refine hK _ _ ?_; clear hK K hG G) | (refine W_end rfl fun G K hG hK => ?_; simp (disch := omega) only [go_sem, ↓reduceIte, Nat.reduceEqDiff, Nat.reduceAdd, Nat.reduceLeDiff, hG, e2, e3, l2, l2', l3, d1, d2, d3]; refine hK _ _ ?_; clear hK K hG G; repeat (first | refine thenI ?_ | refine thenE ?_ | refine thenR ?_ | refine inBI ?_ | refine inBR ?_ | refine inBS ?_ | refine inBN (by decide) ?_)) | refine W_seqS ?_ | refine W_seqC ?_ | refine W_seqB ?_ | refine W_block ?_ | (refine W_skip ?_; repeat (first | refine thenI ?_ | refine thenE ?_ | refine thenR ?_ | refine inBI ?_ | refine inBR ?_ | refine inBS ?_ | refine inBN (by decide) ?_)) | (refine W_condT ?hc ?_; (case hc => (simp (disch := omega) only [go_sem, ↓reduceIte, Nat.reduceEqDiff, Nat.reduceAdd, Nat.reduceLeDiff, e2, e3, l2, l2', l3, d1, d2, d3]; done))) | (refine W_condF ?hc ?_; (case hc => (simp (disch := omega) only [go_sem, ↓reduceIte, Nat.reduceEqDiff, Nat.reduceAdd, Nat.reduceLeDiff, e2, e3, l2, l2', l3, d1, d2, d3]; done))))
  refine W_ret ?_; try (repeat (first | refine thenI ?_ | refine thenE ?_ | refine thenR ?_ | refine inBI ?_ | refine inBR ?_ | refine inBS ?_ | refine inBN (by decide) ?_))
  refine finC (.inl rfl) (by (simp (disch := omega) only [go_sem, ↓reduceIte, Nat.reduceEqDiff, Nat.reduceAdd, Nat.reduceLeDiff, e2, e3, l2, l2', l3, d1, d2, d3]); try rfl) ⟨hdr5, t, [_, _, _, _], L, rfl, ho5, hf5, hp5⟩
end Go.Proofs.Ytfckojbllbdejaa.AM


/- Terms are totally ordered: the comparison, in plain Lean. -/
namespace Go.Proofs.Ytfckojbllbdejaa.AM
open Go Go.Proofs
set_option linter.unusedVariables false
set_option linter.unusedSimpArgs false

def lexI : List Int → List Int → Int
  | [], [] => 0
  | [], _ :: _ => -1
  | _ :: _, [] => 1
  | a :: x, b :: y => if a < b then -1 else if b < a then 1 else lexI x y
theorem lexI_anti : ∀ x y, lexI y x = - lexI x y := by
  intro x
  induction x with
  | nil => intro y; cases y <;> rfl
  | cons a x ih =>
    intro y
    cases y with
    | nil => rfl
    | cons b y =>
      by_cases h1 : a < b
      · have h2 : ¬ b < a := by omega
        simp [lexI, h1, h2]
      · by_cases h2 : b < a
        · simp [lexI, h1, h2]
        · simp [lexI, h1, h2, ih y]
theorem lexI_nil (z : List Int) : lexI [] z ≤ 0 := by cases z <;> simp [lexI]
theorem lexI_trans : ∀ x y z, lexI x y ≤ 0 → lexI y z ≤ 0 → lexI x z ≤ 0 := by
  intro x
  induction x with
  | nil => intro y z _ _; exact lexI_nil z
  | cons a x ih =>
    intro y z h1 h2
    cases y with
    | nil => simp [lexI] at h1
    | cons b y =>
      cases z with
      | nil => simp [lexI] at h2
      | cons c z =>
        simp only [lexI] at h1 h2 ⊢
        by_cases e1 : a < b
        · by_cases e2 : b < c
          · rw [if_pos (by omega)]; omega
          · rw [if_neg e2] at h2
            by_cases e3 : c < b
            · rw [if_pos e3] at h2; omega
            · rw [if_pos (by omega)]; omega
        · rw [if_neg e1] at h1
          by_cases e2 : b < a
          · rw [if_pos e2] at h1; omega
          · rw [if_neg e2] at h1
            by_cases e3 : b < c
            · rw [if_pos (by omega)]; omega
            · rw [if_neg e3] at h2
              by_cases e4 : c < b
              · rw [if_pos e4] at h2; omega
              · rw [if_neg e4] at h2
                rw [if_neg (by omega), if_neg (by omega)]
                exact ih y z h1 h2

/-- The first of the numbers that is not 0. -/
def firstNZ : List Int → Int
  | [] => 0
  | x :: xs => if x = 0 then firstNZ xs else x
def ci (a b : Int) : Int := if a < b then -1 else if a > b then 1 else 0
def ct (a b : ByteArray) : Int := if Op.bytesLess a.toList b.toList = true then -1 else if Op.bytesLess b.toList a.toList = true then 1 else 0
def hdC (k n : Int) (nm : ByteArray) (m : Nat) (k' n' : Int) (nm' : ByteArray) (m' : Nat) : Int := firstNZ [ci k k', ci n n', ct nm nm', ci m m']
mutual
def T.cmp : T → T → Int
  | .mk k n nm xs, .mk k' n' nm' ys => if hdC k n nm xs.length k' n' nm' ys.length = 0 then T.cmpL xs ys else hdC k n nm xs.length k' n' nm' ys.length
def T.cmpL : List T → List T → Int
  | x :: xs, y :: ys => if T.cmp x y = 0 then T.cmpL xs ys else T.cmp x y
  | [], _ => 0
  | _ :: _, [] => 0
end

def keyB (s : ByteArray) : List Int := s.data.toList.map fun b => (b.toNat : Int)
mutual
def T.flatt : T → List Int
  | .mk k n nm xs => k :: n :: (keyB nm ++ (-1 :: (xs.length : Int) :: T.flatL xs))
def T.flatL : List T → List Int
  | [] => []
  | x :: xs => x.flatt ++ T.flatL xs
end
theorem lexI_cons (a b : Int) (x y : List Int) : lexI (a :: x) (b :: y) = if ci a b = 0 then lexI x y else ci a b := by
  unfold ci
  by_cases h1 : a < b
  · simp [lexI, h1]
  · by_cases h2 : b < a
    · simp [lexI, h1, h2]
    · simp [lexI, h1, h2]
theorem lexI_bytes : ∀ (x y : List UInt8) (r s : List Int), lexI (x.map (fun b => (b.toNat : Int)) ++ (-1 :: r)) (y.map (fun b => (b.toNat : Int)) ++ (-1 :: s)) = if x < y then -1 else if y < x then 1 else lexI r s := by
  intro x
  induction x with
  | nil =>
    intro y r s
    cases y with
    | nil => simp [lexI]
    | cons b y =>
      have h0 : (-1 : Int) < (b.toNat : Int) := by omega
      simp [lexI, h0]
  | cons a x ih =>
    intro y r s
    cases y with
    | nil =>
      have h0 : (-1 : Int) < (a.toNat : Int) := by omega
      have h1 : ¬ ((a.toNat : Int) < -1) := by omega
      simp [lexI, h0, h1]
    | cons b y =>
      have e : ∀ {p q : UInt8}, p < q ↔ p.toNat < q.toNat := fun {p q} => UInt8.lt_iff_toNat_lt
      simp only [List.map_cons, List.cons_append, lexI, List.cons_lt_cons_iff, ih y r s]
      by_cases h1 : a < b
      · have h2 : a.toNat < b.toNat := e.1 h1
        simp [h1, h2]
      · have h2 : ¬ a.toNat < b.toNat := fun h => h1 (e.2 h)
        by_cases h3 : b < a
        · have h4 : b.toNat < a.toNat := e.1 h3
          have h5 : ¬ a = b := fun h => by subst h; omega
          have h6 : ¬ (a.toNat : Int) < b.toNat := by omega
          have h7 : (b.toNat : Int) < a.toNat := by omega
          have h8 : ¬ b = a := fun h => h5 h.symm
          simp [h1, h3, h5, h8, h4, h2]
        · have h4 : ¬ b.toNat < a.toNat := fun h => h3 (e.2 h)
          have h5 : a = b := UInt8.toNat_inj.1 (by omega)
          subst h5
          simp
theorem lexI_ct (a b : ByteArray) (r s : List Int) : lexI (keyB a ++ (-1 :: r)) (keyB b ++ (-1 :: s)) = if ct a b = 0 then lexI r s else ct a b := by
  unfold keyB ct
  rw [lexI_bytes, Go.Proofs.bytesLess_eq, Go.Proofs.bytesLess_eq, Lib.toList_data, Lib.toList_data]
  by_cases h1 : a.data.toList < b.data.toList
  · simp [h1]
  · by_cases h2 : b.data.toList < a.data.toList
    · simp [h1, h2]
    · simp [h1, h2]
theorem T.cmp_flat : ∀ (a b : T) (r s : List Int), lexI (a.flatt ++ r) (b.flatt ++ s) = if T.cmp a b = 0 then lexI r s else T.cmp a b := by
  refine T.ind fun k n nm xs ih b r s => ?_
  obtain ⟨k', n', nm', ys⟩ := b
  have hL : ∀ (l : List T), (∀ a ∈ l, ∀ b r s, lexI (a.flatt ++ r) (b.flatt ++ s) = if T.cmp a b = 0 then lexI r s else T.cmp a b) → ∀ (m : List T), l.length = m.length → ∀ r s, lexI (T.flatL l ++ r) (T.flatL m ++ s) = if T.cmpL l m = 0 then lexI r s else T.cmpL l m := by
    intro l
    induction l with
    | nil =>
      intro _ m hm r s
      cases m with
      | nil => simp [T.flatL, T.cmpL]
      | cons y ys => simp at hm
    | cons x xs ihx =>
      intro h m hm r s
      cases m with
      | nil => simp at hm
      | cons y ys =>
        simp only [T.flatL, T.cmpL, List.append_assoc]
        rw [h x (by simp) y, ihx (fun a ha => h a (by simp [ha])) ys (by simpa using hm)]
        by_cases h1 : T.cmp x y = 0
        · simp [h1]
        · simp [h1]
  simp only [T.flatt, T.cmp, hdC, firstNZ, List.cons_append, List.append_assoc]
  rw [lexI_cons, lexI_cons, lexI_ct, lexI_cons]
  by_cases h1 : ci k k' = 0
  · by_cases h2 : ci n n' = 0
    · by_cases h3 : ct nm nm' = 0
      · by_cases h4 : ci (xs.length : Int) (ys.length : Int) = 0
        · have h5 : xs.length = ys.length := by
            unfold ci at h4
            split at h4
            · omega
            · split at h4 <;> omega
          rw [hL xs ih ys h5]
          simp [h1, h2, h3, h4]
        · simp [h1, h2, h3, h4]
      · simp [h1, h2, h3]
    · simp [h1, h2]
  · simp [h1]
theorem T.cmp_lex (a b : T) : T.cmp a b = lexI a.flatt b.flatt := by
  have h := T.cmp_flat a b [] []
  simp only [List.append_nil, lexI] at h
  rw [h]
  split
  · rename_i h1; exact h1
  · rfl
theorem T.cmp_anti (a b : T) : T.cmp b a = - T.cmp a b := by rw [T.cmp_lex, T.cmp_lex, lexI_anti]
theorem T.cmp_trans {a b c : T} (h1 : T.cmp a b ≤ 0) (h2 : T.cmp b c ≤ 0) : T.cmp a c ≤ 0 := by
  rw [T.cmp_lex] at h1 h2 ⊢
  exact lexI_trans _ _ _ h1 h2
theorem ct_zero {a b : ByteArray} : ct a b = 0 ↔ a = b := by
  unfold ct
  rw [Go.Proofs.bytesLess_eq, Go.Proofs.bytesLess_eq, Lib.toList_data, Lib.toList_data]
  constructor
  · intro h
    have h1 : ¬ a.data.toList < b.data.toList := fun h1 => by simp [h1] at h
    have h2 : ¬ b.data.toList < a.data.toList := fun h2 => by simp [h1, h2] at h
    have h3 : a.data.toList = b.data.toList := Std.le_antisymm (Std.not_lt.1 h2) (Std.not_lt.1 h1)
    exact ByteArray.ext (Array.ext' h3)
  · rintro rfl
    have : ¬ a.data.toList < a.data.toList := Std.lt_irrefl
    simp [this]
theorem ci_zero {a b : Int} : ci a b = 0 ↔ a = b := by
  unfold ci
  constructor
  · intro h
    split at h
    · omega
    · split at h <;> omega
  · rintro rfl; simp
theorem T.cmp_zero : ∀ (a b : T), T.cmp a b = 0 ↔ a = b := by
  refine T.ind fun k n nm xs ih b => ?_
  obtain ⟨k', n', nm', ys⟩ := b
  have hL : ∀ (l : List T), (∀ a ∈ l, ∀ b, T.cmp a b = 0 ↔ a = b) → ∀ (m : List T), l.length = m.length → (T.cmpL l m = 0 ↔ l = m) := by
    intro l
    induction l with
    | nil =>
      intro _ m hm
      cases m with
      | nil => simp [T.cmpL]
      | cons y ys => simp at hm
    | cons x xs ihx =>
      intro h m hm
      cases m with
      | nil => simp at hm
      | cons y ys =>
        simp only [T.cmpL, List.cons.injEq]
        rw [← h x (by simp) y, ← ihx (fun a ha => h a (by simp [ha])) ys (by simpa using hm)]
        by_cases h1 : T.cmp x y = 0
        · simp [h1]
        · simp [h1]
  simp only [T.cmp, hdC, firstNZ, T.mk.injEq]
  by_cases h1 : ci k k' = 0
  · by_cases h2 : ci n n' = 0
    · by_cases h3 : ct nm nm' = 0
      · by_cases h4 : ci (xs.length : Int) (ys.length : Int) = 0
        · have h5 : xs.length = ys.length := by have := ci_zero.1 h4; omega
          simp only [h1, h2, h3, h4, if_true]
          rw [hL xs ih ys h5]
          simp [ci_zero.1 h1, ci_zero.1 h2, ct_zero.1 h3]
        · have h5 : xs ≠ ys := fun e => h4 (by rw [e]; simp [ci])
          simp [h1, h2, h3, h4, h5]
      · have h5 : nm ≠ nm' := fun e => h3 (ct_zero.2 e)
        simp [h1, h2, h3, h5]
    · have h5 : n ≠ n' := fun e => h2 (ci_zero.2 e)
      simp [h1, h2, h5]
  · have h5 : k ≠ k' := fun e => h1 (ci_zero.2 e)
    simp [h1, h5]
end Go.Proofs.Ytfckojbllbdejaa.AM


/- Terms are compared: cmp.Compare, cmp.Or, impl.CompareTerms, spec.l3Ints, l3Texts, spec.CompareTerms. -/
namespace Go.Proofs.Ytfckojbllbdejaa.AM
open Go Go.Proofs
set_option linter.unusedVariables false
set_option linter.unusedSimpArgs false
set_option maxRecDepth 100000
attribute [local go_sem] List.map_cons List.map_nil List.all_cons List.all_nil Bool.and_self Option.map_some List.getElem?_toArray Option.bind_some gye_b gye_t gsk_b gsk_t gb1 gb2 gb3 gb4 bne_self_eq_false beq_self_eq_true w_guard w_nil stepV_some step_some step_some' w_move w_assign w_pick w_binOp w_unOp w_load w_fieldAddr w_indexAddr w_len w_max w_index ev_max max_int ev_index w_box w_alloc w_store w_field w_extract w_nilCheck w_convert w_buildSlice w_build ev_buildL fillL_nil fillL_cons bs0 bs1 ev_conv ev_bin ev_un ev_pick ev_load ev_fieldAddr ev_indexAddr ev_len ev_field ev_extract ev_nilCheck fr_tmp fr_int fr_bool fr_str fr_nil fr_func put_some put_none bin_lss bin_leq bin_gtr bin_geq bin_eql bin_neq bin_add bin_sub bin_mul bin_seql bin_sneq un_not pick_ ext_ loadA_p cellAt_l cellAt_h okPtr_l okPtr_h fadA_p allocA_l storeA_l cells_agg cells_int cells_str cells_sl cells_bool flat_i flat_s flat_b flat_sl flat_nil loc_agg loc_int loc_str loc_sl loc_bool loc_fn loc_ptr okv_agg okv_int okv_str okv_sl okv_bool cellsFrom splice upd_eval argEnv_zero argEnv_succ ne_eq Nat.add_one_ne_zero not_false_eq_true List.not_mem_nil and_self decide_true List.getElem?_cons_zero List.getElem?_cons_succ List.size_toArray List.length_cons List.length_nil List.take_succ_cons List.take_zero List.drop_succ_cons List.drop_zero List.cons_append List.nil_append List.drop_nil Bool.not_true Bool.not_false Bool.false_eq_true Nat.zero_add Nat.add_zero wrap_in List.toList_toArray List.mem_cons or_self or_false false_or
attribute [local go_sem] ag22 ag24 ag26 ag3 ag31 ag5 ag9 bu26 bu31 bu51 by26 by9 el22 el24 el42 el45 of26_0 of26_1 of26_2 of26_3 of31_0 of31_1 of31_2 of51_0 of51_1 of51_2 ro26_0 ro26_1 ro26_2 ro3_3 ro9_0 ro9_1 ro9_2 ro9_3 ro9_4 sz22 sz24 sz26 sz3 sz31 sz5 sz9 ze26 ze31 ze9
-- AUTO

theorem gtr_less (a b : List UInt8) : (!(Op.bytesLess a b || a == b)) = Op.bytesLess b a := by
  rw [Go.Proofs.bytesLess_eq, Go.Proofs.bytesLess_eq]
  by_cases h1 : a < b
  · have h2 : ¬ b < a := fun h => Std.lt_irrefl (Std.lt_trans h1 h)
    simp [h1, h2]
  · by_cases h2 : b < a
    · have h3 : ¬ a = b := fun e => by subst e; exact h1 h2
      simp [h1, h2, h3]
    · have h3 : a = b := Std.le_antisymm (Std.not_lt.1 h2) (Std.not_lt.1 h1)
      subst h3
      simp [h1]
theorem bin_sgtr2 {P : Program} {t : TypeId} {x y : Operand} {a b : ByteArray} : binE P .gtr t x y (.string a) (.string b) = some (.bool (Op.bytesLess b.toList a.toList)) := by rw [bin_sgtr, gtr_less]
theorem rowOk_ints {st : St} {i c : Nat} {ns : List Int} {e : TypeId} (h : st[i]? = some ⟨ns.map (Value.int .i64), e, 0⟩) (j : Nat) (hj : j < ns.length) : cell st i (j * 1) = some (.int .i64 ns[j]) := by
  rw [cell_of h, Nat.mul_one, List.getElem?_map, List.getElem?_eq_getElem hj]; rfl
theorem wt_arg {k n : Int} {nm : ByteArray} {args : List T} : args.length ≤ (T.mk k n nm args).wt := by simp only [T.wt]; omega
theorem cmpL_snoc : ∀ (xs ys : List T) (x y : T), xs.length = ys.length → T.cmpL (xs ++ [x]) (ys ++ [y]) = if T.cmpL xs ys = 0 then T.cmp x y else T.cmpL xs ys := by
  intro xs
  induction xs with
  | nil =>
    intro ys x y h
    cases ys with
    | nil => simp only [List.nil_append, T.cmpL, if_true]; split <;> simp_all
    | cons _ _ => simp at h
  | cons a xs ih =>
    intro ys x y h
    cases ys with
    | nil => simp at h
    | cons b ys =>
      simp only [List.cons_append, T.cmpL]
      rw [ih ys x y (by simpa using h)]
      by_cases h1 : T.cmp a b = 0
      · simp [h1]
      · simp [h1]
theorem cmpL_take : ∀ (xs ys : List T) (j : Nat), T.cmpL (xs.take j) (ys.take j) ≠ 0 → T.cmpL xs ys = T.cmpL (xs.take j) (ys.take j) := by
  intro xs
  induction xs with
  | nil => intro ys j h; simp [T.cmpL] at h
  | cons a xs ih =>
    intro ys j h
    cases ys with
    | nil => simp at h; cases j <;> simp [T.cmpL] at h
    | cons b ys =>
      cases j with
      | zero => simp [T.cmpL] at h
      | succ j =>
        simp only [List.take_succ_cons, T.cmpL] at h ⊢
        by_cases h1 : T.cmp a b = 0
        · simp only [h1, if_true] at h ⊢
          exact ih ys j h
        · simp only [if_neg h1]
theorem hd_len {a b c d : Int} {m p : Nat} (h : (if a = 0 then (if b = 0 then (if c = 0 then (if ci (m : Int) (p : Int) = 0 then d else ci m p) else c) else b) else a) = 0) : m = p := by
  by_cases h1 : a = 0
  · by_cases h2 : b = 0
    · by_cases h3 : c = 0
      · by_cases h4 : ci (m : Int) (p : Int) = 0
        · have := ci_zero.1 h4; omega
        · simp [h1, h2, h3, h4] at h
      · simp [h1, h2, h3] at h
    · simp [h1, h2] at h
  · simp [h1] at h
end Go.Proofs.Ytfckojbllbdejaa.AM


/- Two terms drawn: spec.l3Two, DrawCompareTerms, DrawIsGround; the law FnOrder. -/
namespace Go.Proofs.Ytfckojbllbdejaa.AM
open Go Go.Proofs
set_option linter.unusedVariables false
set_option linter.unusedSimpArgs false
set_option maxRecDepth 100000
attribute [local go_sem] List.map_cons List.map_nil List.all_cons List.all_nil Bool.and_self Option.map_some List.getElem?_toArray Option.bind_some gye_b gye_t gsk_b gsk_t gb1 gb2 gb3 gb4 bne_self_eq_false beq_self_eq_true w_guard w_nil stepV_some step_some step_some' w_move w_assign w_pick w_binOp w_unOp w_load w_fieldAddr w_indexAddr w_len w_max w_index ev_max max_int ev_index w_box w_alloc w_store w_field w_extract w_nilCheck w_convert w_buildSlice w_build ev_buildL fillL_nil fillL_cons bs0 bs1 ev_conv ev_bin ev_un ev_pick ev_load ev_fieldAddr ev_indexAddr ev_len ev_field ev_extract ev_nilCheck fr_tmp fr_int fr_bool fr_str fr_nil fr_func put_some put_none bin_lss bin_leq bin_gtr bin_geq bin_eql bin_neq bin_add bin_sub bin_mul bin_seql bin_sneq un_not pick_ ext_ loadA_p cellAt_l cellAt_h okPtr_l okPtr_h fadA_p allocA_l storeA_l cells_agg cells_int cells_str cells_sl cells_bool flat_i flat_s flat_b flat_sl flat_nil loc_agg loc_int loc_str loc_sl loc_bool loc_fn loc_ptr okv_agg okv_int okv_str okv_sl okv_bool cellsFrom splice upd_eval argEnv_zero argEnv_succ ne_eq Nat.add_one_ne_zero not_false_eq_true List.not_mem_nil and_self decide_true List.getElem?_cons_zero List.getElem?_cons_succ List.size_toArray List.length_cons List.length_nil List.take_succ_cons List.take_zero List.drop_succ_cons List.drop_zero List.cons_append List.nil_append List.drop_nil Bool.not_true Bool.not_false Bool.false_eq_true Nat.zero_add Nat.add_zero wrap_in List.toList_toArray List.mem_cons or_self or_false false_or
attribute [local go_sem] ag22 ag24 ag26 ag3 ag31 ag5 ag9 bu26 bu31 bu51 by26 by9 el22 el24 el42 el45 of26_0 of26_1 of26_2 of26_3 of31_0 of31_1 of31_2 of51_0 of51_1 of51_2 ro26_0 ro26_1 ro26_2 ro3_3 ro9_0 ro9_1 ro9_2 ro9_3 ro9_4 sz22 sz24 sz26 sz3 sz31 sz5 sz9 ze26 ze31 ze9
-- AUTO

theorem finCC {P : Program} {st : St} {F : Value → St → Prop} {env : Nat → Value} {loc : Nat → Nat × List Value} {a b : Tmp} {t u : TypeId} {x : Ex} (hx : x = .ret ∨ x = .normal) {v v' : Value} (hv : loadA P [] t (env a) loc st = some v) (hv' : loadA P [] u (env b) loc st = some v') (hq : F (.tuple #[v, v']) st) : Fin P [.cell a t, .cell b u] F x ⟨env, loc⟩ st := by
  have h : ∃ r, resA P [.cell a t, .cell b u] ⟨env, loc⟩ st = some r ∧ F r st := ⟨.tuple #[v, v'], by simp [resA, resL, resV, hv, hv'], hq⟩
  rcases hx with rfl | rfl <;> exact h
def DrawE (st : St) (R : T → Prop) (r : Value) (st2 : St) : Prop := Ext st st2 ∧ ∃ t ds, r = .agg ds.toArray ∧ Enc st2 t ds ∧ R t
theorem bent_lim {t : T} (h : BentP t) : Lim 1073741824 t := Lim.of_wt _ (by have := h.2; omega)
theorem Enc.args_cells {st : St} {t : T} {cs : List Value} (h : Enc st t cs) : ∃ k n nm s, cs = [.int .i64 k, .int .i64 n, .string nm, s] ∧ isLoc s = false ∧ okv s = true ∧ vc s = #[s] := by
  obtain ⟨k, n, nm, args⟩ := t
  obtain ⟨s, rfl, hr⟩ := h.open
  exact ⟨k, n, nm, s, rfl, hr.notLoc.1, hr.notLoc.2, Row.cells1 hr⟩
theorem lexI_bnd : ∀ x y, -1 ≤ lexI x y ∧ lexI x y ≤ 1 := by
  intro x
  induction x with
  | nil => intro y; cases y <;> simp [lexI]
  | cons a x ih =>
    intro y
    cases y with
    | nil => simp [lexI]
    | cons b y =>
      simp only [lexI]
      have := ih y
      split
      · omega
      · split <;> omega
theorem RowY.of_ext {st st' : St} {xs : List Byt} {s : Value} (h : RowY st xs s) (hx : Ext st st') : RowY st' xs s := h.ext hx
end Go.Proofs.Ytfckojbllbdejaa.AM


/- Guards: laws.szGuard, toGuard, eqGuard, markGuard, heldGuard. -/
namespace Go.Proofs.Ytfckojbllbdejaa.AM
open Go Go.Proofs
set_option linter.unusedVariables false
set_option linter.unusedSimpArgs false
set_option maxRecDepth 100000
attribute [local go_sem] List.map_cons List.map_nil List.all_cons List.all_nil Bool.and_self Option.map_some List.getElem?_toArray Option.bind_some gye_b gye_t gsk_b gsk_t gb1 gb2 gb3 gb4 bne_self_eq_false beq_self_eq_true w_guard w_nil stepV_some step_some step_some' w_move w_assign w_pick w_binOp w_unOp w_load w_fieldAddr w_indexAddr w_len w_max w_index ev_max max_int ev_index w_box w_alloc w_store w_field w_extract w_nilCheck w_convert w_buildSlice w_build ev_buildL fillL_nil fillL_cons bs0 bs1 ev_conv ev_bin ev_un ev_pick ev_load ev_fieldAddr ev_indexAddr ev_len ev_field ev_extract ev_nilCheck fr_tmp fr_int fr_bool fr_str fr_nil fr_func put_some put_none bin_lss bin_leq bin_gtr bin_geq bin_eql bin_neq bin_add bin_sub bin_mul bin_seql bin_sneq un_not pick_ ext_ loadA_p cellAt_l cellAt_h okPtr_l okPtr_h fadA_p allocA_l storeA_l cells_agg cells_int cells_str cells_sl cells_bool flat_i flat_s flat_b flat_sl flat_nil loc_agg loc_int loc_str loc_sl loc_bool loc_fn loc_ptr okv_agg okv_int okv_str okv_sl okv_bool cellsFrom splice upd_eval argEnv_zero argEnv_succ ne_eq Nat.add_one_ne_zero not_false_eq_true List.not_mem_nil and_self decide_true List.getElem?_cons_zero List.getElem?_cons_succ List.size_toArray List.length_cons List.length_nil List.take_succ_cons List.take_zero List.drop_succ_cons List.drop_zero List.cons_append List.nil_append List.drop_nil Bool.not_true Bool.not_false Bool.false_eq_true Nat.zero_add Nat.add_zero wrap_in List.toList_toArray List.mem_cons or_self or_false false_or
attribute [local go_sem] ag22 ag24 ag26 ag3 ag31 ag5 ag9 bu26 bu31 bu51 by26 by9 el22 el24 el42 el45 of26_0 of26_1 of26_2 of26_3 of31_0 of31_1 of31_2 of51_0 of51_1 of51_2 ro26_0 ro26_1 ro26_2 ro3_3 ro9_0 ro9_1 ro9_2 ro9_3 ro9_4 sz22 sz24 sz26 sz3 sz31 sz5 sz9 ze26 ze31 ze9
-- AUTO

/-- A guard. -/
structure Grd where
  k : Int
  l : T
  r : T
def EncG (st : St) (g : Grd) (cs : List Value) : Prop := ∃ c1 c2, cs = .int .i64 g.k :: (c1 ++ c2) ∧ Enc st g.l c1 ∧ Enc st g.r c2
def OwnG (st : St) (g : Grd) (cs : List Value) (L : List Nat) : Prop := ∃ c1 c2 L1 L2, cs = .int .i64 g.k :: (c1 ++ c2) ∧ OwnT st g.l c1 L1 ∧ OwnT st g.r c2 L2 ∧ L = L1 ++ L2
def LensG (g : Grd) : Prop := Lens g.l ∧ Lens g.r
def LimG (B : Nat) (g : Grd) : Prop := Lim B g.l ∧ Lim B g.r
instance : Wt Grd := ⟨fun g => g.l.wt + g.r.wt⟩
def Grd.mk0 (g : Grd) (k : Nat) : Grd × Nat := (⟨g.k, (g.l.mk0 k).1, (g.r.mk0 (g.l.mk0 k).2).1⟩, (g.r.mk0 (g.l.mk0 k).2).2)
theorem Grd.lim_of {g : Grd} (h : Wt.wt g ≤ 1048576) : LimG 1073741824 g := by
  have : Wt.wt g = g.l.wt + g.r.wt := rfl
  exact ⟨Lim.of_wt _ (by omega), Lim.of_wt _ (by omega)⟩
theorem Grd.limN_of {g : Grd} (h : Wt.wt g ≤ 1048576) : LimN 1073741824 g.l ∧ LimN 1073741824 g.r := by
  have : Wt.wt g = g.l.wt + g.r.wt := rfl
  exact ⟨LimN.of_wt _ (by omega), LimN.of_wt _ (by omega)⟩
theorem Grd.lim_le {g : Grd} (h : LimG 1073741824 g) : LimG 4611686018427387904 g := ⟨Lim.le (by omega) _ h.1, Lim.le (by omega) _ h.2⟩
theorem Grd.mk0_wt (g : Grd) (k : Nat) : (g.mk0 k).2 ≤ k + 3 * Wt.wt g := by
  have h1 := T.mk0_wt g.l k
  have h2 := T.mk0_wt g.r (g.l.mk0 k).2
  have : Wt.wt g = g.l.wt + g.r.wt := rfl
  simp only [Grd.mk0]
  omega
theorem EncG.ext {st st' : St} {g : Grd} {cs : List Value} (h : EncG st g cs) (hx : Ext st st') : EncG st' g cs := by
  obtain ⟨c1, c2, rfl, h1, h2⟩ := h
  exact ⟨c1, c2, rfl, Enc.ext hx _ _ h1, Enc.ext hx _ _ h2⟩
theorem OwnG.enc {st : St} {g : Grd} {cs : List Value} {L : List Nat} (h : OwnG st g cs L) : EncG st g cs := by
  obtain ⟨c1, c2, L1, L2, rfl, h1, h2, rfl⟩ := h
  exact ⟨c1, c2, rfl, h1.enc, h2.enc⟩
theorem OwnG.ext {st st' : St} {g : Grd} {cs : List Value} {L : List Nat} (h : OwnG st g cs L) (hx : Ext st st') : OwnG st' g cs L := by
  obtain ⟨c1, c2, L1, L2, rfl, h1, h2, rfl⟩ := h
  exact ⟨c1, c2, L1, L2, rfl, h1.ext hx, h2.ext hx, rfl⟩
theorem OwnG.lt {st : St} {g : Grd} {cs : List Value} {L : List Nat} (h : OwnG st g cs L) : ∀ i ∈ L, i < st.length := by
  obtain ⟨c1, c2, L1, L2, rfl, h1, h2, rfl⟩ := h
  intro i hi
  rcases List.mem_append.1 hi with hi | hi
  · exact Own.lt _ _ _ h1 i hi
  · exact Own.lt _ _ _ h2 i hi
theorem OwnG.other {st st' : St} {g : Grd} {cs : List Value} {L K : List Nat} (h : OwnG st g cs L) (hot : ∀ i, i < st.length → i ∉ K → st'[i]? = st[i]?) (hd : ∀ i ∈ L, i ∉ K) : OwnG st' g cs L := by
  obtain ⟨c1, c2, L1, L2, rfl, h1, h2, rfl⟩ := h
  exact ⟨c1, c2, L1, L2, rfl, h1.other hot fun i hi => hd i (by simp [hi]), h2.other hot fun i hi => hd i (by simp [hi]), rfl⟩
theorem OwnG.apart {st : St} {g : Grd} {cs : List Value} {L K : List Nat} (h : OwnG st g cs L) (hf : Fresh st.length K) : ∀ i ∈ L, i ∉ K := fun i hi hk => by
  have h1 := h.lt i hi
  have h2 := hf.2 i hk
  omega
theorem EncG.arg_cells {st : St} {g : Grd} {cs : List Value} (h : EncG st g cs) : ∃ kl nl ml sl kr nr mr sr, cs = [.int .i64 g.k, .int .i64 kl, .int .i64 nl, .string ml, sl, .int .i64 kr, .int .i64 nr, .string mr, sr] ∧ isLoc sl = false ∧ okv sl = true ∧ isLoc sr = false ∧ okv sr = true := by
  obtain ⟨c1, c2, rfl, h1, h2⟩ := h
  obtain ⟨gk, ⟨kl, nl, ml, al⟩, ⟨kr, nr, mr, ar⟩⟩ := g
  obtain ⟨sl, rfl, hl⟩ := h1.open
  obtain ⟨sr, rfl, hr⟩ := h2.open
  exact ⟨kl, nl, ml, sl, kr, nr, mr, sr, rfl, hl.notLoc.1, hl.notLoc.2, hr.notLoc.1, hr.notLoc.2⟩
theorem OwnG.args_cells {st : St} {g : Grd} {cs : List Value} {L : List Nat} (h : OwnG st g cs L) : ∃ k kl nl ml sl kr nr mr sr, cs = [.int .i64 k, .int .i64 kl, .int .i64 nl, .string ml, sl, .int .i64 kr, .int .i64 nr, .string mr, sr] ∧ okv sl = true ∧ isLoc sl = false ∧ vc sl = #[sl] ∧ okv sr = true ∧ isLoc sr = false ∧ vc sr = #[sr] := by
  obtain ⟨c1, c2, L1, L2, rfl, h1, h2, rfl⟩ := h
  obtain ⟨kl, nl, ml, sl, rfl, a1, a2, a3⟩ := h1.args_cells
  obtain ⟨kr, nr, mr, sr, rfl, b1, b2, b3⟩ := h2.args_cells
  exact ⟨_, kl, nl, ml, sl, kr, nr, mr, sr, rfl, a1, a2, a3, b1, b2, b3⟩
/-- A guard's cells, and what of it they are. -/
theorem EncG.cells {st : St} {g : Grd} {cs : List Value} (h : EncG st g cs) : ∃ kl nl ml sl kr nr mr sr, cs = [.int .i64 g.k, .int .i64 kl, .int .i64 nl, .string ml, sl, .int .i64 kr, .int .i64 nr, .string mr, sr] ∧ Enc st g.l [.int .i64 kl, .int .i64 nl, .string ml, sl] ∧ Enc st g.r [.int .i64 kr, .int .i64 nr, .string mr, sr] ∧ isLoc sl = false ∧ okv sl = true ∧ isLoc sr = false ∧ okv sr = true := by
  obtain ⟨c1, c2, rfl, h1, h2⟩ := h
  obtain ⟨gk, ⟨kl, nl, ml, al⟩, ⟨kr, nr, mr, ar⟩⟩ := g
  obtain ⟨sl, rfl, hl⟩ := h1.open
  obtain ⟨sr, rfl, hr⟩ := h2.open
  exact ⟨kl, nl, ml, sl, kr, nr, mr, sr, rfl, h1, h2, hl.notLoc.1, hl.notLoc.2, hr.notLoc.1, hr.notLoc.2⟩

end Go.Proofs.Ytfckojbllbdejaa.AM


/- Terms of a sort drawn: l6Term; guards drawn: l9Draw, l9Bent; DrawReduceWords, DrawHoldsGuard. -/
namespace Go.Proofs.Ytfckojbllbdejaa.AM
open Go Go.Proofs
set_option linter.unusedVariables false
set_option linter.unusedSimpArgs false
set_option maxRecDepth 100000
attribute [local go_sem] List.map_cons List.map_nil List.all_cons List.all_nil Bool.and_self Option.map_some List.getElem?_toArray Option.bind_some gye_b gye_t gsk_b gsk_t gb1 gb2 gb3 gb4 bne_self_eq_false beq_self_eq_true w_guard w_nil stepV_some step_some step_some' w_move w_assign w_pick w_binOp w_unOp w_load w_fieldAddr w_indexAddr w_len w_max w_index ev_max max_int ev_index w_box w_alloc w_store w_field w_extract w_nilCheck w_convert w_buildSlice w_build ev_buildL fillL_nil fillL_cons bs0 bs1 ev_conv ev_bin ev_un ev_pick ev_load ev_fieldAddr ev_indexAddr ev_len ev_field ev_extract ev_nilCheck fr_tmp fr_int fr_bool fr_str fr_nil fr_func put_some put_none bin_lss bin_leq bin_gtr bin_geq bin_eql bin_neq bin_add bin_sub bin_mul bin_seql bin_sneq un_not pick_ ext_ loadA_p cellAt_l cellAt_h okPtr_l okPtr_h fadA_p allocA_l storeA_l cells_agg cells_int cells_str cells_sl cells_bool flat_i flat_s flat_b flat_sl flat_nil loc_agg loc_int loc_str loc_sl loc_bool loc_fn loc_ptr okv_agg okv_int okv_str okv_sl okv_bool cellsFrom splice upd_eval argEnv_zero argEnv_succ ne_eq Nat.add_one_ne_zero not_false_eq_true List.not_mem_nil and_self decide_true List.getElem?_cons_zero List.getElem?_cons_succ List.size_toArray List.length_cons List.length_nil List.take_succ_cons List.take_zero List.drop_succ_cons List.drop_zero List.cons_append List.nil_append List.drop_nil Bool.not_true Bool.not_false Bool.false_eq_true Nat.zero_add Nat.add_zero wrap_in List.toList_toArray List.mem_cons or_self or_false false_or
attribute [local go_sem] ag22 ag24 ag26 ag3 ag31 ag5 ag9 bu26 bu31 bu51 by26 by9 el22 el24 el42 el45 of26_0 of26_1 of26_2 of26_3 of31_0 of31_1 of31_2 of51_0 of51_1 of51_2 ro26_0 ro26_1 ro26_2 ro3_3 ro9_0 ro9_1 ro9_2 ro9_3 ro9_4 sz22 sz24 sz26 sz3 sz31 sz5 sz9 ze26 ze31 ze9
-- AUTO

def WordP (d : Nat) (t : T) : Prop := Plain t ∧ t.wt + 7 ≤ 4 * 2 ^ d
def EP (d : Nat) (t : T) : Prop := Plain t ∧ t.wt + 7 ≤ 8 * 2 ^ d
theorem two_le {d : Nat} (h : 1 ≤ d) : 2 ≤ 2 ^ d := by
  obtain ⟨e, rfl⟩ : ∃ e, d = e + 1 := ⟨d - 1, by omega⟩
  have : 1 ≤ 2 ^ e := Nat.one_le_two_pow
  rw [Nat.pow_succ]; omega
theorem word_leaf {d : Nat} {k n : Int} {nm : ByteArray} (hd : 1 ≤ d) (hn : nm.size ≤ 1) (h : Plain (.mk k n nm [])) : WordP d (.mk k n nm []) := ⟨h, by
  have := two_le hd
  simp only [T.wt, T.wtL, List.length_nil]; omega⟩
theorem e_leaf {d : Nat} {k n : Int} {nm : ByteArray} (hd : 1 ≤ d) (hn : nm.size ≤ 1) (h : Plain (.mk k n nm [])) : EP d (.mk k n nm []) := ⟨h, by
  have := two_le hd
  simp only [T.wt, T.wtL, List.length_nil]; omega⟩
theorem l6Word_of (q : Nat) (xs : List Byt) (g : Bool) (d : Nat) (hd1 : 1 ≤ d) (hd10 : d ≤ 10) (st : St) (hq : Cur st q xs)
    (ih : ∀ e, d = e + 1 → 1 ≤ e → ∀ st, Cur st q xs → CallS Try.prog 19 [.pointer (some ⟨q, 0, none⟩), .string ⟨#[119, 111, 114, 100]⟩, .int .i64 (e : Nat), .bool g] st (DrawT q xs st (WordP e))) :
    CallS Try.prog 19 [.pointer (some ⟨q, 0, none⟩), .string ⟨#[119, 111, 114, 100]⟩, .int .i64 (d : Nat), .bool g] st (DrawT q xs st (WordP d)) := by
  refine CallS_of_W [] 101 Try.func19 rfl rfl rfl rfl (by simp) ?_
  repeat (first | (refine W_reg rfl fun G K hG hK => ?_; simp (disch := omega) only [go_sem, ↓reduceIte, Nat.reduceEqDiff, Nat.reduceAdd, Nat.reduceLeDiff, hG]; refine hK _ _ ?_; clear hK K hG G) | (refine W_end rfl fun G K hG hK => ?_; simp (disch := omega) only [go_sem, ↓reduceIte, Nat.reduceEqDiff, Nat.reduceAdd, Nat.reduceLeDiff, hG]; refine hK _ _ ?_; clear hK K hG G; repeat (first | refine thenI ?_ | refine thenE ?_ | refine thenR ?_ | refine inBI ?_ | refine inBR ?_ | refine inBS ?_ | refine inBN (by decide) ?_)) | refine W_seqS ?_ | refine W_seqC ?_ | refine W_seqB ?_ | refine W_block ?_ | (refine W_skip ?_; repeat (first | refine thenI ?_ | refine thenE ?_ | refine thenR ?_ | refine inBI ?_ | refine inBR ?_ | refine inBS ?_ | refine inBN (by decide) ?_)) | (refine W_condT ?hc ?_; (case hc => (simp (disch := omega) only [go_sem, ↓reduceIte, Nat.reduceEqDiff, Nat.reduceAdd, Nat.reduceLeDiff]; done))) | (refine W_condF ?hc ?_; (case hc => (simp (disch := omega) only [go_sem, ↓reduceIte, Nat.reduceEqDiff, Nat.reduceAdd, Nat.reduceLeDiff]; done))))
  refine W_seq ?_
  refine W_to (fun fr st' => ∃ (b : Bool), (Drawn q xs st st') ∧ (fr.env 0 = .pointer (some ⟨q, 0, none⟩)) ∧ (fr.env 2 = .int .i64 (d : Nat)) ∧ (fr.env 3 = .bool g) ∧ (fr.env 8 = .pointer (some ⟨8, 0, some 1⟩)) ∧ (fr.env 18 = .bool b) ∧ ((fr.loc 8).1 = 1 ∧ (fr.loc 8).2.length = 4) ∧ ((fr.loc 9).1 = 0)) ?_ ?_
  · cases g with
    | true =>
      repeat (first | (refine W_reg rfl fun G K hG hK => ?_; simp (disch := omega) only [go_sem, ↓reduceIte, Nat.reduceEqDiff, Nat.reduceAdd, Nat.reduceLeDiff, hG]; refine hK _ _ ?_; clear hK K hG G) | (refine W_end rfl fun G K hG hK => ?_; simp (disch := omega) only [go_sem, ↓reduceIte, Nat.reduceEqDiff, Nat.reduceAdd, Nat.reduceLeDiff, hG]; refine hK _ _ ?_; clear hK K hG G; repeat (first | refine thenI ?_ | refine thenE ?_ | refine thenR ?_ | refine inBI ?_ | refine inBR ?_ | refine inBS ?_ | refine inBN (by decide) ?_)) | refine W_seqS ?_ | refine W_seqC ?_ | refine W_seqB ?_ | refine W_block ?_ | (refine W_skip ?_; repeat (first | refine thenI ?_ | refine thenE ?_ | refine thenR ?_ | refine inBI ?_ | refine inBR ?_ | refine inBS ?_ | refine inBN (by decide) ?_)) | (refine W_condT ?hc ?_; (case hc => (simp (disch := omega) only [go_sem, ↓reduceIte, Nat.reduceEqDiff, Nat.reduceAdd, Nat.reduceLeDiff]; done))) | (refine W_condF ?hc ?_; (case hc => (simp (disch := omega) only [go_sem, ↓reduceIte, Nat.reduceEqDiff, Nat.reduceAdd, Nat.reduceLeDiff]; done))))
      exact ⟨false, .refl hq, (by (simp (disch := omega) only [go_sem, ↓reduceIte, Nat.reduceEqDiff, Nat.reduceAdd, Nat.reduceLeDiff]); try rfl), (by (simp (disch := omega) only [go_sem, ↓reduceIte, Nat.reduceEqDiff, Nat.reduceAdd, Nat.reduceLeDiff]); try rfl), (by (simp (disch := omega) only [go_sem, ↓reduceIte, Nat.reduceEqDiff, Nat.reduceAdd, Nat.reduceLeDiff]); try rfl), (by (simp (disch := omega) only [go_sem, ↓reduceIte, Nat.reduceEqDiff, Nat.reduceAdd, Nat.reduceLeDiff]); try rfl), (by (simp (disch := omega) only [go_sem, ↓reduceIte, Nat.reduceEqDiff, Nat.reduceAdd, Nat.reduceLeDiff]); try rfl), ⟨(by (simp (disch := omega) only [go_sem, ↓reduceIte, Nat.reduceEqDiff, Nat.reduceAdd, Nat.reduceLeDiff]); try rfl), (by (simp (disch := omega) only [go_sem, ↓reduceIte, Nat.reduceEqDiff, Nat.reduceAdd, Nat.reduceLeDiff]); try rfl)⟩, (by (simp (disch := omega) only [go_sem, ↓reduceIte, Nat.reduceEqDiff, Nat.reduceAdd, Nat.reduceLeDiff]); try rfl)⟩
    | false =>
      refine W_end rfl fun G K hG hK => ?_; simp (disch := omega) only [go_sem, ↓reduceIte, Nat.reduceEqDiff, Nat.reduceAdd, Nat.reduceLeDiff, hG]
      refine w_call (l1Once_ok q xs st 2 (by omega) (by omega) hq) (by simp (disch := omega) only [go_sem, ↓reduceIte, Nat.reduceEqDiff]) ?hl ?_
      case hl => first | rfl | (simp only [go_sem, List.all_cons, List.all_nil, Bool.not_false, Bool.and_self]; done)
      rintro r_ sa ⟨⟨b, rfl⟩, hd, hl⟩; refine ⟨fun e => (by cases e), ?_⟩
      simp (disch := omega) only [go_sem, ↓reduceIte, Nat.reduceEqDiff, Nat.reduceAdd, Nat.reduceLeDiff, hG]; refine hK _ _ ?_; clear hK K hG G; repeat (first | refine thenI ?_ | refine thenE ?_ | refine thenR ?_ | refine inBI ?_ | refine inBR ?_ | refine inBS ?_ | refine inBN (by decide) ?_)
      exact ⟨b, hd, (by (simp (disch := omega) only [go_sem, ↓reduceIte, Nat.reduceEqDiff, Nat.reduceAdd, Nat.reduceLeDiff]); try rfl), (by (simp (disch := omega) only [go_sem, ↓reduceIte, Nat.reduceEqDiff, Nat.reduceAdd, Nat.reduceLeDiff]); try rfl), (by (simp (disch := omega) only [go_sem, ↓reduceIte, Nat.reduceEqDiff, Nat.reduceAdd, Nat.reduceLeDiff]); try rfl), (by (simp (disch := omega) only [go_sem, ↓reduceIte, Nat.reduceEqDiff, Nat.reduceAdd, Nat.reduceLeDiff]); try rfl), (by (simp (disch := omega) only [go_sem, ↓reduceIte, Nat.reduceEqDiff, Nat.reduceAdd, Nat.reduceLeDiff]); try rfl), ⟨(by (simp (disch := omega) only [go_sem, ↓reduceIte, Nat.reduceEqDiff, Nat.reduceAdd, Nat.reduceLeDiff]); try rfl), (by (simp (disch := omega) only [go_sem, ↓reduceIte, Nat.reduceEqDiff, Nat.reduceAdd, Nat.reduceLeDiff]); try rfl)⟩, (by (simp (disch := omega) only [go_sem, ↓reduceIte, Nat.reduceEqDiff, Nat.reduceAdd, Nat.reduceLeDiff]); try rfl)⟩
  rintro ⟨env, loc⟩ st' ⟨b, hdr, e0, e2, e3, e8, e18, ⟨l8, l8'⟩, l9⟩
  simp only at e0 e2 e3 e8 e18 l8 l8' l9
  cases b with
  | true =>
    repeat (first | (refine W_reg rfl fun G K hG hK => ?_; simp (disch := omega) only [go_sem, ↓reduceIte, Nat.reduceEqDiff, Nat.reduceAdd, Nat.reduceLeDiff, hG, e0, e2, e3, e8, e18, l8, l8', l9]; refine hK _ _ ?_; clear hK K hG G) | (refine W_end rfl fun G K hG hK => ?_; simp (disch := omega) only [go_sem, ↓reduceIte, Nat.reduceEqDiff, Nat.reduceAdd, Nat.reduceLeDiff, hG, e0, e2, e3, e8, e18, l8, l8', l9]; refine hK _ _ ?_; clear hK K hG G; repeat (first | refine thenI ?_ | refine thenE ?_ | refine thenR ?_ | refine inBI ?_ | refine inBR ?_ | refine inBS ?_ | refine inBN (by decide) ?_)) | refine W_seqS ?_ | refine W_seqC ?_ | refine W_seqB ?_ | refine W_block ?_ | (refine W_skip ?_; repeat (first | refine thenI ?_ | refine thenE ?_ | refine thenR ?_ | refine inBI ?_ | refine inBR ?_ | refine inBS ?_ | refine inBN (by decide) ?_)) | (refine W_condT ?hc ?_; (case hc => (simp (disch := omega) only [go_sem, ↓reduceIte, Nat.reduceEqDiff, Nat.reduceAdd, Nat.reduceLeDiff, e0, e2, e3, e8, e18, l8, l8', l9]; done))) | (refine W_condF ?hc ?_; (case hc => (simp (disch := omega) only [go_sem, ↓reduceIte, Nat.reduceEqDiff, Nat.reduceAdd, Nat.reduceLeDiff, e0, e2, e3, e8, e18, l8, l8', l9]; done))))
    (repeat (first | refine W_seqS ?_ | refine W_seqC ?_ | refine W_seqB ?_ | refine W_block ?_)); refine W_reg rfl fun G K hG hK => ?_; simp (disch := omega) only [go_sem, ↓reduceIte, Nat.reduceEqDiff, Nat.reduceAdd, Nat.reduceLeDiff, hG, e0, e2, e3, e8, e18, l8, l8', l9, bsL, fillK_cons, fillK_nil, Nat.reduceMul]
    refine w_call (l1Pick_lit q xs st' _ _ 2 hdr.cur rfl (by simp) (by simp)) (by simp (disch := omega) only [go_sem, ↓reduceIte, Nat.reduceEqDiff, e0, e2, e3, e8, e18, l8, l8', l9]) ?hl ?_
    case hl => first | rfl | (simp only [go_sem, List.all_cons, List.all_nil, Bool.not_false, Bool.and_self, e0, e2, e3, e8, e18, l8, l8', l9]; done)
    rintro r_ sa ⟨⟨w, rfl, hw⟩, hd, hl⟩; refine ⟨fun e => (by cases e), ?_⟩
    simp (disch := omega) only [go_sem, ↓reduceIte, Nat.reduceEqDiff, Nat.reduceAdd, Nat.reduceLeDiff, e0, e2, e3, e8, e18, l8, l8', l9]
    refine w_call (l3Var_ok w sa) (by simp (disch := omega) only [go_sem, ↓reduceIte, Nat.reduceEqDiff, e0, e2, e3, e8, e18, l8, l8', l9]) ?hl ?_
    case hl => first | rfl | (simp only [go_sem, List.all_cons, List.all_nil, Bool.not_false, Bool.and_self, e0, e2, e3, e8, e18, l8, l8', l9]; done)
    rintro r_ sb ⟨rfl, rfl⟩; refine ⟨fun e => (by cases e), ?_⟩
    simp (disch := omega) only [go_sem, ↓reduceIte, Nat.reduceEqDiff, Nat.reduceAdd, Nat.reduceLeDiff, hG, e0, e2, e3, e8, e18, l8, l8', l9]; refine hK _ _ ?_; clear hK K hG G; repeat (first | refine thenI ?_ | refine thenE ?_ | refine thenR ?_ | refine inBI ?_ | refine inBR ?_ | refine inBS ?_ | refine inBN (by decide) ?_)
    refine W_ret ?_; try (repeat (first | refine thenI ?_ | refine thenE ?_ | refine thenR ?_ | refine inBI ?_ | refine inBR ?_ | refine inBS ?_ | refine inBN (by decide) ?_))
    refine finC (.inl rfl) (by (simp (disch := omega) only [go_sem, ↓reduceIte, Nat.reduceEqDiff, Nat.reduceAdd, Nat.reduceLeDiff, e0, e2, e3, e8, e18, l8, l8', l9]); try rfl) ⟨hdr.trans (.pre (Ext.app _ _) hd), .mk 1 0 w [], [_, _, _, _], [], rfl, .nil _ _ _, .nil _, word_leaf hd1 (size_of_mem hw rfl) (plain_var w)⟩
  | false =>
    repeat (first | (refine W_reg rfl fun G K hG hK => ?_; simp (disch := omega) only [go_sem, ↓reduceIte, Nat.reduceEqDiff, Nat.reduceAdd, Nat.reduceLeDiff, hG, e0, e2, e3, e8, e18, l8, l8', l9]; refine hK _ _ ?_; clear hK K hG G) | (refine W_end rfl fun G K hG hK => ?_; simp (disch := omega) only [go_sem, ↓reduceIte, Nat.reduceEqDiff, Nat.reduceAdd, Nat.reduceLeDiff, hG, e0, e2, e3, e8, e18, l8, l8', l9]; refine hK _ _ ?_; clear hK K hG G; repeat (first | refine thenI ?_ | refine thenE ?_ | refine thenR ?_ | refine inBI ?_ | refine inBR ?_ | refine inBS ?_ | refine inBN (by decide) ?_)) | refine W_seqS ?_ | refine W_seqC ?_ | refine W_seqB ?_ | refine W_block ?_ | (refine W_skip ?_; repeat (first | refine thenI ?_ | refine thenE ?_ | refine thenR ?_ | refine inBI ?_ | refine inBR ?_ | refine inBS ?_ | refine inBN (by decide) ?_)) | (refine W_condT ?hc ?_; (case hc => (simp (disch := omega) only [go_sem, ↓reduceIte, Nat.reduceEqDiff, Nat.reduceAdd, Nat.reduceLeDiff, e0, e2, e3, e8, e18, l8, l8', l9]; done))) | (refine W_condF ?hc ?_; (case hc => (simp (disch := omega) only [go_sem, ↓reduceIte, Nat.reduceEqDiff, Nat.reduceAdd, Nat.reduceLeDiff, e0, e2, e3, e8, e18, l8, l8', l9]; done))))
    refine W_seq ?_
    refine W_to (fun fr st' => ∃ (b : Bool), (Drawn q xs st st') ∧ (b = true → 1 < d) ∧ (fr.env 0 = .pointer (some ⟨q, 0, none⟩)) ∧ (fr.env 2 = .int .i64 (d : Nat)) ∧ (fr.env 3 = .bool g) ∧ (fr.env 8 = .pointer (some ⟨8, 0, some 1⟩)) ∧ (fr.env 28 = .bool b) ∧ ((fr.loc 8).1 = 1 ∧ (fr.loc 8).2.length = 4) ∧ ((fr.loc 9).1 = 0)) ?_ ?_
    · by_cases h1 : d > 1
      · have c1 : decide ((d : Int) > 1) = true := by simp; omega
        refine W_end rfl fun G K hG hK => ?_; simp (disch := omega) only [go_sem, ↓reduceIte, Nat.reduceEqDiff, Nat.reduceAdd, Nat.reduceLeDiff, hG, e0, e2, e3, e8, e18, l8, l8', l9, c1]
        refine w_call (l1Once_ok q xs _ 3 (by omega) (by omega) hdr.cur) (by simp (disch := omega) only [go_sem, ↓reduceIte, Nat.reduceEqDiff, e0, e2, e3, e8, e18, l8, l8', l9]) ?hl ?_
        case hl => first | rfl | (simp only [go_sem, List.all_cons, List.all_nil, Bool.not_false, Bool.and_self, e0, e2, e3, e8, e18, l8, l8', l9]; done)
        rintro r_ sa ⟨⟨b, rfl⟩, hd, hl⟩; refine ⟨fun e => (by cases e), ?_⟩
        simp (disch := omega) only [go_sem, ↓reduceIte, Nat.reduceEqDiff, Nat.reduceAdd, Nat.reduceLeDiff, hG, e0, e2, e3, e8, e18, l8, l8', l9]; refine hK _ _ ?_; clear hK K hG G; repeat (first | refine thenI ?_ | refine thenE ?_ | refine thenR ?_ | refine inBI ?_ | refine inBR ?_ | refine inBS ?_ | refine inBN (by decide) ?_)
        exact ⟨b, hdr.trans hd, fun _ => h1, (by (simp (disch := omega) only [go_sem, ↓reduceIte, Nat.reduceEqDiff, Nat.reduceAdd, Nat.reduceLeDiff, e0, e2, e3, e8, e18, l8, l8', l9]); try rfl), (by (simp (disch := omega) only [go_sem, ↓reduceIte, Nat.reduceEqDiff, Nat.reduceAdd, Nat.reduceLeDiff, e0, e2, e3, e8, e18, l8, l8', l9]); try rfl), (by (simp (disch := omega) only [go_sem, ↓reduceIte, Nat.reduceEqDiff, Nat.reduceAdd, Nat.reduceLeDiff, e0, e2, e3, e8, e18, l8, l8', l9]); try rfl), (by (simp (disch := omega) only [go_sem, ↓reduceIte, Nat.reduceEqDiff, Nat.reduceAdd, Nat.reduceLeDiff, e0, e2, e3, e8, e18, l8, l8', l9]); try rfl), (by (simp (disch := omega) only [go_sem, ↓reduceIte, Nat.reduceEqDiff, Nat.reduceAdd, Nat.reduceLeDiff, e0, e2, e3, e8, e18, l8, l8', l9]); try rfl), ⟨(by (simp (disch := omega) only [go_sem, ↓reduceIte, Nat.reduceEqDiff, Nat.reduceAdd, Nat.reduceLeDiff, e0, e2, e3, e8, e18, l8, l8', l9]); try rfl), (by (simp (disch := omega) only [go_sem, ↓reduceIte, Nat.reduceEqDiff, Nat.reduceAdd, Nat.reduceLeDiff, e0, e2, e3, e8, e18, l8, l8', l9]); try rfl)⟩, (by (simp (disch := omega) only [go_sem, ↓reduceIte, Nat.reduceEqDiff, Nat.reduceAdd, Nat.reduceLeDiff, e0, e2, e3, e8, e18, l8, l8', l9]); try rfl)⟩
      · have c1 : decide ((d : Int) > 1) = false := by simp; omega
        repeat (first | (refine W_reg rfl fun G K hG hK => ?_; simp (disch := omega) only [go_sem, ↓reduceIte, Nat.reduceEqDiff, Nat.reduceAdd, Nat.reduceLeDiff, hG, e0, e2, e3, e8, e18, l8, l8', l9, c1]; refine hK _ _ ?_; clear hK K hG G) | (refine W_end rfl fun G K hG hK => ?_; simp (disch := omega) only [go_sem, ↓reduceIte, Nat.reduceEqDiff, Nat.reduceAdd, Nat.reduceLeDiff, hG, e0, e2, e3, e8, e18, l8, l8', l9, c1]; refine hK _ _ ?_; clear hK K hG G; repeat (first | refine thenI ?_ | refine thenE ?_ | refine thenR ?_ | refine inBI ?_ | refine inBR ?_ | refine inBS ?_ | refine inBN (by decide) ?_)) | refine W_seqS ?_ | refine W_seqC ?_ | refine W_seqB ?_ | refine W_block ?_ | (refine W_skip ?_; repeat (first | refine thenI ?_ | refine thenE ?_ | refine thenR ?_ | refine inBI ?_ | refine inBR ?_ | refine inBS ?_ | refine inBN (by decide) ?_)) | (refine W_condT ?hc ?_; (case hc => (simp (disch := omega) only [go_sem, ↓reduceIte, Nat.reduceEqDiff, Nat.reduceAdd, Nat.reduceLeDiff, e0, e2, e3, e8, e18, l8, l8', l9, c1]; done))) | (refine W_condF ?hc ?_; (case hc => (simp (disch := omega) only [go_sem, ↓reduceIte, Nat.reduceEqDiff, Nat.reduceAdd, Nat.reduceLeDiff, e0, e2, e3, e8, e18, l8, l8', l9, c1]; done))))
        exact ⟨false, hdr, fun h => (by cases h), (by (simp (disch := omega) only [go_sem, ↓reduceIte, Nat.reduceEqDiff, Nat.reduceAdd, Nat.reduceLeDiff, e0, e2, e3, e8, e18, l8, l8', l9]); try rfl), (by (simp (disch := omega) only [go_sem, ↓reduceIte, Nat.reduceEqDiff, Nat.reduceAdd, Nat.reduceLeDiff, e0, e2, e3, e8, e18, l8, l8', l9]); try rfl), (by (simp (disch := omega) only [go_sem, ↓reduceIte, Nat.reduceEqDiff, Nat.reduceAdd, Nat.reduceLeDiff, e0, e2, e3, e8, e18, l8, l8', l9]); try rfl), (by (simp (disch := omega) only [go_sem, ↓reduceIte, Nat.reduceEqDiff, Nat.reduceAdd, Nat.reduceLeDiff, e0, e2, e3, e8, e18, l8, l8', l9]); try rfl), (by (simp (disch := omega) only [go_sem, ↓reduceIte, Nat.reduceEqDiff, Nat.reduceAdd, Nat.reduceLeDiff, e0, e2, e3, e8, e18, l8, l8', l9]); try rfl), ⟨(by (simp (disch := omega) only [go_sem, ↓reduceIte, Nat.reduceEqDiff, Nat.reduceAdd, Nat.reduceLeDiff, e0, e2, e3, e8, e18, l8, l8', l9]); try rfl), (by (simp (disch := omega) only [go_sem, ↓reduceIte, Nat.reduceEqDiff, Nat.reduceAdd, Nat.reduceLeDiff, e0, e2, e3, e8, e18, l8, l8', l9]); try rfl)⟩, (by (simp (disch := omega) only [go_sem, ↓reduceIte, Nat.reduceEqDiff, Nat.reduceAdd, Nat.reduceLeDiff, e0, e2, e3, e8, e18, l8, l8', l9]); try rfl)⟩
    clear e0 e2 e3 e8 e18 l8 l8' l9
    rintro ⟨env, loc⟩ st' ⟨b, hdr2, hb, e0, e2, e3, e8, e28, ⟨l8, l8'⟩, l9⟩
    simp only at e0 e2 e3 e8 e28 l8 l8' l9
    cases b with
    | true =>
      have he := hb rfl
      obtain ⟨e, rfl⟩ : ∃ e, d = e + 1 := ⟨d - 1, by omega⟩
      have hsub : ((e + 1 : Nat) : Int) - 1 = (e : Nat) := by omega
      repeat (first | (refine W_reg rfl fun G K hG hK => ?_; simp (disch := omega) only [go_sem, ↓reduceIte, Nat.reduceEqDiff, Nat.reduceAdd, Nat.reduceLeDiff, hG, e0, e2, e3, e8, e28, l8, l8', l9]; refine hK _ _ ?_; clear hK K hG G) | (refine W_end rfl fun G K hG hK => ?_; simp (disch := omega) only [go_sem, ↓reduceIte, Nat.reduceEqDiff, Nat.reduceAdd, Nat.reduceLeDiff, hG, e0, e2, e3, e8, e28, l8, l8', l9]; refine hK _ _ ?_; clear hK K hG G; repeat (first | refine thenI ?_ | refine thenE ?_ | refine thenR ?_ | refine inBI ?_ | refine inBR ?_ | refine inBS ?_ | refine inBN (by decide) ?_)) | refine W_seqS ?_ | refine W_seqC ?_ | refine W_seqB ?_ | refine W_block ?_ | (refine W_skip ?_; repeat (first | refine thenI ?_ | refine thenE ?_ | refine thenR ?_ | refine inBI ?_ | refine inBR ?_ | refine inBS ?_ | refine inBN (by decide) ?_)) | (refine W_condT ?hc ?_; (case hc => (simp (disch := omega) only [go_sem, ↓reduceIte, Nat.reduceEqDiff, Nat.reduceAdd, Nat.reduceLeDiff, e0, e2, e3, e8, e28, l8, l8', l9]; done))) | (refine W_condF ?hc ?_; (case hc => (simp (disch := omega) only [go_sem, ↓reduceIte, Nat.reduceEqDiff, Nat.reduceAdd, Nat.reduceLeDiff, e0, e2, e3, e8, e28, l8, l8', l9]; done))))
      (repeat (first | refine W_seqS ?_ | refine W_seqC ?_ | refine W_seqB ?_ | refine W_block ?_)); refine W_reg rfl fun G K hG hK => ?_; simp (disch := omega) only [go_sem, ↓reduceIte, Nat.reduceEqDiff, Nat.reduceAdd, Nat.reduceLeDiff, hG, e0, e2, e3, e8, e28, l8, l8', l9, hsub]
      refine w_call (ih e rfl (by omega) _ hdr2.cur) (by simp (disch := omega) only [go_sem, ↓reduceIte, Nat.reduceEqDiff, e0, e2, e3, e8, e28, l8, l8', l9, hsub]) ?hl ?_
      case hl => first | rfl | (simp only [go_sem, List.all_cons, List.all_nil, Bool.not_false, Bool.and_self, e0, e2, e3, e8, e28, l8, l8', l9, hsub]; done)
      rintro r_ sb ⟨hd2, t, ds, L, rfl, ho, hf, hp⟩; refine ⟨fun e => (by cases e), ?_⟩
      obtain ⟨k1, n1, m1, s1, rfl, a1, a2, a3⟩ := ho.args_cells
      simp (disch := omega) only [go_sem, ↓reduceIte, Nat.reduceEqDiff, Nat.reduceAdd, Nat.reduceLeDiff, hG, e0, e2, e3, e8, e28, l8, l8', l9, a1, a2, a3]; refine hK _ _ ?_; clear hK K hG G; repeat (first | refine thenI ?_ | refine thenE ?_ | refine thenR ?_ | refine inBI ?_ | refine inBR ?_ | refine inBS ?_ | refine inBN (by decide) ?_)
      have hdr3 := hdr2.trans hd2
      (repeat (first | refine W_seqS ?_ | refine W_seqC ?_ | refine W_seqB ?_ | refine W_block ?_)); refine W_regL mixed [9] [] [2, 8, 9] [[(3, false), (0, false), (4, false), (5, false), (6, false), (7, false), (1, false), (2, false), (8, false), (9, false), (10, false)]] rfl (by decide +kernel) (by intro t ht; simp only [List.mem_cons, List.not_mem_nil, or_false] at ht; (rcases ht with rfl) <;> (first | (simp only [e0, e2, e3, e8, e28, l8, l8', l9]; done) | (simp only [e0, e2, e3, e8, e28, l8, l8', l9]; rfl))) fun G K hG hK => (fm_cons ?_ fm_nil)
      simp only [pickOps, List.filterMap_cons, List.filterMap_nil, List.getElem?_cons_zero, List.getElem?_cons_succ, Option.map_some]; simp (disch := omega) only [go_sem, ↓reduceIte, Nat.reduceEqDiff, Nat.reduceAdd, Nat.reduceLeDiff, hG, e0, e2, e3, e8, e28, l8, l8', l9, bsL, fillK_cons, fillK_nil, Nat.reduceMul, hsub, a1, a2, a3]
      refine w_call (l1Pick_lit q xs sb _ _ 3 hdr3.cur rfl (by simp) (by simp)) (by simp (disch := omega) only [go_sem, ↓reduceIte, Nat.reduceEqDiff, e0, e2, e3, e8, e28, l8, l8', l9]) ?hl ?_
      case hl => first | rfl | (simp only [go_sem, List.all_cons, List.all_nil, Bool.not_false, Bool.and_self, e0, e2, e3, e8, e28, l8, l8', l9]; done)
      rintro r_ sc ⟨⟨w, rfl, hw⟩, hd3, hl3⟩; refine ⟨fun e => (by cases e), ?_⟩
      simp (disch := omega) only [go_sem, ↓reduceIte, Nat.reduceEqDiff, Nat.reduceAdd, Nat.reduceLeDiff, e0, e2, e3, e8, e28, l8, l8', l9, a1, a2, a3, hsub]
      refine w_call (ih e rfl (by omega) sc hd3.cur) (by simp (disch := omega) only [go_sem, ↓reduceIte, Nat.reduceEqDiff, e0, e2, e3, e8, e28, l8, l8', l9, hsub]) ?hl ?_
      case hl => first | rfl | (simp only [go_sem, List.all_cons, List.all_nil, Bool.not_false, Bool.and_self, e0, e2, e3, e8, e28, l8, l8', l9, hsub]; done)
      rintro r_ sd ⟨hd4, t2, ds2, L2, rfl, ho2, hf2, hp2⟩; refine ⟨fun e => (by cases e), ?_⟩
      have hdr4 := Drawn.pre (Ext.app _ _) (hd3.trans hd4)
      have hl0 := Nat.le_trans hdr2.away.1 hd2.away.1
      have hoA := hdr4.own ho hf (Nat.lt_of_lt_of_le hq.lt hdr2.away.1)
      simp (disch := omega) only [go_sem, ↓reduceIte, Nat.reduceEqDiff, Nat.reduceAdd, Nat.reduceLeDiff, e0, e2, e3, e8, e28, l8, l8', l9, a1, a2, a3]
      refine w_call (l3Pair_ok w t t2 sd [.int .i64 k1, .int .i64 n1, .string m1, s1] ds2 L L2 hoA ho2) (by simp (disch := omega) only [go_sem, ↓reduceIte, Nat.reduceEqDiff, e0, e2, e3, e8, e28, l8, l8', l9, a1, a2, a3]) ?hl ?_
      case hl => first | rfl | (simp only [go_sem, List.all_cons, List.all_nil, Bool.not_false, Bool.and_self, e0, e2, e3, e8, e28, l8, l8', l9, a1, a2, a3]; done)
      rintro r_ se ⟨x1, es, rfl, ho3⟩; refine ⟨fun e => (by cases e), ?_⟩
      obtain ⟨k3, n3, m3, s3, rfl, b1, b2, b3⟩ := ho3.args_cells
      simp (disch := omega) only [go_sem, ↓reduceIte, Nat.reduceEqDiff, Nat.reduceAdd, Nat.reduceLeDiff, hG, e0, e2, e3, e8, e28, l8, l8', l9, b1, b2, b3]; refine hK _ _ ?_; clear hK K hG G; repeat (first | refine thenI ?_ | refine thenE ?_ | refine thenR ?_ | refine inBI ?_ | refine inBR ?_ | refine inBS ?_ | refine inBN (by decide) ?_)
      have hlt := Own.lt _ _ _ ho
      have hll := hdr4.away.1
      have hl5 := hd4.away.1
      refine W_ret ?_; try (repeat (first | refine thenI ?_ | refine thenE ?_ | refine thenR ?_ | refine inBI ?_ | refine inBR ?_ | refine inBS ?_ | refine inBN (by decide) ?_))
      refine finC (.inl rfl) (by (simp (disch := omega) only [go_sem, ↓reduceIte, Nat.reduceEqDiff, Nat.reduceAdd, Nat.reduceLeDiff, e0, e2, e3, e8, e28, l8, l8', l9, b1, b2, b3]); try rfl) ⟨((hdr3.trans hdr4).ext2 x1), _, [_, _, _, _], _, rfl, ho3, ((hf.mono hdr2.away.1).app hf2 (fun i hi => by have := hlt i hi; omega) (by omega)).cons (fun i hi => ?_) (by omega), plain_app 0 _ _ (fun a ha => ?_), ?_⟩
      · rcases List.mem_append.1 hi with hi | hi
        · have := hlt i hi; omega
        · exact Own.lt _ _ _ ho2 i hi
      · rcases List.mem_cons.1 ha with rfl | ha
        · exact hp.1
        · cases List.mem_singleton.1 ha; exact hp2.1
      · have h1 := hp.2
        have h2 := hp2.2
        have h3 := size_of_mem2 (m := 5) hw rfl
        simp only [T.wt, T.wtL, List.length_cons, List.length_nil, Nat.pow_succ]
        omega
    | false =>
      repeat (first | (refine W_reg rfl fun G K hG hK => ?_; simp (disch := omega) only [go_sem, ↓reduceIte, Nat.reduceEqDiff, Nat.reduceAdd, Nat.reduceLeDiff, hG, e0, e2, e3, e8, e28, l8, l8', l9]; refine hK _ _ ?_; clear hK K hG G) | (refine W_end rfl fun G K hG hK => ?_; simp (disch := omega) only [go_sem, ↓reduceIte, Nat.reduceEqDiff, Nat.reduceAdd, Nat.reduceLeDiff, hG, e0, e2, e3, e8, e28, l8, l8', l9]; refine hK _ _ ?_; clear hK K hG G; repeat (first | refine thenI ?_ | refine thenE ?_ | refine thenR ?_ | refine inBI ?_ | refine inBR ?_ | refine inBS ?_ | refine inBN (by decide) ?_)) | refine W_seqS ?_ | refine W_seqC ?_ | refine W_seqB ?_ | refine W_block ?_ | (refine W_skip ?_; repeat (first | refine thenI ?_ | refine thenE ?_ | refine thenR ?_ | refine inBI ?_ | refine inBR ?_ | refine inBS ?_ | refine inBN (by decide) ?_)) | (refine W_condT ?hc ?_; (case hc => (simp (disch := omega) only [go_sem, ↓reduceIte, Nat.reduceEqDiff, Nat.reduceAdd, Nat.reduceLeDiff, e0, e2, e3, e8, e28, l8, l8', l9]; done))) | (refine W_condF ?hc ?_; (case hc => (simp (disch := omega) only [go_sem, ↓reduceIte, Nat.reduceEqDiff, Nat.reduceAdd, Nat.reduceLeDiff, e0, e2, e3, e8, e28, l8, l8', l9]; done))))
      (repeat (first | refine W_seqS ?_ | refine W_seqC ?_ | refine W_seqB ?_ | refine W_block ?_)); refine W_reg rfl fun G K hG hK => ?_; simp (disch := omega) only [go_sem, ↓reduceIte, Nat.reduceEqDiff, Nat.reduceAdd, Nat.reduceLeDiff, hG, e0, e2, e3, e8, e28, l8, l8', l9]
      refine w_call (l1Below_ok q xs _ 4 (by omega) (by omega) hdr2.cur) (by simp (disch := omega) only [go_sem, ↓reduceIte, Nat.reduceEqDiff, e0, e2, e3, e8, e28, l8, l8', l9]) ?hl ?_
      case hl => first | rfl | (simp only [go_sem, List.all_cons, List.all_nil, Bool.not_false, Bool.and_self, e0, e2, e3, e8, e28, l8, l8', l9]; done)
      rintro r_ sb ⟨⟨x, rfl, hx0, hx1⟩, hd2, hl⟩; refine ⟨fun e => (by cases e), ?_⟩
      simp (disch := omega) only [go_sem, ↓reduceIte, Nat.reduceEqDiff, Nat.reduceAdd, Nat.reduceLeDiff, e0, e2, e3, e8, e28, l8, l8', l9]
      refine w_call (l3Word_ok x sb) (by simp (disch := omega) only [go_sem, ↓reduceIte, Nat.reduceEqDiff, e0, e2, e3, e8, e28, l8, l8', l9]) ?hl ?_
      case hl => first | rfl | (simp only [go_sem, List.all_cons, List.all_nil, Bool.not_false, Bool.and_self, e0, e2, e3, e8, e28, l8, l8', l9]; done)
      rintro r_ sc ⟨rfl, rfl⟩; refine ⟨fun e => (by cases e), ?_⟩
      simp (disch := omega) only [go_sem, ↓reduceIte, Nat.reduceEqDiff, Nat.reduceAdd, Nat.reduceLeDiff, hG, e0, e2, e3, e8, e28, l8, l8', l9]; refine hK _ _ ?_; clear hK K hG G; repeat (first | refine thenI ?_ | refine thenE ?_ | refine thenR ?_ | refine inBI ?_ | refine inBR ?_ | refine inBS ?_ | refine inBN (by decide) ?_)
      refine W_ret ?_; try (repeat (first | refine thenI ?_ | refine thenE ?_ | refine thenR ?_ | refine inBI ?_ | refine inBR ?_ | refine inBS ?_ | refine inBN (by decide) ?_))
      refine finC (.inl rfl) (by (simp (disch := omega) only [go_sem, ↓reduceIte, Nat.reduceEqDiff, Nat.reduceAdd, Nat.reduceLeDiff, e0, e2, e3, e8, e28, l8, l8', l9]); try rfl) ⟨hdr2.trans hd2, .mk 3 x ⟨#[]⟩ [], [_, _, _, _], [], rfl, .nil _ _ _, .nil _, word_leaf hd1 (by decide) (plain_word x _)⟩
theorem l6Word_ok (q : Nat) (xs : List Byt) (g : Bool) : ∀ (d : Nat), 1 ≤ d → d ≤ 10 → ∀ (st : St), Cur st q xs → CallS Try.prog 19 [.pointer (some ⟨q, 0, none⟩), .string ⟨#[119, 111, 114, 100]⟩, .int .i64 (d : Nat), .bool g] st (DrawT q xs st (WordP d)) := by
  intro d
  induction d with
  | zero => intro h1; omega
  | succ d ih => intro h1 h st hq; exact l6Word_of q xs g (d + 1) h1 h st hq fun e he h1 st hq => (by
    obtain rfl : d = e := by omega
    exact ih h1 (by omega) st hq)
theorem l6Word1_ok (q : Nat) (xs : List Byt) (g : Bool) (st : St) (hq : Cur st q xs) : CallS Try.prog 19 [.pointer (some ⟨q, 0, none⟩), .string ⟨#[119, 111, 114, 100]⟩, .int .i64 1, .bool g] st (DrawT q xs st (WordP 1)) := l6Word_ok q xs g 1 (by omega) (by omega) st hq
theorem l6Word2_ok (q : Nat) (xs : List Byt) (g : Bool) (st : St) (hq : Cur st q xs) : CallS Try.prog 19 [.pointer (some ⟨q, 0, none⟩), .string ⟨#[119, 111, 114, 100]⟩, .int .i64 2, .bool g] st (DrawT q xs st (WordP 2)) := l6Word_ok q xs g 2 (by omega) (by omega) st hq
theorem l6Word3_ok (q : Nat) (xs : List Byt) (g : Bool) (st : St) (hq : Cur st q xs) : CallS Try.prog 19 [.pointer (some ⟨q, 0, none⟩), .string ⟨#[119, 111, 114, 100]⟩, .int .i64 3, .bool g] st (DrawT q xs st (WordP 3)) := l6Word_ok q xs g 3 (by omega) (by omega) st hq
theorem l6Word4_ok (q : Nat) (xs : List Byt) (g : Bool) (st : St) (hq : Cur st q xs) : CallS Try.prog 19 [.pointer (some ⟨q, 0, none⟩), .string ⟨#[119, 111, 114, 100]⟩, .int .i64 4, .bool g] st (DrawT q xs st (WordP 4)) := l6Word_ok q xs g 4 (by omega) (by omega) st hq

theorem l6E_of (q : Nat) (xs : List Byt) (g : Bool) (sn : ByteArray) (hsn : (sn.toList == (⟨#[119, 111, 114, 100]⟩ : ByteArray).toList) = false) (d : Nat) (hd1 : 1 ≤ d) (hd10 : d ≤ 10) (st : St) (hq : Cur st q xs)
    (ih : ∀ e, d = e + 1 → 1 ≤ e → ∀ st, Cur st q xs → CallS Try.prog 19 [.pointer (some ⟨q, 0, none⟩), .string ⟨#[101]⟩, .int .i64 (e : Nat), .bool g] st (DrawT q xs st (EP e))) :
    CallS Try.prog 19 [.pointer (some ⟨q, 0, none⟩), .string sn, .int .i64 (d : Nat), .bool g] st (DrawT q xs st (EP d)) := by
  refine CallS_of_W [] 101 Try.func19 rfl rfl rfl rfl (by simp) ?_
  repeat (first | (refine W_reg rfl fun G K hG hK => ?_; simp (disch := omega) only [go_sem, ↓reduceIte, Nat.reduceEqDiff, Nat.reduceAdd, Nat.reduceLeDiff, hG, hsn]; refine hK _ _ ?_; clear hK K hG G) | (refine W_end rfl fun G K hG hK => ?_; simp (disch := omega) only [go_sem, ↓reduceIte, Nat.reduceEqDiff, Nat.reduceAdd, Nat.reduceLeDiff, hG, hsn]; refine hK _ _ ?_; clear hK K hG G; repeat (first | refine thenI ?_ | refine thenE ?_ | refine thenR ?_ | refine inBI ?_ | refine inBR ?_ | refine inBS ?_ | refine inBN (by decide) ?_)) | refine W_seqS ?_ | refine W_seqC ?_ | refine W_seqB ?_ | refine W_block ?_ | (refine W_skip ?_; repeat (first | refine thenI ?_ | refine thenE ?_ | refine thenR ?_ | refine inBI ?_ | refine inBR ?_ | refine inBS ?_ | refine inBN (by decide) ?_)) | (refine W_condT ?hc ?_; (case hc => (simp (disch := omega) only [go_sem, ↓reduceIte, Nat.reduceEqDiff, Nat.reduceAdd, Nat.reduceLeDiff, hsn]; done))) | (refine W_condF ?hc ?_; (case hc => (simp (disch := omega) only [go_sem, ↓reduceIte, Nat.reduceEqDiff, Nat.reduceAdd, Nat.reduceLeDiff, hsn]; done))))
  refine W_seq ?_
  refine W_to (fun fr st' => ∃ (b : Bool), (Drawn q xs st st') ∧ (b = false → 2 ≤ d) ∧ (fr.env 0 = .pointer (some ⟨q, 0, none⟩)) ∧ (fr.env 2 = .int .i64 (d : Nat)) ∧ (fr.env 3 = .bool g) ∧ (fr.env 8 = .pointer (some ⟨8, 0, some 1⟩)) ∧ (fr.env 52 = .bool b) ∧ ((fr.loc 8).1 = 1 ∧ (fr.loc 8).2.length = 4) ∧ ((fr.loc 10).1 = 0)) ?_ ?_
  · by_cases h2 : d < 2
    · have c1 : decide ((d : Int) < 2) = true := by simp; omega
      repeat (first | (refine W_reg rfl fun G K hG hK => ?_; simp (disch := omega) only [go_sem, ↓reduceIte, Nat.reduceEqDiff, Nat.reduceAdd, Nat.reduceLeDiff, hG, c1]; refine hK _ _ ?_; clear hK K hG G) | (refine W_end rfl fun G K hG hK => ?_; simp (disch := omega) only [go_sem, ↓reduceIte, Nat.reduceEqDiff, Nat.reduceAdd, Nat.reduceLeDiff, hG, c1]; refine hK _ _ ?_; clear hK K hG G; repeat (first | refine thenI ?_ | refine thenE ?_ | refine thenR ?_ | refine inBI ?_ | refine inBR ?_ | refine inBS ?_ | refine inBN (by decide) ?_)) | refine W_seqS ?_ | refine W_seqC ?_ | refine W_seqB ?_ | refine W_block ?_ | (refine W_skip ?_; repeat (first | refine thenI ?_ | refine thenE ?_ | refine thenR ?_ | refine inBI ?_ | refine inBR ?_ | refine inBS ?_ | refine inBN (by decide) ?_)) | (refine W_condT ?hc ?_; (case hc => (simp (disch := omega) only [go_sem, ↓reduceIte, Nat.reduceEqDiff, Nat.reduceAdd, Nat.reduceLeDiff, c1]; done))) | (refine W_condF ?hc ?_; (case hc => (simp (disch := omega) only [go_sem, ↓reduceIte, Nat.reduceEqDiff, Nat.reduceAdd, Nat.reduceLeDiff, c1]; done))))
      exact ⟨true, .refl hq, fun h => (by cases h), (by (simp (disch := omega) only [go_sem, ↓reduceIte, Nat.reduceEqDiff, Nat.reduceAdd, Nat.reduceLeDiff]); try rfl), (by (simp (disch := omega) only [go_sem, ↓reduceIte, Nat.reduceEqDiff, Nat.reduceAdd, Nat.reduceLeDiff]); try rfl), (by (simp (disch := omega) only [go_sem, ↓reduceIte, Nat.reduceEqDiff, Nat.reduceAdd, Nat.reduceLeDiff]); try rfl), (by (simp (disch := omega) only [go_sem, ↓reduceIte, Nat.reduceEqDiff, Nat.reduceAdd, Nat.reduceLeDiff]); try rfl), (by (simp (disch := omega) only [go_sem, ↓reduceIte, Nat.reduceEqDiff, Nat.reduceAdd, Nat.reduceLeDiff]); try rfl), ⟨(by (simp (disch := omega) only [go_sem, ↓reduceIte, Nat.reduceEqDiff, Nat.reduceAdd, Nat.reduceLeDiff]); try rfl), (by (simp (disch := omega) only [go_sem, ↓reduceIte, Nat.reduceEqDiff, Nat.reduceAdd, Nat.reduceLeDiff]); try rfl)⟩, (by (simp (disch := omega) only [go_sem, ↓reduceIte, Nat.reduceEqDiff, Nat.reduceAdd, Nat.reduceLeDiff]); try rfl)⟩
    · have c1 : decide ((d : Int) < 2) = false := by simp; omega
      refine W_end rfl fun G K hG hK => ?_; simp (disch := omega) only [go_sem, ↓reduceIte, Nat.reduceEqDiff, Nat.reduceAdd, Nat.reduceLeDiff, hG, c1]
      refine w_call (l1Once_ok q xs st 5 (by omega) (by omega) hq) (by simp (disch := omega) only [go_sem, ↓reduceIte, Nat.reduceEqDiff]) ?hl ?_
      case hl => first | rfl | (simp only [go_sem, List.all_cons, List.all_nil, Bool.not_false, Bool.and_self]; done)
      rintro r_ sa ⟨⟨b, rfl⟩, hd, hl⟩; refine ⟨fun e => (by cases e), ?_⟩
      simp (disch := omega) only [go_sem, ↓reduceIte, Nat.reduceEqDiff, Nat.reduceAdd, Nat.reduceLeDiff, hG]; refine hK _ _ ?_; clear hK K hG G; repeat (first | refine thenI ?_ | refine thenE ?_ | refine thenR ?_ | refine inBI ?_ | refine inBR ?_ | refine inBS ?_ | refine inBN (by decide) ?_)
      exact ⟨b, hd, fun _ => (by omega), (by (simp (disch := omega) only [go_sem, ↓reduceIte, Nat.reduceEqDiff, Nat.reduceAdd, Nat.reduceLeDiff]); try rfl), (by (simp (disch := omega) only [go_sem, ↓reduceIte, Nat.reduceEqDiff, Nat.reduceAdd, Nat.reduceLeDiff]); try rfl), (by (simp (disch := omega) only [go_sem, ↓reduceIte, Nat.reduceEqDiff, Nat.reduceAdd, Nat.reduceLeDiff]); try rfl), (by (simp (disch := omega) only [go_sem, ↓reduceIte, Nat.reduceEqDiff, Nat.reduceAdd, Nat.reduceLeDiff]); try rfl), (by (simp (disch := omega) only [go_sem, ↓reduceIte, Nat.reduceEqDiff, Nat.reduceAdd, Nat.reduceLeDiff]); try rfl), ⟨(by (simp (disch := omega) only [go_sem, ↓reduceIte, Nat.reduceEqDiff, Nat.reduceAdd, Nat.reduceLeDiff]); try rfl), (by (simp (disch := omega) only [go_sem, ↓reduceIte, Nat.reduceEqDiff, Nat.reduceAdd, Nat.reduceLeDiff]); try rfl)⟩, (by (simp (disch := omega) only [go_sem, ↓reduceIte, Nat.reduceEqDiff, Nat.reduceAdd, Nat.reduceLeDiff]); try rfl)⟩
  rintro ⟨env, loc⟩ st' ⟨b, hdr, hb, e0, e2, e3, e8, e52, ⟨l8, l8'⟩, l10⟩
  simp only at e0 e2 e3 e8 e52 l8 l8' l10
  cases b with
  | true =>
    repeat (first | (refine W_reg rfl fun G K hG hK => ?_; simp (disch := omega) only [go_sem, ↓reduceIte, Nat.reduceEqDiff, Nat.reduceAdd, Nat.reduceLeDiff, hG, e0, e2, e3, e8, e52, l8, l8', l10]; refine hK _ _ ?_; clear hK K hG G) | (refine W_end rfl fun G K hG hK => ?_; simp (disch := omega) only [go_sem, ↓reduceIte, Nat.reduceEqDiff, Nat.reduceAdd, Nat.reduceLeDiff, hG, e0, e2, e3, e8, e52, l8, l8', l10]; refine hK _ _ ?_; clear hK K hG G; repeat (first | refine thenI ?_ | refine thenE ?_ | refine thenR ?_ | refine inBI ?_ | refine inBR ?_ | refine inBS ?_ | refine inBN (by decide) ?_)) | refine W_seqS ?_ | refine W_seqC ?_ | refine W_seqB ?_ | refine W_block ?_ | (refine W_skip ?_; repeat (first | refine thenI ?_ | refine thenE ?_ | refine thenR ?_ | refine inBI ?_ | refine inBR ?_ | refine inBS ?_ | refine inBN (by decide) ?_)) | (refine W_condT ?hc ?_; (case hc => (simp (disch := omega) only [go_sem, ↓reduceIte, Nat.reduceEqDiff, Nat.reduceAdd, Nat.reduceLeDiff, e0, e2, e3, e8, e52, l8, l8', l10]; done))) | (refine W_condF ?hc ?_; (case hc => (simp (disch := omega) only [go_sem, ↓reduceIte, Nat.reduceEqDiff, Nat.reduceAdd, Nat.reduceLeDiff, e0, e2, e3, e8, e52, l8, l8', l10]; done))))
    refine W_seq ?_
    refine W_to (fun fr st' => ∃ (b : Bool), (Drawn q xs st st') ∧ (fr.env 0 = .pointer (some ⟨q, 0, none⟩)) ∧ (fr.env 3 = .bool g) ∧ (fr.env 8 = .pointer (some ⟨8, 0, some 1⟩)) ∧ (fr.env 58 = .bool b) ∧ ((fr.loc 8).1 = 1 ∧ (fr.loc 8).2.length = 4)) ?_ ?_
    · cases g with
      | true =>
        repeat (first | (refine W_reg rfl fun G K hG hK => ?_; simp (disch := omega) only [go_sem, ↓reduceIte, Nat.reduceEqDiff, Nat.reduceAdd, Nat.reduceLeDiff, hG, e0, e2, e3, e8, e52, l8, l8', l10]; refine hK _ _ ?_; clear hK K hG G) | (refine W_end rfl fun G K hG hK => ?_; simp (disch := omega) only [go_sem, ↓reduceIte, Nat.reduceEqDiff, Nat.reduceAdd, Nat.reduceLeDiff, hG, e0, e2, e3, e8, e52, l8, l8', l10]; refine hK _ _ ?_; clear hK K hG G; repeat (first | refine thenI ?_ | refine thenE ?_ | refine thenR ?_ | refine inBI ?_ | refine inBR ?_ | refine inBS ?_ | refine inBN (by decide) ?_)) | refine W_seqS ?_ | refine W_seqC ?_ | refine W_seqB ?_ | refine W_block ?_ | (refine W_skip ?_; repeat (first | refine thenI ?_ | refine thenE ?_ | refine thenR ?_ | refine inBI ?_ | refine inBR ?_ | refine inBS ?_ | refine inBN (by decide) ?_)) | (refine W_condT ?hc ?_; (case hc => (simp (disch := omega) only [go_sem, ↓reduceIte, Nat.reduceEqDiff, Nat.reduceAdd, Nat.reduceLeDiff, e0, e2, e3, e8, e52, l8, l8', l10]; done))) | (refine W_condF ?hc ?_; (case hc => (simp (disch := omega) only [go_sem, ↓reduceIte, Nat.reduceEqDiff, Nat.reduceAdd, Nat.reduceLeDiff, e0, e2, e3, e8, e52, l8, l8', l10]; done))))
        exact ⟨false, hdr, (by (simp (disch := omega) only [go_sem, ↓reduceIte, Nat.reduceEqDiff, Nat.reduceAdd, Nat.reduceLeDiff, e0, e2, e3, e8, e52, l8, l8', l10]); try rfl), (by (simp (disch := omega) only [go_sem, ↓reduceIte, Nat.reduceEqDiff, Nat.reduceAdd, Nat.reduceLeDiff, e0, e2, e3, e8, e52, l8, l8', l10]); try rfl), (by (simp (disch := omega) only [go_sem, ↓reduceIte, Nat.reduceEqDiff, Nat.reduceAdd, Nat.reduceLeDiff, e0, e2, e3, e8, e52, l8, l8', l10]); try rfl), (by (simp (disch := omega) only [go_sem, ↓reduceIte, Nat.reduceEqDiff, Nat.reduceAdd, Nat.reduceLeDiff, e0, e2, e3, e8, e52, l8, l8', l10]); try rfl), ⟨(by (simp (disch := omega) only [go_sem, ↓reduceIte, Nat.reduceEqDiff, Nat.reduceAdd, Nat.reduceLeDiff, e0, e2, e3, e8, e52, l8, l8', l10]); try rfl), (by (simp (disch := omega) only [go_sem, ↓reduceIte, Nat.reduceEqDiff, Nat.reduceAdd, Nat.reduceLeDiff, e0, e2, e3, e8, e52, l8, l8', l10]); try rfl)⟩⟩
      | false =>
        refine W_end rfl fun G K hG hK => ?_; simp (disch := omega) only [go_sem, ↓reduceIte, Nat.reduceEqDiff, Nat.reduceAdd, Nat.reduceLeDiff, hG, e0, e2, e3, e8, e52, l8, l8', l10]
        refine w_call (l1Once_ok q xs _ 2 (by omega) (by omega) hdr.cur) (by simp (disch := omega) only [go_sem, ↓reduceIte, Nat.reduceEqDiff, e0, e2, e3, e8, e52, l8, l8', l10]) ?hl ?_
        case hl => first | rfl | (simp only [go_sem, List.all_cons, List.all_nil, Bool.not_false, Bool.and_self, e0, e2, e3, e8, e52, l8, l8', l10]; done)
        rintro r_ sa ⟨⟨b, rfl⟩, hd, hl⟩; refine ⟨fun e => (by cases e), ?_⟩
        simp (disch := omega) only [go_sem, ↓reduceIte, Nat.reduceEqDiff, Nat.reduceAdd, Nat.reduceLeDiff, hG, e0, e2, e3, e8, e52, l8, l8', l10]; refine hK _ _ ?_; clear hK K hG G; repeat (first | refine thenI ?_ | refine thenE ?_ | refine thenR ?_ | refine inBI ?_ | refine inBR ?_ | refine inBS ?_ | refine inBN (by decide) ?_)
        exact ⟨b, hdr.trans hd, (by (simp (disch := omega) only [go_sem, ↓reduceIte, Nat.reduceEqDiff, Nat.reduceAdd, Nat.reduceLeDiff, e0, e2, e3, e8, e52, l8, l8', l10]); try rfl), (by (simp (disch := omega) only [go_sem, ↓reduceIte, Nat.reduceEqDiff, Nat.reduceAdd, Nat.reduceLeDiff, e0, e2, e3, e8, e52, l8, l8', l10]); try rfl), (by (simp (disch := omega) only [go_sem, ↓reduceIte, Nat.reduceEqDiff, Nat.reduceAdd, Nat.reduceLeDiff, e0, e2, e3, e8, e52, l8, l8', l10]); try rfl), (by (simp (disch := omega) only [go_sem, ↓reduceIte, Nat.reduceEqDiff, Nat.reduceAdd, Nat.reduceLeDiff, e0, e2, e3, e8, e52, l8, l8', l10]); try rfl), ⟨(by (simp (disch := omega) only [go_sem, ↓reduceIte, Nat.reduceEqDiff, Nat.reduceAdd, Nat.reduceLeDiff, e0, e2, e3, e8, e52, l8, l8', l10]); try rfl), (by (simp (disch := omega) only [go_sem, ↓reduceIte, Nat.reduceEqDiff, Nat.reduceAdd, Nat.reduceLeDiff, e0, e2, e3, e8, e52, l8, l8', l10]); try rfl)⟩⟩
    clear e0 e2 e3 e8 e52 l8 l8' l10
    rintro ⟨env, loc⟩ st' ⟨b, hdr2, e0, e3, e8, e58, ⟨l8, l8'⟩⟩
    simp only at e0 e3 e8 e58 l8 l8'
    cases b with
    | true =>
      repeat (first | (refine W_reg rfl fun G K hG hK => ?_; simp (disch := omega) only [go_sem, ↓reduceIte, Nat.reduceEqDiff, Nat.reduceAdd, Nat.reduceLeDiff, hG, e0, e3, e8, e58, l8, l8']; refine hK _ _ ?_; clear hK K hG G) | (refine W_end rfl fun G K hG hK => ?_; simp (disch := omega) only [go_sem, ↓reduceIte, Nat.reduceEqDiff, Nat.reduceAdd, Nat.reduceLeDiff, hG, e0, e3, e8, e58, l8, l8']; refine hK _ _ ?_; clear hK K hG G; repeat (first | refine thenI ?_ | refine thenE ?_ | refine thenR ?_ | refine inBI ?_ | refine inBR ?_ | refine inBS ?_ | refine inBN (by decide) ?_)) | refine W_seqS ?_ | refine W_seqC ?_ | refine W_seqB ?_ | refine W_block ?_ | (refine W_skip ?_; repeat (first | refine thenI ?_ | refine thenE ?_ | refine thenR ?_ | refine inBI ?_ | refine inBR ?_ | refine inBS ?_ | refine inBN (by decide) ?_)) | (refine W_condT ?hc ?_; (case hc => (simp (disch := omega) only [go_sem, ↓reduceIte, Nat.reduceEqDiff, Nat.reduceAdd, Nat.reduceLeDiff, e0, e3, e8, e58, l8, l8']; done))) | (refine W_condF ?hc ?_; (case hc => (simp (disch := omega) only [go_sem, ↓reduceIte, Nat.reduceEqDiff, Nat.reduceAdd, Nat.reduceLeDiff, e0, e3, e8, e58, l8, l8']; done))))
      (repeat (first | refine W_seqS ?_ | refine W_seqC ?_ | refine W_seqB ?_ | refine W_block ?_)); refine W_reg rfl fun G K hG hK => ?_; simp (disch := omega) only [go_sem, ↓reduceIte, Nat.reduceEqDiff, Nat.reduceAdd, Nat.reduceLeDiff, hG, e0, e3, e8, e58, l8, l8', bsL, fillK_cons, fillK_nil, Nat.reduceMul]
      refine w_call (l1Pick_lit q xs st' _ _ 2 hdr2.cur rfl (by simp) (by simp)) (by simp (disch := omega) only [go_sem, ↓reduceIte, Nat.reduceEqDiff, e0, e3, e8, e58, l8, l8']) ?hl ?_
      case hl => first | rfl | (simp only [go_sem, List.all_cons, List.all_nil, Bool.not_false, Bool.and_self, e0, e3, e8, e58, l8, l8']; done)
      rintro r_ sa ⟨⟨w, rfl, hw⟩, hd, hl⟩; refine ⟨fun e => (by cases e), ?_⟩
      simp (disch := omega) only [go_sem, ↓reduceIte, Nat.reduceEqDiff, Nat.reduceAdd, Nat.reduceLeDiff, e0, e3, e8, e58, l8, l8']
      refine w_call (l3Var_ok w sa) (by simp (disch := omega) only [go_sem, ↓reduceIte, Nat.reduceEqDiff, e0, e3, e8, e58, l8, l8']) ?hl ?_
      case hl => first | rfl | (simp only [go_sem, List.all_cons, List.all_nil, Bool.not_false, Bool.and_self, e0, e3, e8, e58, l8, l8']; done)
      rintro r_ sb ⟨rfl, rfl⟩; refine ⟨fun e => (by cases e), ?_⟩
      simp (disch := omega) only [go_sem, ↓reduceIte, Nat.reduceEqDiff, Nat.reduceAdd, Nat.reduceLeDiff, hG, e0, e3, e8, e58, l8, l8']; refine hK _ _ ?_; clear hK K hG G; repeat (first | refine thenI ?_ | refine thenE ?_ | refine thenR ?_ | refine inBI ?_ | refine inBR ?_ | refine inBS ?_ | refine inBN (by decide) ?_)
      refine W_ret ?_; try (repeat (first | refine thenI ?_ | refine thenE ?_ | refine thenR ?_ | refine inBI ?_ | refine inBR ?_ | refine inBS ?_ | refine inBN (by decide) ?_))
      refine finC (.inl rfl) (by (simp (disch := omega) only [go_sem, ↓reduceIte, Nat.reduceEqDiff, Nat.reduceAdd, Nat.reduceLeDiff, e0, e3, e8, e58, l8, l8']); try rfl) ⟨hdr2.trans (.pre (Ext.app _ _) hd), .mk 1 0 w [], [_, _, _, _], [], rfl, .nil _ _ _, .nil _, e_leaf hd1 (size_of_mem hw rfl) (plain_var w)⟩
    | false =>
      repeat (first | (refine W_reg rfl fun G K hG hK => ?_; simp (disch := omega) only [go_sem, ↓reduceIte, Nat.reduceEqDiff, Nat.reduceAdd, Nat.reduceLeDiff, hG, e0, e3, e8, e58, l8, l8']; refine hK _ _ ?_; clear hK K hG G) | (refine W_end rfl fun G K hG hK => ?_; simp (disch := omega) only [go_sem, ↓reduceIte, Nat.reduceEqDiff, Nat.reduceAdd, Nat.reduceLeDiff, hG, e0, e3, e8, e58, l8, l8']; refine hK _ _ ?_; clear hK K hG G; repeat (first | refine thenI ?_ | refine thenE ?_ | refine thenR ?_ | refine inBI ?_ | refine inBR ?_ | refine inBS ?_ | refine inBN (by decide) ?_)) | refine W_seqS ?_ | refine W_seqC ?_ | refine W_seqB ?_ | refine W_block ?_ | (refine W_skip ?_; repeat (first | refine thenI ?_ | refine thenE ?_ | refine thenR ?_ | refine inBI ?_ | refine inBR ?_ | refine inBS ?_ | refine inBN (by decide) ?_)) | (refine W_condT ?hc ?_; (case hc => (simp (disch := omega) only [go_sem, ↓reduceIte, Nat.reduceEqDiff, Nat.reduceAdd, Nat.reduceLeDiff, e0, e3, e8, e58, l8, l8']; done))) | (refine W_condF ?hc ?_; (case hc => (simp (disch := omega) only [go_sem, ↓reduceIte, Nat.reduceEqDiff, Nat.reduceAdd, Nat.reduceLeDiff, e0, e3, e8, e58, l8, l8']; done))))
      (repeat (first | refine W_seqS ?_ | refine W_seqC ?_ | refine W_seqB ?_ | refine W_block ?_)); refine W_reg rfl fun G K hG hK => ?_; simp (disch := omega) only [go_sem, ↓reduceIte, Nat.reduceEqDiff, Nat.reduceAdd, Nat.reduceLeDiff, hG, e0, e3, e8, e58, l8, l8']
      refine w_call (l1Once_ok q xs _ 2 (by omega) (by omega) hdr2.cur) (by simp (disch := omega) only [go_sem, ↓reduceIte, Nat.reduceEqDiff, e0, e3, e8, e58, l8, l8']) ?hl ?_
      case hl => first | rfl | (simp only [go_sem, List.all_cons, List.all_nil, Bool.not_false, Bool.and_self, e0, e3, e8, e58, l8, l8']; done)
      rintro r_ sa ⟨⟨b, rfl⟩, hd, hl⟩; refine ⟨fun e => (by cases e), ?_⟩
      simp (disch := omega) only [go_sem, ↓reduceIte, Nat.reduceEqDiff, Nat.reduceAdd, Nat.reduceLeDiff, hG, e0, e3, e8, e58, l8, l8']; refine hK _ _ ?_; clear hK K hG G; repeat (first | refine thenI ?_ | refine thenE ?_ | refine thenR ?_ | refine inBI ?_ | refine inBR ?_ | refine inBS ?_ | refine inBN (by decide) ?_)
      have hdr3 := hdr2.trans hd
      cases b with
      | true =>
        repeat (first | (refine W_reg rfl fun G K hG hK => ?_; simp (disch := omega) only [go_sem, ↓reduceIte, Nat.reduceEqDiff, Nat.reduceAdd, Nat.reduceLeDiff, hG, e0, e3, e8, e58, l8, l8']; refine hK _ _ ?_; clear hK K hG G) | (refine W_end rfl fun G K hG hK => ?_; simp (disch := omega) only [go_sem, ↓reduceIte, Nat.reduceEqDiff, Nat.reduceAdd, Nat.reduceLeDiff, hG, e0, e3, e8, e58, l8, l8']; refine hK _ _ ?_; clear hK K hG G; repeat (first | refine thenI ?_ | refine thenE ?_ | refine thenR ?_ | refine inBI ?_ | refine inBR ?_ | refine inBS ?_ | refine inBN (by decide) ?_)) | refine W_seqS ?_ | refine W_seqC ?_ | refine W_seqB ?_ | refine W_block ?_ | (refine W_skip ?_; repeat (first | refine thenI ?_ | refine thenE ?_ | refine thenR ?_ | refine inBI ?_ | refine inBR ?_ | refine inBS ?_ | refine inBN (by decide) ?_)) | (refine W_condT ?hc ?_; (case hc => (simp (disch := omega) only [go_sem, ↓reduceIte, Nat.reduceEqDiff, Nat.reduceAdd, Nat.reduceLeDiff, e0, e3, e8, e58, l8, l8']; done))) | (refine W_condF ?hc ?_; (case hc => (simp (disch := omega) only [go_sem, ↓reduceIte, Nat.reduceEqDiff, Nat.reduceAdd, Nat.reduceLeDiff, e0, e3, e8, e58, l8, l8']; done))))
        (repeat (first | refine W_seqS ?_ | refine W_seqC ?_ | refine W_seqB ?_ | refine W_block ?_)); refine W_reg rfl fun G K hG hK => ?_; simp (disch := omega) only [go_sem, ↓reduceIte, Nat.reduceEqDiff, Nat.reduceAdd, Nat.reduceLeDiff, hG, e0, e3, e8, e58, l8, l8']
        refine w_call (l6Word1_ok q xs g sa hdr3.cur) (by simp (disch := omega) only [go_sem, ↓reduceIte, Nat.reduceEqDiff, e0, e3, e8, e58, l8, l8']) ?hl ?_
        case hl => first | rfl | (simp only [go_sem, List.all_cons, List.all_nil, Bool.not_false, Bool.and_self, e0, e3, e8, e58, l8, l8']; done)
        rintro r_ sb ⟨hd2, t, ds, L, rfl, ho, hf, hp⟩; refine ⟨fun e => (by cases e), ?_⟩
        simp (disch := omega) only [go_sem, ↓reduceIte, Nat.reduceEqDiff, Nat.reduceAdd, Nat.reduceLeDiff, e0, e3, e8, e58, l8, l8']
        refine w_call (l3One_ok ⟨#[110, 117, 109]⟩ t sb ds L ho) (by simp (disch := omega) only [go_sem, ↓reduceIte, Nat.reduceEqDiff, e0, e3, e8, e58, l8, l8']) ?hl ?_
        case hl => first | rfl | (simp only [go_sem, List.all_cons, List.all_nil, Bool.not_false, Bool.and_self, e0, e3, e8, e58, l8, l8']; done)
        rintro r_ sc ⟨x1, es, rfl, ho2⟩; refine ⟨fun e => (by cases e), ?_⟩
        obtain ⟨k1, n1, m1, s1, rfl, a1, a2, a3⟩ := ho2.args_cells
        simp (disch := omega) only [go_sem, ↓reduceIte, Nat.reduceEqDiff, Nat.reduceAdd, Nat.reduceLeDiff, hG, e0, e3, e8, e58, l8, l8', a1, a2, a3]; refine hK _ _ ?_; clear hK K hG G; repeat (first | refine thenI ?_ | refine thenE ?_ | refine thenR ?_ | refine inBI ?_ | refine inBR ?_ | refine inBS ?_ | refine inBN (by decide) ?_)
        refine W_ret ?_; try (repeat (first | refine thenI ?_ | refine thenE ?_ | refine thenR ?_ | refine inBI ?_ | refine inBR ?_ | refine inBS ?_ | refine inBN (by decide) ?_))
        refine finC (.inl rfl) (by (simp (disch := omega) only [go_sem, ↓reduceIte, Nat.reduceEqDiff, Nat.reduceAdd, Nat.reduceLeDiff, e0, e3, e8, e58, l8, l8', a1, a2, a3]); try rfl) ⟨(hdr3.trans hd2).ext2 x1, _, [_, _, _, _], _, rfl, ho2, (hf.mono hdr3.away.1).cons (Own.lt _ _ _ ho) (hdr3.trans hd2).away.1, plain_app 0 _ _ (fun a ha => by cases List.mem_singleton.1 ha; exact hp.1), ?_⟩
        have h0 := hp.2
        have h1 := two_le hd1
        simp only [T.wt, T.wtL, List.length_cons, List.length_nil]
        have h2 : (⟨#[110, 117, 109]⟩ : ByteArray).size = 3 := rfl
        omega
      | false =>
        repeat (first | (refine W_reg rfl fun G K hG hK => ?_; simp (disch := omega) only [go_sem, ↓reduceIte, Nat.reduceEqDiff, Nat.reduceAdd, Nat.reduceLeDiff, hG, e0, e3, e8, e58, l8, l8']; refine hK _ _ ?_; clear hK K hG G) | (refine W_end rfl fun G K hG hK => ?_; simp (disch := omega) only [go_sem, ↓reduceIte, Nat.reduceEqDiff, Nat.reduceAdd, Nat.reduceLeDiff, hG, e0, e3, e8, e58, l8, l8']; refine hK _ _ ?_; clear hK K hG G; repeat (first | refine thenI ?_ | refine thenE ?_ | refine thenR ?_ | refine inBI ?_ | refine inBR ?_ | refine inBS ?_ | refine inBN (by decide) ?_)) | refine W_seqS ?_ | refine W_seqC ?_ | refine W_seqB ?_ | refine W_block ?_ | (refine W_skip ?_; repeat (first | refine thenI ?_ | refine thenE ?_ | refine thenR ?_ | refine inBI ?_ | refine inBR ?_ | refine inBS ?_ | refine inBN (by decide) ?_)) | (refine W_condT ?hc ?_; (case hc => (simp (disch := omega) only [go_sem, ↓reduceIte, Nat.reduceEqDiff, Nat.reduceAdd, Nat.reduceLeDiff, e0, e3, e8, e58, l8, l8']; done))) | (refine W_condF ?hc ?_; (case hc => (simp (disch := omega) only [go_sem, ↓reduceIte, Nat.reduceEqDiff, Nat.reduceAdd, Nat.reduceLeDiff, e0, e3, e8, e58, l8, l8']; done))))
        (repeat (first | refine W_seqS ?_ | refine W_seqC ?_ | refine W_seqB ?_ | refine W_block ?_)); refine W_reg rfl fun G K hG hK => ?_; simp (disch := omega) only [go_sem, ↓reduceIte, Nat.reduceEqDiff, Nat.reduceAdd, Nat.reduceLeDiff, hG, e0, e3, e8, e58, l8, l8', bsL, fillK_cons, fillK_nil, Nat.reduceMul]
        refine w_call (l1Pick_lit q xs sa _ _ 2 hdr3.cur rfl (by simp) (by simp)) (by simp (disch := omega) only [go_sem, ↓reduceIte, Nat.reduceEqDiff, e0, e3, e8, e58, l8, l8']) ?hl ?_
        case hl => first | rfl | (simp only [go_sem, List.all_cons, List.all_nil, Bool.not_false, Bool.and_self, e0, e3, e8, e58, l8, l8']; done)
        rintro r_ sb ⟨⟨w, rfl, hw⟩, hd2, hl2⟩; refine ⟨fun e => (by cases e), ?_⟩
        simp (disch := omega) only [go_sem, ↓reduceIte, Nat.reduceEqDiff, Nat.reduceAdd, Nat.reduceLeDiff, e0, e3, e8, e58, l8, l8']
        refine w_call (l3App_ok w (.slice (some ⟨sb.length, 0, none⟩) 0 0) (sb ++ [⟨[], 26, 0⟩]) rfl rfl rfl) (by simp (disch := omega) only [go_sem, ↓reduceIte, Nat.reduceEqDiff, e0, e3, e8, e58, l8, l8']) ?hl ?_
        case hl => first | rfl | (simp only [go_sem, List.all_cons, List.all_nil, Bool.not_false, Bool.and_self, e0, e3, e8, e58, l8, l8']; done)
        rintro r_ sc ⟨rfl, rfl⟩; refine ⟨fun e => (by cases e), ?_⟩
        simp (disch := omega) only [go_sem, ↓reduceIte, Nat.reduceEqDiff, Nat.reduceAdd, Nat.reduceLeDiff, hG, e0, e3, e8, e58, l8, l8']; refine hK _ _ ?_; clear hK K hG G; repeat (first | refine thenI ?_ | refine thenE ?_ | refine thenR ?_ | refine inBI ?_ | refine inBR ?_ | refine inBS ?_ | refine inBN (by decide) ?_)
        refine W_ret ?_; try (repeat (first | refine thenI ?_ | refine thenE ?_ | refine thenR ?_ | refine inBI ?_ | refine inBR ?_ | refine inBS ?_ | refine inBN (by decide) ?_))
        refine finC (.inl rfl) (by (simp (disch := omega) only [go_sem, ↓reduceIte, Nat.reduceEqDiff, Nat.reduceAdd, Nat.reduceLeDiff, e0, e3, e8, e58, l8, l8']); try rfl) ⟨(hdr3.trans (.pre (Ext.app _ _) hd2)).ext2 (Ext.app _ _), .mk 2 0 w [], [_, _, _, _], [sb.length], rfl, Own.close _ _ _ (.inr ⟨sb.length, 0, [], [], rfl, by simp, .nil, rfl⟩), .one (Nat.le_trans hdr3.away.1 (by rw [hl2]; omega)), e_leaf hd1 (size_of_mem hw rfl) (plain_app 0 w [] (fun a ha => by cases ha))⟩
  | false =>
    have he := hb rfl
    obtain ⟨e, rfl⟩ : ∃ e, d = e + 1 := ⟨d - 1, by omega⟩
    have hsub : ((e + 1 : Nat) : Int) - 1 = (e : Nat) := by omega
    repeat (first | (refine W_reg rfl fun G K hG hK => ?_; simp (disch := omega) only [go_sem, ↓reduceIte, Nat.reduceEqDiff, Nat.reduceAdd, Nat.reduceLeDiff, hG, e0, e3, e8, l8, l8', e2, e52, l10]; refine hK _ _ ?_; clear hK K hG G) | (refine W_end rfl fun G K hG hK => ?_; simp (disch := omega) only [go_sem, ↓reduceIte, Nat.reduceEqDiff, Nat.reduceAdd, Nat.reduceLeDiff, hG, e0, e3, e8, l8, l8', e2, e52, l10]; refine hK _ _ ?_; clear hK K hG G; repeat (first | refine thenI ?_ | refine thenE ?_ | refine thenR ?_ | refine inBI ?_ | refine inBR ?_ | refine inBS ?_ | refine inBN (by decide) ?_)) | refine W_seqS ?_ | refine W_seqC ?_ | refine W_seqB ?_ | refine W_block ?_ | (refine W_skip ?_; repeat (first | refine thenI ?_ | refine thenE ?_ | refine thenR ?_ | refine inBI ?_ | refine inBR ?_ | refine inBS ?_ | refine inBN (by decide) ?_)) | (refine W_condT ?hc ?_; (case hc => (simp (disch := omega) only [go_sem, ↓reduceIte, Nat.reduceEqDiff, Nat.reduceAdd, Nat.reduceLeDiff, e0, e3, e8, l8, l8', e2, e52, l10]; done))) | (refine W_condF ?hc ?_; (case hc => (simp (disch := omega) only [go_sem, ↓reduceIte, Nat.reduceEqDiff, Nat.reduceAdd, Nat.reduceLeDiff, e0, e3, e8, l8, l8', e2, e52, l10]; done))))
    (repeat (first | refine W_seqS ?_ | refine W_seqC ?_ | refine W_seqB ?_ | refine W_block ?_)); refine W_reg rfl fun G K hG hK => ?_; simp (disch := omega) only [go_sem, ↓reduceIte, Nat.reduceEqDiff, Nat.reduceAdd, Nat.reduceLeDiff, hG, e0, e3, e8, l8, l8', e2, e52, l10, hsub]
    refine w_call (ih e rfl (by omega) _ hdr.cur) (by simp (disch := omega) only [go_sem, ↓reduceIte, Nat.reduceEqDiff, e0, e3, e8, l8, l8', e2, e52, l10, hsub]) ?hl ?_
    case hl => first | rfl | (simp only [go_sem, List.all_cons, List.all_nil, Bool.not_false, Bool.and_self, e0, e3, e8, l8, l8', e2, e52, l10, hsub]; done)
    rintro r_ sb ⟨hd2, t, ds, L, rfl, ho, hf, hp⟩; refine ⟨fun e => (by cases e), ?_⟩
    obtain ⟨k1, n1, m1, s1, rfl, a1, a2, a3⟩ := ho.args_cells
    simp (disch := omega) only [go_sem, ↓reduceIte, Nat.reduceEqDiff, Nat.reduceAdd, Nat.reduceLeDiff, hG, e0, e3, e8, l8, l8', e2, e52, l10, a1, a2, a3]; refine hK _ _ ?_; clear hK K hG G; repeat (first | refine thenI ?_ | refine thenE ?_ | refine thenR ?_ | refine inBI ?_ | refine inBR ?_ | refine inBS ?_ | refine inBN (by decide) ?_)
    have hdr2 := hdr.trans hd2
    (repeat (first | refine W_seqS ?_ | refine W_seqC ?_ | refine W_seqB ?_ | refine W_block ?_)); refine W_reg rfl fun G K hG hK => ?_; simp (disch := omega) only [go_sem, ↓reduceIte, Nat.reduceEqDiff, Nat.reduceAdd, Nat.reduceLeDiff, hG, e0, e3, e8, l8, l8', e2, e52, l10, a1, a2, a3]
    refine w_call (l1Below_ok q xs sb 3 (by omega) (by omega) hdr2.cur) (by simp (disch := omega) only [go_sem, ↓reduceIte, Nat.reduceEqDiff, e0, e3, e8, l8, l8', e2, e52, l10, a1, a2, a3]) ?hl ?_
    case hl => first | rfl | (simp only [go_sem, List.all_cons, List.all_nil, Bool.not_false, Bool.and_self, e0, e3, e8, l8, l8', e2, e52, l10, a1, a2, a3]; done)
    rintro r_ sc ⟨⟨x, rfl, hx0, hx1⟩, hd3, hl3⟩; refine ⟨fun e => (by cases e), ?_⟩
    simp (disch := omega) only [go_sem, ↓reduceIte, Nat.reduceEqDiff, Nat.reduceAdd, Nat.reduceLeDiff, hG, e0, e3, e8, l8, l8', e2, e52, l10, a1, a2, a3]; refine hK _ _ ?_; clear hK K hG G; repeat (first | refine thenI ?_ | refine thenE ?_ | refine thenR ?_ | refine inBI ?_ | refine inBR ?_ | refine inBS ?_ | refine inBN (by decide) ?_)
    have hdr3 := hdr2.trans hd3
    have hq0 : q < st'.length := Nat.lt_of_lt_of_le hq.lt hdr.away.1
    have ho' := hd3.own ho hf hq0
    have hlt := Own.lt _ _ _ ho'
    have hsz : (⟨#[103]⟩ : ByteArray).size = 1 ∧ (⟨#[104]⟩ : ByteArray).size = 1 ∧ (⟨#[102]⟩ : ByteArray).size = 1 := ⟨rfl, rfl, rfl⟩
    have hone : 1 ≤ 2 ^ e := Nat.one_le_two_pow
    have v10 : ((1 : Int) == 0) = false := by decide
    have v20 : ((2 : Int) == 0) = false := by decide
    have v21 : ((2 : Int) == 1) = false := by decide
    have hx : x = 0 ∨ x = 1 ∨ x = 2 := by omega
    rcases hx with rfl | rfl | rfl
    · repeat (first | (refine W_reg rfl fun G K hG hK => ?_; simp (disch := omega) only [go_sem, ↓reduceIte, Nat.reduceEqDiff, Nat.reduceAdd, Nat.reduceLeDiff, hG, e0, e3, e8, l8, l8', e2, e52, l10, a1, a2, a3, v10, v20, v21]; refine hK _ _ ?_; clear hK K hG G) | (refine W_end rfl fun G K hG hK => ?_; simp (disch := omega) only [go_sem, ↓reduceIte, Nat.reduceEqDiff, Nat.reduceAdd, Nat.reduceLeDiff, hG, e0, e3, e8, l8, l8', e2, e52, l10, a1, a2, a3, v10, v20, v21]; refine hK _ _ ?_; clear hK K hG G; repeat (first | refine thenI ?_ | refine thenE ?_ | refine thenR ?_ | refine inBI ?_ | refine inBR ?_ | refine inBS ?_ | refine inBN (by decide) ?_)) | refine W_seqS ?_ | refine W_seqC ?_ | refine W_seqB ?_ | refine W_block ?_ | (refine W_skip ?_; repeat (first | refine thenI ?_ | refine thenE ?_ | refine thenR ?_ | refine inBI ?_ | refine inBR ?_ | refine inBS ?_ | refine inBN (by decide) ?_)) | (refine W_condT ?hc ?_; (case hc => (simp (disch := omega) only [go_sem, ↓reduceIte, Nat.reduceEqDiff, Nat.reduceAdd, Nat.reduceLeDiff, e0, e3, e8, l8, l8', e2, e52, l10, a1, a2, a3, v10, v20, v21]; done))) | (refine W_condF ?hc ?_; (case hc => (simp (disch := omega) only [go_sem, ↓reduceIte, Nat.reduceEqDiff, Nat.reduceAdd, Nat.reduceLeDiff, e0, e3, e8, l8, l8', e2, e52, l10, a1, a2, a3, v10, v20, v21]; done))))
      (repeat (first | refine W_seqS ?_ | refine W_seqC ?_ | refine W_seqB ?_ | refine W_block ?_)); refine W_reg rfl fun G K hG hK => ?_; simp (disch := omega) only [go_sem, ↓reduceIte, Nat.reduceEqDiff, Nat.reduceAdd, Nat.reduceLeDiff, hG, e0, e3, e8, l8, l8', e2, e52, l10, a1, a2, a3, v10, v20, v21]
      refine w_call (l3One_ok ⟨#[103]⟩ t sc [.int .i64 k1, .int .i64 n1, .string m1, s1] L ho') (by simp (disch := omega) only [go_sem, ↓reduceIte, Nat.reduceEqDiff, e0, e3, e8, l8, l8', e2, e52, l10, a1, a2, a3, v10, v20, v21]) ?hl ?_
      case hl => first | rfl | (simp only [go_sem, List.all_cons, List.all_nil, Bool.not_false, Bool.and_self, e0, e3, e8, l8, l8', e2, e52, l10, a1, a2, a3, v10, v20, v21]; done)
      rintro r_ sd ⟨x1, es, rfl, ho2⟩; refine ⟨fun e => (by cases e), ?_⟩
      obtain ⟨k2, n2, m2, s2, rfl, b1, b2, b3⟩ := ho2.args_cells
      simp (disch := omega) only [go_sem, ↓reduceIte, Nat.reduceEqDiff, Nat.reduceAdd, Nat.reduceLeDiff, hG, e0, e3, e8, l8, l8', e2, e52, l10, a1, a2, a3, v10, v20, v21, b1, b2, b3]; refine hK _ _ ?_; clear hK K hG G; repeat (first | refine thenI ?_ | refine thenE ?_ | refine thenR ?_ | refine inBI ?_ | refine inBR ?_ | refine inBS ?_ | refine inBN (by decide) ?_)
      refine W_ret ?_; try (repeat (first | refine thenI ?_ | refine thenE ?_ | refine thenR ?_ | refine inBI ?_ | refine inBR ?_ | refine inBS ?_ | refine inBN (by decide) ?_))
      refine finC (.inl rfl) (by (simp (disch := omega) only [go_sem, ↓reduceIte, Nat.reduceEqDiff, Nat.reduceAdd, Nat.reduceLeDiff, e0, e3, e8, l8, l8', e2, e52, l10, a1, a2, a3, v10, v20, v21, b1, b2, b3]); try rfl) ⟨hdr3.ext2 x1, _, [_, _, _, _], _, rfl, ho2, (hf.mono hdr.away.1).cons hlt hdr3.away.1, plain_app 0 _ _ (fun a ha => by cases List.mem_singleton.1 ha; exact hp.1), ?_⟩
      have := hp.2
      simp only [T.wt, T.wtL, List.length_cons, List.length_nil, Nat.pow_succ]
      omega
    · repeat (first | (refine W_reg rfl fun G K hG hK => ?_; simp (disch := omega) only [go_sem, ↓reduceIte, Nat.reduceEqDiff, Nat.reduceAdd, Nat.reduceLeDiff, hG, e0, e3, e8, l8, l8', e2, e52, l10, a1, a2, a3, v10, v20, v21]; refine hK _ _ ?_; clear hK K hG G) | (refine W_end rfl fun G K hG hK => ?_; simp (disch := omega) only [go_sem, ↓reduceIte, Nat.reduceEqDiff, Nat.reduceAdd, Nat.reduceLeDiff, hG, e0, e3, e8, l8, l8', e2, e52, l10, a1, a2, a3, v10, v20, v21]; refine hK _ _ ?_; clear hK K hG G; repeat (first | refine thenI ?_ | refine thenE ?_ | refine thenR ?_ | refine inBI ?_ | refine inBR ?_ | refine inBS ?_ | refine inBN (by decide) ?_)) | refine W_seqS ?_ | refine W_seqC ?_ | refine W_seqB ?_ | refine W_block ?_ | (refine W_skip ?_; repeat (first | refine thenI ?_ | refine thenE ?_ | refine thenR ?_ | refine inBI ?_ | refine inBR ?_ | refine inBS ?_ | refine inBN (by decide) ?_)) | (refine W_condT ?hc ?_; (case hc => (simp (disch := omega) only [go_sem, ↓reduceIte, Nat.reduceEqDiff, Nat.reduceAdd, Nat.reduceLeDiff, e0, e3, e8, l8, l8', e2, e52, l10, a1, a2, a3, v10, v20, v21]; done))) | (refine W_condF ?hc ?_; (case hc => (simp (disch := omega) only [go_sem, ↓reduceIte, Nat.reduceEqDiff, Nat.reduceAdd, Nat.reduceLeDiff, e0, e3, e8, l8, l8', e2, e52, l10, a1, a2, a3, v10, v20, v21]; done))))
      (repeat (first | refine W_seqS ?_ | refine W_seqC ?_ | refine W_seqB ?_ | refine W_block ?_)); refine W_regL mixed [10] [] [5, 6] [[(0, false), (1, false), (2, false), (3, false), (4, false), (5, false), (6, false), (7, false)]] rfl (by decide +kernel) (by intro t ht; simp only [List.mem_cons, List.not_mem_nil, or_false] at ht; (rcases ht with rfl) <;> (first | (simp only [e0, e3, e8, l8, l8', e2, e52, l10, a1, a2, a3, v10, v20, v21]; done) | (simp only [e0, e3, e8, l8, l8', e2, e52, l10, a1, a2, a3, v10, v20, v21]; rfl))) fun G K hG hK => (fm_cons ?_ fm_nil)
      simp only [pickOps, List.filterMap_cons, List.filterMap_nil, List.getElem?_cons_zero, List.getElem?_cons_succ, Option.map_some]; simp (disch := omega) only [go_sem, ↓reduceIte, Nat.reduceEqDiff, Nat.reduceAdd, Nat.reduceLeDiff, hG, e0, e3, e8, l8, l8', e2, e52, l10, a1, a2, a3, v10, v20, v21, hsub]
      refine w_call (l6Word_ok q xs g e (by omega) (by omega) sc hdr3.cur) (by simp (disch := omega) only [go_sem, ↓reduceIte, Nat.reduceEqDiff, e0, e3, e8, l8, l8', e2, e52, l10, a1, a2, a3, v10, v20, v21, hsub]) ?hl ?_
      case hl => first | rfl | (simp only [go_sem, List.all_cons, List.all_nil, Bool.not_false, Bool.and_self, e0, e3, e8, l8, l8', e2, e52, l10, a1, a2, a3, v10, v20, v21, hsub]; done)
      rintro r_ sd ⟨hd4, t2, ds2, L2, rfl, ho2, hf2, hp2⟩; refine ⟨fun e => (by cases e), ?_⟩
      have hoA := hd4.own ho' hf hq0
      simp (disch := omega) only [go_sem, ↓reduceIte, Nat.reduceEqDiff, Nat.reduceAdd, Nat.reduceLeDiff, e0, e3, e8, l8, l8', e2, e52, l10, a1, a2, a3, v10, v20, v21]
      refine w_call (l3Pair_ok ⟨#[104]⟩ t t2 sd [.int .i64 k1, .int .i64 n1, .string m1, s1] ds2 L L2 hoA ho2) (by simp (disch := omega) only [go_sem, ↓reduceIte, Nat.reduceEqDiff, e0, e3, e8, l8, l8', e2, e52, l10, a1, a2, a3, v10, v20, v21]) ?hl ?_
      case hl => first | rfl | (simp only [go_sem, List.all_cons, List.all_nil, Bool.not_false, Bool.and_self, e0, e3, e8, l8, l8', e2, e52, l10, a1, a2, a3, v10, v20, v21]; done)
      rintro r_ se ⟨x1, es, rfl, ho3⟩; refine ⟨fun e => (by cases e), ?_⟩
      obtain ⟨k3, n3, m3, s3, rfl, b1, b2, b3⟩ := ho3.args_cells
      simp (disch := omega) only [go_sem, ↓reduceIte, Nat.reduceEqDiff, Nat.reduceAdd, Nat.reduceLeDiff, hG, e0, e3, e8, l8, l8', e2, e52, l10, a1, a2, a3, v10, v20, v21, b1, b2, b3]; refine hK _ _ ?_; clear hK K hG G; repeat (first | refine thenI ?_ | refine thenE ?_ | refine thenR ?_ | refine inBI ?_ | refine inBR ?_ | refine inBS ?_ | refine inBN (by decide) ?_)
      have hl5 := hd4.away.1
      have hl6 := hdr3.away.1
      refine W_ret ?_; try (repeat (first | refine thenI ?_ | refine thenE ?_ | refine thenR ?_ | refine inBI ?_ | refine inBR ?_ | refine inBS ?_ | refine inBN (by decide) ?_))
      refine finC (.inl rfl) (by (simp (disch := omega) only [go_sem, ↓reduceIte, Nat.reduceEqDiff, Nat.reduceAdd, Nat.reduceLeDiff, e0, e3, e8, l8, l8', e2, e52, l10, a1, a2, a3, v10, v20, v21, b1, b2, b3]); try rfl) ⟨((hdr3.trans hd4).ext2 x1), _, [_, _, _, _], _, rfl, ho3, ((hf.mono hdr.away.1).app hf2 hlt hl6).cons (fun i hi => ?_) (by omega), plain_app 0 _ _ (fun a ha => ?_), ?_⟩
      · rcases List.mem_append.1 hi with hi | hi
        · have := hlt i hi; omega
        · exact Own.lt _ _ _ ho2 i hi
      · rcases List.mem_cons.1 ha with rfl | ha
        · exact hp.1
        · cases List.mem_singleton.1 ha; exact hp2.1
      · have h1 := hp.2
        have h2 := hp2.2
        simp only [T.wt, T.wtL, List.length_cons, List.length_nil, Nat.pow_succ]
        omega
    · repeat (first | (refine W_reg rfl fun G K hG hK => ?_; simp (disch := omega) only [go_sem, ↓reduceIte, Nat.reduceEqDiff, Nat.reduceAdd, Nat.reduceLeDiff, hG, e0, e3, e8, l8, l8', e2, e52, l10, a1, a2, a3, v10, v20, v21]; refine hK _ _ ?_; clear hK K hG G) | (refine W_end rfl fun G K hG hK => ?_; simp (disch := omega) only [go_sem, ↓reduceIte, Nat.reduceEqDiff, Nat.reduceAdd, Nat.reduceLeDiff, hG, e0, e3, e8, l8, l8', e2, e52, l10, a1, a2, a3, v10, v20, v21]; refine hK _ _ ?_; clear hK K hG G; repeat (first | refine thenI ?_ | refine thenE ?_ | refine thenR ?_ | refine inBI ?_ | refine inBR ?_ | refine inBS ?_ | refine inBN (by decide) ?_)) | refine W_seqS ?_ | refine W_seqC ?_ | refine W_seqB ?_ | refine W_block ?_ | (refine W_skip ?_; repeat (first | refine thenI ?_ | refine thenE ?_ | refine thenR ?_ | refine inBI ?_ | refine inBR ?_ | refine inBS ?_ | refine inBN (by decide) ?_)) | (refine W_condT ?hc ?_; (case hc => (simp (disch := omega) only [go_sem, ↓reduceIte, Nat.reduceEqDiff, Nat.reduceAdd, Nat.reduceLeDiff, e0, e3, e8, l8, l8', e2, e52, l10, a1, a2, a3, v10, v20, v21]; done))) | (refine W_condF ?hc ?_; (case hc => (simp (disch := omega) only [go_sem, ↓reduceIte, Nat.reduceEqDiff, Nat.reduceAdd, Nat.reduceLeDiff, e0, e3, e8, l8, l8', e2, e52, l10, a1, a2, a3, v10, v20, v21]; done))))
      (repeat (first | refine W_seqS ?_ | refine W_seqC ?_ | refine W_seqB ?_ | refine W_block ?_)); refine W_regL mixed [10] [] [5, 6] [[(0, false), (1, false), (2, false), (3, false), (4, false), (5, false), (6, false), (7, false)]] rfl (by decide +kernel) (by intro t ht; simp only [List.mem_cons, List.not_mem_nil, or_false] at ht; (rcases ht with rfl) <;> (first | (simp only [e0, e3, e8, l8, l8', e2, e52, l10, a1, a2, a3, v10, v20, v21]; done) | (simp only [e0, e3, e8, l8, l8', e2, e52, l10, a1, a2, a3, v10, v20, v21]; rfl))) fun G K hG hK => (fm_cons ?_ fm_nil)
      simp only [pickOps, List.filterMap_cons, List.filterMap_nil, List.getElem?_cons_zero, List.getElem?_cons_succ, Option.map_some]; simp (disch := omega) only [go_sem, ↓reduceIte, Nat.reduceEqDiff, Nat.reduceAdd, Nat.reduceLeDiff, hG, e0, e3, e8, l8, l8', e2, e52, l10, a1, a2, a3, v10, v20, v21, hsub]
      refine w_call (ih e rfl (by omega) sc hdr3.cur) (by simp (disch := omega) only [go_sem, ↓reduceIte, Nat.reduceEqDiff, e0, e3, e8, l8, l8', e2, e52, l10, a1, a2, a3, v10, v20, v21, hsub]) ?hl ?_
      case hl => first | rfl | (simp only [go_sem, List.all_cons, List.all_nil, Bool.not_false, Bool.and_self, e0, e3, e8, l8, l8', e2, e52, l10, a1, a2, a3, v10, v20, v21, hsub]; done)
      rintro r_ sd ⟨hd4, t2, ds2, L2, rfl, ho2, hf2, hp2⟩; refine ⟨fun e => (by cases e), ?_⟩
      have hoA := hd4.own ho' hf hq0
      simp (disch := omega) only [go_sem, ↓reduceIte, Nat.reduceEqDiff, Nat.reduceAdd, Nat.reduceLeDiff, e0, e3, e8, l8, l8', e2, e52, l10, a1, a2, a3, v10, v20, v21]
      refine w_call (l3Pair_ok ⟨#[102]⟩ t t2 sd [.int .i64 k1, .int .i64 n1, .string m1, s1] ds2 L L2 hoA ho2) (by simp (disch := omega) only [go_sem, ↓reduceIte, Nat.reduceEqDiff, e0, e3, e8, l8, l8', e2, e52, l10, a1, a2, a3, v10, v20, v21]) ?hl ?_
      case hl => first | rfl | (simp only [go_sem, List.all_cons, List.all_nil, Bool.not_false, Bool.and_self, e0, e3, e8, l8, l8', e2, e52, l10, a1, a2, a3, v10, v20, v21]; done)
      rintro r_ se ⟨x1, es, rfl, ho3⟩; refine ⟨fun e => (by cases e), ?_⟩
      obtain ⟨k3, n3, m3, s3, rfl, b1, b2, b3⟩ := ho3.args_cells
      simp (disch := omega) only [go_sem, ↓reduceIte, Nat.reduceEqDiff, Nat.reduceAdd, Nat.reduceLeDiff, hG, e0, e3, e8, l8, l8', e2, e52, l10, a1, a2, a3, v10, v20, v21, b1, b2, b3]; refine hK _ _ ?_; clear hK K hG G; repeat (first | refine thenI ?_ | refine thenE ?_ | refine thenR ?_ | refine inBI ?_ | refine inBR ?_ | refine inBS ?_ | refine inBN (by decide) ?_)
      have hl5 := hd4.away.1
      have hl6 := hdr3.away.1
      refine W_ret ?_; try (repeat (first | refine thenI ?_ | refine thenE ?_ | refine thenR ?_ | refine inBI ?_ | refine inBR ?_ | refine inBS ?_ | refine inBN (by decide) ?_))
      refine finC (.inl rfl) (by (simp (disch := omega) only [go_sem, ↓reduceIte, Nat.reduceEqDiff, Nat.reduceAdd, Nat.reduceLeDiff, e0, e3, e8, l8, l8', e2, e52, l10, a1, a2, a3, v10, v20, v21, b1, b2, b3]); try rfl) ⟨((hdr3.trans hd4).ext2 x1), _, [_, _, _, _], _, rfl, ho3, ((hf.mono hdr.away.1).app hf2 hlt hl6).cons (fun i hi => ?_) (by omega), plain_app 0 _ _ (fun a ha => ?_), ?_⟩
      · rcases List.mem_append.1 hi with hi | hi
        · have := hlt i hi; omega
        · exact Own.lt _ _ _ ho2 i hi
      · rcases List.mem_cons.1 ha with rfl | ha
        · exact hp.1
        · cases List.mem_singleton.1 ha; exact hp2.1
      · have h1 := hp.2
        have h2 := hp2.2
        simp only [T.wt, T.wtL, List.length_cons, List.length_nil, Nat.pow_succ]
        omega
theorem e_ne_word : ((⟨#[101]⟩ : ByteArray).toList == (⟨#[119, 111, 114, 100]⟩ : ByteArray).toList) = false := by decide +kernel
theorem l6E_ok (q : Nat) (xs : List Byt) (g : Bool) : ∀ (d : Nat), 1 ≤ d → d ≤ 10 → ∀ (st : St), Cur st q xs → CallS Try.prog 19 [.pointer (some ⟨q, 0, none⟩), .string ⟨#[101]⟩, .int .i64 (d : Nat), .bool g] st (DrawT q xs st (EP d)) := by
  intro d
  induction d with
  | zero => intro h1; omega
  | succ d ih => intro h1 h st hq; exact l6E_of q xs g _ e_ne_word (d + 1) h1 h st hq fun e he h1 st hq => (by
    obtain rfl : d = e := by omega
    exact ih h1 (by omega) st hq)
theorem l6E2_ok (q : Nat) (xs : List Byt) (g : Bool) (st : St) (hq : Cur st q xs) : CallS Try.prog 19 [.pointer (some ⟨q, 0, none⟩), .string ⟨#[101]⟩, .int .i64 2, .bool g] st (DrawT q xs st (EP 2)) := l6E_ok q xs g 2 (by omega) (by omega) st hq
theorem l6E4_ok (q : Nat) (xs : List Byt) (g : Bool) (st : St) (hq : Cur st q xs) : CallS Try.prog 19 [.pointer (some ⟨q, 0, none⟩), .string ⟨#[101]⟩, .int .i64 4, .bool g] st (DrawT q xs st (EP 4)) := l6E_ok q xs g 4 (by omega) (by omega) st hq
end Go.Proofs.Ytfckojbllbdejaa.AM


/- Rows of numbers: laws.toIntS, laws.eqIntS, laws.markIntS, laws.heldIntS. -/
namespace Go.Proofs.Ytfckojbllbdejaa.AM
open Go Go.Proofs
set_option linter.unusedVariables false
set_option linter.unusedSimpArgs false
set_option maxRecDepth 100000
attribute [local go_sem] List.map_cons List.map_nil List.all_cons List.all_nil Bool.and_self Option.map_some List.getElem?_toArray Option.bind_some gye_b gye_t gsk_b gsk_t gb1 gb2 gb3 gb4 bne_self_eq_false beq_self_eq_true w_guard w_nil stepV_some step_some step_some' w_move w_assign w_pick w_binOp w_unOp w_load w_fieldAddr w_indexAddr w_len w_max w_index ev_max max_int ev_index w_box w_alloc w_store w_field w_extract w_nilCheck w_convert w_buildSlice w_build ev_buildL fillL_nil fillL_cons bs0 bs1 ev_conv ev_bin ev_un ev_pick ev_load ev_fieldAddr ev_indexAddr ev_len ev_field ev_extract ev_nilCheck fr_tmp fr_int fr_bool fr_str fr_nil fr_func put_some put_none bin_lss bin_leq bin_gtr bin_geq bin_eql bin_neq bin_add bin_sub bin_mul bin_seql bin_sneq un_not pick_ ext_ loadA_p cellAt_l cellAt_h okPtr_l okPtr_h fadA_p allocA_l storeA_l cells_agg cells_int cells_str cells_sl cells_bool flat_i flat_s flat_b flat_sl flat_nil loc_agg loc_int loc_str loc_sl loc_bool loc_fn loc_ptr okv_agg okv_int okv_str okv_sl okv_bool cellsFrom splice upd_eval argEnv_zero argEnv_succ ne_eq Nat.add_one_ne_zero not_false_eq_true List.not_mem_nil and_self decide_true List.getElem?_cons_zero List.getElem?_cons_succ List.size_toArray List.length_cons List.length_nil List.take_succ_cons List.take_zero List.drop_succ_cons List.drop_zero List.cons_append List.nil_append List.drop_nil Bool.not_true Bool.not_false Bool.false_eq_true Nat.zero_add Nat.add_zero wrap_in List.toList_toArray List.mem_cons or_self or_false false_or
attribute [local go_sem] ag22 ag24 ag26 ag3 ag31 ag5 ag9 bu26 bu31 bu51 by26 by9 el22 el24 el42 el45 of26_0 of26_1 of26_2 of26_3 of31_0 of31_1 of31_2 of51_0 of51_1 of51_2 ro26_0 ro26_1 ro26_2 ro3_3 ro9_0 ro9_1 ro9_2 ro9_3 ro9_4 sz22 sz24 sz26 sz3 sz31 sz5 sz9 ze26 ze31 ze9
-- AUTO

theorem row_atI {st : St} {xs : List Int} {s : Value} (h : Rw st xs s) {j : Nat} {x : Int} (hx : xs[j]? = some x) {n : Nat} (hn : xs.length = n := by rfl) : ∃ i o c, s = .slice (some ⟨i, o, none⟩) n c ∧ cell st i (o + j * 1) = some (.int .i64 x) := by
  subst hn
  obtain ⟨i, o, c, cs, rfl, _, rfl, hc⟩ := row_at h hx
  exact ⟨i, o, c, rfl, hc 0 _ rfl⟩

theorem mkL_ints (xs : List Int) (k : Nat) : (mkL xs k).2 = k + xs.length := by
  induction xs generalizing k with
  | nil => rfl
  | cons x xs ih => simp only [mkL, ih, List.length_cons, Marks.mk1]; omega

end Go.Proofs.Ytfckojbllbdejaa.AM


/- Subterms: impl.at, impl.TermAt, spec.TermAt. -/
namespace Go.Proofs.Ytfckojbllbdejaa.AM
open Go Go.Proofs
set_option linter.unusedVariables false
set_option linter.unusedSimpArgs false
set_option maxRecDepth 100000
attribute [local go_sem] List.map_cons List.map_nil List.all_cons List.all_nil Bool.and_self Option.map_some List.getElem?_toArray Option.bind_some gye_b gye_t gsk_b gsk_t gb1 gb2 gb3 gb4 bne_self_eq_false beq_self_eq_true w_guard w_nil stepV_some step_some step_some' w_move w_assign w_pick w_binOp w_unOp w_load w_fieldAddr w_indexAddr w_len w_max w_index ev_max max_int ev_index w_box w_alloc w_store w_field w_extract w_nilCheck w_convert w_buildSlice w_build ev_buildL fillL_nil fillL_cons bs0 bs1 ev_conv ev_bin ev_un ev_pick ev_load ev_fieldAddr ev_indexAddr ev_len ev_field ev_extract ev_nilCheck fr_tmp fr_int fr_bool fr_str fr_nil fr_func put_some put_none bin_lss bin_leq bin_gtr bin_geq bin_eql bin_neq bin_add bin_sub bin_mul bin_seql bin_sneq un_not pick_ ext_ loadA_p cellAt_l cellAt_h okPtr_l okPtr_h fadA_p allocA_l storeA_l cells_agg cells_int cells_str cells_sl cells_bool flat_i flat_s flat_b flat_sl flat_nil loc_agg loc_int loc_str loc_sl loc_bool loc_fn loc_ptr okv_agg okv_int okv_str okv_sl okv_bool cellsFrom splice upd_eval argEnv_zero argEnv_succ ne_eq Nat.add_one_ne_zero not_false_eq_true List.not_mem_nil and_self decide_true List.getElem?_cons_zero List.getElem?_cons_succ List.size_toArray List.length_cons List.length_nil List.take_succ_cons List.take_zero List.drop_succ_cons List.drop_zero List.cons_append List.nil_append List.drop_nil Bool.not_true Bool.not_false Bool.false_eq_true Nat.zero_add Nat.add_zero wrap_in List.toList_toArray List.mem_cons or_self or_false false_or
attribute [local go_sem] ag22 ag24 ag26 ag3 ag31 ag5 ag9 bu26 bu31 bu51 by26 by9 el22 el24 el42 el45 of26_0 of26_1 of26_2 of26_3 of31_0 of31_1 of31_2 of51_0 of51_1 of51_2 ro26_0 ro26_1 ro26_2 ro3_3 ro9_0 ro9_1 ro9_2 ro9_3 ro9_4 sz22 sz24 sz26 sz3 sz31 sz5 sz9 ze26 ze31 ze9
-- AUTO

def T.zero : T := .mk 0 0 ⟨#[]⟩ []
def T.args : T → List T
  | .mk _ _ _ args => args
/-- The subterm at a position. -/
def T.at : List Int → T → Option T
  | [], t => some t
  | i :: p, t => if 0 ≤ i ∧ i < (t.args.length : Int) then (match t.args[i.toNat]? with
    | some x => T.at p x
    | none => none) else none
def T.atD (p : List Int) (t : T) : T := (T.at p t).getD T.zero

theorem T.at_in {p : List Int} {t x : T} {i : Int} (h0 : 0 ≤ i) (h1 : i < (t.args.length : Int)) (hx : t.args[i.toNat]? = some x) : T.at (i :: p) t = T.at p x := by
  simp only [T.at, h0, h1, and_self, if_true, hx]
theorem T.at_out {p : List Int} {t : T} {i : Int} (h : i < 0 ∨ (t.args.length : Int) ≤ i) : T.at (i :: p) t = none := by
  simp only [T.at]
  rw [if_neg (by omega)]
theorem T.at_sub {P : T → Prop} (hP : ∀ t x, P t → x ∈ t.args → P x) : ∀ (p : List Int) (t x : T), P t → T.at p t = some x → P x := by
  intro p
  induction p with
  | nil => intro t x ht h; simp only [T.at, Option.some.injEq] at h; subst h; exact ht
  | cons i p ih =>
    intro t x ht h
    simp only [T.at] at h
    split at h
    · split at h
      · rename_i y hy; exact ih y x (hP t y ht (List.mem_of_getElem? hy)) h
      · cases h
    · cases h
theorem T.at_append (p q : List Int) : ∀ t, T.at (p ++ q) t = (T.at p t).bind (T.at q) := by
  induction p with
  | nil => intro t; rfl
  | cons i p ih =>
    intro t
    simp only [List.cons_append, T.at]
    split
    · split
      · exact ih _
      · rfl
    · rfl
theorem own_zero {e : TypeId} (st : St) : Own e st T.zero [.int .i64 0, .int .i64 0, .string ⟨#[]⟩, .slice none 0 0] [] := .nil _ _ _
theorem enc_zero (st : St) : Enc st T.zero [.int .i64 0, .int .i64 0, .string ⟨#[]⟩, .slice none 0 0] := .nil _ _ _ _ (.inl rfl)
theorem Lim.zero {B : Nat} : Lim B T.zero := .mk _ _ _ _ (by simp) (by simp)
theorem Lim.arg {B : Nat} (t x : T) (h : Lim B t) (hx : x ∈ t.args) : Lim B x := by cases t; exact h.args.2 x hx
theorem Lim.atD {B : Nat} {t : T} (p : List Int) (h : Lim B t) : Lim B (T.atD p t) := by
  unfold T.atD
  cases hx : T.at p t with
  | none => exact .zero
  | some x => exact T.at_sub Lim.arg p t x h hx

theorem T.wt_arg {t x : T} (h : x ∈ t.args) : x.wt ≤ t.wt := by
  obtain ⟨k, n, nm, args⟩ := t
  have h1 := T.wt_mem (show x ∈ args from h)
  simp only [T.wt]
  omega
theorem T.wt_atD (p : List Int) (t : T) : (T.atD p t).wt ≤ t.wt := by
  unfold T.atD
  cases hx : T.at p t with
  | none => simp [T.zero, T.wt, T.wtL, ByteArray.size]
  | some x => exact T.at_sub (P := fun y => y.wt ≤ t.wt) (fun y z hy hz => Nat.le_trans (T.wt_arg hz) hy) p t x (Nat.le_refl _) hx

end Go.Proofs.Ytfckojbllbdejaa.AM


/- slices.Clone. -/
namespace Go.Proofs.Ytfckojbllbdejaa.AM
open Go Go.Proofs
set_option linter.unusedVariables false
set_option linter.unusedSimpArgs false
set_option maxRecDepth 100000
attribute [local go_sem] List.map_cons List.map_nil List.all_cons List.all_nil Bool.and_self Option.map_some List.getElem?_toArray Option.bind_some gye_b gye_t gsk_b gsk_t gb1 gb2 gb3 gb4 bne_self_eq_false beq_self_eq_true w_guard w_nil stepV_some step_some step_some' w_move w_assign w_pick w_binOp w_unOp w_load w_fieldAddr w_indexAddr w_len w_max w_index ev_max max_int ev_index w_box w_alloc w_store w_field w_extract w_nilCheck w_convert w_buildSlice w_build ev_buildL fillL_nil fillL_cons bs0 bs1 ev_conv ev_bin ev_un ev_pick ev_load ev_fieldAddr ev_indexAddr ev_len ev_field ev_extract ev_nilCheck fr_tmp fr_int fr_bool fr_str fr_nil fr_func put_some put_none bin_lss bin_leq bin_gtr bin_geq bin_eql bin_neq bin_add bin_sub bin_mul bin_seql bin_sneq un_not pick_ ext_ loadA_p cellAt_l cellAt_h okPtr_l okPtr_h fadA_p allocA_l storeA_l cells_agg cells_int cells_str cells_sl cells_bool flat_i flat_s flat_b flat_sl flat_nil loc_agg loc_int loc_str loc_sl loc_bool loc_fn loc_ptr okv_agg okv_int okv_str okv_sl okv_bool cellsFrom splice upd_eval argEnv_zero argEnv_succ ne_eq Nat.add_one_ne_zero not_false_eq_true List.not_mem_nil and_self decide_true List.getElem?_cons_zero List.getElem?_cons_succ List.size_toArray List.length_cons List.length_nil List.take_succ_cons List.take_zero List.drop_succ_cons List.drop_zero List.cons_append List.nil_append List.drop_nil Bool.not_true Bool.not_false Bool.false_eq_true Nat.zero_add Nat.add_zero wrap_in List.toList_toArray List.mem_cons or_self or_false false_or
attribute [local go_sem] ag22 ag24 ag26 ag3 ag31 ag5 ag9 bu26 bu31 bu51 by26 by9 el22 el24 el42 el45 of26_0 of26_1 of26_2 of26_3 of31_0 of31_1 of31_2 of51_0 of51_1 of51_2 ro26_0 ro26_1 ro26_2 ro3_3 ro9_0 ro9_1 ro9_2 ro9_3 ro9_4 sz22 sz24 sz26 sz3 sz31 sz5 sz9 ze26 ze31 ze9
-- AUTO

end Go.Proofs.Ytfckojbllbdejaa.AM


/- A subterm is put: impl.withArg, impl.put, impl.ReplaceAt, spec.l4Put, spec.ReplaceAt. -/
namespace Go.Proofs.Ytfckojbllbdejaa.AM
open Go Go.Proofs
set_option linter.unusedVariables false
set_option linter.unusedSimpArgs false
set_option maxRecDepth 100000
attribute [local go_sem] List.map_cons List.map_nil List.all_cons List.all_nil Bool.and_self Option.map_some List.getElem?_toArray Option.bind_some gye_b gye_t gsk_b gsk_t gb1 gb2 gb3 gb4 bne_self_eq_false beq_self_eq_true w_guard w_nil stepV_some step_some step_some' w_move w_assign w_pick w_binOp w_unOp w_load w_fieldAddr w_indexAddr w_len w_max w_index ev_max max_int ev_index w_box w_alloc w_store w_field w_extract w_nilCheck w_convert w_buildSlice w_build ev_buildL fillL_nil fillL_cons bs0 bs1 ev_conv ev_bin ev_un ev_pick ev_load ev_fieldAddr ev_indexAddr ev_len ev_field ev_extract ev_nilCheck fr_tmp fr_int fr_bool fr_str fr_nil fr_func put_some put_none bin_lss bin_leq bin_gtr bin_geq bin_eql bin_neq bin_add bin_sub bin_mul bin_seql bin_sneq un_not pick_ ext_ loadA_p cellAt_l cellAt_h okPtr_l okPtr_h fadA_p allocA_l storeA_l cells_agg cells_int cells_str cells_sl cells_bool flat_i flat_s flat_b flat_sl flat_nil loc_agg loc_int loc_str loc_sl loc_bool loc_fn loc_ptr okv_agg okv_int okv_str okv_sl okv_bool cellsFrom splice upd_eval argEnv_zero argEnv_succ ne_eq Nat.add_one_ne_zero not_false_eq_true List.not_mem_nil and_self decide_true List.getElem?_cons_zero List.getElem?_cons_succ List.size_toArray List.length_cons List.length_nil List.take_succ_cons List.take_zero List.drop_succ_cons List.drop_zero List.cons_append List.nil_append List.drop_nil Bool.not_true Bool.not_false Bool.false_eq_true Nat.zero_add Nat.add_zero wrap_in List.toList_toArray List.mem_cons or_self or_false false_or
attribute [local go_sem] ag22 ag24 ag26 ag3 ag31 ag5 ag9 bu26 bu31 bu51 by26 by9 el22 el24 el42 el45 of26_0 of26_1 of26_2 of26_3 of31_0 of31_1 of31_2 of51_0 of51_1 of51_2 ro26_0 ro26_1 ro26_2 ro3_3 ro9_0 ro9_1 ro9_2 ro9_3 ro9_4 sz22 sz24 sz26 sz3 sz31 sz5 sz9 ze26 ze31 ze9
-- AUTO

/-- A row of terms that are read, in a block of its own. -/
abbrev ShT (s0 st : St) (xs : List T) (s : Value) (L : List Nat) : Prop := SliceO (Shr (Enc s0)) 26 st xs s L
theorem ShT.row {s0 st : St} {xs : List T} {s : Value} {L : List Nat} (h : ShT s0 st xs s L) (hx : Ext s0 st) : RowT st xs s :=
  SliceO.row (fun x cx Lx he => Kind.enc_len (α := T) s0 x cx he.1) (fun x _ cx Lx he => Enc.ext hx x cx he.1) h

def T.setArg : T → Nat → T → T
  | .mk k n nm args, i, u => .mk k n nm (args.set i u)
def T.put (u : T) : List Int → T → T
  | [], _ => u
  | i :: p, t => t.setArg i.toNat (T.put u p (t.args.getD i.toNat T.zero))
theorem T.at_cons {i : Int} {p : List Int} {t : T} (h : (T.at (i :: p) t).isSome = true) : 0 ≤ i ∧ i.toNat < t.args.length ∧ t.args[i.toNat]? = some (t.args.getD i.toNat T.zero) ∧ (T.at p (t.args.getD i.toNat T.zero)).isSome = true := by
  simp only [T.at] at h
  split at h
  · rename_i hc
    have hlt : i.toNat < t.args.length := by omega
    have e : t.args.getD i.toNat T.zero = t.args[i.toNat] := by simp [hlt]
    rw [List.getElem?_eq_getElem hlt] at h
    exact ⟨hc.1, hlt, by rw [e, List.getElem?_eq_getElem hlt], by rw [e]; exact h⟩
  · cases h
theorem Lim.setArg {B : Nat} {t u : T} {i : Nat} (h : Lim B t) (hu : Lim B u) : Lim B (t.setArg i u) := by
  obtain ⟨k, n, nm, args⟩ := t
  refine .mk _ _ _ _ (by simpa using h.args.1) fun a ha => ?_
  rcases List.mem_or_eq_of_mem_set ha with ha | rfl
  · exact h.args.2 a ha
  · exact hu
theorem Lim.put {B : Nat} {u : T} (hu : Lim B u) : ∀ (p : List Int) (t : T), Lim B t → (T.at p t).isSome = true → Lim B (T.put u p t) := by
  intro p
  induction p with
  | nil => intro t _ _; exact hu
  | cons i p ih =>
    intro t ht hat
    obtain ⟨h0, h1, h2, h3⟩ := T.at_cons hat
    exact Lim.setArg ht (ih _ (Lim.arg t _ ht (List.mem_of_getElem? h2)) h3)
theorem T.setArg_wt {t u : T} {i : Nat} {x : T} (h : t.args[i]? = some x) : (t.setArg i u).wt + x.wt = t.wt + u.wt := by
  obtain ⟨k, n, nm, args⟩ := t
  have h : args[i]? = some x := h
  have : ∀ (l : List T) (i : Nat), l[i]? = some x → T.wtL (l.set i u) + x.wt = T.wtL l + u.wt := by
    intro l
    induction l with
    | nil => intro i h; simp at h
    | cons y ys ih =>
      intro i h
      cases i with
      | zero => simp only [List.getElem?_cons_zero, Option.some.injEq] at h; subst h; simp only [List.set_cons_zero, T.wtL]; omega
      | succ i => have := ih i (by simpa using h); simp only [List.set_cons_succ, T.wtL]; omega
  have := this args i h
  simp only [T.setArg, T.wt, List.length_set]
  omega
theorem T.put_wt (u : T) : ∀ (p : List Int) (t : T), (T.at p t).isSome = true → (T.put u p t).wt ≤ t.wt + u.wt := by
  intro p
  induction p with
  | nil => intro t _; simp only [T.put]; omega
  | cons i p ih =>
    intro t hat
    obtain ⟨h0, h1, h2, h3⟩ := T.at_cons hat
    have := T.setArg_wt (u := T.put u p (t.args.getD i.toNat T.zero)) h2
    have := ih _ h3
    simp only [T.put]
    omega

def T.rep (u : T) (p : List Int) (t : T) : T := if (T.at p t).isSome = true then T.put u p t else t
theorem Lim.rep {B : Nat} {u : T} (hu : Lim B u) {p : List Int} {t : T} (ht : Lim B t) : Lim B (T.rep u p t) := by
  unfold T.rep
  split
  · rename_i h; exact Lim.put hu p t ht h
  · exact ht
theorem T.rep_wt (u : T) (p : List Int) (t : T) : (T.rep u p t).wt ≤ t.wt + u.wt := by
  unfold T.rep
  split
  · rename_i h; exact T.put_wt u p t h
  · omega
end Go.Proofs.Ytfckojbllbdejaa.AM


/- Reduced words stay; a replaced subterm is there. -/
namespace Go.Proofs.Ytfckojbllbdejaa.AM
open Go Go.Proofs
set_option linter.unusedVariables false
set_option linter.unusedSimpArgs false

theorem redF_stays (k n : Int) (nm : ByteArray) (ys : List T) (h : ys.map T.red = ys) : T.red (redF k n nm ys) = redF k n nm ys := by
  have hmk : T.red (.mk k n nm ys) = redF k n nm ys := by simp only [T.red, T.redL_map, h]
  unfold redF at hmk ⊢
  split
  · rename_i x y
    by_cases hc : (k == 2 && n == 0 && isB nm && x.isW && y.isW) = true
    · simp only [hc, if_true]; rfl
    · simp only [if_neg hc] at hmk ⊢
      exact hmk
  · rename_i h1
    exact hmk.trans (by
      split
      · exact absurd rfl (h1 _ _)
      · rfl)
theorem T.red_idem : ∀ t : T, t.red.red = t.red := by
  refine T.ind fun k n nm args ih => ?_
  have h : (args.map T.red).map T.red = args.map T.red := by
    rw [List.map_map]
    exact List.map_congr_left fun x hx => ih x hx
  have e : T.red (.mk k n nm args) = redF k n nm (args.map T.red) := by simp only [T.red, T.redL_map]
  rw [e]
  exact redF_stays k n nm _ h
theorem T.at_put (u : T) : ∀ (p : List Int) (t : T), (T.at p t).isSome = true → T.at p (T.put u p t) = some u := by
  intro p
  induction p with
  | nil => intro t _; rfl
  | cons i p ih =>
    intro t h
    obtain ⟨h0, h1, h2, h3⟩ := T.at_cons h
    obtain ⟨k, n, nm, args⟩ := t
    have hlt : i.toNat < args.length := h1
    simp only [T.put, T.setArg]
    rw [T.at_in (x := T.put u p (args.getD i.toNat T.zero)) h0 (by simp only [T.args, List.length_set]; omega) (by simp only [T.args]; rw [List.getElem?_set_self hlt])]
    exact ih _ h3
theorem T.put_at : ∀ (p : List Int) (t : T), (T.at p t).isSome = true → T.put (T.atD p t) p t = t := by
  intro p
  induction p with
  | nil => intro t _; rfl
  | cons i p ih =>
    intro t h
    obtain ⟨h0, h1, h2, h3⟩ := T.at_cons h
    obtain ⟨k, n, nm, args⟩ := t
    have hlt : i.toNat < args.length := h1
    have e : T.atD (i :: p) (.mk k n nm args) = T.atD p (args.getD i.toNat T.zero) := by
      unfold T.atD
      rw [T.at_in (x := args.getD i.toNat T.zero) h0 (by simp only [T.args]; omega) h2]
    have e2 := ih _ h3
    simp only [T.put, T.setArg, T.args] at e2 ⊢
    rw [e, e2]
    congr 1
    have : args.getD i.toNat T.zero = args[i.toNat] := by simp [hlt]
    rw [this]
    exact List.set_getElem_self hlt
theorem T.rep_self {p : List Int} {t : T} (h : (T.at p t).isSome = true) : T.rep (T.atD p t) p t = t := by
  unfold T.rep
  rw [if_pos h]
  exact T.put_at p t h
theorem T.atD_rep {p : List Int} {t u : T} (h : (T.at p t).isSome = true) : T.atD p (T.rep u p t) = u := by
  unfold T.rep T.atD
  rw [if_pos h, T.at_put u p t h]
  rfl
theorem T.rep_out {p : List Int} {t u : T} (h : (T.at p t).isSome = false) : T.rep u p t = t := by
  unfold T.rep
  rw [if_neg (by rw [h]; simp)]
end Go.Proofs.Ytfckojbllbdejaa.AM


/- impl.ReduceWords. -/
namespace Go.Proofs.Ytfckojbllbdejaa.AM
open Go Go.Proofs
set_option linter.unusedVariables false
set_option linter.unusedSimpArgs false
set_option maxRecDepth 100000
attribute [local go_sem] List.map_cons List.map_nil List.all_cons List.all_nil Bool.and_self Option.map_some List.getElem?_toArray Option.bind_some gye_b gye_t gsk_b gsk_t gb1 gb2 gb3 gb4 bne_self_eq_false beq_self_eq_true w_guard w_nil stepV_some step_some step_some' w_move w_assign w_pick w_binOp w_unOp w_load w_fieldAddr w_indexAddr w_len w_max w_index ev_max max_int ev_index w_box w_alloc w_store w_field w_extract w_nilCheck w_convert w_buildSlice w_build ev_buildL fillL_nil fillL_cons bs0 bs1 ev_conv ev_bin ev_un ev_pick ev_load ev_fieldAddr ev_indexAddr ev_len ev_field ev_extract ev_nilCheck fr_tmp fr_int fr_bool fr_str fr_nil fr_func put_some put_none bin_lss bin_leq bin_gtr bin_geq bin_eql bin_neq bin_add bin_sub bin_mul bin_seql bin_sneq un_not pick_ ext_ loadA_p cellAt_l cellAt_h okPtr_l okPtr_h fadA_p allocA_l storeA_l cells_agg cells_int cells_str cells_sl cells_bool flat_i flat_s flat_b flat_sl flat_nil loc_agg loc_int loc_str loc_sl loc_bool loc_fn loc_ptr okv_agg okv_int okv_str okv_sl okv_bool cellsFrom splice upd_eval argEnv_zero argEnv_succ ne_eq Nat.add_one_ne_zero not_false_eq_true List.not_mem_nil and_self decide_true List.getElem?_cons_zero List.getElem?_cons_succ List.size_toArray List.length_cons List.length_nil List.take_succ_cons List.take_zero List.drop_succ_cons List.drop_zero List.cons_append List.nil_append List.drop_nil Bool.not_true Bool.not_false Bool.false_eq_true Nat.zero_add Nat.add_zero wrap_in List.toList_toArray List.mem_cons or_self or_false false_or
attribute [local go_sem] ag22 ag24 ag26 ag3 ag31 ag5 ag9 bu26 bu31 bu51 by26 by9 el22 el24 el42 el45 of26_0 of26_1 of26_2 of26_3 of31_0 of31_1 of31_2 of51_0 of51_1 of51_2 ro26_0 ro26_1 ro26_2 ro3_3 ro9_0 ro9_1 ro9_2 ro9_3 ro9_4 sz22 sz24 sz26 sz3 sz31 sz5 sz9 ze26 ze31 ze9

theorem implRed_of (k n : Int) (nm : ByteArray) (xs : List T) (st : St) (s : Value) (hbig : xs.length ≤ 1073741824) (hr : Row (Enc st) 4 st xs s)
    (ih : ∀ x ∈ xs, ∀ st' cs, Enc st' x cs → CallS Try.prog 6 [.agg cs.toArray] st' fun r st2 => Ext st' st2 ∧ ∃ ds L, r = .agg ds.toArray ∧ OwnT st2 (x.red) ds L ∧ Fresh st'.length L) :
    CallS Try.prog 6 [.agg #[.int .i64 k, .int .i64 n, .string nm, s]] st fun r st2 => Ext st st2 ∧ ∃ ds L, r = .agg ds.toArray ∧ OwnT st2 ((T.mk k n nm xs).red) ds L ∧ Fresh st.length L := by
  refine CallS_of_W [] 76 Try.func6 rfl rfl rfl rfl (by simp) ?_
  have hlen := row_len hr Try.underlying24
  have n1 := hr.notLoc.1
  have n2 := hr.notLoc.2
  have hlen2 : lenE Try.prog 24 s = some (.int .i64 xs.length) := hlen
  repeat (first | (refine W_reg rfl fun G K hG hK => ?_; simp (disch := omega) only [go_sem, ↓reduceIte, Nat.reduceEqDiff, Nat.reduceAdd, Nat.reduceLeDiff, hG, hlen2]; refine hK _ _ ?_; clear hK K hG G) | (refine W_end rfl fun G K hG hK => ?_; simp (disch := omega) only [go_sem, ↓reduceIte, Nat.reduceEqDiff, Nat.reduceAdd, Nat.reduceLeDiff, hG, hlen2]; refine hK _ _ ?_; clear hK K hG G; repeat (first | refine thenI ?_ | refine thenE ?_ | refine thenR ?_ | refine inBI ?_ | refine inBR ?_ | refine inBS ?_ | refine inBN (by decide) ?_)) | refine W_seqS ?_ | refine W_seqC ?_ | refine W_seqB ?_ | refine W_block ?_ | (refine W_skip ?_; repeat (first | refine thenI ?_ | refine thenE ?_ | refine thenR ?_ | refine inBI ?_ | refine inBR ?_ | refine inBS ?_ | refine inBN (by decide) ?_)) | (refine W_condT ?hc ?_; (case hc => (simp (disch := omega) only [go_sem, ↓reduceIte, Nat.reduceEqDiff, Nat.reduceAdd, Nat.reduceLeDiff, hlen2]; done))) | (refine W_condF ?hc ?_; (case hc => (simp (disch := omega) only [go_sem, ↓reduceIte, Nat.reduceEqDiff, Nat.reduceAdd, Nat.reduceLeDiff, hlen2]; done))))
  refine W_loop (fun d fr st' => ∃ (j : Nat) (r : Value) (L : List Nat), d = xs.length - j ∧ j ≤ xs.length ∧ Ext st st' ∧ SliceO (Own 26 st') 26 st' ((xs.take j).map T.red) r L ∧ Fresh st.length L
    ∧ fr.env 14 = s ∧ fr.env 15 = .int .i64 xs.length ∧ fr.env 2 = .pointer (some ⟨2, 0, some 1⟩) ∧ fr.env 3 = .pointer (some ⟨3, 0, some 1⟩) ∧ fr.env 16 = .int .i64 j
    ∧ fr.loc 3 = (1, [.int .i64 k, .int .i64 n, .string nm, r]) ∧ (fr.loc 2).1 = 1 ∧ (fr.loc 2).2.length = 4) xs.length ?_ ?_
  · exact ⟨0, .slice none 0 0, [], by omega, by omega, Ext.refl _, .inl ⟨rfl, rfl, rfl⟩, ⟨by simp, by simp⟩, (by (simp (disch := omega) only [go_sem, ↓reduceIte, Nat.reduceEqDiff, Nat.reduceAdd, Nat.reduceLeDiff]); try rfl), (by (simp (disch := omega) only [go_sem, ↓reduceIte, Nat.reduceEqDiff, Nat.reduceAdd, Nat.reduceLeDiff]); try rfl), (by (simp (disch := omega) only [go_sem, ↓reduceIte, Nat.reduceEqDiff, Nat.reduceAdd, Nat.reduceLeDiff]); try rfl), (by (simp (disch := omega) only [go_sem, ↓reduceIte, Nat.reduceEqDiff, Nat.reduceAdd, Nat.reduceLeDiff]); try rfl), (by (simp (disch := omega) only [go_sem, ↓reduceIte, Nat.reduceEqDiff, Nat.reduceAdd, Nat.reduceLeDiff]); try rfl), (by (simp (disch := omega) only [go_sem, ↓reduceIte, Nat.reduceEqDiff, Nat.reduceAdd, Nat.reduceLeDiff]); try rfl), (by (simp (disch := omega) only [go_sem, ↓reduceIte, Nat.reduceEqDiff, Nat.reduceAdd, Nat.reduceLeDiff]); try rfl), (by (simp (disch := omega) only [go_sem, ↓reduceIte, Nat.reduceEqDiff, Nat.reduceAdd, Nat.reduceLeDiff]); try rfl)⟩
  rintro d ⟨env, loc⟩ st' ⟨j, r, L, hd, hj, hext, hown, hfr, e14, e15, e2, e3, e4, l3, l2, l2'⟩
  simp only at e14 e15 e2 e3 e4 l3 l2 l2'
  by_cases hlt : j < xs.length
  · have c1 : decide ((j : Int) < (xs.length : Int)) = true := by simpa using hlt
    have hx : xs[j]? = some xs[j] := List.getElem?_eq_getElem hlt
    obtain ⟨i, o, c, cs, rfl, hcl, hE, hcs⟩ := row_at hr hx
    have hld := fun loc => load_row (A := []) (loc := loc) ag26 sz26 hcl (hcs.ext hext)
    have hi := idxOk hlt
    have ho := hown.okv
    have hc := hown.cells
    have hl := hown.loc
    obtain ⟨v0, v1, v2, v3, rfl⟩ : ∃ v0 v1 v2 v3, cs = [v0, v1, v2, v3] := by
      match cs, hcl with
      | [v0, v1, v2, v3], _ => exact ⟨v0, v1, v2, v3, rfl⟩
    repeat (first | (refine W_reg rfl fun G K hG hK => ?_; simp (disch := omega) only [go_sem, ↓reduceIte, Nat.reduceEqDiff, Nat.reduceAdd, Nat.reduceLeDiff, hG, e14, e15, e2, e3, e4, l3, c1, idxA, Int.toNat_natCast, hi, hld, cells_agg]; refine hK _ _ ?_; clear hK K hG G) | (refine W_end rfl fun G K hG hK => ?_; simp (disch := omega) only [go_sem, ↓reduceIte, Nat.reduceEqDiff, Nat.reduceAdd, Nat.reduceLeDiff, hG, e14, e15, e2, e3, e4, l3, c1, idxA, Int.toNat_natCast, hi, hld, cells_agg]; refine hK _ _ ?_; clear hK K hG G; repeat (first | refine thenI ?_ | refine thenE ?_ | refine thenR ?_ | refine inBI ?_ | refine inBR ?_ | refine inBS ?_ | refine inBN (by decide) ?_)) | refine W_seqS ?_ | refine W_seqC ?_ | refine W_seqB ?_ | refine W_block ?_ | (refine W_skip ?_; repeat (first | refine thenI ?_ | refine thenE ?_ | refine thenR ?_ | refine inBI ?_ | refine inBR ?_ | refine inBS ?_ | refine inBN (by decide) ?_)) | (refine W_condT ?hc ?_; (case hc => (simp (disch := omega) only [go_sem, ↓reduceIte, Nat.reduceEqDiff, Nat.reduceAdd, Nat.reduceLeDiff, e14, e15, e2, e3, e4, l3, c1, idxA, Int.toNat_natCast, hi, hld, cells_agg]; done))) | (refine W_condF ?hc ?_; (case hc => (simp (disch := omega) only [go_sem, ↓reduceIte, Nat.reduceEqDiff, Nat.reduceAdd, Nat.reduceLeDiff, e14, e15, e2, e3, e4, l3, c1, idxA, Int.toNat_natCast, hi, hld, cells_agg]; done))))
    refine W_endD mixed [] [(0,false),(1,false),(2,false),(3,true),(4,false),(5,false),(6,false),(7,false)] rfl (by decide +kernel) fun G K hG hK => ?_; simp only [pickOps, List.filterMap_cons, List.filterMap_nil, List.getElem?_cons_zero, List.getElem?_cons_succ, Option.map_some]; simp (disch := omega) only [go_sem, ↓reduceIte, Nat.reduceEqDiff, Nat.reduceAdd, Nat.reduceLeDiff, hG, e14, e15, e2, e3, e4, l3]
    refine w_call (ih xs[j] (List.getElem_mem hlt) st' _ (Enc.ext hext _ _ hE)) (by simp (disch := omega) only [go_sem, ↓reduceIte, Nat.reduceEqDiff]) ?hl ?_
    case hl => first | rfl | (simp only [go_sem, List.all_cons, List.all_nil, Bool.not_false, Bool.and_self]; done)
    rintro r_ s_ ⟨hx1, ds, Lx, rfl, hox, hfx⟩; refine ⟨fun e => hx1, ?_⟩
    obtain ⟨r', st3, L', hap, hown', hfr', hl3, hoth⟩ := Own.step hown hfr hext.length hx1 hox hfx (by simp; omega)
    have ho' := hown'.okv
    have hc' := hown'.cells
    have hn' := hown'.loc
    have hdl := Own.len _ _ _ hox
    simp (disch := omega) only [go_sem, ↓reduceIte, Nat.reduceEqDiff, Nat.reduceAdd, Nat.reduceLeDiff, hG, e2, e3, e4, l3, w_append, hap, ho', hc', hn', hl, ho, hdl, List.toList_toArray]; refine hK _ _ ?_; clear hK K hG G; repeat (first | refine thenI ?_ | refine thenE ?_ | refine thenR ?_ | refine inBI ?_ | refine inBR ?_ | refine inBS ?_ | refine inBN (by decide) ?_)
    repeat (first | (refine W_reg rfl fun G K hG hK => ?_; simp (disch := omega) only [go_sem, ↓reduceIte, Nat.reduceEqDiff, Nat.reduceAdd, Nat.reduceLeDiff, hG, e4]; refine hK _ _ ?_; clear hK K hG G) | (refine W_end rfl fun G K hG hK => ?_; simp (disch := omega) only [go_sem, ↓reduceIte, Nat.reduceEqDiff, Nat.reduceAdd, Nat.reduceLeDiff, hG, e4]; refine hK _ _ ?_; clear hK K hG G; repeat (first | refine thenI ?_ | refine thenE ?_ | refine thenR ?_ | refine inBI ?_ | refine inBR ?_ | refine inBS ?_ | refine inBN (by decide) ?_)) | refine W_seqS ?_ | refine W_seqC ?_ | refine W_seqB ?_ | refine W_block ?_ | (refine W_skip ?_; repeat (first | refine thenI ?_ | refine thenE ?_ | refine thenR ?_ | refine inBI ?_ | refine inBR ?_ | refine inBS ?_ | refine inBN (by decide) ?_)) | (refine W_condT ?hc ?_; (case hc => (simp (disch := omega) only [go_sem, ↓reduceIte, Nat.reduceEqDiff, Nat.reduceAdd, Nat.reduceLeDiff, e4]; done))) | (refine W_condF ?hc ?_; (case hc => (simp (disch := omega) only [go_sem, ↓reduceIte, Nat.reduceEqDiff, Nat.reduceAdd, Nat.reduceLeDiff, e4]; done))))
    have hxt := hext.length
    have htk : (xs.take (j + 1)).map T.red = (xs.take j).map T.red ++ [xs[j].red] := by rw [List.take_succ_eq_append_getElem hlt, List.map_append]; rfl
    refine ⟨xs.length - (j + 1), by omega, j + 1, r', L', rfl, by omega, Ext.of_get fun q hq => ?_, by rw [htk]; exact hown', hfr', (by (simp (disch := omega) only [go_sem, ↓reduceIte, Nat.reduceEqDiff, Nat.reduceAdd, Nat.reduceLeDiff, e14]); try rfl), (by (simp (disch := omega) only [go_sem, ↓reduceIte, Nat.reduceEqDiff, Nat.reduceAdd, Nat.reduceLeDiff, e15]); try rfl), (by (simp (disch := omega) only [go_sem, ↓reduceIte, Nat.reduceEqDiff, Nat.reduceAdd, Nat.reduceLeDiff, e2]); try rfl), (by (simp (disch := omega) only [go_sem, ↓reduceIte, Nat.reduceEqDiff, Nat.reduceAdd, Nat.reduceLeDiff, e3]); try rfl), (by (simp (disch := omega) only [go_sem, ↓reduceIte, Nat.reduceEqDiff, Nat.reduceAdd, Nat.reduceLeDiff]); try rfl), (by (simp (disch := omega) only [go_sem, ↓reduceIte, Nat.reduceEqDiff, Nat.reduceAdd, Nat.reduceLeDiff, l3]); try rfl), (by (simp (disch := omega) only [go_sem, ↓reduceIte, Nat.reduceEqDiff, Nat.reduceAdd, Nat.reduceLeDiff, l2]); try rfl), (by (simp (disch := omega) only [go_sem, ↓reduceIte, Nat.reduceEqDiff, Nat.reduceAdd, Nat.reduceLeDiff, l2']); try rfl)⟩
    rw [hoth q hq, hx1.get (by omega), hext.get hq]
  · have c1 : decide ((j : Int) < (xs.length : Int)) = false := by simpa using hlt
    have hjn : j = xs.length := by omega
    subst hjn
    rw [List.take_length] at hown
    have ho := hown.okv
    have hc := hown.cells
    have hl := hown.loc
    repeat (first | (refine W_reg rfl fun G K hG hK => ?_; simp (disch := omega) only [go_sem, ↓reduceIte, Nat.reduceEqDiff, Nat.reduceAdd, Nat.reduceLeDiff, hG, e14, e15, e2, e3, e4, l3, c1]; refine hK _ _ ?_; clear hK K hG G) | (refine W_end rfl fun G K hG hK => ?_; simp (disch := omega) only [go_sem, ↓reduceIte, Nat.reduceEqDiff, Nat.reduceAdd, Nat.reduceLeDiff, hG, e14, e15, e2, e3, e4, l3, c1]; refine hK _ _ ?_; clear hK K hG G; repeat (first | refine thenI ?_ | refine thenE ?_ | refine thenR ?_ | refine inBI ?_ | refine inBR ?_ | refine inBS ?_ | refine inBN (by decide) ?_)) | refine W_seqS ?_ | refine W_seqC ?_ | refine W_seqB ?_ | refine W_block ?_ | (refine W_skip ?_; repeat (first | refine thenI ?_ | refine thenE ?_ | refine thenR ?_ | refine inBI ?_ | refine inBR ?_ | refine inBS ?_ | refine inBN (by decide) ?_)) | (refine W_condT ?hc ?_; (case hc => (simp (disch := omega) only [go_sem, ↓reduceIte, Nat.reduceEqDiff, Nat.reduceAdd, Nat.reduceLeDiff, e14, e15, e2, e3, e4, l3, c1]; done))) | (refine W_condF ?hc ?_; (case hc => (simp (disch := omega) only [go_sem, ↓reduceIte, Nat.reduceEqDiff, Nat.reduceAdd, Nat.reduceLeDiff, e14, e15, e2, e3, e4, l3, c1]; done))))
    refine W_exit ?_; repeat (first | refine thenI ?_ | refine thenE ?_ | refine thenR ?_ | refine inBI ?_ | refine inBR ?_ | refine inBS ?_ | refine inBN (by decide) ?_)
    have hrow := hown.row (E' := Enc st') Own.len fun _ _ _ _ h => h.enc
    have hlr := row_len hrow Try.underlying24
    generalize hys : xs.map T.red = ys at hown hrow hlr
    have hred : (T.mk k n nm xs).red = redF k n nm ys := by simp only [T.red, T.redL_map, hys]
    cases h1 : (k == 2) with
    | false =>
      have hno := redF_no (n := n) (nm := nm) (ys := ys) (.inl (by simpa using h1))
      repeat (first | (refine W_reg rfl fun G K hG hK => ?_; simp (disch := omega) only [go_sem, ↓reduceIte, Nat.reduceEqDiff, Nat.reduceAdd, Nat.reduceLeDiff, hG, e2, e3, e4, l2, l2', l3, ho, hc, hl, h1]; refine hK _ _ ?_; clear hK K hG G) | (refine W_end rfl fun G K hG hK => ?_; simp (disch := omega) only [go_sem, ↓reduceIte, Nat.reduceEqDiff, Nat.reduceAdd, Nat.reduceLeDiff, hG, e2, e3, e4, l2, l2', l3, ho, hc, hl, h1]; refine hK _ _ ?_; clear hK K hG G; repeat (first | refine thenI ?_ | refine thenE ?_ | refine thenR ?_ | refine inBI ?_ | refine inBR ?_ | refine inBS ?_ | refine inBN (by decide) ?_)) | refine W_seqS ?_ | refine W_seqC ?_ | refine W_seqB ?_ | refine W_block ?_ | (refine W_skip ?_; repeat (first | refine thenI ?_ | refine thenE ?_ | refine thenR ?_ | refine inBI ?_ | refine inBR ?_ | refine inBS ?_ | refine inBN (by decide) ?_)) | (refine W_condT ?hc ?_; (case hc => (simp (disch := omega) only [go_sem, ↓reduceIte, Nat.reduceEqDiff, Nat.reduceAdd, Nat.reduceLeDiff, e2, e3, e4, l2, l2', l3, ho, hc, hl, h1]; done))) | (refine W_condF ?hc ?_; (case hc => (simp (disch := omega) only [go_sem, ↓reduceIte, Nat.reduceEqDiff, Nat.reduceAdd, Nat.reduceLeDiff, e2, e3, e4, l2, l2', l3, ho, hc, hl, h1]; done))))
      refine W_ret ?_; try (repeat (first | refine thenI ?_ | refine thenE ?_ | refine thenR ?_ | refine inBI ?_ | refine inBR ?_ | refine inBS ?_ | refine inBN (by decide) ?_))
      refine finC (.inl rfl) (by (simp (disch := omega) only [go_sem, ↓reduceIte, Nat.reduceEqDiff, Nat.reduceAdd, Nat.reduceLeDiff, e2]); try rfl) ⟨hext, [_, _, _, _], L, rfl, by rw [hred, hno]; exact Own.close _ _ _ hown, hfr⟩
    | true =>
      cases h2 : (n == 0) with
      | false =>
        have hno := redF_no (k := k) (nm := nm) (ys := ys) (.inr (.inl (by simpa using h2)))
        repeat (first | (refine W_reg rfl fun G K hG hK => ?_; simp (disch := omega) only [go_sem, ↓reduceIte, Nat.reduceEqDiff, Nat.reduceAdd, Nat.reduceLeDiff, hG, e2, e3, e4, l2, l2', l3, ho, hc, hl, h1, h2]; refine hK _ _ ?_; clear hK K hG G) | (refine W_end rfl fun G K hG hK => ?_; simp (disch := omega) only [go_sem, ↓reduceIte, Nat.reduceEqDiff, Nat.reduceAdd, Nat.reduceLeDiff, hG, e2, e3, e4, l2, l2', l3, ho, hc, hl, h1, h2]; refine hK _ _ ?_; clear hK K hG G; repeat (first | refine thenI ?_ | refine thenE ?_ | refine thenR ?_ | refine inBI ?_ | refine inBR ?_ | refine inBS ?_ | refine inBN (by decide) ?_)) | refine W_seqS ?_ | refine W_seqC ?_ | refine W_seqB ?_ | refine W_block ?_ | (refine W_skip ?_; repeat (first | refine thenI ?_ | refine thenE ?_ | refine thenR ?_ | refine inBI ?_ | refine inBR ?_ | refine inBS ?_ | refine inBN (by decide) ?_)) | (refine W_condT ?hc ?_; (case hc => (simp (disch := omega) only [go_sem, ↓reduceIte, Nat.reduceEqDiff, Nat.reduceAdd, Nat.reduceLeDiff, e2, e3, e4, l2, l2', l3, ho, hc, hl, h1, h2]; done))) | (refine W_condF ?hc ?_; (case hc => (simp (disch := omega) only [go_sem, ↓reduceIte, Nat.reduceEqDiff, Nat.reduceAdd, Nat.reduceLeDiff, e2, e3, e4, l2, l2', l3, ho, hc, hl, h1, h2]; done))))
        refine W_ret ?_; try (repeat (first | refine thenI ?_ | refine thenE ?_ | refine thenR ?_ | refine inBI ?_ | refine inBR ?_ | refine inBS ?_ | refine inBN (by decide) ?_))
        refine finC (.inl rfl) (by (simp (disch := omega) only [go_sem, ↓reduceIte, Nat.reduceEqDiff, Nat.reduceAdd, Nat.reduceLeDiff, e2]); try rfl) ⟨hext, [_, _, _, _], L, rfl, by rw [hred, hno]; exact Own.close _ _ _ hown, hfr⟩
      | true =>
        (repeat (first | refine W_seqS ?_ | refine W_seqC ?_ | refine W_seqB ?_ | refine W_block ?_)); refine W_reg rfl fun G K hG hK => ?_; simp (disch := omega) only [go_sem, ↓reduceIte, Nat.reduceEqDiff, Nat.reduceAdd, Nat.reduceLeDiff, hG, e2, e3, e4, l2, l2', l3, ho, hc, hl, h1, h2]
        refine w_call (implIsB_ok nm st') (by simp (disch := omega) only [go_sem, ↓reduceIte, Nat.reduceEqDiff]) ?hl ?_
        case hl => first | rfl | (simp only [go_sem, List.all_cons, List.all_nil, Bool.not_false, Bool.and_self]; done)
        rintro r_ st' ⟨rfl, rfl⟩; refine ⟨fun e => (by cases e), ?_⟩
        cases h3 : isB nm with
        | false =>
          have hno := redF_no (k := k) (n := n) (ys := ys) (.inr (.inr (.inl h3)))
          simp (disch := omega) only [go_sem, ↓reduceIte, Nat.reduceEqDiff, Nat.reduceAdd, Nat.reduceLeDiff, hG, e2, e3, e4, l2, l2', l3, ho, hc, hl]; refine hK _ _ ?_; clear hK K hG G; repeat (first | refine thenI ?_ | refine thenE ?_ | refine thenR ?_ | refine inBI ?_ | refine inBR ?_ | refine inBS ?_ | refine inBN (by decide) ?_)
          repeat (first | (refine W_reg rfl fun G K hG hK => ?_; simp (disch := omega) only [go_sem, ↓reduceIte, Nat.reduceEqDiff, Nat.reduceAdd, Nat.reduceLeDiff, hG, e2, e3, e4, l2, l2', l3, ho, hc, hl]; refine hK _ _ ?_; clear hK K hG G) | (refine W_end rfl fun G K hG hK => ?_; simp (disch := omega) only [go_sem, ↓reduceIte, Nat.reduceEqDiff, Nat.reduceAdd, Nat.reduceLeDiff, hG, e2, e3, e4, l2, l2', l3, ho, hc, hl]; refine hK _ _ ?_; clear hK K hG G; repeat (first | refine thenI ?_ | refine thenE ?_ | refine thenR ?_ | refine inBI ?_ | refine inBR ?_ | refine inBS ?_ | refine inBN (by decide) ?_)) | refine W_seqS ?_ | refine W_seqC ?_ | refine W_seqB ?_ | refine W_block ?_ | (refine W_skip ?_; repeat (first | refine thenI ?_ | refine thenE ?_ | refine thenR ?_ | refine inBI ?_ | refine inBR ?_ | refine inBS ?_ | refine inBN (by decide) ?_)) | (refine W_condT ?hc ?_; (case hc => (simp (disch := omega) only [go_sem, ↓reduceIte, Nat.reduceEqDiff, Nat.reduceAdd, Nat.reduceLeDiff, e2, e3, e4, l2, l2', l3, ho, hc, hl]; done))) | (refine W_condF ?hc ?_; (case hc => (simp (disch := omega) only [go_sem, ↓reduceIte, Nat.reduceEqDiff, Nat.reduceAdd, Nat.reduceLeDiff, e2, e3, e4, l2, l2', l3, ho, hc, hl]; done))))
          refine W_ret ?_; try (repeat (first | refine thenI ?_ | refine thenE ?_ | refine thenR ?_ | refine inBI ?_ | refine inBR ?_ | refine inBS ?_ | refine inBN (by decide) ?_))
          refine finC (.inl rfl) (by (simp (disch := omega) only [go_sem, ↓reduceIte, Nat.reduceEqDiff, Nat.reduceAdd, Nat.reduceLeDiff, e2]); try rfl) ⟨hext, [_, _, _, _], L, rfl, by rw [hred, hno]; exact Own.close _ _ _ hown, hfr⟩
        | true =>
          cases h4 : ((ys.length : Int) == 2) with
          | false =>
            have hno := redF_no (k := k) (n := n) (nm := nm) (ys := ys) (.inr (.inr (.inr (by simp only [beq_eq_false_iff_ne] at h4; omega))))
            simp (disch := omega) only [go_sem, ↓reduceIte, Nat.reduceEqDiff, Nat.reduceAdd, Nat.reduceLeDiff, hG, e2, e3, e4, l2, l2', l3, ho, hc, hl, hlr, h4]; refine hK _ _ ?_; clear hK K hG G; repeat (first | refine thenI ?_ | refine thenE ?_ | refine thenR ?_ | refine inBI ?_ | refine inBR ?_ | refine inBS ?_ | refine inBN (by decide) ?_)
            repeat (first | (refine W_reg rfl fun G K hG hK => ?_; simp (disch := omega) only [go_sem, ↓reduceIte, Nat.reduceEqDiff, Nat.reduceAdd, Nat.reduceLeDiff, hG, e2, e3, e4, l2, l2', l3, ho, hc, hl]; refine hK _ _ ?_; clear hK K hG G) | (refine W_end rfl fun G K hG hK => ?_; simp (disch := omega) only [go_sem, ↓reduceIte, Nat.reduceEqDiff, Nat.reduceAdd, Nat.reduceLeDiff, hG, e2, e3, e4, l2, l2', l3, ho, hc, hl]; refine hK _ _ ?_; clear hK K hG G; repeat (first | refine thenI ?_ | refine thenE ?_ | refine thenR ?_ | refine inBI ?_ | refine inBR ?_ | refine inBS ?_ | refine inBN (by decide) ?_)) | refine W_seqS ?_ | refine W_seqC ?_ | refine W_seqB ?_ | refine W_block ?_ | (refine W_skip ?_; repeat (first | refine thenI ?_ | refine thenE ?_ | refine thenR ?_ | refine inBI ?_ | refine inBR ?_ | refine inBS ?_ | refine inBN (by decide) ?_)) | (refine W_condT ?hc ?_; (case hc => (simp (disch := omega) only [go_sem, ↓reduceIte, Nat.reduceEqDiff, Nat.reduceAdd, Nat.reduceLeDiff, e2, e3, e4, l2, l2', l3, ho, hc, hl]; done))) | (refine W_condF ?hc ?_; (case hc => (simp (disch := omega) only [go_sem, ↓reduceIte, Nat.reduceEqDiff, Nat.reduceAdd, Nat.reduceLeDiff, e2, e3, e4, l2, l2', l3, ho, hc, hl]; done))))
            refine W_ret ?_; try (repeat (first | refine thenI ?_ | refine thenE ?_ | refine thenR ?_ | refine inBI ?_ | refine inBR ?_ | refine inBS ?_ | refine inBN (by decide) ?_))
            refine finC (.inl rfl) (by (simp (disch := omega) only [go_sem, ↓reduceIte, Nat.reduceEqDiff, Nat.reduceAdd, Nat.reduceLeDiff, e2]); try rfl) ⟨hext, [_, _, _, _], L, rfl, by rw [hred, hno]; exact Own.close _ _ _ hown, hfr⟩
          | true =>
            obtain ⟨y0, y1, rfl⟩ : ∃ y0 y1, ys = [y0, y1] := by
              have : ys.length = 2 := by simp only [beq_iff_eq] at h4; omega
              match ys, this with
              | [y0, y1], _ => exact ⟨y0, y1, rfl⟩
            obtain ⟨i, o, c, cs0, rfl, hcl0, hE0, hcs0⟩ := row_at hrow (j := 0) (x := y0) rfl
            obtain ⟨i', o', c', cs1, he', hcl1, hE1, hcs1⟩ := row_at hrow (j := 1) (x := y1) rfl
            simp only [Value.slice.injEq, Option.some.injEq, Addr.mk.injEq, and_true, true_and] at he'
            obtain ⟨⟨rfl, rfl⟩, rfl⟩ := he'
            rw [Nat.zero_mul, Nat.add_zero] at hcs0
            rw [Nat.one_mul] at hcs1
            have hld0 := fun loc => load_row (A := []) (loc := loc) ag26 sz26 hcl0 hcs0
            have hld1 := fun loc => load_row (A := []) (loc := loc) ag26 sz26 hcl1 hcs1
            obtain ⟨ka, na, ma, xa⟩ := y0
            obtain ⟨kb, nb, mb, xb⟩ := y1
            obtain ⟨sa, rfl, hra⟩ := hE0.open
            obtain ⟨sb, rfl, hrb⟩ := hE1.open
            have hi0 : (0 ≤ (0 : Int) ∧ (0 : Int) < (([T.mk ka na ma xa, T.mk kb nb mb xb] : List T).length : Int)) = True := by simp
            have hi1 : (0 ≤ (1 : Int) ∧ (1 : Int) < (([T.mk ka na ma xa, T.mk kb nb mb xb] : List T).length : Int)) = True := by simp
            simp only [List.length_cons, List.length_nil, Nat.zero_add, Nat.reduceAdd] at hi0 hi1 h4 hlr
            have na1 := hra.notLoc.1
            have nb1 := hrb.notLoc.1
            have q0 := cell_ext (Ext.refl st') (hcs0 1 _ rfl)
            have q1 := cell_ext (Ext.refl st') (hcs1 1 _ rfl)
            simp (disch := omega) only [go_sem, ↓reduceIte, Nat.reduceEqDiff, Nat.reduceAdd, Nat.reduceLeDiff, hG, e2, e3, e4, l2, l2', l3, ho, hc, hl, hlr, h4, idxA, Int.toNat_zero, Int.toNat_one, hi0, hi1, hld0, hld1, Nat.zero_mul, Nat.one_mul]
            refine w_call (implIsW_of ka na ma xa st' sa hra) (by simp (disch := omega) only [go_sem, ↓reduceIte, Nat.reduceEqDiff, na1]) ?hl ?_
            case hl => first | rfl | (simp only [go_sem, List.all_cons, List.all_nil, Bool.not_false, Bool.and_self, na1]; done)
            rintro r_ st' ⟨rfl, rfl⟩; refine ⟨fun e => (by cases e), ?_⟩
            cases h5 : (T.mk ka na ma xa).isW with
            | false =>
              have hno := redF_not (k := k) (n := n) (nm := nm) (y := T.mk kb nb mb xb) (.inl h5)
              simp (disch := omega) only [go_sem, ↓reduceIte, Nat.reduceEqDiff, Nat.reduceAdd, Nat.reduceLeDiff, hG, e2, e3, e4, l2, l2', l3, ho, hc, hl]; refine hK _ _ ?_; clear hK K hG G; repeat (first | refine thenI ?_ | refine thenE ?_ | refine thenR ?_ | refine inBI ?_ | refine inBR ?_ | refine inBS ?_ | refine inBN (by decide) ?_)
              repeat (first | (refine W_reg rfl fun G K hG hK => ?_; simp (disch := omega) only [go_sem, ↓reduceIte, Nat.reduceEqDiff, Nat.reduceAdd, Nat.reduceLeDiff, hG, e2, e3, e4, l2, l2', l3, ho, hc, hl]; refine hK _ _ ?_; clear hK K hG G) | (refine W_end rfl fun G K hG hK => ?_; simp (disch := omega) only [go_sem, ↓reduceIte, Nat.reduceEqDiff, Nat.reduceAdd, Nat.reduceLeDiff, hG, e2, e3, e4, l2, l2', l3, ho, hc, hl]; refine hK _ _ ?_; clear hK K hG G; repeat (first | refine thenI ?_ | refine thenE ?_ | refine thenR ?_ | refine inBI ?_ | refine inBR ?_ | refine inBS ?_ | refine inBN (by decide) ?_)) | refine W_seqS ?_ | refine W_seqC ?_ | refine W_seqB ?_ | refine W_block ?_ | (refine W_skip ?_; repeat (first | refine thenI ?_ | refine thenE ?_ | refine thenR ?_ | refine inBI ?_ | refine inBR ?_ | refine inBS ?_ | refine inBN (by decide) ?_)) | (refine W_condT ?hc ?_; (case hc => (simp (disch := omega) only [go_sem, ↓reduceIte, Nat.reduceEqDiff, Nat.reduceAdd, Nat.reduceLeDiff, e2, e3, e4, l2, l2', l3, ho, hc, hl]; done))) | (refine W_condF ?hc ?_; (case hc => (simp (disch := omega) only [go_sem, ↓reduceIte, Nat.reduceEqDiff, Nat.reduceAdd, Nat.reduceLeDiff, e2, e3, e4, l2, l2', l3, ho, hc, hl]; done))))
              refine W_ret ?_; try (repeat (first | refine thenI ?_ | refine thenE ?_ | refine thenR ?_ | refine inBI ?_ | refine inBR ?_ | refine inBS ?_ | refine inBN (by decide) ?_))
              refine finC (.inl rfl) (by (simp (disch := omega) only [go_sem, ↓reduceIte, Nat.reduceEqDiff, Nat.reduceAdd, Nat.reduceLeDiff, e2]); try rfl) ⟨hext, [_, _, _, _], L, rfl, by rw [hred, hno]; exact Own.close _ _ _ hown, hfr⟩
            | true =>
              simp (disch := omega) only [go_sem, ↓reduceIte, Nat.reduceEqDiff, Nat.reduceAdd, Nat.reduceLeDiff, hG, e2, e3, e4, l2, l2', l3, ho, hc, hl, hlr, h4, idxA, Int.toNat_zero, Int.toNat_one, hi0, hi1, hld0, hld1, Nat.zero_mul, Nat.one_mul]
              refine w_call (implIsW_of kb nb mb xb st' sb hrb) (by simp (disch := omega) only [go_sem, ↓reduceIte, Nat.reduceEqDiff, nb1]) ?hl ?_
              case hl => first | rfl | (simp only [go_sem, List.all_cons, List.all_nil, Bool.not_false, Bool.and_self, nb1]; done)
              rintro r_ st' ⟨rfl, rfl⟩; refine ⟨fun e => (by cases e), ?_⟩
              cases h6 : (T.mk kb nb mb xb).isW with
              | false =>
                have hno := redF_not (k := k) (n := n) (nm := nm) (x := T.mk ka na ma xa) (.inr h6)
                simp (disch := omega) only [go_sem, ↓reduceIte, Nat.reduceEqDiff, Nat.reduceAdd, Nat.reduceLeDiff, hG, e2, e3, e4, l2, l2', l3, ho, hc, hl]; refine hK _ _ ?_; clear hK K hG G; repeat (first | refine thenI ?_ | refine thenE ?_ | refine thenR ?_ | refine inBI ?_ | refine inBR ?_ | refine inBS ?_ | refine inBN (by decide) ?_)
                repeat (first | (refine W_reg rfl fun G K hG hK => ?_; simp (disch := omega) only [go_sem, ↓reduceIte, Nat.reduceEqDiff, Nat.reduceAdd, Nat.reduceLeDiff, hG, e2, e3, e4, l2, l2', l3, ho, hc, hl]; refine hK _ _ ?_; clear hK K hG G) | (refine W_end rfl fun G K hG hK => ?_; simp (disch := omega) only [go_sem, ↓reduceIte, Nat.reduceEqDiff, Nat.reduceAdd, Nat.reduceLeDiff, hG, e2, e3, e4, l2, l2', l3, ho, hc, hl]; refine hK _ _ ?_; clear hK K hG G; repeat (first | refine thenI ?_ | refine thenE ?_ | refine thenR ?_ | refine inBI ?_ | refine inBR ?_ | refine inBS ?_ | refine inBN (by decide) ?_)) | refine W_seqS ?_ | refine W_seqC ?_ | refine W_seqB ?_ | refine W_block ?_ | (refine W_skip ?_; repeat (first | refine thenI ?_ | refine thenE ?_ | refine thenR ?_ | refine inBI ?_ | refine inBR ?_ | refine inBS ?_ | refine inBN (by decide) ?_)) | (refine W_condT ?hc ?_; (case hc => (simp (disch := omega) only [go_sem, ↓reduceIte, Nat.reduceEqDiff, Nat.reduceAdd, Nat.reduceLeDiff, e2, e3, e4, l2, l2', l3, ho, hc, hl]; done))) | (refine W_condF ?hc ?_; (case hc => (simp (disch := omega) only [go_sem, ↓reduceIte, Nat.reduceEqDiff, Nat.reduceAdd, Nat.reduceLeDiff, e2, e3, e4, l2, l2', l3, ho, hc, hl]; done))))
                refine W_ret ?_; try (repeat (first | refine thenI ?_ | refine thenE ?_ | refine thenR ?_ | refine inBI ?_ | refine inBR ?_ | refine inBS ?_ | refine inBN (by decide) ?_))
                refine finC (.inl rfl) (by (simp (disch := omega) only [go_sem, ↓reduceIte, Nat.reduceEqDiff, Nat.reduceAdd, Nat.reduceLeDiff, e2]); try rfl) ⟨hext, [_, _, _, _], L, rfl, by rw [hred, hno]; exact Own.close _ _ _ hown, hfr⟩
              | true =>
                simp (disch := omega) only [go_sem, ↓reduceIte, Nat.reduceEqDiff, Nat.reduceAdd, Nat.reduceLeDiff, hG, e2, e3, e4, l2, l2', l3, ho, hc, hl]; refine hK _ _ ?_; clear hK K hG G; repeat (first | refine thenI ?_ | refine thenE ?_ | refine thenR ?_ | refine inBI ?_ | refine inBR ?_ | refine inBS ?_ | refine inBN (by decide) ?_)
                repeat (first | (refine W_reg rfl fun G K hG hK => ?_; simp (disch := omega) only [go_sem, ↓reduceIte, Nat.reduceEqDiff, Nat.reduceAdd, Nat.reduceLeDiff, hG, e2, e3, e4, l2, l2', l3, ho, hc, hl]; refine hK _ _ ?_; clear hK K hG G) | (refine W_end rfl fun G K hG hK => ?_; simp (disch := omega) only [go_sem, ↓reduceIte, Nat.reduceEqDiff, Nat.reduceAdd, Nat.reduceLeDiff, hG, e2, e3, e4, l2, l2', l3, ho, hc, hl]; refine hK _ _ ?_; clear hK K hG G; repeat (first | refine thenI ?_ | refine thenE ?_ | refine thenR ?_ | refine inBI ?_ | refine inBR ?_ | refine inBS ?_ | refine inBN (by decide) ?_)) | refine W_seqS ?_ | refine W_seqC ?_ | refine W_seqB ?_ | refine W_block ?_ | (refine W_skip ?_; repeat (first | refine thenI ?_ | refine thenE ?_ | refine thenR ?_ | refine inBI ?_ | refine inBR ?_ | refine inBS ?_ | refine inBN (by decide) ?_)) | (refine W_condT ?hc ?_; (case hc => (simp (disch := omega) only [go_sem, ↓reduceIte, Nat.reduceEqDiff, Nat.reduceAdd, Nat.reduceLeDiff, e2, e3, e4, l2, l2', l3, ho, hc, hl]; done))) | (refine W_condF ?hc ?_; (case hc => (simp (disch := omega) only [go_sem, ↓reduceIte, Nat.reduceEqDiff, Nat.reduceAdd, Nat.reduceLeDiff, e2, e3, e4, l2, l2', l3, ho, hc, hl]; done))))
                obtain rfl : k = 2 := by simpa using h1
                obtain rfl : n = 0 := by simpa using h2
                have hyes := redF_yes h3 h5 h6
                (repeat (first | refine W_seqS ?_ | refine W_seqC ?_ | refine W_seqB ?_ | refine W_block ?_)); refine W_regD mixed [] [(0,false),(1,false),(2,false),(3,false),(4,false),(5,false),(6,false),(7,false),(8,false),(9,false),(10,false),(11,false),(12,false),(13,false),(14,false)] rfl (by decide +kernel) fun G K hG hK => ?_; simp only [pickOps, List.filterMap_cons, List.filterMap_nil, List.getElem?_cons_zero, List.getElem?_cons_succ, Option.map_some]; simp (disch := omega) only [go_sem, ↓reduceIte, Nat.reduceEqDiff, Nat.reduceAdd, Nat.reduceLeDiff, hG, e2, e3, e4, l2, l2', l3, ho, hc, hl, idxA, Int.toNat_zero, Int.toNat_one, hi0, hi1, Nat.zero_mul, Nat.one_mul, q0, q1]
                refine w_call (implOp_ok nm na nb (T.isW_num h5) (T.isW_num h6) st') (by simp (disch := omega) only [go_sem, ↓reduceIte, Nat.reduceEqDiff]) ?hl ?_
                case hl => first | rfl | (simp only [go_sem, List.all_cons, List.all_nil, Bool.not_false, Bool.and_self]; done)
                rintro r_ st' ⟨rfl, rfl⟩; refine ⟨fun e => (by cases e), ?_⟩
                simp (disch := omega) only [go_sem, ↓reduceIte, Nat.reduceEqDiff, Nat.reduceAdd, Nat.reduceLeDiff, hG, e2, l2, l2']; refine hK _ _ ?_; clear hK K hG G; repeat (first | refine thenI ?_ | refine thenE ?_ | refine thenR ?_ | refine inBI ?_ | refine inBR ?_ | refine inBS ?_ | refine inBN (by decide) ?_)
                repeat (first | (refine W_reg rfl fun G K hG hK => ?_; simp (disch := omega) only [go_sem, ↓reduceIte, Nat.reduceEqDiff, Nat.reduceAdd, Nat.reduceLeDiff, hG]; refine hK _ _ ?_; clear hK K hG G) | (refine W_end rfl fun G K hG hK => ?_; simp (disch := omega) only [go_sem, ↓reduceIte, Nat.reduceEqDiff, Nat.reduceAdd, Nat.reduceLeDiff, hG]; refine hK _ _ ?_; clear hK K hG G; repeat (first | refine thenI ?_ | refine thenE ?_ | refine thenR ?_ | refine inBI ?_ | refine inBR ?_ | refine inBS ?_ | refine inBN (by decide) ?_)) | refine W_seqS ?_ | refine W_seqC ?_ | refine W_seqB ?_ | refine W_block ?_ | (refine W_skip ?_; repeat (first | refine thenI ?_ | refine thenE ?_ | refine thenR ?_ | refine inBI ?_ | refine inBR ?_ | refine inBS ?_ | refine inBN (by decide) ?_)) | (refine W_condT ?hc ?_; (case hc => (simp (disch := omega) only [go_sem, ↓reduceIte, Nat.reduceEqDiff, Nat.reduceAdd, Nat.reduceLeDiff]; done))) | (refine W_condF ?hc ?_; (case hc => (simp (disch := omega) only [go_sem, ↓reduceIte, Nat.reduceEqDiff, Nat.reduceAdd, Nat.reduceLeDiff]; done))))
                refine W_ret ?_; try (repeat (first | refine thenI ?_ | refine thenE ?_ | refine thenR ?_ | refine inBI ?_ | refine inBR ?_ | refine inBS ?_ | refine inBN (by decide) ?_))
                refine finC (.inl rfl) (by (simp (disch := omega) only [go_sem, ↓reduceIte, Nat.reduceEqDiff, Nat.reduceAdd, Nat.reduceLeDiff, e2]); try rfl) ⟨hext, [_, _, _, _], [], rfl, by rw [hred, hyes]; exact own_word _ _, ⟨by simp, by simp⟩⟩

theorem implRed_ok : ∀ (t : T) (st : St) (cs : List Value), Lim 1073741824 t → Enc st t cs →
    CallS Try.prog 6 [.agg cs.toArray] st fun r st2 => Ext st st2 ∧ ∃ ds L, r = .agg ds.toArray ∧ OwnT st2 t.red ds L ∧ Fresh st.length L := by
  refine T.ind fun k n nm args ih st cs hl h => ?_
  obtain ⟨s, rfl, hr⟩ := h.open
  exact implRed_of k n nm args st s hl.args.1 hr fun x hx st' cs he => ih x hx st' cs (hl.args.2 x hx) he
end Go.Proofs.Ytfckojbllbdejaa.AM

