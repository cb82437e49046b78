/- My texts for the law, laid together (part 5): F21 K6 F11 F22 F13 K4 N3 Q4 C19 C18 O6 F23 F24 E7 Tie Cards ZFnTermText. -/
import Derived.Test.YtpkjgjomiikofaaDoorG4
import Derived.Test.YtpkjgjomiikofaaDoorShelf
import Derived.Test.YtpkjgjomiikofaaDoorRows
import Derived.LaidByTextLater
import Derived.SevenTiedAt
import Derived.LaidSub
import Derived.LaidOnce
import GoSem.ClaimSeven
import Derived.Lib.LaidTab
import Derived.LaidMore
import Derived.MakeChecks
import Derived.Stop.LaidErr
import Derived.Stop.Joined
import Derived.WalkKit
import Derived.ProofKit
import Derived.OpenShut
import Derived.ShutString
import Derived.ChangeOld
import Derived.Below
import Derived.SizedLaws
import Derived.Carry
namespace Go.Proofs.YtpkjgjomiikofaaDoor.AM
open Go
attribute [local go_sem] List.map_cons List.map_nil List.all_cons List.all_nil Bool.and_self Option.map_some List.getElem?_toArray Option.bind_some gye_b gye_t gsk_b gsk_t gb1 gb2 gb3 gb4 bne_self_eq_false beq_self_eq_true w_guard w_nil stepV_some step_some step_some' w_move w_assign w_pick w_binOp w_unOp w_load w_fieldAddr w_indexAddr w_len w_max w_index ev_max max_int ev_index w_box w_alloc w_store w_field w_extract w_nilCheck w_convert w_buildSlice w_build ev_buildL fillL_nil fillL_cons bs0 bs1 ev_conv ev_bin ev_un ev_pick ev_load ev_fieldAddr ev_indexAddr ev_len ev_field ev_extract ev_nilCheck fr_tmp fr_int fr_bool fr_str fr_nil fr_func put_some put_none bin_lss bin_leq bin_gtr bin_geq bin_eql bin_neq bin_add bin_sub bin_mul bin_seql bin_sneq un_not pick_ ext_ loadA_p cellAt_l cellAt_h okPtr_l okPtr_h fadA_p allocA_l storeA_l cells_agg cells_int cells_str cells_sl cells_bool flat_i flat_s flat_b flat_sl flat_nil loc_agg loc_int loc_str loc_sl loc_bool loc_fn loc_ptr okv_agg okv_int okv_str okv_sl okv_bool cellsFrom splice upd_eval argEnv_zero argEnv_succ ne_eq Nat.add_one_ne_zero not_false_eq_true List.not_mem_nil and_self decide_true List.getElem?_cons_zero List.getElem?_cons_succ List.size_toArray List.length_cons List.length_nil List.take_succ_cons List.take_zero List.drop_succ_cons List.drop_zero List.cons_append List.nil_append List.drop_nil Bool.not_true Bool.not_false Bool.false_eq_true Nat.zero_add Nat.add_zero wrap_in List.toList_toArray List.mem_cons or_self or_false false_or
attribute [local go_sem] ag22 ag24 ag26 ag3 ag4 ag5 ag78 ag83 ag9 ag91 bu116 bu122 bu26 bu39 bu49 bu58 by26 by5 by9 el22 el24 el46 el53 of26_0 of26_1 of26_2 of26_3 of39_0 of49_0 of49_1 of49_2 of58_0 of58_1 of58_2 of80_0 of80_1 ro26_0 ro26_1 ro26_2 ro3_3 ro5_1 ro9_1 ro9_2 ro9_3 ro9_4 ro9_8 sz22 sz24 sz26 sz3 sz4 sz5 sz78 sz83 sz9 sz91 ze109 ze26 ze5 ze80 ze9 ze90
section
/- The reference's reader of terms: spec.l5Term. -/
open Go Go.Proofs Go.Lib
set_option linter.unusedVariables false
set_option linter.unusedSimpArgs false
set_option maxRecDepth 100000
-- AUTO

def L5Q (q : Nat) (s : ByteArray) (a d : Nat) (st : St) (r : Value) (st2 : St) : Prop := ∃ (res : Option (T × List UInt8)) (a' : Nat) (b' : Bool) (t : T) (ds : List Value) (L : List Nat),
  r = .agg ds.toArray ∧ OwnT st2 t ds L ∧ Fresh st.length L ∧ Rd st2 q s a' b' ∧ Away (some q) st st2 ∧ EvS d (s.data.toList.drop a) res ∧ a ≤ a' ∧ a' ≤ s.size + 2 * (18 - d) ∧ t.count + a ≤ a' + 1 ∧ LimN 1073741824 t ∧
  match res with
  | some (t', l') => t = t' ∧ b' = false ∧ a' ≤ s.size ∧ s.data.toList.drop a' = l'
  | none => b' = true
theorem ne_byte {x c : UInt8} (h : ¬ x = c) : ((x.toNat : Int) != (c.toNat : Int)) = true := by
  simp only [bne_iff_ne, ne_eq]
  intro e
  exact h (UInt8.toNat_inj.1 (by omega))
theorem stop_no {x : UInt8} (h1 : ¬ x = 40) (h2 : ¬ x = 41) (h3 : ¬ x = 44) (h4 : ¬ x = 32) : (!stopB x) = true := by
  have g : ∀ c : UInt8, ¬ x = c → ¬ x.toNat = c.toNat := fun c h e => h (UInt8.toNat_inj.1 e)
  have h1 := g _ h1
  have h2 := g _ h2
  have h3 := g _ h3
  have h4 := g _ h4
  simp only [show (40 : UInt8).toNat = 40 from rfl, show (41 : UInt8).toNat = 41 from rfl, show (44 : UInt8).toNat = 44 from rfl, show (32 : UInt8).toNat = 32 from rfl] at h1 h2 h3 h4
  simp [stopB, h1, h2, h3, h4]
theorem stop_yes {x : UInt8} (h : x = 40 ∨ x = 41 ∨ x = 44 ∨ x = 32) : (!stopB x) = false := by
  rcases h with rfl | rfl | rfl | rfl <;> decide
theorem extract_lh (s : ByteArray) (a j : Nat) : s.extract a (a + j) = baL ((s.data.toList.drop a).take j) := by
  apply ByteArray.ext
  apply Array.ext'
  rw [ext_toList, show a + j - a = j by omega]
  simp [baL]
theorem headT_one {b : UInt8} (h : isNm 65 90 [b] = false) : headT [b] = if 48 ≤ b.toNat ∧ b.toNat ≤ 57 then .mk 3 ((b.toNat : Int) - 48) ⟨#[]⟩ [] else .mk 2 0 (baL [b]) [] := by
  unfold headT
  rw [if_neg (by rw [h]; simp)]
theorem headT_big {l : List UInt8} (h : isNm 65 90 l = false) (h1 : l.length ≠ 1) : headT l = .mk 2 0 (baL l) [] := by
  unfold headT
  rw [if_neg (by rw [h]; simp)]
  split
  · exact absurd rfl h1
  · rfl
set_option maxHeartbeats 4000000 in
/-- A term is read; the deeper ones are read so already. -/
theorem l5_of (dp : Nat) (hd17 : dp ≤ 17) (ih : dp ≤ 16 → ∀ (q : Nat) (s : ByteArray) (a : Nat) (st : St), s.size ≤ 1073741824 → a ≤ s.size → Rd st q s a false →
      CallS Tryd.prog 25 [.pointer (some ⟨q, 0, none⟩), .int .i64 ((dp + 1 : Nat) : Int)] st (L5Q q s a (dp + 1) st))
    (q : Nat) (s : ByteArray) (a : Nat) (st : St) (hb : s.size ≤ 1073741824) (ha : a ≤ s.size) (hr : Rd st q s a false) :
    CallS Tryd.prog 25 [.pointer (some ⟨q, 0, none⟩), .int .i64 (dp : Int)] st (L5Q q s a dp st) := by
  refine CallS_of_W [] 177 Tryd.func25 rfl rfl rfl rfl (by simp) ?_
  have hlen := fun (s : ByteArray) => (len_str Tryd.underlying9 : lenE Tryd.prog 9 (.string s) = some (.int .i64 s.size))
  have hix := fun (s : ByteArray) (k : IntKind) (i : Int) (h0 : 0 ≤ i) (h1 : i < s.size) => idxS (k := k) Tryd.underlying9 h0 h1
  have hql := hr.lt
  have r1 := rd_1 hr
  have hll : s.data.toList.length = s.size := (size_list s).symm
  obtain ⟨l, hl⟩ : ∃ l, l = s.data.toList.drop a := ⟨_, rfl⟩
  (repeat (first | refine W_seqS ?_ | refine W_seqC ?_ | refine W_seqB ?_ | refine W_block ?_)); refine W_reg rfl fun G K hG hK => ?_; simp (disch := omega) only [go_sem, ↓reduceIte, Nat.reduceEqDiff, Nat.reduceAdd, Nat.reduceLeDiff, hG, hlen, hix, w_index, ev_index, nc_h, okPtr_h, cellAt_h]
  refine hK _ _ ?_; clear hK K hG G; repeat (first | refine thenI ?_ | refine thenE ?_ | refine thenR ?_ | refine inBI ?_ | refine inBR ?_ | refine inBS ?_ | refine inBN (by decide) ?_)
  (repeat (first | refine W_seqS ?_ | refine W_seqC ?_ | refine W_seqB ?_ | refine W_block ?_)); refine W_reg rfl fun G K hG hK => ?_; simp (disch := omega) only [go_sem, ↓reduceIte, Nat.reduceEqDiff, Nat.reduceAdd, Nat.reduceLeDiff, hG, hlen, hix, w_index, ev_index, nc_h, okPtr_h, cellAt_h, r1]
  refine hK _ _ ?_; clear hK K hG G; repeat (first | refine thenI ?_ | refine thenE ?_ | refine thenR ?_ | refine inBI ?_ | refine inBR ?_ | refine inBS ?_ | refine inBN (by decide) ?_)
  refine W_seq ?_
  refine W_to (fun fr st' => ∃ (j : Nat), (Rd st' q s (a + j) false) ∧ (Away (some q) st st') ∧ (st'.length = st.length) ∧ (hdW l = l.take j) ∧ (tlW l = l.drop j) ∧ (a + j ≤ s.size) ∧ (fr.env 0 = .pointer (some ⟨q, 0, none⟩)) ∧ (fr.env 1 = .int .i64 (dp : Int)) ∧ (fr.env 4 = .pointer (some ⟨4, 0, some 1⟩)) ∧ (fr.env 5 = .int .i64 (a : Int)) ∧ (fr.env 137 = undef) ∧ ((fr.loc 4).1 = 1 ∧ (fr.loc 4).2.length = 4) ∧ ((fr.loc 7).1 = 0)) ?_ ?_
  · repeat (first | (refine W_reg rfl fun G K hG hK => ?_; simp (disch := omega) only [go_sem, ↓reduceIte, Nat.reduceEqDiff, Nat.reduceAdd, Nat.reduceLeDiff, hG, hlen, hix, w_index, ev_index, nc_h, okPtr_h, cellAt_h]; refine hK _ _ ?_; clear hK K hG G) | (refine W_end rfl fun G K hG hK => ?_; simp (disch := omega) only [go_sem, ↓reduceIte, Nat.reduceEqDiff, Nat.reduceAdd, Nat.reduceLeDiff, hG, hlen, hix, w_index, ev_index, nc_h, okPtr_h, cellAt_h]; refine hK _ _ ?_; clear hK K hG G; repeat (first | refine thenI ?_ | refine thenE ?_ | refine thenR ?_ | refine inBI ?_ | refine inBR ?_ | refine inBS ?_ | refine inBN (by decide) ?_)) | refine W_seqS ?_ | refine W_seqC ?_ | refine W_seqB ?_ | refine W_block ?_ | (refine W_skip ?_; repeat (first | refine thenI ?_ | refine thenE ?_ | refine thenR ?_ | refine inBI ?_ | refine inBR ?_ | refine inBS ?_ | refine inBN (by decide) ?_)) | (refine W_condT ?hc ?_; (case hc => (simp (disch := omega) only [go_sem, ↓reduceIte, Nat.reduceEqDiff, Nat.reduceAdd, Nat.reduceLeDiff, hlen, hix, w_index, ev_index, nc_h, okPtr_h, cellAt_h]; done))) | (refine W_condF ?hc ?_; (case hc => (simp (disch := omega) only [go_sem, ↓reduceIte, Nat.reduceEqDiff, Nat.reduceAdd, Nat.reduceLeDiff, hlen, hix, w_index, ev_index, nc_h, okPtr_h, cellAt_h]; done))))
    refine W_loop (fun d fr st' => ∃ (j : Nat) , d = (s.size - a) - j ∧ j ≤ (s.size - a) ∧ (Rd st' q s (a + j) false) ∧ (Away (some q) st st') ∧ (st'.length = st.length) ∧ ((∀ x ∈ l.take j, (!stopB x) = true)) ∧ (fr.env 0 = .pointer (some ⟨q, 0, none⟩)) ∧ (fr.env 1 = .int .i64 (dp : Int)) ∧ (fr.env 4 = .pointer (some ⟨4, 0, some 1⟩)) ∧ (fr.env 5 = .int .i64 (a : Int)) ∧ (fr.env 137 = undef) ∧ ((fr.loc 4).1 = 1 ∧ (fr.loc 4).2.length = 4) ∧ ((fr.loc 7).1 = 0)) ((s.size - a)) ?_ ?_
    · exact ⟨0, by omega, by omega, hr, .refl _ _, rfl, by simp, (by (simp (disch := omega) only [go_sem, ↓reduceIte, Nat.reduceEqDiff, Nat.reduceAdd, Nat.reduceLeDiff, hlen, hix, w_index, ev_index, nc_h, okPtr_h, cellAt_h]); try rfl), (by (simp (disch := omega) only [go_sem, ↓reduceIte, Nat.reduceEqDiff, Nat.reduceAdd, Nat.reduceLeDiff, hlen, hix, w_index, ev_index, nc_h, okPtr_h, cellAt_h]); try rfl), (by (simp (disch := omega) only [go_sem, ↓reduceIte, Nat.reduceEqDiff, Nat.reduceAdd, Nat.reduceLeDiff, hlen, hix, w_index, ev_index, nc_h, okPtr_h, cellAt_h]); try rfl), (by (simp (disch := omega) only [go_sem, ↓reduceIte, Nat.reduceEqDiff, Nat.reduceAdd, Nat.reduceLeDiff, hlen, hix, w_index, ev_index, nc_h, okPtr_h, cellAt_h]); try rfl), (by (simp (disch := omega) only [go_sem, ↓reduceIte, Nat.reduceEqDiff, Nat.reduceAdd, Nat.reduceLeDiff, hlen, hix, w_index, ev_index, nc_h, okPtr_h, cellAt_h]); try rfl), ⟨(by (simp (disch := omega) only [go_sem, ↓reduceIte, Nat.reduceEqDiff, Nat.reduceAdd, Nat.reduceLeDiff, hlen, hix, w_index, ev_index, nc_h, okPtr_h, cellAt_h]); try rfl), (by (simp (disch := omega) only [go_sem, ↓reduceIte, Nat.reduceEqDiff, Nat.reduceAdd, Nat.reduceLeDiff, hlen, hix, w_index, ev_index, nc_h, okPtr_h, cellAt_h]); try rfl)⟩, (by (simp (disch := omega) only [go_sem, ↓reduceIte, Nat.reduceEqDiff, Nat.reduceAdd, Nat.reduceLeDiff, hlen, hix, w_index, ev_index, nc_h, okPtr_h, cellAt_h]); try rfl)⟩
    rintro d ⟨env, loc⟩ st' ⟨j, hd, hj, hrd, haw, hst, hns, e0, e1, e4, e5, e137, ⟨l4, l4'⟩, l7⟩
    simp only at e0 e1 e4 e5 e137 l4 l4' l7
    have r0 := rd_0 hrd
    have r1 := rd_1 hrd
    by_cases hlt : ¬ a + j < s.size
    · have c0 : decide (((a + j : Nat) : Int) < (s.size : Int)) = false := decide_eq_false (by omega)
      have ht := tw_at (p := fun b => !stopB b) (j := j) hns (fun x hx => by
        have := (List.getElem?_eq_some_iff.1 hx).1
        rw [hl, List.length_drop] at this
        omega)
      (repeat (first | refine W_seqS ?_ | refine W_seqC ?_ | refine W_seqB ?_ | refine W_block ?_)); refine W_regD mixed [] [(0,false),(1,false),(2,false),(3,false),(4,false),(5,false),(6,false),(7,false),(8,false),(9,false),(10,false),(11,false),(12,false),(13,false),(14,false),(15,false),(16,false),(17,false),(18,false),(19,false),(20,false),(21,false),(22,false),(23,false),(24,false),(25,false),(26,false),(27,false),(28,false),(29,false),(30,false),(31,false),(32,false),(33,false),(34,false),(35,false),(36,false),(37,false),(38,false),(39,false),(40,false),(41,false),(42,false),(43,false),(44,false),(45,false),(46,false),(47,false),(48,false),(49,false),(50,false),(51,false),(52,false),(53,false),(54,false),(55,false),(56,false),(57,false)] rfl (by decide +kernel) fun G K hG hK => ?_; simp only [pickOps, List.filterMap_cons, List.filterMap_nil, List.getElem?_cons_zero, List.getElem?_cons_succ, Option.map_some]; simp (disch := omega) only [go_sem, ↓reduceIte, Nat.reduceEqDiff, Nat.reduceAdd, Nat.reduceLeDiff, hG, hlen, hix, w_index, ev_index, nc_h, okPtr_h, cellAt_h, e0, e1, e4, e5, e137, l4, l4', l7, r0, r1, c0]
      refine hK _ _ ?_; clear hK K hG G; repeat (first | refine thenI ?_ | refine thenE ?_ | refine thenR ?_ | refine inBI ?_ | refine inBR ?_ | refine inBS ?_ | refine inBN (by decide) ?_)
      repeat (first | (refine W_reg rfl fun G K hG hK => ?_; simp (disch := omega) only [go_sem, ↓reduceIte, Nat.reduceEqDiff, Nat.reduceAdd, Nat.reduceLeDiff, hG, hlen, hix, w_index, ev_index, nc_h, okPtr_h, cellAt_h, e0, e1, e4, e5, e137, l4, l4', l7, r0, r1]; refine hK _ _ ?_; clear hK K hG G) | (refine W_end rfl fun G K hG hK => ?_; simp (disch := omega) only [go_sem, ↓reduceIte, Nat.reduceEqDiff, Nat.reduceAdd, Nat.reduceLeDiff, hG, hlen, hix, w_index, ev_index, nc_h, okPtr_h, cellAt_h, e0, e1, e4, e5, e137, l4, l4', l7, r0, r1]; refine hK _ _ ?_; clear hK K hG G; repeat (first | refine thenI ?_ | refine thenE ?_ | refine thenR ?_ | refine inBI ?_ | refine inBR ?_ | refine inBS ?_ | refine inBN (by decide) ?_)) | refine W_seqS ?_ | refine W_seqC ?_ | refine W_seqB ?_ | refine W_block ?_ | (refine W_skip ?_; repeat (first | refine thenI ?_ | refine thenE ?_ | refine thenR ?_ | refine inBI ?_ | refine inBR ?_ | refine inBS ?_ | refine inBN (by decide) ?_)) | (refine W_condT ?hc ?_; (case hc => (simp (disch := omega) only [go_sem, ↓reduceIte, Nat.reduceEqDiff, Nat.reduceAdd, Nat.reduceLeDiff, hlen, hix, w_index, ev_index, nc_h, okPtr_h, cellAt_h, e0, e1, e4, e5, e137, l4, l4', l7, r0, r1]; done))) | (refine W_condF ?hc ?_; (case hc => (simp (disch := omega) only [go_sem, ↓reduceIte, Nat.reduceEqDiff, Nat.reduceAdd, Nat.reduceLeDiff, hlen, hix, w_index, ev_index, nc_h, okPtr_h, cellAt_h, e0, e1, e4, e5, e137, l4, l4', l7, r0, r1]; done))))
      refine W_exit ?_; repeat (first | refine thenI ?_ | refine thenE ?_ | refine thenR ?_ | refine inBI ?_ | refine inBR ?_ | refine inBS ?_ | refine inBN (by decide) ?_)
      exact ⟨j, hrd, haw, hst, ht.1, ht.2, by omega, (by (simp (disch := omega) only [go_sem, ↓reduceIte, Nat.reduceEqDiff, Nat.reduceAdd, Nat.reduceLeDiff, hlen, hix, w_index, ev_index, nc_h, okPtr_h, cellAt_h, e0, e1, e4, e5, e137, l4, l4', l7, r0, r1]); try rfl), (by (simp (disch := omega) only [go_sem, ↓reduceIte, Nat.reduceEqDiff, Nat.reduceAdd, Nat.reduceLeDiff, hlen, hix, w_index, ev_index, nc_h, okPtr_h, cellAt_h, e0, e1, e4, e5, e137, l4, l4', l7, r0, r1]); try rfl), (by (simp (disch := omega) only [go_sem, ↓reduceIte, Nat.reduceEqDiff, Nat.reduceAdd, Nat.reduceLeDiff, hlen, hix, w_index, ev_index, nc_h, okPtr_h, cellAt_h, e0, e1, e4, e5, e137, l4, l4', l7, r0, r1]); try rfl), (by (simp (disch := omega) only [go_sem, ↓reduceIte, Nat.reduceEqDiff, Nat.reduceAdd, Nat.reduceLeDiff, hlen, hix, w_index, ev_index, nc_h, okPtr_h, cellAt_h, e0, e1, e4, e5, e137, l4, l4', l7, r0, r1]); try rfl), (by (simp (disch := omega) only [go_sem, ↓reduceIte, Nat.reduceEqDiff, Nat.reduceAdd, Nat.reduceLeDiff, hlen, hix, w_index, ev_index, nc_h, okPtr_h, cellAt_h, e0, e1, e4, e5, e137, l4, l4', l7, r0, r1]); try rfl), ⟨(by (simp (disch := omega) only [go_sem, ↓reduceIte, Nat.reduceEqDiff, Nat.reduceAdd, Nat.reduceLeDiff, hlen, hix, w_index, ev_index, nc_h, okPtr_h, cellAt_h, e0, e1, e4, e5, e137, l4, l4', l7, r0, r1]); try rfl), (by (simp (disch := omega) only [go_sem, ↓reduceIte, Nat.reduceEqDiff, Nat.reduceAdd, Nat.reduceLeDiff, hlen, hix, w_index, ev_index, nc_h, okPtr_h, cellAt_h, e0, e1, e4, e5, e137, l4, l4', l7, r0, r1]); try rfl)⟩, (by (simp (disch := omega) only [go_sem, ↓reduceIte, Nat.reduceEqDiff, Nat.reduceAdd, Nat.reduceLeDiff, hlen, hix, w_index, ev_index, nc_h, okPtr_h, cellAt_h, e0, e1, e4, e5, e137, l4, l4', l7, r0, r1]); try rfl)⟩
    · have hlt : a + j < s.size := Decidable.not_not.1 hlt
      have c0 : decide (((a + j : Nat) : Int) < (s.size : Int)) = true := decide_eq_true (by omega)
      obtain ⟨x, rr, hx, hxb, hr1⟩ := drop_byte (s := s) (i := a + j) hlt
      have hxb' : byteAt s ((a + j : Nat) : Int).toNat = (x.toNat : Int) := hxb
      have hxj : l[j]? = some x := by rw [hl, List.getElem?_drop, ← List.head?_drop, hx]; rfl
      have hgo : (!stopB x) = false → hdW l = l.take j ∧ tlW l = l.drop j := fun h => tw_at (p := fun b => !stopB b) (j := j) hns (fun y hy => by rw [hxj] at hy; cases hy; exact h)
      by_cases h40 : x = 40
      · have ht := hgo (stop_yes (.inl h40))
        have n40 : ((x.toNat : Int) != 40) = false := by rw [h40]; rfl
        (repeat (first | refine W_seqS ?_ | refine W_seqC ?_ | refine W_seqB ?_ | refine W_block ?_)); refine W_regD mixed [] [(0,false),(1,false),(2,false),(3,false),(4,false),(5,false),(6,false),(7,false),(8,false),(9,false),(10,false),(11,false),(12,false),(13,false),(14,false),(15,false),(16,false),(17,false),(18,false),(19,false),(20,false),(21,false),(22,false),(23,false),(24,false),(25,false),(26,false),(27,false),(28,false),(29,false),(30,false),(31,false),(32,false),(33,false),(34,false),(35,false),(36,false),(37,false),(38,false),(39,false),(40,false),(41,false),(42,false),(43,false),(44,false),(45,false),(46,false),(47,false),(48,false),(49,false),(50,false),(51,false),(52,false),(53,false),(54,false),(55,false),(56,false),(57,false)] rfl (by decide +kernel) fun G K hG hK => ?_; simp only [pickOps, List.filterMap_cons, List.filterMap_nil, List.getElem?_cons_zero, List.getElem?_cons_succ, Option.map_some]; simp (disch := omega) only [go_sem, ↓reduceIte, Nat.reduceEqDiff, Nat.reduceAdd, Nat.reduceLeDiff, hG, hlen, hix, w_index, ev_index, nc_h, okPtr_h, cellAt_h, e0, e1, e4, e5, e137, l4, l4', l7, r0, r1, c0, hxb', n40]
        refine hK _ _ ?_; clear hK K hG G; repeat (first | refine thenI ?_ | refine thenE ?_ | refine thenR ?_ | refine inBI ?_ | refine inBR ?_ | refine inBS ?_ | refine inBN (by decide) ?_)
        repeat (first | (refine W_reg rfl fun G K hG hK => ?_; simp (disch := omega) only [go_sem, ↓reduceIte, Nat.reduceEqDiff, Nat.reduceAdd, Nat.reduceLeDiff, hG, hlen, hix, w_index, ev_index, nc_h, okPtr_h, cellAt_h, e0, e1, e4, e5, e137, l4, l4', l7, r0, r1]; refine hK _ _ ?_; clear hK K hG G) | (refine W_end rfl fun G K hG hK => ?_; simp (disch := omega) only [go_sem, ↓reduceIte, Nat.reduceEqDiff, Nat.reduceAdd, Nat.reduceLeDiff, hG, hlen, hix, w_index, ev_index, nc_h, okPtr_h, cellAt_h, e0, e1, e4, e5, e137, l4, l4', l7, r0, r1]; refine hK _ _ ?_; clear hK K hG G; repeat (first | refine thenI ?_ | refine thenE ?_ | refine thenR ?_ | refine inBI ?_ | refine inBR ?_ | refine inBS ?_ | refine inBN (by decide) ?_)) | refine W_seqS ?_ | refine W_seqC ?_ | refine W_seqB ?_ | refine W_block ?_ | (refine W_skip ?_; repeat (first | refine thenI ?_ | refine thenE ?_ | refine thenR ?_ | refine inBI ?_ | refine inBR ?_ | refine inBS ?_ | refine inBN (by decide) ?_)) | (refine W_condT ?hc ?_; (case hc => (simp (disch := omega) only [go_sem, ↓reduceIte, Nat.reduceEqDiff, Nat.reduceAdd, Nat.reduceLeDiff, hlen, hix, w_index, ev_index, nc_h, okPtr_h, cellAt_h, e0, e1, e4, e5, e137, l4, l4', l7, r0, r1]; done))) | (refine W_condF ?hc ?_; (case hc => (simp (disch := omega) only [go_sem, ↓reduceIte, Nat.reduceEqDiff, Nat.reduceAdd, Nat.reduceLeDiff, hlen, hix, w_index, ev_index, nc_h, okPtr_h, cellAt_h, e0, e1, e4, e5, e137, l4, l4', l7, r0, r1]; done))))
        refine W_exit ?_; repeat (first | refine thenI ?_ | refine thenE ?_ | refine thenR ?_ | refine inBI ?_ | refine inBR ?_ | refine inBS ?_ | refine inBN (by decide) ?_)
        exact ⟨j, hrd, haw, hst, ht.1, ht.2, by omega, (by (simp (disch := omega) only [go_sem, ↓reduceIte, Nat.reduceEqDiff, Nat.reduceAdd, Nat.reduceLeDiff, hlen, hix, w_index, ev_index, nc_h, okPtr_h, cellAt_h, e0, e1, e4, e5, e137, l4, l4', l7, r0, r1]); try rfl), (by (simp (disch := omega) only [go_sem, ↓reduceIte, Nat.reduceEqDiff, Nat.reduceAdd, Nat.reduceLeDiff, hlen, hix, w_index, ev_index, nc_h, okPtr_h, cellAt_h, e0, e1, e4, e5, e137, l4, l4', l7, r0, r1]); try rfl), (by (simp (disch := omega) only [go_sem, ↓reduceIte, Nat.reduceEqDiff, Nat.reduceAdd, Nat.reduceLeDiff, hlen, hix, w_index, ev_index, nc_h, okPtr_h, cellAt_h, e0, e1, e4, e5, e137, l4, l4', l7, r0, r1]); try rfl), (by (simp (disch := omega) only [go_sem, ↓reduceIte, Nat.reduceEqDiff, Nat.reduceAdd, Nat.reduceLeDiff, hlen, hix, w_index, ev_index, nc_h, okPtr_h, cellAt_h, e0, e1, e4, e5, e137, l4, l4', l7, r0, r1]); try rfl), (by (simp (disch := omega) only [go_sem, ↓reduceIte, Nat.reduceEqDiff, Nat.reduceAdd, Nat.reduceLeDiff, hlen, hix, w_index, ev_index, nc_h, okPtr_h, cellAt_h, e0, e1, e4, e5, e137, l4, l4', l7, r0, r1]); try rfl), ⟨(by (simp (disch := omega) only [go_sem, ↓reduceIte, Nat.reduceEqDiff, Nat.reduceAdd, Nat.reduceLeDiff, hlen, hix, w_index, ev_index, nc_h, okPtr_h, cellAt_h, e0, e1, e4, e5, e137, l4, l4', l7, r0, r1]); try rfl), (by (simp (disch := omega) only [go_sem, ↓reduceIte, Nat.reduceEqDiff, Nat.reduceAdd, Nat.reduceLeDiff, hlen, hix, w_index, ev_index, nc_h, okPtr_h, cellAt_h, e0, e1, e4, e5, e137, l4, l4', l7, r0, r1]); try rfl)⟩, (by (simp (disch := omega) only [go_sem, ↓reduceIte, Nat.reduceEqDiff, Nat.reduceAdd, Nat.reduceLeDiff, hlen, hix, w_index, ev_index, nc_h, okPtr_h, cellAt_h, e0, e1, e4, e5, e137, l4, l4', l7, r0, r1]); try rfl)⟩
      have n40 : ((x.toNat : Int) != 40) = true := ne_byte h40
      by_cases h41 : x = 41
      · have ht := hgo (stop_yes (.inr (.inl h41)))
        have n41 : ((x.toNat : Int) != 41) = false := by rw [h41]; rfl
        (repeat (first | refine W_seqS ?_ | refine W_seqC ?_ | refine W_seqB ?_ | refine W_block ?_)); refine W_regD mixed [] [(0,false),(1,false),(2,false),(3,false),(4,false),(5,false),(6,false),(7,false),(8,false),(9,false),(10,false),(11,false),(12,false),(13,false),(14,false),(15,false),(16,false),(17,false),(18,false),(19,false),(20,false),(21,false),(22,false),(23,false),(24,false),(25,false),(26,false),(27,false),(28,false),(29,false),(30,false),(31,false),(32,false),(33,false),(34,false),(35,false),(36,false),(37,false),(38,false),(39,false),(40,false),(41,false),(42,false),(43,false),(44,false),(45,false),(46,false),(47,false),(48,false),(49,false),(50,false),(51,false),(52,false),(53,false),(54,false),(55,false),(56,false),(57,false)] rfl (by decide +kernel) fun G K hG hK => ?_; simp only [pickOps, List.filterMap_cons, List.filterMap_nil, List.getElem?_cons_zero, List.getElem?_cons_succ, Option.map_some]; simp (disch := omega) only [go_sem, ↓reduceIte, Nat.reduceEqDiff, Nat.reduceAdd, Nat.reduceLeDiff, hG, hlen, hix, w_index, ev_index, nc_h, okPtr_h, cellAt_h, e0, e1, e4, e5, e137, l4, l4', l7, r0, r1, c0, hxb', n40, n41]
        refine hK _ _ ?_; clear hK K hG G; repeat (first | refine thenI ?_ | refine thenE ?_ | refine thenR ?_ | refine inBI ?_ | refine inBR ?_ | refine inBS ?_ | refine inBN (by decide) ?_)
        repeat (first | (refine W_reg rfl fun G K hG hK => ?_; simp (disch := omega) only [go_sem, ↓reduceIte, Nat.reduceEqDiff, Nat.reduceAdd, Nat.reduceLeDiff, hG, hlen, hix, w_index, ev_index, nc_h, okPtr_h, cellAt_h, e0, e1, e4, e5, e137, l4, l4', l7, r0, r1]; refine hK _ _ ?_; clear hK K hG G) | (refine W_end rfl fun G K hG hK => ?_; simp (disch := omega) only [go_sem, ↓reduceIte, Nat.reduceEqDiff, Nat.reduceAdd, Nat.reduceLeDiff, hG, hlen, hix, w_index, ev_index, nc_h, okPtr_h, cellAt_h, e0, e1, e4, e5, e137, l4, l4', l7, r0, r1]; refine hK _ _ ?_; clear hK K hG G; repeat (first | refine thenI ?_ | refine thenE ?_ | refine thenR ?_ | refine inBI ?_ | refine inBR ?_ | refine inBS ?_ | refine inBN (by decide) ?_)) | refine W_seqS ?_ | refine W_seqC ?_ | refine W_seqB ?_ | refine W_block ?_ | (refine W_skip ?_; repeat (first | refine thenI ?_ | refine thenE ?_ | refine thenR ?_ | refine inBI ?_ | refine inBR ?_ | refine inBS ?_ | refine inBN (by decide) ?_)) | (refine W_condT ?hc ?_; (case hc => (simp (disch := omega) only [go_sem, ↓reduceIte, Nat.reduceEqDiff, Nat.reduceAdd, Nat.reduceLeDiff, hlen, hix, w_index, ev_index, nc_h, okPtr_h, cellAt_h, e0, e1, e4, e5, e137, l4, l4', l7, r0, r1]; done))) | (refine W_condF ?hc ?_; (case hc => (simp (disch := omega) only [go_sem, ↓reduceIte, Nat.reduceEqDiff, Nat.reduceAdd, Nat.reduceLeDiff, hlen, hix, w_index, ev_index, nc_h, okPtr_h, cellAt_h, e0, e1, e4, e5, e137, l4, l4', l7, r0, r1]; done))))
        refine W_exit ?_; repeat (first | refine thenI ?_ | refine thenE ?_ | refine thenR ?_ | refine inBI ?_ | refine inBR ?_ | refine inBS ?_ | refine inBN (by decide) ?_)
        exact ⟨j, hrd, haw, hst, ht.1, ht.2, by omega, (by (simp (disch := omega) only [go_sem, ↓reduceIte, Nat.reduceEqDiff, Nat.reduceAdd, Nat.reduceLeDiff, hlen, hix, w_index, ev_index, nc_h, okPtr_h, cellAt_h, e0, e1, e4, e5, e137, l4, l4', l7, r0, r1]); try rfl), (by (simp (disch := omega) only [go_sem, ↓reduceIte, Nat.reduceEqDiff, Nat.reduceAdd, Nat.reduceLeDiff, hlen, hix, w_index, ev_index, nc_h, okPtr_h, cellAt_h, e0, e1, e4, e5, e137, l4, l4', l7, r0, r1]); try rfl), (by (simp (disch := omega) only [go_sem, ↓reduceIte, Nat.reduceEqDiff, Nat.reduceAdd, Nat.reduceLeDiff, hlen, hix, w_index, ev_index, nc_h, okPtr_h, cellAt_h, e0, e1, e4, e5, e137, l4, l4', l7, r0, r1]); try rfl), (by (simp (disch := omega) only [go_sem, ↓reduceIte, Nat.reduceEqDiff, Nat.reduceAdd, Nat.reduceLeDiff, hlen, hix, w_index, ev_index, nc_h, okPtr_h, cellAt_h, e0, e1, e4, e5, e137, l4, l4', l7, r0, r1]); try rfl), (by (simp (disch := omega) only [go_sem, ↓reduceIte, Nat.reduceEqDiff, Nat.reduceAdd, Nat.reduceLeDiff, hlen, hix, w_index, ev_index, nc_h, okPtr_h, cellAt_h, e0, e1, e4, e5, e137, l4, l4', l7, r0, r1]); try rfl), ⟨(by (simp (disch := omega) only [go_sem, ↓reduceIte, Nat.reduceEqDiff, Nat.reduceAdd, Nat.reduceLeDiff, hlen, hix, w_index, ev_index, nc_h, okPtr_h, cellAt_h, e0, e1, e4, e5, e137, l4, l4', l7, r0, r1]); try rfl), (by (simp (disch := omega) only [go_sem, ↓reduceIte, Nat.reduceEqDiff, Nat.reduceAdd, Nat.reduceLeDiff, hlen, hix, w_index, ev_index, nc_h, okPtr_h, cellAt_h, e0, e1, e4, e5, e137, l4, l4', l7, r0, r1]); try rfl)⟩, (by (simp (disch := omega) only [go_sem, ↓reduceIte, Nat.reduceEqDiff, Nat.reduceAdd, Nat.reduceLeDiff, hlen, hix, w_index, ev_index, nc_h, okPtr_h, cellAt_h, e0, e1, e4, e5, e137, l4, l4', l7, r0, r1]); try rfl)⟩
      have n41 : ((x.toNat : Int) != 41) = true := ne_byte h41
      by_cases h44 : x = 44
      · have ht := hgo (stop_yes (.inr (.inr (.inl h44))))
        have n44 : ((x.toNat : Int) != 44) = false := by rw [h44]; rfl
        (repeat (first | refine W_seqS ?_ | refine W_seqC ?_ | refine W_seqB ?_ | refine W_block ?_)); refine W_regD mixed [] [(0,false),(1,false),(2,false),(3,false),(4,false),(5,false),(6,false),(7,false),(8,false),(9,false),(10,false),(11,false),(12,false),(13,false),(14,false),(15,false),(16,false),(17,false),(18,false),(19,false),(20,false),(21,false),(22,false),(23,false),(24,false),(25,false),(26,false),(27,false),(28,false),(29,false),(30,false),(31,false),(32,false),(33,false),(34,false),(35,false),(36,false),(37,false),(38,false),(39,false),(40,false),(41,false),(42,false),(43,false),(44,false),(45,false),(46,false),(47,false),(48,false),(49,false),(50,false),(51,false),(52,false),(53,false),(54,false),(55,false),(56,false),(57,false)] rfl (by decide +kernel) fun G K hG hK => ?_; simp only [pickOps, List.filterMap_cons, List.filterMap_nil, List.getElem?_cons_zero, List.getElem?_cons_succ, Option.map_some]; simp (disch := omega) only [go_sem, ↓reduceIte, Nat.reduceEqDiff, Nat.reduceAdd, Nat.reduceLeDiff, hG, hlen, hix, w_index, ev_index, nc_h, okPtr_h, cellAt_h, e0, e1, e4, e5, e137, l4, l4', l7, r0, r1, c0, hxb', n40, n41, n44]
        refine hK _ _ ?_; clear hK K hG G; repeat (first | refine thenI ?_ | refine thenE ?_ | refine thenR ?_ | refine inBI ?_ | refine inBR ?_ | refine inBS ?_ | refine inBN (by decide) ?_)
        repeat (first | (refine W_reg rfl fun G K hG hK => ?_; simp (disch := omega) only [go_sem, ↓reduceIte, Nat.reduceEqDiff, Nat.reduceAdd, Nat.reduceLeDiff, hG, hlen, hix, w_index, ev_index, nc_h, okPtr_h, cellAt_h, e0, e1, e4, e5, e137, l4, l4', l7, r0, r1]; refine hK _ _ ?_; clear hK K hG G) | (refine W_end rfl fun G K hG hK => ?_; simp (disch := omega) only [go_sem, ↓reduceIte, Nat.reduceEqDiff, Nat.reduceAdd, Nat.reduceLeDiff, hG, hlen, hix, w_index, ev_index, nc_h, okPtr_h, cellAt_h, e0, e1, e4, e5, e137, l4, l4', l7, r0, r1]; refine hK _ _ ?_; clear hK K hG G; repeat (first | refine thenI ?_ | refine thenE ?_ | refine thenR ?_ | refine inBI ?_ | refine inBR ?_ | refine inBS ?_ | refine inBN (by decide) ?_)) | refine W_seqS ?_ | refine W_seqC ?_ | refine W_seqB ?_ | refine W_block ?_ | (refine W_skip ?_; repeat (first | refine thenI ?_ | refine thenE ?_ | refine thenR ?_ | refine inBI ?_ | refine inBR ?_ | refine inBS ?_ | refine inBN (by decide) ?_)) | (refine W_condT ?hc ?_; (case hc => (simp (disch := omega) only [go_sem, ↓reduceIte, Nat.reduceEqDiff, Nat.reduceAdd, Nat.reduceLeDiff, hlen, hix, w_index, ev_index, nc_h, okPtr_h, cellAt_h, e0, e1, e4, e5, e137, l4, l4', l7, r0, r1]; done))) | (refine W_condF ?hc ?_; (case hc => (simp (disch := omega) only [go_sem, ↓reduceIte, Nat.reduceEqDiff, Nat.reduceAdd, Nat.reduceLeDiff, hlen, hix, w_index, ev_index, nc_h, okPtr_h, cellAt_h, e0, e1, e4, e5, e137, l4, l4', l7, r0, r1]; done))))
        refine W_exit ?_; repeat (first | refine thenI ?_ | refine thenE ?_ | refine thenR ?_ | refine inBI ?_ | refine inBR ?_ | refine inBS ?_ | refine inBN (by decide) ?_)
        exact ⟨j, hrd, haw, hst, ht.1, ht.2, by omega, (by (simp (disch := omega) only [go_sem, ↓reduceIte, Nat.reduceEqDiff, Nat.reduceAdd, Nat.reduceLeDiff, hlen, hix, w_index, ev_index, nc_h, okPtr_h, cellAt_h, e0, e1, e4, e5, e137, l4, l4', l7, r0, r1]); try rfl), (by (simp (disch := omega) only [go_sem, ↓reduceIte, Nat.reduceEqDiff, Nat.reduceAdd, Nat.reduceLeDiff, hlen, hix, w_index, ev_index, nc_h, okPtr_h, cellAt_h, e0, e1, e4, e5, e137, l4, l4', l7, r0, r1]); try rfl), (by (simp (disch := omega) only [go_sem, ↓reduceIte, Nat.reduceEqDiff, Nat.reduceAdd, Nat.reduceLeDiff, hlen, hix, w_index, ev_index, nc_h, okPtr_h, cellAt_h, e0, e1, e4, e5, e137, l4, l4', l7, r0, r1]); try rfl), (by (simp (disch := omega) only [go_sem, ↓reduceIte, Nat.reduceEqDiff, Nat.reduceAdd, Nat.reduceLeDiff, hlen, hix, w_index, ev_index, nc_h, okPtr_h, cellAt_h, e0, e1, e4, e5, e137, l4, l4', l7, r0, r1]); try rfl), (by (simp (disch := omega) only [go_sem, ↓reduceIte, Nat.reduceEqDiff, Nat.reduceAdd, Nat.reduceLeDiff, hlen, hix, w_index, ev_index, nc_h, okPtr_h, cellAt_h, e0, e1, e4, e5, e137, l4, l4', l7, r0, r1]); try rfl), ⟨(by (simp (disch := omega) only [go_sem, ↓reduceIte, Nat.reduceEqDiff, Nat.reduceAdd, Nat.reduceLeDiff, hlen, hix, w_index, ev_index, nc_h, okPtr_h, cellAt_h, e0, e1, e4, e5, e137, l4, l4', l7, r0, r1]); try rfl), (by (simp (disch := omega) only [go_sem, ↓reduceIte, Nat.reduceEqDiff, Nat.reduceAdd, Nat.reduceLeDiff, hlen, hix, w_index, ev_index, nc_h, okPtr_h, cellAt_h, e0, e1, e4, e5, e137, l4, l4', l7, r0, r1]); try rfl)⟩, (by (simp (disch := omega) only [go_sem, ↓reduceIte, Nat.reduceEqDiff, Nat.reduceAdd, Nat.reduceLeDiff, hlen, hix, w_index, ev_index, nc_h, okPtr_h, cellAt_h, e0, e1, e4, e5, e137, l4, l4', l7, r0, r1]); try rfl)⟩
      have n44 : ((x.toNat : Int) != 44) = true := ne_byte h44
      by_cases h32 : x = 32
      · have ht := hgo (stop_yes (.inr (.inr (.inr h32))))
        have n32 : ((x.toNat : Int) != 32) = false := by rw [h32]; rfl
        (repeat (first | refine W_seqS ?_ | refine W_seqC ?_ | refine W_seqB ?_ | refine W_block ?_)); refine W_regD mixed [] [(0,false),(1,false),(2,false),(3,false),(4,false),(5,false),(6,false),(7,false),(8,false),(9,false),(10,false),(11,false),(12,false),(13,false),(14,false),(15,false),(16,false),(17,false),(18,false),(19,false),(20,false),(21,false),(22,false),(23,false),(24,false),(25,false),(26,false),(27,false),(28,false),(29,false),(30,false),(31,false),(32,false),(33,false),(34,false),(35,false),(36,false),(37,false),(38,false),(39,false),(40,false),(41,false),(42,false),(43,false),(44,false),(45,false),(46,false),(47,false),(48,false),(49,false),(50,false),(51,false),(52,false),(53,false),(54,false),(55,false),(56,false),(57,false)] rfl (by decide +kernel) fun G K hG hK => ?_; simp only [pickOps, List.filterMap_cons, List.filterMap_nil, List.getElem?_cons_zero, List.getElem?_cons_succ, Option.map_some]; simp (disch := omega) only [go_sem, ↓reduceIte, Nat.reduceEqDiff, Nat.reduceAdd, Nat.reduceLeDiff, hG, hlen, hix, w_index, ev_index, nc_h, okPtr_h, cellAt_h, e0, e1, e4, e5, e137, l4, l4', l7, r0, r1, c0, hxb', n40, n41, n44, n32]
        refine hK _ _ ?_; clear hK K hG G; repeat (first | refine thenI ?_ | refine thenE ?_ | refine thenR ?_ | refine inBI ?_ | refine inBR ?_ | refine inBS ?_ | refine inBN (by decide) ?_)
        repeat (first | (refine W_reg rfl fun G K hG hK => ?_; simp (disch := omega) only [go_sem, ↓reduceIte, Nat.reduceEqDiff, Nat.reduceAdd, Nat.reduceLeDiff, hG, hlen, hix, w_index, ev_index, nc_h, okPtr_h, cellAt_h, e0, e1, e4, e5, e137, l4, l4', l7, r0, r1]; refine hK _ _ ?_; clear hK K hG G) | (refine W_end rfl fun G K hG hK => ?_; simp (disch := omega) only [go_sem, ↓reduceIte, Nat.reduceEqDiff, Nat.reduceAdd, Nat.reduceLeDiff, hG, hlen, hix, w_index, ev_index, nc_h, okPtr_h, cellAt_h, e0, e1, e4, e5, e137, l4, l4', l7, r0, r1]; refine hK _ _ ?_; clear hK K hG G; repeat (first | refine thenI ?_ | refine thenE ?_ | refine thenR ?_ | refine inBI ?_ | refine inBR ?_ | refine inBS ?_ | refine inBN (by decide) ?_)) | refine W_seqS ?_ | refine W_seqC ?_ | refine W_seqB ?_ | refine W_block ?_ | (refine W_skip ?_; repeat (first | refine thenI ?_ | refine thenE ?_ | refine thenR ?_ | refine inBI ?_ | refine inBR ?_ | refine inBS ?_ | refine inBN (by decide) ?_)) | (refine W_condT ?hc ?_; (case hc => (simp (disch := omega) only [go_sem, ↓reduceIte, Nat.reduceEqDiff, Nat.reduceAdd, Nat.reduceLeDiff, hlen, hix, w_index, ev_index, nc_h, okPtr_h, cellAt_h, e0, e1, e4, e5, e137, l4, l4', l7, r0, r1]; done))) | (refine W_condF ?hc ?_; (case hc => (simp (disch := omega) only [go_sem, ↓reduceIte, Nat.reduceEqDiff, Nat.reduceAdd, Nat.reduceLeDiff, hlen, hix, w_index, ev_index, nc_h, okPtr_h, cellAt_h, e0, e1, e4, e5, e137, l4, l4', l7, r0, r1]; done))))
        refine W_exit ?_; repeat (first | refine thenI ?_ | refine thenE ?_ | refine thenR ?_ | refine inBI ?_ | refine inBR ?_ | refine inBS ?_ | refine inBN (by decide) ?_)
        exact ⟨j, hrd, haw, hst, ht.1, ht.2, by omega, (by (simp (disch := omega) only [go_sem, ↓reduceIte, Nat.reduceEqDiff, Nat.reduceAdd, Nat.reduceLeDiff, hlen, hix, w_index, ev_index, nc_h, okPtr_h, cellAt_h, e0, e1, e4, e5, e137, l4, l4', l7, r0, r1]); try rfl), (by (simp (disch := omega) only [go_sem, ↓reduceIte, Nat.reduceEqDiff, Nat.reduceAdd, Nat.reduceLeDiff, hlen, hix, w_index, ev_index, nc_h, okPtr_h, cellAt_h, e0, e1, e4, e5, e137, l4, l4', l7, r0, r1]); try rfl), (by (simp (disch := omega) only [go_sem, ↓reduceIte, Nat.reduceEqDiff, Nat.reduceAdd, Nat.reduceLeDiff, hlen, hix, w_index, ev_index, nc_h, okPtr_h, cellAt_h, e0, e1, e4, e5, e137, l4, l4', l7, r0, r1]); try rfl), (by (simp (disch := omega) only [go_sem, ↓reduceIte, Nat.reduceEqDiff, Nat.reduceAdd, Nat.reduceLeDiff, hlen, hix, w_index, ev_index, nc_h, okPtr_h, cellAt_h, e0, e1, e4, e5, e137, l4, l4', l7, r0, r1]); try rfl), (by (simp (disch := omega) only [go_sem, ↓reduceIte, Nat.reduceEqDiff, Nat.reduceAdd, Nat.reduceLeDiff, hlen, hix, w_index, ev_index, nc_h, okPtr_h, cellAt_h, e0, e1, e4, e5, e137, l4, l4', l7, r0, r1]); try rfl), ⟨(by (simp (disch := omega) only [go_sem, ↓reduceIte, Nat.reduceEqDiff, Nat.reduceAdd, Nat.reduceLeDiff, hlen, hix, w_index, ev_index, nc_h, okPtr_h, cellAt_h, e0, e1, e4, e5, e137, l4, l4', l7, r0, r1]); try rfl), (by (simp (disch := omega) only [go_sem, ↓reduceIte, Nat.reduceEqDiff, Nat.reduceAdd, Nat.reduceLeDiff, hlen, hix, w_index, ev_index, nc_h, okPtr_h, cellAt_h, e0, e1, e4, e5, e137, l4, l4', l7, r0, r1]); try rfl)⟩, (by (simp (disch := omega) only [go_sem, ↓reduceIte, Nat.reduceEqDiff, Nat.reduceAdd, Nat.reduceLeDiff, hlen, hix, w_index, ev_index, nc_h, okPtr_h, cellAt_h, e0, e1, e4, e5, e137, l4, l4', l7, r0, r1]); try rfl)⟩
      have n32 : ((x.toNat : Int) != 32) = true := ne_byte h32
      have hset := rd_at hrd
      have hjl : j < l.length := (List.getElem?_eq_some_iff.1 hxj).1
      have htk : l.take (j + 1) = l.take j ++ [x] := by
        rw [List.take_succ_eq_append_getElem hjl]
        congr 1
        rw [List.getElem?_eq_getElem hjl] at hxj
        rw [Option.some.inj hxj]
      have hns2 : ∀ y ∈ l.take (j + 1), (!stopB y) = true := fun y hy => by
        rw [htk] at hy
        rcases List.mem_append.1 hy with hy | hy
        · exact hns y hy
        · cases List.mem_singleton.1 hy
          exact stop_no h40 h41 h44 h32
      (repeat (first | refine W_seqS ?_ | refine W_seqC ?_ | refine W_seqB ?_ | refine W_block ?_)); refine W_regD mixed [] [(0,false),(1,false),(2,false),(3,false),(4,false),(5,false),(6,false),(7,false),(8,false),(9,false),(10,false),(11,false),(12,false),(13,false),(14,false),(15,false),(16,false),(17,false),(18,false),(19,false),(20,false),(21,false),(22,false),(23,false),(24,false),(25,false),(26,false),(27,false),(28,false),(29,false),(30,false),(31,false),(32,false),(33,false),(34,false),(35,false),(36,false),(37,false),(38,false),(39,false),(40,false),(41,false),(42,false),(43,false),(44,false),(45,false),(46,false),(47,false),(48,false),(49,false),(50,false),(51,false),(52,false),(53,false),(54,false),(55,false),(56,false),(57,false)] rfl (by decide +kernel) fun G K hG hK => ?_; simp only [pickOps, List.filterMap_cons, List.filterMap_nil, List.getElem?_cons_zero, List.getElem?_cons_succ, Option.map_some]; simp (disch := omega) only [go_sem, ↓reduceIte, Nat.reduceEqDiff, Nat.reduceAdd, Nat.reduceLeDiff, hG, hlen, hix, w_index, ev_index, nc_h, okPtr_h, cellAt_h, e0, e1, e4, e5, e137, l4, l4', l7, r0, r1, c0, hxb', n40, n41, n44, n32]
      refine hK _ _ ?_; clear hK K hG G; repeat (first | refine thenI ?_ | refine thenE ?_ | refine thenR ?_ | refine inBI ?_ | refine inBR ?_ | refine inBS ?_ | refine inBN (by decide) ?_)
      repeat (first | (refine W_reg rfl fun G K hG hK => ?_; simp (disch := omega) only [go_sem, ↓reduceIte, Nat.reduceEqDiff, Nat.reduceAdd, Nat.reduceLeDiff, hG, hlen, hix, w_index, ev_index, nc_h, okPtr_h, cellAt_h, e0, e1, e4, e5, e137, l4, l4', l7, r0, r1, hset]; refine hK _ _ ?_; clear hK K hG G) | (refine W_end rfl fun G K hG hK => ?_; simp (disch := omega) only [go_sem, ↓reduceIte, Nat.reduceEqDiff, Nat.reduceAdd, Nat.reduceLeDiff, hG, hlen, hix, w_index, ev_index, nc_h, okPtr_h, cellAt_h, e0, e1, e4, e5, e137, l4, l4', l7, r0, r1, hset]; refine hK _ _ ?_; clear hK K hG G; repeat (first | refine thenI ?_ | refine thenE ?_ | refine thenR ?_ | refine inBI ?_ | refine inBR ?_ | refine inBS ?_ | refine inBN (by decide) ?_)) | refine W_seqS ?_ | refine W_seqC ?_ | refine W_seqB ?_ | refine W_block ?_ | (refine W_skip ?_; repeat (first | refine thenI ?_ | refine thenE ?_ | refine thenR ?_ | refine inBI ?_ | refine inBR ?_ | refine inBS ?_ | refine inBN (by decide) ?_)) | (refine W_condT ?hc ?_; (case hc => (simp (disch := omega) only [go_sem, ↓reduceIte, Nat.reduceEqDiff, Nat.reduceAdd, Nat.reduceLeDiff, hlen, hix, w_index, ev_index, nc_h, okPtr_h, cellAt_h, e0, e1, e4, e5, e137, l4, l4', l7, r0, r1, hset]; done))) | (refine W_condF ?hc ?_; (case hc => (simp (disch := omega) only [go_sem, ↓reduceIte, Nat.reduceEqDiff, Nat.reduceAdd, Nat.reduceLeDiff, hlen, hix, w_index, ev_index, nc_h, okPtr_h, cellAt_h, e0, e1, e4, e5, e137, l4, l4', l7, r0, r1, hset]; done))))
      refine ⟨(s.size - a) - (j + 1), by omega, j + 1, rfl, by omega, hrd.setAt (by omega), haw.trans set_away (.inl rfl), by rw [List.length_set, hst], hns2, (by (simp (disch := omega) only [go_sem, ↓reduceIte, Nat.reduceEqDiff, Nat.reduceAdd, Nat.reduceLeDiff, hlen, hix, w_index, ev_index, nc_h, okPtr_h, cellAt_h, e0, e1, e4, e5, e137, l4, l4', l7, r0, r1]); try rfl), (by (simp (disch := omega) only [go_sem, ↓reduceIte, Nat.reduceEqDiff, Nat.reduceAdd, Nat.reduceLeDiff, hlen, hix, w_index, ev_index, nc_h, okPtr_h, cellAt_h, e0, e1, e4, e5, e137, l4, l4', l7, r0, r1]); try rfl), (by (simp (disch := omega) only [go_sem, ↓reduceIte, Nat.reduceEqDiff, Nat.reduceAdd, Nat.reduceLeDiff, hlen, hix, w_index, ev_index, nc_h, okPtr_h, cellAt_h, e0, e1, e4, e5, e137, l4, l4', l7, r0, r1]); try rfl), (by (simp (disch := omega) only [go_sem, ↓reduceIte, Nat.reduceEqDiff, Nat.reduceAdd, Nat.reduceLeDiff, hlen, hix, w_index, ev_index, nc_h, okPtr_h, cellAt_h, e0, e1, e4, e5, e137, l4, l4', l7, r0, r1]); try rfl), (by (simp (disch := omega) only [go_sem, ↓reduceIte, Nat.reduceEqDiff, Nat.reduceAdd, Nat.reduceLeDiff, hlen, hix, w_index, ev_index, nc_h, okPtr_h, cellAt_h, e0, e1, e4, e5, e137, l4, l4', l7, r0, r1]); try rfl), ⟨(by (simp (disch := omega) only [go_sem, ↓reduceIte, Nat.reduceEqDiff, Nat.reduceAdd, Nat.reduceLeDiff, hlen, hix, w_index, ev_index, nc_h, okPtr_h, cellAt_h, e0, e1, e4, e5, e137, l4, l4', l7, r0, r1]); try rfl), (by (simp (disch := omega) only [go_sem, ↓reduceIte, Nat.reduceEqDiff, Nat.reduceAdd, Nat.reduceLeDiff, hlen, hix, w_index, ev_index, nc_h, okPtr_h, cellAt_h, e0, e1, e4, e5, e137, l4, l4', l7, r0, r1]); try rfl)⟩, (by (simp (disch := omega) only [go_sem, ↓reduceIte, Nat.reduceEqDiff, Nat.reduceAdd, Nat.reduceLeDiff, hlen, hix, w_index, ev_index, nc_h, okPtr_h, cellAt_h, e0, e1, e4, e5, e137, l4, l4', l7, r0, r1]); try rfl)⟩
  rintro ⟨env, loc⟩ st' ⟨j, hrd, haw, hst, hw, htl, haj, e0, e1, e4, e5, e137, ⟨l4, l4'⟩, l7⟩
  simp only at e0 e1 e4 e5 e137 l4 l4' l7
  obtain ⟨sb, rfl⟩ : ∃ sb, sb = st' := ⟨_, rfl⟩
  have r0 := rd_0 hrd
  have r1 := rd_1 hrd
  have hwl := congrArg List.length hw
  have hll2 : l.length = s.size - a := by rw [hl, List.length_drop, hll]
  have hwz : (baL (hdW l)).size = j := by rw [baL_size, hw, List.length_take, hll2]; omega
  have hsl : flatRun Tryd.prog (Instr.sliceAt 9 (.string s) (some (.int .i64 (a : Int))) (some (.int .i64 ((a + j : Nat) : Int))) none) = some (.string (baL (hdW l))) := by
    have := sliceS_lh (P := Tryd.prog) (t := 9) (s := s) (k := .i64) (k' := .i64) (l := (a : Int)) (h := ((a + j : Nat) : Int)) Tryd.underlying9 (by omega) (by omega) (by omega)
    rwa [show ((a + j : Nat) : Int).toNat = a + j by omega, show ((a : Nat) : Int).toNat = a by omega, extract_lh, ← hl, ← hw] at this
  obtain ⟨wd, hwd⟩ : ∃ wd, wd = baL (hdW l) := ⟨_, rfl⟩
  have hwdl : wd.data.toList = hdW l := by rw [hwd, baL_list]
  rw [← hwd] at hsl hwz
  (repeat (first | refine W_seqS ?_ | refine W_seqC ?_ | refine W_seqB ?_ | refine W_block ?_)); refine W_regD mixed [] [(0,false),(1,false),(2,false),(3,false),(4,false),(5,false),(6,false),(7,false),(8,false),(9,false),(10,false)] rfl (by decide +kernel) fun G K hG hK => ?_; simp only [pickOps, List.filterMap_cons, List.filterMap_nil, List.getElem?_cons_zero, List.getElem?_cons_succ, Option.map_some]; simp (disch := omega) only [go_sem, ↓reduceIte, Nat.reduceEqDiff, Nat.reduceAdd, Nat.reduceLeDiff, hG, hlen, hix, w_index, ev_index, nc_h, okPtr_h, cellAt_h, e0, e1, e4, e5, e137, l4, l4', l7, r0, r1, w_slice, ev_slice, hsl, flat_s, flat_i, Option.all_some, Option.map_some]
  refine hK _ _ ?_; clear hK K hG G; repeat (first | refine thenI ?_ | refine thenE ?_ | refine thenR ?_ | refine inBI ?_ | refine inBR ?_ | refine inBS ?_ | refine inBN (by decide) ?_)
  (repeat (first | refine W_seqS ?_ | refine W_seqC ?_ | refine W_seqB ?_ | refine W_block ?_)); refine W_reg rfl fun G K hG hK => ?_; simp (disch := omega) only [go_sem, ↓reduceIte, Nat.reduceEqDiff, Nat.reduceAdd, Nat.reduceLeDiff, hG, hlen, hix, w_index, ev_index, nc_h, okPtr_h, cellAt_h, e0, e1, e4, e5, e137, l4, l4', l7]
  refine hK _ _ ?_; clear hK K hG G; repeat (first | refine thenI ?_ | refine thenE ?_ | refine thenR ?_ | refine inBI ?_ | refine inBR ?_ | refine inBS ?_ | refine inBN (by decide) ?_)
  refine W_seq ?_
  refine W_to (fun fr st' => ∃ (k n : Int) (nm : ByteArray), (sb = st') ∧ (headT (hdW l) = .mk k n nm []) ∧ (nm.size ≤ s.size) ∧ (fr.env 0 = .pointer (some ⟨q, 0, none⟩)) ∧ (fr.env 1 = .int .i64 (dp : Int)) ∧ (fr.env 4 = .pointer (some ⟨4, 0, some 1⟩)) ∧ (fr.env 7 = .pointer (some ⟨7, 0, some 1⟩)) ∧ (fr.env 137 = undef) ∧ ((fr.loc 4).1 = 1 ∧ (fr.loc 4).2.length = 4) ∧ (fr.loc 7 = (1, [.int .i64 k, .int .i64 n, .string nm, .slice none 0 0]))) ?_ ?_
  · repeat (first | (refine W_reg rfl fun G K hG hK => ?_; simp (disch := omega) only [go_sem, ↓reduceIte, Nat.reduceEqDiff, Nat.reduceAdd, Nat.reduceLeDiff, hG, hlen, hix, w_index, ev_index, nc_h, okPtr_h, cellAt_h, e0, e1, e4, e5, e137, l4, l4', l7]; refine hK _ _ ?_; clear hK K hG G) | (refine W_end rfl fun G K hG hK => ?_; simp (disch := omega) only [go_sem, ↓reduceIte, Nat.reduceEqDiff, Nat.reduceAdd, Nat.reduceLeDiff, hG, hlen, hix, w_index, ev_index, nc_h, okPtr_h, cellAt_h, e0, e1, e4, e5, e137, l4, l4', l7]; refine hK _ _ ?_; clear hK K hG G; repeat (first | refine thenI ?_ | refine thenE ?_ | refine thenR ?_ | refine inBI ?_ | refine inBR ?_ | refine inBS ?_ | refine inBN (by decide) ?_)) | refine W_seqS ?_ | refine W_seqC ?_ | refine W_seqB ?_ | refine W_block ?_ | (refine W_skip ?_; repeat (first | refine thenI ?_ | refine thenE ?_ | refine thenR ?_ | refine inBI ?_ | refine inBR ?_ | refine inBS ?_ | refine inBN (by decide) ?_)) | (refine W_condT ?hc ?_; (case hc => (simp (disch := omega) only [go_sem, ↓reduceIte, Nat.reduceEqDiff, Nat.reduceAdd, Nat.reduceLeDiff, hlen, hix, w_index, ev_index, nc_h, okPtr_h, cellAt_h, e0, e1, e4, e5, e137, l4, l4', l7]; done))) | (refine W_condF ?hc ?_; (case hc => (simp (disch := omega) only [go_sem, ↓reduceIte, Nat.reduceEqDiff, Nat.reduceAdd, Nat.reduceLeDiff, hlen, hix, w_index, ev_index, nc_h, okPtr_h, cellAt_h, e0, e1, e4, e5, e137, l4, l4', l7]; done))))
    (repeat (first | refine W_seqS ?_ | refine W_seqC ?_ | refine W_seqB ?_ | refine W_block ?_)); refine W_reg rfl fun G K hG hK => ?_; simp (disch := omega) only [go_sem, ↓reduceIte, Nat.reduceEqDiff, Nat.reduceAdd, Nat.reduceLeDiff, hG, hlen, hix, w_index, ev_index, nc_h, okPtr_h, cellAt_h, e0, e1, e4, e5, e137, l4, l4', l7]
    refine w_call (specIsVar_ok wd (by omega) sb) (by simp (disch := omega) only [go_sem, ↓reduceIte, Nat.reduceEqDiff, hlen, hix, w_index, ev_index, nc_h, okPtr_h, cellAt_h, e0, e1, e4, e5, e137, l4, l4', l7]) ?hl ?_
    case hl => first | rfl | (simp only [go_sem, List.all_cons, List.all_nil, Bool.not_false, Bool.and_self, hlen, hix, w_index, ev_index, nc_h, okPtr_h, cellAt_h, e0, e1, e4, e5, e137, l4, l4', l7]; done)
    rintro r_ sb ⟨rfl, rfl⟩; refine ⟨fun e => (by cases e), ?_⟩
    have hv : isVar wd = isNm 65 90 (hdW l) := by unfold isVar; rw [hwdl]
    rw [hv]
    cases hv1 : isNm 65 90 (hdW l) with
    | true =>
      simp (disch := omega) only [go_sem, ↓reduceIte, Nat.reduceEqDiff, Nat.reduceAdd, Nat.reduceLeDiff, hG, hlen, hix, w_index, ev_index, nc_h, okPtr_h, cellAt_h, e0, e1, e4, e5, e137, l4, l4', l7]; refine hK _ _ ?_; clear hK K hG G; repeat (first | refine thenI ?_ | refine thenE ?_ | refine thenR ?_ | refine inBI ?_ | refine inBR ?_ | refine inBS ?_ | refine inBN (by decide) ?_)
      repeat (first | (refine W_reg rfl fun G K hG hK => ?_; simp (disch := omega) only [go_sem, ↓reduceIte, Nat.reduceEqDiff, Nat.reduceAdd, Nat.reduceLeDiff, hG, hlen, hix, w_index, ev_index, nc_h, okPtr_h, cellAt_h, e0, e1, e4, e5, e137, l4, l4', l7]; refine hK _ _ ?_; clear hK K hG G) | (refine W_end rfl fun G K hG hK => ?_; simp (disch := omega) only [go_sem, ↓reduceIte, Nat.reduceEqDiff, Nat.reduceAdd, Nat.reduceLeDiff, hG, hlen, hix, w_index, ev_index, nc_h, okPtr_h, cellAt_h, e0, e1, e4, e5, e137, l4, l4', l7]; refine hK _ _ ?_; clear hK K hG G; repeat (first | refine thenI ?_ | refine thenE ?_ | refine thenR ?_ | refine inBI ?_ | refine inBR ?_ | refine inBS ?_ | refine inBN (by decide) ?_)) | refine W_seqS ?_ | refine W_seqC ?_ | refine W_seqB ?_ | refine W_block ?_ | (refine W_skip ?_; repeat (first | refine thenI ?_ | refine thenE ?_ | refine thenR ?_ | refine inBI ?_ | refine inBR ?_ | refine inBS ?_ | refine inBN (by decide) ?_)) | (refine W_condT ?hc ?_; (case hc => (simp (disch := omega) only [go_sem, ↓reduceIte, Nat.reduceEqDiff, Nat.reduceAdd, Nat.reduceLeDiff, hlen, hix, w_index, ev_index, nc_h, okPtr_h, cellAt_h, e0, e1, e4, e5, e137, l4, l4', l7]; done))) | (refine W_condF ?hc ?_; (case hc => (simp (disch := omega) only [go_sem, ↓reduceIte, Nat.reduceEqDiff, Nat.reduceAdd, Nat.reduceLeDiff, hlen, hix, w_index, ev_index, nc_h, okPtr_h, cellAt_h, e0, e1, e4, e5, e137, l4, l4', l7]; done))))
      exact ⟨1, 0, wd, rfl, (by unfold headT; rw [if_pos hv1, ← hwd]), by omega, (by (simp (disch := omega) only [go_sem, ↓reduceIte, Nat.reduceEqDiff, Nat.reduceAdd, Nat.reduceLeDiff, hlen, hix, w_index, ev_index, nc_h, okPtr_h, cellAt_h, e0, e1, e4, e5, e137, l4, l4', l7]); try rfl), (by (simp (disch := omega) only [go_sem, ↓reduceIte, Nat.reduceEqDiff, Nat.reduceAdd, Nat.reduceLeDiff, hlen, hix, w_index, ev_index, nc_h, okPtr_h, cellAt_h, e0, e1, e4, e5, e137, l4, l4', l7]); try rfl), (by (simp (disch := omega) only [go_sem, ↓reduceIte, Nat.reduceEqDiff, Nat.reduceAdd, Nat.reduceLeDiff, hlen, hix, w_index, ev_index, nc_h, okPtr_h, cellAt_h, e0, e1, e4, e5, e137, l4, l4', l7]); try rfl), (by (simp (disch := omega) only [go_sem, ↓reduceIte, Nat.reduceEqDiff, Nat.reduceAdd, Nat.reduceLeDiff, hlen, hix, w_index, ev_index, nc_h, okPtr_h, cellAt_h, e0, e1, e4, e5, e137, l4, l4', l7]); try rfl), (by (simp (disch := omega) only [go_sem, ↓reduceIte, Nat.reduceEqDiff, Nat.reduceAdd, Nat.reduceLeDiff, hlen, hix, w_index, ev_index, nc_h, okPtr_h, cellAt_h, e0, e1, e4, e5, e137, l4, l4', l7]); try rfl), ⟨(by (simp (disch := omega) only [go_sem, ↓reduceIte, Nat.reduceEqDiff, Nat.reduceAdd, Nat.reduceLeDiff, hlen, hix, w_index, ev_index, nc_h, okPtr_h, cellAt_h, e0, e1, e4, e5, e137, l4, l4', l7]); try rfl), (by (simp (disch := omega) only [go_sem, ↓reduceIte, Nat.reduceEqDiff, Nat.reduceAdd, Nat.reduceLeDiff, hlen, hix, w_index, ev_index, nc_h, okPtr_h, cellAt_h, e0, e1, e4, e5, e137, l4, l4', l7]); try rfl)⟩, (by (simp (disch := omega) only [go_sem, ↓reduceIte, Nat.reduceEqDiff, Nat.reduceAdd, Nat.reduceLeDiff, hlen, hix, w_index, ev_index, nc_h, okPtr_h, cellAt_h, e0, e1, e4, e5, e137, l4, l4', l7]); try rfl)⟩
    | false =>
      simp (disch := omega) only [go_sem, ↓reduceIte, Nat.reduceEqDiff, Nat.reduceAdd, Nat.reduceLeDiff, hG, hlen, hix, w_index, ev_index, nc_h, okPtr_h, cellAt_h, e0, e1, e4, e5, e137, l4, l4', l7]; refine hK _ _ ?_; clear hK K hG G; repeat (first | refine thenI ?_ | refine thenE ?_ | refine thenR ?_ | refine inBI ?_ | refine inBR ?_ | refine inBS ?_ | refine inBN (by decide) ?_)
      repeat (first | (refine W_reg rfl fun G K hG hK => ?_; simp (disch := omega) only [go_sem, ↓reduceIte, Nat.reduceEqDiff, Nat.reduceAdd, Nat.reduceLeDiff, hG, hlen, hix, w_index, ev_index, nc_h, okPtr_h, cellAt_h, e0, e1, e4, e5, e137, l4, l4', l7]; refine hK _ _ ?_; clear hK K hG G) | (refine W_end rfl fun G K hG hK => ?_; simp (disch := omega) only [go_sem, ↓reduceIte, Nat.reduceEqDiff, Nat.reduceAdd, Nat.reduceLeDiff, hG, hlen, hix, w_index, ev_index, nc_h, okPtr_h, cellAt_h, e0, e1, e4, e5, e137, l4, l4', l7]; refine hK _ _ ?_; clear hK K hG G; repeat (first | refine thenI ?_ | refine thenE ?_ | refine thenR ?_ | refine inBI ?_ | refine inBR ?_ | refine inBS ?_ | refine inBN (by decide) ?_)) | refine W_seqS ?_ | refine W_seqC ?_ | refine W_seqB ?_ | refine W_block ?_ | (refine W_skip ?_; repeat (first | refine thenI ?_ | refine thenE ?_ | refine thenR ?_ | refine inBI ?_ | refine inBR ?_ | refine inBS ?_ | refine inBN (by decide) ?_)) | (refine W_condT ?hc ?_; (case hc => (simp (disch := omega) only [go_sem, ↓reduceIte, Nat.reduceEqDiff, Nat.reduceAdd, Nat.reduceLeDiff, hlen, hix, w_index, ev_index, nc_h, okPtr_h, cellAt_h, e0, e1, e4, e5, e137, l4, l4', l7]; done))) | (refine W_condF ?hc ?_; (case hc => (simp (disch := omega) only [go_sem, ↓reduceIte, Nat.reduceEqDiff, Nat.reduceAdd, Nat.reduceLeDiff, hlen, hix, w_index, ev_index, nc_h, okPtr_h, cellAt_h, e0, e1, e4, e5, e137, l4, l4', l7]; done))))
      by_cases h1 : wd.size = 1
      · have c1 : ((wd.size : Int) == 1) = true := by rw [h1]; rfl
        obtain ⟨b, rr, hb1, hbb, hb2⟩ := drop_byte (s := wd) (i := 0) (by omega)
        rw [List.drop_zero, hwdl] at hb1
        have hbb' : byteAt wd (0 : Int).toNat = (b.toNat : Int) := hbb
        have hrr : rr = [] := by
          have := congrArg List.length hb1
          rw [← hwdl, ← size_list, h1] at this
          simp only [List.length_cons] at this
          exact List.eq_nil_of_length_eq_zero (by omega)
        subst hrr
        have hh := headT_one (b := b) (by rw [← hb1]; exact hv1)
        rw [← hb1, ← hwd] at hh
        (repeat (first | refine W_seqS ?_ | refine W_seqC ?_ | refine W_seqB ?_ | refine W_block ?_)); refine W_reg rfl fun G K hG hK => ?_; simp (disch := omega) only [go_sem, ↓reduceIte, Nat.reduceEqDiff, Nat.reduceAdd, Nat.reduceLeDiff, hG, hlen, hix, w_index, ev_index, nc_h, okPtr_h, cellAt_h, e0, e1, e4, e5, e137, l4, l4', l7, c1, hbb']
        refine w_call (l2Digit_ok b.toNat sb) (by simp (disch := omega) only [go_sem, ↓reduceIte, Nat.reduceEqDiff, hlen, hix, w_index, ev_index, nc_h, okPtr_h, cellAt_h, e0, e1, e4, e5, e137, l4, l4', l7]) ?hl ?_
        case hl => first | rfl | (simp only [go_sem, List.all_cons, List.all_nil, Bool.not_false, Bool.and_self, hlen, hix, w_index, ev_index, nc_h, okPtr_h, cellAt_h, e0, e1, e4, e5, e137, l4, l4', l7]; done)
        rintro r_ sb ⟨rfl, rfl⟩; refine ⟨fun e => (by cases e), ?_⟩
        by_cases hdg : 48 ≤ b.toNat ∧ b.toNat ≤ 57
        · have c2 : (decide (48 ≤ b.toNat) && decide (b.toNat ≤ 57)) = true := by simp [hdg.1, hdg.2]
          have hci : cvI Tryd.prog 5 3 (.int .u8 (b.toNat : Int)) = some (.int .i64 (IntKind.i64.wrap (b.toNat : Int))) := cvI_int Tryd.underlying5 Tryd.underlying3
          rw [if_pos hdg] at hh
          simp (disch := omega) only [go_sem, ↓reduceIte, Nat.reduceEqDiff, Nat.reduceAdd, Nat.reduceLeDiff, hG, hlen, hix, w_index, ev_index, nc_h, okPtr_h, cellAt_h, e0, e1, e4, e5, e137, l4, l4', l7, c1, c2]; refine hK _ _ ?_; clear hK K hG G; repeat (first | refine thenI ?_ | refine thenE ?_ | refine thenR ?_ | refine inBI ?_ | refine inBR ?_ | refine inBS ?_ | refine inBN (by decide) ?_)
          repeat (first | (refine W_reg rfl fun G K hG hK => ?_; simp (disch := omega) only [go_sem, ↓reduceIte, Nat.reduceEqDiff, Nat.reduceAdd, Nat.reduceLeDiff, hG, hlen, hix, w_index, ev_index, nc_h, okPtr_h, cellAt_h, e0, e1, e4, e5, e137, l4, l4', l7]; refine hK _ _ ?_; clear hK K hG G) | (refine W_end rfl fun G K hG hK => ?_; simp (disch := omega) only [go_sem, ↓reduceIte, Nat.reduceEqDiff, Nat.reduceAdd, Nat.reduceLeDiff, hG, hlen, hix, w_index, ev_index, nc_h, okPtr_h, cellAt_h, e0, e1, e4, e5, e137, l4, l4', l7]; refine hK _ _ ?_; clear hK K hG G; repeat (first | refine thenI ?_ | refine thenE ?_ | refine thenR ?_ | refine inBI ?_ | refine inBR ?_ | refine inBS ?_ | refine inBN (by decide) ?_)) | refine W_seqS ?_ | refine W_seqC ?_ | refine W_seqB ?_ | refine W_block ?_ | (refine W_skip ?_; repeat (first | refine thenI ?_ | refine thenE ?_ | refine thenR ?_ | refine inBI ?_ | refine inBR ?_ | refine inBS ?_ | refine inBN (by decide) ?_)) | (refine W_condT ?hc ?_; (case hc => (simp (disch := omega) only [go_sem, ↓reduceIte, Nat.reduceEqDiff, Nat.reduceAdd, Nat.reduceLeDiff, hlen, hix, w_index, ev_index, nc_h, okPtr_h, cellAt_h, e0, e1, e4, e5, e137, l4, l4', l7]; done))) | (refine W_condF ?hc ?_; (case hc => (simp (disch := omega) only [go_sem, ↓reduceIte, Nat.reduceEqDiff, Nat.reduceAdd, Nat.reduceLeDiff, hlen, hix, w_index, ev_index, nc_h, okPtr_h, cellAt_h, e0, e1, e4, e5, e137, l4, l4', l7]; done))))
          refine W_end rfl fun G K hG hK => ?_; simp (disch := omega) only [go_sem, ↓reduceIte, Nat.reduceEqDiff, Nat.reduceAdd, Nat.reduceLeDiff, hG, hlen, hix, w_index, ev_index, nc_h, okPtr_h, cellAt_h, e0, e1, e4, e5, e137, l4, l4', l7, hbb', ev_conv, hci]
          refine w_call (l3Word_ok ((b.toNat : Int) - 48) sb) (by simp (disch := omega) only [go_sem, ↓reduceIte, Nat.reduceEqDiff, hlen, hix, w_index, ev_index, nc_h, okPtr_h, cellAt_h, e0, e1, e4, e5, e137, l4, l4', l7]) ?hl ?_
          case hl => first | rfl | (simp only [go_sem, List.all_cons, List.all_nil, Bool.not_false, Bool.and_self, hlen, hix, w_index, ev_index, nc_h, okPtr_h, cellAt_h, e0, e1, e4, e5, e137, l4, l4', l7]; done)
          rintro r_ sb ⟨rfl, rfl⟩; refine ⟨fun e => (by cases e), ?_⟩
          simp (disch := omega) only [go_sem, ↓reduceIte, Nat.reduceEqDiff, Nat.reduceAdd, Nat.reduceLeDiff, hG, hlen, hix, w_index, ev_index, nc_h, okPtr_h, cellAt_h, e0, e1, e4, e5, e137, l4, l4', l7]; refine hK _ _ ?_; clear hK K hG G; repeat (first | refine thenI ?_ | refine thenE ?_ | refine thenR ?_ | refine inBI ?_ | refine inBR ?_ | refine inBS ?_ | refine inBN (by decide) ?_)
          exact ⟨3, (b.toNat : Int) - 48, ⟨#[]⟩, rfl, hh, Nat.zero_le _, (by (simp (disch := omega) only [go_sem, ↓reduceIte, Nat.reduceEqDiff, Nat.reduceAdd, Nat.reduceLeDiff, hlen, hix, w_index, ev_index, nc_h, okPtr_h, cellAt_h, e0, e1, e4, e5, e137, l4, l4', l7]); try rfl), (by (simp (disch := omega) only [go_sem, ↓reduceIte, Nat.reduceEqDiff, Nat.reduceAdd, Nat.reduceLeDiff, hlen, hix, w_index, ev_index, nc_h, okPtr_h, cellAt_h, e0, e1, e4, e5, e137, l4, l4', l7]); try rfl), (by (simp (disch := omega) only [go_sem, ↓reduceIte, Nat.reduceEqDiff, Nat.reduceAdd, Nat.reduceLeDiff, hlen, hix, w_index, ev_index, nc_h, okPtr_h, cellAt_h, e0, e1, e4, e5, e137, l4, l4', l7]); try rfl), (by (simp (disch := omega) only [go_sem, ↓reduceIte, Nat.reduceEqDiff, Nat.reduceAdd, Nat.reduceLeDiff, hlen, hix, w_index, ev_index, nc_h, okPtr_h, cellAt_h, e0, e1, e4, e5, e137, l4, l4', l7]); try rfl), (by (simp (disch := omega) only [go_sem, ↓reduceIte, Nat.reduceEqDiff, Nat.reduceAdd, Nat.reduceLeDiff, hlen, hix, w_index, ev_index, nc_h, okPtr_h, cellAt_h, e0, e1, e4, e5, e137, l4, l4', l7]); try rfl), ⟨(by (simp (disch := omega) only [go_sem, ↓reduceIte, Nat.reduceEqDiff, Nat.reduceAdd, Nat.reduceLeDiff, hlen, hix, w_index, ev_index, nc_h, okPtr_h, cellAt_h, e0, e1, e4, e5, e137, l4, l4', l7]); try rfl), (by (simp (disch := omega) only [go_sem, ↓reduceIte, Nat.reduceEqDiff, Nat.reduceAdd, Nat.reduceLeDiff, hlen, hix, w_index, ev_index, nc_h, okPtr_h, cellAt_h, e0, e1, e4, e5, e137, l4, l4', l7]); try rfl)⟩, (by (simp (disch := omega) only [go_sem, ↓reduceIte, Nat.reduceEqDiff, Nat.reduceAdd, Nat.reduceLeDiff, hlen, hix, w_index, ev_index, nc_h, okPtr_h, cellAt_h, e0, e1, e4, e5, e137, l4, l4', l7]); try rfl)⟩
        · have c2 : (decide (48 ≤ b.toNat) && decide (b.toNat ≤ 57)) = false := by
            rw [Bool.and_eq_false_iff, decide_eq_false_iff_not, decide_eq_false_iff_not]
            omega
          rw [if_neg hdg] at hh
          simp (disch := omega) only [go_sem, ↓reduceIte, Nat.reduceEqDiff, Nat.reduceAdd, Nat.reduceLeDiff, hG, hlen, hix, w_index, ev_index, nc_h, okPtr_h, cellAt_h, e0, e1, e4, e5, e137, l4, l4', l7, c1, c2]; refine hK _ _ ?_; clear hK K hG G; repeat (first | refine thenI ?_ | refine thenE ?_ | refine thenR ?_ | refine inBI ?_ | refine inBR ?_ | refine inBS ?_ | refine inBN (by decide) ?_)
          repeat (first | (refine W_reg rfl fun G K hG hK => ?_; simp (disch := omega) only [go_sem, ↓reduceIte, Nat.reduceEqDiff, Nat.reduceAdd, Nat.reduceLeDiff, hG, hlen, hix, w_index, ev_index, nc_h, okPtr_h, cellAt_h, e0, e1, e4, e5, e137, l4, l4', l7]; refine hK _ _ ?_; clear hK K hG G) | (refine W_end rfl fun G K hG hK => ?_; simp (disch := omega) only [go_sem, ↓reduceIte, Nat.reduceEqDiff, Nat.reduceAdd, Nat.reduceLeDiff, hG, hlen, hix, w_index, ev_index, nc_h, okPtr_h, cellAt_h, e0, e1, e4, e5, e137, l4, l4', l7]; refine hK _ _ ?_; clear hK K hG G; repeat (first | refine thenI ?_ | refine thenE ?_ | refine thenR ?_ | refine inBI ?_ | refine inBR ?_ | refine inBS ?_ | refine inBN (by decide) ?_)) | refine W_seqS ?_ | refine W_seqC ?_ | refine W_seqB ?_ | refine W_block ?_ | (refine W_skip ?_; repeat (first | refine thenI ?_ | refine thenE ?_ | refine thenR ?_ | refine inBI ?_ | refine inBR ?_ | refine inBS ?_ | refine inBN (by decide) ?_)) | (refine W_condT ?hc ?_; (case hc => (simp (disch := omega) only [go_sem, ↓reduceIte, Nat.reduceEqDiff, Nat.reduceAdd, Nat.reduceLeDiff, hlen, hix, w_index, ev_index, nc_h, okPtr_h, cellAt_h, e0, e1, e4, e5, e137, l4, l4', l7]; done))) | (refine W_condF ?hc ?_; (case hc => (simp (disch := omega) only [go_sem, ↓reduceIte, Nat.reduceEqDiff, Nat.reduceAdd, Nat.reduceLeDiff, hlen, hix, w_index, ev_index, nc_h, okPtr_h, cellAt_h, e0, e1, e4, e5, e137, l4, l4', l7]; done))))
          exact ⟨2, 0, wd, rfl, hh, by omega, (by (simp (disch := omega) only [go_sem, ↓reduceIte, Nat.reduceEqDiff, Nat.reduceAdd, Nat.reduceLeDiff, hlen, hix, w_index, ev_index, nc_h, okPtr_h, cellAt_h, e0, e1, e4, e5, e137, l4, l4', l7]); try rfl), (by (simp (disch := omega) only [go_sem, ↓reduceIte, Nat.reduceEqDiff, Nat.reduceAdd, Nat.reduceLeDiff, hlen, hix, w_index, ev_index, nc_h, okPtr_h, cellAt_h, e0, e1, e4, e5, e137, l4, l4', l7]); try rfl), (by (simp (disch := omega) only [go_sem, ↓reduceIte, Nat.reduceEqDiff, Nat.reduceAdd, Nat.reduceLeDiff, hlen, hix, w_index, ev_index, nc_h, okPtr_h, cellAt_h, e0, e1, e4, e5, e137, l4, l4', l7]); try rfl), (by (simp (disch := omega) only [go_sem, ↓reduceIte, Nat.reduceEqDiff, Nat.reduceAdd, Nat.reduceLeDiff, hlen, hix, w_index, ev_index, nc_h, okPtr_h, cellAt_h, e0, e1, e4, e5, e137, l4, l4', l7]); try rfl), (by (simp (disch := omega) only [go_sem, ↓reduceIte, Nat.reduceEqDiff, Nat.reduceAdd, Nat.reduceLeDiff, hlen, hix, w_index, ev_index, nc_h, okPtr_h, cellAt_h, e0, e1, e4, e5, e137, l4, l4', l7]); try rfl), ⟨(by (simp (disch := omega) only [go_sem, ↓reduceIte, Nat.reduceEqDiff, Nat.reduceAdd, Nat.reduceLeDiff, hlen, hix, w_index, ev_index, nc_h, okPtr_h, cellAt_h, e0, e1, e4, e5, e137, l4, l4', l7]); try rfl), (by (simp (disch := omega) only [go_sem, ↓reduceIte, Nat.reduceEqDiff, Nat.reduceAdd, Nat.reduceLeDiff, hlen, hix, w_index, ev_index, nc_h, okPtr_h, cellAt_h, e0, e1, e4, e5, e137, l4, l4', l7]); try rfl)⟩, (by (simp (disch := omega) only [go_sem, ↓reduceIte, Nat.reduceEqDiff, Nat.reduceAdd, Nat.reduceLeDiff, hlen, hix, w_index, ev_index, nc_h, okPtr_h, cellAt_h, e0, e1, e4, e5, e137, l4, l4', l7]); try rfl)⟩
      · have c1 : ((wd.size : Int) == 1) = false := by simp; omega
        have hh2 : headT (hdW l) = .mk 2 0 wd [] := by rw [hwd]; exact headT_big hv1 (fun e => h1 (by rw [size_list, hwdl]; exact e))
        repeat (first | (refine W_reg rfl fun G K hG hK => ?_; simp (disch := omega) only [go_sem, ↓reduceIte, Nat.reduceEqDiff, Nat.reduceAdd, Nat.reduceLeDiff, hG, hlen, hix, w_index, ev_index, nc_h, okPtr_h, cellAt_h, e0, e1, e4, e5, e137, l4, l4', l7, c1]; refine hK _ _ ?_; clear hK K hG G) | (refine W_end rfl fun G K hG hK => ?_; simp (disch := omega) only [go_sem, ↓reduceIte, Nat.reduceEqDiff, Nat.reduceAdd, Nat.reduceLeDiff, hG, hlen, hix, w_index, ev_index, nc_h, okPtr_h, cellAt_h, e0, e1, e4, e5, e137, l4, l4', l7, c1]; refine hK _ _ ?_; clear hK K hG G; repeat (first | refine thenI ?_ | refine thenE ?_ | refine thenR ?_ | refine inBI ?_ | refine inBR ?_ | refine inBS ?_ | refine inBN (by decide) ?_)) | refine W_seqS ?_ | refine W_seqC ?_ | refine W_seqB ?_ | refine W_block ?_ | (refine W_skip ?_; repeat (first | refine thenI ?_ | refine thenE ?_ | refine thenR ?_ | refine inBI ?_ | refine inBR ?_ | refine inBS ?_ | refine inBN (by decide) ?_)) | (refine W_condT ?hc ?_; (case hc => (simp (disch := omega) only [go_sem, ↓reduceIte, Nat.reduceEqDiff, Nat.reduceAdd, Nat.reduceLeDiff, hlen, hix, w_index, ev_index, nc_h, okPtr_h, cellAt_h, e0, e1, e4, e5, e137, l4, l4', l7, c1]; done))) | (refine W_condF ?hc ?_; (case hc => (simp (disch := omega) only [go_sem, ↓reduceIte, Nat.reduceEqDiff, Nat.reduceAdd, Nat.reduceLeDiff, hlen, hix, w_index, ev_index, nc_h, okPtr_h, cellAt_h, e0, e1, e4, e5, e137, l4, l4', l7, c1]; done))))
        exact ⟨2, 0, wd, rfl, hh2, by omega, (by (simp (disch := omega) only [go_sem, ↓reduceIte, Nat.reduceEqDiff, Nat.reduceAdd, Nat.reduceLeDiff, hlen, hix, w_index, ev_index, nc_h, okPtr_h, cellAt_h, e0, e1, e4, e5, e137, l4, l4', l7]); try rfl), (by (simp (disch := omega) only [go_sem, ↓reduceIte, Nat.reduceEqDiff, Nat.reduceAdd, Nat.reduceLeDiff, hlen, hix, w_index, ev_index, nc_h, okPtr_h, cellAt_h, e0, e1, e4, e5, e137, l4, l4', l7]); try rfl), (by (simp (disch := omega) only [go_sem, ↓reduceIte, Nat.reduceEqDiff, Nat.reduceAdd, Nat.reduceLeDiff, hlen, hix, w_index, ev_index, nc_h, okPtr_h, cellAt_h, e0, e1, e4, e5, e137, l4, l4', l7]); try rfl), (by (simp (disch := omega) only [go_sem, ↓reduceIte, Nat.reduceEqDiff, Nat.reduceAdd, Nat.reduceLeDiff, hlen, hix, w_index, ev_index, nc_h, okPtr_h, cellAt_h, e0, e1, e4, e5, e137, l4, l4', l7]); try rfl), (by (simp (disch := omega) only [go_sem, ↓reduceIte, Nat.reduceEqDiff, Nat.reduceAdd, Nat.reduceLeDiff, hlen, hix, w_index, ev_index, nc_h, okPtr_h, cellAt_h, e0, e1, e4, e5, e137, l4, l4', l7]); try rfl), ⟨(by (simp (disch := omega) only [go_sem, ↓reduceIte, Nat.reduceEqDiff, Nat.reduceAdd, Nat.reduceLeDiff, hlen, hix, w_index, ev_index, nc_h, okPtr_h, cellAt_h, e0, e1, e4, e5, e137, l4, l4', l7]); try rfl), (by (simp (disch := omega) only [go_sem, ↓reduceIte, Nat.reduceEqDiff, Nat.reduceAdd, Nat.reduceLeDiff, hlen, hix, w_index, ev_index, nc_h, okPtr_h, cellAt_h, e0, e1, e4, e5, e137, l4, l4', l7]); try rfl)⟩, (by (simp (disch := omega) only [go_sem, ↓reduceIte, Nat.reduceEqDiff, Nat.reduceAdd, Nat.reduceLeDiff, hlen, hix, w_index, ev_index, nc_h, okPtr_h, cellAt_h, e0, e1, e4, e5, e137, l4, l4', l7]); try rfl)⟩
  clear e0 e1 e4 e5 e137 l4 l4' l7
  rintro ⟨env, loc⟩ st' ⟨k, n, nm, hst2, hhd, hnm, e0, e1, e4, e7, e137, ⟨l4, l4'⟩, l7⟩
  simp only at e0 e1 e4 e7 e137 l4 l4' l7
  subst hst2
  have hdrop : ∀ i, l.drop i = s.data.toList.drop (a + i) := fun i => by rw [hl, List.drop_drop]
  repeat (first | (refine W_reg rfl fun G K hG hK => ?_; simp (disch := omega) only [go_sem, ↓reduceIte, Nat.reduceEqDiff, Nat.reduceAdd, Nat.reduceLeDiff, hG, hlen, hix, w_index, ev_index, nc_h, okPtr_h, cellAt_h, e0, e1, e4, e7, e137, l4, l4', l7]; refine hK _ _ ?_; clear hK K hG G) | (refine W_end rfl fun G K hG hK => ?_; simp (disch := omega) only [go_sem, ↓reduceIte, Nat.reduceEqDiff, Nat.reduceAdd, Nat.reduceLeDiff, hG, hlen, hix, w_index, ev_index, nc_h, okPtr_h, cellAt_h, e0, e1, e4, e7, e137, l4, l4', l7]; refine hK _ _ ?_; clear hK K hG G; repeat (first | refine thenI ?_ | refine thenE ?_ | refine thenR ?_ | refine inBI ?_ | refine inBR ?_ | refine inBS ?_ | refine inBN (by decide) ?_)) | refine W_seqS ?_ | refine W_seqC ?_ | refine W_seqB ?_ | refine W_block ?_ | (refine W_skip ?_; repeat (first | refine thenI ?_ | refine thenE ?_ | refine thenR ?_ | refine inBI ?_ | refine inBR ?_ | refine inBS ?_ | refine inBN (by decide) ?_)) | (refine W_condT ?hc ?_; (case hc => (simp (disch := omega) only [go_sem, ↓reduceIte, Nat.reduceEqDiff, Nat.reduceAdd, Nat.reduceLeDiff, hlen, hix, w_index, ev_index, nc_h, okPtr_h, cellAt_h, e0, e1, e4, e7, e137, l4, l4', l7]; done))) | (refine W_condF ?hc ?_; (case hc => (simp (disch := omega) only [go_sem, ↓reduceIte, Nat.reduceEqDiff, Nat.reduceAdd, Nat.reduceLeDiff, hlen, hix, w_index, ev_index, nc_h, okPtr_h, cellAt_h, e0, e1, e4, e7, e137, l4, l4', l7]; done))))
  (repeat (first | refine W_seqS ?_ | refine W_seqC ?_ | refine W_seqB ?_ | refine W_block ?_)); refine W_reg rfl fun G K hG hK => ?_; simp (disch := omega) only [go_sem, ↓reduceIte, Nat.reduceEqDiff, Nat.reduceAdd, Nat.reduceLeDiff, hG, hlen, hix, w_index, ev_index, nc_h, okPtr_h, cellAt_h, e0, e1, e4, e7, e137, l4, l4', l7]
  refine w_call (sees_ok q s ⟨#[40]⟩ (a + j) false sb hb (by omega) (by decide) (by decide) hrd) (by simp (disch := omega) only [go_sem, ↓reduceIte, Nat.reduceEqDiff, hlen, hix, w_index, ev_index, nc_h, okPtr_h, cellAt_h, e0, e1, e4, e7, e137, l4, l4', l7]) ?hl ?_
  case hl => first | rfl | (simp only [go_sem, List.all_cons, List.all_nil, Bool.not_false, Bool.and_self, hlen, hix, w_index, ev_index, nc_h, okPtr_h, cellAt_h, e0, e1, e4, e7, e137, l4, l4', l7]; done)
  rintro r_ sb ⟨rfl, rfl⟩; refine ⟨fun e => (by cases e), ?_⟩
  cases hp : seesB s (a + j) ⟨#[40]⟩ with
  | false =>
    have hp2 : ¬ (tlW l).take 1 = [40] := by rw [htl, hdrop]; exact of_decide_eq_false hp
    simp (disch := omega) only [go_sem, ↓reduceIte, Nat.reduceEqDiff, Nat.reduceAdd, Nat.reduceLeDiff, hG, hlen, hix, w_index, ev_index, nc_h, okPtr_h, cellAt_h, e0, e1, e4, e7, e137, l4, l4', l7]; refine hK _ _ ?_; clear hK K hG G; repeat (first | refine thenI ?_ | refine thenE ?_ | refine thenR ?_ | refine inBI ?_ | refine inBR ?_ | refine inBS ?_ | refine inBN (by decide) ?_)
    repeat (first | (refine W_reg rfl fun G K hG hK => ?_; simp (disch := omega) only [go_sem, ↓reduceIte, Nat.reduceEqDiff, Nat.reduceAdd, Nat.reduceLeDiff, hG, hlen, hix, w_index, ev_index, nc_h, okPtr_h, cellAt_h, e0, e1, e4, e7, e137, l4, l4', l7]; refine hK _ _ ?_; clear hK K hG G) | (refine W_end rfl fun G K hG hK => ?_; simp (disch := omega) only [go_sem, ↓reduceIte, Nat.reduceEqDiff, Nat.reduceAdd, Nat.reduceLeDiff, hG, hlen, hix, w_index, ev_index, nc_h, okPtr_h, cellAt_h, e0, e1, e4, e7, e137, l4, l4', l7]; refine hK _ _ ?_; clear hK K hG G; repeat (first | refine thenI ?_ | refine thenE ?_ | refine thenR ?_ | refine inBI ?_ | refine inBR ?_ | refine inBS ?_ | refine inBN (by decide) ?_)) | refine W_seqS ?_ | refine W_seqC ?_ | refine W_seqB ?_ | refine W_block ?_ | (refine W_skip ?_; repeat (first | refine thenI ?_ | refine thenE ?_ | refine thenR ?_ | refine inBI ?_ | refine inBR ?_ | refine inBS ?_ | refine inBN (by decide) ?_)) | (refine W_condT ?hc ?_; (case hc => (simp (disch := omega) only [go_sem, ↓reduceIte, Nat.reduceEqDiff, Nat.reduceAdd, Nat.reduceLeDiff, hlen, hix, w_index, ev_index, nc_h, okPtr_h, cellAt_h, e0, e1, e4, e7, e137, l4, l4', l7]; done))) | (refine W_condF ?hc ?_; (case hc => (simp (disch := omega) only [go_sem, ↓reduceIte, Nat.reduceEqDiff, Nat.reduceAdd, Nat.reduceLeDiff, hlen, hix, w_index, ev_index, nc_h, okPtr_h, cellAt_h, e0, e1, e4, e7, e137, l4, l4', l7]; done))))
    refine W_ret ?_; try (repeat (first | refine thenI ?_ | refine thenE ?_ | refine thenR ?_ | refine inBI ?_ | refine inBR ?_ | refine inBS ?_ | refine inBN (by decide) ?_))
    refine finC (.inl rfl) (by (simp (disch := omega) only [go_sem, ↓reduceIte, Nat.reduceEqDiff, Nat.reduceAdd, Nat.reduceLeDiff, hlen, hix, w_index, ev_index, nc_h, okPtr_h, cellAt_h, e0, e1, e4, e7, e137, l4, l4', l7]); try rfl) ⟨some (.mk k n nm [], tlW l), a + j, false, .mk k n nm [], [_, _, _, _], [], rfl, .nil _ _ _, .nil _, hrd, haw, by rw [← hl, ← hhd]; exact .leaf hp2, by omega, by omega, by simp only [T.count, T.countL]; omega, .mk _ _ _ _ (by omega) (fun x hx => by cases hx), rfl, rfl, haj, by rw [← hdrop, htl]⟩
  | true =>
  have hp2 : (tlW l).take 1 = [40] := by rw [htl, hdrop]; exact of_decide_eq_true hp
  have hp3 : a + j + 1 ≤ s.size := by
    have := congrArg List.length hp2
    rw [htl, hdrop, List.length_take, List.length_drop, hll] at this
    simp only [List.length_cons, List.length_nil] at this
    omega
  have hset := rd_at hrd
  have r0 := rd_0 hrd
  have r1 := rd_1 hrd
  simp (disch := omega) only [go_sem, ↓reduceIte, Nat.reduceEqDiff, Nat.reduceAdd, Nat.reduceLeDiff, hG, hlen, hix, w_index, ev_index, nc_h, okPtr_h, cellAt_h, e0, e1, e4, e7, e137, l4, l4', l7]; refine hK _ _ ?_; clear hK K hG G; repeat (first | refine thenI ?_ | refine thenE ?_ | refine thenR ?_ | refine inBI ?_ | refine inBR ?_ | refine inBS ?_ | refine inBN (by decide) ?_)
  repeat (first | (refine W_reg rfl fun G K hG hK => ?_; simp (disch := omega) only [go_sem, ↓reduceIte, Nat.reduceEqDiff, Nat.reduceAdd, Nat.reduceLeDiff, hG, hlen, hix, w_index, ev_index, nc_h, okPtr_h, cellAt_h, e0, e1, e4, e7, e137, l4, l4', l7, hset, r0, r1]; refine hK _ _ ?_; clear hK K hG G) | (refine W_end rfl fun G K hG hK => ?_; simp (disch := omega) only [go_sem, ↓reduceIte, Nat.reduceEqDiff, Nat.reduceAdd, Nat.reduceLeDiff, hG, hlen, hix, w_index, ev_index, nc_h, okPtr_h, cellAt_h, e0, e1, e4, e7, e137, l4, l4', l7, hset, r0, r1]; refine hK _ _ ?_; clear hK K hG G; repeat (first | refine thenI ?_ | refine thenE ?_ | refine thenR ?_ | refine inBI ?_ | refine inBR ?_ | refine inBS ?_ | refine inBN (by decide) ?_)) | refine W_seqS ?_ | refine W_seqC ?_ | refine W_seqB ?_ | refine W_block ?_ | (refine W_skip ?_; repeat (first | refine thenI ?_ | refine thenE ?_ | refine thenR ?_ | refine inBI ?_ | refine inBR ?_ | refine inBS ?_ | refine inBN (by decide) ?_)) | (refine W_condT ?hc ?_; (case hc => (simp (disch := omega) only [go_sem, ↓reduceIte, Nat.reduceEqDiff, Nat.reduceAdd, Nat.reduceLeDiff, hlen, hix, w_index, ev_index, nc_h, okPtr_h, cellAt_h, e0, e1, e4, e7, e137, l4, l4', l7, hset, r0, r1]; done))) | (refine W_condF ?hc ?_; (case hc => (simp (disch := omega) only [go_sem, ↓reduceIte, Nat.reduceEqDiff, Nat.reduceAdd, Nat.reduceLeDiff, hlen, hix, w_index, ev_index, nc_h, okPtr_h, cellAt_h, e0, e1, e4, e7, e137, l4, l4', l7, hset, r0, r1]; done))))
  have hrd' := hrd.setAt (v := ((a + j : Nat) : Int) + 1) (a' := a + j + 1) (by omega)
  have haw' : Away (some q) st (sb.set q ⟨[.string s, .int .i64 (((a + j : Nat) : Int) + 1), .bool false], 49, 0⟩) := haw.trans set_away (.inl rfl)
  have hchain : ∀ res, EvB dp (.mk k n nm []) [] (s.data.toList.drop (a + j + 1)) res → EvS dp (s.data.toList.drop a) res := fun res h => by
    rw [← hl]
    refine .node hp2 ?_
    rw [hhd, htl, List.drop_drop, hdrop]
    exact h
  clear hset r0 r1 hsl
  refine W_loop (fun d fr st' => ∃ (u : Nat) (acc : List T) (r : Value) (L : List Nat) (aj : Nat) (bd : Bool) (z : Value), d = 62 - u ∧ u ≤ 62 ∧ (Rd st' q s aj bd) ∧ (Away (some q) st st') ∧ (Sl st' acc r L) ∧ (Fresh st.length L) ∧ (T.countL acc + a ≤ aj) ∧ ((∀ x ∈ acc, LimN 1073741824 x)) ∧ (acc.length ≤ u) ∧ ((bd = false → acc.length = u ∧ u ≤ 61 ∧ aj ≤ s.size ∧ ∀ res, EvB dp (.mk k n nm []) acc (s.data.toList.drop aj) res → EvS dp (s.data.toList.drop a) res)) ∧ ((bd = true → EvS dp (s.data.toList.drop a) none ∧ aj ≤ s.size + 2 * (18 - dp))) ∧ (nonH z = true) ∧ (fr.env 0 = .pointer (some ⟨q, 0, none⟩)) ∧ (fr.env 1 = .int .i64 (dp : Int)) ∧ (fr.env 4 = .pointer (some ⟨4, 0, some 1⟩)) ∧ (fr.env 7 = .pointer (some ⟨7, 0, some 1⟩)) ∧ (fr.env 8 = .int .i64 u) ∧ (fr.env 137 = z) ∧ ((fr.loc 4).1 = 1 ∧ (fr.loc 4).2.length = 4) ∧ (fr.loc 7 = (1, [.int .i64 k, .int .i64 n, .string nm, r]))) (62) ?_ ?_
  · exact ⟨0, [], _, _, a + j + 1, false, _, by omega, by omega, hrd', haw', Sl.nil _, .nil _, by simp only [T.countL]; omega, (fun x hx => by cases hx), Nat.le_refl _, (fun _ => ⟨rfl, by omega, hp3, hchain⟩), (fun h => by cases h), rfl, (by (simp (disch := omega) only [go_sem, ↓reduceIte, Nat.reduceEqDiff, Nat.reduceAdd, Nat.reduceLeDiff, hlen, hix, w_index, ev_index, nc_h, okPtr_h, cellAt_h, e0, e1, e4, e7, e137, l4, l4', l7]); try rfl), (by (simp (disch := omega) only [go_sem, ↓reduceIte, Nat.reduceEqDiff, Nat.reduceAdd, Nat.reduceLeDiff, hlen, hix, w_index, ev_index, nc_h, okPtr_h, cellAt_h, e0, e1, e4, e7, e137, l4, l4', l7]); try rfl), (by (simp (disch := omega) only [go_sem, ↓reduceIte, Nat.reduceEqDiff, Nat.reduceAdd, Nat.reduceLeDiff, hlen, hix, w_index, ev_index, nc_h, okPtr_h, cellAt_h, e0, e1, e4, e7, e137, l4, l4', l7]); try rfl), (by (simp (disch := omega) only [go_sem, ↓reduceIte, Nat.reduceEqDiff, Nat.reduceAdd, Nat.reduceLeDiff, hlen, hix, w_index, ev_index, nc_h, okPtr_h, cellAt_h, e0, e1, e4, e7, e137, l4, l4', l7]); try rfl), (by (simp (disch := omega) only [go_sem, ↓reduceIte, Nat.reduceEqDiff, Nat.reduceAdd, Nat.reduceLeDiff, hlen, hix, w_index, ev_index, nc_h, okPtr_h, cellAt_h, e0, e1, e4, e7, e137, l4, l4', l7]); try rfl), (by (simp (disch := omega) only [go_sem, ↓reduceIte, Nat.reduceEqDiff, Nat.reduceAdd, Nat.reduceLeDiff, hlen, hix, w_index, ev_index, nc_h, okPtr_h, cellAt_h, e0, e1, e4, e7, e137, l4, l4', l7]); try rfl), ⟨(by (simp (disch := omega) only [go_sem, ↓reduceIte, Nat.reduceEqDiff, Nat.reduceAdd, Nat.reduceLeDiff, hlen, hix, w_index, ev_index, nc_h, okPtr_h, cellAt_h, e0, e1, e4, e7, e137, l4, l4', l7]); try rfl), (by (simp (disch := omega) only [go_sem, ↓reduceIte, Nat.reduceEqDiff, Nat.reduceAdd, Nat.reduceLeDiff, hlen, hix, w_index, ev_index, nc_h, okPtr_h, cellAt_h, e0, e1, e4, e7, e137, l4, l4', l7]); try rfl)⟩, (by (simp (disch := omega) only [go_sem, ↓reduceIte, Nat.reduceEqDiff, Nat.reduceAdd, Nat.reduceLeDiff, hlen, hix, w_index, ev_index, nc_h, okPtr_h, cellAt_h, e0, e1, e4, e7, e137, l4, l4', l7]); try rfl)⟩
  clear e0 e1 e4 e7 e137 l4 l4' l7
  rintro d ⟨env, loc⟩ st' ⟨u, acc, r, L, aj, bd, z, hd_u, hj_u, hrd, haw, hown, hfr, hcn, hlm, hlen2, hbf, hbt, hz, e0, e1, e4, e7, e8, e137, ⟨l4, l4'⟩, l7⟩
  simp only at e0 e1 e4 e7 e8 e137 l4 l4' l7
  have r0 := rd_0 hrd
  have r1 := rd_1 hrd
  have r2 := rd_2 hrd
  have ol := hown.loc
  have ok := hown.okv
  have oc := hown.cells
  have hst := haw.1
  cases bd with
  | true =>
    obtain ⟨hev, haj2⟩ := hbt rfl
    repeat (first | (refine W_reg rfl fun G K hG hK => ?_; simp (disch := omega) only [go_sem, ↓reduceIte, Nat.reduceEqDiff, Nat.reduceAdd, Nat.reduceLeDiff, hG, hlen, hix, w_index, ev_index, nc_h, okPtr_h, cellAt_h, e0, e1, e4, e7, e8, e137, l4, l4', l7, r0, r1, r2]; refine hK _ _ ?_; clear hK K hG G) | (refine W_end rfl fun G K hG hK => ?_; simp (disch := omega) only [go_sem, ↓reduceIte, Nat.reduceEqDiff, Nat.reduceAdd, Nat.reduceLeDiff, hG, hlen, hix, w_index, ev_index, nc_h, okPtr_h, cellAt_h, e0, e1, e4, e7, e8, e137, l4, l4', l7, r0, r1, r2]; refine hK _ _ ?_; clear hK K hG G; repeat (first | refine thenI ?_ | refine thenE ?_ | refine thenR ?_ | refine inBI ?_ | refine inBR ?_ | refine inBS ?_ | refine inBN (by decide) ?_)) | refine W_seqS ?_ | refine W_seqC ?_ | refine W_seqB ?_ | refine W_block ?_ | (refine W_skip ?_; repeat (first | refine thenI ?_ | refine thenE ?_ | refine thenR ?_ | refine inBI ?_ | refine inBR ?_ | refine inBS ?_ | refine inBN (by decide) ?_)) | (refine W_condT ?hc ?_; (case hc => (simp (disch := omega) only [go_sem, ↓reduceIte, Nat.reduceEqDiff, Nat.reduceAdd, Nat.reduceLeDiff, hlen, hix, w_index, ev_index, nc_h, okPtr_h, cellAt_h, e0, e1, e4, e7, e8, e137, l4, l4', l7, r0, r1, r2]; done))) | (refine W_condF ?hc ?_; (case hc => (simp (disch := omega) only [go_sem, ↓reduceIte, Nat.reduceEqDiff, Nat.reduceAdd, Nat.reduceLeDiff, hlen, hix, w_index, ev_index, nc_h, okPtr_h, cellAt_h, e0, e1, e4, e7, e8, e137, l4, l4', l7, r0, r1, r2]; done))))
    refine W_exit ?_; repeat (first | refine thenI ?_ | refine thenE ?_ | refine thenR ?_ | refine inBI ?_ | refine inBR ?_ | refine inBS ?_ | refine inBN (by decide) ?_)
    repeat (first | (refine W_reg rfl fun G K hG hK => ?_; simp (disch := omega) only [go_sem, ↓reduceIte, Nat.reduceEqDiff, Nat.reduceAdd, Nat.reduceLeDiff, hG, hlen, hix, w_index, ev_index, nc_h, okPtr_h, cellAt_h, e0, e1, e4, e7, e8, e137, l4, l4', l7, r0, r1, r2, ol, ok, oc]; refine hK _ _ ?_; clear hK K hG G) | (refine W_end rfl fun G K hG hK => ?_; simp (disch := omega) only [go_sem, ↓reduceIte, Nat.reduceEqDiff, Nat.reduceAdd, Nat.reduceLeDiff, hG, hlen, hix, w_index, ev_index, nc_h, okPtr_h, cellAt_h, e0, e1, e4, e7, e8, e137, l4, l4', l7, r0, r1, r2, ol, ok, oc]; refine hK _ _ ?_; clear hK K hG G; repeat (first | refine thenI ?_ | refine thenE ?_ | refine thenR ?_ | refine inBI ?_ | refine inBR ?_ | refine inBS ?_ | refine inBN (by decide) ?_)) | refine W_seqS ?_ | refine W_seqC ?_ | refine W_seqB ?_ | refine W_block ?_ | (refine W_skip ?_; repeat (first | refine thenI ?_ | refine thenE ?_ | refine thenR ?_ | refine inBI ?_ | refine inBR ?_ | refine inBS ?_ | refine inBN (by decide) ?_)) | (refine W_condT ?hc ?_; (case hc => (simp (disch := omega) only [go_sem, ↓reduceIte, Nat.reduceEqDiff, Nat.reduceAdd, Nat.reduceLeDiff, hlen, hix, w_index, ev_index, nc_h, okPtr_h, cellAt_h, e0, e1, e4, e7, e8, e137, l4, l4', l7, r0, r1, r2, ol, ok, oc]; done))) | (refine W_condF ?hc ?_; (case hc => (simp (disch := omega) only [go_sem, ↓reduceIte, Nat.reduceEqDiff, Nat.reduceAdd, Nat.reduceLeDiff, hlen, hix, w_index, ev_index, nc_h, okPtr_h, cellAt_h, e0, e1, e4, e7, e8, e137, l4, l4', l7, r0, r1, r2, ol, ok, oc]; done))))
    refine W_ret ?_; try (repeat (first | refine thenI ?_ | refine thenE ?_ | refine thenR ?_ | refine inBI ?_ | refine inBR ?_ | refine inBS ?_ | refine inBN (by decide) ?_))
    refine finC (.inl rfl) (by (simp (disch := omega) only [go_sem, ↓reduceIte, Nat.reduceEqDiff, Nat.reduceAdd, Nat.reduceLeDiff, hlen, hix, w_index, ev_index, nc_h, okPtr_h, cellAt_h, e0, e1, e4, e7, e8, e137, l4, l4', l7, r0, r1, r2, ol, ok, oc]); try rfl) ⟨none, aj, true, .mk k n nm acc, [_, _, _, _], L, rfl, Own.close _ _ _ hown, hfr, hrd, haw, hev, by omega, haj2, by simp only [T.count]; omega, .mk _ _ _ _ (by omega) hlm, rfl⟩
  | false =>
  obtain ⟨hau, hu61, haj2, hch⟩ := hbf rfl
  have hbad := rd_bad hrd
  by_cases hdeep : dp > 16 ∨ u > 60
  · have hdp2 : 16 < dp ∨ 60 < acc.length := by omega
    have hfin : L5Q q s a dp st (.agg #[.int .i64 k, .int .i64 n, .string nm, r]) (st'.set q ⟨[.string s, .int .i64 aj, .bool true], 49, 0⟩) :=
      ⟨none, aj, true, .mk k n nm acc, [_, _, _, _], L, rfl, Own.close _ _ _ (hown.away set_away (n := st.length) (m := st'.length) (fun i hi => ⟨hfr.2 i hi, hown.lt i hi⟩) (fun x hx => by cases hx; exact .inl hql)), hfr, hrd.setBad, haw.trans set_away (.inl rfl), hch _ (.deep hdp2), by omega, by omega, by simp only [T.count]; omega, .mk _ _ _ _ (by omega) hlm, rfl⟩
    by_cases h16 : dp > 16
    · have c1 : decide ((dp : Int) > 16) = true := decide_eq_true (by omega)
      repeat (first | (refine W_reg rfl fun G K hG hK => ?_; simp (disch := omega) only [go_sem, ↓reduceIte, Nat.reduceEqDiff, Nat.reduceAdd, Nat.reduceLeDiff, hG, hlen, hix, w_index, ev_index, nc_h, okPtr_h, cellAt_h, e0, e1, e4, e7, e8, e137, l4, l4', l7, r0, r1, r2, c1, hbad]; refine hK _ _ ?_; clear hK K hG G) | (refine W_end rfl fun G K hG hK => ?_; simp (disch := omega) only [go_sem, ↓reduceIte, Nat.reduceEqDiff, Nat.reduceAdd, Nat.reduceLeDiff, hG, hlen, hix, w_index, ev_index, nc_h, okPtr_h, cellAt_h, e0, e1, e4, e7, e8, e137, l4, l4', l7, r0, r1, r2, c1, hbad]; refine hK _ _ ?_; clear hK K hG G; repeat (first | refine thenI ?_ | refine thenE ?_ | refine thenR ?_ | refine inBI ?_ | refine inBR ?_ | refine inBS ?_ | refine inBN (by decide) ?_)) | refine W_seqS ?_ | refine W_seqC ?_ | refine W_seqB ?_ | refine W_block ?_ | (refine W_skip ?_; repeat (first | refine thenI ?_ | refine thenE ?_ | refine thenR ?_ | refine inBI ?_ | refine inBR ?_ | refine inBS ?_ | refine inBN (by decide) ?_)) | (refine W_condT ?hc ?_; (case hc => (simp (disch := omega) only [go_sem, ↓reduceIte, Nat.reduceEqDiff, Nat.reduceAdd, Nat.reduceLeDiff, hlen, hix, w_index, ev_index, nc_h, okPtr_h, cellAt_h, e0, e1, e4, e7, e8, e137, l4, l4', l7, r0, r1, r2, c1, hbad]; done))) | (refine W_condF ?hc ?_; (case hc => (simp (disch := omega) only [go_sem, ↓reduceIte, Nat.reduceEqDiff, Nat.reduceAdd, Nat.reduceLeDiff, hlen, hix, w_index, ev_index, nc_h, okPtr_h, cellAt_h, e0, e1, e4, e7, e8, e137, l4, l4', l7, r0, r1, r2, c1, hbad]; done))))
      refine W_exit ?_; repeat (first | refine thenI ?_ | refine thenE ?_ | refine thenR ?_ | refine inBI ?_ | refine inBR ?_ | refine inBS ?_ | refine inBN (by decide) ?_)
      repeat (first | (refine W_reg rfl fun G K hG hK => ?_; simp (disch := omega) only [go_sem, ↓reduceIte, Nat.reduceEqDiff, Nat.reduceAdd, Nat.reduceLeDiff, hG, hlen, hix, w_index, ev_index, nc_h, okPtr_h, cellAt_h, e0, e1, e4, e7, e8, e137, l4, l4', l7, r0, r1, r2, ol, ok, oc]; refine hK _ _ ?_; clear hK K hG G) | (refine W_end rfl fun G K hG hK => ?_; simp (disch := omega) only [go_sem, ↓reduceIte, Nat.reduceEqDiff, Nat.reduceAdd, Nat.reduceLeDiff, hG, hlen, hix, w_index, ev_index, nc_h, okPtr_h, cellAt_h, e0, e1, e4, e7, e8, e137, l4, l4', l7, r0, r1, r2, ol, ok, oc]; refine hK _ _ ?_; clear hK K hG G; repeat (first | refine thenI ?_ | refine thenE ?_ | refine thenR ?_ | refine inBI ?_ | refine inBR ?_ | refine inBS ?_ | refine inBN (by decide) ?_)) | refine W_seqS ?_ | refine W_seqC ?_ | refine W_seqB ?_ | refine W_block ?_ | (refine W_skip ?_; repeat (first | refine thenI ?_ | refine thenE ?_ | refine thenR ?_ | refine inBI ?_ | refine inBR ?_ | refine inBS ?_ | refine inBN (by decide) ?_)) | (refine W_condT ?hc ?_; (case hc => (simp (disch := omega) only [go_sem, ↓reduceIte, Nat.reduceEqDiff, Nat.reduceAdd, Nat.reduceLeDiff, hlen, hix, w_index, ev_index, nc_h, okPtr_h, cellAt_h, e0, e1, e4, e7, e8, e137, l4, l4', l7, r0, r1, r2, ol, ok, oc]; done))) | (refine W_condF ?hc ?_; (case hc => (simp (disch := omega) only [go_sem, ↓reduceIte, Nat.reduceEqDiff, Nat.reduceAdd, Nat.reduceLeDiff, hlen, hix, w_index, ev_index, nc_h, okPtr_h, cellAt_h, e0, e1, e4, e7, e8, e137, l4, l4', l7, r0, r1, r2, ol, ok, oc]; done))))
      refine W_ret ?_; try (repeat (first | refine thenI ?_ | refine thenE ?_ | refine thenR ?_ | refine inBI ?_ | refine inBR ?_ | refine inBS ?_ | refine inBN (by decide) ?_))
      refine finC (.inl rfl) (by (simp (disch := omega) only [go_sem, ↓reduceIte, Nat.reduceEqDiff, Nat.reduceAdd, Nat.reduceLeDiff, hlen, hix, w_index, ev_index, nc_h, okPtr_h, cellAt_h, e0, e1, e4, e7, e8, e137, l4, l4', l7, r0, r1, r2, ol, ok, oc]); try rfl) hfin
    · have c1 : decide ((dp : Int) > 16) = false := decide_eq_false (by omega)
      have c2 : decide ((u : Int) > 60) = true := decide_eq_true (by omega)
      repeat (first | (refine W_reg rfl fun G K hG hK => ?_; simp (disch := omega) only [go_sem, ↓reduceIte, Nat.reduceEqDiff, Nat.reduceAdd, Nat.reduceLeDiff, hG, hlen, hix, w_index, ev_index, nc_h, okPtr_h, cellAt_h, e0, e1, e4, e7, e8, e137, l4, l4', l7, r0, r1, r2, c1, c2, hbad]; refine hK _ _ ?_; clear hK K hG G) | (refine W_end rfl fun G K hG hK => ?_; simp (disch := omega) only [go_sem, ↓reduceIte, Nat.reduceEqDiff, Nat.reduceAdd, Nat.reduceLeDiff, hG, hlen, hix, w_index, ev_index, nc_h, okPtr_h, cellAt_h, e0, e1, e4, e7, e8, e137, l4, l4', l7, r0, r1, r2, c1, c2, hbad]; refine hK _ _ ?_; clear hK K hG G; repeat (first | refine thenI ?_ | refine thenE ?_ | refine thenR ?_ | refine inBI ?_ | refine inBR ?_ | refine inBS ?_ | refine inBN (by decide) ?_)) | refine W_seqS ?_ | refine W_seqC ?_ | refine W_seqB ?_ | refine W_block ?_ | (refine W_skip ?_; repeat (first | refine thenI ?_ | refine thenE ?_ | refine thenR ?_ | refine inBI ?_ | refine inBR ?_ | refine inBS ?_ | refine inBN (by decide) ?_)) | (refine W_condT ?hc ?_; (case hc => (simp (disch := omega) only [go_sem, ↓reduceIte, Nat.reduceEqDiff, Nat.reduceAdd, Nat.reduceLeDiff, hlen, hix, w_index, ev_index, nc_h, okPtr_h, cellAt_h, e0, e1, e4, e7, e8, e137, l4, l4', l7, r0, r1, r2, c1, c2, hbad]; done))) | (refine W_condF ?hc ?_; (case hc => (simp (disch := omega) only [go_sem, ↓reduceIte, Nat.reduceEqDiff, Nat.reduceAdd, Nat.reduceLeDiff, hlen, hix, w_index, ev_index, nc_h, okPtr_h, cellAt_h, e0, e1, e4, e7, e8, e137, l4, l4', l7, r0, r1, r2, c1, c2, hbad]; done))))
      refine W_exit ?_; repeat (first | refine thenI ?_ | refine thenE ?_ | refine thenR ?_ | refine inBI ?_ | refine inBR ?_ | refine inBS ?_ | refine inBN (by decide) ?_)
      repeat (first | (refine W_reg rfl fun G K hG hK => ?_; simp (disch := omega) only [go_sem, ↓reduceIte, Nat.reduceEqDiff, Nat.reduceAdd, Nat.reduceLeDiff, hG, hlen, hix, w_index, ev_index, nc_h, okPtr_h, cellAt_h, e0, e1, e4, e7, e8, e137, l4, l4', l7, r0, r1, r2, ol, ok, oc]; refine hK _ _ ?_; clear hK K hG G) | (refine W_end rfl fun G K hG hK => ?_; simp (disch := omega) only [go_sem, ↓reduceIte, Nat.reduceEqDiff, Nat.reduceAdd, Nat.reduceLeDiff, hG, hlen, hix, w_index, ev_index, nc_h, okPtr_h, cellAt_h, e0, e1, e4, e7, e8, e137, l4, l4', l7, r0, r1, r2, ol, ok, oc]; refine hK _ _ ?_; clear hK K hG G; repeat (first | refine thenI ?_ | refine thenE ?_ | refine thenR ?_ | refine inBI ?_ | refine inBR ?_ | refine inBS ?_ | refine inBN (by decide) ?_)) | refine W_seqS ?_ | refine W_seqC ?_ | refine W_seqB ?_ | refine W_block ?_ | (refine W_skip ?_; repeat (first | refine thenI ?_ | refine thenE ?_ | refine thenR ?_ | refine inBI ?_ | refine inBR ?_ | refine inBS ?_ | refine inBN (by decide) ?_)) | (refine W_condT ?hc ?_; (case hc => (simp (disch := omega) only [go_sem, ↓reduceIte, Nat.reduceEqDiff, Nat.reduceAdd, Nat.reduceLeDiff, hlen, hix, w_index, ev_index, nc_h, okPtr_h, cellAt_h, e0, e1, e4, e7, e8, e137, l4, l4', l7, r0, r1, r2, ol, ok, oc]; done))) | (refine W_condF ?hc ?_; (case hc => (simp (disch := omega) only [go_sem, ↓reduceIte, Nat.reduceEqDiff, Nat.reduceAdd, Nat.reduceLeDiff, hlen, hix, w_index, ev_index, nc_h, okPtr_h, cellAt_h, e0, e1, e4, e7, e8, e137, l4, l4', l7, r0, r1, r2, ol, ok, oc]; done))))
      refine W_ret ?_; try (repeat (first | refine thenI ?_ | refine thenE ?_ | refine thenR ?_ | refine inBI ?_ | refine inBR ?_ | refine inBS ?_ | refine inBN (by decide) ?_))
      refine finC (.inl rfl) (by (simp (disch := omega) only [go_sem, ↓reduceIte, Nat.reduceEqDiff, Nat.reduceAdd, Nat.reduceLeDiff, hlen, hix, w_index, ev_index, nc_h, okPtr_h, cellAt_h, e0, e1, e4, e7, e8, e137, l4, l4', l7, r0, r1, r2, ol, ok, oc]); try rfl) hfin
  have hnd : ¬ (16 < dp ∨ 60 < acc.length) := by omega
  have c1 : decide ((dp : Int) > 16) = false := decide_eq_false (by omega)
  have c2 : decide ((u : Int) > 60) = false := decide_eq_false (by omega)
  have hdp1 : (dp : Int) + 1 = ((dp + 1 : Nat) : Int) := by omega
  repeat (first | (refine W_reg rfl fun G K hG hK => ?_; simp (disch := omega) only [go_sem, ↓reduceIte, Nat.reduceEqDiff, Nat.reduceAdd, Nat.reduceLeDiff, hG, hlen, hix, w_index, ev_index, nc_h, okPtr_h, cellAt_h, e0, e1, e4, e7, e8, e137, l4, l4', l7, r0, r1, r2, c1, c2]; refine hK _ _ ?_; clear hK K hG G) | (refine W_end rfl fun G K hG hK => ?_; simp (disch := omega) only [go_sem, ↓reduceIte, Nat.reduceEqDiff, Nat.reduceAdd, Nat.reduceLeDiff, hG, hlen, hix, w_index, ev_index, nc_h, okPtr_h, cellAt_h, e0, e1, e4, e7, e8, e137, l4, l4', l7, r0, r1, r2, c1, c2]; refine hK _ _ ?_; clear hK K hG G; repeat (first | refine thenI ?_ | refine thenE ?_ | refine thenR ?_ | refine inBI ?_ | refine inBR ?_ | refine inBS ?_ | refine inBN (by decide) ?_)) | refine W_seqS ?_ | refine W_seqC ?_ | refine W_seqB ?_ | refine W_block ?_ | (refine W_skip ?_; repeat (first | refine thenI ?_ | refine thenE ?_ | refine thenR ?_ | refine inBI ?_ | refine inBR ?_ | refine inBS ?_ | refine inBN (by decide) ?_)) | (refine W_condT ?hc ?_; (case hc => (simp (disch := omega) only [go_sem, ↓reduceIte, Nat.reduceEqDiff, Nat.reduceAdd, Nat.reduceLeDiff, hlen, hix, w_index, ev_index, nc_h, okPtr_h, cellAt_h, e0, e1, e4, e7, e8, e137, l4, l4', l7, r0, r1, r2, c1, c2]; done))) | (refine W_condF ?hc ?_; (case hc => (simp (disch := omega) only [go_sem, ↓reduceIte, Nat.reduceEqDiff, Nat.reduceAdd, Nat.reduceLeDiff, hlen, hix, w_index, ev_index, nc_h, okPtr_h, cellAt_h, e0, e1, e4, e7, e8, e137, l4, l4', l7, r0, r1, r2, c1, c2]; done))))
  (repeat (first | refine W_seqS ?_ | refine W_seqC ?_ | refine W_seqB ?_ | refine W_block ?_)); refine W_regL mixed [7, 137] [] [5, 7] [[(0, false), (1, false), (2, false), (3, false), (4, false), (5, false), (6, false), (7, false), (8, false), (9, false)]] rfl (by decide +kernel) (by intro t ht; simp only [List.mem_cons, List.not_mem_nil, or_false] at ht; (rcases ht with rfl | rfl) <;> (first | rfl | (simp only [hlen, hix, w_index, ev_index, nc_h, okPtr_h, cellAt_h, e0, e1, e4, e7, e8, e137, l4, l4', l7, r0, r1, r2, hz, put_some, upd_eval, Nat.reduceEqDiff, ↓reduceIte]; done) | (simp only [hlen, hix, w_index, ev_index, nc_h, okPtr_h, cellAt_h, e0, e1, e4, e7, e8, e137, l4, l4', l7, r0, r1, r2, hz, put_some, upd_eval, Nat.reduceEqDiff, ↓reduceIte]; rfl))) fun G K hG hK => (fm_cons ?_ fm_nil)
  simp only [pickOps, List.filterMap_cons, List.filterMap_nil, List.getElem?_cons_zero, List.getElem?_cons_succ, Option.map_some]; simp (disch := omega) only [go_sem, ↓reduceIte, Nat.reduceEqDiff, Nat.reduceAdd, Nat.reduceLeDiff, hG, hlen, hix, w_index, ev_index, nc_h, okPtr_h, cellAt_h, e0, e1, e4, e7, e8, e137, l4, l4', l7, r0, r1, r2, hdp1, ol, ok, oc]
  refine w_call (ih (by omega) q s aj st' hb haj2 hrd) (by simp (disch := omega) only [go_sem, ↓reduceIte, Nat.reduceEqDiff, hlen, hix, w_index, ev_index, nc_h, okPtr_h, cellAt_h, e0, e1, e4, e7, e8, e137, l4, l4', l7, r0, r1, r2, hdp1]) ?hl ?_
  case hl => first | rfl | (simp only [go_sem, List.all_cons, List.all_nil, Bool.not_false, Bool.and_self, hlen, hix, w_index, ev_index, nc_h, okPtr_h, cellAt_h, e0, e1, e4, e7, e8, e137, l4, l4', l7, r0, r1, r2, hdp1]; done)
  rintro r_ sd ⟨res2, a2, b2, t2, ds2, L2, rfl, ho2, hf2, hrd2, haw2, hev2, ha2, hb2, hc2, hn2, hm2⟩; refine ⟨fun e => (by cases e), ?_⟩
  obtain ⟨k2, n2, m2, z2, rfl, p1, p2, p3⟩ := ho2.args_cells
  obtain ⟨mid, ham, hem, hml⟩ := haw2.mid
  have hL1 := hown.lt
  have hown2 : Sl mid acc r L := hown.away ham (n := st.length) (m := st'.length) (fun i hi => ⟨hfr.2 i hi, hL1 i hi⟩) (fun x hx => by cases hx; exact .inl hql)
  obtain ⟨r', se, L', hap, hown', hfr', hl3, hoth⟩ := Own.step hown2 hfr (by omega) hem ho2 (by rw [hml]; exact hf2) (by omega)
  have hownS : Sl se (acc ++ [t2]) r' L' := hown'
  have ol' := hownS.loc
  have ok' := hownS.okv
  have oc' := hownS.cells
  have hrd3 : Rd se q s a2 b2 := (hoth q hql).trans hrd2
  have awd := haw.trans haw2 (.inl rfl)
  have aw3 : Away (some q) st se := ⟨by have := awd.1; omega, fun i hi hne => (hoth i hi).trans (awd.2 i hi hne)⟩
  have r3_0 := rd_0 hrd3
  have r3_1 := rd_1 hrd3
  have r3_2 := rd_2 hrd3
  have hset3 := rd_at hrd3
  have hbad3 := rd_bad hrd3
  have hL3 := hownS.lt
  have hkeep : ∀ x : St, Away (some q) se x → Sl x (acc ++ [t2]) r' L' := fun x hx => hownS.away hx (n := st.length) (m := se.length) (fun i hi => ⟨hfr'.2 i hi, hL3 i hi⟩) (fun y hy => by cases hy; exact .inl hql)
  have hcn2 : T.countL (acc ++ [t2]) + a + 1 ≤ a2 + 2 := by
    rw [T.countL_app]
    simp only [T.countL]
    omega
  have hlm2 : ∀ x ∈ acc ++ [t2], LimN 1073741824 x := fun x hx => by
    rcases List.mem_append.1 hx with hx | hx
    · exact hlm x hx
    · cases List.mem_singleton.1 hx; exact hn2
  simp (disch := omega) only [go_sem, ↓reduceIte, Nat.reduceEqDiff, Nat.reduceAdd, Nat.reduceLeDiff, hG, hlen, hix, w_index, ev_index, nc_h, okPtr_h, cellAt_h, e0, e1, e4, e7, e8, e137, l4, l4', l7, p1, p2, p3, ol, ok, oc, w_append, hap, ol', ok', oc']; refine hK _ _ ?_; clear hK K hG G; repeat (first | refine thenI ?_ | refine thenE ?_ | refine thenR ?_ | refine inBI ?_ | refine inBR ?_ | refine inBS ?_ | refine inBN (by decide) ?_)
  repeat (first | (refine W_reg rfl fun G K hG hK => ?_; simp (disch := omega) only [go_sem, ↓reduceIte, Nat.reduceEqDiff, Nat.reduceAdd, Nat.reduceLeDiff, hG, hlen, hix, w_index, ev_index, nc_h, okPtr_h, cellAt_h, e0, e1, e4, e7, e8, e137, l4, l4', l7, r3_0, r3_1, r3_2, ol', ok', oc']; refine hK _ _ ?_; clear hK K hG G) | (refine W_end rfl fun G K hG hK => ?_; simp (disch := omega) only [go_sem, ↓reduceIte, Nat.reduceEqDiff, Nat.reduceAdd, Nat.reduceLeDiff, hG, hlen, hix, w_index, ev_index, nc_h, okPtr_h, cellAt_h, e0, e1, e4, e7, e8, e137, l4, l4', l7, r3_0, r3_1, r3_2, ol', ok', oc']; refine hK _ _ ?_; clear hK K hG G; repeat (first | refine thenI ?_ | refine thenE ?_ | refine thenR ?_ | refine inBI ?_ | refine inBR ?_ | refine inBS ?_ | refine inBN (by decide) ?_)) | refine W_seqS ?_ | refine W_seqC ?_ | refine W_seqB ?_ | refine W_block ?_ | (refine W_skip ?_; repeat (first | refine thenI ?_ | refine thenE ?_ | refine thenR ?_ | refine inBI ?_ | refine inBR ?_ | refine inBS ?_ | refine inBN (by decide) ?_)) | (refine W_condT ?hc ?_; (case hc => (simp (disch := omega) only [go_sem, ↓reduceIte, Nat.reduceEqDiff, Nat.reduceAdd, Nat.reduceLeDiff, hlen, hix, w_index, ev_index, nc_h, okPtr_h, cellAt_h, e0, e1, e4, e7, e8, e137, l4, l4', l7, r3_0, r3_1, r3_2, ol', ok', oc']; done))) | (refine W_condF ?hc ?_; (case hc => (simp (disch := omega) only [go_sem, ↓reduceIte, Nat.reduceEqDiff, Nat.reduceAdd, Nat.reduceLeDiff, hlen, hix, w_index, ev_index, nc_h, okPtr_h, cellAt_h, e0, e1, e4, e7, e8, e137, l4, l4', l7, r3_0, r3_1, r3_2, ol', ok', oc']; done))))
  (repeat (first | refine W_seqS ?_ | refine W_seqC ?_ | refine W_seqB ?_ | refine W_block ?_)); refine W_reg rfl fun G K hG hK => ?_; simp (disch := omega) only [go_sem, ↓reduceIte, Nat.reduceEqDiff, Nat.reduceAdd, Nat.reduceLeDiff, hG, hlen, hix, w_index, ev_index, nc_h, okPtr_h, cellAt_h, e0, e1, e4, e7, e8, e137, l4, l4', l7, r3_0, r3_1, r3_2, ol', ok', oc']
  refine w_call (sees_ok q s ⟨#[41]⟩ a2 b2 se hb (by omega) (by decide) (by decide) hrd3) (by simp (disch := omega) only [go_sem, ↓reduceIte, Nat.reduceEqDiff, hlen, hix, w_index, ev_index, nc_h, okPtr_h, cellAt_h, e0, e1, e4, e7, e8, e137, l4, l4', l7, r3_0, r3_1, r3_2, ol', ok', oc']) ?hl ?_
  case hl => first | rfl | (simp only [go_sem, List.all_cons, List.all_nil, Bool.not_false, Bool.and_self, hlen, hix, w_index, ev_index, nc_h, okPtr_h, cellAt_h, e0, e1, e4, e7, e8, e137, l4, l4', l7, r3_0, r3_1, r3_2, ol', ok', oc']; done)
  rintro r_ se ⟨rfl, rfl⟩; refine ⟨fun e => (by cases e), ?_⟩
  cases hp41 : seesB s a2 ⟨#[41]⟩ with
  | true =>
    have h41 : (s.data.toList.drop a2).take 1 = [41] := of_decide_eq_true hp41
    have ha3 : a2 + 1 ≤ s.size := by
      have := congrArg List.length h41
      rw [List.length_take, List.length_drop, hll] at this
      simp only [List.length_cons, List.length_nil] at this
      omega
    have hownF := hkeep _ (set_away (st := se) (q := q) (b' := ⟨[.string s, .int .i64 ((a2 : Int) + 1), .bool b2], 49, 0⟩))
    have hrdF := hrd3.setAt (v := (a2 : Int) + 1) (a' := a2 + 1) (by omega)
    have hfin : L5Q q s a dp st (.agg #[.int .i64 k, .int .i64 n, .string nm, r']) (se.set q ⟨[.string s, .int .i64 ((a2 : Int) + 1), .bool b2], 49, 0⟩) := by
      cases res2 with
      | none => exact ⟨none, a2 + 1, b2, .mk k n nm (acc ++ [t2]), [_, _, _, _], L', rfl, Own.close _ _ _ hownF, hfr', hrdF, aw3.trans set_away (.inl rfl), hch _ (.none hnd hev2), by omega, by omega, by simp only [T.count]; omega, .mk _ _ _ _ (by omega) hlm2, hm2⟩
      | some p2 =>
        obtain ⟨t', l'⟩ := p2
        obtain ⟨rfl, rfl, ha4, rfl⟩ := hm2
        exact ⟨some (.mk k n nm (acc ++ [t2]), (s.data.toList.drop a2).drop 1), a2 + 1, false, .mk k n nm (acc ++ [t2]), [_, _, _, _], L', rfl, Own.close _ _ _ hownF, hfr', hrdF, aw3.trans set_away (.inl rfl), hch _ (.close hnd hev2 h41), by omega, by omega, by simp only [T.count]; omega, .mk _ _ _ _ (by omega) hlm2, rfl, rfl, ha3, by rw [List.drop_drop]⟩
    simp (disch := omega) only [go_sem, ↓reduceIte, Nat.reduceEqDiff, Nat.reduceAdd, Nat.reduceLeDiff, hG, hlen, hix, w_index, ev_index, nc_h, okPtr_h, cellAt_h, e0, e1, e4, e7, e8, e137, l4, l4', l7, r3_0, r3_1, r3_2, ol', ok', oc']; refine hK _ _ ?_; clear hK K hG G; repeat (first | refine thenI ?_ | refine thenE ?_ | refine thenR ?_ | refine inBI ?_ | refine inBR ?_ | refine inBS ?_ | refine inBN (by decide) ?_)
    repeat (first | (refine W_reg rfl fun G K hG hK => ?_; simp (disch := omega) only [go_sem, ↓reduceIte, Nat.reduceEqDiff, Nat.reduceAdd, Nat.reduceLeDiff, hG, hlen, hix, w_index, ev_index, nc_h, okPtr_h, cellAt_h, e0, e1, e4, e7, e8, e137, l4, l4', l7, r3_0, r3_1, r3_2, ol', ok', oc', hset3]; refine hK _ _ ?_; clear hK K hG G) | (refine W_end rfl fun G K hG hK => ?_; simp (disch := omega) only [go_sem, ↓reduceIte, Nat.reduceEqDiff, Nat.reduceAdd, Nat.reduceLeDiff, hG, hlen, hix, w_index, ev_index, nc_h, okPtr_h, cellAt_h, e0, e1, e4, e7, e8, e137, l4, l4', l7, r3_0, r3_1, r3_2, ol', ok', oc', hset3]; refine hK _ _ ?_; clear hK K hG G; repeat (first | refine thenI ?_ | refine thenE ?_ | refine thenR ?_ | refine inBI ?_ | refine inBR ?_ | refine inBS ?_ | refine inBN (by decide) ?_)) | refine W_seqS ?_ | refine W_seqC ?_ | refine W_seqB ?_ | refine W_block ?_ | (refine W_skip ?_; repeat (first | refine thenI ?_ | refine thenE ?_ | refine thenR ?_ | refine inBI ?_ | refine inBR ?_ | refine inBS ?_ | refine inBN (by decide) ?_)) | (refine W_condT ?hc ?_; (case hc => (simp (disch := omega) only [go_sem, ↓reduceIte, Nat.reduceEqDiff, Nat.reduceAdd, Nat.reduceLeDiff, hlen, hix, w_index, ev_index, nc_h, okPtr_h, cellAt_h, e0, e1, e4, e7, e8, e137, l4, l4', l7, r3_0, r3_1, r3_2, ol', ok', oc', hset3]; done))) | (refine W_condF ?hc ?_; (case hc => (simp (disch := omega) only [go_sem, ↓reduceIte, Nat.reduceEqDiff, Nat.reduceAdd, Nat.reduceLeDiff, hlen, hix, w_index, ev_index, nc_h, okPtr_h, cellAt_h, e0, e1, e4, e7, e8, e137, l4, l4', l7, r3_0, r3_1, r3_2, ol', ok', oc', hset3]; done))))
    refine W_exit ?_; repeat (first | refine thenI ?_ | refine thenE ?_ | refine thenR ?_ | refine inBI ?_ | refine inBR ?_ | refine inBS ?_ | refine inBN (by decide) ?_)
    repeat (first | (refine W_reg rfl fun G K hG hK => ?_; simp (disch := omega) only [go_sem, ↓reduceIte, Nat.reduceEqDiff, Nat.reduceAdd, Nat.reduceLeDiff, hG, hlen, hix, w_index, ev_index, nc_h, okPtr_h, cellAt_h, e0, e1, e4, e7, e8, e137, l4, l4', l7, r3_0, r3_1, r3_2, ol', ok', oc']; refine hK _ _ ?_; clear hK K hG G) | (refine W_end rfl fun G K hG hK => ?_; simp (disch := omega) only [go_sem, ↓reduceIte, Nat.reduceEqDiff, Nat.reduceAdd, Nat.reduceLeDiff, hG, hlen, hix, w_index, ev_index, nc_h, okPtr_h, cellAt_h, e0, e1, e4, e7, e8, e137, l4, l4', l7, r3_0, r3_1, r3_2, ol', ok', oc']; refine hK _ _ ?_; clear hK K hG G; repeat (first | refine thenI ?_ | refine thenE ?_ | refine thenR ?_ | refine inBI ?_ | refine inBR ?_ | refine inBS ?_ | refine inBN (by decide) ?_)) | refine W_seqS ?_ | refine W_seqC ?_ | refine W_seqB ?_ | refine W_block ?_ | (refine W_skip ?_; repeat (first | refine thenI ?_ | refine thenE ?_ | refine thenR ?_ | refine inBI ?_ | refine inBR ?_ | refine inBS ?_ | refine inBN (by decide) ?_)) | (refine W_condT ?hc ?_; (case hc => (simp (disch := omega) only [go_sem, ↓reduceIte, Nat.reduceEqDiff, Nat.reduceAdd, Nat.reduceLeDiff, hlen, hix, w_index, ev_index, nc_h, okPtr_h, cellAt_h, e0, e1, e4, e7, e8, e137, l4, l4', l7, r3_0, r3_1, r3_2, ol', ok', oc']; done))) | (refine W_condF ?hc ?_; (case hc => (simp (disch := omega) only [go_sem, ↓reduceIte, Nat.reduceEqDiff, Nat.reduceAdd, Nat.reduceLeDiff, hlen, hix, w_index, ev_index, nc_h, okPtr_h, cellAt_h, e0, e1, e4, e7, e8, e137, l4, l4', l7, r3_0, r3_1, r3_2, ol', ok', oc']; done))))
    refine W_ret ?_; try (repeat (first | refine thenI ?_ | refine thenE ?_ | refine thenR ?_ | refine inBI ?_ | refine inBR ?_ | refine inBS ?_ | refine inBN (by decide) ?_))
    refine finC (.inl rfl) (by (simp (disch := omega) only [go_sem, ↓reduceIte, Nat.reduceEqDiff, Nat.reduceAdd, Nat.reduceLeDiff, hlen, hix, w_index, ev_index, nc_h, okPtr_h, cellAt_h, e0, e1, e4, e7, e8, e137, l4, l4', l7, r3_0, r3_1, r3_2, ol', ok', oc']); try rfl) hfin
  | false =>
  have h41 : ¬ (s.data.toList.drop a2).take 1 = [41] := of_decide_eq_false hp41
  simp (disch := omega) only [go_sem, ↓reduceIte, Nat.reduceEqDiff, Nat.reduceAdd, Nat.reduceLeDiff, hG, hlen, hix, w_index, ev_index, nc_h, okPtr_h, cellAt_h, e0, e1, e4, e7, e8, e137, l4, l4', l7, r3_0, r3_1, r3_2, ol', ok', oc']; refine hK _ _ ?_; clear hK K hG G; repeat (first | refine thenI ?_ | refine thenE ?_ | refine thenR ?_ | refine inBI ?_ | refine inBR ?_ | refine inBS ?_ | refine inBN (by decide) ?_)
  repeat (first | (refine W_reg rfl fun G K hG hK => ?_; simp (disch := omega) only [go_sem, ↓reduceIte, Nat.reduceEqDiff, Nat.reduceAdd, Nat.reduceLeDiff, hG, hlen, hix, w_index, ev_index, nc_h, okPtr_h, cellAt_h, e0, e1, e4, e7, e8, e137, l4, l4', l7, r3_0, r3_1, r3_2, ol', ok', oc']; refine hK _ _ ?_; clear hK K hG G) | (refine W_end rfl fun G K hG hK => ?_; simp (disch := omega) only [go_sem, ↓reduceIte, Nat.reduceEqDiff, Nat.reduceAdd, Nat.reduceLeDiff, hG, hlen, hix, w_index, ev_index, nc_h, okPtr_h, cellAt_h, e0, e1, e4, e7, e8, e137, l4, l4', l7, r3_0, r3_1, r3_2, ol', ok', oc']; refine hK _ _ ?_; clear hK K hG G; repeat (first | refine thenI ?_ | refine thenE ?_ | refine thenR ?_ | refine inBI ?_ | refine inBR ?_ | refine inBS ?_ | refine inBN (by decide) ?_)) | refine W_seqS ?_ | refine W_seqC ?_ | refine W_seqB ?_ | refine W_block ?_ | (refine W_skip ?_; repeat (first | refine thenI ?_ | refine thenE ?_ | refine thenR ?_ | refine inBI ?_ | refine inBR ?_ | refine inBS ?_ | refine inBN (by decide) ?_)) | (refine W_condT ?hc ?_; (case hc => (simp (disch := omega) only [go_sem, ↓reduceIte, Nat.reduceEqDiff, Nat.reduceAdd, Nat.reduceLeDiff, hlen, hix, w_index, ev_index, nc_h, okPtr_h, cellAt_h, e0, e1, e4, e7, e8, e137, l4, l4', l7, r3_0, r3_1, r3_2, ol', ok', oc']; done))) | (refine W_condF ?hc ?_; (case hc => (simp (disch := omega) only [go_sem, ↓reduceIte, Nat.reduceEqDiff, Nat.reduceAdd, Nat.reduceLeDiff, hlen, hix, w_index, ev_index, nc_h, okPtr_h, cellAt_h, e0, e1, e4, e7, e8, e137, l4, l4', l7, r3_0, r3_1, r3_2, ol', ok', oc']; done))))
  cases b2 with
  | true =>
    cases res2 with
    | some p2 =>
      obtain ⟨t', l'⟩ := p2
      cases hm2.2.1
    | none =>
    have hrd4 := hrd3.setBad (v := true)
    have r4_1 := rd_1 hrd4
    have hset4 := rd_at hrd4
    have hrd5 := hrd4.setAt (v := (a2 : Int) + 2) (a' := a2 + 2) (by omega)
    have aw5 := (aw3.trans (set_away (st := se) (q := q) (b' := ⟨[.string s, .int .i64 (a2 : Int), .bool true], 49, 0⟩)) (.inl rfl)).trans (set_away (q := q) (b' := ⟨[.string s, .int .i64 ((a2 : Int) + 2), .bool true], 49, 0⟩)) (.inl rfl)
    have hown5 := hkeep _ ((set_away (st := se) (q := q) (b' := ⟨[.string s, .int .i64 (a2 : Int), .bool true], 49, 0⟩)).trans (set_away (q := q) (b' := ⟨[.string s, .int .i64 ((a2 : Int) + 2), .bool true], 49, 0⟩)) (.inl rfl))
    repeat (first | (refine W_reg rfl fun G K hG hK => ?_; simp (disch := omega) only [go_sem, ↓reduceIte, Nat.reduceEqDiff, Nat.reduceAdd, Nat.reduceLeDiff, hG, hlen, hix, w_index, ev_index, nc_h, okPtr_h, cellAt_h, e0, e1, e4, e7, e8, e137, l4, l4', l7, r3_0, r3_2, ol', ok', oc', hbad3, r4_1, hset4]; refine hK _ _ ?_; clear hK K hG G) | (refine W_end rfl fun G K hG hK => ?_; simp (disch := omega) only [go_sem, ↓reduceIte, Nat.reduceEqDiff, Nat.reduceAdd, Nat.reduceLeDiff, hG, hlen, hix, w_index, ev_index, nc_h, okPtr_h, cellAt_h, e0, e1, e4, e7, e8, e137, l4, l4', l7, r3_0, r3_2, ol', ok', oc', hbad3, r4_1, hset4]; refine hK _ _ ?_; clear hK K hG G; repeat (first | refine thenI ?_ | refine thenE ?_ | refine thenR ?_ | refine inBI ?_ | refine inBR ?_ | refine inBS ?_ | refine inBN (by decide) ?_)) | refine W_seqS ?_ | refine W_seqC ?_ | refine W_seqB ?_ | refine W_block ?_ | (refine W_skip ?_; repeat (first | refine thenI ?_ | refine thenE ?_ | refine thenR ?_ | refine inBI ?_ | refine inBR ?_ | refine inBS ?_ | refine inBN (by decide) ?_)) | (refine W_condT ?hc ?_; (case hc => (simp (disch := omega) only [go_sem, ↓reduceIte, Nat.reduceEqDiff, Nat.reduceAdd, Nat.reduceLeDiff, hlen, hix, w_index, ev_index, nc_h, okPtr_h, cellAt_h, e0, e1, e4, e7, e8, e137, l4, l4', l7, r3_0, r3_2, ol', ok', oc', hbad3, r4_1, hset4]; done))) | (refine W_condF ?hc ?_; (case hc => (simp (disch := omega) only [go_sem, ↓reduceIte, Nat.reduceEqDiff, Nat.reduceAdd, Nat.reduceLeDiff, hlen, hix, w_index, ev_index, nc_h, okPtr_h, cellAt_h, e0, e1, e4, e7, e8, e137, l4, l4', l7, r3_0, r3_2, ol', ok', oc', hbad3, r4_1, hset4]; done))))
    refine ⟨62 - (u + 1), by omega, u + 1, acc ++ [t2], r', L', a2 + 2, true, .pointer (some ⟨7, 3, some 1⟩), rfl, by omega, hrd5, aw5, hown5, hfr', by omega, hlm2, by simp; omega, (fun h => by cases h), (fun _ => ⟨hch _ (.none hnd hev2), by omega⟩), rfl, (by (simp (disch := omega) only [go_sem, ↓reduceIte, Nat.reduceEqDiff, Nat.reduceAdd, Nat.reduceLeDiff, hlen, hix, w_index, ev_index, nc_h, okPtr_h, cellAt_h, e0, e1, e4, e7, e8, e137, l4, l4', l7, r3_0, r3_2, ol', ok', oc']); try rfl), (by (simp (disch := omega) only [go_sem, ↓reduceIte, Nat.reduceEqDiff, Nat.reduceAdd, Nat.reduceLeDiff, hlen, hix, w_index, ev_index, nc_h, okPtr_h, cellAt_h, e0, e1, e4, e7, e8, e137, l4, l4', l7, r3_0, r3_2, ol', ok', oc']); try rfl), (by (simp (disch := omega) only [go_sem, ↓reduceIte, Nat.reduceEqDiff, Nat.reduceAdd, Nat.reduceLeDiff, hlen, hix, w_index, ev_index, nc_h, okPtr_h, cellAt_h, e0, e1, e4, e7, e8, e137, l4, l4', l7, r3_0, r3_2, ol', ok', oc']); try rfl), (by (simp (disch := omega) only [go_sem, ↓reduceIte, Nat.reduceEqDiff, Nat.reduceAdd, Nat.reduceLeDiff, hlen, hix, w_index, ev_index, nc_h, okPtr_h, cellAt_h, e0, e1, e4, e7, e8, e137, l4, l4', l7, r3_0, r3_2, ol', ok', oc']); try rfl), (by (simp (disch := omega) only [go_sem, ↓reduceIte, Nat.reduceEqDiff, Nat.reduceAdd, Nat.reduceLeDiff, hlen, hix, w_index, ev_index, nc_h, okPtr_h, cellAt_h, e0, e1, e4, e7, e8, e137, l4, l4', l7, r3_0, r3_2, ol', ok', oc']); try rfl), (by (simp (disch := omega) only [go_sem, ↓reduceIte, Nat.reduceEqDiff, Nat.reduceAdd, Nat.reduceLeDiff, hlen, hix, w_index, ev_index, nc_h, okPtr_h, cellAt_h, e0, e1, e4, e7, e8, e137, l4, l4', l7, r3_0, r3_2, ol', ok', oc']); try rfl), ⟨(by (simp (disch := omega) only [go_sem, ↓reduceIte, Nat.reduceEqDiff, Nat.reduceAdd, Nat.reduceLeDiff, hlen, hix, w_index, ev_index, nc_h, okPtr_h, cellAt_h, e0, e1, e4, e7, e8, e137, l4, l4', l7, r3_0, r3_2, ol', ok', oc']); try rfl), (by (simp (disch := omega) only [go_sem, ↓reduceIte, Nat.reduceEqDiff, Nat.reduceAdd, Nat.reduceLeDiff, hlen, hix, w_index, ev_index, nc_h, okPtr_h, cellAt_h, e0, e1, e4, e7, e8, e137, l4, l4', l7, r3_0, r3_2, ol', ok', oc']); try rfl)⟩, (by (simp (disch := omega) only [go_sem, ↓reduceIte, Nat.reduceEqDiff, Nat.reduceAdd, Nat.reduceLeDiff, hlen, hix, w_index, ev_index, nc_h, okPtr_h, cellAt_h, e0, e1, e4, e7, e8, e137, l4, l4', l7, r3_0, r3_2, ol', ok', oc']); try rfl)⟩
  | false =>
  cases res2 with
  | none => cases hm2
  | some p2 =>
  obtain ⟨t', l'⟩ := p2
  obtain ⟨rfl, _, ha4, rfl⟩ := hm2
  (repeat (first | refine W_seqS ?_ | refine W_seqC ?_ | refine W_seqB ?_ | refine W_block ?_)); refine W_reg rfl fun G K hG hK => ?_; simp (disch := omega) only [go_sem, ↓reduceIte, Nat.reduceEqDiff, Nat.reduceAdd, Nat.reduceLeDiff, hG, hlen, hix, w_index, ev_index, nc_h, okPtr_h, cellAt_h, e0, e1, e4, e7, e8, e137, l4, l4', l7, r3_0, r3_2, ol', ok', oc', r3_1]
  refine w_call (sees_ok q s ⟨#[44, 32]⟩ a2 false se hb (by omega) (by decide) (by decide) hrd3) (by simp (disch := omega) only [go_sem, ↓reduceIte, Nat.reduceEqDiff, hlen, hix, w_index, ev_index, nc_h, okPtr_h, cellAt_h, e0, e1, e4, e7, e8, e137, l4, l4', l7, r3_0, r3_2, ol', ok', oc', r3_1]) ?hl ?_
  case hl => first | rfl | (simp only [go_sem, List.all_cons, List.all_nil, Bool.not_false, Bool.and_self, hlen, hix, w_index, ev_index, nc_h, okPtr_h, cellAt_h, e0, e1, e4, e7, e8, e137, l4, l4', l7, r3_0, r3_2, ol', ok', oc', r3_1]; done)
  rintro r_ se ⟨rfl, rfl⟩; refine ⟨fun e => (by cases e), ?_⟩
  cases hp44 : seesB s a2 ⟨#[44, 32]⟩ with
  | true =>
    have h44 : (s.data.toList.drop a2).take 2 = [44, 32] := of_decide_eq_true hp44
    have ha5 : a2 + 2 ≤ s.size := by
      have := congrArg List.length h44
      rw [List.length_take, List.length_drop, hll] at this
      simp only [List.length_cons, List.length_nil] at this
      omega
    have hrd4 := hrd3.setBad (v := false)
    have r4_1 := rd_1 hrd4
    have hset4 := rd_at hrd4
    have hrd5 := hrd4.setAt (v := (a2 : Int) + 2) (a' := a2 + 2) (by omega)
    have aw5 := (aw3.trans (set_away (st := se) (q := q) (b' := ⟨[.string s, .int .i64 (a2 : Int), .bool false], 49, 0⟩)) (.inl rfl)).trans (set_away (q := q) (b' := ⟨[.string s, .int .i64 ((a2 : Int) + 2), .bool false], 49, 0⟩)) (.inl rfl)
    have hown5 := hkeep _ ((set_away (st := se) (q := q) (b' := ⟨[.string s, .int .i64 (a2 : Int), .bool false], 49, 0⟩)).trans (set_away (q := q) (b' := ⟨[.string s, .int .i64 ((a2 : Int) + 2), .bool false], 49, 0⟩)) (.inl rfl))
    have hch5 : ∀ res, EvB dp (.mk k n nm []) (acc ++ [t2]) (s.data.toList.drop (a2 + 2)) res → EvS dp (s.data.toList.drop a) res := fun res h => hch _ (.next hnd hev2 h41 h44 (by rw [List.drop_drop]; exact h))
    simp (disch := omega) only [go_sem, ↓reduceIte, Nat.reduceEqDiff, Nat.reduceAdd, Nat.reduceLeDiff, hG, hlen, hix, w_index, ev_index, nc_h, okPtr_h, cellAt_h, e0, e1, e4, e7, e8, e137, l4, l4', l7, r3_0, r3_2, ol', ok', oc', r3_1, hbad3]; refine hK _ _ ?_; clear hK K hG G; repeat (first | refine thenI ?_ | refine thenE ?_ | refine thenR ?_ | refine inBI ?_ | refine inBR ?_ | refine inBS ?_ | refine inBN (by decide) ?_)
    repeat (first | (refine W_reg rfl fun G K hG hK => ?_; simp (disch := omega) only [go_sem, ↓reduceIte, Nat.reduceEqDiff, Nat.reduceAdd, Nat.reduceLeDiff, hG, hlen, hix, w_index, ev_index, nc_h, okPtr_h, cellAt_h, e0, e1, e4, e7, e8, e137, l4, l4', l7, r3_0, r3_2, ol', ok', oc', r4_1, hset4]; refine hK _ _ ?_; clear hK K hG G) | (refine W_end rfl fun G K hG hK => ?_; simp (disch := omega) only [go_sem, ↓reduceIte, Nat.reduceEqDiff, Nat.reduceAdd, Nat.reduceLeDiff, hG, hlen, hix, w_index, ev_index, nc_h, okPtr_h, cellAt_h, e0, e1, e4, e7, e8, e137, l4, l4', l7, r3_0, r3_2, ol', ok', oc', r4_1, hset4]; refine hK _ _ ?_; clear hK K hG G; repeat (first | refine thenI ?_ | refine thenE ?_ | refine thenR ?_ | refine inBI ?_ | refine inBR ?_ | refine inBS ?_ | refine inBN (by decide) ?_)) | refine W_seqS ?_ | refine W_seqC ?_ | refine W_seqB ?_ | refine W_block ?_ | (refine W_skip ?_; repeat (first | refine thenI ?_ | refine thenE ?_ | refine thenR ?_ | refine inBI ?_ | refine inBR ?_ | refine inBS ?_ | refine inBN (by decide) ?_)) | (refine W_condT ?hc ?_; (case hc => (simp (disch := omega) only [go_sem, ↓reduceIte, Nat.reduceEqDiff, Nat.reduceAdd, Nat.reduceLeDiff, hlen, hix, w_index, ev_index, nc_h, okPtr_h, cellAt_h, e0, e1, e4, e7, e8, e137, l4, l4', l7, r3_0, r3_2, ol', ok', oc', r4_1, hset4]; done))) | (refine W_condF ?hc ?_; (case hc => (simp (disch := omega) only [go_sem, ↓reduceIte, Nat.reduceEqDiff, Nat.reduceAdd, Nat.reduceLeDiff, hlen, hix, w_index, ev_index, nc_h, okPtr_h, cellAt_h, e0, e1, e4, e7, e8, e137, l4, l4', l7, r3_0, r3_2, ol', ok', oc', r4_1, hset4]; done))))
    refine ⟨62 - (u + 1), by omega, u + 1, acc ++ [t2], r', L', a2 + 2, false, .pointer (some ⟨7, 3, some 1⟩), rfl, by omega, hrd5, aw5, hown5, hfr', by omega, hlm2, by simp; omega, (fun _ => ⟨by simp; omega, by omega, ha5, hch5⟩), (fun h => by cases h), rfl, (by (simp (disch := omega) only [go_sem, ↓reduceIte, Nat.reduceEqDiff, Nat.reduceAdd, Nat.reduceLeDiff, hlen, hix, w_index, ev_index, nc_h, okPtr_h, cellAt_h, e0, e1, e4, e7, e8, e137, l4, l4', l7, r3_0, r3_2, ol', ok', oc']); try rfl), (by (simp (disch := omega) only [go_sem, ↓reduceIte, Nat.reduceEqDiff, Nat.reduceAdd, Nat.reduceLeDiff, hlen, hix, w_index, ev_index, nc_h, okPtr_h, cellAt_h, e0, e1, e4, e7, e8, e137, l4, l4', l7, r3_0, r3_2, ol', ok', oc']); try rfl), (by (simp (disch := omega) only [go_sem, ↓reduceIte, Nat.reduceEqDiff, Nat.reduceAdd, Nat.reduceLeDiff, hlen, hix, w_index, ev_index, nc_h, okPtr_h, cellAt_h, e0, e1, e4, e7, e8, e137, l4, l4', l7, r3_0, r3_2, ol', ok', oc']); try rfl), (by (simp (disch := omega) only [go_sem, ↓reduceIte, Nat.reduceEqDiff, Nat.reduceAdd, Nat.reduceLeDiff, hlen, hix, w_index, ev_index, nc_h, okPtr_h, cellAt_h, e0, e1, e4, e7, e8, e137, l4, l4', l7, r3_0, r3_2, ol', ok', oc']); try rfl), (by (simp (disch := omega) only [go_sem, ↓reduceIte, Nat.reduceEqDiff, Nat.reduceAdd, Nat.reduceLeDiff, hlen, hix, w_index, ev_index, nc_h, okPtr_h, cellAt_h, e0, e1, e4, e7, e8, e137, l4, l4', l7, r3_0, r3_2, ol', ok', oc']); try rfl), (by (simp (disch := omega) only [go_sem, ↓reduceIte, Nat.reduceEqDiff, Nat.reduceAdd, Nat.reduceLeDiff, hlen, hix, w_index, ev_index, nc_h, okPtr_h, cellAt_h, e0, e1, e4, e7, e8, e137, l4, l4', l7, r3_0, r3_2, ol', ok', oc']); try rfl), ⟨(by (simp (disch := omega) only [go_sem, ↓reduceIte, Nat.reduceEqDiff, Nat.reduceAdd, Nat.reduceLeDiff, hlen, hix, w_index, ev_index, nc_h, okPtr_h, cellAt_h, e0, e1, e4, e7, e8, e137, l4, l4', l7, r3_0, r3_2, ol', ok', oc']); try rfl), (by (simp (disch := omega) only [go_sem, ↓reduceIte, Nat.reduceEqDiff, Nat.reduceAdd, Nat.reduceLeDiff, hlen, hix, w_index, ev_index, nc_h, okPtr_h, cellAt_h, e0, e1, e4, e7, e8, e137, l4, l4', l7, r3_0, r3_2, ol', ok', oc']); try rfl)⟩, (by (simp (disch := omega) only [go_sem, ↓reduceIte, Nat.reduceEqDiff, Nat.reduceAdd, Nat.reduceLeDiff, hlen, hix, w_index, ev_index, nc_h, okPtr_h, cellAt_h, e0, e1, e4, e7, e8, e137, l4, l4', l7, r3_0, r3_2, ol', ok', oc']); try rfl)⟩
  | false =>
    have h44 : ¬ (s.data.toList.drop a2).take 2 = [44, 32] := of_decide_eq_false hp44
    have hrd4 := hrd3.setBad (v := true)
    have r4_1 := rd_1 hrd4
    have hset4 := rd_at hrd4
    have hrd5 := hrd4.setAt (v := (a2 : Int) + 2) (a' := a2 + 2) (by omega)
    have aw5 := (aw3.trans (set_away (st := se) (q := q) (b' := ⟨[.string s, .int .i64 (a2 : Int), .bool true], 49, 0⟩)) (.inl rfl)).trans (set_away (q := q) (b' := ⟨[.string s, .int .i64 ((a2 : Int) + 2), .bool true], 49, 0⟩)) (.inl rfl)
    have hown5 := hkeep _ ((set_away (st := se) (q := q) (b' := ⟨[.string s, .int .i64 (a2 : Int), .bool true], 49, 0⟩)).trans (set_away (q := q) (b' := ⟨[.string s, .int .i64 ((a2 : Int) + 2), .bool true], 49, 0⟩)) (.inl rfl))
    simp (disch := omega) only [go_sem, ↓reduceIte, Nat.reduceEqDiff, Nat.reduceAdd, Nat.reduceLeDiff, hG, hlen, hix, w_index, ev_index, nc_h, okPtr_h, cellAt_h, e0, e1, e4, e7, e8, e137, l4, l4', l7, r3_0, r3_2, ol', ok', oc', r3_1, hbad3]; refine hK _ _ ?_; clear hK K hG G; repeat (first | refine thenI ?_ | refine thenE ?_ | refine thenR ?_ | refine inBI ?_ | refine inBR ?_ | refine inBS ?_ | refine inBN (by decide) ?_)
    repeat (first | (refine W_reg rfl fun G K hG hK => ?_; simp (disch := omega) only [go_sem, ↓reduceIte, Nat.reduceEqDiff, Nat.reduceAdd, Nat.reduceLeDiff, hG, hlen, hix, w_index, ev_index, nc_h, okPtr_h, cellAt_h, e0, e1, e4, e7, e8, e137, l4, l4', l7, r3_0, r3_2, ol', ok', oc', r4_1, hset4]; refine hK _ _ ?_; clear hK K hG G) | (refine W_end rfl fun G K hG hK => ?_; simp (disch := omega) only [go_sem, ↓reduceIte, Nat.reduceEqDiff, Nat.reduceAdd, Nat.reduceLeDiff, hG, hlen, hix, w_index, ev_index, nc_h, okPtr_h, cellAt_h, e0, e1, e4, e7, e8, e137, l4, l4', l7, r3_0, r3_2, ol', ok', oc', r4_1, hset4]; refine hK _ _ ?_; clear hK K hG G; repeat (first | refine thenI ?_ | refine thenE ?_ | refine thenR ?_ | refine inBI ?_ | refine inBR ?_ | refine inBS ?_ | refine inBN (by decide) ?_)) | refine W_seqS ?_ | refine W_seqC ?_ | refine W_seqB ?_ | refine W_block ?_ | (refine W_skip ?_; repeat (first | refine thenI ?_ | refine thenE ?_ | refine thenR ?_ | refine inBI ?_ | refine inBR ?_ | refine inBS ?_ | refine inBN (by decide) ?_)) | (refine W_condT ?hc ?_; (case hc => (simp (disch := omega) only [go_sem, ↓reduceIte, Nat.reduceEqDiff, Nat.reduceAdd, Nat.reduceLeDiff, hlen, hix, w_index, ev_index, nc_h, okPtr_h, cellAt_h, e0, e1, e4, e7, e8, e137, l4, l4', l7, r3_0, r3_2, ol', ok', oc', r4_1, hset4]; done))) | (refine W_condF ?hc ?_; (case hc => (simp (disch := omega) only [go_sem, ↓reduceIte, Nat.reduceEqDiff, Nat.reduceAdd, Nat.reduceLeDiff, hlen, hix, w_index, ev_index, nc_h, okPtr_h, cellAt_h, e0, e1, e4, e7, e8, e137, l4, l4', l7, r3_0, r3_2, ol', ok', oc', r4_1, hset4]; done))))
    refine ⟨62 - (u + 1), by omega, u + 1, acc ++ [t2], r', L', a2 + 2, true, .pointer (some ⟨7, 3, some 1⟩), rfl, by omega, hrd5, aw5, hown5, hfr', by omega, hlm2, by simp; omega, (fun h => by cases h), (fun _ => ⟨hch _ (.bad hnd hev2 h41 h44), by omega⟩), rfl, (by (simp (disch := omega) only [go_sem, ↓reduceIte, Nat.reduceEqDiff, Nat.reduceAdd, Nat.reduceLeDiff, hlen, hix, w_index, ev_index, nc_h, okPtr_h, cellAt_h, e0, e1, e4, e7, e8, e137, l4, l4', l7, r3_0, r3_2, ol', ok', oc']); try rfl), (by (simp (disch := omega) only [go_sem, ↓reduceIte, Nat.reduceEqDiff, Nat.reduceAdd, Nat.reduceLeDiff, hlen, hix, w_index, ev_index, nc_h, okPtr_h, cellAt_h, e0, e1, e4, e7, e8, e137, l4, l4', l7, r3_0, r3_2, ol', ok', oc']); try rfl), (by (simp (disch := omega) only [go_sem, ↓reduceIte, Nat.reduceEqDiff, Nat.reduceAdd, Nat.reduceLeDiff, hlen, hix, w_index, ev_index, nc_h, okPtr_h, cellAt_h, e0, e1, e4, e7, e8, e137, l4, l4', l7, r3_0, r3_2, ol', ok', oc']); try rfl), (by (simp (disch := omega) only [go_sem, ↓reduceIte, Nat.reduceEqDiff, Nat.reduceAdd, Nat.reduceLeDiff, hlen, hix, w_index, ev_index, nc_h, okPtr_h, cellAt_h, e0, e1, e4, e7, e8, e137, l4, l4', l7, r3_0, r3_2, ol', ok', oc']); try rfl), (by (simp (disch := omega) only [go_sem, ↓reduceIte, Nat.reduceEqDiff, Nat.reduceAdd, Nat.reduceLeDiff, hlen, hix, w_index, ev_index, nc_h, okPtr_h, cellAt_h, e0, e1, e4, e7, e8, e137, l4, l4', l7, r3_0, r3_2, ol', ok', oc']); try rfl), (by (simp (disch := omega) only [go_sem, ↓reduceIte, Nat.reduceEqDiff, Nat.reduceAdd, Nat.reduceLeDiff, hlen, hix, w_index, ev_index, nc_h, okPtr_h, cellAt_h, e0, e1, e4, e7, e8, e137, l4, l4', l7, r3_0, r3_2, ol', ok', oc']); try rfl), ⟨(by (simp (disch := omega) only [go_sem, ↓reduceIte, Nat.reduceEqDiff, Nat.reduceAdd, Nat.reduceLeDiff, hlen, hix, w_index, ev_index, nc_h, okPtr_h, cellAt_h, e0, e1, e4, e7, e8, e137, l4, l4', l7, r3_0, r3_2, ol', ok', oc']); try rfl), (by (simp (disch := omega) only [go_sem, ↓reduceIte, Nat.reduceEqDiff, Nat.reduceAdd, Nat.reduceLeDiff, hlen, hix, w_index, ev_index, nc_h, okPtr_h, cellAt_h, e0, e1, e4, e7, e8, e137, l4, l4', l7, r3_0, r3_2, ol', ok', oc']); try rfl)⟩, (by (simp (disch := omega) only [go_sem, ↓reduceIte, Nat.reduceEqDiff, Nat.reduceAdd, Nat.reduceLeDiff, hlen, hix, w_index, ev_index, nc_h, okPtr_h, cellAt_h, e0, e1, e4, e7, e8, e137, l4, l4', l7, r3_0, r3_2, ol', ok', oc']); try rfl)⟩
theorem l5_ok : ∀ (m d : Nat), d + m = 17 → ∀ (q : Nat) (s : ByteArray) (a : Nat) (st : St), s.size ≤ 1073741824 → a ≤ s.size → Rd st q s a false →
    CallS Tryd.prog 25 [.pointer (some ⟨q, 0, none⟩), .int .i64 (d : Int)] st (L5Q q s a d st) := by
  intro m
  induction m with
  | zero =>
    intro d hd q s a st hb ha hr
    exact l5_of d (by omega) (fun h => absurd h (by omega)) q s a st hb ha hr
  | succ m ih =>
    intro d hd q s a st hb ha hr
    exact l5_of d (by omega) (fun h => ih (d + 1) (by omega)) q s a st hb ha hr

end

section
/- Guards: laws.szGuard, toGuard, eqGuard, markGuard, heldGuard. -/
open Go Go.Proofs
set_option linter.unusedVariables false
set_option linter.unusedSimpArgs false
set_option maxRecDepth 100000
-- AUTO

/-- A guard. -/
structure Grd where
  k : Int
  l : T
  r : T
def EncG (st : St) (g : Grd) (cs : List Value) : Prop := ∃ c1 c2, cs = .int .i64 g.k :: (c1 ++ c2) ∧ Enc st g.l c1 ∧ Enc st g.r c2
def OwnG (st : St) (g : Grd) (cs : List Value) (L : List Nat) : Prop := ∃ c1 c2 L1 L2, cs = .int .i64 g.k :: (c1 ++ c2) ∧ OwnT st g.l c1 L1 ∧ OwnT st g.r c2 L2 ∧ L = L1 ++ L2
instance : Wt Grd := ⟨fun g => g.l.wt + g.r.wt⟩
theorem EncG.ext {st st' : St} {g : Grd} {cs : List Value} (h : EncG st g cs) (hx : Ext st st') : EncG st' g cs := by
  obtain ⟨c1, c2, rfl, h1, h2⟩ := h
  exact ⟨c1, c2, rfl, Enc.ext hx _ _ h1, Enc.ext hx _ _ h2⟩
theorem OwnG.enc {st : St} {g : Grd} {cs : List Value} {L : List Nat} (h : OwnG st g cs L) : EncG st g cs := by
  obtain ⟨c1, c2, L1, L2, rfl, h1, h2, rfl⟩ := h
  exact ⟨c1, c2, rfl, h1.enc, h2.enc⟩
theorem OwnG.ext {st st' : St} {g : Grd} {cs : List Value} {L : List Nat} (h : OwnG st g cs L) (hx : Ext st st') : OwnG st' g cs L := by
  obtain ⟨c1, c2, L1, L2, rfl, h1, h2, rfl⟩ := h
  exact ⟨c1, c2, L1, L2, rfl, h1.ext hx, h2.ext hx, rfl⟩
theorem OwnG.lt {st : St} {g : Grd} {cs : List Value} {L : List Nat} (h : OwnG st g cs L) : ∀ i ∈ L, i < st.length := by
  obtain ⟨c1, c2, L1, L2, rfl, h1, h2, rfl⟩ := h
  intro i hi
  rcases List.mem_append.1 hi with hi | hi
  · exact Own.lt _ _ _ h1 i hi
  · exact Own.lt _ _ _ h2 i hi
theorem OwnG.args_cells {st : St} {g : Grd} {cs : List Value} {L : List Nat} (h : OwnG st g cs L) : ∃ k kl nl ml sl kr nr mr sr, cs = [.int .i64 k, .int .i64 kl, .int .i64 nl, .string ml, sl, .int .i64 kr, .int .i64 nr, .string mr, sr] ∧ okv sl = true ∧ isLoc sl = false ∧ vc sl = #[sl] ∧ okv sr = true ∧ isLoc sr = false ∧ vc sr = #[sr] := by
  obtain ⟨c1, c2, L1, L2, rfl, h1, h2, rfl⟩ := h
  obtain ⟨kl, nl, ml, sl, rfl, a1, a2, a3⟩ := h1.args_cells
  obtain ⟨kr, nr, mr, sr, rfl, b1, b2, b3⟩ := h2.args_cells
  exact ⟨_, kl, nl, ml, sl, kr, nr, mr, sr, rfl, a1, a2, a3, b1, b2, b3⟩

end

section
/- The text of a term, or none: impl.FormatTerm, spec.FormatTerm; guards: impl.FormatGuard, spec.FormatGuard. -/
open Go Go.Proofs
set_option linter.unusedVariables false
set_option linter.unusedSimpArgs false
set_option maxRecDepth 100000
-- AUTO

/-- What FormatTerm answers. -/
def T.fmtS (t : T) : ByteArray := ⟨(T.fmtV t).toArray⟩
theorem fmtS_yes {t : T} (h : t.valid = true) : t.fmtS = ⟨(t.fmt).toArray⟩ := by unfold T.fmtS T.fmtV; rw [if_pos h]
theorem fmtS_no {t : T} (h : t.valid = false) : t.fmtS = ⟨#[]⟩ := by unfold T.fmtS T.fmtV; rw [if_neg (by rw [h]; simp)]
theorem implFmt_ok (t : T) (st : St) (cs : List Value) (hl : Lim 1073741824 t) (hc : t.count ≤ 4611686018427387904) (hE : Enc st t cs) :
    CallS Tryd.prog 6 [.agg cs.toArray] st fun r st2 => Ext st st2 ∧ r = .string t.fmtS := by
  refine CallS_of_W [] 8 Tryd.func6 rfl rfl rfl rfl (by simp) ?_
  obtain ⟨k1, n1, m1, s1, rfl, a1, a2, a3⟩ := hE.args_cells
  have hd := T.depth_count t
  repeat (first | (refine W_reg rfl fun G K hG hK => ?_; simp (disch := omega) only [go_sem, ↓reduceIte, Nat.reduceEqDiff, Nat.reduceAdd, Nat.reduceLeDiff, hG, a1, a2, a3]; refine hK _ _ ?_; clear hK K hG G) | (refine W_end rfl fun G K hG hK => ?_; simp (disch := omega) only [go_sem, ↓reduceIte, Nat.reduceEqDiff, Nat.reduceAdd, Nat.reduceLeDiff, hG, a1, a2, a3]; refine hK _ _ ?_; clear hK K hG G; repeat (first | refine thenI ?_ | refine thenE ?_ | refine thenR ?_ | refine inBI ?_ | refine inBR ?_ | refine inBS ?_ | refine inBN (by decide) ?_)) | refine W_seqS ?_ | refine W_seqC ?_ | refine W_seqB ?_ | refine W_block ?_ | (refine W_skip ?_; repeat (first | refine thenI ?_ | refine thenE ?_ | refine thenR ?_ | refine inBI ?_ | refine inBR ?_ | refine inBS ?_ | refine inBN (by decide) ?_)) | (refine W_condT ?hc ?_; (case hc => (simp (disch := omega) only [go_sem, ↓reduceIte, Nat.reduceEqDiff, Nat.reduceAdd, Nat.reduceLeDiff, a1, a2, a3]; done))) | (refine W_condF ?hc ?_; (case hc => (simp (disch := omega) only [go_sem, ↓reduceIte, Nat.reduceEqDiff, Nat.reduceAdd, Nat.reduceLeDiff, a1, a2, a3]; done))))
  (repeat (first | refine W_seqS ?_ | refine W_seqC ?_ | refine W_seqB ?_ | refine W_block ?_)); refine W_reg rfl fun G K hG hK => ?_; simp (disch := omega) only [go_sem, ↓reduceIte, Nat.reduceEqDiff, Nat.reduceAdd, Nat.reduceLeDiff, hG, a1, a2, a3]
  refine w_call (implValid_ok t st _ hl hc (by omega) hE) (by simp (disch := omega) only [go_sem, ↓reduceIte, Nat.reduceEqDiff, a1, a2, a3]) ?hl ?_
  case hl => first | rfl | (simp only [go_sem, List.all_cons, List.all_nil, Bool.not_false, Bool.and_self, a1, a2, a3]; done)
  rintro r_ st ⟨rfl, rfl⟩; refine ⟨fun e => (by cases e), ?_⟩
  simp (disch := omega) only [go_sem, ↓reduceIte, Nat.reduceEqDiff, Nat.reduceAdd, Nat.reduceLeDiff, hG, a1, a2, a3]; refine hK _ _ ?_; clear hK K hG G; repeat (first | refine thenI ?_ | refine thenE ?_ | refine thenR ?_ | refine inBI ?_ | refine inBR ?_ | refine inBS ?_ | refine inBN (by decide) ?_)
  cases hv : t.valid with
  | false =>
    repeat (first | (refine W_reg rfl fun G K hG hK => ?_; simp (disch := omega) only [go_sem, ↓reduceIte, Nat.reduceEqDiff, Nat.reduceAdd, Nat.reduceLeDiff, hG, a1, a2, a3]; refine hK _ _ ?_; clear hK K hG G) | (refine W_end rfl fun G K hG hK => ?_; simp (disch := omega) only [go_sem, ↓reduceIte, Nat.reduceEqDiff, Nat.reduceAdd, Nat.reduceLeDiff, hG, a1, a2, a3]; refine hK _ _ ?_; clear hK K hG G; repeat (first | refine thenI ?_ | refine thenE ?_ | refine thenR ?_ | refine inBI ?_ | refine inBR ?_ | refine inBS ?_ | refine inBN (by decide) ?_)) | refine W_seqS ?_ | refine W_seqC ?_ | refine W_seqB ?_ | refine W_block ?_ | (refine W_skip ?_; repeat (first | refine thenI ?_ | refine thenE ?_ | refine thenR ?_ | refine inBI ?_ | refine inBR ?_ | refine inBS ?_ | refine inBN (by decide) ?_)) | (refine W_condT ?hc ?_; (case hc => (simp (disch := omega) only [go_sem, ↓reduceIte, Nat.reduceEqDiff, Nat.reduceAdd, Nat.reduceLeDiff, a1, a2, a3]; done))) | (refine W_condF ?hc ?_; (case hc => (simp (disch := omega) only [go_sem, ↓reduceIte, Nat.reduceEqDiff, Nat.reduceAdd, Nat.reduceLeDiff, a1, a2, a3]; done))))
    refine W_ret ?_; try (repeat (first | refine thenI ?_ | refine thenE ?_ | refine thenR ?_ | refine inBI ?_ | refine inBR ?_ | refine inBS ?_ | refine inBN (by decide) ?_))
    refine fin1 (.inl rfl) (by (simp (disch := omega) only [go_sem, ↓reduceIte, Nat.reduceEqDiff, Nat.reduceAdd, Nat.reduceLeDiff, a1, a2, a3]); try rfl) rfl ⟨Ext.refl _, by rw [fmtS_no hv]⟩
  | true =>
    obtain ⟨h1, h2, h3⟩ := valid_nodes hv
    repeat (first | (refine W_reg rfl fun G K hG hK => ?_; simp (disch := omega) only [go_sem, ↓reduceIte, Nat.reduceEqDiff, Nat.reduceAdd, Nat.reduceLeDiff, hG, a1, a2, a3]; refine hK _ _ ?_; clear hK K hG G) | (refine W_end rfl fun G K hG hK => ?_; simp (disch := omega) only [go_sem, ↓reduceIte, Nat.reduceEqDiff, Nat.reduceAdd, Nat.reduceLeDiff, hG, a1, a2, a3]; refine hK _ _ ?_; clear hK K hG G; repeat (first | refine thenI ?_ | refine thenE ?_ | refine thenR ?_ | refine inBI ?_ | refine inBR ?_ | refine inBS ?_ | refine inBN (by decide) ?_)) | refine W_seqS ?_ | refine W_seqC ?_ | refine W_seqB ?_ | refine W_block ?_ | (refine W_skip ?_; repeat (first | refine thenI ?_ | refine thenE ?_ | refine thenR ?_ | refine inBI ?_ | refine inBR ?_ | refine inBS ?_ | refine inBN (by decide) ?_)) | (refine W_condT ?hc ?_; (case hc => (simp (disch := omega) only [go_sem, ↓reduceIte, Nat.reduceEqDiff, Nat.reduceAdd, Nat.reduceLeDiff, a1, a2, a3]; done))) | (refine W_condF ?hc ?_; (case hc => (simp (disch := omega) only [go_sem, ↓reduceIte, Nat.reduceEqDiff, Nat.reduceAdd, Nat.reduceLeDiff, a1, a2, a3]; done))))
    (repeat (first | refine W_seqS ?_ | refine W_seqC ?_ | refine W_seqB ?_ | refine W_block ?_)); refine W_reg rfl fun G K hG hK => ?_; simp (disch := omega) only [go_sem, ↓reduceIte, Nat.reduceEqDiff, Nat.reduceAdd, Nat.reduceLeDiff, hG, a1, a2, a3]
    refine w_call (implText_ok t st _ h1 (by omega) hE) (by simp (disch := omega) only [go_sem, ↓reduceIte, Nat.reduceEqDiff, a1, a2, a3]) ?hl ?_
    case hl => first | rfl | (simp only [go_sem, List.all_cons, List.all_nil, Bool.not_false, Bool.and_self, a1, a2, a3]; done)
    rintro r_ sa ⟨x1, rfl⟩; refine ⟨fun e => (by cases e), ?_⟩
    simp (disch := omega) only [go_sem, ↓reduceIte, Nat.reduceEqDiff, Nat.reduceAdd, Nat.reduceLeDiff, hG, a1, a2, a3]; refine hK _ _ ?_; clear hK K hG G; repeat (first | refine thenI ?_ | refine thenE ?_ | refine thenR ?_ | refine inBI ?_ | refine inBR ?_ | refine inBS ?_ | refine inBN (by decide) ?_)
    refine W_ret ?_; try (repeat (first | refine thenI ?_ | refine thenE ?_ | refine thenR ?_ | refine inBI ?_ | refine inBR ?_ | refine inBS ?_ | refine inBN (by decide) ?_))
    refine fin1 (.inl rfl) (by (simp (disch := omega) only [go_sem, ↓reduceIte, Nat.reduceEqDiff, Nat.reduceAdd, Nat.reduceLeDiff, a1, a2, a3]); try rfl) rfl ⟨x1, by rw [fmtS_yes hv]⟩
theorem specFmt_ok (t : T) (st : St) (cs : List Value) (hl : Lim 1073741824 t) (hn : LimN 1073741824 t) (hc : t.count ≤ 4611686018427387904) (hE : Enc st t cs) :
    CallS Tryd.prog 8 [.agg cs.toArray] st fun r st2 => Ext st st2 ∧ r = .string t.fmtS := by
  refine CallS_of_W [] 8 Tryd.func8 rfl rfl rfl rfl (by simp) ?_
  obtain ⟨k1, n1, m1, s1, rfl, a1, a2, a3⟩ := hE.args_cells
  have hd := T.depth_count t
  repeat (first | (refine W_reg rfl fun G K hG hK => ?_; simp (disch := omega) only [go_sem, ↓reduceIte, Nat.reduceEqDiff, Nat.reduceAdd, Nat.reduceLeDiff, hG, a1, a2, a3]; refine hK _ _ ?_; clear hK K hG G) | (refine W_end rfl fun G K hG hK => ?_; simp (disch := omega) only [go_sem, ↓reduceIte, Nat.reduceEqDiff, Nat.reduceAdd, Nat.reduceLeDiff, hG, a1, a2, a3]; refine hK _ _ ?_; clear hK K hG G; repeat (first | refine thenI ?_ | refine thenE ?_ | refine thenR ?_ | refine inBI ?_ | refine inBR ?_ | refine inBS ?_ | refine inBN (by decide) ?_)) | refine W_seqS ?_ | refine W_seqC ?_ | refine W_seqB ?_ | refine W_block ?_ | (refine W_skip ?_; repeat (first | refine thenI ?_ | refine thenE ?_ | refine thenR ?_ | refine inBI ?_ | refine inBR ?_ | refine inBS ?_ | refine inBN (by decide) ?_)) | (refine W_condT ?hc ?_; (case hc => (simp (disch := omega) only [go_sem, ↓reduceIte, Nat.reduceEqDiff, Nat.reduceAdd, Nat.reduceLeDiff, a1, a2, a3]; done))) | (refine W_condF ?hc ?_; (case hc => (simp (disch := omega) only [go_sem, ↓reduceIte, Nat.reduceEqDiff, Nat.reduceAdd, Nat.reduceLeDiff, a1, a2, a3]; done))))
  (repeat (first | refine W_seqS ?_ | refine W_seqC ?_ | refine W_seqB ?_ | refine W_block ?_)); refine W_reg rfl fun G K hG hK => ?_; simp (disch := omega) only [go_sem, ↓reduceIte, Nat.reduceEqDiff, Nat.reduceAdd, Nat.reduceLeDiff, hG, a1, a2, a3]
  refine w_call (specValid_ok t st _ hl hn (by omega) hE) (by simp (disch := omega) only [go_sem, ↓reduceIte, Nat.reduceEqDiff, a1, a2, a3]) ?hl ?_
  case hl => first | rfl | (simp only [go_sem, List.all_cons, List.all_nil, Bool.not_false, Bool.and_self, a1, a2, a3]; done)
  rintro r_ st ⟨rfl, rfl⟩; refine ⟨fun e => (by cases e), ?_⟩
  simp (disch := omega) only [go_sem, ↓reduceIte, Nat.reduceEqDiff, Nat.reduceAdd, Nat.reduceLeDiff, hG, a1, a2, a3]; refine hK _ _ ?_; clear hK K hG G; repeat (first | refine thenI ?_ | refine thenE ?_ | refine thenR ?_ | refine inBI ?_ | refine inBR ?_ | refine inBS ?_ | refine inBN (by decide) ?_)
  cases hv : t.valid with
  | false =>
    repeat (first | (refine W_reg rfl fun G K hG hK => ?_; simp (disch := omega) only [go_sem, ↓reduceIte, Nat.reduceEqDiff, Nat.reduceAdd, Nat.reduceLeDiff, hG, a1, a2, a3]; refine hK _ _ ?_; clear hK K hG G) | (refine W_end rfl fun G K hG hK => ?_; simp (disch := omega) only [go_sem, ↓reduceIte, Nat.reduceEqDiff, Nat.reduceAdd, Nat.reduceLeDiff, hG, a1, a2, a3]; refine hK _ _ ?_; clear hK K hG G; repeat (first | refine thenI ?_ | refine thenE ?_ | refine thenR ?_ | refine inBI ?_ | refine inBR ?_ | refine inBS ?_ | refine inBN (by decide) ?_)) | refine W_seqS ?_ | refine W_seqC ?_ | refine W_seqB ?_ | refine W_block ?_ | (refine W_skip ?_; repeat (first | refine thenI ?_ | refine thenE ?_ | refine thenR ?_ | refine inBI ?_ | refine inBR ?_ | refine inBS ?_ | refine inBN (by decide) ?_)) | (refine W_condT ?hc ?_; (case hc => (simp (disch := omega) only [go_sem, ↓reduceIte, Nat.reduceEqDiff, Nat.reduceAdd, Nat.reduceLeDiff, a1, a2, a3]; done))) | (refine W_condF ?hc ?_; (case hc => (simp (disch := omega) only [go_sem, ↓reduceIte, Nat.reduceEqDiff, Nat.reduceAdd, Nat.reduceLeDiff, a1, a2, a3]; done))))
    refine W_ret ?_; try (repeat (first | refine thenI ?_ | refine thenE ?_ | refine thenR ?_ | refine inBI ?_ | refine inBR ?_ | refine inBS ?_ | refine inBN (by decide) ?_))
    refine fin1 (.inl rfl) (by (simp (disch := omega) only [go_sem, ↓reduceIte, Nat.reduceEqDiff, Nat.reduceAdd, Nat.reduceLeDiff, a1, a2, a3]); try rfl) rfl ⟨Ext.refl _, by rw [fmtS_no hv]⟩
  | true =>
    obtain ⟨h1, h2, h3⟩ := valid_nodes hv
    repeat (first | (refine W_reg rfl fun G K hG hK => ?_; simp (disch := omega) only [go_sem, ↓reduceIte, Nat.reduceEqDiff, Nat.reduceAdd, Nat.reduceLeDiff, hG, a1, a2, a3]; refine hK _ _ ?_; clear hK K hG G) | (refine W_end rfl fun G K hG hK => ?_; simp (disch := omega) only [go_sem, ↓reduceIte, Nat.reduceEqDiff, Nat.reduceAdd, Nat.reduceLeDiff, hG, a1, a2, a3]; refine hK _ _ ?_; clear hK K hG G; repeat (first | refine thenI ?_ | refine thenE ?_ | refine thenR ?_ | refine inBI ?_ | refine inBR ?_ | refine inBS ?_ | refine inBN (by decide) ?_)) | refine W_seqS ?_ | refine W_seqC ?_ | refine W_seqB ?_ | refine W_block ?_ | (refine W_skip ?_; repeat (first | refine thenI ?_ | refine thenE ?_ | refine thenR ?_ | refine inBI ?_ | refine inBR ?_ | refine inBS ?_ | refine inBN (by decide) ?_)) | (refine W_condT ?hc ?_; (case hc => (simp (disch := omega) only [go_sem, ↓reduceIte, Nat.reduceEqDiff, Nat.reduceAdd, Nat.reduceLeDiff, a1, a2, a3]; done))) | (refine W_condF ?hc ?_; (case hc => (simp (disch := omega) only [go_sem, ↓reduceIte, Nat.reduceEqDiff, Nat.reduceAdd, Nat.reduceLeDiff, a1, a2, a3]; done))))
    (repeat (first | refine W_seqS ?_ | refine W_seqC ?_ | refine W_seqB ?_ | refine W_block ?_)); refine W_reg rfl fun G K hG hK => ?_; simp (disch := omega) only [go_sem, ↓reduceIte, Nat.reduceEqDiff, Nat.reduceAdd, Nat.reduceLeDiff, hG, a1, a2, a3]
    refine w_call (specText_ok t st _ h1 (by omega) hE) (by simp (disch := omega) only [go_sem, ↓reduceIte, Nat.reduceEqDiff, a1, a2, a3]) ?hl ?_
    case hl => first | rfl | (simp only [go_sem, List.all_cons, List.all_nil, Bool.not_false, Bool.and_self, a1, a2, a3]; done)
    rintro r_ sa ⟨x1, rfl⟩; refine ⟨fun e => (by cases e), ?_⟩
    simp (disch := omega) only [go_sem, ↓reduceIte, Nat.reduceEqDiff, Nat.reduceAdd, Nat.reduceLeDiff, hG, a1, a2, a3]; refine hK _ _ ?_; clear hK K hG G; repeat (first | refine thenI ?_ | refine thenE ?_ | refine thenR ?_ | refine inBI ?_ | refine inBR ?_ | refine inBS ?_ | refine inBN (by decide) ?_)
    refine W_ret ?_; try (repeat (first | refine thenI ?_ | refine thenE ?_ | refine thenR ?_ | refine inBI ?_ | refine inBR ?_ | refine inBS ?_ | refine inBN (by decide) ?_))
    refine fin1 (.inl rfl) (by (simp (disch := omega) only [go_sem, ↓reduceIte, Nat.reduceEqDiff, Nat.reduceAdd, Nat.reduceLeDiff, a1, a2, a3]); try rfl) rfl ⟨x1, by rw [fmtS_yes hv]⟩

end

section
/- spec.ParseTerm. -/
open Go Go.Proofs Go.Lib
set_option linter.unusedVariables false
set_option linter.unusedSimpArgs false
set_option maxRecDepth 100000
-- AUTO

theorem EvS.parse {l : List UInt8} {res : Option (T × List UInt8)} (h : EvS 1 l res) {v : T} (hv : impParse l = some v) : res = some (v, []) := by
  obtain ⟨h1, h2⟩ := impParse_some.1 hv
  obtain ⟨h3, h4, h5⟩ := valid_nodes h1
  obtain ⟨f0, hf⟩ := h
  have h6 := spT_complete v h3 h4 [] Sep.nil (f0 + (2 * l.length + 1)) 1 (by rw [List.append_nil, h2]; omega) (by omega)
  rw [List.append_nil, h2, hf _ (by omega)] at h6
  exact h6
theorem specParse_ok (w : ByteArray) (st : St) (hb : w.size ≤ 1073741824) : CallS Tryd.prog 12 [.string w] st (PrsQ w st) := by
  refine CallS_of_W [12] 31 Tryd.func12 rfl rfl rfl rfl (by simp) ?_
  have hlen := (len_str Tryd.underlying9 : lenE Tryd.prog 9 (.string w) = some (.int .i64 w.size))
  by_cases h600 : w.size > 600
  · have c1 : decide ((w.size : Int) > 600) = true := decide_eq_true (by omega)
    repeat (first | (refine W_reg rfl fun G K hG hK => ?_; simp (disch := omega) only [go_sem, ↓reduceIte, Nat.reduceEqDiff, Nat.reduceAdd, Nat.reduceLeDiff, hG, hlen, c1]; refine hK _ _ ?_; clear hK K hG G) | (refine W_end rfl fun G K hG hK => ?_; simp (disch := omega) only [go_sem, ↓reduceIte, Nat.reduceEqDiff, Nat.reduceAdd, Nat.reduceLeDiff, hG, hlen, c1]; refine hK _ _ ?_; clear hK K hG G; repeat (first | refine thenI ?_ | refine thenE ?_ | refine thenR ?_ | refine inBI ?_ | refine inBR ?_ | refine inBS ?_ | refine inBN (by decide) ?_)) | refine W_seqS ?_ | refine W_seqC ?_ | refine W_seqB ?_ | refine W_block ?_ | (refine W_skip ?_; repeat (first | refine thenI ?_ | refine thenE ?_ | refine thenR ?_ | refine inBI ?_ | refine inBR ?_ | refine inBS ?_ | refine inBN (by decide) ?_)) | (refine W_condT ?hc ?_; (case hc => (simp (disch := omega) only [go_sem, ↓reduceIte, Nat.reduceEqDiff, Nat.reduceAdd, Nat.reduceLeDiff, hlen, c1]; done))) | (refine W_condF ?hc ?_; (case hc => (simp (disch := omega) only [go_sem, ↓reduceIte, Nat.reduceEqDiff, Nat.reduceAdd, Nat.reduceLeDiff, hlen, c1]; done))))
    refine W_ret ?_; try (repeat (first | refine thenI ?_ | refine thenE ?_ | refine thenR ?_ | refine inBI ?_ | refine inBR ?_ | refine inBS ?_ | refine inBN (by decide) ?_))
    refine finC2 (.inl rfl) (by (simp (disch := omega) only [go_sem, ↓reduceIte, Nat.reduceEqDiff, Nat.reduceAdd, Nat.reduceLeDiff, hlen]); try rfl) (by (simp (disch := omega) only [go_sem, ↓reduceIte, Nat.reduceEqDiff, Nat.reduceAdd, Nat.reduceLeDiff, hlen]); try rfl) rfl (.no (by unfold prsT; rw [if_neg (by omega)]) (Ext.refl _))
  have c1 : decide ((w.size : Int) > 600) = false := decide_eq_false (by omega)
  have hpr : prsT w = impParse w.data.toList := by unfold prsT; rw [if_pos (by omega)]
  repeat (first | (refine W_reg rfl fun G K hG hK => ?_; simp (disch := omega) only [go_sem, ↓reduceIte, Nat.reduceEqDiff, Nat.reduceAdd, Nat.reduceLeDiff, hG, hlen, c1]; refine hK _ _ ?_; clear hK K hG G) | (refine W_end rfl fun G K hG hK => ?_; simp (disch := omega) only [go_sem, ↓reduceIte, Nat.reduceEqDiff, Nat.reduceAdd, Nat.reduceLeDiff, hG, hlen, c1]; refine hK _ _ ?_; clear hK K hG G; repeat (first | refine thenI ?_ | refine thenE ?_ | refine thenR ?_ | refine inBI ?_ | refine inBR ?_ | refine inBS ?_ | refine inBN (by decide) ?_)) | refine W_seqS ?_ | refine W_seqC ?_ | refine W_seqB ?_ | refine W_block ?_ | (refine W_skip ?_; repeat (first | refine thenI ?_ | refine thenE ?_ | refine thenR ?_ | refine inBI ?_ | refine inBR ?_ | refine inBS ?_ | refine inBN (by decide) ?_)) | (refine W_condT ?hc ?_; (case hc => (simp (disch := omega) only [go_sem, ↓reduceIte, Nat.reduceEqDiff, Nat.reduceAdd, Nat.reduceLeDiff, hlen, c1]; done))) | (refine W_condF ?hc ?_; (case hc => (simp (disch := omega) only [go_sem, ↓reduceIte, Nat.reduceEqDiff, Nat.reduceAdd, Nat.reduceLeDiff, hlen, c1]; done))))
  have hs : Rd (st ++ [(⟨[.string w, .int .i64 0, .bool false], 49, 0⟩ : Blk)]) st.length w 0 false := getB2f
  have h5 : CallS Tryd.prog 25 [.pointer (some ⟨st.length, 0, none⟩), .int .i64 1] _ (L5Q st.length w 0 1 _) := l5_ok 16 1 (by omega) st.length w 0 _ hb (Nat.zero_le _) hs
  (repeat (first | refine W_seqS ?_ | refine W_seqC ?_ | refine W_seqB ?_ | refine W_block ?_)); refine W_reg rfl fun G K hG hK => ?_; simp (disch := omega) only [go_sem, ↓reduceIte, Nat.reduceEqDiff, Nat.reduceAdd, Nat.reduceLeDiff, hG, hlen]
  refine w_call (h5) (by simp (disch := omega) only [go_sem, ↓reduceIte, Nat.reduceEqDiff, hlen]) ?hl ?_
  case hl => first | rfl | (simp only [go_sem, List.all_cons, List.all_nil, Bool.not_false, Bool.and_self, hlen]; done)
  rintro r_ sa ⟨res, a', b', t, ds, L, rfl, ho, hf, hrd, haw, hev, ha0, ha1, hc, hn, hm⟩; refine ⟨fun e => (by cases e), ?_⟩
  rw [List.drop_zero] at hev
  have hx1 : Ext st sa := haw.ext_of (Ext.app _ _) (.inr ⟨_, Nat.le_refl _, rfl⟩)
  obtain ⟨k1, n1, m1, z1, rfl, b1, b2, b3⟩ := ho.args_cells
  have r2 := rd_2 hrd
  simp (disch := omega) only [go_sem, ↓reduceIte, Nat.reduceEqDiff, Nat.reduceAdd, Nat.reduceLeDiff, hG, hlen, b1, b2, b3]; refine hK _ _ ?_; clear hK K hG G; repeat (first | refine thenI ?_ | refine thenE ?_ | refine thenR ?_ | refine inBI ?_ | refine inBR ?_ | refine inBS ?_ | refine inBN (by decide) ?_)
  repeat (first | (refine W_reg rfl fun G K hG hK => ?_; simp (disch := omega) only [go_sem, ↓reduceIte, Nat.reduceEqDiff, Nat.reduceAdd, Nat.reduceLeDiff, hG, hlen, b1, b2, b3, nc_h, okPtr_h, cellAt_h, r2]; refine hK _ _ ?_; clear hK K hG G) | (refine W_end rfl fun G K hG hK => ?_; simp (disch := omega) only [go_sem, ↓reduceIte, Nat.reduceEqDiff, Nat.reduceAdd, Nat.reduceLeDiff, hG, hlen, b1, b2, b3, nc_h, okPtr_h, cellAt_h, r2]; refine hK _ _ ?_; clear hK K hG G; repeat (first | refine thenI ?_ | refine thenE ?_ | refine thenR ?_ | refine inBI ?_ | refine inBR ?_ | refine inBS ?_ | refine inBN (by decide) ?_)) | refine W_seqS ?_ | refine W_seqC ?_ | refine W_seqB ?_ | refine W_block ?_ | (refine W_skip ?_; repeat (first | refine thenI ?_ | refine thenE ?_ | refine thenR ?_ | refine inBI ?_ | refine inBR ?_ | refine inBS ?_ | refine inBN (by decide) ?_)) | (refine W_condT ?hc ?_; (case hc => (simp (disch := omega) only [go_sem, ↓reduceIte, Nat.reduceEqDiff, Nat.reduceAdd, Nat.reduceLeDiff, hlen, b1, b2, b3, nc_h, okPtr_h, cellAt_h, r2]; done))) | (refine W_condF ?hc ?_; (case hc => (simp (disch := omega) only [go_sem, ↓reduceIte, Nat.reduceEqDiff, Nat.reduceAdd, Nat.reduceLeDiff, hlen, b1, b2, b3, nc_h, okPtr_h, cellAt_h, r2]; done))))
  cases res with
  | none =>
    have hno : prsT w = none := by
      rw [hpr]
      cases hp : impParse w.data.toList with
      | none => rfl
      | some v => cases hev.parse hp
    simp only at hm
    subst hm
    repeat (first | (refine W_reg rfl fun G K hG hK => ?_; simp (disch := omega) only [go_sem, ↓reduceIte, Nat.reduceEqDiff, Nat.reduceAdd, Nat.reduceLeDiff, hG, hlen, b1, b2, b3, nc_h, okPtr_h, cellAt_h, r2]; refine hK _ _ ?_; clear hK K hG G) | (refine W_end rfl fun G K hG hK => ?_; simp (disch := omega) only [go_sem, ↓reduceIte, Nat.reduceEqDiff, Nat.reduceAdd, Nat.reduceLeDiff, hG, hlen, b1, b2, b3, nc_h, okPtr_h, cellAt_h, r2]; refine hK _ _ ?_; clear hK K hG G; repeat (first | refine thenI ?_ | refine thenE ?_ | refine thenR ?_ | refine inBI ?_ | refine inBR ?_ | refine inBS ?_ | refine inBN (by decide) ?_)) | refine W_seqS ?_ | refine W_seqC ?_ | refine W_seqB ?_ | refine W_block ?_ | (refine W_skip ?_; repeat (first | refine thenI ?_ | refine thenE ?_ | refine thenR ?_ | refine inBI ?_ | refine inBR ?_ | refine inBS ?_ | refine inBN (by decide) ?_)) | (refine W_condT ?hc ?_; (case hc => (simp (disch := omega) only [go_sem, ↓reduceIte, Nat.reduceEqDiff, Nat.reduceAdd, Nat.reduceLeDiff, hlen, b1, b2, b3, nc_h, okPtr_h, cellAt_h, r2]; done))) | (refine W_condF ?hc ?_; (case hc => (simp (disch := omega) only [go_sem, ↓reduceIte, Nat.reduceEqDiff, Nat.reduceAdd, Nat.reduceLeDiff, hlen, b1, b2, b3, nc_h, okPtr_h, cellAt_h, r2]; done))))
    refine W_ret ?_; try (repeat (first | refine thenI ?_ | refine thenE ?_ | refine thenR ?_ | refine inBI ?_ | refine inBR ?_ | refine inBS ?_ | refine inBN (by decide) ?_))
    refine finC2 (.inl rfl) (by (simp (disch := omega) only [go_sem, ↓reduceIte, Nat.reduceEqDiff, Nat.reduceAdd, Nat.reduceLeDiff, hlen, b1, b2, b3, nc_h, okPtr_h, cellAt_h, r2]); try rfl) (by (simp (disch := omega) only [go_sem, ↓reduceIte, Nat.reduceEqDiff, Nat.reduceAdd, Nat.reduceLeDiff, hlen, b1, b2, b3, nc_h, okPtr_h, cellAt_h, r2]); try rfl) rfl (.no hno hx1)
  | some p1 =>
  obtain ⟨t', l'⟩ := p1
  obtain ⟨rfl, rfl, ha2, rfl⟩ := hm
  have hne := neq_empty (s := w)
  by_cases he : w.data.toList = []
  · have c2 : (w.toList == (⟨#[]⟩ : ByteArray).toList) = true := by rw [hne, he]; rfl
    have hno : prsT w = none := by
      rw [hpr]
      cases hp : impParse w.data.toList with
      | none => rfl
      | some v =>
        obtain ⟨g1, g2⟩ := impParse_some.1 hp
        exact absurd (g2.trans he) (fmt_ne (valid_nodes g1).1)
    repeat (first | (refine W_reg rfl fun G K hG hK => ?_; simp (disch := omega) only [go_sem, ↓reduceIte, Nat.reduceEqDiff, Nat.reduceAdd, Nat.reduceLeDiff, hG, hlen, b1, b2, b3, nc_h, okPtr_h, cellAt_h, r2, c2]; refine hK _ _ ?_; clear hK K hG G) | (refine W_end rfl fun G K hG hK => ?_; simp (disch := omega) only [go_sem, ↓reduceIte, Nat.reduceEqDiff, Nat.reduceAdd, Nat.reduceLeDiff, hG, hlen, b1, b2, b3, nc_h, okPtr_h, cellAt_h, r2, c2]; refine hK _ _ ?_; clear hK K hG G; repeat (first | refine thenI ?_ | refine thenE ?_ | refine thenR ?_ | refine inBI ?_ | refine inBR ?_ | refine inBS ?_ | refine inBN (by decide) ?_)) | refine W_seqS ?_ | refine W_seqC ?_ | refine W_seqB ?_ | refine W_block ?_ | (refine W_skip ?_; repeat (first | refine thenI ?_ | refine thenE ?_ | refine thenR ?_ | refine inBI ?_ | refine inBR ?_ | refine inBS ?_ | refine inBN (by decide) ?_)) | (refine W_condT ?hc ?_; (case hc => (simp (disch := omega) only [go_sem, ↓reduceIte, Nat.reduceEqDiff, Nat.reduceAdd, Nat.reduceLeDiff, hlen, b1, b2, b3, nc_h, okPtr_h, cellAt_h, r2, c2]; done))) | (refine W_condF ?hc ?_; (case hc => (simp (disch := omega) only [go_sem, ↓reduceIte, Nat.reduceEqDiff, Nat.reduceAdd, Nat.reduceLeDiff, hlen, b1, b2, b3, nc_h, okPtr_h, cellAt_h, r2, c2]; done))))
    refine W_ret ?_; try (repeat (first | refine thenI ?_ | refine thenE ?_ | refine thenR ?_ | refine inBI ?_ | refine inBR ?_ | refine inBS ?_ | refine inBN (by decide) ?_))
    refine finC2 (.inl rfl) (by (simp (disch := omega) only [go_sem, ↓reduceIte, Nat.reduceEqDiff, Nat.reduceAdd, Nat.reduceLeDiff, hlen, b1, b2, b3, nc_h, okPtr_h, cellAt_h, r2]); try rfl) (by (simp (disch := omega) only [go_sem, ↓reduceIte, Nat.reduceEqDiff, Nat.reduceAdd, Nat.reduceLeDiff, hlen, b1, b2, b3, nc_h, okPtr_h, cellAt_h, r2]); try rfl) rfl (.no hno hx1)
  have c2 : (w.toList == (⟨#[]⟩ : ByteArray).toList) = false := by
    rw [hne]
    cases hl : w.data.toList with
    | nil => exact absurd hl he
    | cons _ _ => rfl
  (repeat (first | refine W_seqS ?_ | refine W_seqC ?_ | refine W_seqB ?_ | refine W_block ?_)); refine W_reg rfl fun G K hG hK => ?_; simp (disch := omega) only [go_sem, ↓reduceIte, Nat.reduceEqDiff, Nat.reduceAdd, Nat.reduceLeDiff, hG, hlen, b1, b2, b3, nc_h, okPtr_h, cellAt_h, r2, c2]
  refine w_call (specFmt_ok t sa _ (Lim.of_count t (by omega)) hn (by omega) ho.enc) (by simp (disch := omega) only [go_sem, ↓reduceIte, Nat.reduceEqDiff, hlen, b1, b2, b3, nc_h, okPtr_h, cellAt_h, r2]) ?hl ?_
  case hl => first | rfl | (simp only [go_sem, List.all_cons, List.all_nil, Bool.not_false, Bool.and_self, hlen, b1, b2, b3, nc_h, okPtr_h, cellAt_h, r2]; done)
  rintro r_ sb ⟨x2, rfl⟩; refine ⟨fun e => (by cases e), ?_⟩
  have hx2 := hx1.trans x2
  by_cases hv : t.fmtS = w
  · have c3 : (t.fmtS.toList == w.toList) = true := by rw [hv]; exact beq_self_eq_true _
    have hyes : prsT w = some t := by
      rw [hpr]
      refine impParse_some.2 ?_
      have h7 : w.data.toList = t.fmtV := by rw [← hv]; simp [T.fmtS]
      unfold T.fmtV at h7
      split at h7
      · rename_i h8; exact ⟨h8, h7.symm⟩
      · exact absurd h7 he
    simp (disch := omega) only [go_sem, ↓reduceIte, Nat.reduceEqDiff, Nat.reduceAdd, Nat.reduceLeDiff, hG, hlen, b1, b2, b3, nc_h, okPtr_h, cellAt_h, r2, c2, c3]; refine hK _ _ ?_; clear hK K hG G; repeat (first | refine thenI ?_ | refine thenE ?_ | refine thenR ?_ | refine inBI ?_ | refine inBR ?_ | refine inBS ?_ | refine inBN (by decide) ?_)
    repeat (first | (refine W_reg rfl fun G K hG hK => ?_; simp (disch := omega) only [go_sem, ↓reduceIte, Nat.reduceEqDiff, Nat.reduceAdd, Nat.reduceLeDiff, hG, hlen, b1, b2, b3, nc_h, okPtr_h, cellAt_h, r2]; refine hK _ _ ?_; clear hK K hG G) | (refine W_end rfl fun G K hG hK => ?_; simp (disch := omega) only [go_sem, ↓reduceIte, Nat.reduceEqDiff, Nat.reduceAdd, Nat.reduceLeDiff, hG, hlen, b1, b2, b3, nc_h, okPtr_h, cellAt_h, r2]; refine hK _ _ ?_; clear hK K hG G; repeat (first | refine thenI ?_ | refine thenE ?_ | refine thenR ?_ | refine inBI ?_ | refine inBR ?_ | refine inBS ?_ | refine inBN (by decide) ?_)) | refine W_seqS ?_ | refine W_seqC ?_ | refine W_seqB ?_ | refine W_block ?_ | (refine W_skip ?_; repeat (first | refine thenI ?_ | refine thenE ?_ | refine thenR ?_ | refine inBI ?_ | refine inBR ?_ | refine inBS ?_ | refine inBN (by decide) ?_)) | (refine W_condT ?hc ?_; (case hc => (simp (disch := omega) only [go_sem, ↓reduceIte, Nat.reduceEqDiff, Nat.reduceAdd, Nat.reduceLeDiff, hlen, b1, b2, b3, nc_h, okPtr_h, cellAt_h, r2]; done))) | (refine W_condF ?hc ?_; (case hc => (simp (disch := omega) only [go_sem, ↓reduceIte, Nat.reduceEqDiff, Nat.reduceAdd, Nat.reduceLeDiff, hlen, b1, b2, b3, nc_h, okPtr_h, cellAt_h, r2]; done))))
    refine W_ret ?_; try (repeat (first | refine thenI ?_ | refine thenE ?_ | refine thenR ?_ | refine inBI ?_ | refine inBR ?_ | refine inBS ?_ | refine inBN (by decide) ?_))
    refine finC2 (.inl rfl) (by (simp (disch := omega) only [go_sem, ↓reduceIte, Nat.reduceEqDiff, Nat.reduceAdd, Nat.reduceLeDiff, hlen, b1, b2, b3, nc_h, okPtr_h, cellAt_h, r2, b1, b2, b3]); try rfl) (by (simp (disch := omega) only [go_sem, ↓reduceIte, Nat.reduceEqDiff, Nat.reduceAdd, Nat.reduceLeDiff, hlen, b1, b2, b3, nc_h, okPtr_h, cellAt_h, r2]); try rfl) rfl ⟨hx2, [_, _, _, _], L, by rw [hyes]; rfl, by rw [hyes]; exact own_ext (α := T) ho x2, hf.mono (by simp)⟩
  · have c3 : (t.fmtS.toList == w.toList) = false := by rw [ba_eqb]; exact decide_eq_false hv
    have hno : prsT w = none := by
      rw [hpr]
      cases hp : impParse w.data.toList with
      | none => rfl
      | some v =>
        have h9 := hev.parse hp
        simp only [Option.some.injEq, Prod.mk.injEq] at h9
        obtain ⟨g1, g2⟩ := impParse_some.1 hp
        exfalso
        apply hv
        rw [h9.1, fmtS_yes g1, g2]
    simp (disch := omega) only [go_sem, ↓reduceIte, Nat.reduceEqDiff, Nat.reduceAdd, Nat.reduceLeDiff, hG, hlen, b1, b2, b3, nc_h, okPtr_h, cellAt_h, r2, c2, c3]; refine hK _ _ ?_; clear hK K hG G; repeat (first | refine thenI ?_ | refine thenE ?_ | refine thenR ?_ | refine inBI ?_ | refine inBR ?_ | refine inBS ?_ | refine inBN (by decide) ?_)
    repeat (first | (refine W_reg rfl fun G K hG hK => ?_; simp (disch := omega) only [go_sem, ↓reduceIte, Nat.reduceEqDiff, Nat.reduceAdd, Nat.reduceLeDiff, hG, hlen, b1, b2, b3, nc_h, okPtr_h, cellAt_h, r2]; refine hK _ _ ?_; clear hK K hG G) | (refine W_end rfl fun G K hG hK => ?_; simp (disch := omega) only [go_sem, ↓reduceIte, Nat.reduceEqDiff, Nat.reduceAdd, Nat.reduceLeDiff, hG, hlen, b1, b2, b3, nc_h, okPtr_h, cellAt_h, r2]; refine hK _ _ ?_; clear hK K hG G; repeat (first | refine thenI ?_ | refine thenE ?_ | refine thenR ?_ | refine inBI ?_ | refine inBR ?_ | refine inBS ?_ | refine inBN (by decide) ?_)) | refine W_seqS ?_ | refine W_seqC ?_ | refine W_seqB ?_ | refine W_block ?_ | (refine W_skip ?_; repeat (first | refine thenI ?_ | refine thenE ?_ | refine thenR ?_ | refine inBI ?_ | refine inBR ?_ | refine inBS ?_ | refine inBN (by decide) ?_)) | (refine W_condT ?hc ?_; (case hc => (simp (disch := omega) only [go_sem, ↓reduceIte, Nat.reduceEqDiff, Nat.reduceAdd, Nat.reduceLeDiff, hlen, b1, b2, b3, nc_h, okPtr_h, cellAt_h, r2]; done))) | (refine W_condF ?hc ?_; (case hc => (simp (disch := omega) only [go_sem, ↓reduceIte, Nat.reduceEqDiff, Nat.reduceAdd, Nat.reduceLeDiff, hlen, b1, b2, b3, nc_h, okPtr_h, cellAt_h, r2]; done))))
    refine W_ret ?_; try (repeat (first | refine thenI ?_ | refine thenE ?_ | refine thenR ?_ | refine inBI ?_ | refine inBR ?_ | refine inBS ?_ | refine inBN (by decide) ?_))
    refine finC2 (.inl rfl) (by (simp (disch := omega) only [go_sem, ↓reduceIte, Nat.reduceEqDiff, Nat.reduceAdd, Nat.reduceLeDiff, hlen, b1, b2, b3, nc_h, okPtr_h, cellAt_h, r2]); try rfl) (by (simp (disch := omega) only [go_sem, ↓reduceIte, Nat.reduceEqDiff, Nat.reduceAdd, Nat.reduceLeDiff, hlen, b1, b2, b3, nc_h, okPtr_h, cellAt_h, r2]); try rfl) rfl (.no hno hx2)
theorem wt_count : ∀ t : T, t.nodes = true → t.wt + 1 ≤ 10 * t.count := by
  refine T.ind fun k n nm args ih h => ?_
  obtain ⟨h1, h2⟩ := nodes_mk.1 h
  have hL : ∀ l : List T, (∀ x ∈ l, x.wt + 1 ≤ 10 * x.count) → T.wtL l + l.length ≤ 10 * T.countL l := by
    intro l
    induction l with
    | nil => intro _; simp [T.wtL]
    | cons x xs ihx =>
      intro h
      have h3 := h x (by simp)
      have h4 := ihx fun y hy => h y (by simp [hy])
      simp only [T.wtL, T.countL, List.length_cons]
      omega
  have h3 := hL args fun x hx => ih x hx (h1 x hx)
  have h4 : nm.size ≤ 8 := by
    rw [size_list]
    rcases node_kinds h2 with ⟨_, _, _, hv⟩ | ⟨_, _, hv⟩ | ⟨_, _, _, _, rfl⟩
    · exact isNm_len hv
    · exact isNm_len hv
    · simp
  simp only [T.wt, T.count]
  omega
/-- What is read is small. -/
theorem prsT_wt (w : ByteArray) : ((prsT w).getD T.zero).wt ≤ 600 := by
  cases hp : prsT w with
  | none => exact Nat.le_trans (Nat.le_of_eq (show T.zero.wt = 0 by rfl)) (by omega)
  | some t =>
    unfold prsT at hp
    split at hp
    · obtain ⟨h1, h2⟩ := impParse_some.1 hp
      obtain ⟨h3, h4, _⟩ := valid_nodes h1
      have := wt_count t h3
      show t.wt ≤ 600
      omega
    · cases hp

end

section
/- Numbers drawn: l1Below beyond 256, l1Whole, DrawFormatInt, DrawParseNumber; the law FnNumbers. -/
open Go Go.Proofs Go.Lib
set_option linter.unusedVariables false
set_option linter.unusedSimpArgs false
set_option maxRecDepth 100000
-- AUTO

theorem l1BelowB_ok (q : Nat) (xs : List Byt) (st : St) (n : Int) (hn0 : 256 < n) (hn1 : n ≤ 1000000000) (hq : Cur st q xs) :
    CallS Tryd.prog 24 [.pointer (some ⟨q, 0, none⟩), .int .i64 n] st fun r st2 => (∃ x : Int, r = .int .i64 x ∧ 0 ≤ x ∧ x < n) ∧ Drawn q xs st st2 ∧ st2.length = st.length := by
  refine CallS_of_W [] 37 Tryd.func24 rfl rfl rfl rfl (by simp) ?_
  have c1 : decide (n ≤ 0) = false := by simp; omega
  have c2 : decide (n ≤ 256) = false := by simp; omega
  have hrem : ∀ (t : TypeId) (x y : Operand) (a : Int), binE Tryd.prog .rem t x y (.int .i64 a) (.int .i64 n) = some (.int .i64 (a.tmod n)) := fun t x y a => bin_rem (by omega)
  repeat (first | (refine W_reg rfl fun G K hG hK => ?_; simp (disch := omega) only [go_sem, ↓reduceIte, Nat.reduceEqDiff, Nat.reduceAdd, Nat.reduceLeDiff, hG, c1, c2]; refine hK _ _ ?_; clear hK K hG G) | (refine W_end rfl fun G K hG hK => ?_; simp (disch := omega) only [go_sem, ↓reduceIte, Nat.reduceEqDiff, Nat.reduceAdd, Nat.reduceLeDiff, hG, c1, c2]; refine hK _ _ ?_; clear hK K hG G; repeat (first | refine thenI ?_ | refine thenE ?_ | refine thenR ?_ | refine inBI ?_ | refine inBR ?_ | refine inBS ?_ | refine inBN (by decide) ?_)) | refine W_seqS ?_ | refine W_seqC ?_ | refine W_seqB ?_ | refine W_block ?_ | (refine W_skip ?_; repeat (first | refine thenI ?_ | refine thenE ?_ | refine thenR ?_ | refine inBI ?_ | refine inBR ?_ | refine inBS ?_ | refine inBN (by decide) ?_)) | (refine W_condT ?hc ?_; (case hc => (simp (disch := omega) only [go_sem, ↓reduceIte, Nat.reduceEqDiff, Nat.reduceAdd, Nat.reduceLeDiff, c1, c2]; done))) | (refine W_condF ?hc ?_; (case hc => (simp (disch := omega) only [go_sem, ↓reduceIte, Nat.reduceEqDiff, Nat.reduceAdd, Nat.reduceLeDiff, c1, c2]; done))))
  (repeat (first | refine W_seqS ?_ | refine W_seqC ?_ | refine W_seqB ?_ | refine W_block ?_)); refine W_reg rfl fun G K hG hK => ?_; simp (disch := omega) only [go_sem, ↓reduceIte, Nat.reduceEqDiff, Nat.reduceAdd, Nat.reduceLeDiff, hG]
  refine w_call (l1Byte_ok q xs st hq) (by simp (disch := omega) only [go_sem, ↓reduceIte, Nat.reduceEqDiff]) ?hl ?_
  case hl => first | rfl | (simp only [go_sem, List.all_cons, List.all_nil, Bool.not_false, Bool.and_self]; done)
  rintro r_ sa ⟨⟨x, rfl, hx0, hx1⟩, hd, hl⟩; refine ⟨fun e => (by cases e), ?_⟩
  simp (disch := omega) only [go_sem, ↓reduceIte, Nat.reduceEqDiff, Nat.reduceAdd, Nat.reduceLeDiff, hG]; refine hK _ _ ?_; clear hK K hG G; repeat (first | refine thenI ?_ | refine thenE ?_ | refine thenR ?_ | refine inBI ?_ | refine inBR ?_ | refine inBS ?_ | refine inBN (by decide) ?_)
  (repeat (first | refine W_seqS ?_ | refine W_seqC ?_ | refine W_seqB ?_ | refine W_block ?_)); refine W_reg rfl fun G K hG hK => ?_; simp (disch := omega) only [go_sem, ↓reduceIte, Nat.reduceEqDiff, Nat.reduceAdd, Nat.reduceLeDiff, hG]
  refine w_call (l1Byte_ok q xs sa hd.cur) (by simp (disch := omega) only [go_sem, ↓reduceIte, Nat.reduceEqDiff]) ?hl ?_
  case hl => first | rfl | (simp only [go_sem, List.all_cons, List.all_nil, Bool.not_false, Bool.and_self]; done)
  rintro r_ sb ⟨⟨y, rfl, hy0, hy1⟩, hd2, hl2⟩; refine ⟨fun e => (by cases e), ?_⟩
  simp (disch := omega) only [go_sem, ↓reduceIte, Nat.reduceEqDiff, Nat.reduceAdd, Nat.reduceLeDiff, hG]; refine hK _ _ ?_; clear hK K hG G; repeat (first | refine thenI ?_ | refine thenE ?_ | refine thenR ?_ | refine inBI ?_ | refine inBR ?_ | refine inBS ?_ | refine inBN (by decide) ?_)
  (repeat (first | refine W_seqS ?_ | refine W_seqC ?_ | refine W_seqB ?_ | refine W_block ?_)); refine W_reg rfl fun G K hG hK => ?_; simp (disch := omega) only [go_sem, ↓reduceIte, Nat.reduceEqDiff, Nat.reduceAdd, Nat.reduceLeDiff, hG]
  refine w_call (l1Byte_ok q xs sb hd2.cur) (by simp (disch := omega) only [go_sem, ↓reduceIte, Nat.reduceEqDiff]) ?hl ?_
  case hl => first | rfl | (simp only [go_sem, List.all_cons, List.all_nil, Bool.not_false, Bool.and_self]; done)
  rintro r_ sc ⟨⟨z, rfl, hz0, hz1⟩, hd3, hl3⟩; refine ⟨fun e => (by cases e), ?_⟩
  simp (disch := omega) only [go_sem, ↓reduceIte, Nat.reduceEqDiff, Nat.reduceAdd, Nat.reduceLeDiff, hG]; refine hK _ _ ?_; clear hK K hG G; repeat (first | refine thenI ?_ | refine thenE ?_ | refine thenR ?_ | refine inBI ?_ | refine inBR ?_ | refine inBS ?_ | refine inBN (by decide) ?_)
  (repeat (first | refine W_seqS ?_ | refine W_seqC ?_ | refine W_seqB ?_ | refine W_block ?_)); refine W_reg rfl fun G K hG hK => ?_; simp (disch := omega) only [go_sem, ↓reduceIte, Nat.reduceEqDiff, Nat.reduceAdd, Nat.reduceLeDiff, hG]
  refine w_call (l1Byte_ok q xs sc hd3.cur) (by simp (disch := omega) only [go_sem, ↓reduceIte, Nat.reduceEqDiff]) ?hl ?_
  case hl => first | rfl | (simp only [go_sem, List.all_cons, List.all_nil, Bool.not_false, Bool.and_self]; done)
  rintro r_ sd ⟨⟨w, rfl, hw0, hw1⟩, hd4, hl4⟩; refine ⟨fun e => (by cases e), ?_⟩
  simp (disch := omega) only [go_sem, ↓reduceIte, Nat.reduceEqDiff, Nat.reduceAdd, Nat.reduceLeDiff, hG]; refine hK _ _ ?_; clear hK K hG G; repeat (first | refine thenI ?_ | refine thenE ?_ | refine thenR ?_ | refine inBI ?_ | refine inBR ?_ | refine inBS ?_ | refine inBN (by decide) ?_)
  repeat (first | (refine W_reg rfl fun G K hG hK => ?_; simp (disch := omega) only [go_sem, ↓reduceIte, Nat.reduceEqDiff, Nat.reduceAdd, Nat.reduceLeDiff, hG, hrem]; refine hK _ _ ?_; clear hK K hG G) | (refine W_end rfl fun G K hG hK => ?_; simp (disch := omega) only [go_sem, ↓reduceIte, Nat.reduceEqDiff, Nat.reduceAdd, Nat.reduceLeDiff, hG, hrem]; refine hK _ _ ?_; clear hK K hG G; repeat (first | refine thenI ?_ | refine thenE ?_ | refine thenR ?_ | refine inBI ?_ | refine inBR ?_ | refine inBS ?_ | refine inBN (by decide) ?_)) | refine W_seqS ?_ | refine W_seqC ?_ | refine W_seqB ?_ | refine W_block ?_ | (refine W_skip ?_; repeat (first | refine thenI ?_ | refine thenE ?_ | refine thenR ?_ | refine inBI ?_ | refine inBR ?_ | refine inBS ?_ | refine inBN (by decide) ?_)) | (refine W_condT ?hc ?_; (case hc => (simp (disch := omega) only [go_sem, ↓reduceIte, Nat.reduceEqDiff, Nat.reduceAdd, Nat.reduceLeDiff, hrem]; done))) | (refine W_condF ?hc ?_; (case hc => (simp (disch := omega) only [go_sem, ↓reduceIte, Nat.reduceEqDiff, Nat.reduceAdd, Nat.reduceLeDiff, hrem]; done))))
  refine W_ret ?_; try (repeat (first | refine thenI ?_ | refine thenE ?_ | refine thenR ?_ | refine inBI ?_ | refine inBR ?_ | refine inBS ?_ | refine inBN (by decide) ?_))
  refine fin1 (.inl rfl) (by (simp (disch := omega) only [go_sem, ↓reduceIte, Nat.reduceEqDiff, Nat.reduceAdd, Nat.reduceLeDiff]); try rfl) rfl ⟨⟨_, rfl, Int.tmod_nonneg _ (by omega), Int.tmod_lt_of_pos _ (by omega)⟩, ((hd.trans hd2).trans hd3).trans hd4, by omega⟩

end

section
/- slices.Clone. -/
open Go Go.Proofs
set_option linter.unusedVariables false
set_option linter.unusedSimpArgs false
set_option maxRecDepth 100000
-- AUTO


end

section
/- Names are sorted: impl.SortNames, out of the shelf's slices.Sort and slices.Compact. -/
open Go Go.Proofs Go.RowKit Go.Sort
set_option linter.unusedVariables false
set_option linter.unusedSimpArgs false
set_option maxRecDepth 100000
-- AUTO


end

section
/- FnNames' helpers: laws.sameTexts, laws.rising, impl.AllDistinct. -/
open Go Go.Proofs
set_option linter.unusedVariables false
set_option linter.unusedSimpArgs false
set_option maxRecDepth 100000
-- AUTO


end

section
/- impl.namesIn; IsGround on both sides. -/
open Go Go.Proofs
set_option linter.unusedVariables false
set_option linter.unusedSimpArgs false
set_option maxRecDepth 100000
-- AUTO


end

section
/- impl.namesIn, impl.VarsOfTerm, impl.RestrictSubst, impl.MatchTerm. -/
open Go Go.Proofs
set_option linter.unusedVariables false
set_option linter.unusedSimpArgs false
set_option maxRecDepth 100000
-- AUTO


end

section
/- The laws FnTerms, FnNames. -/
open Go Go.Proofs
set_option linter.unusedVariables false
set_option linter.unusedSimpArgs false
set_option maxRecDepth 100000
-- AUTO

theorem bent_limN {t : T} (h : BentP t) : LimN 1073741824 t := LimN.of_wt _ (by have := h.2; omega)
theorem bent_count {t : T} (h : BentP t) : t.count ≤ 101 ∧ t.depth ≤ 101 := by
  have h1 := T.count_wt t
  have h2 := T.depth_count t
  have := h.2
  omega

end

section
/- Texts of terms drawn: l1Turned, DrawFormatTerm, DrawParseTerm; the law FnTermText. -/
open Go Go.Proofs Go.Lib
set_option linter.unusedVariables false
set_option linter.unusedSimpArgs false
set_option maxRecDepth 100000
-- AUTO

theorem fmtS_size2 (t : T) : t.fmtS.size ≤ 720 := by
  unfold T.fmtS T.fmtV
  split
  · rename_i h
    obtain ⟨h1, h2, _⟩ := valid_nodes h
    have := fmt_len t h1
    rw [size_mk]; omega
  · rw [size_mk]; simp
theorem l1BelowA_ok (q : Nat) (xs : List Byt) (st : St) (n : Int) (hn0 : 0 < n) (hn1 : n ≤ 1000000000) (hq : Cur st q xs) :
    CallS Tryd.prog 24 [.pointer (some ⟨q, 0, none⟩), .int .i64 n] st fun r st2 => (∃ x : Int, r = .int .i64 x ∧ 0 ≤ x ∧ x < n) ∧ Drawn q xs st st2 ∧ st2.length = st.length := by
  by_cases h : n ≤ 256
  · exact l1Below_ok q xs st n hn0 h hq
  · exact l1BelowB_ok q xs st n (by omega) hn1 hq
theorem rwS_away {st st2 : St} {ns : List ByteArray} {s : Value} {q : Nat} (h : Rw st ns s) (ha : Away (some q) st st2) (hne : topId s ≠ some q) : Rw st2 ns s := by
  rcases h with h | ⟨i, o, c, rfl, h⟩
  · exact .inl h
  · refine .inr ⟨i, o, c, rfl, fun j x hx => ?_⟩
    obtain ⟨cs, h1, h2, h3⟩ := h j x hx
    refine ⟨cs, h1, h2, fun k v hv => ?_⟩
    have h4 := h3 k v hv
    have hlt : i < st.length := by
      rcases Nat.lt_or_ge i st.length with h5 | h5
      · exact h5
      · unfold cell at h4
        rw [List.getElem?_eq_none h5] at h4
        cases h4
    unfold cell at h4 ⊢
    rw [ha.2 i hlt (fun e => hne (by rw [Option.some.inj e]; rfl))]
    exact h4
theorem l1Turned_ok (q : Nat) (xs : List Byt) (st : St) (w : ByteArray) (ns : List ByteArray) (s : Value) (hn0 : 0 < ns.length) (hn1 : ns.length ≤ 256) (hsz : ∀ x ∈ ns, x.size ≤ 4) (hw : w.size ≤ 1000) (hq : Cur st q xs) (hr : Rw st ns s) (hne : topId s ≠ some q) :
    CallS Tryd.prog 22 [.pointer (some ⟨q, 0, none⟩), .string w, s] st fun r st2 => (∃ u : ByteArray, r = .string u ∧ u.size ≤ 2004) ∧ Drawn q xs st st2 := by
  refine CallS_of_W [] 34 Tryd.func22 rfl rfl rfl rfl (by simp) ?_
  have q1 := hr.notLoc.1
  have hlen := fun (s : ByteArray) => (len_str Tryd.underlying9 : lenE Tryd.prog 9 (.string s) = some (.int .i64 s.size))
  repeat (first | (refine W_reg rfl fun G K hG hK => ?_; simp (disch := omega) only [go_sem, ↓reduceIte, Nat.reduceEqDiff, Nat.reduceAdd, Nat.reduceLeDiff, hG, q1, hlen]; refine hK _ _ ?_; clear hK K hG G) | (refine W_end rfl fun G K hG hK => ?_; simp (disch := omega) only [go_sem, ↓reduceIte, Nat.reduceEqDiff, Nat.reduceAdd, Nat.reduceLeDiff, hG, q1, hlen]; refine hK _ _ ?_; clear hK K hG G; repeat (first | refine thenI ?_ | refine thenE ?_ | refine thenR ?_ | refine inBI ?_ | refine inBR ?_ | refine inBS ?_ | refine inBN (by decide) ?_)) | refine W_seqS ?_ | refine W_seqC ?_ | refine W_seqB ?_ | refine W_block ?_ | (refine W_skip ?_; repeat (first | refine thenI ?_ | refine thenE ?_ | refine thenR ?_ | refine inBI ?_ | refine inBR ?_ | refine inBS ?_ | refine inBN (by decide) ?_)) | (refine W_condT ?hc ?_; (case hc => (simp (disch := omega) only [go_sem, ↓reduceIte, Nat.reduceEqDiff, Nat.reduceAdd, Nat.reduceLeDiff, q1, hlen]; done))) | (refine W_condF ?hc ?_; (case hc => (simp (disch := omega) only [go_sem, ↓reduceIte, Nat.reduceEqDiff, Nat.reduceAdd, Nat.reduceLeDiff, q1, hlen]; done))))
  (repeat (first | refine W_seqS ?_ | refine W_seqC ?_ | refine W_seqB ?_ | refine W_block ?_)); refine W_reg rfl fun G K hG hK => ?_; simp (disch := omega) only [go_sem, ↓reduceIte, Nat.reduceEqDiff, Nat.reduceAdd, Nat.reduceLeDiff, hG, q1, hlen]
  refine w_call (l1BelowA_ok q xs st ((w.size : Int) + 1) (by omega) (by omega) hq) (by simp (disch := omega) only [go_sem, ↓reduceIte, Nat.reduceEqDiff, q1, hlen]) ?hl ?_
  case hl => first | rfl | (simp only [go_sem, List.all_cons, List.all_nil, Bool.not_false, Bool.and_self, q1, hlen]; done)
  rintro r_ sa ⟨⟨x, rfl, hx0, hx1⟩, hd, hl⟩; refine ⟨fun e => (by cases e), ?_⟩
  simp (disch := omega) only [go_sem, ↓reduceIte, Nat.reduceEqDiff, Nat.reduceAdd, Nat.reduceLeDiff, hG, q1, hlen]; refine hK _ _ ?_; clear hK K hG G; repeat (first | refine thenI ?_ | refine thenE ?_ | refine thenR ?_ | refine inBI ?_ | refine inBR ?_ | refine inBS ?_ | refine inBN (by decide) ?_)
  obtain ⟨i, rfl⟩ : ∃ i : Nat, x = i := ⟨x.toNat, by omega⟩
  (repeat (first | refine W_seqS ?_ | refine W_seqC ?_ | refine W_seqB ?_ | refine W_block ?_)); refine W_reg rfl fun G K hG hK => ?_; simp (disch := omega) only [go_sem, ↓reduceIte, Nat.reduceEqDiff, Nat.reduceAdd, Nat.reduceLeDiff, hG, q1, hlen]
  refine w_call (l1Below_ok q xs sa 6 (by omega) (by omega) hd.cur) (by simp (disch := omega) only [go_sem, ↓reduceIte, Nat.reduceEqDiff, q1, hlen]) ?hl ?_
  case hl => first | rfl | (simp only [go_sem, List.all_cons, List.all_nil, Bool.not_false, Bool.and_self, q1, hlen]; done)
  rintro r_ sb ⟨⟨y, rfl, hy0, hy1⟩, hd2, hl2⟩; refine ⟨fun e => (by cases e), ?_⟩
  simp (disch := omega) only [go_sem, ↓reduceIte, Nat.reduceEqDiff, Nat.reduceAdd, Nat.reduceLeDiff, hG, q1, hlen]; refine hK _ _ ?_; clear hK K hG G; repeat (first | refine thenI ?_ | refine thenE ?_ | refine thenR ?_ | refine inBI ?_ | refine inBR ?_ | refine inBS ?_ | refine inBN (by decide) ?_)
  have hd3 := hd.trans hd2
  have hsl1 : flatRun Tryd.prog (Instr.sliceAt 9 (.string w) none (some (.int .i64 (i : Int))) none) = some (.string (baL (w.data.toList.take i))) := by
    rw [← extract_h]
    simpa using sliceS_h (P := Tryd.prog) (t := 9) (s := w) (k := .i64) (h := (i : Int)) Tryd.underlying9 (by omega) (by omega)
  have hsl2 : flatRun Tryd.prog (Instr.sliceAt 9 (.string w) (some (.int .i64 (i : Int))) none none) = some (.string (baL (w.data.toList.drop i))) := by
    rw [← extract_l]
    simpa using sliceS_l (P := Tryd.prog) (t := 9) (s := w) (k := .i64) (l := (i : Int)) Tryd.underlying9 (by omega) (by omega)
  have z1 : (baL (w.data.toList.take i)).size ≤ 1000 := by rw [baL_size, List.length_take, ← size_list]; omega
  have z2 : (baL (w.data.toList.drop i)).size ≤ 1000 := by rw [baL_size, List.length_drop, ← size_list]; omega
  by_cases h0 : y = 0
  · have d0 : (y == 0) = true := by simpa using h0
    repeat (first | (refine W_reg rfl fun G K hG hK => ?_; simp (disch := omega) only [go_sem, ↓reduceIte, Nat.reduceEqDiff, Nat.reduceAdd, Nat.reduceLeDiff, hG, q1, hlen, d0]; refine hK _ _ ?_; clear hK K hG G) | (refine W_end rfl fun G K hG hK => ?_; simp (disch := omega) only [go_sem, ↓reduceIte, Nat.reduceEqDiff, Nat.reduceAdd, Nat.reduceLeDiff, hG, q1, hlen, d0]; refine hK _ _ ?_; clear hK K hG G; repeat (first | refine thenI ?_ | refine thenE ?_ | refine thenR ?_ | refine inBI ?_ | refine inBR ?_ | refine inBS ?_ | refine inBN (by decide) ?_)) | refine W_seqS ?_ | refine W_seqC ?_ | refine W_seqB ?_ | refine W_block ?_ | (refine W_skip ?_; repeat (first | refine thenI ?_ | refine thenE ?_ | refine thenR ?_ | refine inBI ?_ | refine inBR ?_ | refine inBS ?_ | refine inBN (by decide) ?_)) | (refine W_condT ?hc ?_; (case hc => (simp (disch := omega) only [go_sem, ↓reduceIte, Nat.reduceEqDiff, Nat.reduceAdd, Nat.reduceLeDiff, q1, hlen, d0]; done))) | (refine W_condF ?hc ?_; (case hc => (simp (disch := omega) only [go_sem, ↓reduceIte, Nat.reduceEqDiff, Nat.reduceAdd, Nat.reduceLeDiff, q1, hlen, d0]; done))))
    (repeat (first | refine W_seqS ?_ | refine W_seqC ?_ | refine W_seqB ?_ | refine W_block ?_)); refine W_regD mixed [] [(0,false),(1,false),(2,false),(3,false),(4,false),(7,false),(8,false),(9,false),(5,false),(6,false),(10,false),(11,false)] rfl (by decide +kernel) fun G K hG hK => ?_; simp only [pickOps, List.filterMap_cons, List.filterMap_nil, List.getElem?_cons_zero, List.getElem?_cons_succ, Option.map_some]; simp (disch := omega) only [go_sem, ↓reduceIte, Nat.reduceEqDiff, Nat.reduceAdd, Nat.reduceLeDiff, hG, q1, hlen, w_slice, ev_slice, hsl1, hsl2, flat_s, flat_i, Option.all_some, Option.map_some, Option.all_none, Option.map_none]
    refine w_call (l1Pick_ok q xs sb ns s hn0 hn1 hd3.cur (rwS_away hr hd3.away hne) hne) (by simp (disch := omega) only [go_sem, ↓reduceIte, Nat.reduceEqDiff, q1, hlen]) ?hl ?_
    case hl => first | rfl | (simp only [go_sem, List.all_cons, List.all_nil, Bool.not_false, Bool.and_self, q1, hlen]; done)
    rintro r_ sc ⟨⟨v, rfl, hv⟩, hd4, hl4⟩; refine ⟨fun e => (by cases e), ?_⟩
    have z3 := hsz v hv
    have z4 : (baL (w.data.toList.take i) ++ v).size = (baL (w.data.toList.take i)).size + v.size := ByteArray.size_append
    have z5 : (baL (w.data.toList.take i) ++ v ++ baL (w.data.toList.drop i)).size = (baL (w.data.toList.take i) ++ v).size + (baL (w.data.toList.drop i)).size := ByteArray.size_append
    have a1 : ∀ (x y : Operand), binE Tryd.prog .add 9 x y (.string (baL (w.data.toList.take i))) (.string v) = some (.string (baL (w.data.toList.take i) ++ v)) := fun x y => bin_sadd (by omega)
    have a2 : ∀ (x y : Operand), binE Tryd.prog .add 9 x y (.string (baL (w.data.toList.take i) ++ v)) (.string (baL (w.data.toList.drop i))) = some (.string (baL (w.data.toList.take i) ++ v ++ baL (w.data.toList.drop i))) := fun x y => bin_sadd (by omega)
    simp (disch := omega) only [go_sem, ↓reduceIte, Nat.reduceEqDiff, Nat.reduceAdd, Nat.reduceLeDiff, hG, q1, hlen, a1, a2]; refine hK _ _ ?_; clear hK K hG G; repeat (first | refine thenI ?_ | refine thenE ?_ | refine thenR ?_ | refine inBI ?_ | refine inBR ?_ | refine inBS ?_ | refine inBN (by decide) ?_)
    refine W_ret ?_; try (repeat (first | refine thenI ?_ | refine thenE ?_ | refine thenR ?_ | refine inBI ?_ | refine inBR ?_ | refine inBS ?_ | refine inBN (by decide) ?_))
    refine fin1 (.inl rfl) (by (simp (disch := omega) only [go_sem, ↓reduceIte, Nat.reduceEqDiff, Nat.reduceAdd, Nat.reduceLeDiff, q1, hlen]); try rfl) rfl ⟨⟨_, rfl, by omega⟩, hd3.trans hd4⟩
  have d0 : (y == 0) = false := by simpa using h0
  by_cases h1 : y = 1
  · have d1 : (y == 1) = true := by simpa using h1
    repeat (first | (refine W_reg rfl fun G K hG hK => ?_; simp (disch := omega) only [go_sem, ↓reduceIte, Nat.reduceEqDiff, Nat.reduceAdd, Nat.reduceLeDiff, hG, q1, hlen, d0, d1, w_slice, ev_slice, hsl1, flat_s, flat_i, Option.all_some, Option.map_some, Option.all_none, Option.map_none]; refine hK _ _ ?_; clear hK K hG G) | (refine W_end rfl fun G K hG hK => ?_; simp (disch := omega) only [go_sem, ↓reduceIte, Nat.reduceEqDiff, Nat.reduceAdd, Nat.reduceLeDiff, hG, q1, hlen, d0, d1, w_slice, ev_slice, hsl1, flat_s, flat_i, Option.all_some, Option.map_some, Option.all_none, Option.map_none]; refine hK _ _ ?_; clear hK K hG G; repeat (first | refine thenI ?_ | refine thenE ?_ | refine thenR ?_ | refine inBI ?_ | refine inBR ?_ | refine inBS ?_ | refine inBN (by decide) ?_)) | refine W_seqS ?_ | refine W_seqC ?_ | refine W_seqB ?_ | refine W_block ?_ | (refine W_skip ?_; repeat (first | refine thenI ?_ | refine thenE ?_ | refine thenR ?_ | refine inBI ?_ | refine inBR ?_ | refine inBS ?_ | refine inBN (by decide) ?_)) | (refine W_condT ?hc ?_; (case hc => (simp (disch := omega) only [go_sem, ↓reduceIte, Nat.reduceEqDiff, Nat.reduceAdd, Nat.reduceLeDiff, q1, hlen, d0, d1, w_slice, ev_slice, hsl1, flat_s, flat_i, Option.all_some, Option.map_some, Option.all_none, Option.map_none]; done))) | (refine W_condF ?hc ?_; (case hc => (simp (disch := omega) only [go_sem, ↓reduceIte, Nat.reduceEqDiff, Nat.reduceAdd, Nat.reduceLeDiff, q1, hlen, d0, d1, w_slice, ev_slice, hsl1, flat_s, flat_i, Option.all_some, Option.map_some, Option.all_none, Option.map_none]; done))))
    refine W_ret ?_; try (repeat (first | refine thenI ?_ | refine thenE ?_ | refine thenR ?_ | refine inBI ?_ | refine inBR ?_ | refine inBS ?_ | refine inBN (by decide) ?_))
    refine fin1 (.inl rfl) (by (simp (disch := omega) only [go_sem, ↓reduceIte, Nat.reduceEqDiff, Nat.reduceAdd, Nat.reduceLeDiff, q1, hlen]); try rfl) rfl ⟨⟨_, rfl, by omega⟩, hd3⟩
  · have d1 : (y == 1) = false := by simpa using h1
    repeat (first | (refine W_reg rfl fun G K hG hK => ?_; simp (disch := omega) only [go_sem, ↓reduceIte, Nat.reduceEqDiff, Nat.reduceAdd, Nat.reduceLeDiff, hG, q1, hlen, d0, d1]; refine hK _ _ ?_; clear hK K hG G) | (refine W_end rfl fun G K hG hK => ?_; simp (disch := omega) only [go_sem, ↓reduceIte, Nat.reduceEqDiff, Nat.reduceAdd, Nat.reduceLeDiff, hG, q1, hlen, d0, d1]; refine hK _ _ ?_; clear hK K hG G; repeat (first | refine thenI ?_ | refine thenE ?_ | refine thenR ?_ | refine inBI ?_ | refine inBR ?_ | refine inBS ?_ | refine inBN (by decide) ?_)) | refine W_seqS ?_ | refine W_seqC ?_ | refine W_seqB ?_ | refine W_block ?_ | (refine W_skip ?_; repeat (first | refine thenI ?_ | refine thenE ?_ | refine thenR ?_ | refine inBI ?_ | refine inBR ?_ | refine inBS ?_ | refine inBN (by decide) ?_)) | (refine W_condT ?hc ?_; (case hc => (simp (disch := omega) only [go_sem, ↓reduceIte, Nat.reduceEqDiff, Nat.reduceAdd, Nat.reduceLeDiff, q1, hlen, d0, d1]; done))) | (refine W_condF ?hc ?_; (case hc => (simp (disch := omega) only [go_sem, ↓reduceIte, Nat.reduceEqDiff, Nat.reduceAdd, Nat.reduceLeDiff, q1, hlen, d0, d1]; done))))
    refine W_ret ?_; try (repeat (first | refine thenI ?_ | refine thenE ?_ | refine thenR ?_ | refine inBI ?_ | refine inBR ?_ | refine inBS ?_ | refine inBN (by decide) ?_))
    refine fin1 (.inl rfl) (by (simp (disch := omega) only [go_sem, ↓reduceIte, Nat.reduceEqDiff, Nat.reduceAdd, Nat.reduceLeDiff, q1, hlen]); try rfl) rfl ⟨⟨_, rfl, by omega⟩, hd3⟩
theorem drawFmt_ok (bs : List Byt) (st : St) (s : Value) (hbig : bs.length ≤ 4611686018427387904) (hr : RowY st bs s) :
    CallS Tryd.prog 5 [s] st (DrawE st BentP) := by
  refine CallS_of_W [] 6 Tryd.func5 rfl rfl rfl rfl (by simp) ?_
  have q1 := hr.notLoc.1
  repeat (first | (refine W_reg rfl fun G K hG hK => ?_; simp (disch := omega) only [go_sem, ↓reduceIte, Nat.reduceEqDiff, Nat.reduceAdd, Nat.reduceLeDiff, hG, q1]; refine hK _ _ ?_; clear hK K hG G) | (refine W_end rfl fun G K hG hK => ?_; simp (disch := omega) only [go_sem, ↓reduceIte, Nat.reduceEqDiff, Nat.reduceAdd, Nat.reduceLeDiff, hG, q1]; refine hK _ _ ?_; clear hK K hG G; repeat (first | refine thenI ?_ | refine thenE ?_ | refine thenR ?_ | refine inBI ?_ | refine inBR ?_ | refine inBS ?_ | refine inBN (by decide) ?_)) | refine W_seqS ?_ | refine W_seqC ?_ | refine W_seqB ?_ | refine W_block ?_ | (refine W_skip ?_; repeat (first | refine thenI ?_ | refine thenE ?_ | refine thenR ?_ | refine inBI ?_ | refine inBR ?_ | refine inBS ?_ | refine inBN (by decide) ?_)) | (refine W_condT ?hc ?_; (case hc => (simp (disch := omega) only [go_sem, ↓reduceIte, Nat.reduceEqDiff, Nat.reduceAdd, Nat.reduceLeDiff, q1]; done))) | (refine W_condF ?hc ?_; (case hc => (simp (disch := omega) only [go_sem, ↓reduceIte, Nat.reduceEqDiff, Nat.reduceAdd, Nat.reduceLeDiff, q1]; done))))
  (repeat (first | refine W_seqS ?_ | refine W_seqC ?_ | refine W_seqB ?_ | refine W_block ?_)); refine W_reg rfl fun G K hG hK => ?_; simp (disch := omega) only [go_sem, ↓reduceIte, Nat.reduceEqDiff, Nat.reduceAdd, Nat.reduceLeDiff, hG, q1]
  refine w_call (l1New_ok bs st s hbig hr) (by simp (disch := omega) only [go_sem, ↓reduceIte, Nat.reduceEqDiff, q1]) ?hl ?_
  case hl => first | rfl | (simp only [go_sem, List.all_cons, List.all_nil, Bool.not_false, Bool.and_self, q1]; done)
  rintro r_ sa ⟨rfl, x1, hc⟩; refine ⟨fun e => (by cases e), ?_⟩
  simp (disch := omega) only [go_sem, ↓reduceIte, Nat.reduceEqDiff, Nat.reduceAdd, Nat.reduceLeDiff, q1]
  refine w_call (l3Bent_ok st.length bs sa hc) (by simp (disch := omega) only [go_sem, ↓reduceIte, Nat.reduceEqDiff, q1]) ?hl ?_
  case hl => first | rfl | (simp only [go_sem, List.all_cons, List.all_nil, Bool.not_false, Bool.and_self, q1]; done)
  rintro r_ sb ⟨hd, a, ds, L, rfl, ho, hf, hp⟩; refine ⟨fun e => (by cases e), ?_⟩
  obtain ⟨k, n, m, s1, rfl, a1, a2, a3⟩ := ho.args_cells
  simp (disch := omega) only [go_sem, ↓reduceIte, Nat.reduceEqDiff, Nat.reduceAdd, Nat.reduceLeDiff, hG, q1, a1, a2, a3]; refine hK _ _ ?_; clear hK K hG G; repeat (first | refine thenI ?_ | refine thenE ?_ | refine thenR ?_ | refine inBI ?_ | refine inBR ?_ | refine inBS ?_ | refine inBN (by decide) ?_)
  refine W_ret ?_; try (repeat (first | refine thenI ?_ | refine thenE ?_ | refine thenR ?_ | refine inBI ?_ | refine inBR ?_ | refine inBS ?_ | refine inBN (by decide) ?_))
  refine finC (.inl rfl) (by (simp (disch := omega) only [go_sem, ↓reduceIte, Nat.reduceEqDiff, Nat.reduceAdd, Nat.reduceLeDiff, q1, a1, a2, a3]); try rfl) ⟨hd.away.ext_of x1 (.inr ⟨_, Nat.le_refl _, rfl⟩), a, [_, _, _, _], rfl, ho.enc, hp⟩
theorem drawPrs_ok (bs : List Byt) (st : St) (s : Value) (hbig : bs.length ≤ 4611686018427387904) (hr : RowY st bs s) :
    CallS Tryd.prog 11 [s] st fun r st2 => Ext st st2 ∧ ∃ u : ByteArray, r = .string u ∧ u.size ≤ 2004 := by
  refine CallS_of_W [] 15 Tryd.func11 rfl rfl rfl rfl (by simp) ?_
  have q1 := hr.notLoc.1
  repeat (first | (refine W_reg rfl fun G K hG hK => ?_; simp (disch := omega) only [go_sem, ↓reduceIte, Nat.reduceEqDiff, Nat.reduceAdd, Nat.reduceLeDiff, hG, q1]; refine hK _ _ ?_; clear hK K hG G) | (refine W_end rfl fun G K hG hK => ?_; simp (disch := omega) only [go_sem, ↓reduceIte, Nat.reduceEqDiff, Nat.reduceAdd, Nat.reduceLeDiff, hG, q1]; refine hK _ _ ?_; clear hK K hG G; repeat (first | refine thenI ?_ | refine thenE ?_ | refine thenR ?_ | refine inBI ?_ | refine inBR ?_ | refine inBS ?_ | refine inBN (by decide) ?_)) | refine W_seqS ?_ | refine W_seqC ?_ | refine W_seqB ?_ | refine W_block ?_ | (refine W_skip ?_; repeat (first | refine thenI ?_ | refine thenE ?_ | refine thenR ?_ | refine inBI ?_ | refine inBR ?_ | refine inBS ?_ | refine inBN (by decide) ?_)) | (refine W_condT ?hc ?_; (case hc => (simp (disch := omega) only [go_sem, ↓reduceIte, Nat.reduceEqDiff, Nat.reduceAdd, Nat.reduceLeDiff, q1]; done))) | (refine W_condF ?hc ?_; (case hc => (simp (disch := omega) only [go_sem, ↓reduceIte, Nat.reduceEqDiff, Nat.reduceAdd, Nat.reduceLeDiff, q1]; done))))
  (repeat (first | refine W_seqS ?_ | refine W_seqC ?_ | refine W_seqB ?_ | refine W_block ?_)); refine W_reg rfl fun G K hG hK => ?_; simp (disch := omega) only [go_sem, ↓reduceIte, Nat.reduceEqDiff, Nat.reduceAdd, Nat.reduceLeDiff, hG, q1]
  refine w_call (l1New_ok bs st s hbig hr) (by simp (disch := omega) only [go_sem, ↓reduceIte, Nat.reduceEqDiff, q1]) ?hl ?_
  case hl => first | rfl | (simp only [go_sem, List.all_cons, List.all_nil, Bool.not_false, Bool.and_self, q1]; done)
  rintro r_ sa ⟨rfl, x1, hc⟩; refine ⟨fun e => (by cases e), ?_⟩
  simp (disch := omega) only [go_sem, ↓reduceIte, Nat.reduceEqDiff, Nat.reduceAdd, Nat.reduceLeDiff, hG, q1]; refine hK _ _ ?_; clear hK K hG G; repeat (first | refine thenI ?_ | refine thenE ?_ | refine thenR ?_ | refine inBI ?_ | refine inBR ?_ | refine inBS ?_ | refine inBN (by decide) ?_)
  (repeat (first | refine W_seqS ?_ | refine W_seqC ?_ | refine W_seqB ?_ | refine W_block ?_)); refine W_reg rfl fun G K hG hK => ?_; simp (disch := omega) only [go_sem, ↓reduceIte, Nat.reduceEqDiff, Nat.reduceAdd, Nat.reduceLeDiff, hG, q1]
  refine w_call (l1Below_ok st.length bs sa 4 (by omega) (by omega) hc) (by simp (disch := omega) only [go_sem, ↓reduceIte, Nat.reduceEqDiff, q1]) ?hl ?_
  case hl => first | rfl | (simp only [go_sem, List.all_cons, List.all_nil, Bool.not_false, Bool.and_self, q1]; done)
  rintro r_ sb ⟨⟨x, rfl, hx0, hx1⟩, hd, hl⟩; refine ⟨fun e => (by cases e), ?_⟩
  obtain ⟨e, he⟩ : ∃ e : Nat, 1 + x = (e : Int) := ⟨(1 + x).toNat, by omega⟩
  have he4 : e ≤ 4 := by omega
  simp (disch := omega) only [go_sem, ↓reduceIte, Nat.reduceEqDiff, Nat.reduceAdd, Nat.reduceLeDiff, q1, he]
  refine w_call (l3Draw_ok st.length bs false e (by omega) sb hd.cur) (by simp (disch := omega) only [go_sem, ↓reduceIte, Nat.reduceEqDiff, q1, he]) ?hl ?_
  case hl => first | rfl | (simp only [go_sem, List.all_cons, List.all_nil, Bool.not_false, Bool.and_self, q1, he]; done)
  rintro r_ sc ⟨hd2, t, ds, L, rfl, ho, hf, hp⟩; refine ⟨fun e => (by cases e), ?_⟩
  obtain ⟨k1, n1, m1, s1, rfl, a1, a2, a3⟩ := ho.args_cells
  have hwt : t.wt ≤ 64 := by
    have h1 := hp.2
    have h2 := Nat.pow_le_pow_right (n := 2) (by decide) he4
    have h3 : (2 : Nat) ^ 4 = 16 := by decide
    omega
  have hcw := T.count_wt t
  simp (disch := omega) only [go_sem, ↓reduceIte, Nat.reduceEqDiff, Nat.reduceAdd, Nat.reduceLeDiff, q1, a1, a2, a3]
  refine w_call (specFmt_ok t sc _ (Lim.of_wt t (by omega)) (LimN.of_wt t (by omega)) (by omega) ho.enc) (by simp (disch := omega) only [go_sem, ↓reduceIte, Nat.reduceEqDiff, q1, a1, a2, a3]) ?hl ?_
  case hl => first | rfl | (simp only [go_sem, List.all_cons, List.all_nil, Bool.not_false, Bool.and_self, q1, a1, a2, a3]; done)
  rintro r_ sd ⟨x2, rfl⟩; refine ⟨fun e => (by cases e), ?_⟩
  have hcd := (hd.trans hd2).cur.ext x2
  have hzf := fmtS_size2 t
  simp (disch := omega) only [go_sem, ↓reduceIte, Nat.reduceEqDiff, Nat.reduceAdd, Nat.reduceLeDiff, q1, bsL, fillK_cons, fillK_nil, Nat.reduceMul]
  refine w_call (l1Turned_ok st.length bs _ t.fmtS [⟨#[32]⟩, ⟨#[40]⟩, ⟨#[41]⟩, ⟨#[44]⟩, ⟨#[44, 32]⟩, ⟨#[88]⟩, ⟨#[52]⟩, ⟨#[102, 40]⟩] _ (by simp) (by simp) (fun x hx => by simp only [List.mem_cons, List.not_mem_nil, or_false] at hx; rcases hx with rfl | rfl | rfl | rfl | rfl | rfl | rfl | rfl <;> decide) (by omega) (hcd.ext (Ext.app _ _)) (row_last sd [⟨#[32]⟩, ⟨#[40]⟩, ⟨#[41]⟩, ⟨#[44]⟩, ⟨#[44, 32]⟩, ⟨#[88]⟩, ⟨#[52]⟩, ⟨#[102, 40]⟩] _ 8) (fun e => by simp only [topId, Option.some.injEq] at e; have := hcd.lt; omega)) (by simp (disch := omega) only [go_sem, ↓reduceIte, Nat.reduceEqDiff, q1]) ?hl ?_
  case hl => first | rfl | (simp only [go_sem, List.all_cons, List.all_nil, Bool.not_false, Bool.and_self, q1]; done)
  rintro r_ se ⟨⟨u, rfl, hu⟩, hd5⟩; refine ⟨fun e => (by cases e), ?_⟩
  simp (disch := omega) only [go_sem, ↓reduceIte, Nat.reduceEqDiff, Nat.reduceAdd, Nat.reduceLeDiff, hG, q1]; refine hK _ _ ?_; clear hK K hG G; repeat (first | refine thenI ?_ | refine thenE ?_ | refine thenR ?_ | refine inBI ?_ | refine inBR ?_ | refine inBS ?_ | refine inBN (by decide) ?_)
  have hx5 : Ext st sd := ((hd.trans hd2).ext2 x2).away.ext_of x1 (.inr ⟨_, Nat.le_refl _, rfl⟩)
  refine W_ret ?_; try (repeat (first | refine thenI ?_ | refine thenE ?_ | refine thenR ?_ | refine inBI ?_ | refine inBR ?_ | refine inBS ?_ | refine inBN (by decide) ?_))
  refine fin1 (.inl rfl) (by (simp (disch := omega) only [go_sem, ↓reduceIte, Nat.reduceEqDiff, Nat.reduceAdd, Nat.reduceLeDiff, q1]); try rfl) rfl ⟨hd5.away.ext_of (hx5.trans (Ext.app _ _)) (.inr ⟨_, Nat.le_refl _, rfl⟩), u, rfl, hu⟩

end

section
/- The law FnTermText. -/
open Go Go.Proofs Go.Lib
set_option linter.unusedVariables false
set_option linter.unusedSimpArgs false
set_option maxRecDepth 100000
-- AUTO

theorem fmtS_eqb (t : T) : (t.fmtS.toList == (⟨#[]⟩ : ByteArray).toList) = !t.valid := by
  cases hv : t.valid with
  | false => rw [fmtS_no hv, beq_self_eq_true]; rfl
  | true =>
    have h1 := fmt_ne (valid_nodes hv).1
    have h2 : t.fmtS ≠ ⟨#[]⟩ := fun e => h1 (by
      rw [fmtS_yes hv] at e
      have := congrArg (fun b : ByteArray => b.data.toList) e
      simpa using this)
    rw [ba_eqb, decide_eq_false h2]
    rfl
theorem prsT_fmt {t : T} (hv : t.valid = true) (hl : t.fmtS.size ≤ 600) : prsT t.fmtS = some t := by
  unfold prsT
  rw [if_pos hl]
  refine impParse_some.2 ⟨hv, ?_⟩
  rw [fmtS_yes hv]
theorem prsT_back {u : ByteArray} {y : T} (h : prsT u = some y) : y.fmtS = u ∧ y.valid = true := by
  unfold prsT at h
  split at h
  · obtain ⟨h1, h2⟩ := impParse_some.1 h
    refine ⟨?_, h1⟩
    rw [fmtS_yes h1, h2]
  · cases h
theorem wFnTermText (st : St) (bs : List Byt) (s : Value) (hr : RowY st bs s) (hN : bs.length ≤ maxLen) : CallS Tryd.prog 3 [s] st fun r _ => r = .bool true := by
  refine CallS_of_W [] 78 Tryd.func3 rfl rfl rfl rfl (by simp) ?_
  have q1 := hr.notLoc.1
  have bne1 : ∀ (x y : Operand) (a b : Bool), binE Tryd.prog .neq 4 x y (.bool a) (.bool b) = some (.bool !(a == b)) := fun x y a b => bin_bneq Tryd.underlying4
  have beq1 : ∀ (x y : Operand) (a b : Bool), binE Tryd.prog .eql 4 x y (.bool a) (.bool b) = some (.bool (a == b)) := fun x y a b => bin_beql Tryd.underlying4
  have hlen := fun (s : ByteArray) => (len_str Tryd.underlying9 : lenE Tryd.prog 9 (.string s) = some (.int .i64 s.size))
  repeat (first | (refine W_reg rfl fun G K hG hK => ?_; simp (disch := omega) only [go_sem, ↓reduceIte, Nat.reduceEqDiff, Nat.reduceAdd, Nat.reduceLeDiff, hG, q1, bne1, beq1, hlen]; refine hK _ _ ?_; clear hK K hG G) | (refine W_end rfl fun G K hG hK => ?_; simp (disch := omega) only [go_sem, ↓reduceIte, Nat.reduceEqDiff, Nat.reduceAdd, Nat.reduceLeDiff, hG, q1, bne1, beq1, hlen]; refine hK _ _ ?_; clear hK K hG G; repeat (first | refine thenI ?_ | refine thenE ?_ | refine thenR ?_ | refine inBI ?_ | refine inBR ?_ | refine inBS ?_ | refine inBN (by decide) ?_)) | refine W_seqS ?_ | refine W_seqC ?_ | refine W_seqB ?_ | refine W_block ?_ | (refine W_skip ?_; repeat (first | refine thenI ?_ | refine thenE ?_ | refine thenR ?_ | refine inBI ?_ | refine inBR ?_ | refine inBS ?_ | refine inBN (by decide) ?_)) | (refine W_condT ?hc ?_; (case hc => (simp (disch := omega) only [go_sem, ↓reduceIte, Nat.reduceEqDiff, Nat.reduceAdd, Nat.reduceLeDiff, q1, bne1, beq1, hlen]; done))) | (refine W_condF ?hc ?_; (case hc => (simp (disch := omega) only [go_sem, ↓reduceIte, Nat.reduceEqDiff, Nat.reduceAdd, Nat.reduceLeDiff, q1, bne1, beq1, hlen]; done))))
  (repeat (first | refine W_seqS ?_ | refine W_seqC ?_ | refine W_seqB ?_ | refine W_block ?_)); refine W_reg rfl fun G K hG hK => ?_; simp (disch := omega) only [go_sem, ↓reduceIte, Nat.reduceEqDiff, Nat.reduceAdd, Nat.reduceLeDiff, hG, q1, bne1, beq1, hlen]
  refine w_call (big_ok bs st s hr) (by simp (disch := omega) only [go_sem, ↓reduceIte, Nat.reduceEqDiff, q1, bne1, beq1, hlen]) ?hl ?_
  case hl => first | rfl | (simp only [go_sem, List.all_cons, List.all_nil, Bool.not_false, Bool.and_self, q1, bne1, beq1, hlen]; done)
  rintro r_ st ⟨rfl, rfl⟩; refine ⟨fun e => (by cases e), ?_⟩
  simp (disch := omega) only [go_sem, ↓reduceIte, Nat.reduceEqDiff, Nat.reduceAdd, Nat.reduceLeDiff, hG, q1, bne1, beq1, hlen]; refine hK _ _ ?_; clear hK K hG G; repeat (first | refine thenI ?_ | refine thenE ?_ | refine thenR ?_ | refine inBI ?_ | refine inBR ?_ | refine inBS ?_ | refine inBN (by decide) ?_)
  cases hb : decide ((bs.length : Int) > 1048576) with
  | true =>
    repeat (first | (refine W_reg rfl fun G K hG hK => ?_; simp (disch := omega) only [go_sem, ↓reduceIte, Nat.reduceEqDiff, Nat.reduceAdd, Nat.reduceLeDiff, hG, q1, bne1, beq1, hlen]; refine hK _ _ ?_; clear hK K hG G) | (refine W_end rfl fun G K hG hK => ?_; simp (disch := omega) only [go_sem, ↓reduceIte, Nat.reduceEqDiff, Nat.reduceAdd, Nat.reduceLeDiff, hG, q1, bne1, beq1, hlen]; refine hK _ _ ?_; clear hK K hG G; repeat (first | refine thenI ?_ | refine thenE ?_ | refine thenR ?_ | refine inBI ?_ | refine inBR ?_ | refine inBS ?_ | refine inBN (by decide) ?_)) | refine W_seqS ?_ | refine W_seqC ?_ | refine W_seqB ?_ | refine W_block ?_ | (refine W_skip ?_; repeat (first | refine thenI ?_ | refine thenE ?_ | refine thenR ?_ | refine inBI ?_ | refine inBR ?_ | refine inBS ?_ | refine inBN (by decide) ?_)) | (refine W_condT ?hc ?_; (case hc => (simp (disch := omega) only [go_sem, ↓reduceIte, Nat.reduceEqDiff, Nat.reduceAdd, Nat.reduceLeDiff, q1, bne1, beq1, hlen]; done))) | (refine W_condF ?hc ?_; (case hc => (simp (disch := omega) only [go_sem, ↓reduceIte, Nat.reduceEqDiff, Nat.reduceAdd, Nat.reduceLeDiff, q1, bne1, beq1, hlen]; done))))
    refine W_ret ?_; try (repeat (first | refine thenI ?_ | refine thenE ?_ | refine thenR ?_ | refine inBI ?_ | refine inBR ?_ | refine inBS ?_ | refine inBN (by decide) ?_))
    refine fin1 (.inl rfl) (by (simp (disch := omega) only [go_sem, ↓reduceIte, Nat.reduceEqDiff, Nat.reduceAdd, Nat.reduceLeDiff, q1, bne1, beq1, hlen]); try rfl) rfl rfl
  | false =>
  have hbig : bs.length ≤ 4611686018427387904 := by simp at hb; omega
  repeat (first | (refine W_reg rfl fun G K hG hK => ?_; simp (disch := omega) only [go_sem, ↓reduceIte, Nat.reduceEqDiff, Nat.reduceAdd, Nat.reduceLeDiff, hG, q1, bne1, beq1, hlen]; refine hK _ _ ?_; clear hK K hG G) | (refine W_end rfl fun G K hG hK => ?_; simp (disch := omega) only [go_sem, ↓reduceIte, Nat.reduceEqDiff, Nat.reduceAdd, Nat.reduceLeDiff, hG, q1, bne1, beq1, hlen]; refine hK _ _ ?_; clear hK K hG G; repeat (first | refine thenI ?_ | refine thenE ?_ | refine thenR ?_ | refine inBI ?_ | refine inBR ?_ | refine inBS ?_ | refine inBN (by decide) ?_)) | refine W_seqS ?_ | refine W_seqC ?_ | refine W_seqB ?_ | refine W_block ?_ | (refine W_skip ?_; repeat (first | refine thenI ?_ | refine thenE ?_ | refine thenR ?_ | refine inBI ?_ | refine inBR ?_ | refine inBS ?_ | refine inBN (by decide) ?_)) | (refine W_condT ?hc ?_; (case hc => (simp (disch := omega) only [go_sem, ↓reduceIte, Nat.reduceEqDiff, Nat.reduceAdd, Nat.reduceLeDiff, q1, bne1, beq1, hlen]; done))) | (refine W_condF ?hc ?_; (case hc => (simp (disch := omega) only [go_sem, ↓reduceIte, Nat.reduceEqDiff, Nat.reduceAdd, Nat.reduceLeDiff, q1, bne1, beq1, hlen]; done))))
  (repeat (first | refine W_seqS ?_ | refine W_seqC ?_ | refine W_seqB ?_ | refine W_block ?_)); refine W_reg rfl fun G K hG hK => ?_; simp (disch := omega) only [go_sem, ↓reduceIte, Nat.reduceEqDiff, Nat.reduceAdd, Nat.reduceLeDiff, hG, q1, bne1, beq1, hlen]
  refine w_call (drawFmt_ok bs st s hbig hr) (by simp (disch := omega) only [go_sem, ↓reduceIte, Nat.reduceEqDiff, q1, bne1, beq1, hlen]) ?hl ?_
  case hl => first | rfl | (simp only [go_sem, List.all_cons, List.all_nil, Bool.not_false, Bool.and_self, q1, bne1, beq1, hlen]; done)
  rintro r_ sa ⟨x1, t, ds, rfl, hE, hp⟩; refine ⟨fun e => (by cases e), ?_⟩
  have hl := bent_lim hp
  have hln := bent_limN hp
  have hcn := bent_count hp
  obtain ⟨k, n, m, s1, rfl, a1, a2, a3⟩ := hE.args_cells
  simp (disch := omega) only [go_sem, ↓reduceIte, Nat.reduceEqDiff, Nat.reduceAdd, Nat.reduceLeDiff, hG, q1, bne1, beq1, hlen, a1, a2, a3]; refine hK _ _ ?_; clear hK K hG G; repeat (first | refine thenI ?_ | refine thenE ?_ | refine thenR ?_ | refine inBI ?_ | refine inBR ?_ | refine inBS ?_ | refine inBN (by decide) ?_)
  (repeat (first | refine W_seqS ?_ | refine W_seqC ?_ | refine W_seqB ?_ | refine W_block ?_)); refine W_reg rfl fun G K hG hK => ?_; simp (disch := omega) only [go_sem, ↓reduceIte, Nat.reduceEqDiff, Nat.reduceAdd, Nat.reduceLeDiff, hG, q1, bne1, beq1, hlen, a1, a2, a3]
  refine w_call (implFmt_ok t sa _ hl (by omega) hE) (by simp (disch := omega) only [go_sem, ↓reduceIte, Nat.reduceEqDiff, q1, bne1, beq1, hlen, a1, a2, a3]) ?hl ?_
  case hl => first | rfl | (simp only [go_sem, List.all_cons, List.all_nil, Bool.not_false, Bool.and_self, q1, bne1, beq1, hlen, a1, a2, a3]; done)
  rintro r_ sb ⟨x2, rfl⟩; refine ⟨fun e => (by cases e), ?_⟩
  simp (disch := omega) only [go_sem, ↓reduceIte, Nat.reduceEqDiff, Nat.reduceAdd, Nat.reduceLeDiff, hG, q1, bne1, beq1, hlen, a1, a2, a3]; refine hK _ _ ?_; clear hK K hG G; repeat (first | refine thenI ?_ | refine thenE ?_ | refine thenR ?_ | refine inBI ?_ | refine inBR ?_ | refine inBS ?_ | refine inBN (by decide) ?_)
  have hzw := fmtS_size2 t
  (repeat (first | refine W_seqS ?_ | refine W_seqC ?_ | refine W_seqB ?_ | refine W_block ?_)); refine W_reg rfl fun G K hG hK => ?_; simp (disch := omega) only [go_sem, ↓reduceIte, Nat.reduceEqDiff, Nat.reduceAdd, Nat.reduceLeDiff, hG, q1, bne1, beq1, hlen, a1, a2, a3]
  refine w_call (implParse_ok t.fmtS sb (by omega)) (by simp (disch := omega) only [go_sem, ↓reduceIte, Nat.reduceEqDiff, q1, bne1, beq1, hlen, a1, a2, a3]) ?hl ?_
  case hl => first | rfl | (simp only [go_sem, List.all_cons, List.all_nil, Bool.not_false, Bool.and_self, q1, bne1, beq1, hlen, a1, a2, a3]; done)
  rintro r_ sc ⟨x3, es, L3, rfl, ho3, hf3⟩; refine ⟨fun e => (by cases e), ?_⟩
  obtain ⟨k3, n3, m3, s3, rfl, b1, b2, b3⟩ := ho3.args_cells
  simp (disch := omega) only [go_sem, ↓reduceIte, Nat.reduceEqDiff, Nat.reduceAdd, Nat.reduceLeDiff, hG, q1, bne1, beq1, hlen, a1, a2, a3, b1, b2, b3]; refine hK _ _ ?_; clear hK K hG G; repeat (first | refine thenI ?_ | refine thenE ?_ | refine thenR ?_ | refine inBI ?_ | refine inBR ?_ | refine inBS ?_ | refine inBN (by decide) ?_)
  have hE3 := Enc.ext (x2.trans x3) _ _ hE
  have heq := fmtS_eqb t
  refine W_seq ?_
  refine W_to (fun fr st' => (Ext sc st') ∧ (fr.env 0 = s) ∧ ((fr.loc 8).1 = 0) ∧ ((fr.loc 10).1 = 0)) ?_ ?_
  · (repeat (first | refine W_seqS ?_ | refine W_seqC ?_ | refine W_seqB ?_ | refine W_block ?_)); refine W_reg rfl fun G K hG hK => ?_; simp (disch := omega) only [go_sem, ↓reduceIte, Nat.reduceEqDiff, Nat.reduceAdd, Nat.reduceLeDiff, hG, q1, bne1, beq1, hlen, a1, a2, a3, b1, b2, b3]
    refine w_call (specFmt_ok t sc _ hl hln (by omega) hE3) (by simp (disch := omega) only [go_sem, ↓reduceIte, Nat.reduceEqDiff, q1, bne1, beq1, hlen, a1, a2, a3, b1, b2, b3]) ?hl ?_
    case hl => first | rfl | (simp only [go_sem, List.all_cons, List.all_nil, Bool.not_false, Bool.and_self, q1, bne1, beq1, hlen, a1, a2, a3, b1, b2, b3]; done)
    rintro r_ sd ⟨x4, rfl⟩; refine ⟨fun e => (by cases e), ?_⟩
    simp (disch := omega) only [go_sem, ↓reduceIte, Nat.reduceEqDiff, Nat.reduceAdd, Nat.reduceLeDiff, q1, bne1, beq1, hlen, a1, a2, a3, b1, b2, b3, hG, heq]
    refine w_call (specValid_ok t sd _ hl hln (by omega) (Enc.ext x4 _ _ hE3)) (by simp (disch := omega) only [go_sem, ↓reduceIte, Nat.reduceEqDiff, q1, bne1, beq1, hlen, a1, a2, a3, b1, b2, b3]) ?hl ?_
    case hl => first | rfl | (simp only [go_sem, List.all_cons, List.all_nil, Bool.not_false, Bool.and_self, q1, bne1, beq1, hlen, a1, a2, a3, b1, b2, b3]; done)
    rintro r_ sd ⟨rfl, rfl⟩; refine ⟨fun e => (by cases e), ?_⟩
    cases hv : t.valid with
    | false =>
      simp (disch := omega) only [go_sem, ↓reduceIte, Nat.reduceEqDiff, Nat.reduceAdd, Nat.reduceLeDiff, hG, q1, bne1, beq1, hlen, a1, a2, a3, b1, b2, b3, heq, hv]; refine hK _ _ ?_; clear hK K hG G; repeat (first | refine thenI ?_ | refine thenE ?_ | refine thenR ?_ | refine inBI ?_ | refine inBR ?_ | refine inBS ?_ | refine inBN (by decide) ?_)
      repeat (first | (refine W_reg rfl fun G K hG hK => ?_; simp (disch := omega) only [go_sem, ↓reduceIte, Nat.reduceEqDiff, Nat.reduceAdd, Nat.reduceLeDiff, hG, q1, bne1, beq1, hlen, a1, a2, a3, b1, b2, b3]; refine hK _ _ ?_; clear hK K hG G) | (refine W_end rfl fun G K hG hK => ?_; simp (disch := omega) only [go_sem, ↓reduceIte, Nat.reduceEqDiff, Nat.reduceAdd, Nat.reduceLeDiff, hG, q1, bne1, beq1, hlen, a1, a2, a3, b1, b2, b3]; refine hK _ _ ?_; clear hK K hG G; repeat (first | refine thenI ?_ | refine thenE ?_ | refine thenR ?_ | refine inBI ?_ | refine inBR ?_ | refine inBS ?_ | refine inBN (by decide) ?_)) | refine W_seqS ?_ | refine W_seqC ?_ | refine W_seqB ?_ | refine W_block ?_ | (refine W_skip ?_; repeat (first | refine thenI ?_ | refine thenE ?_ | refine thenR ?_ | refine inBI ?_ | refine inBR ?_ | refine inBS ?_ | refine inBN (by decide) ?_)) | (refine W_condT ?hc ?_; (case hc => (simp (disch := omega) only [go_sem, ↓reduceIte, Nat.reduceEqDiff, Nat.reduceAdd, Nat.reduceLeDiff, q1, bne1, beq1, hlen, a1, a2, a3, b1, b2, b3]; done))) | (refine W_condF ?hc ?_; (case hc => (simp (disch := omega) only [go_sem, ↓reduceIte, Nat.reduceEqDiff, Nat.reduceAdd, Nat.reduceLeDiff, q1, bne1, beq1, hlen, a1, a2, a3, b1, b2, b3]; done))))
      exact ⟨x4, (by (simp (disch := omega) only [go_sem, ↓reduceIte, Nat.reduceEqDiff, Nat.reduceAdd, Nat.reduceLeDiff, q1, bne1, beq1, hlen, a1, a2, a3, b1, b2, b3]); try rfl), (by (simp (disch := omega) only [go_sem, ↓reduceIte, Nat.reduceEqDiff, Nat.reduceAdd, Nat.reduceLeDiff, q1, bne1, beq1, hlen, a1, a2, a3, b1, b2, b3]); try rfl), (by (simp (disch := omega) only [go_sem, ↓reduceIte, Nat.reduceEqDiff, Nat.reduceAdd, Nat.reduceLeDiff, q1, bne1, beq1, hlen, a1, a2, a3, b1, b2, b3]); try rfl)⟩
    | true =>
    by_cases h6 : t.fmtS.size ≤ 600
    · have c1 : decide ((t.fmtS.size : Int) ≤ 600) = true := decide_eq_true (by omega)
      have hpr := prsT_fmt hv h6
      have hps : (prsT t.fmtS).isSome = true := by rw [hpr]; rfl
      have ho4 := ho3.enc
      rw [hpr] at ho4
      have hee : T.eqv t t = true := (T.eqv_iff _ _).2 rfl
      simp (disch := omega) only [go_sem, ↓reduceIte, Nat.reduceEqDiff, Nat.reduceAdd, Nat.reduceLeDiff, q1, bne1, beq1, hlen, a1, a2, a3, b1, b2, b3, hG, heq, hv, c1, hps]
      refine w_call (specEq_ok t t sd _ _ hl hl (Enc.ext x4 _ _ ho4) (Enc.ext x4 _ _ hE3)) (by simp (disch := omega) only [go_sem, ↓reduceIte, Nat.reduceEqDiff, q1, bne1, beq1, hlen, a1, a2, a3, b1, b2, b3]) ?hl ?_
      case hl => first | rfl | (simp only [go_sem, List.all_cons, List.all_nil, Bool.not_false, Bool.and_self, q1, bne1, beq1, hlen, a1, a2, a3, b1, b2, b3]; done)
      rintro r_ sd ⟨rfl, rfl⟩; refine ⟨fun e => (by cases e), ?_⟩
      simp (disch := omega) only [go_sem, ↓reduceIte, Nat.reduceEqDiff, Nat.reduceAdd, Nat.reduceLeDiff, hG, q1, bne1, beq1, hlen, a1, a2, a3, b1, b2, b3, hee]; refine hK _ _ ?_; clear hK K hG G; repeat (first | refine thenI ?_ | refine thenE ?_ | refine thenR ?_ | refine inBI ?_ | refine inBR ?_ | refine inBS ?_ | refine inBN (by decide) ?_)
      repeat (first | (refine W_reg rfl fun G K hG hK => ?_; simp (disch := omega) only [go_sem, ↓reduceIte, Nat.reduceEqDiff, Nat.reduceAdd, Nat.reduceLeDiff, hG, q1, bne1, beq1, hlen, a1, a2, a3, b1, b2, b3]; refine hK _ _ ?_; clear hK K hG G) | (refine W_end rfl fun G K hG hK => ?_; simp (disch := omega) only [go_sem, ↓reduceIte, Nat.reduceEqDiff, Nat.reduceAdd, Nat.reduceLeDiff, hG, q1, bne1, beq1, hlen, a1, a2, a3, b1, b2, b3]; refine hK _ _ ?_; clear hK K hG G; repeat (first | refine thenI ?_ | refine thenE ?_ | refine thenR ?_ | refine inBI ?_ | refine inBR ?_ | refine inBS ?_ | refine inBN (by decide) ?_)) | refine W_seqS ?_ | refine W_seqC ?_ | refine W_seqB ?_ | refine W_block ?_ | (refine W_skip ?_; repeat (first | refine thenI ?_ | refine thenE ?_ | refine thenR ?_ | refine inBI ?_ | refine inBR ?_ | refine inBS ?_ | refine inBN (by decide) ?_)) | (refine W_condT ?hc ?_; (case hc => (simp (disch := omega) only [go_sem, ↓reduceIte, Nat.reduceEqDiff, Nat.reduceAdd, Nat.reduceLeDiff, q1, bne1, beq1, hlen, a1, a2, a3, b1, b2, b3]; done))) | (refine W_condF ?hc ?_; (case hc => (simp (disch := omega) only [go_sem, ↓reduceIte, Nat.reduceEqDiff, Nat.reduceAdd, Nat.reduceLeDiff, q1, bne1, beq1, hlen, a1, a2, a3, b1, b2, b3]; done))))
      exact ⟨x4, (by (simp (disch := omega) only [go_sem, ↓reduceIte, Nat.reduceEqDiff, Nat.reduceAdd, Nat.reduceLeDiff, q1, bne1, beq1, hlen, a1, a2, a3, b1, b2, b3]); try rfl), (by (simp (disch := omega) only [go_sem, ↓reduceIte, Nat.reduceEqDiff, Nat.reduceAdd, Nat.reduceLeDiff, q1, bne1, beq1, hlen, a1, a2, a3, b1, b2, b3]); try rfl), (by (simp (disch := omega) only [go_sem, ↓reduceIte, Nat.reduceEqDiff, Nat.reduceAdd, Nat.reduceLeDiff, q1, bne1, beq1, hlen, a1, a2, a3, b1, b2, b3]); try rfl)⟩
    · have c1 : decide ((t.fmtS.size : Int) ≤ 600) = false := decide_eq_false (by omega)
      simp (disch := omega) only [go_sem, ↓reduceIte, Nat.reduceEqDiff, Nat.reduceAdd, Nat.reduceLeDiff, hG, q1, bne1, beq1, hlen, a1, a2, a3, b1, b2, b3, heq, hv, c1]; refine hK _ _ ?_; clear hK K hG G; repeat (first | refine thenI ?_ | refine thenE ?_ | refine thenR ?_ | refine inBI ?_ | refine inBR ?_ | refine inBS ?_ | refine inBN (by decide) ?_)
      repeat (first | (refine W_reg rfl fun G K hG hK => ?_; simp (disch := omega) only [go_sem, ↓reduceIte, Nat.reduceEqDiff, Nat.reduceAdd, Nat.reduceLeDiff, hG, q1, bne1, beq1, hlen, a1, a2, a3, b1, b2, b3]; refine hK _ _ ?_; clear hK K hG G) | (refine W_end rfl fun G K hG hK => ?_; simp (disch := omega) only [go_sem, ↓reduceIte, Nat.reduceEqDiff, Nat.reduceAdd, Nat.reduceLeDiff, hG, q1, bne1, beq1, hlen, a1, a2, a3, b1, b2, b3]; refine hK _ _ ?_; clear hK K hG G; repeat (first | refine thenI ?_ | refine thenE ?_ | refine thenR ?_ | refine inBI ?_ | refine inBR ?_ | refine inBS ?_ | refine inBN (by decide) ?_)) | refine W_seqS ?_ | refine W_seqC ?_ | refine W_seqB ?_ | refine W_block ?_ | (refine W_skip ?_; repeat (first | refine thenI ?_ | refine thenE ?_ | refine thenR ?_ | refine inBI ?_ | refine inBR ?_ | refine inBS ?_ | refine inBN (by decide) ?_)) | (refine W_condT ?hc ?_; (case hc => (simp (disch := omega) only [go_sem, ↓reduceIte, Nat.reduceEqDiff, Nat.reduceAdd, Nat.reduceLeDiff, q1, bne1, beq1, hlen, a1, a2, a3, b1, b2, b3]; done))) | (refine W_condF ?hc ?_; (case hc => (simp (disch := omega) only [go_sem, ↓reduceIte, Nat.reduceEqDiff, Nat.reduceAdd, Nat.reduceLeDiff, q1, bne1, beq1, hlen, a1, a2, a3, b1, b2, b3]; done))))
      exact ⟨x4, (by (simp (disch := omega) only [go_sem, ↓reduceIte, Nat.reduceEqDiff, Nat.reduceAdd, Nat.reduceLeDiff, q1, bne1, beq1, hlen, a1, a2, a3, b1, b2, b3]); try rfl), (by (simp (disch := omega) only [go_sem, ↓reduceIte, Nat.reduceEqDiff, Nat.reduceAdd, Nat.reduceLeDiff, q1, bne1, beq1, hlen, a1, a2, a3, b1, b2, b3]); try rfl), (by (simp (disch := omega) only [go_sem, ↓reduceIte, Nat.reduceEqDiff, Nat.reduceAdd, Nat.reduceLeDiff, q1, bne1, beq1, hlen, a1, a2, a3, b1, b2, b3]); try rfl)⟩
  rintro ⟨env, loc⟩ st' ⟨hst2, e0, l8, l10⟩
  simp only at e0 l8 l10
  have hr2 := hr.ext ((((x1.trans x2).trans x3)).trans hst2)
  repeat (first | (refine W_reg rfl fun G K hG hK => ?_; simp (disch := omega) only [go_sem, ↓reduceIte, Nat.reduceEqDiff, Nat.reduceAdd, Nat.reduceLeDiff, hG, q1, bne1, beq1, hlen, a1, a2, a3, b1, b2, b3, e0, l8, l10]; refine hK _ _ ?_; clear hK K hG G) | (refine W_end rfl fun G K hG hK => ?_; simp (disch := omega) only [go_sem, ↓reduceIte, Nat.reduceEqDiff, Nat.reduceAdd, Nat.reduceLeDiff, hG, q1, bne1, beq1, hlen, a1, a2, a3, b1, b2, b3, e0, l8, l10]; refine hK _ _ ?_; clear hK K hG G; repeat (first | refine thenI ?_ | refine thenE ?_ | refine thenR ?_ | refine inBI ?_ | refine inBR ?_ | refine inBS ?_ | refine inBN (by decide) ?_)) | refine W_seqS ?_ | refine W_seqC ?_ | refine W_seqB ?_ | refine W_block ?_ | (refine W_skip ?_; repeat (first | refine thenI ?_ | refine thenE ?_ | refine thenR ?_ | refine inBI ?_ | refine inBR ?_ | refine inBS ?_ | refine inBN (by decide) ?_)) | (refine W_condT ?hc ?_; (case hc => (simp (disch := omega) only [go_sem, ↓reduceIte, Nat.reduceEqDiff, Nat.reduceAdd, Nat.reduceLeDiff, q1, bne1, beq1, hlen, a1, a2, a3, b1, b2, b3, e0, l8, l10]; done))) | (refine W_condF ?hc ?_; (case hc => (simp (disch := omega) only [go_sem, ↓reduceIte, Nat.reduceEqDiff, Nat.reduceAdd, Nat.reduceLeDiff, q1, bne1, beq1, hlen, a1, a2, a3, b1, b2, b3, e0, l8, l10]; done))))
  (repeat (first | refine W_seqS ?_ | refine W_seqC ?_ | refine W_seqB ?_ | refine W_block ?_)); refine W_reg rfl fun G K hG hK => ?_; simp (disch := omega) only [go_sem, ↓reduceIte, Nat.reduceEqDiff, Nat.reduceAdd, Nat.reduceLeDiff, hG, q1, bne1, beq1, hlen, a1, a2, a3, b1, b2, b3, e0, l8, l10]
  refine w_call (drawPrs_ok bs st' s hbig hr2) (by simp (disch := omega) only [go_sem, ↓reduceIte, Nat.reduceEqDiff, q1, bne1, beq1, hlen, a1, a2, a3, b1, b2, b3, e0, l8, l10]) ?hl ?_
  case hl => first | rfl | (simp only [go_sem, List.all_cons, List.all_nil, Bool.not_false, Bool.and_self, q1, bne1, beq1, hlen, a1, a2, a3, b1, b2, b3, e0, l8, l10]; done)
  rintro r_ sf ⟨x5, u, rfl, hu⟩; refine ⟨fun e => (by cases e), ?_⟩
  simp (disch := omega) only [go_sem, ↓reduceIte, Nat.reduceEqDiff, Nat.reduceAdd, Nat.reduceLeDiff, hG, q1, bne1, beq1, hlen, a1, a2, a3, b1, b2, b3, e0, l8, l10]; refine hK _ _ ?_; clear hK K hG G; repeat (first | refine thenI ?_ | refine thenE ?_ | refine thenR ?_ | refine inBI ?_ | refine inBR ?_ | refine inBS ?_ | refine inBN (by decide) ?_)
  (repeat (first | refine W_seqS ?_ | refine W_seqC ?_ | refine W_seqB ?_ | refine W_block ?_)); refine W_reg rfl fun G K hG hK => ?_; simp (disch := omega) only [go_sem, ↓reduceIte, Nat.reduceEqDiff, Nat.reduceAdd, Nat.reduceLeDiff, hG, q1, bne1, beq1, hlen, a1, a2, a3, b1, b2, b3, e0, l8, l10]
  refine w_call (implParse_ok u sf (by omega)) (by simp (disch := omega) only [go_sem, ↓reduceIte, Nat.reduceEqDiff, q1, bne1, beq1, hlen, a1, a2, a3, b1, b2, b3, e0, l8, l10]) ?hl ?_
  case hl => first | rfl | (simp only [go_sem, List.all_cons, List.all_nil, Bool.not_false, Bool.and_self, q1, bne1, beq1, hlen, a1, a2, a3, b1, b2, b3, e0, l8, l10]; done)
  rintro r_ sg ⟨x6, fs, L6, rfl, ho6, hf6⟩; refine ⟨fun e => (by cases e), ?_⟩
  obtain ⟨k6, n6, m6, s6, rfl, d1, d2, d3⟩ := ho6.args_cells
  simp (disch := omega) only [go_sem, ↓reduceIte, Nat.reduceEqDiff, Nat.reduceAdd, Nat.reduceLeDiff, hG, q1, bne1, beq1, hlen, a1, a2, a3, b1, b2, b3, e0, l8, l10, d1, d2, d3]; refine hK _ _ ?_; clear hK K hG G; repeat (first | refine thenI ?_ | refine thenE ?_ | refine thenR ?_ | refine inBI ?_ | refine inBR ?_ | refine inBS ?_ | refine inBN (by decide) ?_)
  (repeat (first | refine W_seqS ?_ | refine W_seqC ?_ | refine W_seqB ?_ | refine W_block ?_)); refine W_reg rfl fun G K hG hK => ?_; simp (disch := omega) only [go_sem, ↓reduceIte, Nat.reduceEqDiff, Nat.reduceAdd, Nat.reduceLeDiff, hG, q1, bne1, beq1, hlen, a1, a2, a3, b1, b2, b3, e0, l8, l10, d1, d2, d3]
  refine w_call (specParse_ok u sg (by omega)) (by simp (disch := omega) only [go_sem, ↓reduceIte, Nat.reduceEqDiff, q1, bne1, beq1, hlen, a1, a2, a3, b1, b2, b3, e0, l8, l10, d1, d2, d3]) ?hl ?_
  case hl => first | rfl | (simp only [go_sem, List.all_cons, List.all_nil, Bool.not_false, Bool.and_self, q1, bne1, beq1, hlen, a1, a2, a3, b1, b2, b3, e0, l8, l10, d1, d2, d3]; done)
  rintro r_ sh ⟨x7, gs, L7, rfl, ho7, hf7⟩; refine ⟨fun e => (by cases e), ?_⟩
  obtain ⟨k7, n7, m7, s7, rfl, g1, g2, g3⟩ := ho7.args_cells
  simp (disch := omega) only [go_sem, ↓reduceIte, Nat.reduceEqDiff, Nat.reduceAdd, Nat.reduceLeDiff, hG, q1, bne1, beq1, hlen, a1, a2, a3, b1, b2, b3, e0, l8, l10, d1, d2, d3, g1, g2, g3]; refine hK _ _ ?_; clear hK K hG G; repeat (first | refine thenI ?_ | refine thenE ?_ | refine thenR ?_ | refine inBI ?_ | refine inBR ?_ | refine inBS ?_ | refine inBN (by decide) ?_)
  have hwt := prsT_wt u
  cases hpu : prsT u with
  | none =>
    have hps : (prsT u).isSome = false := by rw [hpu]; rfl
    repeat (first | (refine W_reg rfl fun G K hG hK => ?_; simp (disch := omega) only [go_sem, ↓reduceIte, Nat.reduceEqDiff, Nat.reduceAdd, Nat.reduceLeDiff, hG, q1, bne1, beq1, hlen, a1, a2, a3, b1, b2, b3, e0, l8, l10, d1, d2, d3, g1, g2, g3, hps, Option.isSome_none]; refine hK _ _ ?_; clear hK K hG G) | (refine W_end rfl fun G K hG hK => ?_; simp (disch := omega) only [go_sem, ↓reduceIte, Nat.reduceEqDiff, Nat.reduceAdd, Nat.reduceLeDiff, hG, q1, bne1, beq1, hlen, a1, a2, a3, b1, b2, b3, e0, l8, l10, d1, d2, d3, g1, g2, g3, hps, Option.isSome_none]; refine hK _ _ ?_; clear hK K hG G; repeat (first | refine thenI ?_ | refine thenE ?_ | refine thenR ?_ | refine inBI ?_ | refine inBR ?_ | refine inBS ?_ | refine inBN (by decide) ?_)) | refine W_seqS ?_ | refine W_seqC ?_ | refine W_seqB ?_ | refine W_block ?_ | (refine W_skip ?_; repeat (first | refine thenI ?_ | refine thenE ?_ | refine thenR ?_ | refine inBI ?_ | refine inBR ?_ | refine inBS ?_ | refine inBN (by decide) ?_)) | (refine W_condT ?hc ?_; (case hc => (simp (disch := omega) only [go_sem, ↓reduceIte, Nat.reduceEqDiff, Nat.reduceAdd, Nat.reduceLeDiff, q1, bne1, beq1, hlen, a1, a2, a3, b1, b2, b3, e0, l8, l10, d1, d2, d3, g1, g2, g3, hps, Option.isSome_none]; done))) | (refine W_condF ?hc ?_; (case hc => (simp (disch := omega) only [go_sem, ↓reduceIte, Nat.reduceEqDiff, Nat.reduceAdd, Nat.reduceLeDiff, q1, bne1, beq1, hlen, a1, a2, a3, b1, b2, b3, e0, l8, l10, d1, d2, d3, g1, g2, g3, hps, Option.isSome_none]; done))))
    refine W_ret ?_; try (repeat (first | refine thenI ?_ | refine thenE ?_ | refine thenR ?_ | refine inBI ?_ | refine inBR ?_ | refine inBS ?_ | refine inBN (by decide) ?_))
    refine fin1 (.inl rfl) (by (simp (disch := omega) only [go_sem, ↓reduceIte, Nat.reduceEqDiff, Nat.reduceAdd, Nat.reduceLeDiff, q1, bne1, beq1, hlen, a1, a2, a3, b1, b2, b3, e0, l8, l10, d1, d2, d3, g1, g2, g3]); try rfl) rfl rfl
  | some y =>
    have hps : (prsT u).isSome = true := by rw [hpu]; rfl
    obtain ⟨hfy, hvy⟩ := prsT_back hpu
    have ho8 := ho6.enc
    rw [hpu] at ho8 hwt
    have hwy : y.wt ≤ 600 := hwt
    have hcy := T.count_wt y
    have hee : (u.toList == u.toList) = true := beq_self_eq_true _
    (repeat (first | refine W_seqS ?_ | refine W_seqC ?_ | refine W_seqB ?_ | refine W_block ?_)); refine W_reg rfl fun G K hG hK => ?_; simp (disch := omega) only [go_sem, ↓reduceIte, Nat.reduceEqDiff, Nat.reduceAdd, Nat.reduceLeDiff, hG, q1, bne1, beq1, hlen, a1, a2, a3, b1, b2, b3, e0, l8, l10, d1, d2, d3, g1, g2, g3, hps, Option.isSome_some]
    refine w_call (implFmt_ok y sh _ (Lim.of_wt y (by omega)) (by omega) (Enc.ext x7 _ _ ho8)) (by simp (disch := omega) only [go_sem, ↓reduceIte, Nat.reduceEqDiff, q1, bne1, beq1, hlen, a1, a2, a3, b1, b2, b3, e0, l8, l10, d1, d2, d3, g1, g2, g3]) ?hl ?_
    case hl => first | rfl | (simp only [go_sem, List.all_cons, List.all_nil, Bool.not_false, Bool.and_self, q1, bne1, beq1, hlen, a1, a2, a3, b1, b2, b3, e0, l8, l10, d1, d2, d3, g1, g2, g3]; done)
    rintro r_ si ⟨x9, rfl⟩; refine ⟨fun e => (by cases e), ?_⟩
    simp (disch := omega) only [go_sem, ↓reduceIte, Nat.reduceEqDiff, Nat.reduceAdd, Nat.reduceLeDiff, hG, q1, bne1, beq1, hlen, a1, a2, a3, b1, b2, b3, e0, l8, l10, d1, d2, d3, g1, g2, g3, hps, Option.isSome_some, hfy, hee]; refine hK _ _ ?_; clear hK K hG G; repeat (first | refine thenI ?_ | refine thenE ?_ | refine thenR ?_ | refine inBI ?_ | refine inBR ?_ | refine inBS ?_ | refine inBN (by decide) ?_)
    repeat (first | (refine W_reg rfl fun G K hG hK => ?_; simp (disch := omega) only [go_sem, ↓reduceIte, Nat.reduceEqDiff, Nat.reduceAdd, Nat.reduceLeDiff, hG, q1, bne1, beq1, hlen, a1, a2, a3, b1, b2, b3, e0, l8, l10, d1, d2, d3, g1, g2, g3]; refine hK _ _ ?_; clear hK K hG G) | (refine W_end rfl fun G K hG hK => ?_; simp (disch := omega) only [go_sem, ↓reduceIte, Nat.reduceEqDiff, Nat.reduceAdd, Nat.reduceLeDiff, hG, q1, bne1, beq1, hlen, a1, a2, a3, b1, b2, b3, e0, l8, l10, d1, d2, d3, g1, g2, g3]; refine hK _ _ ?_; clear hK K hG G; repeat (first | refine thenI ?_ | refine thenE ?_ | refine thenR ?_ | refine inBI ?_ | refine inBR ?_ | refine inBS ?_ | refine inBN (by decide) ?_)) | refine W_seqS ?_ | refine W_seqC ?_ | refine W_seqB ?_ | refine W_block ?_ | (refine W_skip ?_; repeat (first | refine thenI ?_ | refine thenE ?_ | refine thenR ?_ | refine inBI ?_ | refine inBR ?_ | refine inBS ?_ | refine inBN (by decide) ?_)) | (refine W_condT ?hc ?_; (case hc => (simp (disch := omega) only [go_sem, ↓reduceIte, Nat.reduceEqDiff, Nat.reduceAdd, Nat.reduceLeDiff, q1, bne1, beq1, hlen, a1, a2, a3, b1, b2, b3, e0, l8, l10, d1, d2, d3, g1, g2, g3]; done))) | (refine W_condF ?hc ?_; (case hc => (simp (disch := omega) only [go_sem, ↓reduceIte, Nat.reduceEqDiff, Nat.reduceAdd, Nat.reduceLeDiff, q1, bne1, beq1, hlen, a1, a2, a3, b1, b2, b3, e0, l8, l10, d1, d2, d3, g1, g2, g3]; done))))
    refine W_ret ?_; try (repeat (first | refine thenI ?_ | refine thenE ?_ | refine thenR ?_ | refine inBI ?_ | refine inBR ?_ | refine inBS ?_ | refine inBN (by decide) ?_))
    refine fin1 (.inl rfl) (by (simp (disch := omega) only [go_sem, ↓reduceIte, Nat.reduceEqDiff, Nat.reduceAdd, Nat.reduceLeDiff, q1, bne1, beq1, hlen, a1, a2, a3, b1, b2, b3, e0, l8, l10, d1, d2, d3, g1, g2, g3]); try rfl) rfl rfl

end

end Go.Proofs.YtpkjgjomiikofaaDoor.AM
/- Arguments: rows of bytes. -/
namespace Go.Proofs.YtpkjgjomiikofaaDoor.AM
open Go Go.Proofs
set_option linter.unusedVariables false
theorem open_bytes {H : Type} {enc : TypeId × Value → H} {w : World} (fuel : Nat) (cs : List Value) (x : DataW H × List MemPlace) (h : DataW.trod enc Tryd.prog w 0 (fun _ => true) true fuel 22 cs = some x) :
    ∃ s, ∃ xs : List Byt, cs = [s] ∧ Told w s ∧ RowY (absS w) xs (absV w.heap.size s) ∧ xs.length ≤ maxLen ∧ ∀ z ∈ xs, (Lit.int .u8 z.v).wf = true :=
  open_rowA (E := EncY (absS w)) (G := fun z : Byt => (Lit.int .u8 z.v).wf = true) (sz := 1) Tryd.underlying22 (by kernel_rfl) (by omega) h fun n_ cs_ y_ hn_ hy_ => by
    obtain ⟨z, rfl, hw⟩ := toldA_int Tryd.underlying5 hy_
    exact ⟨⟨z⟩, rfl, hw, fun c hc => by cases List.mem_singleton.1 hc; rfl⟩
end Go.Proofs.YtpkjgjomiikofaaDoor.AM


/-
  DERIVED. GIVEN WITH THE SEED: THE PROGRAM's TIES (one call each: nine closed facts by the kernel) AND EACH ROW's TIE, after the 31st guide's Derived/Test/Toyas{Tie, Card}.lean. No idea stands in it: it is a product of the set-up. Laid BY PROGRAM, IN A SANDBOX (cutbox-door.mjs). By AI agents, Wed Nov 11 2026. No macro, syntax, notation, axiom, sorry.
-/
namespace Go.Proofs.YtpkjgjomiikofaaDoor
open Go
set_option maxRecDepth 100000
theorem seatTie1 : Tryd.prog.laidByTextLater [("math/bits.deBruijn32tab", Rows.laid_math_bits_deBruijn32tab), ("math/bits.deBruijn64tab", Rows.laid_math_bits_deBruijn64tab), ("internal/strconv.uint64pow10", Rows.laid_internal_strconv_uint64pow10), ("strconv.ErrRange", Rows.laid_strconv_ErrRange), ("strconv.ErrSyntax", Rows.laid_strconv_ErrSyntax)] [.data, .data, .data, .sentinel, .sentinel] true :=
  Program.laidByTextLater_by_one 62 8 65 (by kernel_rfl) (by kernel_rfl) (by kernel_rfl) (by kernel_rfl) (by kernel_rfl) (by kernel_rfl) (fun _ _ => by kernel_rfl)
theorem noOwnUnsafe : Tryd.pinned.checked.prog.headLifts.contains "ownunsafe" = false := by kernel_rfl
theorem tie : Tryd.prog.laidByTextLater [("math/bits.deBruijn32tab", Rows.laid_math_bits_deBruijn32tab), ("math/bits.deBruijn64tab", Rows.laid_math_bits_deBruijn64tab), ("internal/strconv.uint64pow10", Rows.laid_internal_strconv_uint64pow10), ("strconv.ErrRange", Rows.laid_strconv_ErrRange), ("strconv.ErrSyntax", Rows.laid_strconv_ErrSyntax)] [.data, .data, .data, .sentinel, .sentinel] true :=
  Program.laidByTextLater.sub seatTie1 ["math/bits.deBruijn32tab", "math/bits.deBruijn64tab", "internal/strconv.uint64pow10", "strconv.ErrRange", "strconv.ErrSyntax"] (by kernel_rfl) (by kernel_rfl)
theorem fnTermText_row_tie : Rows.fnTermTextRow.laidByTextAt .later Tryd.pinned [.data, .data, .data, .sentinel, .sentinel] true :=
  OpenClaim.laidByTextAt_later rfl rfl tie noOwnUnsafe
end Go.Proofs.YtpkjgjomiikofaaDoor


/-
  DERIVED. GIVEN WITH THE SEED: THE CARDS: each row of YtpkjgjomiikofaaDoorRows.lean that lists a variable, with what it lists TIED to the program's text (the seventh form; the later family's looks); each row that meets fmt, with fmt's text TOLD by the authors' own Lean function (tested against real Go, not proved from fmt's source: count such statements apart). THE CARD IS WHAT COUNTS. Prove the row's statement (the work); the ties are given (YtpkjgjomiikofaaDoorTie.lean); close each card by the builder's one call (the guide's Derived/Test/ToyasCard.lean, 'card_holds'). Laid BY PROGRAM, IN A SANDBOX (cutbox-door.mjs). By AI agents, Wed Nov 11 2026. No macro, syntax, notation, axiom, sorry.
-/
namespace Go.Proofs.YtpkjgjomiikofaaDoor
namespace Rows

/-- THE TIED CARD OF 'laws.FnTermText'. -/
def fnTermTextCard : Claim7 := { stood := { row := fnTermTextRow, standIns := [], harness := (true, "7258a71d4c5e3c6349d7790b119e03a1f84f977fc14706a4debf1a656a2e1560"), looks := true }, kinds := [], alts := [], laidByText := true, laidKinds := [.data, .data, .data, .sentinel, .sentinel], laidTests := true, laidLooks := .later }
def FnTermTextCardSaid : Prop := Claim7.holds Tryd.pinned (.plain (OpenSpec.ofChange fnTermTextSpec)) fnTermTextCard

end Rows
end Go.Proofs.YtpkjgjomiikofaaDoor


/- The law FnTermText, for every input: it returns true; the input reads as it did. -/
namespace Go.Proofs.YtpkjgjomiikofaaDoor.fnTermText
open Go Go.Proofs Go.ChangeShapes Go.WideShapes Go.ChangeAt Go.RowKit Go.Proofs.YtpkjgjomiikofaaDoor.AM
open Go.ChangeMaps (open_string shut_string)
set_option linter.unusedVariables false
set_option linter.unusedSimpArgs false
theorem own : ownKnob Tryd.prog.godebug = none := by kernel_rfl
theorem laidOut : laidOutB Tryd.prog = true := by kernel_rfl
theorem door_met (os : Os) (args : Array Value) : laidMetH Tryd.prog Rows.fnTermTextRow.laid ((World.doorLaid Tryd.prog 400 os).forCall (fun _ _ => 0) ⟨#[], args, []⟩).memory :=
  laidMetH_of_parts3 (fuel := 8) (laidMet_of_run' 8 (by kernel_rfl) (by kernel_rfl)) (by kernel_rfl) (by kernel_rfl)
theorem gPow : Tryd.prog.globalNamed "internal/strconv.uint64pow10" = some 0 := by kernel_rfl
theorem starErr : "*" ++ "errors.errorString" = "*errors.errorString" := by decide
theorem rowErr (u : TypeId) (h : Tryd.prog.typeName? 3 u = some "*errors.errorString") : u = 120 :=
  typeName_ptr_named (nm := "errors.errorString") (by rw [starErr]; kernel_rfl) (by kernel_rfl) (by decide) u (by rw [starErr]; exact h)
theorem gErrSyntax : Tryd.prog.globalNamed "strconv.ErrSyntax" = some 2 := by kernel_rfl
theorem errErrSyntax {W : World} (h : laidMet Tryd.prog [("strconv.ErrSyntax", Rows.laid_strconv_ErrSyntax)] W) : ∃ tp p, W.var? Tryd.prog "strconv.ErrSyntax" = some #[.iface tp p] := by
  obtain ⟨a0, s0, hv0, -, -, -⟩ := laid_sentinel h gErrSyntax (by kernel_rfl) Tryd.underlying83 rowErr Tryd.underlying120 Tryd.underlying122 rfl rfl Tryd.underlying9 (by kernel_rfl) (by kernel_rfl)
  exact ⟨_, _, hv0⟩
theorem gErrRange : Tryd.prog.globalNamed "strconv.ErrRange" = some 3 := by kernel_rfl
theorem errErrRange {W : World} (h : laidMet Tryd.prog [("strconv.ErrRange", Rows.laid_strconv_ErrRange)] W) : ∃ tp p, W.var? Tryd.prog "strconv.ErrRange" = some #[.iface tp p] := by
  obtain ⟨a0, s0, hv0, -, -, -⟩ := laid_sentinel h gErrRange (by kernel_rfl) Tryd.underlying83 rowErr Tryd.underlying120 Tryd.underlying122 rfl rfl Tryd.underlying9 (by kernel_rfl) (by kernel_rfl)
  exact ⟨_, _, hv0⟩
theorem tab {W : World} (h : laidMetH Tryd.prog Rows.fnTermTextRow.laid W) : Tab Tryd.prog W := by
  rw [MakeChecks.laidMetH_plain _ _ _ (by kernel_rfl)] at h
  have h1 : laidMet Tryd.prog [("internal/strconv.uint64pow10", Lib.tabData .u64 Lib.pow10Tab)] W := h.filter (fun x => x.1 == "internal/strconv.uint64pow10")
  have h2 : laidMet Tryd.prog [("strconv.ErrSyntax", Rows.laid_strconv_ErrSyntax)] W := h.filter (fun x => x.1 == "strconv.ErrSyntax")
  have h3 : laidMet Tryd.prog [("strconv.ErrRange", Rows.laid_strconv_ErrRange)] W := h.filter (fun x => x.1 == "strconv.ErrRange")
  exact ⟨fun _ => Lib.tabIs_of_head gPow (by kernel_rfl) Tryd.underlying107 Tryd.underlying91 (by kernel_rfl) (by kernel_rfl) h1, fun nm h hne => (h.elim (fun e => by subst e; exact errErrSyntax h2) fun e => by subst e; exact errErrRange h3)⟩
set_option maxRecDepth 100000 in
theorem lifted (os : Os) (started : os.Started) (H : Type) (enc : TypeId × Value → H) :
    ReturnsInHanded {} Tryd.checked os 3 .any (fun w args => (Rows.fnTermTextSpec.pre enc Tryd.prog Tryd.f3 Rows.fnTermTextRow.domain false w args ∧ laidMetH Tryd.prog Rows.fnTermTextRow.laid w) ∧ sizedMet enc Tryd.prog Tryd.f3 (OpenSpec.ofChange Rows.fnTermTextSpec) false w args) (Rows.fnTermTextSpec.post enc Tryd.prog Tryd.f3 false true false false) := by
  refine returnsInHanded_of_change_and (C := Tryd.checked) (X := fun w _ => laidMetH Tryd.prog Rows.fnTermTextRow.laid w) (fun _ _ _ hh h => h.of_heap hh) own started (by kernel_rfl) Tryd.func3
    (ChangeSpec.witness_shaped (enc := enc) (C := Tryd.checked) (os := os) (X := fun w _ => laidMetH Tryd.prog Rows.fnTermTextRow.laid w) false (World.doorLaid Tryd.prog 400 os) #[.slice none 0 0] 8 rfl (World.shaped_of_RefB (by kernel_rfl) (by kernel_rfl)) (by kernel_rfl) (by kernel_rfl) (by kernel_rfl) (door_met os _)) ?_
  intro W base args ds gs before hval0 hW hcnd hsz0 hL _
  have hval : ∀ (j : Nat) t v, Tryd.f3.params[j]? = some t → args[j]? = some v → Value.okWide Tryd.prog W .any base t v := hval0
  have hW' := hW
  obtain ⟨p, q, hA0, hV, rfl, hfz, hnd⟩ := hW
  have hA : DataW.TrodAll enc Tryd.prog W 0 (fun _ => true) true Tryd.f3.params.toList args.toList ds p := hA0
  rw [Tryd.params3] at hA hval
  obtain ⟨v0, vs0, d0, ds0, p0, q0, hargs, rfl, rfl, h0, r0⟩ := trodAll_cons hA
  obtain ⟨rfl, rfl, rfl⟩ := trodAll_nil r0
  obtain rfl : args = #[v0] := by cases args; simp_all
  obtain ⟨rfl, rfl⟩ := trodVars_none hV
  have k0 := h0
  have lt0 : ∀ x ∈ p0, x.block < W.heap.size := by obtain ⟨m, hm⟩ := k0; exact DataW.trod_lt m _ _ _ hm
  obtain ⟨ad0, len0, cap0, rfl⟩ := okWide_slice Tryd.underlying22 (hval 0 22 v0 rfl rfl)
  obtain ⟨fuel0, hf0⟩ := h0
  obtain ⟨s0, xs0, hs0, T0, R0, N0, G0⟩ := open_bytes fuel0 _ _ hf0
  obtain rfl : _ = s0 := (List.cons.inj hs0).1
  have hc := wFnTermText (absS W) xs0 _ R0 N0
  clear hA0 hval0 hcnd hsz0 hval hA
  refine (hc.enters (tab hL) (.cons _ _ _ _ (.inl ⟨T0, rfl⟩) .nil)).mono fun e W' ⟨he, bel⟩ => ?_
  subst he
  exact ⟨_, rfl, _, _, _, [], _, [], hW', trodAll_mk1 (shut_bool Tryd.underlying4 _), (trodAll_cons_mk (Below.trod laidOut (by kernel_rfl) (of_decide_eq_true (by kernel_rfl)) k0 bel lt0) trodAll_mk0), rfl, bel.frame _, fun h => by cases h⟩
theorem over : Rows.fnTermTextRow.holds Tryd.pinned (OpenSpec.ofChange Rows.fnTermTextSpec) :=
  OpenClaim.holds_of_wide 3 Tryd.f3 rfl rfl rfl rfl rfl rfl rfl ⟨rfl, rfl, rfl, rfl, rfl⟩ rfl rfl rfl rfl rfl (by kernel_rfl) Tryd.func3 (by kernel_rfl)
    (of_decide_eq_true (by kernel_rfl)) (by unfold Func.isWrapper; first | (rw [if_pos (by decide +kernel)]; kernel_rfl) | (rw [if_neg (by decide +kernel)]; exact ⟨rfl, rfl⟩))
    (fun os started H enc _ => lifted os started H enc)
theorem card : Rows.FnTermTextCardSaid :=
  Claim7.holds_tied_plain_at .later [] [.data, .data, .data, .sentinel, .sentinel] true Rows.fnTermTextCard.stood.harness Rows.fnTermTextCard.stood.looks
    over (fun _ h => by cases h) (by kernel_rfl) (fun _ h => by cases h) fnTermText_row_tie rfl ⟨rfl, rfl⟩ (by kernel_rfl) rfl
    (fun f fn hf hfn => by
      obtain rfl : f = 3 := Option.some.inj ((show Tryd.prog.funcNamed "loop.example/g00517/laws.FnTermText" = some 3 by kernel_rfl).symm.trans hf) |>.symm
      obtain rfl : fn = Tryd.f3 := (Option.some.inj (Tryd.func3.symm.trans hfn)).symm
      exact ⟨by kernel_rfl, fun j t ht => by
        rw [Tryd.params3] at ht
        have hm : t ∈ [22] := by simpa using Array.mem_of_getElem? ht
        have hall : ([22].all fun u => !Tryd.prog.wantsStandIn u) = true := by kernel_rfl
        exact (show Tryd.prog.wantsStandIn t = false by simpa using List.all_eq_true.1 hall t hm)⟩)
    (by kernel_rfl)
end Go.Proofs.YtpkjgjomiikofaaDoor.fnTermText
namespace Go.Proofs.YtpkjgjomiikofaaDoor
/-- The card, under a short name, for the claim. -/
theorem fnTermText_holds : Rows.FnTermTextCardSaid := fnTermText.card
end Go.Proofs.YtpkjgjomiikofaaDoor

