/- My texts for the law, laid together (part 4): O12 F3 F4 O5 N3 Q4 C19 C18 O6 F16 E7 Tie Cards ZFnAllPositions. -/
import Derived.Test.YtkohkdlbjbbegaaDoorG3
import Derived.Test.YtkohkdlbjbbegaaDoorShelf
import Derived.Lib.Join
import Derived.Test.YtkohkdlbjbbegaaDoorRows
import Derived.LaidByTextLater
import Derived.SevenTiedAt
import Derived.LaidSub
import Derived.LaidOnce
import GoSem.ClaimSeven
import Derived.Lib.LaidTab
import Derived.LaidMore
import Derived.MakeChecks
import Derived.Stop.LaidErr
import Derived.Stop.Joined
import Derived.WalkKit
import Derived.ProofKit
import Derived.OpenShut
import Derived.ShutString
import Derived.ChangeOld
import Derived.Below
import Derived.SizedLaws
import Derived.Carry
/- A text is split at a byte, and joined: impl.SplitByte, spec.SplitByte, strings.Join, DrawSplitByte. -/
namespace Go.Proofs.YtkohkdlbjbbegaaDoor.AM
open Go Go.Proofs
set_option linter.unusedVariables false
set_option linter.unusedSimpArgs false
set_option maxRecDepth 100000
attribute [local go_sem] List.map_cons List.map_nil List.all_cons List.all_nil Bool.and_self Option.map_some List.getElem?_toArray Option.bind_some gye_b gye_t gsk_b gsk_t gb1 gb2 gb3 gb4 bne_self_eq_false beq_self_eq_true w_guard w_nil stepV_some step_some step_some' w_move w_assign w_pick w_binOp w_unOp w_load w_fieldAddr w_indexAddr w_len w_max w_index ev_max max_int ev_index w_box w_alloc w_store w_field w_extract w_nilCheck w_convert w_buildSlice w_build ev_buildL fillL_nil fillL_cons bs0 bs1 ev_conv ev_bin ev_un ev_pick ev_load ev_fieldAddr ev_indexAddr ev_len ev_field ev_extract ev_nilCheck fr_tmp fr_int fr_bool fr_str fr_nil fr_func put_some put_none bin_lss bin_leq bin_gtr bin_geq bin_eql bin_neq bin_add bin_sub bin_mul bin_seql bin_sneq un_not pick_ ext_ loadA_p cellAt_l cellAt_h okPtr_l okPtr_h fadA_p allocA_l storeA_l cells_agg cells_int cells_str cells_sl cells_bool flat_i flat_s flat_b flat_sl flat_nil loc_agg loc_int loc_str loc_sl loc_bool loc_fn loc_ptr okv_agg okv_int okv_str okv_sl okv_bool cellsFrom splice upd_eval argEnv_zero argEnv_succ ne_eq Nat.add_one_ne_zero not_false_eq_true List.not_mem_nil and_self decide_true List.getElem?_cons_zero List.getElem?_cons_succ List.size_toArray List.length_cons List.length_nil List.take_succ_cons List.take_zero List.drop_succ_cons List.drop_zero List.cons_append List.nil_append List.drop_nil Bool.not_true Bool.not_false Bool.false_eq_true Nat.zero_add Nat.add_zero wrap_in List.toList_toArray List.mem_cons or_self or_false false_or
attribute [local go_sem] ag22 ag24 ag26 ag3 ag33 ag5 ag62 ag76 ag9 bu26 bu56 by26 by3 by33 by5 by9 el22 el24 el28 el33 el44 of26_0 of26_1 of26_2 of26_3 of56_0 of56_1 of56_2 of64_0 of64_1 ro26_0 ro26_1 ro26_2 ro3_0 ro3_1 ro3_3 ro33_0 ro33_1 ro5_0 ro5_1 ro9_0 ro9_1 ro9_2 ro9_3 ro9_4 sz22 sz24 sz26 sz3 sz33 sz5 sz62 sz76 sz9 ze26 ze3 ze33 ze5 ze64 ze75 ze88 ze9
-- AUTO

/-- A cell that stands, in the world. -/
theorem HR.cell {P : Program} {B : Base} {M : List ME} {st : St} {w : World} (h : HR P B M st w) {i j : Nat} {m : ME} {x : Value} (hm : M[i]? = some m) (hc : cell st i j = some x) : one x = true ∧ ∃ y, w.cell? ⟨m.b, j, none⟩ = some y ∧ VR M x y := by
  simp only [AM.cell] at hc
  split at hc
  · rename_i blk hb
    split at hc
    · cases hc
    · rename_i hst
      obtain ⟨c, ⟨q, hw, _⟩, _, _, hcr, _⟩ := h.blk i blk m hb hm hst (fun e => by rw [e.2] at hc; simp at hc)
      obtain ⟨h1x, y, hy, hv⟩ : one x = true ∧ ∃ y, c[j]? = some y ∧ VR M x y := by
        split at hc
        · rename_i h1
          cases hq : blk.cells[j]? with
          | none => rw [hq] at hc; cases hc
          | some v =>
            rw [hq] at hc
            simp only at hc
            by_cases hj : isJ v = true
            · rw [if_pos hj] at hc; cases hc
            · rw [if_neg hj] at hc
              obtain rfl := Option.some.inj hc
              exact (hcr j v hq).resolve_left fun e => hj e.2
        · rename_i h1
          exact (hcr.cr h1) j x hc
      exact ⟨h1x, y, by simp [World.cell?, hw, hy], hv⟩
  · cases hc
theorem join_ok (xs : List ByteArray) (sep : ByteArray) (st : St) (s : Value) (hbig : xs.length ≤ 1073741824) (hlen : (Lib.join (xs.map (·.data.toList)) sep.data.toList).length ≤ 140737488355328) (hr : Rw st xs s) :
    CallS Tryd.prog 34 [s, .string sep] st fun r st2 => r = .string ⟨(Lib.join (xs.map (·.data.toList)) sep.data.toList).toArray⟩ ∧ st2 = st := by
  refine ⟨⟨_, Tryd.func34, rfl, rfl⟩, fun M w vals hH hV => ?_⟩
  obtain ⟨v, u, rfl, hv, hu⟩ := hV.two'
  obtain rfl := hu.flat_eq rfl
  have hnil : ∀ a c, xs = [] → v = .slice a 0 c → Calls Tryd.prog 34 #[v, .string sep] w fun e w' => ∃ r v' st' M', e = .returned v' ∧ (r = .string ⟨(Lib.join (xs.map (·.data.toList)) sep.data.toList).toArray⟩ ∧ st' = st) ∧ VR M' r v' ∧ HR Tryd.prog ⟨w, M, st⟩ M' st' w' := by
    rintro a c rfl rfl
    refine (Tryd.strings_Join_none a c sep w).mono fun e w' ⟨he, hw⟩ => ?_
    subst hw
    exact ⟨_, _, st, M, he, ⟨rfl, rfl⟩, .fl _ rfl, hH⟩
  rcases hr with ⟨he, hx⟩ | ⟨i, o, c, rfl, hrow⟩
  · rcases he with rfl | rfl
    · exact hnil none 0 hx (hv.flat_eq rfl)
    · cases hv with
      | fl _ hf => simp [flat1] at hf
      | emp a => exact hnil (some a) 0 hx rfl
  · cases hv with
    | fl _ hf => simp [flat1] at hf
    | sl _ _ o' n k c' m hm hn hc =>
      rcases Nat.eq_zero_or_pos xs.length with h0 | hpos
      · exact hnil _ c' (List.eq_nil_of_length_eq_zero h0) (by rw [h0])
      have ho : o' = o := by
        rcases hc with ⟨h1, _⟩ | h1
        · exact h1
        · omega
      subst ho
      refine (Tryd.strings_Join m.b o' c' xs sep w (fun j x hx => ?_) (hH.lt i m hm) (by omega) hn hlen).mono fun e w' ⟨he, hw⟩ => ⟨_, _, st, M, he, ⟨rfl, rfl⟩, .fl _ rfl, hH.below hw⟩
      obtain ⟨cs, hcl, hE, hcs⟩ := hrow j x hx
      obtain rfl : cs = [.string x] := hE
      obtain ⟨_, y, hy, hvy⟩ := hH.cell hm (hcs 0 (.string x) rfl)
      have := hvy.flat_eq rfl
      subst this
      have e1 : o' + j * Kind.sz ByteArray + 0 = o' + j := by show o' + j * 1 + 0 = _; omega
      rw [e1] at hy
      exact hy
theorem implJoin_ok (xs : List ByteArray) (sep : ByteArray) (st : St) (s : Value) (hbig : xs.length ≤ 1073741824) (hlen : (Lib.join (xs.map (·.data.toList)) sep.data.toList).length ≤ 140737488355328) (hr : Rw st xs s) :
    CallS Tryd.prog 21 [s, .string sep] st fun r st2 => r = .string ⟨(Lib.join (xs.map (·.data.toList)) sep.data.toList).toArray⟩ ∧ st2 = st := by
  refine CallS_of_W [] 8 Tryd.func21 rfl rfl rfl rfl (by simp) ?_
  have q1 := hr.notLoc.1
  repeat (first | (refine W_reg rfl fun G K hG hK => ?_; simp (disch := omega) only [go_sem, ↓reduceIte, Nat.reduceEqDiff, Nat.reduceAdd, Nat.reduceLeDiff, hG, q1]; refine hK _ _ ?_; clear hK K hG G) | (refine W_end rfl fun G K hG hK => ?_; simp (disch := omega) only [go_sem, ↓reduceIte, Nat.reduceEqDiff, Nat.reduceAdd, Nat.reduceLeDiff, hG, q1]; refine hK _ _ ?_; clear hK K hG G; repeat (first | refine thenI ?_ | refine thenE ?_ | refine thenR ?_ | refine inBI ?_ | refine inBR ?_ | refine inBS ?_ | refine inBN (by decide) ?_)) | refine W_seqS ?_ | refine W_seqC ?_ | refine W_seqB ?_ | refine W_block ?_ | (refine W_skip ?_; repeat (first | refine thenI ?_ | refine thenE ?_ | refine thenR ?_ | refine inBI ?_ | refine inBR ?_ | refine inBS ?_ | refine inBN (by decide) ?_)) | (refine W_condT ?hc ?_; (case hc => (simp (disch := omega) only [go_sem, ↓reduceIte, Nat.reduceEqDiff, Nat.reduceAdd, Nat.reduceLeDiff, q1]; done))) | (refine W_condF ?hc ?_; (case hc => (simp (disch := omega) only [go_sem, ↓reduceIte, Nat.reduceEqDiff, Nat.reduceAdd, Nat.reduceLeDiff, q1]; done))))
  (repeat (first | refine W_seqS ?_ | refine W_seqC ?_ | refine W_seqB ?_ | refine W_block ?_)); refine W_reg rfl fun G K hG hK => ?_; simp (disch := omega) only [go_sem, ↓reduceIte, Nat.reduceEqDiff, Nat.reduceAdd, Nat.reduceLeDiff, hG, q1]
  refine w_call (join_ok xs sep st s hbig hlen hr) (by simp (disch := omega) only [go_sem, ↓reduceIte, Nat.reduceEqDiff, q1]) ?hl ?_
  case hl => first | rfl | (simp only [go_sem, List.all_cons, List.all_nil, Bool.not_false, Bool.and_self, q1]; done)
  rintro r_ st ⟨rfl, rfl⟩; refine ⟨fun e => (by cases e), ?_⟩
  simp (disch := omega) only [go_sem, ↓reduceIte, Nat.reduceEqDiff, Nat.reduceAdd, Nat.reduceLeDiff, hG, q1]; refine hK _ _ ?_; clear hK K hG G; repeat (first | refine thenI ?_ | refine thenE ?_ | refine thenR ?_ | refine inBI ?_ | refine inBR ?_ | refine inBS ?_ | refine inBN (by decide) ?_)
  refine W_ret ?_; try (repeat (first | refine thenI ?_ | refine thenE ?_ | refine thenR ?_ | refine inBI ?_ | refine inBR ?_ | refine inBS ?_ | refine inBN (by decide) ?_))
  refine fin1 (.inl rfl) (by (simp (disch := omega) only [go_sem, ↓reduceIte, Nat.reduceEqDiff, Nat.reduceAdd, Nat.reduceLeDiff, q1]); try rfl) rfl ⟨rfl, rfl⟩

end Go.Proofs.YtkohkdlbjbbegaaDoor.AM


/- Positions as texts: spec.Join, impl.FormatPosition, spec.FormatPosition; the law FnExactFormatPosition. -/
namespace Go.Proofs.YtkohkdlbjbbegaaDoor.AM
open Go Go.Proofs
set_option linter.unusedVariables false
set_option linter.unusedSimpArgs false
set_option maxRecDepth 100000
attribute [local go_sem] List.map_cons List.map_nil List.all_cons List.all_nil Bool.and_self Option.map_some List.getElem?_toArray Option.bind_some gye_b gye_t gsk_b gsk_t gb1 gb2 gb3 gb4 bne_self_eq_false beq_self_eq_true w_guard w_nil stepV_some step_some step_some' w_move w_assign w_pick w_binOp w_unOp w_load w_fieldAddr w_indexAddr w_len w_max w_index ev_max max_int ev_index w_box w_alloc w_store w_field w_extract w_nilCheck w_convert w_buildSlice w_build ev_buildL fillL_nil fillL_cons bs0 bs1 ev_conv ev_bin ev_un ev_pick ev_load ev_fieldAddr ev_indexAddr ev_len ev_field ev_extract ev_nilCheck fr_tmp fr_int fr_bool fr_str fr_nil fr_func put_some put_none bin_lss bin_leq bin_gtr bin_geq bin_eql bin_neq bin_add bin_sub bin_mul bin_seql bin_sneq un_not pick_ ext_ loadA_p cellAt_l cellAt_h okPtr_l okPtr_h fadA_p allocA_l storeA_l cells_agg cells_int cells_str cells_sl cells_bool flat_i flat_s flat_b flat_sl flat_nil loc_agg loc_int loc_str loc_sl loc_bool loc_fn loc_ptr okv_agg okv_int okv_str okv_sl okv_bool cellsFrom splice upd_eval argEnv_zero argEnv_succ ne_eq Nat.add_one_ne_zero not_false_eq_true List.not_mem_nil and_self decide_true List.getElem?_cons_zero List.getElem?_cons_succ List.size_toArray List.length_cons List.length_nil List.take_succ_cons List.take_zero List.drop_succ_cons List.drop_zero List.cons_append List.nil_append List.drop_nil Bool.not_true Bool.not_false Bool.false_eq_true Nat.zero_add Nat.add_zero wrap_in List.toList_toArray List.mem_cons or_self or_false false_or
attribute [local go_sem] ag22 ag24 ag26 ag3 ag33 ag5 ag62 ag76 ag9 bu26 bu56 by26 by3 by33 by5 by9 el22 el24 el28 el33 el44 of26_0 of26_1 of26_2 of26_3 of56_0 of56_1 of56_2 of64_0 of64_1 ro26_0 ro26_1 ro26_2 ro3_0 ro3_1 ro3_3 ro33_0 ro33_1 ro5_0 ro5_1 ro9_0 ro9_1 ro9_2 ro9_3 ro9_4 sz22 sz24 sz26 sz3 sz33 sz5 sz62 sz76 sz9 ze26 ze3 ze33 ze5 ze64 ze75 ze88 ze9
-- AUTO

instance : Kind UInt8 where
  sz := 1
  e := 5
  enc := fun _ n cs => cs = [.int .u8 n.toNat]
  own := fun _ n cs L => cs = [.int .u8 n.toNat] ∧ L = []
  enc_len := fun _ _ _ h => by rw [h]; rfl
  enc_ext := fun _ _ _ _ _ h => h
  own_len := fun _ _ _ _ h => by rw [h.1]; rfl
  own_lt := fun _ _ _ _ h => by rw [h.2]; intro i hi; cases hi
  own_frame := fun _ _ _ _ _ _ h => h
  own_enc := fun _ _ _ _ h => h.1
theorem rowO_bytes (st : St) : ∀ l : List UInt8, RowO (Kind.own (α := UInt8) st) l (l.map fun b => Value.int .u8 b.toNat) []
  | [] => .nil
  | b :: l => .cons b l [.int .u8 b.toNat] _ [] [] ⟨rfl, rfl⟩ (rowO_bytes st l)
theorem bytes_rowO {st : St} {l : List UInt8} {cs : List Value} {K : List Nat} (h : RowO (Kind.own (α := UInt8) st) l cs K) : cs = l.map fun b => Value.int .u8 b.toNat := by
  induction h with
  | nil => rfl
  | cons x xs cx cs Lx L h hs ih =>
    obtain ⟨rfl, rfl⟩ := h
    rw [ih]; rfl
theorem Sl.appStr {n0 : Nat} {st st2 : St} {xs : List UInt8} {w : ByteArray} {s : Value} {L : List Nat} (h : Sl st xs s L) (hf : Fresh n0 L) (hn0 : n0 ≤ st.length) (hext : Ext st st2) (hbd : xs.length + w.size ≤ 1099511627776) :
    ∃ s' st' L', appendA Tryd.prog 22 9 s (.string w) st2 = some (s', st') ∧ Sl st' (xs ++ w.data.toList) s' L' ∧ Fresh n0 L' ∧ Grow st2 s st' s' := by
  have hwl : w.data.toList.length = w.size := by simp
  have hn : newsA Tryd.prog 9 (0 + 1) (.string w) st2 = some (w.data.toList.length, strCells w) := by
    unfold newsA
    rw [Tryd.underlying9, hwl]
    rfl
  exact SliceO.app (E := Kind.own (α := UInt8)) (fun st st' x cs L => Kind.own_frame st st' x cs L) (fun st x cs L => Kind.own_lt st x cs L) (sz := 0) (fun st x cs L h => Kind.own_len st x cs L h) Tryd.underlying22 sz5 by5 ze5 rfl h hf hn0 hext hn (rowO_bytes st2 _) ⟨by simp, by simp⟩ (by omega) (by omega)
theorem join_snoc (ys : List (List UInt8)) (x sep : List UInt8) (h : ys ≠ []) : Lib.join (ys ++ [x]) sep = Lib.join ys sep ++ sep ++ x := by
  cases ys with
  | nil => exact absurd rfl h
  | cons y r =>
    rw [List.cons_append, Lib.join_cons, Lib.join_cons]
    simp [Lib.joinTail]
theorem Sl.conv {st : St} {o : List UInt8} {r : Value} {L : List Nat} (h : Sl st o r L) (ht : ∃ b, topId r = some b) (A : List Tmp) (loc : Nat → Nat × List Value) : flat r = false ∧ cvB Tryd.prog A 22 9 r loc st = some (.string ⟨o.toArray⟩) := by
  rcases h with ⟨rfl, _⟩ | ⟨i, c, cs, K, rfl, h1, h2, _⟩
  · obtain ⟨b, hb⟩ := ht; cases hb
  · refine ⟨rfl, ?_⟩
    have hsz : (⟨o.toArray⟩ : ByteArray).size = o.length := size_mk o
    have := cvB_str (P := Tryd.prog) (A := A) (loc := loc) (st := st) (t := 22) (u := 9) (e := 5) (q := ⟨o.toArray⟩) (b := i) (o := 0) (c := c) Tryd.underlying22 Tryd.underlying5 Tryd.underlying9 (fun j v hv => by
      rw [cell_of h1, Nat.zero_add, bytes_rowO h2]
      exact hv)
    rw [hsz] at this
    exact this
theorem specJoin_ok (xs : List ByteArray) (sep : ByteArray) (st : St) (s : Value) (hbig : xs.length ≤ 1073741824) (hxs : ∀ x ∈ xs, x.size ≤ 30) (hsp : sep.size ≤ 5) (hr : Rw st xs s) :
    CallS Tryd.prog 23 [s, .string sep] st fun r st2 => Ext st st2 ∧ r = .string ⟨(Lib.join (xs.map (·.data.toList)) sep.data.toList).toArray⟩ := by
  refine CallS_of_W [] 27 Tryd.func23 rfl rfl rfl rfl (by simp) ?_
  have q1 := hr.notLoc.1
  have hlen : lenE Tryd.prog 44 s = some (.int .i64 xs.length) := row_len hr Tryd.underlying44
  repeat (first | (refine W_reg rfl fun G K hG hK => ?_; simp (disch := omega) only [go_sem, ↓reduceIte, Nat.reduceEqDiff, Nat.reduceAdd, Nat.reduceLeDiff, hG, q1, hlen]; refine hK _ _ ?_; clear hK K hG G) | (refine W_end rfl fun G K hG hK => ?_; simp (disch := omega) only [go_sem, ↓reduceIte, Nat.reduceEqDiff, Nat.reduceAdd, Nat.reduceLeDiff, hG, q1, hlen]; refine hK _ _ ?_; clear hK K hG G; repeat (first | refine thenI ?_ | refine thenE ?_ | refine thenR ?_ | refine inBI ?_ | refine inBR ?_ | refine inBS ?_ | refine inBN (by decide) ?_)) | refine W_seqS ?_ | refine W_seqC ?_ | refine W_seqB ?_ | refine W_block ?_ | (refine W_skip ?_; repeat (first | refine thenI ?_ | refine thenE ?_ | refine thenR ?_ | refine inBI ?_ | refine inBR ?_ | refine inBS ?_ | refine inBN (by decide) ?_)) | (refine W_condT ?hc ?_; (case hc => (simp (disch := omega) only [go_sem, ↓reduceIte, Nat.reduceEqDiff, Nat.reduceAdd, Nat.reduceLeDiff, q1, hlen]; done))) | (refine W_condF ?hc ?_; (case hc => (simp (disch := omega) only [go_sem, ↓reduceIte, Nat.reduceEqDiff, Nat.reduceAdd, Nat.reduceLeDiff, q1, hlen]; done))))
  refine W_loop (fun d fr st' => ∃ (j : Nat) (o : List UInt8) (r : Value) (L : List Nat), d = xs.length - j ∧ j ≤ xs.length ∧ (Ext st st') ∧ (o = Lib.join ((xs.take j).map (·.data.toList)) sep.data.toList) ∧ (o.length ≤ 35 * j) ∧ (Sl st' o r L) ∧ (Fresh st.length L) ∧ (∃ b, topId r = some b) ∧ (fr.env 0 = s) ∧ (fr.env 1 = .string sep) ∧ (fr.env 5 = r) ∧ (fr.env 6 = .int .i64 j)) (xs.length) ?_ ?_
  · exact ⟨0, [], _, _, by omega, by omega, Ext.app _ _, by simp [Lib.join_nil], by simp, Sl.empty _, ⟨by simp, by simp⟩, ⟨_, rfl⟩, (by (simp (disch := omega) only [go_sem, ↓reduceIte, Nat.reduceEqDiff, Nat.reduceAdd, Nat.reduceLeDiff, q1, hlen]); try rfl), (by (simp (disch := omega) only [go_sem, ↓reduceIte, Nat.reduceEqDiff, Nat.reduceAdd, Nat.reduceLeDiff, q1, hlen]); try rfl), (by (simp (disch := omega) only [go_sem, ↓reduceIte, Nat.reduceEqDiff, Nat.reduceAdd, Nat.reduceLeDiff, q1, hlen]); try rfl), (by (simp (disch := omega) only [go_sem, ↓reduceIte, Nat.reduceEqDiff, Nat.reduceAdd, Nat.reduceLeDiff, q1, hlen]); try rfl)⟩
  rintro d ⟨env, loc⟩ st' ⟨j, o, r, L, hd, hj, hext, ho, hol, hown, hfr, htop, e0, e1, e5, e6⟩
  simp only at e0 e1 e5 e6
  have htopG : ∀ {a b : St} {s s' : Value}, Grow a s b s' → (∃ b, topId s = some b) → ∃ b, topId s' = some b := fun g h => by
    rcases g.top with e | ⟨m, _, e⟩
    · rw [e]; exact h
    · exact ⟨m, e⟩
  by_cases hlt : j < xs.length
  · have c1 : decide ((j : Int) < (xs.length : Int)) = true := by simpa using hlt
    have hi := idxOk hlt
    have hx : xs[j]? = some xs[j] := List.getElem?_eq_getElem hlt
    have htk : xs.take (j + 1) = xs.take j ++ [xs[j]] := List.take_succ_eq_append_getElem hlt
    obtain ⟨i, oo, c, rfl, hce⟩ := row_atS (hr.ext hext) hx
    have hxj := hxs _ (List.getElem_mem hlt)
    have hxl : xs[j].data.toList.length = xs[j].size := by simp
    have hsl : sep.data.toList.length = sep.size := by simp
    have htk2 : (xs.take (j + 1)).map (fun b : ByteArray => b.data.toList) = (xs.take j).map (fun b : ByteArray => b.data.toList) ++ [xs[j].data.toList] := by rw [htk, List.map_append]; rfl
    have ol := hown.loc
    by_cases hj0 : j = 0
    · have c2 : decide ((j : Int) > 0) = false := by simp; omega
      have ht0 : xs.take j = [] := by rw [hj0]; rfl
      have ho0 : o = [] := List.eq_nil_of_length_eq_zero (by omega)
      subst ho0
      obtain ⟨r1, s1, L1, hap1, h1, f1, g1⟩ := hown.appStr (w := xs[j]) hfr hext.length (Ext.refl _) (by simp; omega)
      have o1 := h1.loc
      repeat (first | (refine W_reg rfl fun G K hG hK => ?_; simp (disch := omega) only [go_sem, ↓reduceIte, Nat.reduceEqDiff, Nat.reduceAdd, Nat.reduceLeDiff, hG, q1, hlen, e0, e1, e5, e6, c1, hi, idxA, Int.toNat_natCast, c2, hce, w_append, hap1, ol, o1]; refine hK _ _ ?_; clear hK K hG G) | (refine W_end rfl fun G K hG hK => ?_; simp (disch := omega) only [go_sem, ↓reduceIte, Nat.reduceEqDiff, Nat.reduceAdd, Nat.reduceLeDiff, hG, q1, hlen, e0, e1, e5, e6, c1, hi, idxA, Int.toNat_natCast, c2, hce, w_append, hap1, ol, o1]; refine hK _ _ ?_; clear hK K hG G; repeat (first | refine thenI ?_ | refine thenE ?_ | refine thenR ?_ | refine inBI ?_ | refine inBR ?_ | refine inBS ?_ | refine inBN (by decide) ?_)) | refine W_seqS ?_ | refine W_seqC ?_ | refine W_seqB ?_ | refine W_block ?_ | (refine W_skip ?_; repeat (first | refine thenI ?_ | refine thenE ?_ | refine thenR ?_ | refine inBI ?_ | refine inBR ?_ | refine inBS ?_ | refine inBN (by decide) ?_)) | (refine W_condT ?hc ?_; (case hc => (simp (disch := omega) only [go_sem, ↓reduceIte, Nat.reduceEqDiff, Nat.reduceAdd, Nat.reduceLeDiff, q1, hlen, e0, e1, e5, e6, c1, hi, idxA, Int.toNat_natCast, c2, hce, w_append, hap1, ol, o1]; done))) | (refine W_condF ?hc ?_; (case hc => (simp (disch := omega) only [go_sem, ↓reduceIte, Nat.reduceEqDiff, Nat.reduceAdd, Nat.reduceLeDiff, q1, hlen, e0, e1, e5, e6, c1, hi, idxA, Int.toNat_natCast, c2, hce, w_append, hap1, ol, o1]; done))))
      refine ⟨xs.length - (j + 1), by omega, j + 1, xs[j].data.toList, r1, L1, rfl, by omega, g1.away.ext_of hext (hown.top hfr), by rw [htk2, ht0]; simp [Lib.join_one], by omega, h1, f1, htopG g1 htop, (by (simp (disch := omega) only [go_sem, ↓reduceIte, Nat.reduceEqDiff, Nat.reduceAdd, Nat.reduceLeDiff, q1, hlen, e0, e1, e5, e6, c1, hi, idxA, Int.toNat_natCast]); try rfl), (by (simp (disch := omega) only [go_sem, ↓reduceIte, Nat.reduceEqDiff, Nat.reduceAdd, Nat.reduceLeDiff, q1, hlen, e0, e1, e5, e6, c1, hi, idxA, Int.toNat_natCast]); try rfl), (by (simp (disch := omega) only [go_sem, ↓reduceIte, Nat.reduceEqDiff, Nat.reduceAdd, Nat.reduceLeDiff, q1, hlen, e0, e1, e5, e6, c1, hi, idxA, Int.toNat_natCast]); try rfl), (by (simp (disch := omega) only [go_sem, ↓reduceIte, Nat.reduceEqDiff, Nat.reduceAdd, Nat.reduceLeDiff, q1, hlen, e0, e1, e5, e6, c1, hi, idxA, Int.toNat_natCast]); try rfl)⟩
    · have c2 : decide ((j : Int) > 0) = true := by simp; omega
      obtain ⟨r1, s1, L1, hap1, h1, f1, g1⟩ := hown.appStr (w := sep) hfr hext.length (Ext.refl _) (by omega)
      have x1 := g1.away.ext_of hext (hown.top hfr)
      obtain ⟨r2, s2, L2, hap2, h2, f2, g2⟩ := h1.appStr (w := xs[j]) f1 x1.length (Ext.refl _) (by simp; omega)
      have o1 := h1.loc
      have o2 := h2.loc
      have hce2 : cell s1 i (oo + j * 1) = _ := cell_ext (Ext.refl _) (by have := row_atS (hr.ext x1) hx; obtain ⟨i', o', c', e, h⟩ := this; cases e; exact h)
      repeat (first | (refine W_reg rfl fun G K hG hK => ?_; simp (disch := omega) only [go_sem, ↓reduceIte, Nat.reduceEqDiff, Nat.reduceAdd, Nat.reduceLeDiff, hG, q1, hlen, e0, e1, e5, e6, c1, hi, idxA, Int.toNat_natCast, c2, hce, hce2, w_append, hap1, hap2, ol, o1, o2]; refine hK _ _ ?_; clear hK K hG G) | (refine W_end rfl fun G K hG hK => ?_; simp (disch := omega) only [go_sem, ↓reduceIte, Nat.reduceEqDiff, Nat.reduceAdd, Nat.reduceLeDiff, hG, q1, hlen, e0, e1, e5, e6, c1, hi, idxA, Int.toNat_natCast, c2, hce, hce2, w_append, hap1, hap2, ol, o1, o2]; refine hK _ _ ?_; clear hK K hG G; repeat (first | refine thenI ?_ | refine thenE ?_ | refine thenR ?_ | refine inBI ?_ | refine inBR ?_ | refine inBS ?_ | refine inBN (by decide) ?_)) | refine W_seqS ?_ | refine W_seqC ?_ | refine W_seqB ?_ | refine W_block ?_ | (refine W_skip ?_; repeat (first | refine thenI ?_ | refine thenE ?_ | refine thenR ?_ | refine inBI ?_ | refine inBR ?_ | refine inBS ?_ | refine inBN (by decide) ?_)) | (refine W_condT ?hc ?_; (case hc => (simp (disch := omega) only [go_sem, ↓reduceIte, Nat.reduceEqDiff, Nat.reduceAdd, Nat.reduceLeDiff, q1, hlen, e0, e1, e5, e6, c1, hi, idxA, Int.toNat_natCast, c2, hce, hce2, w_append, hap1, hap2, ol, o1, o2]; done))) | (refine W_condF ?hc ?_; (case hc => (simp (disch := omega) only [go_sem, ↓reduceIte, Nat.reduceEqDiff, Nat.reduceAdd, Nat.reduceLeDiff, q1, hlen, e0, e1, e5, e6, c1, hi, idxA, Int.toNat_natCast, c2, hce, hce2, w_append, hap1, hap2, ol, o1, o2]; done))))
      refine ⟨xs.length - (j + 1), by omega, j + 1, (o ++ sep.data.toList) ++ xs[j].data.toList, r2, L2, rfl, by omega, g2.away.ext_of x1 (h1.top f1), by rw [htk2, join_snoc _ _ _ (fun e => by have h9 := congrArg List.length e; simp only [List.length_map, List.length_take, List.length_nil] at h9; omega), ho], by simp; omega, h2, f2, htopG g2 (htopG g1 htop), (by (simp (disch := omega) only [go_sem, ↓reduceIte, Nat.reduceEqDiff, Nat.reduceAdd, Nat.reduceLeDiff, q1, hlen, e0, e1, e5, e6, c1, hi, idxA, Int.toNat_natCast]); try rfl), (by (simp (disch := omega) only [go_sem, ↓reduceIte, Nat.reduceEqDiff, Nat.reduceAdd, Nat.reduceLeDiff, q1, hlen, e0, e1, e5, e6, c1, hi, idxA, Int.toNat_natCast]); try rfl), (by (simp (disch := omega) only [go_sem, ↓reduceIte, Nat.reduceEqDiff, Nat.reduceAdd, Nat.reduceLeDiff, q1, hlen, e0, e1, e5, e6, c1, hi, idxA, Int.toNat_natCast]); try rfl), (by (simp (disch := omega) only [go_sem, ↓reduceIte, Nat.reduceEqDiff, Nat.reduceAdd, Nat.reduceLeDiff, q1, hlen, e0, e1, e5, e6, c1, hi, idxA, Int.toNat_natCast]); try rfl)⟩
  · have c1 : decide ((j : Int) < (xs.length : Int)) = false := by simpa using hlt
    have hjn : j = xs.length := by omega
    subst hjn
    rw [List.take_length] at ho
    subst ho
    have ol := hown.loc
    have hcv := fun A loc => (hown.conv htop A loc).2
    have hfl := (hown.conv htop [] (fun _ => (0, []))).1
    repeat (first | (refine W_reg rfl fun G K hG hK => ?_; simp (disch := omega) only [go_sem, ↓reduceIte, Nat.reduceEqDiff, Nat.reduceAdd, Nat.reduceLeDiff, hG, q1, hlen, e0, e1, e5, e6, c1]; refine hK _ _ ?_; clear hK K hG G) | (refine W_end rfl fun G K hG hK => ?_; simp (disch := omega) only [go_sem, ↓reduceIte, Nat.reduceEqDiff, Nat.reduceAdd, Nat.reduceLeDiff, hG, q1, hlen, e0, e1, e5, e6, c1]; refine hK _ _ ?_; clear hK K hG G; repeat (first | refine thenI ?_ | refine thenE ?_ | refine thenR ?_ | refine inBI ?_ | refine inBR ?_ | refine inBS ?_ | refine inBN (by decide) ?_)) | refine W_seqS ?_ | refine W_seqC ?_ | refine W_seqB ?_ | refine W_block ?_ | (refine W_skip ?_; repeat (first | refine thenI ?_ | refine thenE ?_ | refine thenR ?_ | refine inBI ?_ | refine inBR ?_ | refine inBS ?_ | refine inBN (by decide) ?_)) | (refine W_condT ?hc ?_; (case hc => (simp (disch := omega) only [go_sem, ↓reduceIte, Nat.reduceEqDiff, Nat.reduceAdd, Nat.reduceLeDiff, q1, hlen, e0, e1, e5, e6, c1]; done))) | (refine W_condF ?hc ?_; (case hc => (simp (disch := omega) only [go_sem, ↓reduceIte, Nat.reduceEqDiff, Nat.reduceAdd, Nat.reduceLeDiff, q1, hlen, e0, e1, e5, e6, c1]; done))))
    refine W_exit ?_; repeat (first | refine thenI ?_ | refine thenE ?_ | refine thenR ?_ | refine inBI ?_ | refine inBR ?_ | refine inBS ?_ | refine inBN (by decide) ?_)
    repeat (first | (refine W_reg rfl fun G K hG hK => ?_; simp (disch := omega) only [go_sem, ↓reduceIte, Nat.reduceEqDiff, Nat.reduceAdd, Nat.reduceLeDiff, hG, q1, hlen, e0, e1, e5, e6, c1, ol, ev_conv, hcv, hfl]; refine hK _ _ ?_; clear hK K hG G) | (refine W_end rfl fun G K hG hK => ?_; simp (disch := omega) only [go_sem, ↓reduceIte, Nat.reduceEqDiff, Nat.reduceAdd, Nat.reduceLeDiff, hG, q1, hlen, e0, e1, e5, e6, c1, ol, ev_conv, hcv, hfl]; refine hK _ _ ?_; clear hK K hG G; repeat (first | refine thenI ?_ | refine thenE ?_ | refine thenR ?_ | refine inBI ?_ | refine inBR ?_ | refine inBS ?_ | refine inBN (by decide) ?_)) | refine W_seqS ?_ | refine W_seqC ?_ | refine W_seqB ?_ | refine W_block ?_ | (refine W_skip ?_; repeat (first | refine thenI ?_ | refine thenE ?_ | refine thenR ?_ | refine inBI ?_ | refine inBR ?_ | refine inBS ?_ | refine inBN (by decide) ?_)) | (refine W_condT ?hc ?_; (case hc => (simp (disch := omega) only [go_sem, ↓reduceIte, Nat.reduceEqDiff, Nat.reduceAdd, Nat.reduceLeDiff, q1, hlen, e0, e1, e5, e6, c1, ol, ev_conv, hcv, hfl]; done))) | (refine W_condF ?hc ?_; (case hc => (simp (disch := omega) only [go_sem, ↓reduceIte, Nat.reduceEqDiff, Nat.reduceAdd, Nat.reduceLeDiff, q1, hlen, e0, e1, e5, e6, c1, ol, ev_conv, hcv, hfl]; done))))
    refine W_ret ?_; try (repeat (first | refine thenI ?_ | refine thenE ?_ | refine thenR ?_ | refine inBI ?_ | refine inBR ?_ | refine inBS ?_ | refine inBN (by decide) ?_))
    refine fin1 (.inl rfl) (by (simp (disch := omega) only [go_sem, ↓reduceIte, Nat.reduceEqDiff, Nat.reduceAdd, Nat.reduceLeDiff, q1, hlen, e0, e1, e5, e6, c1]); try rfl) rfl ⟨hext, rfl⟩
end Go.Proofs.YtkohkdlbjbbegaaDoor.AM


/- Positions as texts: impl.FormatPosition, spec.FormatPosition; the law FnExactFormatPosition. -/
namespace Go.Proofs.YtkohkdlbjbbegaaDoor.AM
open Go Go.Proofs
set_option linter.unusedVariables false
set_option linter.unusedSimpArgs false
set_option maxRecDepth 100000
attribute [local go_sem] List.map_cons List.map_nil List.all_cons List.all_nil Bool.and_self Option.map_some List.getElem?_toArray Option.bind_some gye_b gye_t gsk_b gsk_t gb1 gb2 gb3 gb4 bne_self_eq_false beq_self_eq_true w_guard w_nil stepV_some step_some step_some' w_move w_assign w_pick w_binOp w_unOp w_load w_fieldAddr w_indexAddr w_len w_max w_index ev_max max_int ev_index w_box w_alloc w_store w_field w_extract w_nilCheck w_convert w_buildSlice w_build ev_buildL fillL_nil fillL_cons bs0 bs1 ev_conv ev_bin ev_un ev_pick ev_load ev_fieldAddr ev_indexAddr ev_len ev_field ev_extract ev_nilCheck fr_tmp fr_int fr_bool fr_str fr_nil fr_func put_some put_none bin_lss bin_leq bin_gtr bin_geq bin_eql bin_neq bin_add bin_sub bin_mul bin_seql bin_sneq un_not pick_ ext_ loadA_p cellAt_l cellAt_h okPtr_l okPtr_h fadA_p allocA_l storeA_l cells_agg cells_int cells_str cells_sl cells_bool flat_i flat_s flat_b flat_sl flat_nil loc_agg loc_int loc_str loc_sl loc_bool loc_fn loc_ptr okv_agg okv_int okv_str okv_sl okv_bool cellsFrom splice upd_eval argEnv_zero argEnv_succ ne_eq Nat.add_one_ne_zero not_false_eq_true List.not_mem_nil and_self decide_true List.getElem?_cons_zero List.getElem?_cons_succ List.size_toArray List.length_cons List.length_nil List.take_succ_cons List.take_zero List.drop_succ_cons List.drop_zero List.cons_append List.nil_append List.drop_nil Bool.not_true Bool.not_false Bool.false_eq_true Nat.zero_add Nat.add_zero wrap_in List.toList_toArray List.mem_cons or_self or_false false_or
attribute [local go_sem] ag22 ag24 ag26 ag3 ag33 ag5 ag62 ag76 ag9 bu26 bu56 by26 by3 by33 by5 by9 el22 el24 el28 el33 el44 of26_0 of26_1 of26_2 of26_3 of56_0 of56_1 of56_2 of64_0 of64_1 ro26_0 ro26_1 ro26_2 ro3_0 ro3_1 ro3_3 ro33_0 ro33_1 ro5_0 ro5_1 ro9_0 ro9_1 ro9_2 ro9_3 ro9_4 sz22 sz24 sz26 sz3 sz33 sz5 sz62 sz76 sz9 ze26 ze3 ze33 ze5 ze64 ze75 ze88 ze9
-- AUTO

def itoaB (n : Int) : ByteArray := ⟨(Lib.itoa n).toArray⟩
/-- A position as a text. -/
def fmtPos (p : List Int) : ByteArray := if p = [] then ⟨#[116, 111, 112]⟩ else ⟨(Lib.join ((p.map itoaB).map (·.data.toList)) [46]).toArray⟩
def I64 (n : Int) : Prop := -9223372036854775808 ≤ n ∧ n ≤ 9223372036854775807
theorem itoaB_size {n : Int} (h : I64 n) : (itoaB n).size ≤ 30 := by
  have h1 := Lib.itoa_length_le n h.1 h.2
  unfold itoaB
  rw [size_mk]
  omega
theorem dotB : (⟨#[46]⟩ : ByteArray).data.toList = [46] := rfl
theorem pushS {st0 st : St} {xs : List ByteArray} {s : Value} {L : List Nat} {w : ByteArray} (h : Sl st xs s L) (hf : Fresh st0.length L) (hx : Ext st0 st) (hb : xs.length + 1 ≤ 1099511627776) :
    ∃ s' st' L', appendA Tryd.prog 44 44 s (.slice (some ⟨st.length, 0, none⟩) 1 1) (st ++ [⟨[.string w], 9, 0⟩]) = some (s', st') ∧ Sl st' (xs ++ [w]) s' L' ∧ Fresh st0.length L' ∧ Ext st0 st' := by
  obtain ⟨s', st', L', hap, h1, h2, h3⟩ := Sl.push (α := ByteArray) (t := 44) (u := 44) Tryd.underlying44 Tryd.underlying44 sz9 rfl by9 ze9 rfl h hf hx.length (Ext.refl st) (x := w) (cx := [.string w]) (Lx := []) ⟨rfl, rfl⟩ ⟨by simp, by simp⟩ (by omega) (by omega)
  exact ⟨s', st', L', hap, h1, h2, h3.away.ext_of hx (h.top hf)⟩
theorem join_le (l : List (List UInt8)) (sep : List UInt8) (B : Nat) (h : ∀ x ∈ l, x.length ≤ B) (hs : sep.length ≤ B) : (Lib.join l sep).length ≤ 2 * B * l.length := by
  cases l with
  | nil => simp [Lib.join_nil]
  | cons x r =>
    rw [Lib.join_cons, List.length_append]
    have hr : ∀ r : List (List UInt8), (∀ y ∈ r, y.length ≤ B) → (Lib.joinTail sep r).length ≤ 2 * B * r.length := by
      intro r
      induction r with
      | nil => intro _; simp [Lib.joinTail]
      | cons y r ih =>
        intro h
        have h1 := ih fun z hz => h z (by simp [hz])
        have h2 := h y (by simp)
        have e : Lib.joinTail sep (y :: r) = (sep ++ y) ++ Lib.joinTail sep r := by simp [Lib.joinTail]
        rw [e, List.length_append, List.length_append, List.length_cons, Nat.mul_add]
        omega
    have h1 := hr r fun y hy => h y (by simp [hy])
    have h2 := h x (by simp)
    rw [List.length_cons, Nat.mul_add]
    omega
theorem implFmtPos_ok (p : List Int) (st : St) (s : Value) (hbig : p.length ≤ 1073741824) (hp : ∀ n ∈ p, I64 n) (hr : Rw st p s) :
    CallS Tryd.prog 10 [s] st fun r st2 => Ext st st2 ∧ r = .string (fmtPos p) := by
  refine CallS_of_W [] 23 Tryd.func10 rfl rfl rfl rfl (by simp) ?_
  have q1 := hr.notLoc.1
  have hlen : lenE Tryd.prog 33 s = some (.int .i64 p.length) := row_len hr Tryd.underlying33
  by_cases h0 : p = []
  · subst h0
    have c1 : (((([] : List Int).length : Nat) : Int) == 0) = true := by decide
    have c2 : (((0 : Nat) : Int) == 0) = true := by decide
    repeat (first | (refine W_reg rfl fun G K hG hK => ?_; simp (disch := omega) only [go_sem, ↓reduceIte, Nat.reduceEqDiff, Nat.reduceAdd, Nat.reduceLeDiff, hG, q1, hlen, c1, c2]; refine hK _ _ ?_; clear hK K hG G) | (refine W_end rfl fun G K hG hK => ?_; simp (disch := omega) only [go_sem, ↓reduceIte, Nat.reduceEqDiff, Nat.reduceAdd, Nat.reduceLeDiff, hG, q1, hlen, c1, c2]; refine hK _ _ ?_; clear hK K hG G; repeat (first | refine thenI ?_ | refine thenE ?_ | refine thenR ?_ | refine inBI ?_ | refine inBR ?_ | refine inBS ?_ | refine inBN (by decide) ?_)) | refine W_seqS ?_ | refine W_seqC ?_ | refine W_seqB ?_ | refine W_block ?_ | (refine W_skip ?_; repeat (first | refine thenI ?_ | refine thenE ?_ | refine thenR ?_ | refine inBI ?_ | refine inBR ?_ | refine inBS ?_ | refine inBN (by decide) ?_)) | (refine W_condT ?hc ?_; (case hc => (simp (disch := omega) only [go_sem, ↓reduceIte, Nat.reduceEqDiff, Nat.reduceAdd, Nat.reduceLeDiff, q1, hlen, c1, c2]; done))) | (refine W_condF ?hc ?_; (case hc => (simp (disch := omega) only [go_sem, ↓reduceIte, Nat.reduceEqDiff, Nat.reduceAdd, Nat.reduceLeDiff, q1, hlen, c1, c2]; done))))
    refine W_ret ?_; try (repeat (first | refine thenI ?_ | refine thenE ?_ | refine thenR ?_ | refine inBI ?_ | refine inBR ?_ | refine inBS ?_ | refine inBN (by decide) ?_))
    refine fin1 (.inl rfl) (by (simp (disch := omega) only [go_sem, ↓reduceIte, Nat.reduceEqDiff, Nat.reduceAdd, Nat.reduceLeDiff, q1, hlen]); try rfl) rfl ⟨Ext.refl _, rfl⟩
  have hpos : p.length ≠ 0 := fun e => h0 (List.eq_nil_of_length_eq_zero e)
  have c1 : ((p.length : Int) == 0) = false := by simp; omega
  repeat (first | (refine W_reg rfl fun G K hG hK => ?_; simp (disch := omega) only [go_sem, ↓reduceIte, Nat.reduceEqDiff, Nat.reduceAdd, Nat.reduceLeDiff, hG, q1, hlen, c1]; refine hK _ _ ?_; clear hK K hG G) | (refine W_end rfl fun G K hG hK => ?_; simp (disch := omega) only [go_sem, ↓reduceIte, Nat.reduceEqDiff, Nat.reduceAdd, Nat.reduceLeDiff, hG, q1, hlen, c1]; refine hK _ _ ?_; clear hK K hG G; repeat (first | refine thenI ?_ | refine thenE ?_ | refine thenR ?_ | refine inBI ?_ | refine inBR ?_ | refine inBS ?_ | refine inBN (by decide) ?_)) | refine W_seqS ?_ | refine W_seqC ?_ | refine W_seqB ?_ | refine W_block ?_ | (refine W_skip ?_; repeat (first | refine thenI ?_ | refine thenE ?_ | refine thenR ?_ | refine inBI ?_ | refine inBR ?_ | refine inBS ?_ | refine inBN (by decide) ?_)) | (refine W_condT ?hc ?_; (case hc => (simp (disch := omega) only [go_sem, ↓reduceIte, Nat.reduceEqDiff, Nat.reduceAdd, Nat.reduceLeDiff, q1, hlen, c1]; done))) | (refine W_condF ?hc ?_; (case hc => (simp (disch := omega) only [go_sem, ↓reduceIte, Nat.reduceEqDiff, Nat.reduceAdd, Nat.reduceLeDiff, q1, hlen, c1]; done))))
  refine W_loop (fun d fr st' => ∃ (j : Nat) (r : Value) (L : List Nat), d = p.length - j ∧ j ≤ p.length ∧ (Ext st st') ∧ (Sl st' ((p.take j).map itoaB) r L) ∧ (Fresh st.length L) ∧ (fr.env 3 = r) ∧ (fr.env 9 = s) ∧ (fr.env 10 = .int .i64 p.length) ∧ (fr.env 11 = .int .i64 j)) (p.length) ?_ ?_
  · exact ⟨0, _, _, by omega, by omega, Ext.refl _, Sl.nil _, ⟨by simp, by simp⟩, (by (simp (disch := omega) only [go_sem, ↓reduceIte, Nat.reduceEqDiff, Nat.reduceAdd, Nat.reduceLeDiff, q1, hlen]); try rfl), (by (simp (disch := omega) only [go_sem, ↓reduceIte, Nat.reduceEqDiff, Nat.reduceAdd, Nat.reduceLeDiff, q1, hlen]); try rfl), (by (simp (disch := omega) only [go_sem, ↓reduceIte, Nat.reduceEqDiff, Nat.reduceAdd, Nat.reduceLeDiff, q1, hlen]); try rfl), (by (simp (disch := omega) only [go_sem, ↓reduceIte, Nat.reduceEqDiff, Nat.reduceAdd, Nat.reduceLeDiff, q1, hlen]); try rfl)⟩
  rintro d ⟨env, loc⟩ st' ⟨j, r, L, hd, hj, hext, hown, hfr, e3, e9, e10, e11⟩
  simp only at e3 e9 e10 e11
  by_cases hlt : j < p.length
  · have c1 : decide ((j : Int) < (p.length : Int)) = true := by simpa using hlt
    have hi := idxOk hlt
    have hx : p[j]? = some p[j] := List.getElem?_eq_getElem hlt
    have htk : p.take (j + 1) = p.take j ++ [p[j]] := List.take_succ_eq_append_getElem hlt
    obtain ⟨i, o, c, rfl, hce⟩ := row_atI (hr.ext hext) hx
    have hb := hp _ (List.getElem_mem hlt)
    have ol := hown.loc
    have hnx : (p.take (j + 1)).map itoaB = (p.take j).map itoaB ++ [itoaB p[j]] := by rw [htk, List.map_append]; rfl
    obtain ⟨r', sb, L', hap, h1, h2, h3⟩ := pushS (w := (⟨(Lib.itoa p[j]).toArray⟩ : ByteArray)) hown hfr hext (by simp; omega)
    have ol' := h1.loc
    repeat (first | (refine W_reg rfl fun G K hG hK => ?_; simp (disch := omega) only [go_sem, ↓reduceIte, Nat.reduceEqDiff, Nat.reduceAdd, Nat.reduceLeDiff, hG, q1, hlen, e3, e9, e10, e11, c1, hi, idxA, Int.toNat_natCast, hce, ag3]; refine hK _ _ ?_; clear hK K hG G) | (refine W_end rfl fun G K hG hK => ?_; simp (disch := omega) only [go_sem, ↓reduceIte, Nat.reduceEqDiff, Nat.reduceAdd, Nat.reduceLeDiff, hG, q1, hlen, e3, e9, e10, e11, c1, hi, idxA, Int.toNat_natCast, hce, ag3]; refine hK _ _ ?_; clear hK K hG G; repeat (first | refine thenI ?_ | refine thenE ?_ | refine thenR ?_ | refine inBI ?_ | refine inBR ?_ | refine inBS ?_ | refine inBN (by decide) ?_)) | refine W_seqS ?_ | refine W_seqC ?_ | refine W_seqB ?_ | refine W_block ?_ | (refine W_skip ?_; repeat (first | refine thenI ?_ | refine thenE ?_ | refine thenR ?_ | refine inBI ?_ | refine inBR ?_ | refine inBS ?_ | refine inBN (by decide) ?_)) | (refine W_condT ?hc ?_; (case hc => (simp (disch := omega) only [go_sem, ↓reduceIte, Nat.reduceEqDiff, Nat.reduceAdd, Nat.reduceLeDiff, q1, hlen, e3, e9, e10, e11, c1, hi, idxA, Int.toNat_natCast, hce, ag3]; done))) | (refine W_condF ?hc ?_; (case hc => (simp (disch := omega) only [go_sem, ↓reduceIte, Nat.reduceEqDiff, Nat.reduceAdd, Nat.reduceLeDiff, q1, hlen, e3, e9, e10, e11, c1, hi, idxA, Int.toNat_natCast, hce, ag3]; done))))
    refine W_end rfl fun G K hG hK => ?_; simp (disch := omega) only [go_sem, ↓reduceIte, Nat.reduceEqDiff, Nat.reduceAdd, Nat.reduceLeDiff, hG, q1, hlen, e3, e9, e10, e11, c1, hi, idxA, Int.toNat_natCast, ol]
    refine w_call (implFormatInt_ok p[j] st' hb.1 hb.2) (by simp (disch := omega) only [go_sem, ↓reduceIte, Nat.reduceEqDiff, q1, hlen, e3, e9, e10, e11, c1, hi, idxA, Int.toNat_natCast, ol]) ?hl ?_
    case hl => first | rfl | (simp only [go_sem, List.all_cons, List.all_nil, Bool.not_false, Bool.and_self, q1, hlen, e3, e9, e10, e11, c1, hi, idxA, Int.toNat_natCast, ol]; done)
    rintro r_ st' ⟨rfl, rfl⟩; refine ⟨fun e => (by cases e), ?_⟩
    simp (disch := omega) only [go_sem, ↓reduceIte, Nat.reduceEqDiff, Nat.reduceAdd, Nat.reduceLeDiff, hG, q1, hlen, e3, e9, e10, e11, c1, hi, idxA, Int.toNat_natCast, ol, w_append, hap, ol']; refine hK _ _ ?_; clear hK K hG G; repeat (first | refine thenI ?_ | refine thenE ?_ | refine thenR ?_ | refine inBI ?_ | refine inBR ?_ | refine inBS ?_ | refine inBN (by decide) ?_)
    repeat (first | (refine W_reg rfl fun G K hG hK => ?_; simp (disch := omega) only [go_sem, ↓reduceIte, Nat.reduceEqDiff, Nat.reduceAdd, Nat.reduceLeDiff, hG, q1, hlen, e3, e9, e10, e11, c1, hi, idxA, Int.toNat_natCast]; refine hK _ _ ?_; clear hK K hG G) | (refine W_end rfl fun G K hG hK => ?_; simp (disch := omega) only [go_sem, ↓reduceIte, Nat.reduceEqDiff, Nat.reduceAdd, Nat.reduceLeDiff, hG, q1, hlen, e3, e9, e10, e11, c1, hi, idxA, Int.toNat_natCast]; refine hK _ _ ?_; clear hK K hG G; repeat (first | refine thenI ?_ | refine thenE ?_ | refine thenR ?_ | refine inBI ?_ | refine inBR ?_ | refine inBS ?_ | refine inBN (by decide) ?_)) | refine W_seqS ?_ | refine W_seqC ?_ | refine W_seqB ?_ | refine W_block ?_ | (refine W_skip ?_; repeat (first | refine thenI ?_ | refine thenE ?_ | refine thenR ?_ | refine inBI ?_ | refine inBR ?_ | refine inBS ?_ | refine inBN (by decide) ?_)) | (refine W_condT ?hc ?_; (case hc => (simp (disch := omega) only [go_sem, ↓reduceIte, Nat.reduceEqDiff, Nat.reduceAdd, Nat.reduceLeDiff, q1, hlen, e3, e9, e10, e11, c1, hi, idxA, Int.toNat_natCast]; done))) | (refine W_condF ?hc ?_; (case hc => (simp (disch := omega) only [go_sem, ↓reduceIte, Nat.reduceEqDiff, Nat.reduceAdd, Nat.reduceLeDiff, q1, hlen, e3, e9, e10, e11, c1, hi, idxA, Int.toNat_natCast]; done))))
    refine ⟨p.length - (j + 1), by omega, j + 1, r', L', rfl, by omega, h3, by rw [hnx]; exact h1, h2, (by (simp (disch := omega) only [go_sem, ↓reduceIte, Nat.reduceEqDiff, Nat.reduceAdd, Nat.reduceLeDiff, q1, hlen, e3, e9, e10, e11, c1, hi, idxA, Int.toNat_natCast]); try rfl), (by (simp (disch := omega) only [go_sem, ↓reduceIte, Nat.reduceEqDiff, Nat.reduceAdd, Nat.reduceLeDiff, q1, hlen, e3, e9, e10, e11, c1, hi, idxA, Int.toNat_natCast]); try rfl), (by (simp (disch := omega) only [go_sem, ↓reduceIte, Nat.reduceEqDiff, Nat.reduceAdd, Nat.reduceLeDiff, q1, hlen, e3, e9, e10, e11, c1, hi, idxA, Int.toNat_natCast]); try rfl), (by (simp (disch := omega) only [go_sem, ↓reduceIte, Nat.reduceEqDiff, Nat.reduceAdd, Nat.reduceLeDiff, q1, hlen, e3, e9, e10, e11, c1, hi, idxA, Int.toNat_natCast]); try rfl)⟩
  · have c1 : decide ((j : Int) < (p.length : Int)) = false := by simpa using hlt
    have hjn : j = p.length := by omega
    subst hjn
    rw [List.take_length] at hown
    have ol := hown.loc
    have hsz : ∀ x ∈ (p.map itoaB).map (fun b : ByteArray => b.data.toList), x.length ≤ 30 := fun x hx => by
      obtain ⟨b, hb, rfl⟩ := List.mem_map.1 hx
      obtain ⟨n, hn, rfl⟩ := List.mem_map.1 hb
      have := itoaB_size (hp n hn)
      simpa using this
    have hjl := join_le _ [46] 30 hsz (by simp)
    simp only [List.length_map] at hjl
    repeat (first | (refine W_reg rfl fun G K hG hK => ?_; simp (disch := omega) only [go_sem, ↓reduceIte, Nat.reduceEqDiff, Nat.reduceAdd, Nat.reduceLeDiff, hG, q1, hlen, e3, e9, e10, e11, c1]; refine hK _ _ ?_; clear hK K hG G) | (refine W_end rfl fun G K hG hK => ?_; simp (disch := omega) only [go_sem, ↓reduceIte, Nat.reduceEqDiff, Nat.reduceAdd, Nat.reduceLeDiff, hG, q1, hlen, e3, e9, e10, e11, c1]; refine hK _ _ ?_; clear hK K hG G; repeat (first | refine thenI ?_ | refine thenE ?_ | refine thenR ?_ | refine inBI ?_ | refine inBR ?_ | refine inBS ?_ | refine inBN (by decide) ?_)) | refine W_seqS ?_ | refine W_seqC ?_ | refine W_seqB ?_ | refine W_block ?_ | (refine W_skip ?_; repeat (first | refine thenI ?_ | refine thenE ?_ | refine thenR ?_ | refine inBI ?_ | refine inBR ?_ | refine inBS ?_ | refine inBN (by decide) ?_)) | (refine W_condT ?hc ?_; (case hc => (simp (disch := omega) only [go_sem, ↓reduceIte, Nat.reduceEqDiff, Nat.reduceAdd, Nat.reduceLeDiff, q1, hlen, e3, e9, e10, e11, c1]; done))) | (refine W_condF ?hc ?_; (case hc => (simp (disch := omega) only [go_sem, ↓reduceIte, Nat.reduceEqDiff, Nat.reduceAdd, Nat.reduceLeDiff, q1, hlen, e3, e9, e10, e11, c1]; done))))
    refine W_exit ?_; repeat (first | refine thenI ?_ | refine thenE ?_ | refine thenR ?_ | refine inBI ?_ | refine inBR ?_ | refine inBS ?_ | refine inBN (by decide) ?_)
    repeat (first | (refine W_reg rfl fun G K hG hK => ?_; simp (disch := omega) only [go_sem, ↓reduceIte, Nat.reduceEqDiff, Nat.reduceAdd, Nat.reduceLeDiff, hG, q1, hlen, e3, e9, e10, e11, c1]; refine hK _ _ ?_; clear hK K hG G) | (refine W_end rfl fun G K hG hK => ?_; simp (disch := omega) only [go_sem, ↓reduceIte, Nat.reduceEqDiff, Nat.reduceAdd, Nat.reduceLeDiff, hG, q1, hlen, e3, e9, e10, e11, c1]; refine hK _ _ ?_; clear hK K hG G; repeat (first | refine thenI ?_ | refine thenE ?_ | refine thenR ?_ | refine inBI ?_ | refine inBR ?_ | refine inBS ?_ | refine inBN (by decide) ?_)) | refine W_seqS ?_ | refine W_seqC ?_ | refine W_seqB ?_ | refine W_block ?_ | (refine W_skip ?_; repeat (first | refine thenI ?_ | refine thenE ?_ | refine thenR ?_ | refine inBI ?_ | refine inBR ?_ | refine inBS ?_ | refine inBN (by decide) ?_)) | (refine W_condT ?hc ?_; (case hc => (simp (disch := omega) only [go_sem, ↓reduceIte, Nat.reduceEqDiff, Nat.reduceAdd, Nat.reduceLeDiff, q1, hlen, e3, e9, e10, e11, c1]; done))) | (refine W_condF ?hc ?_; (case hc => (simp (disch := omega) only [go_sem, ↓reduceIte, Nat.reduceEqDiff, Nat.reduceAdd, Nat.reduceLeDiff, q1, hlen, e3, e9, e10, e11, c1]; done))))
    (repeat (first | refine W_seqS ?_ | refine W_seqC ?_ | refine W_seqB ?_ | refine W_block ?_)); refine W_reg rfl fun G K hG hK => ?_; simp (disch := omega) only [go_sem, ↓reduceIte, Nat.reduceEqDiff, Nat.reduceAdd, Nat.reduceLeDiff, hG, q1, hlen, e3, e9, e10, e11, c1, ol]
    refine w_call (implJoin_ok (p.map itoaB) ⟨#[46]⟩ st' r (by simp; omega) (by rw [dotB]; omega) hown.row) (by simp (disch := omega) only [go_sem, ↓reduceIte, Nat.reduceEqDiff, q1, hlen, e3, e9, e10, e11, c1, ol]) ?hl ?_
    case hl => first | rfl | (simp only [go_sem, List.all_cons, List.all_nil, Bool.not_false, Bool.and_self, q1, hlen, e3, e9, e10, e11, c1, ol]; done)
    rintro r_ st' ⟨rfl, rfl⟩; refine ⟨fun e => (by cases e), ?_⟩
    simp (disch := omega) only [go_sem, ↓reduceIte, Nat.reduceEqDiff, Nat.reduceAdd, Nat.reduceLeDiff, hG, q1, hlen, e3, e9, e10, e11, c1]; refine hK _ _ ?_; clear hK K hG G; repeat (first | refine thenI ?_ | refine thenE ?_ | refine thenR ?_ | refine inBI ?_ | refine inBR ?_ | refine inBS ?_ | refine inBN (by decide) ?_)
    refine W_ret ?_; try (repeat (first | refine thenI ?_ | refine thenE ?_ | refine thenR ?_ | refine inBI ?_ | refine inBR ?_ | refine inBS ?_ | refine inBN (by decide) ?_))
    refine fin1 (.inl rfl) (by (simp (disch := omega) only [go_sem, ↓reduceIte, Nat.reduceEqDiff, Nat.reduceAdd, Nat.reduceLeDiff, q1, hlen, e3, e9, e10, e11, c1]); try rfl) rfl ⟨hext, by unfold fmtPos; rw [if_neg h0]⟩
theorem specFmtPos_ok (p : List Int) (st : St) (s : Value) (hbig : p.length ≤ 1073741824) (hp : ∀ n ∈ p, I64 n) (hr : Rw st p s) :
    CallS Tryd.prog 11 [s] st fun r st2 => Ext st st2 ∧ r = .string (fmtPos p) := by
  refine CallS_of_W [] 25 Tryd.func11 rfl rfl rfl rfl (by simp) ?_
  have q1 := hr.notLoc.1
  have hlen : lenE Tryd.prog 33 s = some (.int .i64 p.length) := row_len hr Tryd.underlying33
  by_cases h0 : p = []
  · subst h0
    have c1 : (((([] : List Int).length : Nat) : Int) == 0) = true := by decide
    have c2 : (((0 : Nat) : Int) == 0) = true := by decide
    repeat (first | (refine W_reg rfl fun G K hG hK => ?_; simp (disch := omega) only [go_sem, ↓reduceIte, Nat.reduceEqDiff, Nat.reduceAdd, Nat.reduceLeDiff, hG, q1, hlen, c1, c2]; refine hK _ _ ?_; clear hK K hG G) | (refine W_end rfl fun G K hG hK => ?_; simp (disch := omega) only [go_sem, ↓reduceIte, Nat.reduceEqDiff, Nat.reduceAdd, Nat.reduceLeDiff, hG, q1, hlen, c1, c2]; refine hK _ _ ?_; clear hK K hG G; repeat (first | refine thenI ?_ | refine thenE ?_ | refine thenR ?_ | refine inBI ?_ | refine inBR ?_ | refine inBS ?_ | refine inBN (by decide) ?_)) | refine W_seqS ?_ | refine W_seqC ?_ | refine W_seqB ?_ | refine W_block ?_ | (refine W_skip ?_; repeat (first | refine thenI ?_ | refine thenE ?_ | refine thenR ?_ | refine inBI ?_ | refine inBR ?_ | refine inBS ?_ | refine inBN (by decide) ?_)) | (refine W_condT ?hc ?_; (case hc => (simp (disch := omega) only [go_sem, ↓reduceIte, Nat.reduceEqDiff, Nat.reduceAdd, Nat.reduceLeDiff, q1, hlen, c1, c2]; done))) | (refine W_condF ?hc ?_; (case hc => (simp (disch := omega) only [go_sem, ↓reduceIte, Nat.reduceEqDiff, Nat.reduceAdd, Nat.reduceLeDiff, q1, hlen, c1, c2]; done))))
    refine W_ret ?_; try (repeat (first | refine thenI ?_ | refine thenE ?_ | refine thenR ?_ | refine inBI ?_ | refine inBR ?_ | refine inBS ?_ | refine inBN (by decide) ?_))
    refine fin1 (.inl rfl) (by (simp (disch := omega) only [go_sem, ↓reduceIte, Nat.reduceEqDiff, Nat.reduceAdd, Nat.reduceLeDiff, q1, hlen]); try rfl) rfl ⟨Ext.refl _, rfl⟩
  have hpos : p.length ≠ 0 := fun e => h0 (List.eq_nil_of_length_eq_zero e)
  have c1 : ((p.length : Int) == 0) = false := by simp; omega
  repeat (first | (refine W_reg rfl fun G K hG hK => ?_; simp (disch := omega) only [go_sem, ↓reduceIte, Nat.reduceEqDiff, Nat.reduceAdd, Nat.reduceLeDiff, hG, q1, hlen, c1]; refine hK _ _ ?_; clear hK K hG G) | (refine W_end rfl fun G K hG hK => ?_; simp (disch := omega) only [go_sem, ↓reduceIte, Nat.reduceEqDiff, Nat.reduceAdd, Nat.reduceLeDiff, hG, q1, hlen, c1]; refine hK _ _ ?_; clear hK K hG G; repeat (first | refine thenI ?_ | refine thenE ?_ | refine thenR ?_ | refine inBI ?_ | refine inBR ?_ | refine inBS ?_ | refine inBN (by decide) ?_)) | refine W_seqS ?_ | refine W_seqC ?_ | refine W_seqB ?_ | refine W_block ?_ | (refine W_skip ?_; repeat (first | refine thenI ?_ | refine thenE ?_ | refine thenR ?_ | refine inBI ?_ | refine inBR ?_ | refine inBS ?_ | refine inBN (by decide) ?_)) | (refine W_condT ?hc ?_; (case hc => (simp (disch := omega) only [go_sem, ↓reduceIte, Nat.reduceEqDiff, Nat.reduceAdd, Nat.reduceLeDiff, q1, hlen, c1]; done))) | (refine W_condF ?hc ?_; (case hc => (simp (disch := omega) only [go_sem, ↓reduceIte, Nat.reduceEqDiff, Nat.reduceAdd, Nat.reduceLeDiff, q1, hlen, c1]; done))))
  refine W_loop (fun d fr st' => ∃ (j : Nat) (r : Value) (L : List Nat), d = p.length - j ∧ j ≤ p.length ∧ (Ext st st') ∧ (Sl st' ((p.take j).map itoaB) r L) ∧ (Fresh st.length L) ∧ (fr.env 0 = s) ∧ (fr.env 3 = r) ∧ (fr.env 4 = .int .i64 j)) (p.length) ?_ ?_
  · exact ⟨0, _, _, by omega, by omega, Ext.app _ _, Sl.empty _, ⟨by simp, by simp⟩, (by (simp (disch := omega) only [go_sem, ↓reduceIte, Nat.reduceEqDiff, Nat.reduceAdd, Nat.reduceLeDiff, q1, hlen]); try rfl), (by (simp (disch := omega) only [go_sem, ↓reduceIte, Nat.reduceEqDiff, Nat.reduceAdd, Nat.reduceLeDiff, q1, hlen]); try rfl), (by (simp (disch := omega) only [go_sem, ↓reduceIte, Nat.reduceEqDiff, Nat.reduceAdd, Nat.reduceLeDiff, q1, hlen]); try rfl)⟩
  rintro d ⟨env, loc⟩ st' ⟨j, r, L, hd, hj, hext, hown, hfr, e0, e3, e4⟩
  simp only at e0 e3 e4
  by_cases hlt : j < p.length
  · have c1 : decide ((j : Int) < (p.length : Int)) = true := by simpa using hlt
    have hi := idxOk hlt
    have hx : p[j]? = some p[j] := List.getElem?_eq_getElem hlt
    have htk : p.take (j + 1) = p.take j ++ [p[j]] := List.take_succ_eq_append_getElem hlt
    obtain ⟨i, o, c, rfl, hce⟩ := row_atI (hr.ext hext) hx
    have hb := hp _ (List.getElem_mem hlt)
    have ol := hown.loc
    have hnx : (p.take (j + 1)).map itoaB = (p.take j).map itoaB ++ [itoaB p[j]] := by rw [htk, List.map_append]; rfl
    repeat (first | (refine W_reg rfl fun G K hG hK => ?_; simp (disch := omega) only [go_sem, ↓reduceIte, Nat.reduceEqDiff, Nat.reduceAdd, Nat.reduceLeDiff, hG, q1, hlen, e0, e3, e4, c1, hi, idxA, Int.toNat_natCast, hce, ag3]; refine hK _ _ ?_; clear hK K hG G) | (refine W_end rfl fun G K hG hK => ?_; simp (disch := omega) only [go_sem, ↓reduceIte, Nat.reduceEqDiff, Nat.reduceAdd, Nat.reduceLeDiff, hG, q1, hlen, e0, e3, e4, c1, hi, idxA, Int.toNat_natCast, hce, ag3]; refine hK _ _ ?_; clear hK K hG G; repeat (first | refine thenI ?_ | refine thenE ?_ | refine thenR ?_ | refine inBI ?_ | refine inBR ?_ | refine inBS ?_ | refine inBN (by decide) ?_)) | refine W_seqS ?_ | refine W_seqC ?_ | refine W_seqB ?_ | refine W_block ?_ | (refine W_skip ?_; repeat (first | refine thenI ?_ | refine thenE ?_ | refine thenR ?_ | refine inBI ?_ | refine inBR ?_ | refine inBS ?_ | refine inBN (by decide) ?_)) | (refine W_condT ?hc ?_; (case hc => (simp (disch := omega) only [go_sem, ↓reduceIte, Nat.reduceEqDiff, Nat.reduceAdd, Nat.reduceLeDiff, q1, hlen, e0, e3, e4, c1, hi, idxA, Int.toNat_natCast, hce, ag3]; done))) | (refine W_condF ?hc ?_; (case hc => (simp (disch := omega) only [go_sem, ↓reduceIte, Nat.reduceEqDiff, Nat.reduceAdd, Nat.reduceLeDiff, q1, hlen, e0, e3, e4, c1, hi, idxA, Int.toNat_natCast, hce, ag3]; done))))
    refine W_end rfl fun G K hG hK => ?_; simp (disch := omega) only [go_sem, ↓reduceIte, Nat.reduceEqDiff, Nat.reduceAdd, Nat.reduceLeDiff, hG, q1, hlen, e0, e3, e4, c1, hi, idxA, Int.toNat_natCast, ol, hce, ag3]
    refine w_call (specFormatInt_ok p[j] st' hb.1 hb.2) (by simp (disch := omega) only [go_sem, ↓reduceIte, Nat.reduceEqDiff, q1, hlen, e0, e3, e4, c1, hi, idxA, Int.toNat_natCast, ol, hce]) ?hl ?_
    case hl => first | rfl | (simp only [go_sem, List.all_cons, List.all_nil, Bool.not_false, Bool.and_self, q1, hlen, e0, e3, e4, c1, hi, idxA, Int.toNat_natCast, ol, hce]; done)
    rintro r_ sb ⟨x1, rfl⟩; refine ⟨fun e => (by cases e), ?_⟩
    obtain ⟨r', sc, L', hap, h1, h2, h3⟩ := pushS (w := (⟨(Lib.itoa p[j]).toArray⟩ : ByteArray)) (hown.ext x1) hfr (hext.trans x1) (by simp; omega)
    have ol' := h1.loc
    simp (disch := omega) only [go_sem, ↓reduceIte, Nat.reduceEqDiff, Nat.reduceAdd, Nat.reduceLeDiff, hG, q1, hlen, e0, e3, e4, c1, hi, idxA, Int.toNat_natCast, ol, w_append, hap, ol']; refine hK _ _ ?_; clear hK K hG G; repeat (first | refine thenI ?_ | refine thenE ?_ | refine thenR ?_ | refine inBI ?_ | refine inBR ?_ | refine inBS ?_ | refine inBN (by decide) ?_)
    repeat (first | (refine W_reg rfl fun G K hG hK => ?_; simp (disch := omega) only [go_sem, ↓reduceIte, Nat.reduceEqDiff, Nat.reduceAdd, Nat.reduceLeDiff, hG, q1, hlen, e0, e3, e4, c1, hi, idxA, Int.toNat_natCast]; refine hK _ _ ?_; clear hK K hG G) | (refine W_end rfl fun G K hG hK => ?_; simp (disch := omega) only [go_sem, ↓reduceIte, Nat.reduceEqDiff, Nat.reduceAdd, Nat.reduceLeDiff, hG, q1, hlen, e0, e3, e4, c1, hi, idxA, Int.toNat_natCast]; refine hK _ _ ?_; clear hK K hG G; repeat (first | refine thenI ?_ | refine thenE ?_ | refine thenR ?_ | refine inBI ?_ | refine inBR ?_ | refine inBS ?_ | refine inBN (by decide) ?_)) | refine W_seqS ?_ | refine W_seqC ?_ | refine W_seqB ?_ | refine W_block ?_ | (refine W_skip ?_; repeat (first | refine thenI ?_ | refine thenE ?_ | refine thenR ?_ | refine inBI ?_ | refine inBR ?_ | refine inBS ?_ | refine inBN (by decide) ?_)) | (refine W_condT ?hc ?_; (case hc => (simp (disch := omega) only [go_sem, ↓reduceIte, Nat.reduceEqDiff, Nat.reduceAdd, Nat.reduceLeDiff, q1, hlen, e0, e3, e4, c1, hi, idxA, Int.toNat_natCast]; done))) | (refine W_condF ?hc ?_; (case hc => (simp (disch := omega) only [go_sem, ↓reduceIte, Nat.reduceEqDiff, Nat.reduceAdd, Nat.reduceLeDiff, q1, hlen, e0, e3, e4, c1, hi, idxA, Int.toNat_natCast]; done))))
    refine ⟨p.length - (j + 1), by omega, j + 1, r', L', rfl, by omega, h3, by rw [hnx]; exact h1, h2, (by (simp (disch := omega) only [go_sem, ↓reduceIte, Nat.reduceEqDiff, Nat.reduceAdd, Nat.reduceLeDiff, q1, hlen, e0, e3, e4, c1, hi, idxA, Int.toNat_natCast]); try rfl), (by (simp (disch := omega) only [go_sem, ↓reduceIte, Nat.reduceEqDiff, Nat.reduceAdd, Nat.reduceLeDiff, q1, hlen, e0, e3, e4, c1, hi, idxA, Int.toNat_natCast]); try rfl), (by (simp (disch := omega) only [go_sem, ↓reduceIte, Nat.reduceEqDiff, Nat.reduceAdd, Nat.reduceLeDiff, q1, hlen, e0, e3, e4, c1, hi, idxA, Int.toNat_natCast]); try rfl)⟩
  · have c1 : decide ((j : Int) < (p.length : Int)) = false := by simpa using hlt
    have hjn : j = p.length := by omega
    subst hjn
    rw [List.take_length] at hown
    have ol := hown.loc
    have hsz : ∀ x ∈ p.map itoaB, x.size ≤ 30 := fun x hx => by
      obtain ⟨n, hn, rfl⟩ := List.mem_map.1 hx
      exact itoaB_size (hp n hn)
    repeat (first | (refine W_reg rfl fun G K hG hK => ?_; simp (disch := omega) only [go_sem, ↓reduceIte, Nat.reduceEqDiff, Nat.reduceAdd, Nat.reduceLeDiff, hG, q1, hlen, e0, e3, e4, c1]; refine hK _ _ ?_; clear hK K hG G) | (refine W_end rfl fun G K hG hK => ?_; simp (disch := omega) only [go_sem, ↓reduceIte, Nat.reduceEqDiff, Nat.reduceAdd, Nat.reduceLeDiff, hG, q1, hlen, e0, e3, e4, c1]; refine hK _ _ ?_; clear hK K hG G; repeat (first | refine thenI ?_ | refine thenE ?_ | refine thenR ?_ | refine inBI ?_ | refine inBR ?_ | refine inBS ?_ | refine inBN (by decide) ?_)) | refine W_seqS ?_ | refine W_seqC ?_ | refine W_seqB ?_ | refine W_block ?_ | (refine W_skip ?_; repeat (first | refine thenI ?_ | refine thenE ?_ | refine thenR ?_ | refine inBI ?_ | refine inBR ?_ | refine inBS ?_ | refine inBN (by decide) ?_)) | (refine W_condT ?hc ?_; (case hc => (simp (disch := omega) only [go_sem, ↓reduceIte, Nat.reduceEqDiff, Nat.reduceAdd, Nat.reduceLeDiff, q1, hlen, e0, e3, e4, c1]; done))) | (refine W_condF ?hc ?_; (case hc => (simp (disch := omega) only [go_sem, ↓reduceIte, Nat.reduceEqDiff, Nat.reduceAdd, Nat.reduceLeDiff, q1, hlen, e0, e3, e4, c1]; done))))
    refine W_exit ?_; repeat (first | refine thenI ?_ | refine thenE ?_ | refine thenR ?_ | refine inBI ?_ | refine inBR ?_ | refine inBS ?_ | refine inBN (by decide) ?_)
    repeat (first | (refine W_reg rfl fun G K hG hK => ?_; simp (disch := omega) only [go_sem, ↓reduceIte, Nat.reduceEqDiff, Nat.reduceAdd, Nat.reduceLeDiff, hG, q1, hlen, e0, e3, e4, c1]; refine hK _ _ ?_; clear hK K hG G) | (refine W_end rfl fun G K hG hK => ?_; simp (disch := omega) only [go_sem, ↓reduceIte, Nat.reduceEqDiff, Nat.reduceAdd, Nat.reduceLeDiff, hG, q1, hlen, e0, e3, e4, c1]; refine hK _ _ ?_; clear hK K hG G; repeat (first | refine thenI ?_ | refine thenE ?_ | refine thenR ?_ | refine inBI ?_ | refine inBR ?_ | refine inBS ?_ | refine inBN (by decide) ?_)) | refine W_seqS ?_ | refine W_seqC ?_ | refine W_seqB ?_ | refine W_block ?_ | (refine W_skip ?_; repeat (first | refine thenI ?_ | refine thenE ?_ | refine thenR ?_ | refine inBI ?_ | refine inBR ?_ | refine inBS ?_ | refine inBN (by decide) ?_)) | (refine W_condT ?hc ?_; (case hc => (simp (disch := omega) only [go_sem, ↓reduceIte, Nat.reduceEqDiff, Nat.reduceAdd, Nat.reduceLeDiff, q1, hlen, e0, e3, e4, c1]; done))) | (refine W_condF ?hc ?_; (case hc => (simp (disch := omega) only [go_sem, ↓reduceIte, Nat.reduceEqDiff, Nat.reduceAdd, Nat.reduceLeDiff, q1, hlen, e0, e3, e4, c1]; done))))
    (repeat (first | refine W_seqS ?_ | refine W_seqC ?_ | refine W_seqB ?_ | refine W_block ?_)); refine W_reg rfl fun G K hG hK => ?_; simp (disch := omega) only [go_sem, ↓reduceIte, Nat.reduceEqDiff, Nat.reduceAdd, Nat.reduceLeDiff, hG, q1, hlen, e0, e3, e4, c1, ol]
    refine w_call (specJoin_ok (p.map itoaB) ⟨#[46]⟩ st' r (by simp; omega) hsz (by decide) hown.row) (by simp (disch := omega) only [go_sem, ↓reduceIte, Nat.reduceEqDiff, q1, hlen, e0, e3, e4, c1, ol]) ?hl ?_
    case hl => first | rfl | (simp only [go_sem, List.all_cons, List.all_nil, Bool.not_false, Bool.and_self, q1, hlen, e0, e3, e4, c1, ol]; done)
    rintro r_ sb ⟨x1, rfl⟩; refine ⟨fun e => (by cases e), ?_⟩
    simp (disch := omega) only [go_sem, ↓reduceIte, Nat.reduceEqDiff, Nat.reduceAdd, Nat.reduceLeDiff, hG, q1, hlen, e0, e3, e4, c1]; refine hK _ _ ?_; clear hK K hG G; repeat (first | refine thenI ?_ | refine thenE ?_ | refine thenR ?_ | refine inBI ?_ | refine inBR ?_ | refine inBS ?_ | refine inBN (by decide) ?_)
    refine W_ret ?_; try (repeat (first | refine thenI ?_ | refine thenE ?_ | refine thenR ?_ | refine inBI ?_ | refine inBR ?_ | refine inBS ?_ | refine inBN (by decide) ?_))
    refine fin1 (.inl rfl) (by (simp (disch := omega) only [go_sem, ↓reduceIte, Nat.reduceEqDiff, Nat.reduceAdd, Nat.reduceLeDiff, q1, hlen, e0, e3, e4, c1]); try rfl) rfl ⟨hext.trans x1, by unfold fmtPos; rw [if_neg h0]⟩
end Go.Proofs.YtkohkdlbjbbegaaDoor.AM


/- Valid terms: impl.areNodes, IsValidTerm; spec.l3Left, l3Node, l3All, IsValidTerm. -/
namespace Go.Proofs.YtkohkdlbjbbegaaDoor.AM
open Go Go.Proofs
set_option linter.unusedVariables false
set_option linter.unusedSimpArgs false
set_option maxRecDepth 100000
attribute [local go_sem] List.map_cons List.map_nil List.all_cons List.all_nil Bool.and_self Option.map_some List.getElem?_toArray Option.bind_some gye_b gye_t gsk_b gsk_t gb1 gb2 gb3 gb4 bne_self_eq_false beq_self_eq_true w_guard w_nil stepV_some step_some step_some' w_move w_assign w_pick w_binOp w_unOp w_load w_fieldAddr w_indexAddr w_len w_max w_index ev_max max_int ev_index w_box w_alloc w_store w_field w_extract w_nilCheck w_convert w_buildSlice w_build ev_buildL fillL_nil fillL_cons bs0 bs1 ev_conv ev_bin ev_un ev_pick ev_load ev_fieldAddr ev_indexAddr ev_len ev_field ev_extract ev_nilCheck fr_tmp fr_int fr_bool fr_str fr_nil fr_func put_some put_none bin_lss bin_leq bin_gtr bin_geq bin_eql bin_neq bin_add bin_sub bin_mul bin_seql bin_sneq un_not pick_ ext_ loadA_p cellAt_l cellAt_h okPtr_l okPtr_h fadA_p allocA_l storeA_l cells_agg cells_int cells_str cells_sl cells_bool flat_i flat_s flat_b flat_sl flat_nil loc_agg loc_int loc_str loc_sl loc_bool loc_fn loc_ptr okv_agg okv_int okv_str okv_sl okv_bool cellsFrom splice upd_eval argEnv_zero argEnv_succ ne_eq Nat.add_one_ne_zero not_false_eq_true List.not_mem_nil and_self decide_true List.getElem?_cons_zero List.getElem?_cons_succ List.size_toArray List.length_cons List.length_nil List.take_succ_cons List.take_zero List.drop_succ_cons List.drop_zero List.cons_append List.nil_append List.drop_nil Bool.not_true Bool.not_false Bool.false_eq_true Nat.zero_add Nat.add_zero wrap_in List.toList_toArray List.mem_cons or_self or_false false_or
attribute [local go_sem] ag22 ag24 ag26 ag3 ag33 ag5 ag62 ag76 ag9 bu26 bu56 by26 by3 by33 by5 by9 el22 el24 el28 el33 el44 of26_0 of26_1 of26_2 of26_3 of56_0 of56_1 of56_2 of64_0 of64_1 ro26_0 ro26_1 ro26_2 ro3_0 ro3_1 ro3_3 ro33_0 ro33_1 ro5_0 ro5_1 ro9_0 ro9_1 ro9_2 ro9_3 ro9_4 sz22 sz24 sz26 sz3 sz33 sz5 sz62 sz76 sz9 ze26 ze3 ze33 ze5 ze64 ze75 ze88 ze9
-- AUTO

def leftV (left : Int) (c : Nat) : Int := if (c : Int) ≤ left then left - c else -1
theorem nodesL_bad {xs : List T} {j : Nat} (h : j < xs.length) (hb : xs[j].nodes = false) : T.nodesL xs = false := by
  rw [T.nodesL_all]
  refine Bool.eq_false_iff.2 fun ha => ?_
  have := List.all_eq_true.1 ha _ (List.getElem_mem h)
  rw [hb] at this; cases this
theorem nodesL_take {xs : List T} {j : Nat} (h : j < xs.length) : T.nodesL (xs.take (j + 1)) = (T.nodesL (xs.take j) && xs[j].nodes) := by
  rw [List.take_succ_eq_append_getElem h, T.nodesL_all, T.nodesL_all, List.all_append]; simp
theorem isW_node {n : Int} {nm : ByteArray} {args : List T} : (T.mk 3 n nm args).isW = nodeOk 3 n nm args := by
  unfold T.isW nodeOk
  rw [if_neg (by omega), if_neg (by omega), if_pos rfl]
  simp only [beq_self_eq_true, Bool.true_and]
  generalize (decide (n ≥ 0) && decide (n ≤ 3)) = a
  generalize (nm.toList == (⟨#[]⟩ : ByteArray).toList) = b
  generalize ((args.length : Int) == 0) = c
  cases a <;> cases b <;> cases c <;> rfl
end Go.Proofs.YtkohkdlbjbbegaaDoor.AM


/- Names are sorted: impl.SortNames, out of the shelf's slices.Sort and slices.Compact. -/
namespace Go.Proofs.YtkohkdlbjbbegaaDoor.AM
open Go Go.Proofs Go.RowKit Go.Sort
set_option linter.unusedVariables false
set_option linter.unusedSimpArgs false
set_option maxRecDepth 100000
attribute [local go_sem] List.map_cons List.map_nil List.all_cons List.all_nil Bool.and_self Option.map_some List.getElem?_toArray Option.bind_some gye_b gye_t gsk_b gsk_t gb1 gb2 gb3 gb4 bne_self_eq_false beq_self_eq_true w_guard w_nil stepV_some step_some step_some' w_move w_assign w_pick w_binOp w_unOp w_load w_fieldAddr w_indexAddr w_len w_max w_index ev_max max_int ev_index w_box w_alloc w_store w_field w_extract w_nilCheck w_convert w_buildSlice w_build ev_buildL fillL_nil fillL_cons bs0 bs1 ev_conv ev_bin ev_un ev_pick ev_load ev_fieldAddr ev_indexAddr ev_len ev_field ev_extract ev_nilCheck fr_tmp fr_int fr_bool fr_str fr_nil fr_func put_some put_none bin_lss bin_leq bin_gtr bin_geq bin_eql bin_neq bin_add bin_sub bin_mul bin_seql bin_sneq un_not pick_ ext_ loadA_p cellAt_l cellAt_h okPtr_l okPtr_h fadA_p allocA_l storeA_l cells_agg cells_int cells_str cells_sl cells_bool flat_i flat_s flat_b flat_sl flat_nil loc_agg loc_int loc_str loc_sl loc_bool loc_fn loc_ptr okv_agg okv_int okv_str okv_sl okv_bool cellsFrom splice upd_eval argEnv_zero argEnv_succ ne_eq Nat.add_one_ne_zero not_false_eq_true List.not_mem_nil and_self decide_true List.getElem?_cons_zero List.getElem?_cons_succ List.size_toArray List.length_cons List.length_nil List.take_succ_cons List.take_zero List.drop_succ_cons List.drop_zero List.cons_append List.nil_append List.drop_nil Bool.not_true Bool.not_false Bool.false_eq_true Nat.zero_add Nat.add_zero wrap_in List.toList_toArray List.mem_cons or_self or_false false_or
attribute [local go_sem] ag22 ag24 ag26 ag3 ag33 ag5 ag62 ag76 ag9 bu26 bu56 by26 by3 by33 by5 by9 el22 el24 el28 el33 el44 of26_0 of26_1 of26_2 of26_3 of56_0 of56_1 of56_2 of64_0 of64_1 ro26_0 ro26_1 ro26_2 ro3_0 ro3_1 ro3_3 ro33_0 ro33_1 ro5_0 ro5_1 ro9_0 ro9_1 ro9_2 ro9_3 ro9_4 sz22 sz24 sz26 sz3 sz33 sz5 sz62 sz76 sz9 ze26 ze3 ze33 ze5 ze64 ze75 ze88 ze9
-- AUTO

/-- One live block has turned: the rest of the tie stays. -/
theorem HR.turn {P : Program} {w w' : World} {M : List ME} {st : St} {i : Nat} {cs cs' : List Value} {e : TypeId} {m : ME} {c' : Array Value} (hH : HR P ⟨w, M, st⟩ M st w) (hi : st[i]? = some ⟨cs, e, 0⟩) (hm : M[i]? = some m)
    (hos : w'.os = w.os) (htp : w'.tape = w.tape) (hout : w'.output = w.output) (hsz : w.heap.size ≤ w'.heap.size) (hoth : ∀ k, k < w.heap.size → k ≠ m.b → w'.heap[k]? = w.heap[k]?)
    (hb : w'.heap[m.b]? = some (.cells c' e (0, 0))) (hs : c'.size = m.n) (hl : cs'.length ≤ m.n) (hcr : CR M cs' c') : HR P ⟨w, M, st⟩ M (st.set i ⟨cs', e, 0⟩) w' := by
  obtain ⟨c, hc, hcs, hcl, hcr0, hap⟩ := hH.blk i _ m hi hm (by simp) (by simp)
  have hilt := (List.getElem?_eq_some_iff.1 hi).1
  have hne : ∀ (j : Nat) b m', st[j]? = some b → M[j]? = some m' → b.stat ≠ 2 → j ≠ i → m'.b ≠ m.b := fun j b m' hj hm' h2 hji e => hji (hH.inj j i b _ m' m hj hi h2 (by simp) hm' hm e)
  have hback : ∀ (j : Nat) b, (st.set i ⟨cs', e, 0⟩)[j]? = some b → b.stat ≠ 2 → ∃ b0, st[j]? = some b0 ∧ b0.stat ≠ 2 := by
    intro j b hj h2
    by_cases hji : i = j
    · subst hji; exact ⟨_, hi, by simp⟩
    · rw [List.getElem?_set_ne hji] at hj; exact ⟨b, hj, h2⟩
  exact {
    len := by rw [List.length_set]; exact hH.len
    pre := fun _ _ h => h
    blk := by
      intro j b m' hj hm' h2 h1
      by_cases hji : i = j
      · subst hji
        rw [List.getElem?_set_self hilt] at hj
        cases hj
        rw [hm] at hm'
        cases hm'
        exact ⟨c', HasC.of hb, hs, hl, hcr.s, hap⟩
      · rw [List.getElem?_set_ne hji] at hj
        obtain ⟨c2, q1, q2, q3, q4, q5⟩ := hH.blk j b m' hj hm' h2 h1
        exact ⟨c2, q1.to (hoth _ (hH.lt j m' hm') (hne j b m' hj hm' h2 (fun e => hji e.symm))), q2, q3, q4, q5⟩
    inj := by
      intro j k b b' m1 m2 hj hk h1 h2 e1 e2 e3
      obtain ⟨b1, hb1, hs1⟩ := hback j b hj h1
      obtain ⟨b2, hb2, hs2⟩ := hback k b' hk h2
      exact hH.inj j k b1 b2 m1 m2 hb1 hb2 hs1 hs2 e1 e2 e3
    lt := fun j m' h => Nat.lt_of_lt_of_le (hH.lt j m' h) hsz
    old := hH.old
    ro := by
      intro j b m' hj hs1 hm'
      have hji : j ≠ i := fun e => by
        subst e
        have hj : st[j]? = some b := hj
        rw [hi] at hj
        cases hj
        cases hs1
      exact ⟨by rw [List.getElem?_set_ne (fun e => hji e.symm)]; exact hj, hoth _ (hH.lt j m' hm') (hne j b m' hj hm' (by omega) hji)⟩
    os := hos
    tape := htp
    output := hout
    size := hsz
    frame := fun k hk hno => hoth k hk (fun e => hno i m hm e.symm)
    tab := hH.tab
    cov := hH.cov }

theorem put_turn (w : World) (g q : Nat) (d : Array (List UInt8)) (os : Array Obj) : let w' := grow (putRow encStr (Sort.ahead w q) g 0 d) os
    w'.os = w.os ∧ w'.tape = w.tape ∧ w'.output = w.output ∧ w.heap.size ≤ w'.heap.size ∧ ∀ k, k < w.heap.size → k ≠ g → w'.heap[k]? = w.heap[k]? := by
  refine ⟨rfl, rfl, rfl, ?_, ?_⟩
  · show w.heap.size ≤ ((w.heap.modify g (onCells (putCells encStr 0 d))) ++ os).size
    simp
  · intro k hk hne
    show ((w.heap.modify g (onCells (putCells encStr 0 d))) ++ os)[k]? = w.heap[k]?
    rw [Array.getElem?_append_left (by simpa using hk), Array.getElem?_modify, if_neg (fun e => hne e.symm)]
theorem put_block (w : World) (g q : Nat) (d : Array (List UInt8)) (os : Array Obj) (cur : Array Value) (e : TypeId) (h : w.heap[g]? = some (.cells cur e (0, 0))) : (grow (putRow encStr (Sort.ahead w q) g 0 d) os).heap[g]? = some (.cells (putCells encStr 0 d cur) e (0, 0)) := by
  have hlt : g < w.heap.size := (Array.getElem?_eq_some_iff.1 h).1
  show ((w.heap.modify g (onCells (putCells encStr 0 d))) ++ os)[g]? = _
  rw [Array.getElem?_append_left (by simpa using hlt), Array.getElem?_modify, if_pos rfl, h]
  rfl
theorem put_cr (M : List ME) (ys zs : List (List UInt8)) (cur : Array Value) (h : ys.length ≤ cur.size) : CR M ((unchs ys).map Value.string) (putCells encStr 0 (ys ++ zs).toArray cur) := by
  intro j x hx
  have hj : j < ys.length := by
    have := (List.getElem?_eq_some_iff.1 hx).1
    simpa [unchs] using this
  have hx2 : x = .string ⟨ys[j].toArray⟩ := by
    have := (List.getElem?_eq_some_iff.1 hx).2
    rw [← this]
    simp [unchs]
  subst hx2
  refine ⟨rfl, _, ?_, .fl _ rfl⟩
  unfold putCells
  rw [Array.getElem?_mapIdx, Array.getElem?_eq_getElem (by omega), Option.map_some, if_pos ⟨by omega, by simp; omega⟩]
  rw [Nat.sub_zero, getElem!_pos _ j (by simp; omega)]
  simp [encStr, List.getElem_append_left hj]
theorem rowO_str {st : St} {xs : List ByteArray} {cs : List Value} {K : List Nat} (h : RowO (Kind.own (α := ByteArray) st) xs cs K) : cs = xs.map Value.string ∧ K = [] := by
  induction h with
  | nil => exact ⟨rfl, rfl⟩
  | cons x xs cx cs Lx L h hs ih =>
    obtain ⟨rfl, rfl⟩ := h
    obtain ⟨rfl, rfl⟩ := ih
    exact ⟨rfl, rfl⟩
theorem str_rowO (st : St) (xs : List ByteArray) : RowO (Kind.own (α := ByteArray) st) xs (xs.map Value.string) [] := by
  induction xs with
  | nil => exact .nil
  | cons x xs ih => exact .cons x xs [.string x] _ [] [] ⟨rfl, rfl⟩ ih
theorem holds_cr {P : Program} {w : World} {M : List ME} {g : Nat} {xs : List ByteArray} {c : Array Value} {e : TypeId} (hb : w.heap[g]? = some (.cells c e (0, 0))) (h : CR M (xs.map Value.string) c) : Holds encStr w g 0 (chs xs).toArray := by
  intro j hj
  have hj' : j < xs.length := by simpa [chs] using hj
  obtain ⟨_, y, hy, hv⟩ := h j (.string xs[j]) (by simp [hj'])
  have := hv.flat_eq rfl
  subst this
  have e1 : (chs xs).toArray[j]! = xs[j].data.toList := by
    rw [getElem!_pos _ j hj]
    simp [chs]
  refine ⟨?_, ?_⟩
  · rw [e1]
    simp [World.cell?, hb, hy, encStr]
  · simp [World.frozen?, hb]
theorem VL.one {M : List ME} {s : Value} {vals : Array Value} (h : VL M [s] vals) : ∃ v, vals = #[v] ∧ VR M s v := by
  have hl := h.len
  obtain ⟨l⟩ := vals
  match l, hl with
  | [v], _ => exact ⟨v, rfl, h.rel 0 s v rfl rfl⟩
end Go.Proofs.YtkohkdlbjbbegaaDoor.AM


/- FnNames' helpers: laws.sameTexts, laws.rising, impl.AllDistinct. -/
namespace Go.Proofs.YtkohkdlbjbbegaaDoor.AM
open Go Go.Proofs
set_option linter.unusedVariables false
set_option linter.unusedSimpArgs false
set_option maxRecDepth 100000
attribute [local go_sem] List.map_cons List.map_nil List.all_cons List.all_nil Bool.and_self Option.map_some List.getElem?_toArray Option.bind_some gye_b gye_t gsk_b gsk_t gb1 gb2 gb3 gb4 bne_self_eq_false beq_self_eq_true w_guard w_nil stepV_some step_some step_some' w_move w_assign w_pick w_binOp w_unOp w_load w_fieldAddr w_indexAddr w_len w_max w_index ev_max max_int ev_index w_box w_alloc w_store w_field w_extract w_nilCheck w_convert w_buildSlice w_build ev_buildL fillL_nil fillL_cons bs0 bs1 ev_conv ev_bin ev_un ev_pick ev_load ev_fieldAddr ev_indexAddr ev_len ev_field ev_extract ev_nilCheck fr_tmp fr_int fr_bool fr_str fr_nil fr_func put_some put_none bin_lss bin_leq bin_gtr bin_geq bin_eql bin_neq bin_add bin_sub bin_mul bin_seql bin_sneq un_not pick_ ext_ loadA_p cellAt_l cellAt_h okPtr_l okPtr_h fadA_p allocA_l storeA_l cells_agg cells_int cells_str cells_sl cells_bool flat_i flat_s flat_b flat_sl flat_nil loc_agg loc_int loc_str loc_sl loc_bool loc_fn loc_ptr okv_agg okv_int okv_str okv_sl okv_bool cellsFrom splice upd_eval argEnv_zero argEnv_succ ne_eq Nat.add_one_ne_zero not_false_eq_true List.not_mem_nil and_self decide_true List.getElem?_cons_zero List.getElem?_cons_succ List.size_toArray List.length_cons List.length_nil List.take_succ_cons List.take_zero List.drop_succ_cons List.drop_zero List.cons_append List.nil_append List.drop_nil Bool.not_true Bool.not_false Bool.false_eq_true Nat.zero_add Nat.add_zero wrap_in List.toList_toArray List.mem_cons or_self or_false false_or
attribute [local go_sem] ag22 ag24 ag26 ag3 ag33 ag5 ag62 ag76 ag9 bu26 bu56 by26 by3 by33 by5 by9 el22 el24 el28 el33 el44 of26_0 of26_1 of26_2 of26_3 of56_0 of56_1 of56_2 of64_0 of64_1 ro26_0 ro26_1 ro26_2 ro3_0 ro3_1 ro3_3 ro33_0 ro33_1 ro5_0 ro5_1 ro9_0 ro9_1 ro9_2 ro9_3 ro9_4 sz22 sz24 sz26 sz3 sz33 sz5 sz62 sz76 sz9 ze26 ze3 ze33 ze5 ze64 ze75 ze88 ze9
-- AUTO

end Go.Proofs.YtkohkdlbjbbegaaDoor.AM


/- impl.namesIn; IsGround on both sides. -/
namespace Go.Proofs.YtkohkdlbjbbegaaDoor.AM
open Go Go.Proofs
set_option linter.unusedVariables false
set_option linter.unusedSimpArgs false
set_option maxRecDepth 100000
attribute [local go_sem] List.map_cons List.map_nil List.all_cons List.all_nil Bool.and_self Option.map_some List.getElem?_toArray Option.bind_some gye_b gye_t gsk_b gsk_t gb1 gb2 gb3 gb4 bne_self_eq_false beq_self_eq_true w_guard w_nil stepV_some step_some step_some' w_move w_assign w_pick w_binOp w_unOp w_load w_fieldAddr w_indexAddr w_len w_max w_index ev_max max_int ev_index w_box w_alloc w_store w_field w_extract w_nilCheck w_convert w_buildSlice w_build ev_buildL fillL_nil fillL_cons bs0 bs1 ev_conv ev_bin ev_un ev_pick ev_load ev_fieldAddr ev_indexAddr ev_len ev_field ev_extract ev_nilCheck fr_tmp fr_int fr_bool fr_str fr_nil fr_func put_some put_none bin_lss bin_leq bin_gtr bin_geq bin_eql bin_neq bin_add bin_sub bin_mul bin_seql bin_sneq un_not pick_ ext_ loadA_p cellAt_l cellAt_h okPtr_l okPtr_h fadA_p allocA_l storeA_l cells_agg cells_int cells_str cells_sl cells_bool flat_i flat_s flat_b flat_sl flat_nil loc_agg loc_int loc_str loc_sl loc_bool loc_fn loc_ptr okv_agg okv_int okv_str okv_sl okv_bool cellsFrom splice upd_eval argEnv_zero argEnv_succ ne_eq Nat.add_one_ne_zero not_false_eq_true List.not_mem_nil and_self decide_true List.getElem?_cons_zero List.getElem?_cons_succ List.size_toArray List.length_cons List.length_nil List.take_succ_cons List.take_zero List.drop_succ_cons List.drop_zero List.cons_append List.nil_append List.drop_nil Bool.not_true Bool.not_false Bool.false_eq_true Nat.zero_add Nat.add_zero wrap_in List.toList_toArray List.mem_cons or_self or_false false_or
attribute [local go_sem] ag22 ag24 ag26 ag3 ag33 ag5 ag62 ag76 ag9 bu26 bu56 by26 by3 by33 by5 by9 el22 el24 el28 el33 el44 of26_0 of26_1 of26_2 of26_3 of56_0 of56_1 of56_2 of64_0 of64_1 ro26_0 ro26_1 ro26_2 ro3_0 ro3_1 ro3_3 ro33_0 ro33_1 ro5_0 ro5_1 ro9_0 ro9_1 ro9_2 ro9_3 ro9_4 sz22 sz24 sz26 sz3 sz33 sz5 sz62 sz76 sz9 ze26 ze3 ze33 ze5 ze64 ze75 ze88 ze9
-- AUTO

end Go.Proofs.YtkohkdlbjbbegaaDoor.AM


/- impl.namesIn, impl.VarsOfTerm, impl.RestrictSubst, impl.MatchTerm. -/
namespace Go.Proofs.YtkohkdlbjbbegaaDoor.AM
open Go Go.Proofs
set_option linter.unusedVariables false
set_option linter.unusedSimpArgs false
set_option maxRecDepth 100000
attribute [local go_sem] List.map_cons List.map_nil List.all_cons List.all_nil Bool.and_self Option.map_some List.getElem?_toArray Option.bind_some gye_b gye_t gsk_b gsk_t gb1 gb2 gb3 gb4 bne_self_eq_false beq_self_eq_true w_guard w_nil stepV_some step_some step_some' w_move w_assign w_pick w_binOp w_unOp w_load w_fieldAddr w_indexAddr w_len w_max w_index ev_max max_int ev_index w_box w_alloc w_store w_field w_extract w_nilCheck w_convert w_buildSlice w_build ev_buildL fillL_nil fillL_cons bs0 bs1 ev_conv ev_bin ev_un ev_pick ev_load ev_fieldAddr ev_indexAddr ev_len ev_field ev_extract ev_nilCheck fr_tmp fr_int fr_bool fr_str fr_nil fr_func put_some put_none bin_lss bin_leq bin_gtr bin_geq bin_eql bin_neq bin_add bin_sub bin_mul bin_seql bin_sneq un_not pick_ ext_ loadA_p cellAt_l cellAt_h okPtr_l okPtr_h fadA_p allocA_l storeA_l cells_agg cells_int cells_str cells_sl cells_bool flat_i flat_s flat_b flat_sl flat_nil loc_agg loc_int loc_str loc_sl loc_bool loc_fn loc_ptr okv_agg okv_int okv_str okv_sl okv_bool cellsFrom splice upd_eval argEnv_zero argEnv_succ ne_eq Nat.add_one_ne_zero not_false_eq_true List.not_mem_nil and_self decide_true List.getElem?_cons_zero List.getElem?_cons_succ List.size_toArray List.length_cons List.length_nil List.take_succ_cons List.take_zero List.drop_succ_cons List.drop_zero List.cons_append List.nil_append List.drop_nil Bool.not_true Bool.not_false Bool.false_eq_true Nat.zero_add Nat.add_zero wrap_in List.toList_toArray List.mem_cons or_self or_false false_or
attribute [local go_sem] ag22 ag24 ag26 ag3 ag33 ag5 ag62 ag76 ag9 bu26 bu56 by26 by3 by33 by5 by9 el22 el24 el28 el33 el44 of26_0 of26_1 of26_2 of26_3 of56_0 of56_1 of56_2 of64_0 of64_1 ro26_0 ro26_1 ro26_2 ro3_0 ro3_1 ro3_3 ro33_0 ro33_1 ro5_0 ro5_1 ro9_0 ro9_1 ro9_2 ro9_3 ro9_4 sz22 sz24 sz26 sz3 sz33 sz5 sz62 sz76 sz9 ze26 ze3 ze33 ze5 ze64 ze75 ze88 ze9
-- AUTO

end Go.Proofs.YtkohkdlbjbbegaaDoor.AM


/- The laws FnTerms, FnNames. -/
namespace Go.Proofs.YtkohkdlbjbbegaaDoor.AM
open Go Go.Proofs
set_option linter.unusedVariables false
set_option linter.unusedSimpArgs false
set_option maxRecDepth 100000
attribute [local go_sem] List.map_cons List.map_nil List.all_cons List.all_nil Bool.and_self Option.map_some List.getElem?_toArray Option.bind_some gye_b gye_t gsk_b gsk_t gb1 gb2 gb3 gb4 bne_self_eq_false beq_self_eq_true w_guard w_nil stepV_some step_some step_some' w_move w_assign w_pick w_binOp w_unOp w_load w_fieldAddr w_indexAddr w_len w_max w_index ev_max max_int ev_index w_box w_alloc w_store w_field w_extract w_nilCheck w_convert w_buildSlice w_build ev_buildL fillL_nil fillL_cons bs0 bs1 ev_conv ev_bin ev_un ev_pick ev_load ev_fieldAddr ev_indexAddr ev_len ev_field ev_extract ev_nilCheck fr_tmp fr_int fr_bool fr_str fr_nil fr_func put_some put_none bin_lss bin_leq bin_gtr bin_geq bin_eql bin_neq bin_add bin_sub bin_mul bin_seql bin_sneq un_not pick_ ext_ loadA_p cellAt_l cellAt_h okPtr_l okPtr_h fadA_p allocA_l storeA_l cells_agg cells_int cells_str cells_sl cells_bool flat_i flat_s flat_b flat_sl flat_nil loc_agg loc_int loc_str loc_sl loc_bool loc_fn loc_ptr okv_agg okv_int okv_str okv_sl okv_bool cellsFrom splice upd_eval argEnv_zero argEnv_succ ne_eq Nat.add_one_ne_zero not_false_eq_true List.not_mem_nil and_self decide_true List.getElem?_cons_zero List.getElem?_cons_succ List.size_toArray List.length_cons List.length_nil List.take_succ_cons List.take_zero List.drop_succ_cons List.drop_zero List.cons_append List.nil_append List.drop_nil Bool.not_true Bool.not_false Bool.false_eq_true Nat.zero_add Nat.add_zero wrap_in List.toList_toArray List.mem_cons or_self or_false false_or
attribute [local go_sem] ag22 ag24 ag26 ag3 ag33 ag5 ag62 ag76 ag9 bu26 bu56 by26 by3 by33 by5 by9 el22 el24 el28 el33 el44 of26_0 of26_1 of26_2 of26_3 of56_0 of56_1 of56_2 of64_0 of64_1 ro26_0 ro26_1 ro26_2 ro3_0 ro3_1 ro3_3 ro33_0 ro33_1 ro5_0 ro5_1 ro9_0 ro9_1 ro9_2 ro9_3 ro9_4 sz22 sz24 sz26 sz3 sz33 sz5 sz62 sz76 sz9 ze26 ze3 ze33 ze5 ze64 ze75 ze88 ze9
-- AUTO

theorem bent_limN {t : T} (h : BentP t) : LimN 1073741824 t := LimN.of_wt _ (by have := h.2; omega)
theorem bent_count {t : T} (h : BentP t) : t.count ≤ 101 ∧ t.depth ≤ 101 := by
  have h1 := T.count_wt t
  have h2 := T.depth_count t
  have := h.2
  omega
theorem names_zero (l : List ByteArray) : (((namesB l).length : Int) == 0) = (((l.length : Int)) == 0) := by
  cases l with
  | nil => rfl
  | cons x xs =>
    have h1 : x.data.toList ∈ chs (namesB (x :: xs)) := (names_mem _ _).2 (by simp [chs])
    have h2 : (chs (namesB (x :: xs))).length ≠ 0 := fun e => by
      rw [List.eq_nil_of_length_eq_zero e] at h1; cases h1
    rw [chs_length] at h2
    have e1 : (((namesB (x :: xs)).length : Int) == 0) = false := by simp; intro e; rw [e] at h2; exact h2 rfl
    have e2 : ((((x :: xs).length : Int)) == 0) = false := by simp; omega
    rw [e1, e2]
theorem mem_names {xs : List ByteArray} {w : ByteArray} : w ∈ namesB xs ↔ w ∈ xs := by
  have h : ∀ l : List ByteArray, w ∈ l ↔ w.data.toList ∈ chs l := fun l => by
    unfold chs
    constructor
    · intro h; exact List.mem_map.2 ⟨w, h, rfl⟩
    · intro h
      obtain ⟨y, h1, h2⟩ := List.mem_map.1 h
      have : y = w := ByteArray.ext (Array.ext' h2)
      rw [← this]; exact h1
  rw [h, h, names_mem]
end Go.Proofs.YtkohkdlbjbbegaaDoor.AM


/- Positions drawn; the law FnAllPositions. -/
namespace Go.Proofs.YtkohkdlbjbbegaaDoor.AM
open Go Go.Proofs
set_option linter.unusedVariables false
set_option linter.unusedSimpArgs false
set_option maxRecDepth 100000
attribute [local go_sem] List.map_cons List.map_nil List.all_cons List.all_nil Bool.and_self Option.map_some List.getElem?_toArray Option.bind_some gye_b gye_t gsk_b gsk_t gb1 gb2 gb3 gb4 bne_self_eq_false beq_self_eq_true w_guard w_nil stepV_some step_some step_some' w_move w_assign w_pick w_binOp w_unOp w_load w_fieldAddr w_indexAddr w_len w_max w_index ev_max max_int ev_index w_box w_alloc w_store w_field w_extract w_nilCheck w_convert w_buildSlice w_build ev_buildL fillL_nil fillL_cons bs0 bs1 ev_conv ev_bin ev_un ev_pick ev_load ev_fieldAddr ev_indexAddr ev_len ev_field ev_extract ev_nilCheck fr_tmp fr_int fr_bool fr_str fr_nil fr_func put_some put_none bin_lss bin_leq bin_gtr bin_geq bin_eql bin_neq bin_add bin_sub bin_mul bin_seql bin_sneq un_not pick_ ext_ loadA_p cellAt_l cellAt_h okPtr_l okPtr_h fadA_p allocA_l storeA_l cells_agg cells_int cells_str cells_sl cells_bool flat_i flat_s flat_b flat_sl flat_nil loc_agg loc_int loc_str loc_sl loc_bool loc_fn loc_ptr okv_agg okv_int okv_str okv_sl okv_bool cellsFrom splice upd_eval argEnv_zero argEnv_succ ne_eq Nat.add_one_ne_zero not_false_eq_true List.not_mem_nil and_self decide_true List.getElem?_cons_zero List.getElem?_cons_succ List.size_toArray List.length_cons List.length_nil List.take_succ_cons List.take_zero List.drop_succ_cons List.drop_zero List.cons_append List.nil_append List.drop_nil Bool.not_true Bool.not_false Bool.false_eq_true Nat.zero_add Nat.add_zero wrap_in List.toList_toArray List.mem_cons or_self or_false false_or
attribute [local go_sem] ag22 ag24 ag26 ag3 ag33 ag5 ag62 ag76 ag9 bu26 bu56 by26 by3 by33 by5 by9 el22 el24 el28 el33 el44 of26_0 of26_1 of26_2 of26_3 of56_0 of56_1 of56_2 of64_0 of64_1 ro26_0 ro26_1 ro26_2 ro3_0 ro3_1 ro3_3 ro33_0 ro33_1 ro5_0 ro5_1 ro9_0 ro9_1 ro9_2 ro9_3 ro9_4 sz22 sz24 sz26 sz3 sz33 sz5 sz62 sz76 sz9 ze26 ze3 ze33 ze5 ze64 ze75 ze88 ze9
-- AUTO

theorem drawPos_ok (bs : List Byt) (st : St) (s : Value) (hbig : bs.length ≤ 4611686018427387904) (hr : RowY st bs s) :
    CallS Tryd.prog 5 [s] st (DrawE st BentP) := by
  refine CallS_of_W [] 6 Tryd.func5 rfl rfl rfl rfl (by simp) ?_
  have q1 := hr.notLoc.1
  repeat (first | (refine W_reg rfl fun G K hG hK => ?_; simp (disch := omega) only [go_sem, ↓reduceIte, Nat.reduceEqDiff, Nat.reduceAdd, Nat.reduceLeDiff, hG, q1]; refine hK _ _ ?_; clear hK K hG G) | (refine W_end rfl fun G K hG hK => ?_; simp (disch := omega) only [go_sem, ↓reduceIte, Nat.reduceEqDiff, Nat.reduceAdd, Nat.reduceLeDiff, hG, q1]; refine hK _ _ ?_; clear hK K hG G; repeat (first | refine thenI ?_ | refine thenE ?_ | refine thenR ?_ | refine inBI ?_ | refine inBR ?_ | refine inBS ?_ | refine inBN (by decide) ?_)) | refine W_seqS ?_ | refine W_seqC ?_ | refine W_seqB ?_ | refine W_block ?_ | (refine W_skip ?_; repeat (first | refine thenI ?_ | refine thenE ?_ | refine thenR ?_ | refine inBI ?_ | refine inBR ?_ | refine inBS ?_ | refine inBN (by decide) ?_)) | (refine W_condT ?hc ?_; (case hc => (simp (disch := omega) only [go_sem, ↓reduceIte, Nat.reduceEqDiff, Nat.reduceAdd, Nat.reduceLeDiff, q1]; done))) | (refine W_condF ?hc ?_; (case hc => (simp (disch := omega) only [go_sem, ↓reduceIte, Nat.reduceEqDiff, Nat.reduceAdd, Nat.reduceLeDiff, q1]; done))))
  (repeat (first | refine W_seqS ?_ | refine W_seqC ?_ | refine W_seqB ?_ | refine W_block ?_)); refine W_reg rfl fun G K hG hK => ?_; simp (disch := omega) only [go_sem, ↓reduceIte, Nat.reduceEqDiff, Nat.reduceAdd, Nat.reduceLeDiff, hG, q1]
  refine w_call (l1New_ok bs st s hbig hr) (by simp (disch := omega) only [go_sem, ↓reduceIte, Nat.reduceEqDiff, q1]) ?hl ?_
  case hl => first | rfl | (simp only [go_sem, List.all_cons, List.all_nil, Bool.not_false, Bool.and_self, q1]; done)
  rintro r_ sa ⟨rfl, x1, hc⟩; refine ⟨fun e => (by cases e), ?_⟩
  simp (disch := omega) only [go_sem, ↓reduceIte, Nat.reduceEqDiff, Nat.reduceAdd, Nat.reduceLeDiff, q1]
  refine w_call (l3Bent_ok st.length bs sa hc) (by simp (disch := omega) only [go_sem, ↓reduceIte, Nat.reduceEqDiff, q1]) ?hl ?_
  case hl => first | rfl | (simp only [go_sem, List.all_cons, List.all_nil, Bool.not_false, Bool.and_self, q1]; done)
  rintro r_ sb ⟨hd, a, ds, L, rfl, ho, hf, hp⟩; refine ⟨fun e => (by cases e), ?_⟩
  obtain ⟨k, n, m, s1, rfl, a1, a2, a3⟩ := ho.args_cells
  simp (disch := omega) only [go_sem, ↓reduceIte, Nat.reduceEqDiff, Nat.reduceAdd, Nat.reduceLeDiff, hG, q1, a1, a2, a3]; refine hK _ _ ?_; clear hK K hG G; repeat (first | refine thenI ?_ | refine thenE ?_ | refine thenR ?_ | refine inBI ?_ | refine inBR ?_ | refine inBS ?_ | refine inBN (by decide) ?_)
  refine W_ret ?_; try (repeat (first | refine thenI ?_ | refine thenE ?_ | refine thenR ?_ | refine inBI ?_ | refine inBR ?_ | refine inBS ?_ | refine inBN (by decide) ?_))
  refine finC (.inl rfl) (by (simp (disch := omega) only [go_sem, ↓reduceIte, Nat.reduceEqDiff, Nat.reduceAdd, Nat.reduceLeDiff, q1, a1, a2, a3]); try rfl) ⟨hd.away.ext_of x1 (.inr ⟨_, Nat.le_refl _, rfl⟩), a, [_, _, _, _], rfl, ho.enc, hp⟩
theorem Sl.noSpot {α : Type} [Kind α] {st : St} {xs : List α} {s : Value} {L : List Nat} (h : Sl st xs s L) : s ≠ .slice (some ⟨0, 0, some 0⟩) 0 0 := by
  rcases h with ⟨rfl, _⟩ | ⟨i, c, cs, K, rfl, _⟩ <;> (intro e; cases e)
theorem drawPre_ok (bs : List Byt) (st : St) (s : Value) (hbig : bs.length ≤ 4611686018427387904) (hr : RowY st bs s) :
    CallS Tryd.prog 12 [s] st fun r st2 => Ext st st2 ∧ ∃ (p q : List Int) (v w : Value), r = .tuple #[v, w] ∧ Rw st2 p v ∧ Rw st2 q w ∧ p.length ≤ 201 ∧ q.length ≤ 201 ∧ w ≠ .slice (some ⟨0, 0, some 0⟩) 0 0 := by
  refine CallS_of_W [] 16 Tryd.func12 rfl rfl rfl rfl (by simp) ?_
  have q1 := hr.notLoc.1
  repeat (first | (refine W_reg rfl fun G K hG hK => ?_; simp (disch := omega) only [go_sem, ↓reduceIte, Nat.reduceEqDiff, Nat.reduceAdd, Nat.reduceLeDiff, hG, q1]; refine hK _ _ ?_; clear hK K hG G) | (refine W_end rfl fun G K hG hK => ?_; simp (disch := omega) only [go_sem, ↓reduceIte, Nat.reduceEqDiff, Nat.reduceAdd, Nat.reduceLeDiff, hG, q1]; refine hK _ _ ?_; clear hK K hG G; repeat (first | refine thenI ?_ | refine thenE ?_ | refine thenR ?_ | refine inBI ?_ | refine inBR ?_ | refine inBS ?_ | refine inBN (by decide) ?_)) | refine W_seqS ?_ | refine W_seqC ?_ | refine W_seqB ?_ | refine W_block ?_ | (refine W_skip ?_; repeat (first | refine thenI ?_ | refine thenE ?_ | refine thenR ?_ | refine inBI ?_ | refine inBR ?_ | refine inBS ?_ | refine inBN (by decide) ?_)) | (refine W_condT ?hc ?_; (case hc => (simp (disch := omega) only [go_sem, ↓reduceIte, Nat.reduceEqDiff, Nat.reduceAdd, Nat.reduceLeDiff, q1]; done))) | (refine W_condF ?hc ?_; (case hc => (simp (disch := omega) only [go_sem, ↓reduceIte, Nat.reduceEqDiff, Nat.reduceAdd, Nat.reduceLeDiff, q1]; done))))
  (repeat (first | refine W_seqS ?_ | refine W_seqC ?_ | refine W_seqB ?_ | refine W_block ?_)); refine W_reg rfl fun G K hG hK => ?_; simp (disch := omega) only [go_sem, ↓reduceIte, Nat.reduceEqDiff, Nat.reduceAdd, Nat.reduceLeDiff, hG, q1]
  refine w_call (l1New_ok bs st s hbig hr) (by simp (disch := omega) only [go_sem, ↓reduceIte, Nat.reduceEqDiff, q1]) ?hl ?_
  case hl => first | rfl | (simp only [go_sem, List.all_cons, List.all_nil, Bool.not_false, Bool.and_self, q1]; done)
  rintro r_ sa ⟨rfl, x1, hc⟩; refine ⟨fun e => (by cases e), ?_⟩
  simp (disch := omega) only [go_sem, ↓reduceIte, Nat.reduceEqDiff, Nat.reduceAdd, Nat.reduceLeDiff, hG, q1]; refine hK _ _ ?_; clear hK K hG G; repeat (first | refine thenI ?_ | refine thenE ?_ | refine thenR ?_ | refine inBI ?_ | refine inBR ?_ | refine inBS ?_ | refine inBN (by decide) ?_)
  (repeat (first | refine W_seqS ?_ | refine W_seqC ?_ | refine W_seqB ?_ | refine W_block ?_)); refine W_reg rfl fun G K hG hK => ?_; simp (disch := omega) only [go_sem, ↓reduceIte, Nat.reduceEqDiff, Nat.reduceAdd, Nat.reduceLeDiff, hG, q1]
  refine w_call (l3Bent_ok st.length bs sa hc) (by simp (disch := omega) only [go_sem, ↓reduceIte, Nat.reduceEqDiff, q1]) ?hl ?_
  case hl => first | rfl | (simp only [go_sem, List.all_cons, List.all_nil, Bool.not_false, Bool.and_self, q1]; done)
  rintro r_ sb ⟨hd, t, ds, L, rfl, ho, hf, hp⟩; refine ⟨fun e => (by cases e), ?_⟩
  obtain ⟨k, n, m, s1, rfl, a1, a2, a3⟩ := ho.args_cells
  simp (disch := omega) only [go_sem, ↓reduceIte, Nat.reduceEqDiff, Nat.reduceAdd, Nat.reduceLeDiff, hG, q1, a1, a2, a3]; refine hK _ _ ?_; clear hK K hG G; repeat (first | refine thenI ?_ | refine thenE ?_ | refine thenR ?_ | refine inBI ?_ | refine inBR ?_ | refine inBS ?_ | refine inBN (by decide) ?_)
  repeat (first | (refine W_reg rfl fun G K hG hK => ?_; simp (disch := omega) only [go_sem, ↓reduceIte, Nat.reduceEqDiff, Nat.reduceAdd, Nat.reduceLeDiff, hG, q1, a1, a2, a3]; refine hK _ _ ?_; clear hK K hG G) | (refine W_end rfl fun G K hG hK => ?_; simp (disch := omega) only [go_sem, ↓reduceIte, Nat.reduceEqDiff, Nat.reduceAdd, Nat.reduceLeDiff, hG, q1, a1, a2, a3]; refine hK _ _ ?_; clear hK K hG G; repeat (first | refine thenI ?_ | refine thenE ?_ | refine thenR ?_ | refine inBI ?_ | refine inBR ?_ | refine inBS ?_ | refine inBN (by decide) ?_)) | refine W_seqS ?_ | refine W_seqC ?_ | refine W_seqB ?_ | refine W_block ?_ | (refine W_skip ?_; repeat (first | refine thenI ?_ | refine thenE ?_ | refine thenR ?_ | refine inBI ?_ | refine inBR ?_ | refine inBS ?_ | refine inBN (by decide) ?_)) | (refine W_condT ?hc ?_; (case hc => (simp (disch := omega) only [go_sem, ↓reduceIte, Nat.reduceEqDiff, Nat.reduceAdd, Nat.reduceLeDiff, q1, a1, a2, a3]; done))) | (refine W_condF ?hc ?_; (case hc => (simp (disch := omega) only [go_sem, ↓reduceIte, Nat.reduceEqDiff, Nat.reduceAdd, Nat.reduceLeDiff, q1, a1, a2, a3]; done))))
  (repeat (first | refine W_seqS ?_ | refine W_seqC ?_ | refine W_seqB ?_ | refine W_block ?_)); refine W_regL mixed [5] [] [2, 5] [[(0, false), (1, false), (3, false), (4, false), (2, false), (5, false), (6, false), (7, false)]] rfl (by decide +kernel) (by intro t ht; simp only [List.mem_cons, List.not_mem_nil, or_false] at ht; (rcases ht with rfl) <;> (first | rfl | (simp only [q1, a1, a2, a3]; done) | (simp only [q1, a1, a2, a3]; rfl))) fun G K hG hK => (fm_cons ?_ fm_nil)
  simp only [pickOps, List.filterMap_cons, List.filterMap_nil, List.getElem?_cons_zero, List.getElem?_cons_succ, Option.map_some]; simp (disch := omega) only [go_sem, ↓reduceIte, Nat.reduceEqDiff, Nat.reduceAdd, Nat.reduceLeDiff, hG, q1, a1, a2, a3]
  refine w_call (l4Draw_ok st.length bs t sb _ (by have := hp.2; omega) ho.enc hd.cur) (by simp (disch := omega) only [go_sem, ↓reduceIte, Nat.reduceEqDiff, q1, a1, a2, a3]) ?hl ?_
  case hl => first | rfl | (simp only [go_sem, List.all_cons, List.all_nil, Bool.not_false, Bool.and_self, q1, a1, a2, a3]; done)
  rintro rp sc ⟨hd2, p, Lp, hs, hfp, hpl⟩; refine ⟨fun e => (by cases e), ?_⟩
  have b1 := hs.loc
  simp (disch := omega) only [go_sem, ↓reduceIte, Nat.reduceEqDiff, Nat.reduceAdd, Nat.reduceLeDiff, q1, a1, a2, a3, b1]
  refine w_call (l4Draw_ok st.length bs t sc _ (by have := hp.2; omega) (hd2.enc ho hf hc.lt) hd2.cur) (by simp (disch := omega) only [go_sem, ↓reduceIte, Nat.reduceEqDiff, q1, a1, a2, a3, b1]) ?hl ?_
  case hl => first | rfl | (simp only [go_sem, List.all_cons, List.all_nil, Bool.not_false, Bool.and_self, q1, a1, a2, a3, b1]; done)
  rintro rq sd ⟨hd3, q, Lq, hs2, hfq, hql⟩; refine ⟨fun e => (by cases e), ?_⟩
  have b2 := hs2.loc
  simp (disch := omega) only [go_sem, ↓reduceIte, Nat.reduceEqDiff, Nat.reduceAdd, Nat.reduceLeDiff, hG, q1, a1, a2, a3, b1, b2]; refine hK _ _ ?_; clear hK K hG G; repeat (first | refine thenI ?_ | refine thenE ?_ | refine thenR ?_ | refine inBI ?_ | refine inBR ?_ | refine inBS ?_ | refine inBN (by decide) ?_)
  have hl1 := hd.away.1
  refine W_ret ?_; try (repeat (first | refine thenI ?_ | refine thenE ?_ | refine thenR ?_ | refine inBI ?_ | refine inBR ?_ | refine inBS ?_ | refine inBN (by decide) ?_))
  refine fin2 (.inl rfl) (by (simp (disch := omega) only [go_sem, ↓reduceIte, Nat.reduceEqDiff, Nat.reduceAdd, Nat.reduceLeDiff, q1, a1, a2, a3, b1, b2]); try rfl) b1 (by (simp (disch := omega) only [go_sem, ↓reduceIte, Nat.reduceEqDiff, Nat.reduceAdd, Nat.reduceLeDiff, q1, a1, a2, a3, b1, b2]); try rfl) b2 ⟨((hd.trans hd2).trans hd3).away.ext_of x1 (.inr ⟨_, Nat.le_refl _, rfl⟩), p, q, _, _, rfl, (hd3.sl hs hfp hd.cur.lt).row, hs2.row, hpl, hql, hs2.noSpot⟩
theorem pre_self (x : List Int) : isPre (x.take (x.length - 1)) x = true := by
  unfold isPre
  rw [List.length_take, Nat.min_eq_left (by omega)]
  exact decide_eq_true rfl
theorem wFnAllPositions (st : St) (bs : List Byt) (s : Value) (hr : RowY st bs s) (hN : bs.length ≤ maxLen) : CallS Tryd.prog 3 [s] st fun r _ => r = .bool true := by
  refine CallS_of_W [] 90 Tryd.func3 rfl rfl rfl rfl (by simp) ?_
  have q1 := hr.notLoc.1
  have beq1 : ∀ (x y : Operand) (a b : Bool), binE Tryd.prog .eql 4 x y (.bool a) (.bool b) = some (.bool (a == b)) := fun x y a b => bin_beql Tryd.underlying4
  repeat (first | (refine W_reg rfl fun G K hG hK => ?_; simp (disch := omega) only [go_sem, ↓reduceIte, Nat.reduceEqDiff, Nat.reduceAdd, Nat.reduceLeDiff, hG, q1, beq1]; refine hK _ _ ?_; clear hK K hG G) | (refine W_end rfl fun G K hG hK => ?_; simp (disch := omega) only [go_sem, ↓reduceIte, Nat.reduceEqDiff, Nat.reduceAdd, Nat.reduceLeDiff, hG, q1, beq1]; refine hK _ _ ?_; clear hK K hG G; repeat (first | refine thenI ?_ | refine thenE ?_ | refine thenR ?_ | refine inBI ?_ | refine inBR ?_ | refine inBS ?_ | refine inBN (by decide) ?_)) | refine W_seqS ?_ | refine W_seqC ?_ | refine W_seqB ?_ | refine W_block ?_ | (refine W_skip ?_; repeat (first | refine thenI ?_ | refine thenE ?_ | refine thenR ?_ | refine inBI ?_ | refine inBR ?_ | refine inBS ?_ | refine inBN (by decide) ?_)) | (refine W_condT ?hc ?_; (case hc => (simp (disch := omega) only [go_sem, ↓reduceIte, Nat.reduceEqDiff, Nat.reduceAdd, Nat.reduceLeDiff, q1, beq1]; done))) | (refine W_condF ?hc ?_; (case hc => (simp (disch := omega) only [go_sem, ↓reduceIte, Nat.reduceEqDiff, Nat.reduceAdd, Nat.reduceLeDiff, q1, beq1]; done))))
  (repeat (first | refine W_seqS ?_ | refine W_seqC ?_ | refine W_seqB ?_ | refine W_block ?_)); refine W_reg rfl fun G K hG hK => ?_; simp (disch := omega) only [go_sem, ↓reduceIte, Nat.reduceEqDiff, Nat.reduceAdd, Nat.reduceLeDiff, hG, q1, beq1]
  refine w_call (big_ok bs st s hr) (by simp (disch := omega) only [go_sem, ↓reduceIte, Nat.reduceEqDiff, q1, beq1]) ?hl ?_
  case hl => first | rfl | (simp only [go_sem, List.all_cons, List.all_nil, Bool.not_false, Bool.and_self, q1, beq1]; done)
  rintro r_ st ⟨rfl, rfl⟩; refine ⟨fun e => (by cases e), ?_⟩
  simp (disch := omega) only [go_sem, ↓reduceIte, Nat.reduceEqDiff, Nat.reduceAdd, Nat.reduceLeDiff, hG, q1, beq1]; refine hK _ _ ?_; clear hK K hG G; repeat (first | refine thenI ?_ | refine thenE ?_ | refine thenR ?_ | refine inBI ?_ | refine inBR ?_ | refine inBS ?_ | refine inBN (by decide) ?_)
  cases hb : decide ((bs.length : Int) > 1048576) with
  | true =>
    repeat (first | (refine W_reg rfl fun G K hG hK => ?_; simp (disch := omega) only [go_sem, ↓reduceIte, Nat.reduceEqDiff, Nat.reduceAdd, Nat.reduceLeDiff, hG, q1, beq1]; refine hK _ _ ?_; clear hK K hG G) | (refine W_end rfl fun G K hG hK => ?_; simp (disch := omega) only [go_sem, ↓reduceIte, Nat.reduceEqDiff, Nat.reduceAdd, Nat.reduceLeDiff, hG, q1, beq1]; refine hK _ _ ?_; clear hK K hG G; repeat (first | refine thenI ?_ | refine thenE ?_ | refine thenR ?_ | refine inBI ?_ | refine inBR ?_ | refine inBS ?_ | refine inBN (by decide) ?_)) | refine W_seqS ?_ | refine W_seqC ?_ | refine W_seqB ?_ | refine W_block ?_ | (refine W_skip ?_; repeat (first | refine thenI ?_ | refine thenE ?_ | refine thenR ?_ | refine inBI ?_ | refine inBR ?_ | refine inBS ?_ | refine inBN (by decide) ?_)) | (refine W_condT ?hc ?_; (case hc => (simp (disch := omega) only [go_sem, ↓reduceIte, Nat.reduceEqDiff, Nat.reduceAdd, Nat.reduceLeDiff, q1, beq1]; done))) | (refine W_condF ?hc ?_; (case hc => (simp (disch := omega) only [go_sem, ↓reduceIte, Nat.reduceEqDiff, Nat.reduceAdd, Nat.reduceLeDiff, q1, beq1]; done))))
    refine W_ret ?_; try (repeat (first | refine thenI ?_ | refine thenE ?_ | refine thenR ?_ | refine inBI ?_ | refine inBR ?_ | refine inBS ?_ | refine inBN (by decide) ?_))
    refine fin1 (.inl rfl) (by (simp (disch := omega) only [go_sem, ↓reduceIte, Nat.reduceEqDiff, Nat.reduceAdd, Nat.reduceLeDiff, q1, beq1]); try rfl) rfl rfl
  | false =>
  have hbig : bs.length ≤ 4611686018427387904 := by simp at hb; omega
  repeat (first | (refine W_reg rfl fun G K hG hK => ?_; simp (disch := omega) only [go_sem, ↓reduceIte, Nat.reduceEqDiff, Nat.reduceAdd, Nat.reduceLeDiff, hG, q1, beq1]; refine hK _ _ ?_; clear hK K hG G) | (refine W_end rfl fun G K hG hK => ?_; simp (disch := omega) only [go_sem, ↓reduceIte, Nat.reduceEqDiff, Nat.reduceAdd, Nat.reduceLeDiff, hG, q1, beq1]; refine hK _ _ ?_; clear hK K hG G; repeat (first | refine thenI ?_ | refine thenE ?_ | refine thenR ?_ | refine inBI ?_ | refine inBR ?_ | refine inBS ?_ | refine inBN (by decide) ?_)) | refine W_seqS ?_ | refine W_seqC ?_ | refine W_seqB ?_ | refine W_block ?_ | (refine W_skip ?_; repeat (first | refine thenI ?_ | refine thenE ?_ | refine thenR ?_ | refine inBI ?_ | refine inBR ?_ | refine inBS ?_ | refine inBN (by decide) ?_)) | (refine W_condT ?hc ?_; (case hc => (simp (disch := omega) only [go_sem, ↓reduceIte, Nat.reduceEqDiff, Nat.reduceAdd, Nat.reduceLeDiff, q1, beq1]; done))) | (refine W_condF ?hc ?_; (case hc => (simp (disch := omega) only [go_sem, ↓reduceIte, Nat.reduceEqDiff, Nat.reduceAdd, Nat.reduceLeDiff, q1, beq1]; done))))
  (repeat (first | refine W_seqS ?_ | refine W_seqC ?_ | refine W_seqB ?_ | refine W_block ?_)); refine W_reg rfl fun G K hG hK => ?_; simp (disch := omega) only [go_sem, ↓reduceIte, Nat.reduceEqDiff, Nat.reduceAdd, Nat.reduceLeDiff, hG, q1, beq1]
  refine w_call (drawPos_ok bs st s hbig hr) (by simp (disch := omega) only [go_sem, ↓reduceIte, Nat.reduceEqDiff, q1, beq1]) ?hl ?_
  case hl => first | rfl | (simp only [go_sem, List.all_cons, List.all_nil, Bool.not_false, Bool.and_self, q1, beq1]; done)
  rintro r_ sa ⟨x1, t, ds, rfl, hE, hp⟩; refine ⟨fun e => (by cases e), ?_⟩
  have hl := bent_lim hp
  have hcn := bent_count hp
  have hwt := hp.2
  obtain ⟨k, n, m, s1, rfl, a1, a2, a3⟩ := hE.args_cells
  simp (disch := omega) only [go_sem, ↓reduceIte, Nat.reduceEqDiff, Nat.reduceAdd, Nat.reduceLeDiff, hG, q1, beq1, a1, a2, a3]; refine hK _ _ ?_; clear hK K hG G; repeat (first | refine thenI ?_ | refine thenE ?_ | refine thenR ?_ | refine inBI ?_ | refine inBR ?_ | refine inBS ?_ | refine inBN (by decide) ?_)
  (repeat (first | refine W_seqS ?_ | refine W_seqC ?_ | refine W_seqB ?_ | refine W_block ?_)); refine W_reg rfl fun G K hG hK => ?_; simp (disch := omega) only [go_sem, ↓reduceIte, Nat.reduceEqDiff, Nat.reduceAdd, Nat.reduceLeDiff, hG, q1, beq1, a1, a2, a3]
  refine w_call (implPosOf_ok t sa _ (by omega) hE) (by simp (disch := omega) only [go_sem, ↓reduceIte, Nat.reduceEqDiff, q1, beq1, a1, a2, a3]) ?hl ?_
  case hl => first | rfl | (simp only [go_sem, List.all_cons, List.all_nil, Bool.not_false, Bool.and_self, q1, beq1, a1, a2, a3]; done)
  rintro rv sb ⟨x2, L, hs, hf⟩; refine ⟨fun e => (by cases e), ?_⟩
  have b1 := hs.loc
  have hlen : lenE Tryd.prog 28 rv = some (.int .i64 (t.pos []).length) := row_len hs.row Tryd.underlying28
  rw [T.pos_count] at hlen
  simp (disch := omega) only [go_sem, ↓reduceIte, Nat.reduceEqDiff, Nat.reduceAdd, Nat.reduceLeDiff, hG, q1, beq1, a1, a2, a3, b1]; refine hK _ _ ?_; clear hK K hG G; repeat (first | refine thenI ?_ | refine thenE ?_ | refine thenR ?_ | refine inBI ?_ | refine inBR ?_ | refine inBS ?_ | refine inBN (by decide) ?_)
  (repeat (first | refine W_seqS ?_ | refine W_seqC ?_ | refine W_seqB ?_ | refine W_block ?_)); refine W_reg rfl fun G K hG hK => ?_; simp (disch := omega) only [go_sem, ↓reduceIte, Nat.reduceEqDiff, Nat.reduceAdd, Nat.reduceLeDiff, hG, q1, beq1, a1, a2, a3, b1, hlen]
  refine w_call (specCount_ok t sb _ hl (by omega) (Enc.ext x2 _ _ hE)) (by simp (disch := omega) only [go_sem, ↓reduceIte, Nat.reduceEqDiff, q1, beq1, a1, a2, a3, b1, hlen]) ?hl ?_
  case hl => first | rfl | (simp only [go_sem, List.all_cons, List.all_nil, Bool.not_false, Bool.and_self, q1, beq1, a1, a2, a3, b1, hlen]; done)
  rintro r_ sb ⟨rfl, rfl⟩; refine ⟨fun e => (by cases e), ?_⟩
  simp (disch := omega) only [go_sem, ↓reduceIte, Nat.reduceEqDiff, Nat.reduceAdd, Nat.reduceLeDiff, hG, q1, beq1, a1, a2, a3, b1, hlen]; refine hK _ _ ?_; clear hK K hG G; repeat (first | refine thenI ?_ | refine thenE ?_ | refine thenR ?_ | refine inBI ?_ | refine inBR ?_ | refine inBS ?_ | refine inBN (by decide) ?_)
  repeat (first | (refine W_reg rfl fun G K hG hK => ?_; simp (disch := omega) only [go_sem, ↓reduceIte, Nat.reduceEqDiff, Nat.reduceAdd, Nat.reduceLeDiff, hG, q1, beq1, a1, a2, a3, b1, hlen]; refine hK _ _ ?_; clear hK K hG G) | (refine W_end rfl fun G K hG hK => ?_; simp (disch := omega) only [go_sem, ↓reduceIte, Nat.reduceEqDiff, Nat.reduceAdd, Nat.reduceLeDiff, hG, q1, beq1, a1, a2, a3, b1, hlen]; refine hK _ _ ?_; clear hK K hG G; repeat (first | refine thenI ?_ | refine thenE ?_ | refine thenR ?_ | refine inBI ?_ | refine inBR ?_ | refine inBS ?_ | refine inBN (by decide) ?_)) | refine W_seqS ?_ | refine W_seqC ?_ | refine W_seqB ?_ | refine W_block ?_ | (refine W_skip ?_; repeat (first | refine thenI ?_ | refine thenE ?_ | refine thenR ?_ | refine inBI ?_ | refine inBR ?_ | refine inBS ?_ | refine inBN (by decide) ?_)) | (refine W_condT ?hc ?_; (case hc => (simp (disch := omega) only [go_sem, ↓reduceIte, Nat.reduceEqDiff, Nat.reduceAdd, Nat.reduceLeDiff, q1, beq1, a1, a2, a3, b1, hlen]; done))) | (refine W_condF ?hc ?_; (case hc => (simp (disch := omega) only [go_sem, ↓reduceIte, Nat.reduceEqDiff, Nat.reduceAdd, Nat.reduceLeDiff, q1, beq1, a1, a2, a3, b1, hlen]; done))))
  have hpl := T.pos_len t []
  have hpc := T.pos_count t []
  refine W_loop (fun d fr st' => ∃ (j : Nat) , d = (t.pos []).length - j ∧ j ≤ (t.pos []).length ∧ (Ext sb st') ∧ (fr.env 0 = s) ∧ (fr.env 3 = .pointer (some ⟨3, 0, some 1⟩)) ∧ (fr.env 4 = rv) ∧ (fr.env 5 = .int .i64 j) ∧ (fr.loc 3 = (1, [.int .i64 k, .int .i64 n, .string m, s1]))) ((t.pos []).length) ?_ ?_
  · exact ⟨0, by omega, by omega, Ext.refl _, (by (simp (disch := omega) only [go_sem, ↓reduceIte, Nat.reduceEqDiff, Nat.reduceAdd, Nat.reduceLeDiff, q1, beq1, a1, a2, a3, b1, hlen]); try rfl), (by (simp (disch := omega) only [go_sem, ↓reduceIte, Nat.reduceEqDiff, Nat.reduceAdd, Nat.reduceLeDiff, q1, beq1, a1, a2, a3, b1, hlen]); try rfl), (by (simp (disch := omega) only [go_sem, ↓reduceIte, Nat.reduceEqDiff, Nat.reduceAdd, Nat.reduceLeDiff, q1, beq1, a1, a2, a3, b1, hlen]); try rfl), (by (simp (disch := omega) only [go_sem, ↓reduceIte, Nat.reduceEqDiff, Nat.reduceAdd, Nat.reduceLeDiff, q1, beq1, a1, a2, a3, b1, hlen]); try rfl), (by (simp (disch := omega) only [go_sem, ↓reduceIte, Nat.reduceEqDiff, Nat.reduceAdd, Nat.reduceLeDiff, q1, beq1, a1, a2, a3, b1, hlen]); try rfl)⟩
  rintro d ⟨env, loc⟩ st' ⟨j, hd, hj, hext, e0, e3, e4, e5, l3⟩
  simp only at e0 e3 e4 e5 l3
  by_cases hlt : j < (t.pos []).length
  · have c1 : decide ((j : Int) < (t.count : Int)) = true := decide_eq_true (by omega)
    obtain ⟨x, hx⟩ : ∃ x, x = (t.pos [])[j] := ⟨_, rfl⟩
    have hxm : x ∈ t.pos [] := hx ▸ List.getElem_mem hlt
    have hxe : (t.pos [])[j]? = some x := by rw [hx]; exact List.getElem?_eq_getElem hlt
    obtain ⟨i, c, sx, Lx, rfl, hcx, hsx, hfx⟩ := (hs.ext hext).elem hf hxe
    obtain ⟨r, hr1, hr2⟩ := T.pos_at t [] x hxm
    rw [List.nil_append] at hr1
    subst hr1
    have hnum := T.pos_num t [] x hxm
    have hi64 : ∀ n ∈ x, I64 n := fun n hn => by
      rcases hnum n hn with h | h
      · cases h
      · exact ⟨by omega, by omega⟩
    have hxl := T.pos_each t [] x hxm
    simp only [List.length_nil] at hxl
    have hi := idxOk hlt
    have bx := hsx.loc
    repeat (first | (refine W_reg rfl fun G K hG hK => ?_; simp (disch := omega) only [go_sem, ↓reduceIte, Nat.reduceEqDiff, Nat.reduceAdd, Nat.reduceLeDiff, hG, q1, beq1, a1, a2, a3, b1, hlen, e0, e3, e4, e5, l3, c1]; refine hK _ _ ?_; clear hK K hG G) | (refine W_end rfl fun G K hG hK => ?_; simp (disch := omega) only [go_sem, ↓reduceIte, Nat.reduceEqDiff, Nat.reduceAdd, Nat.reduceLeDiff, hG, q1, beq1, a1, a2, a3, b1, hlen, e0, e3, e4, e5, l3, c1]; refine hK _ _ ?_; clear hK K hG G; repeat (first | refine thenI ?_ | refine thenE ?_ | refine thenR ?_ | refine inBI ?_ | refine inBR ?_ | refine inBS ?_ | refine inBN (by decide) ?_)) | refine W_seqS ?_ | refine W_seqC ?_ | refine W_seqB ?_ | refine W_block ?_ | (refine W_skip ?_; repeat (first | refine thenI ?_ | refine thenE ?_ | refine thenR ?_ | refine inBI ?_ | refine inBR ?_ | refine inBS ?_ | refine inBN (by decide) ?_)) | (refine W_condT ?hc ?_; (case hc => (simp (disch := omega) only [go_sem, ↓reduceIte, Nat.reduceEqDiff, Nat.reduceAdd, Nat.reduceLeDiff, q1, beq1, a1, a2, a3, b1, hlen, e0, e3, e4, e5, l3, c1]; done))) | (refine W_condF ?hc ?_; (case hc => (simp (disch := omega) only [go_sem, ↓reduceIte, Nat.reduceEqDiff, Nat.reduceAdd, Nat.reduceLeDiff, q1, beq1, a1, a2, a3, b1, hlen, e0, e3, e4, e5, l3, c1]; done))))
    (repeat (first | refine W_seqS ?_ | refine W_seqC ?_ | refine W_seqB ?_ | refine W_block ?_)); refine W_regD mixed [6] [(0,false),(1,false),(2,false),(3,false),(4,false),(9,false),(5,true),(6,false),(7,false),(8,false),(10,false),(11,false)] rfl (by decide +kernel) fun G K hG hK => ?_; simp only [pickOps, List.filterMap_cons, List.filterMap_nil, List.getElem?_cons_zero, List.getElem?_cons_succ, Option.map_some]; simp (disch := omega) only [go_sem, ↓reduceIte, Nat.reduceEqDiff, Nat.reduceAdd, Nat.reduceLeDiff, hG, q1, beq1, a1, a2, a3, b1, hlen, e0, e3, e4, e5, l3, hi, idxA, Int.toNat_natCast, hcx]
    refine w_call (specTermAt_ok x t st' _ sx (by omega) hl (Enc.ext (x2.trans hext) _ _ hE) hsx.row) (by simp (disch := omega) only [go_sem, ↓reduceIte, Nat.reduceEqDiff, q1, beq1, a1, a2, a3, b1, hlen, e0, e3, e4, e5, l3, bx]) ?hl ?_
    case hl => first | rfl | (simp only [go_sem, List.all_cons, List.all_nil, Bool.not_false, Bool.and_self, q1, beq1, a1, a2, a3, b1, hlen, e0, e3, e4, e5, l3, bx]; done)
    rintro r_ sc ⟨x3, es, L3, rfl, ho3, hf3⟩; refine ⟨fun e => x3, ?_⟩
    obtain ⟨k3, n3, m3, s3, rfl, d1, d2, d3⟩ := ho3.args_cells
    simp (disch := omega) only [go_sem, ↓reduceIte, Nat.reduceEqDiff, Nat.reduceAdd, Nat.reduceLeDiff, hG, q1, beq1, a1, a2, a3, b1, hlen, e0, e3, e4, e5, l3, d1, d2, d3, hr2]; refine hK _ _ ?_; clear hK K hG G; repeat (first | refine thenI ?_ | refine thenE ?_ | refine thenR ?_ | refine inBI ?_ | refine inBR ?_ | refine inBS ?_ | refine inBN (by decide) ?_)
    have hcx2 := cell_ext x3 hcx
    have hRx := (hsx.ext x3).row
    have hlx : lenE Tryd.prog 33 sx = some (.int .i64 x.length) := row_len hRx Tryd.underlying33
    by_cases h0 : x.length = 0
    · have c2 : decide ((x.length : Int) > 0) = false := decide_eq_false (by omega)
      (repeat (first | refine W_seqS ?_ | refine W_seqC ?_ | refine W_seqB ?_ | refine W_block ?_)); refine W_regD mixed [] [(0,false),(1,false),(2,false),(3,false),(4,false),(5,false),(6,false),(7,false),(8,false),(9,false),(10,false),(11,false),(12,false),(13,false),(14,false),(15,false),(16,false),(17,false),(18,false),(19,false),(20,false),(21,false),(22,false),(23,false),(24,false),(25,true),(26,false),(27,false),(28,false),(29,false),(30,false),(31,false),(32,false),(33,false),(35,false),(36,false),(37,false),(38,false),(34,true),(39,true),(40,false),(41,false)] rfl (by decide +kernel) fun G K hG hK => ?_; simp only [pickOps, List.filterMap_cons, List.filterMap_nil, List.getElem?_cons_zero, List.getElem?_cons_succ, Option.map_some]; simp (disch := omega) only [go_sem, ↓reduceIte, Nat.reduceEqDiff, Nat.reduceAdd, Nat.reduceLeDiff, hG, q1, beq1, a1, a2, a3, b1, hlen, e0, e3, e4, e5, l3, hi, idxA, Int.toNat_natCast, hcx2, hlx, bx, c2]
      refine w_call (implFmtPos_ok x sc sx (by omega) hi64 hRx) (by simp (disch := omega) only [go_sem, ↓reduceIte, Nat.reduceEqDiff, q1, beq1, a1, a2, a3, b1, hlen, e0, e3, e4, e5, l3, bx]) ?hl ?_
      case hl => first | rfl | (simp only [go_sem, List.all_cons, List.all_nil, Bool.not_false, Bool.and_self, q1, beq1, a1, a2, a3, b1, hlen, e0, e3, e4, e5, l3, bx]; done)
      rintro r_ sd ⟨x4, rfl⟩; refine ⟨fun e => x4, ?_⟩
      simp (disch := omega) only [go_sem, ↓reduceIte, Nat.reduceEqDiff, Nat.reduceAdd, Nat.reduceLeDiff, q1, beq1, a1, a2, a3, b1, hlen, e0, e3, e4, e5, l3, hG, hi, idxA, Int.toNat_natCast, bx]
      refine w_call (specFmtPos_ok x sd sx (by omega) hi64 (hRx.ext x4)) (by simp (disch := omega) only [go_sem, ↓reduceIte, Nat.reduceEqDiff, q1, beq1, a1, a2, a3, b1, hlen, e0, e3, e4, e5, l3, bx]) ?hl ?_
      case hl => first | rfl | (simp only [go_sem, List.all_cons, List.all_nil, Bool.not_false, Bool.and_self, q1, beq1, a1, a2, a3, b1, hlen, e0, e3, e4, e5, l3, bx]; done)
      rintro r_ se ⟨x5, rfl⟩; refine ⟨fun e => x5, ?_⟩
      simp (disch := omega) only [go_sem, ↓reduceIte, Nat.reduceEqDiff, Nat.reduceAdd, Nat.reduceLeDiff, hG, q1, beq1, a1, a2, a3, b1, hlen, e0, e3, e4, e5, l3]; refine hK _ _ ?_; clear hK K hG G; repeat (first | refine thenI ?_ | refine thenE ?_ | refine thenR ?_ | refine inBI ?_ | refine inBR ?_ | refine inBS ?_ | refine inBN (by decide) ?_)
      repeat (first | (refine W_reg rfl fun G K hG hK => ?_; simp (disch := omega) only [go_sem, ↓reduceIte, Nat.reduceEqDiff, Nat.reduceAdd, Nat.reduceLeDiff, hG, q1, beq1, a1, a2, a3, b1, hlen, e0, e3, e4, e5, l3]; refine hK _ _ ?_; clear hK K hG G) | (refine W_end rfl fun G K hG hK => ?_; simp (disch := omega) only [go_sem, ↓reduceIte, Nat.reduceEqDiff, Nat.reduceAdd, Nat.reduceLeDiff, hG, q1, beq1, a1, a2, a3, b1, hlen, e0, e3, e4, e5, l3]; refine hK _ _ ?_; clear hK K hG G; repeat (first | refine thenI ?_ | refine thenE ?_ | refine thenR ?_ | refine inBI ?_ | refine inBR ?_ | refine inBS ?_ | refine inBN (by decide) ?_)) | refine W_seqS ?_ | refine W_seqC ?_ | refine W_seqB ?_ | refine W_block ?_ | (refine W_skip ?_; repeat (first | refine thenI ?_ | refine thenE ?_ | refine thenR ?_ | refine inBI ?_ | refine inBR ?_ | refine inBS ?_ | refine inBN (by decide) ?_)) | (refine W_condT ?hc ?_; (case hc => (simp (disch := omega) only [go_sem, ↓reduceIte, Nat.reduceEqDiff, Nat.reduceAdd, Nat.reduceLeDiff, q1, beq1, a1, a2, a3, b1, hlen, e0, e3, e4, e5, l3]; done))) | (refine W_condF ?hc ?_; (case hc => (simp (disch := omega) only [go_sem, ↓reduceIte, Nat.reduceEqDiff, Nat.reduceAdd, Nat.reduceLeDiff, q1, beq1, a1, a2, a3, b1, hlen, e0, e3, e4, e5, l3]; done))))
      refine ⟨(t.pos []).length - (j + 1), by omega, j + 1, rfl, by omega, ((hext.trans x3).trans x4).trans x5, (by (simp (disch := omega) only [go_sem, ↓reduceIte, Nat.reduceEqDiff, Nat.reduceAdd, Nat.reduceLeDiff, q1, beq1, a1, a2, a3, b1, hlen, e0, e3, e4, e5, l3]); try rfl), (by (simp (disch := omega) only [go_sem, ↓reduceIte, Nat.reduceEqDiff, Nat.reduceAdd, Nat.reduceLeDiff, q1, beq1, a1, a2, a3, b1, hlen, e0, e3, e4, e5, l3]); try rfl), (by (simp (disch := omega) only [go_sem, ↓reduceIte, Nat.reduceEqDiff, Nat.reduceAdd, Nat.reduceLeDiff, q1, beq1, a1, a2, a3, b1, hlen, e0, e3, e4, e5, l3]); try rfl), (by (simp (disch := omega) only [go_sem, ↓reduceIte, Nat.reduceEqDiff, Nat.reduceAdd, Nat.reduceLeDiff, q1, beq1, a1, a2, a3, b1, hlen, e0, e3, e4, e5, l3]); try rfl), (by (simp (disch := omega) only [go_sem, ↓reduceIte, Nat.reduceEqDiff, Nat.reduceAdd, Nat.reduceLeDiff, q1, beq1, a1, a2, a3, b1, hlen, e0, e3, e4, e5, l3]); try rfl)⟩
    · have c2 : decide ((x.length : Int) > 0) = true := decide_eq_true (by omega)
      have hsh : ∃ i2 cc, sx = .slice (some ⟨i2, 0, none⟩) x.length cc := by
        rcases hsx with ⟨_, h, _⟩ | ⟨i2, cc, cs, K, h, _⟩
        · rw [h] at h0; exact absurd rfl h0
        · exact ⟨i2, cc, h⟩
      obtain ⟨i2, cc, rfl⟩ := hsh
      obtain ⟨hs3, r3⟩ := row_take (P := Tryd.prog) (t := 33) (e := 3) (sz := 0) (k := x.length - 1) hRx Tryd.underlying33 sz3 (by omega)
      have hk : ((x.length - 1 : Nat) : Int) = (x.length : Int) - 1 := by omega
      rw [hk] at hs3
      have hfl : ∀ a b c, flat (.slice (some a) b c) = false := fun _ _ _ => rfl
      have hps := pre_self x
      (repeat (first | refine W_seqS ?_ | refine W_seqC ?_ | refine W_seqB ?_ | refine W_block ?_)); refine W_regD mixed [] [(0,false),(1,false),(2,false),(3,false),(4,false),(5,false),(6,false),(7,false),(8,false),(9,false),(10,false),(11,false),(12,false),(13,false),(14,false),(15,false),(16,false),(17,false),(18,false),(19,false),(20,false),(21,false),(22,false),(23,false),(24,false),(25,true),(26,false),(27,false),(28,false),(29,false),(30,false),(31,false),(32,false),(33,false),(35,false),(36,false),(37,false),(38,false),(34,true),(39,true),(40,false),(41,false)] rfl (by decide +kernel) fun G K hG hK => ?_; simp only [pickOps, List.filterMap_cons, List.filterMap_nil, List.getElem?_cons_zero, List.getElem?_cons_succ, Option.map_some]; simp (disch := omega) only [go_sem, ↓reduceIte, Nat.reduceEqDiff, Nat.reduceAdd, Nat.reduceLeDiff, hG, q1, beq1, a1, a2, a3, b1, hlen, e0, e3, e4, e5, l3, hi, idxA, Int.toNat_natCast, hcx2, hlx, bx, c2, w_slice, ev_slice, hs3, hfl, Bool.false_and, Option.all_none, Option.map_none, Option.all_some, Option.map_some]
      refine w_call (implPre_ok (x.take (x.length - 1)) x sc _ _ (by rw [List.length_take]; omega) (by omega) r3 hRx (by intro e; cases e)) (by simp (disch := omega) only [go_sem, ↓reduceIte, Nat.reduceEqDiff, q1, beq1, a1, a2, a3, b1, hlen, e0, e3, e4, e5, l3, bx]) ?hl ?_
      case hl => first | rfl | (simp only [go_sem, List.all_cons, List.all_nil, Bool.not_false, Bool.and_self, q1, beq1, a1, a2, a3, b1, hlen, e0, e3, e4, e5, l3, bx]; done)
      rintro r_ sc ⟨rfl, rfl⟩; refine ⟨fun e => Ext.refl _, ?_⟩
      simp (disch := omega) only [go_sem, ↓reduceIte, Nat.reduceEqDiff, Nat.reduceAdd, Nat.reduceLeDiff, q1, beq1, a1, a2, a3, b1, hlen, e0, e3, e4, e5, l3, hi, idxA, Int.toNat_natCast, bx, hps, hcx2, hG]
      refine w_call (implFmtPos_ok x sc _ (by omega) hi64 hRx) (by simp (disch := omega) only [go_sem, ↓reduceIte, Nat.reduceEqDiff, q1, beq1, a1, a2, a3, b1, hlen, e0, e3, e4, e5, l3, bx]) ?hl ?_
      case hl => first | rfl | (simp only [go_sem, List.all_cons, List.all_nil, Bool.not_false, Bool.and_self, q1, beq1, a1, a2, a3, b1, hlen, e0, e3, e4, e5, l3, bx]; done)
      rintro r_ sd ⟨x4, rfl⟩; refine ⟨fun e => x4, ?_⟩
      simp (disch := omega) only [go_sem, ↓reduceIte, Nat.reduceEqDiff, Nat.reduceAdd, Nat.reduceLeDiff, q1, beq1, a1, a2, a3, b1, hlen, e0, e3, e4, e5, l3, hG, hi, idxA, Int.toNat_natCast, bx]
      refine w_call (specFmtPos_ok x sd _ (by omega) hi64 (hRx.ext x4)) (by simp (disch := omega) only [go_sem, ↓reduceIte, Nat.reduceEqDiff, q1, beq1, a1, a2, a3, b1, hlen, e0, e3, e4, e5, l3, bx]) ?hl ?_
      case hl => first | rfl | (simp only [go_sem, List.all_cons, List.all_nil, Bool.not_false, Bool.and_self, q1, beq1, a1, a2, a3, b1, hlen, e0, e3, e4, e5, l3, bx]; done)
      rintro r_ se ⟨x5, rfl⟩; refine ⟨fun e => x5, ?_⟩
      simp (disch := omega) only [go_sem, ↓reduceIte, Nat.reduceEqDiff, Nat.reduceAdd, Nat.reduceLeDiff, hG, q1, beq1, a1, a2, a3, b1, hlen, e0, e3, e4, e5, l3]; refine hK _ _ ?_; clear hK K hG G; repeat (first | refine thenI ?_ | refine thenE ?_ | refine thenR ?_ | refine inBI ?_ | refine inBR ?_ | refine inBS ?_ | refine inBN (by decide) ?_)
      repeat (first | (refine W_reg rfl fun G K hG hK => ?_; simp (disch := omega) only [go_sem, ↓reduceIte, Nat.reduceEqDiff, Nat.reduceAdd, Nat.reduceLeDiff, hG, q1, beq1, a1, a2, a3, b1, hlen, e0, e3, e4, e5, l3]; refine hK _ _ ?_; clear hK K hG G) | (refine W_end rfl fun G K hG hK => ?_; simp (disch := omega) only [go_sem, ↓reduceIte, Nat.reduceEqDiff, Nat.reduceAdd, Nat.reduceLeDiff, hG, q1, beq1, a1, a2, a3, b1, hlen, e0, e3, e4, e5, l3]; refine hK _ _ ?_; clear hK K hG G; repeat (first | refine thenI ?_ | refine thenE ?_ | refine thenR ?_ | refine inBI ?_ | refine inBR ?_ | refine inBS ?_ | refine inBN (by decide) ?_)) | refine W_seqS ?_ | refine W_seqC ?_ | refine W_seqB ?_ | refine W_block ?_ | (refine W_skip ?_; repeat (first | refine thenI ?_ | refine thenE ?_ | refine thenR ?_ | refine inBI ?_ | refine inBR ?_ | refine inBS ?_ | refine inBN (by decide) ?_)) | (refine W_condT ?hc ?_; (case hc => (simp (disch := omega) only [go_sem, ↓reduceIte, Nat.reduceEqDiff, Nat.reduceAdd, Nat.reduceLeDiff, q1, beq1, a1, a2, a3, b1, hlen, e0, e3, e4, e5, l3]; done))) | (refine W_condF ?hc ?_; (case hc => (simp (disch := omega) only [go_sem, ↓reduceIte, Nat.reduceEqDiff, Nat.reduceAdd, Nat.reduceLeDiff, q1, beq1, a1, a2, a3, b1, hlen, e0, e3, e4, e5, l3]; done))))
      refine ⟨(t.pos []).length - (j + 1), by omega, j + 1, rfl, by omega, ((hext.trans x3).trans x4).trans x5, (by (simp (disch := omega) only [go_sem, ↓reduceIte, Nat.reduceEqDiff, Nat.reduceAdd, Nat.reduceLeDiff, q1, beq1, a1, a2, a3, b1, hlen, e0, e3, e4, e5, l3]); try rfl), (by (simp (disch := omega) only [go_sem, ↓reduceIte, Nat.reduceEqDiff, Nat.reduceAdd, Nat.reduceLeDiff, q1, beq1, a1, a2, a3, b1, hlen, e0, e3, e4, e5, l3]); try rfl), (by (simp (disch := omega) only [go_sem, ↓reduceIte, Nat.reduceEqDiff, Nat.reduceAdd, Nat.reduceLeDiff, q1, beq1, a1, a2, a3, b1, hlen, e0, e3, e4, e5, l3]); try rfl), (by (simp (disch := omega) only [go_sem, ↓reduceIte, Nat.reduceEqDiff, Nat.reduceAdd, Nat.reduceLeDiff, q1, beq1, a1, a2, a3, b1, hlen, e0, e3, e4, e5, l3]); try rfl), (by (simp (disch := omega) only [go_sem, ↓reduceIte, Nat.reduceEqDiff, Nat.reduceAdd, Nat.reduceLeDiff, q1, beq1, a1, a2, a3, b1, hlen, e0, e3, e4, e5, l3]); try rfl)⟩
  · have c1 : decide ((j : Int) < (t.count : Int)) = false := decide_eq_false (by omega)
    have hr4 := hr.ext ((x1.trans x2).trans hext)
    repeat (first | (refine W_reg rfl fun G K hG hK => ?_; simp (disch := omega) only [go_sem, ↓reduceIte, Nat.reduceEqDiff, Nat.reduceAdd, Nat.reduceLeDiff, hG, q1, beq1, a1, a2, a3, b1, hlen, e0, e3, e4, e5, l3, c1]; refine hK _ _ ?_; clear hK K hG G) | (refine W_end rfl fun G K hG hK => ?_; simp (disch := omega) only [go_sem, ↓reduceIte, Nat.reduceEqDiff, Nat.reduceAdd, Nat.reduceLeDiff, hG, q1, beq1, a1, a2, a3, b1, hlen, e0, e3, e4, e5, l3, c1]; refine hK _ _ ?_; clear hK K hG G; repeat (first | refine thenI ?_ | refine thenE ?_ | refine thenR ?_ | refine inBI ?_ | refine inBR ?_ | refine inBS ?_ | refine inBN (by decide) ?_)) | refine W_seqS ?_ | refine W_seqC ?_ | refine W_seqB ?_ | refine W_block ?_ | (refine W_skip ?_; repeat (first | refine thenI ?_ | refine thenE ?_ | refine thenR ?_ | refine inBI ?_ | refine inBR ?_ | refine inBS ?_ | refine inBN (by decide) ?_)) | (refine W_condT ?hc ?_; (case hc => (simp (disch := omega) only [go_sem, ↓reduceIte, Nat.reduceEqDiff, Nat.reduceAdd, Nat.reduceLeDiff, q1, beq1, a1, a2, a3, b1, hlen, e0, e3, e4, e5, l3, c1]; done))) | (refine W_condF ?hc ?_; (case hc => (simp (disch := omega) only [go_sem, ↓reduceIte, Nat.reduceEqDiff, Nat.reduceAdd, Nat.reduceLeDiff, q1, beq1, a1, a2, a3, b1, hlen, e0, e3, e4, e5, l3, c1]; done))))
    refine W_exit ?_; repeat (first | refine thenI ?_ | refine thenE ?_ | refine thenR ?_ | refine inBI ?_ | refine inBR ?_ | refine inBS ?_ | refine inBN (by decide) ?_)
    repeat (first | (refine W_reg rfl fun G K hG hK => ?_; simp (disch := omega) only [go_sem, ↓reduceIte, Nat.reduceEqDiff, Nat.reduceAdd, Nat.reduceLeDiff, hG, q1, beq1, a1, a2, a3, b1, hlen, e0, e3, e4, e5, l3]; refine hK _ _ ?_; clear hK K hG G) | (refine W_end rfl fun G K hG hK => ?_; simp (disch := omega) only [go_sem, ↓reduceIte, Nat.reduceEqDiff, Nat.reduceAdd, Nat.reduceLeDiff, hG, q1, beq1, a1, a2, a3, b1, hlen, e0, e3, e4, e5, l3]; refine hK _ _ ?_; clear hK K hG G; repeat (first | refine thenI ?_ | refine thenE ?_ | refine thenR ?_ | refine inBI ?_ | refine inBR ?_ | refine inBS ?_ | refine inBN (by decide) ?_)) | refine W_seqS ?_ | refine W_seqC ?_ | refine W_seqB ?_ | refine W_block ?_ | (refine W_skip ?_; repeat (first | refine thenI ?_ | refine thenE ?_ | refine thenR ?_ | refine inBI ?_ | refine inBR ?_ | refine inBS ?_ | refine inBN (by decide) ?_)) | (refine W_condT ?hc ?_; (case hc => (simp (disch := omega) only [go_sem, ↓reduceIte, Nat.reduceEqDiff, Nat.reduceAdd, Nat.reduceLeDiff, q1, beq1, a1, a2, a3, b1, hlen, e0, e3, e4, e5, l3]; done))) | (refine W_condF ?hc ?_; (case hc => (simp (disch := omega) only [go_sem, ↓reduceIte, Nat.reduceEqDiff, Nat.reduceAdd, Nat.reduceLeDiff, q1, beq1, a1, a2, a3, b1, hlen, e0, e3, e4, e5, l3]; done))))
    (repeat (first | refine W_seqS ?_ | refine W_seqC ?_ | refine W_seqB ?_ | refine W_block ?_)); refine W_reg rfl fun G K hG hK => ?_; simp (disch := omega) only [go_sem, ↓reduceIte, Nat.reduceEqDiff, Nat.reduceAdd, Nat.reduceLeDiff, hG, q1, beq1, a1, a2, a3, b1, hlen, e0, e3, e4, e5, l3]
    refine w_call (drawPre_ok bs st' s hbig hr4) (by simp (disch := omega) only [go_sem, ↓reduceIte, Nat.reduceEqDiff, q1, beq1, a1, a2, a3, b1, hlen, e0, e3, e4, e5, l3]) ?hl ?_
    case hl => first | rfl | (simp only [go_sem, List.all_cons, List.all_nil, Bool.not_false, Bool.and_self, q1, beq1, a1, a2, a3, b1, hlen, e0, e3, e4, e5, l3]; done)
    rintro r_ sc ⟨x6, p, q, v, w, rfl, hP, hQ, pl, ql, hsp⟩; refine ⟨fun e => (by cases e), ?_⟩
    have v1 := hP.notLoc.1
    have w1 := hQ.notLoc.1
    simp (disch := omega) only [go_sem, ↓reduceIte, Nat.reduceEqDiff, Nat.reduceAdd, Nat.reduceLeDiff, hG, q1, beq1, a1, a2, a3, b1, hlen, e0, e3, e4, e5, l3, v1, w1]; refine hK _ _ ?_; clear hK K hG G; repeat (first | refine thenI ?_ | refine thenE ?_ | refine thenR ?_ | refine inBI ?_ | refine inBR ?_ | refine inBS ?_ | refine inBN (by decide) ?_)
    (repeat (first | refine W_seqS ?_ | refine W_seqC ?_ | refine W_seqB ?_ | refine W_block ?_)); refine W_reg rfl fun G K hG hK => ?_; simp (disch := omega) only [go_sem, ↓reduceIte, Nat.reduceEqDiff, Nat.reduceAdd, Nat.reduceLeDiff, hG, q1, beq1, a1, a2, a3, b1, hlen, e0, e3, e4, e5, l3, v1, w1]
    refine w_call (implPre_ok p q sc v w (by omega) (by omega) hP hQ hsp) (by simp (disch := omega) only [go_sem, ↓reduceIte, Nat.reduceEqDiff, q1, beq1, a1, a2, a3, b1, hlen, e0, e3, e4, e5, l3, v1, w1]) ?hl ?_
    case hl => first | rfl | (simp only [go_sem, List.all_cons, List.all_nil, Bool.not_false, Bool.and_self, q1, beq1, a1, a2, a3, b1, hlen, e0, e3, e4, e5, l3, v1, w1]; done)
    rintro r_ sc ⟨rfl, rfl⟩; refine ⟨fun e => (by cases e), ?_⟩
    simp (disch := omega) only [go_sem, ↓reduceIte, Nat.reduceEqDiff, Nat.reduceAdd, Nat.reduceLeDiff, q1, beq1, a1, a2, a3, b1, hlen, e0, e3, e4, e5, l3, v1, w1]
    refine w_call (specPre_ok p q sc v w (by omega) (by omega) hP hQ) (by simp (disch := omega) only [go_sem, ↓reduceIte, Nat.reduceEqDiff, q1, beq1, a1, a2, a3, b1, hlen, e0, e3, e4, e5, l3, v1, w1]) ?hl ?_
    case hl => first | rfl | (simp only [go_sem, List.all_cons, List.all_nil, Bool.not_false, Bool.and_self, q1, beq1, a1, a2, a3, b1, hlen, e0, e3, e4, e5, l3, v1, w1]; done)
    rintro r_ sc ⟨rfl, rfl⟩; refine ⟨fun e => (by cases e), ?_⟩
    simp (disch := omega) only [go_sem, ↓reduceIte, Nat.reduceEqDiff, Nat.reduceAdd, Nat.reduceLeDiff, hG, q1, beq1, a1, a2, a3, b1, hlen, e0, e3, e4, e5, l3]; refine hK _ _ ?_; clear hK K hG G; repeat (first | refine thenI ?_ | refine thenE ?_ | refine thenR ?_ | refine inBI ?_ | refine inBR ?_ | refine inBS ?_ | refine inBN (by decide) ?_)
    refine W_ret ?_; try (repeat (first | refine thenI ?_ | refine thenE ?_ | refine thenR ?_ | refine inBI ?_ | refine inBR ?_ | refine inBS ?_ | refine inBN (by decide) ?_))
    refine fin1 (.inl rfl) (by (simp (disch := omega) only [go_sem, ↓reduceIte, Nat.reduceEqDiff, Nat.reduceAdd, Nat.reduceLeDiff, q1, beq1, a1, a2, a3, b1, hlen, e0, e3, e4, e5, l3]); try rfl) rfl rfl
end Go.Proofs.YtkohkdlbjbbegaaDoor.AM


/- Arguments: rows of bytes. -/
namespace Go.Proofs.YtkohkdlbjbbegaaDoor.AM
open Go Go.Proofs
set_option linter.unusedVariables false
theorem open_bytes {H : Type} {enc : TypeId × Value → H} {w : World} (fuel : Nat) (cs : List Value) (x : DataW H × List MemPlace) (h : DataW.trod enc Tryd.prog w 0 (fun _ => true) true fuel 22 cs = some x) :
    ∃ s, ∃ xs : List Byt, cs = [s] ∧ Told w s ∧ RowY (absS w) xs (absV w.heap.size s) ∧ xs.length ≤ maxLen ∧ ∀ z ∈ xs, (Lit.int .u8 z.v).wf = true :=
  open_rowA (E := EncY (absS w)) (G := fun z : Byt => (Lit.int .u8 z.v).wf = true) (sz := 1) Tryd.underlying22 (by kernel_rfl) (by omega) h fun n_ cs_ y_ hn_ hy_ => by
    obtain ⟨z, rfl, hw⟩ := toldA_int Tryd.underlying5 hy_
    exact ⟨⟨z⟩, rfl, hw, fun c hc => by cases List.mem_singleton.1 hc; rfl⟩
end Go.Proofs.YtkohkdlbjbbegaaDoor.AM


/-
  DERIVED. GIVEN WITH THE SEED: THE PROGRAM's TIES (one call each: nine closed facts by the kernel) AND EACH ROW's TIE, after the 31st guide's Derived/Test/Toyas{Tie, Card}.lean. No idea stands in it: it is a product of the set-up. Laid BY PROGRAM, IN A SANDBOX (cutbox-door.mjs). By AI agents, Wed Nov 11 2026. No macro, syntax, notation, axiom, sorry.
-/
namespace Go.Proofs.YtkohkdlbjbbegaaDoor
open Go
set_option maxRecDepth 100000
theorem seatTie1 : Tryd.prog.laidByTextLater [("math/bits.deBruijn32tab", Rows.laid_math_bits_deBruijn32tab), ("math/bits.deBruijn64tab", Rows.laid_math_bits_deBruijn64tab), ("internal/strconv.uint64pow10", Rows.laid_internal_strconv_uint64pow10)] [.data, .data, .data] true :=
  Program.laidByTextLater_by_one 24 8 65 (by kernel_rfl) (by kernel_rfl) (by kernel_rfl) (by kernel_rfl) (by kernel_rfl) (by kernel_rfl) (fun _ _ => by kernel_rfl)
theorem noOwnUnsafe : Tryd.pinned.checked.prog.headLifts.contains "ownunsafe" = false := by kernel_rfl
theorem tie : Tryd.prog.laidByTextLater [("math/bits.deBruijn32tab", Rows.laid_math_bits_deBruijn32tab), ("math/bits.deBruijn64tab", Rows.laid_math_bits_deBruijn64tab), ("internal/strconv.uint64pow10", Rows.laid_internal_strconv_uint64pow10)] [.data, .data, .data] true :=
  Program.laidByTextLater.sub seatTie1 ["math/bits.deBruijn32tab", "math/bits.deBruijn64tab", "internal/strconv.uint64pow10"] (by kernel_rfl) (by kernel_rfl)
theorem fnAllPositions_row_tie : Rows.fnAllPositionsRow.laidByTextAt .later Tryd.pinned [.data, .data, .data] true :=
  OpenClaim.laidByTextAt_later rfl rfl tie noOwnUnsafe
theorem fnAllPositionsUpto_row_tie : Rows.fnAllPositionsUptoRow.laidByTextAt .later Tryd.pinned [.data, .data, .data] true :=
  OpenClaim.laidByTextAt_later rfl rfl tie noOwnUnsafe
end Go.Proofs.YtkohkdlbjbbegaaDoor


/-
  DERIVED. GIVEN WITH THE SEED: THE CARDS: each row of YtkohkdlbjbbegaaDoorRows.lean that lists a variable, with what it lists TIED to the program's text (the seventh form; the later family's looks); each row that meets fmt, with fmt's text TOLD by the authors' own Lean function (tested against real Go, not proved from fmt's source: count such statements apart). THE CARD IS WHAT COUNTS. Prove the row's statement (the work); the ties are given (YtkohkdlbjbbegaaDoorTie.lean); close each card by the builder's one call (the guide's Derived/Test/ToyasCard.lean, 'card_holds'). Laid BY PROGRAM, IN A SANDBOX (cutbox-door.mjs). By AI agents, Wed Nov 11 2026. No macro, syntax, notation, axiom, sorry.
-/
namespace Go.Proofs.YtkohkdlbjbbegaaDoor
namespace Rows

/-- THE TIED CARD OF 'laws.FnAllPositions'. -/
def fnAllPositionsCard : Claim7 := { stood := { row := fnAllPositionsRow, standIns := [], harness := (true, "d81b99cc7466ce78aad39736528ca67e4e252d24711135242c0c9833b33e9ce7"), looks := false }, kinds := [], alts := [], laidByText := true, laidKinds := [.data, .data, .data], laidTests := true, laidLooks := .later }
def FnAllPositionsCardSaid : Prop := Claim7.holds Tryd.pinned (.plain (OpenSpec.ofChange fnAllPositionsSpec)) fnAllPositionsCard

/-- THE SECOND FORM's CARD OF 'laws.FnAllPositions'. -/
def fnAllPositionsUptoCard : Claim7 := { stood := { row := fnAllPositionsUptoRow, standIns := [], harness := (true, "d81b99cc7466ce78aad39736528ca67e4e252d24711135242c0c9833b33e9ce7"), looks := false }, kinds := [], alts := [], laidByText := true, laidKinds := [.data, .data, .data], laidTests := true, laidLooks := .later }
def FnAllPositionsUptoCardSaid : Prop := Claim7.holds Tryd.pinned (.plain (OpenSpec.upto fnAllPositionsSpec)) fnAllPositionsUptoCard
end Rows
end Go.Proofs.YtkohkdlbjbbegaaDoor


/- The law FnAllPositions, for every input: it returns true; the input reads as it did. -/
namespace Go.Proofs.YtkohkdlbjbbegaaDoor.fnAllPositions
open Go Go.Proofs Go.ChangeShapes Go.WideShapes Go.ChangeAt Go.RowKit Go.Proofs.YtkohkdlbjbbegaaDoor.AM
open Go.ChangeMaps (open_string shut_string)
set_option linter.unusedVariables false
set_option linter.unusedSimpArgs false
theorem own : ownKnob Tryd.prog.godebug = none := by kernel_rfl
theorem laidOut : laidOutB Tryd.prog = true := by kernel_rfl
theorem door_met (os : Os) (args : Array Value) : laidMetH Tryd.prog Rows.fnAllPositionsRow.laid ((World.doorLaid Tryd.prog 400 os).forCall (fun _ _ => 0) ⟨#[], args, []⟩).memory :=
  laidMetH_of_parts3 (fuel := 8) (laidMet_of_run' 8 (by kernel_rfl) (by kernel_rfl)) (by kernel_rfl) (by kernel_rfl)
theorem gPow : Tryd.prog.globalNamed "internal/strconv.uint64pow10" = some 0 := by kernel_rfl
theorem tab {W : World} (h : laidMetH Tryd.prog Rows.fnAllPositionsRow.laid W) : Tab Tryd.prog W := by
  rw [MakeChecks.laidMetH_plain _ _ _ (by kernel_rfl)] at h
  have h1 : laidMet Tryd.prog [("internal/strconv.uint64pow10", Lib.tabData .u64 Lib.pow10Tab)] W := h.filter (fun x => x.1 == "internal/strconv.uint64pow10")
  exact ⟨fun _ => Lib.tabIs_of_head gPow (by kernel_rfl) Tryd.underlying86 Tryd.underlying76 (by kernel_rfl) (by kernel_rfl) h1, fun nm h hne => (by rcases h with rfl | rfl <;> exact absurd (by decide +kernel) hne)⟩
set_option maxRecDepth 100000 in
theorem lifted (os : Os) (started : os.Started) (H : Type) (enc : TypeId × Value → H) :
    ReturnsInHanded {} Tryd.checked os 3 .any (fun w args => (Rows.fnAllPositionsSpec.pre enc Tryd.prog Tryd.f3 Rows.fnAllPositionsRow.domain false w args ∧ laidMetH Tryd.prog Rows.fnAllPositionsRow.laid w) ∧ sizedMet enc Tryd.prog Tryd.f3 (OpenSpec.ofChange Rows.fnAllPositionsSpec) false w args) (Rows.fnAllPositionsSpec.post enc Tryd.prog Tryd.f3 false true false false) := by
  refine returnsInHanded_of_change_and (C := Tryd.checked) (X := fun w _ => laidMetH Tryd.prog Rows.fnAllPositionsRow.laid w) (fun _ _ _ hh h => h.of_heap hh) own started (by kernel_rfl) Tryd.func3
    (ChangeSpec.witness_shaped (enc := enc) (C := Tryd.checked) (os := os) (X := fun w _ => laidMetH Tryd.prog Rows.fnAllPositionsRow.laid w) false (World.doorLaid Tryd.prog 400 os) #[.slice none 0 0] 8 rfl (World.shaped_of_RefB (by kernel_rfl) (by kernel_rfl)) (by kernel_rfl) (by kernel_rfl) (by kernel_rfl) (door_met os _)) ?_
  intro W base args ds gs before hval0 hW hcnd hsz0 hL _
  have hval : ∀ (j : Nat) t v, Tryd.f3.params[j]? = some t → args[j]? = some v → Value.okWide Tryd.prog W .any base t v := hval0
  have hW' := hW
  obtain ⟨p, q, hA0, hV, rfl, hfz, hnd⟩ := hW
  have hA : DataW.TrodAll enc Tryd.prog W 0 (fun _ => true) true Tryd.f3.params.toList args.toList ds p := hA0
  rw [Tryd.params3] at hA hval
  obtain ⟨v0, vs0, d0, ds0, p0, q0, hargs, rfl, rfl, h0, r0⟩ := trodAll_cons hA
  obtain ⟨rfl, rfl, rfl⟩ := trodAll_nil r0
  obtain rfl : args = #[v0] := by cases args; simp_all
  obtain ⟨rfl, rfl⟩ := trodVars_none hV
  have k0 := h0
  have lt0 : ∀ x ∈ p0, x.block < W.heap.size := by obtain ⟨m, hm⟩ := k0; exact DataW.trod_lt m _ _ _ hm
  obtain ⟨ad0, len0, cap0, rfl⟩ := okWide_slice Tryd.underlying22 (hval 0 22 v0 rfl rfl)
  obtain ⟨fuel0, hf0⟩ := h0
  obtain ⟨s0, xs0, hs0, T0, R0, N0, G0⟩ := open_bytes fuel0 _ _ hf0
  obtain rfl : _ = s0 := (List.cons.inj hs0).1
  have hc := wFnAllPositions (absS W) xs0 _ R0 N0
  clear hA0 hval0 hcnd hsz0 hval hA
  refine (hc.enters (tab hL) (.cons _ _ _ _ (.inl ⟨T0, rfl⟩) .nil)).mono fun e W' ⟨he, bel⟩ => ?_
  subst he
  exact ⟨_, rfl, _, _, _, [], _, [], hW', trodAll_mk1 (shut_bool Tryd.underlying4 _), (trodAll_cons_mk (Below.trod laidOut (by kernel_rfl) (of_decide_eq_true (by kernel_rfl)) k0 bel lt0) trodAll_mk0), rfl, bel.frame _, fun h => by cases h⟩
theorem over : Rows.fnAllPositionsRow.holds Tryd.pinned (OpenSpec.ofChange Rows.fnAllPositionsSpec) :=
  OpenClaim.holds_of_wide 3 Tryd.f3 rfl rfl rfl rfl rfl rfl rfl ⟨rfl, rfl, rfl, rfl, rfl⟩ rfl rfl rfl rfl rfl (by kernel_rfl) Tryd.func3 (by kernel_rfl)
    (of_decide_eq_true (by kernel_rfl)) (by unfold Func.isWrapper; first | (rw [if_pos (by decide +kernel)]; kernel_rfl) | (rw [if_neg (by decide +kernel)]; exact ⟨rfl, rfl⟩))
    (fun os started H enc _ => lifted os started H enc)
theorem card : Rows.FnAllPositionsCardSaid :=
  Claim7.holds_tied_plain_at .later [] [.data, .data, .data] true Rows.fnAllPositionsCard.stood.harness Rows.fnAllPositionsCard.stood.looks
    over (fun _ h => by cases h) (by kernel_rfl) (fun _ h => by cases h) fnAllPositions_row_tie rfl ⟨rfl, rfl⟩ (by kernel_rfl) rfl
    (fun f fn hf hfn => by
      obtain rfl : f = 3 := Option.some.inj ((show Tryd.prog.funcNamed "loop.example/g00517/laws.FnAllPositions" = some 3 by kernel_rfl).symm.trans hf) |>.symm
      obtain rfl : fn = Tryd.f3 := (Option.some.inj (Tryd.func3.symm.trans hfn)).symm
      exact ⟨by kernel_rfl, fun j t ht => by
        rw [Tryd.params3] at ht
        have hm : t ∈ [22] := by simpa using Array.mem_of_getElem? ht
        have hall : ([22].all fun u => !Tryd.prog.wantsStandIn u) = true := by kernel_rfl
        exact (show Tryd.prog.wantsStandIn t = false by simpa using List.all_eq_true.1 hall t hm)⟩)
    (by kernel_rfl)
end Go.Proofs.YtkohkdlbjbbegaaDoor.fnAllPositions
namespace Go.Proofs.YtkohkdlbjbbegaaDoor
/-- The card, under a short name, for the claim. -/
theorem fnAllPositions_holds : Rows.FnAllPositionsCardSaid := fnAllPositions.card
end Go.Proofs.YtkohkdlbjbbegaaDoor

