/- The marks: laws.markTermS, laws.markTerm, laws.heldTermS, laws.heldTerm. -/
import Derived.Test.YtandemllbnapmaaM1
namespace Go.Proofs.Ytandemllbnapmaa.AM
open Go Go.Proofs
set_option linter.unusedVariables false
set_option linter.unusedSimpArgs false
set_option maxRecDepth 100000
attribute [local go_sem] List.map_cons List.map_nil List.all_cons List.all_nil Bool.and_self Option.map_some List.getElem?_toArray Option.bind_some gye_b gye_t gsk_b gsk_t gb1 gb2 gb3 gb4 bne_self_eq_false beq_self_eq_true w_guard w_nil stepV_some step_some step_some' w_move w_assign w_pick w_binOp w_unOp w_load w_fieldAddr w_indexAddr w_len w_box w_alloc w_store w_field w_extract w_nilCheck w_convert w_buildSlice w_build ev_buildL fillL_nil fillL_cons bs0 bs1 ev_conv ev_bin ev_un ev_pick ev_load ev_fieldAddr ev_indexAddr ev_len ev_field ev_extract ev_nilCheck fr_tmp fr_int fr_bool fr_str fr_nil fr_func put_some put_none bin_lss bin_leq bin_gtr bin_geq bin_eql bin_neq bin_add bin_sub bin_mul bin_seql bin_sneq un_not pick_ ext_ loadA_p cellAt_l cellAt_h okPtr_l okPtr_h fadA_p allocA_l storeA_l cells_agg cells_int cells_str cells_sl cells_bool flat_i flat_s flat_b flat_sl flat_nil loc_agg loc_int loc_str loc_sl loc_bool loc_fn loc_ptr okv_agg okv_int okv_str okv_sl okv_bool cellsFrom splice upd_eval argEnv_zero argEnv_succ ne_eq Nat.add_one_ne_zero not_false_eq_true List.not_mem_nil and_self decide_true List.getElem?_cons_zero List.getElem?_cons_succ List.size_toArray List.length_cons List.length_nil List.take_succ_cons List.take_zero List.drop_succ_cons List.drop_zero List.cons_append List.nil_append List.drop_nil Bool.not_true Bool.not_false Bool.false_eq_true Nat.zero_add Nat.add_zero wrap_in List.toList_toArray List.mem_cons or_self or_false false_or
attribute [local go_sem] ag3 ag35 ag37 ag39 ag40 ag42 ag46 ag77 ag9 bu42 bu46 by42 by46 by9 el22 el23 el26 el35 el40 el57 of37_0 of37_1 of37_2 of37_3 of39_0 of39_1 of42_0 of42_1 of42_2 of42_3 of46_0 of46_1 ro42_0 ro42_1 ro46_0 ro46_1 ro5_1 ro9_0 ro9_1 sz3 sz35 sz37 sz39 sz40 sz42 sz46 sz5 sz77 sz9 ze3 ze42 ze46 ze77 ze9

mutual
def T.mk1 : T → Nat → T × Nat
  | .mk _ _ _ args, k => (.mk k (k + 1 : Nat) (mtext (k + 2)) (T.mkL args (k + 3)).1, (T.mkL args (k + 3)).2)
def T.mkL : List T → Nat → List T × Nat
  | [], k => ([], k)
  | x :: xs, k => ((x.mk1 k).1 :: (T.mkL xs (x.mk1 k).2).1, (T.mkL xs (x.mk1 k).2).2)
end
theorem T.mkL_len (xs : List T) (k : Nat) : (T.mkL xs k).1.length = xs.length := by
  induction xs generalizing k with
  | nil => rfl
  | cons x xs ih => simp only [T.mkL, List.length_cons, ih]
theorem T.mkL_app (xs ys : List T) (k : Nat) : T.mkL (xs ++ ys) k = ((T.mkL xs k).1 ++ (T.mkL ys (T.mkL xs k).2).1, (T.mkL ys (T.mkL xs k).2).2) := by
  induction xs generalizing k with
  | nil => rfl
  | cons x xs ih => simp only [List.cons_append, T.mkL, ih]
theorem T.mk1_ge : ∀ (t : T) (k : Nat), k ≤ (t.mk1 k).2 ∧ k + 3 ≤ (t.mk1 k).2 := by
  refine T.ind fun k0 n nm args ih k => ?_
  have : ∀ (l : List T), (∀ a ∈ l, ∀ k, k ≤ (a.mk1 k).2 ∧ k + 3 ≤ (a.mk1 k).2) → ∀ k, k ≤ (T.mkL l k).2 := by
    intro l
    induction l with
    | nil => intro _ k; exact Nat.le_refl _
    | cons x xs ihx =>
      intro h k
      simp only [T.mkL]
      have h1 := (h x (by simp) k).1
      have h2 := ihx (fun a ha => h a (by simp [ha])) (x.mk1 k).2
      omega
  have h := this args ih (k + 3)
  simp only [T.mk1]
  omega
theorem T.mkL_ge (l : List T) (k : Nat) : k ≤ (T.mkL l k).2 := by
  induction l generalizing k with
  | nil => exact Nat.le_refl _
  | cons x xs ih => simp only [T.mkL]; have h1 := (T.mk1_ge x k).1; have h2 := ih (x.mk1 k).2; omega

theorem store_cell {P : Program} {t e : TypeId} {i o : Nat} {c1 c2 : List Value} {x v : Value} {loc : Nat → Nat × List Value} {st : St} (hs : szA P t = some 1) (hb : st[i]? = some ⟨c1 ++ x :: c2, e, 0⟩) (ho : c1.length = o) (hok : okv v = true) (hc : vc v = #[v]) :
    storeA P t (.pointer (some ⟨i, o, none⟩)) v loc st = some (loc, st.set i ⟨c1 ++ v :: c2, e, 0⟩) := by
  subst ho
  rw [storeA_h]
  have h1 : (#[v] : Array Value).toList = [v] := rfl
  simp only [hok, if_true, hs, hb, hc, List.size_toArray, List.length_singleton, true_and, h1]
  rw [if_pos (by simp)]
  unfold AM.splice
  simp

theorem cell_mid {st : St} {i o : Nat} {c1 c2 : List Value} {x : Value} {e : TypeId} (hb : st[i]? = some ⟨c1 ++ x :: c2, e, 0⟩) (ho : c1.length = o) : cell st i o = some x := by
  subst ho
  rw [cell_of hb]; simp

theorem SliceO.at_ {st : St} {e : TypeId} {xs : List T} {s : Value} {L : List Nat} (h : SliceO (Own e st) e st xs s L) {j : Nat} {k n : Int} {nm : ByteArray} {args : List T} (hx : xs[j]? = some (.mk k n nm args)) :
    ∃ i c c1 c2 s' L1 Lx L2, s = .slice (some ⟨i, 0, none⟩) xs.length c ∧ st[i]? = some ⟨c1 ++ .int .i64 k :: .int .i64 n :: .string nm :: s' :: c2, e, 0⟩ ∧ c1.length = j * 4 ∧ RowO (Own e st) (xs.take j) c1 L1 ∧ SliceO (Own e st) e st args s' Lx ∧ RowO (Own e st) (xs.drop (j + 1)) c2 L2 ∧ L = i :: (L1 ++ Lx ++ L2) := by
  rcases h with ⟨rfl, rfl, rfl⟩ | ⟨i, c, cs, K, rfl, hb, hr, rfl⟩
  · simp at hx
  · obtain ⟨c1, cx, c2, L1, Lx, L2, h1, h2, h3, rfl, rfl⟩ := hr.split j _ hx
    obtain ⟨s', rfl, hs'⟩ := h2.open
    have hl := h1.len Own.len
    have hj : j < xs.length := (List.getElem?_eq_some_iff.1 hx).1
    refine ⟨i, c, c1, c2, s', L1, Lx, L2, rfl, by simpa using hb, by rw [hl, List.length_take, Nat.min_eq_left (by omega)], h1, hs', h3, rfl⟩

theorem RowO.frame {st st' : St} {e : TypeId} {xs : List T} {cs : List Value} {L : List Nat} (h : RowO (Own e st) xs cs L) (hs : SameOn L st st') : RowO (Own e st') xs cs L :=
  h.mono fun x _ cx Lx hL he => Own.frame x cx Lx (fun j hj => hs j (hL j hj)) he

/-- The place holds another tree, all else of the row is as it was. -/
theorem SliceO.put {st st' : St} {e : TypeId} {xs ys : List T} {i c j : Nat} {c1 c2 : List Value} {s' : Value} {L1 Lx L2 : List Nat} {k n : Int} {nm : ByteArray} {args : List T} (hj : j < xs.length) (hl1 : ys.length = j)
    (h1 : RowO (Own e st) ys c1 L1) (h2 : RowO (Own e st) (xs.drop (j + 1)) c2 L2) (hb : st'[i]? = some ⟨c1 ++ .int .i64 k :: .int .i64 n :: .string nm :: s' :: c2, e, 0⟩) (hx : SliceO (Own e st') e st' args s' Lx)
    (hs1 : SameOn L1 st st') (hs2 : SameOn L2 st st') : SliceO (Own e st') e st' (ys ++ .mk k n nm args :: xs.drop (j + 1)) (.slice (some ⟨i, 0, none⟩) xs.length c) (i :: (L1 ++ Lx ++ L2)) := by
  refine .inr ⟨i, c, _, L1 ++ Lx ++ L2, ?_, hb, ?_, rfl⟩
  · have : (ys ++ T.mk k n nm args :: xs.drop (j + 1)).length = xs.length := by simp; omega
    rw [this]
  · rw [List.append_assoc]
    exact (h1.frame hs1).app (.cons _ _ [_, _, _, _] c2 Lx L2 (Own.close k n nm hx) (h2.frame hs2))

theorem get_set_ne {st : St} {i j : Nat} {b : Blk} (h : j ≠ i) : (st.set i b)[j]? = st[j]? := by rw [List.getElem?_set, if_neg (Ne.symm h)]
theorem get_set_eq {st : St} {i : Nat} {b b0 : Blk} (h : st[i]? = some b0) : (st.set i b)[i]? = some b := by
  have := (List.getElem?_eq_some_iff.1 h).1
  rw [List.getElem?_set]; simp [this]

theorem store_at {P : Program} {t e : TypeId} {i o : Nat} {c1 c2 : List Value} {x : Value} (v : Value) {st : St} (hs : szA P t = some 1) (hb : st[i]? = some ⟨c1 ++ x :: c2, e, 0⟩) (ho : c1.length = o) (hok : okv v = true) (hc : vc v = #[v]) :
    ∃ st1, (∀ loc, storeA P t (.pointer (some ⟨i, o, none⟩)) v loc st = some (loc, st1)) ∧ st1[i]? = some ⟨c1 ++ v :: c2, e, 0⟩ ∧ st1.length = st.length ∧ ∀ j, j ≠ i → st1[j]? = st[j]? :=
  ⟨_, fun _ => store_cell hs hb ho hok hc, get_set_eq hb, by simp, fun j hj => get_set_ne hj⟩

theorem markTermS_of (xs : List T) (st : St) (s : Value) (L : List Nat) (k : Nat) (hbig : xs.length ≤ 1073741824) (hk : (T.mkL xs k).2 ≤ 4611686018427380000) (hs : SliceO (Own 42 st) 42 st xs s L) (hnd : L.Nodup)
    (ih : ∀ k0 n0 nm args, T.mk k0 n0 nm args ∈ xs → ∀ (st : St) s L k, (T.mkL args k).2 ≤ 4611686018427380000 → SliceO (Own 42 st) 42 st args s L → L.Nodup →
      CallS Try.prog 23 [s, .int .i64 k] st fun r st2 => r = .int .i64 (T.mkL args k).2 ∧ SliceO (Own 42 st2) 42 st2 (T.mkL args k).1 s L ∧ st.length ≤ st2.length ∧ ∀ i, i < st.length → i ∉ L → st2[i]? = st[i]?) :
    CallS Try.prog 23 [s, .int .i64 k] st fun r st2 => r = .int .i64 (T.mkL xs k).2 ∧ SliceO (Own 42 st2) 42 st2 (T.mkL xs k).1 s L ∧ st.length ≤ st2.length ∧ ∀ i, i < st.length → i ∉ L → st2[i]? = st[i]? := by
  refine CallS_of_W [] 42 Try.func23 rfl rfl rfl rfl (by simp) ?_
  repeat (first | (refine W_reg rfl fun G K hG hK => ?_; simp (disch := omega) only [go_sem, ↓reduceIte, Nat.reduceEqDiff, Nat.reduceAdd, Nat.reduceLeDiff, hG]; refine hK _ _ ?_; clear hK K hG G) | (refine W_end rfl fun G K hG hK => ?_; simp (disch := omega) only [go_sem, ↓reduceIte, Nat.reduceEqDiff, Nat.reduceAdd, Nat.reduceLeDiff, hG]; refine hK _ _ ?_; clear hK K hG G; repeat (first | refine thenI ?_ | refine thenE ?_ | refine thenR ?_ | refine inBI ?_ | refine inBR ?_ | refine inBS ?_ | refine inBN (by decide) ?_)) | refine W_seqS ?_ | refine W_seqC ?_ | refine W_seqB ?_ | refine W_block ?_ | (refine W_skip ?_; repeat (first | refine thenI ?_ | refine thenE ?_ | refine thenR ?_ | refine inBI ?_ | refine inBR ?_ | refine inBS ?_ | refine inBN (by decide) ?_)) | (refine W_condT ?hc ?_; (case hc => (simp (disch := omega) only [go_sem, ↓reduceIte, Nat.reduceEqDiff, Nat.reduceAdd, Nat.reduceLeDiff]; done))) | (refine W_condF ?hc ?_; (case hc => (simp (disch := omega) only [go_sem, ↓reduceIte, Nat.reduceEqDiff, Nat.reduceAdd, Nat.reduceLeDiff]; done))))
  refine W_loop (fun d fr st' => ∃ (j : Nat), d = xs.length - j ∧ j ≤ xs.length ∧ SliceO (Own 42 st') 42 st' ((T.mkL (xs.take j) k).1 ++ xs.drop j) s L ∧ st.length ≤ st'.length ∧ (∀ i, i < st.length → i ∉ L → st'[i]? = st[i]?)
    ∧ fr.env 5 = .int .i64 j ∧ fr.env 0 = s ∧ fr.env 1 = .int .i64 (T.mkL (xs.take j) k).2) xs.length ?_ ?_
  · exact ⟨0, by omega, by omega, by simpa [T.mkL] using hs, Nat.le_refl _, fun _ _ _ => rfl, (by (simp (disch := omega) only [go_sem, ↓reduceIte, Nat.reduceEqDiff, Nat.reduceAdd, Nat.reduceLeDiff]); try rfl), (by (simp (disch := omega) only [go_sem, ↓reduceIte, Nat.reduceEqDiff, Nat.reduceAdd, Nat.reduceLeDiff]); try rfl), (by (simp (disch := omega) only [go_sem, ↓reduceIte, Nat.reduceEqDiff, Nat.reduceAdd, Nat.reduceLeDiff]); try rfl)⟩
  rintro d ⟨env, loc⟩ st' ⟨j, hd, hj, hsl, hle, hoth, e5, e0, e1⟩
  simp only at e5 e0 e1
  have hml : (T.mkL (xs.take j) k).1.length = j := by rw [T.mkL_len]; simp; omega
  have hlen : lenE Try.prog 40 s = some (.int .i64 xs.length) := by
    have := row_len (hsl.row (E' := fun _ _ => True) Own.len fun _ _ _ _ _ => trivial) Try.underlying40
    rw [this]; simp [hml]; omega
  by_cases hlt : j < xs.length
  · have c1 : decide ((j : Int) < (xs.length : Int)) = true := by simpa using hlt
    have hi := idxOk hlt
    have htk : xs.take (j + 1) = xs.take j ++ [xs[j]] := List.take_succ_eq_append_getElem hlt
    have hdr : xs.drop j = xs[j] :: xs.drop (j + 1) := List.drop_eq_getElem_cons hlt
    generalize hkj : (T.mkL (xs.take j) k).2 = kj at e1
    have hke : (T.mkL xs k).2 = (T.mkL (xs.drop j) kj).2 := by
      conv => lhs; rw [← List.take_append_drop j xs, T.mkL_app]
      rw [hkj]
    have hxm : xs[j] ∈ xs := List.getElem_mem hlt
    revert hxm
    cases hxj : xs[j] with | mk k0 n0 nm args => ?_
    intro hxm
    rw [hxj] at htk hdr
    have hmk : ((T.mk k0 n0 nm args).mk1 kj) = (.mk kj (kj + 1 : Nat) (mtext (kj + 2)) (T.mkL args (kj + 3)).1, (T.mkL args (kj + 3)).2) := rfl
    have hkb : (T.mkL args (kj + 3)).2 ≤ 4611686018427380000 := by
      have h1 := T.mkL_ge (xs.drop (j + 1)) (T.mkL args (kj + 3)).2
      rw [hdr] at hke
      simp only [T.mkL, hmk] at hke
      omega
    have hkg := T.mkL_ge args (kj + 3)
    have hnx : (T.mkL (xs.take (j + 1)) k) = ((T.mkL (xs.take j) k).1 ++ [.mk kj (kj + 1 : Nat) (mtext (kj + 2)) (T.mkL args (kj + 3)).1], (T.mkL args (kj + 3)).2) := by
      rw [htk, T.mkL_app, hkj]; rfl
    have hat : ((T.mkL (xs.take j) k).1 ++ xs.drop j)[j]? = some (.mk k0 n0 nm args) := by
      rw [List.getElem?_append_right (by omega), hml, Nat.sub_self, hdr]; rfl
    obtain ⟨i, c, l1, l2, s', L1, Lx, L2, rfl, hb, hcl, hr1, hsx, hr2, rfl⟩ := hsl.at_ hat
    have hlt2 : (((T.mkL (xs.take j) k).1 ++ xs.drop j)).length = xs.length := by simp [hml]; omega
    rw [List.take_left' hml] at hr1
    have hd2 : ((T.mkL (xs.take j) k).1 ++ xs.drop j).drop (j + 1) = xs.drop (j + 1) := by
      rw [List.drop_append, hml, Nat.add_sub_cancel_left, List.drop_eq_nil_of_le (by omega), hdr]; rfl
    rw [hd2] at hr2
    simp only [hlt2] at hlen e0 hnd hoth hsl ⊢
    have hib : i < st'.length := (List.getElem?_eq_some_iff.1 hb).1
    have w1 : IntKind.i64.wrap ((kj : Int) + 1) = ((kj + 1 : Nat) : Int) := by rw [wrap_in (by omega) (by omega)]; rfl
    have w2 : IntKind.i64.wrap (((kj + 1 : Nat) : Int) + 1) = ((kj + 2 : Nat) : Int) := by rw [wrap_in (by omega) (by omega)]; omega
    have w3 : IntKind.i64.wrap (((kj + 2 : Nat) : Int) + 1) = ((kj + 3 : Nat) : Int) := by rw [wrap_in (by omega) (by omega)]; omega
    obtain ⟨st1, k1, hb1, hn1, hf1⟩ := store_at (.int .i64 kj) sz3 hb hcl rfl rfl
    obtain ⟨st2, k2, hb2, hn2, hf2⟩ := store_at (e := 42) (c1 := l1 ++ [.int .i64 kj]) (c2 := .string nm :: s' :: l2) (.int .i64 (kj + 1 : Nat)) (st := st1) (x := .int .i64 n0) (o := j * 4 + 1) sz3 (by rw [hb1]; simp) (by simp; omega) rfl rfl
    have k2' := k2
    repeat (first | (refine W_reg rfl fun G K hG hK => ?_; simp (disch := omega) only [go_sem, ↓reduceIte, Nat.reduceEqDiff, Nat.reduceAdd, Nat.reduceLeDiff, hG, e5, e0, e1, hlen, c1, idxA, Int.toNat_natCast, hi, k1, w1, k2, w2]; refine hK _ _ ?_; clear hK K hG G) | (refine W_end rfl fun G K hG hK => ?_; simp (disch := omega) only [go_sem, ↓reduceIte, Nat.reduceEqDiff, Nat.reduceAdd, Nat.reduceLeDiff, hG, e5, e0, e1, hlen, c1, idxA, Int.toNat_natCast, hi, k1, w1, k2, w2]; refine hK _ _ ?_; clear hK K hG G; repeat (first | refine thenI ?_ | refine thenE ?_ | refine thenR ?_ | refine inBI ?_ | refine inBR ?_ | refine inBS ?_ | refine inBN (by decide) ?_)) | refine W_seqS ?_ | refine W_seqC ?_ | refine W_seqB ?_ | refine W_block ?_ | (refine W_skip ?_; repeat (first | refine thenI ?_ | refine thenE ?_ | refine thenR ?_ | refine inBI ?_ | refine inBR ?_ | refine inBS ?_ | refine inBN (by decide) ?_)) | (refine W_condT ?hc ?_; (case hc => (simp (disch := omega) only [go_sem, ↓reduceIte, Nat.reduceEqDiff, Nat.reduceAdd, Nat.reduceLeDiff, e5, e0, e1, hlen, c1, idxA, Int.toNat_natCast, hi, k1, w1, k2, w2]; done))) | (refine W_condF ?hc ?_; (case hc => (simp (disch := omega) only [go_sem, ↓reduceIte, Nat.reduceEqDiff, Nat.reduceAdd, Nat.reduceLeDiff, e5, e0, e1, hlen, c1, idxA, Int.toNat_natCast, hi, k1, w1, k2, w2]; done))))
    (repeat (first | refine W_seqS ?_ | refine W_seqC ?_ | refine W_seqB ?_ | refine W_block ?_)); refine W_reg rfl fun G K hG hK => ?_; simp (disch := omega) only [go_sem, ↓reduceIte, Nat.reduceEqDiff, Nat.reduceAdd, Nat.reduceLeDiff, hG, e5, e0, e1, idxA, Int.toNat_natCast, hi]
    refine w_call (markText_ok (kj + 2) st2 (by omega)) (by simp (disch := omega) only [go_sem, ↓reduceIte, Nat.reduceEqDiff]) ?hl ?_
    case hl => first | rfl | (simp only [go_sem, List.all_cons, List.all_nil, Bool.not_false, Bool.and_self]; done)
    rintro r_ s_ ⟨hx, rfl⟩; refine ⟨fun e => (by cases e), ?_⟩
    obtain ⟨st3, k3, hb3, hn3, hf3⟩ := store_at (e := 42) (c1 := l1 ++ [.int .i64 kj, .int .i64 (kj + 1 : Nat)]) (c2 := s' :: l2) (.string (mtext (kj + 2))) (st := s_) (x := .string nm) (o := j * 4 + 2) sz9 (by rw [hx _ _ hb2]; simp) (by simp; omega) rfl rfl
    simp (disch := omega) only [go_sem, ↓reduceIte, Nat.reduceEqDiff, Nat.reduceAdd, Nat.reduceLeDiff, hG, e5, e0, e1, idxA, Int.toNat_natCast, hi, k3]; refine hK _ _ ?_; clear hK K hG G; repeat (first | refine thenI ?_ | refine thenE ?_ | refine thenR ?_ | refine inBI ?_ | refine inBR ?_ | refine inBS ?_ | refine inBN (by decide) ?_)
    repeat (first | (refine W_reg rfl fun G K hG hK => ?_; simp (disch := omega) only [go_sem, ↓reduceIte, Nat.reduceEqDiff, Nat.reduceAdd, Nat.reduceLeDiff, hG, e1, w3]; refine hK _ _ ?_; clear hK K hG G) | (refine W_end rfl fun G K hG hK => ?_; simp (disch := omega) only [go_sem, ↓reduceIte, Nat.reduceEqDiff, Nat.reduceAdd, Nat.reduceLeDiff, hG, e1, w3]; refine hK _ _ ?_; clear hK K hG G; repeat (first | refine thenI ?_ | refine thenE ?_ | refine thenR ?_ | refine inBI ?_ | refine inBR ?_ | refine inBS ?_ | refine inBN (by decide) ?_)) | refine W_seqS ?_ | refine W_seqC ?_ | refine W_seqB ?_ | refine W_block ?_ | (refine W_skip ?_; repeat (first | refine thenI ?_ | refine thenE ?_ | refine thenR ?_ | refine inBI ?_ | refine inBR ?_ | refine inBS ?_ | refine inBN (by decide) ?_)) | (refine W_condT ?hc ?_; (case hc => (simp (disch := omega) only [go_sem, ↓reduceIte, Nat.reduceEqDiff, Nat.reduceAdd, Nat.reduceLeDiff, e1, w3]; done))) | (refine W_condF ?hc ?_; (case hc => (simp (disch := omega) only [go_sem, ↓reduceIte, Nat.reduceEqDiff, Nat.reduceAdd, Nat.reduceLeDiff, e1, w3]; done))))
    have hc3 : cell st3 i (j * 4 + 3) = some s' := cell_mid (e := 42) (c2 := l2) (c1 := l1 ++ [.int .i64 kj, .int .i64 (kj + 1 : Nat), .string (mtext (kj + 2))]) (by rw [hb3]; simp) (by simp; omega)
    refine W_end rfl fun G K hG hK => ?_; simp (disch := omega) only [go_sem, ↓reduceIte, Nat.reduceEqDiff, Nat.reduceAdd, Nat.reduceLeDiff, hG, e5, e0, e1, w3, idxA, Int.toNat_natCast, hi, hc3, ag40]
    have hxl := hx.length
    have hf3' : ∀ q, q ≠ i → q < st'.length → st3[q]? = st'[q]? := fun q hq hql => by
      rw [hf3 q hq, hx.get (by omega), hf2 q hq, hf1 q hq]
    obtain ⟨hi0, hnd1⟩ := List.nodup_cons.1 hnd
    obtain ⟨hnd2, hnd3, hnd4⟩ := List.nodup_append.1 hnd1
    obtain ⟨hnd5, hnd6, hnd7⟩ := List.nodup_append.1 hnd2
    have hlts := hsl.lt fun x cx Lx h => Own.lt x cx Lx h
    have hsx3 := hsx.frame (E := fun st => Own 42 st) (st' := st3) (fun _ _ => Own.frame) (fun q hq => hf3' q (fun e => hi0 (by simp [← e, hq])) (hlts q (by simp [hq])))
    have hob := hsx.okv
    have hcb := hsx.cells
    have hlb := hsx.loc
    refine w_call (ih k0 n0 nm args hxm st3 s' Lx (kj + 3) hkb hsx3 hnd6) (by simp (disch := omega) only [go_sem, ↓reduceIte, Nat.reduceEqDiff, hlb]) ?hl ?_
    case hl => first | rfl | (simp only [go_sem, List.all_cons, List.all_nil, Bool.not_false, Bool.and_self, hlb]; done)
    rintro r_ s_ ⟨rfl, hsn, hle2, hot2⟩; refine ⟨fun e => (by cases e), ?_⟩
    simp (disch := omega) only [go_sem, ↓reduceIte, Nat.reduceEqDiff, Nat.reduceAdd, Nat.reduceLeDiff, hG]; refine hK _ _ ?_; clear hK K hG G; repeat (first | refine thenI ?_ | refine thenE ?_ | refine thenR ?_ | refine inBI ?_ | refine inBR ?_ | refine inBS ?_ | refine inBN (by decide) ?_)
    repeat (first | (refine W_reg rfl fun G K hG hK => ?_; simp (disch := omega) only [go_sem, ↓reduceIte, Nat.reduceEqDiff, Nat.reduceAdd, Nat.reduceLeDiff, hG, e5]; refine hK _ _ ?_; clear hK K hG G) | (refine W_end rfl fun G K hG hK => ?_; simp (disch := omega) only [go_sem, ↓reduceIte, Nat.reduceEqDiff, Nat.reduceAdd, Nat.reduceLeDiff, hG, e5]; refine hK _ _ ?_; clear hK K hG G; repeat (first | refine thenI ?_ | refine thenE ?_ | refine thenR ?_ | refine inBI ?_ | refine inBR ?_ | refine inBS ?_ | refine inBN (by decide) ?_)) | refine W_seqS ?_ | refine W_seqC ?_ | refine W_seqB ?_ | refine W_block ?_ | (refine W_skip ?_; repeat (first | refine thenI ?_ | refine thenE ?_ | refine thenR ?_ | refine inBI ?_ | refine inBR ?_ | refine inBS ?_ | refine inBN (by decide) ?_)) | (refine W_condT ?hc ?_; (case hc => (simp (disch := omega) only [go_sem, ↓reduceIte, Nat.reduceEqDiff, Nat.reduceAdd, Nat.reduceLeDiff, e5]; done))) | (refine W_condF ?hc ?_; (case hc => (simp (disch := omega) only [go_sem, ↓reduceIte, Nat.reduceEqDiff, Nat.reduceAdd, Nat.reduceLeDiff, e5]; done))))
    have hib3 : s_[i]? = _ := (hot2 i (by omega) (fun h => hi0 (by simp [h]))).trans hb3
    have hqn : ∀ q, q < st'.length → q ≠ i → q ∉ Lx → s_[q]? = st'[q]? := fun q h1 h2 h3 => by rw [hot2 q (by omega) h3, hf3' q h2 h1]
    have hput := SliceO.put (st := st') (st' := s_) (xs := xs) (c := c) (k := kj) (n := (kj + 1 : Nat)) (nm := mtext (kj + 2)) hlt hml hr1 hr2 (by rw [hib3]; simp) hsn
      (fun q hq => hqn q (hlts q (by simp [hq])) (fun e => hi0 (by simp [← e, hq])) (fun h => hnd7 q hq q h rfl))
      (fun q hq => hqn q (hlts q (by simp [hq])) (fun e => hi0 (by simp [← e, hq])) (fun h => hnd4 q (by simp [h]) q hq rfl))
    refine ⟨xs.length - (j + 1), by omega, j + 1, rfl, by omega, ?_, by omega, fun q h1 h2 => ?_, (by (simp (disch := omega) only [go_sem, ↓reduceIte, Nat.reduceEqDiff, Nat.reduceAdd, Nat.reduceLeDiff]); try rfl), (by (simp (disch := omega) only [go_sem, ↓reduceIte, Nat.reduceEqDiff, Nat.reduceAdd, Nat.reduceLeDiff, e0]); try rfl), ?_⟩
    · rw [hnx]; simpa using hput
    · rw [hqn q (by omega) (fun e => h2 (by simp [e])) (fun h => h2 (by simp [h])), hoth q h1 h2]
    · rw [hnx]; simp (disch := omega) only [go_sem, ↓reduceIte, Nat.reduceEqDiff, Nat.reduceAdd, Nat.reduceLeDiff]
  · have c1 : decide ((j : Int) < (xs.length : Int)) = false := by simpa using hlt
    have hjn : j = xs.length := by omega
    subst hjn
    rw [List.take_length] at e1 hsl
    repeat (first | (refine W_reg rfl fun G K hG hK => ?_; simp (disch := omega) only [go_sem, ↓reduceIte, Nat.reduceEqDiff, Nat.reduceAdd, Nat.reduceLeDiff, hG, e5, e0, e1, hlen, c1]; refine hK _ _ ?_; clear hK K hG G) | (refine W_end rfl fun G K hG hK => ?_; simp (disch := omega) only [go_sem, ↓reduceIte, Nat.reduceEqDiff, Nat.reduceAdd, Nat.reduceLeDiff, hG, e5, e0, e1, hlen, c1]; refine hK _ _ ?_; clear hK K hG G; repeat (first | refine thenI ?_ | refine thenE ?_ | refine thenR ?_ | refine inBI ?_ | refine inBR ?_ | refine inBS ?_ | refine inBN (by decide) ?_)) | refine W_seqS ?_ | refine W_seqC ?_ | refine W_seqB ?_ | refine W_block ?_ | (refine W_skip ?_; repeat (first | refine thenI ?_ | refine thenE ?_ | refine thenR ?_ | refine inBI ?_ | refine inBR ?_ | refine inBS ?_ | refine inBN (by decide) ?_)) | (refine W_condT ?hc ?_; (case hc => (simp (disch := omega) only [go_sem, ↓reduceIte, Nat.reduceEqDiff, Nat.reduceAdd, Nat.reduceLeDiff, e5, e0, e1, hlen, c1]; done))) | (refine W_condF ?hc ?_; (case hc => (simp (disch := omega) only [go_sem, ↓reduceIte, Nat.reduceEqDiff, Nat.reduceAdd, Nat.reduceLeDiff, e5, e0, e1, hlen, c1]; done))))
    refine W_exit ?_; repeat (first | refine thenI ?_ | refine thenE ?_ | refine thenR ?_ | refine inBI ?_ | refine inBR ?_ | refine inBS ?_ | refine inBN (by decide) ?_)
    repeat (first | (refine W_reg rfl fun G K hG hK => ?_; simp (disch := omega) only [go_sem, ↓reduceIte, Nat.reduceEqDiff, Nat.reduceAdd, Nat.reduceLeDiff, hG, e1]; refine hK _ _ ?_; clear hK K hG G) | (refine W_end rfl fun G K hG hK => ?_; simp (disch := omega) only [go_sem, ↓reduceIte, Nat.reduceEqDiff, Nat.reduceAdd, Nat.reduceLeDiff, hG, e1]; refine hK _ _ ?_; clear hK K hG G; repeat (first | refine thenI ?_ | refine thenE ?_ | refine thenR ?_ | refine inBI ?_ | refine inBR ?_ | refine inBS ?_ | refine inBN (by decide) ?_)) | refine W_seqS ?_ | refine W_seqC ?_ | refine W_seqB ?_ | refine W_block ?_ | (refine W_skip ?_; repeat (first | refine thenI ?_ | refine thenE ?_ | refine thenR ?_ | refine inBI ?_ | refine inBR ?_ | refine inBS ?_ | refine inBN (by decide) ?_)) | (refine W_condT ?hc ?_; (case hc => (simp (disch := omega) only [go_sem, ↓reduceIte, Nat.reduceEqDiff, Nat.reduceAdd, Nat.reduceLeDiff, e1]; done))) | (refine W_condF ?hc ?_; (case hc => (simp (disch := omega) only [go_sem, ↓reduceIte, Nat.reduceEqDiff, Nat.reduceAdd, Nat.reduceLeDiff, e1]; done))))
    refine W_ret ?_; try (repeat (first | refine thenI ?_ | refine thenE ?_ | refine thenR ?_ | refine inBI ?_ | refine inBR ?_ | refine inBS ?_ | refine inBN (by decide) ?_))
    refine fin1 (.inl rfl) (by (simp (disch := omega) only [go_sem, ↓reduceIte, Nat.reduceEqDiff, Nat.reduceAdd, Nat.reduceLeDiff, e1]); try rfl) rfl ⟨rfl, by simpa using hsl, hle, hoth⟩

/-- The tree whose marks stand below its root. -/
def T.mk0 : T → Nat → T × Nat
  | .mk k0 n0 nm args, k => (.mk k0 n0 nm (T.mkL args k).1, (T.mkL args k).2)

theorem markTermS_ok : ∀ (t : T) (k0 n0 : Int) (nm : ByteArray) (xs : List T) (st : St) (s : Value) (L : List Nat) (k : Nat), t = .mk k0 n0 nm xs → Lim 1073741824 t → (T.mkL xs k).2 ≤ 4611686018427380000 → SliceO (Own 42 st) 42 st xs s L → L.Nodup →
      CallS Try.prog 23 [s, .int .i64 k] st fun r st2 => r = .int .i64 (T.mkL xs k).2 ∧ SliceO (Own 42 st2) 42 st2 (T.mkL xs k).1 s L ∧ st.length ≤ st2.length ∧ ∀ i, i < st.length → i ∉ L → st2[i]? = st[i]? := by
  refine T.ind fun k1 n1 nm1 args ih k0 n0 nm xs st s L k he hl hk hs hnd => ?_
  cases he
  exact markTermS_of args st s L k hl.args.1 hk hs hnd fun k2 n2 nm2 args2 hm st' s' L' k' hk' hs' hnd' => ih _ hm k2 n2 nm2 args2 st' s' L' k' rfl (hl.args.2 _ hm) hk' hs' hnd'

theorem T.mk1_k (t : T) (k : Nat) : ∃ args, (t.mk1 k).1 = .mk k (k + 1 : Nat) (mtext (k + 2)) (T.mkL args (k + 3)).1 ∧ (t.mk1 k).2 = (T.mkL args (k + 3)).2 ∧ ∃ k0 n0 nm, t = .mk k0 n0 nm args := by
  cases t with | mk k0 n0 nm args => exact ⟨args, rfl, rfl, k0, n0, nm, rfl⟩

theorem heldTermS_of (xs : List T) (st : St) (s : Value) (k : Nat) (hbig : xs.length ≤ 1073741824) (hk : (T.mkL xs k).2 ≤ 4611686018427380000) (hr : Row (Enc st) 4 st (T.mkL xs k).1 s)
    (ih : ∀ k0 n0 nm args, T.mk k0 n0 nm args ∈ xs → ∀ (st : St) s k, (T.mkL args k).2 ≤ 4611686018427380000 → Row (Enc st) 4 st (T.mkL args k).1 s →
      CallS Try.prog 24 [s, .int .i64 k] st fun r st2 => Ext st st2 ∧ r = .int .i64 (T.mkL args k).2) :
    CallS Try.prog 24 [s, .int .i64 k] st fun r st2 => Ext st st2 ∧ r = .int .i64 (T.mkL xs k).2 := by
  refine CallS_of_W [] 50 Try.func24 rfl rfl rfl rfl (by simp) ?_
  have hlen := row_len hr Try.underlying40
  rw [T.mkL_len] at hlen
  repeat (first | (refine W_reg rfl fun G K hG hK => ?_; simp (disch := omega) only [go_sem, ↓reduceIte, Nat.reduceEqDiff, Nat.reduceAdd, Nat.reduceLeDiff, hG]; refine hK _ _ ?_; clear hK K hG G) | (refine W_end rfl fun G K hG hK => ?_; simp (disch := omega) only [go_sem, ↓reduceIte, Nat.reduceEqDiff, Nat.reduceAdd, Nat.reduceLeDiff, hG]; refine hK _ _ ?_; clear hK K hG G; repeat (first | refine thenI ?_ | refine thenE ?_ | refine thenR ?_ | refine inBI ?_ | refine inBR ?_ | refine inBS ?_ | refine inBN (by decide) ?_)) | refine W_seqS ?_ | refine W_seqC ?_ | refine W_seqB ?_ | refine W_block ?_ | (refine W_skip ?_; repeat (first | refine thenI ?_ | refine thenE ?_ | refine thenR ?_ | refine inBI ?_ | refine inBR ?_ | refine inBS ?_ | refine inBN (by decide) ?_)) | (refine W_condT ?hc ?_; (case hc => (simp (disch := omega) only [go_sem, ↓reduceIte, Nat.reduceEqDiff, Nat.reduceAdd, Nat.reduceLeDiff]; done))) | (refine W_condF ?hc ?_; (case hc => (simp (disch := omega) only [go_sem, ↓reduceIte, Nat.reduceEqDiff, Nat.reduceAdd, Nat.reduceLeDiff]; done))))
  refine W_loop (fun d fr st' => ∃ (j : Nat), d = xs.length - j ∧ j ≤ xs.length ∧ Ext st st' ∧ fr.env 5 = .int .i64 j ∧ fr.env 0 = s ∧ fr.env 1 = .int .i64 (T.mkL (xs.take j) k).2) xs.length ?_ ?_
  · exact ⟨0, by omega, by omega, Ext.refl _, (by (simp (disch := omega) only [go_sem, ↓reduceIte, Nat.reduceEqDiff, Nat.reduceAdd, Nat.reduceLeDiff]); try rfl), (by (simp (disch := omega) only [go_sem, ↓reduceIte, Nat.reduceEqDiff, Nat.reduceAdd, Nat.reduceLeDiff]); try rfl), (by (simp (disch := omega) only [go_sem, ↓reduceIte, Nat.reduceEqDiff, Nat.reduceAdd, Nat.reduceLeDiff]); try rfl)⟩
  rintro d ⟨env, loc⟩ st' ⟨j, hd, hj, hext, e5, e0, e1⟩
  simp only at e5 e0 e1
  have hlen2 : lenE Try.prog 40 s = some (.int .i64 xs.length) := hlen
  by_cases hlt : j < xs.length
  · have c1 : decide ((j : Int) < (xs.length : Int)) = true := by simpa using hlt
    have hi := idxOk hlt
    have htk : xs.take (j + 1) = xs.take j ++ [xs[j]] := List.take_succ_eq_append_getElem hlt
    have hdr : xs.drop j = xs[j] :: xs.drop (j + 1) := List.drop_eq_getElem_cons hlt
    have hml : (T.mkL (xs.take j) k).1.length = j := by rw [T.mkL_len]; simp; omega
    generalize hkj : (T.mkL (xs.take j) k).2 = kj at e1
    have hap := T.mkL_app (xs.take j) (xs.drop j) k
    rw [List.take_append_drop, hkj, hdr] at hap
    have hxm : xs[j] ∈ xs := List.getElem_mem hlt
    revert hxm
    cases hxj : xs[j] with | mk k0 n0 nm args => ?_
    intro hxm
    rw [hxj] at hap htk
    have hmk : ((T.mk k0 n0 nm args).mk1 kj) = (.mk kj (kj + 1 : Nat) (mtext (kj + 2)) (T.mkL args (kj + 3)).1, (T.mkL args (kj + 3)).2) := rfl
    simp only [T.mkL, hmk] at hap
    have hkb : (T.mkL args (kj + 3)).2 ≤ 4611686018427380000 := by
      have h1 := T.mkL_ge (xs.drop (j + 1)) (T.mkL args (kj + 3)).2
      rw [hap] at hk
      omega
    have hkg := T.mkL_ge args (kj + 3)
    have hnx : (T.mkL (xs.take (j + 1)) k).2 = (T.mkL args (kj + 3)).2 := by
      rw [htk, T.mkL_app, hkj]; rfl
    have hat : (T.mkL xs k).1[j]? = some (.mk kj (kj + 1 : Nat) (mtext (kj + 2)) (T.mkL args (kj + 3)).1) := by
      rw [hap, List.getElem?_append_right (by omega), hml, Nat.sub_self]; rfl
    obtain ⟨i, o, c, cs, rfl, hcl, hE, hcs⟩ := row_at hr hat
    obtain ⟨s', rfl, hr'⟩ := hE.open
    rw [T.mkL_len] at hlen2 e0
    have q0 := cell_ext hext (hcs 0 _ rfl)
    have q1 := cell_ext hext (hcs 1 _ rfl)
    have q2 := cell_ext hext (hcs 2 _ rfl)
    have w1 : IntKind.i64.wrap ((kj : Int) + 1) = ((kj + 1 : Nat) : Int) := by rw [wrap_in (by omega) (by omega)]; rfl
    have w2 : IntKind.i64.wrap (((kj + 1 : Nat) : Int) + 1) = ((kj + 2 : Nat) : Int) := by rw [wrap_in (by omega) (by omega)]; omega
    have w3 : IntKind.i64.wrap (((kj + 2 : Nat) : Int) + 1) = ((kj + 3 : Nat) : Int) := by rw [wrap_in (by omega) (by omega)]; omega
    have d1 : ∀ x : Int, decide (x ≠ x) = false := fun x => by simp
    rw [Nat.add_zero] at q0
    repeat (first | (refine W_reg rfl fun G K hG hK => ?_; simp (disch := omega) only [go_sem, ↓reduceIte, Nat.reduceEqDiff, Nat.reduceAdd, Nat.reduceLeDiff, hG, e5, e0, e1, hlen2, c1, idxA, Int.toNat_natCast, hi, q0, q1, w1, w2, d1, ag3]; refine hK _ _ ?_; clear hK K hG G) | (refine W_end rfl fun G K hG hK => ?_; simp (disch := omega) only [go_sem, ↓reduceIte, Nat.reduceEqDiff, Nat.reduceAdd, Nat.reduceLeDiff, hG, e5, e0, e1, hlen2, c1, idxA, Int.toNat_natCast, hi, q0, q1, w1, w2, d1, ag3]; refine hK _ _ ?_; clear hK K hG G; repeat (first | refine thenI ?_ | refine thenE ?_ | refine thenR ?_ | refine inBI ?_ | refine inBR ?_ | refine inBS ?_ | refine inBN (by decide) ?_)) | refine W_seqS ?_ | refine W_seqC ?_ | refine W_seqB ?_ | refine W_block ?_ | (refine W_skip ?_; repeat (first | refine thenI ?_ | refine thenE ?_ | refine thenR ?_ | refine inBI ?_ | refine inBR ?_ | refine inBS ?_ | refine inBN (by decide) ?_)) | (refine W_condT ?hc ?_; (case hc => (simp (disch := omega) only [go_sem, ↓reduceIte, Nat.reduceEqDiff, Nat.reduceAdd, Nat.reduceLeDiff, e5, e0, e1, hlen2, c1, idxA, Int.toNat_natCast, hi, q0, q1, w1, w2, d1, ag3]; done))) | (refine W_condF ?hc ?_; (case hc => (simp (disch := omega) only [go_sem, ↓reduceIte, Nat.reduceEqDiff, Nat.reduceAdd, Nat.reduceLeDiff, e5, e0, e1, hlen2, c1, idxA, Int.toNat_natCast, hi, q0, q1, w1, w2, d1, ag3]; done))))
    (repeat (first | refine W_seqS ?_ | refine W_seqC ?_ | refine W_seqB ?_ | refine W_block ?_)); refine W_regD mixed [] [(0,false),(1,false),(2,false),(3,false),(4,false),(5,false),(6,true),(7,false)] rfl (by decide +kernel) fun G K hG hK => ?_; simp only [pickOps, List.filterMap_cons, List.filterMap_nil, List.getElem?_cons_zero, List.getElem?_cons_succ, Option.map_some]; simp (disch := omega) only [go_sem, ↓reduceIte, Nat.reduceEqDiff, Nat.reduceAdd, Nat.reduceLeDiff, hG, e5, e0, e1, w1, w2, hi, q2, ag9, idxA, Int.toNat_natCast]
    refine w_call (markText_ok (kj + 2) st' (by omega)) (by simp (disch := omega) only [go_sem, ↓reduceIte, Nat.reduceEqDiff]) ?hl ?_
    case hl => first | rfl | (simp only [go_sem, List.all_cons, List.all_nil, Bool.not_false, Bool.and_self]; done)
    rintro r_ s_ ⟨hx, rfl⟩; refine ⟨fun e => hx, ?_⟩
    have d2 : ∀ x : ByteArray, decide (x ≠ x) = false := fun x => by simp
    simp (disch := omega) only [go_sem, ↓reduceIte, Nat.reduceEqDiff, Nat.reduceAdd, Nat.reduceLeDiff, hG, d2]; refine hK _ _ ?_; clear hK K hG G; repeat (first | refine thenI ?_ | refine thenE ?_ | refine thenR ?_ | refine inBI ?_ | refine inBR ?_ | refine inBS ?_ | refine inBN (by decide) ?_)
    have q3 := cell_ext (hext.trans hx) (hcs 3 _ rfl)
    repeat (first | (refine W_reg rfl fun G K hG hK => ?_; simp (disch := omega) only [go_sem, ↓reduceIte, Nat.reduceEqDiff, Nat.reduceAdd, Nat.reduceLeDiff, hG, w3, ag9]; refine hK _ _ ?_; clear hK K hG G) | (refine W_end rfl fun G K hG hK => ?_; simp (disch := omega) only [go_sem, ↓reduceIte, Nat.reduceEqDiff, Nat.reduceAdd, Nat.reduceLeDiff, hG, w3, ag9]; refine hK _ _ ?_; clear hK K hG G; repeat (first | refine thenI ?_ | refine thenE ?_ | refine thenR ?_ | refine inBI ?_ | refine inBR ?_ | refine inBS ?_ | refine inBN (by decide) ?_)) | refine W_seqS ?_ | refine W_seqC ?_ | refine W_seqB ?_ | refine W_block ?_ | (refine W_skip ?_; repeat (first | refine thenI ?_ | refine thenE ?_ | refine thenR ?_ | refine inBI ?_ | refine inBR ?_ | refine inBS ?_ | refine inBN (by decide) ?_)) | (refine W_condT ?hc ?_; (case hc => (simp (disch := omega) only [go_sem, ↓reduceIte, Nat.reduceEqDiff, Nat.reduceAdd, Nat.reduceLeDiff, w3, ag9]; done))) | (refine W_condF ?hc ?_; (case hc => (simp (disch := omega) only [go_sem, ↓reduceIte, Nat.reduceEqDiff, Nat.reduceAdd, Nat.reduceLeDiff, w3, ag9]; done))))
    (repeat (first | refine W_seqS ?_ | refine W_seqC ?_ | refine W_seqB ?_ | refine W_block ?_)); refine W_reg rfl fun G K hG hK => ?_; simp (disch := omega) only [go_sem, ↓reduceIte, Nat.reduceEqDiff, Nat.reduceAdd, Nat.reduceLeDiff, hG, e5, e0, e1, hi, q3, ag40, idxA, Int.toNat_natCast]
    have hr3 : Row (Enc s_) 4 s_ (T.mkL args (kj + 3)).1 s' := hr'.mono (hext.trans hx) fun x _ cs he => Enc.ext (hext.trans hx) _ _ he
    have n1 := hr3.notLoc.1
    refine w_call (ih k0 n0 nm args hxm s_ s' (kj + 3) hkb hr3) (by simp (disch := omega) only [go_sem, ↓reduceIte, Nat.reduceEqDiff, n1]) ?hl ?_
    case hl => first | rfl | (simp only [go_sem, List.all_cons, List.all_nil, Bool.not_false, Bool.and_self, n1]; done)
    rintro r_ s_ ⟨hx2, rfl⟩; refine ⟨fun e => (by cases e), ?_⟩
    simp (disch := omega) only [go_sem, ↓reduceIte, Nat.reduceEqDiff, Nat.reduceAdd, Nat.reduceLeDiff, hG]; refine hK _ _ ?_; clear hK K hG G; repeat (first | refine thenI ?_ | refine thenE ?_ | refine thenR ?_ | refine inBI ?_ | refine inBR ?_ | refine inBS ?_ | refine inBN (by decide) ?_)
    have d3 : decide (((T.mkL args (kj + 3)).2 : Int) < 0) = false := by simp
    repeat (first | (refine W_reg rfl fun G K hG hK => ?_; simp (disch := omega) only [go_sem, ↓reduceIte, Nat.reduceEqDiff, Nat.reduceAdd, Nat.reduceLeDiff, hG, d3, e5]; refine hK _ _ ?_; clear hK K hG G) | (refine W_end rfl fun G K hG hK => ?_; simp (disch := omega) only [go_sem, ↓reduceIte, Nat.reduceEqDiff, Nat.reduceAdd, Nat.reduceLeDiff, hG, d3, e5]; refine hK _ _ ?_; clear hK K hG G; repeat (first | refine thenI ?_ | refine thenE ?_ | refine thenR ?_ | refine inBI ?_ | refine inBR ?_ | refine inBS ?_ | refine inBN (by decide) ?_)) | refine W_seqS ?_ | refine W_seqC ?_ | refine W_seqB ?_ | refine W_block ?_ | (refine W_skip ?_; repeat (first | refine thenI ?_ | refine thenE ?_ | refine thenR ?_ | refine inBI ?_ | refine inBR ?_ | refine inBS ?_ | refine inBN (by decide) ?_)) | (refine W_condT ?hc ?_; (case hc => (simp (disch := omega) only [go_sem, ↓reduceIte, Nat.reduceEqDiff, Nat.reduceAdd, Nat.reduceLeDiff, d3, e5]; done))) | (refine W_condF ?hc ?_; (case hc => (simp (disch := omega) only [go_sem, ↓reduceIte, Nat.reduceEqDiff, Nat.reduceAdd, Nat.reduceLeDiff, d3, e5]; done))))
    refine ⟨xs.length - (j + 1), by omega, j + 1, rfl, by omega, (hext.trans hx).trans hx2, (by (simp (disch := omega) only [go_sem, ↓reduceIte, Nat.reduceEqDiff, Nat.reduceAdd, Nat.reduceLeDiff]); try rfl), (by (simp (disch := omega) only [go_sem, ↓reduceIte, Nat.reduceEqDiff, Nat.reduceAdd, Nat.reduceLeDiff, e0, T.mkL_len]); try rfl), ?_⟩
    rw [hnx]; simp (disch := omega) only [go_sem, ↓reduceIte, Nat.reduceEqDiff, Nat.reduceAdd, Nat.reduceLeDiff]
  · have c1 : decide ((j : Int) < (xs.length : Int)) = false := by simpa using hlt
    have hjn : j = xs.length := by omega
    subst hjn
    rw [List.take_length] at e1
    repeat (first | (refine W_reg rfl fun G K hG hK => ?_; simp (disch := omega) only [go_sem, ↓reduceIte, Nat.reduceEqDiff, Nat.reduceAdd, Nat.reduceLeDiff, hG, e5, e0, e1, hlen2, c1]; refine hK _ _ ?_; clear hK K hG G) | (refine W_end rfl fun G K hG hK => ?_; simp (disch := omega) only [go_sem, ↓reduceIte, Nat.reduceEqDiff, Nat.reduceAdd, Nat.reduceLeDiff, hG, e5, e0, e1, hlen2, c1]; refine hK _ _ ?_; clear hK K hG G; repeat (first | refine thenI ?_ | refine thenE ?_ | refine thenR ?_ | refine inBI ?_ | refine inBR ?_ | refine inBS ?_ | refine inBN (by decide) ?_)) | refine W_seqS ?_ | refine W_seqC ?_ | refine W_seqB ?_ | refine W_block ?_ | (refine W_skip ?_; repeat (first | refine thenI ?_ | refine thenE ?_ | refine thenR ?_ | refine inBI ?_ | refine inBR ?_ | refine inBS ?_ | refine inBN (by decide) ?_)) | (refine W_condT ?hc ?_; (case hc => (simp (disch := omega) only [go_sem, ↓reduceIte, Nat.reduceEqDiff, Nat.reduceAdd, Nat.reduceLeDiff, e5, e0, e1, hlen2, c1]; done))) | (refine W_condF ?hc ?_; (case hc => (simp (disch := omega) only [go_sem, ↓reduceIte, Nat.reduceEqDiff, Nat.reduceAdd, Nat.reduceLeDiff, e5, e0, e1, hlen2, c1]; done))))
    refine W_exit ?_; repeat (first | refine thenI ?_ | refine thenE ?_ | refine thenR ?_ | refine inBI ?_ | refine inBR ?_ | refine inBS ?_ | refine inBN (by decide) ?_)
    repeat (first | (refine W_reg rfl fun G K hG hK => ?_; simp (disch := omega) only [go_sem, ↓reduceIte, Nat.reduceEqDiff, Nat.reduceAdd, Nat.reduceLeDiff, hG, e1]; refine hK _ _ ?_; clear hK K hG G) | (refine W_end rfl fun G K hG hK => ?_; simp (disch := omega) only [go_sem, ↓reduceIte, Nat.reduceEqDiff, Nat.reduceAdd, Nat.reduceLeDiff, hG, e1]; refine hK _ _ ?_; clear hK K hG G; repeat (first | refine thenI ?_ | refine thenE ?_ | refine thenR ?_ | refine inBI ?_ | refine inBR ?_ | refine inBS ?_ | refine inBN (by decide) ?_)) | refine W_seqS ?_ | refine W_seqC ?_ | refine W_seqB ?_ | refine W_block ?_ | (refine W_skip ?_; repeat (first | refine thenI ?_ | refine thenE ?_ | refine thenR ?_ | refine inBI ?_ | refine inBR ?_ | refine inBS ?_ | refine inBN (by decide) ?_)) | (refine W_condT ?hc ?_; (case hc => (simp (disch := omega) only [go_sem, ↓reduceIte, Nat.reduceEqDiff, Nat.reduceAdd, Nat.reduceLeDiff, e1]; done))) | (refine W_condF ?hc ?_; (case hc => (simp (disch := omega) only [go_sem, ↓reduceIte, Nat.reduceEqDiff, Nat.reduceAdd, Nat.reduceLeDiff, e1]; done))))
    refine W_ret ?_; try (repeat (first | refine thenI ?_ | refine thenE ?_ | refine thenR ?_ | refine inBI ?_ | refine inBR ?_ | refine inBS ?_ | refine inBN (by decide) ?_))
    refine fin1 (.inl rfl) (by (simp (disch := omega) only [go_sem, ↓reduceIte, Nat.reduceEqDiff, Nat.reduceAdd, Nat.reduceLeDiff, e1]); try rfl) rfl ⟨hext, rfl⟩

theorem heldTermS_ok : ∀ (t : T) (k0 n0 : Int) (nm : ByteArray) (xs : List T) (st : St) (s : Value) (k : Nat), t = .mk k0 n0 nm xs → Lim 1073741824 t → (T.mkL xs k).2 ≤ 4611686018427380000 → Row (Enc st) 4 st (T.mkL xs k).1 s →
      CallS Try.prog 24 [s, .int .i64 k] st fun r st2 => Ext st st2 ∧ r = .int .i64 (T.mkL xs k).2 := by
  refine T.ind fun k1 n1 nm1 args ih k0 n0 nm xs st s k he hl hk hr => ?_
  cases he
  exact heldTermS_of args st s k hl.args.1 hk hr fun k2 n2 nm2 args2 hm st' s' k' hk' hr' => ih _ hm k2 n2 nm2 args2 st' s' k' rfl (hl.args.2 _ hm) hk' hr'

end Go.Proofs.Ytandemllbnapmaa.AM
