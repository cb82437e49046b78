/- The marks: laws.markTermS, laws.markTerm, laws.heldTermS, laws.heldTerm. -/
import Derived.Test.YtopjbcfkaggleaaM1
namespace Go.Proofs.Ytopjbcfkaggleaa.AM
open Go Go.Proofs
set_option linter.unusedVariables false
set_option linter.unusedSimpArgs false
set_option maxRecDepth 100000
attribute [local go_sem] List.map_cons List.map_nil List.all_cons List.all_nil Bool.and_self Option.map_some List.getElem?_toArray Option.bind_some gye_b gye_t gsk_b gsk_t gb1 gb2 gb3 gb4 bne_self_eq_false beq_self_eq_true w_guard w_nil stepV_some step_some step_some' w_move w_assign w_pick w_binOp w_unOp w_load w_fieldAddr w_indexAddr w_len w_box w_alloc w_store w_field w_extract w_nilCheck w_convert w_buildSlice w_build ev_buildL fillL_nil fillL_cons bs0 bs1 ev_conv ev_bin ev_un ev_pick ev_load ev_fieldAddr ev_indexAddr ev_len ev_field ev_extract ev_nilCheck fr_tmp fr_int fr_bool fr_str fr_nil fr_func put_some put_none bin_lss bin_leq bin_gtr bin_geq bin_eql bin_neq bin_add bin_sub bin_mul bin_seql bin_sneq un_not pick_ ext_ loadA_p cellAt_l cellAt_h okPtr_l okPtr_h fadA_p allocA_l storeA_l cells_agg cells_int cells_str cells_sl cells_bool flat_i flat_s flat_b flat_sl flat_nil loc_agg loc_int loc_str loc_sl loc_bool loc_fn loc_ptr okv_agg okv_int okv_str okv_sl okv_bool cellsFrom splice upd_eval argEnv_zero argEnv_succ ne_eq Nat.add_one_ne_zero not_false_eq_true List.not_mem_nil and_self decide_true List.getElem?_cons_zero List.getElem?_cons_succ List.size_toArray List.length_cons List.length_nil List.take_succ_cons List.take_zero List.drop_succ_cons List.drop_zero List.cons_append List.nil_append List.drop_nil Bool.not_true Bool.not_false Bool.false_eq_true Nat.zero_add Nat.add_zero wrap_in List.toList_toArray List.mem_cons or_self or_false false_or
attribute [local go_sem] ag25 ag29 ag3 ag31 ag33 ag34 ag36 ag39 ag9 bu36 by36 by39 el22 el25 el29 el34 el50 of31_0 of31_1 of31_2 of31_3 of33_0 of33_1 of36_0 of36_1 of36_2 of36_3 of39_0 of39_1 ro25_2 ro36_0 ro36_1 ro39_0 sz25 sz29 sz3 sz31 sz33 sz34 sz36 sz39 sz9 ze36 ze39

mutual
def T.mk1 : T → Nat → T × Nat
  | .mk _ _ _ args, k => (.mk k (k + 1 : Nat) (mtext (k + 2)) (T.mkL args (k + 3)).1, (T.mkL args (k + 3)).2)
def T.mkL : List T → Nat → List T × Nat
  | [], k => ([], k)
  | x :: xs, k => ((x.mk1 k).1 :: (T.mkL xs (x.mk1 k).2).1, (T.mkL xs (x.mk1 k).2).2)
end
theorem T.mkL_len (xs : List T) (k : Nat) : (T.mkL xs k).1.length = xs.length := by
  induction xs generalizing k with
  | nil => rfl
  | cons x xs ih => simp only [T.mkL, List.length_cons, ih]
theorem T.mkL_app (xs ys : List T) (k : Nat) : T.mkL (xs ++ ys) k = ((T.mkL xs k).1 ++ (T.mkL ys (T.mkL xs k).2).1, (T.mkL ys (T.mkL xs k).2).2) := by
  induction xs generalizing k with
  | nil => rfl
  | cons x xs ih => simp only [List.cons_append, T.mkL, ih]
theorem T.mk1_ge : ∀ (t : T) (k : Nat), k ≤ (t.mk1 k).2 ∧ k + 3 ≤ (t.mk1 k).2 := by
  refine T.ind fun k0 n nm args ih k => ?_
  have : ∀ (l : List T), (∀ a ∈ l, ∀ k, k ≤ (a.mk1 k).2 ∧ k + 3 ≤ (a.mk1 k).2) → ∀ k, k ≤ (T.mkL l k).2 := by
    intro l
    induction l with
    | nil => intro _ k; exact Nat.le_refl _
    | cons x xs ihx =>
      intro h k
      simp only [T.mkL]
      have h1 := (h x (by simp) k).1
      have h2 := ihx (fun a ha => h a (by simp [ha])) (x.mk1 k).2
      omega
  have h := this args ih (k + 3)
  simp only [T.mk1]
  omega
theorem T.mkL_ge (l : List T) (k : Nat) : k ≤ (T.mkL l k).2 := by
  induction l generalizing k with
  | nil => exact Nat.le_refl _
  | cons x xs ih => simp only [T.mkL]; have h1 := (T.mk1_ge x k).1; have h2 := ih (x.mk1 k).2; omega

theorem store_cell {P : Program} {t e : TypeId} {i o : Nat} {c1 c2 : List Value} {x v : Value} {loc : Nat → Nat × List Value} {st : St} (hs : szA P t = some 1) (hb : st[i]? = some ⟨c1 ++ x :: c2, e, 0⟩) (ho : c1.length = o) (hok : okv v = true) (hc : vc v = #[v]) :
    storeA P t (.pointer (some ⟨i, o, none⟩)) v loc st = some (loc, st.set i ⟨c1 ++ v :: c2, e, 0⟩) := by
  subst ho
  rw [storeA_h]
  have h1 : (#[v] : Array Value).toList = [v] := rfl
  simp only [hok, if_true, hs, hb, hc, List.size_toArray, List.length_singleton, true_and, h1]
  rw [if_pos (by simp)]
  unfold AM.splice
  simp

theorem cell_mid {st : St} {i o : Nat} {c1 c2 : List Value} {x : Value} {e : TypeId} (hb : st[i]? = some ⟨c1 ++ x :: c2, e, 0⟩) (ho : c1.length = o) : cell st i o = some x := by
  subst ho
  rw [cell_of hb]; simp

theorem SliceO.at_ {st : St} {e : TypeId} {xs : List T} {s : Value} {L : List Nat} (h : SliceO (Own e st) e st xs s L) {j : Nat} {k n : Int} {nm : ByteArray} {args : List T} (hx : xs[j]? = some (.mk k n nm args)) :
    ∃ i c c1 c2 s' L1 Lx L2, s = .slice (some ⟨i, 0, none⟩) xs.length c ∧ st[i]? = some ⟨c1 ++ .int .i64 k :: .int .i64 n :: .string nm :: s' :: c2, e, 0⟩ ∧ c1.length = j * 4 ∧ RowO (Own e st) (xs.take j) c1 L1 ∧ SliceO (Own e st) e st args s' Lx ∧ RowO (Own e st) (xs.drop (j + 1)) c2 L2 ∧ L = i :: (L1 ++ Lx ++ L2) := by
  rcases h with ⟨rfl, rfl, rfl⟩ | ⟨i, c, cs, K, rfl, hb, hr, rfl⟩
  · simp at hx
  · obtain ⟨c1, cx, c2, L1, Lx, L2, h1, h2, h3, rfl, rfl⟩ := hr.split j _ hx
    obtain ⟨s', rfl, hs'⟩ := h2.open
    have hl := h1.len Own.len
    have hj : j < xs.length := (List.getElem?_eq_some_iff.1 hx).1
    refine ⟨i, c, c1, c2, s', L1, Lx, L2, rfl, by simpa using hb, by rw [hl, List.length_take, Nat.min_eq_left (by omega)], h1, hs', h3, rfl⟩

theorem RowO.frame {st st' : St} {e : TypeId} {xs : List T} {cs : List Value} {L : List Nat} (h : RowO (Own e st) xs cs L) (hs : SameOn L st st') : RowO (Own e st') xs cs L :=
  h.mono fun x _ cx Lx hL he => Own.frame x cx Lx (fun j hj => hs j (hL j hj)) he

/-- The place holds another tree, all else of the row is as it was. -/
theorem SliceO.put {st st' : St} {e : TypeId} {xs ys : List T} {i c j : Nat} {c1 c2 : List Value} {s' : Value} {L1 Lx L2 : List Nat} {k n : Int} {nm : ByteArray} {args : List T} (hj : j < xs.length) (hl1 : ys.length = j)
    (h1 : RowO (Own e st) ys c1 L1) (h2 : RowO (Own e st) (xs.drop (j + 1)) c2 L2) (hb : st'[i]? = some ⟨c1 ++ .int .i64 k :: .int .i64 n :: .string nm :: s' :: c2, e, 0⟩) (hx : SliceO (Own e st') e st' args s' Lx)
    (hs1 : SameOn L1 st st') (hs2 : SameOn L2 st st') : SliceO (Own e st') e st' (ys ++ .mk k n nm args :: xs.drop (j + 1)) (.slice (some ⟨i, 0, none⟩) xs.length c) (i :: (L1 ++ Lx ++ L2)) := by
  refine .inr ⟨i, c, _, L1 ++ Lx ++ L2, ?_, hb, ?_, rfl⟩
  · have : (ys ++ T.mk k n nm args :: xs.drop (j + 1)).length = xs.length := by simp; omega
    rw [this]
  · rw [List.append_assoc]
    exact (h1.frame hs1).app (.cons _ _ [_, _, _, _] c2 Lx L2 (Own.close k n nm hx) (h2.frame hs2))

theorem get_set_ne {st : St} {i j : Nat} {b : Blk} (h : j ≠ i) : (st.set i b)[j]? = st[j]? := by rw [List.getElem?_set, if_neg (Ne.symm h)]
theorem get_set_eq {st : St} {i : Nat} {b b0 : Blk} (h : st[i]? = some b0) : (st.set i b)[i]? = some b := by
  have := (List.getElem?_eq_some_iff.1 h).1
  rw [List.getElem?_set]; simp [this]

theorem store_at {P : Program} {t e : TypeId} {i o : Nat} {c1 c2 : List Value} {x : Value} (v : Value) {st : St} (hs : szA P t = some 1) (hb : st[i]? = some ⟨c1 ++ x :: c2, e, 0⟩) (ho : c1.length = o) (hok : okv v = true) (hc : vc v = #[v]) :
    ∃ st1, (∀ loc, storeA P t (.pointer (some ⟨i, o, none⟩)) v loc st = some (loc, st1)) ∧ st1[i]? = some ⟨c1 ++ v :: c2, e, 0⟩ ∧ st1.length = st.length ∧ ∀ j, j ≠ i → st1[j]? = st[j]? :=
  ⟨_, fun _ => store_cell hs hb ho hok hc, get_set_eq hb, by simp, fun j hj => get_set_ne hj⟩

/-- The tree whose marks stand below its root. -/
def T.mk0 : T → Nat → T × Nat
  | .mk k0 n0 nm args, k => (.mk k0 n0 nm (T.mkL args k).1, (T.mkL args k).2)

theorem T.mk1_k (t : T) (k : Nat) : ∃ args, (t.mk1 k).1 = .mk k (k + 1 : Nat) (mtext (k + 2)) (T.mkL args (k + 3)).1 ∧ (t.mk1 k).2 = (T.mkL args (k + 3)).2 ∧ ∃ k0 n0 nm, t = .mk k0 n0 nm args := by
  cases t with | mk k0 n0 nm args => exact ⟨args, rfl, rfl, k0, n0, nm, rfl⟩

end Go.Proofs.Ytopjbcfkaggleaa.AM
