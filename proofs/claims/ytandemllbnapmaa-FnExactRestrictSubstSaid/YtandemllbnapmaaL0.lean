/- What the laws of terms share. -/
import Derived.Test.YtandemllbnapmaaB1
import Derived.Test.YtandemllbnapmaaM2
import Derived.Test.YtandemllbnapmaaE1
import Derived.Test.YtandemllbnapmaaDT
namespace Go.Proofs.Ytandemllbnapmaa.AM
open Go Go.Proofs
set_option linter.unusedVariables false
set_option linter.unusedSimpArgs false
set_option maxRecDepth 100000
attribute [local go_sem] List.map_cons List.map_nil List.all_cons List.all_nil Bool.and_self Option.map_some List.getElem?_toArray Option.bind_some gye_b gye_t gsk_b gsk_t gb1 gb2 gb3 gb4 bne_self_eq_false beq_self_eq_true w_guard w_nil stepV_some step_some step_some' w_move w_assign w_pick w_binOp w_unOp w_load w_fieldAddr w_indexAddr w_len w_box w_alloc w_store w_field w_extract w_nilCheck w_convert w_buildSlice w_build ev_buildL fillL_nil fillL_cons bs0 bs1 ev_conv ev_bin ev_un ev_pick ev_load ev_fieldAddr ev_indexAddr ev_len ev_field ev_extract ev_nilCheck fr_tmp fr_int fr_bool fr_str fr_nil fr_func put_some put_none bin_lss bin_leq bin_gtr bin_geq bin_eql bin_neq bin_add bin_sub bin_mul bin_seql bin_sneq un_not pick_ ext_ loadA_p cellAt_l cellAt_h okPtr_l okPtr_h fadA_p allocA_l storeA_l cells_agg cells_int cells_str cells_sl cells_bool flat_i flat_s flat_b flat_sl flat_nil loc_agg loc_int loc_str loc_sl loc_bool loc_fn loc_ptr okv_agg okv_int okv_str okv_sl okv_bool cellsFrom splice upd_eval argEnv_zero argEnv_succ ne_eq Nat.add_one_ne_zero not_false_eq_true List.not_mem_nil and_self decide_true List.getElem?_cons_zero List.getElem?_cons_succ List.size_toArray List.length_cons List.length_nil List.take_succ_cons List.take_zero List.drop_succ_cons List.drop_zero List.cons_append List.nil_append List.drop_nil Bool.not_true Bool.not_false Bool.false_eq_true Nat.zero_add Nat.add_zero wrap_in List.toList_toArray List.mem_cons or_self or_false false_or
attribute [local go_sem] ag3 ag35 ag37 ag39 ag40 ag42 ag46 ag77 ag9 bu42 bu46 by42 by46 by9 el22 el23 el26 el35 el40 el57 of37_0 of37_1 of37_2 of37_3 of39_0 of39_1 of42_0 of42_1 of42_2 of42_3 of46_0 of46_1 ro42_0 ro42_1 ro46_0 ro46_1 ro5_1 ro9_0 ro9_1 sz3 sz35 sz37 sz39 sz40 sz42 sz46 sz5 sz77 sz9 ze3 ze42 ze46 ze77 ze9

theorem Own.ext {e : TypeId} {st st' : St} {t : T} {cs : List Value} {L : List Nat} (h : Own e st t cs L) (hx : Ext st st') : Own e st' t cs L := Own.frame _ _ _ (fun i hi => hx.get (Own.lt _ _ _ h i hi)) h
theorem Own.other {e : TypeId} {st st' : St} {t : T} {cs : List Value} {L K : List Nat} (h : Own e st t cs L) (hot : ∀ i, i < st.length → i ∉ K → st'[i]? = st[i]?) (hd : ∀ i ∈ L, i ∉ K) : Own e st' t cs L := Own.frame _ _ _ (fun i hi => hot i (Own.lt _ _ _ h i hi) (hd i hi)) h
theorem Own.apart {e : TypeId} {st : St} {t : T} {cs : List Value} {L K : List Nat} (h : Own e st t cs L) (hf : Fresh st.length K) : ∀ i ∈ L, i ∉ K := fun i hi hk => by
  have h1 := Own.lt _ _ _ h i hi
  have h2 := hf.2 i hk
  omega
theorem Enc.other {st st' : St} {K : List Nat} {n : Nat} (hK : ∀ i ∈ K, n ≤ i) (hot : ∀ i, i < st.length → i ∉ K → st'[i]? = st[i]?) {st0 : St} (hn : st0.length ≤ n) (hx : Ext st0 st) (t : T) (cs : List Value) (h : Enc st0 t cs) : Enc st' t cs :=
  Enc.ext (Ext.of_get fun i hi => by
    have := hx.length
    rw [hot i (by omega) (fun hm => by have := hK i hm; omega), hx.get hi]) t cs h
theorem Ext.other {st st' : St} {K : List Nat} {n : Nat} (hK : ∀ i ∈ K, n ≤ i) (hot : ∀ i, i < st.length → i ∉ K → st'[i]? = st[i]?) {st0 : St} (hn : st0.length ≤ n) (hx : Ext st0 st) : Ext st0 st' :=
  Ext.of_get fun i hi => by
    have := hx.length
    rw [hot i (by omega) (fun hm => by have := hK i hm; omega), hx.get hi]
theorem Lim.le {B C : Nat} (hb : B ≤ C) : ∀ t : T, Lim B t → Lim C t := by
  refine T.ind fun k n nm args ih h => ?_
  exact .mk _ _ _ _ (by have := h.args.1; omega) fun a ha => ih a ha (h.args.2 a ha)
theorem T.mkL_wt : ∀ (xs : List T) (k : Nat), (∀ x ∈ xs, ∀ k, (x.mk1 k).2 ≤ k + 3 + 3 * x.wt) → (T.mkL xs k).2 ≤ k + 3 * xs.length + 3 * T.wtL xs := by
  intro xs
  induction xs with
  | nil => intro k _; simp [T.mkL, T.wtL]
  | cons x xs ih =>
    intro k h
    have h1 := h x (by simp) k
    have h2 := ih (x.mk1 k).2 (fun y hy => h y (by simp [hy]))
    simp only [T.mkL, T.wtL, List.length_cons]
    omega
theorem T.mk1_wt : ∀ (t : T) (k : Nat), (t.mk1 k).2 ≤ k + 3 + 3 * t.wt := by
  refine T.ind fun k0 n nm args ih k => ?_
  have h := T.mkL_wt args (k + 3) ih
  simp only [T.mk1, T.wt]
  omega
theorem T.mk0_wt (t : T) (k : Nat) : (t.mk0 k).2 ≤ k + 3 * t.wt := by
  obtain ⟨k0, n, nm, args⟩ := t
  have h := T.mkL_wt args k (fun x _ k => T.mk1_wt x k)
  simp only [T.mk0, T.wt]
  omega
theorem T.mk0_ge (t : T) (k : Nat) : k ≤ (t.mk0 k).2 := by
  obtain ⟨k0, n, nm, args⟩ := t
  exact T.mkL_ge args k
end Go.Proofs.Ytandemllbnapmaa.AM
