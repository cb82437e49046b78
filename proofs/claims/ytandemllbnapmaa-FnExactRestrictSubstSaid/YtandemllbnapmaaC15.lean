/- Terms are compared: impl.EqualTerm, spec.EqualTerm. -/
import Derived.Test.YtandemllbnapmaaDT
import Derived.Laws.Strings
namespace Go.Proofs.Ytandemllbnapmaa.AM
open Go Go.Proofs
set_option linter.unusedVariables false
set_option linter.unusedSimpArgs false
set_option maxRecDepth 100000
attribute [local go_sem] List.map_cons List.map_nil List.all_cons List.all_nil Bool.and_self Option.map_some List.getElem?_toArray Option.bind_some gye_b gye_t gsk_b gsk_t gb1 gb2 gb3 gb4 bne_self_eq_false beq_self_eq_true w_guard w_nil stepV_some step_some step_some' w_move w_assign w_pick w_binOp w_unOp w_load w_fieldAddr w_indexAddr w_len w_box w_alloc w_store w_field w_extract w_nilCheck w_convert w_buildSlice w_build ev_buildL fillL_nil fillL_cons bs0 bs1 ev_conv ev_bin ev_un ev_pick ev_load ev_fieldAddr ev_indexAddr ev_len ev_field ev_extract ev_nilCheck fr_tmp fr_int fr_bool fr_str fr_nil fr_func put_some put_none bin_lss bin_leq bin_gtr bin_geq bin_eql bin_neq bin_add bin_sub bin_mul bin_seql bin_sneq un_not pick_ ext_ loadA_p cellAt_l cellAt_h okPtr_l okPtr_h fadA_p allocA_l storeA_l cells_agg cells_int cells_str cells_sl cells_bool flat_i flat_s flat_b flat_sl flat_nil loc_agg loc_int loc_str loc_sl loc_bool loc_fn loc_ptr okv_agg okv_int okv_str okv_sl okv_bool cellsFrom splice upd_eval argEnv_zero argEnv_succ ne_eq Nat.add_one_ne_zero not_false_eq_true List.not_mem_nil and_self decide_true List.getElem?_cons_zero List.getElem?_cons_succ List.size_toArray List.length_cons List.length_nil List.take_succ_cons List.take_zero List.drop_succ_cons List.drop_zero List.cons_append List.nil_append List.drop_nil Bool.not_true Bool.not_false Bool.false_eq_true Nat.zero_add Nat.add_zero wrap_in List.toList_toArray List.mem_cons or_self or_false false_or
attribute [local go_sem] ag3 ag35 ag37 ag39 ag40 ag42 ag46 ag77 ag9 bu42 bu46 by42 by46 by9 el22 el23 el26 el35 el40 el57 of37_0 of37_1 of37_2 of37_3 of39_0 of39_1 of42_0 of42_1 of42_2 of42_3 of46_0 of46_1 ro42_0 ro42_1 ro46_0 ro46_1 ro5_1 ro9_0 ro9_1 sz3 sz35 sz37 sz39 sz40 sz42 sz46 sz5 sz77 sz9 ze3 ze42 ze46 ze77 ze9
-- AUTO

mutual
def T.eqv : T → T → Bool
  | .mk k n nm xs, .mk k' n' nm' bs => (k == k') && ((n == n') && ((nm.toList == nm'.toList) && T.eqvL xs bs))
def T.eqvL : List T → List T → Bool
  | [], [] => true
  | a :: xs, b :: bs => T.eqv a b && T.eqvL xs bs
  | _, _ => false
end
theorem T.eqvL_len : ∀ {xs bs : List T}, T.eqvL xs bs = true → xs.length = bs.length := by
  intro xs
  induction xs with
  | nil => intro bs h; cases bs with
    | nil => rfl
    | cons b bs => simp [T.eqvL] at h
  | cons a xs ih => intro bs h; cases bs with
    | nil => simp [T.eqvL] at h
    | cons b bs =>
      simp only [T.eqvL, Bool.and_eq_true] at h
      simp [ih h.2]
theorem ba_toList {a b : ByteArray} (h : (a.toList == b.toList) = true) : a = b := by
  have h1 : a.toList = b.toList := by simpa using h
  have h2 : a.data.toList = b.data.toList := by rw [← Go.ByteArray.toList_eq, ← Go.ByteArray.toList_eq]; exact h1
  exact ByteArray.ext (Array.toList_inj.1 h2)
theorem T.eqv_iff : ∀ (a b : T), T.eqv a b = true ↔ a = b := by
  refine T.ind fun k n nm xs ih b => ?_
  obtain ⟨k', n', nm', bs⟩ := b
  have hl : ∀ (l : List T), (∀ a ∈ l, ∀ b, T.eqv a b = true ↔ a = b) → ∀ m, T.eqvL l m = true ↔ l = m := by
    intro l
    induction l with
    | nil => intro _ m; cases m <;> simp [T.eqvL]
    | cons x xs ihx =>
      intro h m
      cases m with
      | nil => simp [T.eqvL]
      | cons y ys =>
        simp only [T.eqvL, Bool.and_eq_true, List.cons.injEq]
        rw [h x (by simp) y, ihx (fun a ha => h a (by simp [ha])) ys]
  simp only [T.eqv, Bool.and_eq_true, beq_iff_eq, T.mk.injEq]
  rw [hl xs ih bs]
  constructor
  · rintro ⟨h1, h2, h3, h4⟩
    exact ⟨h1, h2, ba_toList (by simpa using h3), h4⟩
  · rintro ⟨rfl, rfl, rfl, rfl⟩
    exact ⟨rfl, rfl, rfl, rfl⟩

/-- A call of a function that lies in a slot. -/
theorem w_callT {P : Program} {A H : List Tmp} {G : Nat → Option Tmp} {t0 : TypeId} {p0 : String} {af : Array Edge} {bb : Bool} {rest : List (Oper × Bool)} {K : Fr → St → Prop} {env : Nat → Value} {loc : Nat → Nat × List Value} {st : St}
    {d : Option Tmp} {f : Tmp} {g : FuncId} {args : Array Operand} {ts : Array TypeId} {Q : Value → St → Prop} {vs : List Value} (hf : env f = .func (.func g) #[] #[]) (hcall : CallS P g vs st Q) (hvs : args.toList.map (Fr.ev ⟨env, loc⟩) = vs) (hl : vs.all (fun v => !isLoc v) = true)
    (hq : ∀ r st', Q r st' → (bb = true → Ext st st') ∧ WOps P A H G rest K ⟨put env d r, loc⟩ st') : WOps P A H G ((⟨d, .call ⟨.value (.tmp f), args, ts⟩, t0, p0, af, none⟩, bb) :: rest) K ⟨env, loc⟩ st := by
  have hw : wantedA G env (⟨d, .call ⟨.value (.tmp f), args, ts⟩, t0, p0, af, none⟩ : Oper) = some true := rfl
  unfold WOps
  simp only [hw]
  show ∃ g, _
  refine ⟨g, hf, ?_, ?_⟩
  · rw [← hvs] at hl
    rw [List.all_map] at hl
    rw [← Array.all_toList]
    exact hl
  · rw [hvs]
    exact hcall.mono hq

end Go.Proofs.Ytandemllbnapmaa.AM
