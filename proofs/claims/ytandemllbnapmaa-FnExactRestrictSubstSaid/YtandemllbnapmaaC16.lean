/- Terms are matched: impl.match, spec.l8Match. -/
import Derived.Test.YtandemllbnapmaaC13
import Derived.Test.YtandemllbnapmaaC15
namespace Go.Proofs.Ytandemllbnapmaa.AM
open Go Go.Proofs
set_option linter.unusedVariables false
set_option linter.unusedSimpArgs false
set_option maxRecDepth 100000
attribute [local go_sem] List.map_cons List.map_nil List.all_cons List.all_nil Bool.and_self Option.map_some List.getElem?_toArray Option.bind_some gye_b gye_t gsk_b gsk_t gb1 gb2 gb3 gb4 bne_self_eq_false beq_self_eq_true w_guard w_nil stepV_some step_some step_some' w_move w_assign w_pick w_binOp w_unOp w_load w_fieldAddr w_indexAddr w_len w_box w_alloc w_store w_field w_extract w_nilCheck w_convert w_buildSlice w_build ev_buildL fillL_nil fillL_cons bs0 bs1 ev_conv ev_bin ev_un ev_pick ev_load ev_fieldAddr ev_indexAddr ev_len ev_field ev_extract ev_nilCheck fr_tmp fr_int fr_bool fr_str fr_nil fr_func put_some put_none bin_lss bin_leq bin_gtr bin_geq bin_eql bin_neq bin_add bin_sub bin_mul bin_seql bin_sneq un_not pick_ ext_ loadA_p cellAt_l cellAt_h okPtr_l okPtr_h fadA_p allocA_l storeA_l cells_agg cells_int cells_str cells_sl cells_bool flat_i flat_s flat_b flat_sl flat_nil loc_agg loc_int loc_str loc_sl loc_bool loc_fn loc_ptr okv_agg okv_int okv_str okv_sl okv_bool cellsFrom splice upd_eval argEnv_zero argEnv_succ ne_eq Nat.add_one_ne_zero not_false_eq_true List.not_mem_nil and_self decide_true List.getElem?_cons_zero List.getElem?_cons_succ List.size_toArray List.length_cons List.length_nil List.take_succ_cons List.take_zero List.drop_succ_cons List.drop_zero List.cons_append List.nil_append List.drop_nil Bool.not_true Bool.not_false Bool.false_eq_true Nat.zero_add Nat.add_zero wrap_in List.toList_toArray List.mem_cons or_self or_false false_or
attribute [local go_sem] ag3 ag35 ag37 ag39 ag40 ag42 ag46 ag77 ag9 bu42 bu46 by42 by46 by9 el22 el23 el26 el35 el40 el57 of37_0 of37_1 of37_2 of37_3 of39_0 of39_1 of42_0 of42_1 of42_2 of42_3 of46_0 of46_1 ro42_0 ro42_1 ro46_0 ro46_1 ro5_1 ro9_0 ro9_1 sz3 sz35 sz37 sz39 sz40 sz42 sz46 sz5 sz77 sz9 ze3 ze42 ze46 ze77 ze9
-- AUTO

mutual
def T.matF : T → T → List Bnd → Option (List Bnd)
  | .mk k n nm ps, .mk k' n' nm' ts, l => if (k == 1) = true then (if (findB nm l).isSome = true then (if T.eqv (findD nm l) (.mk k' n' nm' ts) = true then some l else none) else some (l ++ [⟨nm, .mk k' n' nm' ts⟩]))
    else if ((k == k') && ((n == n') && ((nm.toList == nm'.toList) && (ps.length == ts.length)))) = true then T.matL ps ts l else none
def T.matL : List T → List T → List Bnd → Option (List Bnd)
  | p :: ps, t :: ts, l => match T.matF p t l with
    | some l' => T.matL ps ts l'
    | none => none
  | [], _, l => some l
  | _ :: _, [], l => some l
end
theorem T.matF_var {k n k' n' : Int} {nm nm' : ByteArray} {ps ts : List T} {l : List Bnd} (h : (k == 1) = true) : T.matF (.mk k n nm ps) (.mk k' n' nm' ts) l = if (findB nm l).isSome = true then (if T.eqv (findD nm l) (.mk k' n' nm' ts) = true then some l else none) else some (l ++ [⟨nm, .mk k' n' nm' ts⟩]) := by
  simp only [T.matF, h, if_true]
theorem T.matF_app {k n k' n' : Int} {nm nm' : ByteArray} {ps ts : List T} {l : List Bnd} (h : (k == 1) = false) : T.matF (.mk k n nm ps) (.mk k' n' nm' ts) l = if ((k == k') && ((n == n') && ((nm.toList == nm'.toList) && (ps.length == ts.length)))) = true then T.matL ps ts l else none := by
  simp only [T.matF, h, Bool.false_eq_true, if_false]
/-- What a match yields: no longer than this, its terms within the limits. -/
theorem T.matF_ok : ∀ (p t : T) (l l' : List Bnd), T.matF p t l = some l' → Lim 1073741824 t → (∀ b ∈ l, Lim 1073741824 b.tm) → l'.length ≤ l.length + p.wt + 1 ∧ ∀ b ∈ l', Lim 1073741824 b.tm := by
  refine T.ind fun k n nm ps ih t l l' h ht hl => ?_
  obtain ⟨k', n', nm', ts⟩ := t
  cases hk : (k == 1) with
  | true =>
    rw [T.matF_var hk] at h
    split at h
    · split at h
      · cases h; exact ⟨by omega, hl⟩
      · cases h
    · cases h
      refine ⟨by simp, fun b hb => ?_⟩
      rcases List.mem_append.1 hb with hb | hb
      · exact hl b hb
      · cases List.mem_singleton.1 hb; exact ht
  | false =>
    rw [T.matF_app hk] at h
    split at h
    · have hL : ∀ (qs : List T), (∀ q ∈ qs, ∀ t l l', T.matF q t l = some l' → Lim 1073741824 t → (∀ b ∈ l, Lim 1073741824 b.tm) → l'.length ≤ l.length + q.wt + 1 ∧ ∀ b ∈ l', Lim 1073741824 b.tm) →
          ∀ us l l', T.matL qs us l = some l' → (∀ u ∈ us, Lim 1073741824 u) → (∀ b ∈ l, Lim 1073741824 b.tm) → l'.length ≤ l.length + T.wtL qs + qs.length ∧ ∀ b ∈ l', Lim 1073741824 b.tm := by
        intro qs
        induction qs with
        | nil => intro _ us l l' h _ hl; simp only [T.matL, Option.some.injEq] at h; subst h; exact ⟨by omega, hl⟩
        | cons q qs ihq =>
          intro hq us l l' h hu hl
          cases us with
          | nil => simp only [T.matL, Option.some.injEq] at h; subst h; exact ⟨by omega, hl⟩
          | cons u us =>
            simp only [T.matL] at h
            cases hm : T.matF q u l with
            | none => rw [hm] at h; cases h
            | some l1 =>
              rw [hm] at h
              obtain ⟨h1, h2⟩ := hq q (by simp) u l l1 hm (hu u (by simp)) hl
              obtain ⟨h3, h4⟩ := ihq (fun q' hq' => hq q' (by simp [hq'])) us l1 l' h (fun u' hu' => hu u' (by simp [hu'])) h2
              refine ⟨?_, h4⟩
              simp only [T.wtL, List.length_cons]
              omega
      obtain ⟨h1, h2⟩ := hL ps ih ts l l' h ht.args.2 hl
      refine ⟨?_, h2⟩
      simp only [T.wt]
      omega
    · cases h

/-- A row of bindings that are read, in a block of its own. -/
abbrev ShB (s0 st : St) (xs : List Bnd) (s : Value) (L : List Nat) : Prop := SliceO (Shr (EncB s0)) 46 st xs s L
theorem ShB.row {s0 st : St} {xs : List Bnd} {s : Value} {L : List Nat} (h : ShB s0 st xs s L) (hx : Ext s0 st) : Rw st xs s :=
  SliceO.row (fun x cx Lx he => Kind.enc_len (α := Bnd) s0 x cx he.1) (fun x _ cx Lx he => Kind.enc_ext (α := Bnd) _ _ x cx hx he.1) h
theorem ShB.push {s0 st st2 : St} {n0 : Nat} {xs : List Bnd} {s : Value} {L : List Nat} {x : Bnd} {cx : List Value} (h : ShB s0 st xs s L) (hf : Fresh n0 L) (hn0 : n0 ≤ st.length) (hext : Ext st st2) (hx : EncB s0 x cx) (hbd : xs.length + 1 ≤ 274877906944) :
    ∃ s' st' L', appendA Try.prog 26 26 s (.slice (some ⟨st2.length, 0, none⟩) 1 1) (st2 ++ [⟨cx, 46, 0⟩]) = some (s', st') ∧ ShB s0 st' (xs ++ [x]) s' L' ∧ Fresh n0 L' ∧ Grow st s st' s' := by
  obtain ⟨s', st', L', h1, h2, h3, h4⟩ := SliceO.app (E := fun _ => Shr (EncB s0)) (fun _ _ _ _ _ _ h => h) (fun _ _ _ _ h => by rw [h.2]; simp) (sz := 4) (fun _ x cx _ h => Kind.enc_len (α := Bnd) s0 x cx h.1) (ys := [x]) (K := []) (u := 26) (t := 26) Try.underlying26 sz46 by46 ze46 rfl h hf hn0 (hext.trans (Ext.app _ [⟨cx, 46, 0⟩])) (newsA_1 Try.underlying26 (Kind.enc_len (α := Bnd) s0 x cx hx)) (RowO.one ⟨hx, rfl⟩) ⟨by simp, by simp⟩ (by simp; omega) (by simp; omega)
  exact ⟨s', st', L', h1, h2, h3, (Grow.of_ext (hext.trans (Ext.app _ _)) s).trans h4⟩

/-- What a match comes to, in the program's and in the reference's memory. -/
def MatQ (O : St → List Bnd → Value → List Nat → Prop) (s0 : St) (m : Option (List Bnd)) (r : Value) (st2 : St) : Prop := Ext s0 st2 ∧ match m with
  | some l' => ∃ s' L', r = .tuple #[s', .bool true] ∧ O st2 l' s' L' ∧ Fresh s0.length L'
  | none => ∃ v, isLoc v = false ∧ r = .tuple #[v, .bool false]

end Go.Proofs.Ytandemllbnapmaa.AM
