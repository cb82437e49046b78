/- My texts for the law, laid together (part 3): N1 K2 N2 C17 C19 C1 PL3 PL5 PL4 C27 Q1 D5 E1 L0 C21 Q2 Q3 K4 N3 Q4. -/
import Derived.Test.YtoeibmfdafilcaaG2
import Derived.Sort.Walk0
import Derived.Shelf.Sort.Plain
import Derived.Shelf.Slices.CompactS
import Derived.Test.YtoeibmfdafilcaaA3
import Derived.ChangeOld
import Derived.ChangeArms
import Derived.DataReads
import Derived.Test.YtoeibmfdafilcaaShelf
/- Sorted lists of names, each once. -/
namespace Go.Proofs.Ytoeibmfdafilcaa.AM
open Go
set_option linter.unusedVariables false
set_option linter.unusedSimpArgs false

/-- The strings' letters. -/
def chs (xs : List ByteArray) : List (List UInt8) := xs.map (fun b => b.data.toList)
/-- .. and back. -/
def unchs (xs : List (List UInt8)) : List ByteArray := xs.map (fun l => (⟨l.toArray⟩ : ByteArray))
theorem unchs_chs (xs : List ByteArray) : unchs (chs xs) = xs := by
  unfold unchs chs
  rw [List.map_map]
  exact (List.map_congr_left (fun b _ => rfl)).trans (List.map_id xs)
theorem chs_length (xs : List ByteArray) : (chs xs).length = xs.length := by simp [chs]
theorem unchs_length (xs : List (List UInt8)) : (unchs xs).length = xs.length := by simp [unchs]
/-- The strings in their order. -/
def sortB (xs : List ByteArray) : List ByteArray := unchs ((chs xs).mergeSort fun x y => decide (x ≤ y))
/-- No string twice in a row. -/
def compS (xs : List ByteArray) : List ByteArray := unchs (Lib.compact (chs xs))
theorem compact_le (zs : List (List UInt8)) : (Lib.compact zs).length ≤ zs.length := by
  unfold Lib.compact Lib.compactUpTo
  rw [List.length_map]
  have := List.length_filter_le (Lib.keeps zs.toArray) (List.range zs.length)
  simpa using this
theorem sortB_length (xs : List ByteArray) : (sortB xs).length = xs.length := by
  unfold sortB
  rw [unchs_length, List.length_mergeSort, chs_length]
theorem lt_cases (a b : List UInt8) : a < b ∨ a = b ∨ b < a := by
  rcases List.le_total a b with h | h
  · rcases List.le_iff_lt_or_eq.1 h with h | h
    · exact .inl h
    · exact .inr (.inl h)
  · rcases List.le_iff_lt_or_eq.1 h with h | h
    · exact .inr (.inr h)
    · exact .inr (.inl h.symm)
/-- Put in its place, unless it is there. -/
def insU (e : List UInt8) : List (List UInt8) → List (List UInt8)
  | [] => [e]
  | x :: xs => if x < e then x :: insU e xs else if x = e then x :: xs else e :: x :: xs
theorem insU_mem (e : List UInt8) (l : List (List UInt8)) (y : List UInt8) : y ∈ insU e l ↔ y = e ∨ y ∈ l := by
  induction l with
  | nil => simp [insU]
  | cons x xs ih =>
    simp only [insU]
    by_cases h1 : x < e
    · rw [if_pos h1]
      simp only [List.mem_cons, ih]
      constructor
      · rintro (h | h | h)
        · exact .inr (.inl h)
        · exact .inl h
        · exact .inr (.inr h)
      · rintro (h | h | h)
        · exact .inr (.inl h)
        · exact .inl h
        · exact .inr (.inr h)
    · rw [if_neg h1]
      by_cases h2 : x = e
      · rw [if_pos h2]
        simp only [List.mem_cons]
        constructor
        · exact .inr
        · rintro (h | h)
          · exact .inl (h.trans h2.symm)
          · exact h
      · rw [if_neg h2]
        simp only [List.mem_cons]
theorem insU_strict (e : List UInt8) (l : List (List UInt8)) (h : l.Pairwise (· < ·)) : (insU e l).Pairwise (· < ·) := by
  induction l with
  | nil => simp [insU]
  | cons x xs ih =>
    obtain ⟨hx, hxs⟩ := List.pairwise_cons.1 h
    simp only [insU]
    by_cases h1 : x < e
    · rw [if_pos h1]
      refine List.pairwise_cons.2 ⟨fun y hy => ?_, ih hxs⟩
      rcases (insU_mem e xs y).1 hy with rfl | hy
      · exact h1
      · exact hx y hy
    · rw [if_neg h1]
      by_cases h2 : x = e
      · rw [if_pos h2]; exact h
      · rw [if_neg h2]
        have h3 : e < x := by
          rcases lt_cases x e with h | h | h
          · exact absurd h h1
          · exact absurd h h2
          · exact h
        refine List.pairwise_cons.2 ⟨fun y hy => ?_, h⟩
        rcases List.mem_cons.1 hy with rfl | hy
        · exact h3
        · exact List.lt_trans h3 (hx y hy)
def insAll (acc l : List (List UInt8)) : List (List UInt8) := l.foldl (fun a e => insU e a) acc
theorem insAll_mem (l : List (List UInt8)) : ∀ (acc : List (List UInt8)) (y : List UInt8), y ∈ insAll acc l ↔ y ∈ acc ∨ y ∈ l := by
  induction l with
  | nil => intro acc y; simp [insAll]
  | cons x xs ih =>
    intro acc y
    have := ih (insU x acc) y
    unfold insAll at this ⊢
    rw [List.foldl_cons, this, insU_mem, List.mem_cons]
    constructor
    · rintro ((h | h) | h)
      · exact .inr (.inl h)
      · exact .inl h
      · exact .inr (.inr h)
    · rintro (h | h | h)
      · exact .inl (.inr h)
      · exact .inl (.inl h)
      · exact .inr h
theorem insAll_strict (l : List (List UInt8)) : ∀ acc : List (List UInt8), acc.Pairwise (· < ·) → (insAll acc l).Pairwise (· < ·) := by
  induction l with
  | nil => intro acc h; exact h
  | cons x xs ih =>
    intro acc h
    exact ih (insU x acc) (insU_strict x acc h)
theorem strict_one {l m : List (List UInt8)} (hl : l.Pairwise (· < ·)) (hm : m.Pairwise (· < ·)) (h : ∀ y, y ∈ l ↔ y ∈ m) : l = m := by
  induction l generalizing m with
  | nil =>
    cases m with
    | nil => rfl
    | cons y ys => exact absurd ((h y).2 List.mem_cons_self) (by simp)
  | cons x xs ih =>
    cases m with
    | nil => exact absurd ((h x).1 List.mem_cons_self) (by simp)
    | cons y ys =>
      obtain ⟨hx, hxs⟩ := List.pairwise_cons.1 hl
      obtain ⟨hy, hys⟩ := List.pairwise_cons.1 hm
      have e : x = y := by
        rcases List.mem_cons.1 ((h x).1 List.mem_cons_self) with h1 | h1
        · exact h1
        · rcases List.mem_cons.1 ((h y).2 List.mem_cons_self) with h2 | h2
          · exact h2.symm
          · exact absurd (List.lt_trans (hy x h1) (hx y h2)) (List.lt_irrefl y)
      subst e
      congr 1
      refine ih hxs hys (fun z => ⟨fun hz => ?_, fun hz => ?_⟩)
      · rcases List.mem_cons.1 ((h z).1 (List.mem_cons_of_mem _ hz)) with h1 | h1
        · subst h1; exact absurd (hx z hz) (List.lt_irrefl z)
        · exact h1
      · rcases List.mem_cons.1 ((h z).2 (List.mem_cons_of_mem _ hz)) with h1 | h1
        · subst h1; exact absurd (hy z hz) (List.lt_irrefl z)
        · exact h1
theorem sorted_of (l : List (List UInt8)) : (l.mergeSort fun x y => decide (x ≤ y)).Pairwise (fun a b => a ≤ b) := by
  have h := List.pairwise_mergeSort (le := fun x y : List UInt8 => decide (x ≤ y)) (fun a b c h1 h2 => by
    simp only [decide_eq_true_eq] at *
    exact List.le_trans h1 h2) (fun a b => by
    simp only [Bool.or_eq_true, decide_eq_true_eq]
    exact List.le_total a b) l
  exact h.imp (fun h => by simpa using h)
theorem compact_facts (zs : List (List UInt8)) (hs : zs.Pairwise (fun a b => a ≤ b)) : ∀ m, m ≤ zs.length → (Lib.compactUpTo zs.toArray m).Pairwise (· < ·) ∧ ∀ y, y ∈ Lib.compactUpTo zs.toArray m ↔ ∃ j, ∃ h : j < zs.length, j < m ∧ zs[j] = y := by
  intro m
  induction m with
  | zero =>
    intro _
    simp [Lib.compactUpTo]
  | succ m ih =>
    intro hm
    obtain ⟨h1, h2⟩ := ih (by omega)
    rw [Lib.compactUpTo_succ]
    have hat : ∀ j, (h : j < zs.length) → zs.toArray[j]! = zs[j] := fun j h => by rw [getElem!_pos _ j (by simpa using h)]; simp
    have hle : ∀ i j, (hi : i < zs.length) → (hj : j < zs.length) → i < j → zs[i] ≤ zs[j] := fun i j hi hj hij => List.pairwise_iff_getElem.1 hs i j hi hj hij
    have hmem : ∀ y, (∃ j, ∃ h : j < zs.length, j < m + 1 ∧ zs[j] = y) ↔ (∃ j, ∃ h : j < zs.length, j < m ∧ zs[j] = y) ∨ y = zs[m] := by
      intro y
      constructor
      · rintro ⟨j, h, hj, e⟩
        rcases Nat.lt_or_ge j m with h3 | h3
        · exact .inl ⟨j, h, h3, e⟩
        · have : j = m := by omega
          subst this
          exact .inr e.symm
      · rintro (⟨j, h, hj, e⟩ | e)
        · exact ⟨j, h, by omega, e⟩
        · exact ⟨m, by omega, by omega, e.symm⟩
    by_cases hk : Lib.keeps zs.toArray m = true
    · rw [if_pos hk, hat m (by omega)]
      constructor
      · refine List.pairwise_append.2 ⟨h1, by simp, fun a ha b hb => ?_⟩
        obtain ⟨j, hj, hjm, e⟩ := (h2 a).1 ha
        rw [List.mem_singleton.1 hb, ← e]
        have hk' : m = 0 ∨ zs.toArray[m]! ≠ zs.toArray[m - 1]! := by simpa [Lib.keeps] using hk
        rcases hk' with hk' | hk'
        · omega
        · rw [hat m (by omega), hat (m - 1) (by omega)] at hk'
          have l1 : zs[m - 1] < zs[m] := by
            rcases List.le_iff_lt_or_eq.1 (hle (m - 1) m (by omega) (by omega) (by omega)) with h | h
            · exact h
            · exact absurd h.symm hk'
          rcases Nat.lt_or_ge j (m - 1) with h3 | h3
          · rcases List.le_iff_lt_or_eq.1 (hle j (m - 1) hj (by omega) h3) with h | h
            · exact List.lt_trans h l1
            · rw [h]; exact l1
          · have : j = m - 1 := by omega
            subst this
            exact l1
      · intro y
        rw [hmem, ← h2, List.mem_append, List.mem_singleton]
    · rw [if_neg hk]
      refine ⟨by simpa using h1, fun y => ?_⟩
      rw [List.append_nil, hmem, ← h2]
      constructor
      · exact .inl
      · rintro (h | h)
        · exact h
        · have hk' : ¬ (m = 0 ∨ zs.toArray[m]! ≠ zs.toArray[m - 1]!) := by simpa [Lib.keeps] using hk
          have hm0 : m ≠ 0 := fun e => hk' (.inl e)
          have he : zs.toArray[m]! = zs.toArray[m - 1]! := Classical.byContradiction fun e => hk' (.inr e)
          rw [hat m (by omega), hat (m - 1) (by omega)] at he
          rw [h, he, h2]
          exact ⟨m - 1, by omega, by omega, rfl⟩
theorem chs_unchs (l : List (List UInt8)) : chs (unchs l) = l := by
  unfold unchs chs
  rw [List.map_map]
  exact (List.map_congr_left (fun b _ => by simp)).trans (List.map_id l)
theorem chs_inj {a b : List ByteArray} (h : chs a = chs b) : a = b := by
  rw [← unchs_chs a, ← unchs_chs b, h]
/-- The list's strings, each once, in their order. -/
def namesB (l : List ByteArray) : List ByteArray := unchs (insAll [] (chs l))
theorem names_strict (l : List ByteArray) : (chs (namesB l)).Pairwise (· < ·) := by
  unfold namesB
  rw [chs_unchs]
  exact insAll_strict _ _ (by simp)
theorem names_mem (l : List ByteArray) (y : List UInt8) : y ∈ chs (namesB l) ↔ y ∈ chs l := by
  unfold namesB
  rw [chs_unchs, insAll_mem]
  simp
theorem sort_same (l : List ByteArray) : compS (sortB l) = namesB l := by
  apply chs_inj
  unfold compS sortB
  rw [chs_unchs, chs_unchs]
  obtain ⟨h1, h2⟩ := compact_facts ((chs l).mergeSort fun x y => decide (x ≤ y)) (sorted_of _) _ (Nat.le_refl _)
  refine strict_one h1 (names_strict l) (fun y => ?_)
  unfold Lib.compact
  rw [h2, names_mem]
  rw [← (List.mergeSort_perm (chs l) (fun x y => decide (x ≤ y))).mem_iff, List.mem_iff_getElem]
  constructor
  · rintro ⟨j, h, _, e⟩
    exact ⟨j, h, e⟩
  · rintro ⟨j, h, e⟩
    exact ⟨j, h, h, e⟩
theorem nodup_le {α : Type} [DecidableEq α] (l : List α) : ∀ m : List α, l.Nodup → (∀ y, y ∈ l → y ∈ m) → l.length ≤ m.length := by
  induction l with
  | nil => intro m _ _; simp
  | cons x xs ih =>
    intro m hn hs
    obtain ⟨h1, h2⟩ := List.nodup_cons.1 hn
    have hx := hs x List.mem_cons_self
    have h3 := ih (m.erase x) h2 (fun y hy => (List.mem_erase_of_ne (fun e => h1 (by rw [← e]; exact hy))).2 (hs y (List.mem_cons_of_mem _ hy)))
    have h4 := List.length_erase_of_mem hx
    have h5 := List.length_pos_of_mem hx
    simp only [List.length_cons]
    omega
theorem strict_nodup {l : List (List UInt8)} (h : l.Pairwise (· < ·)) : l.Nodup := h.imp (fun h e => by subst e; exact List.lt_irrefl _ h)
theorem names_length (l : List ByteArray) : (namesB l).length ≤ l.length := by
  have := nodup_le _ (chs l) (strict_nodup (names_strict l)) (fun y hy => (names_mem l y).1 hy)
  rwa [chs_length, chs_length] at this
def insB (e : ByteArray) : List ByteArray → List ByteArray
  | [] => [e]
  | x :: xs => if Op.bytesLess x.toList e.toList = true then x :: insB e xs else if x.toList = e.toList then x :: xs else e :: x :: xs
theorem chs_insB (e : ByteArray) (l : List ByteArray) : chs (insB e l) = insU e.data.toList (chs l) := by
  induction l with
  | nil => rfl
  | cons x xs ih =>
    simp only [insB, Go.Proofs.bytesLess_eq, Lib.toList_data, decide_eq_true_eq]
    have e1 : chs (x :: xs) = x.data.toList :: chs xs := rfl
    rw [e1]
    simp only [insU]
    split
    · rw [← ih]; rfl
    · split
      · rfl
      · rfl
theorem insB_length (e : ByteArray) (l : List ByteArray) : (insB e l).length ≤ l.length + 1 := by
  induction l with
  | nil => simp [insB]
  | cons x xs ih =>
    simp only [insB]
    split
    · simp only [List.length_cons]; omega
    · split <;> simp
theorem foldB_length (l : List ByteArray) : ∀ acc : List ByteArray, (l.foldl (fun a e => insB e a) acc).length ≤ acc.length + l.length := by
  induction l with
  | nil => intro acc; simp
  | cons x xs ih =>
    intro acc
    have h1 := ih (insB x acc)
    have h2 := insB_length x acc
    simp only [List.foldl_cons, List.length_cons]
    omega
theorem foldB (l : List ByteArray) : ∀ acc : List ByteArray, chs (l.foldl (fun a e => insB e a) acc) = insAll (chs acc) (chs l) := by
  induction l with
  | nil => intro acc; rfl
  | cons x xs ih =>
    intro acc
    rw [List.foldl_cons, ih, chs_insB]
    rfl
theorem foldB_names (l : List ByteArray) : l.foldl (fun a e => insB e a) [] = namesB l := by
  apply chs_inj
  rw [foldB]
  unfold namesB
  rw [chs_unchs]
  rfl
end Go.Proofs.Ytoeibmfdafilcaa.AM


namespace Go.Proofs.Ytoeibmfdafilcaa.AM
open Go
attribute [local go_sem] List.map_cons List.map_nil List.all_cons List.all_nil Bool.and_self Option.map_some List.getElem?_toArray Option.bind_some gye_b gye_t gsk_b gsk_t gb1 gb2 gb3 gb4 bne_self_eq_false beq_self_eq_true w_guard w_nil stepV_some step_some step_some' w_move w_assign w_pick w_binOp w_unOp w_load w_fieldAddr w_indexAddr w_len w_max w_index ev_max max_int ev_index w_box w_alloc w_store w_field w_extract w_nilCheck w_convert w_buildSlice w_build ev_buildL fillL_nil fillL_cons bs0 bs1 ev_conv ev_bin ev_un ev_pick ev_load ev_fieldAddr ev_indexAddr ev_len ev_field ev_extract ev_nilCheck fr_tmp fr_int fr_bool fr_str fr_nil fr_func put_some put_none bin_lss bin_leq bin_gtr bin_geq bin_eql bin_neq bin_add bin_sub bin_mul bin_seql bin_sneq un_not pick_ ext_ loadA_p cellAt_l cellAt_h okPtr_l okPtr_h fadA_p allocA_l storeA_l cells_agg cells_int cells_str cells_sl cells_bool flat_i flat_s flat_b flat_sl flat_nil loc_agg loc_int loc_str loc_sl loc_bool loc_fn loc_ptr okv_agg okv_int okv_str okv_sl okv_bool cellsFrom splice upd_eval argEnv_zero argEnv_succ ne_eq Nat.add_one_ne_zero not_false_eq_true List.not_mem_nil and_self decide_true List.getElem?_cons_zero List.getElem?_cons_succ List.size_toArray List.length_cons List.length_nil List.take_succ_cons List.take_zero List.drop_succ_cons List.drop_zero List.cons_append List.nil_append List.drop_nil Bool.not_true Bool.not_false Bool.false_eq_true Nat.zero_add Nat.add_zero wrap_in List.toList_toArray List.mem_cons or_self or_false false_or
attribute [local go_sem] ag22 ag24 ag26 ag29 ag3 ag31 ag49 ag54 ag9 ag91 bu31 bu41 bu49 bu54 by31 by49 by54 by9 el22 el26 el29 el45 el50 el68 of24_0 of24_1 of24_2 of24_3 of31_0 of31_1 of31_2 of31_3 of41_0 of41_1 of41_2 of49_0 of49_1 of54_0 of54_1 ro31_0 ro31_1 ro49_1 ro5_1 ro54_0 ro54_1 ro9_0 ro9_1 sz22 sz24 sz26 sz29 sz3 sz31 sz49 sz5 sz54 sz9 sz91 ze3 ze31 ze49 ze54 ze9 ze91
section
/- Rows of strings: laws.toStringS, laws.szStringS, laws.eqStringS, laws.markStringS, laws.heldStringS. -/
open Go Go.Proofs
set_option linter.unusedVariables false
set_option linter.unusedSimpArgs false
set_option maxRecDepth 100000
-- AUTO

theorem row_atS {st : St} {xs : List ByteArray} {s : Value} (h : Rw st xs s) {j : Nat} {x : ByteArray} (hx : xs[j]? = some x) {n : Nat} (hn : xs.length = n := by rfl) : ∃ i o c, s = .slice (some ⟨i, o, none⟩) n c ∧ cell st i (o + j * 1) = some (.string x) := by
  subst hn
  obtain ⟨i, o, c, cs, rfl, _, rfl, hc⟩ := row_at h hx
  exact ⟨i, o, c, rfl, hc 0 _ rfl⟩


end

section
/- Names are sorted: spec.SortNames. -/
open Go Go.Proofs
set_option linter.unusedVariables false
set_option linter.unusedSimpArgs false
set_option maxRecDepth 100000
-- AUTO

theorem insB_drop {e : ByteArray} {acc : List ByteArray} {j : Nat} (hj : j < acc.length) : insB e (acc.drop j) = if Op.bytesLess acc[j].toList e.toList = true then acc[j] :: insB e (acc.drop (j + 1)) else if acc[j].toList = e.toList then acc.drop j else e :: acc.drop j := by
  rw [List.drop_eq_getElem_cons hj]; rfl
/-- Parts of a row. -/
theorem row_upto {α : Type} {E : α → List Value → Prop} {sz : Nat} {st : St} {xs : List α} {i o c : Nat} (h : Row E (sz + 1) st xs (.slice (some ⟨i, o, none⟩) xs.length c)) {P : Program} {t e : TypeId} (hu : P.underlying t = some (.slice e)) (hs : szA P e = some (sz + 1)) {k : Nat} (hk : k ≤ xs.length) :
    ∃ s', sliceA P t (.slice (some ⟨i, o, none⟩) xs.length c) none (some (.int .i64 k)) = some s' ∧ Row E (sz + 1) st (xs.take k) s' := by
  have he : elemA P t = some e := by unfold elemA; rw [hu]
  refine ⟨.slice (some ⟨i, o + 0 * (sz + 1), none⟩) (k - 0) (k - 0), ?_, ?_⟩
  · unfold sliceA
    simp only [he, hs, Int.toNat_natCast]
    rw [if_pos (by omega)]; rfl
  · rcases h with ⟨h0, rfl⟩ | ⟨i', o', c', he', h⟩
    · refine .inr ⟨i, o + 0 * (sz + 1), k - 0, by simp at hk; simp [hk], fun j x hx => by simp at hx⟩
    · cases he'
      refine .inr ⟨i, o + 0 * (sz + 1), k - 0, by simp; omega, fun j x hx => ?_⟩
      rw [List.getElem?_take] at hx
      split at hx
      · rw [Nat.zero_mul, Nat.add_zero]; exact h j x hx
      · cases hx
theorem row_from {α : Type} {E : α → List Value → Prop} {sz : Nat} {st : St} {xs : List α} {i o c : Nat} (h : Row E (sz + 1) st xs (.slice (some ⟨i, o, none⟩) xs.length c)) {P : Program} {t e : TypeId} (hu : P.underlying t = some (.slice e)) (hs : szA P e = some (sz + 1)) {k : Nat} (hk : k ≤ xs.length) :
    ∃ s', sliceA P t (.slice (some ⟨i, o, none⟩) xs.length c) (some (.int .i64 k)) none = some s' ∧ Row E (sz + 1) st (xs.drop k) s' := by
  have he : elemA P t = some e := by unfold elemA; rw [hu]
  refine ⟨.slice (some ⟨i, o + k * (sz + 1), none⟩) (xs.length - k) (xs.length - k), ?_, ?_⟩
  · unfold sliceA
    simp only [he, hs, Int.toNat_natCast]
    rw [if_pos (by omega)]
  · rcases h with ⟨h0, rfl⟩ | ⟨i', o', c', he', h⟩
    · exact .inr ⟨i, o + k * (sz + 1), _, by simp; rfl, fun j x hx => by simp at hx⟩
    · cases he'
      refine .inr ⟨i, o + k * (sz + 1), xs.length - k, by simp, fun j x hx => ?_⟩
      rw [List.getElem?_drop] at hx
      obtain ⟨cs, h1, h2, h3⟩ := h (k + j) x hx
      exact ⟨cs, h1, h2, by rwa [show o + k * (sz + 1) + j * (sz + 1) = o + (k + j) * (sz + 1) by rw [Nat.add_mul]; omega]⟩
/-- A string is put behind a row of one's own. -/
theorem OwnS.step {n0 : Nat} {st st2 : St} {xs : List ByteArray} {s : Value} {L : List Nat} {x : ByteArray} (h : Sl st xs s L) (hf : Fresh n0 L) (hn0 : n0 ≤ st.length) (hext : Ext st st2) (hbd : xs.length + 1 ≤ 274877906944) :
    ∃ s' st' L', appendA Try.prog 45 45 s (.slice (some ⟨st2.length, 0, none⟩) 1 1) (st2 ++ [⟨[.string x], 9, 0⟩]) = some (s', st') ∧ Sl st' (xs ++ [x]) s' L' ∧ Fresh n0 L' ∧ Grow st s st' s' :=
  Sl.push (α := ByteArray) Try.underlying45 Try.underlying45 sz9 rfl by9 ze9 rfl h hf hn0 hext ⟨rfl, rfl⟩ (.nil _) (by omega) (by omega)
theorem OwnS.join {n0 : Nat} {st st2 : St} {xs ys : List ByteArray} {s y : Value} {L : List Nat} (h : Sl st xs s L) (hf : Fresh n0 L) (hn0 : n0 ≤ st.length) (hext : Ext st st2) (hy : Rw st2 ys y) (hbd : xs.length + ys.length ≤ 274877906944) :
    ∃ s' st' L', appendA Try.prog 45 45 s y st2 = some (s', st') ∧ Sl st' (xs ++ ys) s' L' ∧ Fresh n0 L' ∧ Grow st2 s st' s' :=
  Sl.appRow (α := ByteArray) Try.underlying45 Try.underlying45 sz9 rfl by9 ze9 rfl h hf hn0 hext hy (by omega) (by omega)
theorem OwnS.fresh {st : St} {ys : List ByteArray} {y : Value} (hy : Rw st ys y) (hbd : ys.length ≤ 274877906944) :
    ∃ s' st' L', appendA Try.prog 45 45 (.slice (some ⟨st.length, 0, none⟩) 0 0) y (st ++ [⟨[], 9, 0⟩]) = some (s', st') ∧ Sl st' ys s' L' ∧ Fresh st.length L' ∧ Ext st st' ∧ st.length + 1 ≤ st'.length :=
  Sl.freshRow (α := ByteArray) Try.underlying45 Try.underlying45 sz9 rfl by9 ze9 rfl hy (by omega) (by omega)

theorem SliceO.topSome {α : Type} {E : α → List Value → List Nat → Prop} {e : TypeId} {st : St} {xs : List α} {s : Value} {L : List Nat} {n : Nat} (h : SliceO E e st xs s L) (hf : Fresh n L) (h0 : xs ≠ []) : ∃ m, n ≤ m ∧ topId s = some m := by
  rcases h with ⟨rfl, h, _⟩ | ⟨i, c, cs, K, rfl, _, _, rfl⟩
  · exact absurd h h0
  · exact ⟨i, hf.2 i (by simp), rfl⟩
/-- What R9, R10 and R11 do: a string is set into a row. -/
theorem OwnS.insert {n0 br cr : Nat} {st : St} {acc : List ByteArray} {L : List Nat} {x : ByteArray} (h : Sl st acc (.slice (some ⟨br, 0, none⟩) acc.length cr) L) (hn0 : n0 ≤ st.length) {j : Nat} (hj : j ≤ acc.length) (hbd : acc.length ≤ 1073741824) :
    ∃ u1 u2 v1 v2 v3 s2 s3 s4 L4, sliceA Try.prog 45 (.slice (some ⟨br, 0, none⟩) acc.length cr) none (some (.int .i64 j)) = some u1 ∧
      appendA Try.prog 45 45 (.slice (some ⟨st.length, 0, none⟩) 0 0) u1 (st ++ [⟨[], 9, 0⟩]) = some (v1, s2) ∧
      appendA Try.prog 45 45 v1 (.slice (some ⟨s2.length, 0, none⟩) 1 1) (s2 ++ [⟨[.string x], 9, 0⟩]) = some (v2, s3) ∧
      sliceA Try.prog 45 (.slice (some ⟨br, 0, none⟩) acc.length cr) (some (.int .i64 j)) none = some u2 ∧
      appendA Try.prog 45 45 v2 u2 s3 = some (v3, s4) ∧ Sl s4 (acc.take j ++ x :: acc.drop j) v3 L4 ∧ Fresh n0 L4 ∧ Ext st s2 ∧ Ext st s4 ∧ (∃ m, n0 ≤ m ∧ topId v3 = some m) ∧
      isLoc u1 = false ∧ isLoc u2 = false ∧ isLoc v1 = false ∧ isLoc v2 = false ∧ isLoc v3 = false := by
  have hr := h.row
  obtain ⟨u1, a1, a2⟩ := row_upto (sz := 0) (α := ByteArray) hr Try.underlying45 sz9 hj
  obtain ⟨u2, b1, b2⟩ := row_from (sz := 0) (α := ByteArray) hr Try.underlying45 sz9 hj
  obtain ⟨v1, s2, L2, c1, c2, c3, c4, c5⟩ := OwnS.fresh (st := st) (ys := acc.take j) a2 (by simp; omega)
  have t1 := c2.top c3
  obtain ⟨v2, s3, L3, d1, d2, d3, d4⟩ := OwnS.step (x := x) c2 c3 c4.length (Ext.refl s2) (by simp; omega)
  have x3 : Ext st s3 := d4.away.ext_of c4 t1
  have t2 := d2.top d3
  have hl3 := d4.away.1
  obtain ⟨v3, s4, L4, e1, e2, e3, e4⟩ := OwnS.join (ys := acc.drop j) d2 d3 (by have := x3.length; exact this) (Ext.refl s3) (Rw.ext b2 x3) (by simp; omega)
  have x4 : Ext st s4 := e4.away.ext_of x3 t2
  have e2' : Sl s4 (acc.take j ++ x :: acc.drop j) v3 L4 := by rw [List.append_cons]; exact e2
  have e3' : Fresh n0 L4 := ⟨e3.1, fun i hi => Nat.le_trans hn0 (e3.2 i hi)⟩
  exact ⟨u1, u2, v1, v2, v3, s2, s3, s4, L4, a1, c1, d1, b1, e1, e2', e3', c4, x4, e2'.topSome e3' (by simp), a2.notLoc.1, b2.notLoc.1, c2.loc, d2.loc, e2.loc⟩
theorem insB_nil {e : ByteArray} : insB e [] = [e] := rfl
theorem specSort_ok (xs : List ByteArray) (st : St) (s : Value) (hbig : xs.length ≤ 1073741824) (hr : Rw st xs s) :
    CallS Try.prog 32 [s] st fun r st2 => Ext st st2 ∧ ∃ L, Sl st2 (namesB xs) r L ∧ Fresh st.length L := by
  refine CallS_of_W [] 64 Try.func32 rfl rfl rfl rfl (by simp) ?_
  have hlen : lenE Try.prog 45 s = some (.int .i64 xs.length) := row_len hr Try.underlying45
  have hsl := hr.notLoc.1
  repeat (first | ((first | refine W_reg rfl fun G K hG hK => ?_ | refine W_end rfl fun G K hG hK => ?_); simp (disch := omega) only [go_sem, ↓reduceIte, Nat.reduceEqDiff, Nat.reduceAdd, Nat.reduceLeDiff, hG, hlen, hsl]; refine hK _ _ ?_; clear hK K hG G) | refine W_seqS ?_ | refine W_seqC ?_ | refine W_seqB ?_ | refine W_block ?_ | refine W_skip ?_ | (refine W_condT ?hc ?_; (case hc => (simp (disch := omega) only [go_sem, ↓reduceIte, Nat.reduceEqDiff, Nat.reduceAdd, Nat.reduceLeDiff, hlen, hsl]; done))) | (refine W_condF ?hc ?_; (case hc => (simp (disch := omega) only [go_sem, ↓reduceIte, Nat.reduceEqDiff, Nat.reduceAdd, Nat.reduceLeDiff, hlen, hsl]; done))) | refine thenI ?_ | refine thenE ?_ | refine thenR ?_ | refine inBI ?_ | refine inBR ?_ | refine inBS ?_ | refine inBN (by decide) ?_)
  refine W_loop (fun d fr st' => ∃ (i : Nat) (acc : List ByteArray) (r : Value) (L : List Nat), d = xs.length - i ∧ i ≤ xs.length ∧ (Ext st st') ∧ (Sl st' acc r L) ∧ (Fresh st.length L) ∧ ((∃ m, st.length ≤ m ∧ topId r = some m)) ∧ (acc = (xs.take i).foldl (fun a e => insB e a) []) ∧ (fr.env 0 = s) ∧ (fr.env 3 = r) ∧ (fr.env 4 = .int .i64 i)) (xs.length) ?_ ?_
  · exact ⟨0, [], _, _, by omega, by omega, Ext.app _ _, Sl.empty _, ⟨by simp, by simp⟩, ⟨_, Nat.le_refl _, rfl⟩, rfl, (by (simp (disch := omega) only [go_sem, ↓reduceIte, Nat.reduceEqDiff, Nat.reduceAdd, Nat.reduceLeDiff, hlen, hsl]); try rfl), (by (simp (disch := omega) only [go_sem, ↓reduceIte, Nat.reduceEqDiff, Nat.reduceAdd, Nat.reduceLeDiff, hlen, hsl]); try rfl), (by (simp (disch := omega) only [go_sem, ↓reduceIte, Nat.reduceEqDiff, Nat.reduceAdd, Nat.reduceLeDiff, hlen, hsl]); try rfl)⟩
  rintro d ⟨env, loc⟩ st' ⟨i, acc, r, L, hd_i, hj_i, hext, hown, hfr, htop, hacc, e0, e3, e4⟩
  simp only at e0 e3 e4
  by_cases hlt_i : i < xs.length
  · have c1_i : decide ((i : Int) < (xs.length : Int)) = true := by simpa using hlt_i
    have hi_i := idxOk hlt_i
    have hx_i : xs[i]? = some xs[i] := List.getElem?_eq_getElem hlt_i
    have htk_i : xs.take (i + 1) = xs.take i ++ [xs[i]] := List.take_succ_eq_append_getElem hlt_i
    obtain ⟨ib, ob, cb, rfl, hce⟩ := row_atS hr hx_i
    have hce := cell_ext hext hce
    have hal : acc.length ≤ xs.length := by
      have := foldB_length (xs.take i) []
      rw [← hacc] at this
      simp at this; omega
    have hlena : lenE Try.prog 45 r = some (.int .i64 acc.length) := row_len hown.row Try.underlying45
    have hnext : (xs.take (i + 1)).foldl (fun a e => insB e a) [] = insB xs[i] acc := by rw [htk_i, List.foldl_append, ← hacc]; rfl
    obtain ⟨br, cr, rfl⟩ : ∃ b c, r = .slice (some ⟨b, 0, none⟩) acc.length c := by
      obtain ⟨m, hm1, hm2⟩ := htop
      rcases hown with ⟨rfl, _, _⟩ | ⟨b, c, _, _, h, _⟩
      · cases hm2
      · exact ⟨b, c, h⟩
    have hl0 := hext.length
    repeat (first | ((first | refine W_reg rfl fun G K hG hK => ?_ | refine W_end rfl fun G K hG hK => ?_); simp (disch := omega) only [go_sem, ↓reduceIte, Nat.reduceEqDiff, Nat.reduceAdd, Nat.reduceLeDiff, hG, hlen, hsl, e0, e3, e4, c1_i, hi_i, idxA, Int.toNat_natCast, hlena]; refine hK _ _ ?_; clear hK K hG G) | refine W_seqS ?_ | refine W_seqC ?_ | refine W_seqB ?_ | refine W_block ?_ | refine W_skip ?_ | (refine W_condT ?hc ?_; (case hc => (simp (disch := omega) only [go_sem, ↓reduceIte, Nat.reduceEqDiff, Nat.reduceAdd, Nat.reduceLeDiff, hlen, hsl, e0, e3, e4, c1_i, hi_i, idxA, Int.toNat_natCast, hlena]; done))) | (refine W_condF ?hc ?_; (case hc => (simp (disch := omega) only [go_sem, ↓reduceIte, Nat.reduceEqDiff, Nat.reduceAdd, Nat.reduceLeDiff, hlen, hsl, e0, e3, e4, c1_i, hi_i, idxA, Int.toNat_natCast, hlena]; done))) | refine thenI ?_ | refine thenE ?_ | refine thenR ?_ | refine inBI ?_ | refine inBR ?_ | refine inBS ?_ | refine inBN (by decide) ?_)
    rename St => s1
    refine W_loop (fun d fr st' => ∃ (j : Nat) , d = acc.length - j ∧ j ≤ acc.length ∧ (st' = s1) ∧ (insB xs[i] acc = acc.take j ++ insB xs[i] (acc.drop j)) ∧ (fr.env 0 = .slice (some ⟨ib, ob, none⟩) xs.length cb) ∧ (fr.env 3 = .slice (some ⟨br, 0, none⟩) acc.length cr) ∧ (fr.env 4 = .int .i64 i) ∧ (fr.env 5 = .int .i64 j)) (acc.length) ?_ ?_
    · exact ⟨0, by omega, by omega, rfl, by simp, (by (simp (disch := omega) only [go_sem, ↓reduceIte, Nat.reduceEqDiff, Nat.reduceAdd, Nat.reduceLeDiff, hlen, hsl, e0, e3, e4, c1_i, hi_i, idxA, Int.toNat_natCast, hlena]); try rfl), (by (simp (disch := omega) only [go_sem, ↓reduceIte, Nat.reduceEqDiff, Nat.reduceAdd, Nat.reduceLeDiff, hlen, hsl, e0, e3, e4, c1_i, hi_i, idxA, Int.toNat_natCast, hlena]); try rfl), (by (simp (disch := omega) only [go_sem, ↓reduceIte, Nat.reduceEqDiff, Nat.reduceAdd, Nat.reduceLeDiff, hlen, hsl, e0, e3, e4, c1_i, hi_i, idxA, Int.toNat_natCast, hlena]); try rfl), (by (simp (disch := omega) only [go_sem, ↓reduceIte, Nat.reduceEqDiff, Nat.reduceAdd, Nat.reduceLeDiff, hlen, hsl, e0, e3, e4, c1_i, hi_i, idxA, Int.toNat_natCast, hlena]); try rfl)⟩
    clear e0 e3 e4
    rintro d ⟨env, loc⟩ st' ⟨j, hd, hj, hst2, hins, e0, e3, e4, e5⟩
    simp only at e0 e3 e4 e5
    subst hst2
    obtain ⟨u1, u2, v1, v2, v3, s2, s3, s4, L4, a1, c1', d1, b1, ea, f1, f2, f3, f4, f5, k1, k2, k3, k4, k5⟩ := OwnS.insert (x := xs[i]) hown hl0 hj (by omega)
    have hce2 := cell_ext f3 hce
    by_cases hlt : j < acc.length
    · have c1 : decide ((j : Int) < (acc.length : Int)) = true := by simpa using hlt
      have hi := idxOk hlt
      have hx : acc[j]? = some acc[j] := List.getElem?_eq_getElem hlt
      have htk : acc.take (j + 1) = acc.take j ++ [acc[j]] := List.take_succ_eq_append_getElem hlt
      rw [insB_drop hlt] at hins
      obtain ⟨_, _, _, hee, hca⟩ := row_atS hown.row hx
      cases hee
      rw [Nat.zero_add] at hca
      repeat (first | ((first | refine W_reg rfl fun G K hG hK => ?_ | refine W_end rfl fun G K hG hK => ?_); simp (disch := omega) only [go_sem, ↓reduceIte, Nat.reduceEqDiff, Nat.reduceAdd, Nat.reduceLeDiff, hG, hlen, hsl, c1_i, hi_i, hlena, e0, e3, e4, e5, k1, k2, k3, k4, k5, c1, hi, idxA, Int.toNat_natCast]; refine hK _ _ ?_; clear hK K hG G) | refine W_seqS ?_ | refine W_seqC ?_ | refine W_seqB ?_ | refine W_block ?_ | refine W_skip ?_ | (refine W_condT ?hc ?_; (case hc => (simp (disch := omega) only [go_sem, ↓reduceIte, Nat.reduceEqDiff, Nat.reduceAdd, Nat.reduceLeDiff, hlen, hsl, c1_i, hi_i, hlena, e0, e3, e4, e5, k1, k2, k3, k4, k5, c1, hi, idxA, Int.toNat_natCast]; done))) | (refine W_condF ?hc ?_; (case hc => (simp (disch := omega) only [go_sem, ↓reduceIte, Nat.reduceEqDiff, Nat.reduceAdd, Nat.reduceLeDiff, hlen, hsl, c1_i, hi_i, hlena, e0, e3, e4, e5, k1, k2, k3, k4, k5, c1, hi, idxA, Int.toNat_natCast]; done))) | refine thenI ?_ | refine thenE ?_ | refine thenR ?_ | refine inBI ?_ | refine inBR ?_ | refine inBS ?_ | refine inBN (by decide) ?_)
      (repeat (first | refine W_seqS ?_ | refine W_seqC ?_ | refine W_seqB ?_ | refine W_block ?_)); refine W_regD mixed [] [(0,false),(1,false),(2,false),(3,false),(4,false),(5,false),(6,false),(7,false),(8,false),(9,false),(10,false),(11,false),(12,false),(13,false),(14,false)] rfl (by decide +kernel) fun G K hG hK => ?_; simp only [pickOps, List.filterMap_cons, List.filterMap_nil, List.getElem?_cons_zero, List.getElem?_cons_succ, Option.map_some]; simp (disch := omega) only [go_sem, ↓reduceIte, Nat.reduceEqDiff, Nat.reduceAdd, Nat.reduceLeDiff, hG, hlen, hsl, c1_i, hi_i, hlena, e0, e3, e4, e5, k1, k2, k3, k4, k5, c1, hi, idxA, Int.toNat_natCast, bin_slss, hce, hca]
      refine hK _ _ ?_; clear hK K hG G; repeat (first | refine thenI ?_ | refine thenE ?_ | refine thenR ?_ | refine inBI ?_ | refine inBR ?_ | refine inBS ?_ | refine inBN (by decide) ?_)
      cases hc : Op.bytesLess acc[j].toList xs[i].toList with
      | true =>
        rw [if_pos hc] at hins
        repeat (first | ((first | refine W_reg rfl fun G K hG hK => ?_ | refine W_end rfl fun G K hG hK => ?_); simp (disch := omega) only [go_sem, ↓reduceIte, Nat.reduceEqDiff, Nat.reduceAdd, Nat.reduceLeDiff, hG, hlen, hsl, c1_i, hi_i, hlena, e0, e3, e4, e5, k1, k2, k3, k4, k5, c1, hi, idxA, Int.toNat_natCast, hc]; refine hK _ _ ?_; clear hK K hG G) | refine W_seqS ?_ | refine W_seqC ?_ | refine W_seqB ?_ | refine W_block ?_ | refine W_skip ?_ | (refine W_condT ?hc ?_; (case hc => (simp (disch := omega) only [go_sem, ↓reduceIte, Nat.reduceEqDiff, Nat.reduceAdd, Nat.reduceLeDiff, hlen, hsl, c1_i, hi_i, hlena, e0, e3, e4, e5, k1, k2, k3, k4, k5, c1, hi, idxA, Int.toNat_natCast, hc]; done))) | (refine W_condF ?hc ?_; (case hc => (simp (disch := omega) only [go_sem, ↓reduceIte, Nat.reduceEqDiff, Nat.reduceAdd, Nat.reduceLeDiff, hlen, hsl, c1_i, hi_i, hlena, e0, e3, e4, e5, k1, k2, k3, k4, k5, c1, hi, idxA, Int.toNat_natCast, hc]; done))) | refine thenI ?_ | refine thenE ?_ | refine thenR ?_ | refine inBI ?_ | refine inBR ?_ | refine inBS ?_ | refine inBN (by decide) ?_)
        refine ⟨acc.length - (j + 1), by omega, j + 1, rfl, by omega, rfl, by rw [htk, List.append_assoc]; exact hins, (by (simp (disch := omega) only [go_sem, ↓reduceIte, Nat.reduceEqDiff, Nat.reduceAdd, Nat.reduceLeDiff, hlen, hsl, c1_i, hi_i, hlena, e0, e3, e4, e5, k1, k2, k3, k4, k5, c1, hi, idxA, Int.toNat_natCast]); try rfl), (by (simp (disch := omega) only [go_sem, ↓reduceIte, Nat.reduceEqDiff, Nat.reduceAdd, Nat.reduceLeDiff, hlen, hsl, c1_i, hi_i, hlena, e0, e3, e4, e5, k1, k2, k3, k4, k5, c1, hi, idxA, Int.toNat_natCast]); try rfl), (by (simp (disch := omega) only [go_sem, ↓reduceIte, Nat.reduceEqDiff, Nat.reduceAdd, Nat.reduceLeDiff, hlen, hsl, c1_i, hi_i, hlena, e0, e3, e4, e5, k1, k2, k3, k4, k5, c1, hi, idxA, Int.toNat_natCast]); try rfl), (by (simp (disch := omega) only [go_sem, ↓reduceIte, Nat.reduceEqDiff, Nat.reduceAdd, Nat.reduceLeDiff, hlen, hsl, c1_i, hi_i, hlena, e0, e3, e4, e5, k1, k2, k3, k4, k5, c1, hi, idxA, Int.toNat_natCast]); try rfl)⟩
      | false =>
        rw [if_neg (by rw [hc]; simp)] at hins
        repeat (first | ((first | refine W_reg rfl fun G K hG hK => ?_ | refine W_end rfl fun G K hG hK => ?_); simp (disch := omega) only [go_sem, ↓reduceIte, Nat.reduceEqDiff, Nat.reduceAdd, Nat.reduceLeDiff, hG, hlen, hsl, c1_i, hi_i, hlena, e0, e3, e4, e5, k1, k2, k3, k4, k5, c1, hi, idxA, Int.toNat_natCast, hc]; refine hK _ _ ?_; clear hK K hG G) | refine W_seqS ?_ | refine W_seqC ?_ | refine W_seqB ?_ | refine W_block ?_ | refine W_skip ?_ | (refine W_condT ?hc ?_; (case hc => (simp (disch := omega) only [go_sem, ↓reduceIte, Nat.reduceEqDiff, Nat.reduceAdd, Nat.reduceLeDiff, hlen, hsl, c1_i, hi_i, hlena, e0, e3, e4, e5, k1, k2, k3, k4, k5, c1, hi, idxA, Int.toNat_natCast, hc]; done))) | (refine W_condF ?hc ?_; (case hc => (simp (disch := omega) only [go_sem, ↓reduceIte, Nat.reduceEqDiff, Nat.reduceAdd, Nat.reduceLeDiff, hlen, hsl, c1_i, hi_i, hlena, e0, e3, e4, e5, k1, k2, k3, k4, k5, c1, hi, idxA, Int.toNat_natCast, hc]; done))) | refine thenI ?_ | refine thenE ?_ | refine thenR ?_ | refine inBI ?_ | refine inBR ?_ | refine inBS ?_ | refine inBN (by decide) ?_)
        refine W_exit ?_; repeat (first | refine thenI ?_ | refine thenE ?_ | refine thenR ?_ | refine inBI ?_ | refine inBR ?_ | refine inBS ?_ | refine inBN (by decide) ?_)
        (repeat (first | refine W_seqS ?_ | refine W_seqC ?_ | refine W_seqB ?_ | refine W_block ?_)); refine W_regD mixed [] [(0,false),(1,false),(2,false),(3,false),(4,false),(5,false),(6,false),(7,false),(8,false),(9,false),(10,false),(11,false),(12,false),(13,false),(14,false)] rfl (by decide +kernel) fun G K hG hK => ?_; simp only [pickOps, List.filterMap_cons, List.filterMap_nil, List.getElem?_cons_zero, List.getElem?_cons_succ, Option.map_some]; simp (disch := omega) only [go_sem, ↓reduceIte, Nat.reduceEqDiff, Nat.reduceAdd, Nat.reduceLeDiff, hG, hlen, hsl, c1_i, hi_i, hlena, e0, e3, e4, e5, k1, k2, k3, k4, k5, c1, hi, idxA, Int.toNat_natCast, hce, hca]
        refine hK _ _ ?_; clear hK K hG G; repeat (first | refine thenI ?_ | refine thenE ?_ | refine thenR ?_ | refine inBI ?_ | refine inBR ?_ | refine inBS ?_ | refine inBN (by decide) ?_)
        cases hq : (acc[j].toList == xs[i].toList) with
        | true =>
          rw [if_pos (by simpa using hq), List.take_append_drop] at hins
          repeat (first | ((first | refine W_reg rfl fun G K hG hK => ?_ | refine W_end rfl fun G K hG hK => ?_); simp (disch := omega) only [go_sem, ↓reduceIte, Nat.reduceEqDiff, Nat.reduceAdd, Nat.reduceLeDiff, hG, hlen, hsl, c1_i, hi_i, hlena, e0, e3, e4, e5, k1, k2, k3, k4, k5, c1, hi, idxA, Int.toNat_natCast, hq]; refine hK _ _ ?_; clear hK K hG G) | refine W_seqS ?_ | refine W_seqC ?_ | refine W_seqB ?_ | refine W_block ?_ | refine W_skip ?_ | (refine W_condT ?hc ?_; (case hc => (simp (disch := omega) only [go_sem, ↓reduceIte, Nat.reduceEqDiff, Nat.reduceAdd, Nat.reduceLeDiff, hlen, hsl, c1_i, hi_i, hlena, e0, e3, e4, e5, k1, k2, k3, k4, k5, c1, hi, idxA, Int.toNat_natCast, hq]; done))) | (refine W_condF ?hc ?_; (case hc => (simp (disch := omega) only [go_sem, ↓reduceIte, Nat.reduceEqDiff, Nat.reduceAdd, Nat.reduceLeDiff, hlen, hsl, c1_i, hi_i, hlena, e0, e3, e4, e5, k1, k2, k3, k4, k5, c1, hi, idxA, Int.toNat_natCast, hq]; done))) | refine thenI ?_ | refine thenE ?_ | refine thenR ?_ | refine inBI ?_ | refine inBR ?_ | refine inBS ?_ | refine inBN (by decide) ?_)
          refine W_exit ?_; repeat (first | refine thenI ?_ | refine thenE ?_ | refine thenR ?_ | refine inBI ?_ | refine inBR ?_ | refine inBS ?_ | refine inBN (by decide) ?_)
          repeat (first | ((first | refine W_reg rfl fun G K hG hK => ?_ | refine W_end rfl fun G K hG hK => ?_); simp (disch := omega) only [go_sem, ↓reduceIte, Nat.reduceEqDiff, Nat.reduceAdd, Nat.reduceLeDiff, hG, hlen, hsl, c1_i, hi_i, hlena, e0, e3, e4, e5, k1, k2, k3, k4, k5, c1, hi, idxA, Int.toNat_natCast]; refine hK _ _ ?_; clear hK K hG G) | refine W_seqS ?_ | refine W_seqC ?_ | refine W_seqB ?_ | refine W_block ?_ | refine W_skip ?_ | (refine W_condT ?hc ?_; (case hc => (simp (disch := omega) only [go_sem, ↓reduceIte, Nat.reduceEqDiff, Nat.reduceAdd, Nat.reduceLeDiff, hlen, hsl, c1_i, hi_i, hlena, e0, e3, e4, e5, k1, k2, k3, k4, k5, c1, hi, idxA, Int.toNat_natCast]; done))) | (refine W_condF ?hc ?_; (case hc => (simp (disch := omega) only [go_sem, ↓reduceIte, Nat.reduceEqDiff, Nat.reduceAdd, Nat.reduceLeDiff, hlen, hsl, c1_i, hi_i, hlena, e0, e3, e4, e5, k1, k2, k3, k4, k5, c1, hi, idxA, Int.toNat_natCast]; done))) | refine thenI ?_ | refine thenE ?_ | refine thenR ?_ | refine inBI ?_ | refine inBR ?_ | refine inBS ?_ | refine inBN (by decide) ?_)
          refine ⟨xs.length - (i + 1), by omega, i + 1, acc, .slice (some ⟨br, 0, none⟩) acc.length cr, L, rfl, by omega, hext, hown, hfr, htop, by rw [hnext, hins], (by (simp (disch := omega) only [go_sem, ↓reduceIte, Nat.reduceEqDiff, Nat.reduceAdd, Nat.reduceLeDiff, hlen, hsl, c1_i, hi_i, hlena, e0, e3, e4, e5, k1, k2, k3, k4, k5, c1, hi, idxA, Int.toNat_natCast]); try rfl), (by (simp (disch := omega) only [go_sem, ↓reduceIte, Nat.reduceEqDiff, Nat.reduceAdd, Nat.reduceLeDiff, hlen, hsl, c1_i, hi_i, hlena, e0, e3, e4, e5, k1, k2, k3, k4, k5, c1, hi, idxA, Int.toNat_natCast]); try rfl), (by (simp (disch := omega) only [go_sem, ↓reduceIte, Nat.reduceEqDiff, Nat.reduceAdd, Nat.reduceLeDiff, hlen, hsl, c1_i, hi_i, hlena, e0, e3, e4, e5, k1, k2, k3, k4, k5, c1, hi, idxA, Int.toNat_natCast]); try rfl)⟩
        | false =>
          rw [if_neg (by simpa using hq)] at hins
          repeat (first | ((first | refine W_reg rfl fun G K hG hK => ?_ | refine W_end rfl fun G K hG hK => ?_); simp (disch := omega) only [go_sem, ↓reduceIte, Nat.reduceEqDiff, Nat.reduceAdd, Nat.reduceLeDiff, hG, hlen, hsl, c1_i, hi_i, hlena, e0, e3, e4, e5, k1, k2, k3, k4, k5, c1, hi, idxA, Int.toNat_natCast, hq]; refine hK _ _ ?_; clear hK K hG G) | refine W_seqS ?_ | refine W_seqC ?_ | refine W_seqB ?_ | refine W_block ?_ | refine W_skip ?_ | (refine W_condT ?hc ?_; (case hc => (simp (disch := omega) only [go_sem, ↓reduceIte, Nat.reduceEqDiff, Nat.reduceAdd, Nat.reduceLeDiff, hlen, hsl, c1_i, hi_i, hlena, e0, e3, e4, e5, k1, k2, k3, k4, k5, c1, hi, idxA, Int.toNat_natCast, hq]; done))) | (refine W_condF ?hc ?_; (case hc => (simp (disch := omega) only [go_sem, ↓reduceIte, Nat.reduceEqDiff, Nat.reduceAdd, Nat.reduceLeDiff, hlen, hsl, c1_i, hi_i, hlena, e0, e3, e4, e5, k1, k2, k3, k4, k5, c1, hi, idxA, Int.toNat_natCast, hq]; done))) | refine thenI ?_ | refine thenE ?_ | refine thenR ?_ | refine inBI ?_ | refine inBR ?_ | refine inBS ?_ | refine inBN (by decide) ?_)
          (repeat (first | refine W_seqS ?_ | refine W_seqC ?_ | refine W_seqB ?_ | refine W_block ?_)); refine W_reg rfl fun G K hG hK => ?_; simp (disch := omega) only [go_sem, ↓reduceIte, Nat.reduceEqDiff, Nat.reduceAdd, Nat.reduceLeDiff, hG, hlen, hsl, c1_i, hi_i, hlena, e0, e3, e4, e5, k1, k2, k3, k4, k5, c1, hi, idxA, Int.toNat_natCast, w_slice, ev_slice, Bool.false_and, Option.map_none, a1, w_append, c1']
          refine hK _ _ ?_; clear hK K hG G; repeat (first | refine thenI ?_ | refine thenE ?_ | refine thenR ?_ | refine inBI ?_ | refine inBR ?_ | refine inBS ?_ | refine inBN (by decide) ?_)
          (repeat (first | refine W_seqS ?_ | refine W_seqC ?_ | refine W_seqB ?_ | refine W_block ?_)); refine W_reg rfl fun G K hG hK => ?_; simp (disch := omega) only [go_sem, ↓reduceIte, Nat.reduceEqDiff, Nat.reduceAdd, Nat.reduceLeDiff, hG, hlen, hsl, c1_i, hi_i, hlena, e0, e3, e4, e5, k1, k2, k3, k4, k5, c1, hi, idxA, Int.toNat_natCast, hce2, w_append, d1]
          refine hK _ _ ?_; clear hK K hG G; repeat (first | refine thenI ?_ | refine thenE ?_ | refine thenR ?_ | refine inBI ?_ | refine inBR ?_ | refine inBS ?_ | refine inBN (by decide) ?_)
          refine W_end rfl fun G K hG hK => ?_; simp (disch := omega) only [go_sem, ↓reduceIte, Nat.reduceEqDiff, Nat.reduceAdd, Nat.reduceLeDiff, hG, hlen, hsl, c1_i, hi_i, hlena, e0, e3, e4, e5, k1, k2, k3, k4, k5, c1, hi, idxA, Int.toNat_natCast, w_slice, ev_slice, Bool.false_and, Option.map_none, b1, w_append, ea]
          refine hK _ _ ?_; clear hK K hG G; repeat (first | refine thenI ?_ | refine thenE ?_ | refine thenR ?_ | refine inBI ?_ | refine inBR ?_ | refine inBS ?_ | refine inBN (by decide) ?_)
          repeat (first | ((first | refine W_reg rfl fun G K hG hK => ?_ | refine W_end rfl fun G K hG hK => ?_); simp (disch := omega) only [go_sem, ↓reduceIte, Nat.reduceEqDiff, Nat.reduceAdd, Nat.reduceLeDiff, hG, hlen, hsl, c1_i, hi_i, hlena, e0, e3, e4, e5, k1, k2, k3, k4, k5, c1, hi, idxA, Int.toNat_natCast]; refine hK _ _ ?_; clear hK K hG G) | refine W_seqS ?_ | refine W_seqC ?_ | refine W_seqB ?_ | refine W_block ?_ | refine W_skip ?_ | (refine W_condT ?hc ?_; (case hc => (simp (disch := omega) only [go_sem, ↓reduceIte, Nat.reduceEqDiff, Nat.reduceAdd, Nat.reduceLeDiff, hlen, hsl, c1_i, hi_i, hlena, e0, e3, e4, e5, k1, k2, k3, k4, k5, c1, hi, idxA, Int.toNat_natCast]; done))) | (refine W_condF ?hc ?_; (case hc => (simp (disch := omega) only [go_sem, ↓reduceIte, Nat.reduceEqDiff, Nat.reduceAdd, Nat.reduceLeDiff, hlen, hsl, c1_i, hi_i, hlena, e0, e3, e4, e5, k1, k2, k3, k4, k5, c1, hi, idxA, Int.toNat_natCast]; done))) | refine thenI ?_ | refine thenE ?_ | refine thenR ?_ | refine inBI ?_ | refine inBR ?_ | refine inBS ?_ | refine inBN (by decide) ?_)
          refine ⟨xs.length - (i + 1), by omega, i + 1, _, v3, L4, rfl, by omega, hext.trans f4, f1, f2, f5, by rw [hnext, hins], (by (simp (disch := omega) only [go_sem, ↓reduceIte, Nat.reduceEqDiff, Nat.reduceAdd, Nat.reduceLeDiff, hlen, hsl, c1_i, hi_i, hlena, e0, e3, e4, e5, k1, k2, k3, k4, k5, c1, hi, idxA, Int.toNat_natCast]); try rfl), (by (simp (disch := omega) only [go_sem, ↓reduceIte, Nat.reduceEqDiff, Nat.reduceAdd, Nat.reduceLeDiff, hlen, hsl, c1_i, hi_i, hlena, e0, e3, e4, e5, k1, k2, k3, k4, k5, c1, hi, idxA, Int.toNat_natCast]); try rfl), (by (simp (disch := omega) only [go_sem, ↓reduceIte, Nat.reduceEqDiff, Nat.reduceAdd, Nat.reduceLeDiff, hlen, hsl, c1_i, hi_i, hlena, e0, e3, e4, e5, k1, k2, k3, k4, k5, c1, hi, idxA, Int.toNat_natCast]); try rfl)⟩
    · have c1 : decide ((j : Int) < (acc.length : Int)) = false := by simpa using hlt
      have hjn : j = acc.length := by omega
      subst hjn
      rw [List.drop_length, insB_nil] at hins
      rw [List.drop_length] at f1
      repeat (first | ((first | refine W_reg rfl fun G K hG hK => ?_ | refine W_end rfl fun G K hG hK => ?_); simp (disch := omega) only [go_sem, ↓reduceIte, Nat.reduceEqDiff, Nat.reduceAdd, Nat.reduceLeDiff, hG, hlen, hsl, c1_i, hi_i, idxA, Int.toNat_natCast, hlena, e0, e3, e4, e5, c1]; refine hK _ _ ?_; clear hK K hG G) | refine W_seqS ?_ | refine W_seqC ?_ | refine W_seqB ?_ | refine W_block ?_ | refine W_skip ?_ | (refine W_condT ?hc ?_; (case hc => (simp (disch := omega) only [go_sem, ↓reduceIte, Nat.reduceEqDiff, Nat.reduceAdd, Nat.reduceLeDiff, hlen, hsl, c1_i, hi_i, idxA, Int.toNat_natCast, hlena, e0, e3, e4, e5, c1]; done))) | (refine W_condF ?hc ?_; (case hc => (simp (disch := omega) only [go_sem, ↓reduceIte, Nat.reduceEqDiff, Nat.reduceAdd, Nat.reduceLeDiff, hlen, hsl, c1_i, hi_i, idxA, Int.toNat_natCast, hlena, e0, e3, e4, e5, c1]; done))) | refine thenI ?_ | refine thenE ?_ | refine thenR ?_ | refine inBI ?_ | refine inBR ?_ | refine inBS ?_ | refine inBN (by decide) ?_)
      (repeat (first | refine W_seqS ?_ | refine W_seqC ?_ | refine W_seqB ?_ | refine W_block ?_)); refine W_regD mixed [] [(0,false),(1,false),(2,false),(3,false),(4,false),(5,false),(6,false),(7,false),(8,false),(9,false),(10,false),(11,false),(12,false),(13,false),(14,false)] rfl (by decide +kernel) fun G K hG hK => ?_; simp only [pickOps, List.filterMap_cons, List.filterMap_nil, List.getElem?_cons_zero, List.getElem?_cons_succ, Option.map_some]; simp (disch := omega) only [go_sem, ↓reduceIte, Nat.reduceEqDiff, Nat.reduceAdd, Nat.reduceLeDiff, hG, hlen, hsl, c1_i, hi_i, idxA, Int.toNat_natCast, hlena, e0, e3, e4, e5, c1]
      refine hK _ _ ?_; clear hK K hG G; repeat (first | refine thenI ?_ | refine thenE ?_ | refine thenR ?_ | refine inBI ?_ | refine inBR ?_ | refine inBS ?_ | refine inBN (by decide) ?_)
      repeat (first | ((first | refine W_reg rfl fun G K hG hK => ?_ | refine W_end rfl fun G K hG hK => ?_); simp (disch := omega) only [go_sem, ↓reduceIte, Nat.reduceEqDiff, Nat.reduceAdd, Nat.reduceLeDiff, hG, hlen, hsl, c1_i, hi_i, idxA, Int.toNat_natCast, hlena, e0, e3, e4, e5, c1]; refine hK _ _ ?_; clear hK K hG G) | refine W_seqS ?_ | refine W_seqC ?_ | refine W_seqB ?_ | refine W_block ?_ | refine W_skip ?_ | (refine W_condT ?hc ?_; (case hc => (simp (disch := omega) only [go_sem, ↓reduceIte, Nat.reduceEqDiff, Nat.reduceAdd, Nat.reduceLeDiff, hlen, hsl, c1_i, hi_i, idxA, Int.toNat_natCast, hlena, e0, e3, e4, e5, c1]; done))) | (refine W_condF ?hc ?_; (case hc => (simp (disch := omega) only [go_sem, ↓reduceIte, Nat.reduceEqDiff, Nat.reduceAdd, Nat.reduceLeDiff, hlen, hsl, c1_i, hi_i, idxA, Int.toNat_natCast, hlena, e0, e3, e4, e5, c1]; done))) | refine thenI ?_ | refine thenE ?_ | refine thenR ?_ | refine inBI ?_ | refine inBR ?_ | refine inBS ?_ | refine inBN (by decide) ?_)
      refine W_exit ?_; repeat (first | refine thenI ?_ | refine thenE ?_ | refine thenR ?_ | refine inBI ?_ | refine inBR ?_ | refine inBS ?_ | refine inBN (by decide) ?_)
      (repeat (first | refine W_seqS ?_ | refine W_seqC ?_ | refine W_seqB ?_ | refine W_block ?_)); refine W_regD mixed [] [(0,false),(1,false),(2,false),(3,false),(4,false),(5,false),(6,false),(7,false),(8,false),(9,false),(10,false),(11,false),(12,false),(13,false),(14,false)] rfl (by decide +kernel) fun G K hG hK => ?_; simp only [pickOps, List.filterMap_cons, List.filterMap_nil, List.getElem?_cons_zero, List.getElem?_cons_succ, Option.map_some]; simp (disch := omega) only [go_sem, ↓reduceIte, Nat.reduceEqDiff, Nat.reduceAdd, Nat.reduceLeDiff, hG, hlen, hsl, c1_i, hi_i, idxA, Int.toNat_natCast, hlena, e0, e3, e4, e5, c1]
      refine hK _ _ ?_; clear hK K hG G; repeat (first | refine thenI ?_ | refine thenE ?_ | refine thenR ?_ | refine inBI ?_ | refine inBR ?_ | refine inBS ?_ | refine inBN (by decide) ?_)
      repeat (first | ((first | refine W_reg rfl fun G K hG hK => ?_ | refine W_end rfl fun G K hG hK => ?_); simp (disch := omega) only [go_sem, ↓reduceIte, Nat.reduceEqDiff, Nat.reduceAdd, Nat.reduceLeDiff, hG, hlen, hsl, c1_i, hi_i, idxA, Int.toNat_natCast, hlena, e0, e3, e4, e5, c1]; refine hK _ _ ?_; clear hK K hG G) | refine W_seqS ?_ | refine W_seqC ?_ | refine W_seqB ?_ | refine W_block ?_ | refine W_skip ?_ | (refine W_condT ?hc ?_; (case hc => (simp (disch := omega) only [go_sem, ↓reduceIte, Nat.reduceEqDiff, Nat.reduceAdd, Nat.reduceLeDiff, hlen, hsl, c1_i, hi_i, idxA, Int.toNat_natCast, hlena, e0, e3, e4, e5, c1]; done))) | (refine W_condF ?hc ?_; (case hc => (simp (disch := omega) only [go_sem, ↓reduceIte, Nat.reduceEqDiff, Nat.reduceAdd, Nat.reduceLeDiff, hlen, hsl, c1_i, hi_i, idxA, Int.toNat_natCast, hlena, e0, e3, e4, e5, c1]; done))) | refine thenI ?_ | refine thenE ?_ | refine thenR ?_ | refine inBI ?_ | refine inBR ?_ | refine inBS ?_ | refine inBN (by decide) ?_)
      (repeat (first | refine W_seqS ?_ | refine W_seqC ?_ | refine W_seqB ?_ | refine W_block ?_)); refine W_reg rfl fun G K hG hK => ?_; simp (disch := omega) only [go_sem, ↓reduceIte, Nat.reduceEqDiff, Nat.reduceAdd, Nat.reduceLeDiff, hG, hlen, hsl, c1_i, hi_i, idxA, Int.toNat_natCast, hlena, e0, e3, e4, e5, c1, w_slice, ev_slice, Bool.false_and, Option.map_none, a1, w_append, c1']
      refine hK _ _ ?_; clear hK K hG G; repeat (first | refine thenI ?_ | refine thenE ?_ | refine thenR ?_ | refine inBI ?_ | refine inBR ?_ | refine inBS ?_ | refine inBN (by decide) ?_)
      (repeat (first | refine W_seqS ?_ | refine W_seqC ?_ | refine W_seqB ?_ | refine W_block ?_)); refine W_reg rfl fun G K hG hK => ?_; simp (disch := omega) only [go_sem, ↓reduceIte, Nat.reduceEqDiff, Nat.reduceAdd, Nat.reduceLeDiff, hG, hlen, hsl, c1_i, hi_i, idxA, Int.toNat_natCast, hlena, e0, e3, e4, e5, c1, hce2, w_append, d1]
      refine hK _ _ ?_; clear hK K hG G; repeat (first | refine thenI ?_ | refine thenE ?_ | refine thenR ?_ | refine inBI ?_ | refine inBR ?_ | refine inBS ?_ | refine inBN (by decide) ?_)
      refine W_end rfl fun G K hG hK => ?_; simp (disch := omega) only [go_sem, ↓reduceIte, Nat.reduceEqDiff, Nat.reduceAdd, Nat.reduceLeDiff, hG, hlen, hsl, c1_i, hi_i, idxA, Int.toNat_natCast, hlena, e0, e3, e4, e5, c1, w_slice, ev_slice, Bool.false_and, Option.map_none, b1, w_append, ea]
      refine hK _ _ ?_; clear hK K hG G; repeat (first | refine thenI ?_ | refine thenE ?_ | refine thenR ?_ | refine inBI ?_ | refine inBR ?_ | refine inBS ?_ | refine inBN (by decide) ?_)
      repeat (first | ((first | refine W_reg rfl fun G K hG hK => ?_ | refine W_end rfl fun G K hG hK => ?_); simp (disch := omega) only [go_sem, ↓reduceIte, Nat.reduceEqDiff, Nat.reduceAdd, Nat.reduceLeDiff, hG, hlen, hsl, c1_i, hi_i, idxA, Int.toNat_natCast, hlena, e0, e3, e4, e5, c1]; refine hK _ _ ?_; clear hK K hG G) | refine W_seqS ?_ | refine W_seqC ?_ | refine W_seqB ?_ | refine W_block ?_ | refine W_skip ?_ | (refine W_condT ?hc ?_; (case hc => (simp (disch := omega) only [go_sem, ↓reduceIte, Nat.reduceEqDiff, Nat.reduceAdd, Nat.reduceLeDiff, hlen, hsl, c1_i, hi_i, idxA, Int.toNat_natCast, hlena, e0, e3, e4, e5, c1]; done))) | (refine W_condF ?hc ?_; (case hc => (simp (disch := omega) only [go_sem, ↓reduceIte, Nat.reduceEqDiff, Nat.reduceAdd, Nat.reduceLeDiff, hlen, hsl, c1_i, hi_i, idxA, Int.toNat_natCast, hlena, e0, e3, e4, e5, c1]; done))) | refine thenI ?_ | refine thenE ?_ | refine thenR ?_ | refine inBI ?_ | refine inBR ?_ | refine inBS ?_ | refine inBN (by decide) ?_)
      refine ⟨xs.length - (i + 1), by omega, i + 1, _, v3, L4, rfl, by omega, hext.trans f4, f1, f2, f5, by rw [hnext, hins], (by (simp (disch := omega) only [go_sem, ↓reduceIte, Nat.reduceEqDiff, Nat.reduceAdd, Nat.reduceLeDiff, hlen, hsl, c1_i, hi_i, idxA, Int.toNat_natCast, hlena, e0, e3, e4, e5, c1]); try rfl), (by (simp (disch := omega) only [go_sem, ↓reduceIte, Nat.reduceEqDiff, Nat.reduceAdd, Nat.reduceLeDiff, hlen, hsl, c1_i, hi_i, idxA, Int.toNat_natCast, hlena, e0, e3, e4, e5, c1]); try rfl), (by (simp (disch := omega) only [go_sem, ↓reduceIte, Nat.reduceEqDiff, Nat.reduceAdd, Nat.reduceLeDiff, hlen, hsl, c1_i, hi_i, idxA, Int.toNat_natCast, hlena, e0, e3, e4, e5, c1]); try rfl)⟩
  · have c1_i : decide ((i : Int) < (xs.length : Int)) = false := by simpa using hlt_i
    have hjn_i : i = xs.length := by omega
    subst hjn_i
    repeat (first | ((first | refine W_reg rfl fun G K hG hK => ?_ | refine W_end rfl fun G K hG hK => ?_); simp (disch := omega) only [go_sem, ↓reduceIte, Nat.reduceEqDiff, Nat.reduceAdd, Nat.reduceLeDiff, hG, hlen, hsl, e0, e3, e4, c1_i]; refine hK _ _ ?_; clear hK K hG G) | refine W_seqS ?_ | refine W_seqC ?_ | refine W_seqB ?_ | refine W_block ?_ | refine W_skip ?_ | (refine W_condT ?hc ?_; (case hc => (simp (disch := omega) only [go_sem, ↓reduceIte, Nat.reduceEqDiff, Nat.reduceAdd, Nat.reduceLeDiff, hlen, hsl, e0, e3, e4, c1_i]; done))) | (refine W_condF ?hc ?_; (case hc => (simp (disch := omega) only [go_sem, ↓reduceIte, Nat.reduceEqDiff, Nat.reduceAdd, Nat.reduceLeDiff, hlen, hsl, e0, e3, e4, c1_i]; done))) | refine thenI ?_ | refine thenE ?_ | refine thenR ?_ | refine inBI ?_ | refine inBR ?_ | refine inBS ?_ | refine inBN (by decide) ?_)
    refine W_exit ?_; repeat (first | refine thenI ?_ | refine thenE ?_ | refine thenR ?_ | refine inBI ?_ | refine inBR ?_ | refine inBS ?_ | refine inBN (by decide) ?_)
    repeat (first | ((first | refine W_reg rfl fun G K hG hK => ?_ | refine W_end rfl fun G K hG hK => ?_); simp (disch := omega) only [go_sem, ↓reduceIte, Nat.reduceEqDiff, Nat.reduceAdd, Nat.reduceLeDiff, hG, hlen, hsl, e0, e3, e4, c1_i]; refine hK _ _ ?_; clear hK K hG G) | refine W_seqS ?_ | refine W_seqC ?_ | refine W_seqB ?_ | refine W_block ?_ | refine W_skip ?_ | (refine W_condT ?hc ?_; (case hc => (simp (disch := omega) only [go_sem, ↓reduceIte, Nat.reduceEqDiff, Nat.reduceAdd, Nat.reduceLeDiff, hlen, hsl, e0, e3, e4, c1_i]; done))) | (refine W_condF ?hc ?_; (case hc => (simp (disch := omega) only [go_sem, ↓reduceIte, Nat.reduceEqDiff, Nat.reduceAdd, Nat.reduceLeDiff, hlen, hsl, e0, e3, e4, c1_i]; done))) | refine thenI ?_ | refine thenE ?_ | refine thenR ?_ | refine inBI ?_ | refine inBR ?_ | refine inBS ?_ | refine inBN (by decide) ?_)
    rw [List.take_length, foldB_names] at hacc
    subst hacc
    refine W_ret ?_; try (repeat (first | refine thenI ?_ | refine thenE ?_ | refine thenR ?_ | refine inBI ?_ | refine inBR ?_ | refine inBS ?_ | refine inBN (by decide) ?_))
    refine fin1 (.inl rfl) (by (simp (disch := omega) only [go_sem, ↓reduceIte, Nat.reduceEqDiff, Nat.reduceAdd, Nat.reduceLeDiff, hlen, hsl, e0, e3, e4, c1_i]); try rfl) hown.loc ⟨hext, L, hown, hfr⟩

end

section
/- What a pattern's variables take: spec.l3Vars, spec.VarsOfTerm, spec.RestrictSubst, spec.MatchTerm, IsInstance and IsVariant on both sides. -/
open Go Go.Proofs
set_option linter.unusedVariables false
set_option linter.unusedSimpArgs false
set_option maxRecDepth 100000
-- AUTO

mutual
def T.vars : T → List ByteArray
  | .mk k _ nm xs => (if (k == 1) = true then [nm] else []) ++ T.varsL xs
def T.varsL : List T → List ByteArray
  | [] => []
  | x :: xs => T.vars x ++ T.varsL xs
end
theorem T.vars_mk {k n : Int} {nm : ByteArray} {xs : List T} : T.vars (.mk k n nm xs) = (if (k == 1) = true then [nm] else []) ++ T.varsL xs := by simp only [T.vars]
theorem T.varsL_snoc (xs : List T) (x : T) : T.varsL (xs ++ [x]) = T.varsL xs ++ T.vars x := by
  induction xs with
  | nil => simp [T.varsL]
  | cons y ys ih => simp only [List.cons_append, T.varsL, ih, List.append_assoc]
theorem T.varsL_take {xs : List T} {j : Nat} (h : j < xs.length) : T.varsL (xs.take (j + 1)) = T.varsL (xs.take j) ++ T.vars xs[j] := by
  rw [List.take_succ_eq_append_getElem h, T.varsL_snoc]
theorem T.varsL_len0 : ∀ ys : List T, (∀ y ∈ ys, (T.vars y).length ≤ y.wt + 1) → (T.varsL ys).length ≤ T.wtL ys + ys.length := by
  intro ys
  induction ys with
  | nil => intro _; simp [T.varsL]
  | cons y ys ihy =>
    intro h
    have h1 := h y (by simp)
    have h2 := ihy fun z hz => h z (by simp [hz])
    simp only [T.varsL, List.length_append, T.wtL, List.length_cons]
    omega
theorem T.vars_len : ∀ t : T, (T.vars t).length ≤ t.wt + 1 := by
  refine T.ind fun k n nm xs ih => ?_
  have h1 := T.varsL_len0 xs ih
  rw [T.vars_mk]
  simp only [T.wt, List.length_append]
  split <;> simp <;> omega
theorem T.varsL_len (ys : List T) : (T.varsL ys).length ≤ T.wtL ys + ys.length := T.varsL_len0 ys fun y _ => T.vars_len y
theorem T.wtL_app (xs ys : List T) : T.wtL (xs ++ ys) = T.wtL xs + T.wtL ys := by
  induction xs with
  | nil => simp [T.wtL]
  | cons x xs ih => simp only [List.cons_append, T.wtL, ih]; omega
theorem T.vars_room {xs : List T} {j : Nat} (h : j < xs.length) : (T.varsL (xs.take j)).length + xs[j].wt + 1 ≤ T.wtL xs + xs.length := by
  have h1 := T.varsL_len (xs.take j)
  have h2 := T.wtL_app (xs.take j) (xs.drop j)
  rw [List.take_append_drop, List.drop_eq_getElem_cons h] at h2
  simp only [T.wtL] at h2
  simp only [List.length_take] at h1
  omega
/-- The bindings of some names. -/
def restr (bs : List Bnd) (ns : List ByteArray) : List Bnd := ns.filterMap fun n => (findB n bs).map fun t => ⟨n, t⟩
theorem restr_len (bs : List Bnd) (ns : List ByteArray) : (restr bs ns).length ≤ ns.length := List.length_filterMap_le _ _
theorem restr_none {bs : List Bnd} {ns : List ByteArray} {n : ByteArray} (h : (findB n bs).isSome = false) : restr bs (ns ++ [n]) = restr bs ns := by
  unfold restr
  rw [List.filterMap_append]
  cases hf : findB n bs with
  | none => simp [hf]
  | some t => rw [hf] at h; cases h
theorem restr_some {bs : List Bnd} {ns : List ByteArray} {n : ByteArray} (h : (findB n bs).isSome = true) : restr bs (ns ++ [n]) = restr bs ns ++ [⟨n, findD n bs⟩] := by
  unfold restr findD
  rw [List.filterMap_append]
  cases hf : findB n bs with
  | none => rw [hf] at h; cases h
  | some t => simp [hf]

/-- A row stays where another block alone has turned. -/
theorem Sl.away {α : Type} [Kind α] {a b : St} {xs : List α} {s : Value} {L : List Nat} {k : Option Nat} {n m : Nat} (h : Sl a xs s L) (hw : Away k a b) (hL : ∀ i ∈ L, n ≤ i ∧ i < m) (hk : ∀ q, k = some q → q < n ∨ m ≤ q) : Sl b xs s L :=
  h.frame fun i hi => hw.2 i (h.lt i hi) fun e => by
    have h1 := hL i hi
    have h2 := hk i e
    omega
theorem specRestr_ok (bs : List Bnd) (ns : List ByteArray) (st : St) (sb sn : Value) (hbb : bs.length ≤ 4611686018427387904) (hl : ∀ b ∈ bs, Lim 1073741824 b.tm) (hbn : ns.length ≤ 1073741824) (hrb : Rw st bs sb) (hrn : Rw st ns sn) :
    CallS Try.prog 16 [sb, sn] st fun r st2 => Ext st st2 ∧ ∃ L, Sl st2 (restr bs (namesB ns)) r L ∧ Fresh st.length L := by
  refine CallS_of_W [] 39 Try.func16 rfl rfl rfl rfl (by simp) ?_
  have q1 := hrb.notLoc.1
  have q2 := hrn.notLoc.1
  repeat (first | ((first | refine W_reg rfl fun G K hG hK => ?_ | refine W_end rfl fun G K hG hK => ?_); simp (disch := omega) only [go_sem, ↓reduceIte, Nat.reduceEqDiff, Nat.reduceAdd, Nat.reduceLeDiff, hG, q1, q2]; refine hK _ _ ?_; clear hK K hG G) | refine W_seqS ?_ | refine W_seqC ?_ | refine W_seqB ?_ | refine W_block ?_ | refine W_skip ?_ | (refine W_condT ?hc ?_; (case hc => (simp (disch := omega) only [go_sem, ↓reduceIte, Nat.reduceEqDiff, Nat.reduceAdd, Nat.reduceLeDiff, q1, q2]; done))) | (refine W_condF ?hc ?_; (case hc => (simp (disch := omega) only [go_sem, ↓reduceIte, Nat.reduceEqDiff, Nat.reduceAdd, Nat.reduceLeDiff, q1, q2]; done))) | refine thenI ?_ | refine thenE ?_ | refine thenR ?_ | refine inBI ?_ | refine inBR ?_ | refine inBS ?_ | refine inBN (by decide) ?_)
  (repeat (first | refine W_seqS ?_ | refine W_seqC ?_ | refine W_seqB ?_ | refine W_block ?_)); refine W_reg rfl fun G K hG hK => ?_; simp (disch := omega) only [go_sem, ↓reduceIte, Nat.reduceEqDiff, Nat.reduceAdd, Nat.reduceLeDiff, hG, q1, q2]
  refine w_call (specSort_ok ns (st ++ [⟨[], 54, 0⟩]) sn hbn (hrn.ext (Ext.app _ _))) (by simp (disch := omega) only [go_sem, ↓reduceIte, Nat.reduceEqDiff, q1, q2]) ?hl ?_
  case hl => first | rfl | (simp only [go_sem, List.all_cons, List.all_nil, Bool.not_false, Bool.and_self, q1, q2]; done)
  rintro r_ sa ⟨x1, L1, hs1, hf1⟩; refine ⟨fun e => (by cases e), ?_⟩
  have hx1 := (Ext.app st [⟨[], 54, 0⟩]).trans x1
  have hse := (Sl.empty (α := Bnd) st).ext x1
  have hro := hs1.row
  have hnl := names_length ns
  have o1 := hs1.loc
  have hlen : lenE Try.prog 45 r_ = some (.int .i64 (namesB ns).length) := row_len hro Try.underlying45
  have hL1 : ∀ i ∈ L1, st.length + 1 ≤ i ∧ i < sa.length := fun i hi => ⟨by have := hf1.2 i hi; simpa using this, hs1.lt i hi⟩
  obtain ⟨ms, hms⟩ : ∃ ms, ms = namesB ns := ⟨_, rfl⟩
  rw [← hms] at hs1 hnl hlen
  clear hro
  simp (disch := omega) only [go_sem, ↓reduceIte, Nat.reduceEqDiff, Nat.reduceAdd, Nat.reduceLeDiff, hG, q1, q2, o1, hlen]; refine hK _ _ ?_; clear hK K hG G; repeat (first | refine thenI ?_ | refine thenE ?_ | refine thenR ?_ | refine inBI ?_ | refine inBR ?_ | refine inBS ?_ | refine inBN (by decide) ?_)
  repeat (first | ((first | refine W_reg rfl fun G K hG hK => ?_ | refine W_end rfl fun G K hG hK => ?_); simp (disch := omega) only [go_sem, ↓reduceIte, Nat.reduceEqDiff, Nat.reduceAdd, Nat.reduceLeDiff, hG, q1, q2, o1, hlen]; refine hK _ _ ?_; clear hK K hG G) | refine W_seqS ?_ | refine W_seqC ?_ | refine W_seqB ?_ | refine W_block ?_ | refine W_skip ?_ | (refine W_condT ?hc ?_; (case hc => (simp (disch := omega) only [go_sem, ↓reduceIte, Nat.reduceEqDiff, Nat.reduceAdd, Nat.reduceLeDiff, q1, q2, o1, hlen]; done))) | (refine W_condF ?hc ?_; (case hc => (simp (disch := omega) only [go_sem, ↓reduceIte, Nat.reduceEqDiff, Nat.reduceAdd, Nat.reduceLeDiff, q1, q2, o1, hlen]; done))) | refine thenI ?_ | refine thenE ?_ | refine thenR ?_ | refine inBI ?_ | refine inBR ?_ | refine inBS ?_ | refine inBN (by decide) ?_)
  refine W_loop (fun d fr st' => ∃ (j : Nat) (r : Value) (L : List Nat), d = ms.length - j ∧ j ≤ ms.length ∧ (Ext st st') ∧ (Sl st' (restr bs (ms.take j)) r L) ∧ (Fresh st.length L) ∧ ((∀ q, topId r = some q → st.length ≤ q ∧ (q < st.length + 1 ∨ sa.length ≤ q))) ∧ (Sl st' ms r_ L1) ∧ (sa.length ≤ st'.length) ∧ (fr.env 0 = sb) ∧ (fr.env 5 = r) ∧ (fr.env 6 = r_) ∧ (fr.env 7 = .int .i64 j)) (ms.length) ?_ ?_
  · exact ⟨0, _, _, by omega, by omega, hx1, hse, ⟨by simp, by simp⟩, (fun q hq => by simp only [topId, Option.some.injEq] at hq; omega), hs1, Nat.le_refl _, (by (simp (disch := omega) only [go_sem, ↓reduceIte, Nat.reduceEqDiff, Nat.reduceAdd, Nat.reduceLeDiff, q1, q2, o1, hlen]); try rfl), (by (simp (disch := omega) only [go_sem, ↓reduceIte, Nat.reduceEqDiff, Nat.reduceAdd, Nat.reduceLeDiff, q1, q2, o1, hlen]); try rfl), (by (simp (disch := omega) only [go_sem, ↓reduceIte, Nat.reduceEqDiff, Nat.reduceAdd, Nat.reduceLeDiff, q1, q2, o1, hlen]); try rfl), (by (simp (disch := omega) only [go_sem, ↓reduceIte, Nat.reduceEqDiff, Nat.reduceAdd, Nat.reduceLeDiff, q1, q2, o1, hlen]); try rfl)⟩
  rintro d ⟨env, loc⟩ st' ⟨j, r, L, hd, hj, hext, hown, hfr, htop, hnm, hsl, e0, e5, e6, e7⟩
  simp only at e0 e5 e6 e7
  by_cases hlt : j < ms.length
  · have c1 : decide ((j : Int) < (ms.length : Int)) = true := by simpa using hlt
    have hi := idxOk hlt
    have hx : ms[j]? = some ms[j] := List.getElem?_eq_getElem hlt
    have htk : ms.take (j + 1) = ms.take j ++ [ms[j]] := List.take_succ_eq_append_getElem hlt
    obtain ⟨i, o, c, hro, hce⟩ := row_atS hnm.row hx
    subst hro
    have ol := hown.loc
    have hl1 := hext.length
    have hrl := restr_len bs (ms.take j)
    rw [List.length_take] at hrl
    repeat (first | ((first | refine W_reg rfl fun G K hG hK => ?_ | refine W_end rfl fun G K hG hK => ?_); simp (disch := omega) only [go_sem, ↓reduceIte, Nat.reduceEqDiff, Nat.reduceAdd, Nat.reduceLeDiff, hG, q1, q2, o1, hlen, e0, e5, e6, e7, c1, hi, idxA, Int.toNat_natCast, ol]; refine hK _ _ ?_; clear hK K hG G) | refine W_seqS ?_ | refine W_seqC ?_ | refine W_seqB ?_ | refine W_block ?_ | refine W_skip ?_ | (refine W_condT ?hc ?_; (case hc => (simp (disch := omega) only [go_sem, ↓reduceIte, Nat.reduceEqDiff, Nat.reduceAdd, Nat.reduceLeDiff, q1, q2, o1, hlen, e0, e5, e6, e7, c1, hi, idxA, Int.toNat_natCast, ol]; done))) | (refine W_condF ?hc ?_; (case hc => (simp (disch := omega) only [go_sem, ↓reduceIte, Nat.reduceEqDiff, Nat.reduceAdd, Nat.reduceLeDiff, q1, q2, o1, hlen, e0, e5, e6, e7, c1, hi, idxA, Int.toNat_natCast, ol]; done))) | refine thenI ?_ | refine thenE ?_ | refine thenR ?_ | refine inBI ?_ | refine inBR ?_ | refine inBS ?_ | refine inBN (by decide) ?_)
    (repeat (first | refine W_seqS ?_ | refine W_seqC ?_ | refine W_seqB ?_ | refine W_block ?_)); refine W_reg rfl fun G K hG hK => ?_; simp (disch := omega) only [go_sem, ↓reduceIte, Nat.reduceEqDiff, Nat.reduceAdd, Nat.reduceLeDiff, hG, q1, q2, o1, hlen, e0, e5, e6, e7, c1, hi, idxA, Int.toNat_natCast, ol, hce]
    refine w_call (specFind_ok bs ms[j] st' sb hbb hl (hrb.ext hext)) (by simp (disch := omega) only [go_sem, ↓reduceIte, Nat.reduceEqDiff, q1, q2, o1, hlen, e0, e5, e6, e7, c1, hi, idxA, Int.toNat_natCast, ol]) ?hl ?_
    case hl => first | rfl | (simp only [go_sem, List.all_cons, List.all_nil, Bool.not_false, Bool.and_self, q1, q2, o1, hlen, e0, e5, e6, e7, c1, hi, idxA, Int.toNat_natCast, ol]; done)
    rintro r_ sc ⟨x2, ds, Lx, rfl, hox, hfx⟩; refine ⟨fun e => (by cases e), ?_⟩
    obtain ⟨k1, n1, m1, s1, rfl, a1, a2, a3⟩ := hox.args_cells
    have hce2 := cell_ext x2 hce
    simp (disch := omega) only [go_sem, ↓reduceIte, Nat.reduceEqDiff, Nat.reduceAdd, Nat.reduceLeDiff, hG, q1, q2, o1, hlen, e0, e5, e6, e7, c1, hi, idxA, Int.toNat_natCast, ol, a1, a2, a3]; refine hK _ _ ?_; clear hK K hG G; repeat (first | refine thenI ?_ | refine thenE ?_ | refine thenR ?_ | refine inBI ?_ | refine inBR ?_ | refine inBS ?_ | refine inBN (by decide) ?_)
    have hl2 := x2.length
    cases hq : (findB ms[j] bs).isSome with
    | false =>
      repeat (first | ((first | refine W_reg rfl fun G K hG hK => ?_ | refine W_end rfl fun G K hG hK => ?_); simp (disch := omega) only [go_sem, ↓reduceIte, Nat.reduceEqDiff, Nat.reduceAdd, Nat.reduceLeDiff, hG, q1, q2, o1, hlen, e0, e5, e6, e7, c1, hi, idxA, Int.toNat_natCast, ol, a1, a2, a3]; refine hK _ _ ?_; clear hK K hG G) | refine W_seqS ?_ | refine W_seqC ?_ | refine W_seqB ?_ | refine W_block ?_ | refine W_skip ?_ | (refine W_condT ?hc ?_; (case hc => (simp (disch := omega) only [go_sem, ↓reduceIte, Nat.reduceEqDiff, Nat.reduceAdd, Nat.reduceLeDiff, q1, q2, o1, hlen, e0, e5, e6, e7, c1, hi, idxA, Int.toNat_natCast, ol, a1, a2, a3]; done))) | (refine W_condF ?hc ?_; (case hc => (simp (disch := omega) only [go_sem, ↓reduceIte, Nat.reduceEqDiff, Nat.reduceAdd, Nat.reduceLeDiff, q1, q2, o1, hlen, e0, e5, e6, e7, c1, hi, idxA, Int.toNat_natCast, ol, a1, a2, a3]; done))) | refine thenI ?_ | refine thenE ?_ | refine thenR ?_ | refine inBI ?_ | refine inBR ?_ | refine inBS ?_ | refine inBN (by decide) ?_)
      refine ⟨ms.length - (j + 1), by omega, j + 1, r, L, rfl, by omega, hext.trans x2, by rw [htk, restr_none hq]; exact hown.ext x2, hfr, htop, hnm.ext x2, by omega, (by (simp (disch := omega) only [go_sem, ↓reduceIte, Nat.reduceEqDiff, Nat.reduceAdd, Nat.reduceLeDiff, q1, q2, o1, hlen, e0, e5, e6, e7, c1, hi, idxA, Int.toNat_natCast, ol, a1, a2, a3]); try rfl), (by (simp (disch := omega) only [go_sem, ↓reduceIte, Nat.reduceEqDiff, Nat.reduceAdd, Nat.reduceLeDiff, q1, q2, o1, hlen, e0, e5, e6, e7, c1, hi, idxA, Int.toNat_natCast, ol, a1, a2, a3]); try rfl), (by (simp (disch := omega) only [go_sem, ↓reduceIte, Nat.reduceEqDiff, Nat.reduceAdd, Nat.reduceLeDiff, q1, q2, o1, hlen, e0, e5, e6, e7, c1, hi, idxA, Int.toNat_natCast, ol, a1, a2, a3]); try rfl), (by (simp (disch := omega) only [go_sem, ↓reduceIte, Nat.reduceEqDiff, Nat.reduceAdd, Nat.reduceLeDiff, q1, q2, o1, hlen, e0, e5, e6, e7, c1, hi, idxA, Int.toNat_natCast, ol, a1, a2, a3]); try rfl)⟩
    | true =>
      obtain ⟨r', sd, L', hap, hown', hfr', hg⟩ := OwnB.step (x := ⟨ms[j], findD ms[j] bs⟩) hown hfr (by omega) x2 ⟨_, rfl, hox⟩ hfx (by omega)
      have ol' := hown'.loc
      have hl3 := hg.away.1
      have htop' : ∀ q, topId r' = some q → st.length ≤ q ∧ (q < st.length + 1 ∨ sa.length ≤ q) := fun q hq => by
        rcases hg.top with h | ⟨m, h, h'⟩
        · exact htop q (h ▸ hq)
        · rw [h'] at hq; cases hq; omega
      repeat (first | ((first | refine W_reg rfl fun G K hG hK => ?_ | refine W_end rfl fun G K hG hK => ?_); simp (disch := omega) only [go_sem, ↓reduceIte, Nat.reduceEqDiff, Nat.reduceAdd, Nat.reduceLeDiff, hG, q1, q2, o1, hlen, e0, e5, e6, e7, c1, hi, idxA, Int.toNat_natCast, ol, a1, a2, a3]; refine hK _ _ ?_; clear hK K hG G) | refine W_seqS ?_ | refine W_seqC ?_ | refine W_seqB ?_ | refine W_block ?_ | refine W_skip ?_ | (refine W_condT ?hc ?_; (case hc => (simp (disch := omega) only [go_sem, ↓reduceIte, Nat.reduceEqDiff, Nat.reduceAdd, Nat.reduceLeDiff, q1, q2, o1, hlen, e0, e5, e6, e7, c1, hi, idxA, Int.toNat_natCast, ol, a1, a2, a3]; done))) | (refine W_condF ?hc ?_; (case hc => (simp (disch := omega) only [go_sem, ↓reduceIte, Nat.reduceEqDiff, Nat.reduceAdd, Nat.reduceLeDiff, q1, q2, o1, hlen, e0, e5, e6, e7, c1, hi, idxA, Int.toNat_natCast, ol, a1, a2, a3]; done))) | refine thenI ?_ | refine thenE ?_ | refine thenR ?_ | refine inBI ?_ | refine inBR ?_ | refine inBS ?_ | refine inBN (by decide) ?_)
      refine W_endD mixed [] [(0,false),(1,false),(2,false),(3,false),(4,false),(5,false),(6,false),(7,false),(8,false),(9,false)] rfl (by decide +kernel) fun G K hG hK => ?_; simp only [pickOps, List.filterMap_cons, List.filterMap_nil, List.getElem?_cons_zero, List.getElem?_cons_succ, Option.map_some]; simp (disch := omega) only [go_sem, ↓reduceIte, Nat.reduceEqDiff, Nat.reduceAdd, Nat.reduceLeDiff, hG, q1, q2, o1, hlen, e0, e5, e6, e7, c1, hi, idxA, Int.toNat_natCast, ol, a1, a2, a3, hce2, w_append, hap, ol']
      refine hK _ _ ?_; clear hK K hG G; repeat (first | refine thenI ?_ | refine thenE ?_ | refine thenR ?_ | refine inBI ?_ | refine inBR ?_ | refine inBS ?_ | refine inBN (by decide) ?_)
      repeat (first | ((first | refine W_reg rfl fun G K hG hK => ?_ | refine W_end rfl fun G K hG hK => ?_); simp (disch := omega) only [go_sem, ↓reduceIte, Nat.reduceEqDiff, Nat.reduceAdd, Nat.reduceLeDiff, hG, q1, q2, o1, hlen, e0, e5, e6, e7, c1, hi, idxA, Int.toNat_natCast, ol, a1, a2, a3]; refine hK _ _ ?_; clear hK K hG G) | refine W_seqS ?_ | refine W_seqC ?_ | refine W_seqB ?_ | refine W_block ?_ | refine W_skip ?_ | (refine W_condT ?hc ?_; (case hc => (simp (disch := omega) only [go_sem, ↓reduceIte, Nat.reduceEqDiff, Nat.reduceAdd, Nat.reduceLeDiff, q1, q2, o1, hlen, e0, e5, e6, e7, c1, hi, idxA, Int.toNat_natCast, ol, a1, a2, a3]; done))) | (refine W_condF ?hc ?_; (case hc => (simp (disch := omega) only [go_sem, ↓reduceIte, Nat.reduceEqDiff, Nat.reduceAdd, Nat.reduceLeDiff, q1, q2, o1, hlen, e0, e5, e6, e7, c1, hi, idxA, Int.toNat_natCast, ol, a1, a2, a3]; done))) | refine thenI ?_ | refine thenE ?_ | refine thenR ?_ | refine inBI ?_ | refine inBR ?_ | refine inBS ?_ | refine inBN (by decide) ?_)
      refine ⟨ms.length - (j + 1), by omega, j + 1, r', L', rfl, by omega, hg.away.ext_of hext (hown.top hfr), by rw [htk, restr_some hq]; exact hown', hfr', htop', hnm.away hg.away hL1 (fun q hq => (htop q hq).2), by omega, (by (simp (disch := omega) only [go_sem, ↓reduceIte, Nat.reduceEqDiff, Nat.reduceAdd, Nat.reduceLeDiff, q1, q2, o1, hlen, e0, e5, e6, e7, c1, hi, idxA, Int.toNat_natCast, ol, a1, a2, a3]); try rfl), (by (simp (disch := omega) only [go_sem, ↓reduceIte, Nat.reduceEqDiff, Nat.reduceAdd, Nat.reduceLeDiff, q1, q2, o1, hlen, e0, e5, e6, e7, c1, hi, idxA, Int.toNat_natCast, ol, a1, a2, a3]); try rfl), (by (simp (disch := omega) only [go_sem, ↓reduceIte, Nat.reduceEqDiff, Nat.reduceAdd, Nat.reduceLeDiff, q1, q2, o1, hlen, e0, e5, e6, e7, c1, hi, idxA, Int.toNat_natCast, ol, a1, a2, a3]); try rfl), (by (simp (disch := omega) only [go_sem, ↓reduceIte, Nat.reduceEqDiff, Nat.reduceAdd, Nat.reduceLeDiff, q1, q2, o1, hlen, e0, e5, e6, e7, c1, hi, idxA, Int.toNat_natCast, ol, a1, a2, a3]); try rfl)⟩
  · have c1 : decide ((j : Int) < (ms.length : Int)) = false := by simpa using hlt
    have hjn : j = ms.length := by omega
    subst hjn
    rw [List.take_length] at hown
    have ol := hown.loc
    repeat (first | ((first | refine W_reg rfl fun G K hG hK => ?_ | refine W_end rfl fun G K hG hK => ?_); simp (disch := omega) only [go_sem, ↓reduceIte, Nat.reduceEqDiff, Nat.reduceAdd, Nat.reduceLeDiff, hG, q1, q2, o1, hlen, e0, e5, e6, e7, c1]; refine hK _ _ ?_; clear hK K hG G) | refine W_seqS ?_ | refine W_seqC ?_ | refine W_seqB ?_ | refine W_block ?_ | refine W_skip ?_ | (refine W_condT ?hc ?_; (case hc => (simp (disch := omega) only [go_sem, ↓reduceIte, Nat.reduceEqDiff, Nat.reduceAdd, Nat.reduceLeDiff, q1, q2, o1, hlen, e0, e5, e6, e7, c1]; done))) | (refine W_condF ?hc ?_; (case hc => (simp (disch := omega) only [go_sem, ↓reduceIte, Nat.reduceEqDiff, Nat.reduceAdd, Nat.reduceLeDiff, q1, q2, o1, hlen, e0, e5, e6, e7, c1]; done))) | refine thenI ?_ | refine thenE ?_ | refine thenR ?_ | refine inBI ?_ | refine inBR ?_ | refine inBS ?_ | refine inBN (by decide) ?_)
    refine W_exit ?_; repeat (first | refine thenI ?_ | refine thenE ?_ | refine thenR ?_ | refine inBI ?_ | refine inBR ?_ | refine inBS ?_ | refine inBN (by decide) ?_)
    repeat (first | ((first | refine W_reg rfl fun G K hG hK => ?_ | refine W_end rfl fun G K hG hK => ?_); simp (disch := omega) only [go_sem, ↓reduceIte, Nat.reduceEqDiff, Nat.reduceAdd, Nat.reduceLeDiff, hG, q1, q2, o1, hlen, e0, e5, e6, e7, c1]; refine hK _ _ ?_; clear hK K hG G) | refine W_seqS ?_ | refine W_seqC ?_ | refine W_seqB ?_ | refine W_block ?_ | refine W_skip ?_ | (refine W_condT ?hc ?_; (case hc => (simp (disch := omega) only [go_sem, ↓reduceIte, Nat.reduceEqDiff, Nat.reduceAdd, Nat.reduceLeDiff, q1, q2, o1, hlen, e0, e5, e6, e7, c1]; done))) | (refine W_condF ?hc ?_; (case hc => (simp (disch := omega) only [go_sem, ↓reduceIte, Nat.reduceEqDiff, Nat.reduceAdd, Nat.reduceLeDiff, q1, q2, o1, hlen, e0, e5, e6, e7, c1]; done))) | refine thenI ?_ | refine thenE ?_ | refine thenR ?_ | refine inBI ?_ | refine inBR ?_ | refine inBS ?_ | refine inBN (by decide) ?_)
    refine W_ret ?_; try (repeat (first | refine thenI ?_ | refine thenE ?_ | refine thenR ?_ | refine inBI ?_ | refine inBR ?_ | refine inBS ?_ | refine inBN (by decide) ?_))
    refine fin1 (.inl rfl) (by (simp (disch := omega) only [go_sem, ↓reduceIte, Nat.reduceEqDiff, Nat.reduceAdd, Nat.reduceLeDiff, q1, q2, o1, hlen, e0, e5, e6, e7, c1]); try rfl) ol ⟨hext, L, by rw [← hms]; exact hown, hfr⟩

end

section
/- impl.namesIn; IsGround on both sides. -/
open Go Go.Proofs
set_option linter.unusedVariables false
set_option linter.unusedSimpArgs false
set_option maxRecDepth 100000
-- AUTO

theorem implVars_ok : ∀ (t : T) (st : St) (cs : List Value), Lim 1073741824 t → t.wt + 1 ≤ 1073741824 → Enc st t cs →
    CallS Try.prog 38 [.agg cs.toArray] st fun r st2 => Ext st st2 ∧ ∃ L, Sl st2 (T.vars t) r L ∧ Fresh st.length L := by
  refine T.ind fun k n nm xs ih st cs hlm hB hE => ?_
  obtain ⟨s1, rfl, hr⟩ := hE.open
  refine CallS_of_W [] 27 Try.func38 rfl rfl rfl rfl (by simp) ?_
  have q1 := hr.notLoc.1
  have q2 := hr.notLoc.2
  have hb := hlm.args.1
  have hwt : (T.mk k n nm xs).wt = nm.size + xs.length + T.wtL xs := by simp only [T.wt]
  have hlen : lenE Try.prog 29 s1 = some (.int .i64 xs.length) := row_len hr Try.underlying29
  repeat (first | ((first | refine W_reg rfl fun G K hG hK => ?_ | refine W_end rfl fun G K hG hK => ?_); simp (disch := omega) only [go_sem, ↓reduceIte, Nat.reduceEqDiff, Nat.reduceAdd, Nat.reduceLeDiff, hG, q1, q2]; refine hK _ _ ?_; clear hK K hG G) | refine W_seqS ?_ | refine W_seqC ?_ | refine W_seqB ?_ | refine W_block ?_ | refine W_skip ?_ | (refine W_condT ?hc ?_; (case hc => (simp (disch := omega) only [go_sem, ↓reduceIte, Nat.reduceEqDiff, Nat.reduceAdd, Nat.reduceLeDiff, q1, q2]; done))) | (refine W_condF ?hc ?_; (case hc => (simp (disch := omega) only [go_sem, ↓reduceIte, Nat.reduceEqDiff, Nat.reduceAdd, Nat.reduceLeDiff, q1, q2]; done))) | refine thenI ?_ | refine thenE ?_ | refine thenR ?_ | refine inBI ?_ | refine inBR ?_ | refine inBS ?_ | refine inBN (by decide) ?_)
  refine W_to (fun fr st' => ∃ (r : Value) (L1 : List Nat), (Ext st st') ∧ (Sl st' (if (k == 1) = true then [nm] else []) r L1) ∧ (Fresh st.length L1) ∧ (fr.env 3 = r) ∧ (fr.env 1 = .pointer (some ⟨1, 0, some 1⟩)) ∧ (fr.loc 1 = (1, [.int .i64 k, .int .i64 n, .string nm, s1]))) ?_ ?_
  · cases hk : (k == 1) with
    | false =>
      repeat (first | ((first | refine W_reg rfl fun G K hG hK => ?_ | refine W_end rfl fun G K hG hK => ?_); simp (disch := omega) only [go_sem, ↓reduceIte, Nat.reduceEqDiff, Nat.reduceAdd, Nat.reduceLeDiff, hG, q1, q2, hk]; refine hK _ _ ?_; clear hK K hG G) | refine W_seqS ?_ | refine W_seqC ?_ | refine W_seqB ?_ | refine W_block ?_ | refine W_skip ?_ | (refine W_condT ?hc ?_; (case hc => (simp (disch := omega) only [go_sem, ↓reduceIte, Nat.reduceEqDiff, Nat.reduceAdd, Nat.reduceLeDiff, q1, q2, hk]; done))) | (refine W_condF ?hc ?_; (case hc => (simp (disch := omega) only [go_sem, ↓reduceIte, Nat.reduceEqDiff, Nat.reduceAdd, Nat.reduceLeDiff, q1, q2, hk]; done))) | refine thenI ?_ | refine thenE ?_ | refine thenR ?_ | refine inBI ?_ | refine inBR ?_ | refine inBS ?_ | refine inBN (by decide) ?_)
      exact ⟨_, [], Ext.refl _, Sl.nil _, .nil _, (by (simp (disch := omega) only [go_sem, ↓reduceIte, Nat.reduceEqDiff, Nat.reduceAdd, Nat.reduceLeDiff, q1, q2]); try rfl), (by (simp (disch := omega) only [go_sem, ↓reduceIte, Nat.reduceEqDiff, Nat.reduceAdd, Nat.reduceLeDiff, q1, q2]); try rfl), (by (simp (disch := omega) only [go_sem, ↓reduceIte, Nat.reduceEqDiff, Nat.reduceAdd, Nat.reduceLeDiff, q1, q2]); try rfl)⟩
    | true =>
      obtain ⟨s', sb, L', hap, hs', hf', hg⟩ := OwnS.step (x := nm) (Sl.nil st) (.nil st.length) (Nat.le_refl _) (Ext.refl st) (by simp)
      repeat (first | ((first | refine W_reg rfl fun G K hG hK => ?_ | refine W_end rfl fun G K hG hK => ?_); simp (disch := omega) only [go_sem, ↓reduceIte, Nat.reduceEqDiff, Nat.reduceAdd, Nat.reduceLeDiff, hG, q1, q2, hk]; refine hK _ _ ?_; clear hK K hG G) | refine W_seqS ?_ | refine W_seqC ?_ | refine W_seqB ?_ | refine W_block ?_ | refine W_skip ?_ | (refine W_condT ?hc ?_; (case hc => (simp (disch := omega) only [go_sem, ↓reduceIte, Nat.reduceEqDiff, Nat.reduceAdd, Nat.reduceLeDiff, q1, q2, hk]; done))) | (refine W_condF ?hc ?_; (case hc => (simp (disch := omega) only [go_sem, ↓reduceIte, Nat.reduceEqDiff, Nat.reduceAdd, Nat.reduceLeDiff, q1, q2, hk]; done))) | refine thenI ?_ | refine thenE ?_ | refine thenR ?_ | refine inBI ?_ | refine inBR ?_ | refine inBS ?_ | refine inBN (by decide) ?_)
      refine W_end rfl fun G K hG hK => ?_; simp (disch := omega) only [go_sem, ↓reduceIte, Nat.reduceEqDiff, Nat.reduceAdd, Nat.reduceLeDiff, hG, q1, q2, w_append, hap]
      refine hK _ _ ?_; clear hK K hG G; repeat (first | refine thenI ?_ | refine thenE ?_ | refine thenR ?_ | refine inBI ?_ | refine inBR ?_ | refine inBS ?_ | refine inBN (by decide) ?_)
      exact ⟨s', L', hg.away.ext_of (Ext.refl st) (.inl rfl), hs', hf', (by (simp (disch := omega) only [go_sem, ↓reduceIte, Nat.reduceEqDiff, Nat.reduceAdd, Nat.reduceLeDiff, q1, q2]); try rfl), (by (simp (disch := omega) only [go_sem, ↓reduceIte, Nat.reduceEqDiff, Nat.reduceAdd, Nat.reduceLeDiff, q1, q2]); try rfl), (by (simp (disch := omega) only [go_sem, ↓reduceIte, Nat.reduceEqDiff, Nat.reduceAdd, Nat.reduceLeDiff, q1, q2]); try rfl)⟩
  rintro ⟨env, loc⟩ st' ⟨r, L1, hx1, hs1, hf1, e3, e1, l1⟩
  simp only at e3 e1 l1
  have hl1 : (if (k == 1) = true then [nm] else []).length ≤ 1 := by split <;> simp
  rw [T.vars_mk]
  generalize hgl : (if (k == 1) = true then [nm] else []) = nl at hs1 hl1
  have ol1 := hs1.loc
  repeat (first | ((first | refine W_reg rfl fun G K hG hK => ?_ | refine W_end rfl fun G K hG hK => ?_); simp (disch := omega) only [go_sem, ↓reduceIte, Nat.reduceEqDiff, Nat.reduceAdd, Nat.reduceLeDiff, hG, q1, q2, e3, e1, l1, hlen, ol1]; refine hK _ _ ?_; clear hK K hG G) | refine W_seqS ?_ | refine W_seqC ?_ | refine W_seqB ?_ | refine W_block ?_ | refine W_skip ?_ | (refine W_condT ?hc ?_; (case hc => (simp (disch := omega) only [go_sem, ↓reduceIte, Nat.reduceEqDiff, Nat.reduceAdd, Nat.reduceLeDiff, q1, q2, e3, e1, l1, hlen, ol1]; done))) | (refine W_condF ?hc ?_; (case hc => (simp (disch := omega) only [go_sem, ↓reduceIte, Nat.reduceEqDiff, Nat.reduceAdd, Nat.reduceLeDiff, q1, q2, e3, e1, l1, hlen, ol1]; done))) | refine thenI ?_ | refine thenE ?_ | refine thenR ?_ | refine inBI ?_ | refine inBR ?_ | refine inBS ?_ | refine inBN (by decide) ?_)
  refine W_loop (fun d fr st' => ∃ (j : Nat) (r1 : Value) (L2 : List Nat), d = xs.length - j ∧ j ≤ xs.length ∧ (Ext st st') ∧ (Sl st' (nl ++ T.varsL (xs.take j)) r1 L2) ∧ (Fresh st.length L2) ∧ (fr.env 3 = r1) ∧ (fr.env 15 = s1) ∧ (fr.env 16 = .int .i64 xs.length) ∧ (fr.env 17 = .int .i64 j)) (xs.length) ?_ ?_
  · exact ⟨0, r, L1, by omega, by omega, hx1, by simpa [T.varsL] using hs1, hf1, (by (simp (disch := omega) only [go_sem, ↓reduceIte, Nat.reduceEqDiff, Nat.reduceAdd, Nat.reduceLeDiff, q1, q2, e3, e1, l1, hlen]); try rfl), (by (simp (disch := omega) only [go_sem, ↓reduceIte, Nat.reduceEqDiff, Nat.reduceAdd, Nat.reduceLeDiff, q1, q2, e3, e1, l1, hlen]); try rfl), (by (simp (disch := omega) only [go_sem, ↓reduceIte, Nat.reduceEqDiff, Nat.reduceAdd, Nat.reduceLeDiff, q1, q2, e3, e1, l1, hlen]); try rfl), (by (simp (disch := omega) only [go_sem, ↓reduceIte, Nat.reduceEqDiff, Nat.reduceAdd, Nat.reduceLeDiff, q1, q2, e3, e1, l1, hlen]); try rfl)⟩
  clear e3 e1 l1
  rintro d ⟨env, loc⟩ st' ⟨j, r1, L2, hd, hj, hext, hown, hfr, e3, e15, e16, e17⟩
  simp only at e3 e15 e16 e17
  have ol := hown.loc
  by_cases hlt : j < xs.length
  · have c1 : decide ((j : Int) < (xs.length : Int)) = true := by simpa using hlt
    have hi := idxOk hlt
    have hx : xs[j]? = some xs[j] := List.getElem?_eq_getElem hlt
    have htk : xs.take (j + 1) = xs.take j ++ [xs[j]] := List.take_succ_eq_append_getElem hlt
    obtain ⟨i, o, c, cs, rfl, hcl, hE, hcs⟩ := row_at hr hx
    have hld := fun loc => load_row (A := []) (loc := loc) ag31 sz31 hcl (hcs.ext hext)
    have hbt := T.vars_room hlt
    have hvl := T.vars_len xs[j]
    have hl0 := hext.length
    obtain ⟨kx, nx, mx, ax, hxe⟩ := T.eta xs[j]
    have hEx := hE
    rw [hxe] at hEx
    obtain ⟨sx, rfl, hrx⟩ := hEx.open
    have x1' := hrx.notLoc.1
    have x2' := hrx.notLoc.2
    repeat (first | ((first | refine W_reg rfl fun G K hG hK => ?_ | refine W_end rfl fun G K hG hK => ?_); simp (disch := omega) only [go_sem, ↓reduceIte, Nat.reduceEqDiff, Nat.reduceAdd, Nat.reduceLeDiff, hG, q1, q2, hlen, e3, e15, e16, e17, c1, hi, idxA, Int.toNat_natCast, hld, x1', x2']; refine hK _ _ ?_; clear hK K hG G) | refine W_seqS ?_ | refine W_seqC ?_ | refine W_seqB ?_ | refine W_block ?_ | refine W_skip ?_ | (refine W_condT ?hc ?_; (case hc => (simp (disch := omega) only [go_sem, ↓reduceIte, Nat.reduceEqDiff, Nat.reduceAdd, Nat.reduceLeDiff, q1, q2, hlen, e3, e15, e16, e17, c1, hi, idxA, Int.toNat_natCast, hld, x1', x2']; done))) | (refine W_condF ?hc ?_; (case hc => (simp (disch := omega) only [go_sem, ↓reduceIte, Nat.reduceEqDiff, Nat.reduceAdd, Nat.reduceLeDiff, q1, q2, hlen, e3, e15, e16, e17, c1, hi, idxA, Int.toNat_natCast, hld, x1', x2']; done))) | refine thenI ?_ | refine thenE ?_ | refine thenR ?_ | refine inBI ?_ | refine inBR ?_ | refine inBS ?_ | refine inBN (by decide) ?_)
    refine W_end rfl fun G K hG hK => ?_; simp (disch := omega) only [go_sem, ↓reduceIte, Nat.reduceEqDiff, Nat.reduceAdd, Nat.reduceLeDiff, hG, q1, q2, hlen, e3, e15, e16, e17, c1, hi, idxA, Int.toNat_natCast, ol, x1', x2']
    refine w_call (ih xs[j] (List.getElem_mem hlt) st' _ (hlm.args.2 _ (List.getElem_mem hlt)) (by omega) (Enc.ext hext _ _ hE)) (by simp (disch := omega) only [go_sem, ↓reduceIte, Nat.reduceEqDiff, q1, q2, hlen, e3, e15, e16, e17, c1, hi, idxA, Int.toNat_natCast, ol]) ?hl ?_
    case hl => first | rfl | (simp only [go_sem, List.all_cons, List.all_nil, Bool.not_false, Bool.and_self, q1, q2, hlen, e3, e15, e16, e17, c1, hi, idxA, Int.toNat_natCast, ol]; done)
    rintro r_ sb ⟨x3, L3, hs3, hf3⟩; refine ⟨fun e => (by cases e), ?_⟩
    have o3 := hs3.loc
    obtain ⟨s', sc, L', hap, hs', hf', hg⟩ := OwnS.join (ys := T.vars xs[j]) hown hfr hl0 x3 hs3.row (by rw [List.length_append]; omega)
    have o4 := hs'.loc
    simp (disch := omega) only [go_sem, ↓reduceIte, Nat.reduceEqDiff, Nat.reduceAdd, Nat.reduceLeDiff, hG, q1, q2, hlen, e3, e15, e16, e17, c1, hi, idxA, Int.toNat_natCast, w_append, hap, o3, o4]; refine hK _ _ ?_; clear hK K hG G; repeat (first | refine thenI ?_ | refine thenE ?_ | refine thenR ?_ | refine inBI ?_ | refine inBR ?_ | refine inBS ?_ | refine inBN (by decide) ?_)
    repeat (first | ((first | refine W_reg rfl fun G K hG hK => ?_ | refine W_end rfl fun G K hG hK => ?_); simp (disch := omega) only [go_sem, ↓reduceIte, Nat.reduceEqDiff, Nat.reduceAdd, Nat.reduceLeDiff, hG, q1, q2, hlen, e3, e15, e16, e17, c1, hi, idxA, Int.toNat_natCast]; refine hK _ _ ?_; clear hK K hG G) | refine W_seqS ?_ | refine W_seqC ?_ | refine W_seqB ?_ | refine W_block ?_ | refine W_skip ?_ | (refine W_condT ?hc ?_; (case hc => (simp (disch := omega) only [go_sem, ↓reduceIte, Nat.reduceEqDiff, Nat.reduceAdd, Nat.reduceLeDiff, q1, q2, hlen, e3, e15, e16, e17, c1, hi, idxA, Int.toNat_natCast]; done))) | (refine W_condF ?hc ?_; (case hc => (simp (disch := omega) only [go_sem, ↓reduceIte, Nat.reduceEqDiff, Nat.reduceAdd, Nat.reduceLeDiff, q1, q2, hlen, e3, e15, e16, e17, c1, hi, idxA, Int.toNat_natCast]; done))) | refine thenI ?_ | refine thenE ?_ | refine thenR ?_ | refine inBI ?_ | refine inBR ?_ | refine inBS ?_ | refine inBN (by decide) ?_)
    refine ⟨xs.length - (j + 1), by omega, j + 1, s', L', rfl, by omega, hg.away.ext_of (hext.trans x3) (hown.top hfr), by rw [T.varsL_take hlt, ← List.append_assoc]; exact hs', hf', (by (simp (disch := omega) only [go_sem, ↓reduceIte, Nat.reduceEqDiff, Nat.reduceAdd, Nat.reduceLeDiff, q1, q2, hlen, e3, e15, e16, e17, c1, hi, idxA, Int.toNat_natCast]); try rfl), (by (simp (disch := omega) only [go_sem, ↓reduceIte, Nat.reduceEqDiff, Nat.reduceAdd, Nat.reduceLeDiff, q1, q2, hlen, e3, e15, e16, e17, c1, hi, idxA, Int.toNat_natCast]); try rfl), (by (simp (disch := omega) only [go_sem, ↓reduceIte, Nat.reduceEqDiff, Nat.reduceAdd, Nat.reduceLeDiff, q1, q2, hlen, e3, e15, e16, e17, c1, hi, idxA, Int.toNat_natCast]); try rfl), (by (simp (disch := omega) only [go_sem, ↓reduceIte, Nat.reduceEqDiff, Nat.reduceAdd, Nat.reduceLeDiff, q1, q2, hlen, e3, e15, e16, e17, c1, hi, idxA, Int.toNat_natCast]); try rfl)⟩
  · have c1 : decide ((j : Int) < (xs.length : Int)) = false := by simpa using hlt
    have hjn : j = xs.length := by omega
    subst hjn
    rw [List.take_length] at hown
    repeat (first | ((first | refine W_reg rfl fun G K hG hK => ?_ | refine W_end rfl fun G K hG hK => ?_); simp (disch := omega) only [go_sem, ↓reduceIte, Nat.reduceEqDiff, Nat.reduceAdd, Nat.reduceLeDiff, hG, q1, q2, hlen, e3, e15, e16, e17, c1, ol]; refine hK _ _ ?_; clear hK K hG G) | refine W_seqS ?_ | refine W_seqC ?_ | refine W_seqB ?_ | refine W_block ?_ | refine W_skip ?_ | (refine W_condT ?hc ?_; (case hc => (simp (disch := omega) only [go_sem, ↓reduceIte, Nat.reduceEqDiff, Nat.reduceAdd, Nat.reduceLeDiff, q1, q2, hlen, e3, e15, e16, e17, c1, ol]; done))) | (refine W_condF ?hc ?_; (case hc => (simp (disch := omega) only [go_sem, ↓reduceIte, Nat.reduceEqDiff, Nat.reduceAdd, Nat.reduceLeDiff, q1, q2, hlen, e3, e15, e16, e17, c1, ol]; done))) | refine thenI ?_ | refine thenE ?_ | refine thenR ?_ | refine inBI ?_ | refine inBR ?_ | refine inBS ?_ | refine inBN (by decide) ?_)
    refine W_exit ?_; repeat (first | refine thenI ?_ | refine thenE ?_ | refine thenR ?_ | refine inBI ?_ | refine inBR ?_ | refine inBS ?_ | refine inBN (by decide) ?_)
    repeat (first | ((first | refine W_reg rfl fun G K hG hK => ?_ | refine W_end rfl fun G K hG hK => ?_); simp (disch := omega) only [go_sem, ↓reduceIte, Nat.reduceEqDiff, Nat.reduceAdd, Nat.reduceLeDiff, hG, q1, q2, hlen, e3, e15, e16, e17, c1, ol]; refine hK _ _ ?_; clear hK K hG G) | refine W_seqS ?_ | refine W_seqC ?_ | refine W_seqB ?_ | refine W_block ?_ | refine W_skip ?_ | (refine W_condT ?hc ?_; (case hc => (simp (disch := omega) only [go_sem, ↓reduceIte, Nat.reduceEqDiff, Nat.reduceAdd, Nat.reduceLeDiff, q1, q2, hlen, e3, e15, e16, e17, c1, ol]; done))) | (refine W_condF ?hc ?_; (case hc => (simp (disch := omega) only [go_sem, ↓reduceIte, Nat.reduceEqDiff, Nat.reduceAdd, Nat.reduceLeDiff, q1, q2, hlen, e3, e15, e16, e17, c1, ol]; done))) | refine thenI ?_ | refine thenE ?_ | refine thenR ?_ | refine inBI ?_ | refine inBR ?_ | refine inBS ?_ | refine inBN (by decide) ?_)
    refine W_ret ?_; try (repeat (first | refine thenI ?_ | refine thenE ?_ | refine thenR ?_ | refine inBI ?_ | refine inBR ?_ | refine inBS ?_ | refine inBN (by decide) ?_))
    refine fin1 (.inl rfl) (by (simp (disch := omega) only [go_sem, ↓reduceIte, Nat.reduceEqDiff, Nat.reduceAdd, Nat.reduceLeDiff, q1, q2, hlen, e3, e15, e16, e17, c1, ol]); try rfl) ol ⟨hext, L2, hown, hfr⟩

end

section
/- Builders: spec.RenameVars, impl.RenameVars. -/
open Go Go.Proofs
set_option linter.unusedVariables false
set_option linter.unusedSimpArgs false
set_option maxRecDepth 100000


end

end Go.Proofs.Ytoeibmfdafilcaa.AM
/- A renamed term is a variant, where variables have no arguments. -/
namespace Go.Proofs.Ytoeibmfdafilcaa.AM
open Go Go.Proofs
set_option linter.unusedVariables false
set_option linter.unusedSimpArgs false

/-- Variables are plain, but perhaps at the root. -/
inductive Plain : T → Prop
  | mk (k n : Int) (nm : ByteArray) (args : List T) (hv : k = 1 → n = 0 ∧ args = []) (h : ∀ a ∈ args, Plain a) : Plain (.mk k n nm args)
def PlainB : T → Prop
  | .mk k n nm args => k = 1 ∨ ∀ a ∈ args, Plain a
theorem Plain.b {t : T} (h : Plain t) : PlainB t := by
  cases h with
  | mk k n nm args hv h => exact .inr h
mutual
/-- The nodes of a term. -/
def T.count : T → Nat
  | .mk _ _ _ args => 1 + T.countL args
def T.countL : List T → Nat
  | [] => 0
  | x :: xs => x.count + T.countL xs
end
end Go.Proofs.Ytoeibmfdafilcaa.AM


/- Unification, in plain Lean: it comes to an end, and its terms stay within limits. -/
namespace Go.Proofs.Ytoeibmfdafilcaa.AM
open Go Go.Proofs
set_option linter.unusedVariables false
set_option linter.unusedSimpArgs false

instance : DecidableEq ByteArray := fun a b => decidable_of_iff (a.data = b.data) ⟨ByteArray.ext, fun h => by rw [h]⟩
instance (nm : ByteArray) (l : List ByteArray) : Decidable (nm ∈ l) := decidable_of_iff (l.any (fun v => decide (v = nm)) = true) (by simp)

theorem findB_cons (nm : ByteArray) (b : Bnd) (bs : List Bnd) : findB nm (b :: bs) = if b.nm = nm then some b.tm else findB nm bs := by
  simp only [findB]
  by_cases h : b.nm = nm
  · rw [if_pos h, if_pos (by rw [h]; simp)]
  · rw [if_neg h, if_neg (fun h2 => h (ba_toList h2))]
theorem findB_append (nm : ByteArray) (us bs : List Bnd) : findB nm (us ++ bs) = (findB nm us).or (findB nm bs) := by
  induction us with
  | nil => rfl
  | cons a us ih =>
    rw [List.cons_append, findB_cons, findB_cons]
    split
    · rfl
    · exact ih
theorem findB_none {nm : ByteArray} {bs : List Bnd} : findB nm bs = none ↔ ∀ b ∈ bs, b.nm ≠ nm := by
  induction bs with
  | nil => simp [findB]
  | cons b bs ih =>
    rw [findB_cons]
    split
    · rename_i h
      constructor
      · intro h2; cases h2
      · intro h2; exact absurd h (h2 b (by simp))
    · rename_i h
      rw [ih]
      constructor
      · intro h2 c hc
        rcases List.mem_cons.1 hc with rfl | hc
        · exact h
        · exact h2 c hc
      · intro h2 c hc; exact h2 c (by simp [hc])
theorem mem_varsL {v : ByteArray} {xs : List T} : v ∈ T.varsL xs ↔ ∃ x ∈ xs, v ∈ T.vars x := by
  induction xs with
  | nil => simp [T.varsL]
  | cons x xs ih => simp [T.varsL, ih]
theorem mem_vars {v nm : ByteArray} {k n : Int} {xs : List T} : v ∈ T.vars (.mk k n nm xs) ↔ (k = 1 ∧ v = nm) ∨ ∃ x ∈ xs, v ∈ T.vars x := by
  rw [T.vars_mk, List.mem_append, mem_varsL]
  by_cases h : k = 1
  · simp [h]
  · have : ¬ (k == 1) = true := by simpa using h
    simp [h, this]
theorem T.sub_id {bs : List Bnd} : ∀ t : T, (∀ v ∈ T.vars t, findB v bs = none) → t.sub bs = t := by
  refine T.ind fun k n nm args ih h => ?_
  have h1 : (k == 1) = false ∨ (findB nm bs).isSome = false := by
    cases hk : (k == 1) with
    | false => exact .inl rfl
    | true => exact .inr (by rw [h nm (mem_vars.2 (.inl ⟨by simpa using hk, rfl⟩))]; rfl)
  rw [T.sub_no h1, List.map_congr_left (g := id) fun x hx => ih x hx fun v hv => h v (mem_vars.2 (.inr ⟨x, hx, hv⟩))]
  simp
theorem T.vars_sub {bs : List Bnd} {v : ByteArray} : ∀ t : T, v ∈ T.vars (t.sub bs) → (v ∈ T.vars t ∧ findB v bs = none) ∨ ∃ b ∈ bs, v ∈ T.vars b.tm := by
  refine T.ind fun k n nm args ih h => ?_
  by_cases hk : (k == 1) = true ∧ (findB nm bs).isSome = true
  · rw [T.sub_yes hk.1 hk.2] at h
    obtain ⟨t, ht⟩ := Option.isSome_iff_exists.1 hk.2
    simp only [findD, ht, Option.getD_some] at h
    obtain ⟨b, h1, h2⟩ := findB_mem ht
    exact .inr ⟨b, h1, by rw [h2]; exact h⟩
  · have hk' : (k == 1) = false ∨ (findB nm bs).isSome = false := by
      cases h1 : (k == 1) with
      | false => exact .inl rfl
      | true =>
        cases h2 : (findB nm bs).isSome with
        | false => exact .inr rfl
        | true => exact absurd ⟨h1, h2⟩ hk
    rw [T.sub_no hk'] at h
    rcases mem_vars.1 h with ⟨h1, h2⟩ | ⟨y, hy, hv⟩
    · subst h2
      refine .inl ⟨mem_vars.2 (.inl ⟨h1, rfl⟩), ?_⟩
      rcases hk' with h3 | h3
      · rw [h1] at h3; cases h3
      · cases hf : findB v bs with
        | none => rfl
        | some t => rw [hf] at h3; cases h3
    · obtain ⟨x, hx, rfl⟩ := List.mem_map.1 hy
      rcases ih x hx hv with ⟨h1, h2⟩ | h1
      · exact .inl ⟨mem_vars.2 (.inr ⟨x, hx, h1⟩), h2⟩
      · exact .inr h1
def Idem (bs : List Bnd) : Prop := ∀ b ∈ bs, ∀ v ∈ T.vars b.tm, findB v bs = none
theorem Idem.app {bs : List Bnd} (h : Idem bs) (t : T) {v : ByteArray} (hv : v ∈ T.vars (t.sub bs)) : findB v bs = none := by
  rcases T.vars_sub t hv with ⟨_, h1⟩ | ⟨b, hb, h1⟩
  · exact h1
  · exact h b hb v h1
theorem findB_comp (us bs : List Bnd) (v : ByteArray) : findB v (comp us bs) = match findB v us with
    | some u => some (u.sub bs)
    | none => findB v bs := by
  unfold comp
  rw [findB_append]
  have hA : findB v (compA bs us) = (findB v us).map (T.sub bs) := by
    unfold compA
    induction us with
    | nil => rfl
    | cons a us ih =>
      rw [List.map_cons, findB_cons, findB_cons]
      simp only
      split
      · rfl
      · exact ih
  rw [hA]
  clear hA
  cases hf : findB v us with
  | some u => rfl
  | none =>
    simp only [Option.map_none, Option.none_or]
    unfold compB
    induction bs with
    | nil => rfl
    | cons b bs ih =>
      rw [List.filter_cons, findB_cons]
      by_cases hb : b.nm = v
      · rw [if_pos hb, if_pos (by rw [hb, hf]; rfl), findB_cons, if_pos hb]
      · rw [if_neg hb]
        split
        · rw [findB_cons, if_neg hb]; exact ih
        · exact ih
theorem T.sub_comp (us bs : List Bnd) : ∀ t : T, t.sub (comp us bs) = (t.sub us).sub bs := by
  refine T.ind fun k n nm args ih => ?_
  have hm : args.map (T.sub (comp us bs)) = (args.map (T.sub us)).map (T.sub bs) := by
    rw [List.map_map]; exact List.map_congr_left fun x hx => ih x hx
  have hc := findB_comp us bs nm
  cases hk : (k == 1) with
  | false => rw [T.sub_no (.inl hk), T.sub_no (.inl hk), T.sub_no (.inl hk), hm]
  | true =>
    cases hf : findB nm us with
    | some u =>
      rw [hf] at hc
      rw [T.sub_yes hk (by rw [hc]; rfl), T.sub_yes hk (by rw [hf]; rfl)]
      simp only [findD, hc, hf, Option.getD_some]
    | none =>
      rw [hf] at hc
      rw [T.sub_no (bs := us) (.inr (by rw [hf]; rfl))]
      cases hg : findB nm bs with
      | some u =>
        rw [hg] at hc
        rw [T.sub_yes hk (by rw [hc]; rfl), T.sub_yes hk (by rw [hg]; rfl)]
        simp only [findD, hc, hg]
      | none =>
        rw [hg] at hc
        rw [T.sub_no (.inr (by rw [hc]; rfl)), T.sub_no (.inr (by rw [hg]; rfl)), hm]
/-! One equation is treated. -/
def bindU (bs : List Bnd) (nm : ByteArray) (y : T) : Option (List Bnd × List (T × T)) := if nm ∈ T.vars y then none else some (comp bs [⟨nm, y⟩], [])
def stepU (bs : List Bnd) : T → T → Option (List Bnd × List (T × T))
  | .mk k n nm xs, .mk k' n' nm' ys =>
    if T.eqv (.mk k n nm xs) (.mk k' n' nm' ys) = true then some (bs, [])
    else if k = 1 then bindU bs nm (.mk k' n' nm' ys)
    else if k' = 1 then bindU bs nm' (.mk k n nm xs)
    else if k = 2 ∧ k' = 2 ∧ nm = nm' ∧ xs.length = ys.length then some (bs, xs.zip ys) else none
def bigB (bs : List Bnd) : Bool := bs.any fun b => decide (400 < b.tm.count)
/-- So many steps of the unification. -/
def uni : Nat → List Bnd → List (T × T) → Option (Option (List Bnd))
  | _, bs, [] => some (some bs)
  | 0, _, _ :: _ => none
  | n + 1, bs, (a, b) :: rest => match stepU bs (a.sub bs) (b.sub bs) with
    | none => some none
    | some (bs', more) => if bigB bs' = true then some none else uni n bs' (more ++ rest)

/-- What comes of a row of terms by taking nodes apart and leaving terms away. -/
inductive Emb (base : List T) : List T → Prop
  | refl : Emb base base
  | drop (x : T) (l : List T) (h : Emb base (x :: l)) : Emb base l
  | dec (k n : Int) (nm : ByteArray) (args l : List T) (hk : k ≠ 1) (h : Emb base (.mk k n nm args :: l)) : Emb base (args ++ l)
theorem Emb.sub {base l : List T} (h : Emb base l) (bs : List Bnd) : Emb (base.map (T.sub bs)) (l.map (T.sub bs)) := by
  induction h with
  | refl => exact .refl
  | drop x l h ih => exact .drop _ _ ih
  | dec k n nm args l hk h ih =>
    rw [List.map_append]
    refine .dec k n nm _ _ hk ?_
    rw [List.map_cons, T.sub_no (.inl (by simpa using hk))] at ih
    exact ih
theorem T.countL_app' (xs ys : List T) : T.countL (xs ++ ys) = T.countL xs + T.countL ys := by
  induction xs with
  | nil => simp [T.countL]
  | cons x xs ih => simp only [List.cons_append, T.countL, ih]; omega
theorem Emb.count {base l : List T} (h : Emb base l) : T.countL l ≤ T.countL base := by
  induction h with
  | refl => exact Nat.le_refl _
  | drop x l h ih => simp only [T.countL] at ih; omega
  | dec k n nm args l hk h ih => simp only [T.countL, T.count] at ih; rw [T.countL_app']; omega
theorem T.countL_mem {x : T} {l : List T} (h : x ∈ l) : x.count ≤ T.countL l := by
  induction l with
  | nil => cases h
  | cons y ys ih =>
    simp only [T.countL]
    rcases List.mem_cons.1 h with rfl | h
    · omega
    · have := ih h; omega
theorem T.countL_len (l : List T) : l.length ≤ T.countL l := by
  induction l with
  | nil => exact Nat.le_refl _
  | cons x xs ih =>
    have : 1 ≤ x.count := by cases x; simp only [T.count]; omega
    simp only [List.length_cons, T.countL]; omega
theorem T.count_sub {B : Nat} {bs : List Bnd} (hb : ∀ b ∈ bs, b.tm.count ≤ B) (hB : 1 ≤ B) : ∀ t : T, (t.sub bs).count ≤ B * t.count := by
  refine T.ind fun k n nm args ih => ?_
  have h1 : 1 ≤ (T.mk k n nm args).count := by simp only [T.count]; omega
  by_cases hk : (k == 1) = true ∧ (findB nm bs).isSome = true
  · rw [T.sub_yes hk.1 hk.2]
    obtain ⟨t, ht⟩ := Option.isSome_iff_exists.1 hk.2
    simp only [findD, ht, Option.getD_some]
    obtain ⟨b, h2, rfl⟩ := findB_mem ht
    exact Nat.le_trans (hb b h2) (Nat.le_mul_of_pos_right _ h1)
  · have hk' : (k == 1) = false ∨ (findB nm bs).isSome = false := by
      cases h1 : (k == 1) with
      | false => exact .inl rfl
      | true =>
        cases h2 : (findB nm bs).isSome with
        | false => exact .inr rfl
        | true => exact absurd ⟨h1, h2⟩ hk
    rw [T.sub_no hk']
    have hL : ∀ l : List T, (∀ a ∈ l, (a.sub bs).count ≤ B * a.count) → T.countL (l.map (T.sub bs)) ≤ B * T.countL l := by
      intro l
      induction l with
      | nil => intro _; simp [T.countL]
      | cons x xs ihx =>
        intro h
        have h2 := h x (by simp)
        have h3 := ihx fun a ha => h a (by simp [ha])
        simp only [List.map_cons, T.countL, Nat.mul_add]; omega
    have h2 := hL args ih
    simp only [T.count, Nat.mul_add]
    omega

/-- What holds between the steps. -/
structure UInv (V : List ByteArray) (a0 b0 : T) (bs : List Bnd) (rest : List (T × T)) : Prop where
  idem : Idem bs
  nod : (bs.map Bnd.nm).Nodup
  sub : ∀ b ∈ bs, b.nm ∈ V ∧ ∀ v ∈ T.vars b.tm, v ∈ V
  restV : ∀ p ∈ rest, (∀ v ∈ T.vars p.1, v ∈ V) ∧ (∀ v ∈ T.vars p.2, v ∈ V)
  c400 : ∀ b ∈ bs, b.tm.count ≤ 400
  embL : Emb [a0.sub bs] (rest.map fun p => p.1.sub bs)
  embR : Emb [b0.sub bs] (rest.map fun p => p.2.sub bs)
theorem UInv.start (a b : T) : UInv (T.vars a ++ T.vars b) a b [] [(a, b)] :=
  ⟨fun _ h => (by cases h), by simp, fun _ h => (by cases h), fun p hp => by
    cases List.mem_singleton.1 hp
    exact ⟨fun v hv => by simp [hv], fun v hv => by simp [hv]⟩, fun _ h => (by cases h), by simp only [List.map_cons, List.map_nil]; exact .refl, by simp only [List.map_cons, List.map_nil]; exact .refl⟩
theorem vars_app {V : List ByteArray} {bs : List Bnd} (h : ∀ b ∈ bs, b.nm ∈ V ∧ ∀ v ∈ T.vars b.tm, v ∈ V) {t : T} (ht : ∀ v ∈ T.vars t, v ∈ V) : ∀ v ∈ T.vars (t.sub bs), v ∈ V := fun v hv => by
  rcases T.vars_sub t hv with ⟨h1, _⟩ | ⟨b, hb, h1⟩
  · exact ht v h1
  · exact (h b hb).2 v h1
/-- An equation whose sides are the same is dropped. -/
theorem UInv.drop {V : List ByteArray} {a0 b0 : T} {bs : List Bnd} {p : T × T} {rest : List (T × T)} (h : UInv V a0 b0 bs (p :: rest)) : UInv V a0 b0 bs rest :=
  ⟨h.idem, h.nod, h.sub, fun q hq => h.restV q (by simp [hq]), h.c400, .drop _ _ h.embL, .drop _ _ h.embR⟩
theorem zip_map_fst {xs ys : List T} (h : xs.length = ys.length) : (xs.zip ys).map Prod.fst = xs := by
  rw [List.map_fst_zip (by omega)]
theorem zip_map_snd {xs ys : List T} (h : xs.length = ys.length) : (xs.zip ys).map Prod.snd = ys := by
  rw [List.map_snd_zip (by omega)]
/-- Equal nodes are taken apart. -/
theorem UInv.dec {V : List ByteArray} {a0 b0 a b : T} {bs : List Bnd} {rest : List (T × T)} (h : UInv V a0 b0 bs ((a, b) :: rest)) {n n' : Int} {nm : ByteArray} {xs ys : List T}
    (ha : a.sub bs = .mk 2 n nm xs) (hb : b.sub bs = .mk 2 n' nm ys) (hl : xs.length = ys.length) : UInv V a0 b0 bs (xs.zip ys ++ rest) := by
  have hva : ∀ v, v ∈ T.vars (a.sub bs) → findB v bs = none := fun v hv => h.idem.app a hv
  have hvb : ∀ v, v ∈ T.vars (b.sub bs) → findB v bs = none := fun v hv => h.idem.app b hv
  have hVa := vars_app h.sub (h.restV (a, b) (by simp)).1
  have hVb := vars_app h.sub (h.restV (a, b) (by simp)).2
  simp only at hVa hVb
  rw [ha] at hva hVa
  rw [hb] at hvb hVb
  have hxs : xs.map (T.sub bs) = xs := by
    rw [List.map_congr_left (g := id) fun x hx => T.sub_id x fun v hv => hva v (mem_vars.2 (.inr ⟨x, hx, hv⟩))]; simp
  have hys : ys.map (T.sub bs) = ys := by
    rw [List.map_congr_left (g := id) fun x hx => T.sub_id x fun v hv => hvb v (mem_vars.2 (.inr ⟨x, hx, hv⟩))]; simp
  refine ⟨h.idem, h.nod, h.sub, fun p hp => ?_, h.c400, ?_, ?_⟩
  · rcases List.mem_append.1 hp with hp | hp
    · obtain ⟨h1, h2⟩ := List.of_mem_zip (a := p.1) (b := p.2) hp
      exact ⟨fun v hv => hVa v (mem_vars.2 (.inr ⟨_, h1, hv⟩)), fun v hv => hVb v (mem_vars.2 (.inr ⟨_, h2, hv⟩))⟩
    · exact h.restV p (by simp [hp])
  · have h1 := h.embL
    rw [List.map_cons] at h1
    simp only [ha] at h1
    have h2 := Emb.dec 2 n nm xs _ (by omega) h1
    rw [List.map_append]
    have e : (xs.zip ys).map (fun p => p.1.sub bs) = xs := by
      have : (xs.zip ys).map (fun p => p.1.sub bs) = ((xs.zip ys).map Prod.fst).map (T.sub bs) := by rw [List.map_map]; rfl
      rw [this, zip_map_fst hl, hxs]
    rw [e]; exact h2
  · have h1 := h.embR
    rw [List.map_cons] at h1
    simp only [hb] at h1
    have h2 := Emb.dec 2 n' nm ys _ (by omega) h1
    rw [List.map_append]
    have e : (xs.zip ys).map (fun p => p.2.sub bs) = ys := by
      have : (xs.zip ys).map (fun p => p.2.sub bs) = ((xs.zip ys).map Prod.snd).map (T.sub bs) := by rw [List.map_map]; rfl
      rw [this, zip_map_snd hl, hys]
    rw [e]; exact h2
theorem comp_one {bs : List Bnd} {nm : ByteArray} {y : T} (h : findB nm bs = none) : comp bs [⟨nm, y⟩] = bs.map (fun b => ⟨b.nm, b.tm.sub [⟨nm, y⟩]⟩) ++ [⟨nm, y⟩] := by
  unfold comp compA compB
  rw [List.filter_cons, if_pos (by simp only [h]; rfl), List.filter_nil]
/-- A variable is bound. -/
theorem UInv.bind {V : List ByteArray} {a0 b0 : T} {bs : List Bnd} {p : T × T} {rest : List (T × T)} (h : UInv V a0 b0 bs (p :: rest)) {nm : ByteArray} {y : T} (hy : ∀ v ∈ T.vars y, findB v bs = none ∧ v ∈ V) (hnm : findB nm bs = none) (hV : nm ∈ V) (hout : nm ∉ T.vars y)
    (hbig : bigB (comp bs [⟨nm, y⟩]) = false) : UInv V a0 b0 (comp bs [⟨nm, y⟩]) rest ∧ (comp bs [⟨nm, y⟩]).length = bs.length + 1 := by
  have hc := comp_one (y := y) hnm
  have hfind : ∀ v, findB v bs = none → v ≠ nm → findB v (comp bs [⟨nm, y⟩]) = none := fun v h1 h2 => by
    rw [findB_comp, h1]
    simp only
    rw [findB_cons, if_neg (fun e => h2 e.symm)]; rfl
  have hyv : ∀ v ∈ T.vars y, findB v (comp bs [⟨nm, y⟩]) = none := fun v hv => hfind v (hy v hv).1 (fun e => hout (e ▸ hv))
  have hval : ∀ b ∈ bs, ∀ v ∈ T.vars (b.tm.sub [⟨nm, y⟩]), (v ∈ T.vars b.tm ∧ v ≠ nm) ∨ v ∈ T.vars y := fun b hb v hv => by
    rcases T.vars_sub _ hv with ⟨h1, h2⟩ | ⟨c, hc2, h1⟩
    · refine .inl ⟨h1, fun e => ?_⟩
      rw [findB_cons, if_pos e.symm] at h2; cases h2
    · cases List.mem_singleton.1 hc2; exact .inr h1
  have hdr := h.drop
  refine ⟨⟨?_, ?_, ?_, hdr.restV, ?_, ?_, ?_⟩, by rw [hc]; simp⟩
  · intro b hb
    rw [hc] at hb
    rcases List.mem_append.1 hb with hb | hb
    · obtain ⟨c, hcm, rfl⟩ := List.mem_map.1 hb
      intro v hv
      rcases hval c hcm v hv with ⟨h1, h2⟩ | h1
      · exact hfind v (h.idem c hcm v h1) h2
      · exact hyv v h1
    · cases List.mem_singleton.1 hb
      exact hyv
  · rw [hc, List.map_append, List.map_map]
    have e : bs.map (Bnd.nm ∘ fun b => ⟨b.nm, b.tm.sub [⟨nm, y⟩]⟩) = bs.map Bnd.nm := List.map_congr_left fun _ _ => rfl
    rw [e, List.nodup_append]
    refine ⟨h.nod, by simp, fun v hv w hw e2 => ?_⟩
    simp only [List.map_cons, List.map_nil, List.mem_singleton] at hw
    subst hw
    obtain ⟨b, hb, h1⟩ := List.mem_map.1 hv
    exact findB_none.1 hnm b hb (h1.trans e2)
  · intro b hb
    rw [hc] at hb
    rcases List.mem_append.1 hb with hb | hb
    · obtain ⟨c, hcm, rfl⟩ := List.mem_map.1 hb
      refine ⟨(h.sub c hcm).1, fun v hv => ?_⟩
      rcases hval c hcm v hv with ⟨h1, h2⟩ | h1
      · exact (h.sub c hcm).2 v h1
      · exact (hy v h1).2
    · cases List.mem_singleton.1 hb
      exact ⟨hV, fun v hv => (hy v hv).2⟩
  · intro b hb
    unfold bigB at hbig
    have := List.any_eq_false.1 hbig b hb
    simpa using this
  · have h1 := hdr.embL.sub [⟨nm, y⟩]
    rw [List.map_cons, List.map_nil, List.map_map] at h1
    rw [T.sub_comp]
    have e : (rest.map fun p => p.1.sub (comp bs [⟨nm, y⟩])) = rest.map (T.sub [⟨nm, y⟩] ∘ fun p => p.1.sub bs) := List.map_congr_left fun q _ => T.sub_comp bs _ q.1
    rw [e]; exact h1
  · have h1 := hdr.embR.sub [⟨nm, y⟩]
    rw [List.map_cons, List.map_nil, List.map_map] at h1
    rw [T.sub_comp]
    have e : (rest.map fun p => p.2.sub (comp bs [⟨nm, y⟩])) = rest.map (T.sub [⟨nm, y⟩] ∘ fun p => p.2.sub bs) := List.map_congr_left fun q _ => T.sub_comp bs _ q.2
    rw [e]; exact h1
/-- A step keeps what holds; a variable more is bound, or there is less to do. -/
def sumU (bs : List Bnd) (rest : List (T × T)) : Nat := T.countL (rest.map fun p => p.1.sub bs)
theorem UInv.step {V : List ByteArray} {a0 b0 a b : T} {bs : List Bnd} {rest : List (T × T)} (h : UInv V a0 b0 bs ((a, b) :: rest)) {bs' : List Bnd} {more : List (T × T)} (hs : stepU bs (a.sub bs) (b.sub bs) = some (bs', more)) (hbig : bigB bs' = false) :
    UInv V a0 b0 bs' (more ++ rest) ∧ (bs'.length = bs.length + 1 ∨ (bs' = bs ∧ sumU bs (more ++ rest) < sumU bs ((a, b) :: rest))) := by
  have hva : ∀ v, v ∈ T.vars (a.sub bs) → findB v bs = none := fun v hv => h.idem.app a hv
  have hvb : ∀ v, v ∈ T.vars (b.sub bs) → findB v bs = none := fun v hv => h.idem.app b hv
  have hVa := vars_app h.sub (h.restV (a, b) (by simp)).1
  have hVb := vars_app h.sub (h.restV (a, b) (by simp)).2
  simp only at hVa hVb
  have hsum : sumU bs ((a, b) :: rest) = (a.sub bs).count + sumU bs rest := rfl
  obtain ⟨k, n, nm, xs, hx⟩ := T.eta (a.sub bs)
  obtain ⟨k', n', nm', ys, hy⟩ := T.eta (b.sub bs)
  rw [hx] at hs hva hVa hsum
  rw [hy] at hs hvb hVb
  have hpos : 1 ≤ (T.mk k n nm xs).count := by simp only [T.count]; omega
  simp only [stepU] at hs
  split at hs
  · cases hs
    exact ⟨h.drop, .inr ⟨rfl, by rw [hsum, List.nil_append]; omega⟩⟩
  split at hs
  · rename_i hk
    unfold bindU at hs
    split at hs
    · cases hs
    rename_i hout
    cases hs
    have hm : nm ∈ T.vars (.mk k n nm xs) := mem_vars.2 (.inl ⟨hk, rfl⟩)
    have h2 := h.bind (fun v hv => ⟨hvb v hv, hVb v hv⟩) (hva _ hm) (hVa nm hm) hout hbig
    exact ⟨h2.1, .inl h2.2⟩
  split at hs
  · rename_i _ hk
    unfold bindU at hs
    split at hs
    · cases hs
    rename_i hout
    cases hs
    have hm : nm' ∈ T.vars (.mk k' n' nm' ys) := mem_vars.2 (.inl ⟨hk, rfl⟩)
    have h2 := h.bind (fun v hv => ⟨hva v hv, hVa v hv⟩) (hvb _ hm) (hVb nm' hm) hout hbig
    exact ⟨h2.1, .inl h2.2⟩
  split at hs
  · rename_i hc
    obtain ⟨rfl, rfl, rfl, hl⟩ := hc
    cases hs
    refine ⟨h.dec hx hy hl, .inr ⟨rfl, ?_⟩⟩
    rw [hsum]
    unfold sumU
    rw [List.map_append, T.countL_app']
    have hxs : xs.map (T.sub bs) = xs := by
      rw [List.map_congr_left (g := id) fun x hx => T.sub_id x fun v hv => hva v (mem_vars.2 (.inr ⟨x, hx, hv⟩))]; simp
    have e : (xs.zip ys).map (fun p => p.1.sub bs) = xs := by
      have : (xs.zip ys).map (fun p => p.1.sub bs) = ((xs.zip ys).map Prod.fst).map (T.sub bs) := by rw [List.map_map]; rfl
      rw [this, zip_map_fst hl, hxs]
    rw [e]
    simp only [T.count]
    omega
  · cases hs
theorem nodup_len {α : Type} [DecidableEq α] : ∀ (l V : List α), l.Nodup → (∀ x ∈ l, x ∈ V) → l.length ≤ V.length := by
  intro l
  induction l with
  | nil => intro V _ _; simp
  | cons x xs ih =>
    intro V hn hV
    have h1 := List.nodup_cons.1 hn
    have hx := hV x (by simp)
    have h2 := ih (V.erase x) h1.2 fun y hy => (List.mem_erase_of_ne (fun e => by subst e; exact h1.1 hy)).2 (hV y (by simp [hy]))
    rw [List.length_erase_of_mem hx] at h2
    have : 1 ≤ V.length := List.length_pos_of_mem hx
    simp only [List.length_cons]; omega
theorem UInv.len {V : List ByteArray} {a0 b0 : T} {bs : List Bnd} {rest : List (T × T)} (h : UInv V a0 b0 bs rest) : bs.length ≤ V.length := by
  have := nodup_len (bs.map Bnd.nm) V h.nod fun x hx => by
    obtain ⟨b, hb, rfl⟩ := List.mem_map.1 hx
    exact (h.sub b hb).1
  simpa using this
/-- The unification comes to an end. -/
theorem uni_ends {V : List ByteArray} {a0 b0 : T} : ∀ (u s : Nat) (bs : List Bnd) (rest : List (T × T)), UInv V a0 b0 bs rest → V.length ≤ bs.length + u → sumU bs rest ≤ s → ∃ n r, uni n bs rest = some r := by
  intro u
  induction u with
  | zero =>
    intro s
    induction s with
    | zero =>
      intro bs rest h hu hs
      cases rest with
      | nil => exact ⟨0, _, rfl⟩
      | cons p rest =>
        have := T.countL_len ((p :: rest).map fun p => p.1.sub bs)
        unfold sumU at hs
        simp only [List.length_map, List.length_cons] at this
        omega
    | succ s ihs =>
      intro bs rest h hu hs
      cases rest with
      | nil => exact ⟨0, _, rfl⟩
      | cons p rest =>
        obtain ⟨a, b⟩ := p
        cases hst : stepU bs (a.sub bs) (b.sub bs) with
        | none => exact ⟨1, none, by simp only [uni, hst]⟩
        | some q =>
          obtain ⟨bs', more⟩ := q
          cases hb : bigB bs' with
          | true => exact ⟨1, none, by simp only [uni, hst, hb, if_true]⟩
          | false =>
            obtain ⟨h1, h2⟩ := h.step hst hb
            have h3 := h1.len
            rcases h2 with h2 | ⟨h2, h4⟩
            · omega
            · subst h2
              obtain ⟨n, r, h5⟩ := ihs bs' (more ++ rest) h1 hu (by omega)
              exact ⟨n + 1, r, by simp only [uni, hst, hb]; exact h5⟩
  | succ u ihu =>
    intro s
    induction s with
    | zero =>
      intro bs rest h hu hs
      cases rest with
      | nil => exact ⟨0, _, rfl⟩
      | cons p rest =>
        have := T.countL_len ((p :: rest).map fun p => p.1.sub bs)
        unfold sumU at hs
        simp only [List.length_map, List.length_cons] at this
        omega
    | succ s ihs =>
      intro bs rest h hu hs
      cases rest with
      | nil => exact ⟨0, _, rfl⟩
      | cons p rest =>
        obtain ⟨a, b⟩ := p
        cases hst : stepU bs (a.sub bs) (b.sub bs) with
        | none => exact ⟨1, none, by simp only [uni, hst]⟩
        | some q =>
          obtain ⟨bs', more⟩ := q
          cases hb : bigB bs' with
          | true => exact ⟨1, none, by simp only [uni, hst, hb, if_true]⟩
          | false =>
            obtain ⟨h1, h2⟩ := h.step hst hb
            rcases h2 with h2 | ⟨h2, h4⟩
            · obtain ⟨n, r, h5⟩ := ihu _ bs' (more ++ rest) h1 (by omega) (Nat.le_refl _)
              exact ⟨n + 1, r, by simp only [uni, hst, hb]; exact h5⟩
            · subst h2
              obtain ⟨n, r, h5⟩ := ihs bs' (more ++ rest) h1 hu (by omega)
              exact ⟨n + 1, r, by simp only [uni, hst, hb]; exact h5⟩
/-- How many terms there are, how great they become. -/
theorem UInv.small {V : List ByteArray} {a0 b0 : T} {bs : List Bnd} {rest : List (T × T)} (h : UInv V a0 b0 bs rest) : rest.length ≤ 400 * a0.count ∧ ∀ p ∈ rest, (p.1.sub bs).count ≤ 400 * a0.count ∧ (p.2.sub bs).count ≤ 400 * b0.count := by
  have h1 := h.embL.count
  have h2 := h.embR.count
  have h3 := T.count_sub h.c400 (by omega) a0
  have h4 := T.count_sub h.c400 (by omega) b0
  have h5 := T.countL_len (rest.map fun p => p.1.sub bs)
  simp only [T.countL, List.length_map] at h1 h2 h5
  refine ⟨by omega, fun p hp => ⟨?_, ?_⟩⟩
  · have := T.countL_mem (List.mem_map.2 ⟨p, hp, rfl⟩ : p.1.sub bs ∈ rest.map fun p => p.1.sub bs)
    omega
  · have := T.countL_mem (List.mem_map.2 ⟨p, hp, rfl⟩ : p.2.sub bs ∈ rest.map fun p => p.2.sub bs)
    omega
end Go.Proofs.Ytoeibmfdafilcaa.AM


/- Nodes, depth, names, validity of terms, in plain Lean. -/
namespace Go.Proofs.Ytoeibmfdafilcaa.AM
open Go Go.Proofs
set_option linter.unusedVariables false
set_option linter.unusedSimpArgs false

theorem T.countL_app (xs ys : List T) : T.countL (xs ++ ys) = T.countL xs + T.countL ys := by
  induction xs with
  | nil => simp [T.countL]
  | cons x xs ih => simp only [List.cons_append, T.countL, ih]; omega
theorem T.count_pos (t : T) : 1 ≤ t.count := by cases t; simp only [T.count]; omega
theorem T.count_wt : ∀ t : T, t.count ≤ t.wt + 1 := by
  refine T.ind fun k n nm args ih => ?_
  have hL : ∀ l : List T, (∀ a ∈ l, a.count ≤ a.wt + 1) → T.countL l ≤ T.wtL l + l.length := by
    intro l
    induction l with
    | nil => intro _; exact Nat.le_refl _
    | cons x xs ihx =>
      intro h
      have h1 := h x (by simp)
      have h2 := ihx fun a ha => h a (by simp [ha])
      simp only [T.wtL, T.countL, List.length_cons]; omega
  have := hL args ih
  simp only [T.wt, T.count]; omega
end Go.Proofs.Ytoeibmfdafilcaa.AM


namespace Go.Proofs.Ytoeibmfdafilcaa.AM
open Go
attribute [local go_sem] List.map_cons List.map_nil List.all_cons List.all_nil Bool.and_self Option.map_some List.getElem?_toArray Option.bind_some gye_b gye_t gsk_b gsk_t gb1 gb2 gb3 gb4 bne_self_eq_false beq_self_eq_true w_guard w_nil stepV_some step_some step_some' w_move w_assign w_pick w_binOp w_unOp w_load w_fieldAddr w_indexAddr w_len w_max w_index ev_max max_int ev_index w_box w_alloc w_store w_field w_extract w_nilCheck w_convert w_buildSlice w_build ev_buildL fillL_nil fillL_cons bs0 bs1 ev_conv ev_bin ev_un ev_pick ev_load ev_fieldAddr ev_indexAddr ev_len ev_field ev_extract ev_nilCheck fr_tmp fr_int fr_bool fr_str fr_nil fr_func put_some put_none bin_lss bin_leq bin_gtr bin_geq bin_eql bin_neq bin_add bin_sub bin_mul bin_seql bin_sneq un_not pick_ ext_ loadA_p cellAt_l cellAt_h okPtr_l okPtr_h fadA_p allocA_l storeA_l cells_agg cells_int cells_str cells_sl cells_bool flat_i flat_s flat_b flat_sl flat_nil loc_agg loc_int loc_str loc_sl loc_bool loc_fn loc_ptr okv_agg okv_int okv_str okv_sl okv_bool cellsFrom splice upd_eval argEnv_zero argEnv_succ ne_eq Nat.add_one_ne_zero not_false_eq_true List.not_mem_nil and_self decide_true List.getElem?_cons_zero List.getElem?_cons_succ List.size_toArray List.length_cons List.length_nil List.take_succ_cons List.take_zero List.drop_succ_cons List.drop_zero List.cons_append List.nil_append List.drop_nil Bool.not_true Bool.not_false Bool.false_eq_true Nat.zero_add Nat.add_zero wrap_in List.toList_toArray List.mem_cons or_self or_false false_or
attribute [local go_sem] ag22 ag24 ag26 ag29 ag3 ag31 ag49 ag54 ag9 ag91 bu31 bu41 bu49 bu54 by31 by49 by54 by9 el22 el26 el29 el45 el50 el68 of24_0 of24_1 of24_2 of24_3 of31_0 of31_1 of31_2 of31_3 of41_0 of41_1 of41_2 of49_0 of49_1 of54_0 of54_1 ro31_0 ro31_1 ro49_1 ro5_1 ro54_0 ro54_1 ro9_0 ro9_1 sz22 sz24 sz26 sz29 sz3 sz31 sz49 sz5 sz54 sz9 sz91 ze3 ze31 ze49 ze54 ze9 ze91
section
/- What is in a term, bounded by its nodes. -/
open Go Go.Proofs
set_option linter.unusedVariables false
set_option linter.unusedSimpArgs false
set_option maxRecDepth 100000
-- AUTO

theorem Lim.of_count {B : Nat} : ∀ t : T, t.count ≤ B → Lim B t := by
  refine T.ind fun k n nm args ih h => ?_
  simp only [T.count] at h
  have h1 := T.countL_len args
  exact .mk k n nm args (by omega) fun a ha => ih a ha (by have := T.countL_mem ha; omega)
theorem T.varsL_lenC0 : ∀ ys : List T, (∀ y ∈ ys, (T.vars y).length ≤ y.count) → (T.varsL ys).length ≤ T.countL ys := by
  intro ys
  induction ys with
  | nil => intro _; simp [T.varsL]
  | cons y ys ihy =>
    intro h
    have h1 := h y (by simp)
    have h2 := ihy fun z hz => h z (by simp [hz])
    simp only [T.varsL, List.length_append, T.countL]
    omega
theorem T.vars_lenC : ∀ t : T, (T.vars t).length ≤ t.count := by
  refine T.ind fun k n nm xs ih => ?_
  have h1 := T.varsL_lenC0 xs ih
  rw [T.vars_mk]
  simp only [T.count, List.length_append]
  split <;> simp <;> omega
theorem T.vars_roomC {xs : List T} {j : Nat} (h : j < xs.length) : (T.varsL (xs.take j)).length + xs[j].count ≤ T.countL xs := by
  have h1 := T.varsL_lenC0 (xs.take j) fun y _ => T.vars_lenC y
  have h2 := T.countL_app (xs.take j) (xs.drop j)
  rw [List.take_append_drop, List.drop_eq_getElem_cons h] at h2
  simp only [T.countL] at h2
  omega
theorem specVarsC_ok : ∀ (t : T) (s0 st : St) (cs : List Value) (l : List ByteArray) (s : Value) (L : List Nat), Lim 1073741824 t → l.length + t.count ≤ 1073741824 → Ext s0 st → Enc s0 t cs → Sl st l s L → Fresh s0.length L →
    CallS Try.prog 34 [.agg cs.toArray, s] st fun r st2 => Ext s0 st2 ∧ ∃ L', Sl st2 (l ++ T.vars t) r L' ∧ Fresh s0.length L' := by
  refine T.ind fun k n nm xs ih s0 st cs l s L hlm hB hx0 hE hs hf => ?_
  obtain ⟨s1, rfl, hr⟩ := hE.open
  refine CallS_of_W [] 29 Try.func34 rfl rfl rfl rfl (by simp) ?_
  have q1 := hr.notLoc.1
  have q2 := hr.notLoc.2
  have q3 := hs.loc
  have hb := hlm.args.1
  have hwt : (T.mk k n nm xs).count = 1 + T.countL xs := by simp only [T.count]
  have hlen : lenE Try.prog 29 s1 = some (.int .i64 xs.length) := row_len hr Try.underlying29
  repeat (first | ((first | refine W_reg rfl fun G K hG hK => ?_ | refine W_end rfl fun G K hG hK => ?_); simp (disch := omega) only [go_sem, ↓reduceIte, Nat.reduceEqDiff, Nat.reduceAdd, Nat.reduceLeDiff, hG, q1, q2, q3]; refine hK _ _ ?_; clear hK K hG G) | refine W_seqS ?_ | refine W_seqC ?_ | refine W_seqB ?_ | refine W_block ?_ | refine W_skip ?_ | (refine W_condT ?hc ?_; (case hc => (simp (disch := omega) only [go_sem, ↓reduceIte, Nat.reduceEqDiff, Nat.reduceAdd, Nat.reduceLeDiff, q1, q2, q3]; done))) | (refine W_condF ?hc ?_; (case hc => (simp (disch := omega) only [go_sem, ↓reduceIte, Nat.reduceEqDiff, Nat.reduceAdd, Nat.reduceLeDiff, q1, q2, q3]; done))) | refine thenI ?_ | refine thenE ?_ | refine thenR ?_ | refine inBI ?_ | refine inBR ?_ | refine inBS ?_ | refine inBN (by decide) ?_)
  refine W_to (fun fr st' => ∃ (r : Value) (L1 : List Nat), (Ext s0 st') ∧ (Sl st' (l ++ (if (k == 1) = true then [nm] else [])) r L1) ∧ (Fresh s0.length L1) ∧ (fr.env 1 = r) ∧ (fr.env 2 = .pointer (some ⟨2, 0, some 1⟩)) ∧ (fr.loc 2 = (1, [.int .i64 k, .int .i64 n, .string nm, s1]))) ?_ ?_
  · cases hk : (k == 1) with
    | false =>
      repeat (first | ((first | refine W_reg rfl fun G K hG hK => ?_ | refine W_end rfl fun G K hG hK => ?_); simp (disch := omega) only [go_sem, ↓reduceIte, Nat.reduceEqDiff, Nat.reduceAdd, Nat.reduceLeDiff, hG, q1, q2, q3, hk]; refine hK _ _ ?_; clear hK K hG G) | refine W_seqS ?_ | refine W_seqC ?_ | refine W_seqB ?_ | refine W_block ?_ | refine W_skip ?_ | (refine W_condT ?hc ?_; (case hc => (simp (disch := omega) only [go_sem, ↓reduceIte, Nat.reduceEqDiff, Nat.reduceAdd, Nat.reduceLeDiff, q1, q2, q3, hk]; done))) | (refine W_condF ?hc ?_; (case hc => (simp (disch := omega) only [go_sem, ↓reduceIte, Nat.reduceEqDiff, Nat.reduceAdd, Nat.reduceLeDiff, q1, q2, q3, hk]; done))) | refine thenI ?_ | refine thenE ?_ | refine thenR ?_ | refine inBI ?_ | refine inBR ?_ | refine inBS ?_ | refine inBN (by decide) ?_)
      exact ⟨s, L, hx0, by simpa using hs, hf, (by (simp (disch := omega) only [go_sem, ↓reduceIte, Nat.reduceEqDiff, Nat.reduceAdd, Nat.reduceLeDiff, q1, q2, q3]); try rfl), (by (simp (disch := omega) only [go_sem, ↓reduceIte, Nat.reduceEqDiff, Nat.reduceAdd, Nat.reduceLeDiff, q1, q2, q3]); try rfl), (by (simp (disch := omega) only [go_sem, ↓reduceIte, Nat.reduceEqDiff, Nat.reduceAdd, Nat.reduceLeDiff, q1, q2, q3]); try rfl)⟩
    | true =>
      obtain ⟨s', sb, L', hap, hs', hf', hg⟩ := OwnS.step (x := nm) hs hf hx0.length (Ext.refl st) (by omega)
      repeat (first | ((first | refine W_reg rfl fun G K hG hK => ?_ | refine W_end rfl fun G K hG hK => ?_); simp (disch := omega) only [go_sem, ↓reduceIte, Nat.reduceEqDiff, Nat.reduceAdd, Nat.reduceLeDiff, hG, q1, q2, q3, hk]; refine hK _ _ ?_; clear hK K hG G) | refine W_seqS ?_ | refine W_seqC ?_ | refine W_seqB ?_ | refine W_block ?_ | refine W_skip ?_ | (refine W_condT ?hc ?_; (case hc => (simp (disch := omega) only [go_sem, ↓reduceIte, Nat.reduceEqDiff, Nat.reduceAdd, Nat.reduceLeDiff, q1, q2, q3, hk]; done))) | (refine W_condF ?hc ?_; (case hc => (simp (disch := omega) only [go_sem, ↓reduceIte, Nat.reduceEqDiff, Nat.reduceAdd, Nat.reduceLeDiff, q1, q2, q3, hk]; done))) | refine thenI ?_ | refine thenE ?_ | refine thenR ?_ | refine inBI ?_ | refine inBR ?_ | refine inBS ?_ | refine inBN (by decide) ?_)
      refine W_end rfl fun G K hG hK => ?_; simp (disch := omega) only [go_sem, ↓reduceIte, Nat.reduceEqDiff, Nat.reduceAdd, Nat.reduceLeDiff, hG, q1, q2, q3, w_append, hap]
      refine hK _ _ ?_; clear hK K hG G; repeat (first | refine thenI ?_ | refine thenE ?_ | refine thenR ?_ | refine inBI ?_ | refine inBR ?_ | refine inBS ?_ | refine inBN (by decide) ?_)
      exact ⟨s', L', hg.away.ext_of hx0 (hs.top hf), hs', hf', (by (simp (disch := omega) only [go_sem, ↓reduceIte, Nat.reduceEqDiff, Nat.reduceAdd, Nat.reduceLeDiff, q1, q2, q3]); try rfl), (by (simp (disch := omega) only [go_sem, ↓reduceIte, Nat.reduceEqDiff, Nat.reduceAdd, Nat.reduceLeDiff, q1, q2, q3]); try rfl), (by (simp (disch := omega) only [go_sem, ↓reduceIte, Nat.reduceEqDiff, Nat.reduceAdd, Nat.reduceLeDiff, q1, q2, q3]); try rfl)⟩
  rintro ⟨env, loc⟩ st' ⟨r, L1, hx1, hs1, hf1, e1, e2, l2⟩
  simp only at e1 e2 l2
  have hl1 : (l ++ (if (k == 1) = true then [nm] else [])).length ≤ l.length + 1 := by split <;> simp
  rw [T.vars_mk, ← List.append_assoc]
  generalize hgl : l ++ (if (k == 1) = true then [nm] else []) = l1 at hs1 hl1
  repeat (first | ((first | refine W_reg rfl fun G K hG hK => ?_ | refine W_end rfl fun G K hG hK => ?_); simp (disch := omega) only [go_sem, ↓reduceIte, Nat.reduceEqDiff, Nat.reduceAdd, Nat.reduceLeDiff, hG, q1, q2, q3, e1, e2, l2]; refine hK _ _ ?_; clear hK K hG G) | refine W_seqS ?_ | refine W_seqC ?_ | refine W_seqB ?_ | refine W_block ?_ | refine W_skip ?_ | (refine W_condT ?hc ?_; (case hc => (simp (disch := omega) only [go_sem, ↓reduceIte, Nat.reduceEqDiff, Nat.reduceAdd, Nat.reduceLeDiff, q1, q2, q3, e1, e2, l2]; done))) | (refine W_condF ?hc ?_; (case hc => (simp (disch := omega) only [go_sem, ↓reduceIte, Nat.reduceEqDiff, Nat.reduceAdd, Nat.reduceLeDiff, q1, q2, q3, e1, e2, l2]; done))) | refine thenI ?_ | refine thenE ?_ | refine thenR ?_ | refine inBI ?_ | refine inBR ?_ | refine inBS ?_ | refine inBN (by decide) ?_)
  refine W_loop (fun d fr st' => ∃ (j : Nat) (r1 : Value) (L2 : List Nat), d = xs.length - j ∧ j ≤ xs.length ∧ (Ext s0 st') ∧ (Sl st' (l1 ++ T.varsL (xs.take j)) r1 L2) ∧ (Fresh s0.length L2) ∧ (fr.env 1 = r1) ∧ (fr.env 2 = .pointer (some ⟨2, 0, some 1⟩)) ∧ (fr.env 5 = .int .i64 j) ∧ (fr.loc 2 = (1, [.int .i64 k, .int .i64 n, .string nm, s1]))) (xs.length) ?_ ?_
  · exact ⟨0, r, L1, by omega, by omega, hx1, by simpa [T.varsL] using hs1, hf1, (by (simp (disch := omega) only [go_sem, ↓reduceIte, Nat.reduceEqDiff, Nat.reduceAdd, Nat.reduceLeDiff, q1, q2, q3, e1, e2, l2, hlen]); try rfl), (by (simp (disch := omega) only [go_sem, ↓reduceIte, Nat.reduceEqDiff, Nat.reduceAdd, Nat.reduceLeDiff, q1, q2, q3, e1, e2, l2, hlen]); try rfl), (by (simp (disch := omega) only [go_sem, ↓reduceIte, Nat.reduceEqDiff, Nat.reduceAdd, Nat.reduceLeDiff, q1, q2, q3, e1, e2, l2, hlen]); try rfl), (by (simp (disch := omega) only [go_sem, ↓reduceIte, Nat.reduceEqDiff, Nat.reduceAdd, Nat.reduceLeDiff, q1, q2, q3, e1, e2, l2, hlen]); try rfl)⟩
  clear e1 e2 l2
  rintro d ⟨env, loc⟩ st' ⟨j, r1, L2, hd, hj, hext, hown, hfr, e1, e2, e5, l2⟩
  simp only at e1 e2 e5 l2
  have ol := hown.loc
  by_cases hlt : j < xs.length
  · have c1 : decide ((j : Int) < (xs.length : Int)) = true := by simpa using hlt
    have hi := idxOk hlt
    have hx : xs[j]? = some xs[j] := List.getElem?_eq_getElem hlt
    have htk : xs.take (j + 1) = xs.take j ++ [xs[j]] := List.take_succ_eq_append_getElem hlt
    obtain ⟨i, o, c, cs, rfl, hcl, hE, hcs⟩ := row_at hr hx
    have hld := fun loc => load_row (A := []) (loc := loc) ag31 sz31 hcl (hcs.ext hext)
    have hbt := T.vars_roomC hlt
    repeat (first | ((first | refine W_reg rfl fun G K hG hK => ?_ | refine W_end rfl fun G K hG hK => ?_); simp (disch := omega) only [go_sem, ↓reduceIte, Nat.reduceEqDiff, Nat.reduceAdd, Nat.reduceLeDiff, hG, q1, q2, q3, hlen, e1, e2, e5, l2, c1, hi, idxA, Int.toNat_natCast]; refine hK _ _ ?_; clear hK K hG G) | refine W_seqS ?_ | refine W_seqC ?_ | refine W_seqB ?_ | refine W_block ?_ | refine W_skip ?_ | (refine W_condT ?hc ?_; (case hc => (simp (disch := omega) only [go_sem, ↓reduceIte, Nat.reduceEqDiff, Nat.reduceAdd, Nat.reduceLeDiff, q1, q2, q3, hlen, e1, e2, e5, l2, c1, hi, idxA, Int.toNat_natCast]; done))) | (refine W_condF ?hc ?_; (case hc => (simp (disch := omega) only [go_sem, ↓reduceIte, Nat.reduceEqDiff, Nat.reduceAdd, Nat.reduceLeDiff, q1, q2, q3, hlen, e1, e2, e5, l2, c1, hi, idxA, Int.toNat_natCast]; done))) | refine thenI ?_ | refine thenE ?_ | refine thenR ?_ | refine inBI ?_ | refine inBR ?_ | refine inBS ?_ | refine inBN (by decide) ?_)
    refine W_end rfl fun G K hG hK => ?_; simp (disch := omega) only [go_sem, ↓reduceIte, Nat.reduceEqDiff, Nat.reduceAdd, Nat.reduceLeDiff, hG, q1, q2, q3, hlen, e1, e2, e5, l2, c1, hi, idxA, Int.toNat_natCast, hld, ol]
    refine w_call (ih xs[j] (List.getElem_mem hlt) s0 st' _ (l1 ++ T.varsL (xs.take j)) r1 L2 (hlm.args.2 _ (List.getElem_mem hlt)) (by rw [List.length_append]; omega) hext hE hown hfr) (by simp (disch := omega) only [go_sem, ↓reduceIte, Nat.reduceEqDiff, q1, q2, q3, hlen, e1, e2, e5, l2, c1, hi, idxA, Int.toNat_natCast, ol]) ?hl ?_
    case hl => first | rfl | (simp only [go_sem, List.all_cons, List.all_nil, Bool.not_false, Bool.and_self, q1, q2, q3, hlen, e1, e2, e5, l2, c1, hi, idxA, Int.toNat_natCast, ol]; done)
    rintro r_ sb ⟨x1, L3, hown2, hfr2⟩; refine ⟨fun e => (by cases e), ?_⟩
    have ol2 := hown2.loc
    simp (disch := omega) only [go_sem, ↓reduceIte, Nat.reduceEqDiff, Nat.reduceAdd, Nat.reduceLeDiff, hG, q1, q2, q3, hlen, e1, e2, e5, l2, c1, hi, idxA, Int.toNat_natCast, ol2]; refine hK _ _ ?_; clear hK K hG G; repeat (first | refine thenI ?_ | refine thenE ?_ | refine thenR ?_ | refine inBI ?_ | refine inBR ?_ | refine inBS ?_ | refine inBN (by decide) ?_)
    repeat (first | ((first | refine W_reg rfl fun G K hG hK => ?_ | refine W_end rfl fun G K hG hK => ?_); simp (disch := omega) only [go_sem, ↓reduceIte, Nat.reduceEqDiff, Nat.reduceAdd, Nat.reduceLeDiff, hG, q1, q2, q3, hlen, e1, e2, e5, l2, c1, hi, idxA, Int.toNat_natCast]; refine hK _ _ ?_; clear hK K hG G) | refine W_seqS ?_ | refine W_seqC ?_ | refine W_seqB ?_ | refine W_block ?_ | refine W_skip ?_ | (refine W_condT ?hc ?_; (case hc => (simp (disch := omega) only [go_sem, ↓reduceIte, Nat.reduceEqDiff, Nat.reduceAdd, Nat.reduceLeDiff, q1, q2, q3, hlen, e1, e2, e5, l2, c1, hi, idxA, Int.toNat_natCast]; done))) | (refine W_condF ?hc ?_; (case hc => (simp (disch := omega) only [go_sem, ↓reduceIte, Nat.reduceEqDiff, Nat.reduceAdd, Nat.reduceLeDiff, q1, q2, q3, hlen, e1, e2, e5, l2, c1, hi, idxA, Int.toNat_natCast]; done))) | refine thenI ?_ | refine thenE ?_ | refine thenR ?_ | refine inBI ?_ | refine inBR ?_ | refine inBS ?_ | refine inBN (by decide) ?_)
    refine ⟨xs.length - (j + 1), by omega, j + 1, _, L3, rfl, by omega, x1, by rw [T.varsL_take hlt, ← List.append_assoc]; exact hown2, hfr2, (by (simp (disch := omega) only [go_sem, ↓reduceIte, Nat.reduceEqDiff, Nat.reduceAdd, Nat.reduceLeDiff, q1, q2, q3, hlen, e1, e2, e5, l2, c1, hi, idxA, Int.toNat_natCast]); try rfl), (by (simp (disch := omega) only [go_sem, ↓reduceIte, Nat.reduceEqDiff, Nat.reduceAdd, Nat.reduceLeDiff, q1, q2, q3, hlen, e1, e2, e5, l2, c1, hi, idxA, Int.toNat_natCast]); try rfl), (by (simp (disch := omega) only [go_sem, ↓reduceIte, Nat.reduceEqDiff, Nat.reduceAdd, Nat.reduceLeDiff, q1, q2, q3, hlen, e1, e2, e5, l2, c1, hi, idxA, Int.toNat_natCast]); try rfl), (by (simp (disch := omega) only [go_sem, ↓reduceIte, Nat.reduceEqDiff, Nat.reduceAdd, Nat.reduceLeDiff, q1, q2, q3, hlen, e1, e2, e5, l2, c1, hi, idxA, Int.toNat_natCast]); try rfl)⟩
  · have c1 : decide ((j : Int) < (xs.length : Int)) = false := by simpa using hlt
    have hjn : j = xs.length := by omega
    subst hjn
    rw [List.take_length] at hown
    repeat (first | ((first | refine W_reg rfl fun G K hG hK => ?_ | refine W_end rfl fun G K hG hK => ?_); simp (disch := omega) only [go_sem, ↓reduceIte, Nat.reduceEqDiff, Nat.reduceAdd, Nat.reduceLeDiff, hG, q1, q2, q3, hlen, e1, e2, e5, l2, c1, ol]; refine hK _ _ ?_; clear hK K hG G) | refine W_seqS ?_ | refine W_seqC ?_ | refine W_seqB ?_ | refine W_block ?_ | refine W_skip ?_ | (refine W_condT ?hc ?_; (case hc => (simp (disch := omega) only [go_sem, ↓reduceIte, Nat.reduceEqDiff, Nat.reduceAdd, Nat.reduceLeDiff, q1, q2, q3, hlen, e1, e2, e5, l2, c1, ol]; done))) | (refine W_condF ?hc ?_; (case hc => (simp (disch := omega) only [go_sem, ↓reduceIte, Nat.reduceEqDiff, Nat.reduceAdd, Nat.reduceLeDiff, q1, q2, q3, hlen, e1, e2, e5, l2, c1, ol]; done))) | refine thenI ?_ | refine thenE ?_ | refine thenR ?_ | refine inBI ?_ | refine inBR ?_ | refine inBS ?_ | refine inBN (by decide) ?_)
    refine W_exit ?_; repeat (first | refine thenI ?_ | refine thenE ?_ | refine thenR ?_ | refine inBI ?_ | refine inBR ?_ | refine inBS ?_ | refine inBN (by decide) ?_)
    repeat (first | ((first | refine W_reg rfl fun G K hG hK => ?_ | refine W_end rfl fun G K hG hK => ?_); simp (disch := omega) only [go_sem, ↓reduceIte, Nat.reduceEqDiff, Nat.reduceAdd, Nat.reduceLeDiff, hG, q1, q2, q3, hlen, e1, e2, e5, l2, c1, ol]; refine hK _ _ ?_; clear hK K hG G) | refine W_seqS ?_ | refine W_seqC ?_ | refine W_seqB ?_ | refine W_block ?_ | refine W_skip ?_ | (refine W_condT ?hc ?_; (case hc => (simp (disch := omega) only [go_sem, ↓reduceIte, Nat.reduceEqDiff, Nat.reduceAdd, Nat.reduceLeDiff, q1, q2, q3, hlen, e1, e2, e5, l2, c1, ol]; done))) | (refine W_condF ?hc ?_; (case hc => (simp (disch := omega) only [go_sem, ↓reduceIte, Nat.reduceEqDiff, Nat.reduceAdd, Nat.reduceLeDiff, q1, q2, q3, hlen, e1, e2, e5, l2, c1, ol]; done))) | refine thenI ?_ | refine thenE ?_ | refine thenR ?_ | refine inBI ?_ | refine inBR ?_ | refine inBS ?_ | refine inBN (by decide) ?_)
    refine W_ret ?_; try (repeat (first | refine thenI ?_ | refine thenE ?_ | refine thenR ?_ | refine inBI ?_ | refine inBR ?_ | refine inBS ?_ | refine inBN (by decide) ?_))
    refine fin1 (.inl rfl) (by (simp (disch := omega) only [go_sem, ↓reduceIte, Nat.reduceEqDiff, Nat.reduceAdd, Nat.reduceLeDiff, q1, q2, q3, hlen, e1, e2, e5, l2, c1, ol]); try rfl) ol ⟨hext, L2, hown, hfr⟩
theorem specVarsOfC_ok (t : T) (st : St) (cs : List Value) (hlm : Lim 1073741824 t) (hB : t.count ≤ 1073741824) (hE : Enc st t cs) :
    CallS Try.prog 17 [.agg cs.toArray] st fun r st2 => Ext st st2 ∧ ∃ L, Sl st2 (namesB (T.vars t)) r L ∧ Fresh st.length L := by
  obtain ⟨k, n, nm, args, hte⟩ := T.eta t
  obtain ⟨s1, rfl, hr⟩ := (hte ▸ hE).open
  refine CallS_of_W [] 7 Try.func17 rfl rfl rfl rfl (by simp) ?_
  have q1 := hr.notLoc.1
  have q2 := hr.notLoc.2
  have hvl := T.vars_lenC t
  repeat (first | ((first | refine W_reg rfl fun G K hG hK => ?_ | refine W_end rfl fun G K hG hK => ?_); simp (disch := omega) only [go_sem, ↓reduceIte, Nat.reduceEqDiff, Nat.reduceAdd, Nat.reduceLeDiff, hG, q1, q2]; refine hK _ _ ?_; clear hK K hG G) | refine W_seqS ?_ | refine W_seqC ?_ | refine W_seqB ?_ | refine W_block ?_ | refine W_skip ?_ | (refine W_condT ?hc ?_; (case hc => (simp (disch := omega) only [go_sem, ↓reduceIte, Nat.reduceEqDiff, Nat.reduceAdd, Nat.reduceLeDiff, q1, q2]; done))) | (refine W_condF ?hc ?_; (case hc => (simp (disch := omega) only [go_sem, ↓reduceIte, Nat.reduceEqDiff, Nat.reduceAdd, Nat.reduceLeDiff, q1, q2]; done))) | refine thenI ?_ | refine thenE ?_ | refine thenR ?_ | refine inBI ?_ | refine inBR ?_ | refine inBS ?_ | refine inBN (by decide) ?_)
  (repeat (first | refine W_seqS ?_ | refine W_seqC ?_ | refine W_seqB ?_ | refine W_block ?_)); refine W_reg rfl fun G K hG hK => ?_; simp (disch := omega) only [go_sem, ↓reduceIte, Nat.reduceEqDiff, Nat.reduceAdd, Nat.reduceLeDiff, hG, q1, q2]
  refine w_call (specVarsC_ok t st (st ++ [⟨[], 9, 0⟩]) _ [] _ [st.length] hlm (by simpa using hB) (Ext.app _ _) hE (Sl.empty st) ⟨by simp, by simp⟩) (by simp (disch := omega) only [go_sem, ↓reduceIte, Nat.reduceEqDiff, q1, q2]) ?hl ?_
  case hl => first | rfl | (simp only [go_sem, List.all_cons, List.all_nil, Bool.not_false, Bool.and_self, q1, q2]; done)
  rintro r_ sa ⟨x1, L1, hs1, hf1⟩; refine ⟨fun e => (by cases e), ?_⟩
  have o1 := hs1.loc
  simp (disch := omega) only [go_sem, ↓reduceIte, Nat.reduceEqDiff, Nat.reduceAdd, Nat.reduceLeDiff, q1, q2, o1]
  refine w_call (specSort_ok (T.vars t) sa _ (by omega) (by simpa using hs1.row)) (by simp (disch := omega) only [go_sem, ↓reduceIte, Nat.reduceEqDiff, q1, q2, o1]) ?hl ?_
  case hl => first | rfl | (simp only [go_sem, List.all_cons, List.all_nil, Bool.not_false, Bool.and_self, q1, q2, o1]; done)
  rintro r_ sb ⟨x2, L2, hs2, hf2⟩; refine ⟨fun e => (by cases e), ?_⟩
  have o2 := hs2.loc
  simp (disch := omega) only [go_sem, ↓reduceIte, Nat.reduceEqDiff, Nat.reduceAdd, Nat.reduceLeDiff, hG, q1, q2, o2]; refine hK _ _ ?_; clear hK K hG G; repeat (first | refine thenI ?_ | refine thenE ?_ | refine thenR ?_ | refine inBI ?_ | refine inBR ?_ | refine inBS ?_ | refine inBN (by decide) ?_)
  have hl1 := x1.length
  refine W_ret ?_; try (repeat (first | refine thenI ?_ | refine thenE ?_ | refine thenR ?_ | refine inBI ?_ | refine inBR ?_ | refine inBS ?_ | refine inBN (by decide) ?_))
  refine fin1 (.inl rfl) (by (simp (disch := omega) only [go_sem, ↓reduceIte, Nat.reduceEqDiff, Nat.reduceAdd, Nat.reduceLeDiff, q1, q2]); try rfl) o2 ⟨x1.trans x2, L2, hs2, hf2.1, fun i hi => Nat.le_trans hl1 (hf2.2 i hi)⟩

theorem implVarsC_ok : ∀ (t : T) (st : St) (cs : List Value), Lim 1073741824 t → t.count ≤ 1073741824 → Enc st t cs →
    CallS Try.prog 38 [.agg cs.toArray] st fun r st2 => Ext st st2 ∧ ∃ L, Sl st2 (T.vars t) r L ∧ Fresh st.length L := by
  refine T.ind fun k n nm xs ih st cs hlm hB hE => ?_
  obtain ⟨s1, rfl, hr⟩ := hE.open
  refine CallS_of_W [] 27 Try.func38 rfl rfl rfl rfl (by simp) ?_
  have q1 := hr.notLoc.1
  have q2 := hr.notLoc.2
  have hb := hlm.args.1
  have hwt : (T.mk k n nm xs).count = 1 + T.countL xs := by simp only [T.count]
  have hlen : lenE Try.prog 29 s1 = some (.int .i64 xs.length) := row_len hr Try.underlying29
  repeat (first | ((first | refine W_reg rfl fun G K hG hK => ?_ | refine W_end rfl fun G K hG hK => ?_); simp (disch := omega) only [go_sem, ↓reduceIte, Nat.reduceEqDiff, Nat.reduceAdd, Nat.reduceLeDiff, hG, q1, q2]; refine hK _ _ ?_; clear hK K hG G) | refine W_seqS ?_ | refine W_seqC ?_ | refine W_seqB ?_ | refine W_block ?_ | refine W_skip ?_ | (refine W_condT ?hc ?_; (case hc => (simp (disch := omega) only [go_sem, ↓reduceIte, Nat.reduceEqDiff, Nat.reduceAdd, Nat.reduceLeDiff, q1, q2]; done))) | (refine W_condF ?hc ?_; (case hc => (simp (disch := omega) only [go_sem, ↓reduceIte, Nat.reduceEqDiff, Nat.reduceAdd, Nat.reduceLeDiff, q1, q2]; done))) | refine thenI ?_ | refine thenE ?_ | refine thenR ?_ | refine inBI ?_ | refine inBR ?_ | refine inBS ?_ | refine inBN (by decide) ?_)
  refine W_to (fun fr st' => ∃ (r : Value) (L1 : List Nat), (Ext st st') ∧ (Sl st' (if (k == 1) = true then [nm] else []) r L1) ∧ (Fresh st.length L1) ∧ (fr.env 3 = r) ∧ (fr.env 1 = .pointer (some ⟨1, 0, some 1⟩)) ∧ (fr.loc 1 = (1, [.int .i64 k, .int .i64 n, .string nm, s1]))) ?_ ?_
  · cases hk : (k == 1) with
    | false =>
      repeat (first | ((first | refine W_reg rfl fun G K hG hK => ?_ | refine W_end rfl fun G K hG hK => ?_); simp (disch := omega) only [go_sem, ↓reduceIte, Nat.reduceEqDiff, Nat.reduceAdd, Nat.reduceLeDiff, hG, q1, q2, hk]; refine hK _ _ ?_; clear hK K hG G) | refine W_seqS ?_ | refine W_seqC ?_ | refine W_seqB ?_ | refine W_block ?_ | refine W_skip ?_ | (refine W_condT ?hc ?_; (case hc => (simp (disch := omega) only [go_sem, ↓reduceIte, Nat.reduceEqDiff, Nat.reduceAdd, Nat.reduceLeDiff, q1, q2, hk]; done))) | (refine W_condF ?hc ?_; (case hc => (simp (disch := omega) only [go_sem, ↓reduceIte, Nat.reduceEqDiff, Nat.reduceAdd, Nat.reduceLeDiff, q1, q2, hk]; done))) | refine thenI ?_ | refine thenE ?_ | refine thenR ?_ | refine inBI ?_ | refine inBR ?_ | refine inBS ?_ | refine inBN (by decide) ?_)
      exact ⟨_, [], Ext.refl _, Sl.nil _, .nil _, (by (simp (disch := omega) only [go_sem, ↓reduceIte, Nat.reduceEqDiff, Nat.reduceAdd, Nat.reduceLeDiff, q1, q2]); try rfl), (by (simp (disch := omega) only [go_sem, ↓reduceIte, Nat.reduceEqDiff, Nat.reduceAdd, Nat.reduceLeDiff, q1, q2]); try rfl), (by (simp (disch := omega) only [go_sem, ↓reduceIte, Nat.reduceEqDiff, Nat.reduceAdd, Nat.reduceLeDiff, q1, q2]); try rfl)⟩
    | true =>
      obtain ⟨s', sb, L', hap, hs', hf', hg⟩ := OwnS.step (x := nm) (Sl.nil st) (.nil st.length) (Nat.le_refl _) (Ext.refl st) (by simp)
      repeat (first | ((first | refine W_reg rfl fun G K hG hK => ?_ | refine W_end rfl fun G K hG hK => ?_); simp (disch := omega) only [go_sem, ↓reduceIte, Nat.reduceEqDiff, Nat.reduceAdd, Nat.reduceLeDiff, hG, q1, q2, hk]; refine hK _ _ ?_; clear hK K hG G) | refine W_seqS ?_ | refine W_seqC ?_ | refine W_seqB ?_ | refine W_block ?_ | refine W_skip ?_ | (refine W_condT ?hc ?_; (case hc => (simp (disch := omega) only [go_sem, ↓reduceIte, Nat.reduceEqDiff, Nat.reduceAdd, Nat.reduceLeDiff, q1, q2, hk]; done))) | (refine W_condF ?hc ?_; (case hc => (simp (disch := omega) only [go_sem, ↓reduceIte, Nat.reduceEqDiff, Nat.reduceAdd, Nat.reduceLeDiff, q1, q2, hk]; done))) | refine thenI ?_ | refine thenE ?_ | refine thenR ?_ | refine inBI ?_ | refine inBR ?_ | refine inBS ?_ | refine inBN (by decide) ?_)
      refine W_end rfl fun G K hG hK => ?_; simp (disch := omega) only [go_sem, ↓reduceIte, Nat.reduceEqDiff, Nat.reduceAdd, Nat.reduceLeDiff, hG, q1, q2, w_append, hap]
      refine hK _ _ ?_; clear hK K hG G; repeat (first | refine thenI ?_ | refine thenE ?_ | refine thenR ?_ | refine inBI ?_ | refine inBR ?_ | refine inBS ?_ | refine inBN (by decide) ?_)
      exact ⟨s', L', hg.away.ext_of (Ext.refl st) (.inl rfl), hs', hf', (by (simp (disch := omega) only [go_sem, ↓reduceIte, Nat.reduceEqDiff, Nat.reduceAdd, Nat.reduceLeDiff, q1, q2]); try rfl), (by (simp (disch := omega) only [go_sem, ↓reduceIte, Nat.reduceEqDiff, Nat.reduceAdd, Nat.reduceLeDiff, q1, q2]); try rfl), (by (simp (disch := omega) only [go_sem, ↓reduceIte, Nat.reduceEqDiff, Nat.reduceAdd, Nat.reduceLeDiff, q1, q2]); try rfl)⟩
  rintro ⟨env, loc⟩ st' ⟨r, L1, hx1, hs1, hf1, e3, e1, l1⟩
  simp only at e3 e1 l1
  have hl1 : (if (k == 1) = true then [nm] else []).length ≤ 1 := by split <;> simp
  rw [T.vars_mk]
  generalize hgl : (if (k == 1) = true then [nm] else []) = nl at hs1 hl1
  have ol1 := hs1.loc
  repeat (first | ((first | refine W_reg rfl fun G K hG hK => ?_ | refine W_end rfl fun G K hG hK => ?_); simp (disch := omega) only [go_sem, ↓reduceIte, Nat.reduceEqDiff, Nat.reduceAdd, Nat.reduceLeDiff, hG, q1, q2, e3, e1, l1, hlen, ol1]; refine hK _ _ ?_; clear hK K hG G) | refine W_seqS ?_ | refine W_seqC ?_ | refine W_seqB ?_ | refine W_block ?_ | refine W_skip ?_ | (refine W_condT ?hc ?_; (case hc => (simp (disch := omega) only [go_sem, ↓reduceIte, Nat.reduceEqDiff, Nat.reduceAdd, Nat.reduceLeDiff, q1, q2, e3, e1, l1, hlen, ol1]; done))) | (refine W_condF ?hc ?_; (case hc => (simp (disch := omega) only [go_sem, ↓reduceIte, Nat.reduceEqDiff, Nat.reduceAdd, Nat.reduceLeDiff, q1, q2, e3, e1, l1, hlen, ol1]; done))) | refine thenI ?_ | refine thenE ?_ | refine thenR ?_ | refine inBI ?_ | refine inBR ?_ | refine inBS ?_ | refine inBN (by decide) ?_)
  refine W_loop (fun d fr st' => ∃ (j : Nat) (r1 : Value) (L2 : List Nat), d = xs.length - j ∧ j ≤ xs.length ∧ (Ext st st') ∧ (Sl st' (nl ++ T.varsL (xs.take j)) r1 L2) ∧ (Fresh st.length L2) ∧ (fr.env 3 = r1) ∧ (fr.env 15 = s1) ∧ (fr.env 16 = .int .i64 xs.length) ∧ (fr.env 17 = .int .i64 j)) (xs.length) ?_ ?_
  · exact ⟨0, r, L1, by omega, by omega, hx1, by simpa [T.varsL] using hs1, hf1, (by (simp (disch := omega) only [go_sem, ↓reduceIte, Nat.reduceEqDiff, Nat.reduceAdd, Nat.reduceLeDiff, q1, q2, e3, e1, l1, hlen]); try rfl), (by (simp (disch := omega) only [go_sem, ↓reduceIte, Nat.reduceEqDiff, Nat.reduceAdd, Nat.reduceLeDiff, q1, q2, e3, e1, l1, hlen]); try rfl), (by (simp (disch := omega) only [go_sem, ↓reduceIte, Nat.reduceEqDiff, Nat.reduceAdd, Nat.reduceLeDiff, q1, q2, e3, e1, l1, hlen]); try rfl), (by (simp (disch := omega) only [go_sem, ↓reduceIte, Nat.reduceEqDiff, Nat.reduceAdd, Nat.reduceLeDiff, q1, q2, e3, e1, l1, hlen]); try rfl)⟩
  clear e3 e1 l1
  rintro d ⟨env, loc⟩ st' ⟨j, r1, L2, hd, hj, hext, hown, hfr, e3, e15, e16, e17⟩
  simp only at e3 e15 e16 e17
  have ol := hown.loc
  by_cases hlt : j < xs.length
  · have c1 : decide ((j : Int) < (xs.length : Int)) = true := by simpa using hlt
    have hi := idxOk hlt
    have hx : xs[j]? = some xs[j] := List.getElem?_eq_getElem hlt
    have htk : xs.take (j + 1) = xs.take j ++ [xs[j]] := List.take_succ_eq_append_getElem hlt
    obtain ⟨i, o, c, cs, rfl, hcl, hE, hcs⟩ := row_at hr hx
    have hld := fun loc => load_row (A := []) (loc := loc) ag31 sz31 hcl (hcs.ext hext)
    have hbt := T.vars_roomC hlt
    have hvl := T.vars_lenC xs[j]
    have hl0 := hext.length
    obtain ⟨kx, nx, mx, ax, hxe⟩ := T.eta xs[j]
    have hEx := hE
    rw [hxe] at hEx
    obtain ⟨sx, rfl, hrx⟩ := hEx.open
    have x1' := hrx.notLoc.1
    have x2' := hrx.notLoc.2
    repeat (first | ((first | refine W_reg rfl fun G K hG hK => ?_ | refine W_end rfl fun G K hG hK => ?_); simp (disch := omega) only [go_sem, ↓reduceIte, Nat.reduceEqDiff, Nat.reduceAdd, Nat.reduceLeDiff, hG, q1, q2, hlen, e3, e15, e16, e17, c1, hi, idxA, Int.toNat_natCast, hld, x1', x2']; refine hK _ _ ?_; clear hK K hG G) | refine W_seqS ?_ | refine W_seqC ?_ | refine W_seqB ?_ | refine W_block ?_ | refine W_skip ?_ | (refine W_condT ?hc ?_; (case hc => (simp (disch := omega) only [go_sem, ↓reduceIte, Nat.reduceEqDiff, Nat.reduceAdd, Nat.reduceLeDiff, q1, q2, hlen, e3, e15, e16, e17, c1, hi, idxA, Int.toNat_natCast, hld, x1', x2']; done))) | (refine W_condF ?hc ?_; (case hc => (simp (disch := omega) only [go_sem, ↓reduceIte, Nat.reduceEqDiff, Nat.reduceAdd, Nat.reduceLeDiff, q1, q2, hlen, e3, e15, e16, e17, c1, hi, idxA, Int.toNat_natCast, hld, x1', x2']; done))) | refine thenI ?_ | refine thenE ?_ | refine thenR ?_ | refine inBI ?_ | refine inBR ?_ | refine inBS ?_ | refine inBN (by decide) ?_)
    refine W_end rfl fun G K hG hK => ?_; simp (disch := omega) only [go_sem, ↓reduceIte, Nat.reduceEqDiff, Nat.reduceAdd, Nat.reduceLeDiff, hG, q1, q2, hlen, e3, e15, e16, e17, c1, hi, idxA, Int.toNat_natCast, ol, x1', x2']
    refine w_call (ih xs[j] (List.getElem_mem hlt) st' _ (hlm.args.2 _ (List.getElem_mem hlt)) (by omega) (Enc.ext hext _ _ hE)) (by simp (disch := omega) only [go_sem, ↓reduceIte, Nat.reduceEqDiff, q1, q2, hlen, e3, e15, e16, e17, c1, hi, idxA, Int.toNat_natCast, ol]) ?hl ?_
    case hl => first | rfl | (simp only [go_sem, List.all_cons, List.all_nil, Bool.not_false, Bool.and_self, q1, q2, hlen, e3, e15, e16, e17, c1, hi, idxA, Int.toNat_natCast, ol]; done)
    rintro r_ sb ⟨x3, L3, hs3, hf3⟩; refine ⟨fun e => (by cases e), ?_⟩
    have o3 := hs3.loc
    obtain ⟨s', sc, L', hap, hs', hf', hg⟩ := OwnS.join (ys := T.vars xs[j]) hown hfr hl0 x3 hs3.row (by rw [List.length_append]; omega)
    have o4 := hs'.loc
    simp (disch := omega) only [go_sem, ↓reduceIte, Nat.reduceEqDiff, Nat.reduceAdd, Nat.reduceLeDiff, hG, q1, q2, hlen, e3, e15, e16, e17, c1, hi, idxA, Int.toNat_natCast, w_append, hap, o3, o4]; refine hK _ _ ?_; clear hK K hG G; repeat (first | refine thenI ?_ | refine thenE ?_ | refine thenR ?_ | refine inBI ?_ | refine inBR ?_ | refine inBS ?_ | refine inBN (by decide) ?_)
    repeat (first | ((first | refine W_reg rfl fun G K hG hK => ?_ | refine W_end rfl fun G K hG hK => ?_); simp (disch := omega) only [go_sem, ↓reduceIte, Nat.reduceEqDiff, Nat.reduceAdd, Nat.reduceLeDiff, hG, q1, q2, hlen, e3, e15, e16, e17, c1, hi, idxA, Int.toNat_natCast]; refine hK _ _ ?_; clear hK K hG G) | refine W_seqS ?_ | refine W_seqC ?_ | refine W_seqB ?_ | refine W_block ?_ | refine W_skip ?_ | (refine W_condT ?hc ?_; (case hc => (simp (disch := omega) only [go_sem, ↓reduceIte, Nat.reduceEqDiff, Nat.reduceAdd, Nat.reduceLeDiff, q1, q2, hlen, e3, e15, e16, e17, c1, hi, idxA, Int.toNat_natCast]; done))) | (refine W_condF ?hc ?_; (case hc => (simp (disch := omega) only [go_sem, ↓reduceIte, Nat.reduceEqDiff, Nat.reduceAdd, Nat.reduceLeDiff, q1, q2, hlen, e3, e15, e16, e17, c1, hi, idxA, Int.toNat_natCast]; done))) | refine thenI ?_ | refine thenE ?_ | refine thenR ?_ | refine inBI ?_ | refine inBR ?_ | refine inBS ?_ | refine inBN (by decide) ?_)
    refine ⟨xs.length - (j + 1), by omega, j + 1, s', L', rfl, by omega, hg.away.ext_of (hext.trans x3) (hown.top hfr), by rw [T.varsL_take hlt, ← List.append_assoc]; exact hs', hf', (by (simp (disch := omega) only [go_sem, ↓reduceIte, Nat.reduceEqDiff, Nat.reduceAdd, Nat.reduceLeDiff, q1, q2, hlen, e3, e15, e16, e17, c1, hi, idxA, Int.toNat_natCast]); try rfl), (by (simp (disch := omega) only [go_sem, ↓reduceIte, Nat.reduceEqDiff, Nat.reduceAdd, Nat.reduceLeDiff, q1, q2, hlen, e3, e15, e16, e17, c1, hi, idxA, Int.toNat_natCast]); try rfl), (by (simp (disch := omega) only [go_sem, ↓reduceIte, Nat.reduceEqDiff, Nat.reduceAdd, Nat.reduceLeDiff, q1, q2, hlen, e3, e15, e16, e17, c1, hi, idxA, Int.toNat_natCast]); try rfl), (by (simp (disch := omega) only [go_sem, ↓reduceIte, Nat.reduceEqDiff, Nat.reduceAdd, Nat.reduceLeDiff, q1, q2, hlen, e3, e15, e16, e17, c1, hi, idxA, Int.toNat_natCast]); try rfl)⟩
  · have c1 : decide ((j : Int) < (xs.length : Int)) = false := by simpa using hlt
    have hjn : j = xs.length := by omega
    subst hjn
    rw [List.take_length] at hown
    repeat (first | ((first | refine W_reg rfl fun G K hG hK => ?_ | refine W_end rfl fun G K hG hK => ?_); simp (disch := omega) only [go_sem, ↓reduceIte, Nat.reduceEqDiff, Nat.reduceAdd, Nat.reduceLeDiff, hG, q1, q2, hlen, e3, e15, e16, e17, c1, ol]; refine hK _ _ ?_; clear hK K hG G) | refine W_seqS ?_ | refine W_seqC ?_ | refine W_seqB ?_ | refine W_block ?_ | refine W_skip ?_ | (refine W_condT ?hc ?_; (case hc => (simp (disch := omega) only [go_sem, ↓reduceIte, Nat.reduceEqDiff, Nat.reduceAdd, Nat.reduceLeDiff, q1, q2, hlen, e3, e15, e16, e17, c1, ol]; done))) | (refine W_condF ?hc ?_; (case hc => (simp (disch := omega) only [go_sem, ↓reduceIte, Nat.reduceEqDiff, Nat.reduceAdd, Nat.reduceLeDiff, q1, q2, hlen, e3, e15, e16, e17, c1, ol]; done))) | refine thenI ?_ | refine thenE ?_ | refine thenR ?_ | refine inBI ?_ | refine inBR ?_ | refine inBS ?_ | refine inBN (by decide) ?_)
    refine W_exit ?_; repeat (first | refine thenI ?_ | refine thenE ?_ | refine thenR ?_ | refine inBI ?_ | refine inBR ?_ | refine inBS ?_ | refine inBN (by decide) ?_)
    repeat (first | ((first | refine W_reg rfl fun G K hG hK => ?_ | refine W_end rfl fun G K hG hK => ?_); simp (disch := omega) only [go_sem, ↓reduceIte, Nat.reduceEqDiff, Nat.reduceAdd, Nat.reduceLeDiff, hG, q1, q2, hlen, e3, e15, e16, e17, c1, ol]; refine hK _ _ ?_; clear hK K hG G) | refine W_seqS ?_ | refine W_seqC ?_ | refine W_seqB ?_ | refine W_block ?_ | refine W_skip ?_ | (refine W_condT ?hc ?_; (case hc => (simp (disch := omega) only [go_sem, ↓reduceIte, Nat.reduceEqDiff, Nat.reduceAdd, Nat.reduceLeDiff, q1, q2, hlen, e3, e15, e16, e17, c1, ol]; done))) | (refine W_condF ?hc ?_; (case hc => (simp (disch := omega) only [go_sem, ↓reduceIte, Nat.reduceEqDiff, Nat.reduceAdd, Nat.reduceLeDiff, q1, q2, hlen, e3, e15, e16, e17, c1, ol]; done))) | refine thenI ?_ | refine thenE ?_ | refine thenR ?_ | refine inBI ?_ | refine inBR ?_ | refine inBS ?_ | refine inBN (by decide) ?_)
    refine W_ret ?_; try (repeat (first | refine thenI ?_ | refine thenE ?_ | refine thenR ?_ | refine inBI ?_ | refine inBR ?_ | refine inBS ?_ | refine inBN (by decide) ?_))
    refine fin1 (.inl rfl) (by (simp (disch := omega) only [go_sem, ↓reduceIte, Nat.reduceEqDiff, Nat.reduceAdd, Nat.reduceLeDiff, q1, q2, hlen, e3, e15, e16, e17, c1, ol]); try rfl) ol ⟨hext, L2, hown, hfr⟩

end

section
/- Rows of bytes; the cursor of a draw: spec.l1New, l1Byte, l1Below, l1Once. -/
open Go Go.Proofs
set_option linter.unusedVariables false
set_option linter.unusedSimpArgs false
set_option maxRecDepth 100000
-- AUTO

/-- A byte of a row. -/
structure Byt where
  v : Int
def EncY (st : St) (b : Byt) (cs : List Value) : Prop := cs = [.int .u8 b.v]
abbrev RowY (st : St) (xs : List Byt) (s : Value) : Prop := Row (EncY st) 1 st xs s
theorem RowY.ext {st st' : St} {xs : List Byt} {s : Value} (h : RowY st xs s) (hx : Ext st st') : RowY st' xs s := Row.mono h hx fun _ _ _ he => he
section
variable {P : Program} {t : TypeId} {x y : Operand}
end
theorem far {xs : List Byt} {sb : Value} {q k : Nat} (h : xs = [] ∨ ∃ b, topId sb = some b ∧ b < q) (hk : q ≤ k) : xs = [] ∨ topId sb ≠ some k := h.imp id fun ⟨b, h1, h2⟩ e => by
  rw [h1] at e; cases e; omega
theorem Away.refl (k : Option Nat) (st : St) : Away k st st := ⟨Nat.le_refl _, fun _ _ _ => rfl⟩
theorem Away.same {k : Option Nat} {a b c : St} (h : Away k a b) (g : Away k b c) : Away k a c := h.trans g (.inl rfl)
section
variable {st : St} {q : Nat} {a b c : Value}
end
theorem set_at {st : St} {q : Nat} {b b' : Blk} (h : st[q]? = some b) : (st.set q b')[q]? = some b' := List.getElem?_set_self (List.getElem?_eq_some_iff.1 h).1
theorem set_away {st : St} {q : Nat} {b' : Blk} : Away (some q) st (st.set q b') := ⟨by simp, fun i _ hi => List.getElem?_set_ne (fun e => hi (by rw [e]))⟩

theorem Row.cells1 {α : Type} {E : α → List Value → Prop} {sz : Nat} {st : St} {xs : List α} {s : Value} (h : Row E sz st xs s) : vc s = #[s] := by
  rcases h with ⟨h | h, _⟩ | ⟨i, o, c, rfl, _⟩
  · subst h; rfl
  · subst h; rfl
  · rfl

end

end Go.Proofs.Ytoeibmfdafilcaa.AM
/- The whole world as an abstract store: what a law begins with. -/
namespace Go.Proofs.Ytoeibmfdafilcaa.AM
open Go Go.RowKit
set_option linter.unusedVariables false
set_option linter.unusedSimpArgs false

def jv : Value := .pointer (some ⟨0, 0, some 0⟩)
/-- A world's value, if it can be told of. -/
def absV (n : Nat) (v : Value) : Value := match v with
  | .slice (some a) l c => if a.spot = none ∧ a.block < n ∧ l ≤ c then v else if l = 0 ∧ c = 0 then .slice (some ⟨0, 0, some 0⟩) 0 0 else jv
  | v => if flat1 v then v else jv
def absB (W : World) (i : Nat) : Blk := match W.heap[i]? with
  | some (.cells c t _) => ⟨c.toList.map (absV W.heap.size), t, 1⟩
  | _ => ⟨[], 0, 1⟩
def size0 (W : World) (i : Nat) : Nat := match W.heap[i]? with
  | some (.cells c _ _) => c.size
  | _ => 0
def absS (W : World) : St := (List.range W.heap.size).map (absB W)
def absM (W : World) : List ME := (List.range W.heap.size).map fun i => ⟨i, size0 W i, 0, false⟩

theorem absS_get {W : World} {i : Nat} {b : Blk} (h : (absS W)[i]? = some b) : i < W.heap.size ∧ b = absB W i := by
  unfold absS at h
  rw [List.getElem?_map] at h
  by_cases hi : i < W.heap.size
  · rw [List.getElem?_range hi] at h
    exact ⟨hi, (Option.some.inj h).symm⟩
  · rw [List.getElem?_eq_none (by simp; omega)] at h; cases h
theorem absS_of {W : World} {i : Nat} (hi : i < W.heap.size) : (absS W)[i]? = some (absB W i) := by
  unfold absS
  rw [List.getElem?_map, List.getElem?_range hi]; rfl
theorem absM_get {W : World} {i : Nat} {m : ME} (h : (absM W)[i]? = some m) : i < W.heap.size ∧ m = ⟨i, size0 W i, 0, false⟩ := by
  unfold absM at h
  rw [List.getElem?_map] at h
  by_cases hi : i < W.heap.size
  · rw [List.getElem?_range hi] at h
    exact ⟨hi, (Option.some.inj h).symm⟩
  · rw [List.getElem?_eq_none (by simp; omega)] at h; cases h
theorem absM_of {W : World} {i : Nat} (hi : i < W.heap.size) : (absM W)[i]? = some ⟨i, size0 W i, 0, false⟩ := by
  unfold absM
  rw [List.getElem?_map, List.getElem?_range hi]; rfl
theorem absB_stat (W : World) (i : Nat) : (absB W i).stat = 1 := by unfold absB; split <;> rfl

theorem absV_vr {W : World} {v : Value} (h : isJ (absV W.heap.size v) = false) : one (absV W.heap.size v) = true ∧ VR (absM W) (absV W.heap.size v) v := by
  unfold absV at h ⊢
  split
  · rename_i a l c
    split
    · rename_i hc
      obtain ⟨b, o, sp⟩ := a
      obtain ⟨hsp, hb, hl⟩ := hc
      simp only at hsp
      subst hsp
      exact ⟨rfl, .sl _ _ _ _ _ _ _ (absM_of hb) hl (.inl ⟨rfl, fun _ e => by cases e⟩)⟩
    · rename_i hc
      simp only [if_neg hc] at h
      split
      · rename_i h0
        obtain ⟨rfl, rfl⟩ := h0
        exact ⟨rfl, .emp a⟩
      · rename_i h0
        rw [if_neg h0] at h
        cases h
  · rename_i hx
    split
    · rename_i hf
      exact ⟨flat1_one hf, .fl _ hf⟩
    · rename_i hf
      split at h
      · rename_i a l c
        exact absurd rfl (hx a l c)
      · rw [if_neg hf] at h; cases h

theorem Tab.lt {P : Program} {w : World} (h : Tab P w) : ∀ nm ∈ tabNm, ∀ g, P.globalNamed nm = some g → g < w.heap.size := by
  have key : ∀ nm g cs, P.globalNamed nm = some g → w.var? P nm = some cs → g < w.heap.size := fun nm g cs hg hv => by
    unfold World.var? at hv
    simp only [hg, Option.bind_some] at hv
    rcases Nat.lt_or_ge g w.heap.size with h' | h'
    · exact h'
    · rw [Array.getElem?_eq_none h'] at hv; cases hv
  intro nm hn g hg
  simp only [tabNm, List.mem_cons, List.not_mem_nil, or_false] at hn
  have hne : P.globalNamed nm ≠ none := by rw [hg]; simp
  rcases hn with rfl | hn
  · exact key _ g _ hg (h.pow hne)
  · obtain ⟨tp, p, hv⟩ := h.err nm hn hne
    exact key _ g _ hg hv
theorem abs_cov {P : Program} {W : World} (h : Tab P W) : Cov P (absM W) (absS W) := fun nm hn g hg => by
  have hlt := h.lt nm hn g hg
  exact ⟨g, _, _, absM_of hlt, rfl, absS_of hlt, absB_stat W g⟩
theorem abs_hr (P : Program) (W : World) (hT : Tab P W) : HR P ⟨W, absM W, absS W⟩ (absM W) (absS W) W := by
  refine ⟨by simp [absM, absS], fun _ _ h => h, fun i b m hb hm h2 hfar => ?_, fun i j b b' m m' hb hb' _ _ hm hm' e => ?_, fun i m hm => ?_, fun i m hm _ => ⟨i, m, hm, rfl⟩, fun i b m hb _ hm => ⟨hb, rfl⟩, rfl, rfl, rfl, Nat.le_refl _, fun _ _ _ => rfl, hT, abs_cov hT⟩
  · obtain ⟨hi, rfl⟩ := absS_get hb
    obtain ⟨_, rfl⟩ := absM_get hm
    cases hh : W.heap[i]? with
    | none => exact absurd ⟨absB_stat W i, by simp [absB, hh]⟩ hfar
    | some o =>
      cases o with
      | cells c t q =>
        have e1 : absB W i = ⟨c.toList.map (absV W.heap.size), t, 1⟩ := by unfold absB; rw [hh]
        have e2 : size0 W i = c.size := by unfold size0; rw [hh]
        rw [e1, e2]
        refine ⟨c, ⟨q, hh, fun e => by cases e⟩, rfl, by simp, fun j x hx => ?_, fun e => by cases e⟩
        simp only [List.getElem?_map, Option.map_eq_some_iff] at hx
        obtain ⟨y, hy, rfl⟩ := hx
        cases hj : isJ (absV W.heap.size y) with
        | true => exact .inl ⟨rfl, rfl⟩
        | false =>
          obtain ⟨h2, h3⟩ := absV_vr hj
          exact .inr ⟨h2, y, by simpa using hy, h3⟩
      | _ => exact absurd ⟨absB_stat W i, by simp [absB, hh]⟩ hfar
  · obtain ⟨_, rfl⟩ := absM_get hm
    obtain ⟨_, rfl⟩ := absM_get hm'
    exact e
  · obtain ⟨hi, rfl⟩ := absM_get hm
    exact hi

/-- An argument, and what the store says of it. -/
def ArgS (W : World) (x v : Value) : Prop := (isJ (absV W.heap.size v) = false ∧ x = absV W.heap.size v) ∨ ∃ cs : List Value, v = .agg cs.toArray ∧ x = .agg (cs.map (absV W.heap.size)).toArray ∧ ∀ c ∈ cs, isJ (absV W.heap.size c) = false

/-- What holds of a call that begins at the whole world. -/
theorem CallS.enter {P : Program} {f : FuncId} {args : List Value} {vals : Array Value} {W : World} {Q : Value → St → Prop} (hT : Tab P W) (h : CallS P f args (absS W) Q) (hl : args.length = vals.size) (hv : ∀ (i : Nat) x v, args[i]? = some x → vals[i]? = some v → ArgS W x v) :
    Calls P f vals W fun e w' => ∃ r v st' M', e = .returned v ∧ Q r st' ∧ VR M' r v ∧ Below W.heap.size W w' := by
  refine (h.2 (absM W) W vals (abs_hr P W hT) ⟨hl, fun i x y hx hy => ?_⟩).mono fun e w' ⟨r, v, st', M', he, hq, hvr, hr⟩ => ⟨r, v, st', M', he, hq, hvr, hr.os, hr.tape, hr.output, hr.size, fun k hk => ?_⟩
  · rcases hv i x y hx hy with ⟨h1, rfl⟩ | ⟨cs, rfl, rfl, hcs⟩
    · exact (absV_vr h1).2
    · refine .agg _ _ (by simp) (fun i c hc => ?_) fun i c d hc hd => ?_
      · simp only [List.getElem?_toArray, List.getElem?_map, Option.map_eq_some_iff] at hc
        obtain ⟨d, hd, rfl⟩ := hc
        exact (absV_vr (hcs d (List.mem_of_getElem? hd))).1
      · simp only [List.getElem?_toArray, List.getElem?_map] at hc hd
        rw [hd] at hc
        obtain rfl := Option.some.inj hc
        exact (absV_vr (hcs d (List.mem_of_getElem? hd))).2
  · exact (hr.ro k _ _ (absS_of hk) (absB_stat W k) (absM_of hk)).2

inductive ArgsS (W : World) : List Value → List Value → Prop
  | nil : ArgsS W [] []
  | cons (x v : Value) (xs vs : List Value) (h : ArgS W x v) (hs : ArgsS W xs vs) : ArgsS W (x :: xs) (v :: vs)
theorem ArgsS.get {W : World} {xs vs : List Value} (h : ArgsS W xs vs) : xs.length = vs.length ∧ ∀ (i : Nat) x v, xs[i]? = some x → vs[i]? = some v → ArgS W x v := by
  induction h with
  | nil => exact ⟨rfl, fun i x v hx => by simp at hx⟩
  | cons x v xs vs h hs ih =>
    refine ⟨by simp [ih.1], fun i y u hy hu => ?_⟩
    cases i with
    | zero =>
      simp only [List.getElem?_cons_zero, Option.some.injEq] at hy hu
      subst hy; subst hu; exact h
    | succ i => exact ih.2 i y u (by simpa using hy) (by simpa using hu)
/-- A program that has none of these variables. -/
theorem noTab {P : Program} {W : World} (h1 : P.globalNamed "internal/strconv.uint64pow10" = none) (h2 : P.globalNamed "strconv.ErrSyntax" = none) (h3 : P.globalNamed "strconv.ErrRange" = none) : Tab P W :=
  ⟨fun h => absurd h1 h, fun nm hn h => by
    rcases hn with rfl | rfl
    · exact absurd h2 h
    · exact absurd h3 h⟩
theorem CallS.enters {P : Program} {f : FuncId} {args : List Value} {vals : List Value} {W : World} {b : Bool} (hT : Tab P W) (h : CallS P f args (absS W) fun r _ => r = .bool b) (hv : ArgsS W args vals) :
    Calls P f vals.toArray W fun e w' => e = .returned (.bool b) ∧ Below W.heap.size W w' :=
  (h.enter hT (by simpa using hv.get.1) fun i x v hx hv' => hv.get.2 i x v hx (by simpa using hv')).mono fun e w' ⟨r, v, st', M', he, hq, hvr, bel⟩ => by
    subst he; subst hq
    obtain rfl := hvr.flat_eq rfl
    exact ⟨rfl, bel⟩
theorem ArgS.flat {W : World} {v : Value} (h : isJ (absV W.heap.size v) = false) (e : absV W.heap.size v = v) : ArgS W v v := .inl ⟨h, e.symm⟩
theorem ArgS.int (W : World) (k : IntKind) (i : Int) : ArgS W (.int k i) (.int k i) := .inl ⟨rfl, rfl⟩
theorem ArgS.agg {W : World} {cs : Array Value} (h : ∀ c ∈ (Value.agg cs).cells.toList, isJ (absV W.heap.size c) = false) : ArgS W (.agg ((Value.agg cs).cells.toList.map (absV W.heap.size)).toArray) (.agg cs) := .inr ⟨cs.toList, rfl, rfl, h⟩

/-- A world's cell, read in the store. -/
theorem abs_cell {W : World} {b o : Nat} {v : Value} (h : W.cell? ⟨b, o, none⟩ = some v) (hj : isJ (absV W.heap.size v) = false) : cell (absS W) b o = some (absV W.heap.size v) := by
  unfold World.cell? at h
  simp only at h
  split at h
  · rename_i c t q hb
    have hi : b < W.heap.size := (Array.getElem?_eq_some_iff.1 hb).1
    simp only [Option.isSome_none, Bool.false_eq_true, if_false] at h
    have e1 : absB W b = ⟨c.toList.map (absV W.heap.size), t, 1⟩ := by unfold absB; rw [hb]
    unfold cell
    rw [absS_of hi, e1]
    have e3 : (c.toList.map (absV W.heap.size))[o]? = some (absV W.heap.size v) := by
      rw [List.getElem?_map, Array.getElem?_toList, h]; rfl
    simp only [e3]
    simp [hj]
  · cases h

/-- What a cell that was read holds can be told of. -/
def Told (W : World) (v : Value) : Prop := isJ (absV W.heap.size v) = false

theorem spot_of {w : World} {a : Addr} {n b : Nat} {cs : List Value} (h : w.cells? b a n = some cs) (hn : 0 < n) : a.spot = none := by
  obtain ⟨_, hl, hc⟩ := World.cells?_some h
  have h1 := hc 0 hn
  rw [List.getElem?_eq_getElem (by omega)] at h1
  obtain ⟨b, o, sp⟩ := a
  cases sp with
  | none => rfl
  | some s =>
    unfold World.cell? Addr.add at h1
    simp only at h1
    split at h1
    · split at h1 <;> simp_all
    · cases h1
theorem spot_add {a : Addr} {k : Nat} (hk : k = 0) (h : (a.add k).spot = none) : a.spot = none := by
  subst hk
  exact h

/-- A slice that was read: its elements, one by one. -/
theorem open_rowA {H : Type} {enc : TypeId × Value → H} {P : Program} {w : World} {α : Type} {E : α → List Value → Prop} {G : α → Prop} {t e : TypeId} {sz : Nat} (ht : P.underlying t = some (.slice e)) (hc : P.cellsOf e = sz) (hsz : 0 < sz) {fuel : Nat} {cs : List Value} {x : DataW H × List MemPlace}
    (h : DataW.trod enc P w 0 (fun _ => true) true fuel t cs = some x) (hel : ∀ n cs y, n < fuel → DataW.trod enc P w 0 (fun _ => true) true n e cs = some y → ∃ z, E z (cs.map (absV w.heap.size)) ∧ G z ∧ ∀ c ∈ cs, Told w c) :
    ∃ s, ∃ xs : List α, cs = [s] ∧ Told w s ∧ Row E sz (absS w) xs (absV w.heap.size s) ∧ xs.length ≤ maxLen ∧ ∀ z ∈ xs, G z := by
  have hlt := DataW.trod_lt _ _ _ _ h
  rcases DataW.trod_slice ht h with ⟨rfl, _⟩ | ⟨a, len, cap, elems, rest, n, rfl, rfl, rfl, _, hl, hm, hlen, hel2, hrest, _⟩
  · exact ⟨_, [], rfl, rfl, .inl ⟨.inl rfl, rfl⟩, Nat.zero_le _, by simp⟩
  · simp only [hc] at hel2 hlt hrest
    by_cases h0 : cap = 0
    · subst h0
      obtain rfl : len = 0 := by omega
      by_cases hq : a.spot = none ∧ a.block < w.heap.size ∧ 0 ≤ 0
      · obtain ⟨b, o, sp⟩ := a
        obtain ⟨hsp, hb, _⟩ := hq
        simp only at hsp hb
        subst hsp
        have e1 : absV w.heap.size (.slice (some ⟨b, o, none⟩) 0 0) = .slice (some ⟨b, o, none⟩) 0 0 := by unfold absV; simp only; rw [if_pos (by exact ⟨trivial, hb, Nat.le_refl _⟩)]
        refine ⟨_, [], rfl, by unfold Told; rw [e1]; rfl, ?_, Nat.zero_le _, by simp⟩
        rw [e1]
        exact .inr ⟨b, o, 0, rfl, by simp⟩
      · have e1 : absV w.heap.size (.slice (some a) 0 0) = .slice (some ⟨0, 0, some 0⟩) 0 0 := by unfold absV; simp only; rw [if_neg hq]; simp
        refine ⟨_, [], rfl, by unfold Told; rw [e1]; rfl, ?_, Nat.zero_le _, by simp⟩
        rw [e1]
        exact .inl ⟨.inr rfl, rfl⟩
    · have hrl := (hrest trivial).1
      have hb : a.block < w.heap.size := hlt (.cell a.block (a.off + 0)) (by
        refine List.mem_append_left _ ?_
        unfold MemPlace.row
        refine List.mem_map.2 ⟨0, List.mem_range.2 (Nat.mul_pos (by omega) hsz), rfl⟩)
      have hsp : a.spot = none := by
        by_cases hl0 : 0 < len
        · have h1 := hel2 0 hl0
          rw [List.getElem?_eq_getElem (by omega), Option.bind_eq_some_iff] at h1
          obtain ⟨c, hcs, _⟩ := h1
          exact spot_add (by first | (simp; done) | (rw [show len = 0 by omega]; simp)) (spot_of hcs hsz)
        · have h1 := (hrest trivial).2 0 (by omega)
          rw [List.getElem?_eq_getElem (by omega), Option.bind_eq_some_iff] at h1
          obtain ⟨c, hcs, _⟩ := h1
          exact spot_add (by first | (simp; done) | (rw [show len = 0 by omega]; simp)) (spot_of hcs hsz)
      obtain ⟨b, o, sp⟩ := a
      simp only at hsp hb
      subst hsp
      have e1 : absV w.heap.size (.slice (some ⟨b, o, none⟩) len cap) = .slice (some ⟨b, o, none⟩) len cap := by unfold absV; simp only; rw [if_pos (by exact ⟨trivial, hb, hl⟩)]
      have each : ∀ i : _root_.Fin len, ∃ z, G z ∧ ∃ c : List Value, c.length = sz ∧ E z c ∧ CellsAt (absS w) b (o + i.1 * sz) c := by
        intro i
        have hi := hel2 i.1 i.2
        rw [List.getElem?_eq_getElem (by rw [hlen]; exact i.2), Option.bind_eq_some_iff] at hi
        obtain ⟨c, hcs, hy⟩ := hi
        obtain ⟨z, hz, hG, htold⟩ := hel n c _ (Nat.lt_succ_self n) hy
        obtain ⟨_, hcl, hcc⟩ := World.cells?_some hcs
        refine ⟨z, hG, _, by simpa using hcl, hz, fun q v hv => ?_⟩
        simp only [List.getElem?_map, Option.map_eq_some_iff] at hv
        obtain ⟨u, hu, rfl⟩ := hv
        have hq : q < sz := by have := (List.getElem?_eq_some_iff.1 hu).1; omega
        have h2 := hcc q hq
        rw [addr_add, addr_add, hu] at h2
        exact abs_cell h2 (htold u (List.mem_of_getElem? hu))
      have hlen3 : (List.ofFn fun i : _root_.Fin len => Classical.choose (each i)).length = len := List.length_ofFn
      refine ⟨_, List.ofFn fun i : _root_.Fin len => Classical.choose (each i), rfl, by unfold Told; rw [e1]; rfl, ?_, by rw [hlen3]; omega, ?_⟩
      · rw [e1]
        refine .inr ⟨b, o, cap, by rw [hlen3], fun j x hj => ?_⟩
        have hjl : j < len := by have := (List.getElem?_eq_some_iff.1 hj).1; rwa [hlen3] at this
        obtain ⟨_, c, h1, h2, h3⟩ := Classical.choose_spec (each ⟨j, hjl⟩)
        have hp : Classical.choose (each ⟨j, hjl⟩) = x := by
          have := (List.getElem?_eq_some_iff.1 hj).2
          rw [List.getElem_ofFn] at this
          exact this
        rw [hp] at h2
        exact ⟨c, h1, h2, h3⟩
      · intro z hz
        rw [List.mem_ofFn] at hz
        obtain ⟨i, rfl⟩ := hz
        exact (Classical.choose_spec (each i)).1
end Go.Proofs.Ytoeibmfdafilcaa.AM


/- What a law's arguments read as. -/
namespace Go.Proofs.Ytoeibmfdafilcaa.AM
open Go Go.Proofs
set_option linter.unusedVariables false
set_option linter.unusedSimpArgs false

theorem list_S {α : Type} {l : List α} {n : Nat} (h : l.length = n + 1) : ∃ a l2, l = a :: l2 ∧ l2.length = n := by
  match l, h with
  | a :: l2, h => exact ⟨a, l2, rfl, by simpa using h⟩
theorem toldA_int {H : Type} {enc : TypeId × Value → H} {P : Program} {w : World} {t : TypeId} {k : IntKind} (ht : P.underlying t = some (.int k)) {fuel : Nat} {cs : List Value} {x : DataW H × List MemPlace} (h : DataW.trod enc P w 0 (fun _ => true) true fuel t cs = some x) :
    ∃ z, cs = [.int k z] ∧ (Lit.int k z).wf = true := by
  obtain ⟨n, rfl, _, hw⟩ := DataW.trod_int ht h
  exact ⟨n, rfl, hw⟩
theorem toldA_str {H : Type} {enc : TypeId × Value → H} {P : Program} {w : World} {t : TypeId} (ht : P.underlying t = some .string) {fuel : Nat} {cs : List Value} {x : DataW H × List MemPlace} (h : DataW.trod enc P w 0 (fun _ => true) true fuel t cs = some x) :
    ∃ z, cs = [.string z] ∧ z.size ≤ maxLen := by
  obtain ⟨n, rfl, _, hw⟩ := DataW.trod_string ht h
  exact ⟨n, rfl, hw⟩

set_option maxRecDepth 100000 in
theorem open_term {H : Type} {enc : TypeId × Value → H} {w : World} : ∀ (fuel : Nat) (cs : List Value) (x : DataW H × List MemPlace), DataW.trod enc Try.prog w 0 (fun _ => true) true fuel 24 cs = some x →
    ∃ t : T, Enc (absS w) t (cs.map (absV w.heap.size)) ∧ Lens t ∧ ∀ c ∈ cs, Told w c := by
  intro fuel
  induction fuel using Nat.strongRecOn with
  | _ fuel ih =>
  intro cs x h
  obtain ⟨xs, n, hfu, rfl, hl, hxl, hf⟩ := DataW.trod_struct Try.underlying24 h
  have hl : cs.length = 4 := hl.trans (by kernel_rfl)
  have hxl : xs.length = 4 := hxl
  obtain ⟨e0, r0, rfl, l0⟩ := list_S hl
  obtain ⟨e1, r1, rfl, l1⟩ := list_S l0
  obtain ⟨e2, r2, rfl, l2⟩ := list_S l1
  obtain ⟨e3, r3, rfl, l3⟩ := list_S l2
  obtain rfl := List.eq_nil_of_length_eq_zero l3
  have q0 : DataW.trod enc Try.prog w 0 (fun _ => true) true n 3 [e0] = some (xs[0]'(by omega)) := (hf 0 _ rfl).trans (List.getElem?_eq_getElem (by omega))
  obtain ⟨z0, K0, g0⟩ := toldA_int Try.underlying3 q0
  obtain ⟨rfl⟩ : e0 = _ := (List.cons.inj K0).1
  have q1 : DataW.trod enc Try.prog w 0 (fun _ => true) true n 3 [e1] = some (xs[1]'(by omega)) := (hf 1 _ rfl).trans (List.getElem?_eq_getElem (by omega))
  obtain ⟨z1, K1, g1⟩ := toldA_int Try.underlying3 q1
  obtain ⟨rfl⟩ : e1 = _ := (List.cons.inj K1).1
  have q2 : DataW.trod enc Try.prog w 0 (fun _ => true) true n 9 [e2] = some (xs[2]'(by omega)) := (hf 2 _ rfl).trans (List.getElem?_eq_getElem (by omega))
  obtain ⟨z2, K2, g2⟩ := toldA_str Try.underlying9 q2
  obtain ⟨rfl⟩ : e2 = _ := (List.cons.inj K2).1
  have q3 : DataW.trod enc Try.prog w 0 (fun _ => true) true n 22 [e3] = some (xs[3]'(by omega)) := (hf 3 _ rfl).trans (List.getElem?_eq_getElem (by omega))
  obtain ⟨s, args, hs, ht, hr, hlen, hG⟩ := open_rowA (E := Enc (absS w)) (G := Lens) (sz := 4) Try.underlying22 (by kernel_rfl) (by omega) q3 (fun n_ cs_ y_ hn_ hy_ => ih n_ (by omega) _ _ hy_)
  obtain ⟨rfl⟩ : e3 = _ := (List.cons.inj hs).1
  refine ⟨.mk z0 z1 z2 args, Enc.close z0 z1 z2 hr, .mk _ _ _ _ hlen g2 hG, fun c hc => ?_⟩
  simp only [List.mem_cons, List.not_mem_nil, or_false] at hc
  rcases hc with rfl | rfl | rfl | rfl
  · rfl
  · rfl
  · rfl
  · exact ht
end Go.Proofs.Ytoeibmfdafilcaa.AM


namespace Go.Proofs.Ytoeibmfdafilcaa.AM
open Go
attribute [local go_sem] List.map_cons List.map_nil List.all_cons List.all_nil Bool.and_self Option.map_some List.getElem?_toArray Option.bind_some gye_b gye_t gsk_b gsk_t gb1 gb2 gb3 gb4 bne_self_eq_false beq_self_eq_true w_guard w_nil stepV_some step_some step_some' w_move w_assign w_pick w_binOp w_unOp w_load w_fieldAddr w_indexAddr w_len w_max w_index ev_max max_int ev_index w_box w_alloc w_store w_field w_extract w_nilCheck w_convert w_buildSlice w_build ev_buildL fillL_nil fillL_cons bs0 bs1 ev_conv ev_bin ev_un ev_pick ev_load ev_fieldAddr ev_indexAddr ev_len ev_field ev_extract ev_nilCheck fr_tmp fr_int fr_bool fr_str fr_nil fr_func put_some put_none bin_lss bin_leq bin_gtr bin_geq bin_eql bin_neq bin_add bin_sub bin_mul bin_seql bin_sneq un_not pick_ ext_ loadA_p cellAt_l cellAt_h okPtr_l okPtr_h fadA_p allocA_l storeA_l cells_agg cells_int cells_str cells_sl cells_bool flat_i flat_s flat_b flat_sl flat_nil loc_agg loc_int loc_str loc_sl loc_bool loc_fn loc_ptr okv_agg okv_int okv_str okv_sl okv_bool cellsFrom splice upd_eval argEnv_zero argEnv_succ ne_eq Nat.add_one_ne_zero not_false_eq_true List.not_mem_nil and_self decide_true List.getElem?_cons_zero List.getElem?_cons_succ List.size_toArray List.length_cons List.length_nil List.take_succ_cons List.take_zero List.drop_succ_cons List.drop_zero List.cons_append List.nil_append List.drop_nil Bool.not_true Bool.not_false Bool.false_eq_true Nat.zero_add Nat.add_zero wrap_in List.toList_toArray List.mem_cons or_self or_false false_or
attribute [local go_sem] ag22 ag24 ag26 ag29 ag3 ag31 ag49 ag54 ag9 ag91 bu31 bu41 bu49 bu54 by31 by49 by54 by9 el22 el26 el29 el45 el50 el68 of24_0 of24_1 of24_2 of24_3 of31_0 of31_1 of31_2 of31_3 of41_0 of41_1 of41_2 of49_0 of49_1 of54_0 of54_1 ro31_0 ro31_1 ro49_1 ro5_1 ro54_0 ro54_1 ro9_0 ro9_1 sz22 sz24 sz26 sz29 sz3 sz31 sz49 sz5 sz54 sz9 sz91 ze3 ze31 ze49 ze54 ze9 ze91
section
/- What the laws of terms share. -/
open Go Go.Proofs
set_option linter.unusedVariables false
set_option linter.unusedSimpArgs false
set_option maxRecDepth 100000

theorem Own.ext {e : TypeId} {st st' : St} {t : T} {cs : List Value} {L : List Nat} (h : Own e st t cs L) (hx : Ext st st') : Own e st' t cs L := Own.frame _ _ _ (fun i hi => hx.get (Own.lt _ _ _ h i hi)) h
theorem Own.other {e : TypeId} {st st' : St} {t : T} {cs : List Value} {L K : List Nat} (h : Own e st t cs L) (hot : ∀ i, i < st.length → i ∉ K → st'[i]? = st[i]?) (hd : ∀ i ∈ L, i ∉ K) : Own e st' t cs L := Own.frame _ _ _ (fun i hi => hot i (Own.lt _ _ _ h i hi) (hd i hi)) h
theorem Own.apart {e : TypeId} {st : St} {t : T} {cs : List Value} {L K : List Nat} (h : Own e st t cs L) (hf : Fresh st.length K) : ∀ i ∈ L, i ∉ K := fun i hi hk => by
  have h1 := Own.lt _ _ _ h i hi
  have h2 := hf.2 i hk
  omega
theorem Enc.other {st st' : St} {K : List Nat} {n : Nat} (hK : ∀ i ∈ K, n ≤ i) (hot : ∀ i, i < st.length → i ∉ K → st'[i]? = st[i]?) {st0 : St} (hn : st0.length ≤ n) (hx : Ext st0 st) (t : T) (cs : List Value) (h : Enc st0 t cs) : Enc st' t cs :=
  Enc.ext (Ext.of_get fun i hi => by
    have := hx.length
    rw [hot i (by omega) (fun hm => by have := hK i hm; omega), hx.get hi]) t cs h
theorem Ext.other {st st' : St} {K : List Nat} {n : Nat} (hK : ∀ i ∈ K, n ≤ i) (hot : ∀ i, i < st.length → i ∉ K → st'[i]? = st[i]?) {st0 : St} (hn : st0.length ≤ n) (hx : Ext st0 st) : Ext st0 st' :=
  Ext.of_get fun i hi => by
    have := hx.length
    rw [hot i (by omega) (fun hm => by have := hK i hm; omega), hx.get hi]
theorem Lim.le {B C : Nat} (hb : B ≤ C) : ∀ t : T, Lim B t → Lim C t := by
  refine T.ind fun k n nm args ih h => ?_
  exact .mk _ _ _ _ (by have := h.args.1; omega) fun a ha => ih a ha (h.args.2 a ha)
theorem T.mkL_wt : ∀ (xs : List T) (k : Nat), (∀ x ∈ xs, ∀ k, (x.mk1 k).2 ≤ k + 3 + 3 * x.wt) → (T.mkL xs k).2 ≤ k + 3 * xs.length + 3 * T.wtL xs := by
  intro xs
  induction xs with
  | nil => intro k _; simp [T.mkL, T.wtL]
  | cons x xs ih =>
    intro k h
    have h1 := h x (by simp) k
    have h2 := ih (x.mk1 k).2 (fun y hy => h y (by simp [hy]))
    simp only [T.mkL, T.wtL, List.length_cons]
    omega
theorem T.mk1_wt : ∀ (t : T) (k : Nat), (t.mk1 k).2 ≤ k + 3 + 3 * t.wt := by
  refine T.ind fun k0 n nm args ih k => ?_
  have h := T.mkL_wt args (k + 3) ih
  simp only [T.mk1, T.wt]
  omega
theorem T.mk0_wt (t : T) (k : Nat) : (t.mk0 k).2 ≤ k + 3 * t.wt := by
  obtain ⟨k0, n, nm, args⟩ := t
  have h := T.mkL_wt args k (fun x _ k => T.mk1_wt x k)
  simp only [T.mk0, T.wt]
  omega

end

section
/- Two substitutions do the same: SameSubst on both sides. -/
open Go Go.Proofs
set_option linter.unusedVariables false
set_option linter.unusedSimpArgs false
set_option maxRecDepth 100000
-- AUTO

def T.var (nm : ByteArray) : T := .mk 1 0 nm []
def sameAt (xs ys : List Bnd) (b : Bnd) : Bool := T.eqv (T.sub xs (T.var b.nm)) (T.sub ys (T.var b.nm))
def same (xs ys : List Bnd) : Bool := (xs ++ ys).all (sameAt xs ys)
theorem ShB.join {s0 st st2 : St} {n0 : Nat} {xs ys : List Bnd} {s y : Value} {L : List Nat} (h : ShB s0 st xs s L) (hf : Fresh n0 L) (hn0 : n0 ≤ st.length) (hext : Ext st st2) (hx0 : Ext s0 st2) (hy : Rw s0 ys y) (hbd : xs.length + ys.length ≤ 274877906944) :
    ∃ s' st' L', appendA Try.prog 26 26 s y st2 = some (s', st') ∧ ShB s0 st' (xs ++ ys) s' L' ∧ Fresh n0 L' ∧ Grow st2 s st' s' := by
  have hy2 : Row (EncB s0) 5 st2 ys y := Row.mono hy hx0 fun _ _ _ he => he
  obtain ⟨cy, hn, hr⟩ := newsA_row hy2 (u := 26) Try.underlying26
  exact SliceO.app (E := fun _ => Shr (EncB s0)) (fun _ _ _ _ _ _ h => h) (fun _ _ _ _ h => by rw [h.2]; simp) (sz := 4) (fun _ x cx _ h => Kind.enc_len (α := Bnd) s0 x cx h.1) (u := 26) (t := 26) Try.underlying26 sz54 by54 ze54 rfl h hf hn0 hext hn hr ⟨by simp, by simp⟩ (by omega) (by omega)
theorem ShB.empty (s0 st : St) : ShB s0 (st ++ [⟨[], 54, 0⟩]) [] (.slice (some ⟨st.length, 0, none⟩) 0 0) [st.length] := .inr ⟨st.length, 0, [], [], rfl, by simp, .nil, rfl⟩


end

section
/- List literals; l1Pick, l1PickInt, l3App. -/
open Go Go.Proofs
set_option linter.unusedVariables false
set_option linter.unusedSimpArgs false
set_option maxRecDepth 100000
-- AUTO


end

section
/- Names drawn: l1Pick out of a list literal, l2Any, l2List, DrawSortNames. -/
open Go Go.Proofs
set_option linter.unusedVariables false
set_option linter.unusedSimpArgs false
set_option maxRecDepth 100000
-- AUTO


end

section
/- slices.Clone. -/
open Go Go.Proofs
set_option linter.unusedVariables false
set_option linter.unusedSimpArgs false
set_option maxRecDepth 100000
-- AUTO

theorem cloneS_ok (xs : List ByteArray) (st : St) (s : Value) (hbig : xs.length ≤ 1099511627776) (hr : Rw st xs s) :
    CallS Try.prog 51 [s] st fun r st2 => Ext st st2 ∧ ∃ L, Sl st2 xs r L ∧ Fresh st.length L := by
  refine CallS_of_W [] 8 Try.func51 rfl rfl rfl rfl (by simp) ?_
  obtain ⟨b, hb, hb2⟩ := row_nil hr Try.underlying45
  have n1 := hr.notLoc.1
  cases b with
  | true =>
    obtain ⟨rfl, rfl⟩ := hb2 rfl
    repeat (first | ((first | refine W_reg rfl fun G K hG hK => ?_ | refine W_end rfl fun G K hG hK => ?_); simp (disch := omega) only [go_sem, ↓reduceIte, Nat.reduceEqDiff, Nat.reduceAdd, Nat.reduceLeDiff, hG, hb]; refine hK _ _ ?_; clear hK K hG G) | refine W_seqS ?_ | refine W_seqC ?_ | refine W_seqB ?_ | refine W_block ?_ | refine W_skip ?_ | (refine W_condT ?hc ?_; (case hc => (simp (disch := omega) only [go_sem, ↓reduceIte, Nat.reduceEqDiff, Nat.reduceAdd, Nat.reduceLeDiff, hb]; done))) | (refine W_condF ?hc ?_; (case hc => (simp (disch := omega) only [go_sem, ↓reduceIte, Nat.reduceEqDiff, Nat.reduceAdd, Nat.reduceLeDiff, hb]; done))) | refine thenI ?_ | refine thenE ?_ | refine thenR ?_ | refine inBI ?_ | refine inBR ?_ | refine inBS ?_ | refine inBN (by decide) ?_)
    refine W_ret ?_; try (repeat (first | refine thenI ?_ | refine thenE ?_ | refine thenR ?_ | refine inBI ?_ | refine inBR ?_ | refine inBS ?_ | refine inBN (by decide) ?_))
    refine fin1 (.inl rfl) (by (simp (disch := omega) only [go_sem, ↓reduceIte, Nat.reduceEqDiff, Nat.reduceAdd, Nat.reduceLeDiff]); try rfl) rfl ⟨Ext.refl _, [], Sl.nil _, .nil _⟩
  | false =>
    obtain ⟨s', st', L', hap, hs', hf', hx', _⟩ := Sl.freshRow (t := 45) (u := 45) Try.underlying45 Try.underlying45 sz9 rfl by9 ze9 rfl hr (by omega) (by omega)
    have hap : appendA Try.prog 45 45 (.slice (some ⟨st.length, 0, none⟩) 0 0) s (st ++ [⟨[], 9, 0⟩]) = some (s', st') := hap
    repeat (first | ((first | refine W_reg rfl fun G K hG hK => ?_ | refine W_end rfl fun G K hG hK => ?_); simp (disch := omega) only [go_sem, ↓reduceIte, Nat.reduceEqDiff, Nat.reduceAdd, Nat.reduceLeDiff, hG, hb]; refine hK _ _ ?_; clear hK K hG G) | refine W_seqS ?_ | refine W_seqC ?_ | refine W_seqB ?_ | refine W_block ?_ | refine W_skip ?_ | (refine W_condT ?hc ?_; (case hc => (simp (disch := omega) only [go_sem, ↓reduceIte, Nat.reduceEqDiff, Nat.reduceAdd, Nat.reduceLeDiff, hb]; done))) | (refine W_condF ?hc ?_; (case hc => (simp (disch := omega) only [go_sem, ↓reduceIte, Nat.reduceEqDiff, Nat.reduceAdd, Nat.reduceLeDiff, hb]; done))) | refine thenI ?_ | refine thenE ?_ | refine thenR ?_ | refine inBI ?_ | refine inBR ?_ | refine inBS ?_ | refine inBN (by decide) ?_)
    repeat (first | ((first | refine W_reg rfl fun G K hG hK => ?_ | refine W_end rfl fun G K hG hK => ?_); simp (disch := omega) only [go_sem, ↓reduceIte, Nat.reduceEqDiff, Nat.reduceAdd, Nat.reduceLeDiff, hG, w_append, hap]; refine hK _ _ ?_; clear hK K hG G) | refine W_seqS ?_ | refine W_seqC ?_ | refine W_seqB ?_ | refine W_block ?_ | refine W_skip ?_ | (refine W_condT ?hc ?_; (case hc => (simp (disch := omega) only [go_sem, ↓reduceIte, Nat.reduceEqDiff, Nat.reduceAdd, Nat.reduceLeDiff, w_append, hap]; done))) | (refine W_condF ?hc ?_; (case hc => (simp (disch := omega) only [go_sem, ↓reduceIte, Nat.reduceEqDiff, Nat.reduceAdd, Nat.reduceLeDiff, w_append, hap]; done))) | refine thenI ?_ | refine thenE ?_ | refine thenR ?_ | refine inBI ?_ | refine inBR ?_ | refine inBS ?_ | refine inBN (by decide) ?_)
    refine W_ret ?_; try (repeat (first | refine thenI ?_ | refine thenE ?_ | refine thenR ?_ | refine inBI ?_ | refine inBR ?_ | refine inBS ?_ | refine inBN (by decide) ?_))
    refine fin1 (.inl rfl) (by (simp (disch := omega) only [go_sem, ↓reduceIte, Nat.reduceEqDiff, Nat.reduceAdd, Nat.reduceLeDiff]); try rfl) hs'.loc ⟨hx', L', hs', hf'⟩

end

section
/- Names are sorted: impl.SortNames, out of the shelf's slices.Sort and slices.Compact. -/
open Go Go.Proofs Go.RowKit Go.Sort
set_option linter.unusedVariables false
set_option linter.unusedSimpArgs false
set_option maxRecDepth 100000
-- AUTO

/-- One live block has turned: the rest of the tie stays. -/
theorem HR.turn {P : Program} {w w' : World} {M : List ME} {st : St} {i : Nat} {cs cs' : List Value} {e : TypeId} {m : ME} {c' : Array Value} (hH : HR P ⟨w, M, st⟩ M st w) (hi : st[i]? = some ⟨cs, e, 0⟩) (hm : M[i]? = some m)
    (hos : w'.os = w.os) (htp : w'.tape = w.tape) (hout : w'.output = w.output) (hsz : w.heap.size ≤ w'.heap.size) (hoth : ∀ k, k < w.heap.size → k ≠ m.b → w'.heap[k]? = w.heap[k]?)
    (hb : w'.heap[m.b]? = some (.cells c' e (0, 0))) (hs : c'.size = m.n) (hl : cs'.length ≤ m.n) (hcr : CR M cs' c') : HR P ⟨w, M, st⟩ M (st.set i ⟨cs', e, 0⟩) w' := by
  obtain ⟨c, hc, hcs, hcl, hcr0, hap⟩ := hH.blk i _ m hi hm (by simp) (by simp)
  have hilt := (List.getElem?_eq_some_iff.1 hi).1
  have hne : ∀ (j : Nat) b m', st[j]? = some b → M[j]? = some m' → b.stat ≠ 2 → j ≠ i → m'.b ≠ m.b := fun j b m' hj hm' h2 hji e => hji (hH.inj j i b _ m' m hj hi h2 (by simp) hm' hm e)
  have hback : ∀ (j : Nat) b, (st.set i ⟨cs', e, 0⟩)[j]? = some b → b.stat ≠ 2 → ∃ b0, st[j]? = some b0 ∧ b0.stat ≠ 2 := by
    intro j b hj h2
    by_cases hji : i = j
    · subst hji; exact ⟨_, hi, by simp⟩
    · rw [List.getElem?_set_ne hji] at hj; exact ⟨b, hj, h2⟩
  exact {
    len := by rw [List.length_set]; exact hH.len
    pre := fun _ _ h => h
    blk := by
      intro j b m' hj hm' h2 h1
      by_cases hji : i = j
      · subst hji
        rw [List.getElem?_set_self hilt] at hj
        cases hj
        rw [hm] at hm'
        cases hm'
        exact ⟨c', HasC.of hb, hs, hl, hcr.s, hap⟩
      · rw [List.getElem?_set_ne hji] at hj
        obtain ⟨c2, q1, q2, q3, q4, q5⟩ := hH.blk j b m' hj hm' h2 h1
        exact ⟨c2, q1.to (hoth _ (hH.lt j m' hm') (hne j b m' hj hm' h2 (fun e => hji e.symm))), q2, q3, q4, q5⟩
    inj := by
      intro j k b b' m1 m2 hj hk h1 h2 e1 e2 e3
      obtain ⟨b1, hb1, hs1⟩ := hback j b hj h1
      obtain ⟨b2, hb2, hs2⟩ := hback k b' hk h2
      exact hH.inj j k b1 b2 m1 m2 hb1 hb2 hs1 hs2 e1 e2 e3
    lt := fun j m' h => Nat.lt_of_lt_of_le (hH.lt j m' h) hsz
    old := hH.old
    ro := by
      intro j b m' hj hs1 hm'
      have hji : j ≠ i := fun e => by
        subst e
        have hj : st[j]? = some b := hj
        rw [hi] at hj
        cases hj
        cases hs1
      exact ⟨by rw [List.getElem?_set_ne (fun e => hji e.symm)]; exact hj, hoth _ (hH.lt j m' hm') (hne j b m' hj hm' (by omega) hji)⟩
    os := hos
    tape := htp
    output := hout
    size := hsz
    frame := fun k hk hno => hoth k hk (fun e => hno i m hm e.symm)
    tab := hH.tab
    cov := hH.cov }

theorem put_turn (w : World) (g q : Nat) (d : Array (List UInt8)) (os : Array Obj) : let w' := grow (putRow encStr (Sort.ahead w q) g 0 d) os
    w'.os = w.os ∧ w'.tape = w.tape ∧ w'.output = w.output ∧ w.heap.size ≤ w'.heap.size ∧ ∀ k, k < w.heap.size → k ≠ g → w'.heap[k]? = w.heap[k]? := by
  refine ⟨rfl, rfl, rfl, ?_, ?_⟩
  · show w.heap.size ≤ ((w.heap.modify g (onCells (putCells encStr 0 d))) ++ os).size
    simp
  · intro k hk hne
    show ((w.heap.modify g (onCells (putCells encStr 0 d))) ++ os)[k]? = w.heap[k]?
    rw [Array.getElem?_append_left (by simpa using hk), Array.getElem?_modify, if_neg (fun e => hne e.symm)]
theorem put_block (w : World) (g q : Nat) (d : Array (List UInt8)) (os : Array Obj) (cur : Array Value) (e : TypeId) (h : w.heap[g]? = some (.cells cur e (0, 0))) : (grow (putRow encStr (Sort.ahead w q) g 0 d) os).heap[g]? = some (.cells (putCells encStr 0 d cur) e (0, 0)) := by
  have hlt : g < w.heap.size := (Array.getElem?_eq_some_iff.1 h).1
  show ((w.heap.modify g (onCells (putCells encStr 0 d))) ++ os)[g]? = _
  rw [Array.getElem?_append_left (by simpa using hlt), Array.getElem?_modify, if_pos rfl, h]
  rfl
theorem put_cr (M : List ME) (ys zs : List (List UInt8)) (cur : Array Value) (h : ys.length ≤ cur.size) : CR M ((unchs ys).map Value.string) (putCells encStr 0 (ys ++ zs).toArray cur) := by
  intro j x hx
  have hj : j < ys.length := by
    have := (List.getElem?_eq_some_iff.1 hx).1
    simpa [unchs] using this
  have hx2 : x = .string ⟨ys[j].toArray⟩ := by
    have := (List.getElem?_eq_some_iff.1 hx).2
    rw [← this]
    simp [unchs]
  subst hx2
  refine ⟨rfl, _, ?_, .fl _ rfl⟩
  unfold putCells
  rw [Array.getElem?_mapIdx, Array.getElem?_eq_getElem (by omega), Option.map_some, if_pos ⟨by omega, by simp; omega⟩]
  rw [Nat.sub_zero, getElem!_pos _ j (by simp; omega)]
  simp [encStr, List.getElem_append_left hj]
theorem rowO_str {st : St} {xs : List ByteArray} {cs : List Value} {K : List Nat} (h : RowO (Kind.own (α := ByteArray) st) xs cs K) : cs = xs.map Value.string ∧ K = [] := by
  induction h with
  | nil => exact ⟨rfl, rfl⟩
  | cons x xs cx cs Lx L h hs ih =>
    obtain ⟨rfl, rfl⟩ := h
    obtain ⟨rfl, rfl⟩ := ih
    exact ⟨rfl, rfl⟩
theorem str_rowO (st : St) (xs : List ByteArray) : RowO (Kind.own (α := ByteArray) st) xs (xs.map Value.string) [] := by
  induction xs with
  | nil => exact .nil
  | cons x xs ih => exact .cons x xs [.string x] _ [] [] ⟨rfl, rfl⟩ ih
theorem holds_cr {P : Program} {w : World} {M : List ME} {g : Nat} {xs : List ByteArray} {c : Array Value} {e : TypeId} (hb : w.heap[g]? = some (.cells c e (0, 0))) (h : CR M (xs.map Value.string) c) : Holds encStr w g 0 (chs xs).toArray := by
  intro j hj
  have hj' : j < xs.length := by simpa [chs] using hj
  obtain ⟨_, y, hy, hv⟩ := h j (.string xs[j]) (by simp [hj'])
  have := hv.flat_eq rfl
  subst this
  have e1 : (chs xs).toArray[j]! = xs[j].data.toList := by
    rw [getElem!_pos _ j hj]
    simp [chs]
  refine ⟨?_, ?_⟩
  · rw [e1]
    simp [World.cell?, hb, hy, encStr]
  · simp [World.frozen?, hb]
theorem VL.one {M : List ME} {s : Value} {vals : Array Value} (h : VL M [s] vals) : ∃ v, vals = #[v] ∧ VR M s v := by
  have hl := h.len
  obtain ⟨l⟩ := vals
  match l, hl with
  | [v], _ => exact ⟨v, rfl, h.rel 0 s v rfl rfl⟩
/-- A slice of a live block of one's own, in the world. -/
theorem sortS_ok (xs : List ByteArray) (st : St) (s : Value) (L : List Nat) (hbig : xs.length ≤ 1099511627776) (h : Sl st xs s L) :
    CallS Try.prog 52 [s] st fun r st2 => r = .tuple #[] ∧ Sl st2 (sortB xs) s L ∧ Away (topId s) st st2 ∧ st2.length = st.length := by
  refine ⟨⟨_, Try.func52, rfl, rfl⟩, fun M w vals hH hV => ?_⟩
  obtain ⟨v, rfl, hv⟩ := hV.one
  have hnil : ∀ a c, xs = [] → v = .slice a 0 c → Calls Try.prog 52 #[v] w fun e w' => ∃ r v' st' M', e = .returned v' ∧ (r = .tuple #[] ∧ Sl st' (sortB xs) s L ∧ Away (topId s) st st' ∧ st'.length = st.length) ∧ VR M' r v' ∧ HR Try.prog ⟨w, M, st⟩ M' st' w' := by
    rintro a c rfl rfl
    refine (Try.slices_Sort_string_none a c w).mono fun e w' ⟨he, hw⟩ => ?_
    subst hw
    exact ⟨_, _, st, M, he, ⟨rfl, by simpa [sortB, chs, unchs] using h, ⟨Nat.le_refl _, fun _ _ _ => rfl⟩, rfl⟩, .of_flat (by simp [flat]), hH⟩
  rcases h with ⟨rfl, hx, rfl⟩ | ⟨i, c, cs, K, rfl, hi, hrow, rfl⟩
  · have := hv.flat_eq rfl
    exact hnil none 0 hx this
  obtain ⟨rfl, rfl⟩ := rowO_str hrow
  cases hv with
  | fl _ hf => simp [flat1] at hf
  | sl _ _ o' n k c' m hm hn hc =>
    rcases Nat.eq_zero_or_pos xs.length with h0 | hpos
    · exact hnil _ c' (List.eq_nil_of_length_eq_zero h0) (by rw [h0])
    have ho : o' = 0 := by
      rcases hc with ⟨h1, _⟩ | h1
      · exact h1
      · omega
    subst ho
    obtain ⟨c0, hc0, hcs, hcl, hcr, hap⟩ := hH.blk i _ m hi hm (by simp) (by simp)
    have hlive := hc0.live rfl
    have hS := Try.slices_Sort_string m.b 0 c' (chs xs) w (holds_cr (P := Try.prog) hlive (hcr.cr (by simp))) (hH.lt i m hm) (by rw [chs_length]; omega)
    rw [chs_length] at hS
    refine hS.mono fun e w' ⟨he, q, os, hw⟩ => ?_
    obtain ⟨g1, g2, g3, g4, g5⟩ := put_turn w m.b q ((chs xs).mergeSort fun x y => decide (x ≤ y)).toArray os
    have g6 := put_block w m.b q ((chs xs).mergeSort fun x y => decide (x ≤ y)).toArray os c0 _ hlive
    rw [← hw] at g1 g2 g3 g4 g5 g6
    have hlen : ((chs xs).mergeSort fun x y => decide (x ≤ y)).length = xs.length := by rw [List.length_mergeSort, chs_length]
    have hcl' : xs.length ≤ m.n := by simpa using hcl
    have hcr' := put_cr M ((chs xs).mergeSort fun x y => decide (x ≤ y)) [] c0 (by rw [hlen, hcs]; exact hcl')
    rw [List.append_nil] at hcr'
    have hT := HR.turn (cs' := (sortB xs).map Value.string) hH hi hm g1 g2 g3 g4 g5 g6 (by unfold putCells; simpa using hcs) (by rw [List.length_map, sortB_length]; exact hcl') hcr'
    have hilt := (List.getElem?_eq_some_iff.1 hi).1
    refine ⟨_, _, _, M, he, ⟨rfl, .inr ⟨i, c, (sortB xs).map Value.string, [], by rw [sortB_length], List.getElem?_set_self hilt, str_rowO _ _, rfl⟩, ⟨by simp, fun k _ hk => List.getElem?_set_ne (fun e => hk (by rw [e]; rfl))⟩, by simp⟩, .of_flat (by simp [flat]), hT⟩
theorem compS_ok (xs : List ByteArray) (st : St) (s : Value) (L : List Nat) (hbig : xs.length ≤ 1099511627776) (h : Sl st xs s L) :
    CallS Try.prog 53 [s] st fun r st2 => Sl st2 (compS xs) r L ∧ Away (topId s) st st2 ∧ st2.length = st.length := by
  refine ⟨⟨_, Try.func53, rfl, rfl⟩, fun M w vals hH hV => ?_⟩
  obtain ⟨v, rfl, hv⟩ := hV.one
  have hnil : ∀ a c, xs = [] → v = .slice a 0 c → Calls Try.prog 53 #[v] w fun e w' => ∃ r v' st' M', e = .returned v' ∧ (Sl st' (compS xs) r L ∧ Away (topId s) st st' ∧ st'.length = st.length) ∧ VR M' r v' ∧ HR Try.prog ⟨w, M, st⟩ M' st' w' := by
    rintro a c rfl rfl
    refine (Try.slices_Compact_string_empty a c w).mono fun e w' ⟨he, hw⟩ => ?_
    subst hw
    exact ⟨s, _, st, M, he, ⟨by simpa [compS, chs, unchs, Lib.compact, Lib.compactUpTo] using h, ⟨Nat.le_refl _, fun _ _ _ => rfl⟩, rfl⟩, hv, hH⟩
  rcases h with ⟨rfl, hx, rfl⟩ | ⟨i, c, cs, K, rfl, hi, hrow, rfl⟩
  · have := hv.flat_eq rfl
    exact hnil none 0 hx this
  obtain ⟨rfl, rfl⟩ := rowO_str hrow
  have hv0 := hv
  cases hv with
  | fl _ hf => simp [flat1] at hf
  | sl _ _ o' n k c' m hm hn hc =>
    rcases Nat.eq_zero_or_pos xs.length with h0 | hpos
    · exact hnil _ c' (List.eq_nil_of_length_eq_zero h0) (by rw [h0])
    have ho : o' = 0 := by
      rcases hc with ⟨h1, _⟩ | h1
      · exact h1
      · omega
    subst ho
    obtain ⟨c0, hc0, hcs, hcl, hcr, hap⟩ := hH.blk i _ m hi hm (by simp) (by simp)
    have hlive := hc0.live rfl
    have hS := Try.slices_Compact_string m.b 0 c' (chs xs) w (holds_cr (P := Try.prog) hlive (hcr.cr (by simp))) (by rw [chs_length]; omega) (by rw [chs_length]; exact hn)
    rw [chs_length] at hS
    have hle : (Lib.compact (chs xs)).length ≤ xs.length := by
      have := compact_le (chs xs)
      rwa [chs_length] at this
    refine hS.mono fun e w' ⟨he, q, hw⟩ => ?_
    obtain ⟨g1, g2, g3, g4, g5⟩ := put_turn w m.b q (Lib.compact (chs xs) ++ List.replicate (xs.length - (Lib.compact (chs xs)).length) []).toArray #[]
    have g6 := put_block w m.b q (Lib.compact (chs xs) ++ List.replicate (xs.length - (Lib.compact (chs xs)).length) []).toArray #[] c0 _ hlive
    rw [Sort.grow_empty, ← hw] at g1 g2 g3 g4 g5 g6
    have hcl' : xs.length ≤ m.n := by simpa using hcl
    have hcr' := put_cr M (Lib.compact (chs xs)) (List.replicate (xs.length - (Lib.compact (chs xs)).length) []) c0 (by rw [hcs]; omega)
    have hlc : (compS xs).length = (Lib.compact (chs xs)).length := by unfold compS; rw [unchs_length]
    have hT := HR.turn (cs' := (compS xs).map Value.string) hH hi hm g1 g2 g3 g4 g5 g6 (by unfold putCells; simpa using hcs) (by rw [List.length_map, hlc]; omega) hcr'
    have hilt := (List.getElem?_eq_some_iff.1 hi).1
    refine ⟨.slice (some ⟨i, 0, none⟩) (compS xs).length c, _, _, M, he, ⟨.inr ⟨i, c, (compS xs).map Value.string, [], rfl, List.getElem?_set_self hilt, str_rowO _ _, rfl⟩, ⟨by simp, fun k _ hk => List.getElem?_set_ne (fun e => hk (by rw [e]; rfl))⟩, by simp⟩, ?_, hT⟩
    rw [hlc]
    exact .sl i 0 0 _ _ _ m hm (by omega) hc

theorem implSort_ok (xs : List ByteArray) (st : St) (s : Value) (hbig : xs.length ≤ 1073741824) (hr : Rw st xs s) :
    CallS Try.prog 40 [s] st fun r st2 => Ext st st2 ∧ ∃ L, Sl st2 (namesB xs) r L ∧ Fresh st.length L := by
  refine CallS_of_W [] 10 Try.func40 rfl rfl rfl rfl (by simp) ?_
  have q1 := hr.notLoc.1
  repeat (first | ((first | refine W_reg rfl fun G K hG hK => ?_ | refine W_end rfl fun G K hG hK => ?_); simp (disch := omega) only [go_sem, ↓reduceIte, Nat.reduceEqDiff, Nat.reduceAdd, Nat.reduceLeDiff, hG, q1]; refine hK _ _ ?_; clear hK K hG G) | refine W_seqS ?_ | refine W_seqC ?_ | refine W_seqB ?_ | refine W_block ?_ | refine W_skip ?_ | (refine W_condT ?hc ?_; (case hc => (simp (disch := omega) only [go_sem, ↓reduceIte, Nat.reduceEqDiff, Nat.reduceAdd, Nat.reduceLeDiff, q1]; done))) | (refine W_condF ?hc ?_; (case hc => (simp (disch := omega) only [go_sem, ↓reduceIte, Nat.reduceEqDiff, Nat.reduceAdd, Nat.reduceLeDiff, q1]; done))) | refine thenI ?_ | refine thenE ?_ | refine thenR ?_ | refine inBI ?_ | refine inBR ?_ | refine inBS ?_ | refine inBN (by decide) ?_)
  (repeat (first | refine W_seqS ?_ | refine W_seqC ?_ | refine W_seqB ?_ | refine W_block ?_)); refine W_reg rfl fun G K hG hK => ?_; simp (disch := omega) only [go_sem, ↓reduceIte, Nat.reduceEqDiff, Nat.reduceAdd, Nat.reduceLeDiff, hG, q1]
  refine w_call (cloneS_ok xs st s (by omega) hr) (by simp (disch := omega) only [go_sem, ↓reduceIte, Nat.reduceEqDiff, q1]) ?hl ?_
  case hl => first | rfl | (simp only [go_sem, List.all_cons, List.all_nil, Bool.not_false, Bool.and_self, q1]; done)
  rintro r1 sa ⟨x1, L, hs1, hf1⟩; refine ⟨fun e => (by cases e), ?_⟩
  have o1 := hs1.loc
  have t1 := hs1.top hf1
  have hl1 := x1.length
  simp (disch := omega) only [go_sem, ↓reduceIte, Nat.reduceEqDiff, Nat.reduceAdd, Nat.reduceLeDiff, hG, q1, o1]; refine hK _ _ ?_; clear hK K hG G; repeat (first | refine thenI ?_ | refine thenE ?_ | refine thenR ?_ | refine inBI ?_ | refine inBR ?_ | refine inBS ?_ | refine inBN (by decide) ?_)
  repeat (first | ((first | refine W_reg rfl fun G K hG hK => ?_ | refine W_end rfl fun G K hG hK => ?_); simp (disch := omega) only [go_sem, ↓reduceIte, Nat.reduceEqDiff, Nat.reduceAdd, Nat.reduceLeDiff, hG, q1, o1]; refine hK _ _ ?_; clear hK K hG G) | refine W_seqS ?_ | refine W_seqC ?_ | refine W_seqB ?_ | refine W_block ?_ | refine W_skip ?_ | (refine W_condT ?hc ?_; (case hc => (simp (disch := omega) only [go_sem, ↓reduceIte, Nat.reduceEqDiff, Nat.reduceAdd, Nat.reduceLeDiff, q1, o1]; done))) | (refine W_condF ?hc ?_; (case hc => (simp (disch := omega) only [go_sem, ↓reduceIte, Nat.reduceEqDiff, Nat.reduceAdd, Nat.reduceLeDiff, q1, o1]; done))) | refine thenI ?_ | refine thenE ?_ | refine thenR ?_ | refine inBI ?_ | refine inBR ?_ | refine inBS ?_ | refine inBN (by decide) ?_)
  (repeat (first | refine W_seqS ?_ | refine W_seqC ?_ | refine W_seqB ?_ | refine W_block ?_)); refine W_reg rfl fun G K hG hK => ?_; simp (disch := omega) only [go_sem, ↓reduceIte, Nat.reduceEqDiff, Nat.reduceAdd, Nat.reduceLeDiff, hG, q1, o1]
  refine w_call (sortS_ok xs sa r1 L (by omega) hs1) (by simp (disch := omega) only [go_sem, ↓reduceIte, Nat.reduceEqDiff, q1, o1]) ?hl ?_
  case hl => first | rfl | (simp only [go_sem, List.all_cons, List.all_nil, Bool.not_false, Bool.and_self, q1, o1]; done)
  rintro r_ sb ⟨rfl, hs2, ha2, hl2⟩; refine ⟨fun e => (by cases e), ?_⟩
  simp (disch := omega) only [go_sem, ↓reduceIte, Nat.reduceEqDiff, Nat.reduceAdd, Nat.reduceLeDiff, hG, q1, o1]; refine hK _ _ ?_; clear hK K hG G; repeat (first | refine thenI ?_ | refine thenE ?_ | refine thenR ?_ | refine inBI ?_ | refine inBR ?_ | refine inBS ?_ | refine inBN (by decide) ?_)
  repeat (first | ((first | refine W_reg rfl fun G K hG hK => ?_ | refine W_end rfl fun G K hG hK => ?_); simp (disch := omega) only [go_sem, ↓reduceIte, Nat.reduceEqDiff, Nat.reduceAdd, Nat.reduceLeDiff, hG, q1, o1]; refine hK _ _ ?_; clear hK K hG G) | refine W_seqS ?_ | refine W_seqC ?_ | refine W_seqB ?_ | refine W_block ?_ | refine W_skip ?_ | (refine W_condT ?hc ?_; (case hc => (simp (disch := omega) only [go_sem, ↓reduceIte, Nat.reduceEqDiff, Nat.reduceAdd, Nat.reduceLeDiff, q1, o1]; done))) | (refine W_condF ?hc ?_; (case hc => (simp (disch := omega) only [go_sem, ↓reduceIte, Nat.reduceEqDiff, Nat.reduceAdd, Nat.reduceLeDiff, q1, o1]; done))) | refine thenI ?_ | refine thenE ?_ | refine thenR ?_ | refine inBI ?_ | refine inBR ?_ | refine inBS ?_ | refine inBN (by decide) ?_)
  (repeat (first | refine W_seqS ?_ | refine W_seqC ?_ | refine W_seqB ?_ | refine W_block ?_)); refine W_reg rfl fun G K hG hK => ?_; simp (disch := omega) only [go_sem, ↓reduceIte, Nat.reduceEqDiff, Nat.reduceAdd, Nat.reduceLeDiff, hG, q1, o1]
  have hx2 := ha2.ext_of x1 t1
  refine w_call (compS_ok (sortB xs) sb r1 L (by rw [sortB_length]; omega) hs2) (by simp (disch := omega) only [go_sem, ↓reduceIte, Nat.reduceEqDiff, q1, o1]) ?hl ?_
  case hl => first | rfl | (simp only [go_sem, List.all_cons, List.all_nil, Bool.not_false, Bool.and_self, q1, o1]; done)
  rintro r_ sc ⟨hs3, ha3, hl3⟩; refine ⟨fun e => (by cases e), ?_⟩
  have o3 := hs3.loc
  have hx3 := ha3.ext_of hx2 t1
  simp (disch := omega) only [go_sem, ↓reduceIte, Nat.reduceEqDiff, Nat.reduceAdd, Nat.reduceLeDiff, hG, q1, o3]; refine hK _ _ ?_; clear hK K hG G; repeat (first | refine thenI ?_ | refine thenE ?_ | refine thenR ?_ | refine inBI ?_ | refine inBR ?_ | refine inBS ?_ | refine inBN (by decide) ?_)
  refine W_ret ?_; try (repeat (first | refine thenI ?_ | refine thenE ?_ | refine thenR ?_ | refine inBI ?_ | refine inBR ?_ | refine inBS ?_ | refine inBN (by decide) ?_))
  refine fin1 (.inl rfl) (by (simp (disch := omega) only [go_sem, ↓reduceIte, Nat.reduceEqDiff, Nat.reduceAdd, Nat.reduceLeDiff, q1]); try rfl) o3 ⟨hx3, L, by rw [← sort_same]; exact hs3, hf1⟩

end

section
/- FnNames' helpers: laws.sameTexts, laws.rising, impl.AllDistinct. -/
open Go Go.Proofs
set_option linter.unusedVariables false
set_option linter.unusedSimpArgs false
set_option maxRecDepth 100000
-- AUTO

/-- Where a name stands: 0 or more where it is there, else -1. -/
theorem index_ok (xs : List ByteArray) (w : ByteArray) (st : St) (s : Value) (hbig : xs.length ≤ 1073741824) (hr : Rw st xs s) :
    CallS Try.prog 49 [s, .string w] st fun r st2 => (∃ k : Int, r = .int .i64 k ∧ ((w ∈ xs ∧ 0 ≤ k) ∨ (w ∉ xs ∧ k = -1))) ∧ st2 = st := by
  refine CallS_of_W [] 19 Try.func49 rfl rfl rfl rfl (by simp) ?_
  have q1 := hr.notLoc.1
  have hlen : lenE Try.prog 45 s = some (.int .i64 xs.length) := row_len hr Try.underlying45
  repeat (first | ((first | refine W_reg rfl fun G K hG hK => ?_ | refine W_end rfl fun G K hG hK => ?_); simp (disch := omega) only [go_sem, ↓reduceIte, Nat.reduceEqDiff, Nat.reduceAdd, Nat.reduceLeDiff, hG, q1, hlen]; refine hK _ _ ?_; clear hK K hG G) | refine W_seqS ?_ | refine W_seqC ?_ | refine W_seqB ?_ | refine W_block ?_ | refine W_skip ?_ | (refine W_condT ?hc ?_; (case hc => (simp (disch := omega) only [go_sem, ↓reduceIte, Nat.reduceEqDiff, Nat.reduceAdd, Nat.reduceLeDiff, q1, hlen]; done))) | (refine W_condF ?hc ?_; (case hc => (simp (disch := omega) only [go_sem, ↓reduceIte, Nat.reduceEqDiff, Nat.reduceAdd, Nat.reduceLeDiff, q1, hlen]; done))) | refine thenI ?_ | refine thenE ?_ | refine thenR ?_ | refine inBI ?_ | refine inBR ?_ | refine inBS ?_ | refine inBN (by decide) ?_)
  refine W_loop (fun d fr st' => ∃ (j : Nat) , d = xs.length - j ∧ j ≤ xs.length ∧ (st = st') ∧ ((∀ x ∈ xs.take j, x ≠ w)) ∧ (fr.env 0 = s) ∧ (fr.env 1 = .string w) ∧ (fr.env 7 = .int .i64 xs.length) ∧ (fr.env 8 = .int .i64 j)) (xs.length) ?_ ?_
  · exact ⟨0, by omega, by omega, rfl, by simp, (by (simp (disch := omega) only [go_sem, ↓reduceIte, Nat.reduceEqDiff, Nat.reduceAdd, Nat.reduceLeDiff, q1, hlen]); try rfl), (by (simp (disch := omega) only [go_sem, ↓reduceIte, Nat.reduceEqDiff, Nat.reduceAdd, Nat.reduceLeDiff, q1, hlen]); try rfl), (by (simp (disch := omega) only [go_sem, ↓reduceIte, Nat.reduceEqDiff, Nat.reduceAdd, Nat.reduceLeDiff, q1, hlen]); try rfl), (by (simp (disch := omega) only [go_sem, ↓reduceIte, Nat.reduceEqDiff, Nat.reduceAdd, Nat.reduceLeDiff, q1, hlen]); try rfl)⟩
  rintro d ⟨env, loc⟩ st' ⟨j, hd, hj, hst, hno, e0, e1, e7, e8⟩
  simp only at e0 e1 e7 e8
  subst hst
  by_cases hlt : j < xs.length
  · have c1 : decide ((j : Int) < (xs.length : Int)) = true := by simpa using hlt
    have hi := idxOk hlt
    have hx : xs[j]? = some xs[j] := List.getElem?_eq_getElem hlt
    have htk : xs.take (j + 1) = xs.take j ++ [xs[j]] := List.take_succ_eq_append_getElem hlt
    obtain ⟨i, o, c, rfl, hce⟩ := row_atS hr hx
    cases hq : (w.toList == xs[j].toList) with
    | true =>
      have hw : xs[j] = w := by
        have h : w.toList = xs[j].toList := by simpa using hq
        rw [Lib.toList_data, Lib.toList_data] at h
        exact (ByteArray.ext (Array.ext' h)).symm
      repeat (first | ((first | refine W_reg rfl fun G K hG hK => ?_ | refine W_end rfl fun G K hG hK => ?_); simp (disch := omega) only [go_sem, ↓reduceIte, Nat.reduceEqDiff, Nat.reduceAdd, Nat.reduceLeDiff, hG, q1, hlen, e0, e1, e7, e8, c1, hi, idxA, Int.toNat_natCast, hce, hq]; refine hK _ _ ?_; clear hK K hG G) | refine W_seqS ?_ | refine W_seqC ?_ | refine W_seqB ?_ | refine W_block ?_ | refine W_skip ?_ | (refine W_condT ?hc ?_; (case hc => (simp (disch := omega) only [go_sem, ↓reduceIte, Nat.reduceEqDiff, Nat.reduceAdd, Nat.reduceLeDiff, q1, hlen, e0, e1, e7, e8, c1, hi, idxA, Int.toNat_natCast, hce, hq]; done))) | (refine W_condF ?hc ?_; (case hc => (simp (disch := omega) only [go_sem, ↓reduceIte, Nat.reduceEqDiff, Nat.reduceAdd, Nat.reduceLeDiff, q1, hlen, e0, e1, e7, e8, c1, hi, idxA, Int.toNat_natCast, hce, hq]; done))) | refine thenI ?_ | refine thenE ?_ | refine thenR ?_ | refine inBI ?_ | refine inBR ?_ | refine inBS ?_ | refine inBN (by decide) ?_)
      refine W_ret ?_; try (repeat (first | refine thenI ?_ | refine thenE ?_ | refine thenR ?_ | refine inBI ?_ | refine inBR ?_ | refine inBS ?_ | refine inBN (by decide) ?_))
      refine fin1 (.inl rfl) (by (simp (disch := omega) only [go_sem, ↓reduceIte, Nat.reduceEqDiff, Nat.reduceAdd, Nat.reduceLeDiff, q1, hlen, e0, e1, e7, e8, c1, hi, idxA, Int.toNat_natCast]); try rfl) rfl ⟨⟨_, rfl, .inl ⟨hw ▸ List.getElem_mem hlt, by omega⟩⟩, rfl⟩
    | false =>
      have hw : xs[j] ≠ w := fun e => by rw [e] at hq; simp at hq
      have hno' : ∀ x ∈ xs.take (j + 1), x ≠ w := by
        rw [htk]
        intro x hx
        rcases List.mem_append.1 hx with h | h
        · exact hno x h
        · rw [List.mem_singleton.1 h]; exact hw
      repeat (first | ((first | refine W_reg rfl fun G K hG hK => ?_ | refine W_end rfl fun G K hG hK => ?_); simp (disch := omega) only [go_sem, ↓reduceIte, Nat.reduceEqDiff, Nat.reduceAdd, Nat.reduceLeDiff, hG, q1, hlen, e0, e1, e7, e8, c1, hi, idxA, Int.toNat_natCast, hce, hq]; refine hK _ _ ?_; clear hK K hG G) | refine W_seqS ?_ | refine W_seqC ?_ | refine W_seqB ?_ | refine W_block ?_ | refine W_skip ?_ | (refine W_condT ?hc ?_; (case hc => (simp (disch := omega) only [go_sem, ↓reduceIte, Nat.reduceEqDiff, Nat.reduceAdd, Nat.reduceLeDiff, q1, hlen, e0, e1, e7, e8, c1, hi, idxA, Int.toNat_natCast, hce, hq]; done))) | (refine W_condF ?hc ?_; (case hc => (simp (disch := omega) only [go_sem, ↓reduceIte, Nat.reduceEqDiff, Nat.reduceAdd, Nat.reduceLeDiff, q1, hlen, e0, e1, e7, e8, c1, hi, idxA, Int.toNat_natCast, hce, hq]; done))) | refine thenI ?_ | refine thenE ?_ | refine thenR ?_ | refine inBI ?_ | refine inBR ?_ | refine inBS ?_ | refine inBN (by decide) ?_)
      refine ⟨xs.length - (j + 1), by omega, j + 1, rfl, by omega, rfl, hno', (by (simp (disch := omega) only [go_sem, ↓reduceIte, Nat.reduceEqDiff, Nat.reduceAdd, Nat.reduceLeDiff, q1, hlen, e0, e1, e7, e8, c1, hi, idxA, Int.toNat_natCast]); try rfl), (by (simp (disch := omega) only [go_sem, ↓reduceIte, Nat.reduceEqDiff, Nat.reduceAdd, Nat.reduceLeDiff, q1, hlen, e0, e1, e7, e8, c1, hi, idxA, Int.toNat_natCast]); try rfl), (by (simp (disch := omega) only [go_sem, ↓reduceIte, Nat.reduceEqDiff, Nat.reduceAdd, Nat.reduceLeDiff, q1, hlen, e0, e1, e7, e8, c1, hi, idxA, Int.toNat_natCast]); try rfl), (by (simp (disch := omega) only [go_sem, ↓reduceIte, Nat.reduceEqDiff, Nat.reduceAdd, Nat.reduceLeDiff, q1, hlen, e0, e1, e7, e8, c1, hi, idxA, Int.toNat_natCast]); try rfl)⟩
  · have c1 : decide ((j : Int) < (xs.length : Int)) = false := by simpa using hlt
    have hjn : j = xs.length := by omega
    subst hjn
    rw [List.take_length] at hno
    repeat (first | ((first | refine W_reg rfl fun G K hG hK => ?_ | refine W_end rfl fun G K hG hK => ?_); simp (disch := omega) only [go_sem, ↓reduceIte, Nat.reduceEqDiff, Nat.reduceAdd, Nat.reduceLeDiff, hG, q1, hlen, e0, e1, e7, e8, c1]; refine hK _ _ ?_; clear hK K hG G) | refine W_seqS ?_ | refine W_seqC ?_ | refine W_seqB ?_ | refine W_block ?_ | refine W_skip ?_ | (refine W_condT ?hc ?_; (case hc => (simp (disch := omega) only [go_sem, ↓reduceIte, Nat.reduceEqDiff, Nat.reduceAdd, Nat.reduceLeDiff, q1, hlen, e0, e1, e7, e8, c1]; done))) | (refine W_condF ?hc ?_; (case hc => (simp (disch := omega) only [go_sem, ↓reduceIte, Nat.reduceEqDiff, Nat.reduceAdd, Nat.reduceLeDiff, q1, hlen, e0, e1, e7, e8, c1]; done))) | refine thenI ?_ | refine thenE ?_ | refine thenR ?_ | refine inBI ?_ | refine inBR ?_ | refine inBS ?_ | refine inBN (by decide) ?_)
    refine W_exit ?_; repeat (first | refine thenI ?_ | refine thenE ?_ | refine thenR ?_ | refine inBI ?_ | refine inBR ?_ | refine inBS ?_ | refine inBN (by decide) ?_)
    repeat (first | ((first | refine W_reg rfl fun G K hG hK => ?_ | refine W_end rfl fun G K hG hK => ?_); simp (disch := omega) only [go_sem, ↓reduceIte, Nat.reduceEqDiff, Nat.reduceAdd, Nat.reduceLeDiff, hG, q1, hlen, e0, e1, e7, e8, c1]; refine hK _ _ ?_; clear hK K hG G) | refine W_seqS ?_ | refine W_seqC ?_ | refine W_seqB ?_ | refine W_block ?_ | refine W_skip ?_ | (refine W_condT ?hc ?_; (case hc => (simp (disch := omega) only [go_sem, ↓reduceIte, Nat.reduceEqDiff, Nat.reduceAdd, Nat.reduceLeDiff, q1, hlen, e0, e1, e7, e8, c1]; done))) | (refine W_condF ?hc ?_; (case hc => (simp (disch := omega) only [go_sem, ↓reduceIte, Nat.reduceEqDiff, Nat.reduceAdd, Nat.reduceLeDiff, q1, hlen, e0, e1, e7, e8, c1]; done))) | refine thenI ?_ | refine thenE ?_ | refine thenR ?_ | refine inBI ?_ | refine inBR ?_ | refine inBS ?_ | refine inBN (by decide) ?_)
    refine W_ret ?_; try (repeat (first | refine thenI ?_ | refine thenE ?_ | refine thenR ?_ | refine inBI ?_ | refine inBR ?_ | refine inBS ?_ | refine inBN (by decide) ?_))
    refine fin1 (.inl rfl) (by (simp (disch := omega) only [go_sem, ↓reduceIte, Nat.reduceEqDiff, Nat.reduceAdd, Nat.reduceLeDiff, q1, hlen, e0, e1, e7, e8, c1]); try rfl) rfl ⟨⟨_, rfl, .inr ⟨fun h => hno w h rfl, rfl⟩⟩, rfl⟩
theorem contains_ok (xs : List ByteArray) (w : ByteArray) (st : St) (s : Value) (hbig : xs.length ≤ 1073741824) (hr : Rw st xs s) :
    CallS Try.prog 37 [s, .string w] st fun r st2 => (∃ b : Bool, r = .bool b ∧ (b = true ↔ w ∈ xs)) ∧ st2 = st := by
  refine CallS_of_W [] 9 Try.func37 rfl rfl rfl rfl (by simp) ?_
  have q1 := hr.notLoc.1
  repeat (first | ((first | refine W_reg rfl fun G K hG hK => ?_ | refine W_end rfl fun G K hG hK => ?_); simp (disch := omega) only [go_sem, ↓reduceIte, Nat.reduceEqDiff, Nat.reduceAdd, Nat.reduceLeDiff, hG, q1]; refine hK _ _ ?_; clear hK K hG G) | refine W_seqS ?_ | refine W_seqC ?_ | refine W_seqB ?_ | refine W_block ?_ | refine W_skip ?_ | (refine W_condT ?hc ?_; (case hc => (simp (disch := omega) only [go_sem, ↓reduceIte, Nat.reduceEqDiff, Nat.reduceAdd, Nat.reduceLeDiff, q1]; done))) | (refine W_condF ?hc ?_; (case hc => (simp (disch := omega) only [go_sem, ↓reduceIte, Nat.reduceEqDiff, Nat.reduceAdd, Nat.reduceLeDiff, q1]; done))) | refine thenI ?_ | refine thenE ?_ | refine thenR ?_ | refine inBI ?_ | refine inBR ?_ | refine inBS ?_ | refine inBN (by decide) ?_)
  (repeat (first | refine W_seqS ?_ | refine W_seqC ?_ | refine W_seqB ?_ | refine W_block ?_)); refine W_reg rfl fun G K hG hK => ?_; simp (disch := omega) only [go_sem, ↓reduceIte, Nat.reduceEqDiff, Nat.reduceAdd, Nat.reduceLeDiff, hG, q1]
  refine w_call (index_ok xs w st s hbig hr) (by simp (disch := omega) only [go_sem, ↓reduceIte, Nat.reduceEqDiff, q1]) ?hl ?_
  case hl => first | rfl | (simp only [go_sem, List.all_cons, List.all_nil, Bool.not_false, Bool.and_self, q1]; done)
  rintro r_ st ⟨⟨k, rfl, hk⟩, rfl⟩; refine ⟨fun e => (by cases e), ?_⟩
  simp (disch := omega) only [go_sem, ↓reduceIte, Nat.reduceEqDiff, Nat.reduceAdd, Nat.reduceLeDiff, hG, q1]; refine hK _ _ ?_; clear hK K hG G; repeat (first | refine thenI ?_ | refine thenE ?_ | refine thenR ?_ | refine inBI ?_ | refine inBR ?_ | refine inBS ?_ | refine inBN (by decide) ?_)
  refine W_ret ?_; try (repeat (first | refine thenI ?_ | refine thenE ?_ | refine thenR ?_ | refine inBI ?_ | refine inBR ?_ | refine inBS ?_ | refine inBN (by decide) ?_))
  refine fin1 (.inl rfl) (by (simp (disch := omega) only [go_sem, ↓reduceIte, Nat.reduceEqDiff, Nat.reduceAdd, Nat.reduceLeDiff, q1]); try rfl) rfl ⟨⟨_, rfl, ?_⟩, rfl⟩
  rcases hk with ⟨h1, h2⟩ | ⟨h1, h2⟩
  · simp [h1, h2]
  · simp [h1, h2]

end

end Go.Proofs.Ytoeibmfdafilcaa.AM