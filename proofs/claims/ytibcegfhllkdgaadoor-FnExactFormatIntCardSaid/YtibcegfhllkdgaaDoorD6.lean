/- Kinds of data: what rows of each have in common. -/
import Derived.Test.YtibcegfhllkdgaaDoorD3
namespace Go.Proofs.YtibcegfhllkdgaaDoor.AM
open Go
set_option linter.unusedVariables false
set_option linter.unusedSimpArgs false

/-- A kind of data: its cells, how they read, how they are owned. -/
class Kind (α : Type) where
  sz : Nat
  e : TypeId
  enc : St → α → List Value → Prop
  own : St → α → List Value → List Nat → Prop
  enc_len : ∀ (st : St) (x : α) (cs : List Value), enc st x cs → cs.length = sz
  enc_ext : ∀ (st st' : St) (x : α) (cs : List Value), Ext st st' → enc st x cs → enc st' x cs
  own_len : ∀ (st : St) (x : α) (cs : List Value) (L : List Nat), own st x cs L → cs.length = sz
  own_lt : ∀ (st : St) (x : α) (cs : List Value) (L : List Nat), own st x cs L → ∀ i ∈ L, i < st.length
  own_frame : ∀ (st st' : St) (x : α) (cs : List Value) (L : List Nat), SameOn L st st' → own st x cs L → own st' x cs L
  own_enc : ∀ (st : St) (x : α) (cs : List Value) (L : List Nat), own st x cs L → enc st x cs

theorem Fresh.mono {n m : Nat} {L : List Nat} (h : Fresh n L) (hm : m ≤ n) : Fresh m L := ⟨h.1, fun i hi => Nat.le_trans hm (h.2 i hi)⟩
theorem Fresh.nil (n : Nat) : Fresh n [] := ⟨by simp, by simp⟩
theorem SameOn.ext {L : List Nat} {st st' : St} (hx : Ext st st') (hL : ∀ i ∈ L, i < st.length) : SameOn L st st' := fun i hi => hx.get (hL i hi)

section
variable {α : Type} [Kind α]
abbrev Rw (st : St) (xs : List α) (s : Value) : Prop := Row (Kind.enc st) (Kind.sz α) st xs s
abbrev Sl (st : St) (xs : List α) (s : Value) (L : List Nat) : Prop := SliceO (Kind.own st) (Kind.e α) st xs s L
theorem Rw.ext {st st' : St} {xs : List α} {s : Value} (h : Rw st xs s) (hx : Ext st st') : Rw st' xs s := h.mono hx fun x _ cs he => Kind.enc_ext _ _ x cs hx he
theorem Rw.at {st : St} {xs : List α} {s : Value} (h : Rw st xs s) {j : Nat} {x : α} (hx : xs[j]? = some x) : ∃ i o c cs, s = .slice (some ⟨i, o, none⟩) xs.length c ∧ cs.length = Kind.sz α ∧ Kind.enc st x cs ∧ CellsAt st i (o + j * Kind.sz α) cs := row_at h hx
theorem Rw.nil (st : St) : Rw (α := α) st [] (.slice none 0 0) := .inl ⟨.inl rfl, rfl⟩
theorem Sl.row {st : St} {xs : List α} {s : Value} {L : List Nat} (h : Sl st xs s L) : Rw st xs s := SliceO.row (Kind.own_len st) (fun x _ cs L he => Kind.own_enc st x cs L he) h
theorem Sl.lt {st : St} {xs : List α} {s : Value} {L : List Nat} (h : Sl st xs s L) : ∀ i ∈ L, i < st.length := SliceO.lt (Kind.own_lt st) h
theorem Sl.frame {st st' : St} {xs : List α} {s : Value} {L : List Nat} (h : Sl st xs s L) (hs : SameOn L st st') : Sl st' xs s L := SliceO.frame (E := Kind.own) (fun st st' x cs L => Kind.own_frame st st' x cs L) hs h
theorem Sl.ext {st st' : St} {xs : List α} {s : Value} {L : List Nat} (h : Sl st xs s L) (hx : Ext st st') : Sl st' xs s L := h.frame (.ext hx h.lt)
theorem Sl.other {st st' : St} {xs : List α} {s : Value} {L K : List Nat} (h : Sl st xs s L) (hot : ∀ i, i < st.length → i ∉ K → st'[i]? = st[i]?) (hd : ∀ i ∈ L, i ∉ K) : Sl st' xs s L := h.frame fun i hi => hot i (h.lt i hi) (hd i hi)
theorem Sl.apart {st : St} {xs : List α} {s : Value} {L K : List Nat} (h : Sl st xs s L) (hf : Fresh st.length K) : ∀ i ∈ L, i ∉ K := fun i hi hk => by
  have h1 := h.lt i hi
  have h2 := hf.2 i hk
  omega
theorem Sl.nil (st : St) : Sl (α := α) st [] (.slice none 0 0) [] := .inl ⟨rfl, rfl, rfl⟩
theorem own_ext {st st' : St} {x : α} {cs : List Value} {L : List Nat} (h : Kind.own st x cs L) (hx : Ext st st') : Kind.own st' x cs L := Kind.own_frame _ _ _ _ _ (.ext hx (Kind.own_lt _ _ _ _ h)) h
/-- A slice of no elements that is not nil. -/
theorem Sl.empty (st : St) : Sl (α := α) (st ++ [⟨[], Kind.e α, 0⟩]) [] (.slice (some ⟨st.length, 0, none⟩) 0 0) [st.length] := .inr ⟨st.length, 0, [], [], rfl, by simp, .nil, rfl⟩

/-- An element is put behind a row of one's own. -/
theorem Sl.step {P : Program} {t : TypeId} {by_ sz' n0 : Nat} {z : List Value} {st st2 : St} {xs : List α} {s : Value} {L : List Nat} {x : α} {cx : List Value} {Lx : List Nat}
    (hu : P.underlying t = some (.slice (Kind.e α))) (hs : szA P (Kind.e α) = some (sz' + 1)) (hz' : Kind.sz α = sz' + 1) (hb : bytA P (Kind.e α) = some by_) (hz : zeroA P (Kind.e α) = some z) (hzl : z.length = sz' + 1)
    (h : Sl st xs s L) (hf : Fresh n0 L) (hn0 : n0 ≤ st.length) (hext : Ext st st2) (hx : Kind.own st2 x cx Lx) (hfx : Fresh st.length Lx) (hbd : (xs.length + 1) * by_ ≤ 2 ^ 46) (hbn : xs.length + 1 ≤ 2 ^ 46) :
    ∃ s' st' L', appendA P t t s (.slice (some ⟨st2.length, 0, none⟩) 1 1) (st2 ++ [⟨cx, Kind.e α, 0⟩]) = some (s', st') ∧ Sl st' (xs ++ [x]) s' L' ∧ Fresh n0 L' ∧ st2.length ≤ st'.length ∧ (∀ i, i < n0 → st'[i]? = st2[i]?) :=
  SliceO.step (E := Kind.own) (fun st st' x cs L => Kind.own_frame st st' x cs L) (fun st x cs L => Kind.own_lt st x cs L) (sz := sz') (fun st x cs L h => (Kind.own_len st x cs L h).trans hz') hu hs hb hz hzl h hf hn0 hext hx hfx hbd hbn
end

/-! Marks. -/
/-- How the elements of a row of a kind are marked. -/
class Marks (α : Type) extends Kind α where
  mk1 : α → Nat → α × Nat
  mk1_ge : ∀ x k, k ≤ (mk1 x k).2
section
variable {α : Type} [Marks α]
def mkL : List α → Nat → List α × Nat
  | [], k => ([], k)
  | x :: xs, k => ((Marks.mk1 x k).1 :: (mkL xs (Marks.mk1 x k).2).1, (mkL xs (Marks.mk1 x k).2).2)
theorem mkL_len (xs : List α) (k : Nat) : (mkL xs k).1.length = xs.length := by
  induction xs generalizing k with
  | nil => rfl
  | cons x xs ih => simp only [mkL, List.length_cons, ih]
theorem mkL_app (xs ys : List α) (k : Nat) : mkL (xs ++ ys) k = ((mkL xs k).1 ++ (mkL ys (mkL xs k).2).1, (mkL ys (mkL xs k).2).2) := by
  induction xs generalizing k with
  | nil => rfl
  | cons x xs ih => simp only [List.cons_append, mkL, ih]
theorem mkL_ge (l : List α) (k : Nat) : k ≤ (mkL l k).2 := by
  induction l generalizing k with
  | nil => exact Nat.le_refl _
  | cons x xs ih => simp only [mkL]; have h1 := Marks.mk1_ge x k; have h2 := ih (Marks.mk1 x k).2; omega
theorem mkL_snoc {xs : List α} {j : Nat} (hj : j < xs.length) (k : Nat) : mkL (xs.take (j + 1)) k = ((mkL (xs.take j) k).1 ++ [(Marks.mk1 xs[j] (mkL (xs.take j) k).2).1], (Marks.mk1 xs[j] (mkL (xs.take j) k).2).2) := by
  rw [List.take_succ_eq_append_getElem hj, mkL_app]; rfl
theorem mkL_at {xs : List α} {j : Nat} (hj : j < xs.length) (k : Nat) : (mkL xs k).1[j]? = some (Marks.mk1 xs[j] (mkL (xs.take j) k).2).1 ∧ (Marks.mk1 xs[j] (mkL (xs.take j) k).2).2 ≤ (mkL xs k).2 := by
  have hdr : xs.drop j = xs[j] :: xs.drop (j + 1) := List.drop_eq_getElem_cons hj
  have hml : (mkL (xs.take j) k).1.length = j := by rw [mkL_len]; simp; omega
  have hap := mkL_app (xs.take j) (xs.drop j) k
  rw [List.take_append_drop, hdr] at hap
  rw [hap]
  refine ⟨?_, ?_⟩
  · simp only
    rw [List.getElem?_append_right (by omega), hml, Nat.sub_self]; rfl
  · simp only [mkL]
    exact mkL_ge _ _

/-- A row that is being marked, j of its elements done. -/
structure MarkSt (xs : List α) (k : Nat) (st : St) (s : Value) (L : List Nat) (j : Nat) (st' : St) : Prop where
  sl : Sl st' ((mkL (xs.take j) k).1 ++ xs.drop j) s L
  le : st.length ≤ st'.length
  oth : ∀ i, i < st.length → i ∉ L → st'[i]? = st[i]?

theorem MarkSt.start {xs : List α} {k : Nat} {st : St} {s : Value} {L : List Nat} (h : Sl st xs s L) : MarkSt xs k st s L 0 st := ⟨by simpa [mkL] using h, Nat.le_refl _, fun _ _ _ => rfl⟩
theorem MarkSt.stop {xs : List α} {k : Nat} {st st' : St} {s : Value} {L : List Nat} (h : MarkSt xs k st s L xs.length st') : Sl st' (mkL xs k).1 s L := by
  have := h.sl
  rw [List.take_length] at this
  simpa using this
theorem MarkSt.len {xs : List α} {k : Nat} {st st' : St} {s : Value} {L : List Nat} {j : Nat} (h : MarkSt xs k st s L j st') (hj : j ≤ xs.length) {P : Program} {t e : TypeId} (hu : P.underlying t = some (.slice e)) : lenE P t s = some (.int .i64 xs.length) := by
  have := row_len h.sl.row hu
  rw [this]; simp [mkL_len]; omega
/-- The element that comes next, and what stands about it. -/
theorem MarkSt.open {xs : List α} {k : Nat} {st st' : St} {s : Value} {L : List Nat} {j : Nat} (h : MarkSt xs k st s L j st') (hnd : L.Nodup) (hj : j < xs.length) :
    ∃ i c c1 cx c2 L1 Lx L2, s = .slice (some ⟨i, 0, none⟩) xs.length c ∧ L = i :: (L1 ++ Lx ++ L2) ∧ st'[i]? = some ⟨c1 ++ cx ++ c2, Kind.e α, 0⟩ ∧ c1.length = j * Kind.sz α ∧ Kind.own st' xs[j] cx Lx ∧ Lx.Nodup ∧ i ∉ Lx ∧ i < st'.length ∧
      (∀ (st2 : St) (cx' : List Value), st2[i]? = some ⟨c1 ++ cx' ++ c2, Kind.e α, 0⟩ → st'.length ≤ st2.length → Kind.own st2 (Marks.mk1 xs[j] (mkL (xs.take j) k).2).1 cx' Lx → (∀ q, q < st'.length → q ≠ i → q ∉ Lx → st2[q]? = st'[q]?) → MarkSt xs k st s L (j + 1) st2) := by
  have hml : (mkL (xs.take j) k).1.length = j := by rw [mkL_len]; simp; omega
  have hdr : xs.drop j = xs[j] :: xs.drop (j + 1) := List.drop_eq_getElem_cons hj
  have hat : ((mkL (xs.take j) k).1 ++ xs.drop j)[j]? = some xs[j] := by
    rw [List.getElem?_append_right (by omega), hml, Nat.sub_self, hdr]; rfl
  have hl2 : (((mkL (xs.take j) k).1 ++ xs.drop j)).length = xs.length := by simp [hml]; omega
  have hd2 : ((mkL (xs.take j) k).1 ++ xs.drop j).drop (j + 1) = xs.drop (j + 1) := by
    rw [List.drop_append, hml, Nat.add_sub_cancel_left, List.drop_eq_nil_of_le (by omega), hdr]; rfl
  have hsl := h.sl
  have hlt := hsl.lt
  rcases hsl with ⟨rfl, h0, rfl⟩ | ⟨i, c, cs, K, rfl, hb, hr, rfl⟩
  · rw [h0] at hat; simp at hat
  obtain ⟨c1, cx, c2, L1, Lx, L2, h1, h2, h3, rfl, rfl⟩ := hr.split j _ hat
  have hcl := h1.len (Kind.own_len st')
  rw [List.take_left' hml] at h1
  rw [hd2] at h3
  obtain ⟨hi0, hnd1⟩ := List.nodup_cons.1 hnd
  obtain ⟨hnd2, hnd3, hnd4⟩ := List.nodup_append.1 hnd1
  obtain ⟨hnd5, hnd6, hnd7⟩ := List.nodup_append.1 hnd2
  refine ⟨i, c, c1, cx, c2, L1, Lx, L2, by rw [hl2], rfl, hb, by rw [hcl, List.length_take, hl2, Nat.min_eq_left (by omega)], h2, hnd6, fun hh => hi0 (by simp [hh]), (List.getElem?_eq_some_iff.1 hb).1, fun st2 cx' hb2 hle2 hown hot => ⟨?_, Nat.le_trans h.le hle2, fun q h1 h2 => ?_⟩⟩
  · have hs1 : SameOn L1 st' st2 := fun q hq => hot q (hlt q (by simp [hq])) (fun e => hi0 (by simp [← e, hq])) (fun hh => hnd7 q hq q hh rfl)
    have hs2 : SameOn L2 st' st2 := fun q hq => hot q (hlt q (by simp [hq])) (fun e => hi0 (by simp [← e, hq])) (fun hh => hnd4 q (by simp [hh]) q hq rfl)
    have g1 := h1.mono (E' := Kind.own st2) fun x _ cx Lx hL he => Kind.own_frame _ _ x cx Lx (fun q hq => hs1 q (hL q hq)) he
    have g3 := h3.mono (E' := Kind.own st2) fun x _ cx Lx hL he => Kind.own_frame _ _ x cx Lx (fun q hq => hs2 q (hL q hq)) he
    rw [mkL_snoc hj]
    refine .inr ⟨i, c, _, L1 ++ Lx ++ L2, ?_, hb2, ?_, rfl⟩
    · rw [hl2]; simp [hml]; omega
    · exact (g1.app (RowO.one hown)).app g3
  · rw [hot q (by have := h.le; omega) (fun e => h2 (by simp [e])) (fun hh => h2 (by simp [hh])), h.oth q h1 h2]
end
end Go.Proofs.YtibcegfhllkdgaaDoor.AM
