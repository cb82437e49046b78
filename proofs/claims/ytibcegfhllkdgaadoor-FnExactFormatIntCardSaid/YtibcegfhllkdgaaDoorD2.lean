/- Data that is one's own: rows of blocks that no one else holds; how they are built. -/
import Derived.Test.YtibcegfhllkdgaaDoorD1
namespace Go.Proofs.YtibcegfhllkdgaaDoor.AM
open Go
set_option linter.unusedVariables false
set_option linter.unusedSimpArgs false

inductive RowO {α : Type} (E : α → List Value → List Nat → Prop) : List α → List Value → List Nat → Prop
  | nil : RowO E [] [] []
  | cons (x : α) (xs : List α) (cx cs : List Value) (Lx L : List Nat) (h : E x cx Lx) (hs : RowO E xs cs L) : RowO E (x :: xs) (cx ++ cs) (Lx ++ L)

theorem RowO.app {α : Type} {E : α → List Value → List Nat → Prop} {xs ys : List α} {cs ds : List Value} {L K : List Nat} (h : RowO E xs cs L) (k : RowO E ys ds K) : RowO E (xs ++ ys) (cs ++ ds) (L ++ K) := by
  induction h with
  | nil => exact k
  | cons x xs cx cs Lx L h hs ih => rw [List.append_assoc, List.append_assoc]; exact .cons x _ cx _ Lx _ h ih
theorem RowO.one {α : Type} {E : α → List Value → List Nat → Prop} {x : α} {cx : List Value} {Lx : List Nat} (h : E x cx Lx) : RowO E [x] cx Lx := by
  have := RowO.cons x [] cx [] Lx [] h .nil
  simpa using this
theorem RowO.len {α : Type} {E : α → List Value → List Nat → Prop} {sz : Nat} (hE : ∀ x cx Lx, E x cx Lx → cx.length = sz) {xs : List α} {cs : List Value} {L : List Nat} (h : RowO E xs cs L) : cs.length = xs.length * sz := by
  induction h with
  | nil => simp
  | cons x xs cx cs Lx L h hs ih => rw [List.length_append, hE _ _ _ h, ih, List.length_cons, Nat.add_mul]; omega
theorem RowO.mono {α : Type} {E E' : α → List Value → List Nat → Prop} {xs : List α} {cs : List Value} {L : List Nat} (h : RowO E xs cs L) (hE : ∀ x ∈ xs, ∀ cx Lx, (∀ i ∈ Lx, i ∈ L) → E x cx Lx → E' x cx Lx) : RowO E' xs cs L := by
  induction h with
  | nil => exact .nil
  | cons x xs cx cs Lx L h hs ih =>
    exact .cons x xs cx cs Lx L (hE x (by simp) cx Lx (fun i hi => by simp [hi]) h) (ih fun y hy cy Ly hL he => hE y (by simp [hy]) cy Ly (fun i hi => by simp [hL i hi]) he)
theorem RowO.get {α : Type} {E : α → List Value → List Nat → Prop} {sz : Nat} (hE : ∀ x cx Lx, E x cx Lx → cx.length = sz) {xs : List α} {cs : List Value} {L : List Nat} (h : RowO E xs cs L) :
    ∀ (j : Nat) x, xs[j]? = some x → ∃ cx Lx, E x cx Lx ∧ (∀ i ∈ Lx, i ∈ L) ∧ ∀ (q : Nat) v, cx[q]? = some v → cs[j * sz + q]? = some v := by
  induction h with
  | nil => intro j x hx; simp at hx
  | cons y xs cy cs Ly L h hs ih =>
    intro j x hx
    have hl := hE _ _ _ h
    cases j with
    | zero =>
      simp only [List.getElem?_cons_zero, Option.some.injEq] at hx
      subst hx
      refine ⟨cy, Ly, h, fun i hi => by simp [hi], fun q v hq => ?_⟩
      have : q < cy.length := (List.getElem?_eq_some_iff.1 hq).1
      rw [Nat.zero_mul, Nat.zero_add, List.getElem?_append_left this]; exact hq
    | succ j =>
      obtain ⟨cx, Lx, h1, h2, h3⟩ := ih j x (by simpa using hx)
      refine ⟨cx, Lx, h1, fun i hi => by simp [h2 i hi], fun q v hq => ?_⟩
      rw [List.getElem?_append_right (by rw [hl, Nat.succ_mul]; omega)]
      have e : (j + 1) * sz + q - cy.length = j * sz + q := by rw [hl, Nat.succ_mul]; omega
      rw [e]; exact h3 q v hq
/-- What stands before, at and behind a place. -/
theorem RowO.split {α : Type} {E : α → List Value → List Nat → Prop} {xs : List α} {cs : List Value} {L : List Nat} (h : RowO E xs cs L) : ∀ (j : Nat) x, xs[j]? = some x →
    ∃ c1 cx c2 L1 Lx L2, RowO E (xs.take j) c1 L1 ∧ E x cx Lx ∧ RowO E (xs.drop (j + 1)) c2 L2 ∧ cs = c1 ++ cx ++ c2 ∧ L = L1 ++ Lx ++ L2 := by
  induction h with
  | nil => intro j x hx; simp at hx
  | cons y xs cy cs Ly L h hs ih =>
    intro j x hx
    cases j with
    | zero =>
      simp only [List.getElem?_cons_zero, Option.some.injEq] at hx
      subst hx
      exact ⟨[], cy, cs, [], Ly, L, .nil, h, by simpa using hs, by simp, by simp⟩
    | succ j =>
      obtain ⟨c1, cx, c2, L1, Lx, L2, h1, h2, h3, h4, h5⟩ := ih j x (by simpa using hx)
      refine ⟨cy ++ c1, cx, c2, Ly ++ L1, Lx, L2, ?_, h2, by simpa using h3, by rw [h4]; simp, by rw [h5]; simp⟩
      rw [List.take_succ_cons]
      exact .cons y _ cy c1 Ly L1 h h1

/-- A slice that lies in a block of its own. -/
def SliceO {α : Type} (E : α → List Value → List Nat → Prop) (e : TypeId) (st : St) (xs : List α) (s : Value) (L : List Nat) : Prop :=
  (s = .slice none 0 0 ∧ xs = [] ∧ L = []) ∨ ∃ i c cs K, s = .slice (some ⟨i, 0, none⟩) xs.length c ∧ st[i]? = some ⟨cs, e, 0⟩ ∧ RowO E xs cs K ∧ L = i :: K

theorem SliceO.okv {α : Type} {E : α → List Value → List Nat → Prop} {e : TypeId} {st : St} {xs : List α} {s : Value} {L : List Nat} (h : SliceO E e st xs s L) : AM.okv s = true := by
  rcases h with ⟨rfl, _⟩ | ⟨i, c, cs, K, rfl, _⟩ <;> rfl
theorem SliceO.loc {α : Type} {E : α → List Value → List Nat → Prop} {e : TypeId} {st : St} {xs : List α} {s : Value} {L : List Nat} (h : SliceO E e st xs s L) : isLoc s = false := by
  rcases h with ⟨rfl, _⟩ | ⟨i, c, cs, K, rfl, _⟩ <;> rfl
theorem SliceO.cells {α : Type} {E : α → List Value → List Nat → Prop} {e : TypeId} {st : St} {xs : List α} {s : Value} {L : List Nat} (h : SliceO E e st xs s L) : vc s = #[s] := by
  rcases h with ⟨rfl, _⟩ | ⟨i, c, cs, K, rfl, _⟩ <;> rfl

inductive Own (e : TypeId) (st : St) : T → List Value → List Nat → Prop
  | nil (k n : Int) (nm : ByteArray) : Own e st (.mk k n nm []) [.int .i64 k, .int .i64 n, .string nm, .slice none 0 0] []
  | sl (k n : Int) (nm : ByteArray) (args : List T) (i c : Nat) (cs : List Value) (K : List Nat) (hb : st[i]? = some ⟨cs, e, 0⟩) (h : RowO (Own e st) args cs K) :
      Own e st (.mk k n nm args) [.int .i64 k, .int .i64 n, .string nm, .slice (some ⟨i, 0, none⟩) args.length c] (i :: K)

theorem Own.open {e : TypeId} {st : St} {k n : Int} {nm : ByteArray} {args : List T} {cs : List Value} {L : List Nat} (h : Own e st (.mk k n nm args) cs L) : ∃ s, cs = [.int .i64 k, .int .i64 n, .string nm, s] ∧ SliceO (Own e st) e st args s L := by
  cases h with
  | nil => exact ⟨_, rfl, .inl ⟨rfl, rfl, rfl⟩⟩
  | sl _ _ _ _ i c cs K hb h => exact ⟨_, rfl, .inr ⟨i, c, cs, K, rfl, hb, h, rfl⟩⟩
theorem Own.close {e : TypeId} {st : St} (k n : Int) (nm : ByteArray) {args : List T} {s : Value} {L : List Nat} (h : SliceO (Own e st) e st args s L) : Own e st (.mk k n nm args) [.int .i64 k, .int .i64 n, .string nm, s] L := by
  rcases h with ⟨rfl, rfl, rfl⟩ | ⟨i, c, cs, K, rfl, hb, h, rfl⟩
  · exact .nil k n nm
  · exact .sl k n nm args i c cs K hb h
theorem Own.len {e : TypeId} {st : St} : ∀ x cx Lx, Own e st x cx Lx → cx.length = 4 := by
  intro x cx Lx h
  cases h <;> rfl

/-- What happens elsewhere. -/
def SameOn (L : List Nat) (st st' : St) : Prop := ∀ i ∈ L, st'[i]? = st[i]?
theorem Own.frame {e : TypeId} {st st' : St} : ∀ (t : T) (cs : List Value) (L : List Nat), SameOn L st st' → Own e st t cs L → Own e st' t cs L := by
  refine T.ind fun k n nm args ih cs L hs h => ?_
  obtain ⟨s, rfl, hr⟩ := h.open
  refine Own.close k n nm ?_
  rcases hr with hr | ⟨i, c, cs, K, rfl, hb, hr, rfl⟩
  · exact .inl hr
  · exact .inr ⟨i, c, cs, K, rfl, (hs i (by simp)).trans hb, hr.mono fun x hx cx Lx hL he => ih x hx cx Lx (fun j hj => hs j (by simp [hL j hj])) he, rfl⟩
theorem SliceO.frame {α : Type} {E : St → α → List Value → List Nat → Prop} (hE : ∀ (st st' : St) x cx Lx, SameOn Lx st st' → E st x cx Lx → E st' x cx Lx) {e : TypeId} {st st' : St} {xs : List α} {s : Value} {L : List Nat} (hs : SameOn L st st') (h : SliceO (E st) e st xs s L) : SliceO (E st') e st' xs s L := by
  rcases h with h | ⟨i, c, cs, K, rfl, hb, hr, rfl⟩
  · exact .inl h
  · exact .inr ⟨i, c, cs, K, rfl, (hs i (by simp)).trans hb, hr.mono fun x hx cx Lx hL he => hE _ _ x cx Lx (fun j hj => hs j (by simp [hL j hj])) he, rfl⟩
theorem SliceO.lt {α : Type} {E : α → List Value → List Nat → Prop} {e : TypeId} {st : St} {xs : List α} {s : Value} {L : List Nat} (hE : ∀ x cx Lx, E x cx Lx → ∀ i ∈ Lx, i < st.length) (h : SliceO E e st xs s L) : ∀ i ∈ L, i < st.length := by
  rcases h with ⟨_, _, rfl⟩ | ⟨i, c, cs, K, rfl, hb, hr, rfl⟩
  · intro i hi; cases hi
  · intro j hj
    cases hj with
    | head => exact (List.getElem?_eq_some_iff.1 hb).1
    | tail _ hj =>
      clear hb
      induction hr with
      | nil => cases hj
      | cons x xs cx cs Lx L h hs ih =>
        rcases List.mem_append.1 hj with hj | hj
        · exact hE x cx Lx h j hj
        · exact ih hj
theorem Own.lt {e : TypeId} {st : St} : ∀ (t : T) (cs : List Value) (L : List Nat), Own e st t cs L → ∀ i ∈ L, i < st.length := by
  refine T.ind fun k n nm args ih cs L h => ?_
  obtain ⟨s, rfl, hr⟩ := h.open
  rcases hr with ⟨_, _, rfl⟩ | ⟨i, c, cs, K, rfl, hb, hr, rfl⟩
  · intro i hi; cases hi
  · intro j hj
    cases hj with
    | head => exact (List.getElem?_eq_some_iff.1 hb).1
    | tail _ hj =>
      clear hb h
      induction hr with
      | nil => cases hj
      | cons x xs cx cs Lx L h hs ih2 =>
        rcases List.mem_append.1 hj with hj | hj
        · exact ih x (by simp) cx Lx h j hj
        · exact ih2 (fun y hy => ih y (by simp [hy])) hj

theorem cell_of {st : St} {i : Nat} {cs : List Value} {e : TypeId} {q : Nat} (hb : st[i]? = some ⟨cs, e, 0⟩) : cell st i q = cs[q]? := by
  unfold cell; rw [hb]; rfl
theorem SliceO.row {α : Type} {E : α → List Value → List Nat → Prop} {E' : α → List Value → Prop} {sz : Nat} {e : TypeId} {st : St} {xs : List α} {s : Value} {L : List Nat} (hl : ∀ x cx Lx, E x cx Lx → cx.length = sz) (hE : ∀ x ∈ xs, ∀ cx Lx, E x cx Lx → E' x cx) (h : SliceO E e st xs s L) : Row E' sz st xs s := by
  rcases h with ⟨rfl, rfl, _⟩ | ⟨i, c, cs, K, rfl, hb, hr, rfl⟩
  · exact .inl ⟨.inl rfl, rfl⟩
  · refine .inr ⟨i, 0, c, rfl, fun j x hx => ?_⟩
    obtain ⟨cx, Lx, h1, _, h3⟩ := hr.get hl j x hx
    exact ⟨cx, hl _ _ _ h1, hE x (List.mem_of_getElem? hx) cx Lx h1, fun q v hq => by rw [cell_of hb, Nat.zero_add]; exact h3 q v hq⟩
theorem Own.enc {e : TypeId} {st : St} : ∀ (t : T) (cs : List Value) (L : List Nat), Own e st t cs L → Enc st t cs := by
  refine T.ind fun k n nm args ih cs L h => ?_
  obtain ⟨s, rfl, hr⟩ := h.open
  exact Enc.close k n nm (hr.row Own.len fun x hx cx Lx he => ih x hx cx Lx he)

/-- New since n. -/
def Fresh (n : Nat) (L : List Nat) : Prop := L.Nodup ∧ ∀ i ∈ L, n ≤ i

theorem appendA_nil {P : Program} {t e : TypeId} {sz by_ n : Nat} {z cs : List Value} {x : Value} {st : St} (he : elemA P t = some e) (hs : szA P e = some (sz + 1)) (hb : bytA P e = some by_) (hz : zeroA P e = some z) (hzl : z.length = sz + 1)
    {u : TypeId} (hn : newsA P u (sz + 1) x st = some (n, cs)) (h0 : n ≠ 0) (hbd : n * by_ ≤ 2 ^ 46) (hbn : n ≤ 2 ^ 46) : appendA P t u (.slice none 0 0) x st = some (.slice (some ⟨st.length, 0, none⟩) n n, st ++ [⟨cs, e, 0⟩]) := by
  unfold appendA
  simp only [he, hs, hb, hz, hn, hzl, if_true, h0, if_false, hbd, hbn, and_self]
theorem appendA_to {P : Program} {t e : TypeId} {sz by_ n i len c : Nat} {z cs ds : List Value} {x : Value} {st : St} (he : elemA P t = some e) (hs : szA P e = some (sz + 1)) (hb : bytA P e = some by_) (hz : zeroA P e = some z) (hzl : z.length = sz + 1)
    {u : TypeId} (hn : newsA P u (sz + 1) x st = some (n, cs)) (h0 : n ≠ 0) (hi : st[i]? = some ⟨ds, e, 0⟩) (hl : ds.length = len * (sz + 1)) (hbd : (len + n) * by_ ≤ 2 ^ 46) (hbn : len + n ≤ 2 ^ 46) :
    appendA P t u (.slice (some ⟨i, 0, none⟩) len c) x st = some (.slice (some ⟨st.length, 0, none⟩) (len + n) (len + n), st.set i ⟨ds, e, 2⟩ ++ [⟨ds ++ cs, e, 0⟩]) := by
  unfold appendA
  have ht : ds.take (len * (sz + 1)) = ds := List.take_of_length_le (by omega)
  simp only [he, hs, hb, hz, hn, hzl, if_true, h0, if_false, hi, hl, hbd, hbn, Nat.le_refl, and_self, ht]
theorem newsA_one {P : Program} {u e : TypeId} {sz i c : Nat} {cs : List Value} {st : St} (hu : P.underlying u = some (.slice e)) (hi : st[i]? = some ⟨cs, e, 0⟩) (hl : cs.length = sz) : newsA P u sz (.slice (some ⟨i, 0, none⟩) 1 c) st = some (1, cs) := by
  unfold newsA
  simp only [hu, Nat.one_mul]
  rw [cellsFrom_of (f := cell st i) hl fun j v hj => by rw [cell_of hi, Nat.zero_add]; exact hj]
  rfl

/-- An element is put behind a row of one's own. -/
theorem SliceO.step {α : Type} {E : St → α → List Value → List Nat → Prop} (hE : ∀ (st st' : St) x cx Lx, SameOn Lx st st' → E st x cx Lx → E st' x cx Lx) (hlt : ∀ (st : St) x cx Lx, E st x cx Lx → ∀ i ∈ Lx, i < st.length)
    {P : Program} {t e : TypeId} {sz by_ n0 : Nat} (hl : ∀ st x cx Lx, E st x cx Lx → cx.length = sz + 1) {z : List Value} {st st2 : St} {xs : List α} {s : Value} {L : List Nat} {x : α} {cx : List Value} {Lx : List Nat}
    (hu : P.underlying t = some (.slice e)) (hs : szA P e = some (sz + 1)) (hb : bytA P e = some by_) (hz : zeroA P e = some z) (hzl : z.length = sz + 1)
    (h : SliceO (E st) e st xs s L) (hf : Fresh n0 L) (hn0 : n0 ≤ st.length) (hext : Ext st st2) (hx : E st2 x cx Lx) (hfx : Fresh st.length Lx) (hbd : (xs.length + 1) * by_ ≤ 2 ^ 46) (hbn : xs.length + 1 ≤ 2 ^ 46) :
    ∃ s' st' L', appendA P t t s (.slice (some ⟨st2.length, 0, none⟩) 1 1) (st2 ++ [⟨cx, e, 0⟩]) = some (s', st') ∧ SliceO (E st') e st' (xs ++ [x]) s' L' ∧ Fresh n0 L' ∧ st2.length ≤ st'.length ∧ (∀ i, i < n0 → st'[i]? = st2[i]?) := by
  have he : elemA P t = some e := by unfold elemA; rw [hu]
  have hlen : st.length ≤ st2.length := by
    rcases Nat.lt_or_ge st2.length st.length with h | h
    · have h1 : st[st2.length]? = some st[st2.length] := List.getElem?_eq_getElem h
      have h2 := hext _ _ h1
      have := (List.getElem?_eq_some_iff.1 h2).1
      omega
    · exact h
  have hnew : (st2 ++ [(⟨cx, e, 0⟩ : Blk)])[st2.length]? = some ⟨cx, e, 0⟩ := by simp
  have hn := newsA_one (P := P) (u := t) (sz := sz + 1) (c := 1) hu hnew (hl _ _ _ _ hx)
  have hxlt := hlt _ _ _ _ hx
  rcases h with ⟨rfl, rfl, rfl⟩ | ⟨i, c, cs, K, rfl, hbk, hr, rfl⟩
  · refine ⟨_, _, (st2.length + 1) :: Lx, appendA_nil he hs hb hz hzl hn (by omega) (by simpa using hbd) (by omega), .inr ⟨st2.length + 1, 1, cx, Lx, by simp, by simp, ?_, rfl⟩, ⟨List.nodup_cons.2 ⟨fun hm => by have := hxlt _ hm; omega, hfx.1⟩, fun j hj => ?_⟩, by simp, fun j hj => ?_⟩
    · refine RowO.one (hE st2 _ x cx Lx (fun j hj => ?_) hx)
      have := hxlt j hj
      rw [List.getElem?_append_left (by simp; omega), List.getElem?_append_left this]
    · cases hj with
      | head => omega
      | tail _ hj => have := hfx.2 j hj; omega
    · rw [List.getElem?_append_left (by simp; omega), List.getElem?_append_left (by omega)]
  · have hi : i < st.length := (List.getElem?_eq_some_iff.1 hbk).1
    have hbk2 : (st2 ++ [(⟨cx, e, 0⟩ : Blk)])[i]? = some ⟨cs, e, 0⟩ := by rw [List.getElem?_append_left (by omega)]; exact hext _ _ hbk
    have hrl := hr.len (hl st)
    have hap := appendA_to (c := c) he hs hb hz hzl hn (by omega) hbk2 hrl hbd hbn
    have hK := SliceO.lt (E := E st) (e := e) (st := st) (xs := xs) (s := .slice (some ⟨i, 0, none⟩) xs.length c) (L := i :: K) (fun x cx Lx h => hlt st x cx Lx h) (.inr ⟨i, c, cs, K, rfl, hbk, hr, rfl⟩)
    have hiK : i ∉ K := (List.nodup_cons.1 hf.1).1
    have hst' : ((st2 ++ [(⟨cx, e, 0⟩ : Blk)]).set i ⟨cs, e, 2⟩ ++ [(⟨cs ++ cx, e, 0⟩ : Blk)]).length = st2.length + 2 := by simp
    have get : ∀ j, j ≠ i → j < st2.length → ((st2 ++ [(⟨cx, e, 0⟩ : Blk)]).set i ⟨cs, e, 2⟩ ++ [(⟨cs ++ cx, e, 0⟩ : Blk)])[j]? = st2[j]? := by
      intro j hj hlt
      rw [List.getElem?_append_left (by simp; omega), List.getElem?_set, if_neg (Ne.symm hj), List.getElem?_append_left hlt]
    refine ⟨_, _, (st2.length + 1) :: (K ++ Lx), hap, .inr ⟨st2.length + 1, xs.length + 1, cs ++ cx, K ++ Lx, by simp, ?_, ?_, rfl⟩, ⟨List.nodup_cons.2 ⟨fun hm => ?_, List.nodup_append.2 ⟨(List.nodup_cons.1 hf.1).2, hfx.1, fun a ha b hb' e' => ?_⟩⟩, fun j hj => ?_⟩, by simp; omega, fun j hj => ?_⟩
    · have : ((st2 ++ [(⟨cx, e, 0⟩ : Blk)]).set i ⟨cs, e, 2⟩).length = st2.length + 1 := by simp
      rw [← this]; simp
    · refine (hr.mono fun y hy cy Ly hL he' => ?_).app (RowO.one (hE st2 _ x cx Lx (fun j hj => ?_) hx))
      · refine hE st _ y cy Ly (fun j hj => ?_) he'
        have hjK := hL j hj
        have hjl := hK j (by simp [hjK])
        have hji : j ≠ i := fun e' => hiK (e' ▸ hjK)
        rw [get j hji (by omega)]
        have h1 : st[j]? = some st[j] := List.getElem?_eq_getElem hjl
        rw [h1, hext _ _ h1]
      · have h1 := hxlt j hj
        have h2 := hfx.2 j hj
        exact get j (by omega) h1
    · rcases List.mem_append.1 hm with hm | hm
      · have := hK _ (List.mem_cons_of_mem _ hm); omega
      · have := hxlt _ hm; omega
    · subst e'
      have h1 := hK a (by simp [ha])
      have h2 := hfx.2 a hb'
      omega
    · cases hj with
      | head => omega
      | tail _ hj =>
        rcases List.mem_append.1 hj with hj | hj
        · exact hf.2 j (by simp [hj])
        · have := hfx.2 j hj; omega
    · have h1 := hf.2 i (by simp)
      exact get j (by omega) (by omega)

end Go.Proofs.YtibcegfhllkdgaaDoor.AM
