/- Rows put behind rows. -/
import Derived.Test.YtibcegfhllkdgaaDoorD6
namespace Go.Proofs.YtibcegfhllkdgaaDoor.AM
open Go
set_option linter.unusedVariables false
set_option linter.unusedSimpArgs false

/-- What reads, and is no one's. -/
def Shr {α : Type} (E : α → List Value → Prop) : α → List Value → List Nat → Prop := fun x cx Lx => E x cx ∧ Lx = []
theorem RowO.nilL {α : Type} {E : α → List Value → Prop} {xs : List α} {cs : List Value} {L : List Nat} (h : RowO (Shr E) xs cs L) : L = [] := by
  induction h with
  | nil => rfl
  | cons x xs cx cs Lx L h hs ih => rw [h.2, ih]; rfl
theorem RowO.take {α : Type} {E : α → List Value → List Nat → Prop} {sz : Nat} (hE : ∀ x cx Lx, E x cx Lx → cx.length = sz) {xs : List α} {cs : List Value} {L : List Nat} (h : RowO E xs cs L) : cs.length = xs.length * sz := h.len hE

theorem cellsFrom_app {f : Nat → Option Value} : ∀ {m n o : Nat} {cs ds : List Value}, cellsFrom f o m = some cs → cellsFrom f (o + m) n = some ds → cellsFrom f o (m + n) = some (cs ++ ds) := by
  intro m n o cs ds h1 h2
  refine cellsFrom_of (by rw [List.length_append, cellsFrom_len h1, cellsFrom_len h2]) fun j v hj => ?_
  have hl := cellsFrom_len h1
  by_cases hlt : j < m
  · rw [List.getElem?_append_left (by omega)] at hj
    exact cellsFrom_get h1 j v hj
  · rw [List.getElem?_append_right (by omega), hl] at hj
    have := cellsFrom_get h2 (j - m) v hj
    rwa [show o + m + (j - m) = o + j by omega] at this

/-- The cells of a row. -/
theorem row_cells {α : Type} {E : α → List Value → Prop} {sz : Nat} {st : St} : ∀ {xs : List α} {i o : Nat}, (∀ (j : Nat) x, xs[j]? = some x → ∃ cs, cs.length = sz ∧ E x cs ∧ CellsAt st i (o + j * sz) cs) →
    ∃ cs, cellsFrom (cell st i) o (xs.length * sz) = some cs ∧ RowO (Shr E) xs cs [] := by
  intro xs
  induction xs with
  | nil => intro i o _; exact ⟨[], by simp [cellsFrom], .nil⟩
  | cons x xs ih =>
    intro i o h
    obtain ⟨c0, h1, h2, h3⟩ := h 0 x rfl
    obtain ⟨cs, h4, h5⟩ := ih (i := i) (o := o + sz) fun j y hy => by
      obtain ⟨c, g1, g2, g3⟩ := h (j + 1) y (by simpa using hy)
      exact ⟨c, g1, g2, by rwa [show o + (j + 1) * sz = o + sz + j * sz by rw [Nat.add_mul, Nat.one_mul]; omega] at g3⟩
    refine ⟨c0 ++ cs, ?_, ?_⟩
    · have e : (x :: xs).length * sz = sz + xs.length * sz := by rw [List.length_cons, Nat.add_mul, Nat.one_mul]; omega
      rw [e]
      refine cellsFrom_app (cellsFrom_of h1 fun j v hj => ?_) h4
      rw [Nat.zero_mul, Nat.add_zero] at h3
      exact h3 j v hj
    · have := RowO.cons x xs c0 cs [] [] (E := Shr E) ⟨h2, rfl⟩ h5
      simpa using this
theorem newsA_row {α : Type} {E : α → List Value → Prop} {sz : Nat} {st : St} {xs : List α} {s : Value} (h : Row E sz st xs s) {P : Program} {u e : TypeId} (hu : P.underlying u = some (.slice e)) : ∃ cs, newsA P u sz s st = some (xs.length, cs) ∧ RowO (Shr E) xs cs [] := by
  rcases h with ⟨rfl | rfl, rfl⟩ | ⟨i, o, c, rfl, h⟩
  · exact ⟨[], by unfold newsA; simp only [hu]; rfl, .nil⟩
  · exact ⟨[], by unfold newsA; simp only [hu]; rfl, .nil⟩
  · obtain ⟨cs, h1, h2⟩ := row_cells h
    refine ⟨cs, ?_, h2⟩
    unfold newsA
    simp only [hu]
    rw [h1]
    rfl

theorem RowO.lt {α : Type} {E : α → List Value → List Nat → Prop} {n : Nat} (hE : ∀ x cx Lx, E x cx Lx → ∀ i ∈ Lx, i < n) {xs : List α} {cs : List Value} {L : List Nat} (h : RowO E xs cs L) : ∀ i ∈ L, i < n := by
  induction h with
  | nil => intro i hi; cases hi
  | cons x xs cx cs Lx L h hs ih =>
    intro j hj
    rcases List.mem_append.1 hj with hj | hj
    · exact hE x cx Lx h j hj
    · exact ih j hj

/-- The block in which a slice lies. -/
def topId : Value → Option Nat
  | .slice (some ⟨b, _, none⟩) _ _ => some b
  | _ => none
/-- All that was there is there still, but for one block. -/
def Away (k : Option Nat) (st st' : St) : Prop := st.length ≤ st'.length ∧ ∀ i, i < st.length → k ≠ some i → st'[i]? = st[i]?
/-- A row grew: its old block alone has turned. -/
structure Grow (st : St) (s : Value) (st' : St) (s' : Value) : Prop where
  away : Away (topId s) st st'
  top : topId s' = topId s ∨ ∃ m, st.length ≤ m ∧ topId s' = some m
theorem Grow.refl (st : St) (s : Value) : Grow st s st s := ⟨⟨Nat.le_refl _, fun _ _ _ => rfl⟩, .inl rfl⟩
theorem Away.trans {k k' : Option Nat} {a b c : St} (h : Away k a b) (g : Away k' b c) (hk : k' = k ∨ ∃ m, a.length ≤ m ∧ k' = some m) : Away k a c := ⟨Nat.le_trans h.1 g.1, fun i hi hne => by
  rw [g.2 i (by have := h.1; omega) (fun e => ?_), h.2 i hi hne]
  rcases hk with rfl | ⟨m, hm, rfl⟩
  · exact hne e
  · cases e; omega⟩
theorem Grow.trans {a b c : St} {s s' s'' : Value} (h : Grow a s b s') (g : Grow b s' c s'') : Grow a s c s'' := ⟨h.away.trans g.away h.top, by
  rcases g.top with h1 | ⟨m, h1, h2⟩
  · rw [h1]; exact h.top
  · exact .inr ⟨m, Nat.le_trans h.away.1 h1, h2⟩⟩
theorem Grow.topOk {a b : St} {s s' : Value} {n : Nat} (h : Grow a s b s') (hs : topId s = none ∨ ∃ m, n ≤ m ∧ topId s = some m) (hn : n ≤ a.length) : topId s' = none ∨ ∃ m, n ≤ m ∧ topId s' = some m := by
  rcases h.top with h1 | ⟨m, h1, h2⟩
  · rw [h1]; exact hs
  · exact .inr ⟨m, by omega, h2⟩
theorem Away.of_ext {k : Option Nat} {a b : St} (h : Ext a b) : Away k a b := ⟨h.length, fun i hi _ => h.get hi⟩
theorem Grow.of_ext {a b : St} (h : Ext a b) (s : Value) : Grow a s b s := ⟨.of_ext h, .inl rfl⟩
theorem Away.ext {a b : St} (h : Away none a b) : Ext a b := Ext.of_get fun i hi => h.2 i hi (by simp)
theorem Away.ext_of {k : Option Nat} {a b c : St} (h : Away k b c) (hx : Ext a b) (hk : k = none ∨ ∃ m, a.length ≤ m ∧ k = some m) : Ext a c := Ext.of_get fun i hi => by
  rw [h.2 i (by have := hx.length; omega) (fun e => ?_), hx.get hi]
  rcases hk with rfl | ⟨m, hm, rfl⟩
  · cases e
  · cases e; omega

/-- A row is put behind a row of one's own. -/
theorem SliceO.app {α : Type} {E : St → α → List Value → List Nat → Prop} (hE : ∀ (st st' : St) x cx Lx, SameOn Lx st st' → E st x cx Lx → E st' x cx Lx) (hlt : ∀ (st : St) x cx Lx, E st x cx Lx → ∀ i ∈ Lx, i < st.length)
    {P : Program} {t u e : TypeId} {sz by_ n0 : Nat} (hl : ∀ st x cx Lx, E st x cx Lx → cx.length = sz + 1) {z : List Value} {st st2 : St} {xs ys : List α} {s y : Value} {L : List Nat} {cy : List Value} {K : List Nat}
    (hu : P.underlying t = some (.slice e)) (hs : szA P e = some (sz + 1)) (hb : bytA P e = some by_) (hz : zeroA P e = some z) (hzl : z.length = sz + 1)
    (h : SliceO (E st) e st xs s L) (hf : Fresh n0 L) (hn0 : n0 ≤ st.length) (hext : Ext st st2) (hn : newsA P u (sz + 1) y st2 = some (ys.length, cy)) (hx : RowO (E st2) ys cy K) (hfx : Fresh st.length K) (hbd : (xs.length + ys.length) * by_ ≤ 2 ^ 46) (hbn : xs.length + ys.length ≤ 2 ^ 46) :
    ∃ s' st' L', appendA P t u s y st2 = some (s', st') ∧ SliceO (E st') e st' (xs ++ ys) s' L' ∧ Fresh n0 L' ∧ Grow st2 s st' s' := by
  have he : elemA P t = some e := by unfold elemA; rw [hu]
  have hlen := hext.length
  by_cases h0 : ys = []
  · subst h0
    cases hx
    have hap : appendA P t u s y st2 = some (s, st2) := by
      unfold appendA
      simp only [he, hs, hb, hz, hn, hzl, if_true, List.length_nil]
      rcases h with ⟨rfl, _⟩ | ⟨i, c, cs, K, rfl, _⟩ <;> rfl
    refine ⟨s, st2, L, hap, ?_, hf, .refl _ _⟩
    rw [List.append_nil]
    exact h.frame hE (.ext hext (h.lt (hlt st)))
  have hy0 : ys.length ≠ 0 := fun e => h0 (List.eq_nil_of_length_eq_zero e)
  have hxlt := hx.lt (hlt st2)
  rcases h with ⟨rfl, rfl, rfl⟩ | ⟨i, c, cs, K1, rfl, hbk, hr, rfl⟩
  · refine ⟨_, _, st2.length :: K, appendA_nil he hs hb hz hzl hn hy0 (by simpa using hbd) (by simpa using hbn), .inr ⟨st2.length, ys.length, cy, K, rfl, by simp, ?_, rfl⟩, ⟨List.nodup_cons.2 ⟨fun hm => by have := hxlt _ hm; omega, hfx.1⟩, fun j hj => ?_⟩, ⟨⟨by simp, fun j hj _ => ?_⟩, .inr ⟨_, Nat.le_refl _, rfl⟩⟩⟩
    · exact hx.mono fun x _ cx Lx hL he' => hE st2 _ x cx Lx (fun j hj => by rw [List.getElem?_append_left (hxlt j (hL j hj))]) he'
    · cases hj with
      | head => omega
      | tail _ hj => have := hfx.2 j hj; omega
    · rw [List.getElem?_append_left (by omega)]
  · have hi : i < st.length := (List.getElem?_eq_some_iff.1 hbk).1
    have hbk2 := hext _ _ hbk
    have hrl := hr.len (hl st)
    have hap := appendA_to (c := c) he hs hb hz hzl hn hy0 hbk2 hrl hbd hbn
    have hK := SliceO.lt (E := E st) (e := e) (st := st) (xs := xs) (s := .slice (some ⟨i, 0, none⟩) xs.length c) (L := i :: K1) (fun x cx Lx h => hlt st x cx Lx h) (.inr ⟨i, c, cs, K1, rfl, hbk, hr, rfl⟩)
    have hiK : i ∉ K1 := (List.nodup_cons.1 hf.1).1
    have get : ∀ j, j ≠ i → j < st2.length → (st2.set i ⟨cs, e, 2⟩ ++ [(⟨cs ++ cy, e, 0⟩ : Blk)])[j]? = st2[j]? := by
      intro j hj hlt
      rw [List.getElem?_append_left (by simp; omega), List.getElem?_set, if_neg (Ne.symm hj)]
    have hlast : (st2.set i ⟨cs, e, 2⟩ ++ [(⟨cs ++ cy, e, 0⟩ : Blk)])[st2.length]? = some ⟨cs ++ cy, e, 0⟩ := by
      have : (st2.set i (⟨cs, e, 2⟩ : Blk)).length = st2.length := by simp
      rw [← this]; simp
    refine ⟨_, _, st2.length :: (K1 ++ K), hap, .inr ⟨st2.length, xs.length + ys.length, cs ++ cy, K1 ++ K, by simp, hlast, ?_, rfl⟩, ⟨List.nodup_cons.2 ⟨fun hm => ?_, List.nodup_append.2 ⟨(List.nodup_cons.1 hf.1).2, hfx.1, fun a ha b hb' e' => ?_⟩⟩, fun j hj => ?_⟩, ⟨⟨by simp, fun j hj hjL => ?_⟩, .inr ⟨_, Nat.le_refl _, rfl⟩⟩⟩
    · refine (hr.mono fun y hy cy Ly hL he' => ?_).app (hx.mono fun x _ cx Lx hL he' => ?_)
      · refine hE st _ y cy Ly (fun j hj => ?_) he'
        have hjK := hL j hj
        have hjl := hK j (by simp [hjK])
        rw [get j (fun e' => hiK (e' ▸ hjK)) (by omega), hext.get hjl]
      · refine hE st2 _ x cx Lx (fun j hj => ?_) he'
        have h1 := hxlt j (hL j hj)
        have h2 := hfx.2 j (hL j hj)
        exact get j (by omega) h1
    · rcases List.mem_append.1 hm with hm | hm
      · have := hK _ (List.mem_cons_of_mem _ hm); omega
      · have := hxlt _ hm; omega
    · subst e'
      have h1 := hK a (by simp [ha])
      have h2 := hfx.2 a hb'
      omega
    · cases hj with
      | head => omega
      | tail _ hj =>
        rcases List.mem_append.1 hj with hj | hj
        · exact hf.2 j (by simp [hj])
        · have := hfx.2 j hj; omega
    · exact get j (fun e' => hjL (by rw [e']; rfl)) hj

/-- A row is put behind a new slice of no elements. -/
theorem SliceO.fresh {α : Type} {E : St → α → List Value → List Nat → Prop} (hE : ∀ (st st' : St) x cx Lx, SameOn Lx st st' → E st x cx Lx → E st' x cx Lx) (hlt : ∀ (st : St) x cx Lx, E st x cx Lx → ∀ i ∈ Lx, i < st.length)
    {P : Program} {t u e : TypeId} {sz by_ : Nat} (hl : ∀ st x cx Lx, E st x cx Lx → cx.length = sz + 1) {z : List Value} {st : St} {ys : List α} {y : Value} {cy : List Value}
    (hu : P.underlying t = some (.slice e)) (hs : szA P e = some (sz + 1)) (hb : bytA P e = some by_) (hz : zeroA P e = some z) (hzl : z.length = sz + 1)
    (hn : newsA P u (sz + 1) y (st ++ [⟨[], e, 0⟩]) = some (ys.length, cy)) (hx : RowO (E (st ++ [⟨[], e, 0⟩])) ys cy []) (hbd : ys.length * by_ ≤ 2 ^ 46) (hbn : ys.length ≤ 2 ^ 46) :
    ∃ s' st' L', appendA P t u (.slice (some ⟨st.length, 0, none⟩) 0 0) y (st ++ [⟨[], e, 0⟩]) = some (s', st') ∧ SliceO (E st') e st' ys s' L' ∧ Fresh st.length L' ∧ Ext st st' ∧ st.length + 1 ≤ st'.length := by
  obtain ⟨s', st', L', h1, h2, h3, h4⟩ := SliceO.app (xs := []) (L := [st.length]) (K := []) (n0 := st.length) hE hlt hl hu hs hb hz hzl (.inr ⟨st.length, 0, [], [], rfl, by simp, .nil, rfl⟩) ⟨by simp, by simp⟩ (by simp) (Ext.refl (st ++ [⟨[], e, 0⟩])) hn hx ⟨by simp, by simp⟩ (by simpa using hbd) (by simpa using hbn)
  refine ⟨s', st', L', h1, by simpa using h2, h3, Ext.of_get fun i hi => ?_, by simpa using h4.away.1⟩
  rw [h4.away.2 i (by simp; omega) (fun e => by cases e; omega), List.getElem?_append_left hi]

/-- The cells of a row of one's own. -/
theorem newsA_own {α : Type} {E : α → List Value → List Nat → Prop} {P : Program} {u e e' : TypeId} {sz n0 : Nat} {st : St} {ys : List α} {y : Value} {L : List Nat} (hu : P.underlying u = some (.slice e')) (hl : ∀ x cx Lx, E x cx Lx → cx.length = sz) (h : SliceO E e st ys y L) (hf : Fresh n0 L) :
    ∃ cy K, newsA P u sz y st = some (ys.length, cy) ∧ RowO E ys cy K ∧ Fresh n0 K := by
  rcases h with ⟨rfl, rfl, rfl⟩ | ⟨i, c, cs, K, rfl, hb, hr, rfl⟩
  · exact ⟨[], [], by unfold newsA; simp only [hu]; rfl, .nil, hf⟩
  · refine ⟨cs, K, ?_, hr, (List.nodup_cons.1 hf.1).2, fun j hj => hf.2 j (by simp [hj])⟩
    unfold newsA
    simp only [hu]
    rw [cellsFrom_of (f := cell st i) (hr.len hl) fun j v hj => by rw [cell_of hb, Nat.zero_add]; exact hj]
    rfl
theorem newsA_1 {P : Program} {u e : TypeId} {sz : Nat} {st : St} {cx : List Value} (hu : P.underlying u = some (.slice e)) (hl : cx.length = sz) : newsA P u sz (.slice (some ⟨st.length, 0, none⟩) 1 1) (st ++ [⟨cx, e, 0⟩]) = some (1, cx) := newsA_one hu (by simp) hl
section
variable {α : Type} [Kind α]
/-- An element is put behind a row of one's own; what else was there stays. -/
theorem Sl.push {P : Program} {t u : TypeId} {by_ sz' n0 : Nat} {z : List Value} {st st2 : St} {xs : List α} {s : Value} {L : List Nat} {x : α} {cx : List Value} {Lx : List Nat}
    (hu : P.underlying t = some (.slice (Kind.e α))) (hu2 : P.underlying u = some (.slice (Kind.e α))) (hs : szA P (Kind.e α) = some (sz' + 1)) (hz' : Kind.sz α = sz' + 1) (hb : bytA P (Kind.e α) = some by_) (hz : zeroA P (Kind.e α) = some z) (hzl : z.length = sz' + 1)
    (h : Sl st xs s L) (hf : Fresh n0 L) (hn0 : n0 ≤ st.length) (hext : Ext st st2) (hx : Kind.own st2 x cx Lx) (hfx : Fresh st.length Lx) (hbd : (xs.length + 1) * by_ ≤ 2 ^ 46) (hbn : xs.length + 1 ≤ 2 ^ 46) :
    ∃ s' st' L', appendA P t u s (.slice (some ⟨st2.length, 0, none⟩) 1 1) (st2 ++ [⟨cx, Kind.e α, 0⟩]) = some (s', st') ∧ Sl st' (xs ++ [x]) s' L' ∧ Fresh n0 L' ∧ Grow st s st' s' := by
  have hx' : Kind.own (st2 ++ [⟨cx, Kind.e α, 0⟩]) x cx Lx := own_ext hx (Ext.app _ _)
  obtain ⟨s', st', L', h1, h2, h3, h4⟩ := SliceO.app (E := Kind.own) (fun st st' x cs L => Kind.own_frame st st' x cs L) (fun st x cs L => Kind.own_lt st x cs L) (sz := sz') (fun st x cs L h => (Kind.own_len st x cs L h).trans hz') (ys := [x]) (u := u) hu hs hb hz hzl h hf hn0 (hext.trans (Ext.app _ [⟨cx, Kind.e α, 0⟩])) (newsA_1 hu2 ((Kind.own_len _ _ _ _ hx).trans hz')) (RowO.one hx') hfx hbd hbn
  exact ⟨s', st', L', h1, h2, h3, (Grow.of_ext (hext.trans (Ext.app _ _)) s).trans h4⟩
/-- A row of one's own is put behind another. -/
theorem Sl.join {P : Program} {t u : TypeId} {by_ sz' n0 : Nat} {z : List Value} {st st2 : St} {xs ys : List α} {s y : Value} {L K : List Nat}
    (hu : P.underlying t = some (.slice (Kind.e α))) (hu2 : P.underlying u = some (.slice (Kind.e α))) (hs : szA P (Kind.e α) = some (sz' + 1)) (hz' : Kind.sz α = sz' + 1) (hb : bytA P (Kind.e α) = some by_) (hz : zeroA P (Kind.e α) = some z) (hzl : z.length = sz' + 1)
    (h : Sl st xs s L) (hf : Fresh n0 L) (hn0 : n0 ≤ st.length) (hext : Ext st st2) (hy : Sl st2 ys y K) (hfx : Fresh st.length K) (hbd : (xs.length + ys.length) * by_ ≤ 2 ^ 46) (hbn : xs.length + ys.length ≤ 2 ^ 46) :
    ∃ s' st' L', appendA P t u s y st2 = some (s', st') ∧ Sl st' (xs ++ ys) s' L' ∧ Fresh n0 L' ∧ Grow st s st' s' := by
  obtain ⟨cy, K', hn, hr, hK⟩ := newsA_own (P := P) (u := u) hu2 (Kind.own_len st2) hy hfx
  rw [hz'] at hn
  obtain ⟨s', st', L', h1, h2, h3, h4⟩ := SliceO.app (E := Kind.own) (fun st st' x cs L => Kind.own_frame st st' x cs L) (fun st x cs L => Kind.own_lt st x cs L) (sz := sz') (fun st x cs L h => (Kind.own_len st x cs L h).trans hz') hu hs hb hz hzl h hf hn0 hext hn hr hK hbd hbn
  exact ⟨s', st', L', h1, h2, h3, (Grow.of_ext hext s).trans h4⟩
end
theorem SliceO.top {α : Type} {E : α → List Value → List Nat → Prop} {e : TypeId} {st : St} {xs : List α} {s : Value} {L : List Nat} {n : Nat} (h : SliceO E e st xs s L) (hf : Fresh n L) : topId s = none ∨ ∃ m, n ≤ m ∧ topId s = some m := by
  rcases h with ⟨rfl, _, _⟩ | ⟨i, c, cs, K, rfl, _, _, rfl⟩
  · exact .inl rfl
  · exact .inr ⟨i, hf.2 i (by simp), rfl⟩
theorem topId_mono {k : Option Nat} {n m : Nat} (h : k = none ∨ ∃ i, n ≤ i ∧ k = some i) (hm : m ≤ n) : k = none ∨ ∃ i, m ≤ i ∧ k = some i := h.imp id fun ⟨i, h1, h2⟩ => ⟨i, Nat.le_trans hm h1, h2⟩
theorem eq_nil {P : Program} {t e : TypeId} (h : P.underlying t = some (.slice e)) : pureRun P (Op.equal t (.slice none 0 0) (.slice none 0 0)) = some true := by
  show pureRun P (Op.equalIn (9999 + 1) t (.slice none 0 0) (.slice none 0 0)) = _
  rw [Op.equalIn, pureRun_bind, pureRun_und h]
  rfl
theorem row_nil {α : Type} {E : α → List Value → Prop} {sz : Nat} {st : St} {xs : List α} {s : Value} (h : Row E sz st xs s) {P : Program} {t e : TypeId} (hu : P.underlying t = some (.slice e)) :
    ∃ b, (∀ x y, binE P .eql t x y s (.slice none 0 0) = some (.bool b)) ∧ (b = true → xs = [] ∧ s = .slice none 0 0) := by
  have he : elemA P t = some e := by unfold elemA; rw [hu]
  have hno : ∀ a n c x y, binE P .eql t x y (.slice (some a) n c) (.slice none 0 0) = some (.bool false) := fun a n c x y => by
    show (match elemA P t with | some _ => eqNil .eql (.slice (some a) n c) (.slice none 0 0) | none => none) = _
    rw [he]; rfl
  rcases h with ⟨rfl | rfl, rfl⟩ | ⟨i, o, c, rfl, h⟩
  · refine ⟨true, fun x y => ?_, fun _ => ⟨rfl, rfl⟩⟩
    have : binE P .eql t x y (.slice none 0 0) (.slice none 0 0) = flatRun P (do pure (.bool (← Op.equal t (.slice none 0 0) (.slice none 0 0)))) := rfl
    rw [this, flatRun, pureRun_bind, eq_nil hu]; rfl
  · exact ⟨false, fun x y => hno _ _ _ x y, fun e => by cases e⟩
  · exact ⟨false, fun x y => hno _ _ _ x y, fun e => by cases e⟩

section
variable {α : Type} [Kind α]
/-- An element of a row of one's own is put. -/
theorem Sl.set {P : Program} {n0 j : Nat} {st st2 : St} {xs : List α} {s v : Value} {L : List Nat} {x : α} {cx : List Value} {Lx : List Nat} (hs : szA P (Kind.e α) = some (Kind.sz α))
    (h : Sl st xs s L) (hf : Fresh n0 L) (hn0 : n0 ≤ st.length) (hext : Ext st st2) (hx : Kind.own st2 x cx Lx) (hfx : Fresh st.length Lx) (hj : j < xs.length) (hv : v.cells.toList = cx) (hok : okv v = true) :
    ∃ b c st' L', s = .slice (some ⟨b, 0, none⟩) xs.length c ∧ (∀ loc, storeA P (Kind.e α) (.pointer (some ⟨b, j * Kind.sz α, none⟩)) v loc st2 = some (loc, st')) ∧ Sl st' (xs.set j x) s L' ∧ Fresh n0 L' ∧ st'.length = st2.length ∧ n0 ≤ b ∧ ∀ i, i ≠ b → st'[i]? = st2[i]? := by
  have hlt := h.lt
  rcases h with ⟨_, h0, _⟩ | ⟨b, c, cs, K, rfl, hb, hr, rfl⟩
  · rw [h0] at hj; simp at hj
  obtain ⟨c1, c0, c2, L1, L0, L2, g1, g2, g3, rfl, rfl⟩ := hr.split j _ (List.getElem?_eq_getElem hj)
  have hcl := g1.len (Kind.own_len st)
  have hc0 := Kind.own_len _ _ _ _ g2
  have hcx := Kind.own_len _ _ _ _ hx
  have hl1 : c1.length = j * Kind.sz α := by rw [hcl, List.length_take, Nat.min_eq_left (by omega)]
  have hxlt := Kind.own_lt _ _ _ _ hx
  obtain ⟨hi0, hnd1⟩ := List.nodup_cons.1 hf.1
  obtain ⟨hnd2, hnd3, hnd4⟩ := List.nodup_append.1 hnd1
  obtain ⟨hnd5, hnd6, hnd7⟩ := List.nodup_append.1 hnd2
  have hb2 := hext _ _ hb
  have hbl : b < st.length := (List.getElem?_eq_some_iff.1 hb).1
  have hel := hext.length
  have hbb : (st2.set b ⟨c1 ++ cx ++ c2, Kind.e α, 0⟩)[b]? = some ⟨c1 ++ cx ++ c2, Kind.e α, 0⟩ := by rw [List.getElem?_set]; simp; omega
  have get : ∀ i, i ≠ b → (st2.set b ⟨c1 ++ cx ++ c2, Kind.e α, 0⟩)[i]? = st2[i]? := fun i hi => by rw [List.getElem?_set, if_neg (Ne.symm hi)]
  refine ⟨b, c, st2.set b ⟨c1 ++ cx ++ c2, Kind.e α, 0⟩, b :: (L1 ++ Lx ++ L2), rfl, fun loc => ?_, .inr ⟨b, c, c1 ++ cx ++ c2, L1 ++ Lx ++ L2, by rw [List.length_set], hbb, ?_, rfl⟩, ⟨List.nodup_cons.2 ⟨fun hm => ?_, List.nodup_append.2 ⟨List.nodup_append.2 ⟨hnd5, hfx.1, fun a ha d hd e => ?_⟩, hnd3, fun a ha d hd e => ?_⟩⟩, fun i hi => ?_⟩, by simp, hf.2 b (by simp), get⟩
  · have hvs : v.cells.size = Kind.sz α := by rw [← hcx, ← hv]; simp
    rw [storeA_h]
    have hvc : vc v = v.cells := rfl
    simp only [hok, if_true, hs, hb2, hvc, hvs, hv, true_and]
    rw [if_pos (by simp [hl1, hc0])]
    unfold AM.splice
    have e1 : (c1 ++ c0 ++ c2).take (j * Kind.sz α) = c1 := by rw [← hl1, List.append_assoc, List.take_left]
    have e2 : (c1 ++ c0 ++ c2).drop (j * Kind.sz α + cx.length) = c2 := by rw [← hl1, hcx, ← hc0, ← List.length_append, List.drop_left]
    rw [e1, e2]
  · have e : xs.set j x = xs.take j ++ [x] ++ xs.drop (j + 1) := by rw [List.set_eq_take_append_cons_drop, if_pos hj]; simp
    rw [e]
    refine (RowO.app (g1.mono fun y _ cy Ly hL he => ?_) (RowO.one ?_)).app (g3.mono fun y _ cy Ly hL he => ?_)
    · exact Kind.own_frame _ _ y cy Ly (fun q hq => by
        have hq1 := hL q hq
        rw [get q (fun e => hi0 (by simp [← e, hq1])), hext.get (hlt q (by simp [hq1]))]) he
    · exact Kind.own_frame _ _ x cx Lx (fun q hq => get q (by have := hfx.2 q hq; omega)) hx
    · exact Kind.own_frame _ _ y cy Ly (fun q hq => by
        have hq1 := hL q hq
        rw [get q (fun e => hi0 (by simp [← e, hq1])), hext.get (hlt q (by simp [hq1]))]) he
  · simp only [List.mem_append] at hm
    rcases hm with (hm | hm) | hm
    · exact hi0 (by simp [hm])
    · have := hfx.2 _ hm; omega
    · exact hi0 (by simp [hm])
  · subst e
    have h1 := hlt a (by simp [ha])
    have h2 := hfx.2 a hd
    omega
  · subst e
    rcases List.mem_append.1 ha with ha | ha
    · exact hnd4 a (by simp [ha]) a hd rfl
    · have h1 := hlt a (by simp [hd])
      have h2 := hfx.2 a ha
      omega
  · rcases List.mem_cons.1 hi with rfl | hi
    · exact hf.2 _ (by simp)
    · simp only [List.mem_append] at hi
      rcases hi with (hi | hi) | hi
      · exact hf.2 i (by simp [hi])
      · have := hfx.2 i hi; omega
      · exact hf.2 i (by simp [hi])
end
/-- The rest of a row. -/
theorem row_drop {α : Type} {E : α → List Value → Prop} {sz : Nat} {st : St} {xs : List α} {s : Value} (h : Row E (sz + 1) st xs s) {P : Program} {t e : TypeId} (hu : P.underlying t = some (.slice e)) (hs : szA P e = some (sz + 1)) {k : Nat} (hk : k ≤ xs.length) (h0 : xs ≠ []) :
    ∃ s', sliceA P t s (some (.int .i64 k)) none = some s' ∧ flat s = false ∧ Row E (sz + 1) st (xs.drop k) s' := by
  rcases h with ⟨_, rfl⟩ | ⟨i, o, c, rfl, h⟩
  · exact absurd rfl h0
  · have he : elemA P t = some e := by unfold elemA; rw [hu]
    refine ⟨.slice (some ⟨i, o + k * (sz + 1), none⟩) (xs.length - k) (xs.length - k), ?_, rfl, .inr ⟨i, o + k * (sz + 1), xs.length - k, by simp, fun j x hx => ?_⟩⟩
    · unfold sliceA
      simp only [he, hs, Int.toNat_natCast]
      rw [if_pos (by omega)]
    · rw [List.getElem?_drop] at hx
      obtain ⟨cs, h1, h2, h3⟩ := h (k + j) x hx
      exact ⟨cs, h1, h2, by rwa [show o + k * (sz + 1) + j * (sz + 1) = o + (k + j) * (sz + 1) by rw [Nat.add_mul]; omega]⟩
/-- A kind whose data stand in their cells alone. -/
class Flat (α : Type) extends Kind α where
  flat_own : ∀ (st : St) (x : α) (cs : List Value), enc st x cs → own st x cs []
section
variable {α : Type} [Flat α]
theorem shr_own {st : St} {xs : List α} {cs : List Value} {L : List Nat} (h : RowO (Shr (Kind.enc (α := α) st)) xs cs L) : RowO (Kind.own st) xs cs L := h.mono fun x _ cx Lx _ he => by obtain ⟨h1, rfl⟩ := he; exact Flat.flat_own st x cx h1
/-- A row of flat data is put behind one's own. -/
theorem Sl.appRow {P : Program} {t u : TypeId} {by_ sz' n0 : Nat} {z : List Value} {st st2 : St} {xs ys : List α} {s y : Value} {L : List Nat}
    (hu : P.underlying t = some (.slice (Kind.e α))) (hu2 : P.underlying u = some (.slice (Kind.e α))) (hs : szA P (Kind.e α) = some (sz' + 1)) (hz' : Kind.sz α = sz' + 1) (hb : bytA P (Kind.e α) = some by_) (hz : zeroA P (Kind.e α) = some z) (hzl : z.length = sz' + 1)
    (h : Sl st xs s L) (hf : Fresh n0 L) (hn0 : n0 ≤ st.length) (hext : Ext st st2) (hy : Rw st2 ys y) (hbd : (xs.length + ys.length) * by_ ≤ 2 ^ 46) (hbn : xs.length + ys.length ≤ 2 ^ 46) :
    ∃ s' st' L', appendA P t u s y st2 = some (s', st') ∧ Sl st' (xs ++ ys) s' L' ∧ Fresh n0 L' ∧ Grow st2 s st' s' := by
  obtain ⟨cy, hn, hx⟩ := newsA_row hy hu2
  rw [hz'] at hn
  exact SliceO.app (E := Kind.own) (fun st st' x cs L => Kind.own_frame st st' x cs L) (fun st x cs L => Kind.own_lt st x cs L) (sz := sz') (fun st x cs L h => (Kind.own_len st x cs L h).trans hz') hu hs hb hz hzl h hf hn0 hext hn (shr_own hx) ⟨by simp, by simp⟩ hbd hbn
theorem Sl.freshRow {P : Program} {t u : TypeId} {by_ sz' : Nat} {z : List Value} {st : St} {ys : List α} {y : Value}
    (hu : P.underlying t = some (.slice (Kind.e α))) (hu2 : P.underlying u = some (.slice (Kind.e α))) (hs : szA P (Kind.e α) = some (sz' + 1)) (hz' : Kind.sz α = sz' + 1) (hb : bytA P (Kind.e α) = some by_) (hz : zeroA P (Kind.e α) = some z) (hzl : z.length = sz' + 1)
    (hy : Rw st ys y) (hbd : ys.length * by_ ≤ 2 ^ 46) (hbn : ys.length ≤ 2 ^ 46) :
    ∃ s' st' L', appendA P t u (.slice (some ⟨st.length, 0, none⟩) 0 0) y (st ++ [⟨[], Kind.e α, 0⟩]) = some (s', st') ∧ Sl st' ys s' L' ∧ Fresh st.length L' ∧ Ext st st' ∧ st.length + 1 ≤ st'.length := by
  obtain ⟨cy, hn, hx⟩ := newsA_row (hy.ext (Ext.app st [⟨[], Kind.e α, 0⟩])) hu2
  rw [hz'] at hn
  exact SliceO.fresh (E := Kind.own) (fun st st' x cs L => Kind.own_frame st st' x cs L) (fun st x cs L => Kind.own_lt st x cs L) (sz := sz') (fun st x cs L h => (Kind.own_len st x cs L h).trans hz') hu hs hb hz hzl hn (shr_own hx) hbd hbn
end
end Go.Proofs.YtibcegfhllkdgaaDoor.AM
