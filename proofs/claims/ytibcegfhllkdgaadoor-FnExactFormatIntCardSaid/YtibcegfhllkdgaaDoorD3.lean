/- Rows that are made at their full length and then filled. -/
import Derived.Test.YtibcegfhllkdgaaDoorD2
namespace Go.Proofs.YtibcegfhllkdgaaDoor.AM
open Go
set_option linter.unusedVariables false
set_option linter.unusedSimpArgs false

def FillO {α : Type} (E : St → α → List Value → List Nat → Prop) (e : TypeId) (sz : Nat) (st : St) (xs : List α) (n o : Nat) (K : List Nat) : Prop :=
  ∃ cs zs, st[o]? = some ⟨cs ++ zs, e, 0⟩ ∧ RowO (E st) xs cs K ∧ zs.length = (n - xs.length) * sz ∧ xs.length ≤ n

theorem FillO.start {α : Type} {E : St → α → List Value → List Nat → Prop} {e : TypeId} {sz n : Nat} {st : St} {zs : List Value} (hz : zs.length = n * sz) : FillO E e sz (st ++ [⟨zs, e, 0⟩]) [] n st.length [] :=
  ⟨[], zs, by simp, .nil, by simpa using hz, by simp⟩

theorem Ext.length {st st' : St} (h : Ext st st') : st.length ≤ st'.length := by
  rcases Nat.lt_or_ge st'.length st.length with hlt | hge
  · have h1 : st[st'.length]? = some st[st'.length] := List.getElem?_eq_getElem hlt
    have := (List.getElem?_eq_some_iff.1 (h _ _ h1)).1
    omega
  · exact hge
theorem Ext.get {st st' : St} (h : Ext st st') {i : Nat} (hi : i < st.length) : st'[i]? = st[i]? := by
  have h1 : st[i]? = some st[i] := List.getElem?_eq_getElem hi
  rw [h1]; exact h _ _ h1
theorem Ext.of_get {st st' : St} (h : ∀ i, i < st.length → st'[i]? = st[i]?) : Ext st st' := fun i b hb => (h i (List.getElem?_eq_some_iff.1 hb).1).trans hb

theorem FillO.lt {α : Type} {E : St → α → List Value → List Nat → Prop} (hlt : ∀ (st : St) x cx Lx, E st x cx Lx → ∀ i ∈ Lx, i < st.length) {e : TypeId} {sz n o : Nat} {st : St} {xs : List α} {K : List Nat} (h : FillO E e sz st xs n o K) : ∀ i ∈ K, i < st.length := by
  obtain ⟨cs, zs, hb, hr, hz, hle⟩ := h
  clear hb hz hle
  induction hr with
  | nil => intro i hi; cases hi
  | cons x xs cx cs Lx L h hs ih =>
    intro j hj
    rcases List.mem_append.1 hj with hj | hj
    · exact hlt st x cx Lx h j hj
    · exact ih j hj

theorem FillO.step {α : Type} {E : St → α → List Value → List Nat → Prop} (hE : ∀ (st st' : St) x cx Lx, SameOn Lx st st' → E st x cx Lx → E st' x cx Lx) (hlt : ∀ (st : St) x cx Lx, E st x cx Lx → ∀ i ∈ Lx, i < st.length)
    {P : Program} {e : TypeId} {sz n0 n o : Nat} (hl : ∀ st x cx Lx, E st x cx Lx → cx.length = sz) {st st2 : St} {xs : List α} {K : List Nat} {x : α} {cx : List Value} {Lx : List Nat} {v : Value} {loc : Nat → Nat × List Value}
    (hs : szA P e = some sz) (h : FillO E e sz st xs n o K) (hf : Fresh n0 (o :: K)) (hext : Ext st st2) (hx : E st2 x cx Lx) (hfx : Fresh st.length Lx) (hv : v.cells.toList = cx) (hok : okv v = true) (hn : xs.length < n) :
    ∃ st', storeA P e (.pointer (some ⟨o, 0 + xs.length * sz, none⟩)) v loc st2 = some (loc, st') ∧ FillO E e sz st' (xs ++ [x]) n o (K ++ Lx) ∧ Fresh n0 (o :: (K ++ Lx)) ∧ st'.length = st2.length ∧ (∀ i, i ≠ o → st'[i]? = st2[i]?) := by
  have hK := h.lt hlt
  obtain ⟨cs, zs, hb, hr, hz, hle⟩ := h
  have ho : o < st.length := (List.getElem?_eq_some_iff.1 hb).1
  have hb2 := hext _ _ hb
  have hcl := hr.len (hl st)
  have hcx : cx.length = sz := hl _ _ _ _ hx
  have hvs : v.cells.size = sz := by rw [← hcx, ← hv]; simp
  have hxlt := hlt _ _ _ _ hx
  have hnd := List.nodup_cons.1 hf.1
  have hzge : sz ≤ zs.length := by rw [hz]; exact Nat.le_mul_of_pos_left _ (by omega)
  have hsp : splice (cs ++ zs) (0 + xs.length * sz) cx = cs ++ cx ++ zs.drop sz := by
    unfold AM.splice
    rw [Nat.zero_add, ← hcl, hcx, List.take_left, List.drop_append]
    simp
  have get : ∀ i, i ≠ o → (st2.set o ⟨cs ++ cx ++ zs.drop sz, e, 0⟩)[i]? = st2[i]? := fun i hi => by rw [List.getElem?_set, if_neg (Ne.symm hi)]
  refine ⟨st2.set o ⟨cs ++ cx ++ zs.drop sz, e, 0⟩, ?_, ⟨cs ++ cx, zs.drop sz, ?_, ?_, ?_, by simp; omega⟩, ⟨List.nodup_cons.2 ⟨fun hm => ?_, List.nodup_append.2 ⟨hnd.2, hfx.1, fun a ha b hb' e' => ?_⟩⟩, fun j hj => ?_⟩, by simp, get⟩
  · unfold storeA
    simp only [hok, if_true, hs, hb2, hvs, true_and, hv]
    rw [if_pos (by rw [List.length_append, hcl, hz, Nat.zero_add]; have := Nat.mul_le_mul_right sz (show xs.length + 1 ≤ n by omega); rw [Nat.add_mul, Nat.one_mul] at this; rw [Nat.sub_mul]; omega), hsp]
  · rw [List.getElem?_set, if_pos rfl, if_pos (by have := hext.length; omega)]
  · refine (hr.mono fun y hy cy Ly hL he => ?_).app (RowO.one (hE st2 _ x cx Lx (fun j hj => ?_) hx))
    · refine hE st _ y cy Ly (fun j hj => ?_) he
      have hjK := hL j hj
      rw [get j (fun e' => hnd.1 (e' ▸ hjK)), hext.get (hK j hjK)]
    · have := hfx.2 j hj
      exact get j (by omega)
  · rw [List.length_drop, hz, List.length_append, List.length_singleton, ← Nat.sub_sub, Nat.sub_mul (n - xs.length) 1, Nat.one_mul]
  · rcases List.mem_append.1 hm with hm | hm
    · exact hnd.1 hm
    · have := hfx.2 _ hm; omega
  · subst e'
    have h1 := hK a ha
    have h2 := hfx.2 a hb'
    omega
  · cases hj with
    | head => exact hf.2 o (by simp)
    | tail _ hj =>
      rcases List.mem_append.1 hj with hj | hj
      · exact hf.2 j (by simp [hj])
      · have h1 := hfx.2 j hj
        have h2 := hf.2 o (by simp)
        omega

theorem FillO.done {α : Type} {E : St → α → List Value → List Nat → Prop} {e : TypeId} {sz o c : Nat} {st : St} {xs : List α} {K : List Nat} (h : FillO E e sz st xs xs.length o K) : SliceO (E st) e st xs (.slice (some ⟨o, 0, none⟩) xs.length c) (o :: K) := by
  obtain ⟨cs, zs, hb, hr, hz, _⟩ := h
  have : zs = [] := List.eq_nil_of_length_eq_zero (by rw [hz]; simp)
  subst this
  rw [List.append_nil] at hb
  exact .inr ⟨o, c, cs, K, rfl, hb, hr, rfl⟩

/-- Every node has few arguments. -/
inductive Lim (B : Nat) : T → Prop
  | mk (k n : Int) (nm : ByteArray) (args : List T) (h : args.length ≤ B) (hs : ∀ a ∈ args, Lim B a) : Lim B (.mk k n nm args)
theorem T.wt_mem {xs : List T} {x : T} (h : x ∈ xs) : x.wt ≤ T.wtL xs := by
  induction xs with
  | nil => cases h
  | cons y ys ih =>
    simp only [T.wtL]
    cases h with
    | head => omega
    | tail _ h => have := ih h; omega
theorem T.wtL_take (xs : List T) (j : Nat) : T.wtL (xs.take j) + T.wtL (xs.drop j) = T.wtL xs := by
  induction xs generalizing j with
  | nil => simp [T.wtL]
  | cons x xs ih =>
    cases j with
    | zero => simp [T.wtL]
    | succ j => simp only [List.take_succ_cons, List.drop_succ_cons, T.wtL]; have := ih j; omega
theorem Lim.of_wt {B : Nat} : ∀ t : T, t.wt ≤ B → Lim B t := by
  refine T.ind fun k n nm args ih h => ?_
  simp only [T.wt] at h
  exact .mk k n nm args (by omega) fun a ha => ih a ha (by have := T.wt_mem ha; omega)
theorem Lim.args {B : Nat} {k n : Int} {nm : ByteArray} {args : List T} (h : Lim B (.mk k n nm args)) : args.length ≤ B ∧ ∀ a ∈ args, Lim B a := by cases h; exact ⟨by assumption, by assumption⟩

end Go.Proofs.YtibcegfhllkdgaaDoor.AM
