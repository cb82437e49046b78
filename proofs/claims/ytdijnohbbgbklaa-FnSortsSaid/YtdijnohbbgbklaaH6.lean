/- The operations that make memory or write it. -/
import Derived.Test.YtdijnohbbgbklaaH5
namespace Go.Proofs.Ytdijnohbbgbklaa.AM
open Go
set_option linter.unusedVariables false
set_option linter.unusedSimpArgs false

def bytA (P : Program) (t : TypeId) : Option Nat := (P.info? t).map (·.bytes)
def splice (l : List Value) (o : Nat) (vs : List Value) : List Value := l.take o ++ vs ++ l.drop (o + vs.length)
def zrow (z : List Value) (n : Nat) : List Value := (List.range n).map fun i => z.toArray[i % z.length]!
def rowA (P : Program) (e : TypeId) (len : Nat) : Option (List Value) := match zeroA P e, szA P e with
  | some z, some (sz + 1) => if z.length = sz + 1 ∧ len * (sz + 1) ≤ 2 ^ 24 then some (zrow z (len * (sz + 1))) else none
  | _, _ => none

def allocA (H : List Tmp) (d : Tmp) (z : List Value) (t : TypeId) (loc : Nat → Nat × List Value) (st : St) : Value × (Nat → Nat × List Value) × St :=
  if H.contains d then (.pointer (some ⟨st.length, 0, none⟩), loc, st ++ [⟨z, t, 0⟩])
  else (.pointer (some ⟨d, 0, some ((loc d).1 + 1)⟩), upd loc d ((loc d).1 + 1, z), st)

def storeA (P : Program) (t : TypeId) (x v : Value) (loc : Nat → Nat × List Value) (st : St) : Option ((Nat → Nat × List Value) × St) :=
  if okv v then
    match x, szA P t with
    | .pointer (some ⟨b, o, some ver⟩), some sz => if ver ≠ 0 ∧ (loc b).1 = ver ∧ v.cells.size = sz ∧ o + sz ≤ (loc b).2.length then some (upd loc b (ver, splice (loc b).2 o v.cells.toList), st) else none
    | .pointer (some ⟨b, o, none⟩), some sz => match st[b]? with
      | some blk => if blk.stat = 0 ∧ v.cells.size = sz ∧ o + sz ≤ blk.cells.length then some (loc, st.set b { blk with cells := splice blk.cells o v.cells.toList }) else none
      | none => none
    | _, _ => none
  else none

def strCells (s : ByteArray) : List Value := s.data.toList.map fun b => .int .u8 b.toNat

/-- What is appended: how many elements, and their cells. -/
def newsA (P : Program) (u : TypeId) (sz : Nat) (x : Value) (st : St) : Option (Nat × List Value) :=
  match P.underlying u, x with
  | some (.slice _), .slice none 0 0 => some (0, [])
  | some (.slice _), .slice (some ⟨0, 0, some 0⟩) 0 0 => some (0, [])
  | some (.slice _), .slice (some ⟨b, o, none⟩) n _ => (cellsFrom (cell st b) o (n * sz)).map fun cs => (n, cs)
  | some .string, .string q => if sz = 1 then some (q.size, strCells q) else none
  | _, _ => none

def appendA (P : Program) (t u : TypeId) (s x : Value) (st : St) : Option (Value × St) :=
  match elemA P t with
  | none => none
  | some e => match szA P e, bytA P e, zeroA P e with
    | some (sz + 1), some by_, some z => match newsA P u (sz + 1) x st with
      | none => none
      | some (n, cs) => if z.length = sz + 1 then
          match s with
          | .slice none 0 0 => if n = 0 then some (s, st) else if n * by_ ≤ 2 ^ 46 ∧ n ≤ 2 ^ 46 then some (.slice (some ⟨st.length, 0, none⟩) n n, st ++ [⟨cs, e, 0⟩]) else none
          | .slice (some ⟨b, 0, none⟩) len _ => if n = 0 then some (s, st) else
            match st[b]? with
            | some blk => if blk.stat = 0 ∧ blk.ty = e ∧ len * (sz + 1) ≤ blk.cells.length ∧ (len + n) * by_ ≤ 2 ^ 46 ∧ len + n ≤ 2 ^ 46 then
                some (.slice (some ⟨st.length, 0, none⟩) (len + n) (len + n), st.set b { blk with stat := 2 } ++ [⟨blk.cells.take (len * (sz + 1)) ++ cs, e, 0⟩]) else none
            | none => none
          | _ => none
        else none
    | _, _, _ => none

/-- What an operation does that makes memory or writes it. -/
def evalEff (P : Program) (H : List Tmp) (o : Oper) (ρ : Operand → Value) (loc : Nat → Nat × List Value) (st : St) : Option (Value × (Nat → Nat × List Value) × St) :=
  match o.op with
  | .alloc t => match o.dst, zeroA P t with
    | some d, some z => some (allocA H d z t loc st)
    | _, _ => none
  | .box t x => match o.dst with
    | some d => if okv (ρ x) then some (allocA H d (ρ x).cells.toList t loc st) else none
    | none => none
  | .store t x v => (storeA P t (ρ x) (ρ v) loc st).map fun r => (undef, r.1, r.2)
  | .buildSlice t len parts => match elemA P t with
    | some e => match rowA P e len, szA P e with
      | some row, some sz => if parts.all (fun p => okv (ρ p.2)) then
          (Instr.fill (fun i => some (i * sz, sz)) row.toArray (parts.map fun (i, x) => (i, ρ x)).toList).map fun cs => (.slice (some ⟨st.length, 0, none⟩) len len, loc, st ++ [⟨cs.toList, e, 0⟩]) else none
      | _, _ => none
    | none => none
  | .makeSlice t l c => match elemA P t, ρ l, ρ c with
    | some e, .int .i64 ln, .int .i64 cp => match zeroA P e, szA P e, bytA P e with
      | some z, some (sz + 1), some by_ => if 0 ≤ ln ∧ ln ≤ cp ∧ by_ * cp ≤ 2 ^ 46 ∧ cp ≤ 2 ^ 46 ∧ z.length = sz + 1 then some (.slice (some ⟨st.length, 0, none⟩) ln.toNat ln.toNat, loc, st ++ [⟨zrow z (ln.toNat * (sz + 1)), e, 0⟩]) else none
      | _, _, _ => none
    | _, _, _ => none
  | .call { callee := .builtin .append, args := args, argTypes := ts } => match ts[0]?, ts[1]?, args[0]?, args[1]? with
    | some t, some u, some s, some x => (appendA P t u (ρ s) (ρ x) st).map fun r => (r.1, loc, r.2)
    | _, _, _, _ => none
  | _ => none

section
variable {P : Program} {B : Base} {M M' : List ME} {L : Nat → Nat} {n : Nat} {fr : Fr} {st st' : St} {a : Act} {w w' : World}

theorem HR.push (h : HR P B M st w) (o : Obj) : HR P B M st (w.alloc o) := by
  refine ⟨h.len, h.pre, fun i b m hb hm hs hfar => ?_, h.inj, fun i m hm => by have := h.lt i m hm; simp; omega, h.old, fun i b m hb hs hm => ?_, h.os, h.tape, h.output, by have := h.size; simp; omega, fun k hk hkm => ?_, h.tab, h.cov⟩
  · obtain ⟨c, h1, h2⟩ := h.blk i b m hb hm hs hfar
    exact ⟨c, h1.to (alloc_old w o (h.lt i m hm)), h2⟩
  · obtain ⟨h1, h2⟩ := h.ro i b m hb hs hm
    exact ⟨h1, (alloc_old w o (h.lt i m (h.pre i m hm))).trans h2⟩
  · exact (alloc_old w o (by have := h.size; omega)).trans (h.frame k hk hkm)

theorem Rel.allocLocal (R : Rel P B M L n fr st a w) (d : Nat) (cells : List Value) (c : Array Value) (ty : TypeId) (hl : c.size = cells.length) (hc : CR M cells c) :
    Rel P B M (upd L d w.heap.size) n ⟨fr.env, upd fr.loc d ((fr.loc d).1 + 1, cells)⟩ st a (w.alloc (.cells c ty (0, 0))) := by
  have hvf : ∀ v v', VF M L fr.loc v v' → VF M (upd L d w.heap.size) (upd fr.loc d ((fr.loc d).1 + 1, cells)) v v' := by
    intro v v' h
    cases hl : isLoc v with
    | false => exact (h.vr hl).vf
    | true =>
      unfold isLoc at hl
      split at hl
      · rename_i s off ver
        obtain ⟨h1, h2⟩ := h
        by_cases e : s = d
        · subst e
          refine ⟨by rw [upd_same]; simp only; omega, fun _ hv => ?_⟩
          rw [upd_same] at hv; simp only at hv; omega
        · refine ⟨by rw [upd_ne _ _ _ _ e]; exact h1, fun hv hv' => ?_⟩
          rw [upd_ne _ _ _ _ e] at hv' ⊢
          exact h2 hv hv'
      · cases hl
  refine ⟨R.defers, R.size, fun t => hvf _ _ (R.env t), fun s hs => ?_, fun s t hs ht e => ?_, fun s hs i m hm => ?_, R.heap.push _⟩
  · by_cases e : s = d
    · subst e
      simp only [upd_same]
      exact ⟨c, ty, alloc_new w _, hl, hc, R.heap.size, by simp⟩
    · simp only [upd_ne _ _ _ _ e] at hs ⊢
      obtain ⟨c', ty', h1, h2, h3, h4, h5⟩ := R.loc s hs
      exact ⟨c', ty', (alloc_old w _ h5).trans h1, h2, h3, h4, by simp; omega⟩
  · by_cases e1 : s = d <;> by_cases e2 : t = d
    · omega
    · simp only [upd_ne _ _ _ _ e2] at ht e
      subst e1
      simp only [upd_same] at e
      obtain ⟨_, _, _, _, _, _, h5⟩ := R.loc t ht
      omega
    · simp only [upd_ne _ _ _ _ e1] at hs e
      subst e2
      simp only [upd_same] at e
      obtain ⟨_, _, _, _, _, _, h5⟩ := R.loc s hs
      omega
    · simp only [upd_ne _ _ _ _ e1, upd_ne _ _ _ _ e2] at hs ht e
      exact R.locInj s t hs ht e
  · by_cases e : s = d
    · subst e
      simp only [upd_same]
      have := R.heap.lt i m hm
      omega
    · simp only [upd_ne _ _ _ _ e] at hs ⊢
      exact R.locOut s hs i m hm

theorem HR.other (h : HR P B M st w) {g : Nat} {c' : Array Value} (hg : ∀ (i : Nat) m, M[i]? = some m → m.b ≠ g) (hB : B.w0.heap.size ≤ g) : HR P B M st (w.setRow g c') := by
  refine ⟨h.len, h.pre, fun i b m hb hm hs hfar => ?_, h.inj, fun i m hm => by simpa using h.lt i m hm, h.old, fun i b m hb hs hm => ?_, h.os, h.tape, h.output, by simpa using h.size, fun k hk hkm => ?_, h.tab, h.cov⟩
  · obtain ⟨c, h1, h2⟩ := h.blk i b m hb hm hs hfar
    exact ⟨c, h1.to (setRow_other w g m.b c' (hg i m hm)), h2⟩
  · obtain ⟨h1, h2⟩ := h.ro i b m hb hs hm
    exact ⟨h1, (setRow_other w g m.b c' (hg i m (h.pre i m hm))).trans h2⟩
  · exact (setRow_other w g k c' (by omega)).trans (h.frame k hk hkm)

theorem Rel.storeLocal (R : Rel P B M L n fr st a w) (d ver : Nat) (hv : ver ≠ 0) (hd : (fr.loc d).1 = ver) (cells : List Value) (c' : Array Value) (hl : c'.size = cells.length) (hc : CR M cells c') :
    Rel P B M L n ⟨fr.env, upd fr.loc d (ver, cells)⟩ st a (w.setRow (L d) c') := by
  have h1 : ∀ s, (upd fr.loc d (ver, cells) s).1 = (fr.loc s).1 := by
    intro s
    by_cases e : s = d
    · subst e; simp only [upd_same]; exact hd.symm
    · simp only [upd_ne _ _ _ _ e]
  have hda : (fr.loc d).1 ≠ 0 := by omega
  have hvf : ∀ v v', VF M L fr.loc v v' → VF M L (upd fr.loc d (ver, cells)) v v' := by
    intro v v' h
    cases hl : isLoc v with
    | false => exact (h.vr hl).vf
    | true =>
      unfold isLoc at hl
      split at hl
      · obtain ⟨p1, p2⟩ := h
        exact ⟨by rw [h1]; exact p1, fun hv' hv'' => p2 hv' (by rw [h1] at hv''; exact hv'')⟩
      · cases hl
  obtain ⟨c0, ty, q1, q2, q3, q4, q5⟩ := R.loc d hda
  refine ⟨R.defers, R.size, fun t => hvf _ _ (R.env t), fun s hs => ?_, fun s t hs ht e => ?_, fun s hs i m hm => ?_, R.heap.other (R.locOut d hda) q4⟩
  · by_cases e : s = d
    · subst e
      simp only [upd_same]
      exact ⟨c', ty, setRow_heap w _ _ _ _ _ q1, hl, hc, q4, by simpa using q5⟩
    · have hs' : (fr.loc s).1 ≠ 0 := by simp only [h1] at hs; exact hs
      simp only [upd_ne _ _ _ _ e]
      obtain ⟨c1, ty1, r1, r2, r3, r4, r5⟩ := R.loc s hs'
      exact ⟨c1, ty1, (setRow_other w _ _ _ (fun e' => e (R.locInj s d hs' hda e'))).trans r1, r2, r3, r4, by simpa using r5⟩
  · simp only [h1] at hs ht
    exact R.locInj s t hs ht e
  · simp only [h1] at hs
    exact R.locOut s hs i m hm

theorem CR.of_ar {cs ds : Array Value} (h : AR M cs ds) : CR M cs.toList ds := fun j x hx => by
  have hx' : cs[j]? = some x := by simpa using hx
  have hlt : j < cs.size := (Array.getElem?_eq_some_iff.1 hx').1
  exact ⟨h.one j x hx', _, Array.getElem?_eq_getElem (by rw [← h.size]; exact hlt), h.rel j x _ hx' (Array.getElem?_eq_getElem (by rw [← h.size]; exact hlt))⟩
theorem CR.of_flat {z : List Value} (h : ∀ x ∈ z, flat1 x = true) : CR M z z.toArray := fun j x hx => ⟨flat1_one (h x (List.mem_of_getElem? hx)), x, by simpa using hx, .fl _ (h x (List.mem_of_getElem? hx))⟩

/-- A row that is written into another. -/
theorem CR.splice {cells : List Value} {c : Array Value} (h : CR M cells c) {vs us : List Value} {o : Nat} (hl : us.length = vs.length) (hfit : o + vs.length ≤ cells.length) (hc : cells.length ≤ c.size)
    (hv : ∀ (j : Nat) x y, vs[j]? = some x → us[j]? = some y → VR M x y ∧ one x = true) :
    CR M (splice cells o vs) (c.toList.take o ++ us ++ c.toList.drop (o + us.length)).toArray := by
  intro j x hx
  unfold AM.splice at hx
  simp only [List.getElem?_toArray]
  rcases Nat.lt_or_ge j o with h1 | h1
  · rw [List.append_assoc, List.getElem?_append_left (by simp; omega), List.getElem?_take, if_pos h1] at hx
    obtain ⟨q1, y, q2, q3⟩ := h j x hx
    refine ⟨q1, y, ?_, q3⟩
    rw [List.append_assoc, List.getElem?_append_left (by simp; omega), List.getElem?_take, if_pos h1]
    simpa using q2
  · rcases Nat.lt_or_ge j (o + vs.length) with h2 | h2
    · rw [List.append_assoc, List.getElem?_append_right (by simp; omega), List.getElem?_append_left (by simp; omega)] at hx
      simp only [List.length_take] at hx
      rw [Nat.min_eq_left (by omega)] at hx
      have hlt : j - o < us.length := by omega
      obtain ⟨q1, q2⟩ := hv (j - o) x us[j - o] hx (List.getElem?_eq_getElem hlt)
      refine ⟨q2, us[j - o], ?_, q1⟩
      rw [List.append_assoc, List.getElem?_append_right (by simp; omega), List.getElem?_append_left (by simp; omega)]
      simp only [List.length_take, Array.length_toList]
      rw [Nat.min_eq_left (by omega)]
      exact List.getElem?_eq_getElem hlt
    · rw [List.append_assoc, List.getElem?_append_right (by simp; omega), List.getElem?_append_right (by simp; omega)] at hx
      simp only [List.length_take, List.getElem?_drop] at hx
      rw [Nat.min_eq_left (by omega)] at hx
      have e : o + vs.length + (j - o - vs.length) = j := by omega
      rw [e] at hx
      obtain ⟨q1, y, q2, q3⟩ := h j x hx
      refine ⟨q1, y, ?_, q3⟩
      rw [List.append_assoc, List.getElem?_append_right (by simp; omega), List.getElem?_append_right (by simp; omega)]
      simp only [List.length_take, List.getElem?_drop, Array.length_toList]
      rw [Nat.min_eq_left (by omega)]
      have e' : o + us.length + (j - o - us.length) = j := by omega
      rw [e']
      simpa using q2
theorem splice_len {cells vs : List Value} {o : Nat} (hfit : o + vs.length ≤ cells.length) : (splice cells o vs).length = cells.length := by
  unfold AM.splice; simp; omega

end
end Go.Proofs.Ytdijnohbbgbklaa.AM
