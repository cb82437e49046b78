/- Kinds: bindings. -/
import Derived.Test.YtopjbcfkaggleaaDT
namespace Go.Proofs.Ytopjbcfkaggleaa.AM
open Go
set_option linter.unusedVariables false
set_option linter.unusedSimpArgs false

/-- A binding. -/
structure Bnd where
  nm : ByteArray
  tm : T
def EncB (st : St) (b : Bnd) (cs : List Value) : Prop := ∃ c, cs = .string b.nm :: c ∧ Enc st b.tm c
def OwnB (st : St) (b : Bnd) (cs : List Value) (L : List Nat) : Prop := ∃ c, cs = .string b.nm :: c ∧ Own 36 st b.tm c L
instance : Kind Bnd where
  sz := 5
  e := 39
  enc := EncB
  own := OwnB
  enc_len := fun st b _ h => by obtain ⟨c, rfl, h⟩ := h; have := Kind.enc_len (α := T) st _ _ h; simp; exact this
  enc_ext := fun _ _ b _ hx h => by obtain ⟨c, rfl, h⟩ := h; exact ⟨c, rfl, Enc.ext hx _ _ h⟩
  own_len := fun st b _ _ h => by obtain ⟨c, rfl, h⟩ := h; have := Own.len _ _ _ h; simp; exact this
  own_lt := fun st b _ _ h => by obtain ⟨c, rfl, h⟩ := h; exact Own.lt _ _ _ h
  own_frame := fun _ _ b _ _ hs h => by obtain ⟨c, rfl, h⟩ := h; exact ⟨c, rfl, Own.frame _ _ _ hs h⟩
  own_enc := fun _ b _ _ h => by obtain ⟨c, rfl, h⟩ := h; exact ⟨c, rfl, Own.enc _ _ _ h⟩
instance : Marks Bnd where
  mk1 := fun b k => (⟨mtext k, (b.tm.mk1 (k + 1)).1⟩, (b.tm.mk1 (k + 1)).2)
  mk1_ge := fun b k => by have := (T.mk1_ge b.tm (k + 1)).1; simp only; omega
instance : Wt Bnd := ⟨fun b => b.nm.size + b.tm.wt⟩
abbrev RowB (st : St) (xs : List Bnd) (s : Value) : Prop := Row (EncB st) 5 st xs s
theorem mk1_B {b : Bnd} {k0 n0 : Int} {m : ByteArray} {args : List T} (h : b.tm = .mk k0 n0 m args) (k : Nat) : Marks.mk1 b k = ((⟨mtext k, .mk (k + 1 : Nat) (k + 2 : Nat) (mtext (k + 3)) (T.mkL args (k + 4)).1⟩ : Bnd), (T.mkL args (k + 4)).2) := by
  simp only [Marks.mk1, h, T.mk1]
theorem EncB.open {st : St} {b : Bnd} {cs : List Value} (h : EncB st b cs) : ∃ k n m args s, b.tm = .mk k n m args ∧ cs = [.string b.nm, .int .i64 k, .int .i64 n, .string m, s] ∧ RowT st args s := by
  obtain ⟨c, rfl, h⟩ := h
  obtain ⟨nm, k, n, m, args⟩ := b
  obtain ⟨s, rfl, hr⟩ := h.open
  exact ⟨k, n, m, args, s, rfl, rfl, hr⟩
theorem OwnB.open {st : St} {b : Bnd} {cs : List Value} {L : List Nat} (h : OwnB st b cs L) : ∃ k n m args s, b.tm = .mk k n m args ∧ cs = [.string b.nm, .int .i64 k, .int .i64 n, .string m, s] ∧ SlT st args s L := by
  obtain ⟨c, rfl, h⟩ := h
  obtain ⟨nm, k, n, m, args⟩ := b
  obtain ⟨s, rfl, hr⟩ := h.open
  exact ⟨k, n, m, args, s, rfl, rfl, hr⟩
theorem row_atB {st : St} {xs : List Bnd} {s : Value} (h : Rw st xs s) {j : Nat} {x : Bnd} (hx : xs[j]? = some x) {n : Nat} (hn : xs.length = n := by rfl) : ∃ i o c k m nm args sx, s = .slice (some ⟨i, o, none⟩) n c ∧ x.tm = .mk k m nm args ∧ RowT st args sx ∧ CellsAt st i (o + j * 5) [.string x.nm, .int .i64 k, .int .i64 m, .string nm, sx] := by
  subst hn
  obtain ⟨i, o, c, cs, rfl, _, hE, hc⟩ := row_at h hx
  obtain ⟨k, m, nm, args, sx, h1, rfl, h2⟩ := EncB.open hE
  exact ⟨i, o, c, k, m, nm, args, sx, rfl, h1, h2, hc⟩
end Go.Proofs.Ytopjbcfkaggleaa.AM
