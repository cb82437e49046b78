/- Lemmas of the laws RestrictSubst, MatchTerm, VarsOfTerm. -/
import Derived.Test.YtehebodcpmofoaaLB
import Derived.Test.YtehebodcpmofoaaC17
namespace Go.Proofs.Ytehebodcpmofoaa.AM
open Go Go.Proofs
set_option linter.unusedVariables false
set_option linter.unusedSimpArgs false
set_option maxRecDepth 100000

theorem size_of_toList {a b : ByteArray} (h : a.toList = b.toList) : a.size = b.size := by
  rw [Lib.toList_data, Lib.toList_data] at h
  have : a = b := ByteArray.ext (Array.ext' h)
  rw [this]
theorem findB_nm {nm : ByteArray} {t : T} : ∀ {bs : List Bnd}, findB nm bs = some t → ∃ b ∈ bs, b.tm = t ∧ b.nm.size = nm.size := by
  intro bs
  induction bs with
  | nil => intro h; cases h
  | cons b bs ih =>
    intro h
    simp only [findB] at h
    split at h
    · cases h
      rename_i hq
      exact ⟨b, by simp, rfl, size_of_toList (by simpa using hq)⟩
    · obtain ⟨c, h1, h2⟩ := ih h
      exact ⟨c, by simp [h1], h2⟩
theorem restr_mem {bs : List Bnd} {ns : List ByteArray} {x : Bnd} (h : x ∈ restr bs ns) : findB x.nm bs = some x.tm := by
  unfold restr at h
  obtain ⟨n, hn, h2⟩ := List.mem_filterMap.1 h
  cases hf : findB n bs with
  | none => rw [hf] at h2; cases h2
  | some t => rw [hf] at h2; cases h2; exact hf
theorem Lim.restr {B : Nat} {bs : List Bnd} {ns : List ByteArray} (h : ∀ b ∈ bs, Lim B b.tm) : ∀ b ∈ AM.restr bs ns, Lim B b.tm := fun x hx => by
  obtain ⟨b, h1, h2, _⟩ := findB_nm (restr_mem hx)
  rw [← h2]; exact h b h1
theorem wtL_le {α : Type} [Wt α] {B : Nat} {l : List α} (h : ∀ x ∈ l, Wt.wt x ≤ B) : wtL l ≤ l.length * B := by
  induction l with
  | nil => simp [wtL]
  | cons x xs ih =>
    have h1 := h x (by simp)
    have h2 := ih fun y hy => h y (by simp [hy])
    simp only [wtL, List.length_cons, Nat.add_mul]
    omega
theorem restr_wt {B : Nat} {bs : List Bnd} {ns : List ByteArray} (h : ∀ b ∈ bs, Wt.wt b ≤ B) : ∀ b ∈ restr bs ns, Wt.wt b ≤ B := fun x hx => by
  obtain ⟨b, h1, h2, h3⟩ := findB_nm (restr_mem hx)
  have h4 := h b h1
  have h5 : Wt.wt b = b.nm.size + b.tm.wt := rfl
  have h6 : Wt.wt x = x.nm.size + x.tm.wt := rfl
  rw [h2] at h5
  omega
theorem restr_big {bs : List Bnd} {ns : List ByteArray} (h1 : wtL bs ≤ 1048576) (h2 : ns.length ≤ 1048576) : wtL (restr bs (namesB ns)) ≤ 1099511627776 ∧ (restr bs (namesB ns)).length ≤ 1048576 := by
  have h3 := wtL_le (B := 1048576) (restr_wt (bs := bs) (ns := namesB ns) (B := 1048576) fun b hb => Nat.le_trans (wt_mem hb) h1)
  have h4 := restr_len bs (namesB ns)
  have h5 := names_length ns
  have h6 : (restr bs (namesB ns)).length * 1048576 ≤ 1048576 * 1048576 := Nat.mul_le_mul_right _ (by omega)
  omega
theorem T.matF_wt (B : Nat) : ∀ (p t : T) (l l' : List Bnd), T.matF p t l = some l' → p.wt + t.wt ≤ B → (∀ b ∈ l, Wt.wt b ≤ B) → ∀ b ∈ l', Wt.wt b ≤ B := by
  refine T.ind fun k n nm ps ih t l l' h ht hl => ?_
  obtain ⟨k', n', nm', ts⟩ := t
  cases hk : (k == 1) with
  | true =>
    rw [T.matF_var hk] at h
    split at h
    · split at h
      · cases h; exact hl
      · cases h
    · cases h
      intro b hb
      rcases List.mem_append.1 hb with hb | hb
      · exact hl b hb
      · cases List.mem_singleton.1 hb
        have h6 : Wt.wt (⟨nm, .mk k' n' nm' ts⟩ : Bnd) = nm.size + (T.mk k' n' nm' ts).wt := rfl
        have h7 : (T.mk k n nm ps).wt = nm.size + ps.length + T.wtL ps := by simp only [T.wt]
        omega
  | false =>
    rw [T.matF_app hk] at h
    split at h
    · have hL : ∀ (qs : List T), (∀ q ∈ qs, ∀ t l l', T.matF q t l = some l' → q.wt + t.wt ≤ B → (∀ b ∈ l, Wt.wt b ≤ B) → ∀ b ∈ l', Wt.wt b ≤ B) →
          ∀ us l l', T.matL qs us l = some l' → T.wtL qs + T.wtL us ≤ B → (∀ b ∈ l, Wt.wt b ≤ B) → ∀ b ∈ l', Wt.wt b ≤ B := by
        intro qs
        induction qs with
        | nil => intro _ us l l' h _ hl; simp only [T.matL, Option.some.injEq] at h; subst h; exact hl
        | cons q qs ihq =>
          intro hq us l l' h hu hl
          cases us with
          | nil => simp only [T.matL, Option.some.injEq] at h; subst h; exact hl
          | cons u us =>
            simp only [T.matL] at h
            simp only [T.wtL] at hu
            cases hm : T.matF q u l with
            | none => rw [hm] at h; cases h
            | some l1 =>
              rw [hm] at h
              exact ihq (fun q' hq' => hq q' (by simp [hq'])) us l1 l' h (by omega) (hq q (by simp) u l l1 hm (by omega) hl)
      refine hL ps ih ts l l' h ?_ hl
      simp only [T.wt] at ht
      omega
    · cases h
theorem mres_big {p t : T} (h1 : p.wt + t.wt ≤ 1048576) : wtL (T.mres p t) ≤ 1099512676352 ∧ (T.mres p t).length ≤ 1048577 := by
  unfold T.mres
  split
  · rename_i l hm
    have h2 := T.matF_wt 1048576 p t [] l hm h1 (by simp)
    have h3 := wtL_le (restr_wt (ns := namesB (namesB (T.vars p))) h2)
    have h4 := restr_len l (namesB (namesB (T.vars p)))
    have h5 := names_length (namesB (T.vars p))
    have h6 := names_length (T.vars p)
    have h7 := T.vars_len p
    have h8 : (restr l (namesB (namesB (T.vars p)))).length * 1048576 ≤ 1048577 * 1048576 := Nat.mul_le_mul_right _ (by omega)
    omega
  · simp [wtL]
theorem Lim.mres {p t : T} (ht : Lim 1073741824 t) : ∀ b ∈ T.mres p t, Lim 1073741824 b.tm := by
  unfold T.mres
  split
  · rename_i l hm
    exact Lim.restr (T.matF_ok p t [] l hm ht (by simp)).2
  · simp
end Go.Proofs.Ytehebodcpmofoaa.AM
