/- Regions that draw their order, walked in several orders. -/
import Derived.Test.YtdijnohbbgbklaaH17
namespace Go.Proofs.Ytdijnohbbgbklaa.AM
open Go
set_option linter.unusedVariables false
set_option linter.unusedSimpArgs false

/-- Behind a call one order alone goes on. -/
def goOn (l : List Oper) (e : Nat) (act : List (List (Nat × Bool))) : List (List (Nat × Bool)) := if ((l[e]?).bind fun o => callOf o.op).isSome then act.take 1 else act
def chk1 (l : List Oper) (π : List (Nat × Bool)) : Bool :=
  (π.length == l.length && nodupB (π.map (·.1))) && (List.range l.length).all (fun i => π.any fun p => p.1 == i) && π.all (fun p => decide (p.1 < l.length)) && topoOk l [] π
section
variable {P : Program} {A H : List Tmp} {G : Nat → Option Tmp}
theorem goOn_sub {l : List Oper} {e : Nat} {act : List (List (Nat × Bool))} : ∀ π ∈ goOn l e act, π ∈ act := by
  intro π h
  unfold goOn at h
  split at h
  · exact List.mem_of_mem_take h
  · exact h
theorem WOps_head {o : Oper} {x : Bool} {R : List (Oper × Bool)} {K : Fr → St → Prop} {fr : Fr} {st : St} (h : WOps P A H G ((o, x) :: R) K fr st) : WOps P A H G [(o, x)] (fun fr st => WOps P A H G R K fr st) fr st := by
  unfold WOps at h ⊢
  exact h
theorem WOps_conj {o : Oper} {S : List (List (Nat × Bool))} {Kp : List (Nat × Bool) → Fr → St → Prop} {fr : Fr} {st : St} (hc : callOf o.op = none) (hne : ∃ π, π ∈ S) (h : ∀ π ∈ S, ∃ x, WOps P A H G [(o, x)] (Kp π) fr st) :
    WOps P A H G [(o, false)] (fun fr st => ∀ π ∈ S, Kp π fr st) fr st := by
  obtain ⟨π0, h0⟩ := hne
  obtain ⟨x0, g0⟩ := h π0 h0
  have all : ∀ π ∈ S, (match wantedA G fr.env o with
    | none => False
    | some false => Kp π ⟨put fr.env o.dst undef, fr.loc⟩ st
    | some true => match stepVal P A H o fr st with
        | some (v, l, s) => Kp π ⟨put fr.env o.dst v, l⟩ s
        | none => False) := fun π hπ => by
    obtain ⟨x, g⟩ := h π hπ
    unfold WOps at g
    rw [hc] at g
    exact g
  unfold WOps
  rw [hc]
  have a0 := all π0 h0
  cases hw : wantedA G fr.env o with
  | none => rw [hw] at a0; exact a0
  | some b =>
    cases b with
    | false =>
      simp only [hw] at all
      exact all
    | true =>
      simp only [hw] at all a0
      simp only
      cases hs : stepVal P A H o fr st with
      | none => rw [hs] at a0; exact a0
      | some r =>
        obtain ⟨v, l, s⟩ := r
        simp only [hs] at all
        exact all

end
theorem two {α : Type} {P : α → Prop} {a b : α} (h1 : P a) (h2 : P b) : ∀ x ∈ [a, b], P x := fun x hx => by
  simp only [List.mem_cons, List.not_mem_nil, or_false] at hx
  rcases hx with rfl | rfl
  · exact h1
  · exact h2
end Go.Proofs.Ytdijnohbbgbklaa.AM
