import Derived.Shelf.Sort.Plain
import Derived.Shelf.Slices.CompactS
import Derived.Shelf.Slices.Cells
import Derived.Test.YtlbadolkgfmlgaaWKept
/-! Rows of strings, sorted and made compact by the library: out of the shelf's words into a kind's own. -/
namespace Go.Proofs.YtlbadolkgfmlgaaW.PrintWords
open Go.RowKit Go.Sort
/-- The strings' letters. -/
def chs (xs : List ByteArray) : List (List UInt8) := xs.map (fun b => b.data.toList)
/-- .. and back. -/
def unchs (xs : List (List UInt8)) : List ByteArray := xs.map (fun l => (⟨l.toArray⟩ : ByteArray))
theorem unchs_chs (xs : List ByteArray) : unchs (chs xs) = xs := by
  unfold unchs chs
  rw [List.map_map]
  exact (List.map_congr_left (fun b _ => rfl)).trans (List.map_id xs)
theorem chs_length (xs : List ByteArray) : (chs xs).length = xs.length := by simp [chs]
theorem unchs_length (xs : List (List UInt8)) : (unchs xs).length = xs.length := by simp [unchs]
theorem encs_unchs (xs : List (List UInt8)) : encs Value.string (unchs xs) = xs.map encStr := by
  simp [encs, unchs, encStr]
theorem encs_chs (xs : List ByteArray) : (chs xs).map encStr = encs Value.string xs := by
  rw [← encs_unchs, unchs_chs]
theorem holds_of_R {w : World} {base g cap : Nat} {ok : Nat → Prop} {xs : List ByteArray} (h : Kd.R Kd.string 9 w base ok (.slice (some ⟨g, 0, none⟩) xs.length cap) xs) : Holds encStr w g 0 (chs xs).toArray := by
  intro j hj
  have hj' : j < xs.length := by simpa [chs] using hj
  obtain ⟨h1, h2⟩ := Kd.R_cell (enc := Value.string) (h1 := fun _ => rfl) ByteArray.empty h (j : Int) (by omega) (by omega)
  rw [Int.toNat_natCast] at h1 h2
  rw [Nat.zero_add]
  refine ⟨h1.trans ?_, h2⟩
  have e : (chs xs).toArray[j]! = xs[j].data.toList := by
    rw [getElem!_pos _ j hj]
    simp [chs]
  rw [e]
  simp [encStr, rdOf, List.getD_eq_getElem?_getD, List.getElem?_eq_getElem hj']
/-- The block behind 'putRow'. -/
theorem put_heap (w : World) (g : Nat) (d : Array (List UInt8)) (cur : Array Value) (e : TypeId) (h : w.heap[g]? = some (.cells cur e (0, 0))) : (putRow encStr w g 0 d).heap[g]? = some (.cells (putCells encStr 0 d cur) e (0, 0)) := by
  unfold putRow mapBlock
  simp only [Array.getElem?_modify, if_true, h, Option.map_some, onCells]
theorem put_grown (w : World) (g q : Nat) (d : Array (List UInt8)) (os : Array Obj) : w.grownBy (grow (putRow encStr (Sort.ahead w q) g 0 d) os) (some g) := by
  refine ⟨rfl, rfl, rfl, ?_, ?_⟩
  · show w.heap.size ≤ ((w.heap.modify g (onCells (putCells encStr 0 d))) ++ os).size
    simp
  · intro k hk hne
    show ((w.heap.modify g (onCells (putCells encStr 0 d))) ++ os)[k]? = w.heap[k]?
    rw [Array.getElem?_append_left (by simpa using hk), Array.getElem?_modify, if_neg (fun e => hne (by rw [e]))]
theorem put_take (d : Array (List UInt8)) (cur : Array Value) (n : Nat) (hn : n ≤ d.size) (hc : n ≤ cur.size) : (putCells encStr 0 d cur).toList.take n = (d.toList.take n).map encStr := by
  apply List.ext_getElem?
  intro j
  by_cases hj : j < n
  · rw [List.getElem?_take_of_lt hj, List.getElem?_map, List.getElem?_take_of_lt hj]
    unfold putCells
    rw [Array.getElem?_toList, Array.getElem?_mapIdx, Array.getElem?_eq_getElem (by omega), Array.getElem?_toList, Array.getElem?_eq_getElem (by omega)]
    simp only [Option.map_some, Nat.zero_le, Nat.zero_add, true_and, Nat.sub_zero]
    rw [if_pos (by omega), getElem!_pos _ j (by omega)]
  · rw [List.getElem?_eq_none (by simp; omega), List.getElem?_eq_none (by simp; omega)]
/-- A row's cells written over by the library: the first ones are the row now. -/
theorem R_put_row {w : World} {base g cap q : Nat} {ok : Nat → Prop} {xs : List ByteArray} (ys zs : List (List UInt8)) (os : Array Obj) (h : Kd.R Kd.string 9 w base ok (.slice (some ⟨g, 0, none⟩) xs.length cap) xs) (hl : ys.length + zs.length = xs.length) (hok : ok g) :
    Kd.R Kd.string 9 (grow (putRow encStr (Sort.ahead w q) g 0 (ys ++ zs).toArray) os) base ok (.slice (some ⟨g, 0, none⟩) (unchs ys).length cap) (unchs ys) := by
  have ho := Kd.own_of_R (enc := Value.string) (h1 := fun _ => rfl) h
  obtain ⟨hlen, hrest⟩ := ho
  rcases hrest with ⟨hv, _⟩ | ⟨g', cap', cur, hv, hb, hh, hn, hm, hs, ht⟩
  · cases hv
  · injection hv with hv1 hv2 hv3
    injection hv1 with hv1
    injection hv1 with hv1
    subst hv1
    subst hv3
    refine Kd.R_of_own (enc := Value.string) (h1 := fun _ => rfl) ?_ (fun k hk => by simp [Value.ownBlock] at hk; subst hk; exact hok)
    have hlt : g < w.heap.size := (Array.getElem?_eq_some_iff.1 hh).1
    have hp : (grow (putRow encStr (Sort.ahead w q) g 0 (ys ++ zs).toArray) os).heap[g]? = some (.cells (putCells encStr 0 (ys ++ zs).toArray cur) 9 (0, 0)) := by
      show ((putRow encStr (Sort.ahead w q) g 0 (ys ++ zs).toArray).heap ++ os)[g]? = _
      rw [Array.getElem?_append_left (by show g < (w.heap.modify g _).size; simpa using hlt)]
      exact put_heap _ _ _ _ _ hh
    have hsz : (putCells encStr 0 (ys ++ zs).toArray cur).size = cur.size := by unfold putCells; simp
    have hyl := unchs_length ys
    refine ⟨by simp [encs, unchs], .inr ⟨g, cap, _, rfl, hb, hp, by omega, hm, by rw [hsz]; exact hs, ?_⟩⟩
    rw [Nat.mul_one, put_take _ _ _ (by simp [unchs]) (by rw [hs]; omega), encs_unchs, hyl]
    simp
/-- The strings in their order. -/
def sortB (xs : List ByteArray) : List ByteArray := unchs ((chs xs).mergeSort fun x y => decide (x ≤ y))
/-- No string twice in a row. -/
def compB (xs : List ByteArray) : List ByteArray := unchs (Lib.compact (chs xs))
theorem compact_le (zs : List (List UInt8)) : (Lib.compact zs).length ≤ zs.length := by
  unfold Lib.compact Lib.compactUpTo
  rw [List.length_map]
  have := List.length_filter_le (Lib.keeps zs.toArray) (List.range zs.length)
  simpa using this
theorem sortB_length (xs : List ByteArray) : (sortB xs).length = xs.length := by
  unfold sortB
  rw [unchs_length, List.length_mergeSort, chs_length]
end Go.Proofs.YtlbadolkgfmlgaaW.PrintWords
