/- evalEff is sound. -/
import Derived.Test.YtdijnohbbgbklaaH6
import Derived.Deep.AppendSrc
namespace Go.Proofs.Ytdijnohbbgbklaa.AM
open Go
set_option linter.unusedVariables false
set_option linter.unusedSimpArgs false

section
variable {P : Program} {B : Base} {M M' : List ME} {L : Nat → Nat} {n : Nat} {fr : Fr} {st st' : St} {a : Act} {w w' : World}

def EffOk (P : Program) (B : Base) (n : Nat) (fr : Fr) (a : Act) (w : World) (o : Oper) (v : Value) (loc' : Nat → Nat × List Value) (st' : St) : Prop :=
  ∃ nx v' w' M' L', (execOp a.eval o).run P w = .ok nx w' ∧ (nx = .value v' ∨ nx = .skip ∧ v' = undef) ∧ VF M' L' loc' v v' ∧ Rel P B M' L' n ⟨fr.env, loc'⟩ st' a w'

theorem get_last {α : Type} (l : List α) (x : α) : (l ++ [x])[l.length]? = some x := by simp

theorem allocA_sound (R : Rel P B M L n fr st a w) {H : List Tmp} {d : Tmp} {z : List Value} {t : TypeId} {c : Array Value} {v : Value} {loc' : Nat → Nat × List Value} (hl : c.size = z.length) (hc : CR M z c)
    (h : allocA H d z t fr.loc st = (v, loc', st')) : ∃ M' L', VF M' L' loc' v (.pointer (some ⟨w.heap.size, 0, none⟩)) ∧ Rel P B M' L' n ⟨fr.env, loc'⟩ st' a (w.alloc (.cells c t (0, 0))) := by
  unfold allocA at h
  split at h
  · simp only [Prod.mk.injEq] at h
    obtain ⟨rfl, rfl, rfl⟩ := h
    refine ⟨_, L, VR.vf ?_, R.alloc z c t (by omega) hc⟩
    have := VR.ptr (M := M ++ [⟨w.heap.size, c.size, P.cellsOf t, true⟩]) st.length 0 ⟨w.heap.size, c.size, P.cellsOf t, true⟩ (by rw [← R.heap.len]; exact get_last _ _)
    exact this
  · simp only [Prod.mk.injEq] at h
    obtain ⟨rfl, rfl, rfl⟩ := h
    refine ⟨M, upd L d w.heap.size, ⟨by rw [upd_same]; exact Nat.le_refl _, fun _ _ => by rw [upd_same]⟩, R.allocLocal d z c t hl hc⟩

theorem storeA_sound (R : Rel P B M L n fr st a w) {t : TypeId} {x v x' v' : Value} {loc' : Nat → Nat × List Value} (hx : VF M L fr.loc x x') (hv : VF M L fr.loc v v') (h : storeA P t x v fr.loc st = some (loc', st')) :
    ∃ w', (Instr.storeAt t x' v').run P w = .ok () w' ∧ Rel P B M L n ⟨fr.env, loc'⟩ st' a w' := by
  unfold storeA at h
  split at h
  · rename_i hok
    have hcells := (hv.vr (okv_loc hok)).cells (okv_tup hok)
    have hv1 : ∀ (j : Nat) x y, v.cells.toList[j]? = some x → v'.cells.toList[j]? = some y → VR M x y ∧ one x = true := fun j x y h1 h2 =>
      ⟨hcells.rel j x y (by simpa using h1) (by simpa using h2), hcells.one j x (by simpa using h1)⟩
    have hone' : ∀ u ∈ v'.cells.toList, u.oneCell' = true := by
      intro u hu
      obtain ⟨j, hj, e⟩ := List.getElem_of_mem hu
      have hj' : j < v.cells.size := by rw [hcells.size]; simpa using hj
      have := hcells.rel j v.cells[j] u (Array.getElem?_eq_getElem hj') (by rw [← e]; simp)
      exact this.one_eq.trans (hcells.one j _ (Array.getElem?_eq_getElem hj'))
    split at h
    · rename_i b o ver sz hsz
      split at h
      · rename_i hc
        obtain ⟨c1, c2, c3, c4⟩ := hc
        simp only [Option.some.injEq, Prod.mk.injEq] at h
        obtain ⟨rfl, rfl⟩ := h
        obtain rfl := hx.2 c1 c2.symm
        obtain ⟨c, ty, q1, q2, q3, q4, q5⟩ := R.loc b (by omega)
        have hst := run_storeCells_at P (L b) o ty v'.cells.toList 0 c w q1 (by simp only [Array.length_toList]; rw [← hcells.size]; omega) hone'
        simp only [Nat.add_zero] at hst
        refine ⟨_, ?_, R.storeLocal b ver c1 c2 _ _ ?_ (q3.splice (us := v'.cells.toList) (by simp [hcells.size]) (by simp; omega) (by omega) hv1)⟩
        · simp only [Instr.storeAt, Instr.sureAddr, storeVar, Sem.run_bind, Sem.run_pure, Result.andThen_ok, run_sizeOf hsz]
          rw [if_neg (by rw [← hcells.size, c3]; simp)]
          simpa using hst
        · rw [splice_len (by simp; omega)]
          simp only [List.size_toArray, List.length_append, List.length_take, List.length_drop, Array.length_toList, ← hcells.size]
          omega
      · cases h
    · rename_i b o sz hsz
      split at h
      · rename_i blk hb
        split at h
        · rename_i hc
          obtain ⟨c1, c2, c3⟩ := hc
          simp only [Option.some.injEq, Prod.mk.injEq] at h
          obtain ⟨rfl, rfl⟩ := h
          have hx' : VR M (.pointer (some ⟨b, o, none⟩)) x' := hx
          have hm : ∃ m, M[b]? = some m ∧ x' = .pointer (some ⟨m.b, o, none⟩) := by
            cases hx' with
            | fl _ hf => cases hf
            | ptr i o m hm => exact ⟨m, hm, rfl⟩
          obtain ⟨m, hm, rfl⟩ := hm
          obtain ⟨c, q1, q2, q3, q4, q5⟩ := R.heap.blk b blk m hb hm (by omega) (fun e => by have := e.1; omega)
          replace q1 := q1.live (by omega)
          have hst := run_storeCells_at P m.b o blk.ty v'.cells.toList 0 c w q1 (by simp only [Array.length_toList]; rw [← hcells.size]; omega) hone'
          simp only [Nat.add_zero] at hst
          have hsp := splice_len (cells := blk.cells) (vs := v.cells.toList) (o := o) (by simp; omega)
          have hcr := (CRs.cr q4 (by omega)).splice (us := v'.cells.toList) (vs := v.cells.toList) (o := o) (by simp [hcells.size]) (by simp; omega) (by omega) hv1
          have hH := R.heap.set hb hm c1 q1 (splice blk.cells o v.cells.toList) _ (by
            simp only [List.size_toArray, List.length_append, List.length_take, List.length_drop, Array.length_toList, ← hcells.size]; omega) (by omega) hcr
          refine ⟨_, ?_, R.heapStep (Mono.refl M) hH (by simp) (fun k hk hkm => setRow_other w _ k _ (fun e => hkm b m hm e.symm)) fun i m hm => .inl ⟨i, m, hm, rfl⟩⟩
          simp only [Instr.storeAt, Instr.sureAddr, storeVar, Sem.run_bind, Sem.run_pure, Result.andThen_ok, run_sizeOf hsz]
          rw [if_neg (by rw [← hcells.size, c2]; simp)]
          simpa using hst
        · cases h
      · cases h
    · cases h
  · cases h

theorem zrow_len (z : List Value) (k : Nat) : (zrow z k).length = k := by simp [zrow]
theorem zrow_flat {z : List Value} (h : ∀ x ∈ z, flat1 x = true) (hz : 0 < z.length) (k : Nat) : ∀ x ∈ zrow z k, flat1 x = true := by
  intro x hx
  unfold zrow at hx
  obtain ⟨i, _, rfl⟩ := List.mem_map.1 hx
  have hlt : i % z.length < z.toArray.size := by simpa using Nat.mod_lt _ hz
  rw [getElem!_pos z.toArray _ hlt]
  exact h _ (by simp)
theorem zrow_arr (z : List Value) (k : Nat) : ((Array.range k).map fun i => z.toArray[i % z.toArray.size]!) = (zrow z k).toArray := by
  apply Array.ext'
  simp [zrow]
theorem zrow_take (z : List Value) {j k : Nat} (h : j ≤ k) : (zrow z k).take j = zrow z j := by
  unfold zrow
  rw [← List.map_take, List.take_range, Nat.min_eq_left h]

theorem CR.take {xs : List Value} {c : Array Value} (h : CR M xs c) (k : Nat) : CR M (xs.take k) c := fun j x hx => by
  rw [List.getElem?_take] at hx
  split at hx
  · exact h j x hx
  · cases hx
theorem CR.app {xs ys us : List Value} {c : Array Value} (h : CR M xs c) (hc : c.size = xs.length) (hl : us.length = ys.length) (hv : ∀ (j : Nat) x y, ys[j]? = some x → us[j]? = some y → VR M x y) (h1 : ∀ (j : Nat) x, ys[j]? = some x → one x = true) (rest : Array Value) :
    CR M (xs ++ ys) (c ++ us.toArray ++ rest) := by
  intro j x hx
  rcases Nat.lt_or_ge j xs.length with h2 | h2
  · rw [List.getElem?_append_left h2] at hx
    obtain ⟨q1, y, q2, q3⟩ := h j x hx
    refine ⟨q1, y, ?_, q3⟩
    rw [Array.append_assoc, Array.getElem?_append_left (by omega)]; exact q2
  · rw [List.getElem?_append_right h2] at hx
    have hlt : j - xs.length < ys.length := (List.getElem?_eq_some_iff.1 hx).1
    refine ⟨h1 _ _ hx, us[j - xs.length]'(by omega), ?_, hv _ _ _ hx (List.getElem?_eq_getElem (by omega))⟩
    rw [Array.getElem?_append_left (by simp; omega), Array.getElem?_append_right (by omega), hc]
    simp

theorem szA_info {t : TypeId} {k : Nat} (h : szA P t = some k) : ∃ i, P.info? t = some i ∧ i.size = k ∧ P.cellsOf t = k ∧ ∀ b, bytA P t = some b → i.bytes = b := by
  unfold szA at h
  cases hi : P.info? t with
  | none => simp [hi] at h
  | some i =>
    simp only [hi, Option.map_some, Option.some.injEq] at h
    exact ⟨i, rfl, h, by simp [Program.cellsOf, hi, h], fun b hb => by simpa [bytA, hi] using hb⟩

theorem newsA_sound (R : Rel P B M L n fr st a w) {u : TypeId} {sz k : Nat} {x x' : Value} {cs : List Value} (hx : VF M L fr.loc x x') (h : newsA P u sz x st = some (k, cs)) :
    ∃ (us : List Value), Src P sz u x' k us w ∧ us.length = cs.length ∧ (∀ (j : Nat) x y, cs[j]? = some x → us[j]? = some y → VR M x y) ∧ (∀ (j : Nat) x, cs[j]? = some x → one x = true) := by
  unfold newsA at h
  split at h
  · rename_i e hu
    simp only [Option.some.injEq, Prod.mk.injEq] at h
    obtain ⟨rfl, rfl⟩ := h
    obtain rfl := hx.flat rfl
    exact ⟨[], Src.ofNil w hu 0, rfl, by simp, by simp⟩
  · rename_i e hu
    simp only [Option.some.injEq, Prod.mk.injEq] at h
    obtain ⟨rfl, rfl⟩ := h
    have hv : VR M (.slice (some ⟨0, 0, some 0⟩) 0 0) x' := hx.vr rfl
    cases hv with
    | fl _ hf => cases hf
    | emp a => exact ⟨[], Src.ofSlice w hu a 0 0 [] (by simp) (by simp) (by simp), rfl, by simp, by simp⟩
  · rename_i e b o kk q hu
    cases hcs : cellsFrom (cell st b) o (kk * sz) with
    | none => simp [hcs] at h
    | some cs' =>
      simp only [hcs, Option.map_some, Option.some.injEq, Prod.mk.injEq] at h
      obtain ⟨rfl, rfl⟩ := h
      obtain ⟨m, o', c, hm, hnc, hoc, rfl⟩ := hx.sl_
      have hl := cellsFrom_len hcs
      have hcell := fun (j : Nat) x (hx : cs'[j]? = some x) => R.cell (A := []) (o := o) (g := m.b) (sp := none) (VR.vf (VR.ptr b o m hm)) (cellsFrom_get hcs j x hx)
      obtain ⟨ys, hyl, hy1, hy2⟩ := row_exists (w := w) (M := M) (g := m.b) (o := o) hcell
      have hy1' : ∀ (j : Nat) y, ys[j]? = some y → w.cell? ((⟨m.b, o', none⟩ : Addr).add j) = some y := by
        intro j y hj
        rcases hoc with ⟨rfl, _⟩ | h0
        · exact hy1 j y hj
        · have hk : kk = 0 := by omega
          subst hk
          have : ys = [] := List.eq_nil_of_length_eq_zero (by rw [hyl, hl]; simp)
          subst this
          simp at hj
      refine ⟨ys, Src.ofSlice w hu _ _ _ ys (by omega) hy1' fun u hu => ?_, hyl, hy2, fun j x hx => (hcell j x hx).1⟩
      obtain ⟨j, hj, e⟩ := List.getElem_of_mem hu
      have hj' : j < cs'.length := by omega
      have h1 := hcell j _ (List.getElem?_eq_getElem hj')
      have h2 := hy2 j _ u (List.getElem?_eq_getElem hj') (by rw [← e]; exact List.getElem?_eq_getElem hj)
      exact h2.one_eq.trans h1.1
  · rename_i q hu
    split at h
    · rename_i h1
      simp only [Option.some.injEq, Prod.mk.injEq] at h
      obtain ⟨rfl, rfl⟩ := h
      obtain rfl := hx.flat rfl
      subst h1
      refine ⟨strCells q, Src.ofString w hu q, rfl, fun j x y hx hy => ?_, fun j x hx => ?_⟩
      · rw [hx] at hy; obtain rfl := Option.some.inj hy
        obtain ⟨i, _, rfl⟩ := List.mem_map.1 (List.mem_of_getElem? hx)
        exact .fl _ rfl
      · obtain ⟨i, _, rfl⟩ := List.mem_map.1 (List.mem_of_getElem? hx)
        rfl
    · cases h
  · cases h

theorem run_append_room_src' (t tx ty e : TypeId) (i : TypeInfo) (ht : P.underlying t = some (.slice e)) (hi : P.info? e = some i)
    (g sLen sCap : Nat) (cur : Array Value) (te : TypeId) (hg : w.heap[g]? = some (.cells cur te (0, 0))) (x : Value) (k : Nat) (news : List Value) (hs : Src P i.size tx x k news w)
    (hroom : sLen + k ≤ sCap) (hfit : sLen * i.size + news.length ≤ cur.size) :
    (Builtin.append_ #[t, tx] ty #[.slice (some ⟨g, 0, none⟩) sLen sCap, x]).run P w =
      .ok (.slice (some ⟨g, 0, none⟩) (sLen + k) sCap) (w.setRow g (cur.toList.take (sLen * i.size) ++ news ++ cur.toList.drop (sLen * i.size + news.length)).toArray) := by
  have hst := run_storeCells_at P g (sLen * i.size) te news 0 cur w hg (by simpa using hfit) hs.one
  simp only [Nat.add_zero] at hst
  have hl := hs.len
  have hc := hs.cells
  rcases hs.kind with ⟨e', hk⟩ | hk <;>
    simp [Builtin.append_, run_underlying ht, run_underlying hk, sizeOf, typeInfo, hi, hl, hroom, hc, addr_add, hst]

theorem zrow_cells {z : List Value} {zv : Value} (h : zv.cells = z.toArray) (k : Nat) : (Builtin.zeroCells zv.cells k).size = k * z.length := by
  simp [Builtin.zeroCells, h]

theorem appendA_sound (R : Rel P B M L n fr st a w) {t u ty : TypeId} {s x s' x' v : Value} (hs : VF M L fr.loc s s') (hx : VF M L fr.loc x x') (h : appendA P t u s x st = some (v, st')) :
    ∃ v' w' M', (Builtin.append_ #[t, u] ty #[s', x']).run P w = .ok v' w' ∧ VR M' v v' ∧ Rel P B M' L n fr st' a w' := by
  unfold appendA at h
  split at h
  · cases h
  · rename_i e he
    have ht := elemA_eq he
    split at h
    · rename_i sz by_ z hsz hby hz
      obtain ⟨i, hi, hisz, hcells, hib⟩ := szA_info hsz
      replace hisz : i.size = sz + 1 := hisz
      replace hcells : P.cellsOf e = sz + 1 := hcells
      have hbytes := hib by_ hby
      split at h
      · cases h
      · rename_i k cs hnews
        obtain ⟨us, hsrc, hul, hv, h1⟩ := newsA_sound R hx hnews
        replace hsrc : Src P (sz + 1) u x' k us w := hsrc
        have hzc : ∃ zv, i.zero = some zv ∧ zv.cells = z.toArray := by
          unfold zeroA at hz
          rw [hi] at hz
          split at hz
          · rename_i i' heq
            obtain rfl := Option.some.inj heq
            split at hz
            · rename_i zv hzv
              split at hz
              · simp only [Option.some.injEq] at hz; subst hz; exact ⟨zv, hzv, by simp⟩
              · cases hz
            · cases hz
          · cases hz
        obtain ⟨zv, hzv, hzvc⟩ := hzc
        have hsrc' : Src P i.size u x' k us w := by rw [hisz]; exact hsrc
        split at h
        · rename_i hzl
          split at h
          · -- onto nil
            obtain rfl := hs.flat rfl
            split at h
            · rename_i hk
              simp only [Option.some.injEq, Prod.mk.injEq] at h
              obtain ⟨rfl, rfl⟩ := h
              subst hk
              have hus : us = [] := List.eq_nil_of_length_eq_zero (by rw [hsrc.newsLen]; simp)
              subst hus
              refine ⟨.slice none 0 0, w, M, ?_, .fl _ rfl, R⟩
              have hl := hsrc'.len
              have hc := hsrc'.cells
              rcases hsrc'.kind with ⟨e', hkd⟩ | hkd <;>
                simp [Builtin.append_, run_underlying ht, run_underlying hkd, sizeOf, typeInfo, hi, hl, hc, storeCells]
            · rename_i hk
              split at h
              · rename_i hb
                simp only [Option.some.injEq, Prod.mk.injEq] at h
                obtain ⟨rfl, rfl⟩ := h
                have hold : (Builtin.firstCells i.size 0 (.slice none 0 0)).run P w.drew = .ok ([] : List Value).toArray w.drew := run_firstCells_none w.drew i.size 0 0 0
                have hr := run_append_grow_src (P := P) w t u ty e i zv ht hi hzv none 0 0 [] hold x' k us hsrc' (by omega) (by omega) (by rw [hbytes, Nat.zero_add, nextslicecap_zero (by omega)]; omega)
                simp only [Nat.zero_add, List.nil_append] at hr
                have hcap := grownCap_ge w k 0 e
                have hcsz : (us.toArray ++ Builtin.zeroCells zv.cells (grownCap w k 0 e - k)).size = grownCap w k 0 e * (sz + 1) := by
                  rw [Array.size_append, zrow_cells hzvc, hzl, List.size_toArray, hsrc.newsLen, ← Nat.add_mul]; congr 1; omega
                have hcr : CR M cs (us.toArray ++ Builtin.zeroCells zv.cells (grownCap w k 0 e - k)) := by
                  have := CR.app (M := M) (xs := []) (c := #[]) (ys := cs) (us := us) (fun j x hx => by simp at hx) rfl hul hv h1 (Builtin.zeroCells zv.cells (grownCap w k 0 e - k))
                  simpa using this
                have hR := R.drew.alloc cs _ e (by rw [hcsz, ← hul, hsrc.newsLen]; exact Nat.mul_le_mul_right _ hcap) hcr
                refine ⟨_, _, _, hr, ?_, hR⟩
                have hm := get_last M (⟨w.drew.heap.size, (us.toArray ++ Builtin.zeroCells zv.cells (grownCap w k 0 e - k)).size, P.cellsOf e, true⟩ : ME)
                rw [R.heap.len] at hm
                refine VR.sl (M := M ++ [_]) _ 0 0 k k _ _ hm hcap (.inl ⟨rfl, fun _ _ => ?_⟩)
                simp only [hcsz, hcells]; exact Nat.le_refl _
              · cases h
          · rename_i b len kk
            obtain ⟨m, o', c, hm, hnc, hoc, rfl⟩ := hs.sl_
            split at h
            · rename_i hk
              simp only [Option.some.injEq, Prod.mk.injEq] at h
              obtain ⟨rfl, rfl⟩ := h
              subst hk
              have hus : us = [] := List.eq_nil_of_length_eq_zero (by rw [hsrc.newsLen]; simp)
              subst hus
              refine ⟨.slice (some ⟨m.b, o', none⟩) len c, w, M, ?_, VR.sl _ _ _ _ _ _ m hm hnc hoc, R⟩
              have hl := hsrc'.len
              have hc := hsrc'.cells
              rcases hsrc'.kind with ⟨e', hkd⟩ | hkd <;>
                simp [Builtin.append_, run_underlying ht, run_underlying hkd, sizeOf, typeInfo, hi, hl, hc, storeCells, hnc]
            · rename_i hk
              split at h
              · rename_i blk hblk
                split at h
                · rename_i hcond
                  obtain ⟨c1, c2, c3, c4, c5⟩ := hcond
                  subst c2
                  replace c3 : len * (sz + 1) ≤ blk.cells.length := c3
                  simp only [Option.some.injEq, Prod.mk.injEq] at h
                  obtain ⟨rfl, rfl⟩ := h
                  obtain ⟨c0, q1, q2, q3, q4, q5⟩ := R.heap.blk b blk m hblk hm (by omega) (fun e => by have := e.1; omega)
                  replace q1 := q1.live (by omega)
                  obtain ⟨q6, q7⟩ := q5 c1
                  have hsz' : m.sz = sz + 1 := q7.trans hcells
                  have ho' : c = 0 ∨ (o' = 0 ∧ c * m.sz ≤ m.n) := by
                    rcases hoc with ⟨e0, hcap⟩ | h0
                    · exact .inr ⟨e0, hcap rfl q6⟩
                    · exact .inl h0
                  have htake : CR M (blk.cells.take (len * (sz + 1))) c0 := (CRs.cr q4 (by omega)).take _
                  have hlen' : (blk.cells.take (len * (sz + 1))).length = len * (sz + 1) := by simp; omega
                  have hcslen : cs.length = k * (sz + 1) := by rw [← hul, hsrc.newsLen]
                  by_cases hroom : len + k ≤ c
                  · rcases ho' with h0 | ⟨rfl, hcap⟩
                    · omega
                    · have hroom2 : (len + k) * (sz + 1) ≤ m.n := Nat.le_trans (Nat.mul_le_mul_right _ hroom) (by rw [← hsz']; exact hcap)
                      rw [Nat.add_mul] at hroom2
                      have hfit : len * i.size + us.length ≤ c0.size := by rw [hisz, hul, hcslen]; omega
                      have hr := run_append_room_src' (P := P) (w := w) t u ty blk.ty i ht hi m.b len c c0 blk.ty q1 x' k us hsrc' hroom hfit
                      rw [hisz] at hr
                      have hcr : CR M (blk.cells.take (len * (sz + 1)) ++ cs) (c0.toList.take (len * (sz + 1)) ++ us ++ c0.toList.drop (len * (sz + 1) + us.length)).toArray := by
                        have hh := CR.app (M := M) (xs := blk.cells.take (len * (sz + 1))) (c := (c0.toList.take (len * (sz + 1))).toArray) (ys := cs) (us := us) (fun j x hx => by
                          obtain ⟨p1, y, p2, p3⟩ := htake j x hx
                          refine ⟨p1, y, ?_, p3⟩
                          have hj : j < len * (sz + 1) := by have := (List.getElem?_eq_some_iff.1 hx).1; omega
                          simp only [List.getElem?_toArray, List.getElem?_take, if_pos hj]
                          simpa using p2) (by simp; omega) hul hv h1 (c0.toList.drop (len * (sz + 1) + us.length)).toArray
                        simpa using hh
                      have hH := R.heap.regrow hblk hm c1 q1 (blk.cells.take (len * (sz + 1)) ++ cs) _ (by
                        simp only [List.size_toArray, List.length_append, List.length_take, List.length_drop, Array.length_toList]; omega) (by rw [List.length_append, hlen', hcslen]; omega) hcr
                      refine ⟨_, _, _, hr, ?_, R.heapStep (Mono.app M [m]) hH (by simp) (fun kk hkk hkm => setRow_other w _ kk _ (fun e => hkm b m hm e.symm)) fun j m' hm' => .inl ?_⟩
                      · have hm2 := get_last M m
                        rw [R.heap.len] at hm2
                        exact VR.sl (M := M ++ [m]) _ 0 0 _ _ _ m hm2 hroom (.inl ⟨rfl, fun _ _ => hcap⟩)
                      · rcases Nat.lt_or_ge j M.length with hj | hj
                        · rw [List.getElem?_append_left hj] at hm'; exact ⟨j, m', hm', rfl⟩
                        · rw [List.getElem?_append_right hj] at hm'
                          have hmem := List.mem_of_getElem? hm'
                          simp only [List.mem_singleton] at hmem
                          subst hmem
                          exact ⟨b, m', hm, rfl⟩
                  · have hold' : ∃ os : List Value, os.length = len * (sz + 1) ∧ (Builtin.firstCells i.size len (.slice (some ⟨m.b, o', none⟩) len c)).run P w.drew = .ok os.toArray w.drew ∧ ∀ (j : Nat) x y, (blk.cells.take (len * (sz + 1)))[j]? = some x → os[j]? = some y → VR M x y := by
                      rcases Nat.eq_zero_or_pos len with h0 | hpos
                      · subst h0
                        refine ⟨[], by simp, ?_, by simp⟩
                        have := run_firstCells_some (P := P) w.drew i.size 0 ⟨m.b, o', none⟩ 0 c [] (by simp) (by simp)
                        simpa using this
                      · have ho2 : o' = 0 := by rcases ho' with h0 | ⟨h0, _⟩ <;> omega
                        subst ho2
                        obtain ⟨ys, hyl, hy1, hy2⟩ := row_exists (w := w) (M := M) (g := m.b) (o := 0) (cs := blk.cells.take (len * (sz + 1))) (fun j x hx => by
                          obtain ⟨p1, y, p2, p3⟩ := htake j x hx
                          exact ⟨p1, y, by simp [World.cell?, q1, p2], p3⟩)
                        refine ⟨ys, by omega, ?_, hy2⟩
                        exact run_firstCells_some (P := P) w.drew i.size len ⟨m.b, 0, none⟩ len c ys (by rw [hisz]; omega) (by simpa using hy1)
                    obtain ⟨os, hol, hold, hov⟩ := hold'
                    have hr := run_append_grow_src (P := P) w t u ty blk.ty i zv ht hi hzv (some ⟨m.b, o', none⟩) len c os hold x' k us hsrc' (by omega) (by omega) (growslice_fits (by omega) (by rw [hbytes]; omega))
                    have hcap := grownCap_ge w (len + k) c blk.ty
                    have hcsz : ((os ++ us).toArray ++ Builtin.zeroCells zv.cells (grownCap w (len + k) c blk.ty - (len + k))).size = grownCap w (len + k) c blk.ty * (sz + 1) := by
                      rw [Array.size_append, zrow_cells hzvc, hzl, List.size_toArray, List.length_append, hol, hsrc.newsLen, ← Nat.add_mul, ← Nat.add_mul]; congr 1; omega
                    have hcr : CR M (blk.cells.take (len * (sz + 1)) ++ cs) ((os ++ us).toArray ++ Builtin.zeroCells zv.cells (grownCap w (len + k) c blk.ty - (len + k))) := by
                      have hh := CR.app (M := M) (xs := blk.cells.take (len * (sz + 1))) (c := os.toArray) (ys := cs) (us := us) (fun j x hx => by
                        obtain ⟨p1, _⟩ := htake j x hx
                        have hj : j < os.length := by have := (List.getElem?_eq_some_iff.1 hx).1; omega
                        exact ⟨p1, os[j], by simp [hj], hov j x _ hx (List.getElem?_eq_getElem hj)⟩) (by simp; omega) hul hv h1 (Builtin.zeroCells zv.cells (grownCap w (len + k) c blk.ty - (len + k)))
                      simpa using hh
                    have hK : Rel P B M L n fr (st.set b { blk with stat := 2 }) a w.drew := R.drew.heapStep (Mono.refl M) (R.drew.heap.kill hblk c1) (Nat.le_refl _) (fun _ _ _ => rfl) fun j m' hm' => .inl ⟨j, m', hm', rfl⟩
                    have hR := hK.alloc (blk.cells.take (len * (sz + 1)) ++ cs) _ blk.ty (by rw [hcsz, List.length_append, hlen', hcslen, ← Nat.add_mul]; exact Nat.mul_le_mul_right _ hcap) hcr
                    refine ⟨_, _, _, hr, ?_, hR⟩
                    have hm2 := get_last M (⟨w.drew.heap.size, ((os ++ us).toArray ++ Builtin.zeroCells zv.cells (grownCap w (len + k) c blk.ty - (len + k))).size, P.cellsOf blk.ty, true⟩ : ME)
                    rw [R.heap.len] at hm2
                    refine VR.sl (M := M ++ [_]) _ 0 0 _ _ _ _ hm2 hcap (.inl ⟨rfl, fun _ _ => ?_⟩)
                    simp only [hcsz, hcells]; exact Nat.le_refl _
                · cases h
              · cases h
          · cases h
        · cases h
    · cases h

end
end Go.Proofs.Ytdijnohbbgbklaa.AM
