-- Written by this session's own programs for this claim.
import Derived.Test.YtdgjddkibiffnaaMFnExactSortOfA
import Derived.Test.YtdgjddkibiffnaaMFnExactSortOfB
import Derived.Test.YtdgjddkibiffnaaMFnExactSortOfC
import Derived.Test.YtdgjddkibiffnaaMFnExactSortOfD
import Derived.Test.YtdgjddkibiffnaaWOpen
import Derived.Test.YtdgjddkibiffnaaWWords
import Derived.Lib.Strings
namespace Go.Proofs.Ytdgjddkibiffnaa.F
open Go.RowKit Go.Proofs.YtdgjddkibiffnaaW.PrintWords Go.Proofs.YtdgjddkibiffnaaW.PrintLast Go.Proofs.YtdgjddkibiffnaaW.PrintMore
attribute [local go_sem] binOp_string_gtr_ binOp_string_geq_ binOp_string_leq_ max2_int min2_int max_two min_two max_three min_three max_four min_four   -- for this text's walks alone
set_option linter.unusedVariables false
set_option linter.unusedSimpArgs false

/-! ### laws_FnExactSortOf: function 10 -/
def laws_FnExactSortOf.f (k : Nat) (l0_0 : List ByteArray) (l0_1 : List (S140)) (a1_0 : Int) (a1_1 : Int) (a1_2 : ByteArray) (l1_3 : List (S24)) (l2 : List (S113)) : Option (Bool) := (laws_szSignature.f k l0_0 l0_1 1048576).bind fun t1166 => (if t1166 < 0 then (some true) else ((laws_szTerm.f k a1_0 a1_1 a1_2 l1_3 t1166).bind fun t1167 => (if t1167 < 0 then (some true) else ((laws_szVarSortS.f k l2 t1167).bind fun t1168 => (if t1168 < 0 then (some true) else ((laws_toSignature.f k l0_0 l0_1).bind fun bt1169 => ((laws_toTerm.f k a1_0 a1_1 a1_2 l1_3).bind fun bt1175 => ((laws_toVarSortS.f k l2).bind fun t1181 => ((spec_SortOf.f k bt1169.1 bt1169.2 bt1175.1 bt1175.2.1 bt1175.2.2.1 bt1175.2.2.2 t1181).bind fun t1184 => ((laws_toSignature.f k l0_0 l0_1).bind fun bt1185 => ((laws_toTerm.f k a1_0 a1_1 a1_2 l1_3).bind fun bt1192 => ((laws_toVarSortS.f k l2).bind fun t1199 => ((impl_SortOf.f k bt1185.1 bt1185.2 bt1192.1 bt1192.2.1 bt1192.2.2.1 bt1192.2.2.2 t1199).bind fun t1202 => (if t1202.toList = t1184.toList then ((laws_toSignature.f k l0_0 l0_1).bind fun bt1203 => ((laws_eqSignature.f k bt1185.1 bt1185.2 bt1203.1 bt1203.2).bind fun t1209 => (if t1209 = true then ((laws_toTerm.f k a1_0 a1_1 a1_2 l1_3).bind fun bt1210 => ((laws_eqTerm.f k bt1192.1 bt1192.2.1 bt1192.2.2.1 bt1192.2.2.2 bt1210.1 bt1210.2.1 bt1210.2.2.1 bt1210.2.2.2).bind fun t1216 => (if t1216 = true then ((laws_toVarSortS.f k l2).bind fun t1217 => ((laws_eqVarSortS.f k t1199 t1217).bind fun t1220 => (if t1220 = true then (some true) else (some false)))) else (some false)))) else (some false)))) else (some false)))))))))))))))
def laws_FnExactSortOf.T11 : Bool × List (List Nat × List Nat) := (true, [([], []), ([0], [0]), ([], []), ([2, 1], [2]), ([], []), ([4, 3], [4]), ([1, 3, 5, 5], [1, 3, 5]), ([6, 6, 0, 1, 2, 3, 4, 5, 6], [6])])
def laws_FnExactSortOf.B11 : List Nat := [0, 1, 0, 7, 0, 31, 63, 127]
theorem laws_FnExactSortOf.tab11 : rtab .any (opsOf Try.f10 11) = laws_FnExactSortOf.T11 := by kernel_rfl
theorem laws_FnExactSortOf.bits11 : waitsOk laws_FnExactSortOf.T11.2 laws_FnExactSortOf.B11 = true := by kernel_rfl
set_option maxHeartbeats 8000000 in
set_option maxRecDepth 100000 in
theorem laws_FnExactSortOf.calls (k : Nat) (A0_0 : Option Addr) (c0_0 : Nat) (l0_0 : List ByteArray) (A0_1 : Option Addr) (c0_1 : Nat) (l0_1 : List (S140)) (a1_0 : Int) (a1_1 : Int) (a1_2 : ByteArray) (A1_3 : Option Addr) (c1_3 : Nat) (l1_3 : List (S24)) (A2 : Option Addr) (c2 : Nat) (l2 : List (S113)) (w : World) (hr0_0 : Kd.C Kd.string w A0_0 l0_0.length l0_0) (hc0_0 : l0_0.length ≤ c0_0) (hr0_1 : Kd.C k140 w A0_1 l0_1.length l0_1) (hc0_1 : l0_1.length ≤ c0_1) (hr1_3 : Kd.C k24 w A1_3 l1_3.length l1_3) (hc1_3 : l1_3.length ≤ c1_3) (hr2 : Kd.C k113 w A2 l2.length l2) (hc2 : l2.length ≤ c2) (h : laws_FnExactSortOf.f k l0_0 l0_1 a1_0 a1_1 a1_2 l1_3 l2 = some true) :
    Calls Try.prog 10 #[.agg #[.slice A0_0 l0_0.length c0_0, .slice A0_1 l0_1.length c0_1], .agg #[.int .i64 a1_0, .int .i64 a1_1, .string a1_2, .slice A1_3 l1_3.length c1_3], .slice A2 l2.length c2] w fun e w' => e = .returned (.bool true) ∧ Below w.heap.size w w' := by
  have hu66 := Try.underlying66
  have hu24 := Try.underlying24
  have hu73 := Try.underlying73
  have hu29 := Try.underlying29
  have HR0_0 := Aside0.mk hr0_0
  have HC0_0 := Aside0.mk hc0_0
  clear hr0_0 hc0_0
  have HR0_1 := Aside0.mk hr0_1
  have HC0_1 := Aside0.mk hc0_1
  clear hr0_1 hc0_1
  have HR1_3 := Aside0.mk hr1_3
  have HC1_3 := Aside0.mk hc1_3
  clear hr1_3 hc1_3
  have HR2 := Aside0.mk hr2
  have HC2 := Aside0.mk hc2
  clear hr2 hc2
  have HB := am (Below.refl w.heap.size w)
  have H : ((laws_szSignature.f k l0_0 l0_1 1048576).bind fun t1166 => (if t1166 < 0 then (some true) else ((laws_szTerm.f k a1_0 a1_1 a1_2 l1_3 t1166).bind fun t1167 => (if t1167 < 0 then (some true) else ((laws_szVarSortS.f k l2 t1167).bind fun t1168 => (if t1168 < 0 then (some true) else ((laws_toSignature.f k l0_0 l0_1).bind fun bt1169 => ((laws_toTerm.f k a1_0 a1_1 a1_2 l1_3).bind fun bt1175 => ((laws_toVarSortS.f k l2).bind fun t1181 => ((spec_SortOf.f k bt1169.1 bt1169.2 bt1175.1 bt1175.2.1 bt1175.2.2.1 bt1175.2.2.2 t1181).bind fun t1184 => ((laws_toSignature.f k l0_0 l0_1).bind fun bt1185 => ((laws_toTerm.f k a1_0 a1_1 a1_2 l1_3).bind fun bt1192 => ((laws_toVarSortS.f k l2).bind fun t1199 => ((impl_SortOf.f k bt1185.1 bt1185.2 bt1192.1 bt1192.2.1 bt1192.2.2.1 bt1192.2.2.2 t1199).bind fun t1202 => (if t1202.toList = t1184.toList then ((laws_toSignature.f k l0_0 l0_1).bind fun bt1203 => ((laws_eqSignature.f k bt1185.1 bt1185.2 bt1203.1 bt1203.2).bind fun t1209 => (if t1209 = true then ((laws_toTerm.f k a1_0 a1_1 a1_2 l1_3).bind fun bt1210 => ((laws_eqTerm.f k bt1192.1 bt1192.2.1 bt1192.2.2.1 bt1192.2.2.2 bt1210.1 bt1210.2.1 bt1210.2.2.1 bt1210.2.2.2).bind fun t1216 => (if t1216 = true then ((laws_toVarSortS.f k l2).bind fun t1217 => ((laws_eqVarSortS.f k t1199 t1217).bind fun t1220 => (if t1220 = true then (some true) else (some false)))) else (some false)))) else (some false)))) else (some false)))))))))))))))) = some true := h
  clear h
  replace H := Option.bind_eq_some_iff.mp H
  obtain ⟨t1166, A40, H⟩ := H
  try dsimp only at H
  have A4 := Aside0.mk A40
  clear A40
  by_cases c5 : t1166 < 0
  · rw [if_pos c5] at H
    have c5b0 : decide (t1166 < 0) = true := decide_eq_true c5
    clear c5
    go_enter Try.func10, Try.ntmps10
    go_wp2_with (first | ((with_reducible refine gate_dst (N := 3) rfl ?_); refine box_event ?hg (N := 3) ?hd (cs := #[.slice A0_0 l0_0.length c0_0, .slice A0_1 l0_1.length c0_1]) (t := 66) ?hr ?_; (case hd => rfl); (case hg => rfl); (case hr => first | (go_simp; done) | (go_simp; rfl)); intro gb1164 hg w6 hbox hb; have n0_ := am (below_step (by repeat (first | (with_reducible first | exact HB.out | apply bA | apply bN | apply bD) | exact HB.out)) hb); have n1_ := am (hbox); have n2_ := am ((by rw [hg]; exact (below_size (by repeat (first | (with_reducible first | exact HB.out | apply bA | apply bN | apply bD) | exact HB.out))) : w.heap.size ≤ gb1164)); have n3_ := am ((by rw [hg]; exact (below_size (by repeat (first | (with_reducible first | exact HB.out | apply bA | apply bN | apply bD) | exact HB.out))) : w.heap.size ≤ gb1164)); clear HB; have HB := n0_; have BK1164 := n1_; have GW1164 := n2_; have GE1164 := n3_; clear n0_ n1_ n2_ n3_; clear hb hbox hg) | ((with_reducible refine gate_dst (N := 4) rfl ?_); refine box_event ?hg (N := 4) ?hd (cs := #[.int .i64 a1_0, .int .i64 a1_1, .string a1_2, .slice A1_3 l1_3.length c1_3]) (t := 24) ?hr ?_; (case hd => rfl); (case hg => rfl); (case hr => first | (go_simp; done) | (go_simp; rfl)); intro gb1165 hg w7 hbox hb; have n0_ := am (blk_below (g := gb1164) (o := .cells #[.slice A0_0 l0_0.length c0_0, .slice A0_1 l0_1.length c0_1] 66 (0, 0)) (by (with_reducible repeat (first | refine kN ?_ _ | refine kD ?_ | refine kA ?_ _)); exact BK1164.out) hb); have n1_ := am (below_step (by repeat (first | (with_reducible first | exact HB.out | apply bA | apply bN | apply bD | refine below_set ?_ GE1164.out) | exact HB.out)) hb); have n2_ := am (hbox); have n3_ := am ((by rw [hg]; exact (below_size (by repeat (first | (with_reducible first | exact HB.out | apply bA | apply bN | apply bD | refine below_set ?_ GE1164.out) | exact HB.out))) : w.heap.size ≤ gb1165)); have n4_ := am ((by rw [hg]; exact (below_size (by repeat (first | (with_reducible first | exact HB.out | apply bA | apply bN | apply bD | refine below_set ?_ GE1164.out) | exact HB.out))) : w.heap.size ≤ gb1165)); have n5_ := am ((by rw [hg]; exact Nat.ne_of_lt (blk_lt (g := gb1164) (o := .cells #[.slice A0_0 l0_0.length c0_0, .slice A0_1 l0_1.length c0_1] 66 (0, 0)) (by (with_reducible repeat (first | refine kN ?_ _ | refine kD ?_ | refine kA ?_ _)); exact BK1164.out)) : gb1164 ≠ gb1165)); have n6_ := am ((by rw [hg]; exact Nat.ne_of_gt (blk_lt (g := gb1164) (o := .cells #[.slice A0_0 l0_0.length c0_0, .slice A0_1 l0_1.length c0_1] 66 (0, 0)) (by (with_reducible repeat (first | refine kN ?_ _ | refine kD ?_ | refine kA ?_ _)); exact BK1164.out)) : gb1165 ≠ gb1164)); clear BK1164; clear HB; have BK1164 := n0_; have HB := n1_; have BK1165 := n2_; have GW1165 := n3_; have GE1165 := n4_; have NB1164_1165 := n5_; have NB1165_1164 := n6_; clear n0_ n1_ n2_ n3_ n4_ n5_ n6_; clear hb hbox hg; have hnb8 := NB1164_1165.out; have hnc8 := NB1165_1164.out; have hcz9_0 : w7.cell? ⟨gb1164, 0, none⟩ = some (.slice A0_0 l0_0.length c0_0) := (blk_cell BK1164.out 0).trans rfl; have hcz9_1 : w7.cell? ⟨gb1164, 1, none⟩ = some (.slice A0_1 l0_1.length c0_1) := (blk_cell BK1164.out 1).trans rfl; have hfz9_0 := blk_frozen BK1164.out 0; have hfz9_1 := blk_frozen BK1164.out 1) | ((with_reducible refine gate_callee (f := 46) rfl ?_); refine goesL_ (some 15) rfl rfl Try.func46 (by kernel_rfl) rfl #[.agg #[.slice A0_0 l0_0.length c0_0, .slice A0_1 l0_1.length c0_1], .int .i64 1048576] rfl (by (try simp only [List.map_toArray, List.map_cons, List.map_nil]); first | done | rfl | (simp only [List.length_drop, List.length_take]; rfl)) ?_; (with_reducible refine (laws_szSignature.calls k _ _ l0_0 _ _ l0_1 1048576 t1166 _ ?side1 ?side2 ?side3 ?side4 A4.out).mono ?_); (case side1 => repeat (first | exact (Kd.C_below HR0_0.out HB.out) | (with_reducible refine cA ?_ _) | (with_reducible refine cN ?_ _) | (with_reducible refine cD ?_))); (case side2 => exact HC0_0.out); (case side3 => repeat (first | exact (Kd.C_below HR0_1.out HB.out) | (with_reducible refine cA ?_ _) | (with_reducible refine cN ?_ _) | (with_reducible refine cD ?_))); (case side4 => exact HC0_1.out); rintro e w10 ⟨rfl, hb⟩; refine ⟨_, rfl, ?_⟩; have n0_ := am (blk_below (g := gb1164) (o := .cells #[.slice A0_0 l0_0.length c0_0, .slice A0_1 l0_1.length c0_1] 66 (0, 0)) (by (with_reducible repeat (first | refine kN ?_ _ | refine kD ?_ | refine kA ?_ _)); exact BK1164.out) hb); have n1_ := am (blk_below (g := gb1165) (o := .cells #[.int .i64 a1_0, .int .i64 a1_1, .string a1_2, .slice A1_3 l1_3.length c1_3] 24 (0, 0)) (by (with_reducible repeat (first | refine kN ?_ _ | refine kD ?_ | refine kA ?_ _)); exact BK1165.out) hb); have n2_ := am (below_step (by repeat (first | (with_reducible first | exact HB.out | apply bA | apply bN | apply bD | refine below_set ?_ GE1164.out | refine below_set ?_ GE1165.out) | exact HB.out)) hb); clear BK1164; clear BK1165; clear HB; have BK1164 := n0_; have BK1165 := n1_; have HB := n2_; clear n0_ n1_ n2_))
    go_ret
    exact ⟨by first | rfl | (simp [errW_none, errW_some] <;> rfl) | (simp [*, errW_none, errW_some] <;> rfl), by repeat (first | (with_reducible first | exact HB.out | apply bA | apply bN | apply bD | refine below_set ?_ GE1164.out | refine below_set ?_ GE1165.out) | exact HB.out)⟩
  · rw [if_neg c5] at H
    have c5b0 : decide (t1166 < 0) = false := decide_eq_false c5
    clear c5
    replace H := Option.bind_eq_some_iff.mp H
    obtain ⟨t1167, A110, H⟩ := H
    try dsimp only at H
    have A11 := Aside0.mk A110
    clear A110
    by_cases c12 : t1167 < 0
    · rw [if_pos c12] at H
      have c12b0 : decide (t1167 < 0) = true := decide_eq_true c12
      clear c12
      go_enter Try.func10, Try.ntmps10
      go_wp2_with (first | ((with_reducible refine gate_dst (N := 3) rfl ?_); refine box_event ?hg (N := 3) ?hd (cs := #[.slice A0_0 l0_0.length c0_0, .slice A0_1 l0_1.length c0_1]) (t := 66) ?hr ?_; (case hd => rfl); (case hg => rfl); (case hr => first | (go_simp; done) | (go_simp; rfl)); intro gb1164 hg w13 hbox hb; have n0_ := am (below_step (by repeat (first | (with_reducible first | exact HB.out | apply bA | apply bN | apply bD) | exact HB.out)) hb); have n1_ := am (hbox); have n2_ := am ((by rw [hg]; exact (below_size (by repeat (first | (with_reducible first | exact HB.out | apply bA | apply bN | apply bD) | exact HB.out))) : w.heap.size ≤ gb1164)); have n3_ := am ((by rw [hg]; exact (below_size (by repeat (first | (with_reducible first | exact HB.out | apply bA | apply bN | apply bD) | exact HB.out))) : w.heap.size ≤ gb1164)); clear HB; have HB := n0_; have BK1164 := n1_; have GW1164 := n2_; have GE1164 := n3_; clear n0_ n1_ n2_ n3_; clear hb hbox hg) | ((with_reducible refine gate_dst (N := 4) rfl ?_); refine box_event ?hg (N := 4) ?hd (cs := #[.int .i64 a1_0, .int .i64 a1_1, .string a1_2, .slice A1_3 l1_3.length c1_3]) (t := 24) ?hr ?_; (case hd => rfl); (case hg => rfl); (case hr => first | (go_simp; done) | (go_simp; rfl)); intro gb1165 hg w14 hbox hb; have n0_ := am (blk_below (g := gb1164) (o := .cells #[.slice A0_0 l0_0.length c0_0, .slice A0_1 l0_1.length c0_1] 66 (0, 0)) (by (with_reducible repeat (first | refine kN ?_ _ | refine kD ?_ | refine kA ?_ _)); exact BK1164.out) hb); have n1_ := am (below_step (by repeat (first | (with_reducible first | exact HB.out | apply bA | apply bN | apply bD | refine below_set ?_ GE1164.out) | exact HB.out)) hb); have n2_ := am (hbox); have n3_ := am ((by rw [hg]; exact (below_size (by repeat (first | (with_reducible first | exact HB.out | apply bA | apply bN | apply bD | refine below_set ?_ GE1164.out) | exact HB.out))) : w.heap.size ≤ gb1165)); have n4_ := am ((by rw [hg]; exact (below_size (by repeat (first | (with_reducible first | exact HB.out | apply bA | apply bN | apply bD | refine below_set ?_ GE1164.out) | exact HB.out))) : w.heap.size ≤ gb1165)); have n5_ := am ((by rw [hg]; exact Nat.ne_of_lt (blk_lt (g := gb1164) (o := .cells #[.slice A0_0 l0_0.length c0_0, .slice A0_1 l0_1.length c0_1] 66 (0, 0)) (by (with_reducible repeat (first | refine kN ?_ _ | refine kD ?_ | refine kA ?_ _)); exact BK1164.out)) : gb1164 ≠ gb1165)); have n6_ := am ((by rw [hg]; exact Nat.ne_of_gt (blk_lt (g := gb1164) (o := .cells #[.slice A0_0 l0_0.length c0_0, .slice A0_1 l0_1.length c0_1] 66 (0, 0)) (by (with_reducible repeat (first | refine kN ?_ _ | refine kD ?_ | refine kA ?_ _)); exact BK1164.out)) : gb1165 ≠ gb1164)); clear BK1164; clear HB; have BK1164 := n0_; have HB := n1_; have BK1165 := n2_; have GW1165 := n3_; have GE1165 := n4_; have NB1164_1165 := n5_; have NB1165_1164 := n6_; clear n0_ n1_ n2_ n3_ n4_ n5_ n6_; clear hb hbox hg; have hnb15 := NB1164_1165.out; have hnc15 := NB1165_1164.out; have hcz16_0 : w14.cell? ⟨gb1164, 0, none⟩ = some (.slice A0_0 l0_0.length c0_0) := (blk_cell BK1164.out 0).trans rfl; have hcz16_1 : w14.cell? ⟨gb1164, 1, none⟩ = some (.slice A0_1 l0_1.length c0_1) := (blk_cell BK1164.out 1).trans rfl; have hfz16_0 := blk_frozen BK1164.out 0; have hfz16_1 := blk_frozen BK1164.out 1) | ((with_reducible refine gate_callee (f := 46) rfl ?_); refine goesL_ (some 15) rfl rfl Try.func46 (by kernel_rfl) rfl #[.agg #[.slice A0_0 l0_0.length c0_0, .slice A0_1 l0_1.length c0_1], .int .i64 1048576] rfl (by (try simp only [List.map_toArray, List.map_cons, List.map_nil]); first | done | rfl | (simp only [List.length_drop, List.length_take]; rfl)) ?_; (with_reducible refine (laws_szSignature.calls k _ _ l0_0 _ _ l0_1 1048576 t1166 _ ?side1 ?side2 ?side3 ?side4 A4.out).mono ?_); (case side1 => repeat (first | exact (Kd.C_below HR0_0.out HB.out) | (with_reducible refine cA ?_ _) | (with_reducible refine cN ?_ _) | (with_reducible refine cD ?_))); (case side2 => exact HC0_0.out); (case side3 => repeat (first | exact (Kd.C_below HR0_1.out HB.out) | (with_reducible refine cA ?_ _) | (with_reducible refine cN ?_ _) | (with_reducible refine cD ?_))); (case side4 => exact HC0_1.out); rintro e w17 ⟨rfl, hb⟩; refine ⟨_, rfl, ?_⟩; have n0_ := am (blk_below (g := gb1164) (o := .cells #[.slice A0_0 l0_0.length c0_0, .slice A0_1 l0_1.length c0_1] 66 (0, 0)) (by (with_reducible repeat (first | refine kN ?_ _ | refine kD ?_ | refine kA ?_ _)); exact BK1164.out) hb); have n1_ := am (blk_below (g := gb1165) (o := .cells #[.int .i64 a1_0, .int .i64 a1_1, .string a1_2, .slice A1_3 l1_3.length c1_3] 24 (0, 0)) (by (with_reducible repeat (first | refine kN ?_ _ | refine kD ?_ | refine kA ?_ _)); exact BK1165.out) hb); have n2_ := am (below_step (by repeat (first | (with_reducible first | exact HB.out | apply bA | apply bN | apply bD | refine below_set ?_ GE1164.out | refine below_set ?_ GE1165.out) | exact HB.out)) hb); clear BK1164; clear BK1165; clear HB; have BK1164 := n0_; have BK1165 := n1_; have HB := n2_; clear n0_ n1_ n2_; have hcz18_0 : w17.cell? ⟨gb1165, 0, none⟩ = some (.int .i64 a1_0) := (blk_cell BK1165.out 0).trans rfl; have hcz18_1 : w17.cell? ⟨gb1165, 1, none⟩ = some (.int .i64 a1_1) := (blk_cell BK1165.out 1).trans rfl; have hcz18_2 : w17.cell? ⟨gb1165, 2, none⟩ = some (.string a1_2) := (blk_cell BK1165.out 2).trans rfl; have hcz18_3 : w17.cell? ⟨gb1165, 3, none⟩ = some (.slice A1_3 l1_3.length c1_3) := (blk_cell BK1165.out 3).trans rfl; have hfz18_0 := blk_frozen BK1165.out 0; have hfz18_1 := blk_frozen BK1165.out 1; have hfz18_2 := blk_frozen BK1165.out 2; have hfz18_3 := blk_frozen BK1165.out 3) | ((with_reducible refine gate_callee (f := 14) rfl ?_); refine goesL_ (some 20) rfl rfl Try.func14 (by kernel_rfl) rfl #[.agg #[.int .i64 a1_0, .int .i64 a1_1, .string a1_2, .slice A1_3 l1_3.length c1_3], .int .i64 t1166] rfl (by (try simp only [List.map_toArray, List.map_cons, List.map_nil]); first | done | rfl | (simp only [List.length_drop, List.length_take]; rfl)) ?_; (with_reducible refine (laws_szTerm.calls k a1_0 a1_1 a1_2 _ _ l1_3 t1166 t1167 _ ?side1 ?side2 A11.out).mono ?_); (case side1 => repeat (first | exact (Kd.C_below HR1_3.out HB.out) | (with_reducible refine cA ?_ _) | (with_reducible refine cN ?_ _) | (with_reducible refine cD ?_))); (case side2 => exact HC1_3.out); rintro e w19 ⟨rfl, hb⟩; refine ⟨_, rfl, ?_⟩; have n0_ := am (blk_below (g := gb1164) (o := .cells #[.slice A0_0 l0_0.length c0_0, .slice A0_1 l0_1.length c0_1] 66 (0, 0)) (by (with_reducible repeat (first | refine kN ?_ _ | refine kD ?_ | refine kA ?_ _)); exact BK1164.out) hb); have n1_ := am (blk_below (g := gb1165) (o := .cells #[.int .i64 a1_0, .int .i64 a1_1, .string a1_2, .slice A1_3 l1_3.length c1_3] 24 (0, 0)) (by (with_reducible repeat (first | refine kN ?_ _ | refine kD ?_ | refine kA ?_ _)); exact BK1165.out) hb); have n2_ := am (below_step (by repeat (first | (with_reducible first | exact HB.out | apply bA | apply bN | apply bD | refine below_set ?_ GE1164.out | refine below_set ?_ GE1165.out) | exact HB.out)) hb); clear BK1164; clear BK1165; clear HB; have BK1164 := n0_; have BK1165 := n1_; have HB := n2_; clear n0_ n1_ n2_))
      go_ret
      exact ⟨by first | rfl | (simp [errW_none, errW_some] <;> rfl) | (simp [*, errW_none, errW_some] <;> rfl), by repeat (first | (with_reducible first | exact HB.out | apply bA | apply bN | apply bD | refine below_set ?_ GE1164.out | refine below_set ?_ GE1165.out) | exact HB.out)⟩
    · rw [if_neg c12] at H
      have c12b0 : decide (t1167 < 0) = false := decide_eq_false c12
      clear c12
      replace H := Option.bind_eq_some_iff.mp H
      obtain ⟨t1168, A200, H⟩ := H
      try dsimp only at H
      have A20 := Aside0.mk A200
      clear A200
      by_cases c21 : t1168 < 0
      · rw [if_pos c21] at H
        have c21b0 : decide (t1168 < 0) = true := decide_eq_true c21
        clear c21
        go_enter Try.func10, Try.ntmps10
        go_wp2_with (first | ((with_reducible refine gate_dst (N := 3) rfl ?_); refine box_event ?hg (N := 3) ?hd (cs := #[.slice A0_0 l0_0.length c0_0, .slice A0_1 l0_1.length c0_1]) (t := 66) ?hr ?_; (case hd => rfl); (case hg => rfl); (case hr => first | (go_simp; done) | (go_simp; rfl)); intro gb1164 hg w22 hbox hb; have n0_ := am (below_step (by repeat (first | (with_reducible first | exact HB.out | apply bA | apply bN | apply bD) | exact HB.out)) hb); have n1_ := am (hbox); have n2_ := am ((by rw [hg]; exact (below_size (by repeat (first | (with_reducible first | exact HB.out | apply bA | apply bN | apply bD) | exact HB.out))) : w.heap.size ≤ gb1164)); have n3_ := am ((by rw [hg]; exact (below_size (by repeat (first | (with_reducible first | exact HB.out | apply bA | apply bN | apply bD) | exact HB.out))) : w.heap.size ≤ gb1164)); clear HB; have HB := n0_; have BK1164 := n1_; have GW1164 := n2_; have GE1164 := n3_; clear n0_ n1_ n2_ n3_; clear hb hbox hg) | ((with_reducible refine gate_dst (N := 4) rfl ?_); refine box_event ?hg (N := 4) ?hd (cs := #[.int .i64 a1_0, .int .i64 a1_1, .string a1_2, .slice A1_3 l1_3.length c1_3]) (t := 24) ?hr ?_; (case hd => rfl); (case hg => rfl); (case hr => first | (go_simp; done) | (go_simp; rfl)); intro gb1165 hg w23 hbox hb; have n0_ := am (blk_below (g := gb1164) (o := .cells #[.slice A0_0 l0_0.length c0_0, .slice A0_1 l0_1.length c0_1] 66 (0, 0)) (by (with_reducible repeat (first | refine kN ?_ _ | refine kD ?_ | refine kA ?_ _)); exact BK1164.out) hb); have n1_ := am (below_step (by repeat (first | (with_reducible first | exact HB.out | apply bA | apply bN | apply bD | refine below_set ?_ GE1164.out) | exact HB.out)) hb); have n2_ := am (hbox); have n3_ := am ((by rw [hg]; exact (below_size (by repeat (first | (with_reducible first | exact HB.out | apply bA | apply bN | apply bD | refine below_set ?_ GE1164.out) | exact HB.out))) : w.heap.size ≤ gb1165)); have n4_ := am ((by rw [hg]; exact (below_size (by repeat (first | (with_reducible first | exact HB.out | apply bA | apply bN | apply bD | refine below_set ?_ GE1164.out) | exact HB.out))) : w.heap.size ≤ gb1165)); have n5_ := am ((by rw [hg]; exact Nat.ne_of_lt (blk_lt (g := gb1164) (o := .cells #[.slice A0_0 l0_0.length c0_0, .slice A0_1 l0_1.length c0_1] 66 (0, 0)) (by (with_reducible repeat (first | refine kN ?_ _ | refine kD ?_ | refine kA ?_ _)); exact BK1164.out)) : gb1164 ≠ gb1165)); have n6_ := am ((by rw [hg]; exact Nat.ne_of_gt (blk_lt (g := gb1164) (o := .cells #[.slice A0_0 l0_0.length c0_0, .slice A0_1 l0_1.length c0_1] 66 (0, 0)) (by (with_reducible repeat (first | refine kN ?_ _ | refine kD ?_ | refine kA ?_ _)); exact BK1164.out)) : gb1165 ≠ gb1164)); clear BK1164; clear HB; have BK1164 := n0_; have HB := n1_; have BK1165 := n2_; have GW1165 := n3_; have GE1165 := n4_; have NB1164_1165 := n5_; have NB1165_1164 := n6_; clear n0_ n1_ n2_ n3_ n4_ n5_ n6_; clear hb hbox hg; have hnb24 := NB1164_1165.out; have hnc24 := NB1165_1164.out; have hcz25_0 : w23.cell? ⟨gb1164, 0, none⟩ = some (.slice A0_0 l0_0.length c0_0) := (blk_cell BK1164.out 0).trans rfl; have hcz25_1 : w23.cell? ⟨gb1164, 1, none⟩ = some (.slice A0_1 l0_1.length c0_1) := (blk_cell BK1164.out 1).trans rfl; have hfz25_0 := blk_frozen BK1164.out 0; have hfz25_1 := blk_frozen BK1164.out 1) | ((with_reducible refine gate_callee (f := 46) rfl ?_); refine goesL_ (some 15) rfl rfl Try.func46 (by kernel_rfl) rfl #[.agg #[.slice A0_0 l0_0.length c0_0, .slice A0_1 l0_1.length c0_1], .int .i64 1048576] rfl (by (try simp only [List.map_toArray, List.map_cons, List.map_nil]); first | done | rfl | (simp only [List.length_drop, List.length_take]; rfl)) ?_; (with_reducible refine (laws_szSignature.calls k _ _ l0_0 _ _ l0_1 1048576 t1166 _ ?side1 ?side2 ?side3 ?side4 A4.out).mono ?_); (case side1 => repeat (first | exact (Kd.C_below HR0_0.out HB.out) | (with_reducible refine cA ?_ _) | (with_reducible refine cN ?_ _) | (with_reducible refine cD ?_))); (case side2 => exact HC0_0.out); (case side3 => repeat (first | exact (Kd.C_below HR0_1.out HB.out) | (with_reducible refine cA ?_ _) | (with_reducible refine cN ?_ _) | (with_reducible refine cD ?_))); (case side4 => exact HC0_1.out); rintro e w26 ⟨rfl, hb⟩; refine ⟨_, rfl, ?_⟩; have n0_ := am (blk_below (g := gb1164) (o := .cells #[.slice A0_0 l0_0.length c0_0, .slice A0_1 l0_1.length c0_1] 66 (0, 0)) (by (with_reducible repeat (first | refine kN ?_ _ | refine kD ?_ | refine kA ?_ _)); exact BK1164.out) hb); have n1_ := am (blk_below (g := gb1165) (o := .cells #[.int .i64 a1_0, .int .i64 a1_1, .string a1_2, .slice A1_3 l1_3.length c1_3] 24 (0, 0)) (by (with_reducible repeat (first | refine kN ?_ _ | refine kD ?_ | refine kA ?_ _)); exact BK1165.out) hb); have n2_ := am (below_step (by repeat (first | (with_reducible first | exact HB.out | apply bA | apply bN | apply bD | refine below_set ?_ GE1164.out | refine below_set ?_ GE1165.out) | exact HB.out)) hb); clear BK1164; clear BK1165; clear HB; have BK1164 := n0_; have BK1165 := n1_; have HB := n2_; clear n0_ n1_ n2_; have hcz27_0 : w26.cell? ⟨gb1165, 0, none⟩ = some (.int .i64 a1_0) := (blk_cell BK1165.out 0).trans rfl; have hcz27_1 : w26.cell? ⟨gb1165, 1, none⟩ = some (.int .i64 a1_1) := (blk_cell BK1165.out 1).trans rfl; have hcz27_2 : w26.cell? ⟨gb1165, 2, none⟩ = some (.string a1_2) := (blk_cell BK1165.out 2).trans rfl; have hcz27_3 : w26.cell? ⟨gb1165, 3, none⟩ = some (.slice A1_3 l1_3.length c1_3) := (blk_cell BK1165.out 3).trans rfl; have hfz27_0 := blk_frozen BK1165.out 0; have hfz27_1 := blk_frozen BK1165.out 1; have hfz27_2 := blk_frozen BK1165.out 2; have hfz27_3 := blk_frozen BK1165.out 3) | ((with_reducible refine gate_callee (f := 14) rfl ?_); refine goesL_ (some 20) rfl rfl Try.func14 (by kernel_rfl) rfl #[.agg #[.int .i64 a1_0, .int .i64 a1_1, .string a1_2, .slice A1_3 l1_3.length c1_3], .int .i64 t1166] rfl (by (try simp only [List.map_toArray, List.map_cons, List.map_nil]); first | done | rfl | (simp only [List.length_drop, List.length_take]; rfl)) ?_; (with_reducible refine (laws_szTerm.calls k a1_0 a1_1 a1_2 _ _ l1_3 t1166 t1167 _ ?side1 ?side2 A11.out).mono ?_); (case side1 => repeat (first | exact (Kd.C_below HR1_3.out HB.out) | (with_reducible refine cA ?_ _) | (with_reducible refine cN ?_ _) | (with_reducible refine cD ?_))); (case side2 => exact HC1_3.out); rintro e w28 ⟨rfl, hb⟩; refine ⟨_, rfl, ?_⟩; have n0_ := am (blk_below (g := gb1164) (o := .cells #[.slice A0_0 l0_0.length c0_0, .slice A0_1 l0_1.length c0_1] 66 (0, 0)) (by (with_reducible repeat (first | refine kN ?_ _ | refine kD ?_ | refine kA ?_ _)); exact BK1164.out) hb); have n1_ := am (blk_below (g := gb1165) (o := .cells #[.int .i64 a1_0, .int .i64 a1_1, .string a1_2, .slice A1_3 l1_3.length c1_3] 24 (0, 0)) (by (with_reducible repeat (first | refine kN ?_ _ | refine kD ?_ | refine kA ?_ _)); exact BK1165.out) hb); have n2_ := am (below_step (by repeat (first | (with_reducible first | exact HB.out | apply bA | apply bN | apply bD | refine below_set ?_ GE1164.out | refine below_set ?_ GE1165.out) | exact HB.out)) hb); clear BK1164; clear BK1165; clear HB; have BK1164 := n0_; have BK1165 := n1_; have HB := n2_; clear n0_ n1_ n2_) | ((with_reducible refine gate_callee (f := 47) rfl ?_); refine goesL_ (some 25) rfl rfl Try.func47 (by kernel_rfl) rfl #[.slice A2 l2.length c2, .int .i64 t1167] rfl (by (try simp only [List.map_toArray, List.map_cons, List.map_nil]); first | done | rfl | (simp only [List.length_drop, List.length_take]; rfl)) ?_; (with_reducible refine (laws_szVarSortS.calls k _ _ l2 t1167 t1168 _ ?side1 ?side2 A20.out).mono ?_); (case side1 => repeat (first | exact (Kd.C_below HR2.out HB.out) | (with_reducible refine cA ?_ _) | (with_reducible refine cN ?_ _) | (with_reducible refine cD ?_))); (case side2 => exact HC2.out); rintro e w29 ⟨rfl, hb⟩; refine ⟨_, rfl, ?_⟩; have n0_ := am (blk_below (g := gb1164) (o := .cells #[.slice A0_0 l0_0.length c0_0, .slice A0_1 l0_1.length c0_1] 66 (0, 0)) (by (with_reducible repeat (first | refine kN ?_ _ | refine kD ?_ | refine kA ?_ _)); exact BK1164.out) hb); have n1_ := am (blk_below (g := gb1165) (o := .cells #[.int .i64 a1_0, .int .i64 a1_1, .string a1_2, .slice A1_3 l1_3.length c1_3] 24 (0, 0)) (by (with_reducible repeat (first | refine kN ?_ _ | refine kD ?_ | refine kA ?_ _)); exact BK1165.out) hb); have n2_ := am (below_step (by repeat (first | (with_reducible first | exact HB.out | apply bA | apply bN | apply bD | refine below_set ?_ GE1164.out | refine below_set ?_ GE1165.out) | exact HB.out)) hb); clear BK1164; clear BK1165; clear HB; have BK1164 := n0_; have BK1165 := n1_; have HB := n2_; clear n0_ n1_ n2_))
        go_ret
        exact ⟨by first | rfl | (simp [errW_none, errW_some] <;> rfl) | (simp [*, errW_none, errW_some] <;> rfl), by repeat (first | (with_reducible first | exact HB.out | apply bA | apply bN | apply bD | refine below_set ?_ GE1164.out | refine below_set ?_ GE1165.out) | exact HB.out)⟩
      · rw [if_neg c21] at H
        have c21b0 : decide (t1168 < 0) = false := decide_eq_false c21
        clear c21
        replace H := Option.bind_eq_some_iff.mp H
        obtain ⟨⟨t1169, t1172⟩, A300, H⟩ := H
        try dsimp only at H
        have A30 := Aside0.mk A300
        clear A300
        replace H := Option.bind_eq_some_iff.mp H
        obtain ⟨⟨t1175, t1176, t1177, t1178⟩, A310, H⟩ := H
        try dsimp only at H
        have A31 := Aside0.mk A310
        clear A310
        replace H := Option.bind_eq_some_iff.mp H
        obtain ⟨t1181, A320, H⟩ := H
        try dsimp only at H
        have A32 := Aside0.mk A320
        clear A320
        replace H := Option.bind_eq_some_iff.mp H
        obtain ⟨t1184, A330, H⟩ := H
        try dsimp only at H
        have A33 := Aside0.mk A330
        clear A330
        replace H := Option.bind_eq_some_iff.mp H
        obtain ⟨⟨t1185, t1188⟩, A340, H⟩ := H
        try dsimp only at H
        have A34 := Aside0.mk A340
        clear A340
        replace H := Option.bind_eq_some_iff.mp H
        obtain ⟨⟨t1192, t1193, t1194, t1195⟩, A350, H⟩ := H
        try dsimp only at H
        have A35 := Aside0.mk A350
        clear A350
        replace H := Option.bind_eq_some_iff.mp H
        obtain ⟨t1199, A360, H⟩ := H
        try dsimp only at H
        have A36 := Aside0.mk A360
        clear A360
        replace H := Option.bind_eq_some_iff.mp H
        obtain ⟨t1202, A370, H⟩ := H
        try dsimp only at H
        have A37 := Aside0.mk A370
        clear A370
        by_cases c38 : t1202.toList = t1184.toList
        · rw [if_pos c38] at H
          have c38b0 : (t1202.toList == t1184.toList) = true := beq_iff_eq.mpr c38
          have c38b1 : (t1202.toList != t1184.toList) = false := bne_eq_false_iff_eq.mpr c38
          clear c38
          replace H := Option.bind_eq_some_iff.mp H
          obtain ⟨⟨t1203, t1206⟩, A390, H⟩ := H
          try dsimp only at H
          have A39 := Aside0.mk A390
          clear A390
          replace H := Option.bind_eq_some_iff.mp H
          obtain ⟨t1209, A400, H⟩ := H
          try dsimp only at H
          have A40 := Aside0.mk A400
          clear A400
          by_cases c41 : t1209 = true
          · subst c41
            have H1 : ((laws_toTerm.f k a1_0 a1_1 a1_2 l1_3).bind fun bt1210 => ((laws_eqTerm.f k t1192 t1193 t1194 t1195 bt1210.1 bt1210.2.1 bt1210.2.2.1 bt1210.2.2.2).bind fun t1216 => (if t1216 = true then ((laws_toVarSortS.f k l2).bind fun t1217 => ((laws_eqVarSortS.f k t1199 t1217).bind fun t1220 => (if t1220 = true then (some true) else (some false)))) else (some false)))) = some true := by first | with_reducible rfl | (rw [if_pos rfl] at H; exact H)
            clear H
            have H := H1
            clear H1
            replace H := Option.bind_eq_some_iff.mp H
            obtain ⟨⟨t1210, t1211, t1212, t1213⟩, A420, H⟩ := H
            try dsimp only at H
            have A42 := Aside0.mk A420
            clear A420
            replace H := Option.bind_eq_some_iff.mp H
            obtain ⟨t1216, A430, H⟩ := H
            try dsimp only at H
            have A43 := Aside0.mk A430
            clear A430
            by_cases c44 : t1216 = true
            · subst c44
              have H1 : ((laws_toVarSortS.f k l2).bind fun t1217 => ((laws_eqVarSortS.f k t1199 t1217).bind fun t1220 => (if t1220 = true then (some true) else (some false)))) = some true := by first | with_reducible rfl | (rw [if_pos rfl] at H; exact H)
              clear H
              have H := H1
              clear H1
              replace H := Option.bind_eq_some_iff.mp H
              obtain ⟨t1217, A450, H⟩ := H
              try dsimp only at H
              have A45 := Aside0.mk A450
              clear A450
              replace H := Option.bind_eq_some_iff.mp H
              obtain ⟨t1220, A460, H⟩ := H
              try dsimp only at H
              have A46 := Aside0.mk A460
              clear A460
              by_cases c47 : t1220 = true
              · subst c47
                have H1 : (some true) = some true := by first | with_reducible rfl | (rw [if_pos rfl] at H; exact H)
                clear H
                have H := H1
                clear H1
                go_enter Try.func10, Try.ntmps10
                try go_wp2_with (first | ((with_reducible refine gate_dst (N := 3) rfl ?_); refine box_event ?hg (N := 3) ?hd (cs := #[.slice A0_0 l0_0.length c0_0, .slice A0_1 l0_1.length c0_1]) (t := 66) ?hr ?_; (case hd => rfl); (case hg => rfl); (case hr => first | (go_simp; done) | (go_simp; rfl)); intro gb1164 hg w48 hbox hb; have n0_ := am (below_step (by repeat (first | (with_reducible first | exact HB.out | apply bA | apply bN | apply bD) | exact HB.out)) hb); have n1_ := am (hbox); have n2_ := am ((by rw [hg]; exact (below_size (by repeat (first | (with_reducible first | exact HB.out | apply bA | apply bN | apply bD) | exact HB.out))) : w.heap.size ≤ gb1164)); have n3_ := am ((by rw [hg]; exact (below_size (by repeat (first | (with_reducible first | exact HB.out | apply bA | apply bN | apply bD) | exact HB.out))) : w.heap.size ≤ gb1164)); clear HB; have HB := n0_; have BK1164 := n1_; have GW1164 := n2_; have GE1164 := n3_; clear n0_ n1_ n2_ n3_; clear hb hbox hg) | ((with_reducible refine gate_dst (N := 4) rfl ?_); refine box_event ?hg (N := 4) ?hd (cs := #[.int .i64 a1_0, .int .i64 a1_1, .string a1_2, .slice A1_3 l1_3.length c1_3]) (t := 24) ?hr ?_; (case hd => rfl); (case hg => rfl); (case hr => first | (go_simp; done) | (go_simp; rfl)); intro gb1165 hg w49 hbox hb; have n0_ := am (blk_below (g := gb1164) (o := .cells #[.slice A0_0 l0_0.length c0_0, .slice A0_1 l0_1.length c0_1] 66 (0, 0)) (by (with_reducible repeat (first | refine kN ?_ _ | refine kD ?_ | refine kA ?_ _)); exact BK1164.out) hb); have n1_ := am (below_step (by repeat (first | (with_reducible first | exact HB.out | apply bA | apply bN | apply bD | refine below_set ?_ GE1164.out) | exact HB.out)) hb); have n2_ := am (hbox); have n3_ := am ((by rw [hg]; exact (below_size (by repeat (first | (with_reducible first | exact HB.out | apply bA | apply bN | apply bD | refine below_set ?_ GE1164.out) | exact HB.out))) : w.heap.size ≤ gb1165)); have n4_ := am ((by rw [hg]; exact (below_size (by repeat (first | (with_reducible first | exact HB.out | apply bA | apply bN | apply bD | refine below_set ?_ GE1164.out) | exact HB.out))) : w.heap.size ≤ gb1165)); have n5_ := am ((by rw [hg]; exact Nat.ne_of_lt (blk_lt (g := gb1164) (o := .cells #[.slice A0_0 l0_0.length c0_0, .slice A0_1 l0_1.length c0_1] 66 (0, 0)) (by (with_reducible repeat (first | refine kN ?_ _ | refine kD ?_ | refine kA ?_ _)); exact BK1164.out)) : gb1164 ≠ gb1165)); have n6_ := am ((by rw [hg]; exact Nat.ne_of_gt (blk_lt (g := gb1164) (o := .cells #[.slice A0_0 l0_0.length c0_0, .slice A0_1 l0_1.length c0_1] 66 (0, 0)) (by (with_reducible repeat (first | refine kN ?_ _ | refine kD ?_ | refine kA ?_ _)); exact BK1164.out)) : gb1165 ≠ gb1164)); clear BK1164; clear HB; have BK1164 := n0_; have HB := n1_; have BK1165 := n2_; have GW1165 := n3_; have GE1165 := n4_; have NB1164_1165 := n5_; have NB1165_1164 := n6_; clear n0_ n1_ n2_ n3_ n4_ n5_ n6_; clear hb hbox hg; have hnb50 := NB1164_1165.out; have hnc50 := NB1165_1164.out; have hcz51_0 : w49.cell? ⟨gb1164, 0, none⟩ = some (.slice A0_0 l0_0.length c0_0) := (blk_cell BK1164.out 0).trans rfl; have hcz51_1 : w49.cell? ⟨gb1164, 1, none⟩ = some (.slice A0_1 l0_1.length c0_1) := (blk_cell BK1164.out 1).trans rfl; have hfz51_0 := blk_frozen BK1164.out 0; have hfz51_1 := blk_frozen BK1164.out 1) | ((with_reducible refine gate_callee (f := 46) rfl ?_); refine goesL_ (some 15) rfl rfl Try.func46 (by kernel_rfl) rfl #[.agg #[.slice A0_0 l0_0.length c0_0, .slice A0_1 l0_1.length c0_1], .int .i64 1048576] rfl (by (try simp only [List.map_toArray, List.map_cons, List.map_nil]); first | done | rfl | (simp only [List.length_drop, List.length_take]; rfl)) ?_; (with_reducible refine (laws_szSignature.calls k _ _ l0_0 _ _ l0_1 1048576 t1166 _ ?side1 ?side2 ?side3 ?side4 A4.out).mono ?_); (case side1 => repeat (first | exact (Kd.C_below HR0_0.out HB.out) | (with_reducible refine cA ?_ _) | (with_reducible refine cN ?_ _) | (with_reducible refine cD ?_))); (case side2 => exact HC0_0.out); (case side3 => repeat (first | exact (Kd.C_below HR0_1.out HB.out) | (with_reducible refine cA ?_ _) | (with_reducible refine cN ?_ _) | (with_reducible refine cD ?_))); (case side4 => exact HC0_1.out); rintro e w52 ⟨rfl, hb⟩; refine ⟨_, rfl, ?_⟩; have n0_ := am (blk_below (g := gb1164) (o := .cells #[.slice A0_0 l0_0.length c0_0, .slice A0_1 l0_1.length c0_1] 66 (0, 0)) (by (with_reducible repeat (first | refine kN ?_ _ | refine kD ?_ | refine kA ?_ _)); exact BK1164.out) hb); have n1_ := am (blk_below (g := gb1165) (o := .cells #[.int .i64 a1_0, .int .i64 a1_1, .string a1_2, .slice A1_3 l1_3.length c1_3] 24 (0, 0)) (by (with_reducible repeat (first | refine kN ?_ _ | refine kD ?_ | refine kA ?_ _)); exact BK1165.out) hb); have n2_ := am (below_step (by repeat (first | (with_reducible first | exact HB.out | apply bA | apply bN | apply bD | refine below_set ?_ GE1164.out | refine below_set ?_ GE1165.out) | exact HB.out)) hb); clear BK1164; clear BK1165; clear HB; have BK1164 := n0_; have BK1165 := n1_; have HB := n2_; clear n0_ n1_ n2_; have hcz53_0 : w52.cell? ⟨gb1165, 0, none⟩ = some (.int .i64 a1_0) := (blk_cell BK1165.out 0).trans rfl; have hcz53_1 : w52.cell? ⟨gb1165, 1, none⟩ = some (.int .i64 a1_1) := (blk_cell BK1165.out 1).trans rfl; have hcz53_2 : w52.cell? ⟨gb1165, 2, none⟩ = some (.string a1_2) := (blk_cell BK1165.out 2).trans rfl; have hcz53_3 : w52.cell? ⟨gb1165, 3, none⟩ = some (.slice A1_3 l1_3.length c1_3) := (blk_cell BK1165.out 3).trans rfl; have hfz53_0 := blk_frozen BK1165.out 0; have hfz53_1 := blk_frozen BK1165.out 1; have hfz53_2 := blk_frozen BK1165.out 2; have hfz53_3 := blk_frozen BK1165.out 3) | ((with_reducible refine gate_callee (f := 14) rfl ?_); refine goesL_ (some 20) rfl rfl Try.func14 (by kernel_rfl) rfl #[.agg #[.int .i64 a1_0, .int .i64 a1_1, .string a1_2, .slice A1_3 l1_3.length c1_3], .int .i64 t1166] rfl (by (try simp only [List.map_toArray, List.map_cons, List.map_nil]); first | done | rfl | (simp only [List.length_drop, List.length_take]; rfl)) ?_; (with_reducible refine (laws_szTerm.calls k a1_0 a1_1 a1_2 _ _ l1_3 t1166 t1167 _ ?side1 ?side2 A11.out).mono ?_); (case side1 => repeat (first | exact (Kd.C_below HR1_3.out HB.out) | (with_reducible refine cA ?_ _) | (with_reducible refine cN ?_ _) | (with_reducible refine cD ?_))); (case side2 => exact HC1_3.out); rintro e w54 ⟨rfl, hb⟩; refine ⟨_, rfl, ?_⟩; have n0_ := am (blk_below (g := gb1164) (o := .cells #[.slice A0_0 l0_0.length c0_0, .slice A0_1 l0_1.length c0_1] 66 (0, 0)) (by (with_reducible repeat (first | refine kN ?_ _ | refine kD ?_ | refine kA ?_ _)); exact BK1164.out) hb); have n1_ := am (blk_below (g := gb1165) (o := .cells #[.int .i64 a1_0, .int .i64 a1_1, .string a1_2, .slice A1_3 l1_3.length c1_3] 24 (0, 0)) (by (with_reducible repeat (first | refine kN ?_ _ | refine kD ?_ | refine kA ?_ _)); exact BK1165.out) hb); have n2_ := am (below_step (by repeat (first | (with_reducible first | exact HB.out | apply bA | apply bN | apply bD | refine below_set ?_ GE1164.out | refine below_set ?_ GE1165.out) | exact HB.out)) hb); clear BK1164; clear BK1165; clear HB; have BK1164 := n0_; have BK1165 := n1_; have HB := n2_; clear n0_ n1_ n2_) | ((with_reducible refine gate_callee (f := 47) rfl ?_); refine goesL_ (some 25) rfl rfl Try.func47 (by kernel_rfl) rfl #[.slice A2 l2.length c2, .int .i64 t1167] rfl (by (try simp only [List.map_toArray, List.map_cons, List.map_nil]); first | done | rfl | (simp only [List.length_drop, List.length_take]; rfl)) ?_; (with_reducible refine (laws_szVarSortS.calls k _ _ l2 t1167 t1168 _ ?side1 ?side2 A20.out).mono ?_); (case side1 => repeat (first | exact (Kd.C_below HR2.out HB.out) | (with_reducible refine cA ?_ _) | (with_reducible refine cN ?_ _) | (with_reducible refine cD ?_))); (case side2 => exact HC2.out); rintro e w55 ⟨rfl, hb⟩; refine ⟨_, rfl, ?_⟩; have n0_ := am (blk_below (g := gb1164) (o := .cells #[.slice A0_0 l0_0.length c0_0, .slice A0_1 l0_1.length c0_1] 66 (0, 0)) (by (with_reducible repeat (first | refine kN ?_ _ | refine kD ?_ | refine kA ?_ _)); exact BK1164.out) hb); have n1_ := am (blk_below (g := gb1165) (o := .cells #[.int .i64 a1_0, .int .i64 a1_1, .string a1_2, .slice A1_3 l1_3.length c1_3] 24 (0, 0)) (by (with_reducible repeat (first | refine kN ?_ _ | refine kD ?_ | refine kA ?_ _)); exact BK1165.out) hb); have n2_ := am (below_step (by repeat (first | (with_reducible first | exact HB.out | apply bA | apply bN | apply bD | refine below_set ?_ GE1164.out | refine below_set ?_ GE1165.out) | exact HB.out)) hb); clear BK1164; clear BK1165; clear HB; have BK1164 := n0_; have BK1165 := n1_; have HB := n2_; clear n0_ n1_ n2_))
                have n0_ := am (blk_drew BK1164.out)
                have n1_ := am (blk_drew BK1165.out)
                have n2_ := am (below_drew1 HB.out)
                clear BK1164
                clear BK1165
                clear HB
                have BK1164 := n0_
                have BK1165 := n1_
                have HB := n2_
                clear n0_ n1_ n2_
                refine start_ (n := 8) (S := fun w' => w'.cell? ⟨gb1164, 0, none⟩ = some (.slice A0_0 l0_0.length c0_0) ∧ w'.cell? ⟨gb1164, 1, none⟩ = some (.slice A0_1 l0_1.length c0_1) ∧ w'.cell? ⟨gb1165, 0, none⟩ = some (.int .i64 a1_0) ∧ w'.cell? ⟨gb1165, 1, none⟩ = some (.int .i64 a1_1) ∧ w'.cell? ⟨gb1165, 2, none⟩ = some (.string a1_2) ∧ w'.cell? ⟨gb1165, 3, none⟩ = some (.slice A1_3 l1_3.length c1_3)) (ds := []) #[false, false, false, false, false, false, false, false] (by kernel_rfl) rfl rfl ⟨(blk_cell BK1164.out 0).trans rfl, (blk_cell BK1164.out 1).trans rfl, (blk_cell BK1165.out 0).trans rfl, (blk_cell BK1165.out 1).trans rfl, (blk_cell BK1165.out 2).trans rfl, (blk_cell BK1165.out 3).trans rfl⟩ (fun hHeld => ?_); refine with_tabW laws_FnExactSortOf.tab11 laws_FnExactSortOf.bits11 (fun HT_ HW_ => ?_)
                generalize w55.drew = w56 at BK1164 BK1165 HB hHeld ⊢
                refine pure_ (i := 4) (N := some 32) (v := ?_) (a' := ?_) #[false, false, false, false, true, false, false, false] rfl rfl (any_of HT_.out (by kernel_rfl)) (fun _ _ _ h => h) (Or.inl ⟨by rfl, ?_⟩) ?_ ?_
                rotate_left
                · intro w'
                  go_simp
                  with_reducible rfl
                rotate_left
                · simp only [Act.put, List.setIfInBounds_toArray, List.set_cons_zero, List.set_cons_succ, i64_w, i32_w]
                  rfl
                refine take_ (i := 0) (N := some 28) (v := ?_) (a' := ?_) #[true, false, false, false, true, false, false, false] rfl rfl (take_ofW HT_.out HW_.out (by kernel_rfl)) (fun _ _ _ h => h) (Or.inl ⟨by rfl, ?_⟩) hHeld ?_ ?_
                rotate_left
                · rintro w' ⟨s0, s1, s2, s3, s4, s5⟩
                  go_simp
                  with_reducible rfl
                rotate_left
                · simp only [Act.put, List.setIfInBounds_toArray, List.set_cons_zero, List.set_cons_succ, i64_w, i32_w]
                  rfl
                refine take_ (i := 2) (N := some 30) (v := ?_) (a' := ?_) #[true, false, true, false, true, false, false, false] rfl rfl (take_ofW HT_.out HW_.out (by kernel_rfl)) (fun _ _ _ h => h) (Or.inl ⟨by rfl, ?_⟩) hHeld ?_ ?_
                rotate_left
                · rintro w' ⟨s0, s1, s2, s3, s4, s5⟩
                  go_simp
                  with_reducible rfl
                rotate_left
                · simp only [Act.put, List.setIfInBounds_toArray, List.set_cons_zero, List.set_cons_succ, i64_w, i32_w]
                  rfl
                refine one_ (i := 1) (N := some 29) #[true, true, true, false, true, false, false, false] rfl rfl (one_of HT_.out (by kernel_rfl)) (by decide) (fun K hK => ?_)
                refine goes_ Try.func49 (by kernel_rfl) rfl #[.agg #[.slice A0_0 l0_0.length c0_0, .slice A0_1 l0_1.length c0_1]] (by rfl) rfl rfl (by (try simp only [List.map_toArray, List.map_cons, List.map_nil]); first | done | rfl | (simp only [List.length_drop, List.length_take]; rfl)) ?_
                with_reducible refine (laws_toSignature.calls k _ _ l0_0 _ _ l0_1 t1169 t1172 _ ?side1 ?side2 ?side3 ?side4 A30.out).mono ?_
                (case side1 => repeat (first | exact (Kd.C_below HR0_0.out HB.out) | (with_reducible refine cA ?_ _) | (with_reducible refine cN ?_ _) | (with_reducible refine cD ?_)))
                (case side2 => exact HC0_0.out)
                (case side3 => repeat (first | exact (Kd.C_below HR0_1.out HB.out) | (with_reducible refine cA ?_ _) | (with_reducible refine cN ?_ _) | (with_reducible refine cD ?_)))
                (case side4 => exact HC0_1.out)
                rintro e w57 ⟨v1170, v1173, rfl, ho0, ho1, hb⟩
                refine ⟨_, rfl, ?_⟩
                have n0_ := am (Kd.R_lower ho0 (below_size (by repeat (first | (with_reducible first | exact HB.out | apply bA | apply bN | apply bD | refine below_set ?_ GE1164.out | refine below_set ?_ GE1165.out) | exact HB.out))))
                have n1_ := am (Kd.S_lower ho1 (below_size (by repeat (first | (with_reducible first | exact HB.out | apply bA | apply bN | apply bD | refine below_set ?_ GE1164.out | refine below_set ?_ GE1165.out) | exact HB.out))))
                have n2_ := am (blk_below (g := gb1164) (o := .cells #[.slice A0_0 l0_0.length c0_0, .slice A0_1 l0_1.length c0_1] 66 (0, 0)) (by (with_reducible repeat (first | refine kN ?_ _ | refine kD ?_ | refine kA ?_ _)); exact BK1164.out) hb)
                have n3_ := am (blk_below (g := gb1165) (o := .cells #[.int .i64 a1_0, .int .i64 a1_1, .string a1_2, .slice A1_3 l1_3.length c1_3] 24 (0, 0)) (by (with_reducible repeat (first | refine kN ?_ _ | refine kD ?_ | refine kA ?_ _)); exact BK1165.out) hb)
                have n4_ := am (below_step (by repeat (first | (with_reducible first | exact HB.out | apply bA | apply bN | apply bD | refine below_set ?_ GE1164.out | refine below_set ?_ GE1165.out) | exact HB.out)) hb)
                clear BK1164
                clear BK1165
                clear HB
                have HO1171 := n0_
                have HO1174 := n1_
                have BK1164 := n2_
                have BK1165 := n3_
                have HB := n4_
                clear n0_ n1_ n2_ n3_ n4_
                (try clear hb)
                (try clear hb2)
                (try clear hk)
                (try clear hi)
                (try clear ho0)
                (try clear ho1)
                refine hK.out _ _ ⟨(blk_cell BK1164.out 0).trans rfl, (blk_cell BK1164.out 1).trans rfl, (blk_cell BK1165.out 0).trans rfl, (blk_cell BK1165.out 1).trans rfl, (blk_cell BK1165.out 2).trans rfl, (blk_cell BK1165.out 3).trans rfl⟩ (fun hHeld => ?_)
                clear hK K
                refine norm_ (a' := ?_) ?_ ?_
                rotate_left
                · show Act.put _ (some 29) _ = _
                  simp only [Act.put, List.setIfInBounds_toArray, List.set_cons_zero, List.set_cons_succ, i64_w, i32_w]
                  rfl
                refine one_ (i := 3) (N := some 31) #[true, true, true, true, true, false, false, false] rfl rfl (one_of HT_.out (by kernel_rfl)) (by decide) (fun K hK => ?_)
                refine goes_ Try.func16 (by kernel_rfl) rfl #[.agg #[.int .i64 a1_0, .int .i64 a1_1, .string a1_2, .slice A1_3 l1_3.length c1_3]] (by rfl) rfl rfl (by (try simp only [List.map_toArray, List.map_cons, List.map_nil]); first | done | rfl | (simp only [List.length_drop, List.length_take]; rfl)) ?_
                with_reducible refine (laws_toTerm.calls k a1_0 a1_1 a1_2 _ _ l1_3 t1175 t1176 t1177 t1178 _ ?side1 ?side2 A31.out).mono ?_
                (case side1 => repeat (first | exact (Kd.C_below HR1_3.out HB.out) | (with_reducible refine cA ?_ _) | (with_reducible refine cN ?_ _) | (with_reducible refine cD ?_)))
                (case side2 => exact HC1_3.out)
                rintro e w58 ⟨v1179, rfl, ho0, hb⟩
                refine ⟨_, rfl, ?_⟩
                have n0_ := am (Kd.R_below (by (with_reducible repeat (first | apply rA | apply rN | apply rD)); exact HO1171.out) hb)
                have n1_ := am (Kd.S_below (by (with_reducible repeat (first | apply Kd.S_alloc | apply Kd.S_drewN | apply Kd.S_drew)); exact HO1174.out) hb)
                have n2_ := am (Kd.R_lower ho0 (below_size (by repeat (first | (with_reducible first | exact HB.out | apply bA | apply bN | apply bD | refine below_set ?_ GE1164.out | refine below_set ?_ GE1165.out) | exact HB.out))))
                have n3_ := am (blk_below (g := gb1164) (o := .cells #[.slice A0_0 l0_0.length c0_0, .slice A0_1 l0_1.length c0_1] 66 (0, 0)) (by (with_reducible repeat (first | refine kN ?_ _ | refine kD ?_ | refine kA ?_ _)); exact BK1164.out) hb)
                have n4_ := am (blk_below (g := gb1165) (o := .cells #[.int .i64 a1_0, .int .i64 a1_1, .string a1_2, .slice A1_3 l1_3.length c1_3] 24 (0, 0)) (by (with_reducible repeat (first | refine kN ?_ _ | refine kD ?_ | refine kA ?_ _)); exact BK1165.out) hb)
                have n5_ := am (below_step (by repeat (first | (with_reducible first | exact HB.out | apply bA | apply bN | apply bD | refine below_set ?_ GE1164.out | refine below_set ?_ GE1165.out) | exact HB.out)) hb)
                clear HO1171
                clear HO1174
                clear BK1164
                clear BK1165
                clear HB
                have HO1171 := n0_
                have HO1174 := n1_
                have HO1180 := n2_
                have BK1164 := n3_
                have BK1165 := n4_
                have HB := n5_
                clear n0_ n1_ n2_ n3_ n4_ n5_
                (try clear hb)
                (try clear hb2)
                (try clear hk)
                (try clear hi)
                (try clear ho0)
                refine hK.out _ _ ⟨(blk_cell BK1164.out 0).trans rfl, (blk_cell BK1164.out 1).trans rfl, (blk_cell BK1165.out 0).trans rfl, (blk_cell BK1165.out 1).trans rfl, (blk_cell BK1165.out 2).trans rfl, (blk_cell BK1165.out 3).trans rfl⟩ (fun hHeld => ?_)
                clear hK K
                refine norm_ (a' := ?_) ?_ ?_
                rotate_left
                · show Act.put _ (some 31) _ = _
                  simp only [Act.put, List.setIfInBounds_toArray, List.set_cons_zero, List.set_cons_succ, i64_w, i32_w]
                  rfl
                refine one_ (i := 5) (N := some 33) #[true, true, true, true, true, true, false, false] rfl rfl (one_of HT_.out (by kernel_rfl)) (by decide) (fun K hK => ?_)
                refine goes_ Try.func50 (by kernel_rfl) rfl #[.slice A2 l2.length c2] (by rfl) rfl rfl (by (try simp only [List.map_toArray, List.map_cons, List.map_nil]); first | done | rfl | (simp only [List.length_drop, List.length_take]; rfl)) ?_
                with_reducible refine (laws_toVarSortS.calls k _ _ l2 t1181 _ ?side1 ?side2 A32.out).mono ?_
                (case side1 => repeat (first | exact (Kd.C_below HR2.out HB.out) | (with_reducible refine cA ?_ _) | (with_reducible refine cN ?_ _) | (with_reducible refine cD ?_)))
                (case side2 => exact HC2.out)
                rintro e w59 ⟨v1182, rfl, ho0, hb⟩
                refine ⟨_, rfl, ?_⟩
                have n0_ := am (Kd.R_below (by (with_reducible repeat (first | apply rA | apply rN | apply rD)); exact HO1171.out) hb)
                have n1_ := am (Kd.S_below (by (with_reducible repeat (first | apply Kd.S_alloc | apply Kd.S_drewN | apply Kd.S_drew)); exact HO1174.out) hb)
                have n2_ := am (Kd.R_below (by (with_reducible repeat (first | apply rA | apply rN | apply rD)); exact HO1180.out) hb)
                have n3_ := am (Kd.R_lower ho0 (below_size (by repeat (first | (with_reducible first | exact HB.out | apply bA | apply bN | apply bD | refine below_set ?_ GE1164.out | refine below_set ?_ GE1165.out) | exact HB.out))))
                have n4_ := am (blk_below (g := gb1164) (o := .cells #[.slice A0_0 l0_0.length c0_0, .slice A0_1 l0_1.length c0_1] 66 (0, 0)) (by (with_reducible repeat (first | refine kN ?_ _ | refine kD ?_ | refine kA ?_ _)); exact BK1164.out) hb)
                have n5_ := am (blk_below (g := gb1165) (o := .cells #[.int .i64 a1_0, .int .i64 a1_1, .string a1_2, .slice A1_3 l1_3.length c1_3] 24 (0, 0)) (by (with_reducible repeat (first | refine kN ?_ _ | refine kD ?_ | refine kA ?_ _)); exact BK1165.out) hb)
                have n6_ := am (below_step (by repeat (first | (with_reducible first | exact HB.out | apply bA | apply bN | apply bD | refine below_set ?_ GE1164.out | refine below_set ?_ GE1165.out) | exact HB.out)) hb)
                clear HO1171
                clear HO1174
                clear HO1180
                clear BK1164
                clear BK1165
                clear HB
                have HO1171 := n0_
                have HO1174 := n1_
                have HO1180 := n2_
                have HO1183 := n3_
                have BK1164 := n4_
                have BK1165 := n5_
                have HB := n6_
                clear n0_ n1_ n2_ n3_ n4_ n5_ n6_
                (try clear hb)
                (try clear hb2)
                (try clear hk)
                (try clear hi)
                (try clear ho0)
                obtain ⟨Ao60, co60, eo60⟩ := Kd.R_slice HO1171.out
                (first | subst eo60 | (injection eo60 with f1_ f2_ f3_; have f4_ := f1_.symm; have f5_ := f3_.symm; clear f1_ f2_ f3_; subst f4_; subst f5_))
                obtain ⟨Ao61, co61, eo61⟩ := Kd.S_slice HO1174.out
                (first | subst eo61 | (injection eo61 with f1_ f2_ f3_; have f4_ := f1_.symm; have f5_ := f3_.symm; clear f1_ f2_ f3_; subst f4_; subst f5_))
                obtain ⟨Ao62, co62, eo62⟩ := Kd.R_slice HO1180.out
                (first | subst eo62 | (injection eo62 with f1_ f2_ f3_; have f4_ := f1_.symm; have f5_ := f3_.symm; clear f1_ f2_ f3_; subst f4_; subst f5_))
                obtain ⟨Ao63, co63, eo63⟩ := Kd.R_slice HO1183.out
                (first | subst eo63 | (injection eo63 with f1_ f2_ f3_; have f4_ := f1_.symm; have f5_ := f3_.symm; clear f1_ f2_ f3_; subst f4_; subst f5_))
                refine hK.out _ _ ⟨(blk_cell BK1164.out 0).trans rfl, (blk_cell BK1164.out 1).trans rfl, (blk_cell BK1165.out 0).trans rfl, (blk_cell BK1165.out 1).trans rfl, (blk_cell BK1165.out 2).trans rfl, (blk_cell BK1165.out 3).trans rfl⟩ (fun hHeld => ?_)
                clear hK K
                refine norm_ (a' := ?_) ?_ ?_
                rotate_left
                · show Act.put _ (some 33) _ = _
                  simp only [Act.put, List.setIfInBounds_toArray, List.set_cons_zero, List.set_cons_succ, i64_w, i32_w]
                  rfl
                refine one_ (i := 6) (N := some 34) #[true, true, true, true, true, true, true, false] rfl rfl (one_of HT_.out (by kernel_rfl)) (by decide) (fun K hK => ?_)
                refine goes_ Try.func48 (by kernel_rfl) rfl #[.agg #[.slice Ao60 t1169.length co60, .slice Ao61 t1172.length co61], .agg #[.int .i64 t1175, .int .i64 t1176, .string t1177, .slice Ao62 t1178.length co62], .slice Ao63 t1181.length co63] (by rfl) rfl rfl (by (try simp only [List.map_toArray, List.map_cons, List.map_nil]); first | done | rfl | (simp only [List.length_drop, List.length_take]; rfl)) ?_
                with_reducible refine (spec_SortOf.calls k _ _ t1169 _ _ t1172 t1175 t1176 t1177 _ _ t1178 _ _ t1181 t1184 _ ?side1 ?side2 ?side3 ?side4 ?side5 ?side6 ?side7 ?side8 A33.out).mono ?_
                (case side1 => repeat (first | exact (Kd.R_reads' HO1171.out).2.2 | (with_reducible refine cA ?_ _) | (with_reducible refine cN ?_ _) | (with_reducible refine cD ?_)))
                (case side2 => exact (Kd.R_reads' HO1171.out).2.1)
                (case side3 => repeat (first | exact (Kd.S_reads' HO1174.out).2.2 | (with_reducible refine cA ?_ _) | (with_reducible refine cN ?_ _) | (with_reducible refine cD ?_)))
                (case side4 => exact (Kd.S_reads' HO1174.out).2.1)
                (case side5 => repeat (first | exact (Kd.R_reads' HO1180.out).2.2 | (with_reducible refine cA ?_ _) | (with_reducible refine cN ?_ _) | (with_reducible refine cD ?_)))
                (case side6 => exact (Kd.R_reads' HO1180.out).2.1)
                (case side7 => repeat (first | exact (Kd.R_reads' HO1183.out).2.2 | (with_reducible refine cA ?_ _) | (with_reducible refine cN ?_ _) | (with_reducible refine cD ?_)))
                (case side8 => exact (Kd.R_reads' HO1183.out).2.1)
                rintro e w64 ⟨rfl, hb⟩
                refine ⟨_, rfl, ?_⟩
                have n0_ := am (Kd.R_below (by (with_reducible repeat (first | apply rA | apply rN | apply rD)); exact HO1171.out) hb)
                have n1_ := am (Kd.S_below (by (with_reducible repeat (first | apply Kd.S_alloc | apply Kd.S_drewN | apply Kd.S_drew)); exact HO1174.out) hb)
                have n2_ := am (Kd.R_below (by (with_reducible repeat (first | apply rA | apply rN | apply rD)); exact HO1180.out) hb)
                have n3_ := am (Kd.R_below (by (with_reducible repeat (first | apply rA | apply rN | apply rD)); exact HO1183.out) hb)
                have n4_ := am (blk_below (g := gb1164) (o := .cells #[.slice A0_0 l0_0.length c0_0, .slice A0_1 l0_1.length c0_1] 66 (0, 0)) (by (with_reducible repeat (first | refine kN ?_ _ | refine kD ?_ | refine kA ?_ _)); exact BK1164.out) hb)
                have n5_ := am (blk_below (g := gb1165) (o := .cells #[.int .i64 a1_0, .int .i64 a1_1, .string a1_2, .slice A1_3 l1_3.length c1_3] 24 (0, 0)) (by (with_reducible repeat (first | refine kN ?_ _ | refine kD ?_ | refine kA ?_ _)); exact BK1165.out) hb)
                have n6_ := am (below_step (by repeat (first | (with_reducible first | exact HB.out | apply bA | apply bN | apply bD | refine below_set ?_ GE1164.out | refine below_set ?_ GE1165.out) | exact HB.out)) hb)
                clear HO1171
                clear HO1174
                clear HO1180
                clear HO1183
                clear BK1164
                clear BK1165
                clear HB
                have HO1171 := n0_
                have HO1174 := n1_
                have HO1180 := n2_
                have HO1183 := n3_
                have BK1164 := n4_
                have BK1165 := n5_
                have HB := n6_
                clear n0_ n1_ n2_ n3_ n4_ n5_ n6_
                (try clear hb)
                (try clear hb2)
                (try clear hk)
                (try clear hi)
                refine hK.out _ _ ⟨(blk_cell BK1164.out 0).trans rfl, (blk_cell BK1164.out 1).trans rfl, (blk_cell BK1165.out 0).trans rfl, (blk_cell BK1165.out 1).trans rfl, (blk_cell BK1165.out 2).trans rfl, (blk_cell BK1165.out 3).trans rfl⟩ (fun hHeld => ?_)
                clear hK K
                refine norm_ (a' := ?_) ?_ ?_
                rotate_left
                · show Act.put _ (some 34) _ = _
                  simp only [Act.put, List.setIfInBounds_toArray, List.set_cons_zero, List.set_cons_succ, i64_w, i32_w]
                  rfl
                refine pure_ (i := 7) (N := some 8) (v := ?_) (a' := ?_) #[true, true, true, true, true, true, true, true] rfl rfl (any_of HT_.out (by kernel_rfl)) (fun _ _ _ h => h) (Or.inl ⟨by rfl, ?_⟩) ?_ ?_
                rotate_left
                · intro w'
                  go_simp
                  with_reducible rfl
                rotate_left
                · simp only [Act.put, List.setIfInBounds_toArray, List.set_cons_zero, List.set_cons_succ, i64_w, i32_w]
                  rfl
                refine done_ (done_of HT_.out (by kernel_rfl)) ?_
                have hcz65_0 : w64.cell? ⟨gb1164, 0, none⟩ = some (.slice A0_0 l0_0.length c0_0) := (blk_cell BK1164.out 0).trans rfl
                have hcz65_1 : w64.cell? ⟨gb1164, 1, none⟩ = some (.slice A0_1 l0_1.length c0_1) := (blk_cell BK1164.out 1).trans rfl
                have hfz65_0 := blk_frozen BK1164.out 0
                have hfz65_1 := blk_frozen BK1164.out 1
                try go_wp2_with (first | ((with_reducible refine gate_callee (f := 49) rfl ?_); refine goesL_ (some 36) rfl rfl Try.func49 (by kernel_rfl) rfl #[.agg #[.slice A0_0 l0_0.length c0_0, .slice A0_1 l0_1.length c0_1]] rfl (by (try simp only [List.map_toArray, List.map_cons, List.map_nil]); first | done | rfl | (simp only [List.length_drop, List.length_take]; rfl)) ?_; (with_reducible refine (laws_toSignature.calls k _ _ l0_0 _ _ l0_1 t1185 t1188 _ ?side1 ?side2 ?side3 ?side4 A34.out).mono ?_); (case side1 => repeat (first | exact (Kd.C_below HR0_0.out HB.out) | (with_reducible refine cA ?_ _) | (with_reducible refine cN ?_ _) | (with_reducible refine cD ?_))); (case side2 => exact HC0_0.out); (case side3 => repeat (first | exact (Kd.C_below HR0_1.out HB.out) | (with_reducible refine cA ?_ _) | (with_reducible refine cN ?_ _) | (with_reducible refine cD ?_))); (case side4 => exact HC0_1.out); rintro e w66 ⟨v1186, v1189, rfl, ho0, ho1, hb⟩; refine ⟨_, rfl, ?_⟩; have n0_ := am (Kd.R_elder' (by (with_reducible repeat (first | apply rA | apply rN | apply rD)); exact HO1171.out) (Kd.R_base ho0) hb); have n1_ := am (Kd.S_mono (Kd.S_told (Kd.S_told (Kd.S_old (by (with_reducible repeat (first | apply Kd.S_alloc | apply Kd.S_drewN | apply Kd.S_drew)); exact HO1174.out) hb) (Kd.R_base ho0)) (Kd.S_base ho1)) (fun _ h_ => h_.1)); have n2_ := am (Kd.R_below (by (with_reducible repeat (first | apply rA | apply rN | apply rD)); exact HO1180.out) hb); have n3_ := am (Kd.R_below (by (with_reducible repeat (first | apply rA | apply rN | apply rD)); exact HO1183.out) hb); have n4_ := am (Kd.R_lower (Kd.R_new' ho0 (Kd.R_lt (by (with_reducible repeat (first | apply rA | apply rN | apply rD)); exact HO1171.out))) (below_size (by repeat (first | (with_reducible first | exact HB.out | apply bA | apply bN | apply bD | refine below_set ?_ GE1164.out | refine below_set ?_ GE1165.out) | exact HB.out)))); have n5_ := am (Kd.S_lower (Kd.S_new' (Kd.S_new' ho1 (Kd.R_lt (by (with_reducible repeat (first | apply rA | apply rN | apply rD)); exact HO1171.out))) (Kd.S_lt (by (with_reducible repeat (first | apply Kd.S_alloc | apply Kd.S_drewN | apply Kd.S_drew)); exact HO1174.out))) (below_size (by repeat (first | (with_reducible first | exact HB.out | apply bA | apply bN | apply bD | refine below_set ?_ GE1164.out | refine below_set ?_ GE1165.out) | exact HB.out)))); have n6_ := am (blk_below (g := gb1164) (o := .cells #[.slice A0_0 l0_0.length c0_0, .slice A0_1 l0_1.length c0_1] 66 (0, 0)) (by (with_reducible repeat (first | refine kN ?_ _ | refine kD ?_ | refine kA ?_ _)); exact BK1164.out) hb); have n7_ := am (blk_below (g := gb1165) (o := .cells #[.int .i64 a1_0, .int .i64 a1_1, .string a1_2, .slice A1_3 l1_3.length c1_3] 24 (0, 0)) (by (with_reducible repeat (first | refine kN ?_ _ | refine kD ?_ | refine kA ?_ _)); exact BK1165.out) hb); have n8_ := am (below_step (by repeat (first | (with_reducible first | exact HB.out | apply bA | apply bN | apply bD | refine below_set ?_ GE1164.out | refine below_set ?_ GE1165.out) | exact HB.out)) hb); clear HO1171; clear HO1174; clear HO1180; clear HO1183; clear BK1164; clear BK1165; clear HB; have HO1171 := n0_; have HO1174 := n1_; have HO1180 := n2_; have HO1183 := n3_; have HO1187 := n4_; have HO1190 := n5_; have BK1164 := n6_; have BK1165 := n7_; have HB := n8_; clear n0_ n1_ n2_ n3_ n4_ n5_ n6_ n7_ n8_) | ((with_reducible refine gate_dst (N := 9) rfl ?_); refine box_event ?hg (N := 9) ?hd (cs := #[.slice none 0 0, .slice none 0 0]) (t := 73) ?hr ?_; (case hd => rfl); (case hg => rfl); (case hr => first | (go_simp; done) | (go_simp; rfl)); intro gb1191 hg w67 hbox hb; have n0_ := am (Kd.R_below (by (with_reducible repeat (first | apply rA | apply rN | apply rD)); exact HO1171.out) hb); have n1_ := am (Kd.S_below (by (with_reducible repeat (first | apply Kd.S_alloc | apply Kd.S_drewN | apply Kd.S_drew)); exact HO1174.out) hb); have n2_ := am (Kd.R_below (by (with_reducible repeat (first | apply rA | apply rN | apply rD)); exact HO1180.out) hb); have n3_ := am (Kd.R_below (by (with_reducible repeat (first | apply rA | apply rN | apply rD)); exact HO1183.out) hb); have n4_ := am (Kd.R_below (by (with_reducible repeat (first | apply rA | apply rN | apply rD)); exact HO1187.out) hb); have n5_ := am (Kd.S_below (by (with_reducible repeat (first | apply Kd.S_alloc | apply Kd.S_drewN | apply Kd.S_drew)); exact HO1190.out) hb); have n6_ := am (blk_below (g := gb1164) (o := .cells #[.slice A0_0 l0_0.length c0_0, .slice A0_1 l0_1.length c0_1] 66 (0, 0)) (by (with_reducible repeat (first | refine kN ?_ _ | refine kD ?_ | refine kA ?_ _)); exact BK1164.out) hb); have n7_ := am (blk_below (g := gb1165) (o := .cells #[.int .i64 a1_0, .int .i64 a1_1, .string a1_2, .slice A1_3 l1_3.length c1_3] 24 (0, 0)) (by (with_reducible repeat (first | refine kN ?_ _ | refine kD ?_ | refine kA ?_ _)); exact BK1165.out) hb); have n8_ := am (below_step (by repeat (first | (with_reducible first | exact HB.out | apply bA | apply bN | apply bD | refine below_set ?_ GE1164.out | refine below_set ?_ GE1165.out) | exact HB.out)) hb); have n9_ := am (hbox); have n10_ := am ((by rw [hg]; exact (below_size (by repeat (first | (with_reducible first | exact HB.out | apply bA | apply bN | apply bD | refine below_set ?_ GE1164.out | refine below_set ?_ GE1165.out) | exact HB.out))) : w.heap.size ≤ gb1191)); have n11_ := am ((by rw [hg]; exact (below_size (by repeat (first | (with_reducible first | exact HB.out | apply bA | apply bN | apply bD | refine below_set ?_ GE1164.out | refine below_set ?_ GE1165.out) | exact HB.out))) : w.heap.size ≤ gb1191)); have n12_ := am ((by rw [hg]; exact Nat.ne_of_lt (blk_lt (g := gb1164) (o := .cells #[.slice A0_0 l0_0.length c0_0, .slice A0_1 l0_1.length c0_1] 66 (0, 0)) (by (with_reducible repeat (first | refine kN ?_ _ | refine kD ?_ | refine kA ?_ _)); exact BK1164.out)) : gb1164 ≠ gb1191)); have n13_ := am ((by rw [hg]; exact Nat.ne_of_gt (blk_lt (g := gb1164) (o := .cells #[.slice A0_0 l0_0.length c0_0, .slice A0_1 l0_1.length c0_1] 66 (0, 0)) (by (with_reducible repeat (first | refine kN ?_ _ | refine kD ?_ | refine kA ?_ _)); exact BK1164.out)) : gb1191 ≠ gb1164)); have n14_ := am ((by rw [hg]; exact Nat.ne_of_lt (blk_lt (g := gb1165) (o := .cells #[.int .i64 a1_0, .int .i64 a1_1, .string a1_2, .slice A1_3 l1_3.length c1_3] 24 (0, 0)) (by (with_reducible repeat (first | refine kN ?_ _ | refine kD ?_ | refine kA ?_ _)); exact BK1165.out)) : gb1165 ≠ gb1191)); have n15_ := am ((by rw [hg]; exact Nat.ne_of_gt (blk_lt (g := gb1165) (o := .cells #[.int .i64 a1_0, .int .i64 a1_1, .string a1_2, .slice A1_3 l1_3.length c1_3] 24 (0, 0)) (by (with_reducible repeat (first | refine kN ?_ _ | refine kD ?_ | refine kA ?_ _)); exact BK1165.out)) : gb1191 ≠ gb1165)); clear HO1171; clear HO1174; clear HO1180; clear HO1183; clear HO1187; clear HO1190; clear BK1164; clear BK1165; clear HB; have HO1171 := n0_; have HO1174 := n1_; have HO1180 := n2_; have HO1183 := n3_; have HO1187 := n4_; have HO1190 := n5_; have BK1164 := n6_; have BK1165 := n7_; have HB := n8_; have BK1191 := n9_; have GW1191 := n10_; have GE1191 := n11_; have NB1164_1191 := n12_; have NB1191_1164 := n13_; have NB1165_1191 := n14_; have NB1191_1165 := n15_; clear n0_ n1_ n2_ n3_ n4_ n5_ n6_ n7_ n8_ n9_ n10_ n11_ n12_ n13_ n14_ n15_; clear hb hbox hg; obtain ⟨Ao68, co68, eo68⟩ := Kd.R_slice HO1187.out; subst eo68; have hnb69 := NB1191_1164.out; have hnc69 := NB1164_1191.out; have hnb70 := NB1191_1165.out; have hnc70 := NB1165_1191.out; have hcz71_0 : w67.cell? ⟨gb1191, 0, none⟩ = some (.slice none 0 0) := (blk_cell BK1191.out 0).trans rfl; have hcz71_1 : w67.cell? ⟨gb1191, 1, none⟩ = some (.slice none 0 0) := (blk_cell BK1191.out 1).trans rfl; have hfz71_0 := blk_frozen BK1191.out 0; have hfz71_1 := blk_frozen BK1191.out 1; obtain ⟨Ao72, co72, eo72⟩ := Kd.S_slice HO1190.out; subst eo72; have hcz73_0 : w67.cell? ⟨gb1165, 0, none⟩ = some (.int .i64 a1_0) := (blk_cell BK1165.out 0).trans rfl; have hcz73_1 : w67.cell? ⟨gb1165, 1, none⟩ = some (.int .i64 a1_1) := (blk_cell BK1165.out 1).trans rfl; have hcz73_2 : w67.cell? ⟨gb1165, 2, none⟩ = some (.string a1_2) := (blk_cell BK1165.out 2).trans rfl; have hcz73_3 : w67.cell? ⟨gb1165, 3, none⟩ = some (.slice A1_3 l1_3.length c1_3) := (blk_cell BK1165.out 3).trans rfl; have hfz73_0 := blk_frozen BK1165.out 0; have hfz73_1 := blk_frozen BK1165.out 1; have hfz73_2 := blk_frozen BK1165.out 2; have hfz73_3 := blk_frozen BK1165.out 3) | ((with_reducible refine gate_callee (f := 16) rfl ?_); refine goesL_ (some 38) rfl rfl Try.func16 (by kernel_rfl) rfl #[.agg #[.int .i64 a1_0, .int .i64 a1_1, .string a1_2, .slice A1_3 l1_3.length c1_3]] rfl (by (try simp only [List.map_toArray, List.map_cons, List.map_nil]); first | done | rfl | (simp only [List.length_drop, List.length_take]; rfl)) ?_; (with_reducible refine (laws_toTerm.calls k a1_0 a1_1 a1_2 _ _ l1_3 t1192 t1193 t1194 t1195 _ ?side1 ?side2 A35.out).mono ?_); (case side1 => exact Kd.C_below HR1_3.out (by repeat (first | (with_reducible first | exact HB.out | apply bA | apply bN | apply bD | refine below_set ?_ GE1164.out | refine below_set ?_ GE1165.out | refine below_set ?_ GE1191.out) | exact HB.out))); (case side2 => exact HC1_3.out); rintro e w74 ⟨v1196, rfl, ho0, hb⟩; refine ⟨_, rfl, ?_⟩; have n0_ := am (Kd.R_below (by (with_reducible repeat (first | apply rA | apply rN | apply rD)); exact (Kd.R_mono (Kd.R_far (p := ⟨gb1191, 1, none⟩) (Kd.R_far (p := ⟨gb1191, 0, none⟩) (Kd.R_types HO1171.out BK1191.out (by decide)) (fun _ hk => hk.2) (.slice Ao68 t1185.length co68)) (fun _ hk => hk.2) (.slice Ao72 t1188.length co72)) (fun _ h_ => h_.1))) hb); have n1_ := am (Kd.S_below (by (with_reducible repeat (first | apply Kd.S_alloc | apply Kd.S_drewN | apply Kd.S_drew)); exact (Kd.S_mono (Kd.S_far (p := ⟨gb1191, 1, none⟩) (Kd.S_far (p := ⟨gb1191, 0, none⟩) (Kd.S_types HO1174.out BK1191.out (by decide)) (fun _ hk => hk.2) (.slice Ao68 t1185.length co68)) (fun _ hk => hk.2) (.slice Ao72 t1188.length co72)) (fun _ h_ => h_.1))) hb); have n2_ := am (Kd.R_elder' (by (with_reducible repeat (first | apply rA | apply rN | apply rD)); exact (Kd.R_mono (Kd.R_far (p := ⟨gb1191, 1, none⟩) (Kd.R_far (p := ⟨gb1191, 0, none⟩) (Kd.R_types HO1180.out BK1191.out (by decide)) (fun _ hk => hk.2) (.slice Ao68 t1185.length co68)) (fun _ hk => hk.2) (.slice Ao72 t1188.length co72)) (fun _ h_ => h_.1))) (Kd.R_base ho0) hb); have n3_ := am (Kd.R_below (by (with_reducible repeat (first | apply rA | apply rN | apply rD)); exact (Kd.R_mono (Kd.R_far (p := ⟨gb1191, 1, none⟩) (Kd.R_far (p := ⟨gb1191, 0, none⟩) (Kd.R_types HO1183.out BK1191.out (by decide)) (fun _ hk => hk.2) (.slice Ao68 t1185.length co68)) (fun _ hk => hk.2) (.slice Ao72 t1188.length co72)) (fun _ h_ => h_.1))) hb); have n4_ := am (Kd.R_below (by (with_reducible repeat (first | apply rA | apply rN | apply rD)); exact (Kd.R_mono (Kd.R_far (p := ⟨gb1191, 1, none⟩) (Kd.R_far (p := ⟨gb1191, 0, none⟩) (Kd.R_types HO1187.out BK1191.out (by decide)) (fun _ hk => hk.2) (.slice Ao68 t1185.length co68)) (fun _ hk => hk.2) (.slice Ao72 t1188.length co72)) (fun _ h_ => h_.1))) hb); have n5_ := am (Kd.S_below (by (with_reducible repeat (first | apply Kd.S_alloc | apply Kd.S_drewN | apply Kd.S_drew)); exact (Kd.S_mono (Kd.S_far (p := ⟨gb1191, 1, none⟩) (Kd.S_far (p := ⟨gb1191, 0, none⟩) (Kd.S_types HO1190.out BK1191.out (by decide)) (fun _ hk => hk.2) (.slice Ao68 t1185.length co68)) (fun _ hk => hk.2) (.slice Ao72 t1188.length co72)) (fun _ h_ => h_.1))) hb); have n6_ := am (Kd.R_lower (Kd.R_new' ho0 (Kd.R_lt (by (with_reducible repeat (first | apply rA | apply rN | apply rD)); exact (Kd.R_mono (Kd.R_far (p := ⟨gb1191, 1, none⟩) (Kd.R_far (p := ⟨gb1191, 0, none⟩) (Kd.R_types HO1180.out BK1191.out (by decide)) (fun _ hk => hk.2) (.slice Ao68 t1185.length co68)) (fun _ hk => hk.2) (.slice Ao72 t1188.length co72)) (fun _ h_ => h_.1))))) (below_size (by repeat (first | (with_reducible first | exact HB.out | apply bA | apply bN | apply bD | refine below_set ?_ GE1164.out | refine below_set ?_ GE1165.out | refine below_set ?_ GE1191.out) | exact HB.out)))); have n7_ := am (blk_below (g := gb1164) (o := .cells #[.slice A0_0 l0_0.length c0_0, .slice A0_1 l0_1.length c0_1] 66 (0, 0)) (by (with_reducible repeat (first | refine kN ?_ _ | refine kD ?_ | refine kA ?_ _)); refine blk_far ?_ NB1164_1191.out _; (with_reducible repeat (first | refine kN ?_ _ | refine kD ?_ | refine kA ?_ _)); refine blk_far ?_ NB1164_1191.out _; (with_reducible repeat (first | refine kN ?_ _ | refine kD ?_ | refine kA ?_ _)); exact BK1164.out) hb); have n8_ := am (blk_below (g := gb1165) (o := .cells #[.int .i64 a1_0, .int .i64 a1_1, .string a1_2, .slice A1_3 l1_3.length c1_3] 24 (0, 0)) (by (with_reducible repeat (first | refine kN ?_ _ | refine kD ?_ | refine kA ?_ _)); refine blk_far ?_ NB1165_1191.out _; (with_reducible repeat (first | refine kN ?_ _ | refine kD ?_ | refine kA ?_ _)); refine blk_far ?_ NB1165_1191.out _; (with_reducible repeat (first | refine kN ?_ _ | refine kD ?_ | refine kA ?_ _)); exact BK1165.out) hb); have n9_ := am (blk_below (g := gb1191) (o := .cells #[.slice Ao68 t1185.length co68, .slice Ao72 t1188.length co72] 73 (0, 0)) (by (with_reducible repeat (first | refine kN ?_ _ | refine kD ?_ | refine kA ?_ _)); refine blk_put (cs := #[.slice Ao68 t1185.length co68, .slice none 0 0]) ?_ 1 _ rfl; (with_reducible repeat (first | refine kN ?_ _ | refine kD ?_ | refine kA ?_ _)); refine blk_put (cs := #[.slice none 0 0, .slice none 0 0]) ?_ 0 _ rfl; (with_reducible repeat (first | refine kN ?_ _ | refine kD ?_ | refine kA ?_ _)); exact BK1191.out) hb); have n10_ := am (below_step (by repeat (first | (with_reducible first | exact HB.out | apply bA | apply bN | apply bD | refine below_set ?_ GE1164.out | refine below_set ?_ GE1165.out | refine below_set ?_ GE1191.out) | exact HB.out)) hb); clear HO1171; clear HO1174; clear HO1180; clear HO1183; clear HO1187; clear HO1190; clear BK1164; clear BK1165; clear BK1191; clear HB; have HO1171 := n0_; have HO1174 := n1_; have HO1180 := n2_; have HO1183 := n3_; have HO1187 := n4_; have HO1190 := n5_; have HO1197 := n6_; have BK1164 := n7_; have BK1165 := n8_; have BK1191 := n9_; have HB := n10_; clear n0_ n1_ n2_ n3_ n4_ n5_ n6_ n7_ n8_ n9_ n10_) | ((with_reducible refine gate_dst (N := 10) rfl ?_); refine box_event ?hg (N := 10) ?hd (cs := #[.int .i64 0, .int .i64 0, .string (⟨#[]⟩ : ByteArray), .slice none 0 0]) (t := 29) ?hr ?_; (case hd => rfl); (case hg => rfl); (case hr => first | (go_simp; done) | (go_simp; rfl)); intro gb1198 hg w75 hbox hb; have n0_ := am (Kd.R_below (by (with_reducible repeat (first | apply rA | apply rN | apply rD)); exact HO1171.out) hb); have n1_ := am (Kd.S_below (by (with_reducible repeat (first | apply Kd.S_alloc | apply Kd.S_drewN | apply Kd.S_drew)); exact HO1174.out) hb); have n2_ := am (Kd.R_below (Kd.R_elderB (by (with_reducible repeat (first | apply rA | apply rN | apply rD)); exact HO1180.out) gb1198 (Nat.le_of_eq hg.symm)) hb); have n3_ := am (Kd.R_below (by (with_reducible repeat (first | apply rA | apply rN | apply rD)); exact HO1183.out) hb); have n4_ := am (Kd.R_below (by (with_reducible repeat (first | apply rA | apply rN | apply rD)); exact HO1187.out) hb); have n5_ := am (Kd.S_below (by (with_reducible repeat (first | apply Kd.S_alloc | apply Kd.S_drewN | apply Kd.S_drew)); exact HO1190.out) hb); have n6_ := am (Kd.R_below (Kd.R_elderB (by (with_reducible repeat (first | apply rA | apply rN | apply rD)); exact HO1197.out) gb1198 (Nat.le_of_eq hg.symm)) hb); have n7_ := am (blk_below (g := gb1164) (o := .cells #[.slice A0_0 l0_0.length c0_0, .slice A0_1 l0_1.length c0_1] 66 (0, 0)) (by (with_reducible repeat (first | refine kN ?_ _ | refine kD ?_ | refine kA ?_ _)); exact BK1164.out) hb); have n8_ := am (blk_below (g := gb1165) (o := .cells #[.int .i64 a1_0, .int .i64 a1_1, .string a1_2, .slice A1_3 l1_3.length c1_3] 24 (0, 0)) (by (with_reducible repeat (first | refine kN ?_ _ | refine kD ?_ | refine kA ?_ _)); exact BK1165.out) hb); have n9_ := am (blk_below (g := gb1191) (o := .cells #[.slice Ao68 t1185.length co68, .slice Ao72 t1188.length co72] 73 (0, 0)) (by (with_reducible repeat (first | refine kN ?_ _ | refine kD ?_ | refine kA ?_ _)); exact BK1191.out) hb); have n10_ := am (below_step (by repeat (first | (with_reducible first | exact HB.out | apply bA | apply bN | apply bD | refine below_set ?_ GE1164.out | refine below_set ?_ GE1165.out | refine below_set ?_ GE1191.out) | exact HB.out)) hb); have n11_ := am (hbox); have n12_ := am ((by rw [hg]; exact (below_size (by repeat (first | (with_reducible first | exact HB.out | apply bA | apply bN | apply bD | refine below_set ?_ GE1164.out | refine below_set ?_ GE1165.out | refine below_set ?_ GE1191.out) | exact HB.out))) : w.heap.size ≤ gb1198)); have n13_ := am ((by rw [hg]; exact (below_size (by repeat (first | (with_reducible first | exact HB.out | apply bA | apply bN | apply bD | refine below_set ?_ GE1164.out | refine below_set ?_ GE1165.out | refine below_set ?_ GE1191.out) | exact HB.out))) : w.heap.size ≤ gb1198)); have n14_ := am ((by rw [hg]; exact Nat.ne_of_lt (blk_lt (g := gb1164) (o := .cells #[.slice A0_0 l0_0.length c0_0, .slice A0_1 l0_1.length c0_1] 66 (0, 0)) (by (with_reducible repeat (first | refine kN ?_ _ | refine kD ?_ | refine kA ?_ _)); exact BK1164.out)) : gb1164 ≠ gb1198)); have n15_ := am ((by rw [hg]; exact Nat.ne_of_gt (blk_lt (g := gb1164) (o := .cells #[.slice A0_0 l0_0.length c0_0, .slice A0_1 l0_1.length c0_1] 66 (0, 0)) (by (with_reducible repeat (first | refine kN ?_ _ | refine kD ?_ | refine kA ?_ _)); exact BK1164.out)) : gb1198 ≠ gb1164)); have n16_ := am ((by rw [hg]; exact Nat.ne_of_lt (blk_lt (g := gb1165) (o := .cells #[.int .i64 a1_0, .int .i64 a1_1, .string a1_2, .slice A1_3 l1_3.length c1_3] 24 (0, 0)) (by (with_reducible repeat (first | refine kN ?_ _ | refine kD ?_ | refine kA ?_ _)); exact BK1165.out)) : gb1165 ≠ gb1198)); have n17_ := am ((by rw [hg]; exact Nat.ne_of_gt (blk_lt (g := gb1165) (o := .cells #[.int .i64 a1_0, .int .i64 a1_1, .string a1_2, .slice A1_3 l1_3.length c1_3] 24 (0, 0)) (by (with_reducible repeat (first | refine kN ?_ _ | refine kD ?_ | refine kA ?_ _)); exact BK1165.out)) : gb1198 ≠ gb1165)); have n18_ := am ((by rw [hg]; exact Nat.ne_of_lt (blk_lt (g := gb1191) (o := .cells #[.slice Ao68 t1185.length co68, .slice Ao72 t1188.length co72] 73 (0, 0)) (by (with_reducible repeat (first | refine kN ?_ _ | refine kD ?_ | refine kA ?_ _)); exact BK1191.out)) : gb1191 ≠ gb1198)); have n19_ := am ((by rw [hg]; exact Nat.ne_of_gt (blk_lt (g := gb1191) (o := .cells #[.slice Ao68 t1185.length co68, .slice Ao72 t1188.length co72] 73 (0, 0)) (by (with_reducible repeat (first | refine kN ?_ _ | refine kD ?_ | refine kA ?_ _)); exact BK1191.out)) : gb1198 ≠ gb1191)); clear HO1171; clear HO1174; clear HO1180; clear HO1183; clear HO1187; clear HO1190; clear HO1197; clear BK1164; clear BK1165; clear BK1191; clear HB; have HO1171 := n0_; have HO1174 := n1_; have HO1180 := n2_; have HO1183 := n3_; have HO1187 := n4_; have HO1190 := n5_; have HO1197 := n6_; have BK1164 := n7_; have BK1165 := n8_; have BK1191 := n9_; have HB := n10_; have BK1198 := n11_; have GW1198 := n12_; have GE1198 := n13_; have NB1164_1198 := n14_; have NB1198_1164 := n15_; have NB1165_1198 := n16_; have NB1198_1165 := n17_; have NB1191_1198 := n18_; have NB1198_1191 := n19_; clear n0_ n1_ n2_ n3_ n4_ n5_ n6_ n7_ n8_ n9_ n10_ n11_ n12_ n13_ n14_ n15_ n16_ n17_ n18_ n19_; clear hb hbox hg; have hnb76 := NB1198_1164.out; have hnc76 := NB1164_1198.out; have hnb77 := NB1198_1165.out; have hnc77 := NB1165_1198.out; have hnb78 := NB1198_1191.out; have hnc78 := NB1191_1198.out; have hcz79_0 : w75.cell? ⟨gb1198, 0, none⟩ = some (.int .i64 0) := (blk_cell BK1198.out 0).trans rfl; have hcz79_1 : w75.cell? ⟨gb1198, 1, none⟩ = some (.int .i64 0) := (blk_cell BK1198.out 1).trans rfl; have hcz79_2 : w75.cell? ⟨gb1198, 2, none⟩ = some (.string (⟨#[]⟩ : ByteArray)) := (blk_cell BK1198.out 2).trans rfl; have hcz79_3 : w75.cell? ⟨gb1198, 3, none⟩ = some (.slice none 0 0) := (blk_cell BK1198.out 3).trans rfl; have hfz79_0 := blk_frozen BK1198.out 0; have hfz79_1 := blk_frozen BK1198.out 1; have hfz79_2 := blk_frozen BK1198.out 2; have hfz79_3 := blk_frozen BK1198.out 3; obtain ⟨Ao80, co80, eo80⟩ := Kd.R_slice HO1197.out; subst eo80) | ((with_reducible refine gate_callee (f := 50) rfl ?_); refine goesL_ (some 40) rfl rfl Try.func50 (by kernel_rfl) rfl #[.slice A2 l2.length c2] rfl (by (try simp only [List.map_toArray, List.map_cons, List.map_nil]); first | done | rfl | (simp only [List.length_drop, List.length_take]; rfl)) ?_; (with_reducible refine (laws_toVarSortS.calls k _ _ l2 t1199 _ ?side1 ?side2 A36.out).mono ?_); (case side1 => exact Kd.C_below HR2.out (by repeat (first | (with_reducible first | exact HB.out | apply bA | apply bN | apply bD | refine below_set ?_ GE1164.out | refine below_set ?_ GE1165.out | refine below_set ?_ GE1191.out | refine below_set ?_ GE1198.out) | exact HB.out))); (case side2 => exact HC2.out); rintro e w81 ⟨v1200, rfl, ho0, hb⟩; refine ⟨_, rfl, ?_⟩; have n0_ := am (Kd.R_below (by (with_reducible repeat (first | apply rA | apply rN | apply rD)); exact (Kd.R_mono (Kd.R_far (p := ⟨gb1198, 3, none⟩) (Kd.R_far (p := ⟨gb1198, 2, none⟩) (Kd.R_far (p := ⟨gb1198, 1, none⟩) (Kd.R_far (p := ⟨gb1198, 0, none⟩) (Kd.R_types HO1171.out BK1198.out (by decide)) (fun _ hk => hk.2) (.int .i64 t1192)) (fun _ hk => hk.2) (.int .i64 t1193)) (fun _ hk => hk.2) (.string t1194)) (fun _ hk => hk.2) (.slice Ao80 t1195.length co80)) (fun _ h_ => h_.1))) hb); have n1_ := am (Kd.S_below (by (with_reducible repeat (first | apply Kd.S_alloc | apply Kd.S_drewN | apply Kd.S_drew)); exact (Kd.S_mono (Kd.S_far (p := ⟨gb1198, 3, none⟩) (Kd.S_far (p := ⟨gb1198, 2, none⟩) (Kd.S_far (p := ⟨gb1198, 1, none⟩) (Kd.S_far (p := ⟨gb1198, 0, none⟩) (Kd.S_types HO1174.out BK1198.out (by decide)) (fun _ hk => hk.2) (.int .i64 t1192)) (fun _ hk => hk.2) (.int .i64 t1193)) (fun _ hk => hk.2) (.string t1194)) (fun _ hk => hk.2) (.slice Ao80 t1195.length co80)) (fun _ h_ => h_.1))) hb); have n2_ := am (Kd.R_below (by (with_reducible repeat (first | apply rA | apply rN | apply rD)); exact (Kd.R_mono (Kd.R_far (p := ⟨gb1198, 3, none⟩) (Kd.R_far (p := ⟨gb1198, 2, none⟩) (Kd.R_far (p := ⟨gb1198, 1, none⟩) (Kd.R_far (p := ⟨gb1198, 0, none⟩) (Kd.R_mono HO1180.out (fun k_ hk => (⟨hk, hk.2⟩ : _ ∧ k_ ≠ gb1198))) (fun _ hk => hk.2) (.int .i64 t1192)) (fun _ hk => hk.2) (.int .i64 t1193)) (fun _ hk => hk.2) (.string t1194)) (fun _ hk => hk.2) (.slice Ao80 t1195.length co80)) (fun _ h_ => h_.1))) hb); have n3_ := am (Kd.R_elder' (by (with_reducible repeat (first | apply rA | apply rN | apply rD)); exact (Kd.R_mono (Kd.R_far (p := ⟨gb1198, 3, none⟩) (Kd.R_far (p := ⟨gb1198, 2, none⟩) (Kd.R_far (p := ⟨gb1198, 1, none⟩) (Kd.R_far (p := ⟨gb1198, 0, none⟩) (Kd.R_types HO1183.out BK1198.out (by decide)) (fun _ hk => hk.2) (.int .i64 t1192)) (fun _ hk => hk.2) (.int .i64 t1193)) (fun _ hk => hk.2) (.string t1194)) (fun _ hk => hk.2) (.slice Ao80 t1195.length co80)) (fun _ h_ => h_.1))) (Kd.R_base ho0) hb); have n4_ := am (Kd.R_below (by (with_reducible repeat (first | apply rA | apply rN | apply rD)); exact (Kd.R_mono (Kd.R_far (p := ⟨gb1198, 3, none⟩) (Kd.R_far (p := ⟨gb1198, 2, none⟩) (Kd.R_far (p := ⟨gb1198, 1, none⟩) (Kd.R_far (p := ⟨gb1198, 0, none⟩) (Kd.R_types HO1187.out BK1198.out (by decide)) (fun _ hk => hk.2) (.int .i64 t1192)) (fun _ hk => hk.2) (.int .i64 t1193)) (fun _ hk => hk.2) (.string t1194)) (fun _ hk => hk.2) (.slice Ao80 t1195.length co80)) (fun _ h_ => h_.1))) hb); have n5_ := am (Kd.S_below (by (with_reducible repeat (first | apply Kd.S_alloc | apply Kd.S_drewN | apply Kd.S_drew)); exact (Kd.S_mono (Kd.S_far (p := ⟨gb1198, 3, none⟩) (Kd.S_far (p := ⟨gb1198, 2, none⟩) (Kd.S_far (p := ⟨gb1198, 1, none⟩) (Kd.S_far (p := ⟨gb1198, 0, none⟩) (Kd.S_types HO1190.out BK1198.out (by decide)) (fun _ hk => hk.2) (.int .i64 t1192)) (fun _ hk => hk.2) (.int .i64 t1193)) (fun _ hk => hk.2) (.string t1194)) (fun _ hk => hk.2) (.slice Ao80 t1195.length co80)) (fun _ h_ => h_.1))) hb); have n6_ := am (Kd.R_below (by (with_reducible repeat (first | apply rA | apply rN | apply rD)); exact (Kd.R_mono (Kd.R_far (p := ⟨gb1198, 3, none⟩) (Kd.R_far (p := ⟨gb1198, 2, none⟩) (Kd.R_far (p := ⟨gb1198, 1, none⟩) (Kd.R_far (p := ⟨gb1198, 0, none⟩) (Kd.R_mono HO1197.out (fun k_ hk => (⟨hk, hk.2⟩ : _ ∧ k_ ≠ gb1198))) (fun _ hk => hk.2) (.int .i64 t1192)) (fun _ hk => hk.2) (.int .i64 t1193)) (fun _ hk => hk.2) (.string t1194)) (fun _ hk => hk.2) (.slice Ao80 t1195.length co80)) (fun _ h_ => h_.1))) hb); have n7_ := am (Kd.R_lower (Kd.R_new' ho0 (Kd.R_lt (by (with_reducible repeat (first | apply rA | apply rN | apply rD)); exact (Kd.R_mono (Kd.R_far (p := ⟨gb1198, 3, none⟩) (Kd.R_far (p := ⟨gb1198, 2, none⟩) (Kd.R_far (p := ⟨gb1198, 1, none⟩) (Kd.R_far (p := ⟨gb1198, 0, none⟩) (Kd.R_types HO1183.out BK1198.out (by decide)) (fun _ hk => hk.2) (.int .i64 t1192)) (fun _ hk => hk.2) (.int .i64 t1193)) (fun _ hk => hk.2) (.string t1194)) (fun _ hk => hk.2) (.slice Ao80 t1195.length co80)) (fun _ h_ => h_.1))))) (below_size (by repeat (first | (with_reducible first | exact HB.out | apply bA | apply bN | apply bD | refine below_set ?_ GE1164.out | refine below_set ?_ GE1165.out | refine below_set ?_ GE1191.out | refine below_set ?_ GE1198.out) | exact HB.out)))); have n8_ := am (blk_below (g := gb1164) (o := .cells #[.slice A0_0 l0_0.length c0_0, .slice A0_1 l0_1.length c0_1] 66 (0, 0)) (by (with_reducible repeat (first | refine kN ?_ _ | refine kD ?_ | refine kA ?_ _)); refine blk_far ?_ NB1164_1198.out _; (with_reducible repeat (first | refine kN ?_ _ | refine kD ?_ | refine kA ?_ _)); refine blk_far ?_ NB1164_1198.out _; (with_reducible repeat (first | refine kN ?_ _ | refine kD ?_ | refine kA ?_ _)); refine blk_far ?_ NB1164_1198.out _; (with_reducible repeat (first | refine kN ?_ _ | refine kD ?_ | refine kA ?_ _)); refine blk_far ?_ NB1164_1198.out _; (with_reducible repeat (first | refine kN ?_ _ | refine kD ?_ | refine kA ?_ _)); exact BK1164.out) hb); have n9_ := am (blk_below (g := gb1165) (o := .cells #[.int .i64 a1_0, .int .i64 a1_1, .string a1_2, .slice A1_3 l1_3.length c1_3] 24 (0, 0)) (by (with_reducible repeat (first | refine kN ?_ _ | refine kD ?_ | refine kA ?_ _)); refine blk_far ?_ NB1165_1198.out _; (with_reducible repeat (first | refine kN ?_ _ | refine kD ?_ | refine kA ?_ _)); refine blk_far ?_ NB1165_1198.out _; (with_reducible repeat (first | refine kN ?_ _ | refine kD ?_ | refine kA ?_ _)); refine blk_far ?_ NB1165_1198.out _; (with_reducible repeat (first | refine kN ?_ _ | refine kD ?_ | refine kA ?_ _)); refine blk_far ?_ NB1165_1198.out _; (with_reducible repeat (first | refine kN ?_ _ | refine kD ?_ | refine kA ?_ _)); exact BK1165.out) hb); have n10_ := am (blk_below (g := gb1191) (o := .cells #[.slice Ao68 t1185.length co68, .slice Ao72 t1188.length co72] 73 (0, 0)) (by (with_reducible repeat (first | refine kN ?_ _ | refine kD ?_ | refine kA ?_ _)); refine blk_far ?_ NB1191_1198.out _; (with_reducible repeat (first | refine kN ?_ _ | refine kD ?_ | refine kA ?_ _)); refine blk_far ?_ NB1191_1198.out _; (with_reducible repeat (first | refine kN ?_ _ | refine kD ?_ | refine kA ?_ _)); refine blk_far ?_ NB1191_1198.out _; (with_reducible repeat (first | refine kN ?_ _ | refine kD ?_ | refine kA ?_ _)); refine blk_far ?_ NB1191_1198.out _; (with_reducible repeat (first | refine kN ?_ _ | refine kD ?_ | refine kA ?_ _)); exact BK1191.out) hb); have n11_ := am (blk_below (g := gb1198) (o := .cells #[.int .i64 t1192, .int .i64 t1193, .string t1194, .slice Ao80 t1195.length co80] 29 (0, 0)) (by (with_reducible repeat (first | refine kN ?_ _ | refine kD ?_ | refine kA ?_ _)); refine blk_put (cs := #[.int .i64 t1192, .int .i64 t1193, .string t1194, .slice none 0 0]) ?_ 3 _ rfl; (with_reducible repeat (first | refine kN ?_ _ | refine kD ?_ | refine kA ?_ _)); refine blk_put (cs := #[.int .i64 t1192, .int .i64 t1193, .string (⟨#[]⟩ : ByteArray), .slice none 0 0]) ?_ 2 _ rfl; (with_reducible repeat (first | refine kN ?_ _ | refine kD ?_ | refine kA ?_ _)); refine blk_put (cs := #[.int .i64 t1192, .int .i64 0, .string (⟨#[]⟩ : ByteArray), .slice none 0 0]) ?_ 1 _ rfl; (with_reducible repeat (first | refine kN ?_ _ | refine kD ?_ | refine kA ?_ _)); refine blk_put (cs := #[.int .i64 0, .int .i64 0, .string (⟨#[]⟩ : ByteArray), .slice none 0 0]) ?_ 0 _ rfl; (with_reducible repeat (first | refine kN ?_ _ | refine kD ?_ | refine kA ?_ _)); exact BK1198.out) hb); have n12_ := am (below_step (by repeat (first | (with_reducible first | exact HB.out | apply bA | apply bN | apply bD | refine below_set ?_ GE1164.out | refine below_set ?_ GE1165.out | refine below_set ?_ GE1191.out | refine below_set ?_ GE1198.out) | exact HB.out)) hb); clear HO1171; clear HO1174; clear HO1180; clear HO1183; clear HO1187; clear HO1190; clear HO1197; clear BK1164; clear BK1165; clear BK1191; clear BK1198; clear HB; have HO1171 := n0_; have HO1174 := n1_; have HO1180 := n2_; have HO1183 := n3_; have HO1187 := n4_; have HO1190 := n5_; have HO1197 := n6_; have HO1201 := n7_; have BK1164 := n8_; have BK1165 := n9_; have BK1191 := n10_; have BK1198 := n11_; have HB := n12_; clear n0_ n1_ n2_ n3_ n4_ n5_ n6_ n7_ n8_ n9_ n10_ n11_ n12_; have hcz82_0 : w81.cell? ⟨gb1191, 0, none⟩ = some (.slice Ao68 t1185.length co68) := (blk_cell BK1191.out 0).trans rfl; have hcz82_1 : w81.cell? ⟨gb1191, 1, none⟩ = some (.slice Ao72 t1188.length co72) := (blk_cell BK1191.out 1).trans rfl; have hfz82_0 := blk_frozen BK1191.out 0; have hfz82_1 := blk_frozen BK1191.out 1; have hcz83_0 : w81.cell? ⟨gb1198, 0, none⟩ = some (.int .i64 t1192) := (blk_cell BK1198.out 0).trans rfl; have hcz83_1 : w81.cell? ⟨gb1198, 1, none⟩ = some (.int .i64 t1193) := (blk_cell BK1198.out 1).trans rfl; have hcz83_2 : w81.cell? ⟨gb1198, 2, none⟩ = some (.string t1194) := (blk_cell BK1198.out 2).trans rfl; have hcz83_3 : w81.cell? ⟨gb1198, 3, none⟩ = some (.slice Ao80 t1195.length co80) := (blk_cell BK1198.out 3).trans rfl; have hfz83_0 := blk_frozen BK1198.out 0; have hfz83_1 := blk_frozen BK1198.out 1; have hfz83_2 := blk_frozen BK1198.out 2; have hfz83_3 := blk_frozen BK1198.out 3; obtain ⟨Ao84, co84, eo84⟩ := Kd.R_slice HO1201.out; subst eo84) | ((with_reducible refine gate_callee (f := 51) rfl ?_); refine goesL_ (some 44) rfl rfl Try.func51 (by kernel_rfl) rfl #[.agg #[.slice Ao68 t1185.length co68, .slice Ao72 t1188.length co72], .agg #[.int .i64 t1192, .int .i64 t1193, .string t1194, .slice Ao80 t1195.length co80], .slice Ao84 t1199.length co84] rfl (by (try simp only [List.map_toArray, List.map_cons, List.map_nil]); first | done | rfl | (simp only [List.length_drop, List.length_take]; rfl)) ?_; (with_reducible refine (impl_SortOf.calls k _ _ t1185 _ _ t1188 t1192 t1193 t1194 _ _ t1195 _ _ t1199 t1202 _ ?side1 ?side2 ?side3 ?side4 ?side5 ?side6 ?side7 ?side8 A37.out).mono ?_); (case side1 => repeat (first | exact (Kd.R_reads' HO1187.out).2.2 | (with_reducible refine cA ?_ _) | (with_reducible refine cN ?_ _) | (with_reducible refine cD ?_))); (case side2 => exact (Kd.R_reads' HO1187.out).2.1); (case side3 => repeat (first | exact (Kd.S_reads' HO1190.out).2.2 | (with_reducible refine cA ?_ _) | (with_reducible refine cN ?_ _) | (with_reducible refine cD ?_))); (case side4 => exact (Kd.S_reads' HO1190.out).2.1); (case side5 => repeat (first | exact (Kd.R_reads' HO1197.out).2.2 | (with_reducible refine cA ?_ _) | (with_reducible refine cN ?_ _) | (with_reducible refine cD ?_))); (case side6 => exact (Kd.R_reads' HO1197.out).2.1); (case side7 => repeat (first | exact (Kd.R_reads' HO1201.out).2.2 | (with_reducible refine cA ?_ _) | (with_reducible refine cN ?_ _) | (with_reducible refine cD ?_))); (case side8 => exact (Kd.R_reads' HO1201.out).2.1); rintro e w85 ⟨rfl, hb⟩; refine ⟨_, rfl, ?_⟩; have n0_ := am (Kd.R_below (by (with_reducible repeat (first | apply rA | apply rN | apply rD)); exact HO1171.out) hb); have n1_ := am (Kd.S_below (by (with_reducible repeat (first | apply Kd.S_alloc | apply Kd.S_drewN | apply Kd.S_drew)); exact HO1174.out) hb); have n2_ := am (Kd.R_below (by (with_reducible repeat (first | apply rA | apply rN | apply rD)); exact HO1180.out) hb); have n3_ := am (Kd.R_below (by (with_reducible repeat (first | apply rA | apply rN | apply rD)); exact HO1183.out) hb); have n4_ := am (Kd.R_below (by (with_reducible repeat (first | apply rA | apply rN | apply rD)); exact HO1187.out) hb); have n5_ := am (Kd.S_below (by (with_reducible repeat (first | apply Kd.S_alloc | apply Kd.S_drewN | apply Kd.S_drew)); exact HO1190.out) hb); have n6_ := am (Kd.R_below (by (with_reducible repeat (first | apply rA | apply rN | apply rD)); exact HO1197.out) hb); have n7_ := am (Kd.R_below (by (with_reducible repeat (first | apply rA | apply rN | apply rD)); exact HO1201.out) hb); have n8_ := am (blk_below (g := gb1164) (o := .cells #[.slice A0_0 l0_0.length c0_0, .slice A0_1 l0_1.length c0_1] 66 (0, 0)) (by (with_reducible repeat (first | refine kN ?_ _ | refine kD ?_ | refine kA ?_ _)); exact BK1164.out) hb); have n9_ := am (blk_below (g := gb1165) (o := .cells #[.int .i64 a1_0, .int .i64 a1_1, .string a1_2, .slice A1_3 l1_3.length c1_3] 24 (0, 0)) (by (with_reducible repeat (first | refine kN ?_ _ | refine kD ?_ | refine kA ?_ _)); exact BK1165.out) hb); have n10_ := am (blk_below (g := gb1191) (o := .cells #[.slice Ao68 t1185.length co68, .slice Ao72 t1188.length co72] 73 (0, 0)) (by (with_reducible repeat (first | refine kN ?_ _ | refine kD ?_ | refine kA ?_ _)); exact BK1191.out) hb); have n11_ := am (blk_below (g := gb1198) (o := .cells #[.int .i64 t1192, .int .i64 t1193, .string t1194, .slice Ao80 t1195.length co80] 29 (0, 0)) (by (with_reducible repeat (first | refine kN ?_ _ | refine kD ?_ | refine kA ?_ _)); exact BK1198.out) hb); have n12_ := am (below_step (by repeat (first | (with_reducible first | exact HB.out | apply bA | apply bN | apply bD | refine below_set ?_ GE1164.out | refine below_set ?_ GE1165.out | refine below_set ?_ GE1191.out | refine below_set ?_ GE1198.out) | exact HB.out)) hb); clear HO1171; clear HO1174; clear HO1180; clear HO1183; clear HO1187; clear HO1190; clear HO1197; clear HO1201; clear BK1164; clear BK1165; clear BK1191; clear BK1198; clear HB; have HO1171 := n0_; have HO1174 := n1_; have HO1180 := n2_; have HO1183 := n3_; have HO1187 := n4_; have HO1190 := n5_; have HO1197 := n6_; have HO1201 := n7_; have BK1164 := n8_; have BK1165 := n9_; have BK1191 := n10_; have BK1198 := n11_; have HB := n12_; clear n0_ n1_ n2_ n3_ n4_ n5_ n6_ n7_ n8_ n9_ n10_ n11_ n12_))
                have n0_ := am (Kd.R_drew HO1171.out)
                have n1_ := am (Kd.S_drew HO1174.out)
                have n2_ := am (Kd.R_drew HO1180.out)
                have n3_ := am (Kd.R_drew HO1183.out)
                have n4_ := am (Kd.R_drew HO1187.out)
                have n5_ := am (Kd.S_drew HO1190.out)
                have n6_ := am (Kd.R_drew HO1197.out)
                have n7_ := am (Kd.R_drew HO1201.out)
                have n8_ := am (blk_drew BK1164.out)
                have n9_ := am (blk_drew BK1165.out)
                have n10_ := am (blk_drew BK1191.out)
                have n11_ := am (blk_drew BK1198.out)
                have n12_ := am (below_drew1 HB.out)
                clear HO1171
                clear HO1174
                clear HO1180
                clear HO1183
                clear HO1187
                clear HO1190
                clear HO1197
                clear HO1201
                clear BK1164
                clear BK1165
                clear BK1191
                clear BK1198
                clear HB
                have HO1171 := n0_
                have HO1174 := n1_
                have HO1180 := n2_
                have HO1183 := n3_
                have HO1187 := n4_
                have HO1190 := n5_
                have HO1197 := n6_
                have HO1201 := n7_
                have BK1164 := n8_
                have BK1165 := n9_
                have BK1191 := n10_
                have BK1198 := n11_
                have HB := n12_
                clear n0_ n1_ n2_ n3_ n4_ n5_ n6_ n7_ n8_ n9_ n10_ n11_ n12_
                refine start_ (n := 5) (S := fun w' => w'.cell? ⟨gb1191, 0, none⟩ = some (.slice Ao68 t1185.length co68) ∧ w'.cell? ⟨gb1191, 1, none⟩ = some (.slice Ao72 t1188.length co72) ∧ w'.cell? ⟨gb1164, 0, none⟩ = some (.slice A0_0 l0_0.length c0_0) ∧ w'.cell? ⟨gb1164, 1, none⟩ = some (.slice A0_1 l0_1.length c0_1)) (ds := []) #[false, false, false, false, false] (by kernel_rfl) rfl rfl ⟨(blk_cell BK1191.out 0).trans rfl, (blk_cell BK1191.out 1).trans rfl, (blk_cell BK1164.out 0).trans rfl, (blk_cell BK1164.out 1).trans rfl⟩ (fun hHeld => ?_)
                generalize w85.drew = w86 at HO1171 HO1174 HO1180 HO1183 HO1187 HO1190 HO1197 HO1201 BK1164 BK1165 BK1191 BK1198 HB hHeld ⊢
                refine take_ (i := 0) (N := some 48) (v := ?_) (a' := ?_) #[true, false, false, false, false] rfl rfl (by kernel_rfl) (fun _ _ _ h => h) (Or.inl ⟨by rfl, ?_⟩) hHeld ?_ ?_
                rotate_left
                · rintro w' ⟨s0, s1, s2, s3⟩
                  go_simp
                  with_reducible rfl
                rotate_left
                · simp only [Act.put, List.setIfInBounds_toArray, List.set_cons_zero, List.set_cons_succ, i64_w, i32_w]
                  rfl
                refine take_ (i := 1) (N := some 49) (v := ?_) (a' := ?_) #[true, true, false, false, false] rfl rfl (by kernel_rfl) (fun _ _ _ h => h) (Or.inl ⟨by rfl, ?_⟩) hHeld ?_ ?_
                rotate_left
                · rintro w' ⟨s0, s1, s2, s3⟩
                  go_simp
                  with_reducible rfl
                rotate_left
                · simp only [Act.put, List.setIfInBounds_toArray, List.set_cons_zero, List.set_cons_succ, i64_w, i32_w]
                  rfl
                refine one_ (i := 2) (N := some 50) #[true, true, true, false, false] rfl rfl (by kernel_rfl) (by decide) (fun K hK => ?_)
                refine goes_ Try.func49 (by kernel_rfl) rfl #[.agg #[.slice A0_0 l0_0.length c0_0, .slice A0_1 l0_1.length c0_1]] (by rfl) rfl rfl (by (try simp only [List.map_toArray, List.map_cons, List.map_nil]); first | done | rfl | (simp only [List.length_drop, List.length_take]; rfl)) ?_
                with_reducible refine (laws_toSignature.calls k _ _ l0_0 _ _ l0_1 t1203 t1206 _ ?side1 ?side2 ?side3 ?side4 A39.out).mono ?_
                (case side1 => repeat (first | exact (Kd.C_below HR0_0.out HB.out) | (with_reducible refine cA ?_ _) | (with_reducible refine cN ?_ _) | (with_reducible refine cD ?_)))
                (case side2 => exact HC0_0.out)
                (case side3 => repeat (first | exact (Kd.C_below HR0_1.out HB.out) | (with_reducible refine cA ?_ _) | (with_reducible refine cN ?_ _) | (with_reducible refine cD ?_)))
                (case side4 => exact HC0_1.out)
                rintro e w87 ⟨v1204, v1207, rfl, ho0, ho1, hb⟩
                refine ⟨_, rfl, ?_⟩
                have n0_ := am (Kd.R_elder' (by (with_reducible repeat (first | apply rA | apply rN | apply rD)); exact HO1171.out) (Kd.R_base ho0) hb)
                have n1_ := am (Kd.S_mono (Kd.S_told (Kd.S_told (Kd.S_old (by (with_reducible repeat (first | apply Kd.S_alloc | apply Kd.S_drewN | apply Kd.S_drew)); exact HO1174.out) hb) (Kd.R_base ho0)) (Kd.S_base ho1)) (fun _ h_ => h_.1))
                have n2_ := am (Kd.R_below (by (with_reducible repeat (first | apply rA | apply rN | apply rD)); exact HO1180.out) hb)
                have n3_ := am (Kd.R_below (by (with_reducible repeat (first | apply rA | apply rN | apply rD)); exact HO1183.out) hb)
                have n4_ := am (Kd.R_elder' (by (with_reducible repeat (first | apply rA | apply rN | apply rD)); exact HO1187.out) (Kd.R_base ho0) hb)
                have n5_ := am (Kd.S_mono (Kd.S_told (Kd.S_told (Kd.S_old (by (with_reducible repeat (first | apply Kd.S_alloc | apply Kd.S_drewN | apply Kd.S_drew)); exact HO1190.out) hb) (Kd.R_base ho0)) (Kd.S_base ho1)) (fun _ h_ => h_.1))
                have n6_ := am (Kd.R_below (by (with_reducible repeat (first | apply rA | apply rN | apply rD)); exact HO1197.out) hb)
                have n7_ := am (Kd.R_below (by (with_reducible repeat (first | apply rA | apply rN | apply rD)); exact HO1201.out) hb)
                have n8_ := am (Kd.R_lower (Kd.R_new' (Kd.R_new' ho0 (Kd.R_lt (by (with_reducible repeat (first | apply rA | apply rN | apply rD)); exact HO1171.out))) (Kd.R_lt (by (with_reducible repeat (first | apply rA | apply rN | apply rD)); exact HO1187.out))) (below_size (by repeat (first | (with_reducible first | exact HB.out | apply bA | apply bN | apply bD | refine below_set ?_ GE1164.out | refine below_set ?_ GE1165.out | refine below_set ?_ GE1191.out | refine below_set ?_ GE1198.out) | exact HB.out))))
                have n9_ := am (Kd.S_lower (Kd.S_new' (Kd.S_new' (Kd.S_new' (Kd.S_new' ho1 (Kd.R_lt (by (with_reducible repeat (first | apply rA | apply rN | apply rD)); exact HO1171.out))) (Kd.S_lt (by (with_reducible repeat (first | apply Kd.S_alloc | apply Kd.S_drewN | apply Kd.S_drew)); exact HO1174.out))) (Kd.R_lt (by (with_reducible repeat (first | apply rA | apply rN | apply rD)); exact HO1187.out))) (Kd.S_lt (by (with_reducible repeat (first | apply Kd.S_alloc | apply Kd.S_drewN | apply Kd.S_drew)); exact HO1190.out))) (below_size (by repeat (first | (with_reducible first | exact HB.out | apply bA | apply bN | apply bD | refine below_set ?_ GE1164.out | refine below_set ?_ GE1165.out | refine below_set ?_ GE1191.out | refine below_set ?_ GE1198.out) | exact HB.out))))
                have n10_ := am (blk_below (g := gb1164) (o := .cells #[.slice A0_0 l0_0.length c0_0, .slice A0_1 l0_1.length c0_1] 66 (0, 0)) (by (with_reducible repeat (first | refine kN ?_ _ | refine kD ?_ | refine kA ?_ _)); exact BK1164.out) hb)
                have n11_ := am (blk_below (g := gb1165) (o := .cells #[.int .i64 a1_0, .int .i64 a1_1, .string a1_2, .slice A1_3 l1_3.length c1_3] 24 (0, 0)) (by (with_reducible repeat (first | refine kN ?_ _ | refine kD ?_ | refine kA ?_ _)); exact BK1165.out) hb)
                have n12_ := am (blk_below (g := gb1191) (o := .cells #[.slice Ao68 t1185.length co68, .slice Ao72 t1188.length co72] 73 (0, 0)) (by (with_reducible repeat (first | refine kN ?_ _ | refine kD ?_ | refine kA ?_ _)); exact BK1191.out) hb)
                have n13_ := am (blk_below (g := gb1198) (o := .cells #[.int .i64 t1192, .int .i64 t1193, .string t1194, .slice Ao80 t1195.length co80] 29 (0, 0)) (by (with_reducible repeat (first | refine kN ?_ _ | refine kD ?_ | refine kA ?_ _)); exact BK1198.out) hb)
                have n14_ := am (below_step (by repeat (first | (with_reducible first | exact HB.out | apply bA | apply bN | apply bD | refine below_set ?_ GE1164.out | refine below_set ?_ GE1165.out | refine below_set ?_ GE1191.out | refine below_set ?_ GE1198.out) | exact HB.out)) hb)
                clear HO1171
                clear HO1174
                clear HO1180
                clear HO1183
                clear HO1187
                clear HO1190
                clear HO1197
                clear HO1201
                clear BK1164
                clear BK1165
                clear BK1191
                clear BK1198
                clear HB
                have HO1171 := n0_
                have HO1174 := n1_
                have HO1180 := n2_
                have HO1183 := n3_
                have HO1187 := n4_
                have HO1190 := n5_
                have HO1197 := n6_
                have HO1201 := n7_
                have HO1205 := n8_
                have HO1208 := n9_
                have BK1164 := n10_
                have BK1165 := n11_
                have BK1191 := n12_
                have BK1198 := n13_
                have HB := n14_
                clear n0_ n1_ n2_ n3_ n4_ n5_ n6_ n7_ n8_ n9_ n10_ n11_ n12_ n13_ n14_
                (try clear hb)
                (try clear hb2)
                (try clear hk)
                (try clear hi)
                (try clear ho0)
                (try clear ho1)
                obtain ⟨Ao88, co88, eo88⟩ := Kd.R_slice HO1205.out
                (first | subst eo88 | (injection eo88 with f1_ f2_ f3_; have f4_ := f1_.symm; have f5_ := f3_.symm; clear f1_ f2_ f3_; subst f4_; subst f5_))
                obtain ⟨Ao89, co89, eo89⟩ := Kd.S_slice HO1208.out
                (first | subst eo89 | (injection eo89 with f1_ f2_ f3_; have f4_ := f1_.symm; have f5_ := f3_.symm; clear f1_ f2_ f3_; subst f4_; subst f5_))
                refine hK.out _ _ ⟨(blk_cell BK1191.out 0).trans rfl, (blk_cell BK1191.out 1).trans rfl, (blk_cell BK1164.out 0).trans rfl, (blk_cell BK1164.out 1).trans rfl⟩ (fun hHeld => ?_)
                clear hK K
                refine norm_ (a' := ?_) ?_ ?_
                rotate_left
                · show Act.put _ (some 50) _ = _
                  simp only [Act.put, List.setIfInBounds_toArray, List.set_cons_zero, List.set_cons_succ, i64_w, i32_w]
                  rfl
                refine one_ (i := 3) (N := some 51) #[true, true, true, true, false] rfl rfl (by kernel_rfl) (by decide) (fun K hK => ?_)
                refine goes_ Try.func52 (by kernel_rfl) rfl #[.agg #[.slice Ao68 t1185.length co68, .slice Ao72 t1188.length co72], .agg #[.slice Ao88 t1203.length co88, .slice Ao89 t1206.length co89]] (by rfl) rfl rfl (by (try simp only [List.map_toArray, List.map_cons, List.map_nil]); first | done | rfl | (simp only [List.length_drop, List.length_take]; rfl)) ?_
                with_reducible refine (laws_eqSignature.calls k _ _ t1185 _ _ t1188 _ _ t1203 _ _ t1206 true _ ?side1 ?side2 ?side3 ?side4 ?side5 ?side6 ?side7 ?side8 A40.out).mono ?_
                (case side1 => repeat (first | exact (Kd.R_reads' HO1187.out).2.2 | (with_reducible refine cA ?_ _) | (with_reducible refine cN ?_ _) | (with_reducible refine cD ?_)))
                (case side2 => exact (Kd.R_reads' HO1187.out).2.1)
                (case side3 => repeat (first | exact (Kd.S_reads' HO1190.out).2.2 | (with_reducible refine cA ?_ _) | (with_reducible refine cN ?_ _) | (with_reducible refine cD ?_)))
                (case side4 => exact (Kd.S_reads' HO1190.out).2.1)
                (case side5 => repeat (first | exact (Kd.R_reads' HO1205.out).2.2 | (with_reducible refine cA ?_ _) | (with_reducible refine cN ?_ _) | (with_reducible refine cD ?_)))
                (case side6 => exact (Kd.R_reads' HO1205.out).2.1)
                (case side7 => repeat (first | exact (Kd.S_reads' HO1208.out).2.2 | (with_reducible refine cA ?_ _) | (with_reducible refine cN ?_ _) | (with_reducible refine cD ?_)))
                (case side8 => exact (Kd.S_reads' HO1208.out).2.1)
                rintro e w90 ⟨rfl, hb⟩
                refine ⟨_, rfl, ?_⟩
                have n0_ := am (Kd.R_below (by (with_reducible repeat (first | apply rA | apply rN | apply rD)); exact HO1171.out) hb)
                have n1_ := am (Kd.S_below (by (with_reducible repeat (first | apply Kd.S_alloc | apply Kd.S_drewN | apply Kd.S_drew)); exact HO1174.out) hb)
                have n2_ := am (Kd.R_below (by (with_reducible repeat (first | apply rA | apply rN | apply rD)); exact HO1180.out) hb)
                have n3_ := am (Kd.R_below (by (with_reducible repeat (first | apply rA | apply rN | apply rD)); exact HO1183.out) hb)
                have n4_ := am (Kd.R_below (by (with_reducible repeat (first | apply rA | apply rN | apply rD)); exact HO1187.out) hb)
                have n5_ := am (Kd.S_below (by (with_reducible repeat (first | apply Kd.S_alloc | apply Kd.S_drewN | apply Kd.S_drew)); exact HO1190.out) hb)
                have n6_ := am (Kd.R_below (by (with_reducible repeat (first | apply rA | apply rN | apply rD)); exact HO1197.out) hb)
                have n7_ := am (Kd.R_below (by (with_reducible repeat (first | apply rA | apply rN | apply rD)); exact HO1201.out) hb)
                have n8_ := am (Kd.R_below (by (with_reducible repeat (first | apply rA | apply rN | apply rD)); exact HO1205.out) hb)
                have n9_ := am (Kd.S_below (by (with_reducible repeat (first | apply Kd.S_alloc | apply Kd.S_drewN | apply Kd.S_drew)); exact HO1208.out) hb)
                have n10_ := am (blk_below (g := gb1164) (o := .cells #[.slice A0_0 l0_0.length c0_0, .slice A0_1 l0_1.length c0_1] 66 (0, 0)) (by (with_reducible repeat (first | refine kN ?_ _ | refine kD ?_ | refine kA ?_ _)); exact BK1164.out) hb)
                have n11_ := am (blk_below (g := gb1165) (o := .cells #[.int .i64 a1_0, .int .i64 a1_1, .string a1_2, .slice A1_3 l1_3.length c1_3] 24 (0, 0)) (by (with_reducible repeat (first | refine kN ?_ _ | refine kD ?_ | refine kA ?_ _)); exact BK1165.out) hb)
                have n12_ := am (blk_below (g := gb1191) (o := .cells #[.slice Ao68 t1185.length co68, .slice Ao72 t1188.length co72] 73 (0, 0)) (by (with_reducible repeat (first | refine kN ?_ _ | refine kD ?_ | refine kA ?_ _)); exact BK1191.out) hb)
                have n13_ := am (blk_below (g := gb1198) (o := .cells #[.int .i64 t1192, .int .i64 t1193, .string t1194, .slice Ao80 t1195.length co80] 29 (0, 0)) (by (with_reducible repeat (first | refine kN ?_ _ | refine kD ?_ | refine kA ?_ _)); exact BK1198.out) hb)
                have n14_ := am (below_step (by repeat (first | (with_reducible first | exact HB.out | apply bA | apply bN | apply bD | refine below_set ?_ GE1164.out | refine below_set ?_ GE1165.out | refine below_set ?_ GE1191.out | refine below_set ?_ GE1198.out) | exact HB.out)) hb)
                clear HO1171
                clear HO1174
                clear HO1180
                clear HO1183
                clear HO1187
                clear HO1190
                clear HO1197
                clear HO1201
                clear HO1205
                clear HO1208
                clear BK1164
                clear BK1165
                clear BK1191
                clear BK1198
                clear HB
                have HO1171 := n0_
                have HO1174 := n1_
                have HO1180 := n2_
                have HO1183 := n3_
                have HO1187 := n4_
                have HO1190 := n5_
                have HO1197 := n6_
                have HO1201 := n7_
                have HO1205 := n8_
                have HO1208 := n9_
                have BK1164 := n10_
                have BK1165 := n11_
                have BK1191 := n12_
                have BK1198 := n13_
                have HB := n14_
                clear n0_ n1_ n2_ n3_ n4_ n5_ n6_ n7_ n8_ n9_ n10_ n11_ n12_ n13_ n14_
                (try clear hb)
                (try clear hb2)
                (try clear hk)
                (try clear hi)
                refine hK.out _ _ ⟨(blk_cell BK1191.out 0).trans rfl, (blk_cell BK1191.out 1).trans rfl, (blk_cell BK1164.out 0).trans rfl, (blk_cell BK1164.out 1).trans rfl⟩ (fun hHeld => ?_)
                clear hK K
                refine norm_ (a' := ?_) ?_ ?_
                rotate_left
                · show Act.put _ (some 51) _ = _
                  simp only [Act.put, List.setIfInBounds_toArray, List.set_cons_zero, List.set_cons_succ, i64_w, i32_w]
                  rfl
                refine pure_ (i := 4) (N := some 52) (v := ?_) (a' := ?_) #[true, true, true, true, true] rfl rfl (by kernel_rfl) (fun _ _ _ h => h) (Or.inl ⟨by rfl, ?_⟩) ?_ ?_
                rotate_left
                · intro w'
                  go_simp
                  with_reducible rfl
                rotate_left
                · simp only [Act.put, List.setIfInBounds_toArray, List.set_cons_zero, List.set_cons_succ, i64_w, i32_w]
                  rfl
                refine done_ (by kernel_rfl) ?_
                try go_wp2
                have n0_ := am (Kd.R_drew HO1171.out)
                have n1_ := am (Kd.S_drew HO1174.out)
                have n2_ := am (Kd.R_drew HO1180.out)
                have n3_ := am (Kd.R_drew HO1183.out)
                have n4_ := am (Kd.R_drew HO1187.out)
                have n5_ := am (Kd.S_drew HO1190.out)
                have n6_ := am (Kd.R_drew HO1197.out)
                have n7_ := am (Kd.R_drew HO1201.out)
                have n8_ := am (Kd.R_drew HO1205.out)
                have n9_ := am (Kd.S_drew HO1208.out)
                have n10_ := am (blk_drew BK1164.out)
                have n11_ := am (blk_drew BK1165.out)
                have n12_ := am (blk_drew BK1191.out)
                have n13_ := am (blk_drew BK1198.out)
                have n14_ := am (below_drew1 HB.out)
                clear HO1171
                clear HO1174
                clear HO1180
                clear HO1183
                clear HO1187
                clear HO1190
                clear HO1197
                clear HO1201
                clear HO1205
                clear HO1208
                clear BK1164
                clear BK1165
                clear BK1191
                clear BK1198
                clear HB
                have HO1171 := n0_
                have HO1174 := n1_
                have HO1180 := n2_
                have HO1183 := n3_
                have HO1187 := n4_
                have HO1190 := n5_
                have HO1197 := n6_
                have HO1201 := n7_
                have HO1205 := n8_
                have HO1208 := n9_
                have BK1164 := n10_
                have BK1165 := n11_
                have BK1191 := n12_
                have BK1198 := n13_
                have HB := n14_
                clear n0_ n1_ n2_ n3_ n4_ n5_ n6_ n7_ n8_ n9_ n10_ n11_ n12_ n13_ n14_
                refine start_ (n := 5) (S := fun w' => w'.cell? ⟨gb1198, 0, none⟩ = some (.int .i64 t1192) ∧ w'.cell? ⟨gb1198, 1, none⟩ = some (.int .i64 t1193) ∧ w'.cell? ⟨gb1198, 2, none⟩ = some (.string t1194) ∧ w'.cell? ⟨gb1198, 3, none⟩ = some (.slice Ao80 t1195.length co80) ∧ w'.cell? ⟨gb1165, 0, none⟩ = some (.int .i64 a1_0) ∧ w'.cell? ⟨gb1165, 1, none⟩ = some (.int .i64 a1_1) ∧ w'.cell? ⟨gb1165, 2, none⟩ = some (.string a1_2) ∧ w'.cell? ⟨gb1165, 3, none⟩ = some (.slice A1_3 l1_3.length c1_3)) (ds := []) #[false, false, false, false, false] (by kernel_rfl) rfl rfl ⟨(blk_cell BK1198.out 0).trans rfl, (blk_cell BK1198.out 1).trans rfl, (blk_cell BK1198.out 2).trans rfl, (blk_cell BK1198.out 3).trans rfl, (blk_cell BK1165.out 0).trans rfl, (blk_cell BK1165.out 1).trans rfl, (blk_cell BK1165.out 2).trans rfl, (blk_cell BK1165.out 3).trans rfl⟩ (fun hHeld => ?_)
                generalize w90.drew = w91 at HO1171 HO1174 HO1180 HO1183 HO1187 HO1190 HO1197 HO1201 HO1205 HO1208 BK1164 BK1165 BK1191 BK1198 HB hHeld ⊢
                refine take_ (i := 0) (N := some 53) (v := ?_) (a' := ?_) #[true, false, false, false, false] rfl rfl (by kernel_rfl) (fun _ _ _ h => h) (Or.inl ⟨by rfl, ?_⟩) hHeld ?_ ?_
                rotate_left
                · rintro w' ⟨s0, s1, s2, s3, s4, s5, s6, s7⟩
                  go_simp
                  with_reducible rfl
                rotate_left
                · simp only [Act.put, List.setIfInBounds_toArray, List.set_cons_zero, List.set_cons_succ, i64_w, i32_w]
                  rfl
                refine take_ (i := 1) (N := some 54) (v := ?_) (a' := ?_) #[true, true, false, false, false] rfl rfl (by kernel_rfl) (fun _ _ _ h => h) (Or.inl ⟨by rfl, ?_⟩) hHeld ?_ ?_
                rotate_left
                · rintro w' ⟨s0, s1, s2, s3, s4, s5, s6, s7⟩
                  go_simp
                  with_reducible rfl
                rotate_left
                · simp only [Act.put, List.setIfInBounds_toArray, List.set_cons_zero, List.set_cons_succ, i64_w, i32_w]
                  rfl
                refine one_ (i := 2) (N := some 55) #[true, true, true, false, false] rfl rfl (by kernel_rfl) (by decide) (fun K hK => ?_)
                refine goes_ Try.func16 (by kernel_rfl) rfl #[.agg #[.int .i64 a1_0, .int .i64 a1_1, .string a1_2, .slice A1_3 l1_3.length c1_3]] (by rfl) rfl rfl (by (try simp only [List.map_toArray, List.map_cons, List.map_nil]); first | done | rfl | (simp only [List.length_drop, List.length_take]; rfl)) ?_
                with_reducible refine (laws_toTerm.calls k a1_0 a1_1 a1_2 _ _ l1_3 t1210 t1211 t1212 t1213 _ ?side1 ?side2 A42.out).mono ?_
                (case side1 => repeat (first | exact (Kd.C_below HR1_3.out HB.out) | (with_reducible refine cA ?_ _) | (with_reducible refine cN ?_ _) | (with_reducible refine cD ?_)))
                (case side2 => exact HC1_3.out)
                rintro e w92 ⟨v1214, rfl, ho0, hb⟩
                refine ⟨_, rfl, ?_⟩
                have n0_ := am (Kd.R_below (by (with_reducible repeat (first | apply rA | apply rN | apply rD)); exact HO1171.out) hb)
                have n1_ := am (Kd.S_below (by (with_reducible repeat (first | apply Kd.S_alloc | apply Kd.S_drewN | apply Kd.S_drew)); exact HO1174.out) hb)
                have n2_ := am (Kd.R_elder' (by (with_reducible repeat (first | apply rA | apply rN | apply rD)); exact HO1180.out) (Kd.R_base ho0) hb)
                have n3_ := am (Kd.R_below (by (with_reducible repeat (first | apply rA | apply rN | apply rD)); exact HO1183.out) hb)
                have n4_ := am (Kd.R_below (by (with_reducible repeat (first | apply rA | apply rN | apply rD)); exact HO1187.out) hb)
                have n5_ := am (Kd.S_below (by (with_reducible repeat (first | apply Kd.S_alloc | apply Kd.S_drewN | apply Kd.S_drew)); exact HO1190.out) hb)
                have n6_ := am (Kd.R_elder' (by (with_reducible repeat (first | apply rA | apply rN | apply rD)); exact HO1197.out) (Kd.R_base ho0) hb)
                have n7_ := am (Kd.R_below (by (with_reducible repeat (first | apply rA | apply rN | apply rD)); exact HO1201.out) hb)
                have n8_ := am (Kd.R_below (by (with_reducible repeat (first | apply rA | apply rN | apply rD)); exact HO1205.out) hb)
                have n9_ := am (Kd.S_below (by (with_reducible repeat (first | apply Kd.S_alloc | apply Kd.S_drewN | apply Kd.S_drew)); exact HO1208.out) hb)
                have n10_ := am (Kd.R_lower (Kd.R_newB (Kd.R_new' (Kd.R_new' ho0 (Kd.R_lt (by (with_reducible repeat (first | apply rA | apply rN | apply rD)); exact HO1180.out))) (Kd.R_lt (by (with_reducible repeat (first | apply rA | apply rN | apply rD)); exact HO1197.out))) (g := gb1198) (o := .cells #[.int .i64 t1192, .int .i64 t1193, .string t1194, .slice Ao80 t1195.length co80] 29 (0, 0)) (by (with_reducible repeat (first | refine kN ?_ _ | refine kD ?_ | refine kA ?_ _)); exact BK1198.out)) (below_size (by repeat (first | (with_reducible first | exact HB.out | apply bA | apply bN | apply bD | refine below_set ?_ GE1164.out | refine below_set ?_ GE1165.out | refine below_set ?_ GE1191.out | refine below_set ?_ GE1198.out) | exact HB.out))))
                have n11_ := am (blk_below (g := gb1164) (o := .cells #[.slice A0_0 l0_0.length c0_0, .slice A0_1 l0_1.length c0_1] 66 (0, 0)) (by (with_reducible repeat (first | refine kN ?_ _ | refine kD ?_ | refine kA ?_ _)); exact BK1164.out) hb)
                have n12_ := am (blk_below (g := gb1165) (o := .cells #[.int .i64 a1_0, .int .i64 a1_1, .string a1_2, .slice A1_3 l1_3.length c1_3] 24 (0, 0)) (by (with_reducible repeat (first | refine kN ?_ _ | refine kD ?_ | refine kA ?_ _)); exact BK1165.out) hb)
                have n13_ := am (blk_below (g := gb1191) (o := .cells #[.slice Ao68 t1185.length co68, .slice Ao72 t1188.length co72] 73 (0, 0)) (by (with_reducible repeat (first | refine kN ?_ _ | refine kD ?_ | refine kA ?_ _)); exact BK1191.out) hb)
                have n14_ := am (blk_below (g := gb1198) (o := .cells #[.int .i64 t1192, .int .i64 t1193, .string t1194, .slice Ao80 t1195.length co80] 29 (0, 0)) (by (with_reducible repeat (first | refine kN ?_ _ | refine kD ?_ | refine kA ?_ _)); exact BK1198.out) hb)
                have n15_ := am (below_step (by repeat (first | (with_reducible first | exact HB.out | apply bA | apply bN | apply bD | refine below_set ?_ GE1164.out | refine below_set ?_ GE1165.out | refine below_set ?_ GE1191.out | refine below_set ?_ GE1198.out) | exact HB.out)) hb)
                clear HO1171
                clear HO1174
                clear HO1180
                clear HO1183
                clear HO1187
                clear HO1190
                clear HO1197
                clear HO1201
                clear HO1205
                clear HO1208
                clear BK1164
                clear BK1165
                clear BK1191
                clear BK1198
                clear HB
                have HO1171 := n0_
                have HO1174 := n1_
                have HO1180 := n2_
                have HO1183 := n3_
                have HO1187 := n4_
                have HO1190 := n5_
                have HO1197 := n6_
                have HO1201 := n7_
                have HO1205 := n8_
                have HO1208 := n9_
                have HO1215 := n10_
                have BK1164 := n11_
                have BK1165 := n12_
                have BK1191 := n13_
                have BK1198 := n14_
                have HB := n15_
                clear n0_ n1_ n2_ n3_ n4_ n5_ n6_ n7_ n8_ n9_ n10_ n11_ n12_ n13_ n14_ n15_
                (try clear hb)
                (try clear hb2)
                (try clear hk)
                (try clear hi)
                (try clear ho0)
                obtain ⟨Ao93, co93, eo93⟩ := Kd.R_slice HO1215.out
                (first | subst eo93 | (injection eo93 with f1_ f2_ f3_; have f4_ := f1_.symm; have f5_ := f3_.symm; clear f1_ f2_ f3_; subst f4_; subst f5_))
                refine hK.out _ _ ⟨(blk_cell BK1198.out 0).trans rfl, (blk_cell BK1198.out 1).trans rfl, (blk_cell BK1198.out 2).trans rfl, (blk_cell BK1198.out 3).trans rfl, (blk_cell BK1165.out 0).trans rfl, (blk_cell BK1165.out 1).trans rfl, (blk_cell BK1165.out 2).trans rfl, (blk_cell BK1165.out 3).trans rfl⟩ (fun hHeld => ?_)
                clear hK K
                refine norm_ (a' := ?_) ?_ ?_
                rotate_left
                · show Act.put _ (some 55) _ = _
                  simp only [Act.put, List.setIfInBounds_toArray, List.set_cons_zero, List.set_cons_succ, i64_w, i32_w]
                  rfl
                refine one_ (i := 3) (N := some 56) #[true, true, true, true, false] rfl rfl (by kernel_rfl) (by decide) (fun K hK => ?_)
                refine goes_ Try.func19 (by kernel_rfl) rfl #[.agg #[.int .i64 t1192, .int .i64 t1193, .string t1194, .slice Ao80 t1195.length co80], .agg #[.int .i64 t1210, .int .i64 t1211, .string t1212, .slice Ao93 t1213.length co93]] (by rfl) rfl rfl (by (try simp only [List.map_toArray, List.map_cons, List.map_nil]); first | done | rfl | (simp only [List.length_drop, List.length_take]; rfl)) ?_
                with_reducible refine (laws_eqTerm.calls k t1192 t1193 t1194 _ _ t1195 t1210 t1211 t1212 _ _ t1213 true _ ?side1 ?side2 ?side3 ?side4 A43.out).mono ?_
                (case side1 => repeat (first | exact (Kd.R_reads' HO1197.out).2.2 | (with_reducible refine cA ?_ _) | (with_reducible refine cN ?_ _) | (with_reducible refine cD ?_)))
                (case side2 => exact (Kd.R_reads' HO1197.out).2.1)
                (case side3 => repeat (first | exact (Kd.R_reads' HO1215.out).2.2 | (with_reducible refine cA ?_ _) | (with_reducible refine cN ?_ _) | (with_reducible refine cD ?_)))
                (case side4 => exact (Kd.R_reads' HO1215.out).2.1)
                rintro e w94 ⟨rfl, hb⟩
                refine ⟨_, rfl, ?_⟩
                have n0_ := am (Kd.R_below (by (with_reducible repeat (first | apply rA | apply rN | apply rD)); exact HO1171.out) hb)
                have n1_ := am (Kd.S_below (by (with_reducible repeat (first | apply Kd.S_alloc | apply Kd.S_drewN | apply Kd.S_drew)); exact HO1174.out) hb)
                have n2_ := am (Kd.R_below (by (with_reducible repeat (first | apply rA | apply rN | apply rD)); exact HO1180.out) hb)
                have n3_ := am (Kd.R_below (by (with_reducible repeat (first | apply rA | apply rN | apply rD)); exact HO1183.out) hb)
                have n4_ := am (Kd.R_below (by (with_reducible repeat (first | apply rA | apply rN | apply rD)); exact HO1187.out) hb)
                have n5_ := am (Kd.S_below (by (with_reducible repeat (first | apply Kd.S_alloc | apply Kd.S_drewN | apply Kd.S_drew)); exact HO1190.out) hb)
                have n6_ := am (Kd.R_below (by (with_reducible repeat (first | apply rA | apply rN | apply rD)); exact HO1197.out) hb)
                have n7_ := am (Kd.R_below (by (with_reducible repeat (first | apply rA | apply rN | apply rD)); exact HO1201.out) hb)
                have n8_ := am (Kd.R_below (by (with_reducible repeat (first | apply rA | apply rN | apply rD)); exact HO1205.out) hb)
                have n9_ := am (Kd.S_below (by (with_reducible repeat (first | apply Kd.S_alloc | apply Kd.S_drewN | apply Kd.S_drew)); exact HO1208.out) hb)
                have n10_ := am (Kd.R_below (by (with_reducible repeat (first | apply rA | apply rN | apply rD)); exact HO1215.out) hb)
                have n11_ := am (blk_below (g := gb1164) (o := .cells #[.slice A0_0 l0_0.length c0_0, .slice A0_1 l0_1.length c0_1] 66 (0, 0)) (by (with_reducible repeat (first | refine kN ?_ _ | refine kD ?_ | refine kA ?_ _)); exact BK1164.out) hb)
                have n12_ := am (blk_below (g := gb1165) (o := .cells #[.int .i64 a1_0, .int .i64 a1_1, .string a1_2, .slice A1_3 l1_3.length c1_3] 24 (0, 0)) (by (with_reducible repeat (first | refine kN ?_ _ | refine kD ?_ | refine kA ?_ _)); exact BK1165.out) hb)
                have n13_ := am (blk_below (g := gb1191) (o := .cells #[.slice Ao68 t1185.length co68, .slice Ao72 t1188.length co72] 73 (0, 0)) (by (with_reducible repeat (first | refine kN ?_ _ | refine kD ?_ | refine kA ?_ _)); exact BK1191.out) hb)
                have n14_ := am (blk_below (g := gb1198) (o := .cells #[.int .i64 t1192, .int .i64 t1193, .string t1194, .slice Ao80 t1195.length co80] 29 (0, 0)) (by (with_reducible repeat (first | refine kN ?_ _ | refine kD ?_ | refine kA ?_ _)); exact BK1198.out) hb)
                have n15_ := am (below_step (by repeat (first | (with_reducible first | exact HB.out | apply bA | apply bN | apply bD | refine below_set ?_ GE1164.out | refine below_set ?_ GE1165.out | refine below_set ?_ GE1191.out | refine below_set ?_ GE1198.out) | exact HB.out)) hb)
                clear HO1171
                clear HO1174
                clear HO1180
                clear HO1183
                clear HO1187
                clear HO1190
                clear HO1197
                clear HO1201
                clear HO1205
                clear HO1208
                clear HO1215
                clear BK1164
                clear BK1165
                clear BK1191
                clear BK1198
                clear HB
                have HO1171 := n0_
                have HO1174 := n1_
                have HO1180 := n2_
                have HO1183 := n3_
                have HO1187 := n4_
                have HO1190 := n5_
                have HO1197 := n6_
                have HO1201 := n7_
                have HO1205 := n8_
                have HO1208 := n9_
                have HO1215 := n10_
                have BK1164 := n11_
                have BK1165 := n12_
                have BK1191 := n13_
                have BK1198 := n14_
                have HB := n15_
                clear n0_ n1_ n2_ n3_ n4_ n5_ n6_ n7_ n8_ n9_ n10_ n11_ n12_ n13_ n14_ n15_
                (try clear hb)
                (try clear hb2)
                (try clear hk)
                (try clear hi)
                refine hK.out _ _ ⟨(blk_cell BK1198.out 0).trans rfl, (blk_cell BK1198.out 1).trans rfl, (blk_cell BK1198.out 2).trans rfl, (blk_cell BK1198.out 3).trans rfl, (blk_cell BK1165.out 0).trans rfl, (blk_cell BK1165.out 1).trans rfl, (blk_cell BK1165.out 2).trans rfl, (blk_cell BK1165.out 3).trans rfl⟩ (fun hHeld => ?_)
                clear hK K
                refine norm_ (a' := ?_) ?_ ?_
                rotate_left
                · show Act.put _ (some 56) _ = _
                  simp only [Act.put, List.setIfInBounds_toArray, List.set_cons_zero, List.set_cons_succ, i64_w, i32_w]
                  rfl
                refine pure_ (i := 4) (N := some 57) (v := ?_) (a' := ?_) #[true, true, true, true, true] rfl rfl (by kernel_rfl) (fun _ _ _ h => h) (Or.inl ⟨by rfl, ?_⟩) ?_ ?_
                rotate_left
                · intro w'
                  go_simp
                  with_reducible rfl
                rotate_left
                · simp only [Act.put, List.setIfInBounds_toArray, List.set_cons_zero, List.set_cons_succ, i64_w, i32_w]
                  rfl
                refine done_ (by kernel_rfl) ?_
                try go_wp2_with (first | ((with_reducible refine gate_callee (f := 50) rfl ?_); refine goesL_ (some 60) rfl rfl Try.func50 (by kernel_rfl) rfl #[.slice A2 l2.length c2] rfl (by (try simp only [List.map_toArray, List.map_cons, List.map_nil]); first | done | rfl | (simp only [List.length_drop, List.length_take]; rfl)) ?_; (with_reducible refine (laws_toVarSortS.calls k _ _ l2 t1217 _ ?side1 ?side2 A45.out).mono ?_); (case side1 => repeat (first | exact (Kd.C_below HR2.out HB.out) | (with_reducible refine cA ?_ _) | (with_reducible refine cN ?_ _) | (with_reducible refine cD ?_))); (case side2 => exact HC2.out); rintro e w95 ⟨v1218, rfl, ho0, hb⟩; refine ⟨_, rfl, ?_⟩; have n0_ := am (Kd.R_below (by (with_reducible repeat (first | apply rA | apply rN | apply rD)); exact HO1171.out) hb); have n1_ := am (Kd.S_below (by (with_reducible repeat (first | apply Kd.S_alloc | apply Kd.S_drewN | apply Kd.S_drew)); exact HO1174.out) hb); have n2_ := am (Kd.R_below (by (with_reducible repeat (first | apply rA | apply rN | apply rD)); exact HO1180.out) hb); have n3_ := am (Kd.R_elder' (by (with_reducible repeat (first | apply rA | apply rN | apply rD)); exact HO1183.out) (Kd.R_base ho0) hb); have n4_ := am (Kd.R_below (by (with_reducible repeat (first | apply rA | apply rN | apply rD)); exact HO1187.out) hb); have n5_ := am (Kd.S_below (by (with_reducible repeat (first | apply Kd.S_alloc | apply Kd.S_drewN | apply Kd.S_drew)); exact HO1190.out) hb); have n6_ := am (Kd.R_below (by (with_reducible repeat (first | apply rA | apply rN | apply rD)); exact HO1197.out) hb); have n7_ := am (Kd.R_elder' (by (with_reducible repeat (first | apply rA | apply rN | apply rD)); exact HO1201.out) (Kd.R_base ho0) hb); have n8_ := am (Kd.R_below (by (with_reducible repeat (first | apply rA | apply rN | apply rD)); exact HO1205.out) hb); have n9_ := am (Kd.S_below (by (with_reducible repeat (first | apply Kd.S_alloc | apply Kd.S_drewN | apply Kd.S_drew)); exact HO1208.out) hb); have n10_ := am (Kd.R_below (by (with_reducible repeat (first | apply rA | apply rN | apply rD)); exact HO1215.out) hb); have n11_ := am (Kd.R_lower (Kd.R_new' (Kd.R_new' ho0 (Kd.R_lt (by (with_reducible repeat (first | apply rA | apply rN | apply rD)); exact HO1183.out))) (Kd.R_lt (by (with_reducible repeat (first | apply rA | apply rN | apply rD)); exact HO1201.out))) (below_size (by repeat (first | (with_reducible first | exact HB.out | apply bA | apply bN | apply bD | refine below_set ?_ GE1164.out | refine below_set ?_ GE1165.out | refine below_set ?_ GE1191.out | refine below_set ?_ GE1198.out) | exact HB.out)))); have n12_ := am (blk_below (g := gb1164) (o := .cells #[.slice A0_0 l0_0.length c0_0, .slice A0_1 l0_1.length c0_1] 66 (0, 0)) (by (with_reducible repeat (first | refine kN ?_ _ | refine kD ?_ | refine kA ?_ _)); exact BK1164.out) hb); have n13_ := am (blk_below (g := gb1165) (o := .cells #[.int .i64 a1_0, .int .i64 a1_1, .string a1_2, .slice A1_3 l1_3.length c1_3] 24 (0, 0)) (by (with_reducible repeat (first | refine kN ?_ _ | refine kD ?_ | refine kA ?_ _)); exact BK1165.out) hb); have n14_ := am (blk_below (g := gb1191) (o := .cells #[.slice Ao68 t1185.length co68, .slice Ao72 t1188.length co72] 73 (0, 0)) (by (with_reducible repeat (first | refine kN ?_ _ | refine kD ?_ | refine kA ?_ _)); exact BK1191.out) hb); have n15_ := am (blk_below (g := gb1198) (o := .cells #[.int .i64 t1192, .int .i64 t1193, .string t1194, .slice Ao80 t1195.length co80] 29 (0, 0)) (by (with_reducible repeat (first | refine kN ?_ _ | refine kD ?_ | refine kA ?_ _)); exact BK1198.out) hb); have n16_ := am (below_step (by repeat (first | (with_reducible first | exact HB.out | apply bA | apply bN | apply bD | refine below_set ?_ GE1164.out | refine below_set ?_ GE1165.out | refine below_set ?_ GE1191.out | refine below_set ?_ GE1198.out) | exact HB.out)) hb); clear HO1171; clear HO1174; clear HO1180; clear HO1183; clear HO1187; clear HO1190; clear HO1197; clear HO1201; clear HO1205; clear HO1208; clear HO1215; clear BK1164; clear BK1165; clear BK1191; clear BK1198; clear HB; have HO1171 := n0_; have HO1174 := n1_; have HO1180 := n2_; have HO1183 := n3_; have HO1187 := n4_; have HO1190 := n5_; have HO1197 := n6_; have HO1201 := n7_; have HO1205 := n8_; have HO1208 := n9_; have HO1215 := n10_; have HO1219 := n11_; have BK1164 := n12_; have BK1165 := n13_; have BK1191 := n14_; have BK1198 := n15_; have HB := n16_; clear n0_ n1_ n2_ n3_ n4_ n5_ n6_ n7_ n8_ n9_ n10_ n11_ n12_ n13_ n14_ n15_ n16_; obtain ⟨Ao96, co96, eo96⟩ := Kd.R_slice HO1219.out; subst eo96) | ((with_reducible refine gate_callee (f := 53) rfl ?_); refine goesL_ (some 61) rfl rfl Try.func53 (by kernel_rfl) rfl #[.slice Ao84 t1199.length co84, .slice Ao96 t1217.length co96] rfl (by (try simp only [List.map_toArray, List.map_cons, List.map_nil]); first | done | rfl | (simp only [List.length_drop, List.length_take]; rfl)) ?_; (with_reducible refine (laws_eqVarSortS.calls k _ _ t1199 _ _ t1217 true _ ?side1 ?side2 ?side3 ?side4 A46.out).mono ?_); (case side1 => repeat (first | exact (Kd.R_reads' HO1201.out).2.2 | (with_reducible refine cA ?_ _) | (with_reducible refine cN ?_ _) | (with_reducible refine cD ?_))); (case side2 => exact (Kd.R_reads' HO1201.out).2.1); (case side3 => repeat (first | exact (Kd.R_reads' HO1219.out).2.2 | (with_reducible refine cA ?_ _) | (with_reducible refine cN ?_ _) | (with_reducible refine cD ?_))); (case side4 => exact (Kd.R_reads' HO1219.out).2.1); rintro e w97 ⟨rfl, hb⟩; refine ⟨_, rfl, ?_⟩; have n0_ := am (Kd.R_below (by (with_reducible repeat (first | apply rA | apply rN | apply rD)); exact HO1171.out) hb); have n1_ := am (Kd.S_below (by (with_reducible repeat (first | apply Kd.S_alloc | apply Kd.S_drewN | apply Kd.S_drew)); exact HO1174.out) hb); have n2_ := am (Kd.R_below (by (with_reducible repeat (first | apply rA | apply rN | apply rD)); exact HO1180.out) hb); have n3_ := am (Kd.R_below (by (with_reducible repeat (first | apply rA | apply rN | apply rD)); exact HO1183.out) hb); have n4_ := am (Kd.R_below (by (with_reducible repeat (first | apply rA | apply rN | apply rD)); exact HO1187.out) hb); have n5_ := am (Kd.S_below (by (with_reducible repeat (first | apply Kd.S_alloc | apply Kd.S_drewN | apply Kd.S_drew)); exact HO1190.out) hb); have n6_ := am (Kd.R_below (by (with_reducible repeat (first | apply rA | apply rN | apply rD)); exact HO1197.out) hb); have n7_ := am (Kd.R_below (by (with_reducible repeat (first | apply rA | apply rN | apply rD)); exact HO1201.out) hb); have n8_ := am (Kd.R_below (by (with_reducible repeat (first | apply rA | apply rN | apply rD)); exact HO1205.out) hb); have n9_ := am (Kd.S_below (by (with_reducible repeat (first | apply Kd.S_alloc | apply Kd.S_drewN | apply Kd.S_drew)); exact HO1208.out) hb); have n10_ := am (Kd.R_below (by (with_reducible repeat (first | apply rA | apply rN | apply rD)); exact HO1215.out) hb); have n11_ := am (Kd.R_below (by (with_reducible repeat (first | apply rA | apply rN | apply rD)); exact HO1219.out) hb); have n12_ := am (blk_below (g := gb1164) (o := .cells #[.slice A0_0 l0_0.length c0_0, .slice A0_1 l0_1.length c0_1] 66 (0, 0)) (by (with_reducible repeat (first | refine kN ?_ _ | refine kD ?_ | refine kA ?_ _)); exact BK1164.out) hb); have n13_ := am (blk_below (g := gb1165) (o := .cells #[.int .i64 a1_0, .int .i64 a1_1, .string a1_2, .slice A1_3 l1_3.length c1_3] 24 (0, 0)) (by (with_reducible repeat (first | refine kN ?_ _ | refine kD ?_ | refine kA ?_ _)); exact BK1165.out) hb); have n14_ := am (blk_below (g := gb1191) (o := .cells #[.slice Ao68 t1185.length co68, .slice Ao72 t1188.length co72] 73 (0, 0)) (by (with_reducible repeat (first | refine kN ?_ _ | refine kD ?_ | refine kA ?_ _)); exact BK1191.out) hb); have n15_ := am (blk_below (g := gb1198) (o := .cells #[.int .i64 t1192, .int .i64 t1193, .string t1194, .slice Ao80 t1195.length co80] 29 (0, 0)) (by (with_reducible repeat (first | refine kN ?_ _ | refine kD ?_ | refine kA ?_ _)); exact BK1198.out) hb); have n16_ := am (below_step (by repeat (first | (with_reducible first | exact HB.out | apply bA | apply bN | apply bD | refine below_set ?_ GE1164.out | refine below_set ?_ GE1165.out | refine below_set ?_ GE1191.out | refine below_set ?_ GE1198.out) | exact HB.out)) hb); clear HO1171; clear HO1174; clear HO1180; clear HO1183; clear HO1187; clear HO1190; clear HO1197; clear HO1201; clear HO1205; clear HO1208; clear HO1215; clear HO1219; clear BK1164; clear BK1165; clear BK1191; clear BK1198; clear HB; have HO1171 := n0_; have HO1174 := n1_; have HO1180 := n2_; have HO1183 := n3_; have HO1187 := n4_; have HO1190 := n5_; have HO1197 := n6_; have HO1201 := n7_; have HO1205 := n8_; have HO1208 := n9_; have HO1215 := n10_; have HO1219 := n11_; have BK1164 := n12_; have BK1165 := n13_; have BK1191 := n14_; have BK1198 := n15_; have HB := n16_; clear n0_ n1_ n2_ n3_ n4_ n5_ n6_ n7_ n8_ n9_ n10_ n11_ n12_ n13_ n14_ n15_ n16_))
                go_ret
                exact ⟨by first | rfl | (simp [errW_none, errW_some] <;> rfl) | (simp [*, errW_none, errW_some] <;> rfl), by repeat (first | (with_reducible first | exact HB.out | apply bA | apply bN | apply bD | refine below_set ?_ GE1164.out | refine below_set ?_ GE1165.out | refine below_set ?_ GE1191.out | refine below_set ?_ GE1198.out) | exact HB.out)⟩
              · replace c47 := Bool.eq_false_iff.mpr c47
                subst c47
                have H1 : (some false) = some true := by rw [if_neg (show ¬ (false = true) by decide)] at H; exact H
                clear H
                have H := H1
                clear H1
                exact absurd H (by simp)
            · replace c44 := Bool.eq_false_iff.mpr c44
              subst c44
              have H1 : (some false) = some true := by rw [if_neg (show ¬ (false = true) by decide)] at H; exact H
              clear H
              have H := H1
              clear H1
              exact absurd H (by simp)
          · replace c41 := Bool.eq_false_iff.mpr c41
            subst c41
            have H1 : (some false) = some true := by rw [if_neg (show ¬ (false = true) by decide)] at H; exact H
            clear H
            have H := H1
            clear H1
            exact absurd H (by simp)
        · rw [if_neg c38] at H
          have c38b0 : (t1202.toList == t1184.toList) = false := beq_eq_false_iff_ne.mpr c38
          have c38b1 : (t1202.toList != t1184.toList) = true := bne_iff_ne.mpr c38
          exact absurd H (by simp)

end Go.Proofs.Ytdgjddkibiffnaa.F
namespace Go.Proofs.Ytdgjddkibiffnaa.F
open Go.RowKit Go.Proofs.YtdgjddkibiffnaaW.PrintWords Go.Proofs.YtdgjddkibiffnaaW.PrintLast Go.Proofs.YtdgjddkibiffnaaW.PrintMore
attribute [local go_sem] binOp_string_gtr_ binOp_string_geq_ binOp_string_leq_ max2_int min2_int max_two min_two max_three min_three max_four min_four   -- for this text's walks alone
set_option linter.unusedVariables false
set_option linter.unusedSimpArgs false


open Go.Proofs.YtdgjddkibiffnaaW.PrintWords
def G140 (x : S140) : Prop := (x.f0.size ≤ maxLen) ∧ (x.f1.length ≤ maxLen) ∧ (∀ y, y ∈ x.f1 → y.size ≤ maxLen) ∧ (x.f2.size ≤ maxLen)
set_option maxRecDepth 100000 in
theorem open140 {H : Type} {enc : TypeId × Value → H} {w : World} {sp : Nat → Bool} : ∀ (fuel : Nat) (cs : List Value) (x : DataW H × List MemPlace), DataW.trod enc Try.prog w 0 sp true fuel 140 cs = some x → ∃ z, k140.K w z cs ∧ G140 z := by
  intro fuel cs x h
  obtain ⟨xs, n, hfu, rfl, hl, hxl, hf⟩ := DataW.trod_struct Try.underlying140 h
  have hl : cs.length = 3 := hl.trans (by kernel_rfl)
  have hxl : xs.length = 3 := hxl
  obtain ⟨e0, r0, rfl, l0⟩ := list_S hl
  obtain ⟨e1, r1, rfl, l1⟩ := list_S l0
  obtain ⟨e2, r2, rfl, l2⟩ := list_S l1
  obtain rfl := List.eq_nil_of_length_eq_zero l2
  have q0 : DataW.trod enc Try.prog w 0 sp true n 9 [e0] = some (xs[0]'(by omega)) := (hf 0 _ rfl).trans (List.getElem?_eq_getElem (by omega))
  obtain ⟨z0, K0, g0⟩ := Kd.open_string_ Try.underlying9 q0
  obtain ⟨rfl⟩ : e0 = _ := (List.cons.inj K0).1
  have q1 : DataW.trod enc Try.prog w 0 sp true n 63 [e1] = some (xs[1]'(by omega)) := (hf 1 _ rfl).trans (List.getElem?_eq_getElem (by omega))
  obtain ⟨A1, c1, z1, ec1, lc1, mc1, C1, g1⟩ := Kd.open_row (d := Kd.string) (G := (fun y => y.size ≤ maxLen)) Try.underlying63 (by kernel_rfl) q1 (fun n_ cs_ y_ hn_ hy_ => Kd.open_string_ Try.underlying9 hy_)
  obtain ⟨rfl⟩ : e1 = _ := (List.cons.inj ec1).1
  have q2 : DataW.trod enc Try.prog w 0 sp true n 9 [e2] = some (xs[2]'(by omega)) := (hf 2 _ rfl).trans (List.getElem?_eq_getElem (by omega))
  obtain ⟨z2, K2, g2⟩ := Kd.open_string_ Try.underlying9 q2
  obtain ⟨rfl⟩ : e2 = _ := (List.cons.inj K2).1
  exact ⟨(⟨z0, z1, z2⟩ : S140), k140_mk w (⟨z0, z1, z2⟩ : S140) lc1 C1, ⟨g0, (Nat.le_trans lc1 mc1), g1, g2⟩⟩
def G66 (x : S66) : Prop := (x.f0.length ≤ maxLen) ∧ (∀ y, y ∈ x.f0 → y.size ≤ maxLen) ∧ (x.f1.length ≤ maxLen) ∧ (∀ y, y ∈ x.f1 → G140 y)
set_option maxRecDepth 100000 in
theorem open66 {H : Type} {enc : TypeId × Value → H} {w : World} {sp : Nat → Bool} : ∀ (fuel : Nat) (cs : List Value) (x : DataW H × List MemPlace), DataW.trod enc Try.prog w 0 sp true fuel 66 cs = some x → ∃ z, k66.K w z cs ∧ G66 z := by
  intro fuel cs x h
  obtain ⟨xs, n, hfu, rfl, hl, hxl, hf⟩ := DataW.trod_struct Try.underlying66 h
  have hl : cs.length = 2 := hl.trans (by kernel_rfl)
  have hxl : xs.length = 2 := hxl
  obtain ⟨e0, r0, rfl, l0⟩ := list_S hl
  obtain ⟨e1, r1, rfl, l1⟩ := list_S l0
  obtain rfl := List.eq_nil_of_length_eq_zero l1
  have q0 : DataW.trod enc Try.prog w 0 sp true n 63 [e0] = some (xs[0]'(by omega)) := (hf 0 _ rfl).trans (List.getElem?_eq_getElem (by omega))
  obtain ⟨A0, c0, z0, ec0, lc0, mc0, C0, g0⟩ := Kd.open_row (d := Kd.string) (G := (fun y => y.size ≤ maxLen)) Try.underlying63 (by kernel_rfl) q0 (fun n_ cs_ y_ hn_ hy_ => Kd.open_string_ Try.underlying9 hy_)
  obtain ⟨rfl⟩ : e0 = _ := (List.cons.inj ec0).1
  have q1 : DataW.trod enc Try.prog w 0 sp true n 64 [e1] = some (xs[1]'(by omega)) := (hf 1 _ rfl).trans (List.getElem?_eq_getElem (by omega))
  obtain ⟨A1, c1, z1, ec1, lc1, mc1, C1, g1⟩ := Kd.open_row (d := k140) (G := (fun y => G140 y)) Try.underlying64 (by kernel_rfl) q1 (fun n_ cs_ y_ hn_ hy_ => open140 _ _ _ hy_)
  obtain ⟨rfl⟩ : e1 = _ := (List.cons.inj ec1).1
  exact ⟨(⟨z0, z1⟩ : S66), k66_mk w (⟨z0, z1⟩ : S66) lc0 C0 lc1 C1, ⟨(Nat.le_trans lc0 mc0), g0, (Nat.le_trans lc1 mc1), g1⟩⟩
inductive G24 : S24 → Prop
  | mk (x : S24) : ((Lit.int .i64 x.f0).wf = true) → ((Lit.int .i64 x.f1).wf = true) → (x.f2.size ≤ maxLen) → (x.f3.length ≤ maxLen) → (∀ y, y ∈ x.f3 → G24 y) → G24 x
theorem G24.open_ {x : S24} (h : G24 x) : ((Lit.int .i64 x.f0).wf = true) ∧ ((Lit.int .i64 x.f1).wf = true) ∧ (x.f2.size ≤ maxLen) ∧ (x.f3.length ≤ maxLen) ∧ (∀ y, y ∈ x.f3 → G24 y) := by
  cases h with
  | mk _ h0 h1 h2 h3 h4 => exact ⟨h0, h1, h2, h3, h4⟩
set_option maxRecDepth 100000 in
theorem open24 {H : Type} {enc : TypeId × Value → H} {w : World} {sp : Nat → Bool} : ∀ (fuel : Nat) (cs : List Value) (x : DataW H × List MemPlace), DataW.trod enc Try.prog w 0 sp true fuel 24 cs = some x → ∃ z, k24.K w z cs ∧ G24 z := by
  intro fuel
  induction fuel using Nat.strongRecOn with
  | _ fuel ih =>
  intro cs x h
  obtain ⟨xs, n, hfu, rfl, hl, hxl, hf⟩ := DataW.trod_struct Try.underlying24 h
  have hl : cs.length = 4 := hl.trans (by kernel_rfl)
  have hxl : xs.length = 4 := hxl
  obtain ⟨e0, r0, rfl, l0⟩ := list_S hl
  obtain ⟨e1, r1, rfl, l1⟩ := list_S l0
  obtain ⟨e2, r2, rfl, l2⟩ := list_S l1
  obtain ⟨e3, r3, rfl, l3⟩ := list_S l2
  obtain rfl := List.eq_nil_of_length_eq_zero l3
  have q0 : DataW.trod enc Try.prog w 0 sp true n 3 [e0] = some (xs[0]'(by omega)) := (hf 0 _ rfl).trans (List.getElem?_eq_getElem (by omega))
  obtain ⟨z0, K0, g0⟩ := Kd.open_int_ Try.underlying3 q0
  obtain ⟨rfl⟩ : e0 = _ := (List.cons.inj K0).1
  have q1 : DataW.trod enc Try.prog w 0 sp true n 3 [e1] = some (xs[1]'(by omega)) := (hf 1 _ rfl).trans (List.getElem?_eq_getElem (by omega))
  obtain ⟨z1, K1, g1⟩ := Kd.open_int_ Try.underlying3 q1
  obtain ⟨rfl⟩ : e1 = _ := (List.cons.inj K1).1
  have q2 : DataW.trod enc Try.prog w 0 sp true n 9 [e2] = some (xs[2]'(by omega)) := (hf 2 _ rfl).trans (List.getElem?_eq_getElem (by omega))
  obtain ⟨z2, K2, g2⟩ := Kd.open_string_ Try.underlying9 q2
  obtain ⟨rfl⟩ : e2 = _ := (List.cons.inj K2).1
  have q3 : DataW.trod enc Try.prog w 0 sp true n 22 [e3] = some (xs[3]'(by omega)) := (hf 3 _ rfl).trans (List.getElem?_eq_getElem (by omega))
  obtain ⟨A3, c3, z3, ec3, lc3, mc3, C3, g3⟩ := Kd.open_row (d := k24) (G := (fun y => G24 y)) Try.underlying22 (by kernel_rfl) q3 (fun n_ cs_ y_ hn_ hy_ => ih n_ (by omega) _ _ hy_)
  obtain ⟨rfl⟩ : e3 = _ := (List.cons.inj ec3).1
  exact ⟨(⟨z0, z1, z2, z3⟩ : S24), k24_mk w (⟨z0, z1, z2, z3⟩ : S24) lc3 C3, G24.mk _ g0 g1 g2 (Nat.le_trans lc3 mc3) g3⟩
def G113 (x : S113) : Prop := (x.f0.size ≤ maxLen) ∧ (x.f1.size ≤ maxLen)
set_option maxRecDepth 100000 in
theorem open113 {H : Type} {enc : TypeId × Value → H} {w : World} {sp : Nat → Bool} : ∀ (fuel : Nat) (cs : List Value) (x : DataW H × List MemPlace), DataW.trod enc Try.prog w 0 sp true fuel 113 cs = some x → ∃ z, k113.K w z cs ∧ G113 z := by
  intro fuel cs x h
  obtain ⟨xs, n, hfu, rfl, hl, hxl, hf⟩ := DataW.trod_struct Try.underlying113 h
  have hl : cs.length = 2 := hl.trans (by kernel_rfl)
  have hxl : xs.length = 2 := hxl
  obtain ⟨e0, r0, rfl, l0⟩ := list_S hl
  obtain ⟨e1, r1, rfl, l1⟩ := list_S l0
  obtain rfl := List.eq_nil_of_length_eq_zero l1
  have q0 : DataW.trod enc Try.prog w 0 sp true n 9 [e0] = some (xs[0]'(by omega)) := (hf 0 _ rfl).trans (List.getElem?_eq_getElem (by omega))
  obtain ⟨z0, K0, g0⟩ := Kd.open_string_ Try.underlying9 q0
  obtain ⟨rfl⟩ : e0 = _ := (List.cons.inj K0).1
  have q1 : DataW.trod enc Try.prog w 0 sp true n 9 [e1] = some (xs[1]'(by omega)) := (hf 1 _ rfl).trans (List.getElem?_eq_getElem (by omega))
  obtain ⟨z1, K1, g1⟩ := Kd.open_string_ Try.underlying9 q1
  obtain ⟨rfl⟩ : e1 = _ := (List.cons.inj K1).1
  exact ⟨(⟨z0, z1⟩ : S113), k113_mk w (⟨z0, z1⟩ : S113) , ⟨g0, g1⟩⟩
end Go.Proofs.Ytdgjddkibiffnaa.F
/-! Plain words for the pure proofs: numbers of rounds, loops over lists. -/
namespace Go.Proofs.Ytdgjddkibiffnaa.Pu
set_option linter.unusedSimpArgs false
set_option linter.unusedVariables false
open Go.RowKit Go.Proofs.YtdgjddkibiffnaaW.PrintWords
theorem wrap_in {i : Int} (h0 : -9223372036854775808 ≤ i) (h1 : i ≤ 9223372036854775807) : wrap64 i = i := by
  unfold wrap64
  omega
theorem wrap_range (i : Int) : -9223372036854775808 ≤ wrap64 i ∧ wrap64 i ≤ 9223372036854775807 := by
  unfold wrap64
  omega
theorem wrap_succ {i : Nat} (h : i < 9223372036854775807) : wrap64 ((i : Int) + 1) = ((i + 1 : Nat) : Int) := by
  rw [wrap_in (by omega) (by omega)]
  omega
theorem ev_pos {α : Type} {c : Prop} [Decidable c] {a b : Nat → Option α} {r : α} (h : c) (k : Ev a r) : Ev (fun n => if c then a n else b n) r := by
  simp only [if_pos h]
  exact k
theorem ev_neg {α : Type} {c : Prop} [Decidable c] {a b : Nat → Option α} {r : α} (h : ¬ c) (k : Ev b r) : Ev (fun n => if c then a n else b n) r := by
  simp only [if_neg h]
  exact k
theorem ev_ite {α : Type} {c : Prop} [Decidable c] {a b : Nat → Option α} {r : α} (h : c → Ev a r) (k : ¬ c → Ev b r) : Ev (fun n => if c then a n else b n) r := by
  by_cases hc : c
  · exact ev_pos hc (h hc)
  · exact ev_neg hc (k hc)
theorem ev_some {α β : Type} {a : α} {f : Nat → α → Option β} {r : β} (k : Ev (fun n => f n a) r) : Ev (fun n => (some a).bind (f n)) r := k
theorem ev_bind {α β : Type} {g : Nat → Option α} {f : Nat → α → Option β} {a : α} {r : β} (h : Ev g a) (k : Ev (fun n => f n a) r) : Ev (fun n => (g n).bind (f n)) r := Ev.bind h k
theorem ev_bind0 {α β : Type} {g : Option α} {f : Nat → α → Option β} {a : α} {r : β} (h : g = some a) (k : Ev (fun n => f n a) r) : Ev (fun n => g.bind (f n)) r := by
  subst h
  exact k
theorem ev_now {α : Type} {r r' : α} (h : r = r') : Ev (fun _ => some r) r' := by
  subst h
  exact Ev.now _
theorem ev_eq {α : Type} {g g' : Nat → Option α} {r : α} (h : g = g') (k : Ev g' r) : Ev g r := by
  rw [h]
  exact k
/-- What answers twice answers the same. -/
theorem ev_one {α : Type} {g : Nat → Option α} {r r' : α} (h : Ev g r) (h' : Ev g r') : r = r' := by
  obtain ⟨K, h⟩ := h
  obtain ⟨K', h'⟩ := h'
  have h1 := h (max K K') (by omega)
  have h2 := h' (max K K') (by omega)
  rw [h1] at h2
  exact Option.some.inj h2
/-- A loop over n rounds. -/
theorem loop_ev {ρ : Type} (n : Nat) (S : Nat → Nat → Option ρ) (r : ρ) (step : ∀ i, i < n → Ev (S (i + 1)) r → Ev (S i) r) (last : Ev (S n) r) : Ev (S 0) r := by
  have key : ∀ d i, i + d = n → Ev (S i) r := by
    intro d
    induction d with
    | zero => intro i h; obtain rfl : i = n := by omega
              exact last
    | succ d ih => intro i h; exact step i (by omega) (ih (i + 1) (by omega))
  exact key n 0 (by omega)
/-- A loop that may end early: F tells the answer from round i on. -/
theorem loop_to {ρ : Type} (n : Nat) (S : Nat → Nat → Option ρ) (F : Nat → ρ) (step : ∀ i, i < n → Ev (S (i + 1)) (F (i + 1)) → Ev (S i) (F i)) (last : Ev (S n) (F n)) : ∀ i, i ≤ n → Ev (S i) (F i) := by
  have key : ∀ d i, i + d = n → Ev (S i) (F i) := by
    intro d
    induction d with
    | zero => intro i h; obtain rfl : i = n := by omega
              exact last
    | succ d ih => intro i h; exact step i (by omega) (ih (i + 1) (by omega))
  intro i hi
  exact key (n - i) i (by omega)
theorem rdOf_at {α : Type} (z : α) (xs : List α) (i : Nat) (h : i < xs.length) : rdOf z xs (i : Int) = xs[i] := by
  simp [rdOf, List.getD_eq_getElem?_getD, List.getElem?_eq_getElem h]
theorem rd_at (xs : List Int) (i : Nat) (h : i < xs.length) : rd xs (i : Int) = xs[i] := by
  simp [rd, List.getD_eq_getElem?_getD, List.getElem?_eq_getElem h]
/-- A row that is filled from the front. -/
def fillTo {α : Type} (z : α) (xs : List α) (i : Nat) : List α := xs.take i ++ List.replicate (xs.length - i) z
theorem fillTo_length {α : Type} (z : α) (xs : List α) (i : Nat) (h : i ≤ xs.length) : (fillTo z xs i).length = xs.length := by
  simp [fillTo]
  omega
theorem fillTo_zero {α : Type} (z : α) (xs : List α) : fillTo z xs 0 = List.replicate xs.length z := by simp [fillTo]
theorem fillTo_all {α : Type} (z : α) (xs : List α) : fillTo z xs xs.length = xs := by simp [fillTo]
theorem fillTo_set {α : Type} (z : α) (xs : List α) (i : Nat) (h : i < xs.length) : (fillTo z xs i).set i xs[i] = fillTo z xs (i + 1) := by
  apply List.ext_getElem?
  intro j
  by_cases hj : i = j
  · subst hj
    rw [List.getElem?_set_self (by rw [fillTo_length _ _ _ (by omega)]; exact h)]
    unfold fillTo
    rw [List.getElem?_append_left (by simp; omega), List.getElem?_take, if_pos (by omega), List.getElem?_eq_getElem h]
  · rw [List.getElem?_set_ne hj]
    unfold fillTo
    rcases Nat.lt_or_ge j i with h1 | h1
    · rw [List.getElem?_append_left (by rw [List.length_take]; omega), List.getElem?_append_left (by rw [List.length_take]; omega), List.getElem?_take_of_lt h1, List.getElem?_take_of_lt (by omega)]
    · rw [List.getElem?_append_right (by rw [List.length_take]; omega), List.getElem?_append_right (by rw [List.length_take]; omega), List.length_take, List.length_take, Nat.min_eq_left (by omega), Nat.min_eq_left (by omega), List.getElem?_replicate, List.getElem?_replicate]
      by_cases h2 : j < xs.length
      · rw [if_pos (by omega), if_pos (by omega)]
      · rw [if_neg (by omega), if_neg (by omega)]
/-- A row filled place by place. -/
theorem fill_ev {α β : Type} (l : List α) (g : α → β) (z : β) (L : Nat → List β → Int → Option (List β))
    (step : ∀ (i : Nat) (hi : i < l.length) (ys : List β) (r : List β), ys.length = l.length → Ev (fun k => L k (ys.set i (g l[i])) ((i + 1 : Nat) : Int)) r → Ev (fun k => L k ys (i : Int)) r)
    (last : ∀ ys : List β, ys.length = l.length → Ev (fun k => L k ys (l.length : Int)) ys) : Ev (fun k => L k (List.replicate l.length z) 0) (l.map g) := by
  have hm : (l.map g).length = l.length := by simp
  have h := loop_ev l.length (fun i k => L k (fillTo z (l.map g) i) (i : Int)) (l.map g) ?_ ?_
  · simpa [fillTo_zero] using h
  · intro i hi ih
    refine step i hi _ _ (by rw [fillTo_length _ _ _ (by omega)]; omega) ?_
    have e : g l[i] = (l.map g)[i]'(by omega) := by simp
    rw [e, fillTo_set _ _ _ (by omega)]
    exact ih
  · have h := last (fillTo z (l.map g) l.length) (by rw [fillTo_length _ _ _ (by omega)]; omega)
    have e : fillTo z (l.map g) l.length = l.map g := by
      have := fillTo_all z (l.map g)
      rwa [hm] at this
    rw [e] at h
    simpa [e] using h
/-- What a row weighs. -/
def sumW {α : Type} (f : α → Nat) : List α → Nat
  | [] => 0
  | x :: xs => f x + sumW f xs
theorem sumW_mem {α : Type} (f : α → Nat) (l : List α) (i : Nat) (h : i < l.length) : f l[i] ≤ sumW f l := by
  induction l generalizing i with
  | nil => simp at h
  | cons x xs ih =>
    cases i with
    | zero => simp [sumW]
    | succ i => simp only [List.getElem_cons_succ, sumW]; have := ih i (by simpa using h); omega
/-- A weighing loop. -/
theorem szLoop {α : Type} (l : List α) (f : α → Nat) (L : Nat → Int → Int → Option Int)
    (step : ∀ (i : Nat) (hi : i < l.length) (a : Int), 0 ≤ a → a ≤ 1048576 → ∃ r : Int, (r < 0 ∨ (0 ≤ r ∧ r + (f l[i] : Int) ≤ a)) ∧ (r < 0 → Ev (fun k => L k a (i : Int)) (-1)) ∧ ∀ r', 0 ≤ r → Ev (fun k => L k r ((i + 1 : Nat) : Int)) r' → Ev (fun k => L k a (i : Int)) r')
    (last : ∀ a, Ev (fun k => L k a (l.length : Int)) a) : ∀ a : Int, 0 ≤ a → a ≤ 1048576 → ∃ r, Ev (fun k => L k a 0) r ∧ (r < 0 ∨ (0 ≤ r ∧ r + (sumW f l : Int) ≤ a)) := by
  have key : ∀ (d i : Nat) (a : Int), i + d = l.length → 0 ≤ a → a ≤ 1048576 → ∃ r, Ev (fun k => L k a (i : Int)) r ∧ (r < 0 ∨ (0 ≤ r ∧ r + (sumW f (l.drop i) : Int) ≤ a)) := by
    intro d
    induction d with
    | zero =>
      intro i a hd h0 h1
      obtain rfl : i = l.length := by omega
      refine ⟨a, last a, .inr ⟨h0, ?_⟩⟩
      rw [List.drop_length]
      simp [sumW]
    | succ d ih =>
      intro i a hd h0 h1
      have hi : i < l.length := by omega
      obtain ⟨r, hb, hneg, hpos⟩ := step i hi a h0 h1
      by_cases hr : r < 0
      · exact ⟨-1, hneg hr, .inl (by omega)⟩
      · obtain ⟨r', hr', hb'⟩ := ih (i + 1) r (by omega) (by omega) (by omega)
        refine ⟨r', hpos r' (by omega) hr', ?_⟩
        rcases hb' with hb' | hb'
        · exact .inl hb'
        · rw [List.drop_eq_getElem_cons hi]
          simp only [sumW]
          omega
  intro a h0 h1
  have := key l.length 0 a (by omega) h0 h1
  simpa using this
theorem drop_at {α : Type} (l : List α) (i : Nat) (h : i < l.length) : l.drop i = l[i] :: l.drop (i + 1) := List.drop_eq_getElem_cons h
theorem bytes_inj {a b : ByteArray} (h : a.toList = b.toList) : a = b := by
  rw [Lib.toList_data, Lib.toList_data] at h
  cases a
  cases b
  congr 1
  exact Array.toList_inj.1 h
end Go.Proofs.Ytdgjddkibiffnaa.Pu
/-! Rows of strings: sized, copied, compared. -/
namespace Go.Proofs.Ytdgjddkibiffnaa.Pu
set_option linter.unusedSimpArgs false
set_option linter.unusedVariables false
open Go.RowKit Go.Proofs.Ytdgjddkibiffnaa.F Go.Proofs.YtdgjddkibiffnaaW.PrintWords
theorem toStringS_ev (l : List ByteArray) (hl : l.length ≤ 1048576) : Ev (fun k => laws_toStringS.f k l) l := by
  unfold laws_toStringS.f
  refine ev_pos (by omega) (ev_pos (by omega) ?_)
  have h := loop_ev l.length (fun i k => laws_toStringS.l0 k l (fillTo (⟨#[]⟩ : ByteArray) l i) (i : Int)) l ?_ ?_
  · simpa [fillTo_zero] using h
  · intro i hi ih
    refine Ev.step (fun k => by rw [laws_toStringS.l0]) ?_
    refine ev_pos (by omega) (ev_pos (by omega) (ev_pos (by rw [fillTo_length _ _ _ (by omega)]; omega) ?_))
    rw [rdOf_at _ _ _ hi, wrap_succ (by omega), Int.toNat_natCast, fillTo_set _ _ _ hi]
    exact ih
  · refine Ev.step (fun k => by rw [laws_toStringS.l0]) (ev_neg (by omega) (ev_now (fillTo_all _ _)))
theorem eqStringS_refl (l : List ByteArray) (hl : l.length ≤ 9223372036854775806) : Ev (fun k => laws_eqStringS.f k l l) true := by
  unfold laws_eqStringS.f
  refine ev_pos rfl ?_
  refine loop_ev l.length (fun i k => laws_eqStringS.l0 k l l (i : Int)) true ?_ ?_
  · intro i hi ih
    refine Ev.step (fun k => by rw [laws_eqStringS.l0]) ?_
    refine ev_pos (by omega) (ev_pos (by omega) (ev_pos (by omega) (ev_pos rfl ?_)))
    rw [wrap_succ (by omega)]
    exact ih
  · exact Ev.step (fun k => by rw [laws_eqStringS.l0]) (ev_neg (by omega) (Ev.now _))
/-- All the strings' bytes. -/
def bytesAll (l : List ByteArray) : Nat := (l.map ByteArray.size).sum
theorem bytesAll_cons (s : ByteArray) (l : List ByteArray) : bytesAll (s :: l) = s.size + bytesAll l := by simp [bytesAll]
theorem szStringS_loop (l : List ByteArray) (hl : l.length ≤ 1048576) (hs : ∀ s, s ∈ l → s.size ≤ maxLen) (d : Nat) : ∀ (i : Nat) (a : Int), i + d = l.length → 0 ≤ a → a ≤ 1048576 →
    ∃ r, Ev (fun k => laws_szStringS.l0 k l a (i : Int)) r ∧ (r < 0 ∨ (0 ≤ r ∧ r + (bytesAll (l.drop i) : Int) ≤ a)) := by
  induction d with
  | zero =>
    intro i a hd h0 h1
    refine ⟨a, Ev.step (fun k => by rw [laws_szStringS.l0]) (ev_neg (by omega) (Ev.now _)), .inr ⟨h0, ?_⟩⟩
    rw [List.drop_eq_nil_of_le (by omega)]
    simp [bytesAll]
  | succ d ih =>
    intro i a hd h0 h1
    have hi : i < l.length := by omega
    have hz := hs _ (List.getElem_mem hi)
    have hm : maxLen = 9223372036854775807 := rfl
    have hw : wrap64 (a - ((l[i].size : Nat) : Int)) = a - (l[i].size : Int) := wrap_in (by omega) (by omega)
    by_cases hneg : a - (l[i].size : Int) < 0
    · refine ⟨-1, Ev.step (fun k => by rw [laws_szStringS.l0]) ?_, .inl (by omega)⟩
      refine ev_pos (by omega) (ev_pos (by omega) (ev_pos ?_ (Ev.now _)))
      rw [rdOf_at _ _ _ hi, hw]
      exact hneg
    · obtain ⟨r, hr, hb⟩ := ih (i + 1) (a - (l[i].size : Int)) (by omega) (by omega) (by omega)
      refine ⟨r, Ev.step (fun k => by rw [laws_szStringS.l0]) ?_, ?_⟩
      · refine ev_pos (by omega) (ev_pos (by omega) (ev_neg ?_ ?_))
        · rw [rdOf_at _ _ _ hi, hw]
          exact hneg
        · rw [rdOf_at _ _ _ hi, hw, wrap_succ (by omega)]
          exact hr
      · rcases hb with hb | ⟨hb0, hb⟩
        · exact .inl hb
        · refine .inr ⟨hb0, ?_⟩
          rw [List.drop_eq_getElem_cons hi, bytesAll_cons]
          omega
theorem szStringS_ev (l : List ByteArray) (hl : l.length ≤ maxLen) (hs : ∀ s, s ∈ l → s.size ≤ maxLen) (a : Int) (h0 : 0 ≤ a) (h1 : a ≤ 1048576) :
    ∃ r, Ev (fun k => laws_szStringS.f k l a) r ∧ (r < 0 ∨ (0 ≤ r ∧ r + (l.length : Int) + (bytesAll l : Int) ≤ a)) := by
  have hm : maxLen = 9223372036854775807 := rfl
  have hw : wrap64 (a - (l.length : Int)) = a - (l.length : Int) := wrap_in (by omega) (by omega)
  unfold laws_szStringS.f
  by_cases hneg : a - (l.length : Int) < 0
  · refine ⟨-1, ev_pos (by rw [hw]; exact hneg) (Ev.now _), .inl (by omega)⟩
  · obtain ⟨r, hr, hb⟩ := szStringS_loop l (by omega) hs l.length 0 (a - (l.length : Int)) (by omega) (by omega) (by omega)
    refine ⟨r, ev_neg (by rw [hw]; exact hneg) (by rw [hw]; exact hr), ?_⟩
    rcases hb with hb | ⟨hb0, hb⟩
    · exact .inl hb
    · exact .inr ⟨hb0, by rw [List.drop_zero] at hb; omega⟩
end Go.Proofs.Ytdgjddkibiffnaa.Pu
/-! Signatures: sized, copied, compared. -/
namespace Go.Proofs.Ytdgjddkibiffnaa.Pu
set_option linter.unusedSimpArgs false
set_option linter.unusedVariables false
open Go.RowKit Go.Proofs.Ytdgjddkibiffnaa.F Go.Proofs.YtdgjddkibiffnaaW.PrintWords
def convO (z : S140) : S116 := ⟨z.f0, z.f1, z.f2⟩
def wtO (z : S140) : Nat := z.f0.size + (z.f1.length + bytesAll z.f1) + z.f2.size
theorem rdLO_at (xs : List S140) (i : Nat) (h : i < xs.length) : rd_T140 xs (i : Int) = xs[i] := by
  simp [rd_T140, List.getD_eq_getElem?_getD, List.getElem?_eq_getElem h]
theorem rdO_at (xs : List S116) (i : Nat) (h : i < xs.length) : rd_T116 xs (i : Int) = xs[i] := by
  simp [rd_T116, List.getD_eq_getElem?_getD, List.getElem?_eq_getElem h]
theorem szOp_ev (z : S140) (h : G140 z) (a : Int) (h0 : 0 ≤ a) (h1 : a ≤ 1048576) : ∃ r, Ev (fun k => laws_szOp.f k z.f0 z.f1 z.f2 a) r ∧ (r < 0 ∨ (0 ≤ r ∧ r + (wtO z : Int) ≤ a)) := by
  unfold laws_szOp.f
  have hs : z.f0.size ≤ maxLen := h.1
  have hs2 : z.f2.size ≤ maxLen := h.2.2.2
  have hm : maxLen ≤ 9223372036854775807 := by decide
  unfold wtO
  rw [wrap_in (by omega) (by omega)]
  by_cases hn : a - (z.f0.size : Int) < 0
  · exact ⟨-1, ev_pos hn (Ev.now _), .inl (by omega)⟩
  · obtain ⟨r, hr, hb⟩ := szStringS_ev z.f1 h.2.1 h.2.2.1 (a - (z.f0.size : Int)) (by omega) (by omega)
    by_cases hn1 : r < 0
    · exact ⟨-1, ev_neg hn (ev_bind hr (ev_pos hn1 (Ev.now _))), .inl (by omega)⟩
    · by_cases hn2 : r - (z.f2.size : Int) < 0
      · exact ⟨-1, ev_neg hn (ev_bind hr (ev_neg hn1 (by rw [wrap_in (by omega) (by omega)]; exact ev_pos hn2 (Ev.now _)))), .inl (by omega)⟩
      · exact ⟨r - (z.f2.size : Int), ev_neg hn (ev_bind hr (ev_neg hn1 (by rw [wrap_in (by omega) (by omega)]; exact ev_neg hn2 (Ev.now _)))), .inr (by omega)⟩
theorem szOpS_ev (l : List S140) (hl : l.length ≤ maxLen) (h : ∀ y, y ∈ l → G140 y) (a : Int) (h0 : 0 ≤ a) (h1 : a ≤ 1048576) : ∃ r, Ev (fun k => laws_szOpS.f k l a) r ∧ (r < 0 ∨ (0 ≤ r ∧ r + (l.length : Int) + (sumW wtO l : Int) ≤ a)) := by
  unfold laws_szOpS.f
  have hm : maxLen ≤ 9223372036854775807 := by decide
  rw [wrap_in (by omega) (by omega)]
  by_cases hn : a - (l.length : Int) < 0
  · exact ⟨-1, ev_pos hn (Ev.now _), .inl (by omega)⟩
  · have hL := szLoop l wtO (fun k b i => laws_szOpS.l0 k l b i) ?_ ?_ (a - (l.length : Int)) (by omega) (by omega)
    · obtain ⟨r, hr, hb⟩ := hL
      exact ⟨r, ev_neg hn hr, by omega⟩
    · intro i hi b hb0 hb1
      obtain ⟨r, hr, hb⟩ := szOp_ev l[i] (h _ (List.getElem_mem hi)) b hb0 hb1
      refine ⟨r, hb, fun hneg => Ev.step (fun k => by rw [laws_szOpS.l0]) ?_, fun r' hpos hk => Ev.step (fun k => by rw [laws_szOpS.l0]) ?_⟩
      · refine ev_pos (by omega) (ev_pos (by omega) ?_)
        rw [rdLO_at _ _ hi]
        exact ev_bind hr (ev_pos hneg (Ev.now _))
      · refine ev_pos (by omega) (ev_pos (by omega) ?_)
        rw [rdLO_at _ _ hi]
        refine ev_bind hr (ev_neg (by omega) ?_)
        rw [wrap_succ (by omega)]
        exact hk
    · intro b
      exact Ev.step (fun k => by rw [laws_szOpS.l0]) (ev_neg (by omega) (Ev.now _))
theorem szSignature_ev (z : S66) (h : G66 z) (a : Int) (h0 : 0 ≤ a) (h1 : a ≤ 1048576) : ∃ r, Ev (fun k => laws_szSignature.f k z.f0 z.f1 a) r ∧ (r < 0 ∨ (0 ≤ r ∧ r + (z.f0.length + bytesAll z.f0 : Nat) + (z.f1.length : Int) + (sumW wtO z.f1 : Int) ≤ a)) := by
  unfold laws_szSignature.f
  obtain ⟨r, hr, hb⟩ := szStringS_ev z.f0 h.1 h.2.1 a h0 h1
  by_cases hn : r < 0
  · exact ⟨-1, ev_bind hr (ev_pos hn (Ev.now _)), .inl (by omega)⟩
  · obtain ⟨r1, hr1, hb1⟩ := szOpS_ev z.f1 h.2.2.1 h.2.2.2 r (by omega) (by omega)
    by_cases hn1 : r1 < 0
    · exact ⟨-1, ev_bind hr (ev_neg hn (ev_bind hr1 (ev_pos hn1 (Ev.now _)))), .inl (by omega)⟩
    · exact ⟨r1, ev_bind hr (ev_neg hn (ev_bind hr1 (ev_neg hn1 (Ev.now _)))), .inr (by omega)⟩
theorem toOp_ev (z : S140) (h : z.f1.length ≤ 1048576) : Ev (fun k => laws_toOp.f k z.f0 z.f1 z.f2) (z.f0, z.f1, z.f2) := by
  unfold laws_toOp.f
  exact ev_bind (toStringS_ev z.f1 h) (Ev.now _)
theorem toOpS_ev (l : List S140) (hl : l.length ≤ 1048576) (h : ∀ (i : Nat) (hi : i < l.length), l[i].f1.length ≤ 1048576) : Ev (fun k => laws_toOpS.f k l) (l.map convO) := by
  unfold laws_toOpS.f
  refine ev_pos (by omega) (ev_pos (by omega) ?_)
  rw [Int.toNat_natCast]
  refine fill_ev l convO z116 (fun k ys i => laws_toOpS.l0 k l ys i) ?_ ?_
  · intro i hi ys r hy hk
    refine Ev.step (fun k => by rw [laws_toOpS.l0]) (ev_pos (by omega) (ev_pos (by omega) ?_))
    rw [rdLO_at _ _ hi]
    refine ev_bind (toOp_ev l[i] (h i hi)) (ev_pos (by omega) ?_)
    rw [wrap_succ (by omega), Int.toNat_natCast]
    exact hk
  · intro ys hy
    exact Ev.step (fun k => by rw [laws_toOpS.l0]) (ev_neg (by omega) (Ev.now _))
theorem opLen (z : S140) : z.f1.length ≤ wtO z := by unfold wtO; omega
theorem toSignature_ev (z : S66) (h0 : z.f0.length ≤ 1048576) (h1 : z.f1.length ≤ 1048576) (h2 : sumW wtO z.f1 ≤ 1048576) : Ev (fun k => laws_toSignature.f k z.f0 z.f1) (z.f0, z.f1.map convO) := by
  unfold laws_toSignature.f
  refine ev_bind (toStringS_ev z.f0 h0) (ev_bind (toOpS_ev z.f1 h1 (fun i hi => ?_)) (Ev.now _))
  have := sumW_mem wtO z.f1 i hi
  have := opLen z.f1[i]
  omega
theorem eqOp_refl (z : S116) (h : z.f1.length ≤ 9223372036854775806) : Ev (fun k => laws_eqOp.f k z.f0 z.f1 z.f2 z.f0 z.f1 z.f2) true := by
  unfold laws_eqOp.f
  exact ev_pos rfl (ev_bind (eqStringS_refl z.f1 h) (ev_pos rfl (ev_pos rfl (Ev.now _))))
theorem eqOpS_refl (l : List S116) (hl : l.length ≤ 9223372036854775806) (h : ∀ (i : Nat) (hi : i < l.length), l[i].f1.length ≤ 9223372036854775806) : Ev (fun k => laws_eqOpS.f k l l) true := by
  unfold laws_eqOpS.f
  refine ev_pos rfl ?_
  have h := loop_ev l.length (fun i k => laws_eqOpS.l0 k l l (i : Int)) true ?_ ?_
  · simpa using h
  · intro i hi ih
    refine Ev.step (fun k => by rw [laws_eqOpS.l0]) (ev_pos (by omega) (ev_pos (by omega) (ev_pos (by omega) ?_)))
    rw [rdO_at _ _ hi]
    refine ev_bind (eqOp_refl l[i] (h i hi)) (ev_pos rfl ?_)
    rw [wrap_succ (by omega)]
    exact ih
  · exact Ev.step (fun k => by rw [laws_eqOpS.l0]) (ev_neg (by omega) (Ev.now _))
theorem eqSignature_refl (l : List ByteArray) (m : List S116) (hl : l.length ≤ 9223372036854775806) (hm : m.length ≤ 9223372036854775806) (h : ∀ (i : Nat) (hi : i < m.length), m[i].f1.length ≤ 9223372036854775806) : Ev (fun k => laws_eqSignature.f k l m l m) true := by
  unfold laws_eqSignature.f
  exact ev_bind (eqStringS_refl l hl) (ev_pos rfl (ev_bind (eqOpS_refl m hm h) (ev_pos rfl (Ev.now _))))
theorem convO_len (l : List S140) (h : sumW wtO l ≤ 1048576) : ∀ (i : Nat) (hi : i < (l.map convO).length), (l.map convO)[i].f1.length ≤ 1048576 := by
  intro i hi
  rw [List.length_map] at hi
  have := sumW_mem wtO l i hi
  have := opLen l[i]
  rw [List.getElem_map]
  show l[i].f1.length ≤ 1048576
  omega
end Go.Proofs.Ytdgjddkibiffnaa.Pu
/-! An operation is found by its name. -/
namespace Go.Proofs.Ytdgjddkibiffnaa.Pu
set_option linter.unusedSimpArgs false
set_option linter.unusedVariables false
open Go.RowKit Go.Proofs.Ytdgjddkibiffnaa.F Go.Proofs.YtdgjddkibiffnaaW.PrintWords
def wordS : ByteArray := ⟨#[119, 111, 114, 100]⟩
def isB (a : ByteArray) : Bool := if a.toList = ([112, 108, 117, 115] : List UInt8) then true else if a.toList = ([109, 105, 110, 117, 115] : List UInt8) then true else a.toList == ([116, 105, 109, 101, 115] : List UInt8)
theorem impl_isB (a : ByteArray) : impl_IsBuiltin.f a = some (isB a) := by
  unfold impl_IsBuiltin.f isB
  split
  · rfl
  · split <;> rfl
theorem spec_isB (a : ByteArray) : spec_IsBuiltin.f a = some (isB a) := by
  unfold spec_IsBuiltin.f isB
  split
  · rfl
  · split <;> rfl
def findL : List S116 → ByteArray → ByteArray × List ByteArray × ByteArray × Bool
  | [], _ => ((⟨#[]⟩ : ByteArray), [], (⟨#[]⟩ : ByteArray), false)
  | x :: xs, a => if x.f0.toList = a.toList then (x.f0, x.f1, x.f2, true) else findL xs a
def findO (l : List S116) (a : ByteArray) : ByteArray × List ByteArray × ByteArray × Bool := if isB a = true then (a, [wordS, wordS], wordS, true) else findL l a
theorem clone_eq (l : List ByteArray) (h : l.length ≤ 1048576) : slices_Clone_string_string.f l = some l := by
  unfold slices_Clone_string_string.f
  simp only [Option.bind_some, List.length_nil, List.nil_append]
  rw [if_pos (by omega)]
theorem impl_FindOp_ev (s : List ByteArray) (l : List S116) (a : ByteArray) (hl : l.length ≤ 1048576) (h : ∀ (i : Nat) (hi : i < l.length), l[i].f1.length ≤ 1048576) : Ev (fun k => impl_FindOp.f k s l a) (findO l a) := by
  unfold impl_FindOp.f findO
  refine ev_bind0 (impl_isB a) (ev_ite (fun e => ev_now ?_) (fun e => ?_))
  · rw [if_pos e]; rfl
  · rw [if_neg e]
    have h := loop_to l.length (fun i k => impl_FindOp.l0 k a l (l.length : Int) (i : Int)) (fun i => findL (l.drop i) a) ?_ ?_ 0 (by omega)
    · simpa using h
    · intro i hi ih
      refine Ev.step (fun k => by rw [impl_FindOp.l0]) (ev_pos (by omega) (ev_pos (by omega) (ev_pos (by omega) ?_)))
      rw [rdO_at _ _ hi, drop_at _ _ hi]
      simp only [findL]
      refine ev_ite (fun e => ?_) (fun e => ?_)
      · rw [if_pos e]
        refine ev_bind0 (a := (l[i].f0, l[i].f1, l[i].f2)) ?_ (Ev.now _)
        unfold impl_copyOp.f
        rw [clone_eq _ (h i hi)]
        rfl
      · rw [if_neg e, wrap_succ (by omega)]
        exact ih
    · refine Ev.step (fun k => by rw [impl_FindOp.l0]) (ev_neg (by omega) (ev_now ?_))
      rw [List.drop_length]; rfl
theorem spec_FindOp_ev (s : List ByteArray) (l : List S116) (a : ByteArray) (hl : l.length ≤ 1048576) (h : ∀ (i : Nat) (hi : i < l.length), l[i].f1.length ≤ 1048576) : Ev (fun k => spec_FindOp.f k s l a) (findO l a) := by
  unfold spec_FindOp.f findO
  refine ev_bind0 (spec_isB a) (ev_ite (fun e => ev_now ?_) (fun e => ?_))
  · rw [if_pos e]; rfl
  · rw [if_neg e]
    have h := loop_to l.length (fun i k => spec_FindOp.l0 k a (i : Int) s l) (fun i => findL (l.drop i) a) ?_ ?_ 0 (by omega)
    · simpa using h
    · intro i hi ih
      have hh := h i hi
      refine Ev.step (fun k => by rw [spec_FindOp.l0]) (ev_pos (by omega) (ev_pos (by omega) ?_))
      rw [rdO_at _ _ hi, drop_at _ _ hi]
      simp only [findL]
      refine ev_ite (fun e => ?_) (fun e => ?_)
      · rw [if_pos e]
        refine ev_some (ev_pos ?_ (ev_now ?_))
        · simp only [List.length_nil]; omega
        · rfl
      · rw [if_neg e, wrap_succ (by omega)]
        exact ih
    · refine Ev.step (fun k => by rw [spec_FindOp.l0]) (ev_neg (by omega) (ev_now ?_))
      rw [List.drop_length]; rfl
end Go.Proofs.Ytdgjddkibiffnaa.Pu
/-! Variables with their sorts: sized, copied, compared. -/
namespace Go.Proofs.Ytdgjddkibiffnaa.Pu
set_option linter.unusedSimpArgs false
set_option linter.unusedVariables false
open Go.RowKit Go.Proofs.Ytdgjddkibiffnaa.F Go.Proofs.YtdgjddkibiffnaaW.PrintWords
def convV (z : S113) : S120 := ⟨z.f0, z.f1⟩
def wtV (z : S113) : Nat := z.f0.size + z.f1.size
theorem rdLV_at (xs : List S113) (i : Nat) (h : i < xs.length) : rd_T113 xs (i : Int) = xs[i] := by
  simp [rd_T113, List.getD_eq_getElem?_getD, List.getElem?_eq_getElem h]
theorem rdV_at (xs : List S120) (i : Nat) (h : i < xs.length) : rd_T120 xs (i : Int) = xs[i] := by
  simp [rd_T120, List.getD_eq_getElem?_getD, List.getElem?_eq_getElem h]
theorem szVarSort_eq (z : S113) (h : G113 z) (a : Int) (h0 : 0 ≤ a) (h1 : a ≤ 1048576) : ∃ r, laws_szVarSort.f z.f0 z.f1 a = some r ∧ (r < 0 ∨ (0 ≤ r ∧ r + (wtV z : Int) ≤ a)) := by
  unfold laws_szVarSort.f
  have hs : z.f0.size ≤ maxLen := h.1
  have hs2 : z.f1.size ≤ maxLen := h.2
  have hm : maxLen ≤ 9223372036854775807 := by decide
  unfold wtV
  rw [wrap_in (by omega) (by omega)]
  by_cases hn : a - (z.f0.size : Int) < 0
  · exact ⟨-1, if_pos hn, .inl (by omega)⟩
  · rw [if_neg hn, wrap_in (by omega) (by omega)]
    by_cases hn2 : a - (z.f0.size : Int) - (z.f1.size : Int) < 0
    · exact ⟨-1, if_pos hn2, .inl (by omega)⟩
    · exact ⟨_, if_neg hn2, .inr (by omega)⟩
theorem szVarSortS_ev (l : List S113) (hl : l.length ≤ maxLen) (h : ∀ y, y ∈ l → G113 y) (a : Int) (h0 : 0 ≤ a) (h1 : a ≤ 1048576) : ∃ r, Ev (fun k => laws_szVarSortS.f k l a) r ∧ (r < 0 ∨ (0 ≤ r ∧ r + (l.length : Int) + (sumW wtV l : Int) ≤ a)) := by
  unfold laws_szVarSortS.f
  have hm : maxLen ≤ 9223372036854775807 := by decide
  rw [wrap_in (by omega) (by omega)]
  by_cases hn : a - (l.length : Int) < 0
  · exact ⟨-1, ev_pos hn (Ev.now _), .inl (by omega)⟩
  · have hL := szLoop l wtV (fun k b i => laws_szVarSortS.l0 k l b i) ?_ ?_ (a - (l.length : Int)) (by omega) (by omega)
    · obtain ⟨r, hr, hb⟩ := hL
      exact ⟨r, ev_neg hn hr, by omega⟩
    · intro i hi b hb0 hb1
      obtain ⟨r, hr, hb⟩ := szVarSort_eq l[i] (h _ (List.getElem_mem hi)) b hb0 hb1
      refine ⟨r, hb, fun hneg => Ev.step (fun k => by rw [laws_szVarSortS.l0]) ?_, fun r' hpos hk => Ev.step (fun k => by rw [laws_szVarSortS.l0]) ?_⟩
      · refine ev_pos (by omega) (ev_pos (by omega) ?_)
        rw [rdLV_at _ _ hi]
        exact ev_bind0 hr (ev_pos hneg (Ev.now _))
      · refine ev_pos (by omega) (ev_pos (by omega) ?_)
        rw [rdLV_at _ _ hi]
        refine ev_bind0 hr (ev_neg (by omega) ?_)
        rw [wrap_succ (by omega)]
        exact hk
    · intro b
      exact Ev.step (fun k => by rw [laws_szVarSortS.l0]) (ev_neg (by omega) (Ev.now _))
theorem toVarSortS_ev (l : List S113) (hl : l.length ≤ 1048576) : Ev (fun k => laws_toVarSortS.f k l) (l.map convV) := by
  unfold laws_toVarSortS.f
  refine ev_pos (by omega) (ev_pos (by omega) ?_)
  rw [Int.toNat_natCast]
  refine fill_ev l convV z120 (fun k ys i => laws_toVarSortS.l0 k l ys i) ?_ ?_
  · intro i hi ys r hy hk
    refine Ev.step (fun k => by rw [laws_toVarSortS.l0]) (ev_pos (by omega) (ev_pos (by omega) ?_))
    rw [rdLV_at _ _ hi]
    refine ev_bind0 (a := (l[i].f0, l[i].f1)) rfl (ev_pos (by omega) ?_)
    rw [wrap_succ (by omega), Int.toNat_natCast]
    exact hk
  · intro ys hy
    exact Ev.step (fun k => by rw [laws_toVarSortS.l0]) (ev_neg (by omega) (Ev.now _))
theorem eqVarSortS_refl (l : List S120) (hl : l.length ≤ 9223372036854775806) : Ev (fun k => laws_eqVarSortS.f k l l) true := by
  unfold laws_eqVarSortS.f
  refine ev_pos rfl ?_
  have h := loop_ev l.length (fun i k => laws_eqVarSortS.l0 k l l (i : Int)) true ?_ ?_
  · simpa using h
  · intro i hi ih
    refine Ev.step (fun k => by rw [laws_eqVarSortS.l0]) (ev_pos (by omega) (ev_pos (by omega) (ev_pos (by omega) ?_)))
    rw [rdV_at _ _ hi]
    refine ev_bind0 (a := true) ?_ (ev_pos rfl ?_)
    · unfold laws_eqVarSort.f
      rw [if_pos rfl, if_pos rfl]
    · rw [wrap_succ (by omega)]
      exact ih
  · exact Ev.step (fun k => by rw [laws_eqVarSortS.l0]) (ev_neg (by omega) (Ev.now _))
end Go.Proofs.Ytdgjddkibiffnaa.Pu
/-! Terms: sized, copied, compared. -/
namespace Go.Proofs.Ytdgjddkibiffnaa.Pu
set_option linter.unusedSimpArgs false
set_option linter.unusedVariables false
open Go.RowKit Go.Proofs.Ytdgjddkibiffnaa.F Go.Proofs.YtdgjddkibiffnaaW.PrintWords
theorem rdL_at (xs : List S24) (i : Nat) (h : i < xs.length) : rd_T24 xs (i : Int) = xs[i] := by
  simp [rd_T24, List.getD_eq_getElem?_getD, List.getElem?_eq_getElem h]
theorem rdT_at (xs : List S29) (i : Nat) (h : i < xs.length) : rd_T29 xs (i : Int) = xs[i] := by
  simp [rd_T29, List.getD_eq_getElem?_getD, List.getElem?_eq_getElem h]
mutual
/-- The program's term of a law's. -/
def conv : S24 → S29
  | ⟨a, b, c, l⟩ => ⟨a, b, c, convL l⟩
def convL : List S24 → List S29
  | [] => []
  | x :: xs => conv x :: convL xs
end
mutual
/-- How many nodes a law's term has, and how many bytes its names. -/
def wt : S24 → Nat
  | ⟨_, _, c, l⟩ => c.size + wtL l
def wtL : List S24 → Nat
  | [] => 0
  | x :: xs => 1 + wt x + wtL xs
end
mutual
/-- Nodes. -/
def nd : S29 → Nat
  | ⟨_, _, _, l⟩ => 1 + ndL l
def ndL : List S29 → Nat
  | [] => 0
  | x :: xs => nd x + ndL xs
end
theorem convL_length (l : List S24) : (convL l).length = l.length := by
  induction l with
  | nil => rfl
  | cons x xs ih => simp [convL, ih]
theorem convL_at (l : List S24) : ∀ (i : Nat) (h : i < l.length) (h' : i < (convL l).length), (convL l)[i] = conv l[i] := by
  induction l with
  | nil => intro i h; simp at h
  | cons x xs ih =>
    intro i h h'
    cases i with
    | zero => simp [convL]
    | succ i => simp only [convL, List.getElem_cons_succ]; exact ih i (by simpa using h) _
theorem conv_fields (z : S24) : conv z = ⟨z.f0, z.f1, z.f2, convL z.f3⟩ := by
  cases z
  rfl
theorem wtL_mem (l : List S24) (i : Nat) (h : i < l.length) : 1 + wt l[i] ≤ wtL l := by
  induction l generalizing i with
  | nil => simp at h
  | cons x xs ih =>
    cases i with
    | zero => simp [wtL]
    | succ i => simp only [List.getElem_cons_succ, wtL]; have := ih i (by simpa using h); omega
theorem wtL_length (l : List S24) : l.length ≤ wtL l := by
  induction l with
  | nil => simp
  | cons x xs ih => simp [wtL]; omega
theorem wt_fields (z : S24) : wt z = z.f2.size + wtL z.f3 := by
  cases z
  rfl
theorem nd_fields (z : S29) : nd z = 1 + ndL z.f3 := by
  cases z
  rfl
theorem nd_pos (z : S29) : 1 ≤ nd z := by
  rw [nd_fields]; omega
theorem ndL_length (l : List S29) : l.length ≤ ndL l := by
  induction l with
  | nil => simp
  | cons x xs ih => have := nd_pos x; simp [ndL]; omega
theorem ndL_mem (l : List S29) (i : Nat) (h : i < l.length) : nd l[i] ≤ ndL l := by
  induction l generalizing i with
  | nil => simp at h
  | cons x xs ih =>
    cases i with
    | zero => simp [ndL]
    | succ i => simp only [List.getElem_cons_succ, ndL]; have := ih i (by simpa using h); omega
theorem ndL_append (l m : List S29) : ndL (l ++ m) = ndL l + ndL m := by
  induction l with
  | nil => simp [ndL]
  | cons x xs ih => simp [ndL, ih]; omega
theorem ndL_take_succ (l : List S29) (i : Nat) (h : i < l.length) : ndL (l.take (i + 1)) = ndL (l.take i) + nd l[i] := by
  rw [List.take_succ_eq_append_getElem h, ndL_append]
  simp [ndL]
/-- A term's members are smaller: induction over terms. -/
theorem term_ind {P : S29 → Prop} (h : ∀ z : S29, (∀ (i : Nat) (hi : i < z.f3.length), P z.f3[i]) → P z) (z : S29) : P z := by
  have key : ∀ n, ∀ z : S29, nd z ≤ n → P z := by
    intro n
    induction n with
    | zero => intro z hz; have := nd_pos z; omega
    | succ n ih =>
      intro z hz
      refine h z (fun i hi => ih _ ?_)
      have h1 := ndL_mem z.f3 i hi
      have h2 := nd_fields z
      omega
  exact key (nd z) z (Nat.le_refl _)
mutual
def ndl : S24 → Nat
  | ⟨_, _, _, l⟩ => 1 + ndlL l
def ndlL : List S24 → Nat
  | [] => 0
  | x :: xs => ndl x + ndlL xs
end
theorem ndl_fields (z : S24) : ndl z = 1 + ndlL z.f3 := by
  cases z
  rfl
theorem ndlL_mem (l : List S24) (i : Nat) (h : i < l.length) : ndl l[i] ≤ ndlL l := by
  induction l generalizing i with
  | nil => simp at h
  | cons x xs ih =>
    cases i with
    | zero => simp [ndlL]
    | succ i => simp only [List.getElem_cons_succ, ndlL]; have := ih i (by simpa using h); omega
theorem law_ind {P : S24 → Prop} (h : ∀ z : S24, (∀ (i : Nat) (hi : i < z.f3.length), P z.f3[i]) → P z) (z : S24) : P z := by
  have key : ∀ n, ∀ z : S24, ndl z ≤ n → P z := by
    intro n
    induction n with
    | zero => intro z hz; have := ndl_fields z; omega
    | succ n ih =>
      intro z hz
      refine h z (fun i hi => ih _ ?_)
      have h1 := ndlL_mem z.f3 i hi
      have h2 := ndl_fields z
      omega
  exact key (ndl z) z (Nat.le_refl _)
mutual
theorem nd_conv : ∀ z : S24, nd (conv z) ≤ 1 + wt z
  | ⟨a, b, c, l⟩ => by
    have := ndL_conv l
    simp only [conv, nd, wt]
    omega
theorem ndL_conv : ∀ l : List S24, ndL (convL l) ≤ wtL l
  | [] => by simp [convL, ndL, wtL]
  | x :: xs => by
    have h1 := nd_conv x
    have h2 := ndL_conv xs
    simp only [convL, ndL, wtL]
    omega
end
/-! ### toTerm -/
theorem toTermS_of (l : List S24) (hl : l.length ≤ 1048576) (h : ∀ (i : Nat) (hi : i < l.length), Ev (fun k => laws_toTerm.f k l[i].f0 l[i].f1 l[i].f2 l[i].f3) ((conv l[i]).f0, (conv l[i]).f1, (conv l[i]).f2, (conv l[i]).f3)) : Ev (fun k => laws_toTermS.f k l) (convL l) := by
  have hc := convL_length l
  refine Ev.step (fun k => by rw [laws_toTermS.f]) (ev_pos (by omega) (ev_pos (by omega) ?_))
  have h2 := loop_ev l.length (fun i k => laws_toTermS.l0 k l (fillTo z29 (convL l) i) (i : Int)) (convL l) ?_ ?_
  · simpa [fillTo_zero, hc] using h2
  · intro i hi ih
    refine Ev.step (fun k => by rw [laws_toTermS.l0]) ?_
    refine ev_pos (by omega) (ev_pos (by omega) ?_)
    rw [rdL_at _ _ hi]
    refine ev_bind (h i hi) (ev_pos (by rw [fillTo_length _ _ _ (by omega)]; omega) ?_)
    have e : (⟨(conv l[i]).f0, (conv l[i]).f1, (conv l[i]).f2, (conv l[i]).f3⟩ : S29) = (convL l)[i]'(by omega) := by rw [convL_at l i hi]; generalize conv l[i] = z_; cases z_; rfl
    simp only [e]
    rw [wrap_succ (by omega), Int.toNat_natCast, fillTo_set _ _ _ (by omega)]
    exact ih
  · refine Ev.step (fun k => by rw [laws_toTermS.l0]) (ev_neg (by omega) (ev_now ?_))
    rw [← hc]
    exact fillTo_all _ _
theorem toTerm_ev (z : S24) : wt z ≤ 1048576 → Ev (fun k => laws_toTerm.f k z.f0 z.f1 z.f2 z.f3) ((conv z).f0, (conv z).f1, (conv z).f2, (conv z).f3) := by
  induction z using law_ind with
  | h z ih =>
    intro hz
    have h1 := wt_fields z
    have h2 := wtL_length z.f3
    refine Ev.step (fun k => by rw [laws_toTerm.f]) (ev_bind (toTermS_of z.f3 (by omega) (fun i hi => ih i hi ?_)) (ev_now ?_))
    · have := wtL_mem z.f3 i hi
      omega
    · rw [conv_fields]
/-! ### eqTerm -/
theorem eqTermS_of (l : List S29) (hl : l.length ≤ 9223372036854775806) (h : ∀ (i : Nat) (hi : i < l.length), Ev (fun k => laws_eqTerm.f k l[i].f0 l[i].f1 l[i].f2 l[i].f3 l[i].f0 l[i].f1 l[i].f2 l[i].f3) true) : Ev (fun k => laws_eqTermS.f k l l) true := by
  refine Ev.step (fun k => by rw [laws_eqTermS.f]) (ev_pos rfl ?_)
  refine loop_ev l.length (fun i k => laws_eqTermS.l0 k l l (i : Int)) true ?_ ?_
  · intro i hi ih
    refine Ev.step (fun k => by rw [laws_eqTermS.l0]) ?_
    refine ev_pos (by omega) (ev_pos (by omega) (ev_pos (by omega) ?_))
    rw [rdT_at _ _ hi]
    refine ev_bind (h i hi) (ev_pos rfl ?_)
    rw [wrap_succ (by omega)]
    exact ih
  · exact Ev.step (fun k => by rw [laws_eqTermS.l0]) (ev_neg (by omega) (Ev.now _))
theorem eqTerm_refl (z : S29) : nd z ≤ 9223372036854775806 → Ev (fun k => laws_eqTerm.f k z.f0 z.f1 z.f2 z.f3 z.f0 z.f1 z.f2 z.f3) true := by
  induction z using term_ind with
  | h z ih =>
    intro hz
    have h1 := nd_fields z
    have h2 := ndL_length z.f3
    refine Ev.step (fun k => by rw [laws_eqTerm.f]) (ev_pos rfl (ev_pos rfl (ev_pos rfl (ev_bind (eqTermS_of z.f3 (by omega) (fun i hi => ih i hi ?_)) (ev_pos rfl (Ev.now _))))))
    have := ndL_mem z.f3 i hi
    omega
/-! ### szTerm -/
theorem szTermS_loop (l : List S24) (hl : l.length ≤ 1048576) (h : ∀ (i : Nat) (hi : i < l.length) (a : Int), 0 ≤ a → a ≤ 1048576 → ∃ r, Ev (fun k => laws_szTerm.f k l[i].f0 l[i].f1 l[i].f2 l[i].f3 a) r ∧ (r < 0 ∨ (0 ≤ r ∧ r + (wt l[i] : Int) ≤ a))) (d : Nat) :
    ∀ (i : Nat) (a : Int), i + d = l.length → 0 ≤ a → a ≤ 1048576 → ∃ r, Ev (fun k => laws_szTermS.l0 k l a (i : Int)) r ∧ (r < 0 ∨ (0 ≤ r ∧ r + (wtL (l.drop i) : Int) ≤ a + ((l.length - i : Nat) : Int))) := by
  induction d with
  | zero =>
    intro i a hd h0 h1
    refine ⟨a, Ev.step (fun k => by rw [laws_szTermS.l0]) (ev_neg (by omega) (Ev.now _)), .inr ⟨h0, ?_⟩⟩
    rw [List.drop_eq_nil_of_le (by omega)]
    simp [wtL]
    omega
  | succ d ih =>
    intro i a hd h0 h1
    have hi : i < l.length := by omega
    obtain ⟨r1, hr1, hb1⟩ := h i hi a h0 h1
    rcases hb1 with hb1 | ⟨hb1, hb2⟩
    · refine ⟨-1, Ev.step (fun k => by rw [laws_szTermS.l0]) (ev_pos (by omega) (ev_pos (by omega) ?_)), .inl (by omega)⟩
      rw [rdL_at _ _ hi]
      exact ev_bind hr1 (ev_pos hb1 (Ev.now _))
    · obtain ⟨r, hr, hb⟩ := ih (i + 1) r1 (by omega) hb1 (by omega)
      refine ⟨r, Ev.step (fun k => by rw [laws_szTermS.l0]) (ev_pos (by omega) (ev_pos (by omega) ?_)), ?_⟩
      · rw [rdL_at _ _ hi]
        refine ev_bind hr1 (ev_neg (by omega) ?_)
        rw [wrap_succ (by omega)]
        exact hr
      · rcases hb with hb | ⟨hb0, hb⟩
        · exact .inl hb
        · refine .inr ⟨hb0, ?_⟩
          rw [List.drop_eq_getElem_cons hi, wtL]
          omega
theorem szTermS_of (l : List S24) (hl : l.length ≤ maxLen) (h : ∀ (i : Nat) (hi : i < l.length) (a : Int), 0 ≤ a → a ≤ 1048576 → ∃ r, Ev (fun k => laws_szTerm.f k l[i].f0 l[i].f1 l[i].f2 l[i].f3 a) r ∧ (r < 0 ∨ (0 ≤ r ∧ r + (wt l[i] : Int) ≤ a))) (a : Int) (h0 : 0 ≤ a) (h1 : a ≤ 1048576) :
    ∃ r, Ev (fun k => laws_szTermS.f k l a) r ∧ (r < 0 ∨ (0 ≤ r ∧ r + (wtL l : Int) ≤ a)) := by
  have hm : maxLen = 9223372036854775807 := rfl
  have hw : wrap64 (a - (l.length : Int)) = a - (l.length : Int) := wrap_in (by omega) (by omega)
  by_cases hneg : a - (l.length : Int) < 0
  · exact ⟨-1, Ev.step (fun k => by rw [laws_szTermS.f]) (ev_pos (by rw [hw]; exact hneg) (Ev.now _)), .inl (by omega)⟩
  · obtain ⟨r, hr, hb⟩ := szTermS_loop l (by omega) h l.length 0 (a - (l.length : Int)) (by omega) (by omega) (by omega)
    refine ⟨r, Ev.step (fun k => by rw [laws_szTermS.f]) (ev_neg (by rw [hw]; exact hneg) (by rw [hw]; exact hr)), ?_⟩
    rcases hb with hb | ⟨hb0, hb⟩
    · exact .inl hb
    · refine .inr ⟨hb0, ?_⟩
      rw [List.drop_zero] at hb
      omega
theorem szTerm_ev (z : S24) : G24 z → ∀ a : Int, 0 ≤ a → a ≤ 1048576 → ∃ r, Ev (fun k => laws_szTerm.f k z.f0 z.f1 z.f2 z.f3 a) r ∧ (r < 0 ∨ (0 ≤ r ∧ r + (wt z : Int) ≤ a)) := by
  induction z using law_ind with
  | h z ih =>
    intro hg a h0 h1
    obtain ⟨_, _, g2, g3, g4⟩ := hg.open_
    have hm : maxLen = 9223372036854775807 := rfl
    have hw : wrap64 (a - (z.f2.size : Int)) = a - (z.f2.size : Int) := wrap_in (by omega) (by omega)
    have hz := wt_fields z
    by_cases hneg : a - (z.f2.size : Int) < 0
    · exact ⟨-1, Ev.step (fun k => by rw [laws_szTerm.f]) (ev_pos (by rw [hw]; exact hneg) (Ev.now _)), .inl (by omega)⟩
    · obtain ⟨r, hr, hb⟩ := szTermS_of z.f3 g3 (fun i hi a => ih i hi (g4 _ (List.getElem_mem hi)) a) (a - (z.f2.size : Int)) (by omega) (by omega)
      rcases hb with hb | ⟨hb0, hb⟩
      · exact ⟨-1, Ev.step (fun k => by rw [laws_szTerm.f]) (ev_neg (by rw [hw]; exact hneg) (by rw [hw]; exact ev_bind hr (ev_pos hb (Ev.now _)))), .inl (by omega)⟩
      · exact ⟨r, Ev.step (fun k => by rw [laws_szTerm.f]) (ev_neg (by rw [hw]; exact hneg) (by rw [hw]; exact ev_bind hr (ev_neg (by omega) (Ev.now _)))), .inr ⟨hb0, by omega⟩⟩
end Go.Proofs.Ytdgjddkibiffnaa.Pu
/-! The sort of a term. -/
namespace Go.Proofs.Ytdgjddkibiffnaa.Pu
set_option linter.unusedSimpArgs false
set_option linter.unusedVariables false
open Go.RowKit Go.Proofs.Ytdgjddkibiffnaa.F Go.Proofs.YtdgjddkibiffnaaW.PrintWords
def none_ : ByteArray := ⟨#[]⟩
def varL : List S120 → ByteArray → ByteArray
  | [], _ => none_
  | x :: xs, a => if x.f0.toList = a.toList then x.f1 else varL xs a
mutual
def soT (l : List S116) (v : List S120) : S29 → ByteArray
  | ⟨a, _, c, args⟩ => if a = 3 then wordS else if a = 1 then varL v c else if a = 2 then (let o := findO l c; if o.2.2.2 = true ∧ o.2.1.length = args.length then (cond (soL l v args o.2.1) o.2.2.1 none_) else none_) else none_
def soL (l : List S116) (v : List S120) : List S29 → List ByteArray → Bool
  | x :: xs, y :: ys => decide (soT l v x = y) && (decide (¬ y.toList = []) && soL l v xs ys)
  | _, _ => true
end
theorem soT_fields (l : List S116) (v : List S120) (z : S29) : soT l v z = if z.f0 = 3 then wordS else if z.f0 = 1 then varL v z.f2 else if z.f0 = 2 then (if (findO l z.f2).2.2.2 = true ∧ (findO l z.f2).2.1.length = z.f3.length then (cond (soL l v z.f3 (findO l z.f2).2.1) (findO l z.f2).2.2.1 none_) else none_) else none_ := by
  cases z
  simp only [soT]
theorem impl_SortOf_ev (s : List ByteArray) (l : List S116) (v : List S120) (hl : l.length ≤ 1048576) (hv : v.length ≤ 1048576) (h : ∀ (i : Nat) (hi : i < l.length), l[i].f1.length ≤ 1048576) (z : S29) : nd z ≤ 4611686018427387904 → Ev (fun k => impl_SortOf.f k s l z.f0 z.f1 z.f2 z.f3 v) (soT l v z) := by
  induction z using term_ind with
  | h z ih =>
    intro hz
    have h1 := nd_fields z
    have h2 := ndL_length z.f3
    rw [soT_fields]
    refine Ev.step (fun k => by rw [impl_SortOf.f]) ?_
    refine ev_ite (fun e => ev_now (by rw [if_pos e]; rfl)) (fun e => ?_)
    rw [if_neg e]
    refine ev_ite (fun e1 => ?_) (fun e1 => ?_)
    · rw [if_pos e1]
      have h := loop_to v.length (fun i k => impl_SortOf.l0 k v (v.length : Int) (i : Int) z.f0 z.f1 z.f2 z.f3) (fun i => varL (v.drop i) z.f2) ?_ ?_ 0 (by omega)
      · simpa using h
      · intro i hi ih2
        refine Ev.step (fun k => by rw [impl_SortOf.l0]) (ev_pos (by omega) (ev_pos (by omega) (ev_pos (by omega) ?_)))
        rw [rdV_at _ _ hi, drop_at _ _ hi]
        simp only [varL]
        refine ev_ite (fun e => ev_now (by rw [if_pos e])) (fun e => ?_)
        rw [if_neg e, wrap_succ (by omega)]
        exact ih2
      · refine Ev.step (fun k => by rw [impl_SortOf.l0]) (ev_neg (by omega) (ev_now ?_))
        rw [List.drop_length]; rfl
    · rw [if_neg e1]
      refine ev_ite (fun e2 => ?_) (fun e2 => ev_now (by rw [if_neg e2]; rfl))
      rw [if_pos e2]
      have hF := impl_FindOp_ev s l z.f2 hl h
      refine ev_bind hF ?_
      generalize findO l z.f2 = o
      refine ev_ite (fun e3 => ?_) (fun e3 => ?_)
      · by_cases hlen : o.2.1.length = z.f3.length
        · have eb : ((o.2.1.length : Int) != (z.f3.length : Int)) = false := by rw [hlen]; simp
          rw [eb, if_pos ⟨e3, hlen⟩]
          refine Ev.step (fun k => by rw [impl_SortOf.j1]) (ev_neg (by simp) ?_)
          have h := loop_to z.f3.length (fun i k => impl_SortOf.l1 k v z.f3 (z.f3.length : Int) (i : Int) s l o.1 o.2.1 o.2.2.1) (fun i => cond (soL l v (z.f3.drop i) (o.2.1.drop i)) o.2.2.1 none_) ?_ ?_ 0 (by omega)
          · simpa using h
          · intro i hi ih2
            have h3 := ndL_mem z.f3 i hi
            refine Ev.step (fun k => by rw [impl_SortOf.l1]) (ev_pos (by omega) (ev_pos (by omega) (ev_pos (by omega) ?_)))
            rw [rdT_at _ _ hi, rdOf_at _ _ _ (show i < o.2.1.length by omega), drop_at _ _ hi, drop_at _ _ (show i < o.2.1.length by omega)]
            refine ev_bind (ih i hi (by omega)) ?_
            simp only [soL]
            refine ev_ite (fun e4 => ev_now ?_) (fun e4 => ev_pos (by omega) (ev_ite (fun e5 => ?_) (fun e5 => ev_now ?_)))
            · rw [show (decide (soT l v z.f3[i] = o.2.1[i]) && (decide (¬ o.2.1[i].toList = []) && soL l v (z.f3.drop (i + 1)) (o.2.1.drop (i + 1)))) = false from Bool.eq_false_iff.2 (fun hc => by
                simp only [Bool.and_eq_true, decide_eq_true_eq] at hc
                exact hc.2.1 (by rw [← hc.1]; exact e4))]
              rfl
            · have e6 := bytes_inj e5
              rw [e6] at e4
              simp only [e6, decide_true, Bool.true_and, e4, not_false_eq_true, wrap_succ (show i < 9223372036854775807 by omega)]
              exact ih2
            · rw [show (decide (soT l v z.f3[i] = o.2.1[i]) && (decide (¬ o.2.1[i].toList = []) && soL l v (z.f3.drop (i + 1)) (o.2.1.drop (i + 1)))) = false from Bool.eq_false_iff.2 (fun hc => by
                simp only [Bool.and_eq_true, decide_eq_true_eq] at hc
                exact e5 (by rw [hc.1]))]
              rfl
          · refine Ev.step (fun k => by rw [impl_SortOf.l1]) (ev_neg (by omega) (ev_now ?_))
            rw [List.drop_length]
            simp [soL]
        · have eb : ((o.2.1.length : Int) != (z.f3.length : Int)) = true := by simp; omega
          rw [eb, if_neg (fun hc => hlen hc.2)]
          refine Ev.step (fun k => by rw [impl_SortOf.j1]) ?_
          exact ev_pos rfl (Ev.now _)
      · rw [if_neg (fun hc => e3 hc.1)]
        refine Ev.step (fun k => by rw [impl_SortOf.j1]) ?_
        exact ev_pos rfl (Ev.now _)
theorem spec_Var_ev (v : List S120) (a : ByteArray) (hv : v.length ≤ 1048576) : Ev (fun k => spec_l6Var.f k v a) (varL v a) := by
  unfold spec_l6Var.f
  have h := loop_to v.length (fun i k => spec_l6Var.l0 k v a (i : Int)) (fun i => varL (v.drop i) a) ?_ ?_ 0 (by omega)
  · simpa using h
  · intro i hi ih2
    refine Ev.step (fun k => by rw [spec_l6Var.l0]) (ev_pos (by omega) (ev_pos (by omega) ?_))
    rw [rdV_at _ _ hi, drop_at _ _ hi]
    simp only [varL]
    refine ev_ite (fun e => ev_now (by rw [if_pos e])) (fun e => ?_)
    rw [if_neg e, wrap_succ (by omega)]
    exact ih2
  · refine Ev.step (fun k => by rw [spec_l6Var.l0]) (ev_neg (by omega) (ev_now ?_))
    rw [List.drop_length]; rfl
theorem spec_SortOf_ev (s : List ByteArray) (l : List S116) (v : List S120) (hl : l.length ≤ 1048576) (hv : v.length ≤ 1048576) (h : ∀ (i : Nat) (hi : i < l.length), l[i].f1.length ≤ 1048576) (z : S29) : nd z ≤ 4611686018427387904 → Ev (fun k => spec_SortOf.f k s l z.f0 z.f1 z.f2 z.f3 v) (soT l v z) := by
  induction z using term_ind with
  | h z ih =>
    intro hz
    have h1 := nd_fields z
    have h2 := ndL_length z.f3
    rw [soT_fields]
    refine Ev.step (fun k => by rw [spec_SortOf.f]) ?_
    refine ev_ite (fun e => ev_now (by rw [if_pos e]; rfl)) (fun e => ?_)
    rw [if_neg e]
    refine ev_ite (fun e1 => ?_) (fun e1 => ?_)
    · rw [if_pos e1]
      exact ev_bind (spec_Var_ev v z.f2 hv) (Ev.now _)
    · rw [if_neg e1]
      refine ev_ite (fun e2 => ?_) (fun e2 => ev_now (by rw [if_neg e2]; rfl))
      rw [if_pos e2]
      have hF := spec_FindOp_ev s l z.f2 hl h
      refine ev_bind hF ?_
      generalize findO l z.f2 = o
      refine ev_ite (fun e3 => ?_) (fun e3 => ?_)
      · by_cases hlen : o.2.1.length = z.f3.length
        · have eb : ((o.2.1.length : Int) != (z.f3.length : Int)) = false := by rw [hlen]; simp
          rw [eb, if_pos ⟨e3, hlen⟩]
          refine Ev.step (fun k => by rw [spec_SortOf.j0]) (ev_neg (by simp) ?_)
          have h := loop_to z.f3.length (fun i k => spec_SortOf.l0 k v (i : Int) s l z.f0 z.f1 z.f2 z.f3 o.1 o.2.1 o.2.2.1) (fun i => cond (soL l v (z.f3.drop i) (o.2.1.drop i)) o.2.2.1 none_) ?_ ?_ 0 (by omega)
          · simpa using h
          · intro i hi ih2
            have h3 := ndL_mem z.f3 i hi
            refine Ev.step (fun k => by rw [spec_SortOf.l0]) (ev_pos (by omega) (ev_pos (by omega) ?_))
            rw [rdT_at _ _ hi, rdOf_at _ _ _ (show i < o.2.1.length by omega), drop_at _ _ hi, drop_at _ _ (show i < o.2.1.length by omega)]
            refine ev_bind (ih i hi (by omega)) (ev_pos (by omega) ?_)
            simp only [soL]
            refine ev_ite (fun e5 => ?_) (fun e5 => ev_now ?_)
            · have e6 := bytes_inj e5
              refine ev_ite (fun e4 => ev_now ?_) (fun e4 => ?_)
              · rw [show (decide (soT l v z.f3[i] = o.2.1[i]) && (decide (¬ o.2.1[i].toList = []) && soL l v (z.f3.drop (i + 1)) (o.2.1.drop (i + 1)))) = false from Bool.eq_false_iff.2 (fun hc => by
                  simp only [Bool.and_eq_true, decide_eq_true_eq] at hc
                  exact hc.2.1 e4)]
                rfl
              · simp only [e6, decide_true, Bool.true_and, e4, not_false_eq_true, wrap_succ (show i < 9223372036854775807 by omega)]
                exact ih2
            · rw [show (decide (soT l v z.f3[i] = o.2.1[i]) && (decide (¬ o.2.1[i].toList = []) && soL l v (z.f3.drop (i + 1)) (o.2.1.drop (i + 1)))) = false from Bool.eq_false_iff.2 (fun hc => by
                simp only [Bool.and_eq_true, decide_eq_true_eq] at hc
                exact e5 (by rw [hc.1]))]
              rfl
          · refine Ev.step (fun k => by rw [spec_SortOf.l0]) (ev_neg (by omega) (ev_now ?_))
            rw [List.drop_length]
            simp [soL]
        · have eb : ((o.2.1.length : Int) != (z.f3.length : Int)) = true := by simp; omega
          rw [eb, if_neg (fun hc => hlen hc.2)]
          refine Ev.step (fun k => by rw [spec_SortOf.j0]) ?_
          exact ev_pos rfl (Ev.now _)
      · rw [if_neg (fun hc => e3 hc.1)]
        refine Ev.step (fun k => by rw [spec_SortOf.j0]) ?_
        exact ev_pos rfl (Ev.now _)
end Go.Proofs.Ytdgjddkibiffnaa.Pu
namespace Go.Proofs.Ytdgjddkibiffnaa.Pure
set_option linter.unusedSimpArgs false
set_option linter.unusedVariables false
open Go.RowKit Go.Proofs.Ytdgjddkibiffnaa.F Go.Proofs.Ytdgjddkibiffnaa.Pu Go.Proofs.YtdgjddkibiffnaaW.PrintWords Go.Proofs.YtdgjddkibiffnaaW.PrintLast

theorem FnExactSortOf : ∀ (z0 : S66) (z1 : S24) (z2 : List (S113)), (G66 z0) → (G24 z1) → (z2.length ≤ maxLen ∧ ∀ y, y ∈ z2 → G113 y) → ∃ k, laws_FnExactSortOf.f k z0.f0 z0.f1 z1.f0 z1.f1 z1.f2 z1.f3 z2 = some true := by
  intro s z v hG hG1 hG2
  refine Ev.rounds ?_
  unfold laws_FnExactSortOf.f
  obtain ⟨r, hr, hb⟩ := szSignature_ev s hG 1048576 (by omega) (by omega)
  refine ev_bind hr (ev_ite (fun _ => Ev.now _) (fun hn => ?_))
  obtain ⟨r1, hr1, hb1⟩ := szTerm_ev z hG1 r (by omega) (by omega)
  refine ev_bind hr1 (ev_ite (fun _ => Ev.now _) (fun hn1 => ?_))
  obtain ⟨r2, hr2, hb2⟩ := szVarSortS_ev v hG2.1 hG2.2 r1 (by omega) (by omega)
  refine ev_bind hr2 (ev_ite (fun _ => Ev.now _) (fun hn2 => ?_))
  have hS := toSignature_ev s (by omega) (by omega) (by omega)
  have hT := toTerm_ev z (by omega)
  have hV := toVarSortS_ev v (by omega)
  have hnd := nd_conv z
  have hl : (s.f1.map convO).length = s.f1.length := by simp
  have hvl : (v.map convV).length = v.length := by simp
  have ho := convO_len s.f1 (by omega)
  have hES := eqSignature_refl s.f0 (s.f1.map convO) (by omega) (by omega) (fun i hi => by have := ho i hi; omega)
  have hET := eqTerm_refl (conv z) (by omega)
  have hEV := eqVarSortS_refl (v.map convV) (by omega)
  have h1 := spec_SortOf_ev s.f0 (s.f1.map convO) (v.map convV) (by omega) (by omega) ho (conv z) (by omega)
  have h2 := impl_SortOf_ev s.f0 (s.f1.map convO) (v.map convV) (by omega) (by omega) ho (conv z) (by omega)
  refine ev_bind hS (ev_bind hT (ev_bind hV (ev_bind h1 (ev_bind hS (ev_bind hT (ev_bind hV (ev_bind h2 (ev_pos rfl (ev_bind hS (ev_bind hES (ev_pos rfl ?_)))))))))))
  exact ev_bind hT (ev_bind hET (ev_pos rfl (ev_bind hV (ev_bind hEV (ev_pos rfl (Ev.now _))))))
end Go.Proofs.Ytdgjddkibiffnaa.Pure
